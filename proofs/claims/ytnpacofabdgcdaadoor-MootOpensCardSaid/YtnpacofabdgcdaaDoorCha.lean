/- The stream's block: what the program and the document compute; no condition but those in the statements. -/
import Derived.Test.YtnpacofabdgcdaaDoorWords
import Derived.Test.YtnpacofabdgcdaaDoorBytes
namespace Go.Proofs.YtnpacofabdgcdaaDoor
open Go Go.V
set_option linter.unusedSimpArgs false
set_option linter.unusedVariables false
set_option maxRecDepth 100000
/-- A word of four bytes, the lowest one first. -/
def le4 (l : List Nat) (i : Nat) : Nat := l.getD i 0 + 256 * l.getD (i + 1) 0 + 65536 * l.getD (i + 2) 0 + 16777216 * l.getD (i + 3) 0
theorem le4_lt {l : List Nat} (hb : ∀ x ∈ l, x < 256) (i : Nat) : le4 l i < 4294967296 := by
  have b0 := getD_byte hb i
  have b1 := getD_byte hb (i + 1)
  have b2 := getD_byte hb (i + 2)
  have b3 := getD_byte hb (i + 3)
  unfold le4; omega
theorem le4_drop (l : List Nat) (k : Nat) : le4 (l.drop k) 0 = le4 l k := by
  unfold le4
  simp only [List.getD_eq_getElem?_getD, List.getElem?_drop, Nat.add_zero, Nat.zero_add]
theorem fourLow_ok (T : World) (h : Hp) (v : Value) (l : List Nat) (s : Bs h v l) (i : Nat) (hi : i + 4 ≤ l.length) (hl : l.length ≤ 140737488355328) :
    CallsH Tryd.prog T 224 #[v, .int .i64 i] h fun v' h' => v' = .int .i64 (le4 l i : Nat) ∧ h' = h := by
  obtain ⟨p, c, rfl, hc1⟩ := s.opend
  obtain ⟨b, o, rfl, hb, hcs⟩ := hc1 (by intro e; subst e; simp at hi)
  refine CallsH.of_code' (args := [_, _]) Tryd.func224 rfl rfl rfl rfl ?_
  have e0 := hcs i (by omega)
  have e1 := hcs (i + 1) (by omega)
  have e2 := hcs (i + 2) (by omega)
  have e3 := hcs (i + 3) (by omega)
  have b0 := getD_byte s.byte i
  have b1 := getD_byte s.byte (i + 1)
  have b2 := getD_byte s.byte (i + 2)
  have b3 := getD_byte s.byte (i + 3)
  have t1 : ((i : Int) + 1).toNat = i + 1 := by omega
  have t2 : ((i : Int) + 2).toNat = i + 2 := by omega
  have t3 : ((i : Int) + 3).toNat = i + 3 := by omega
  simp (config := {contextual := true, maxSteps := 2000000, implicitDefEqProofs := false}) only [go_sem, ↓reduceIte, Nat.reduceEqDiff, Nat.reduceAdd, Nat.reduceMul, Nat.reduceLeDiff, Nat.reduceLT, Nat.reduceSub, IntWalk.iteOmega, IntWalk.toNatUp, reduceCtorEq, Int.reduceLE, Int.reduceLT, Int.reduceToNat, Int.reduceNeg]
  refine VS.q mixed (by kernel_rfl) ?_
  simp (config := {contextual := true, maxSteps := 2000000, implicitDefEqProofs := false}) only [go_sem, ↓reduceIte, Nat.reduceEqDiff, Nat.reduceAdd, Nat.reduceMul, Nat.reduceLeDiff, Nat.reduceLT, Nat.reduceSub, IntWalk.iteOmega, IntWalk.toNatUp, reduceCtorEq, Int.reduceLE, Int.reduceLT, Int.reduceToNat, Int.reduceNeg, e0, e1, e2, e3, t1, t2, t3]
  simp only [le4]
  congr 1
theorem shl_byte32 {x k : Nat} (hx : x < 256) (hk : k ≤ 24) : shlOp .u32 (x : Int) (k : Int) = ((x * 2 ^ k : Nat) : Int) := by
  rw [shl_u32 x k (by omega), Nat.mod_eq_of_lt]
  have : 2 ^ k ≤ 2 ^ 24 := Nat.pow_le_pow_right (by omega) hk
  have h2 : x * 2 ^ k ≤ 255 * 2 ^ 24 := Nat.mul_le_mul (by omega) this
  omega
theorem orl_u32 {a b c d : Nat} (ha : a < 256) (hb : b < 256) (hc : c < 256) (hd : d < 256) :
    bitOp .or .u32 (bitOp .or .u32 (bitOp .or .u32 (a : Int) (shlOp .u32 b 8)) (shlOp .u32 c 16)) (shlOp .u32 d 24) = ((a + 256 * b + 65536 * c + 16777216 * d : Nat) : Int) := by
  have e1 : shlOp .u32 (b : Int) 8 = ((b * 256 : Nat) : Int) := shl_byte32 (k := 8) hb (by omega)
  have e2 : shlOp .u32 (c : Int) 16 = ((c * 65536 : Nat) : Int) := shl_byte32 (k := 16) hc (by omega)
  have e3 : shlOp .u32 (d : Int) 24 = ((d * 16777216 : Nat) : Int) := shl_byte32 (k := 24) hd (by omega)
  have f1 : a ||| b * 256 = a + 256 * b := by rw [Nat.or_comm, or_add (k := 8) (by omega) (by omega)]; omega
  have f2 : (a + 256 * b) ||| c * 65536 = a + 256 * b + 65536 * c := by rw [Nat.or_comm, or_add (k := 16) (by omega) (by omega)]; omega
  have f3 : (a + 256 * b + 65536 * c) ||| d * 16777216 = a + 256 * b + 65536 * c + 16777216 * d := by rw [Nat.or_comm, or_add (k := 24) (by omega) (by omega)]; omega
  rw [e1, e2, e3, or_u32 _ _ (by omega) (by omega), f1, or_u32 _ _ (by omega) (by omega), f2, or_u32 _ _ (by omega) (by omega), f3]
theorem word_ok (T : World) (h : Hp) (v : Value) (l : List Nat) (s : Bs h v l) (hi : 4 ≤ l.length) :
    CallsH Tryd.prog T 221 #[v] h fun v' h' => v' = .int .u32 (le4 l 0 : Nat) ∧ h' = h := by
  obtain ⟨p, c, rfl, hc1⟩ := s.opend
  obtain ⟨b, o, rfl, hb, hcs⟩ := hc1 (by intro e; subst e; simp at hi)
  refine CallsH.of_code' (args := [_]) Tryd.func221 rfl rfl rfl rfl ?_
  have e0 := hcs 0 (by omega)
  have e1 := hcs 1 (by omega)
  have e2 := hcs 2 (by omega)
  have e3 := hcs 3 (by omega)
  have b0 := getD_byte s.byte 0
  have b1 := getD_byte s.byte 1
  have b2 := getD_byte s.byte 2
  have b3 := getD_byte s.byte 3
  rw [Nat.add_zero] at e0
  have eo := orl_u32 b0 b1 b2 b3
  rw [show l.getD 0 0 + 256 * l.getD 1 0 + 65536 * l.getD 2 0 + 16777216 * l.getD 3 0 = le4 l 0 from rfl] at eo
  simp (config := {contextual := true, maxSteps := 2000000, implicitDefEqProofs := false}) only [go_sem, ↓reduceIte, Nat.reduceEqDiff, Nat.reduceAdd, Nat.reduceMul, Nat.reduceLeDiff, Nat.reduceLT, Nat.reduceSub, IntWalk.iteOmega, IntWalk.toNatUp, reduceCtorEq, Int.reduceLE, Int.reduceLT, Int.reduceToNat, Int.reduceNeg]
  refine VS.q mixed (by kernel_rfl) ?_
  have m0 : ((l.getD 0 0 : Nat) : Int) % 4294967296 = (l.getD 0 0 : Nat) := by omega
  have m1 : ((l.getD 1 0 : Nat) : Int) % 4294967296 = (l.getD 1 0 : Nat) := by omega
  have m2 : ((l.getD 2 0 : Nat) : Int) % 4294967296 = (l.getD 2 0 : Nat) := by omega
  have m3 : ((l.getD 3 0 : Nat) : Int) % 4294967296 = (l.getD 3 0 : Nat) := by omega
  simp (config := {contextual := true, maxSteps := 2000000, implicitDefEqProofs := false}) only [go_sem, ↓reduceIte, Nat.reduceEqDiff, Nat.reduceAdd, Nat.reduceMul, Nat.reduceLeDiff, Nat.reduceLT, Nat.reduceSub, IntWalk.iteOmega, IntWalk.toNatUp, reduceCtorEq, Int.reduceLE, Int.reduceLT, Int.reduceToNat, Int.reduceNeg, e0, e1, e2, e3, m0, m1, m2, m3, eo]
/-- Bytes from a place on. -/
def subA (a : Option Addr) (n cap l : Nat) : Option Addr := if cap = l then a else a.map (·.add (l * n))
theorem vSlcL_sub {K : Value → Hp → Prop} {h : Hp} {a : Option Addr} {n cap b l : Nat} : vSlcL a n cap b (some l) K h = K (.slice (subA a n cap l) (b - l) (cap - l)) h := rfl
theorem Bs_back {h : Hp} {p : Option Addr} {c m : Nat} {l : List Nat} (s : Bs h (.slice p m c) l) (hm : l.length = m) {k : Nat} (hk : k ≤ m) (hcap : m ≤ c) (c' : Nat) : Bs h (.slice (subA p 1 c k) (m - k) c') (l.drop k) := by
  subst hm
  unfold subA
  refine ⟨?_, fun x hx => s.byte x (List.mem_of_mem_drop hx)⟩
  obtain ⟨p', cap, hv, hl, hc⟩ := s.sl
  simp only [Value.slice.injEq] at hv
  obtain ⟨rfl, _, rfl⟩ := hv
  refine ⟨_, c', by rw [List.length_drop], by simp, fun hne => ?_⟩
  have hlt : k < l.length := by
    rw [← List.length_pos_iff] at hne
    simp at hne; omega
  obtain ⟨b, o, rfl, hcs⟩ := hc (by intro e; simp at e; subst e; simp at hlt)
  refine ⟨b, o + k, ?_, fun i hi => ?_⟩
  · rw [if_neg (by omega)]
    simp only [Option.map_some, addr_add, Nat.mul_one]
  · have hi' : i < l.length - k := by simpa using hi
    rw [show o + k + i = o + (k + i) by omega, hcs (k + i) (by simp; omega)]
    simp
/-- The state at first. -/
def initS (key : List Nat) (ctr : Nat) (nonce : List Nat) : List Nat := [1634760805, 857760878, 2036477234, 1797285236] ++ (List.range 8).map (fun i => le4 key (4 * i)) ++ (ctr :: (List.range 3).map (fun i => le4 nonce (4 * i)))
def cols (s : List Nat) : Nat → List Nat
  | 0 => s
  | i + 1 => qround (cols s i) i (4 + i) (8 + i) (12 + i)
def diags (s : List Nat) : Nat → List Nat
  | 0 => s
  | i + 1 => qround (diags s i) i (4 + (i + 1) % 4) (8 + (i + 2) % 4) (12 + (i + 3) % 4)
def rnds (s : List Nat) : Nat → List Nat
  | 0 => s
  | r + 1 => diags (cols (rnds s r) 4) 4
def outF (x s : List Nat) (k : Nat) : Nat := (x.getD (k / 4) 0 + s.getD (k / 4) 0) % 4294967296 / 256 ^ (k % 4) % 256
def outB (x s : List Nat) : List Nat := (List.range 64).map (outF x s)
def blockS (key : List Nat) (ctr : Nat) (nonce : List Nat) : List Nat := outB (rnds (initS key ctr nonce) 10) (initS key ctr nonce)
theorem cols_ok {s : List Nat} (w : W32 s) : ∀ i, W32 (cols s i) ∧ (cols s i).length = s.length := by
  intro i
  induction i with
  | zero => exact ⟨w, rfl⟩
  | succ i ih => exact ⟨qround_w32 ih.1 _ _ _ _, by rw [cols, qround_length, ih.2]⟩
theorem diags_ok {s : List Nat} (w : W32 s) : ∀ i, W32 (diags s i) ∧ (diags s i).length = s.length := by
  intro i
  induction i with
  | zero => exact ⟨w, rfl⟩
  | succ i ih => exact ⟨qround_w32 ih.1 _ _ _ _, by rw [diags, qround_length, ih.2]⟩
theorem rnds_ok {s : List Nat} (w : W32 s) : ∀ i, W32 (rnds s i) ∧ (rnds s i).length = s.length := by
  intro i
  induction i with
  | zero => exact ⟨w, rfl⟩
  | succ i ih =>
    obtain ⟨c1, c2⟩ := cols_ok ih.1 4
    obtain ⟨d1, d2⟩ := diags_ok c1 4
    exact ⟨d1, by rw [rnds, d2, c2, ih.2]⟩
theorem initS_length (key : List Nat) (ctr : Nat) (nonce : List Nat) : (initS key ctr nonce).length = 16 := by simp [initS]
theorem initS_w32 {key nonce : List Nat} {ctr : Nat} (hk : ∀ x ∈ key, x < 256) (hn : ∀ x ∈ nonce, x < 256) (hc : ctr < 4294967296) : W32 (initS key ctr nonce) := by
  intro x hx
  unfold initS at hx
  simp only [List.mem_append, List.mem_cons, List.mem_map, List.mem_range, List.not_mem_nil, or_false] at hx
  rcases hx with ((rfl | rfl | rfl | rfl) | ⟨i, _, rfl⟩) | rfl | ⟨i, _, rfl⟩
  · omega
  · omega
  · omega
  · omega
  · exact le4_lt hk _
  · exact hc
  · exact le4_lt hn _
theorem fill_stepD (xs zs : List Nat) (i : Nat) (hi : i < xs.length) (hz : xs.length = zs.length) : (xs.take i ++ zs.drop i).set i (xs.getD i 0) = xs.take (i + 1) ++ zs.drop (i + 1) := by
  rw [← fill_step xs zs i hi hz, List.getD_eq_getElem?_getD, List.getElem?_eq_getElem hi]; rfl
theorem initS_key (key nonce : List Nat) (ctr i : Nat) (hi : i < 8) : (initS key ctr nonce).getD (4 + i) 0 = le4 key (4 * i) := by
  rcases i with _ | _ | _ | _ | _ | _ | _ | _ | i <;> first | rfl | omega
theorem initS_nonce (key nonce : List Nat) (ctr i : Nat) (hi : i < 3) : (initS key ctr nonce).getD (13 + i) 0 = le4 nonce (4 * i) := by
  rcases i with _ | _ | _ | i <;> first | rfl | omega
theorem range_getD (f : Nat → Nat) {m k : Nat} (hk : k < m) : ((List.range m).map f).getD k 0 = f k := by
  simp [List.getD_eq_getElem?_getD, hk]
theorem outB_byte (x s : List Nat) (i j : Nat) (hi : i < 16) (hj : j < 4) : (outB x s).getD (4 * i + j) 0 = (x.getD i 0 + s.getD i 0) % 4294967296 / 256 ^ j % 256 := by
  unfold outB
  rw [range_getD _ (by omega)]
  unfold outF
  rw [show (4 * i + j) / 4 = i by omega, show (4 * i + j) % 4 = j by omega]
theorem outB_small (x s : List Nat) : ∀ y ∈ outB x s, y < 256 := by
  intro y hy
  unfold outB at hy
  obtain ⟨k, _, rfl⟩ := List.mem_map.1 hy
  exact Nat.mod_lt _ (by decide)
def Z16 : List Nat := List.replicate 16 0
theorem chaCheck_ok (T : World) (h : Hp) (p q : Option Addr) (m n c d : Nat) (k : Int) :
    CallsH Tryd.prog T 195 #[.slice p m c, .int .i64 k, .slice q n d] h fun v' h' => v' = .int .i64 (if m ≠ 32 ∨ n ≠ 12 then 1 else if k < 0 ∨ 1073741824 < k then 2 else 0) ∧ h' = h := by
  refine CallsH.of_code' (args := [_, _, _]) Tryd.func195 rfl rfl rfl rfl ?_
  by_cases q1 : (m : Int) = 32
  · by_cases q2 : (n : Int) = 12
    · rw [if_neg (by omega)]
      by_cases q3 : k < 0
      · rw [if_pos (by omega)]; simp (config := {contextual := true, maxSteps := 2000000, implicitDefEqProofs := false}) only [go_sem, ↓reduceIte, Nat.reduceEqDiff, Nat.reduceAdd, Nat.reduceMul, Nat.reduceLeDiff, Nat.reduceLT, Nat.reduceSub, IntWalk.iteOmega, IntWalk.toNatUp, reduceCtorEq, Int.reduceLE, Int.reduceLT, Int.reduceToNat, Int.reduceNeg, q1, q2, q3]
      · by_cases q4 : 1073741824 < k
        · rw [if_pos (by omega)]; simp (config := {contextual := true, maxSteps := 2000000, implicitDefEqProofs := false}) only [go_sem, ↓reduceIte, Nat.reduceEqDiff, Nat.reduceAdd, Nat.reduceMul, Nat.reduceLeDiff, Nat.reduceLT, Nat.reduceSub, IntWalk.iteOmega, IntWalk.toNatUp, reduceCtorEq, Int.reduceLE, Int.reduceLT, Int.reduceToNat, Int.reduceNeg, q1, q2, q3, q4]
        · rw [if_neg (by omega)]; simp (config := {contextual := true, maxSteps := 2000000, implicitDefEqProofs := false}) only [go_sem, ↓reduceIte, Nat.reduceEqDiff, Nat.reduceAdd, Nat.reduceMul, Nat.reduceLeDiff, Nat.reduceLT, Nat.reduceSub, IntWalk.iteOmega, IntWalk.toNatUp, reduceCtorEq, Int.reduceLE, Int.reduceLT, Int.reduceToNat, Int.reduceNeg, q1, q2, q3, q4]
    · rw [if_pos (by omega)]; simp (config := {contextual := true, maxSteps := 2000000, implicitDefEqProofs := false}) only [go_sem, ↓reduceIte, Nat.reduceEqDiff, Nat.reduceAdd, Nat.reduceMul, Nat.reduceLeDiff, Nat.reduceLT, Nat.reduceSub, IntWalk.iteOmega, IntWalk.toNatUp, reduceCtorEq, Int.reduceLE, Int.reduceLT, Int.reduceToNat, Int.reduceNeg, q1, q2]
  · rw [if_pos (by omega)]; simp (config := {contextual := true, maxSteps := 2000000, implicitDefEqProofs := false}) only [go_sem, ↓reduceIte, Nat.reduceEqDiff, Nat.reduceAdd, Nat.reduceMul, Nat.reduceLeDiff, Nat.reduceLT, Nat.reduceSub, IntWalk.iteOmega, IntWalk.toNatUp, reduceCtorEq, Int.reduceLE, Int.reduceLT, Int.reduceToNat, Int.reduceNeg, q1]
theorem streamFault_ok (T : World) (h : Hp) (p q : Option Addr) (m n c d : Nat) (k : Int) :
    CallsH Tryd.prog T 201 #[.slice p m c, .int .i64 k, .slice q n d] h fun v' h' => v' = .int .i64 (if m ≠ 32 ∨ n ≠ 12 then 1 else if k < 0 ∨ 1073741824 < k then 2 else 0) ∧ h' = h := by
  refine CallsH.of_code' (args := [_, _, _]) Tryd.func201 rfl rfl rfl rfl ?_
  by_cases q1 : (m : Int) = 32
  · by_cases q2 : (n : Int) = 12
    · rw [if_neg (by omega)]
      simp (config := {contextual := true, maxSteps := 2000000, implicitDefEqProofs := false}) only [go_sem, ↓reduceIte, Nat.reduceEqDiff, Nat.reduceAdd, Nat.reduceMul, Nat.reduceLeDiff, Nat.reduceLT, Nat.reduceSub, IntWalk.iteOmega, IntWalk.toNatUp, reduceCtorEq, Int.reduceLE, Int.reduceLT, Int.reduceToNat, Int.reduceNeg, q1, q2]
      refine (in_ok T _ _ _ _).pure ?_
      by_cases q3 : 0 ≤ k ∧ k ≤ 1073741824
      · rw [if_neg (by omega)]; simp (config := {contextual := true, maxSteps := 2000000, implicitDefEqProofs := false}) only [go_sem, ↓reduceIte, Nat.reduceEqDiff, Nat.reduceAdd, Nat.reduceMul, Nat.reduceLeDiff, Nat.reduceLT, Nat.reduceSub, IntWalk.iteOmega, IntWalk.toNatUp, reduceCtorEq, Int.reduceLE, Int.reduceLT, Int.reduceToNat, Int.reduceNeg, q3]
      · rw [if_pos (by omega)]; simp (config := {contextual := true, maxSteps := 2000000, implicitDefEqProofs := false}) only [go_sem, ↓reduceIte, Nat.reduceEqDiff, Nat.reduceAdd, Nat.reduceMul, Nat.reduceLeDiff, Nat.reduceLT, Nat.reduceSub, IntWalk.iteOmega, IntWalk.toNatUp, reduceCtorEq, Int.reduceLE, Int.reduceLT, Int.reduceToNat, Int.reduceNeg, q3]
    · rw [if_pos (by omega)]; simp (config := {contextual := true, maxSteps := 2000000, implicitDefEqProofs := false}) only [go_sem, ↓reduceIte, Nat.reduceEqDiff, Nat.reduceAdd, Nat.reduceMul, Nat.reduceLeDiff, Nat.reduceLT, Nat.reduceSub, IntWalk.iteOmega, IntWalk.toNatUp, reduceCtorEq, Int.reduceLE, Int.reduceLT, Int.reduceToNat, Int.reduceNeg, q1, q2]
  · rw [if_pos (by omega)]; simp (config := {contextual := true, maxSteps := 2000000, implicitDefEqProofs := false}) only [go_sem, ↓reduceIte, Nat.reduceEqDiff, Nat.reduceAdd, Nat.reduceMul, Nat.reduceLeDiff, Nat.reduceLT, Nat.reduceSub, IntWalk.iteOmega, IntWalk.toNatUp, reduceCtorEq, Int.reduceLE, Int.reduceLT, Int.reduceToNat, Int.reduceNeg, q1]
theorem blockHead_ok (T : World) (h : Hp) (v u : Value) (key nonce : List Nat) (ctr : Nat) (sk : Bs h v key) (sn : Bs h u nonce) (hk : key.length = 32) (hn : nonce.length = 12) (hc : ctr < 4294967296) (ck : Cap v) (cn : Cap u) :
    CallsH Tryd.prog T 196 #[v, .int .u32 ctr, u] h fun v' h' => v' = .agg ((blockS key ctr nonce).map bv).toArray ∧ Bel h.size h h' := by
  obtain ⟨p, c, rfl, _⟩ := sk.open
  obtain ⟨q, d, rfl, _⟩ := sn.open
  rw [hk] at sk ck ⊢
  rw [hn] at sn cn ⊢
  have ck : 32 ≤ c := ck
  have cn : 12 ≤ d := cn
  refine CallsH.of_code' (args := [_, _, _]) Tryd.func196 rfl rfl rfl rfl ?_
  obtain ⟨S, hS⟩ : ∃ S, S = initS key ctr nonce := ⟨_, rfl⟩
  have hS16 : S.length = 16 := by rw [hS]; exact initS_length _ _ _
  have hSZ : S.length = Z16.length := hS16
  have fl : ∀ k, k ≤ 16 → (S.take k ++ Z16.drop k).length = 16 := fun k hk => by rw [fill_length _ _ _ (by omega) hSZ, hS16]
  simp (config := {contextual := true, maxSteps := 2000000, implicitDefEqProofs := false}) only [go_sem, ↓reduceIte, Nat.reduceEqDiff, Nat.reduceAdd, Nat.reduceMul, Nat.reduceLeDiff, Nat.reduceLT, Nat.reduceSub, IntWalk.iteOmega, IntWalk.toNatUp, reduceCtorEq, Int.reduceLE, Int.reduceLT, Int.reduceToNat, Int.reduceNeg]
  refine VS.loop' (fun F g => Bel (h.size + 1) (h.push (.cells ((List.replicate 64 0).map bv).toArray 220)) g ∧ F 0 = .slice p 32 c ∧ F 1 = .int .u32 ctr ∧ F 2 = .slice q 12 d ∧ F 6 = .pointer (some ⟨h.size, 0, none⟩) ∧ F 7 = .pointer (some ⟨h.size + 1, 0, none⟩) ∧ ∃ i : Nat, i ≤ 8 ∧ F 17 = .int .i64 i ∧ g[h.size + 1]? = some (.cells ((S.take (4 + i) ++ Z16.drop (4 + i)).map wv ++ []).toArray 241))
    (fun F _ => 8 - (vi (F 17)).toNat) rfl ⟨Bel.push (by simp) _, rfl, rfl, rfl, rfl, rfl, 0, by omega, rfl, ?_⟩ ?_
  · subst hS
    have e := get_push_last (h := h.push (.cells ((List.replicate 64 0).map bv).toArray 220)) (o := .cells ((List.take (4 + 0) (initS key ctr nonce) ++ List.drop (4 + 0) Z16).map wv ++ []).toArray 241)
    rw [Array.size_push] at e
    exact e
  rintro F g ⟨hg, f0, f1, f2, f6, f7, i, hi, f17, hx⟩
  by_cases hlt : i < 8
  · have hlt' : (i : Int) < 8 := by omega
    have t4 : (4 * (i : Int)).toNat = 4 * i := by omega
    have t5 : ((4 : Int) + i).toNat = 4 + i := by omega
    simp (config := {contextual := true, maxSteps := 2000000, implicitDefEqProofs := false}) only [go_sem, ↓reduceIte, Nat.reduceEqDiff, Nat.reduceAdd, Nat.reduceMul, Nat.reduceLeDiff, Nat.reduceLT, Nat.reduceSub, IntWalk.iteOmega, IntWalk.toNatUp, reduceCtorEq, Int.reduceLE, Int.reduceLT, Int.reduceToNat, Int.reduceNeg, f0, f7, f17, hlt', t4, t5, vSlcL_sub]
    have hbs := Bs_back (sk.bel ((Bel.push (Nat.le_refl _) _).trans (hg.mono (by omega)))) hk (k := 4 * i) (by omega) ck (c - 4 * i)
    refine (word_ok T _ _ _ hbs (by rw [List.length_drop]; omega)).pure ?_
    rw [le4_drop, ← initS_key key nonce ctr i hlt, ← hS]
    have hSi : S.getD (4 + i) 0 < 4294967296 := by rw [hS, initS_key key nonce ctr i hlt]; exact le4_lt sk.byte _
    have c1 : wr1 g ⟨h.size + 1, 4 + i, none⟩ (.int .u32 (S.getD (4 + i) 0 : Nat)) = _ := cells_set (f := wv) hx (i := 4 + i) (by rw [fl _ (by omega)]; omega) _ rfl
    rw [fill_stepD S Z16 (4 + i) (by omega) hSZ] at c1
    simp (config := {contextual := true, maxSteps := 2000000, implicitDefEqProofs := false}) only [go_sem, ↓reduceIte, Nat.reduceEqDiff, Nat.reduceAdd, Nat.reduceMul, Nat.reduceLeDiff, Nat.reduceLT, Nat.reduceSub, IntWalk.iteOmega, IntWalk.toNatUp, reduceCtorEq, Int.reduceLE, Int.reduceLT, Int.reduceToNat, Int.reduceNeg, f7, f17, t5, c1]
    refine ⟨⟨hg.addSet (by omega) _, f0, f1, f2, f6, f7, i + 1, hlt, rfl, ?_⟩, ?_⟩
    · exact cells_new hx
    · simp only [vi, updo_some, ↓reduceIte, f17]; omega
  · have hge : ¬ (i : Int) < 8 := by omega
    obtain rfl : i = 8 := by omega
    have c1 : wr1 g ⟨h.size + 1, 12, none⟩ (.int .u32 (S.getD 12 0 : Nat)) = _ := cells_set (f := wv) hx (i := 12) (by rw [fl _ (by omega)]; omega) _ rfl
    have s12 : S.getD 12 0 = ctr := by rw [hS]; rfl
    rw [fill_stepD S Z16 12 (by omega) hSZ, s12] at c1
    have hx := cells_new (o := .cells ((S.take 13 ++ Z16.drop 13).map wv ++ []).toArray 241) hx
    have hg := hg.addSet (b := h.size + 1) (by omega) (.cells ((S.take 13 ++ Z16.drop 13).map wv ++ []).toArray 241)
    simp (config := {contextual := true, maxSteps := 2000000, implicitDefEqProofs := false}) only [go_sem, ↓reduceIte, Nat.reduceEqDiff, Nat.reduceAdd, Nat.reduceMul, Nat.reduceLeDiff, Nat.reduceLT, Nat.reduceSub, IntWalk.iteOmega, IntWalk.toNatUp, reduceCtorEq, Int.reduceLE, Int.reduceLT, Int.reduceToNat, Int.reduceNeg, f0, f1, f7, f17, hge, c1]
    obtain ⟨G, hG⟩ : ∃ G : Hp, G = g.setIfInBounds (h.size + 1) (.cells ((S.take 13 ++ Z16.drop 13).map wv ++ []).toArray 241) := ⟨_, rfl⟩
    rw [← hG] at hx hg ⊢
    clear hG c1 s12
    refine VS.loop' (fun F g => Bel (h.size + 1) (h.push (.cells ((List.replicate 64 0).map bv).toArray 220)) g ∧ F 2 = .slice q 12 d ∧ F 6 = .pointer (some ⟨h.size, 0, none⟩) ∧ F 7 = .pointer (some ⟨h.size + 1, 0, none⟩) ∧ ∃ i : Nat, i ≤ 3 ∧ F 31 = .int .i64 i ∧ g[h.size + 1]? = some (.cells ((S.take (13 + i) ++ Z16.drop (13 + i)).map wv ++ []).toArray 241))
      (fun F _ => 3 - (vi (F 31)).toNat) rfl ⟨hg, f2, f6, f7, 0, by omega, rfl, hx⟩ ?_
    clear f0 f1 f2 f6 f7 f17 hg hx F
    rintro F g ⟨hg, f2, f6, f7, i, hi, f31, hx⟩
    by_cases hlt : i < 3
    · have hlt' : (i : Int) < 3 := by omega
      have t4 : (4 * (i : Int)).toNat = 4 * i := by omega
      have t5 : ((13 : Int) + i).toNat = 13 + i := by omega
      simp (config := {contextual := true, maxSteps := 2000000, implicitDefEqProofs := false}) only [go_sem, ↓reduceIte, Nat.reduceEqDiff, Nat.reduceAdd, Nat.reduceMul, Nat.reduceLeDiff, Nat.reduceLT, Nat.reduceSub, IntWalk.iteOmega, IntWalk.toNatUp, reduceCtorEq, Int.reduceLE, Int.reduceLT, Int.reduceToNat, Int.reduceNeg, f2, f7, f31, hlt', t4, t5, vSlcL_sub]
      have hbs := Bs_back (sn.bel ((Bel.push (Nat.le_refl _) _).trans (hg.mono (by omega)))) hn (k := 4 * i) (by omega) cn (d - 4 * i)
      refine (word_ok T _ _ _ hbs (by rw [List.length_drop]; omega)).pure ?_
      rw [le4_drop, ← initS_nonce key nonce ctr i hlt, ← hS]
      have c1 : wr1 g ⟨h.size + 1, 13 + i, none⟩ (.int .u32 (S.getD (13 + i) 0 : Nat)) = _ := cells_set (f := wv) hx (i := 13 + i) (by rw [fl _ (by omega)]; omega) _ rfl
      rw [fill_stepD S Z16 (13 + i) (by omega) hSZ] at c1
      simp (config := {contextual := true, maxSteps := 2000000, implicitDefEqProofs := false}) only [go_sem, ↓reduceIte, Nat.reduceEqDiff, Nat.reduceAdd, Nat.reduceMul, Nat.reduceLeDiff, Nat.reduceLT, Nat.reduceSub, IntWalk.iteOmega, IntWalk.toNatUp, reduceCtorEq, Int.reduceLE, Int.reduceLT, Int.reduceToNat, Int.reduceNeg, f7, f31, t5, c1]
      refine ⟨⟨hg.addSet (by omega) _, f2, f6, f7, i + 1, hlt, rfl, ?_⟩, ?_⟩
      · exact cells_new hx
      · simp only [vi, updo_some, ↓reduceIte, f31]; omega
    · have hge : ¬ (i : Int) < 3 := by omega
      obtain rfl : i = 3 := by omega
      have e16 : S.take (13 + 3) ++ Z16.drop (13 + 3) = S := by
        have := fill_done S Z16 hSZ
        rw [hS16] at this; exact this
      rw [e16] at hx
      have y1 := rd_last (n := 16) hx (by simp [hS16])
      have hl1 : (S.map wv ++ []).length = 16 := by simp [hS16]
      have hl2 : (S.map wv ++ []).all oneC = true := by simp [wv, oneC]
      have hl3 : lput (Z16.map wv) 0 (S.map wv ++ []) = S.map wv ++ [] := lput_full (by rw [hl1]; rfl)
      have hl3 : lput [Value.int .u32 0, Value.int .u32 0, Value.int .u32 0, Value.int .u32 0, Value.int .u32 0, Value.int .u32 0, Value.int .u32 0, Value.int .u32 0, Value.int .u32 0, Value.int .u32 0, Value.int .u32 0, Value.int .u32 0, Value.int .u32 0, Value.int .u32 0, Value.int .u32 0, Value.int .u32 0] 0 (S.map wv ++ []) = S.map wv ++ [] := hl3
      have wS : W32 S := by rw [hS]; exact initS_w32 sk.byte sn.byte hc
      have hgs := lt_of_get hx
      simp (config := {contextual := true, maxSteps := 2000000, implicitDefEqProofs := false}) only [go_sem, ↓reduceIte, Nat.reduceEqDiff, Nat.reduceAdd, Nat.reduceMul, Nat.reduceLeDiff, Nat.reduceLT, Nat.reduceSub, IntWalk.iteOmega, IntWalk.toNatUp, reduceCtorEq, Int.reduceLE, Int.reduceLT, Int.reduceToNat, Int.reduceNeg, f6, f7, f31, hge, y1, hl1, hl2, hl3]
      clear hl3 y1
      obtain ⟨G, hG⟩ : ∃ G : Hp, G = g.push (.cells (S.map wv ++ []).toArray 241) := ⟨_, rfl⟩
      have hxG : G[g.size]? = some (.cells ((rnds S 0).map wv ++ []).toArray 241) := by rw [hG]; exact get_push_last
      have hGb : Bel g.size g G := by rw [hG]; exact Bel.push (Nat.le_refl _) _
      rw [← hG]
      clear hG
      refine VS.loop' (fun F g' => Bel g.size g g' ∧ F 6 = .pointer (some ⟨h.size, 0, none⟩) ∧ F 7 = .pointer (some ⟨h.size + 1, 0, none⟩) ∧ F 10 = .pointer (some ⟨g.size, 0, none⟩) ∧ ∃ r : Nat, r ≤ 10 ∧ F 44 = .int .i64 r ∧ g'[g.size]? = some (.cells ((rnds S r).map wv ++ []).toArray 241))
        (fun F _ => 10 - (vi (F 44)).toNat) rfl ⟨hGb, f6, f7, rfl, 0, by omega, rfl, hxG⟩ ?_
      clear f2 f6 f7 f31 hxG hGb G F
      rintro F g1 ⟨b1, f6, f7, f10, r, hr, f44, hx1⟩
      by_cases hlt2 : r < 10
      · have hlt2' : (r : Int) < 10 := by omega
        obtain ⟨wr, lr⟩ := rnds_ok wS r
        rw [hS16] at lr
        simp (config := {contextual := true, maxSteps := 2000000, implicitDefEqProofs := false}) only [go_sem, ↓reduceIte, Nat.reduceEqDiff, Nat.reduceAdd, Nat.reduceMul, Nat.reduceLeDiff, Nat.reduceLT, Nat.reduceSub, IntWalk.iteOmega, IntWalk.toNatUp, reduceCtorEq, Int.reduceLE, Int.reduceLT, Int.reduceToNat, Int.reduceNeg, f44, hlt2']
        refine VS.loop' (fun F g' => Bel g.size g g' ∧ F 6 = .pointer (some ⟨h.size, 0, none⟩) ∧ F 7 = .pointer (some ⟨h.size + 1, 0, none⟩) ∧ F 10 = .pointer (some ⟨g.size, 0, none⟩) ∧ F 44 = .int .i64 r ∧ ∃ i : Nat, i ≤ 4 ∧ F 46 = .int .i64 i ∧ g'[g.size]? = some (.cells ((cols (rnds S r) i).map wv ++ []).toArray 241))
          (fun F _ => 4 - (vi (F 46)).toNat) rfl ⟨b1, f6, f7, f10, f44, 0, by omega, rfl, hx1⟩ ?_
        clear f6 f7 f10 f44 b1 hx1 F g1
        rintro F g1 ⟨b1, f6, f7, f10, f44, i, hi, f46, hx1⟩
        by_cases hlt3 : i < 4
        · have hlt3' : (i : Int) < 4 := by omega
          obtain ⟨wc, lc⟩ := cols_ok wr i
          rw [lr] at lc
          have t1 : (4 : Int) + i = ((4 + i : Nat) : Int) := by omega
          have t2 : (8 : Int) + i = ((8 + i : Nat) : Int) := by omega
          have t3 : (12 : Int) + i = ((12 + i : Nat) : Int) := by omega
          simp (config := {contextual := true, maxSteps := 2000000, implicitDefEqProofs := false}) only [go_sem, ↓reduceIte, Nat.reduceEqDiff, Nat.reduceAdd, Nat.reduceMul, Nat.reduceLeDiff, Nat.reduceLT, Nat.reduceSub, IntWalk.iteOmega, IntWalk.toNatUp, reduceCtorEq, Int.reduceLE, Int.reduceLT, Int.reduceToNat, Int.reduceNeg, f10, f46, hlt3', t1, t2, t3]
          refine (quarter_ok T g1 g.size _ i (4 + i) (8 + i) (12 + i) lc wc (by omega) (by omega) (by omega) (by omega) hx1).use ?_
          rintro _ _ rfl
          simp (config := {contextual := true, maxSteps := 2000000, implicitDefEqProofs := false}) only [go_sem, ↓reduceIte, Nat.reduceEqDiff, Nat.reduceAdd, Nat.reduceMul, Nat.reduceLeDiff, Nat.reduceLT, Nat.reduceSub, IntWalk.iteOmega, IntWalk.toNatUp, reduceCtorEq, Int.reduceLE, Int.reduceLT, Int.reduceToNat, Int.reduceNeg, f46]
          refine ⟨⟨b1.addSet (Nat.le_refl _) _, f6, f7, f10, f44, i + 1, hlt3, rfl, ?_⟩, ?_⟩
          · exact cells_new hx1
          · simp only [vi, updo_some, ↓reduceIte, f46]; omega
        · have hge3 : ¬ (i : Int) < 4 := by omega
          obtain rfl : i = 4 := by omega
          obtain ⟨wc, lc⟩ := cols_ok wr 4
          rw [lr] at lc
          simp (config := {contextual := true, maxSteps := 2000000, implicitDefEqProofs := false}) only [go_sem, ↓reduceIte, Nat.reduceEqDiff, Nat.reduceAdd, Nat.reduceMul, Nat.reduceLeDiff, Nat.reduceLT, Nat.reduceSub, IntWalk.iteOmega, IntWalk.toNatUp, reduceCtorEq, Int.reduceLE, Int.reduceLT, Int.reduceToNat, Int.reduceNeg, f46, hge3]
          refine VS.loop' (fun F g' => Bel g.size g g' ∧ F 6 = .pointer (some ⟨h.size, 0, none⟩) ∧ F 7 = .pointer (some ⟨h.size + 1, 0, none⟩) ∧ F 10 = .pointer (some ⟨g.size, 0, none⟩) ∧ F 44 = .int .i64 r ∧ ∃ i : Nat, i ≤ 4 ∧ F 58 = .int .i64 i ∧ g'[g.size]? = some (.cells ((diags (cols (rnds S r) 4) i).map wv ++ []).toArray 241))
            (fun F _ => 4 - (vi (F 58)).toNat) rfl ⟨b1, f6, f7, f10, f44, 0, by omega, rfl, hx1⟩ ?_
          clear f6 f7 f10 f44 f46 hlt3 hge3 hi b1 hx1 F g1
          rintro F g1 ⟨b1, f6, f7, f10, f44, i, hi, f58, hx1⟩
          by_cases hlt4 : i < 4
          · have hlt4' : (i : Int) < 4 := by omega
            obtain ⟨wd, ld⟩ := diags_ok wc i
            rw [lc] at ld
            have t1 : (4 : Int) + ((i : Int) + 1).tmod 4 = ((4 + (i + 1) % 4 : Nat) : Int) := by
              have : ((i : Int) + 1).tmod 4 = (((i + 1) % 4 : Nat) : Int) := rfl
              omega
            have t2 : (8 : Int) + ((i : Int) + 2).tmod 4 = ((8 + (i + 2) % 4 : Nat) : Int) := by
              have : ((i : Int) + 2).tmod 4 = (((i + 2) % 4 : Nat) : Int) := rfl
              omega
            have t3 : (12 : Int) + ((i : Int) + 3).tmod 4 = ((12 + (i + 3) % 4 : Nat) : Int) := by
              have : ((i : Int) + 3).tmod 4 = (((i + 3) % 4 : Nat) : Int) := rfl
              omega
            have m1 : ((i : Int) + 1).tmod 4 = (((i + 1) % 4 : Nat) : Int) := rfl
            have m2 : ((i : Int) + 2).tmod 4 = (((i + 2) % 4 : Nat) : Int) := rfl
            have m3 : ((i : Int) + 3).tmod 4 = (((i + 3) % 4 : Nat) : Int) := rfl
            rw [m1] at t1
            rw [m2] at t2
            rw [m3] at t3
            have k1 : (i + 1) % 4 < 4 := Nat.mod_lt _ (by decide)
            have k2 : (i + 2) % 4 < 4 := Nat.mod_lt _ (by decide)
            have k3 : (i + 3) % 4 < 4 := Nat.mod_lt _ (by decide)
            simp (config := {contextual := true, maxSteps := 2000000, implicitDefEqProofs := false}) only [go_sem, ↓reduceIte, Nat.reduceEqDiff, Nat.reduceAdd, Nat.reduceMul, Nat.reduceLeDiff, Nat.reduceLT, Nat.reduceSub, IntWalk.iteOmega, IntWalk.toNatUp, reduceCtorEq, Int.reduceLE, Int.reduceLT, Int.reduceToNat, Int.reduceNeg, f10, f58, hlt4', m1, m2, m3, t1, t2, t3]
            refine (quarter_ok T g1 g.size _ i (4 + (i + 1) % 4) (8 + (i + 2) % 4) (12 + (i + 3) % 4) ld wd (by omega) (by omega) (by omega) (by omega) hx1).use ?_
            rintro _ _ rfl
            simp (config := {contextual := true, maxSteps := 2000000, implicitDefEqProofs := false}) only [go_sem, ↓reduceIte, Nat.reduceEqDiff, Nat.reduceAdd, Nat.reduceMul, Nat.reduceLeDiff, Nat.reduceLT, Nat.reduceSub, IntWalk.iteOmega, IntWalk.toNatUp, reduceCtorEq, Int.reduceLE, Int.reduceLT, Int.reduceToNat, Int.reduceNeg, f58]
            refine ⟨⟨b1.addSet (Nat.le_refl _) _, f6, f7, f10, f44, i + 1, hlt4, rfl, ?_⟩, ?_⟩
            · exact cells_new hx1
            · simp only [vi, updo_some, ↓reduceIte, f58]; omega
          · have hge4 : ¬ (i : Int) < 4 := by omega
            obtain rfl : i = 4 := by omega
            simp (config := {contextual := true, maxSteps := 2000000, implicitDefEqProofs := false}) only [go_sem, ↓reduceIte, Nat.reduceEqDiff, Nat.reduceAdd, Nat.reduceMul, Nat.reduceLeDiff, Nat.reduceLT, Nat.reduceSub, IntWalk.iteOmega, IntWalk.toNatUp, reduceCtorEq, Int.reduceLE, Int.reduceLT, Int.reduceToNat, Int.reduceNeg, f44, f58, hge4]
            refine ⟨⟨b1, f6, f7, f10, r + 1, hlt2, rfl, hx1⟩, ?_⟩
            simp only [vi, updo_some, ↓reduceIte, f44]; omega
      · have hge2 : ¬ (r : Int) < 10 := by omega
        obtain rfl : r = 10 := by omega
        obtain ⟨wr, lr⟩ := rnds_ok wS 10
        rw [hS16] at lr
        have hxs := b1.get hgs hx
        have z0 : h.size + 1 < g.size := hgs
        have z1 := lt_of_get hx1
        simp (config := {contextual := true, maxSteps := 2000000, implicitDefEqProofs := false}) only [go_sem, ↓reduceIte, Nat.reduceEqDiff, Nat.reduceAdd, Nat.reduceMul, Nat.reduceLeDiff, Nat.reduceLT, Nat.reduceSub, IntWalk.iteOmega, IntWalk.toNatUp, reduceCtorEq, Int.reduceLE, Int.reduceLT, Int.reduceToNat, Int.reduceNeg, f44, hge2]
        obtain ⟨X, hX⟩ : ∃ X, X = outB (rnds S 10) S := ⟨_, rfl⟩
        have hX64 : X.length = 64 := by rw [hX]; simp [outB]
        have hXZ : X.length = (List.replicate 64 0).length := by rw [hX64]; rfl
        refine VS.loop' (fun F g' => Bel g1.size g1 g' ∧ F 6 = .pointer (some ⟨h.size, 0, none⟩) ∧ F 7 = .pointer (some ⟨h.size + 1, 0, none⟩) ∧ F 10 = .pointer (some ⟨g.size, 0, none⟩) ∧ F 13 = .pointer (some ⟨g1.size, 0, none⟩) ∧ ∃ i : Nat, i ≤ 16 ∧ F 77 = .int .i64 i ∧ g'[g1.size]? = some (.cells ((X.take (4 * i) ++ (List.replicate 64 0).drop (4 * i)).map bv ++ []).toArray 220))
          (fun F _ => 16 - (vi (F 77)).toNat) rfl ⟨Bel.push (Nat.le_refl _) _, f6, f7, f10, rfl, 0, by omega, rfl, ?_⟩ ?_
        · exact get_push_last
        clear f6 f7 f10 f44 hge2 hr hlt2 F
        rintro F g2 ⟨b2, f6, f7, f10, f13, i, hi, f77, hx2⟩
        by_cases hlt5 : i < 16
        · have hlt5' : (i : Int) < 16 := by omega
          have u1 := cells_get (b2.get (by omega) hxs) (i := i) (by omega)
          have u2 := cells_get (b2.get z1 hx1) (i := i) (by omega)
          have v1 := wS.getD i
          have v2 := wr.getD i
          have e1 : ((rnds S 10).getD i 0 + S.getD i 0 : Int) % 4294967296 = (((rnds S 10).getD i 0 + S.getD i 0) % 4294967296 : Nat) := by omega
          unfold wv at u1 u2
          obtain ⟨n, hn'⟩ : ∃ n, n = ((rnds S 10).getD i 0 + S.getD i 0) % 4294967296 := ⟨_, rfl⟩
          have hn32 : n < 4294967296 := by omega
          rw [← hn'] at e1
          have x0 : X.getD (4 * i) 0 = n % 256 := by have := outB_byte (rnds S 10) S i 0 hlt5 (by omega); rw [show (256 : Nat) ^ 0 = 1 from rfl, Nat.div_one] at this; rw [hX, hn']; exact this
          have x1 : X.getD (4 * i + 1) 0 = n / 256 % 256 := by have := outB_byte (rnds S 10) S i 1 hlt5 (by omega); rw [show (256 : Nat) ^ 1 = 256 from rfl] at this; rw [hX, hn']; exact this
          have x2 : X.getD (4 * i + 2) 0 = n / 65536 % 256 := by have := outB_byte (rnds S 10) S i 2 hlt5 (by omega); rw [show (256 : Nat) ^ 2 = 65536 from rfl] at this; rw [hX, hn']; exact this
          have x3 : X.getD (4 * i + 3) 0 = n / 16777216 % 256 := by have := outB_byte (rnds S 10) S i 3 hlt5 (by omega); rw [show (256 : Nat) ^ 3 = 16777216 from rfl] at this; rw [hX, hn']; exact this
          have t0 : (4 * (i : Int)).toNat = 4 * i := by omega
          have t1 : (4 * (i : Int) + 1).toNat = 4 * i + 1 := by omega
          have t2 : (4 * (i : Int) + 2).toNat = 4 * i + 2 := by omega
          have t3 : (4 * (i : Int) + 3).toNat = 4 * i + 3 := by omega
          have s0 : (n : Int) % 256 = ((n % 256 : Nat) : Int) := by omega
          have s1 : shrOp .u32 (n : Int) 8 % 256 = ((n / 256 % 256 : Nat) : Int) := by rw [show (8 : Int) = ((8 : Nat) : Int) from rfl, shr_u32 n 8 (by omega)]; omega
          have s2 : shrOp .u32 (n : Int) 16 % 256 = ((n / 65536 % 256 : Nat) : Int) := by rw [show (16 : Int) = ((16 : Nat) : Int) from rfl, shr_u32 n 16 (by omega)]; omega
          have s3 : shrOp .u32 (n : Int) 24 % 256 = ((n / 16777216 % 256 : Nat) : Int) := by rw [show (24 : Int) = ((24 : Nat) : Int) from rfl, shr_u32 n 24 (by omega)]; omega
          rw [← x0] at s0
          rw [← x1] at s1
          rw [← x2] at s2
          rw [← x3] at s3
          simp (config := {contextual := true, maxSteps := 2000000, implicitDefEqProofs := false}) only [go_sem, ↓reduceIte, Nat.reduceEqDiff, Nat.reduceAdd, Nat.reduceMul, Nat.reduceLeDiff, Nat.reduceLT, Nat.reduceSub, IntWalk.iteOmega, IntWalk.toNatUp, reduceCtorEq, Int.reduceLE, Int.reduceLT, Int.reduceToNat, Int.reduceNeg, f7, f10, f77, hlt5']
          refine VS.q mixed (by kernel_rfl) ?_
          have xl : ∀ k, k ≤ 64 → (X.take k ++ (List.replicate 64 0).drop k).length = 64 := fun k hk => by rw [fill_length _ _ _ (by omega) hXZ, hX64]
          have c0 : wr1 g2 ⟨g1.size, 4 * i, none⟩ (.int .u8 (X.getD (4 * i) 0 : Nat)) = _ := cells_set (f := bv) hx2 (i := 4 * i) (by rw [xl _ (by omega)]; omega) _ rfl
          rw [fill_stepD X _ (4 * i) (by omega) hXZ] at c0
          have c1 : wr1 _ ⟨g1.size, 4 * i + 1, none⟩ (.int .u8 (X.getD (4 * i + 1) 0 : Nat)) = _ := cells_set (f := bv) (cells_new (o := .cells ((X.take (4 * i + 1) ++ (List.replicate 64 0).drop (4 * i + 1)).map bv ++ []).toArray 220) hx2) (i := 4 * i + 1) (by rw [xl _ (by omega)]; omega) _ rfl
          rw [fill_stepD X _ (4 * i + 1) (by omega) hXZ, set_set] at c1
          have c2 : wr1 _ ⟨g1.size, 4 * i + 2, none⟩ (.int .u8 (X.getD (4 * i + 2) 0 : Nat)) = _ := cells_set (f := bv) (cells_new (o := .cells ((X.take (4 * i + 2) ++ (List.replicate 64 0).drop (4 * i + 2)).map bv ++ []).toArray 220) hx2) (i := 4 * i + 2) (by rw [xl _ (by omega)]; omega) _ rfl
          rw [fill_stepD X _ (4 * i + 2) (by omega) hXZ, set_set] at c2
          have c3 : wr1 _ ⟨g1.size, 4 * i + 3, none⟩ (.int .u8 (X.getD (4 * i + 3) 0 : Nat)) = _ := cells_set (f := bv) (cells_new (o := .cells ((X.take (4 * i + 3) ++ (List.replicate 64 0).drop (4 * i + 3)).map bv ++ []).toArray 220) hx2) (i := 4 * i + 3) (by rw [xl _ (by omega)]; omega) _ rfl
          rw [fill_stepD X _ (4 * i + 3) (by omega) hXZ, set_set] at c3
          simp (config := {contextual := true, maxSteps := 2000000, implicitDefEqProofs := false}) only [go_sem, ↓reduceIte, Nat.reduceEqDiff, Nat.reduceAdd, Nat.reduceMul, Nat.reduceLeDiff, Nat.reduceLT, Nat.reduceSub, IntWalk.iteOmega, IntWalk.toNatUp, reduceCtorEq, Int.reduceLE, Int.reduceLT, Int.reduceToNat, Int.reduceNeg, f7, f10, f13, f77, u1, u2, e1, t0, t1, t2, t3, s0, s1, s2, s3, c0, c1, c2, c3]
          refine ⟨⟨b2.addSet (Nat.le_refl _) _, f6, f7, f10, f13, i + 1, hlt5, rfl, ?_⟩, ?_⟩
          · exact cells_new hx2
          · simp only [vi, updo_some, ↓reduceIte, f77]; omega
        · have hge5 : ¬ (i : Int) < 16 := by omega
          obtain rfl : i = 16 := by omega
          have e64 : X.take (4 * 16) ++ (List.replicate 64 0).drop (4 * 16) = X := by
            have := fill_done X (List.replicate 64 0) hXZ
            rw [hX64] at this; exact this
          rw [e64, List.append_nil] at hx2
          have hl64 : (X.map bv).length = 64 := by simp [hX64]
          have tk := take_len hl64
          have y1 := rd_last (n := 64) hx2 hl64
          have y0 : (h.push (.cells ((List.replicate 64 0).map bv).toArray 220))[h.size]? = some (.cells ((List.replicate 64 0).map bv).toArray 220) := get_push_last
          have y2 := b2.get (by omega) (b1.get (by omega) (hg.get (by omega) y0))
          have y3 := wr_get y2 0 (X.map bv)
          rw [lput_full (by simp [hX64]), if_pos ⟨by simp [hX64], bv_one X⟩] at y3
          have z2 : h.size < g2.size := lt_of_get y2
          have hB : Bel h.size h g2 := ((Bel.push (Nat.le_refl _) _).trans (hg.mono (by omega))).trans ((b1.mono (by omega)).trans (b2.mono (by omega)))
          have hbx : blockS key ctr nonce = X := by rw [hX, hS]; rfl
          rw [hbx]
          simp (config := {contextual := true, maxSteps := 2000000, implicitDefEqProofs := false}) only [go_sem, ↓reduceIte, Nat.reduceEqDiff, Nat.reduceAdd, Nat.reduceMul, Nat.reduceLeDiff, Nat.reduceLT, Nat.reduceSub, IntWalk.iteOmega, IntWalk.toNatUp, reduceCtorEq, Int.reduceLE, Int.reduceLT, Int.reduceToNat, Int.reduceNeg, f6, f13, f77, hge5, y1, y3, hl64, tk, z2]
          exact hB.addSet (Nat.le_refl _) _
end Go.Proofs.YtnpacofabdgcdaaDoor
