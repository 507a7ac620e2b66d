/- The digest of bytes: what the program computes; no condition but those in the statements. -/
import Derived.Test.YtnpacofabdgcdaaDoorShab
import Derived.Test.YtnpacofabdgcdaaDoorBytes
namespace Go.Proofs.YtnpacofabdgcdaaDoor
open Go Go.V
set_option linter.unusedSimpArgs false
set_option linter.unusedVariables false
set_option maxRecDepth 100000
/-- A slice's length. -/
def slen : Value → Nat
  | .slice _ n _ => n
  | _ => 0
/-- The eight bytes of a length. -/
def lenB (n : Nat) : List Nat := 0 :: 0 :: 0 :: 0 :: high4 (8 * n)
theorem lenB_length (n : Nat) : (lenB n).length = 8 := rfl
theorem lenB_byte (n : Nat) : Byte (lenB n) := by
  intro x hx
  simp only [lenB, List.mem_cons] at hx
  rcases hx with rfl | rfl | rfl | rfl | hx
  · omega
  · omega
  · omega
  · omega
  · exact high4_byte _ x hx
theorem lenB_at {n k : Nat} (hn : n ≤ 100000) (hk : k < 8) : shrOp .i64 ((8 * n : Nat) : Int) ((56 - 8 * k : Nat) : Int) % 256 = (((lenB n).getD k 0 : Nat) : Int) := by
  rw [shr_i64 _ _ (by omega)]
  rcases k with _ | _ | _ | _ | _ | _ | _ | _ | k
  · show ((8 * n / 2 ^ 56 : Nat) : Int) % 256 = ((0 : Nat) : Int)
    rw [Nat.div_eq_of_lt (by omega)]; rfl
  · show ((8 * n / 2 ^ 48 : Nat) : Int) % 256 = ((0 : Nat) : Int)
    rw [Nat.div_eq_of_lt (by omega)]; rfl
  · show ((8 * n / 2 ^ 40 : Nat) : Int) % 256 = ((0 : Nat) : Int)
    rw [Nat.div_eq_of_lt (by omega)]; rfl
  · show ((8 * n / 2 ^ 32 : Nat) : Int) % 256 = ((0 : Nat) : Int)
    rw [Nat.div_eq_of_lt (by omega)]; rfl
  · rfl
  · rfl
  · rfl
  · show ((8 * n / 2 ^ 0 : Nat) : Int) % 256 = ((8 * n % 256 : Nat) : Int)
    rw [Nat.pow_zero, Nat.div_one]; rfl
  · omega
theorem bs_butB {x bp op m c : Nat} {h h' : Hp} {l : List Nat} (s : Bs h (.slice (some ⟨bp, op, none⟩) m c) l) (a : But (some x) h h') (hne : bp ≠ x) : Bs h' (.slice (some ⟨bp, op, none⟩) m c) l := by
  obtain ⟨⟨p, cap, hv, hl, hc⟩, hb⟩ := s
  simp only [Value.slice.injEq] at hv
  obtain ⟨rfl, hm, rfl⟩ := hv
  refine ⟨⟨_, _, by rw [hm], hl, fun hn => ?_⟩, hb⟩
  obtain ⟨b, o, hp, hcs⟩ := hc hn
  simp only [Option.some.injEq, Addr.mk.injEq, and_true] at hp
  obtain ⟨rfl, rfl⟩ := hp
  refine ⟨_, _, rfl, fun i hi => ?_⟩
  have h1 := hcs i hi
  have h2 := lt_of_hc h1
  unfold V.hc at h1 ⊢
  rw [a.block _ h2 (by intro e; exact hne (Option.some.inj e).symm)]
  exact h1
theorem bs_cutF {bp op m c : Nat} {h : Hp} {l : List Nat} (s : Bs h (.slice (some ⟨bp, op, none⟩) m c) l) {k : Nat} (hk : k ≤ l.length) (hm : l.length = m) (c' : Nat) : Bs h (.slice (some ⟨bp, op + k, none⟩) (m - k) c') (l.drop k) := by
  subst hm
  refine ⟨?_, fun x hx => s.byte x (List.mem_of_mem_drop hx)⟩
  obtain ⟨p', cap, hv, hl, hc⟩ := s.sl
  simp only [Value.slice.injEq] at hv
  obtain ⟨rfl, _, rfl⟩ := hv
  refine ⟨_, c', by rw [List.length_drop], by simp, fun hne => ?_⟩
  have hlt : k < l.length := by
    rw [← List.length_pos_iff] at hne
    simp at hne; omega
  obtain ⟨b, o, hp, hcs⟩ := hc (by intro e; simp at e; subst e; simp at hlt)
  simp only [Option.some.injEq, Addr.mk.injEq, and_true] at hp
  obtain ⟨rfl, rfl⟩ := hp
  refine ⟨_, _, rfl, fun i hi => ?_⟩
  have hi' : i < l.length - k := by simpa using hi
  rw [show op + k + i = op + (k + i) by omega, hcs (k + i) (by simp; omega)]
  simp
abbrev Tk (h : Hp) : Prop := Tab 2 wv kN h
theorem sum_ok (T : World) (h : Hp) (v : Value) (l : List Nat) (s : Bs h v l) (hl : l.length ≤ 100000) (tk : Tk h) :
    CallsH Tryd.prog T 72 #[v] h fun v' h' => OBs h.size 5 h' v' (shaS l) ∧ Bel h.size h h' := by
  obtain ⟨p, cp, rfl, hc1⟩ := s.open
  have hbt : Byte l := s.byte
  refine CallsH.of_code' (args := [_]) Tryd.func72 rfl rfl rfl rfl ?_
  simp (config := {maxSteps := 2000000, implicitDefEqProofs := false}) only [go_sem, ↓reduceIte, Nat.reduceEqDiff, Nat.reduceAdd, Nat.reduceMul, Nat.reduceLeDiff, Nat.reduceLT, Nat.reduceSub, IntWalk.iteOmega, IntWalk.toNatUp, reduceCtorEq, Int.reduceLE, Int.reduceLT, Int.reduceToNat, Int.reduceNeg]
  obtain ⟨h1, hh1⟩ : ∃ h1 : Hp, h1 = h.push (.cells (dig0.map wv).toArray 153) := ⟨_, rfl⟩
  have hs1 : h1.size = h.size + 1 := by rw [hh1]; simp
  have b1 : Bel h.size h h1 := by rw [hh1]; exact Bel.push (Nat.le_refl _) _
  have x1 : h1[h.size]? = some (.cells (dig0.map wv ++ []).toArray 153) := by rw [hh1, List.append_nil]; exact get_push_last
  change vBi Tryd.prog T .append _ _ _ _ _ (h.push (.cells (dig0.map wv).toArray 153))
  rw [← hh1]
  clear hh1
  refine append_bytes (E := 5) (B := h.size + 1) tsl29 Tryd.underlying29 tn5 tz5 tb5 (OBs.nil' _ _ _ _) (by omega) (s.bel b1) (by simp; omega) ?_
  intro w h2 o2 b2 _
  rw [List.nil_append] at o2
  simp (config := {maxSteps := 2000000, implicitDefEqProofs := false}) only [go_sem, ↓reduceIte, Nat.reduceEqDiff, Nat.reduceAdd, Nat.reduceMul, Nat.reduceLeDiff, Nat.reduceLT, Nat.reduceSub, IntWalk.iteOmega, IntWalk.toNatUp, reduceCtorEq, Int.reduceLE, Int.reduceLT, Int.reduceToNat, Int.reduceNeg]
  refine append_bytes (E := 5) (B := h.size + 1) tsl29 Tryd.underlying29 tn5 tz5 tb5 (o2.push _) (by have := b2.size; simp; omega) (Bs.one (x := 128) (by omega) 1) (by simp; omega) ?_
  intro w3 h3 o3 b3 _
  have B3 : Bel (h.size + 1) h1 h3 := (b2.addP (by have := b2.size; omega) _).trans b3
  have o3' : OBs (h.size + 1) 5 h3 w3 (markS l 0) := o3
  clear o2 o3 b2 b3
  simp (config := {maxSteps := 2000000, implicitDefEqProofs := false}) only [go_sem, ↓reduceIte, Nat.reduceEqDiff, Nat.reduceAdd, Nat.reduceMul, Nat.reduceLeDiff, Nat.reduceLT, Nat.reduceSub, IntWalk.iteOmega, IntWalk.toNatUp, reduceCtorEq, Int.reduceLE, Int.reduceLT, Int.reduceToNat, Int.reduceNeg]
  refine VS.loop' (fun F g => Bel (h.size + 1) h1 g ∧ F 0 = .slice p l.length cp ∧ F 3 = .pointer (some ⟨h.size, 0, none⟩) ∧ ∃ j : Nat, j ≤ padN l.length ∧ OBs (h.size + 1) 5 g (F 4) (markS l j))
    (fun F _ => l.length + 100 - slen (F 4)) rfl ⟨B3, rfl, rfl, 0, by omega, o3'⟩ ?_
  clear o3' B3
  rintro F g ⟨hg, f0, f3, j, hj, ho⟩
  obtain ⟨p4, c4, f4, _⟩ := ho.open
  have ml := markS_length l j
  obtain ⟨M, hM⟩ : ∃ M, M = l.length + j + 1 := ⟨_, rfl⟩
  rw [ml, ← hM] at f4
  have hp64 : padN l.length < 64 := by unfold padN; omega
  have d1 : (M : Int).tmod 64 = ((M % 64 : Nat) : Int) := rfl
  have hgs := hg.size
  by_cases hm : M % 64 = 56
  case neg =>
    have hm' : ¬ ((M % 64 : Nat) : Int) = 56 := by omega
    have hne : j ≠ padN l.length := fun e => hm (by rw [hM]; exact (pad_more hj).2 e)
    simp (config := {maxSteps := 2000000, implicitDefEqProofs := false}) only [go_sem, ↓reduceIte, Nat.reduceEqDiff, Nat.reduceAdd, Nat.reduceMul, Nat.reduceLeDiff, Nat.reduceLT, Nat.reduceSub, IntWalk.iteOmega, IntWalk.toNatUp, reduceCtorEq, Int.reduceLE, Int.reduceLT, Int.reduceToNat, Int.reduceNeg, f0, f3, f4, d1, hm']
    have ho2 := ho
    rw [f4] at ho2
    refine append_bytes (E := 5) (B := h.size + 1) tsl29 Tryd.underlying29 tn5 tz5 tb5 (ho2.push _) (by simp; omega) (Bs.one (x := 0) (by omega) 1) (by rw [ml]; simp; omega) ?_
    intro w' g' ho' hb' _
    obtain ⟨p5, c5, rfl, _⟩ := ho'.open
    simp (config := {maxSteps := 2000000, implicitDefEqProofs := false}) only [go_sem, ↓reduceIte, Nat.reduceEqDiff, Nat.reduceAdd, Nat.reduceMul, Nat.reduceLeDiff, Nat.reduceLT, Nat.reduceSub, IntWalk.iteOmega, IntWalk.toNatUp, reduceCtorEq, Int.reduceLE, Int.reduceLT, Int.reduceToNat, Int.reduceNeg, f0, f3]
    refine ⟨⟨(hg.addP (by omega) _).trans hb', f0, f3, j + 1, by omega, ?_⟩, ?_⟩
    · rw [markS_snoc]; exact ho'
    · simp only [slen, updo_some, ↓reduceIte, f4, List.length_append, ml, List.length_singleton]; omega
  have hjn : j = padN l.length := (pad_more hj).1 (by rw [← hM]; exact hm)
  have hm' : ((M % 64 : Nat) : Int) = 56 := by omega
  simp (config := {maxSteps := 2000000, implicitDefEqProofs := false}) only [go_sem, ↓reduceIte, Nat.reduceEqDiff, Nat.reduceAdd, Nat.reduceMul, Nat.reduceLeDiff, Nat.reduceLT, Nat.reduceSub, IntWalk.iteOmega, IntWalk.toNatUp, reduceCtorEq, Int.reduceLE, Int.reduceLT, Int.reduceToNat, Int.reduceNeg, f0, f3, f4, d1, hm']
  refine VS.loop' (fun F g => Bel (h.size + 1) h1 g ∧ F 0 = .slice p l.length cp ∧ F 3 = .pointer (some ⟨h.size, 0, none⟩) ∧ ∃ k : Nat, k ≤ 8 ∧ F 5 = .int .i64 (56 - 8 * (k : Int)) ∧ OBs (h.size + 1) 5 g (F 4) (markS l j ++ (lenB l.length).take k))
    (fun F _ => (vi (F 5) + 8).toNat) rfl ⟨hg, f0, f3, 0, by omega, rfl, by rw [List.take_zero, List.append_nil]; exact ho⟩ ?_
  clear f0 f3 f4 d1 hm hm' ho hg hgs F g
  rintro F g ⟨hg, f0, f3, k, hk, f5, ho⟩
  have hgs := hg.size
  obtain ⟨y, hy⟩ : ∃ y : Int, y = 56 - 8 * (k : Int) := ⟨_, rfl⟩
  rw [← hy] at f5
  by_cases hlt : k < 8
  · have hy0 : 0 ≤ y := by omega
    have hy1 : ¬ y < 0 := by omega
    obtain ⟨X, hX⟩ : ∃ X, X = (lenB l.length).getD k 0 := ⟨_, rfl⟩
    have hXb : X < 256 := by rw [hX]; exact getD_byte (lenB_byte _) k
    obtain ⟨xL, hxL⟩ : ∃ x : Int, x = ((8 * l.length : Nat) : Int) := ⟨_, rfl⟩
    have eL : Unit → 8 * (l.length : Int) = xL := fun _ => by rw [hxL]; omega
    have xLb : 0 ≤ xL ∧ xL ≤ 1000000 := by rw [hxL]; omega
    have sh : Unit → shrOp .i64 xL y % 256 = (X : Int) := fun _ => by
      rw [hxL, hy, show (56 : Int) - 8 * (k : Int) = ((56 - 8 * k : Nat) : Int) by omega, hX]; exact lenB_at hl hlt
    have ml2 : (markS l j ++ (lenB l.length).take k).length ≤ 200000 := by rw [List.length_append, ml, List.length_take]; omega
    have et : (lenB l.length).take (k + 1) = (lenB l.length).take k ++ [X] := by
      rw [take_snoc _ k (by rw [lenB_length]; exact hlt), hX, List.getD_eq_getElem?_getD, List.getElem?_eq_getElem (by rw [lenB_length]; exact hlt)]; rfl
    clear hX hxL
    simp (config := {maxSteps := 2000000, implicitDefEqProofs := false}) only [go_sem, ↓reduceIte, Nat.reduceEqDiff, Nat.reduceAdd, Nat.reduceMul, Nat.reduceLeDiff, Nat.reduceLT, Nat.reduceSub, IntWalk.iteOmega, IntWalk.toNatUp, reduceCtorEq, Int.reduceLE, Int.reduceLT, Int.reduceToNat, Int.reduceNeg, f0, f3, f5, hy0, hy1, eL (), sh ()]
    refine append_bytes (E := 5) (B := h.size + 1) tsl29 Tryd.underlying29 tn5 tz5 tb5 (ho.push _) (by simp; omega) (Bs.one hXb 1) (by simp only [List.length_singleton]; omega) ?_
    intro w' g' ho' hb' _
    simp (config := {maxSteps := 2000000, implicitDefEqProofs := false}) only [go_sem, ↓reduceIte, Nat.reduceEqDiff, Nat.reduceAdd, Nat.reduceMul, Nat.reduceLeDiff, Nat.reduceLT, Nat.reduceSub, IntWalk.iteOmega, IntWalk.toNatUp, reduceCtorEq, Int.reduceLE, Int.reduceLT, Int.reduceToNat, Int.reduceNeg, f0, f3, f5]
    refine ⟨⟨(hg.addP (by omega) _).trans hb', f0, f3, k + 1, hlt, ?_, ?_⟩, ?_⟩
    · show Value.int .i64 _ = _
      congr 1; omega
    · rw [et, ← List.append_assoc]; exact ho'
    · simp only [vi, updo_some, ↓reduceIte, f5]; omega
  · have hy0 : ¬ 0 ≤ y := by omega
    obtain rfl : k = 8 := by omega
    have ep : markS l j ++ (lenB l.length).take 8 = spadS l := by rw [hjn]; rfl
    rw [ep] at ho
    have pl := spadS_length l
    obtain ⟨N, hN⟩ : ∃ N, N = shaN l.length := ⟨_, rfl⟩
    have hN1 : 0 < N := by rw [hN]; unfold shaN; omega
    have hN2 : N ≤ 2000 := by rw [hN]; unfold shaN; omega
    rw [← hN] at pl
    have hgd := hg.get (by omega) x1
    have bh : Bel h.size h g := b1.trans (hg.mono (by omega))
    obtain ⟨bp, cP, f4, hbp, hcP⟩ : ∃ bp c, F 4 = .slice (some ⟨bp, 0, none⟩) (64 * N) c ∧ h.size + 1 ≤ bp ∧ 64 * N ≤ c := by
      rcases ho.own with ⟨_, hm, _⟩ | ⟨b, cap, sp, hB, hv, _, _, _, hc⟩
      · omega
      · rw [pl] at hv hc; exact ⟨b, cap, hv, hB, hc⟩
    have sP := ho.bs
    rw [f4] at sP
    simp (config := {maxSteps := 2000000, implicitDefEqProofs := false}) only [go_sem, ↓reduceIte, Nat.reduceEqDiff, Nat.reduceAdd, Nat.reduceMul, Nat.reduceLeDiff, Nat.reduceLT, Nat.reduceSub, IntWalk.iteOmega, IntWalk.toNatUp, reduceCtorEq, Int.reduceLE, Int.reduceLT, Int.reduceToNat, Int.reduceNeg, f0, f3, f5, hy0]
    refine VS.loop' (fun F g => Bel h.size h g ∧ F 3 = .pointer (some ⟨h.size, 0, none⟩) ∧ ∃ j op c : Nat, j ≤ N ∧ F 4 = .slice (some ⟨bp, op, none⟩) (64 * (N - j)) c ∧ 64 * (N - j) ≤ c ∧ Bs g (.slice (some ⟨bp, op, none⟩) (64 * (N - j)) c) ((spadS l).drop (64 * j)) ∧ g[h.size]? = some (.cells ((digN (spadS l) j).map wv ++ []).toArray 153))
      (fun F _ => slen (F 4)) rfl ⟨bh, f3, 0, 0, cP, by omega, f4, hcP, by exact sP, hgd⟩ ?_
    clear f0 f3 f4 f5 hy hy0 hlt ho sP hgd bh hg hgs ep hcP F g
    rintro F g ⟨hg, f3, j, op, c, hj, f4, hc, sP, hgd⟩
    have hgs := lt_of_get hgd
    by_cases hlt : j < N
    · obtain ⟨L, hL⟩ : ∃ L, L = 64 * (N - j) := ⟨_, rfl⟩
      rw [← hL] at f4 hc sP
      have hL64 : 64 ≤ L := by omega
      have hdl : ((spadS l).drop (64 * j)).length = L := by rw [List.length_drop, pl]; omega
      have hL0 : 0 < (L : Int) := by omega
      have hc64 : (64 : Int) ≤ (c : Int) := by omega
      have hc0 : ¬ c = 0 := by omega
      simp (config := {maxSteps := 2000000, implicitDefEqProofs := false}) only [go_sem, ↓reduceIte, Nat.reduceEqDiff, Nat.reduceAdd, Nat.reduceMul, Nat.reduceLeDiff, Nat.reduceLT, Nat.reduceSub, IntWalk.iteOmega, IntWalk.toNatUp, reduceCtorEq, Int.reduceLE, Int.reduceLT, Int.reduceToNat, Int.reduceNeg, f3, f4, hL0, hc64, hc0, Nat.sub_zero, Nat.zero_mul]
      have sB : Bs g (.slice (some ⟨bp, op, none⟩) 64 c) (((spadS l).drop (64 * j)).take 64) := by
        rw [← hdl] at sP; exact Bs.fore sP (by omega) c
      obtain ⟨dl, dw⟩ := digN_ok (spadS l) j
      refine (shaBlock_ok T g h.size (digN (spadS l) j) _ (((spadS l).drop (64 * j)).take 64) dl dw sB (by rw [List.length_take, hdl]; omega) (tk.bels hg) hgd (by have := tk.1; omega)).use ?_
      rintro _ g2 ⟨hbut, hx2⟩
      have hg2 : Bel h.size h g2 := hg.trans (hbut.bel (by omega) (fun b e => by have := Option.some.inj e; omega))
      have sP2 := bs_butB sP hbut (by omega)
      by_cases hce : c = 64
      · have hLe : L = 64 := by omega
        have hce' : (c : Int) = 64 := by omega
        have hLi : (L : Int) = 64 := by omega
        subst hce hLe
        simp (config := {maxSteps := 2000000, implicitDefEqProofs := false}) only [go_sem, ↓reduceIte, Nat.reduceEqDiff, Nat.reduceAdd, Nat.reduceMul, Nat.reduceLeDiff, Nat.reduceLT, Nat.reduceSub, IntWalk.iteOmega, IntWalk.toNatUp, reduceCtorEq, Int.reduceLE, Int.reduceLT, Int.reduceToNat, Int.reduceNeg, f3, f4, hce', hLi]
        refine ⟨⟨hg2, f3, j + 1, op, 0, hlt, ?_, by omega, ?_, hx2⟩, ?_⟩
        · show Value.slice _ _ _ = _
          rw [show 64 * (N - (j + 1)) = 0 by omega]
        · rw [show 64 * (N - (j + 1)) = 0 by omega, List.drop_of_length_le (by rw [pl]; omega)]
          exact (OBs.nil' 0 5 _ _).bs
        · simp only [slen, updo_some, ↓reduceIte, f4]; omega
      · have hL64i : (64 : Int) ≤ (L : Int) := by omega
        simp (config := {maxSteps := 2000000, implicitDefEqProofs := false}) only [go_sem, ↓reduceIte, Nat.reduceEqDiff, Nat.reduceAdd, Nat.reduceMul, Nat.reduceLeDiff, Nat.reduceLT, Nat.reduceSub, IntWalk.iteOmega, IntWalk.toNatUp, reduceCtorEq, Int.reduceLE, Int.reduceLT, Int.reduceToNat, Int.reduceNeg, f3, f4, hc64, hL64i, hce]
        refine ⟨⟨hg2, f3, j + 1, op + 64, c - 64, hlt, ?_, by omega, ?_, hx2⟩, ?_⟩
        · show Value.slice _ _ _ = _
          rw [show L - 64 = 64 * (N - (j + 1)) by omega]
        · have := bs_cutF sP2 (k := 64) (by omega) hdl (c - 64)
          rw [List.drop_drop, show L - 64 = 64 * (N - (j + 1)) by omega, show 64 * j + 64 = 64 * (j + 1) by omega] at this
          exact this
        · simp only [slen, updo_some, ↓reduceIte, f4]; omega
    · obtain rfl : j = N := by omega
      have eS : shaS l = cmdBytes (digN (spadS l) j) := by rw [shaS, ← hN]
      obtain ⟨dl, dw⟩ := digN_ok (spadS l) j
      obtain ⟨D, hD⟩ : ∃ D, D = digN (spadS l) j := ⟨_, rfl⟩
      rw [← hD] at dl dw hgd eS
      rw [eS]
      have r0 : rd g ⟨h.size, 0, none⟩ 8 = some (D.map wv) := by rw [List.append_nil] at hgd; exact rd_last hgd (by simp [dl])
      rw [Nat.sub_self, Nat.mul_zero] at f4
      have hz : ¬ h.size = g.size := by omega
      simp (config := {maxSteps := 2000000, implicitDefEqProofs := false}) only [go_sem, ↓reduceIte, Nat.reduceEqDiff, Nat.reduceAdd, Nat.reduceMul, Nat.reduceLeDiff, Nat.reduceLT, Nat.reduceSub, IntWalk.iteOmega, IntWalk.toNatUp, reduceCtorEq, Int.reduceLE, Int.reduceLT, Int.reduceToNat, Int.reduceNeg, f3, f4, r0, hz]
      have hBo : Bel h.size h (g.push (.cells (zrep 32 [Value.int .u8 0]).toArray 5)) := hg.add _
      have oO : OBs h.size 5 (g.push (.cells (zrep 32 [Value.int .u8 0]).toArray 5)) (.slice (some ⟨g.size, 0, none⟩) 0 32) (cmdBytes (D.take 0)) :=
        ⟨.inr ⟨g.size, 32, zrep 32 [Value.int .u8 0], hg.size, rfl, get_push_last, rfl, rfl, Nat.zero_le 32⟩, fun x hx => by cases hx⟩
      refine VS.loop' (fun F g => Bel h.size h g ∧ F 43 = .agg (D.map wv).toArray ∧ ∃ i : Nat, i ≤ 8 ∧ F 44 = .int .i64 i ∧ OBs h.size 5 g (F 6) (cmdBytes (D.take i)))
        (fun F _ => 8 - (vi (F 44)).toNat) rfl ⟨hBo, rfl, 0, by omega, rfl, oO⟩ ?_
      clear f3 f4 hlt hgd r0 hz hBo oO sP hc hg hgs g F
      rintro F g ⟨hg, f43, i, hi, f44, ho⟩
      have hgs := hg.size
      by_cases hlt : i < 8
      · have hlt' : (i : Int) < 8 := by omega
        obtain ⟨x, hx⟩ : ∃ x, x = D.getD i 0 := ⟨_, rfl⟩
        have hxb : x < 4294967296 := by rw [hx]; exact dw.getD i
        have et : D.take (i + 1) = D.take i ++ [x] := by
          rw [take_snoc _ i (by omega), hx, List.getD_eq_getElem?_getD, List.getElem?_eq_getElem (by omega)]; rfl
        obtain ⟨yx, hyx⟩ : ∃ y : Int, y = (x : Int) := ⟨_, rfl⟩
        obtain ⟨z0, hz0⟩ : ∃ y : Int, y = ((x / 16777216 % 256 : Nat) : Int) := ⟨_, rfl⟩
        obtain ⟨z1, hz1⟩ : ∃ y : Int, y = ((x / 65536 % 256 : Nat) : Int) := ⟨_, rfl⟩
        obtain ⟨z2, hz2⟩ : ∃ y : Int, y = ((x / 256 % 256 : Nat) : Int) := ⟨_, rfl⟩
        obtain ⟨z3, hz3⟩ : ∃ y : Int, y = ((x % 256 : Nat) : Int) := ⟨_, rfl⟩
        have n1 : nth (D.map wv) i = some (.int .u32 yx) := by
          rw [nth_eq, List.getElem?_map, hyx, hx, List.getD_eq_getElem?_getD, List.getElem?_eq_getElem (by omega)]; rfl
        have e1 : Unit → shrOp .u32 yx 24 % 256 = z0 := fun _ => by rw [hyx, hz0, show (24 : Int) = ((24 : Nat) : Int) from rfl, shr_u32 x 24 (by decide)]; rfl
        have e2 : Unit → shrOp .u32 yx 16 % 256 = z1 := fun _ => by rw [hyx, hz1, show (16 : Int) = ((16 : Nat) : Int) from rfl, shr_u32 x 16 (by decide)]; rfl
        have e3 : Unit → shrOp .u32 yx 8 % 256 = z2 := fun _ => by rw [hyx, hz2, show (8 : Int) = ((8 : Nat) : Int) from rfl, shr_u32 x 8 (by decide)]; rfl
        have e4 : Unit → yx % 256 = z3 := fun _ => by rw [hyx, hz3]; rfl
        have hcl : (cmdBytes (D.take i)).length ≤ 32 := by rw [cmdBytes_length, List.length_take]; omega
        clear hyx hx
        simp (config := {maxSteps := 2000000, implicitDefEqProofs := false}) only [go_sem, ↓reduceIte, Nat.reduceEqDiff, Nat.reduceAdd, Nat.reduceMul, Nat.reduceLeDiff, Nat.reduceLT, Nat.reduceSub, IntWalk.iteOmega, IntWalk.toNatUp, reduceCtorEq, Int.reduceLE, Int.reduceLT, Int.reduceToNat, Int.reduceNeg, f43, f44, hlt', n1, e1 (), e2 (), e3 (), e4 ()]
        subst hz0 hz1 hz2 hz3
        refine append_bytes (E := 5) (B := h.size) tsl29 Tryd.underlying29 tn5 tz5 tb5 (ho.push _) (by simp; omega) (Bs.made (l := high4 x) (high4_byte x) 4) (by simp [high4]; omega) ?_
        intro w' g' ho' hb' _
        simp (config := {maxSteps := 2000000, implicitDefEqProofs := false}) only [go_sem, ↓reduceIte, Nat.reduceEqDiff, Nat.reduceAdd, Nat.reduceMul, Nat.reduceLeDiff, Nat.reduceLT, Nat.reduceSub, IntWalk.iteOmega, IntWalk.toNatUp, reduceCtorEq, Int.reduceLE, Int.reduceLT, Int.reduceToNat, Int.reduceNeg, f43, f44]
        refine ⟨⟨(hg.add _).trans hb', f43, i + 1, hlt, rfl, ?_⟩, ?_⟩
        · rw [et]
          unfold cmdBytes at ho' ⊢
          rw [List.flatMap_append]
          simp only [List.flatMap_cons, List.flatMap_nil, List.append_nil]
          exact ho'
        · simp only [vi, updo_some, ↓reduceIte, f44]; omega
      · have hge : ¬ (i : Int) < 8 := by omega
        obtain rfl : i = 8 := by omega
        rw [List.take_of_length_le (by omega)] at ho
        simp (config := {maxSteps := 2000000, implicitDefEqProofs := false}) only [go_sem, ↓reduceIte, Nat.reduceEqDiff, Nat.reduceAdd, Nat.reduceMul, Nat.reduceLeDiff, Nat.reduceLT, Nat.reduceSub, IntWalk.iteOmega, IntWalk.toNatUp, reduceCtorEq, Int.reduceLE, Int.reduceLT, Int.reduceToNat, Int.reduceNeg, f43, f44, hge]
        exact ⟨ho, hg⟩
/-- What the digest's function answers of a length. -/
def sumErr (n : Nat) : Int := if 2000 < n then 1 else 0
def SumRes (B : Nat) (h' : Hp) (v' : Value) (l : List Nat) : Prop := ∃ w, v' = .tuple [w, .int .i64 (sumErr l.length)].toArray ∧ OBs B 5 h' w (if sumErr l.length = 0 then shaS l else [])
end Go.Proofs.YtnpacofabdgcdaaDoor
