/- The reference's tag of bytes; no condition but those in the statements. -/
import Derived.Test.YtnpacofabdgcdaaDoorRed
import Derived.Test.YtnpacofabdgcdaaDoorCha
namespace Go.Proofs.YtnpacofabdgcdaaDoor
open Go Go.V
set_option linter.unusedSimpArgs false
set_option linter.unusedVariables false
set_option maxRecDepth 100000
def clampD (key : List Nat) (i : Nat) : Nat := if i % 4 = 3 then key.getD i 0 % 16 else if i % 4 = 0 ∧ 0 < i then key.getD i 0 / 4 * 4 else key.getD i 0
def clampL (key : List Nat) : List Nat := (List.range 16).map (clampD key)
def blkD (data : List Nat) (k : Nat) : List Nat := (data.drop (16 * k)).take 16 ++ [1]
def accN (r : Nat) (data : List Nat) : Nat → Nat
  | 0 => 0
  | k + 1 => (accN r data k + valD (blkD data k)) * r % P130
def tagN (key data : List Nat) : Nat := accN (valD (clampL key)) data ((data.length + 15) / 16) + valD ((key.drop 16).take 16)
def tagL (key data : List Nat) : List Nat := (List.range 16).map fun i => tagN key data / 256 ^ i % 256
theorem clampL_length (key : List Nat) : (clampL key).length = 16 := by simp [clampL]
theorem tagL_length (key data : List Nat) : (tagL key data).length = 16 := by simp [tagL]
theorem map_range_getD (f : Nat → Nat) (n i : Nat) (hi : i < n) : ((List.range n).map f).getD i 0 = f i := by
  rw [List.getD_eq_getElem?_getD, List.getElem?_eq_getElem (by simpa using hi)]; simp
theorem clampD_lt {key : List Nat} (w : ∀ x ∈ key, x < 256) (i : Nat) : clampD key i < 256 := by
  have := getD_byte w i
  unfold clampD
  split
  · omega
  · split <;> omega
theorem clampL_dg {key : List Nat} (w : ∀ x ∈ key, x < 256) : Dg (clampL key) := by
  intro x hx
  obtain ⟨i, _, rfl⟩ := List.mem_map.1 hx
  exact clampD_lt w i
theorem Bs_take {h : Hp} {p : Option Addr} {c n : Nat} {l : List Nat} (s : Bs h (.slice p n c) l) {m : Nat} (hm : m ≤ l.length) (c' : Nat) : Bs h (.slice p m c') (l.take m) := by
  refine ⟨?_, fun x hx => s.byte x (List.mem_of_mem_take hx)⟩
  obtain ⟨p', cap, hv, hl, hc⟩ := s.sl
  simp only [Value.slice.injEq] at hv
  obtain ⟨rfl, _, rfl⟩ := hv
  refine ⟨_, c', by rw [List.length_take, Nat.min_eq_left hm], by simp, fun hne => ?_⟩
  obtain ⟨b, o, rfl, hcs⟩ := hc (by intro e; simp at e; subst e; simp at hne)
  refine ⟨b, o, rfl, fun i hi => ?_⟩
  have hi' : i < m ∧ i < l.length := by rw [List.length_map, List.length_take] at hi; omega
  rw [hcs i (by simp; omega)]
  simp
theorem Bs_mid {h : Hp} {p : Option Addr} {c n : Nat} {l : List Nat} (s : Bs h (.slice p n c) l) (hn : l.length = n) {k m : Nat} (hk : k + m ≤ n) (hcap : n ≤ c) (c' : Nat) : Bs h (.slice (subA p 1 c k) m c') ((l.drop k).take m) :=
  Bs_take (Bs_back s hn (k := k) (by omega) hcap c') (by rw [List.length_drop]; omega) c'
set_option maxHeartbeats 2000000 in
theorem tagged_ok (T : World) (h : Hp) (v u : Value) (key data : List Nat) (sk : Bs h v key) (sd : Bs h u data) (hk : key.length = 32) (hd : data.length ≤ 4000) (ck : Cap v) (cu : Cap u) :
    CallsH Tryd.prog T 205 #[v, u] h fun v' h' => OBs h.size 5 h' v' (tagL key data) ∧ Bel h.size h h' := by
  have wk := sk.byte
  have wd := sd.byte
  obtain ⟨p, c, rfl, hkc⟩ := sk.opend
  obtain ⟨bb, oo, rfl, hbb, hkc⟩ := hkc (by intro e; subst e; simp at hk)
  obtain ⟨q, d, rfl, hdc⟩ := sd.opend
  have ck : key.length ≤ c := ck
  have cu : data.length ≤ d := cu
  refine CallsH.of_code' (args := [_, _]) Tryd.func205 rfl rfl rfl rfl ?_
  simp (config := {maxSteps := 2000000, implicitDefEqProofs := false}) only [go_sem, ↓reduceIte, Nat.reduceEqDiff, Nat.reduceAdd, Nat.reduceMul, Nat.reduceLeDiff, Nat.reduceLT, Nat.reduceSub, IntWalk.iteOmega, IntWalk.toNatUp, reduceCtorEq, Int.reduceLE, Int.reduceLT, Int.reduceToNat, Int.reduceNeg]
  refine VS.loop' (fun F g => Bel h.size h g ∧ F 0 = .slice (some ⟨bb, oo, none⟩) key.length c ∧ F 1 = .slice q data.length d ∧ ∃ i : Nat, i ≤ 16 ∧ F 6 = .int .i64 i ∧ IO h.size g (F 5) ((clampL key).take i))
    (fun F _ => 16 - (vi (F 6)).toNat) rfl ⟨Bel.refl _ _, rfl, rfl, 0, by omega, rfl, Ots.nil _ _ _ _ _⟩ ?_
  rintro F g ⟨hg, f0, f1, i, hi, f6, ho⟩
  by_cases hlt : i < 16
  · have hlt' : (i : Int) < 16 := by omega
    have hik : (i : Int) < key.length := by omega
    have g1 : V.hc g ⟨bb, oo + i, none⟩ = some (.int .u8 (key.getD i 0 : Nat)) := by rw [hg.hc (by exact hbb)]; exact hkc i (by omega)
    have hx := getD_byte wk i
    have hcl : (clampL key).getD i 0 = clampD key i := map_range_getD _ 16 i hlt
    have em : ((i : Nat) : Int).tmod 4 = ((i % 4 : Nat) : Int) := rfl
    have hdef : clampD key i = if i % 4 = 3 then key.getD i 0 % 16 else if i % 4 = 0 ∧ 0 < i then key.getD i 0 / 4 * 4 else key.getD i 0 := rfl
    obtain ⟨x, hxx⟩ : ∃ x, x = key.getD i 0 := ⟨_, rfl⟩
    rw [← hxx] at g1 hx hdef
    have e16 : ((x : Nat) : Int).tmod 16 = ((x % 16 : Nat) : Int) := rfl
    have e4 : ((x : Nat) : Int).tdiv 4 = ((x / 4 : Nat) : Int) := rfl
    have e44 : ((x / 4 : Nat) : Int) * 4 = ((x / 4 * 4 : Nat) : Int) := by omega
    by_cases h3 : i % 4 = 3
    · have c3 : ((i % 4 : Nat) : Int) = 3 := by omega
      have c0 : ¬ (3 : Int) = 0 := by omega
      rw [if_pos h3] at hdef
      simp (config := {maxSteps := 2000000, implicitDefEqProofs := false}) only [go_sem, ↓reduceIte, Nat.reduceEqDiff, Nat.reduceAdd, Nat.reduceMul, Nat.reduceLeDiff, Nat.reduceLT, Nat.reduceSub, IntWalk.iteOmega, IntWalk.toNatUp, reduceCtorEq, Int.reduceLE, Int.reduceLT, Int.reduceToNat, Int.reduceNeg, f0, f1, f6, hlt', hik, g1, em, c3, c0, e16]
      refine append_ts (E := 3) (B := h.size) (n := 1) (bytes := 8) tsl155 Tryd.underlying155 tn3 tz3 rfl tb3 (fun _ => rfl) (ho.push _) (by have := hg.size; simp; omega) (Ts.one (enc := fun x => [nv x]) (x % 16) (fun _ => rfl) 1) ?_ (by omega) ?_
      · simp only [List.length_take, clampL_length, List.length_singleton]; omega
      intro v' h' ho' hb' _
      simp (config := {maxSteps := 2000000, implicitDefEqProofs := false}) only [go_sem, ↓reduceIte, Nat.reduceEqDiff, Nat.reduceAdd, Nat.reduceMul, Nat.reduceLeDiff, Nat.reduceLT, Nat.reduceSub, IntWalk.iteOmega, IntWalk.toNatUp, reduceCtorEq, Int.reduceLE, Int.reduceLT, Int.reduceToNat, Int.reduceNeg, f0, f1, f6]
      refine ⟨⟨(hg.addP hg.size _).trans hb', f0, f1, i + 1, hlt, rfl, IO.snoc_at (by rw [clampL_length]; exact hlt) (by rw [hcl, hdef]; exact ho')⟩, ?_⟩
      simp only [vi, updo_some, ↓reduceIte, f6]; omega
    · have c3 : ¬ ((i % 4 : Nat) : Int) = 3 := by omega
      by_cases h0 : i % 4 = 0
      · by_cases hp : 0 < i
        · have c0 : ((i % 4 : Nat) : Int) = 0 := by omega
          have cp : 0 < (i : Int) := by omega
          have c3' : ¬ (0 : Int) = 3 := by omega
          rw [if_neg h3, if_pos ⟨h0, hp⟩] at hdef
          simp (config := {maxSteps := 2000000, implicitDefEqProofs := false}) only [go_sem, ↓reduceIte, Nat.reduceEqDiff, Nat.reduceAdd, Nat.reduceMul, Nat.reduceLeDiff, Nat.reduceLT, Nat.reduceSub, IntWalk.iteOmega, IntWalk.toNatUp, reduceCtorEq, Int.reduceLE, Int.reduceLT, Int.reduceToNat, Int.reduceNeg, f0, f1, f6, hlt', hik, g1, em, c0, c3', cp, e4, e44]
          refine append_ts (E := 3) (B := h.size) (n := 1) (bytes := 8) tsl155 Tryd.underlying155 tn3 tz3 rfl tb3 (fun _ => rfl) (ho.push _) (by have := hg.size; simp; omega) (Ts.one (enc := fun x => [nv x]) (x / 4 * 4) (fun _ => rfl) 1) ?_ (by omega) ?_
          · simp only [List.length_take, clampL_length, List.length_singleton]; omega
          intro v' h' ho' hb' _
          simp (config := {maxSteps := 2000000, implicitDefEqProofs := false}) only [go_sem, ↓reduceIte, Nat.reduceEqDiff, Nat.reduceAdd, Nat.reduceMul, Nat.reduceLeDiff, Nat.reduceLT, Nat.reduceSub, IntWalk.iteOmega, IntWalk.toNatUp, reduceCtorEq, Int.reduceLE, Int.reduceLT, Int.reduceToNat, Int.reduceNeg, f0, f1, f6]
          refine ⟨⟨(hg.addP hg.size _).trans hb', f0, f1, i + 1, hlt, rfl, IO.snoc_at (by rw [clampL_length]; exact hlt) (by rw [hcl, hdef]; exact ho')⟩, ?_⟩
          simp only [vi, updo_some, ↓reduceIte, f6]; omega
        · have c0 : ((i % 4 : Nat) : Int) = 0 := by omega
          have cp : ¬ 0 < (i : Int) := by omega
          have c3' : ¬ (0 : Int) = 3 := by omega
          rw [if_neg h3, if_neg (fun e => hp e.2)] at hdef
          simp (config := {maxSteps := 2000000, implicitDefEqProofs := false}) only [go_sem, ↓reduceIte, Nat.reduceEqDiff, Nat.reduceAdd, Nat.reduceMul, Nat.reduceLeDiff, Nat.reduceLT, Nat.reduceSub, IntWalk.iteOmega, IntWalk.toNatUp, reduceCtorEq, Int.reduceLE, Int.reduceLT, Int.reduceToNat, Int.reduceNeg, f0, f1, f6, hlt', hik, g1, em, c0, c3', cp]
          refine append_ts (E := 3) (B := h.size) (n := 1) (bytes := 8) tsl155 Tryd.underlying155 tn3 tz3 rfl tb3 (fun _ => rfl) (ho.push _) (by have := hg.size; simp; omega) (Ts.one (enc := fun x => [nv x]) (x) (fun _ => rfl) 1) ?_ (by omega) ?_
          · simp only [List.length_take, clampL_length, List.length_singleton]; omega
          intro v' h' ho' hb' _
          simp (config := {maxSteps := 2000000, implicitDefEqProofs := false}) only [go_sem, ↓reduceIte, Nat.reduceEqDiff, Nat.reduceAdd, Nat.reduceMul, Nat.reduceLeDiff, Nat.reduceLT, Nat.reduceSub, IntWalk.iteOmega, IntWalk.toNatUp, reduceCtorEq, Int.reduceLE, Int.reduceLT, Int.reduceToNat, Int.reduceNeg, f0, f1, f6]
          refine ⟨⟨(hg.addP hg.size _).trans hb', f0, f1, i + 1, hlt, rfl, IO.snoc_at (by rw [clampL_length]; exact hlt) (by rw [hcl, hdef]; exact ho')⟩, ?_⟩
          simp only [vi, updo_some, ↓reduceIte, f6]; omega
      · have c0 : ¬ ((i % 4 : Nat) : Int) = 0 := by omega
        rw [if_neg h3, if_neg (fun e => h0 e.1)] at hdef
        simp (config := {maxSteps := 2000000, implicitDefEqProofs := false}) only [go_sem, ↓reduceIte, Nat.reduceEqDiff, Nat.reduceAdd, Nat.reduceMul, Nat.reduceLeDiff, Nat.reduceLT, Nat.reduceSub, IntWalk.iteOmega, IntWalk.toNatUp, reduceCtorEq, Int.reduceLE, Int.reduceLT, Int.reduceToNat, Int.reduceNeg, f0, f1, f6, hlt', hik, g1, em, c3, c0]
        refine append_ts (E := 3) (B := h.size) (n := 1) (bytes := 8) tsl155 Tryd.underlying155 tn3 tz3 rfl tb3 (fun _ => rfl) (ho.push _) (by have := hg.size; simp; omega) (Ts.one (enc := fun x => [nv x]) (x) (fun _ => rfl) 1) ?_ (by omega) ?_
        · simp only [List.length_take, clampL_length, List.length_singleton]; omega
        intro v' h' ho' hb' _
        simp (config := {maxSteps := 2000000, implicitDefEqProofs := false}) only [go_sem, ↓reduceIte, Nat.reduceEqDiff, Nat.reduceAdd, Nat.reduceMul, Nat.reduceLeDiff, Nat.reduceLT, Nat.reduceSub, IntWalk.iteOmega, IntWalk.toNatUp, reduceCtorEq, Int.reduceLE, Int.reduceLT, Int.reduceToNat, Int.reduceNeg, f0, f1, f6]
        refine ⟨⟨(hg.addP hg.size _).trans hb', f0, f1, i + 1, hlt, rfl, IO.snoc_at (by rw [clampL_length]; exact hlt) (by rw [hcl, hdef]; exact ho')⟩, ?_⟩
        simp only [vi, updo_some, ↓reduceIte, f6]; omega
  · have hge : ¬ (i : Int) < 16 := by omega
    obtain rfl : i = 16 := by omega
    rw [List.take_of_length_le (by rw [clampL_length]; exact Nat.le_refl _)] at ho
    have c16 : ((16 : Nat) : Int) = 16 := rfl
    rw [c16] at f6 hge
    obtain ⟨R, hR⟩ : ∃ R, R = clampL key := ⟨_, rfl⟩
    have wR : Dg R := by rw [hR]; exact clampL_dg wk
    have lR : R.length = 16 := by rw [hR]; exact clampL_length key
    have htag : ∀ i, tagN key data / 256 ^ i % 256 = (accN (valD R) data ((data.length + 15) / 16) + valD ((key.drop 16).take 16)) / 256 ^ i % 256 := fun i => by rw [hR]; rfl
    rw [← hR] at ho
    clear hR
    simp (config := {maxSteps := 2000000, implicitDefEqProofs := false}) only [go_sem, ↓reduceIte, Nat.reduceEqDiff, Nat.reduceAdd, Nat.reduceMul, Nat.reduceLeDiff, Nat.reduceLT, Nat.reduceSub, IntWalk.iteOmega, IntWalk.toNatUp, reduceCtorEq, Int.reduceLE, Int.reduceLT, Int.reduceToNat, Int.reduceNeg, f0, f1, f6, hge]
    refine VS.loop' (fun F g => Bel h.size h g ∧ F 0 = .slice (some ⟨bb, oo, none⟩) key.length c ∧ F 1 = .slice q data.length d ∧ IO h.size g (F 5) R ∧ ∃ (k : Nat) (a : List Nat), k ≤ (data.length + 15) / 16 ∧ F 9 = .int .i64 (16 * k : Nat) ∧ IO h.size g (F 8) a ∧ Dg a ∧ a.length ≤ 18 ∧ valD a = accN (valD R) data k)
      (fun F _ => data.length + 16 - (vi (F 9)).toNat) rfl ⟨hg, f0, f1, ho, 0, [], by omega, rfl, Ots.nil _ _ _ _ _, Dg.nil, by decide, rfl⟩ ?_
    clear f0 f1 f6 hg ho
    rintro F g ⟨hg, f0, f1, oR, k, a, hk', f9, oa, wa, la, hva⟩
    obtain ⟨t, ht⟩ : ∃ t, t = 16 * k := ⟨_, rfl⟩
    rw [← ht] at f9
    by_cases hlt : t < data.length
    · have hlt' : (t : Int) < data.length := by omega
      have e1 : (t : Int) + 16 = ((t + 16 : Nat) : Int) := rfl
      have hmid : ∀ m, t + m ≤ data.length → Bs g (.slice (subA q 1 d t) m (d - t)) ((data.drop t).take m) := fun m hm => Bs_mid (sd.bel hg) rfl hm cu _
      have key2 : ∃ en : Nat, t + 0 ≤ en ∧ en ≤ data.length ∧ en - t ≤ 16 ∧ (data.drop t).take (en - t) = (data.drop (16 * k)).take 16 ∧ (en = if data.length < t + 16 then data.length else t + 16) := by
        refine ⟨if data.length < t + 16 then data.length else t + 16, ?_, ?_, ?_, ?_, rfl⟩
        · split <;> omega
        · split <;> omega
        · split <;> omega
        · rw [← ht]
          split
          · rw [List.take_of_length_le (by rw [List.length_drop]; omega), List.take_of_length_le (by rw [List.length_drop]; omega)]
          · rw [Nat.add_sub_cancel_left]
      obtain ⟨en, en0, en1, en2, enl, ene⟩ := key2
      have sm := hmid (en - t) (by omega)
      rw [enl] at sm
      have hbl : ((data.drop (16 * k)).take 16).length ≤ 16 := by rw [List.length_take]; omega
      have hbb : ∀ x ∈ (data.drop (16 * k)).take 16, x < 256 := fun x hx => wd x (List.mem_of_mem_drop (List.mem_of_mem_take hx))
      have T1 : (t : Int).toNat = t := rfl
      have T2 : (en : Int).toNat = en := rfl
      have hs0 := hg.size
      have u1 : (t : Int) ≤ en := by omega
      have u2 : (en : Int) ≤ d := by omega
      have hE : (data.length < t + 16 ∧ en = data.length) ∨ (¬ data.length < t + 16 ∧ en = t + 16) := by
        by_cases hc : data.length < t + 16
        · rw [if_pos hc] at ene; exact .inl ⟨hc, ene⟩
        · rw [if_neg hc] at ene; exact .inr ⟨hc, ene⟩
      rcases hE with ⟨hc, he⟩ | ⟨hc, he⟩
      · have hc' : (data.length : Int) < ((t + 16 : Nat) : Int) := by omega
        rw [he] at u1 u2 T2 sm
        simp (config := {maxSteps := 2000000, implicitDefEqProofs := false}) only [go_sem, ↓reduceIte, Nat.reduceEqDiff, Nat.reduceAdd, Nat.reduceMul, Nat.reduceLeDiff, Nat.reduceLT, Nat.reduceSub, IntWalk.iteOmega, IntWalk.toNatUp, reduceCtorEq, Int.reduceLE, Int.reduceLT, Int.reduceToNat, Int.reduceNeg, f0, f1, f9, hlt', e1, hc', T1, T2, u1, u2, vSlcL_sub]
        refine (digitsOf_ok T _ _ _ sm hbb (by omega)).use ?_
        rintro v1 g1 ⟨o1, b1⟩
        simp (config := {maxSteps := 2000000, implicitDefEqProofs := false}) only [go_sem, ↓reduceIte, Nat.reduceEqDiff, Nat.reduceAdd, Nat.reduceMul, Nat.reduceLeDiff, Nat.reduceLT, Nat.reduceSub, IntWalk.iteOmega, IntWalk.toNatUp, reduceCtorEq, Int.reduceLE, Int.reduceLT, Int.reduceToNat, Int.reduceNeg, f0, f1, f9]
        refine append_ts (E := 3) (B := g.size) (n := 1) (bytes := 8) tsl155 Tryd.underlying155 tn3 tz3 rfl tb3 (fun _ => rfl) (o1.push _) (by have := b1.size; simp; omega) (Ts.one (enc := fun x => [nv x]) 1 (fun _ => rfl) 1) ?_ (by omega) ?_
        · simp only [List.length_singleton]; omega
        intro v2 g2 o2 b2 _
        have bb2 : Bel g.size g g2 := (b1.addP b1.size _).trans b2
        have oa2 := oa.bel bb2 (Nat.le_refl _)
        have oR2 := oR.bel bb2 (Nat.le_refl _)
        simp (config := {maxSteps := 2000000, implicitDefEqProofs := false}) only [go_sem, ↓reduceIte, Nat.reduceEqDiff, Nat.reduceAdd, Nat.reduceMul, Nat.reduceLeDiff, Nat.reduceLT, Nat.reduceSub, IntWalk.iteOmega, IntWalk.toNatUp, reduceCtorEq, Int.reduceLE, Int.reduceLT, Int.reduceToNat, Int.reduceNeg, f0, f1, f9]
        have wb : Dg ((data.drop (16 * k)).take 16 ++ [1]) := Dg.snoc hbb (by decide)
        have lb : ((data.drop (16 * k)).take 16 ++ [1]).length ≤ 17 := by rw [List.length_append, List.length_singleton]; omega
        refine (addedDigits_ok T _ _ _ a _ oa2.ts o2.ts wa wb (by omega)).use ?_
        rintro v3 g3 ⟨⟨s3, o3, w3, hv3, l3⟩, b3⟩
        have oR3 := oR2.bel b3 (Nat.le_refl _)
        simp (config := {maxSteps := 2000000, implicitDefEqProofs := false}) only [go_sem, ↓reduceIte, Nat.reduceEqDiff, Nat.reduceAdd, Nat.reduceMul, Nat.reduceLeDiff, Nat.reduceLT, Nat.reduceSub, IntWalk.iteOmega, IntWalk.toNatUp, reduceCtorEq, Int.reduceLE, Int.reduceLT, Int.reduceToNat, Int.reduceNeg, f0, f1, f9]
        refine (timesDigits_ok T _ _ _ s3 R o3.ts oR3.ts w3 wR (by omega)).use ?_
        rintro v4 g4 ⟨⟨s4, o4, w4, hv4, l4⟩, b4⟩
        have oR4 := oR3.bel b4 (Nat.le_refl _)
        simp (config := {maxSteps := 2000000, implicitDefEqProofs := false}) only [go_sem, ↓reduceIte, Nat.reduceEqDiff, Nat.reduceAdd, Nat.reduceMul, Nat.reduceLeDiff, Nat.reduceLT, Nat.reduceSub, IntWalk.iteOmega, IntWalk.toNatUp, reduceCtorEq, Int.reduceLE, Int.reduceLT, Int.reduceToNat, Int.reduceNeg, f0, f1, f9]
        refine (reduced_ok T _ _ s4 o4.ts w4 (by omega)).use ?_
        rintro v5 g5 ⟨⟨s5, o5, w5, hv5, l5⟩, b5⟩
        have oR5 := oR4.bel b5 (Nat.le_refl _)
        have z2 := bb2.size
        have z3 := b3.size
        have z4 := b4.size
        simp (config := {maxSteps := 2000000, implicitDefEqProofs := false}) only [go_sem, ↓reduceIte, Nat.reduceEqDiff, Nat.reduceAdd, Nat.reduceMul, Nat.reduceLeDiff, Nat.reduceLT, Nat.reduceSub, IntWalk.iteOmega, IntWalk.toNatUp, reduceCtorEq, Int.reduceLE, Int.reduceLT, Int.reduceToNat, Int.reduceNeg, f0, f1, f9]
        have B5 : Bel g.size g g5 := ((bb2.trans (b3.mono z2)).trans (b4.mono (by omega))).trans (b5.mono (by omega))
        refine ⟨⟨hg.trans (B5.mono hs0), f0, f1, oR5, k + 1, s5, by omega, by rw [ht]; rfl, o5.mono (by omega), w5, l5, ?_⟩, ?_⟩
        · rw [hv5, hv4, hv3, hva]; rfl
        · simp only [vi, updo_some, ↓reduceIte, f9]; omega
      · have hc' : ¬ (data.length : Int) < ((t + 16 : Nat) : Int) := by omega
        rw [he] at u1 u2 T2 sm
        simp (config := {maxSteps := 2000000, implicitDefEqProofs := false}) only [go_sem, ↓reduceIte, Nat.reduceEqDiff, Nat.reduceAdd, Nat.reduceMul, Nat.reduceLeDiff, Nat.reduceLT, Nat.reduceSub, IntWalk.iteOmega, IntWalk.toNatUp, reduceCtorEq, Int.reduceLE, Int.reduceLT, Int.reduceToNat, Int.reduceNeg, f0, f1, f9, hlt', e1, hc', T1, T2, u1, u2, vSlcL_sub]
        refine (digitsOf_ok T _ _ _ sm hbb (by omega)).use ?_
        rintro v1 g1 ⟨o1, b1⟩
        simp (config := {maxSteps := 2000000, implicitDefEqProofs := false}) only [go_sem, ↓reduceIte, Nat.reduceEqDiff, Nat.reduceAdd, Nat.reduceMul, Nat.reduceLeDiff, Nat.reduceLT, Nat.reduceSub, IntWalk.iteOmega, IntWalk.toNatUp, reduceCtorEq, Int.reduceLE, Int.reduceLT, Int.reduceToNat, Int.reduceNeg, f0, f1, f9]
        refine append_ts (E := 3) (B := g.size) (n := 1) (bytes := 8) tsl155 Tryd.underlying155 tn3 tz3 rfl tb3 (fun _ => rfl) (o1.push _) (by have := b1.size; simp; omega) (Ts.one (enc := fun x => [nv x]) 1 (fun _ => rfl) 1) ?_ (by omega) ?_
        · simp only [List.length_singleton]; omega
        intro v2 g2 o2 b2 _
        have bb2 : Bel g.size g g2 := (b1.addP b1.size _).trans b2
        have oa2 := oa.bel bb2 (Nat.le_refl _)
        have oR2 := oR.bel bb2 (Nat.le_refl _)
        simp (config := {maxSteps := 2000000, implicitDefEqProofs := false}) only [go_sem, ↓reduceIte, Nat.reduceEqDiff, Nat.reduceAdd, Nat.reduceMul, Nat.reduceLeDiff, Nat.reduceLT, Nat.reduceSub, IntWalk.iteOmega, IntWalk.toNatUp, reduceCtorEq, Int.reduceLE, Int.reduceLT, Int.reduceToNat, Int.reduceNeg, f0, f1, f9]
        have wb : Dg ((data.drop (16 * k)).take 16 ++ [1]) := Dg.snoc hbb (by decide)
        have lb : ((data.drop (16 * k)).take 16 ++ [1]).length ≤ 17 := by rw [List.length_append, List.length_singleton]; omega
        refine (addedDigits_ok T _ _ _ a _ oa2.ts o2.ts wa wb (by omega)).use ?_
        rintro v3 g3 ⟨⟨s3, o3, w3, hv3, l3⟩, b3⟩
        have oR3 := oR2.bel b3 (Nat.le_refl _)
        simp (config := {maxSteps := 2000000, implicitDefEqProofs := false}) only [go_sem, ↓reduceIte, Nat.reduceEqDiff, Nat.reduceAdd, Nat.reduceMul, Nat.reduceLeDiff, Nat.reduceLT, Nat.reduceSub, IntWalk.iteOmega, IntWalk.toNatUp, reduceCtorEq, Int.reduceLE, Int.reduceLT, Int.reduceToNat, Int.reduceNeg, f0, f1, f9]
        refine (timesDigits_ok T _ _ _ s3 R o3.ts oR3.ts w3 wR (by omega)).use ?_
        rintro v4 g4 ⟨⟨s4, o4, w4, hv4, l4⟩, b4⟩
        have oR4 := oR3.bel b4 (Nat.le_refl _)
        simp (config := {maxSteps := 2000000, implicitDefEqProofs := false}) only [go_sem, ↓reduceIte, Nat.reduceEqDiff, Nat.reduceAdd, Nat.reduceMul, Nat.reduceLeDiff, Nat.reduceLT, Nat.reduceSub, IntWalk.iteOmega, IntWalk.toNatUp, reduceCtorEq, Int.reduceLE, Int.reduceLT, Int.reduceToNat, Int.reduceNeg, f0, f1, f9]
        refine (reduced_ok T _ _ s4 o4.ts w4 (by omega)).use ?_
        rintro v5 g5 ⟨⟨s5, o5, w5, hv5, l5⟩, b5⟩
        have oR5 := oR4.bel b5 (Nat.le_refl _)
        have z2 := bb2.size
        have z3 := b3.size
        have z4 := b4.size
        simp (config := {maxSteps := 2000000, implicitDefEqProofs := false}) only [go_sem, ↓reduceIte, Nat.reduceEqDiff, Nat.reduceAdd, Nat.reduceMul, Nat.reduceLeDiff, Nat.reduceLT, Nat.reduceSub, IntWalk.iteOmega, IntWalk.toNatUp, reduceCtorEq, Int.reduceLE, Int.reduceLT, Int.reduceToNat, Int.reduceNeg, f0, f1, f9]
        have B5 : Bel g.size g g5 := ((bb2.trans (b3.mono z2)).trans (b4.mono (by omega))).trans (b5.mono (by omega))
        refine ⟨⟨hg.trans (B5.mono hs0), f0, f1, oR5, k + 1, s5, by omega, by rw [ht]; rfl, o5.mono (by omega), w5, l5, ?_⟩, ?_⟩
        · rw [hv5, hv4, hv3, hva]; rfl
        · simp only [vi, updo_some, ↓reduceIte, f9]; omega
    · have hge : ¬ (t : Int) < data.length := by omega
      obtain rfl : k = (data.length + 15) / 16 := by omega
      rw [← hva] at htag
      clear hva
      have sm : Bs g (.slice (subA (some ⟨bb, oo, none⟩) 1 c 16) 16 (c - 16)) ((key.drop 16).take 16) := Bs_mid (sk.bel hg) rfl (by omega) ck _
      have hbb2 : ∀ x ∈ (key.drop 16).take 16, x < 256 := fun x hx => wk x (List.mem_of_mem_drop (List.mem_of_mem_take hx))
      have l16 : ((key.drop 16).take 16).length = 16 := by rw [List.length_take, List.length_drop]; omega
      have u2 : (32 : Int) ≤ c := by omega
      obtain ⟨kl, hkl⟩ : ∃ kl, kl = (key.drop 16).take 16 := ⟨_, rfl⟩
      rw [← hkl] at sm hbb2 l16 htag
      clear hkl
      simp (config := {maxSteps := 2000000, implicitDefEqProofs := false}) only [go_sem, ↓reduceIte, Nat.reduceEqDiff, Nat.reduceAdd, Nat.reduceMul, Nat.reduceLeDiff, Nat.reduceLT, Nat.reduceSub, IntWalk.iteOmega, IntWalk.toNatUp, reduceCtorEq, Int.reduceLE, Int.reduceLT, Int.reduceToNat, Int.reduceNeg, f0, f1, f9, hge, u2, vSlcL_sub]
      refine (digitsOf_ok T _ _ _ sm hbb2 (by omega)).use ?_
      rintro v1 g1 ⟨o1, b1⟩
      have oa1 := oa.bel b1 (Nat.le_refl _)
      simp (config := {maxSteps := 2000000, implicitDefEqProofs := false}) only [go_sem, ↓reduceIte, Nat.reduceEqDiff, Nat.reduceAdd, Nat.reduceMul, Nat.reduceLeDiff, Nat.reduceLT, Nat.reduceSub, IntWalk.iteOmega, IntWalk.toNatUp, reduceCtorEq, Int.reduceLE, Int.reduceLT, Int.reduceToNat, Int.reduceNeg, f0, f1]
      refine (addedDigits_ok T _ _ _ a kl oa1.ts o1.ts wa hbb2 (by omega)).use ?_
      rintro v2 g2 ⟨⟨s2, o2, w2, hv2, l2⟩, b2⟩
      rw [← hv2] at htag
      have z0 := hg.size
      have z1 := b1.size
      have z2 := b2.size
      have B2 : Bel g.size g g2 := b1.trans (b2.mono z1)
      have hg2 := hg.trans (B2.mono z0)
      obtain ⟨p2, c2, rfl, hc2⟩ := nv_open o2.ts
      have hlo := (o2.mono (show g.size ≤ g1.size from z1)).own.blk
      simp (config := {maxSteps := 2000000, implicitDefEqProofs := false}) only [go_sem, ↓reduceIte, Nat.reduceEqDiff, Nat.reduceAdd, Nat.reduceMul, Nat.reduceLeDiff, Nat.reduceLT, Nat.reduceSub, IntWalk.iteOmega, IntWalk.toNatUp, reduceCtorEq, Int.reduceLE, Int.reduceLT, Int.reduceToNat, Int.reduceNeg, f0, f1]
      clear f0 f1 f9
      refine VS.loop' (fun F g' => Bel g2.size g2 g' ∧ F 15 = .slice p2 s2.length c2 ∧ ∃ i : Nat, i ≤ 16 ∧ F 17 = .int .i64 i ∧ OBs g2.size 5 g' (F 16) ((tagL key data).take i))
        (fun F _ => 16 - (vi (F 17)).toNat) rfl ⟨Bel.refl _ _, rfl, 0, by omega, rfl, OBs.nil _ _ _⟩ ?_
      rintro F g' ⟨hg', f15, i, hi, f17, ho⟩
      by_cases hlt : i < 16
      · have hlt' : (i : Int) < 16 := by omega
        have htl : (tagL key data).getD i 0 = s2.getD i 0 := by
          unfold tagL
          rw [map_range_getD _ 16 i hlt, htag, valD_digit w2]
        have hx := w2.getD i
        by_cases hs : i < s2.length
        · have hs' : (i : Int) < s2.length := by omega
          obtain ⟨b3, o3, rfl, hb3, hc3⟩ := hc2 (by intro e; subst e; simp at hs)
          have g3 : V.hc g' ⟨b3, o3 + i, none⟩ = some (.int .i64 (s2.getD i 0 : Nat)) := by rw [hg'.hc (by exact hb3)]; exact hc3 i hs
          obtain ⟨x, hxx⟩ : ∃ x, x = s2.getD i 0 := ⟨_, rfl⟩
          rw [← hxx] at htl hx g3
          have m8 : ((x : Nat) : Int) % 256 = (x : Nat) := by omega
          simp (config := {maxSteps := 2000000, implicitDefEqProofs := false}) only [go_sem, ↓reduceIte, Nat.reduceEqDiff, Nat.reduceAdd, Nat.reduceMul, Nat.reduceLeDiff, Nat.reduceLT, Nat.reduceSub, IntWalk.iteOmega, IntWalk.toNatUp, reduceCtorEq, Int.reduceLE, Int.reduceLT, Int.reduceToNat, Int.reduceNeg, f15, f17, hlt', hs', g3, m8]
          have hX : x < 256 := by omega
          refine append_bytes (E := 5) (B := g2.size) tsl29 Tryd.underlying29 tn5 tz5 tb5 (ho.push _) (by have := hg'.size; simp; omega) (Bs.one hX 1) (by simp [tagL_length]; omega) ?_
          intro v' h' ho' hb' _
          simp (config := {maxSteps := 2000000, implicitDefEqProofs := false}) only [go_sem, ↓reduceIte, Nat.reduceEqDiff, Nat.reduceAdd, Nat.reduceMul, Nat.reduceLeDiff, Nat.reduceLT, Nat.reduceSub, IntWalk.iteOmega, IntWalk.toNatUp, reduceCtorEq, Int.reduceLE, Int.reduceLT, Int.reduceToNat, Int.reduceNeg, f15, f17]
          refine ⟨⟨(hg'.addP hg'.size _).trans hb', f15, i + 1, hlt, rfl, ?_⟩, ?_⟩
          · rw [take_snoc _ i (by rw [tagL_length]; exact hlt)]
            have e : (tagL key data).getD i 0 = (tagL key data)[i]'(by rw [tagL_length]; exact hlt) := by rw [List.getD_eq_getElem?_getD, List.getElem?_eq_getElem (by rw [tagL_length]; exact hlt)]; rfl
            rw [← e, htl]; exact ho'
          · simp only [vi, updo_some, ↓reduceIte, f17]; omega
        · have hs' : ¬ (i : Int) < s2.length := by omega
          obtain ⟨x, hxx⟩ : ∃ x, x = s2.getD i 0 := ⟨_, rfl⟩
          have hx0 := getD_none hs
          rw [← hxx] at htl hx hx0
          subst hx0
          simp (config := {maxSteps := 2000000, implicitDefEqProofs := false}) only [go_sem, ↓reduceIte, Nat.reduceEqDiff, Nat.reduceAdd, Nat.reduceMul, Nat.reduceLeDiff, Nat.reduceLT, Nat.reduceSub, IntWalk.iteOmega, IntWalk.toNatUp, reduceCtorEq, Int.reduceLE, Int.reduceLT, Int.reduceToNat, Int.reduceNeg, f15, f17, hlt', hs']
          have hX : 0 < 256 := by omega
          refine append_bytes (E := 5) (B := g2.size) tsl29 Tryd.underlying29 tn5 tz5 tb5 (ho.push _) (by have := hg'.size; simp; omega) (Bs.one hX 1) (by simp [tagL_length]; omega) ?_
          intro v' h' ho' hb' _
          simp (config := {maxSteps := 2000000, implicitDefEqProofs := false}) only [go_sem, ↓reduceIte, Nat.reduceEqDiff, Nat.reduceAdd, Nat.reduceMul, Nat.reduceLeDiff, Nat.reduceLT, Nat.reduceSub, IntWalk.iteOmega, IntWalk.toNatUp, reduceCtorEq, Int.reduceLE, Int.reduceLT, Int.reduceToNat, Int.reduceNeg, f15, f17]
          refine ⟨⟨(hg'.addP hg'.size _).trans hb', f15, i + 1, hlt, rfl, ?_⟩, ?_⟩
          · rw [take_snoc _ i (by rw [tagL_length]; exact hlt)]
            have e : (tagL key data).getD i 0 = (tagL key data)[i]'(by rw [tagL_length]; exact hlt) := by rw [List.getD_eq_getElem?_getD, List.getElem?_eq_getElem (by rw [tagL_length]; exact hlt)]; rfl
            rw [← e, htl]; exact ho'
          · simp only [vi, updo_some, ↓reduceIte, f17]; omega
      · have hge : ¬ (i : Int) < 16 := by omega
        obtain rfl : i = 16 := by omega
        rw [List.take_of_length_le (by rw [tagL_length]; exact Nat.le_refl _)] at ho
        have c16 : ((16 : Nat) : Int) = 16 := rfl
        rw [c16] at f17 hge
        simp (config := {maxSteps := 2000000, implicitDefEqProofs := false}) only [go_sem, ↓reduceIte, Nat.reduceEqDiff, Nat.reduceAdd, Nat.reduceMul, Nat.reduceLeDiff, Nat.reduceLT, Nat.reduceSub, IntWalk.iteOmega, IntWalk.toNatUp, reduceCtorEq, Int.reduceLE, Int.reduceLT, Int.reduceToNat, Int.reduceNeg, f15, f17, hge]
        exact ⟨ho.mono (by omega), hg2.trans (hg'.mono (by omega))⟩
end Go.Proofs.YtnpacofabdgcdaaDoor
namespace Go.Proofs.YtnpacofabdgcdaaDoor
open Go Go.V
set_option linter.unusedSimpArgs false
set_option linter.unusedVariables false
set_option maxRecDepth 100000
def tagErr (key data : List Nat) : Int := if key.length ≠ 32 ∨ 4000 < data.length then 1 else 0
def TagRes (B : Nat) (h : Hp) (v : Value) (key data : List Nat) : Prop := ∃ w, v = .tuple #[w, .int .i64 (tagErr key data)] ∧ OBs B 5 h w (if tagErr key data = 0 then tagL key data else [])
end Go.Proofs.YtnpacofabdgcdaaDoor
