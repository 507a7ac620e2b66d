/- The digest under a key: what the program and the document compute; no condition but those in the statements. -/
import Derived.Test.YtnpacofabdgcdaaDoorShat
import Derived.Test.YtnpacofabdgcdaaDoorShaq
import Derived.Test.YtnpacofabdgcdaaDoorW14
namespace Go.Proofs.YtnpacofabdgcdaaDoor
open Go Go.V
set_option linter.unusedSimpArgs false
set_option linter.unusedVariables false
set_option maxRecDepth 100000
theorem zrep_nought (n : Nat) : zrep n [Value.int .u8 0] = (List.replicate n 0).map bv := by
  induction n with
  | zero => rfl
  | succ n ih => rw [zrep, ih]; rfl
theorem lput_front : ∀ (vs zs : List Value), vs.length ≤ zs.length → lput zs 0 vs = vs ++ zs.drop vs.length
  | [], zs, _ => by cases zs <;> rfl
  | v :: vs, [], h => by simp at h
  | v :: vs, z :: zs, h => by
    rw [lput, lput_front vs zs (by simpa using h)]
    rfl
theorem key_laid (key : List Nat) : lput ((List.replicate 64 0).map bv) 0 (((keyS key).map bv).take (min (keyS key).length 64)) = (padZ key).map bv := by
  have := keyS_length key
  rw [Nat.min_eq_left this, List.take_of_length_le (by simp), lput_front _ _ (by simp; omega), List.length_map, ← List.map_drop, List.drop_replicate, padZ, List.map_append]
theorem pad_ok (T : World) (h : Hp) (v : Value) (key : List Nat) (w : Nat) (s : Bs h v key) (hk : key.length ≤ 100000) (hw : w < 256) (tk : Tk h) :
    CallsH Tryd.prog T 122 #[v, .int .u8 w] h fun v' h' => OBs h.size 5 h' v' (padK key w) ∧ Bel h.size h h' := by
  obtain ⟨p, cp, rfl, hc1⟩ := s.open
  have hbt : Byte key := s.byte
  refine CallsH.of_code' (args := [_, _]) Tryd.func122 rfl rfl rfl rfl ?_
  by_cases e64 : 64 < key.length
  · have e64' : 64 < (key.length : Int) := by omega
    have hK : shaS key = keyS key := by unfold keyS; rw [if_pos e64]
    simp (config := {maxSteps := 2000000, implicitDefEqProofs := false}) only [go_sem, ↓reduceIte, Nat.reduceEqDiff, Nat.reduceAdd, Nat.reduceMul, Nat.reduceLeDiff, Nat.reduceLT, Nat.reduceSub, IntWalk.iteOmega, IntWalk.toNatUp, reduceCtorEq, Int.reduceLE, Int.reduceLT, Int.reduceToNat, Int.reduceNeg, e64']
    refine (sum_ok T _ _ key s hk tk).use ?_
    rintro u g ⟨ou, bg⟩
    have su := ou.bs
    rw [hK] at su
    simp (config := {maxSteps := 2000000, implicitDefEqProofs := false}) only [go_sem, ↓reduceIte, Nat.reduceEqDiff, Nat.reduceAdd, Nat.reduceMul, Nat.reduceLeDiff, Nat.reduceLT, Nat.reduceSub, IntWalk.iteOmega, IntWalk.toNatUp, reduceCtorEq, Int.reduceLE, Int.reduceLT, Int.reduceToNat, Int.reduceNeg]
    have hG : Bel h.size h (g.push (.cells (zrep 64 [Value.int .u8 0]).toArray 5)) := bg.add _
    have sK' := su.bel (Bel.push (Nat.le_refl g.size) (.cells (zrep 64 [Value.int .u8 0]).toArray 5))
    have kl := keyS_length key
    refine copy_one (o := 0) (dl := 64) (dc := 64) (c := zrep 64 [Value.int .u8 0]) (E' := 5) tsl29 tn5 get_push_last sK'.sl (bv_one _) (by rw [zrep_nought]; simp; omega) ?_
    rw [set_push_eq, zrep_nought, key_laid]
    have hG2 : Bel h.size h (g.push (.cells ((padZ key).map bv).toArray 5)) := bg.add _
    have hx0 : (g.push (.cells ((padZ key).map bv).toArray 5))[g.size]? = some (.cells (((padK key w).take 0 ++ (padZ key).drop 0).map bv ++ []).toArray 5) := by
      rw [List.take_zero, List.drop_zero, List.nil_append, List.append_nil]; exact get_push_last
    simp (config := {maxSteps := 2000000, implicitDefEqProofs := false}) only [go_sem, ↓reduceIte, Nat.reduceEqDiff, Nat.reduceAdd, Nat.reduceMul, Nat.reduceLeDiff, Nat.reduceLT, Nat.reduceSub, IntWalk.iteOmega, IntWalk.toNatUp, reduceCtorEq, Int.reduceLE, Int.reduceLT, Int.reduceToNat, Int.reduceNeg]
    refine VS.loop' (fun F' g' => Bel h.size h g' ∧ F' 1 = .int .u8 w ∧ F' 5 = .slice (some ⟨g.size, 0, none⟩) 64 64 ∧ F' 17 = .int .i64 64 ∧ ∃ i : Nat, i ≤ 64 ∧ F' 18 = .int .i64 i ∧ g'[g.size]? = some (.cells (((padK key w).take i ++ (padZ key).drop i).map bv ++ []).toArray 5))
      (fun F _ => 64 - (vi (F 18)).toNat) rfl ⟨hG2, rfl, rfl, rfl, 0, by omega, rfl, hx0⟩ ?_
    clear hG hG2 hx0 sK'
    rintro F g' ⟨hg, f1, f5, f17, i, hi, f18, hx⟩
    have hgs := lt_of_get hx
    have hfl : ((padK key w).take i ++ (padZ key).drop i).length = 64 := by rw [List.length_append, List.length_take, List.length_drop, padK_length, padZ_length]; omega
    by_cases hlt : i < 64
    · have hlt' : (i : Int) < 64 := by omega
      have q1 := cells_get (f := bv) hx (i := i) (by omega)
      have e0 : ((padK key w).take i ++ (padZ key).drop i).getD i 0 = (padZ key).getD i 0 := by
        rw [List.getD_eq_getElem?_getD, List.getElem?_append_right (by rw [List.length_take, padK_length]; omega), List.length_take, padK_length, Nat.min_eq_left (by omega), Nat.sub_self, List.getElem?_drop, Nat.add_zero, ← List.getD_eq_getElem?_getD]
      rw [e0] at q1
      unfold bv at q1
      have eX := padK_getD key w hlt
      have cs := cells_set (f := bv) hx (i := i) (by omega) ((padK key w).getD i 0) rfl
      rw [fill_stepE _ _ i (by rw [padK_length]; exact hlt) (by rw [padK_length, padZ_length])] at cs
      have hZb := getD_byte (padZ_byte hbt) i
      have ox : Unit → bitOp .xor .u8 (((padZ key).getD i 0 : Nat) : Int) (w : Int) = (((padK key w).getD i 0 : Nat) : Int) := fun _ => by rw [eX]; exact xor_u8 _ _ hZb hw
      have cs' : wr1 g' ⟨g.size, i, none⟩ (.int .u8 (((padK key w).getD i 0 : Nat) : Int)) = _ := cs
      simp (config := {maxSteps := 2000000, implicitDefEqProofs := false}) only [go_sem, ↓reduceIte, Nat.reduceEqDiff, Nat.reduceAdd, Nat.reduceMul, Nat.reduceLeDiff, Nat.reduceLT, Nat.reduceSub, IntWalk.iteOmega, IntWalk.toNatUp, reduceCtorEq, Int.reduceLE, Int.reduceLT, Int.reduceToNat, Int.reduceNeg, f1, f5, f17, f18, hlt', q1, ox (), cs']
      refine ⟨⟨hg.addSet (bg.size) _, f1, f5, f17, i + 1, hlt, rfl, cells_new hx⟩, ?_⟩
      simp only [vi, updo_some, ↓reduceIte, f18]; omega
    · have hge : ¬ (i : Int) < 64 := by omega
      obtain rfl : i = 64 := by omega
      rw [List.take_of_length_le (by rw [padK_length]; omega), List.drop_of_length_le (by rw [padZ_length]; omega), List.append_nil, List.append_nil] at hx
      simp (config := {maxSteps := 2000000, implicitDefEqProofs := false}) only [go_sem, ↓reduceIte, Nat.reduceEqDiff, Nat.reduceAdd, Nat.reduceMul, Nat.reduceLeDiff, Nat.reduceLT, Nat.reduceSub, IntWalk.iteOmega, IntWalk.toNatUp, reduceCtorEq, Int.reduceLE, Int.reduceLT, Int.reduceToNat, Int.reduceNeg, f5, f17, f18, hge]
      exact ⟨⟨.inr ⟨g.size, 64, [], bg.size, by rw [padK_length], by rw [List.append_nil]; exact hx, by simp [padK_length], by rw [padK_length]; rfl, by rw [padK_length]; omega⟩, padK_byte hbt hw⟩, hg⟩
  · have e64' : ¬ 64 < (key.length : Int) := by omega
    have hK : keyS key = key := by unfold keyS; rw [if_neg e64]
    have b0 := Bel.refl h.size h
    have su := s
    have hkk : Bs h (.slice p (keyS key).length cp) (keyS key) := by rw [hK]; exact s
    simp (config := {maxSteps := 2000000, implicitDefEqProofs := false}) only [go_sem, ↓reduceIte, Nat.reduceEqDiff, Nat.reduceAdd, Nat.reduceMul, Nat.reduceLeDiff, Nat.reduceLT, Nat.reduceSub, IntWalk.iteOmega, IntWalk.toNatUp, reduceCtorEq, Int.reduceLE, Int.reduceLT, Int.reduceToNat, Int.reduceNeg, e64']
    have hG : Bel h.size h (h.push (.cells (zrep 64 [Value.int .u8 0]).toArray 5)) := b0.add _
    have hkl : key.length = (keyS key).length := by rw [hK]
    rw [hkl]
    have sK' := hkk.bel (Bel.push (Nat.le_refl h.size) (.cells (zrep 64 [Value.int .u8 0]).toArray 5))
    have kl := keyS_length key
    refine copy_one (o := 0) (dl := 64) (dc := 64) (c := zrep 64 [Value.int .u8 0]) (E' := 5) tsl29 tn5 get_push_last sK'.sl (bv_one _) (by rw [zrep_nought]; simp; omega) ?_
    rw [set_push_eq, zrep_nought, key_laid]
    have hG2 : Bel h.size h (h.push (.cells ((padZ key).map bv).toArray 5)) := b0.add _
    have hx0 : (h.push (.cells ((padZ key).map bv).toArray 5))[h.size]? = some (.cells (((padK key w).take 0 ++ (padZ key).drop 0).map bv ++ []).toArray 5) := by
      rw [List.take_zero, List.drop_zero, List.nil_append, List.append_nil]; exact get_push_last
    simp (config := {maxSteps := 2000000, implicitDefEqProofs := false}) only [go_sem, ↓reduceIte, Nat.reduceEqDiff, Nat.reduceAdd, Nat.reduceMul, Nat.reduceLeDiff, Nat.reduceLT, Nat.reduceSub, IntWalk.iteOmega, IntWalk.toNatUp, reduceCtorEq, Int.reduceLE, Int.reduceLT, Int.reduceToNat, Int.reduceNeg]
    refine VS.loop' (fun F' g' => Bel h.size h g' ∧ F' 1 = .int .u8 w ∧ F' 5 = .slice (some ⟨h.size, 0, none⟩) 64 64 ∧ F' 17 = .int .i64 64 ∧ ∃ i : Nat, i ≤ 64 ∧ F' 18 = .int .i64 i ∧ g'[h.size]? = some (.cells (((padK key w).take i ++ (padZ key).drop i).map bv ++ []).toArray 5))
      (fun F _ => 64 - (vi (F 18)).toNat) rfl ⟨hG2, rfl, rfl, rfl, 0, by omega, rfl, hx0⟩ ?_
    clear hG hG2 hx0 sK'
    rintro F g' ⟨hg, f1, f5, f17, i, hi, f18, hx⟩
    have hgs := lt_of_get hx
    have hfl : ((padK key w).take i ++ (padZ key).drop i).length = 64 := by rw [List.length_append, List.length_take, List.length_drop, padK_length, padZ_length]; omega
    by_cases hlt : i < 64
    · have hlt' : (i : Int) < 64 := by omega
      have q1 := cells_get (f := bv) hx (i := i) (by omega)
      have e0 : ((padK key w).take i ++ (padZ key).drop i).getD i 0 = (padZ key).getD i 0 := by
        rw [List.getD_eq_getElem?_getD, List.getElem?_append_right (by rw [List.length_take, padK_length]; omega), List.length_take, padK_length, Nat.min_eq_left (by omega), Nat.sub_self, List.getElem?_drop, Nat.add_zero, ← List.getD_eq_getElem?_getD]
      rw [e0] at q1
      unfold bv at q1
      have eX := padK_getD key w hlt
      have cs := cells_set (f := bv) hx (i := i) (by omega) ((padK key w).getD i 0) rfl
      rw [fill_stepE _ _ i (by rw [padK_length]; exact hlt) (by rw [padK_length, padZ_length])] at cs
      have hZb := getD_byte (padZ_byte hbt) i
      have ox : Unit → bitOp .xor .u8 (((padZ key).getD i 0 : Nat) : Int) (w : Int) = (((padK key w).getD i 0 : Nat) : Int) := fun _ => by rw [eX]; exact xor_u8 _ _ hZb hw
      have cs' : wr1 g' ⟨h.size, i, none⟩ (.int .u8 (((padK key w).getD i 0 : Nat) : Int)) = _ := cs
      simp (config := {maxSteps := 2000000, implicitDefEqProofs := false}) only [go_sem, ↓reduceIte, Nat.reduceEqDiff, Nat.reduceAdd, Nat.reduceMul, Nat.reduceLeDiff, Nat.reduceLT, Nat.reduceSub, IntWalk.iteOmega, IntWalk.toNatUp, reduceCtorEq, Int.reduceLE, Int.reduceLT, Int.reduceToNat, Int.reduceNeg, f1, f5, f17, f18, hlt', q1, ox (), cs']
      refine ⟨⟨hg.addSet (b0.size) _, f1, f5, f17, i + 1, hlt, rfl, cells_new hx⟩, ?_⟩
      simp only [vi, updo_some, ↓reduceIte, f18]; omega
    · have hge : ¬ (i : Int) < 64 := by omega
      obtain rfl : i = 64 := by omega
      rw [List.take_of_length_le (by rw [padK_length]; omega), List.drop_of_length_le (by rw [padZ_length]; omega), List.append_nil, List.append_nil] at hx
      simp (config := {maxSteps := 2000000, implicitDefEqProofs := false}) only [go_sem, ↓reduceIte, Nat.reduceEqDiff, Nat.reduceAdd, Nat.reduceMul, Nat.reduceLeDiff, Nat.reduceLT, Nat.reduceSub, IntWalk.iteOmega, IntWalk.toNatUp, reduceCtorEq, Int.reduceLE, Int.reduceLT, Int.reduceToNat, Int.reduceNeg, f5, f17, f18, hge]
      exact ⟨⟨.inr ⟨h.size, 64, [], b0.size, by rw [padK_length], by rw [List.append_nil]; exact hx, by simp [padK_length], by rw [padK_length]; rfl, by rw [padK_length]; omega⟩, padK_byte hbt hw⟩, hg⟩
theorem mac_ok (T : World) (h : Hp) (v u : Value) (key b : List Nat) (s : Bs h v key) (sb : Bs h u b) (hk : key.length ≤ 10000) (hb : b.length ≤ 10000) (tk : Tk h) :
    CallsH Tryd.prog T 74 #[v, u] h fun v' h' => OBs h.size 5 h' v' (macS key b) ∧ Bel h.size h h' := by
  have sb0 := sb
  refine CallsH.of_code' (args := [_, _]) Tryd.func74 rfl rfl rfl rfl ?_
  simp (config := {maxSteps := 2000000, implicitDefEqProofs := false}) only [go_sem, ↓reduceIte, Nat.reduceEqDiff, Nat.reduceAdd, Nat.reduceMul, Nat.reduceLeDiff, Nat.reduceLT, Nat.reduceSub, IntWalk.iteOmega, IntWalk.toNatUp, reduceCtorEq, Int.reduceLE, Int.reduceLT, Int.reduceToNat, Int.reduceNeg]
  refine (pad_ok T h v key 92 s (by omega) (by omega) tk).use ?_
  rintro v1 h1 ⟨o1, b1⟩
  have s1 := b1.size
  simp (config := {maxSteps := 2000000, implicitDefEqProofs := false}) only [go_sem, ↓reduceIte, Nat.reduceEqDiff, Nat.reduceAdd, Nat.reduceMul, Nat.reduceLeDiff, Nat.reduceLT, Nat.reduceSub, IntWalk.iteOmega, IntWalk.toNatUp, reduceCtorEq, Int.reduceLE, Int.reduceLT, Int.reduceToNat, Int.reduceNeg]
  refine (pad_ok T h1 v key 54 (s.bel b1) (by omega) (by omega) (tk.bels b1)).use ?_
  rintro v2 h2 ⟨o2, b2⟩
  have s2 := b2.size
  have B2 := b1.trans (b2.mono s1)
  have o1' := o1.bel b2 (Nat.le_refl _)
  have l1 := padK_length key 92
  have l2 := padK_length key 54
  simp (config := {maxSteps := 2000000, implicitDefEqProofs := false}) only [go_sem, ↓reduceIte, Nat.reduceEqDiff, Nat.reduceAdd, Nat.reduceMul, Nat.reduceLeDiff, Nat.reduceLT, Nat.reduceSub, IntWalk.iteOmega, IntWalk.toNatUp, reduceCtorEq, Int.reduceLE, Int.reduceLT, Int.reduceToNat, Int.reduceNeg]
  refine append_bytes (E := 5) (B := h1.size) tsl29 Tryd.underlying29 tn5 tz5 tb5 o2 s2 (sb.bel B2) (by rw [l2]; omega) ?_
  intro v3 h3 o3 b3 _
  have s3 := b3.size
  have B3 := B2.trans (b3.mono s1)
  have o1'' := o1.bel (b2.trans b3) (Nat.le_refl _)
  simp (config := {maxSteps := 2000000, implicitDefEqProofs := false}) only [go_sem, ↓reduceIte, Nat.reduceEqDiff, Nat.reduceAdd, Nat.reduceMul, Nat.reduceLeDiff, Nat.reduceLT, Nat.reduceSub, IntWalk.iteOmega, IntWalk.toNatUp, reduceCtorEq, Int.reduceLE, Int.reduceLT, Int.reduceToNat, Int.reduceNeg]
  refine (sum_ok T h3 v3 _ o3.bs (by rw [List.length_append, l2]; omega) (tk.bels B3)).use ?_
  rintro v4 h4 ⟨o4, b4⟩
  have B4 := B3.trans (b4.mono (by omega))
  have o14 := o1''.bel b4 (Nat.le_refl _)
  simp (config := {maxSteps := 2000000, implicitDefEqProofs := false}) only [go_sem, ↓reduceIte, Nat.reduceEqDiff, Nat.reduceAdd, Nat.reduceMul, Nat.reduceLeDiff, Nat.reduceLT, Nat.reduceSub, IntWalk.iteOmega, IntWalk.toNatUp, reduceCtorEq, Int.reduceLE, Int.reduceLT, Int.reduceToNat, Int.reduceNeg]
  refine append_bytes (E := 5) (B := h.size) tsl29 Tryd.underlying29 tn5 tz5 tb5 o14 B4.size o4.bs (by rw [l1, shaS_length]; omega) ?_
  intro v5 h5 o5 b5 _
  have B5 := B4.trans b5
  simp (config := {maxSteps := 2000000, implicitDefEqProofs := false}) only [go_sem, ↓reduceIte, Nat.reduceEqDiff, Nat.reduceAdd, Nat.reduceMul, Nat.reduceLeDiff, Nat.reduceLT, Nat.reduceSub, IntWalk.iteOmega, IntWalk.toNatUp, reduceCtorEq, Int.reduceLE, Int.reduceLT, Int.reduceToNat, Int.reduceNeg]
  refine (sum_ok T h5 v5 _ o5.bs (by rw [List.length_append, l1, shaS_length]; omega) (tk.bels B5)).use ?_
  rintro v6 h6 ⟨o6, b6⟩
  simp (config := {maxSteps := 2000000, implicitDefEqProofs := false}) only [go_sem, ↓reduceIte, Nat.reduceEqDiff, Nat.reduceAdd, Nat.reduceMul, Nat.reduceLeDiff, Nat.reduceLT, Nat.reduceSub, IntWalk.iteOmega, IntWalk.toNatUp, reduceCtorEq, Int.reduceLE, Int.reduceLT, Int.reduceToNat, Int.reduceNeg]
  exact ⟨o6.mono B5.size, B5.trans (b6.mono B5.size)⟩
end Go.Proofs.YtnpacofabdgcdaaDoor
