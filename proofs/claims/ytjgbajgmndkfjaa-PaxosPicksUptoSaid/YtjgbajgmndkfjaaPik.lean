/- What must be proposed, as the program picks it; no condition but those in the statements. -/
import Derived.Test.YtjgbajgmndkfjaaPaxp
namespace Go.Proofs.Ytjgbajgmndkfjaa
open Go Go.V
set_option linter.unusedSimpArgs false
set_option linter.unusedVariables false
set_option maxRecDepth 100000
theorem set_newP {g : Hp} {b : Nat} {o o' : Obj} (hx : g[b]? = some o') : (g.setIfInBounds b o)[b]? = some o := by rw [Array.getElem?_setIfInBounds, if_pos rfl, if_pos (lt_of_get hx)]
def vt0 : Vt := ⟨0, ⟨0, 0⟩, 0, 0, 0, 0, 0⟩
def cmdV (v : Vt) : List Value := [.int .i64 v.k, .int .i64 v.c, .int .i64 v.s, .int .i64 v.nm, .int .i64 v.v]
def pickB (slot : Int) (best v : Vt) : Vt := if v.slot = slot ∧ below best.b v.b then v else best
def bestOf (slot : Int) (l : List Vt) : Vt := l.foldl (pickB slot) vt0
def mayAll (l : List Vt) : Bool := l.all fun v => decide (voteMay v)
def pickErr (slot : Int) (l : List Vt) : Int := if slot < 0 ∨ 39 < slot then 2 else if mayAll l = true then 0 else 5
def PickRes (v' : Value) (slot : Int) (l : List Vt) : Prop :=
  v' = .tuple [.agg (cmdV (if pickErr slot l = 0 then bestOf slot l else vt0)).toArray, .bool (if pickErr slot l = 0 then decide (0 < (bestOf slot l).b.r) else false), .int .i64 (pickErr slot l)].toArray
/-- A slice of slices of votes. -/
def Vss (h : Hp) (v : Value) (LL : List (List Vt)) : Prop := ∃ p c, v = .slice p LL.length c ∧ (LL ≠ [] → ∃ b o, p = some ⟨b, o, none⟩ ∧ b < h.size ∧ ∀ i (hi : i < LL.length), ∃ w, hc h ⟨b, o + i, none⟩ = some w ∧ Ts voteC 8 h w LL[i] ∧ LL[i].length ≤ 2199023255552)
theorem Vss.bel {h h' : Hp} {v : Value} {LL : List (List Vt)} (s : Vss h v LL) (a : Bel h.size h h') : Vss h' v LL := by
  obtain ⟨p, c, hv, hc1⟩ := s
  refine ⟨p, c, hv, fun hne => ?_⟩
  obtain ⟨b, o, hp, hb, hcs⟩ := hc1 hne
  refine ⟨b, o, hp, Nat.lt_of_lt_of_le hb a.size, fun i hi => ?_⟩
  obtain ⟨w, h1, h2, h3⟩ := hcs i hi
  exact ⟨w, by rw [a.hc (by exact hb)]; exact h1, h2.bel a, h3⟩
theorem take_flat (LL : List (List Vt)) (i : Nat) (hi : i < LL.length) : (LL.take (i + 1)).flatten = (LL.take i).flatten ++ LL[i] := by
  rw [take_snoc LL i hi, List.flatten_append, List.flatten_singleton]
theorem mayAll_app (a b : List Vt) : mayAll (a ++ b) = (mayAll a && mayAll b) := by simp [mayAll]
theorem mayAll_false {l : List Vt} {v : Vt} (hv : v ∈ l) (hm : ¬ voteMay v) : mayAll l = false := by
  rw [mayAll, List.all_eq_false]
  exact ⟨v, hv, by simpa using hm⟩
set_option maxHeartbeats 1000000 in
theorem pick_ok (T : World) (h : Hp) (u : Value) (LL : List (List Vt)) (slot : Int) (s : Vss h u LL) (hL : LL.length ≤ 4611686018427387904) :
    CallsH Try.prog T 64 #[u, .int .i64 slot] h fun v' h' => PickRes v' slot LL.flatten ∧ Bel h.size h h' := by
  have hpe : pickErr slot LL.flatten = if slot < 0 ∨ 39 < slot then 2 else if mayAll LL.flatten = true then 0 else 5 := rfl
  obtain ⟨p, c, rfl, hcs⟩ := s
  refine CallsH.of_code2 (args := [_, _]) Try.func64 rfl rfl rfl rfl ?_
  unfold PickRes
  by_cases q1 : slot < 0
  · rw [if_pos (.inl q1)] at hpe
    simp (config := {maxSteps := 2000000, implicitDefEqProofs := false}) only [go_sem, ↓reduceIte, Nat.reduceEqDiff, Nat.reduceAdd, Nat.reduceMul, Nat.reduceLeDiff, Nat.reduceLT, Nat.reduceSub, IntWalk.iteOmega, IntWalk.toNatUp, reduceCtorEq, false_and, and_false, false_or, or_false, true_or, or_true, not_true_eq_false, not_false_eq_true, Bool.not_true, Bool.not_false, Bool.and_true, Bool.true_and, Bool.and_false, Bool.false_and, Bool.not_eq_true, beq_self_eq_true, Nat.add_zero, Int.reduceLE, Int.reduceLT, Int.reduceToNat, Int.reduceNeg, q1, hpe]
    rfl
  · by_cases q2 : 39 < slot
    · rw [if_pos (.inr q2)] at hpe
      have q2' : 40 ≤ slot := by omega
      simp (config := {maxSteps := 2000000, implicitDefEqProofs := false}) only [go_sem, ↓reduceIte, Nat.reduceEqDiff, Nat.reduceAdd, Nat.reduceMul, Nat.reduceLeDiff, Nat.reduceLT, Nat.reduceSub, IntWalk.iteOmega, IntWalk.toNatUp, reduceCtorEq, false_and, and_false, false_or, or_false, true_or, or_true, not_true_eq_false, not_false_eq_true, Bool.not_true, Bool.not_false, Bool.and_true, Bool.true_and, Bool.and_false, Bool.false_and, Bool.not_eq_true, beq_self_eq_true, Nat.add_zero, Int.reduceLE, Int.reduceLT, Int.reduceToNat, Int.reduceNeg, q1, q2', hpe]
      rfl
    · rw [if_neg (by omega)] at hpe
      have q2' : ¬ 40 ≤ slot := by omega
      simp (config := {maxSteps := 2000000, implicitDefEqProofs := false}) only [go_sem, ↓reduceIte, Nat.reduceEqDiff, Nat.reduceAdd, Nat.reduceMul, Nat.reduceLeDiff, Nat.reduceLT, Nat.reduceSub, IntWalk.iteOmega, IntWalk.toNatUp, reduceCtorEq, false_and, and_false, false_or, or_false, true_or, or_true, not_true_eq_false, not_false_eq_true, Bool.not_true, Bool.not_false, Bool.and_true, Bool.true_and, Bool.and_false, Bool.false_and, Bool.not_eq_true, beq_self_eq_true, Nat.add_zero, Int.reduceLE, Int.reduceLT, Int.reduceToNat, Int.reduceNeg, q1, q2']
      obtain ⟨H, hH⟩ : ∃ H : Hp, H = (h.push (.cells #[.int .i64 0, .int .i64 0, .int .i64 0, .int .i64 0, .int .i64 0] 48)).push (.cells #[.int .i64 0, .int .i64 0, .int .i64 0, .int .i64 0, .int .i64 0, .int .i64 0, .int .i64 0, .int .i64 0] 102) := ⟨_, rfl⟩
      have HB : Bel h.size h H := by rw [hH]; (repeat' (first | exact Bel.refl _ _ | assumption | refine Bel.add ?_ _ | refine Bel.addSet ?_ (by first | omega | (simp; omega)) _ | refine Bel.trans (by assumption) ?_))
      have HZ : H[h.size]? = some (.cells (cmdV vt0).toArray 48) := by rw [hH, get_push_ne (by simp), get_push_last]; rfl
      have HV : H[h.size + 1]? = some (.cells (voteC vt0).toArray 102) := by
        have := get_push_last (h := h.push (.cells #[.int .i64 0, .int .i64 0, .int .i64 0, .int .i64 0, .int .i64 0] 48)) (o := .cells #[.int .i64 0, .int .i64 0, .int .i64 0, .int .i64 0, .int .i64 0, .int .i64 0, .int .i64 0, .int .i64 0] 102)
        rw [Array.size_push] at this
        rw [hH, this]; rfl
      rw [← hH]
      clear hH
      have wz : ∀ g : Hp, g[h.size]? = some (.cells (cmdV vt0).toArray 48) → ∀ w : List Value, w.length = 5 → w.all oneC = true → wr g ⟨h.size, 0, none⟩ w = some (g.setIfInBounds h.size (.cells w.toArray 48)) := by
        intro g hg w h5 h1
        rw [wr_get hg 0 w, lput_full (by rw [h5]; rfl), if_pos ⟨by rw [h5]; exact Nat.le_refl _, h1⟩]
      refine VS.loop' (fun F g => F 1 = .int .i64 slot ∧ F 4 = .pointer (some ⟨h.size, 0, none⟩) ∧ F 7 = .pointer (some ⟨h.size + 1, 0, none⟩) ∧ F 19 = .slice p LL.length c ∧ F 20 = .int .i64 LL.length ∧ Bel h.size h g ∧ g[h.size]? = some (.cells (cmdV vt0).toArray 48) ∧ ∃ i : Nat, i ≤ LL.length ∧ F 21 = .int .i64 i ∧ g[h.size + 1]? = some (.cells (voteC (bestOf slot (LL.take i).flatten)).toArray 102) ∧ mayAll (LL.take i).flatten = true)
        (fun F _ => LL.length - (vi (F 21)).toNat) rfl ⟨rfl, rfl, rfl, rfl, rfl, HB, HZ, 0, by omega, rfl, HV, rfl⟩ ?_
      clear HB HZ HV H
      rintro F g ⟨f1, f4, f7, f19, f20, hg, gZ, i, hi, f21, gV, hall⟩
      have zV := lt_of_get gV
      by_cases hlt : i < LL.length
      · have hlt' : (i : Int) < LL.length := by omega
        obtain ⟨bb, oo, rfl, hbb, hcs⟩ := hcs (by intro e; rw [e] at hlt; simp at hlt)
        obtain ⟨w, hw, tw, hwl⟩ := hcs i hlt
        have hw' : V.hc g ⟨bb, oo + i, none⟩ = some w := by rw [hg.hc (by exact hbb)]; exact hw
        have hflat := take_flat LL i hlt
        have hmemLL : LL[i] ∈ LL := List.getElem_mem hlt
        obtain ⟨L, hLi⟩ : ∃ L, L = LL[i] := ⟨_, rfl⟩
        rw [← hLi] at tw hwl hflat hmemLL
        obtain ⟨pw, cw, rfl, hwc⟩ := votes_open tw
        simp (config := {maxSteps := 2000000, implicitDefEqProofs := false}) only [go_sem, ↓reduceIte, Nat.reduceEqDiff, Nat.reduceAdd, Nat.reduceMul, Nat.reduceLeDiff, Nat.reduceLT, Nat.reduceSub, IntWalk.iteOmega, IntWalk.toNatUp, reduceCtorEq, false_and, and_false, false_or, or_false, true_or, or_true, not_true_eq_false, not_false_eq_true, Bool.not_true, Bool.not_false, Bool.and_true, Bool.true_and, Bool.and_false, Bool.false_and, Bool.not_eq_true, beq_self_eq_true, Nat.add_zero, Int.reduceLE, Int.reduceLT, Int.reduceToNat, Int.reduceNeg, f1, f4, f7, f19, f20, f21, hlt', Int.toNat_natCast, hw']
        refine VS.loop' (fun F g => F 1 = .int .i64 slot ∧ F 4 = .pointer (some ⟨h.size, 0, none⟩) ∧ F 7 = .pointer (some ⟨h.size + 1, 0, none⟩) ∧ F 19 = .slice (some ⟨bb, oo, none⟩) LL.length c ∧ F 20 = .int .i64 LL.length ∧ F 21 = .int .i64 i ∧ F 25 = .slice pw L.length cw ∧ F 26 = .int .i64 L.length ∧ Bel h.size h g ∧ g[h.size]? = some (.cells (cmdV vt0).toArray 48) ∧ ∃ j : Nat, j ≤ L.length ∧ F 27 = .int .i64 j ∧ g[h.size + 1]? = some (.cells (voteC (bestOf slot ((LL.take i).flatten ++ L.take j))).toArray 102) ∧ mayAll ((LL.take i).flatten ++ L.take j) = true)
          (fun F _ => L.length - (vi (F 27)).toNat) rfl ⟨f1, f4, f7, f19, f20, f21, rfl, rfl, hg, gZ, 0, by omega, rfl, by rw [List.take_zero, List.append_nil]; exact gV, by rw [List.take_zero, List.append_nil]; exact hall⟩ ?_
        clear f1 f4 f7 f19 f20 f21 F hg gZ gV hall zV hw'
        rintro F g ⟨f1, f4, f7, f19, f20, f21, f25, f26, hg, gZ, j, hj, f27, gV, hall⟩
        have zV := lt_of_get gV
        by_cases hlj : j < L.length
        · have hlj' : (j : Int) < L.length := by omega
          obtain ⟨b2, o2, rfl, hb2, _, hwc⟩ := hwc (by intro e; rw [e] at hlj; simp at hlj)
          have r1 : rd g ⟨b2, o2 + j * 8, none⟩ 8 = some (voteC L[j]) := by rw [rd_bel hg (by exact hb2)]; exact hwc j hlj
          have hsn : (LL.take i).flatten ++ L.take (j + 1) = ((LL.take i).flatten ++ L.take j) ++ [L[j]] := by rw [take_snoc L j hlj, List.append_assoc]
          have hmemV : L[j] ∈ LL.flatten := List.mem_flatten.2 ⟨L, hmemLL, List.getElem_mem hlj⟩
          obtain ⟨v, hv⟩ : ∃ v, v = L[j] := ⟨_, rfl⟩
          rw [← hv] at r1 hsn hmemV
          have hb' : bestOf slot ((LL.take i).flatten ++ L.take (j + 1)) = pickB slot (bestOf slot ((LL.take i).flatten ++ L.take j)) v := by
            rw [hsn]; unfold bestOf; rw [List.foldl_append]; rfl
          have hm' : mayAll ((LL.take i).flatten ++ L.take (j + 1)) = decide (voteMay v) := by rw [hsn, mayAll_app, hall, Bool.true_and]; simp [mayAll]
          obtain ⟨B, hB⟩ : ∃ B, B = bestOf slot ((LL.take i).flatten ++ L.take j) := ⟨_, rfl⟩
          rw [← hB] at gV hb'
          unfold voteC at r1
          simp (config := {maxSteps := 2000000, implicitDefEqProofs := false}) only [go_sem, ↓reduceIte, Nat.reduceEqDiff, Nat.reduceAdd, Nat.reduceMul, Nat.reduceLeDiff, Nat.reduceLT, Nat.reduceSub, IntWalk.iteOmega, IntWalk.toNatUp, reduceCtorEq, false_and, and_false, false_or, or_false, true_or, or_true, not_true_eq_false, not_false_eq_true, Bool.not_true, Bool.not_false, Bool.and_true, Bool.true_and, Bool.and_false, Bool.false_and, Bool.not_eq_true, beq_self_eq_true, Nat.add_zero, Int.reduceLE, Int.reduceLT, Int.reduceToNat, Int.reduceNeg, f1, f4, f7, f19, f20, f21, f25, f26, f27, hlj', Int.toNat_natCast, r1]
          refine (vote_ok T _ v).use ?_
          rintro _ g1 ⟨rfl, b1⟩
          have hgp : Bel g.size g g1 := (Bel.push (Nat.le_refl _) _).trans (b1.mono (by simp))
          have y0 : g1[g.size]? = some (.cells (voteC v).toArray 102) := b1.get (by simp) get_push_last
          have z1 := hgp.size
          have hg1 := hg.trans (hgp.mono hg.size)
          have gZ1 := hgp.get (lt_of_get gZ) gZ
          have gV1 := hgp.get zV gV
          have z0 := lt_of_get y0
          by_cases c1 : voteMay v
          · rw [decide_eq_true c1] at hm'
            have y1 : V.hc g1 ⟨g.size, 0, none⟩ = some (.int .i64 v.slot) := by rw [hc_last y0]; rfl
            have y2 : rd g1 ⟨g.size, 1, none⟩ 2 = some (balC v.b) := by rw [rd_part y0 (by simp [voteC])]; rfl
            have y3 : rd g1 ⟨h.size + 1, 1, none⟩ 2 = some (balC B.b) := by rw [rd_part gV1 (by simp [voteC])]; rfl
            by_cases c2 : v.slot = slot
            · simp (config := {maxSteps := 2000000, implicitDefEqProofs := false}) only [go_sem, ↓reduceIte, Nat.reduceEqDiff, Nat.reduceAdd, Nat.reduceMul, Nat.reduceLeDiff, Nat.reduceLT, Nat.reduceSub, IntWalk.iteOmega, IntWalk.toNatUp, reduceCtorEq, false_and, and_false, false_or, or_false, true_or, or_true, not_true_eq_false, not_false_eq_true, Bool.not_true, Bool.not_false, Bool.and_true, Bool.true_and, Bool.and_false, Bool.false_and, Bool.not_eq_true, beq_self_eq_true, Nat.add_zero, Int.reduceLE, Int.reduceLT, Int.reduceToNat, Int.reduceNeg, f1, f4, f7, f19, f20, f21, f25, f26, f27, c1, y1, c2, y2, y3]
              refine (compare_ok T _ v.b B.b).use ?_
              rintro _ g2 ⟨rfl, b2'⟩
              have z2 := b2'.size
              have hg2 := hg1.trans (b2'.mono hg1.size)
              have gZ2 := b2'.get (lt_of_get gZ1) gZ1
              have gV2 := b2'.get (lt_of_get gV1) gV1
              have y02 := b2'.get z0 y0
              by_cases c3 : below B.b v.b
              · have c3' := (bcmp_pos v.b B.b).2 c3
                have rV := rd_last y02 (n := 8) rfl
                have wV := wr_get gV2 0 (voteC v)
                rw [lput_full (by simp [voteC]), if_pos ⟨by simp [voteC], rfl⟩] at wV
                have hpk : pickB slot B v = v := by unfold pickB; rw [if_pos ⟨c2, c3⟩]
                rw [hpk] at hb'
                unfold voteC at rV wV
                simp (config := {maxSteps := 2000000, implicitDefEqProofs := false}) only [go_sem, ↓reduceIte, Nat.reduceEqDiff, Nat.reduceAdd, Nat.reduceMul, Nat.reduceLeDiff, Nat.reduceLT, Nat.reduceSub, IntWalk.iteOmega, IntWalk.toNatUp, reduceCtorEq, false_and, and_false, false_or, or_false, true_or, or_true, not_true_eq_false, not_false_eq_true, Bool.not_true, Bool.not_false, Bool.and_true, Bool.true_and, Bool.and_false, Bool.false_and, Bool.not_eq_true, beq_self_eq_true, Nat.add_zero, Int.reduceLE, Int.reduceLT, Int.reduceToNat, Int.reduceNeg, f1, f4, f7, f19, f20, f21, f25, f26, f27, c3', rV, wV]
                refine ⟨⟨f1, f4, f7, f19, f20, f21, f25, f26, hg2.addSet (by omega) _, ?_, j + 1, hlj, rfl, ?_, hm'⟩, ?_⟩
                · rw [Array.getElem?_setIfInBounds, if_neg (by omega)]; exact gZ2
                · rw [hb']; exact set_newP gV2
                · simp only [vi, updo_some, ↓reduceIte, f27]; omega
              · have c3' : ¬ 0 < bcmp v.b B.b := fun h => c3 ((bcmp_pos v.b B.b).1 h)
                have hpk : pickB slot B v = B := by unfold pickB; rw [if_neg (fun h => c3 h.2)]
                rw [hpk] at hb'
                simp (config := {maxSteps := 2000000, implicitDefEqProofs := false}) only [go_sem, ↓reduceIte, Nat.reduceEqDiff, Nat.reduceAdd, Nat.reduceMul, Nat.reduceLeDiff, Nat.reduceLT, Nat.reduceSub, IntWalk.iteOmega, IntWalk.toNatUp, reduceCtorEq, false_and, and_false, false_or, or_false, true_or, or_true, not_true_eq_false, not_false_eq_true, Bool.not_true, Bool.not_false, Bool.and_true, Bool.true_and, Bool.and_false, Bool.false_and, Bool.not_eq_true, beq_self_eq_true, Nat.add_zero, Int.reduceLE, Int.reduceLT, Int.reduceToNat, Int.reduceNeg, f1, f4, f7, f19, f20, f21, f25, f26, f27, c3']
                refine ⟨⟨f1, f4, f7, f19, f20, f21, f25, f26, hg2, gZ2, j + 1, hlj, rfl, ?_, hm'⟩, ?_⟩
                · rw [hb']; exact gV2
                · simp only [vi, updo_some, ↓reduceIte, f27]; omega
            · have hpk : pickB slot B v = B := by unfold pickB; rw [if_neg (fun h => c2 h.1)]
              rw [hpk] at hb'
              simp (config := {maxSteps := 2000000, implicitDefEqProofs := false}) only [go_sem, ↓reduceIte, Nat.reduceEqDiff, Nat.reduceAdd, Nat.reduceMul, Nat.reduceLeDiff, Nat.reduceLT, Nat.reduceSub, IntWalk.iteOmega, IntWalk.toNatUp, reduceCtorEq, false_and, and_false, false_or, or_false, true_or, or_true, not_true_eq_false, not_false_eq_true, Bool.not_true, Bool.not_false, Bool.and_true, Bool.true_and, Bool.and_false, Bool.false_and, Bool.not_eq_true, beq_self_eq_true, Nat.add_zero, Int.reduceLE, Int.reduceLT, Int.reduceToNat, Int.reduceNeg, f1, f4, f7, f19, f20, f21, f25, f26, f27, c1, y1, c2]
              refine ⟨⟨f1, f4, f7, f19, f20, f21, f25, f26, hg1, gZ1, j + 1, hlj, rfl, ?_, hm'⟩, ?_⟩
              · rw [hb']; exact gV1
              · simp only [vi, updo_some, ↓reduceIte, f27]; omega
          · have hf := mayAll_false hmemV c1
            rw [hf, if_neg (by decide)] at hpe
            have wz1 := wz g1 gZ1 [.int .i64 0, .int .i64 0, .int .i64 0, .int .i64 0, .int .i64 0] rfl rfl
            have zl := lt_of_get gZ1
            simp (config := {maxSteps := 2000000, implicitDefEqProofs := false}) only [go_sem, ↓reduceIte, Nat.reduceEqDiff, Nat.reduceAdd, Nat.reduceMul, Nat.reduceLeDiff, Nat.reduceLT, Nat.reduceSub, IntWalk.iteOmega, IntWalk.toNatUp, reduceCtorEq, false_and, and_false, false_or, or_false, true_or, or_true, not_true_eq_false, not_false_eq_true, Bool.not_true, Bool.not_false, Bool.and_true, Bool.true_and, Bool.and_false, Bool.false_and, Bool.not_eq_true, beq_self_eq_true, Nat.add_zero, Int.reduceLE, Int.reduceLT, Int.reduceToNat, Int.reduceNeg, f1, f4, f7, c1, wz1, zl, hpe]
            exact ⟨rfl, hg1.addSet (Nat.le_refl _) _⟩
        · have hgej : ¬ (j : Int) < L.length := by omega
          obtain rfl : j = L.length := by omega
          rw [List.take_length, ← hflat] at gV hall
          simp (config := {maxSteps := 2000000, implicitDefEqProofs := false}) only [go_sem, ↓reduceIte, Nat.reduceEqDiff, Nat.reduceAdd, Nat.reduceMul, Nat.reduceLeDiff, Nat.reduceLT, Nat.reduceSub, IntWalk.iteOmega, IntWalk.toNatUp, reduceCtorEq, false_and, and_false, false_or, or_false, true_or, or_true, not_true_eq_false, not_false_eq_true, Bool.not_true, Bool.not_false, Bool.and_true, Bool.true_and, Bool.and_false, Bool.false_and, Bool.not_eq_true, beq_self_eq_true, Nat.add_zero, Int.reduceLE, Int.reduceLT, Int.reduceToNat, Int.reduceNeg, f1, f4, f7, f19, f20, f21, f25, f26, f27, hgej]
          refine ⟨⟨f1, f4, f7, f19, f20, hg, gZ, i + 1, hlt, rfl, gV, hall⟩, ?_⟩
          simp only [vi, updo_some, ↓reduceIte, f21]; omega
      · have hge : ¬ (i : Int) < LL.length := by omega
        obtain rfl : i = LL.length := by omega
        rw [List.take_length] at gV hall
        rw [hall, if_pos rfl] at hpe
        rw [hpe, if_pos rfl, if_pos rfl]
        obtain ⟨B, hB⟩ : ∃ B, B = bestOf slot LL.flatten := ⟨_, rfl⟩
        rw [← hB] at gV ⊢
        have r1 : rd g ⟨h.size + 1, 3, none⟩ 5 = some (cmdV B) := by rw [rd_part gV (by simp [voteC])]; rfl
        have r2 : V.hc g ⟨h.size + 1, 1, none⟩ = some (.int .i64 B.b.r) := by rw [hc_last gV]; rfl
        have wB := wz g gZ (cmdV B) rfl rfl
        have zl := lt_of_get gZ
        unfold cmdV at r1 wB ⊢
        simp (config := {maxSteps := 2000000, implicitDefEqProofs := false}) only [go_sem, ↓reduceIte, Nat.reduceEqDiff, Nat.reduceAdd, Nat.reduceMul, Nat.reduceLeDiff, Nat.reduceLT, Nat.reduceSub, IntWalk.iteOmega, IntWalk.toNatUp, reduceCtorEq, false_and, and_false, false_or, or_false, true_or, or_true, not_true_eq_false, not_false_eq_true, Bool.not_true, Bool.not_false, Bool.and_true, Bool.true_and, Bool.and_false, Bool.false_and, Bool.not_eq_true, beq_self_eq_true, Nat.add_zero, Int.reduceLE, Int.reduceLT, Int.reduceToNat, Int.reduceNeg, f1, f4, f7, f19, f20, f21, hge]
        refine VS.w (h.size) [] (.q 0 (.q 2 (.q 3 (.or 1 (.or 4 (.q 5 (.s 6 (.q 7 (.q 8 .nil)))) (.s 6 (.s 4 (.q 5 (.q 7 (.q 8 .nil)))))) (.s 4 (.q 5 (.s 1 (.s 6 (.q 7 (.q 8 .nil)))))))))) mixed (by kernel_rfl) ?_
        simp (config := {maxSteps := 2000000, implicitDefEqProofs := false}) only [go_sem, ↓reduceIte, Nat.reduceEqDiff, Nat.reduceAdd, Nat.reduceMul, Nat.reduceLeDiff, Nat.reduceLT, Nat.reduceSub, IntWalk.iteOmega, IntWalk.toNatUp, reduceCtorEq, false_and, and_false, false_or, or_false, true_or, or_true, not_true_eq_false, not_false_eq_true, Bool.not_true, Bool.not_false, Bool.and_true, Bool.true_and, Bool.and_false, Bool.false_and, Bool.not_eq_true, beq_self_eq_true, Nat.add_zero, Int.reduceLE, Int.reduceLT, Int.reduceToNat, Int.reduceNeg, f4, f7, r1, r2, wB, zl]
        have hfin := hg.addSet (Nat.le_refl _) (.cells #[.int .i64 B.k, .int .i64 B.c, .int .i64 B.s, .int .i64 B.nm, .int .i64 B.v] 48)
        exact ⟨⟨hfin, hfin⟩, hfin⟩
end Go.Proofs.Ytjgbajgmndkfjaa
