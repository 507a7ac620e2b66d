/- Names holds: package api's numbers are the document's; whatever the input, without any condition. -/
import Derived.Test.YtjgbajgmndkfjaaV9
import Derived.Test.YtjgbajgmndkfjaaTy
namespace Go.Proofs.Ytjgbajgmndkfjaa
open Go Go.V
set_option linter.unusedSimpArgs false
set_option maxRecDepth 100000
def num (n : Int) : Value := .int .i64 n
theorem nth_num (xs : List Int) (i : Nat) (hi : i < xs.length) : nth (xs.map num) i = some (.int .i64 (xs.getD i 0)) := by
  rw [nth_eq, List.getElem?_map, List.getElem?_eq_getElem hi]
  simp [num, List.getD_eq_getElem?_getD, hi]
def errs : List Int := [0, 1, 2, 3, 4, 5, 6, 7, 8, 9, 10, 11, 12, 13]
def lims : List Int := [1, 2, 4, 0, 1, 2, 3, 1, 2, 3, 4, 5, 6, 7, 8, 9, 2000, 256, 512, 1073741824, 8, 5, 40, 65536, 1073741824, 7, 8, 1048576, 1048576, 100000, 100000, 4000000, 200, 1048576]
theorem names_ok : LawOk Try.prog 3 Try.f3.params.toList := by
  intro T args hfit
  have ha : args = [] := by
    cases args with
    | nil => rfl
    | cons a l => exact hfit.elim
  subst ha
  generalize T.heap = h
  refine CallsH.of_code' (args := []) Try.func3 rfl rfl rfl rfl ?_
  simp (config := {contextual := true}) only [go_sem, ↓reduceIte, Nat.reduceEqDiff, Nat.reduceAdd, Nat.reduceMul, Nat.reduceLeDiff, Nat.reduceLT, Nat.reduceSub, IntWalk.iteOmega, IntWalk.toNatUp]
  refine VS.loop' (fun F g => g = h.push (.cells (errs.map num).toArray 22) ∧ F 1 = .slice (some ⟨h.size, 0, none⟩) 14 14 ∧ ∃ i : Nat, i ≤ 14 ∧ F 2 = .int .i64 i)
    (fun F _ => 14 - (vi (F 2)).toNat) rfl ⟨rfl, rfl, 0, by omega, rfl⟩ ?_
  rintro F g ⟨rfl, f1, i, hi, f2⟩
  by_cases hlt : i < 14
  · have e1 := nth_num errs i hlt
    have hlt' : (i : Int) < 14 := by omega
    have e2 : errs.getD i 0 = i := by
      unfold errs
      rcases i with _ | _ | _ | _ | _ | _ | _ | _ | _ | _ | _ | _ | _ | _ | i <;> first | rfl | omega
    simp (config := {contextual := true}) only [go_sem, ↓reduceIte, Nat.reduceEqDiff, Nat.reduceAdd, Nat.reduceMul, Nat.reduceLeDiff, Nat.reduceLT, Nat.reduceSub, IntWalk.iteOmega, IntWalk.toNatUp, f1, f2, hlt', e1, e2]
    refine ⟨⟨rfl, f1, i + 1, by omega, rfl⟩, ?_⟩
    simp only [vi, updo_some, ↓reduceIte, f2]; omega
  · have hge : ¬ (i : Int) < 14 := by omega
    simp (config := {contextual := true}) only [go_sem, ↓reduceIte, Nat.reduceEqDiff, Nat.reduceAdd, Nat.reduceMul, Nat.reduceLeDiff, Nat.reduceLT, Nat.reduceSub, IntWalk.iteOmega, IntWalk.toNatUp, f1, f2, hge]
    refine VS.loop' (fun F g => g = ((h.push (.cells (errs.map num).toArray 22)).push (.cells (lims.map num).toArray 3)).push (.cells (lims.map num).toArray 3) ∧ F 3 = .slice (some ⟨h.size + 1, 0, none⟩) 34 34 ∧
        F 4 = .slice (some ⟨h.size + 1 + 1, 0, none⟩) 34 34 ∧ ∃ i : Nat, i ≤ 34 ∧ F 5 = .int .i64 i)
      (fun F _ => 34 - (vi (F 5)).toNat) rfl ⟨rfl, rfl, rfl, 0, by omega, rfl⟩ ?_
    rintro F g ⟨rfl, f3, f4, j, hj, f5⟩
    by_cases hlt : j < 34
    · have hlt' : (j : Int) < 34 := by omega
      have e1 := nth_num lims j hlt
      simp (config := {contextual := true}) only [go_sem, ↓reduceIte, Nat.reduceEqDiff, Nat.reduceAdd, Nat.reduceMul, Nat.reduceLeDiff, Nat.reduceLT, Nat.reduceSub, IntWalk.iteOmega, IntWalk.toNatUp, f3, f4, f5, hlt']
      refine VS.q mixed (by kernel_rfl) ?_
      simp (config := {contextual := true}) only [go_sem, ↓reduceIte, Nat.reduceEqDiff, Nat.reduceAdd, Nat.reduceMul, Nat.reduceLeDiff, Nat.reduceLT, Nat.reduceSub, IntWalk.iteOmega, IntWalk.toNatUp, f3, f4, f5, hlt', e1]
      refine ⟨⟨rfl, f3, f4, j + 1, by omega, rfl⟩, ?_⟩
      simp only [vi, updo_some, ↓reduceIte, f5]; omega
    · have hge : ¬ (j : Int) < 34 := by omega
      simp (config := {contextual := true}) only [go_sem, ↓reduceIte, Nat.reduceEqDiff, Nat.reduceAdd, Nat.reduceMul, Nat.reduceLeDiff, Nat.reduceLT, Nat.reduceSub, IntWalk.iteOmega, IntWalk.toNatUp, f3, f4, f5, hge]
      exact ((Bel.push (Nat.le_refl _) _).trans (Bel.push (by simp) _)).trans (Bel.push (by simp; omega) _)
theorem names_lifted (os : Os) (started : os.Started) (H : Type) (enc : TypeId × Value → H) :
    ReturnsInHanded {} Try.checked os 3 .any (Rows.namesSpec.pre6 enc Try.prog Try.f3 Rows.namesRow.domain false) (Rows.namesSpec.post enc Try.prog Try.f3 false true false false) :=
  law_lifted (C := Try.checked) ownKnobT started (by kernel_rfl) Try.func3
    (ChangeSpec.witness6 (enc := enc) (C := Try.checked) false ⟨#[], #[], []⟩ 12 (by kernel_rfl) (by kernel_rfl) (by kernel_rfl) (by kernel_rfl))
    laidOutT (by kernel_rfl) (by kernel_rfl) (tb := 4) rfl Try.underlying4 rfl (fun ds hd => by
      have hl : ds.length = 0 := hd
      match ds, hl with
      | [], _ => rfl) names_ok
theorem names_holds : Rows.NamesSaid :=
  OpenClaim.holds_of_wide 3 Try.f3 rfl rfl rfl rfl rfl rfl rfl ⟨rfl, rfl, rfl, rfl, rfl⟩ rfl rfl rfl rfl rfl (by kernel_rfl) Try.func3 (show joinedFacts Try.prog 3 Try.f3 Rows.namesSpec Rows.namesRow = true by unfold joinedFacts; rw [makeT, enterT, liftsT]; kernel_rfl)
    (of_decide_eq_true (by kernel_rfl)) (by unfold Func.isWrapper; rw [if_neg (of_decide_eq_false (by kernel_rfl))]; exact ⟨rfl, rfl⟩)
    (fun os started H enc _ => names_lifted os started H enc)
end Go.Proofs.Ytjgbajgmndkfjaa
