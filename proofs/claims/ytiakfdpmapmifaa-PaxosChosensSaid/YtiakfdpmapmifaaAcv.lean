/- A vote, laid among votes that stand by slots: the plain law; no condition but those in the statements. -/
import Derived.Test.YtiakfdpmapmifaaPaxp
namespace Go.Proofs.Ytiakfdpmapmifaa
open Go Go.V
set_option linter.unusedSimpArgs false
set_option linter.unusedVariables false
set_option maxRecDepth 100000
/-- Votes by slots, none twice. -/
def Srt (l : List Vt) : Prop := ∀ i j (hi : i < l.length) (hj : j < l.length), i < j → l[i].slot < l[j].slot
theorem accErr_parts {p : Bal} {l : List Vt} (h : accErr p l = 0) : ∀ j, j < l.length → good p l j = true := by
  intro j hj
  unfold accErr at h
  split at h
  · cases h
  · split at h
    · rename_i hall
      exact List.all_eq_true.1 hall j (List.mem_range.2 hj)
    · cases h
theorem accErr_srt {p : Bal} {l : List Vt} (h : accErr p l = 0) : Srt l := by
  have hg := accErr_parts h
  intro i j
  induction j with
  | zero => intro _ _ h; omega
  | succ j ih =>
    intro hi hj hij
    have h1 := (good_iff hj).1 (hg _ hj)
    have h2 : slotAt l j < l[j + 1].slot := by
      rcases h1.2.2 with h | h
      · omega
      · simpa using h
    rw [slotAt_of (by omega)] at h2
    by_cases e : i = j
    · subst e; exact h2
    · exact Int.lt_trans (ih hi (by omega) (by omega)) h2
/-- The votes, with one more. -/
def insV (l : List Vt) (v : Vt) : List Vt := l.filter (fun x => decide (x.slot < v.slot)) ++ v :: l.filter (fun x => decide (v.slot < x.slot))
/-- The document's way: slot by slot. -/
def insR (l : List Vt) (v : Vt) : Nat → List Vt
  | 0 => []
  | s + 1 => insR l v s ++ (if (s : Int) = v.slot then [v] else l.filter (fun x => decide (x.slot = s)))
end Go.Proofs.Ytiakfdpmapmifaa
