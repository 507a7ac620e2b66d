/- PaxosChosens holds: paxos.Chosen answers what the document says, at every argument; without any condition. -/
import Derived.Test.YtiakfdpmapmifaaChr
namespace Go.Proofs.Ytiakfdpmapmifaa
open Go Go.V
set_option linter.unusedSimpArgs false
set_option linter.unusedVariables false
set_option maxRecDepth 100000
theorem pick_list {α β : Type} {R : α → β → Prop} : ∀ l : List α, (∀ x ∈ l, ∃ y, R x y) → ∃ m : List β, m.length = l.length ∧ ∀ i (hi : i < l.length) (hi' : i < m.length), R l[i] m[i] := by
  intro l
  induction l with
  | nil => intro _; exact ⟨[], rfl, fun i hi => by simp at hi⟩
  | cons x l ih =>
    intro h
    obtain ⟨y, hy⟩ := h x (List.mem_cons_self ..)
    obtain ⟨m, h1, h2⟩ := ih fun z hz => h z (List.mem_cons_of_mem _ hz)
    refine ⟨y :: m, by simp [h1], fun i hi hi' => ?_⟩
    cases i with
    | zero => exact hy
    | succ i => exact h2 i (by simpa using hi) (by simpa using hi')
theorem fit_acs {h : Hp} {k : Nat} {v : Value} (hf : fit Try.prog h k 22 [v]) : ∃ LL : List Acr, Acs h v LL ∧ LL.length * 40 ≤ 140737488355328 := by
  obtain ⟨ps, h1, h2, h3⟩ := fit_slice (α := Bal × Value) (enc := accP) (n := 3) (ok := fun x => ∃ l : List Vt, Ts voteC 8 h x.2 l ∧ l.length ≤ 2199023255552) Try.underlying22 (by kernel_rfl) (by decide) (fun _ => rfl) (fun k ds hfe => by
    have hlen : ds.length = 3 := by
      cases k with
      | zero => exact hfe.elim
      | succ k => unfold fit at hfe; rw [Try.underlying41] at hfe; exact hfe.1
    have hL := fit_leaf (P := Try.prog) (h := h) 8 k 41 ds (rep 2 [3] ++ [39]) (by kernel_rfl) (by rw [hlen]; rfl) hfe
    obtain ⟨a0, _, rfl, _, _, hL⟩ := fitL_int Try.underlying3 hL
    obtain ⟨a1, _, rfl, _, _, hL⟩ := fitL_int Try.underlying3 hL
    obtain ⟨w, cs, k3, rfl, hk, hL⟩ := fitL_cell hL
    obtain rfl := fitL_nil hL
    obtain ⟨l, t, hl⟩ := fit_votes hk
    exact ⟨(⟨a0, a1⟩, w), ⟨l, t, hl⟩, rfl⟩) hf
  obtain ⟨ls, e1, e2⟩ := pick_list (R := fun (x : Bal × Value) (l : List Vt) => Ts voteC 8 h x.2 l ∧ l.length ≤ 2199023255552) ps (fun x hx => h2 x hx)
  have hz : (ps.zipWith (fun x l => ((x.1, l) : Acr)) ls).length = ps.length := by simp [e1]
  refine ⟨ps.zipWith (fun x l => ((x.1, l) : Acr)) ls, ⟨ps, hz.symm, ⟨h1⟩, fun j hj hj' => ?_⟩, ?_⟩
  · have hj2 : j < ls.length := by omega
    obtain ⟨t, hl⟩ := e2 j hj hj2
    rw [List.getElem_zipWith]
    exact ⟨rfl, t, hl⟩
  · have : Try.prog.bytesOf 41 = 40 := by kernel_rfl
    rw [this] at h3
    rw [hz]; exact h3
theorem paxosChosens_ok : LawOk Try.prog 3 Try.f3.params.toList := by
  intro T args hfit
  rw [show Try.f3.params.toList = [22, 3] from rfl] at hfit
  obtain ⟨v, _, rfl, ⟨k1, h1⟩, hfit⟩ := fitAll_cons hfit
  obtain ⟨vb, _, rfl, ⟨k2, h2⟩, hfit⟩ := fitAll_cons hfit
  obtain rfl := fitAll_nil hfit
  obtain ⟨LL, s, hL⟩ := fit_acs h1
  obtain ⟨slot, hs, _⟩ := fit_int Try.underlying3 h2
  obtain rfl : vb = .int .i64 slot := by simpa using hs
  clear h1 h2 hs
  generalize T.heap = h at *
  refine CallsH.of_code' (args := [_, _]) Try.func3 rfl rfl rfl rfl ?_
  obtain ⟨pv, cv, rfl, _⟩ := s.open
  simp (config := {maxSteps := 2000000, implicitDefEqProofs := false}) only [go_sem, ↓reduceIte, Nat.reduceEqDiff, Nat.reduceAdd, Nat.reduceMul, Nat.reduceLeDiff, Nat.reduceLT, Nat.reduceSub, IntWalk.iteOmega, IntWalk.toNatUp, reduceCtorEq, false_and, and_false, false_or, or_false, true_or, or_true, not_true_eq_false, not_false_eq_true, Bool.not_true, Bool.not_false, Bool.and_true, Bool.true_and, Bool.and_false, Bool.false_and, Bool.not_eq_true, beq_self_eq_true, Nat.add_zero, Int.reduceLE, Int.reduceLT, Int.reduceToNat, Int.reduceNeg]
  refine (manyAcceptors_ok T _ _ LL s hL).use ?_
  rintro v1 g1 ⟨s1, b1⟩
  have z1 := b1.size
  obtain ⟨X, hX⟩ : ∃ X, X = chV slot LL := ⟨_, rfl⟩
  obtain ⟨E, hE⟩ : ∃ E, E = chE slot LL := ⟨_, rfl⟩
  have hP := chosen_ok T g1 v1 LL slot s1 hL
  unfold ChRes at hP
  rw [← hX, ← hE] at hP
  simp (config := {maxSteps := 2000000, implicitDefEqProofs := false}) only [go_sem, ↓reduceIte, Nat.reduceEqDiff, Nat.reduceAdd, Nat.reduceMul, Nat.reduceLeDiff, Nat.reduceLT, Nat.reduceSub, IntWalk.iteOmega, IntWalk.toNatUp, reduceCtorEq, false_and, and_false, false_or, or_false, true_or, or_true, not_true_eq_false, not_false_eq_true, Bool.not_true, Bool.not_false, Bool.and_true, Bool.true_and, Bool.and_false, Bool.false_and, Bool.not_eq_true, beq_self_eq_true, Nat.add_zero, Int.reduceLE, Int.reduceLT, Int.reduceToNat, Int.reduceNeg]
  refine hP.use ?_
  rintro _ g2 ⟨rfl, b2⟩
  have z2 := b2.size
  have hB2 := b1.trans (b2.mono z1)
  have hQ := chosenIn_ok T (g2.push (.cells (cmdW X).toArray 24)) (.slice pv LL.length cv) LL slot (s.bel (hB2.addP hB2.size _)) hL
  unfold ChRes at hQ
  rw [← hX, ← hE] at hQ
  unfold cmdW at hQ ⊢
  simp (config := {maxSteps := 2000000, implicitDefEqProofs := false}) only [go_sem, ↓reduceIte, Nat.reduceEqDiff, Nat.reduceAdd, Nat.reduceMul, Nat.reduceLeDiff, Nat.reduceLT, Nat.reduceSub, IntWalk.iteOmega, IntWalk.toNatUp, reduceCtorEq, false_and, and_false, false_or, or_false, true_or, or_true, not_true_eq_false, not_false_eq_true, Bool.not_true, Bool.not_false, Bool.and_true, Bool.true_and, Bool.and_false, Bool.false_and, Bool.not_eq_true, beq_self_eq_true, Nat.add_zero, Int.reduceLE, Int.reduceLT, Int.reduceToNat, Int.reduceNeg]
  refine hQ.use ?_
  rintro _ g3 ⟨rfl, b3⟩
  have z3 := b3.size
  simp only [Array.size_push] at z3
  have xc : g3[g2.size]? = some (.cells [.int .i64 X.k, .int .i64 X.c, .int .i64 X.s, .int .i64 X.nm, .int .i64 X.v].toArray 24) := b3.get (by simp) get_push_last
  have r1 := rd_last xc (n := 5) rfl
  have zc := lt_of_get xc
  have hB3 := (hB2.addP hB2.size (.cells [.int .i64 X.k, .int .i64 X.c, .int .i64 X.s, .int .i64 X.nm, .int .i64 X.v].toArray 24)).trans (b3.mono (by have := hB2.size; simp; omega))
  simp (config := {maxSteps := 2000000, implicitDefEqProofs := false}) only [go_sem, ↓reduceIte, Nat.reduceEqDiff, Nat.reduceAdd, Nat.reduceMul, Nat.reduceLeDiff, Nat.reduceLT, Nat.reduceSub, IntWalk.iteOmega, IntWalk.toNatUp, reduceCtorEq, false_and, and_false, false_or, or_false, true_or, or_true, not_true_eq_false, not_false_eq_true, Bool.not_true, Bool.not_false, Bool.and_true, Bool.true_and, Bool.and_false, Bool.false_and, Bool.not_eq_true, beq_self_eq_true, Nat.add_zero, Int.reduceLE, Int.reduceLT, Int.reduceToNat, Int.reduceNeg, r1, zc]
  exact hB3.addP hB3.size _
theorem paxosChosens_lifted (os : Os) (started : os.Started) (H : Type) (enc : TypeId × Value → H) :
    ReturnsInHanded {} Try.checked os 3 .any (Rows.paxosChosensSpec.pre6 enc Try.prog Try.f3 Rows.paxosChosensRow.domain false) (Rows.paxosChosensSpec.post enc Try.prog Try.f3 false true false false) :=
  law_lifted (C := Try.checked) ownKnobT started (by kernel_rfl) Try.func3
    (ChangeSpec.witness6 (enc := enc) (C := Try.checked) false ⟨#[], #[Value.slice none 0 0, Value.int .i64 0], []⟩ 12 (by kernel_rfl) (by kernel_rfl) (by kernel_rfl) (by kernel_rfl))
    laidOutT (by kernel_rfl) (by kernel_rfl) (tb := 4) rfl Try.underlying4 rfl (fun ds hd => by
      have hl : ds.length = 2 := hd
      match ds, hl with
      | [d0, d1], _ => rfl) paxosChosens_ok
theorem paxosChosens_holds : Rows.PaxosChosensSaid :=
  OpenClaim.holds_of_wide 3 Try.f3 rfl rfl rfl rfl rfl rfl rfl ⟨rfl, rfl, rfl, rfl, rfl⟩ rfl rfl rfl rfl rfl (by kernel_rfl) Try.func3 (show joinedFacts Try.prog 3 Try.f3 Rows.paxosChosensSpec Rows.paxosChosensRow = true by unfold joinedFacts; rw [makeT, enterT, liftsT]; kernel_rfl)
    (of_decide_eq_true (by kernel_rfl)) (by unfold Func.isWrapper; rw [if_neg (of_decide_eq_false (by kernel_rfl))]; exact ⟨rfl, rfl⟩)
    (fun os started H enc _ => paxosChosens_lifted os started H enc)
end Go.Proofs.Ytiakfdpmapmifaa
