/- A vote, laid among votes that stand by slots: what the program computes; no condition but those in the statements. -/
import Derived.Test.YtnpacofabdgcdaaDoorAcv
import Derived.Test.YtnpacofabdgcdaaDoorW21
namespace Go.Proofs.YtnpacofabdgcdaaDoor
open Go Go.V
set_option linter.unusedSimpArgs false
set_option linter.unusedVariables false
set_option maxRecDepth 100000
theorem accCmp_ok (T : World) (h : Hp) (x y : Vt) : CallsH Tryd.prog T 139 #[.agg (voteC x).toArray, .agg (voteC y).toArray] h fun v' h' => v' = .int .i64 (icmp x.slot y.slot) ∧ Bel h.size h h' := by
  refine CallsH.of_code' (args := [_, _]) Tryd.func139 rfl rfl rfl rfl ?_
  unfold voteC
  simp (config := {maxSteps := 2000000, implicitDefEqProofs := false}) only [go_sem, ↓reduceIte, Nat.reduceEqDiff, Nat.reduceAdd, Nat.reduceMul, Nat.reduceLeDiff, Nat.reduceLT, Nat.reduceSub, IntWalk.iteOmega, IntWalk.toNatUp, reduceCtorEq, false_and, and_false, false_or, or_false, true_or, or_true, not_true_eq_false, not_false_eq_true, Bool.not_true, Bool.not_false, Bool.and_true, Bool.true_and, Bool.and_false, Bool.false_and, Bool.not_eq_true, beq_self_eq_true, Nat.add_zero, Int.reduceLE, Int.reduceLT, Int.reduceToNat, Int.reduceNeg]
  refine (cmpCompare_ok T _ _ _).pure ?_
  simp (config := {maxSteps := 2000000, implicitDefEqProofs := false}) only [go_sem, ↓reduceIte, Nat.reduceEqDiff, Nat.reduceAdd, Nat.reduceMul, Nat.reduceLeDiff, Nat.reduceLT, Nat.reduceSub, IntWalk.iteOmega, IntWalk.toNatUp, reduceCtorEq, false_and, and_false, false_or, or_false, true_or, or_true, not_true_eq_false, not_false_eq_true, Bool.not_true, Bool.not_false, Bool.and_true, Bool.true_and, Bool.and_false, Bool.false_and, Bool.not_eq_true, beq_self_eq_true, Nat.add_zero, Int.reduceLE, Int.reduceLT, Int.reduceToNat, Int.reduceNeg]
  (repeat' (first | exact Bel.refl _ _ | assumption | refine Bel.add ?_ _ | refine Bel.addSet ?_ (by first | omega | (simp; omega)) _ | refine Bel.trans (by assumption) ?_))
def Found (l : List Vt) (s : Int) (i : Nat) (b : Bool) : Prop := (b = true ∧ ∃ hi : i < l.length, l[i].slot = s) ∨ (b = false ∧ (∀ j (hj : j < l.length), j < i → l[j].slot < s) ∧ ∀ j (hj : j < l.length), i ≤ j → s < l[j].slot)
theorem icmp_neg (a b : Int) : icmp a b < 0 ↔ a < b := by unfold icmp; split <;> (try split) <;> omega
theorem icmp_zero (a b : Int) : icmp a b = 0 ↔ a = b := by unfold icmp; split <;> (try split) <;> omega
theorem half_u64 {x : Nat} : shrOp .u64 (x : Int) 1 = ((x / 2 : Nat) : Int) := by
  rw [show (1 : Int) = ((1 : Nat) : Int) from rfl, shr_nat .u64 x 1 (by decide), Nat.shiftRight_eq_div_pow]
theorem bsearch_ok (T : World) (h : Hp) (u : Value) (l : List Vt) (v : Vt) (s : Ts voteC 8 h u l) (hs : Srt l) (hl : l.length ≤ 2199023255552) :
    CallsH Tryd.prog T 138 #[u, .agg (voteC v).toArray, .func (.func 139) #[] #[]] h fun v' h' => (∃ (i : Nat) (b : Bool), i ≤ l.length ∧ v' = .tuple [.int .i64 i, .bool b].toArray ∧ Found l v.slot i b) ∧ Bel h.size h h' := by
  obtain ⟨p, c, rfl, hcs⟩ := votes_open s
  refine CallsH.of_code' (args := [_, _, _]) Tryd.func138 rfl rfl rfl rfl ?_
  unfold voteC
  simp (config := {maxSteps := 2000000, implicitDefEqProofs := false}) only [go_sem, ↓reduceIte, Nat.reduceEqDiff, Nat.reduceAdd, Nat.reduceMul, Nat.reduceLeDiff, Nat.reduceLT, Nat.reduceSub, IntWalk.iteOmega, IntWalk.toNatUp, reduceCtorEq, false_and, and_false, false_or, or_false, true_or, or_true, not_true_eq_false, not_false_eq_true, Bool.not_true, Bool.not_false, Bool.and_true, Bool.true_and, Bool.and_false, Bool.false_and, Bool.not_eq_true, beq_self_eq_true, Nat.add_zero, Int.reduceLE, Int.reduceLT, Int.reduceToNat, Int.reduceNeg]
  refine VS.loop' (fun F g => Bel h.size h g ∧ g[h.size]? = some (.cells (voteC v).toArray 80) ∧ F 0 = .slice p l.length c ∧ F 2 = .func (.func 139) #[] #[] ∧ F 4 = .pointer (some ⟨h.size, 0, none⟩) ∧ F 8 = .int .i64 l.length ∧ ∃ i j : Nat, i ≤ j ∧ j ≤ l.length ∧ F 9 = .int .i64 i ∧ F 10 = .int .i64 j ∧ (∀ k (hk : k < l.length), k < i → l[k].slot < v.slot) ∧ (∀ k (hk : k < l.length), j ≤ k → v.slot ≤ l[k].slot))
    (fun F _ => (vi (F 10)).toNat - (vi (F 9)).toNat) rfl ⟨(Bel.refl _ _).add _, get_push_last, rfl, rfl, rfl, rfl, 0, l.length, by omega, by omega, rfl, rfl, fun k _ hk => by omega, fun k hk hk' => by omega⟩ ?_
  rintro F g ⟨hg, hx, f0, f2, f4, f8, i, j, hij, hj, f9, f10, lo, hi⟩
  have hgs := hg.size
  have hz := lt_of_get hx
  have rx : rd g ⟨h.size, 0, none⟩ 8 = some (voteC v) := rd_last hx rfl
  unfold voteC at rx
  by_cases hlt : i < j
  · have hlt' : (i : Int) < j := by omega
    have e1 : (i : Int) + (j : Int) = ((i + j : Nat) : Int) := by omega
    have e2 : ((i + j : Nat) : Int) % 18446744073709551616 = ((i + j : Nat) : Int) := by omega
    have e3 := half_u64 (x := i + j)
    obtain ⟨m, hm⟩ : ∃ m, m = (i + j) / 2 := ⟨_, rfl⟩
    rw [← hm] at e3
    have hml : m < l.length := by omega
    have hml' : (m : Int) < l.length := by omega
    obtain ⟨bb, oo, rfl, hbb, _, hcs⟩ := hcs (by intro e; rw [e] at hml; simp at hml)
    have rm : rd g ⟨bb, oo + m * 8, none⟩ 8 = some (voteC l[m]) := by rw [rd_bel hg (by exact hbb)]; exact hcs m hml
    obtain ⟨y, hy⟩ : ∃ y, y = l[m] := ⟨_, rfl⟩
    rw [← hy] at rm
    unfold voteC at rm
    simp (config := {maxSteps := 2000000, implicitDefEqProofs := false}) only [go_sem, ↓reduceIte, Nat.reduceEqDiff, Nat.reduceAdd, Nat.reduceMul, Nat.reduceLeDiff, Nat.reduceLT, Nat.reduceSub, IntWalk.iteOmega, IntWalk.toNatUp, reduceCtorEq, false_and, and_false, false_or, or_false, true_or, or_true, not_true_eq_false, not_false_eq_true, Bool.not_true, Bool.not_false, Bool.and_true, Bool.true_and, Bool.and_false, Bool.false_and, Bool.not_eq_true, beq_self_eq_true, Nat.add_zero, Int.reduceLE, Int.reduceLT, Int.reduceToNat, Int.reduceNeg, f9, f10, hlt', e1, e2, e3]
    refine VS.w (g.size) [] (.q 0 (.q 1 (.q 2 (.q 3 (.q 4 (.q 5 (.s 6 (.q 7 .nil)))))))) mixed (by kernel_rfl) ?_
    have q1 : bb < g.size := by omega
    simp (config := {maxSteps := 2000000, implicitDefEqProofs := false}) only [go_sem, ↓reduceIte, Nat.reduceEqDiff, Nat.reduceAdd, Nat.reduceMul, Nat.reduceLeDiff, Nat.reduceLT, Nat.reduceSub, IntWalk.iteOmega, IntWalk.toNatUp, reduceCtorEq, false_and, and_false, false_or, or_false, true_or, or_true, not_true_eq_false, not_false_eq_true, Bool.not_true, Bool.not_false, Bool.and_true, Bool.true_and, Bool.and_false, Bool.false_and, Bool.not_eq_true, beq_self_eq_true, Nat.add_zero, Int.reduceLE, Int.reduceLT, Int.reduceToNat, Int.reduceNeg, f0, f2, f4, hml', rm, rx, hz, q1]
    refine (accCmp_ok T g y v).use ?_
    rintro _ g1 ⟨rfl, b1⟩
    have hg1 := hg.trans (b1.mono hgs)
    have hx1 := b1.get hz hx
    by_cases q : y.slot < v.slot
    · have q' := (icmp_neg _ _).2 q
      simp (config := {maxSteps := 2000000, implicitDefEqProofs := false}) only [go_sem, ↓reduceIte, Nat.reduceEqDiff, Nat.reduceAdd, Nat.reduceMul, Nat.reduceLeDiff, Nat.reduceLT, Nat.reduceSub, IntWalk.iteOmega, IntWalk.toNatUp, reduceCtorEq, false_and, and_false, false_or, or_false, true_or, or_true, not_true_eq_false, not_false_eq_true, Bool.not_true, Bool.not_false, Bool.and_true, Bool.true_and, Bool.and_false, Bool.false_and, Bool.not_eq_true, beq_self_eq_true, Nat.add_zero, Int.reduceLE, Int.reduceLT, Int.reduceToNat, Int.reduceNeg, q', f0, f2, f4, f8, f9, f10]
      refine ⟨b1, ⟨hg1, hx1, f0, f2, f4, f8, m + 1, j, by omega, hj, rfl, f10, fun k hk hkm => ?_, hi⟩, ?_⟩
      · by_cases e : k = m
        · subst e; rw [← hy]; exact q
        · have := hs k m hk hml (by omega); rw [← hy] at this; omega
      · simp only [vi, updo_some, ↓reduceIte, Nat.reduceEqDiff, f9, f10]; omega
    · have q' : ¬ icmp y.slot v.slot < 0 := fun h => q ((icmp_neg _ _).1 h)
      simp (config := {maxSteps := 2000000, implicitDefEqProofs := false}) only [go_sem, ↓reduceIte, Nat.reduceEqDiff, Nat.reduceAdd, Nat.reduceMul, Nat.reduceLeDiff, Nat.reduceLT, Nat.reduceSub, IntWalk.iteOmega, IntWalk.toNatUp, reduceCtorEq, false_and, and_false, false_or, or_false, true_or, or_true, not_true_eq_false, not_false_eq_true, Bool.not_true, Bool.not_false, Bool.and_true, Bool.true_and, Bool.and_false, Bool.false_and, Bool.not_eq_true, beq_self_eq_true, Nat.add_zero, Int.reduceLE, Int.reduceLT, Int.reduceToNat, Int.reduceNeg, q', f0, f2, f4, f8, f9, f10]
      refine ⟨b1, ⟨hg1, hx1, f0, f2, f4, f8, i, m, by omega, by omega, f9, rfl, lo, fun k hk hkm => ?_⟩, ?_⟩
      · by_cases e : k = m
        · subst e; rw [← hy]; omega
        · have := hs m k hml hk (by omega); rw [← hy] at this; omega
      · simp only [vi, updo_some, ↓reduceIte, Nat.reduceEqDiff, f9, f10]; omega
  · have hlt' : ¬ (i : Int) < j := by omega
    obtain rfl : i = j := by omega
    by_cases hil : i < l.length
    · have hil' : (i : Int) < l.length := by omega
      obtain ⟨bb, oo, rfl, hbb, _, hcs⟩ := hcs (by intro e; rw [e] at hil; simp at hil)
      have rm : rd g ⟨bb, oo + i * 8, none⟩ 8 = some (voteC l[i]) := by rw [rd_bel hg (by exact hbb)]; exact hcs i hil
      have hge := hi i hil (Nat.le_refl _)
      obtain ⟨y, hy⟩ : ∃ y, y = l[i] := ⟨_, rfl⟩
      rw [← hy] at rm hge
      unfold voteC at rm
      simp (config := {maxSteps := 2000000, implicitDefEqProofs := false}) only [go_sem, ↓reduceIte, Nat.reduceEqDiff, Nat.reduceAdd, Nat.reduceMul, Nat.reduceLeDiff, Nat.reduceLT, Nat.reduceSub, IntWalk.iteOmega, IntWalk.toNatUp, reduceCtorEq, false_and, and_false, false_or, or_false, true_or, or_true, not_true_eq_false, not_false_eq_true, Bool.not_true, Bool.not_false, Bool.and_true, Bool.true_and, Bool.and_false, Bool.false_and, Bool.not_eq_true, beq_self_eq_true, Nat.add_zero, Int.reduceLE, Int.reduceLT, Int.reduceToNat, Int.reduceNeg, f9, f10, hlt']
      refine VS.w (g.size) [] (.q 0 (.q 1 (.q 2 (.q 3 (.q 4 (.q 5 (.q 6 (.q 7 (.q 8 (.q 9 (.q 10 (.s 11 (.q 12 (.q 13 (.q 14 (.q 15 .nil)))))))))))))))) mixed (by kernel_rfl) ?_
      have q1 : bb < g.size := by omega
      simp (config := {maxSteps := 2000000, implicitDefEqProofs := false}) only [go_sem, ↓reduceIte, Nat.reduceEqDiff, Nat.reduceAdd, Nat.reduceMul, Nat.reduceLeDiff, Nat.reduceLT, Nat.reduceSub, IntWalk.iteOmega, IntWalk.toNatUp, reduceCtorEq, false_and, and_false, false_or, or_false, true_or, or_true, not_true_eq_false, not_false_eq_true, Bool.not_true, Bool.not_false, Bool.and_true, Bool.true_and, Bool.and_false, Bool.false_and, Bool.not_eq_true, beq_self_eq_true, Nat.add_zero, Int.reduceLE, Int.reduceLT, Int.reduceToNat, Int.reduceNeg, f0, f2, f4, f8, f9, f10, hil', rm, rx, hz, q1]
      refine (accCmp_ok T g y v).use ?_
      rintro _ g1 ⟨rfl, b1⟩
      have hg1 := hg.trans (b1.mono hgs)
      by_cases q : y.slot = v.slot
      · have q' := (icmp_zero _ _).2 q
        simp (config := {maxSteps := 2000000, implicitDefEqProofs := false}) only [go_sem, ↓reduceIte, Nat.reduceEqDiff, Nat.reduceAdd, Nat.reduceMul, Nat.reduceLeDiff, Nat.reduceLT, Nat.reduceSub, IntWalk.iteOmega, IntWalk.toNatUp, reduceCtorEq, false_and, and_false, false_or, or_false, true_or, or_true, not_true_eq_false, not_false_eq_true, Bool.not_true, Bool.not_false, Bool.and_true, Bool.true_and, Bool.and_false, Bool.false_and, Bool.not_eq_true, beq_self_eq_true, Nat.add_zero, Int.reduceLE, Int.reduceLT, Int.reduceToNat, Int.reduceNeg, q']
        exact ⟨b1, ⟨i, true, by omega, rfl, .inl ⟨rfl, hil, by rw [← hy]; exact q⟩⟩, hg1⟩
      · have q' : ¬ icmp y.slot v.slot = 0 := fun h => q ((icmp_zero _ _).1 h)
        simp (config := {maxSteps := 2000000, implicitDefEqProofs := false}) only [go_sem, ↓reduceIte, Nat.reduceEqDiff, Nat.reduceAdd, Nat.reduceMul, Nat.reduceLeDiff, Nat.reduceLT, Nat.reduceSub, IntWalk.iteOmega, IntWalk.toNatUp, reduceCtorEq, false_and, and_false, false_or, or_false, true_or, or_true, not_true_eq_false, not_false_eq_true, Bool.not_true, Bool.not_false, Bool.and_true, Bool.true_and, Bool.and_false, Bool.false_and, Bool.not_eq_true, beq_self_eq_true, Nat.add_zero, Int.reduceLE, Int.reduceLT, Int.reduceToNat, Int.reduceNeg, q']
        refine ⟨b1, ⟨i, false, by omega, rfl, .inr ⟨rfl, fun k hk hkm => lo k hk hkm, fun k hk hkm => ?_⟩⟩, hg1⟩
        by_cases e : k = i
        · subst e; rw [← hy]; omega
        · have := hs i k hil hk (by omega); rw [← hy] at this; omega
    · have hil' : ¬ (i : Int) < l.length := by omega
      simp (config := {maxSteps := 2000000, implicitDefEqProofs := false}) only [go_sem, ↓reduceIte, Nat.reduceEqDiff, Nat.reduceAdd, Nat.reduceMul, Nat.reduceLeDiff, Nat.reduceLT, Nat.reduceSub, IntWalk.iteOmega, IntWalk.toNatUp, reduceCtorEq, false_and, and_false, false_or, or_false, true_or, or_true, not_true_eq_false, not_false_eq_true, Bool.not_true, Bool.not_false, Bool.and_true, Bool.true_and, Bool.and_false, Bool.false_and, Bool.not_eq_true, beq_self_eq_true, Nat.add_zero, Int.reduceLE, Int.reduceLT, Int.reduceToNat, Int.reduceNeg, f9, f10, hlt']
      refine VS.w (g.size) [] (.q 0 (.q 1 (.q 2 (.q 3 (.q 4 (.q 5 (.q 6 (.q 7 (.q 8 (.q 9 (.q 10 (.s 11 (.q 12 (.q 13 (.q 14 (.q 15 .nil)))))))))))))))) mixed (by kernel_rfl) ?_
      simp (config := {maxSteps := 2000000, implicitDefEqProofs := false}) only [go_sem, ↓reduceIte, Nat.reduceEqDiff, Nat.reduceAdd, Nat.reduceMul, Nat.reduceLeDiff, Nat.reduceLT, Nat.reduceSub, IntWalk.iteOmega, IntWalk.toNatUp, reduceCtorEq, false_and, and_false, false_or, or_false, true_or, or_true, not_true_eq_false, not_false_eq_true, Bool.not_true, Bool.not_false, Bool.and_true, Bool.true_and, Bool.and_false, Bool.false_and, Bool.not_eq_true, beq_self_eq_true, Nat.add_zero, Int.reduceLE, Int.reduceLT, Int.reduceToNat, Int.reduceNeg, f0, f2, f4, f8, f9, f10, hil']
      exact ⟨⟨i, false, by omega, rfl, .inr ⟨rfl, fun k hk hkm => lo k hk hkm, fun k hk hkm => by omega⟩⟩, hg⟩
end Go.Proofs.YtnpacofabdgcdaaDoor
namespace Go.Proofs.YtnpacofabdgcdaaDoor
open Go Go.V
set_option linter.unusedSimpArgs false
set_option linter.unusedVariables false
set_option maxRecDepth 100000
theorem encV_length (l : List Vt) : (encs voteC l).length = l.length * 8 := encs_length (n := 8) (fun _ => rfl) l
theorem encV_one (l : List Vt) : (encs voteC l).all oneC = true := by
  induction l with
  | nil => rfl
  | cons x l ih => rw [encs, List.all_append, ih]; rfl
theorem zeroV (k : Nat) : (Builtin.zeroCells (rep 8 [Value.int .i64 0]).toArray k).toList.length = k * 8 := by rw [Array.length_toList, zeroCells_size]; rfl
theorem zeroV_one (k : Nat) : (Builtin.zeroCells (rep 8 [Value.int .i64 0]).toArray k).toList.all oneC = true := by
  unfold Builtin.zeroCells
  rw [List.all_eq_true]
  intro x hx
  simp only [Array.toList_map, Array.toList_range, List.mem_map] at hx
  obtain ⟨j, _, rfl⟩ := hx
  have : j % 8 < 8 := Nat.mod_lt _ (by decide)
  show oneC ((rep 8 [Value.int .i64 0]).toArray[j % 8]!) = true
  rcases (by omega : j % 8 = 0 ∨ j % 8 = 1 ∨ j % 8 = 2 ∨ j % 8 = 3 ∨ j % 8 = 4 ∨ j % 8 = 5 ∨ j % 8 = 6 ∨ j % 8 = 7) with e | e | e | e | e | e | e | e <;> rw [e] <;> rfl
theorem overlapsFn : Extern.findNext Tryd.f176 = none ∧ Extern.find Tryd.f176 = some (Extern.SlicesOverlaps.overlaps #[83, 83] #[4]) := ⟨by kernel_rfl, by kernel_rfl⟩
theorem insert_ok (T : World) (h : Hp) (B : Nat) (p : Option Addr) (cap i : Nat) (l : List Vt) (x : Vt) (bv : Nat) (own : Ots B 80 voteC 8 h (.slice p l.length cap) l) (hB : B ≤ h.size) (hi : i ≤ l.length) (hl : l.length ≤ 1000000)
    (hx : h[bv]? = some (.cells (voteC x).toArray 80)) (hne : cap ≠ 0 → ∀ b o, p = some ⟨b, o, none⟩ → b ≠ bv) :
    CallsH Tryd.prog T 141 #[.slice p l.length cap, .int .i64 i, .slice (some ⟨bv, 0, none⟩) 1 1] h fun v' h' => Ots B 80 voteC 8 h' v' (l.take i ++ x :: l.drop i) ∧ Bel B h h' := by
  refine CallsH.of_code' (args := [_, _, _]) Tryd.func141 rfl rfl rfl rfl ?_
  have hlc : l.length ≤ cap := by
    obtain ⟨_, _, e, h⟩ := own.open
    simp only [Value.slice.injEq] at e
    omega
  have n1 : (0 : Int) ≤ (i : Int) := by omega
  have n2 : (i : Int) ≤ (l.length : Int) := by omega
  have sx : Ts voteC 8 h (.slice (some ⟨bv, 0, none⟩) 1 1) [x] := ⟨by
    have := sl_of_get (pre := []) (cs := voteC x) (post := []) (m := 1) (n := 8) (c := 1) (by rw [List.append_nil, List.nil_append]; exact hx) rfl rfl
    simpa [encs] using this⟩
  by_cases hin : i = l.length
  · subst hin
    have k1 : ((1 : Nat) : Int) = 1 := rfl
    by_cases c0 : cap = 0
    · obtain rfl : l = [] := List.eq_nil_of_length_eq_zero (by omega)
      subst c0
      rw [List.length_nil] at own ⊢
      have k0 : ((0 : Nat) : Int) = 0 := rfl
      simp (config := {maxSteps := 2000000, implicitDefEqProofs := false}) only [go_sem, ↓reduceIte, Nat.reduceEqDiff, Nat.reduceAdd, Nat.reduceMul, Nat.reduceLeDiff, Nat.reduceLT, Nat.reduceSub, IntWalk.iteOmega, IntWalk.toNatUp, reduceCtorEq, false_and, and_false, false_or, or_false, true_or, or_true, not_true_eq_false, not_false_eq_true, Bool.not_true, Bool.not_false, Bool.and_true, Bool.true_and, Bool.and_false, Bool.false_and, Bool.not_eq_true, beq_self_eq_true, Nat.add_zero, Int.reduceLE, Int.reduceLT, Int.reduceToNat, Int.reduceNeg, k0, k1]
      refine append_ts (E := 80) (B := B) (n := 8) (bytes := 64) tsl83 Tryd.underlying83 tn80 tz80 rfl tb80 (fun _ => rfl) own hB sx (by simp only [List.length_singleton, List.length_nil]; omega) (by omega) ?_
      intro v' h' ho hb _
      simp (config := {maxSteps := 2000000, implicitDefEqProofs := false}) only [go_sem, ↓reduceIte, Nat.reduceEqDiff, Nat.reduceAdd, Nat.reduceMul, Nat.reduceLeDiff, Nat.reduceLT, Nat.reduceSub, IntWalk.iteOmega, IntWalk.toNatUp, reduceCtorEq, false_and, and_false, false_or, or_false, true_or, or_true, not_true_eq_false, not_false_eq_true, Bool.not_true, Bool.not_false, Bool.and_true, Bool.true_and, Bool.and_false, Bool.false_and, Bool.not_eq_true, beq_self_eq_true, Nat.add_zero, Int.reduceLE, Int.reduceLT, Int.reduceToNat, Int.reduceNeg]
      exact ⟨ho, hb⟩
    · obtain ⟨b, spare, hBb, rfl, hg, _, hsp, _⟩ := own.own.spare c0
      have hz : (l.length : Int) ≤ (l.length : Int) := Int.le_refl _
      simp (config := {maxSteps := 2000000, implicitDefEqProofs := false}) only [go_sem, ↓reduceIte, Nat.reduceEqDiff, Nat.reduceAdd, Nat.reduceMul, Nat.reduceLeDiff, Nat.reduceLT, Nat.reduceSub, IntWalk.iteOmega, IntWalk.toNatUp, reduceCtorEq, false_and, and_false, false_or, or_false, true_or, or_true, not_true_eq_false, not_false_eq_true, Bool.not_true, Bool.not_false, Bool.and_true, Bool.true_and, Bool.and_false, Bool.false_and, Bool.not_eq_true, beq_self_eq_true, Nat.add_zero, Int.reduceLE, Int.reduceLT, Int.reduceToNat, Int.reduceNeg, n1, n2, k1, Int.toNat_natCast]
      refine append_ts (E := 80) (B := B) (n := 8) (bytes := 64) tsl83 Tryd.underlying83 tn80 tz80 rfl tb80 (fun _ => rfl) own hB sx (by simp only [List.length_singleton]; omega) (by omega) ?_
      intro v' h' ho hb _
      simp (config := {maxSteps := 2000000, implicitDefEqProofs := false}) only [go_sem, ↓reduceIte, Nat.reduceEqDiff, Nat.reduceAdd, Nat.reduceMul, Nat.reduceLeDiff, Nat.reduceLT, Nat.reduceSub, IntWalk.iteOmega, IntWalk.toNatUp, reduceCtorEq, false_and, and_false, false_or, or_false, true_or, or_true, not_true_eq_false, not_false_eq_true, Bool.not_true, Bool.not_false, Bool.and_true, Bool.true_and, Bool.and_false, Bool.false_and, Bool.not_eq_true, beq_self_eq_true, Nat.add_zero, Int.reduceLE, Int.reduceLT, Int.reduceToNat, Int.reduceNeg]
      rw [List.take_length, List.drop_length]
      exact ⟨ho, hb⟩
  have hil : i < l.length := by omega
  have hi' : ¬ (i : Int) = (l.length : Int) := by omega
  have c0 : cap ≠ 0 := by omega
  obtain ⟨b, spare, hBb, rfl, hg, _, hsp, _⟩ := own.own.spare c0
  have hbv : b ≠ bv := hne c0 b 0 rfl
  have et : l = l.take i ++ (l[i] :: l.drop (i + 1)) := by
    conv => lhs; rw [← List.take_append_drop i l, List.drop_eq_getElem_cons hil]
  have ed : encs voteC (l.drop i) = voteC l[i] ++ encs voteC (l.drop (i + 1)) := by
    rw [List.drop_eq_getElem_cons hil]; rfl
  have ee : encs voteC l = encs voteC (l.take i) ++ encs voteC (l.drop i) := by rw [← encs_append, List.take_append_drop]
  have lt : (encs voteC (l.take i)).length = i * 8 := by rw [encV_length, List.length_take]; congr 1; omega
  have ld : (encs voteC (l.drop i)).length = (l.length - i) * 8 := by rw [encV_length, List.length_drop]
  have efin : encs voteC (l.take i ++ x :: l.drop i) = encs voteC (l.take i) ++ (voteC x ++ encs voteC (l.drop i)) := by rw [encs_append]; rfl
  have lfin : (l.take i ++ x :: l.drop i).length = l.length + 1 := by rw [List.length_append, List.length_take, List.length_cons, List.length_drop]; omega
  have c1 : ¬ cap = i := by omega
  have m1 : (l.length : Int) + 1 = ((l.length + 1 : Nat) : Int) := by omega
  have m2 : ((l.length + 1 : Nat) : Int) - (i : Int) = ((l.length + 1 - i : Nat) : Int) := by omega
  have m3 : (i : Int) + 1 = ((i + 1 : Nat) : Int) := by omega
  have k1 : ((1 : Nat) : Int) = 1 := rfl
  by_cases hcap : cap < l.length + 1
  · have hcap' : (cap : Int) < ((l.length + 1 : Nat) : Int) := by omega
    have n3 : (i : Int) ≤ (cap : Int) := by omega
    simp (config := {maxSteps := 2000000, implicitDefEqProofs := false}) only [go_sem, ↓reduceIte, Nat.reduceEqDiff, Nat.reduceAdd, Nat.reduceMul, Nat.reduceLeDiff, Nat.reduceLT, Nat.reduceSub, IntWalk.iteOmega, IntWalk.toNatUp, reduceCtorEq, false_and, and_false, false_or, or_false, true_or, or_true, not_true_eq_false, not_false_eq_true, Bool.not_true, Bool.not_false, Bool.and_true, Bool.true_and, Bool.and_false, Bool.false_and, Bool.not_eq_true, beq_self_eq_true, Nat.add_zero, Int.reduceLE, Int.reduceLT, Int.reduceToNat, Int.reduceNeg, n1, n2, n3, k1, hi', m1, hcap', m2, Int.toNat_natCast]
    have own2 : Own B 80 8 h (.slice (some ⟨b, 0, none⟩) i cap) i (encs voteC (l.take i)) := by
      have := own.own.fore hi
      rw [ee, List.take_left' lt] at this
      exact this
    refine append_made2 (E := 80) (B := B) (n := 8) (m := i) (k := l.length + 1 - i) (bytes := 64) (zs := rep 8 [Value.int .i64 0]) tsl83 Tryd.underlying3 tn80 tz80 rfl (by decide) tb80 own2 hB (zeroV_one _) (by omega) (by omega) ?_
    intro w g ow _ hnew
    obtain ⟨hbg, c2, rfl⟩ := hnew _ _ rfl (by omega)
    obtain ⟨Z, hZ⟩ : ∃ Z, Z = (Builtin.zeroCells (rep 8 [Value.int .i64 0]).toArray (l.length + 1 - i)).toList := ⟨_, rfl⟩
    have lZ := zeroV (l.length + 1 - i)
    rw [← hZ] at ow lZ
    have ec : i + (l.length + 1 - i) = l.length + 1 := by omega
    rw [ec] at ow ⊢
    rcases ow with ⟨_, h0, _⟩ | ⟨b2, cap2, sp2, _, hv2, hg2, _, hs2, hc2⟩
    · omega
    simp only [Value.slice.injEq, Option.some.injEq, Addr.mk.injEq, true_and, and_true] at hv2
    obtain ⟨rfl, rfl⟩ := hv2
    have d1 : ¬ c2 = i := by omega
    have d2 : (i : Int) ≤ ((l.length + 1 : Nat) : Int) := by omega
    have hbl := lt_of_get hg
    have hvl := lt_of_get hx
    have hgb : g[b]? = _ := hbg.get hbl hg
    have hgv : g[bv]? = _ := hbg.get hvl hx
    have sx1 : Sl 8 g (.slice (some ⟨bv, 0, none⟩) 1 1) 1 (voteC x) := sl_of_get (pre := []) (post := []) (by rw [List.append_nil, List.nil_append]; exact hgv) rfl rfl
    have min1 : min 1 (l.length + 1 - i) = 1 := by omega
    have eZ : encs voteC (l.take i) ++ Z ++ sp2 = encs voteC (l.take i) ++ (Z.take 8 ++ (Z.drop 8 ++ sp2)) := by rw [List.append_assoc, ← List.append_assoc (Z.take 8), List.take_append_drop]
    have lz8 : (Z.take 8).length = 8 := by rw [List.length_take]; omega
    have ldz : (Z.drop 8).length = (l.length - i) * 8 := by rw [List.length_drop]; omega
    have ec1 : lput (encs voteC (l.take i) ++ Z ++ sp2) (i * 8) ((voteC x).take (1 * 8)) = (encs voteC (l.take i) ++ voteC x) ++ (Z.drop 8 ++ sp2) := by
      rw [show (voteC x).take (1 * 8) = voteC x from rfl, eZ, lput_at lt.symm (by rw [lz8]; rfl), List.append_assoc]
    simp (config := {maxSteps := 2000000, implicitDefEqProofs := false}) only [go_sem, ↓reduceIte, Nat.reduceEqDiff, Nat.reduceAdd, Nat.reduceMul, Nat.reduceLeDiff, Nat.reduceLT, Nat.reduceSub, IntWalk.iteOmega, IntWalk.toNatUp, reduceCtorEq, false_and, and_false, false_or, or_false, true_or, or_true, not_true_eq_false, not_false_eq_true, Bool.not_true, Bool.not_false, Bool.and_true, Bool.true_and, Bool.and_false, Bool.false_and, Bool.not_eq_true, beq_self_eq_true, Nat.add_zero, Int.reduceLE, Int.reduceLT, Int.reduceToNat, Int.reduceNeg, n1, d1, d2, Int.toNat_natCast, Nat.zero_add]
    refine copy_many (E := 80) (n := 8) tsl83 tn80 hg2 sx1 rfl ?_ ?_
    · rw [min1, List.length_append, List.length_append, lt, lZ]; omega
    rw [min1, ec1]
    obtain ⟨g2, hg2e⟩ : ∃ g2 : Hp, g2 = g.setIfInBounds h.size (.cells ((encs voteC (l.take i) ++ voteC x) ++ (Z.drop 8 ++ sp2)).toArray 80) := ⟨_, rfl⟩
    rw [← hg2e]
    have g2n : g2[h.size]? = some (.cells ((encs voteC (l.take i) ++ voteC x) ++ (Z.drop 8 ++ sp2)).toArray 80) := by rw [hg2e]; exact get_set hg2
    have g2b : g2[b]? = some (.cells (encs voteC (l.take i) ++ (encs voteC (l.drop i) ++ spare)).toArray 80) := by rw [hg2e, get_set_ne (by omega), hgb, ee, List.append_assoc]
    have bg2 : Bel h.size h g2 := by rw [hg2e]; exact hbg.addSet (Nat.le_refl _) _
    clear hg2e
    have m4 : (i : Int) + 1 = ((i + 1 : Nat) : Int) := by omega
    have d3 : ¬ c2 = i + 1 := by omega
    have d4 : ((i + 1 : Nat) : Int) ≤ ((l.length + 1 : Nat) : Int) := by omega
    have d5 : (0 : Int) ≤ ((i + 1 : Nat) : Int) := by omega
    simp (config := {maxSteps := 2000000, implicitDefEqProofs := false}) only [go_sem, ↓reduceIte, Nat.reduceEqDiff, Nat.reduceAdd, Nat.reduceMul, Nat.reduceLeDiff, Nat.reduceLT, Nat.reduceSub, IntWalk.iteOmega, IntWalk.toNatUp, reduceCtorEq, false_and, and_false, false_or, or_false, true_or, or_true, not_true_eq_false, not_false_eq_true, Bool.not_true, Bool.not_false, Bool.and_true, Bool.true_and, Bool.and_false, Bool.false_and, Bool.not_eq_true, beq_self_eq_true, Nat.add_zero, Int.reduceLE, Int.reduceLT, Int.reduceToNat, Int.reduceNeg]
    refine VS.w (h.size) [8] (.q 0 (.q 1 (.q 2 (.q 3 (.q 4 (.q 5 (.q 6 (.q 7 (.w 8 .nil))))))))) mixed (by kernel_rfl) ?_
    simp (config := {maxSteps := 2000000, implicitDefEqProofs := false}) only [go_sem, ↓reduceIte, Nat.reduceEqDiff, Nat.reduceAdd, Nat.reduceMul, Nat.reduceLeDiff, Nat.reduceLT, Nat.reduceSub, IntWalk.iteOmega, IntWalk.toNatUp, reduceCtorEq, false_and, and_false, false_or, or_false, true_or, or_true, not_true_eq_false, not_false_eq_true, Bool.not_true, Bool.not_false, Bool.and_true, Bool.true_and, Bool.and_false, Bool.false_and, Bool.not_eq_true, beq_self_eq_true, Nat.add_zero, Int.reduceLE, Int.reduceLT, Int.reduceToNat, Int.reduceNeg, n1, n2, m4, k1, d3, d4, d5, c1, Int.toNat_natCast, Nat.zero_add]
    have ss : Sl 8 g2 (.slice (some ⟨b, i * 8, none⟩) (l.length - i) (cap - i)) (l.length - i) (encs voteC (l.drop i)) := sl_of_get g2b ld lt.symm
    have min2 : min (l.length - i) (l.length + 1 - (i + 1)) = l.length - i := by omega
    have etk : (encs voteC (l.drop i)).take ((l.length - i) * 8) = encs voteC (l.drop i) := List.take_of_length_le (by omega)
    have ec2 : lput ((encs voteC (l.take i) ++ voteC x) ++ (Z.drop 8 ++ sp2)) ((i + 1) * 8) ((encs voteC (l.drop i)).take ((l.length - i) * 8)) = encs voteC (l.take i ++ x :: l.drop i) ++ sp2 := by
      rw [etk, lput_at (by rw [List.length_append, lt]; show (i + 1) * 8 = i * 8 + 8; omega) (by rw [ld, ldz]), efin]
      simp only [List.append_assoc]
    refine copy_many (E := 80) (n := 8) tsl83 tn80 g2n ss (encV_one _) ?_ ?_
    · rw [min2, List.length_append, List.length_append, List.length_append, lt, ldz]; show _ ≤ i * 8 + 8 + _; omega
    rw [min2, ec2]
    simp (config := {maxSteps := 2000000, implicitDefEqProofs := false}) only [go_sem, ↓reduceIte, Nat.reduceEqDiff, Nat.reduceAdd, Nat.reduceMul, Nat.reduceLeDiff, Nat.reduceLT, Nat.reduceSub, IntWalk.iteOmega, IntWalk.toNatUp, reduceCtorEq, false_and, and_false, false_or, or_false, true_or, or_true, not_true_eq_false, not_false_eq_true, Bool.not_true, Bool.not_false, Bool.and_true, Bool.true_and, Bool.and_false, Bool.false_and, Bool.not_eq_true, beq_self_eq_true, Nat.add_zero, Int.reduceLE, Int.reduceLT, Int.reduceToNat, Int.reduceNeg]
    refine ⟨⟨?_⟩, (bg2.addSet (Nat.le_refl _) _).mono hB⟩
    rw [lfin]
    exact Own.of_get hB (get_set g2n) (by rw [encV_length, lfin]) hs2 hc2
  · have hcap' : ¬ (cap : Int) < ((l.length + 1 : Nat) : Int) := by omega
    have hcap2 : ((l.length + 1 : Nat) : Int) ≤ (cap : Int) := by omega
    have n4 : (0 : Int) ≤ ((l.length + 1 : Nat) : Int) := by omega
    have m4 : (i : Int) + 1 = ((i + 1 : Nat) : Int) := by omega
    have d4 : ((i + 1 : Nat) : Int) ≤ ((l.length + 1 : Nat) : Int) := by omega
    have d5 : (0 : Int) ≤ ((i + 1 : Nat) : Int) := by omega
    have d3 : ¬ cap = i + 1 := by omega
    simp (config := {maxSteps := 2000000, implicitDefEqProofs := false}) only [go_sem, ↓reduceIte, Nat.reduceEqDiff, Nat.reduceAdd, Nat.reduceMul, Nat.reduceLeDiff, Nat.reduceLT, Nat.reduceSub, IntWalk.iteOmega, IntWalk.toNatUp, reduceCtorEq, false_and, and_false, false_or, or_false, true_or, or_true, not_true_eq_false, not_false_eq_true, Bool.not_true, Bool.not_false, Bool.and_true, Bool.true_and, Bool.and_false, Bool.false_and, Bool.not_eq_true, beq_self_eq_true, Nat.add_zero, Int.reduceLE, Int.reduceLT, Int.reduceToNat, Int.reduceNeg, n1, n2, n4, k1, c1, hi', m1, hcap', hcap2, m4, d3, d4, d5, Int.toNat_natCast, Nat.zero_add]
    have gB : h[b]? = some (.cells (encs voteC l ++ spare).toArray 80 (0, 0)) := hg
    have gA : h[bv]? = some (.cells (voteC x).toArray 80 (0, 0)) := hx
    have lsp : 8 ≤ spare.length := by
      rw [hsp]
      have := Nat.mul_le_mul_right 8 (show 1 ≤ cap - l.length by omega)
      omega
    refine vCall_extern Tryd.func176 (by decide) rfl overlapsFn.1 overlapsFn.2 ?_
    refine run_overlaps (size := 8) Tryd.underlying83 tn80 (fun e => hbv e.symm) gA gB (by intro e; have := congrArg List.length e; rw [List.length_append, List.length_nil] at this; omega) ?_
    simp (config := {maxSteps := 2000000, implicitDefEqProofs := false}) only [go_sem, ↓reduceIte, Nat.reduceEqDiff, Nat.reduceAdd, Nat.reduceMul, Nat.reduceLeDiff, Nat.reduceLT, Nat.reduceSub, IntWalk.iteOmega, IntWalk.toNatUp, reduceCtorEq, false_and, and_false, false_or, or_false, true_or, or_true, not_true_eq_false, not_false_eq_true, Bool.not_true, Bool.not_false, Bool.and_true, Bool.true_and, Bool.and_false, Bool.false_and, Bool.not_eq_true, beq_self_eq_true, Nat.add_zero, Int.reduceLE, Int.reduceLT, Int.reduceToNat, Int.reduceNeg]
    refine VS.w (B) [8] (.q 0 (.q 1 (.q 2 (.q 3 (.q 4 (.q 5 (.q 6 (.q 7 (.w 8 .nil))))))))) mixed (by kernel_rfl) ?_
    simp (config := {maxSteps := 2000000, implicitDefEqProofs := false}) only [go_sem, ↓reduceIte, Nat.reduceEqDiff, Nat.reduceAdd, Nat.reduceMul, Nat.reduceLeDiff, Nat.reduceLT, Nat.reduceSub, IntWalk.iteOmega, IntWalk.toNatUp, reduceCtorEq, false_and, and_false, false_or, or_false, true_or, or_true, not_true_eq_false, not_false_eq_true, Bool.not_true, Bool.not_false, Bool.and_true, Bool.true_and, Bool.and_false, Bool.false_and, Bool.not_eq_true, beq_self_eq_true, Nat.add_zero, Int.reduceLE, Int.reduceLT, Int.reduceToNat, Int.reduceNeg, n1, n2, m4, k1, d3, d4, d5, c1, Int.toNat_natCast, Nat.zero_add]
    have ss : Sl 8 h (.slice (some ⟨b, i * 8, none⟩) (l.length + 1 - i) (cap - i)) (l.length + 1 - i) (encs voteC (l.drop i) ++ spare.take 8) := sl_of_get (post := spare.drop 8) (by rw [hg, ee, List.append_assoc, List.append_assoc, List.take_append_drop]) (by rw [List.length_append, ld, List.length_take]; omega) lt.symm
    have min2 : min (l.length + 1 - i) (l.length + 1 - (i + 1)) = l.length - i := by omega
    have etk : (encs voteC (l.drop i) ++ spare.take 8).take ((l.length - i) * 8) = encs voteC (l.drop i) := List.take_left' ld
    have ld1 : (encs voteC (l.drop (i + 1))).length = (l.length - (i + 1)) * 8 := by rw [encV_length, List.length_drop]
    have ecc : encs voteC l ++ spare = (encs voteC (l.take i) ++ voteC l[i]) ++ ((encs voteC (l.drop (i + 1)) ++ spare.take 8) ++ spare.drop 8) := by
      rw [ee, ed]
      simp only [List.append_assoc, List.take_append_drop]
    have ec1 : lput (encs voteC l ++ spare) ((i + 1) * 8) (encs voteC (l.drop i)) = encs voteC (l.take i) ++ (voteC l[i] ++ (encs voteC (l.drop i) ++ spare.drop 8)) := by
      rw [ecc, lput_at (by rw [List.length_append, lt]; show (i + 1) * 8 = i * 8 + 8; omega) (by rw [ld, List.length_append, ld1, List.length_take]; omega), List.append_assoc]
    refine copy_part (E := 80) (n := 8) tsl83 tn80 gB ss (by rw [min2, etk]; exact encV_one _) ?_ ?_
    · rw [min2, List.length_append, encV_length]; omega
    rw [min2, etk, ec1]
    obtain ⟨g2, hg2e⟩ : ∃ g2 : Hp, g2 = h.setIfInBounds b (.cells (encs voteC (l.take i) ++ (voteC l[i] ++ (encs voteC (l.drop i) ++ spare.drop 8))).toArray 80) := ⟨_, rfl⟩
    rw [← hg2e]
    have g2n : g2[b]? = some (.cells (encs voteC (l.take i) ++ (voteC l[i] ++ (encs voteC (l.drop i) ++ spare.drop 8))).toArray 80) := by rw [hg2e]; exact get_set hg
    have g2v : g2[bv]? = some (.cells (voteC x).toArray 80) := by rw [hg2e, get_set_ne hbv]; exact hx
    have bg2 : Bel B h g2 := by rw [hg2e]; exact Bel.set hBb _
    clear hg2e
    have sx1 : Sl 8 g2 (.slice (some ⟨bv, 0, none⟩) 1 1) 1 (voteC x) := sl_of_get (pre := []) (post := []) (by rw [List.append_nil, List.nil_append]; exact g2v) rfl rfl
    have min1 : min 1 (l.length + 1 - i) = 1 := by omega
    have ec2 : lput (encs voteC (l.take i) ++ (voteC l[i] ++ (encs voteC (l.drop i) ++ spare.drop 8))) (i * 8) ((voteC x).take (1 * 8)) = encs voteC (l.take i ++ x :: l.drop i) ++ spare.drop 8 := by
      rw [show (voteC x).take (1 * 8) = voteC x from rfl, lput_at lt.symm (show (voteC x).length = (voteC l[i]).length from rfl), efin]
      simp only [List.append_assoc]
    simp (config := {maxSteps := 2000000, implicitDefEqProofs := false}) only [go_sem, ↓reduceIte, Nat.reduceEqDiff, Nat.reduceAdd, Nat.reduceMul, Nat.reduceLeDiff, Nat.reduceLT, Nat.reduceSub, IntWalk.iteOmega, IntWalk.toNatUp, reduceCtorEq, false_and, and_false, false_or, or_false, true_or, or_true, not_true_eq_false, not_false_eq_true, Bool.not_true, Bool.not_false, Bool.and_true, Bool.true_and, Bool.and_false, Bool.false_and, Bool.not_eq_true, beq_self_eq_true, Nat.add_zero, Int.reduceLE, Int.reduceLT, Int.reduceToNat, Int.reduceNeg, n1, n2, m4, k1, d3, d4, d5, c1, Int.toNat_natCast, Nat.zero_add]
    refine copy_many (E := 80) (n := 8) tsl83 tn80 g2n sx1 rfl ?_ ?_
    · rw [min1, List.length_append, List.length_append, lt]; show i * 8 + 1 * 8 ≤ i * 8 + (8 + _); omega
    rw [min1, ec2]
    simp (config := {maxSteps := 2000000, implicitDefEqProofs := false}) only [go_sem, ↓reduceIte, Nat.reduceEqDiff, Nat.reduceAdd, Nat.reduceMul, Nat.reduceLeDiff, Nat.reduceLT, Nat.reduceSub, IntWalk.iteOmega, IntWalk.toNatUp, reduceCtorEq, false_and, and_false, false_or, or_false, true_or, or_true, not_true_eq_false, not_false_eq_true, Bool.not_true, Bool.not_false, Bool.and_true, Bool.true_and, Bool.and_false, Bool.false_and, Bool.not_eq_true, beq_self_eq_true, Nat.add_zero, Int.reduceLE, Int.reduceLT, Int.reduceToNat, Int.reduceNeg]
    refine ⟨⟨?_⟩, bg2.trans (Bel.set hBb _)⟩
    rw [lfin]
    exact Own.of_get hBb (get_set g2n) (by rw [encV_length, lfin]) (by rw [List.length_drop, hsp]; omega) (by omega)
end Go.Proofs.YtnpacofabdgcdaaDoor
namespace Go.Proofs.YtnpacofabdgcdaaDoor
open Go Go.V
set_option linter.unusedSimpArgs false
set_option linter.unusedVariables false
set_option maxRecDepth 100000
theorem srt_low {l : List Vt} (hs : Srt l) (hm : ∀ x ∈ l, voteMay x) : ∀ i (hi : i < l.length), (i : Int) ≤ l[i].slot := by
  intro i
  induction i with
  | zero => intro hi; have := (hm _ (List.getElem_mem hi)).1.1; omega
  | succ i ih =>
    intro hi
    have h1 := ih (by omega)
    have h2 := hs i (i + 1) (by omega) hi (by omega)
    omega
theorem srt_few {l : List Vt} (hs : Srt l) (hm : ∀ x ∈ l, voteMay x) : l.length ≤ 40 := by
  by_cases h : l.length ≤ 40
  · exact h
  · have h1 := srt_low hs hm 40 (by omega)
    have h2 := (hm _ (List.getElem_mem (show 40 < l.length by omega))).1.2
    omega
def acErr (p : Bal) (l : List Vt) (x : Vt) : Int := if accErr p l ≠ 0 then 5 else if ¬ voteMay x then 2 else if below x.b p then 7 else 0
def AcRes (B : Nat) (h' : Hp) (v' : Value) (p : Bal) (l : List Vt) (x : Vt) : Prop := ∃ w, v' = .tuple [.agg (accC (if acErr p l x = 0 then x.b else ⟨0, 0⟩) w).toArray, .int .i64 (acErr p l x)].toArray ∧
  Ots B 80 voteC 8 h' w (if acErr p l x = 0 then insV l x else [])
theorem accept_ok (T : World) (h : Hp) (p : Bal) (u : Value) (l : List Vt) (x : Vt) (s : Ts voteC 8 h u l) (hl : l.length ≤ 2199023255552) :
    CallsH Tryd.prog T 102 #[.agg (accC p u).toArray, .agg (voteC x).toArray] h fun v' h' => AcRes h.size h' v' p l x ∧ Bel h.size h h' := by
  obtain ⟨pu, cu, rfl, _⟩ := votes_open s
  refine CallsH.of_code2 (args := [_, _]) Tryd.func102 rfl rfl rfl rfl ?_
  unfold accC voteC
  simp (config := {maxSteps := 2000000, implicitDefEqProofs := false}) only [go_sem, ↓reduceIte, Nat.reduceEqDiff, Nat.reduceAdd, Nat.reduceMul, Nat.reduceLeDiff, Nat.reduceLT, Nat.reduceSub, IntWalk.iteOmega, IntWalk.toNatUp, reduceCtorEq, false_and, and_false, false_or, or_false, true_or, or_true, not_true_eq_false, not_false_eq_true, Bool.not_true, Bool.not_false, Bool.and_true, Bool.true_and, Bool.and_false, Bool.false_and, Bool.not_eq_true, beq_self_eq_true, Nat.add_zero, Int.reduceLE, Int.reduceLT, Int.reduceToNat, Int.reduceNeg]
  obtain ⟨h0, hh0⟩ : ∃ h0 : Hp, h0 = ((h.push (.cells (accC p (.slice pu l.length cu)).toArray 85)).push (.cells (voteC x).toArray 80)).push (.cells [.int .i64 0, .int .i64 0, .slice none 0 0].toArray 85) := ⟨_, rfl⟩
  have b0 : Bel h.size h h0 := by rw [hh0]; exact (((Bel.refl _ _).add _).add _).add _
  have s0 : h0.size = h.size + 3 := by rw [hh0]; simp
  have x0 : h0[h.size]? = some (.cells (accC p (.slice pu l.length cu)).toArray 85) := by
    rw [hh0, Array.getElem?_push, if_neg (by simp; omega), Array.getElem?_push, if_neg (by simp), get_push_last]
  have y0 : h0[h.size + 1]? = some (.cells (voteC x).toArray 80) := by
    rw [hh0, Array.getElem?_push, if_neg (by simp), Array.getElem?_push, if_pos (by simp)]
  have z0 : h0[h.size + 2]? = some (.cells [.int .i64 0, .int .i64 0, .slice none 0 0].toArray 85) := by
    rw [hh0, Array.getElem?_push, if_pos (by simp)]
  have e0 : ((h.push (.cells #[Value.int .i64 p.r, .int .i64 p.n, .slice pu l.length cu] 85)).push (.cells #[Value.int .i64 x.slot, .int .i64 x.b.r, .int .i64 x.b.n, .int .i64 x.k, .int .i64 x.c, .int .i64 x.s, .int .i64 x.nm, .int .i64 x.v] 80)).push (.cells #[Value.int .i64 0, .int .i64 0, .slice none 0 0] 85) = h0 := hh0.symm
  rw [e0]
  clear e0 hh0
  refine (paxosCheck_ok T h0 p _ l (s.bel b0) (by omega)).use ?_
  rintro _ h1 ⟨rfl, b1⟩
  have s1 := b1.size
  have B1 : Bel h.size h h1 := b0.trans (b1.mono (by omega))
  have x1 := b1.get (by omega) x0
  have y1 := b1.get (by omega) y0
  have z1 := b1.get (by omega) z0
  have fin : ∀ (G : Hp) (w : List Value), w.length = 3 → w.all oneC = true → G[h.size + 2]? = some (.cells [.int .i64 0, .int .i64 0, .slice none 0 0].toArray 85) → wr G ⟨h.size + 1 + 1, 0, none⟩ w = some (G.setIfInBounds (h.size + 1 + 1) (.cells w.toArray 85)) := by
    intro G w h3 h1 hx
    rw [wr_get (b := h.size + 1 + 1) hx 0 w, lput_full (by rw [h3]; rfl), if_pos ⟨by rw [h3]; simp, h1⟩]
  have hlt1 : h.size + 2 < h1.size := by omega
  unfold AcRes
  rcases accErr_five p l with e0 | e0
  case inr =>
    have e : acErr p l x = 5 := by unfold acErr; rw [if_pos (by rw [e0]; decide)]
    have w2 := fin h1 [.int .i64 0, .int .i64 0, .slice none 0 0] rfl rfl z1
    simp (config := {maxSteps := 2000000, implicitDefEqProofs := false}) only [go_sem, ↓reduceIte, Nat.reduceEqDiff, Nat.reduceAdd, Nat.reduceMul, Nat.reduceLeDiff, Nat.reduceLT, Nat.reduceSub, IntWalk.iteOmega, IntWalk.toNatUp, reduceCtorEq, false_and, and_false, false_or, or_false, true_or, or_true, not_true_eq_false, not_false_eq_true, Bool.not_true, Bool.not_false, Bool.and_true, Bool.true_and, Bool.and_false, Bool.false_and, Bool.not_eq_true, beq_self_eq_true, Nat.add_zero, Int.reduceLE, Int.reduceLT, Int.reduceToNat, Int.reduceNeg, e0, e, w2, hlt1]
    exact ⟨⟨_, rfl, Ots.nil _ _ _ _ _⟩, B1.addSet (by omega) _⟩
  have r1 : rd h1 ⟨h.size + 1, 0, none⟩ 8 = some (voteC x) := rd_last y1 rfl
  unfold voteC at r1
  simp (config := {maxSteps := 2000000, implicitDefEqProofs := false}) only [go_sem, ↓reduceIte, Nat.reduceEqDiff, Nat.reduceAdd, Nat.reduceMul, Nat.reduceLeDiff, Nat.reduceLT, Nat.reduceSub, IntWalk.iteOmega, IntWalk.toNatUp, reduceCtorEq, false_and, and_false, false_or, or_false, true_or, or_true, not_true_eq_false, not_false_eq_true, Bool.not_true, Bool.not_false, Bool.and_true, Bool.true_and, Bool.and_false, Bool.false_and, Bool.not_eq_true, beq_self_eq_true, Nat.add_zero, Int.reduceLE, Int.reduceLT, Int.reduceToNat, Int.reduceNeg, e0, r1]
  refine (vote_ok T h1 x).use ?_
  rintro _ h2 ⟨rfl, b2⟩
  have s2 := b2.size
  have B2 := B1.trans (b2.mono (by omega))
  have x2 := b2.get (by omega) x1
  have y2 := b2.get (by omega) y1
  have z2 := b2.get (by omega) z1
  have hlt2 : h.size + 2 < h2.size := by omega
  by_cases q1 : voteMay x
  case neg =>
    have e : acErr p l x = 2 := by unfold acErr; rw [if_neg (by rw [e0]; decide), if_pos q1]
    have w2 := fin h2 [.int .i64 0, .int .i64 0, .slice none 0 0] rfl rfl z2
    simp (config := {maxSteps := 2000000, implicitDefEqProofs := false}) only [go_sem, ↓reduceIte, Nat.reduceEqDiff, Nat.reduceAdd, Nat.reduceMul, Nat.reduceLeDiff, Nat.reduceLT, Nat.reduceSub, IntWalk.iteOmega, IntWalk.toNatUp, reduceCtorEq, false_and, and_false, false_or, or_false, true_or, or_true, not_true_eq_false, not_false_eq_true, Bool.not_true, Bool.not_false, Bool.and_true, Bool.true_and, Bool.and_false, Bool.false_and, Bool.not_eq_true, beq_self_eq_true, Nat.add_zero, Int.reduceLE, Int.reduceLT, Int.reduceToNat, Int.reduceNeg, q1, e, w2, hlt2]
    exact ⟨⟨_, rfl, Ots.nil _ _ _ _ _⟩, B2.addSet (by omega) _⟩
  have rb : rd h2 ⟨h.size + 1, 1, none⟩ 2 = some [.int .i64 x.b.r, .int .i64 x.b.n] := by rw [rd_part y2 (by simp [voteC])]; rfl
  have rp : rd h2 ⟨h.size, 0, none⟩ 2 = some [.int .i64 p.r, .int .i64 p.n] := by rw [rd_part x2 (by simp [accC])]; rfl
  simp (config := {maxSteps := 2000000, implicitDefEqProofs := false}) only [go_sem, ↓reduceIte, Nat.reduceEqDiff, Nat.reduceAdd, Nat.reduceMul, Nat.reduceLeDiff, Nat.reduceLT, Nat.reduceSub, IntWalk.iteOmega, IntWalk.toNatUp, reduceCtorEq, false_and, and_false, false_or, or_false, true_or, or_true, not_true_eq_false, not_false_eq_true, Bool.not_true, Bool.not_false, Bool.and_true, Bool.true_and, Bool.and_false, Bool.false_and, Bool.not_eq_true, beq_self_eq_true, Nat.add_zero, Int.reduceLE, Int.reduceLT, Int.reduceToNat, Int.reduceNeg, q1, rb, rp]
  refine (compare_ok T h2 x.b p).use ?_
  rintro _ h3 ⟨rfl, b3⟩
  have s3 := b3.size
  have B3 := B2.trans (b3.mono (by omega))
  have x3 := b3.get (by omega) x2
  have y3 := b3.get (by omega) y2
  have z3 := b3.get (by omega) z2
  have hlt3 : h.size + 2 < h3.size := by omega
  by_cases q2 : below x.b p
  case pos =>
    have e : acErr p l x = 7 := by unfold acErr; rw [if_neg (by rw [e0]; decide), if_neg (fun h => h q1), if_pos q2]
    have w2 := fin h3 [.int .i64 0, .int .i64 0, .slice none 0 0] rfl rfl z3
    have c2' : bcmp x.b p < 0 := (bcmp_neg x.b p).2 q2
    simp (config := {maxSteps := 2000000, implicitDefEqProofs := false}) only [go_sem, ↓reduceIte, Nat.reduceEqDiff, Nat.reduceAdd, Nat.reduceMul, Nat.reduceLeDiff, Nat.reduceLT, Nat.reduceSub, IntWalk.iteOmega, IntWalk.toNatUp, reduceCtorEq, false_and, and_false, false_or, or_false, true_or, or_true, not_true_eq_false, not_false_eq_true, Bool.not_true, Bool.not_false, Bool.and_true, Bool.true_and, Bool.and_false, Bool.false_and, Bool.not_eq_true, beq_self_eq_true, Nat.add_zero, Int.reduceLE, Int.reduceLT, Int.reduceToNat, Int.reduceNeg, c2', e, w2, hlt3]
    exact ⟨⟨_, rfl, Ots.nil _ _ _ _ _⟩, B3.addSet (by omega) _⟩
  have e : acErr p l x = 0 := by unfold acErr; rw [if_neg (by rw [e0]; decide), if_neg (fun h => h q1), if_neg q2]
  have c2' : ¬ bcmp x.b p < 0 := fun h => q2 ((bcmp_neg x.b p).1 h)
  have srt := accErr_srt e0
  have few := srt_few srt (accErr_may e0)
  have rv : hc h3 ⟨h.size, 2, none⟩ = some (.slice pu l.length cu) := by rw [hc_last x3]; rfl
  simp (config := {maxSteps := 2000000, implicitDefEqProofs := false}) only [go_sem, ↓reduceIte, Nat.reduceEqDiff, Nat.reduceAdd, Nat.reduceMul, Nat.reduceLeDiff, Nat.reduceLT, Nat.reduceSub, IntWalk.iteOmega, IntWalk.toNatUp, reduceCtorEq, false_and, and_false, false_or, or_false, true_or, or_true, not_true_eq_false, not_false_eq_true, Bool.not_true, Bool.not_false, Bool.and_true, Bool.true_and, Bool.and_false, Bool.false_and, Bool.not_eq_true, beq_self_eq_true, Nat.add_zero, Int.reduceLE, Int.reduceLT, Int.reduceToNat, Int.reduceNeg, c2', rv]
  refine (cloneVotes_ok T h3 _ l (s.bel B3) hl).use ?_
  rintro w4 h4 ⟨o4, b4⟩
  have s4 := b4.size
  have B4 := B3.trans (b4.mono (by omega))
  have y4 := b4.get (by omega) y3
  have z4 := b4.get (by omega) z3
  have r4 : rd h4 ⟨h.size + 1, 0, none⟩ 8 = some (voteC x) := rd_last y4 rfl
  unfold voteC at r4
  simp (config := {maxSteps := 2000000, implicitDefEqProofs := false}) only [go_sem, ↓reduceIte, Nat.reduceEqDiff, Nat.reduceAdd, Nat.reduceMul, Nat.reduceLeDiff, Nat.reduceLT, Nat.reduceSub, IntWalk.iteOmega, IntWalk.toNatUp, reduceCtorEq, false_and, and_false, false_or, or_false, true_or, or_true, not_true_eq_false, not_false_eq_true, Bool.not_true, Bool.not_false, Bool.and_true, Bool.true_and, Bool.and_false, Bool.false_and, Bool.not_eq_true, beq_self_eq_true, Nat.add_zero, Int.reduceLE, Int.reduceLT, Int.reduceToNat, Int.reduceNeg, r4]
  refine (bsearch_ok T h4 w4 l x o4.ts srt hl).use ?_
  rintro _ h5 ⟨⟨i, b, hi, rfl, hf⟩, b5⟩
  have s5 := b5.size
  have B5 := B4.trans (b5.mono (by omega))
  have y5 := b5.get (by omega) y4
  have z5 := b5.get (by omega) z4
  have o5 := o4.bel b5 (Nat.le_refl _)
  have r5 : rd h5 ⟨h.size + 1, 0, none⟩ 8 = some (voteC x) := rd_last y5 rfl
  unfold voteC at r5
  have n1 : (0 : Int) ≤ (i : Int) := by omega
  obtain ⟨p4, c4, rfl, hc4⟩ := o4.open
  rcases hf with ⟨rfl, hil, heq⟩ | ⟨rfl, hlo, hhi⟩
  · have hil' : (i : Int) < (l.length : Int) := by omega
    have c0 : c4 ≠ 0 := by omega
    obtain ⟨b, spare, hBb, rfl, hg, _, hsp, _⟩ := o5.own.spare c0
    have et : l = l.take i ++ (l[i] :: l.drop (i + 1)) := by
      conv => lhs; rw [← List.take_append_drop i l, List.drop_eq_getElem_cons hil]
    have es : l.set i x = l.take i ++ (x :: l.drop (i + 1)) := by rw [List.set_eq_take_append_cons_drop, if_pos hil]
    have ee : encs voteC l = encs voteC (l.take i) ++ (voteC l[i] ++ encs voteC (l.drop (i + 1))) := by
      have := congrArg (encs voteC) et
      rw [encs_append] at this
      exact this
    have eset : encs voteC (l.set i x) = encs voteC (l.take i) ++ (voteC x ++ encs voteC (l.drop (i + 1))) := by
      have := congrArg (encs voteC) es
      rw [encs_append] at this
      exact this
    have lt : (encs voteC (l.take i)).length = i * 8 := by rw [encV_length, List.length_take]; congr 1; omega
    have hw : wr h5 ⟨b, i * 8, none⟩ (voteC x) = some (h5.setIfInBounds b (.cells (encs voteC (l.set i x) ++ spare).toArray 80)) := by
      have ll := encV_length l
      have hmul : i * 8 + 8 ≤ l.length * 8 := by omega
      rw [wr_get hg, if_pos ⟨by rw [List.length_append, ll]; show i * 8 + 8 ≤ _; omega, rfl⟩, ee, List.append_assoc, List.append_assoc, lput_at lt.symm (show (voteC x).length = (voteC l[i]).length from rfl), eset, List.append_assoc, List.append_assoc]
    have hbz : b < h5.size := lt_of_get hg
    have hne1 : ¬ h.size + 1 = b := by omega
    have hne2 : ¬ h.size + 2 = b := by omega
    have rb5 : rd h5 ⟨h.size + 1, 1, none⟩ 2 = some [.int .i64 x.b.r, .int .i64 x.b.n] := by rw [rd_part y5 (by simp [voteC])]; rfl
    obtain ⟨h6, hh6⟩ : ∃ h6 : Hp, h6 = h5.setIfInBounds b (.cells (encs voteC (l.set i x) ++ spare).toArray 80) := ⟨_, rfl⟩
    rw [← hh6] at hw
    unfold voteC at hw
    have y6 : h6[h.size + 1]? = some (.cells (voteC x).toArray 80) := by rw [hh6, get_set_ne (by omega)]; exact y5
    have z6 : h6[h.size + 2]? = some (.cells [.int .i64 0, .int .i64 0, .slice none 0 0].toArray 85) := by rw [hh6, get_set_ne (by omega)]; exact z5
    have B6 : Bel h.size h h6 := by rw [hh6]; exact B5.addSet (by omega) _
    have o6 : Ots (h.size + 3) 80 voteC 8 h6 (.slice (some ⟨b, 0, none⟩) l.length c4) (l.set i x) := by
      refine ⟨?_⟩
      rw [List.length_set]
      exact Own.of_get (by omega) (by rw [hh6]; exact get_set hg) (by rw [encV_length, List.length_set]) hsp hc4
    have rb6 : rd h6 ⟨h.size + 1, 1, none⟩ 2 = some [.int .i64 x.b.r, .int .i64 x.b.n] := by rw [rd_part y6 (by simp [voteC])]; rfl
    have w6 := fin h6 [.int .i64 x.b.r, .int .i64 x.b.n, .slice (some ⟨b, 0, none⟩) l.length c4] rfl rfl z6
    have hlt6 : h.size + 2 < h6.size := lt_of_get z6
    simp (config := {maxSteps := 2000000, implicitDefEqProofs := false}) only [go_sem, ↓reduceIte, Nat.reduceEqDiff, Nat.reduceAdd, Nat.reduceMul, Nat.reduceLeDiff, Nat.reduceLT, Nat.reduceSub, IntWalk.iteOmega, IntWalk.toNatUp, reduceCtorEq, false_and, and_false, false_or, or_false, true_or, or_true, not_true_eq_false, not_false_eq_true, Bool.not_true, Bool.not_false, Bool.and_true, Bool.true_and, Bool.and_false, Bool.false_and, Bool.not_eq_true, beq_self_eq_true, Nat.add_zero, Int.reduceLE, Int.reduceLT, Int.reduceToNat, Int.reduceNeg, n1, hil', r5, Int.toNat_natCast, Nat.zero_add, hw, rb6, w6, hlt6, e]
    refine ⟨⟨_, rfl, ?_⟩, B6.addSet (by omega) _⟩
    rw [insV_old srt hil heq]
    exact (o6.setLow (by omega) _).mono (by omega)
  · have hn : insV l x = l.take i ++ x :: l.drop i := insV_new srt hi hlo hhi
    simp (config := {maxSteps := 2000000, implicitDefEqProofs := false}) only [go_sem, ↓reduceIte, Nat.reduceEqDiff, Nat.reduceAdd, Nat.reduceMul, Nat.reduceLeDiff, Nat.reduceLT, Nat.reduceSub, IntWalk.iteOmega, IntWalk.toNatUp, reduceCtorEq, false_and, and_false, false_or, or_false, true_or, or_true, not_true_eq_false, not_false_eq_true, Bool.not_true, Bool.not_false, Bool.and_true, Bool.true_and, Bool.and_false, Bool.false_and, Bool.not_eq_true, beq_self_eq_true, Nat.add_zero, Int.reduceLE, Int.reduceLT, Int.reduceToNat, Int.reduceNeg, r5]
    obtain ⟨h6, hh6⟩ : ∃ h6 : Hp, h6 = h5.push (.cells (voteC x).toArray 80) := ⟨_, rfl⟩
    have e6 : h5.push (.cells #[Value.int .i64 x.slot, .int .i64 x.b.r, .int .i64 x.b.n, .int .i64 x.k, .int .i64 x.c, .int .i64 x.s, .int .i64 x.nm, .int .i64 x.v] 80) = h6 := hh6.symm
    rw [e6]
    have b6 : Bel h5.size h5 h6 := by rw [hh6]; exact Bel.push (Nat.le_refl _) _
    have s6 : h6.size = h5.size + 1 := by rw [hh6]; simp
    have v6 : h6[h5.size]? = some (.cells (voteC x).toArray 80) := by rw [hh6]; exact get_push_last
    clear e6 hh6
    have B6 := B5.trans (b6.mono (by omega))
    have o6 := (o5.bel b6 (Nat.le_refl _)).mono (B' := h.size + 3) (by omega)
    have hne : c4 ≠ 0 → ∀ b o, p4 = some ⟨b, o, none⟩ → b ≠ h5.size := by
      intro c0 b o hp
      subst hp
      obtain ⟨b', _, _, hb', hg', _⟩ := o5.own.spare c0
      simp only [Option.some.injEq, Addr.mk.injEq] at hb'
      have := lt_of_get hg'
      omega
    refine (insert_ok T h6 (h.size + 3) p4 c4 i l x h5.size o6 (by omega) hi (by omega) v6 hne).use ?_
    rintro w7 h7 ⟨o7, b7⟩
    obtain ⟨p7, c7, rfl, _⟩ := o7.open
    have s7 := b7.size
    have B7 := B6.trans (b7.mono (by omega))
    have y7 := b7.get (by omega) (b6.get (by omega) y5)
    have z7 := b7.get (by omega) (b6.get (by omega) z5)
    have rb7 : rd h7 ⟨h.size + 1, 1, none⟩ 2 = some [.int .i64 x.b.r, .int .i64 x.b.n] := by rw [rd_part y7 (by simp [voteC])]; rfl
    obtain ⟨L, hL⟩ : ∃ L, L = l.take i ++ x :: l.drop i := ⟨_, rfl⟩
    rw [← hL] at o7 hn ⊢
    have w7 := fin h7 [.int .i64 x.b.r, .int .i64 x.b.n, .slice p7 L.length c7] rfl rfl z7
    have hlt7 : h.size + 2 < h7.size := lt_of_get z7
    simp (config := {maxSteps := 2000000, implicitDefEqProofs := false}) only [go_sem, ↓reduceIte, Nat.reduceEqDiff, Nat.reduceAdd, Nat.reduceMul, Nat.reduceLeDiff, Nat.reduceLT, Nat.reduceSub, IntWalk.iteOmega, IntWalk.toNatUp, reduceCtorEq, false_and, and_false, false_or, or_false, true_or, or_true, not_true_eq_false, not_false_eq_true, Bool.not_true, Bool.not_false, Bool.and_true, Bool.true_and, Bool.and_false, Bool.false_and, Bool.not_eq_true, beq_self_eq_true, Nat.add_zero, Int.reduceLE, Int.reduceLT, Int.reduceToNat, Int.reduceNeg, rb7, w7, hlt7, e]
    refine ⟨⟨_, rfl, ?_⟩, B7.addSet (by omega) _⟩
    rw [hn]
    exact (o7.setLow (by omega) _).mono (by omega)
end Go.Proofs.YtnpacofabdgcdaaDoor
namespace Go.Proofs.YtnpacofabdgcdaaDoor
open Go Go.V
set_option linter.unusedSimpArgs false
set_option linter.unusedVariables false
set_option maxRecDepth 100000
theorem insR_few {l : List Vt} (hs : Srt l) (v : Vt) (h0 : 0 ≤ v.slot) (hl : ∀ x ∈ l, 0 ≤ x.slot) (s : Nat) : (insR l v s).length ≤ 2 * l.length + 1 := by
  rw [insR_eq hs v h0 hl]
  have a1 := List.length_filter_le (fun x => decide (x.slot < v.slot ∧ x.slot < (s : Int))) l
  have a2 := List.length_filter_le (fun x => decide (v.slot < x.slot ∧ x.slot < (s : Int))) l
  simp only [List.length_append]
  split
  · simp only [List.length_singleton]; omega
  · simp only [List.length_nil]; omega
theorem filter_snoc {l : List Vt} (q : Vt → Bool) {i : Nat} (hi : i < l.length) : (l.take (i + 1)).filter q = (l.take i).filter q ++ (if q l[i] = true then [l[i]] else []) := by
  rw [take_snoc l i hi, List.filter_append]
  congr 1
  simp only [List.filter_cons, List.filter_nil]
set_option maxHeartbeats 1000000 in
theorem acceptedBy_ok (T : World) (h : Hp) (p : Bal) (u : Value) (l : List Vt) (x : Vt) (s : Ts voteC 8 h u l) (hl : l.length ≤ 2199023255552) :
    CallsH Tryd.prog T 145 #[.agg (accC p u).toArray, .agg (voteC x).toArray] h fun v' h' => AcRes h.size h' v' p l x ∧ Bel h.size h h' := by
  obtain ⟨pu, cu, rfl, hcs⟩ := votes_open s
  refine CallsH.of_code2 (args := [_, _]) Tryd.func145 rfl rfl rfl rfl ?_
  unfold accC voteC
  simp (config := {maxSteps := 2000000, implicitDefEqProofs := false}) only [go_sem, ↓reduceIte, Nat.reduceEqDiff, Nat.reduceAdd, Nat.reduceMul, Nat.reduceLeDiff, Nat.reduceLT, Nat.reduceSub, IntWalk.iteOmega, IntWalk.toNatUp, reduceCtorEq, false_and, and_false, false_or, or_false, true_or, or_true, not_true_eq_false, not_false_eq_true, Bool.not_true, Bool.not_false, Bool.and_true, Bool.true_and, Bool.and_false, Bool.false_and, Bool.not_eq_true, beq_self_eq_true, Nat.add_zero, Int.reduceLE, Int.reduceLT, Int.reduceToNat, Int.reduceNeg]
  obtain ⟨h0, hh0⟩ : ∃ h0 : Hp, h0 = ((h.push (.cells (accC p (.slice pu l.length cu)).toArray 85)).push (.cells (voteC x).toArray 80)).push (.cells [.int .i64 0, .int .i64 0, .slice none 0 0].toArray 85) := ⟨_, rfl⟩
  have b0 : Bel h.size h h0 := by rw [hh0]; exact (((Bel.refl _ _).add _).add _).add _
  have s0 : h0.size = h.size + 3 := by rw [hh0]; simp
  have x0 : h0[h.size]? = some (.cells (accC p (.slice pu l.length cu)).toArray 85) := by
    rw [hh0, Array.getElem?_push, if_neg (by simp; omega), Array.getElem?_push, if_neg (by simp), get_push_last]
  have y0 : h0[h.size + 1]? = some (.cells (voteC x).toArray 80) := by
    rw [hh0, Array.getElem?_push, if_neg (by simp), Array.getElem?_push, if_pos (by simp)]
  have z0 : h0[h.size + 2]? = some (.cells [.int .i64 0, .int .i64 0, .slice none 0 0].toArray 85) := by
    rw [hh0, Array.getElem?_push, if_pos (by simp)]
  have e0 : ((h.push (.cells #[Value.int .i64 p.r, .int .i64 p.n, .slice pu l.length cu] 85)).push (.cells #[Value.int .i64 x.slot, .int .i64 x.b.r, .int .i64 x.b.n, .int .i64 x.k, .int .i64 x.c, .int .i64 x.s, .int .i64 x.nm, .int .i64 x.v] 80)).push (.cells #[Value.int .i64 0, .int .i64 0, .slice none 0 0] 85) = h0 := hh0.symm
  rw [e0]
  clear e0 hh0
  refine (acceptorFault_ok T h0 p _ l (s.bel b0) (by omega)).use ?_
  rintro _ h1 ⟨rfl, b1⟩
  have s1 := b1.size
  have B1 : Bel h.size h h1 := b0.trans (b1.mono (by omega))
  have x1 := b1.get (by omega) x0
  have y1 := b1.get (by omega) y0
  have z1 := b1.get (by omega) z0
  have fin : ∀ (G : Hp) (w : List Value), w.length = 3 → w.all oneC = true → G[h.size + 2]? = some (.cells [.int .i64 0, .int .i64 0, .slice none 0 0].toArray 85) → wr G ⟨h.size + 1 + 1, 0, none⟩ w = some (G.setIfInBounds (h.size + 1 + 1) (.cells w.toArray 85)) := by
    intro G w h3 h1 hx
    rw [wr_get (b := h.size + 1 + 1) hx 0 w, lput_full (by rw [h3]; rfl), if_pos ⟨by rw [h3]; simp, h1⟩]
  have hlt1 : h.size + 2 < h1.size := by omega
  unfold AcRes
  rcases accErr_five p l with e0 | e0
  case inr =>
    have e : acErr p l x = 5 := by unfold acErr; rw [if_pos (by rw [e0]; decide)]
    have w2 := fin h1 [.int .i64 0, .int .i64 0, .slice none 0 0] rfl rfl z1
    simp (config := {maxSteps := 2000000, implicitDefEqProofs := false}) only [go_sem, ↓reduceIte, Nat.reduceEqDiff, Nat.reduceAdd, Nat.reduceMul, Nat.reduceLeDiff, Nat.reduceLT, Nat.reduceSub, IntWalk.iteOmega, IntWalk.toNatUp, reduceCtorEq, false_and, and_false, false_or, or_false, true_or, or_true, not_true_eq_false, not_false_eq_true, Bool.not_true, Bool.not_false, Bool.and_true, Bool.true_and, Bool.and_false, Bool.false_and, Bool.not_eq_true, beq_self_eq_true, Nat.add_zero, Int.reduceLE, Int.reduceLT, Int.reduceToNat, Int.reduceNeg, e0, e, w2, hlt1]
    exact ⟨⟨_, rfl, Ots.nil _ _ _ _ _⟩, B1.addSet (by omega) _⟩
  have r1 : rd h1 ⟨h.size + 1, 0, none⟩ 8 = some (voteC x) := rd_last y1 rfl
  unfold voteC at r1
  simp (config := {maxSteps := 2000000, implicitDefEqProofs := false}) only [go_sem, ↓reduceIte, Nat.reduceEqDiff, Nat.reduceAdd, Nat.reduceMul, Nat.reduceLeDiff, Nat.reduceLT, Nat.reduceSub, IntWalk.iteOmega, IntWalk.toNatUp, reduceCtorEq, false_and, and_false, false_or, or_false, true_or, or_true, not_true_eq_false, not_false_eq_true, Bool.not_true, Bool.not_false, Bool.and_true, Bool.true_and, Bool.and_false, Bool.false_and, Bool.not_eq_true, beq_self_eq_true, Nat.add_zero, Int.reduceLE, Int.reduceLT, Int.reduceToNat, Int.reduceNeg, e0, r1]
  refine (voteMay_ok T h1 x).use ?_
  rintro _ h2 ⟨rfl, b2⟩
  have s2 := b2.size
  have B2 := B1.trans (b2.mono (by omega))
  have x2 := b2.get (by omega) x1
  have y2 := b2.get (by omega) y1
  have z2 := b2.get (by omega) z1
  have hlt2 : h.size + 2 < h2.size := by omega
  by_cases q1 : voteMay x
  case neg =>
    have e : acErr p l x = 2 := by unfold acErr; rw [if_neg (by rw [e0]; decide), if_pos q1]
    have w2 := fin h2 [.int .i64 0, .int .i64 0, .slice none 0 0] rfl rfl z2
    simp (config := {maxSteps := 2000000, implicitDefEqProofs := false}) only [go_sem, ↓reduceIte, Nat.reduceEqDiff, Nat.reduceAdd, Nat.reduceMul, Nat.reduceLeDiff, Nat.reduceLT, Nat.reduceSub, IntWalk.iteOmega, IntWalk.toNatUp, reduceCtorEq, false_and, and_false, false_or, or_false, true_or, or_true, not_true_eq_false, not_false_eq_true, Bool.not_true, Bool.not_false, Bool.and_true, Bool.true_and, Bool.and_false, Bool.false_and, Bool.not_eq_true, beq_self_eq_true, Nat.add_zero, Int.reduceLE, Int.reduceLT, Int.reduceToNat, Int.reduceNeg, q1, e, w2, hlt2]
    exact ⟨⟨_, rfl, Ots.nil _ _ _ _ _⟩, B2.addSet (by omega) _⟩
  have rb : rd h2 ⟨h.size + 1, 1, none⟩ 2 = some [.int .i64 x.b.r, .int .i64 x.b.n] := by rw [rd_part y2 (by simp [voteC])]; rfl
  have rp : rd h2 ⟨h.size, 0, none⟩ 2 = some [.int .i64 p.r, .int .i64 p.n] := by rw [rd_part x2 (by simp [accC])]; rfl
  simp (config := {maxSteps := 2000000, implicitDefEqProofs := false}) only [go_sem, ↓reduceIte, Nat.reduceEqDiff, Nat.reduceAdd, Nat.reduceMul, Nat.reduceLeDiff, Nat.reduceLT, Nat.reduceSub, IntWalk.iteOmega, IntWalk.toNatUp, reduceCtorEq, false_and, and_false, false_or, or_false, true_or, or_true, not_true_eq_false, not_false_eq_true, Bool.not_true, Bool.not_false, Bool.and_true, Bool.true_and, Bool.and_false, Bool.false_and, Bool.not_eq_true, beq_self_eq_true, Nat.add_zero, Int.reduceLE, Int.reduceLT, Int.reduceToNat, Int.reduceNeg, q1, rb, rp]
  refine (ballotBelow_ok T h2 x.b p).use ?_
  rintro _ h3 ⟨rfl, b3⟩
  have s3 := b3.size
  have B3 := B2.trans (b3.mono (by omega))
  have x3 := b3.get (by omega) x2
  have y3 := b3.get (by omega) y2
  have z3 := b3.get (by omega) z2
  have hlt3 : h.size + 2 < h3.size := by omega
  by_cases q2 : below x.b p
  case pos =>
    have e : acErr p l x = 7 := by unfold acErr; rw [if_neg (by rw [e0]; decide), if_neg (fun h => h q1), if_pos q2]
    have w2 := fin h3 [.int .i64 0, .int .i64 0, .slice none 0 0] rfl rfl z3
    simp (config := {maxSteps := 2000000, implicitDefEqProofs := false}) only [go_sem, ↓reduceIte, Nat.reduceEqDiff, Nat.reduceAdd, Nat.reduceMul, Nat.reduceLeDiff, Nat.reduceLT, Nat.reduceSub, IntWalk.iteOmega, IntWalk.toNatUp, reduceCtorEq, false_and, and_false, false_or, or_false, true_or, or_true, not_true_eq_false, not_false_eq_true, Bool.not_true, Bool.not_false, Bool.and_true, Bool.true_and, Bool.and_false, Bool.false_and, Bool.not_eq_true, beq_self_eq_true, Nat.add_zero, Int.reduceLE, Int.reduceLT, Int.reduceToNat, Int.reduceNeg, q2, e, w2, hlt3]
    exact ⟨⟨_, rfl, Ots.nil _ _ _ _ _⟩, B3.addSet (by omega) _⟩
  have e : acErr p l x = 0 := by unfold acErr; rw [if_neg (by rw [e0]; decide), if_neg (fun h => h q1), if_neg q2]
  have srt := accErr_srt e0
  have may := accErr_may e0
  have few := srt_few srt may
  have rb3 : rd h3 ⟨h.size + 1, 1, none⟩ 2 = some [.int .i64 x.b.r, .int .i64 x.b.n] := by rw [rd_part y3 (by simp [voteC])]; rfl
  simp (config := {maxSteps := 2000000, implicitDefEqProofs := false}) only [go_sem, ↓reduceIte, Nat.reduceEqDiff, Nat.reduceAdd, Nat.reduceMul, Nat.reduceLeDiff, Nat.reduceLT, Nat.reduceSub, IntWalk.iteOmega, IntWalk.toNatUp, reduceCtorEq, false_and, and_false, false_or, or_false, true_or, or_true, not_true_eq_false, not_false_eq_true, Bool.not_true, Bool.not_false, Bool.and_true, Bool.true_and, Bool.and_false, Bool.false_and, Bool.not_eq_true, beq_self_eq_true, Nat.add_zero, Int.reduceLE, Int.reduceLT, Int.reduceToNat, Int.reduceNeg, q2, rb3]
  obtain ⟨A, hA⟩ : ∃ A, A = h3.size := ⟨_, rfl⟩
  have hR := insR_few srt x q1.1.1 (fun y hy => (may y hy).1.1)
  have wA : ∀ (G : Hp) (w w' : Value), oneC w' = true → G[A]? = some (.cells [.int .i64 x.b.r, .int .i64 x.b.n, w].toArray 85) → wr1 G ⟨A, 2, none⟩ w' = some (G.setIfInBounds A (.cells [.int .i64 x.b.r, .int .i64 x.b.n, w'].toArray 85)) := by
    intro G w w' h1 hg
    rw [wr1_get hg, if_pos ⟨by simp, h1⟩]; rfl
  obtain ⟨g0, hg0⟩ : ∃ g0 : Hp, g0 = h3.push (.cells [.int .i64 x.b.r, .int .i64 x.b.n, .slice none 0 0].toArray 85) := ⟨_, rfl⟩
  have e0' : h3.push (.cells #[Value.int .i64 x.b.r, .int .i64 x.b.n, .slice none 0 0] 85) = g0 := hg0.symm
  rw [e0', ← hA]
  have bg0 : Bel A h3 g0 := by rw [hg0, hA]; exact Bel.push (Nat.le_refl _) _
  have xg0 : g0[A]? = some (.cells [.int .i64 x.b.r, .int .i64 x.b.n, .slice none 0 0].toArray 85) := by rw [hg0, hA]; exact get_push_last
  clear e0' hg0
  have n1 : ¬ h.size = A := by omega
  have n2 : ¬ h.size + 1 = A := by omega
  have n3 : ¬ h.size + 2 = A := by omega
  refine VS.loop' (fun F g => Bel A h3 g ∧ F 2 = .pointer (some ⟨h.size, 0, none⟩) ∧ F 3 = .pointer (some ⟨h.size + 1, 0, none⟩) ∧ F 4 = .pointer (some ⟨h.size + 1 + 1, 0, none⟩) ∧ F 7 = .pointer (some ⟨A, 0, none⟩) ∧ ∃ (k : Nat) (w : Value), k ≤ 40 ∧ F 8 = .int .i64 k ∧ g[A]? = some (.cells [.int .i64 x.b.r, .int .i64 x.b.n, w].toArray 85) ∧ Ots (A + 1) 80 voteC 8 g w (insR l x k))
    (fun F _ => 40 - (vi (F 8)).toNat) rfl ⟨bg0, rfl, rfl, rfl, rfl, 0, _, by omega, rfl, xg0, Ots.nil _ _ _ _ _⟩ ?_
  rintro F g ⟨hg, f2, f3, f4, f7, k, w, hk, f8, xg, ow⟩
  have hzA := lt_of_get xg
  have xx := hg.get (by omega) x3
  have xy := hg.get (by omega) y3
  have xz := hg.get (by omega) z3
  have ry : rd g ⟨h.size + 1, 0, none⟩ 8 = some (voteC x) := rd_last xy rfl
  have rs : hc g ⟨h.size + 1, 0, none⟩ = some (.int .i64 x.slot) := by rw [hc_last xy]; rfl
  have rw0 : hc g ⟨A, 2, none⟩ = some w := by rw [hc_last xg]; rfl
  obtain ⟨pw, cw, rfl, hcw⟩ := ow.open
  unfold voteC at ry
  by_cases hlt : k < 40
  · have hlt' : (k : Int) < 40 := by omega
    by_cases qs : (k : Int) = x.slot
    · have hone := Ts.one (E := 80) (h := g) (enc := voteC) (n := 8) x (fun _ => rfl) 1
      have eR : insR l x (k + 1) = insR l x k ++ [x] := by rw [insR, if_pos qs]
      have hRk := hR k
      rw [← qs] at rs
      simp (config := {maxSteps := 2000000, implicitDefEqProofs := false}) only [go_sem, ↓reduceIte, Nat.reduceEqDiff, Nat.reduceAdd, Nat.reduceMul, Nat.reduceLeDiff, Nat.reduceLT, Nat.reduceSub, IntWalk.iteOmega, IntWalk.toNatUp, reduceCtorEq, false_and, and_false, false_or, or_false, true_or, or_true, not_true_eq_false, not_false_eq_true, Bool.not_true, Bool.not_false, Bool.and_true, Bool.true_and, Bool.and_false, Bool.false_and, Bool.not_eq_true, beq_self_eq_true, Nat.add_zero, Int.reduceLE, Int.reduceLT, Int.reduceToNat, Int.reduceNeg, f2, f3, f7, f8, hlt', rs, rw0, ry]
      refine append_ts (E := 80) (B := A + 1) (n := 8) (bytes := 64) tsl83 Tryd.underlying83 tn80 tz80 rfl tb80 (fun _ => rfl) (ow.push _) (by simp; omega) hone (by simp only [List.length_singleton]; omega) (by omega) ?_
      intro w2 g2 o2 b2 _
      have B2 : Bel (A + 1) g g2 := (Bel.push hzA _).trans b2
      have xg2 := B2.get (Nat.lt_succ_self _) xg
      obtain ⟨pw2, cw2, rfl, _⟩ := o2.open
      have w2' := wA g2 _ (.slice pw2 (insR l x k ++ [x]).length cw2) rfl xg2
      have hz2 := lt_of_get xg2
      simp (config := {maxSteps := 2000000, implicitDefEqProofs := false}) only [go_sem, ↓reduceIte, Nat.reduceEqDiff, Nat.reduceAdd, Nat.reduceMul, Nat.reduceLeDiff, Nat.reduceLT, Nat.reduceSub, IntWalk.iteOmega, IntWalk.toNatUp, reduceCtorEq, false_and, and_false, false_or, or_false, true_or, or_true, not_true_eq_false, not_false_eq_true, Bool.not_true, Bool.not_false, Bool.and_true, Bool.true_and, Bool.and_false, Bool.false_and, Bool.not_eq_true, beq_self_eq_true, Nat.add_zero, Int.reduceLE, Int.reduceLT, Int.reduceToNat, Int.reduceNeg, f2, f3, f7, f8, w2']
      refine ⟨⟨(hg.trans (B2.mono (by omega))).addSet (Nat.le_refl _) _, f2, f3, f4, f7, k + 1, _, by omega, rfl, get_set xg2, ?_⟩, ?_⟩
      · rw [eR]; exact o2.setLow (Nat.lt_succ_self _) _
      · simp only [vi, updo_some, ↓reduceIte, f8]; omega
    · simp (config := {maxSteps := 2000000, implicitDefEqProofs := false}) only [go_sem, ↓reduceIte, Nat.reduceEqDiff, Nat.reduceAdd, Nat.reduceMul, Nat.reduceLeDiff, Nat.reduceLT, Nat.reduceSub, IntWalk.iteOmega, IntWalk.toNatUp, reduceCtorEq, false_and, and_false, false_or, or_false, true_or, or_true, not_true_eq_false, not_false_eq_true, Bool.not_true, Bool.not_false, Bool.and_true, Bool.true_and, Bool.and_false, Bool.false_and, Bool.not_eq_true, beq_self_eq_true, Nat.add_zero, Int.reduceLE, Int.reduceLT, Int.reduceToNat, Int.reduceNeg, f2, f3, f7, f8, hlt', rs, qs]
      refine VS.loop' (fun F g => Bel A h3 g ∧ F 2 = .pointer (some ⟨h.size, 0, none⟩) ∧ F 3 = .pointer (some ⟨h.size + 1, 0, none⟩) ∧ F 4 = .pointer (some ⟨h.size + 1 + 1, 0, none⟩) ∧ F 7 = .pointer (some ⟨A, 0, none⟩) ∧ F 8 = .int .i64 k ∧ ∃ (i : Nat) (w : Value), i ≤ l.length ∧ F 9 = .int .i64 i ∧ g[A]? = some (.cells [.int .i64 x.b.r, .int .i64 x.b.n, w].toArray 85) ∧ Ots (A + 1) 80 voteC 8 g w (insR l x k ++ (l.take i).filter (fun y => decide (y.slot = (k : Int)))))
        (fun F _ => l.length - (vi (F 9)).toNat) rfl ⟨hg, f2, f3, f4, f7, f8, 0, _, by omega, rfl, xg, by rw [List.take_zero, List.filter_nil, List.append_nil]; exact ow⟩ ?_
      clear f2 f3 f4 f7 f8 hg xx xy xz ry rs rw0 ow xg hzA hcw
      rintro F g ⟨hg, f2, f3, f4, f7, f8, i, w, hi, f9, xg, ow⟩
      have hzA := lt_of_get xg
      have xx := hg.get (by omega) x3
      have rv : hc g ⟨h.size, 2, none⟩ = some (.slice pu l.length cu) := by rw [hc_last xx]; rfl
      have rw0 : hc g ⟨A, 2, none⟩ = some w := by rw [hc_last xg]; rfl
      obtain ⟨pw, cw, rfl, hcw⟩ := ow.open
      have hRk := hR k
      by_cases hil : i < l.length
      · have hil' : (i : Int) < l.length := by omega
        obtain ⟨bb, oo, rfl, hbb, hcs0, hcs⟩ := hcs (by intro e; rw [e] at hil; simp at hil)
        have hBg : Bel h.size h g := B3.trans (hg.mono (by omega))
        have rm : rd g ⟨bb, oo + i * 8, none⟩ 8 = some (voteC l[i]) := by rw [rd_bel hBg (by exact hbb)]; exact hcs i hil
        have rc : hc g ⟨bb, oo + i * 8, none⟩ = some (.int .i64 l[i].slot) := by rw [hBg.hc (by exact hbb)]; exact hcs0 i hil
        have ef := filter_snoc (fun y => decide (y.slot = (k : Int))) hil
        obtain ⟨y, hy⟩ : ∃ y, y = l[i] := ⟨_, rfl⟩
        rw [← hy] at rm rc ef
        unfold voteC at rm
        by_cases qy : y.slot = (k : Int)
        · rw [if_pos (decide_eq_true qy)] at ef
          have hone := Ts.one (E := 80) (h := g) (enc := voteC) (n := 8) y (fun _ => rfl) 1
          have hfl := List.length_filter_le (fun y => decide (y.slot = (k : Int))) (l.take i)
          rw [List.length_take] at hfl
          have q1 : h.size < A + 1 := by omega
          have q2 : bb < A + 1 := by omega
          have q3 : A < A + 1 := by omega
          simp (config := {maxSteps := 2000000, implicitDefEqProofs := false}) only [go_sem, ↓reduceIte, Nat.reduceEqDiff, Nat.reduceAdd, Nat.reduceMul, Nat.reduceLeDiff, Nat.reduceLT, Nat.reduceSub, IntWalk.iteOmega, IntWalk.toNatUp, reduceCtorEq, false_and, and_false, false_or, or_false, true_or, or_true, not_true_eq_false, not_false_eq_true, Bool.not_true, Bool.not_false, Bool.and_true, Bool.true_and, Bool.and_false, Bool.false_and, Bool.not_eq_true, beq_self_eq_true, Nat.add_zero, Int.reduceLE, Int.reduceLT, Int.reduceToNat, Int.reduceNeg, f2, f7, f8, f9, rv, hil', rc, qy]
          refine VS.w (A + 1) [10] (.q 0 (.q 1 (.q 2 (.q 3 (.q 4 (.q 5 (.q 6 (.s 7 (.s 8 (.q 9 (.w 10 .nil))))))))))) mixed (by kernel_rfl) ?_
          simp (config := {maxSteps := 2000000, implicitDefEqProofs := false}) only [go_sem, ↓reduceIte, Nat.reduceEqDiff, Nat.reduceAdd, Nat.reduceMul, Nat.reduceLeDiff, Nat.reduceLT, Nat.reduceSub, IntWalk.iteOmega, IntWalk.toNatUp, reduceCtorEq, false_and, and_false, false_or, or_false, true_or, or_true, not_true_eq_false, not_false_eq_true, Bool.not_true, Bool.not_false, Bool.and_true, Bool.true_and, Bool.and_false, Bool.false_and, Bool.not_eq_true, beq_self_eq_true, Nat.add_zero, Int.reduceLE, Int.reduceLT, Int.reduceToNat, Int.reduceNeg, f2, f7, f8, f9, rv, rw0, hil', rm, q1, q2, q3]
          refine ⟨Bel.push hzA _, ?_⟩
          refine append_ts (E := 80) (B := A + 1) (n := 8) (bytes := 64) tsl83 Tryd.underlying83 tn80 tz80 rfl tb80 (fun _ => rfl) (ow.push _) (by simp; omega) hone (by simp only [List.length_append, List.length_singleton]; omega) (by omega) ?_
          intro w2 g2 o2 b2 _
          have B2 : Bel (A + 1) g g2 := (Bel.push hzA _).trans b2
          have xg2 := B2.get (Nat.lt_succ_self _) xg
          obtain ⟨pw2, cw2, rfl, _⟩ := o2.open
          have w2' := wA g2 _ (.slice pw2 ((insR l x k ++ (l.take i).filter (fun y => decide (y.slot = (k : Int)))) ++ [y]).length cw2) rfl xg2
          have hz2 := lt_of_get xg2
          simp (config := {maxSteps := 2000000, implicitDefEqProofs := false}) only [go_sem, ↓reduceIte, Nat.reduceEqDiff, Nat.reduceAdd, Nat.reduceMul, Nat.reduceLeDiff, Nat.reduceLT, Nat.reduceSub, IntWalk.iteOmega, IntWalk.toNatUp, reduceCtorEq, false_and, and_false, false_or, or_false, true_or, or_true, not_true_eq_false, not_false_eq_true, Bool.not_true, Bool.not_false, Bool.and_true, Bool.true_and, Bool.and_false, Bool.false_and, Bool.not_eq_true, beq_self_eq_true, Nat.add_zero, Int.reduceLE, Int.reduceLT, Int.reduceToNat, Int.reduceNeg, f2, f3, f7, f8, f9, w2', B2]
          refine ⟨⟨(hg.trans (B2.mono (by omega))).addSet (Nat.le_refl _) _, f2, f3, f4, f7, f8, i + 1, _, by omega, rfl, get_set xg2, ?_⟩, ?_⟩
          · rw [ef, ← List.append_assoc]; exact o2.setLow (Nat.lt_succ_self _) _
          · simp only [vi, updo_some, ↓reduceIte, f9]; omega
        · rw [if_neg (by simpa using qy), List.append_nil] at ef
          simp (config := {maxSteps := 2000000, implicitDefEqProofs := false}) only [go_sem, ↓reduceIte, Nat.reduceEqDiff, Nat.reduceAdd, Nat.reduceMul, Nat.reduceLeDiff, Nat.reduceLT, Nat.reduceSub, IntWalk.iteOmega, IntWalk.toNatUp, reduceCtorEq, false_and, and_false, false_or, or_false, true_or, or_true, not_true_eq_false, not_false_eq_true, Bool.not_true, Bool.not_false, Bool.and_true, Bool.true_and, Bool.and_false, Bool.false_and, Bool.not_eq_true, beq_self_eq_true, Nat.add_zero, Int.reduceLE, Int.reduceLT, Int.reduceToNat, Int.reduceNeg, f2, f7, f8, f9, rv, hil', rc, qy]
          refine ⟨⟨hg, f2, f3, f4, f7, f8, i + 1, _, by omega, rfl, xg, ?_⟩, ?_⟩
          · rw [ef]; exact ow
          · simp only [vi, updo_some, ↓reduceIte, f9]; omega
      · have hil' : ¬ (i : Int) < l.length := by omega
        obtain rfl : i = l.length := by omega
        rw [List.take_length] at ow
        have eR : insR l x (k + 1) = insR l x k ++ l.filter (fun y => decide (y.slot = (k : Int))) := by rw [insR, if_neg qs]
        simp (config := {maxSteps := 2000000, implicitDefEqProofs := false}) only [go_sem, ↓reduceIte, Nat.reduceEqDiff, Nat.reduceAdd, Nat.reduceMul, Nat.reduceLeDiff, Nat.reduceLT, Nat.reduceSub, IntWalk.iteOmega, IntWalk.toNatUp, reduceCtorEq, false_and, and_false, false_or, or_false, true_or, or_true, not_true_eq_false, not_false_eq_true, Bool.not_true, Bool.not_false, Bool.and_true, Bool.true_and, Bool.and_false, Bool.false_and, Bool.not_eq_true, beq_self_eq_true, Nat.add_zero, Int.reduceLE, Int.reduceLT, Int.reduceToNat, Int.reduceNeg, f2, f7, f8, f9, rv, hil']
        refine ⟨⟨hg, f2, f3, f4, f7, k + 1, _, by omega, rfl, xg, ?_⟩, ?_⟩
        · rw [eR]; rw [List.take_length]; exact ow
        · simp only [vi, updo_some, ↓reduceIte, f8]; omega
  · have hge : ¬ (k : Int) < 40 := by omega
    obtain rfl : k = 40 := by omega
    have eR := insR_done srt q1 may
    rw [eR] at ow hcw xg rw0
    have rA : rd g ⟨A, 0, none⟩ 3 = some [.int .i64 x.b.r, .int .i64 x.b.n, .slice pw (insV l x).length cw] := rd_last xg rfl
    have w2 := fin g [.int .i64 x.b.r, .int .i64 x.b.n, .slice pw (insV l x).length cw] rfl rfl xz
    have hltz := lt_of_get xz
    have c40 : ((40 : Nat) : Int) = 40 := rfl
    rw [c40] at f8
    simp (config := {maxSteps := 2000000, implicitDefEqProofs := false}) only [go_sem, ↓reduceIte, Nat.reduceEqDiff, Nat.reduceAdd, Nat.reduceMul, Nat.reduceLeDiff, Nat.reduceLT, Nat.reduceSub, IntWalk.iteOmega, IntWalk.toNatUp, reduceCtorEq, false_and, and_false, false_or, or_false, true_or, or_true, not_true_eq_false, not_false_eq_true, Bool.not_true, Bool.not_false, Bool.and_true, Bool.true_and, Bool.and_false, Bool.false_and, Bool.not_eq_true, beq_self_eq_true, Nat.add_zero, Int.reduceLE, Int.reduceLT, Int.reduceToNat, Int.reduceNeg, f3, f4, f7, f8, rA, w2, hltz, e]
    refine ⟨⟨_, rfl, ?_⟩, (B3.trans (hg.mono (by omega))).addSet (by omega) _⟩
    exact (ow.setLow (by omega) _).mono (by omega)
end Go.Proofs.YtnpacofabdgcdaaDoor
