/- StableCrashes holds: stable.Crash answers what the document says, at every argument, and changes none of them; without any condition. -/
import Derived.Test.YtjgbajgmndkfjaaStab
namespace Go.Proofs.Ytjgbajgmndkfjaa
open Go Go.V
set_option linter.unusedSimpArgs false
set_option linter.unusedVariables false
set_option maxRecDepth 100000
/-- How much a crash leaves. -/
def crashLen (l : List Nat) (n k : Int) : Int := n + (if (l.length : Int) - n < k then (l.length : Int) - n else k)
def crashRes (l : List Nat) (n k : Int) : List Nat × Int × Int :=
  if l.length ≤ 100000 ∧ 0 ≤ n ∧ n ≤ l.length then (if k < 0 then ([], 0, 2) else (l.take (crashLen l n k).toNat, crashLen l n k, 0)) else ([], 0, 5)
def Crashed (h' : Hp) (v' : Value) (r : List Nat × Int × Int) : Prop :=
  ∃ p c L Z E, r = (L, Z, E) ∧ v' = .tuple [.agg [.slice p L.length c, .int .i64 Z].toArray, .int .i64 E].toArray ∧ Bs h' (.slice p L.length c) L
theorem crash_ok (T : World) (h : Hp) (v : Value) (n k : Int) (l : List Nat) (s : Bs h v l) (hl : l.length ≤ 140737488355328) :
    CallsH Try.prog T 46 #[.agg [v, .int .i64 n].toArray, .int .i64 k] h fun v' h' => Bel h.size h h' ∧ Crashed h' v' (crashRes l n k) := by
  obtain ⟨p, c, rfl, hc1⟩ := s.open
  refine CallsH.of_code' (args := [_, _]) Try.func46 rfl rfl rfl rfl ?_
  simp (config := {contextual := true, maxSteps := 2000000}) only [go_sem, ↓reduceIte, Nat.reduceEqDiff, Nat.reduceAdd, Nat.reduceMul, Nat.reduceLeDiff, Nat.reduceLT, Nat.reduceSub, IntWalk.iteOmega, IntWalk.toNatUp, reduceCtorEq, false_and, and_false, false_or, or_false, true_or, or_true, not_true_eq_false, not_false_eq_true, Bool.not_true, Bool.not_false, Bool.and_true, Bool.true_and, Bool.and_false, Bool.false_and, Bool.not_eq_true, beq_self_eq_true, Nat.add_zero, Int.reduceLE, Int.reduceLT, Int.reduceToNat, Int.reduceNeg]
  refine (open_ok T _ _ n l (s.bel (((Bel.refl _ _).add _).add _)) hl).use ?_
  rintro v1 h1 ⟨b1, o1⟩
  have z1 : h.size + 1 < h1.size := by have := b1.size; simp at this; omega
  have r1 := b1.get (k := h.size + 1) (by simp) (by rw [Array.getElem?_push, if_pos (by simp)])
  have w1 := wr_get r1
  have bb : Bel h.size h h1 := ((Bel.refl _ _).add _).add _ |>.trans (b1.mono (by simp; omega))
  unfold crashRes
  by_cases q : l.length ≤ 100000 ∧ 0 ≤ n ∧ n ≤ l.length
  · rw [if_pos q] at o1
    obtain ⟨w, rfl, o1⟩ := o1
    obtain ⟨p1, c1, rfl, g1⟩ := o1.open
    by_cases q1 : k < 0
    · simp (config := {contextual := true, maxSteps := 2000000}) only [go_sem, ↓reduceIte, Nat.reduceEqDiff, Nat.reduceAdd, Nat.reduceMul, Nat.reduceLeDiff, Nat.reduceLT, Nat.reduceSub, IntWalk.iteOmega, IntWalk.toNatUp, reduceCtorEq, false_and, and_false, false_or, or_false, true_or, or_true, not_true_eq_false, not_false_eq_true, Bool.not_true, Bool.not_false, Bool.and_true, Bool.true_and, Bool.and_false, Bool.false_and, Bool.not_eq_true, beq_self_eq_true, Nat.add_zero, Int.reduceLE, Int.reduceLT, Int.reduceToNat, Int.reduceNeg, w1, z1, q1]
      exact ⟨(bb.addSet (by omega) _).add _, none, 0, [], _, _, rfl, rfl, (OBs.nil 0 5 _).bs⟩
    · have e1 : 0 ≤ crashLen l n k ∧ crashLen l n k ≤ l.length := by unfold crashLen; split <;> omega
      have e2 : (n + (if (l.length : Int) - n < k then (l.length : Int) - n else k)) = crashLen l n k := rfl
      have e3 : ((crashLen l n k).toNat : Int) = crashLen l n k := by omega
      have e4 : (l.take (crashLen l n k).toNat).length = (crashLen l n k).toNat := by rw [List.length_take]; omega
      simp (config := {contextual := true, maxSteps := 2000000}) only [go_sem, ↓reduceIte, Nat.reduceEqDiff, Nat.reduceAdd, Nat.reduceMul, Nat.reduceLeDiff, Nat.reduceLT, Nat.reduceSub, IntWalk.iteOmega, IntWalk.toNatUp, reduceCtorEq, false_and, and_false, false_or, or_false, true_or, or_true, not_true_eq_false, not_false_eq_true, Bool.not_true, Bool.not_false, Bool.and_true, Bool.true_and, Bool.and_false, Bool.false_and, Bool.not_eq_true, beq_self_eq_true, Nat.add_zero, Int.reduceLE, Int.reduceLT, Int.reduceToNat, Int.reduceNeg, w1, z1, q1, e2, e3]
      refine ⟨(bb.addSet (by omega) _).add _, p1, (crashLen l n k).toNat, _, _, _, rfl, by rw [e4], ?_⟩
      rw [e4]
      exact (((o1.setLow (by simp) _).push _).bs).fore (by omega) _
  · rw [if_neg q] at o1
    subst o1
    simp (config := {contextual := true, maxSteps := 2000000}) only [go_sem, ↓reduceIte, Nat.reduceEqDiff, Nat.reduceAdd, Nat.reduceMul, Nat.reduceLeDiff, Nat.reduceLT, Nat.reduceSub, IntWalk.iteOmega, IntWalk.toNatUp, reduceCtorEq, false_and, and_false, false_or, or_false, true_or, or_true, not_true_eq_false, not_false_eq_true, Bool.not_true, Bool.not_false, Bool.and_true, Bool.true_and, Bool.and_false, Bool.false_and, Bool.not_eq_true, beq_self_eq_true, Nat.add_zero, Int.reduceLE, Int.reduceLT, Int.reduceToNat, Int.reduceNeg, w1, z1]
    exact ⟨(bb.addSet (by omega) _).add _, none, 0, [], _, _, rfl, rfl, (OBs.nil 0 5 _).bs⟩
theorem crashed_ok (T : World) (h : Hp) (v : Value) (n k : Int) (l : List Nat) (s : Bs h v l) (hl : l.length ≤ 140737488355328) (hk : k ≤ 9223372036854775807) (hcap : Cap v) :
    CallsH Try.prog T 47 #[.agg [v, .int .i64 n].toArray, .int .i64 k] h fun v' h' => Bel h.size h h' ∧ Crashed h' v' (crashRes l n k) := by
  obtain ⟨p, c, rfl, hc1⟩ := s.open
  have hcap : l.length ≤ c := hcap
  refine CallsH.of_code' (args := [_, _]) Try.func47 rfl rfl rfl rfl ?_
  simp (config := {contextual := true, maxSteps := 2000000}) only [go_sem, ↓reduceIte, Nat.reduceEqDiff, Nat.reduceAdd, Nat.reduceMul, Nat.reduceLeDiff, Nat.reduceLT, Nat.reduceSub, IntWalk.iteOmega, IntWalk.toNatUp, reduceCtorEq, false_and, and_false, false_or, or_false, true_or, or_true, not_true_eq_false, not_false_eq_true, Bool.not_true, Bool.not_false, Bool.and_true, Bool.true_and, Bool.and_false, Bool.false_and, Bool.not_eq_true, beq_self_eq_true, Nat.add_zero, Int.reduceLE, Int.reduceLT, Int.reduceToNat, Int.reduceNeg]
  refine (tapeMay_ok T _ p l.length c n).use ?_
  rintro v1 h1 ⟨rfl, rfl⟩
  unfold crashRes
  by_cases q : l.length ≤ 100000 ∧ 0 ≤ n ∧ n ≤ l.length
  · by_cases q1 : k < 0
    · simp (config := {contextual := true, maxSteps := 2000000}) only [go_sem, ↓reduceIte, Nat.reduceEqDiff, Nat.reduceAdd, Nat.reduceMul, Nat.reduceLeDiff, Nat.reduceLT, Nat.reduceSub, IntWalk.iteOmega, IntWalk.toNatUp, reduceCtorEq, false_and, and_false, false_or, or_false, true_or, or_true, not_true_eq_false, not_false_eq_true, Bool.not_true, Bool.not_false, Bool.and_true, Bool.true_and, Bool.and_false, Bool.false_and, Bool.not_eq_true, beq_self_eq_true, Nat.add_zero, Int.reduceLE, Int.reduceLT, Int.reduceToNat, Int.reduceNeg, q, q1]
      exact ⟨((Bel.refl _ _).add _).add _ |>.add _, none, 0, [], _, _, rfl, rfl, (OBs.nil 0 5 _).bs⟩
    · have e1 : 0 ≤ crashLen l n k ∧ crashLen l n k ≤ l.length := by unfold crashLen; split <;> omega
      have e3 : ((crashLen l n k).toNat : Int) = crashLen l n k := by omega
      by_cases q2 : k < (l.length : Int) - n
      · have e2 : n + k = crashLen l n k := by unfold crashLen; omega
        simp (config := {contextual := true, maxSteps := 2000000}) only [go_sem, ↓reduceIte, Nat.reduceEqDiff, Nat.reduceAdd, Nat.reduceMul, Nat.reduceLeDiff, Nat.reduceLT, Nat.reduceSub, IntWalk.iteOmega, IntWalk.toNatUp, reduceCtorEq, false_and, and_false, false_or, or_false, true_or, or_true, not_true_eq_false, not_false_eq_true, Bool.not_true, Bool.not_false, Bool.and_true, Bool.true_and, Bool.and_false, Bool.false_and, Bool.not_eq_true, beq_self_eq_true, Nat.add_zero, Int.reduceLE, Int.reduceLT, Int.reduceToNat, Int.reduceNeg, q, q1, q2, e2, e3]
        have e4 : (l.take (crashLen l n k).toNat).length = (crashLen l n k).toNat := by rw [List.length_take]; omega
        have bs1 := s.bel ((((Bel.refl _ h).add (.cells [.slice p l.length c, .int .i64 n].toArray 52)).add (.cells [.slice none 0 0, .int .i64 0].toArray 52)).add (.cells [.slice p l.length c, .int .i64 n].toArray 52))
        have bs2 := bs1.fore (m := (crashLen l n k).toNat) (by omega) c
        refine (joined_ok T _ _ _ _ [] bs2 (OBs.nil 0 0 _).bs (by simp; omega)).use ?_
        rintro v1 h1 ⟨o1, b1⟩
        rw [List.append_nil] at o1
        have z1 : h.size + 1 < h1.size := by have := b1.size; simp at this; omega
        have r1 := b1.get (k := h.size + 1) (by simp) (by rw [Array.getElem?_push, if_neg (by simp), Array.getElem?_push, if_pos (by simp)])
        have w1 := wr_get r1
        have bb : Bel h.size h h1 := (((Bel.refl _ _).add _).add _).add _ |>.trans (b1.mono (by simp; omega))
        obtain ⟨p1, c1, rfl, g1⟩ := o1.open
        simp (config := {contextual := true, maxSteps := 2000000}) only [go_sem, ↓reduceIte, Nat.reduceEqDiff, Nat.reduceAdd, Nat.reduceMul, Nat.reduceLeDiff, Nat.reduceLT, Nat.reduceSub, IntWalk.iteOmega, IntWalk.toNatUp, reduceCtorEq, false_and, and_false, false_or, or_false, true_or, or_true, not_true_eq_false, not_false_eq_true, Bool.not_true, Bool.not_false, Bool.and_true, Bool.true_and, Bool.and_false, Bool.false_and, Bool.not_eq_true, beq_self_eq_true, Nat.add_zero, Int.reduceLE, Int.reduceLT, Int.reduceToNat, Int.reduceNeg, w1, z1]
        exact ⟨bb.addSet (by omega) _, p1, c1, _, _, _, rfl, by rw [e4], ((o1.setLow (by simp) _)).bs⟩
      · have e2 : crashLen l n k = (l.length : Int) := by unfold crashLen; omega
        simp (config := {contextual := true, maxSteps := 2000000}) only [go_sem, ↓reduceIte, Nat.reduceEqDiff, Nat.reduceAdd, Nat.reduceMul, Nat.reduceLeDiff, Nat.reduceLT, Nat.reduceSub, IntWalk.iteOmega, IntWalk.toNatUp, reduceCtorEq, false_and, and_false, false_or, or_false, true_or, or_true, not_true_eq_false, not_false_eq_true, Bool.not_true, Bool.not_false, Bool.and_true, Bool.true_and, Bool.and_false, Bool.false_and, Bool.not_eq_true, beq_self_eq_true, Nat.add_zero, Int.reduceLE, Int.reduceLT, Int.reduceToNat, Int.reduceNeg, q, q1, q2, e2, List.take_length]
        have bs1 := s.bel ((((Bel.refl _ h).add (.cells [.slice p l.length c, .int .i64 n].toArray 52)).add (.cells [.slice none 0 0, .int .i64 0].toArray 52)).add (.cells [.slice p l.length c, .int .i64 n].toArray 52))
        refine (joined_ok T _ _ _ _ [] bs1 (OBs.nil 0 0 _).bs (by simp; omega)).use ?_
        rintro v1 h1 ⟨o1, b1⟩
        rw [List.append_nil] at o1
        have z1 : h.size + 1 < h1.size := by have := b1.size; simp at this; omega
        have r1 := b1.get (k := h.size + 1) (by simp) (by rw [Array.getElem?_push, if_neg (by simp), Array.getElem?_push, if_pos (by simp)])
        have w1 := wr_get r1
        have bb : Bel h.size h h1 := (((Bel.refl _ _).add _).add _).add _ |>.trans (b1.mono (by simp; omega))
        obtain ⟨p1, c1, rfl, g1⟩ := o1.open
        simp (config := {contextual := true, maxSteps := 2000000}) only [go_sem, ↓reduceIte, Nat.reduceEqDiff, Nat.reduceAdd, Nat.reduceMul, Nat.reduceLeDiff, Nat.reduceLT, Nat.reduceSub, IntWalk.iteOmega, IntWalk.toNatUp, reduceCtorEq, false_and, and_false, false_or, or_false, true_or, or_true, not_true_eq_false, not_false_eq_true, Bool.not_true, Bool.not_false, Bool.and_true, Bool.true_and, Bool.and_false, Bool.false_and, Bool.not_eq_true, beq_self_eq_true, Nat.add_zero, Int.reduceLE, Int.reduceLT, Int.reduceToNat, Int.reduceNeg, w1, z1]
        exact ⟨bb.addSet (by omega) _, p1, c1, _, _, _, rfl, rfl, ((o1.setLow (by simp) _)).bs⟩
  · simp (config := {contextual := true, maxSteps := 2000000}) only [go_sem, ↓reduceIte, Nat.reduceEqDiff, Nat.reduceAdd, Nat.reduceMul, Nat.reduceLeDiff, Nat.reduceLT, Nat.reduceSub, IntWalk.iteOmega, IntWalk.toNatUp, reduceCtorEq, false_and, and_false, false_or, or_false, true_or, or_true, not_true_eq_false, not_false_eq_true, Bool.not_true, Bool.not_false, Bool.and_true, Bool.true_and, Bool.and_false, Bool.false_and, Bool.not_eq_true, beq_self_eq_true, Nat.add_zero, Int.reduceLE, Int.reduceLT, Int.reduceToNat, Int.reduceNeg, q]
    exact ⟨((Bel.refl _ _).add _).add _ |>.add _, none, 0, [], _, _, rfl, rfl, (OBs.nil 0 5 _).bs⟩
theorem stableCrashes_ok : LawOk Try.prog 10 Try.f10.params.toList := by
  intro T args hfit
  rw [show Try.f10.params.toList = [52, 3] from rfl] at hfit
  obtain ⟨v, _, rfl, ⟨k1, h1⟩, hfit⟩ := fitAll_cons hfit
  obtain ⟨kv, _, rfl, ⟨k2, hk2⟩, hfit⟩ := fitAll_cons hfit
  obtain rfl := fitAll_nil hfit
  obtain ⟨kk, hkk, hkw⟩ := fit_int Try.underlying3 (fitV_one ta3 hk2)
  simp only [List.cons.injEq, and_true] at hkk
  subst hkk
  have hkw := (wf_i64 hkw).2
  obtain ⟨w, n, l, rfl, s, hl, hcap⟩ := tapeArg h1
  generalize T.heap = h at *
  obtain ⟨p, c, rfl, hc1⟩ := s.open
  refine CallsH.of_code' (args := [_, _]) Try.func10 rfl rfl rfl rfl ?_
  simp (config := {contextual := true, maxSteps := 2000000}) only [go_sem, ↓reduceIte, Nat.reduceEqDiff, Nat.reduceAdd, Nat.reduceMul, Nat.reduceLeDiff, Nat.reduceLT, Nat.reduceSub, IntWalk.iteOmega, IntWalk.toNatUp, reduceCtorEq, false_and, and_false, false_or, or_false, true_or, or_true, not_true_eq_false, not_false_eq_true, Bool.not_true, Bool.not_false, Bool.and_true, Bool.true_and, Bool.and_false, Bool.false_and, Bool.not_eq_true, beq_self_eq_true, Nat.add_zero, Int.reduceLE, Int.reduceLT, Int.reduceToNat, Int.reduceNeg]
  refine (tapes_ok T _ _ n l (s.bel ((Bel.refl _ _).add _)) hl).use ?_
  rintro _ h1 ⟨w1, rfl, o1, b1⟩
  have bb1 : Bel h.size h h1 := ((Bel.refl _ _).add _).trans (b1.mono (by simp))
  obtain ⟨p1, c1, rfl, _⟩ := o1.bs.open
  simp (config := {contextual := true, maxSteps := 2000000}) only [go_sem, ↓reduceIte, Nat.reduceEqDiff, Nat.reduceAdd, Nat.reduceMul, Nat.reduceLeDiff, Nat.reduceLT, Nat.reduceSub, IntWalk.iteOmega, IntWalk.toNatUp, reduceCtorEq, false_and, and_false, false_or, or_false, true_or, or_true, not_true_eq_false, not_false_eq_true, Bool.not_true, Bool.not_false, Bool.and_true, Bool.true_and, Bool.and_false, Bool.false_and, Bool.not_eq_true, beq_self_eq_true, Nat.add_zero, Int.reduceLE, Int.reduceLT, Int.reduceToNat, Int.reduceNeg]
  refine (crash_ok T _ _ n kk l (o1.bs.bel ((Bel.refl _ _).add _)) hl).use ?_
  rintro _ h2 ⟨b2, s2⟩
  obtain ⟨p2, c2, L, Z, E, e2, rfl, y2⟩ := s2
  have z1 : h.size < h1.size := by have := b1.size; simp at this; omega
  have z2 : h1.size < h2.size := by have := b2.size; simp at this; omega
  have k1 : rd h2 ⟨h.size, 0, none⟩ 2 = some [.slice p l.length c, .int .i64 n] := by
    rw [rd_bel (b2.mono (B' := h.size + 1) (by simp; omega)) (by simp), rd_push, if_neg (by omega), rd_bel (b1.mono (B' := h.size + 1) (by simp)) (by simp), rd_push, if_pos rfl]; rfl
  have k3 : rd h2 ⟨h1.size, 0, none⟩ 2 = some [.slice p1 l.length c1, .int .i64 n] := by
    rw [rd_bel (b2.mono (B' := h1.size + 1) (by simp)) (by simp), rd_push, if_pos rfl]; rfl
  have bb2 : Bel h.size h h2 := (bb1.add _).trans (b2.mono (by simp; omega))
  simp (config := {contextual := true, maxSteps := 2000000}) only [go_sem, ↓reduceIte, Nat.reduceEqDiff, Nat.reduceAdd, Nat.reduceMul, Nat.reduceLeDiff, Nat.reduceLT, Nat.reduceSub, IntWalk.iteOmega, IntWalk.toNatUp, reduceCtorEq, false_and, and_false, false_or, or_false, true_or, or_true, not_true_eq_false, not_false_eq_true, Bool.not_true, Bool.not_false, Bool.and_true, Bool.true_and, Bool.and_false, Bool.false_and, Bool.not_eq_true, beq_self_eq_true, Nat.add_zero, Int.reduceLE, Int.reduceLT, Int.reduceToNat, Int.reduceNeg, z1, z2, k1]
  have u1 : Bel h.size h (h2.push (.cells [.slice p2 L.length c2, .int .i64 Z].toArray 52)) := bb2.add _
  refine (crashed_ok T _ _ n kk l (s.bel u1) hl hkw hcap).use ?_
  rintro _ h3 ⟨b3, s3⟩
  obtain ⟨p3, c3, L', Z', E', e3, rfl, y3⟩ := s3
  rw [e2] at e3
  simp only [Prod.mk.injEq] at e3
  obtain ⟨rfl, rfl, rfl⟩ := e3
  have z3 : h2.size < h3.size := by have := b3.size; simp at this; omega
  have k1' : rd h3 ⟨h.size, 0, none⟩ 2 = some [.slice p l.length c, .int .i64 n] := by
    rw [rd_bel (b3.mono (B' := h.size + 1) (by simp; omega)) (by simp), rd_push, if_neg (by omega), k1]
  have k3' : rd h3 ⟨h1.size, 0, none⟩ 2 = some [.slice p1 l.length c1, .int .i64 n] := by
    rw [rd_bel (b3.mono (B' := h1.size + 1) (by simp; omega)) (by simp), rd_push, if_neg (by omega), k3]
  have k4 : rd h3 ⟨h2.size, 0, none⟩ 2 = some [.slice p2 L.length c2, .int .i64 Z] := by
    rw [rd_bel (b3.mono (B' := h2.size + 1) (by simp)) (by simp), rd_push, if_pos rfl]; rfl
  have bb3 : Bel h.size h h3 := (bb2.add _).trans (b3.mono (by simp; omega))
  simp (config := {contextual := true, maxSteps := 2000000}) only [go_sem, ↓reduceIte, Nat.reduceEqDiff, Nat.reduceAdd, Nat.reduceMul, Nat.reduceLeDiff, Nat.reduceLT, Nat.reduceSub, IntWalk.iteOmega, IntWalk.toNatUp, reduceCtorEq, false_and, and_false, false_or, or_false, true_or, or_true, not_true_eq_false, not_false_eq_true, Bool.not_true, Bool.not_false, Bool.and_true, Bool.true_and, Bool.and_false, Bool.false_and, Bool.not_eq_true, beq_self_eq_true, Nat.add_zero, Int.reduceLE, Int.reduceLT, Int.reduceToNat, Int.reduceNeg, z1, z2, z3, k1', k3', k4]
  have b3' : Bel h2.size h2 h3 := ((Bel.refl _ _).add _).trans (b3.mono (by simp))
  refine (sameTape_ok T _ _ _ Z Z L L (y2.bel (b3'.add _)) (y3.bel ((Bel.refl _ _).add _))).use ?_
  rintro _ h4 ⟨rfl, b4⟩
  have k1'' : rd h4 ⟨h.size, 0, none⟩ 2 = some [.slice p l.length c, .int .i64 n] := by
    rw [rd_bel (b4.mono (B' := h.size + 1) (by simp; omega)) (by simp), rd_push, if_neg (by omega), k1']
  have k3'' : rd h4 ⟨h1.size, 0, none⟩ 2 = some [.slice p1 l.length c1, .int .i64 n] := by
    rw [rd_bel (b4.mono (B' := h1.size + 1) (by simp; omega)) (by simp), rd_push, if_neg (by omega), k3']
  have bb4 : Bel h.size h h4 := (bb3.add _).trans (b4.mono (by simp; omega))
  have d4 : Bel h1.size h1 h4 := (((((Bel.refl _ _).add _).trans (b2.mono (by simp))).add _).trans (b3.mono (by simp; omega))).add _ |>.trans (b4.mono (by simp; omega))
  simp (config := {contextual := true, maxSteps := 2000000}) only [go_sem, ↓reduceIte, Nat.reduceEqDiff, Nat.reduceAdd, Nat.reduceMul, Nat.reduceLeDiff, Nat.reduceLT, Nat.reduceSub, IntWalk.iteOmega, IntWalk.toNatUp, reduceCtorEq, false_and, and_false, false_or, or_false, true_or, or_true, not_true_eq_false, not_false_eq_true, Bool.not_true, Bool.not_false, Bool.and_true, Bool.true_and, Bool.and_false, Bool.false_and, Bool.not_eq_true, beq_self_eq_true, Nat.add_zero, Int.reduceLE, Int.reduceLT, Int.reduceToNat, Int.reduceNeg, k1'', k3'']
  refine (sameTape_ok T _ _ _ n n l l (o1.bs.bel d4) (s.bel bb4)).use ?_
  rintro _ h5 ⟨rfl, b5⟩
  simp (config := {contextual := true, maxSteps := 2000000}) only [go_sem, ↓reduceIte, Nat.reduceEqDiff, Nat.reduceAdd, Nat.reduceMul, Nat.reduceLeDiff, Nat.reduceLT, Nat.reduceSub, IntWalk.iteOmega, IntWalk.toNatUp, reduceCtorEq, false_and, and_false, false_or, or_false, true_or, or_true, not_true_eq_false, not_false_eq_true, Bool.not_true, Bool.not_false, Bool.and_true, Bool.true_and, Bool.and_false, Bool.false_and, Bool.not_eq_true, beq_self_eq_true, Nat.add_zero, Int.reduceLE, Int.reduceLT, Int.reduceToNat, Int.reduceNeg]
  exact bb4.trans (b5.mono (by have := bb4.size; omega))
theorem stableCrashes_lifted (os : Os) (started : os.Started) (H : Type) (enc : TypeId × Value → H) :
    ReturnsInHanded {} Try.checked os 10 .any (Rows.stableCrashesSpec.pre6 enc Try.prog Try.f10 Rows.stableCrashesRow.domain false) (Rows.stableCrashesSpec.post enc Try.prog Try.f10 false true false false) :=
  law_lifted (C := Try.checked) ownKnobT started (by kernel_rfl) Try.func10
    (ChangeSpec.witness6 (enc := enc) (C := Try.checked) false ⟨#[], #[.agg [Value.slice none 0 0, Value.int .i64 0].toArray, .int .i64 0], []⟩ 12 (by kernel_rfl) (by kernel_rfl) (by kernel_rfl) (by kernel_rfl))
    laidOutT (by kernel_rfl) (by kernel_rfl) (tb := 4) rfl Try.underlying4 rfl (fun ds hd => by
      have hl : ds.length = 2 := hd
      match ds, hl with
      | [d0, d1], _ => rfl) stableCrashes_ok
theorem stableCrashes_holds : Rows.StableCrashesSaid :=
  OpenClaim.holds_of_wide 10 Try.f10 rfl rfl rfl rfl rfl rfl rfl ⟨rfl, rfl, rfl, rfl, rfl⟩ rfl rfl rfl rfl rfl (by kernel_rfl) Try.func10 (show joinedFacts Try.prog 10 Try.f10 Rows.stableCrashesSpec Rows.stableCrashesRow = true by unfold joinedFacts; rw [makeT, enterT, liftsT]; kernel_rfl)
    (of_decide_eq_true (by kernel_rfl)) (by unfold Func.isWrapper; rw [if_neg (of_decide_eq_false (by kernel_rfl))]; exact ⟨rfl, rfl⟩)
    (fun os started H enc _ => stableCrashes_lifted os started H enc)
end Go.Proofs.Ytjgbajgmndkfjaa
