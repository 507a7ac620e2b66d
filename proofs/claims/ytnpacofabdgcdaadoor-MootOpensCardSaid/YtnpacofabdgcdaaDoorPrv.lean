/- Tokens that are proved: what the program and the document compute; no condition but those in the statements. -/
import Derived.Test.YtnpacofabdgcdaaDoorGrt
import Derived.Test.YtnpacofabdgcdaaDoorSame
import Derived.Test.YtnpacofabdgcdaaDoorW18
namespace Go.Proofs.YtnpacofabdgcdaaDoor
open Go Go.V
set_option linter.unusedSimpArgs false
set_option linter.unusedVariables false
set_option maxRecDepth 100000
def tokZ : List Value := tokC 0 0 0
def prvErr (key l : List Nat) : Int := if key.length ≠ 32 ∨ l.length ≠ 22 then 1 else if (macS key (l.take 6)).take 16 ≠ l.drop 6 then 6 else tokErr (l.getD 0 0 : Nat) (l.getD 1 0 : Nat) (be4 l 2 : Nat)
def prvT (key l : List Nat) : List Value := if prvErr key l = 0 then tokC (l.getD 0 0 : Nat) (l.getD 1 0 : Nat) (be4 l 2 : Nat) else tokZ
theorem prove_ok (T : World) (h : Hp) (v u : Value) (key l : List Nat) (s : Bs h v key) (sl : Bs h u l) (cu : Cap u) (tk : Tk h) :
    CallsH Tryd.prog T 37 #[v, u] h fun v' h' => v' = .tuple [.agg (prvT key l).toArray, .int .i64 (prvErr key l)].toArray ∧ Bel h.size h h' := by
  obtain ⟨p, cp, rfl, _⟩ := s.open
  obtain ⟨q, cq, rfl, hq⟩ := sl.opend
  refine CallsH.of_code' (args := [_, _]) Tryd.func37 rfl rfl rfl rfl ?_
  by_cases hk : key.length = 32
  case neg =>
    have ee : prvErr key l = 1 := by unfold prvErr; rw [if_pos (.inl hk)]
    have hk' : ¬ (key.length : Int) = 32 := by omega
    unfold prvT
    rw [ee]
    unfold tokZ tokC
    simp (config := {contextual := true, maxSteps := 2000000, implicitDefEqProofs := false}) only [go_sem, ↓reduceIte, Nat.reduceEqDiff, Nat.reduceAdd, Nat.reduceMul, Nat.reduceLeDiff, Nat.reduceLT, Nat.reduceSub, IntWalk.iteOmega, IntWalk.toNatUp, reduceCtorEq, Int.reduceLE, Int.reduceLT, Int.reduceToNat, Int.reduceNeg, hk']
    (repeat' (first | exact Bel.refl _ _ | assumption | refine Bel.add ?_ _ | refine Bel.addSet ?_ (by first | omega | (simp; omega)) _ | refine Bel.trans (by assumption) ?_))
  have hk' : (key.length : Int) = 32 := by omega
  by_cases hl : l.length = 22
  case neg =>
    have ee : prvErr key l = 1 := by unfold prvErr; rw [if_pos (.inr hl)]
    have hl' : ¬ (l.length : Int) = 22 := by omega
    unfold prvT
    rw [ee]
    unfold tokZ tokC
    simp (config := {contextual := true, maxSteps := 2000000, implicitDefEqProofs := false}) only [go_sem, ↓reduceIte, Nat.reduceEqDiff, Nat.reduceAdd, Nat.reduceMul, Nat.reduceLeDiff, Nat.reduceLT, Nat.reduceSub, IntWalk.iteOmega, IntWalk.toNatUp, reduceCtorEq, Int.reduceLE, Int.reduceLT, Int.reduceToNat, Int.reduceNeg, hk', hl']
    (repeat' (first | exact Bel.refl _ _ | assumption | refine Bel.add ?_ _ | refine Bel.addSet ?_ (by first | omega | (simp; omega)) _ | refine Bel.trans (by assumption) ?_))
  have hl' : (l.length : Int) = 22 := by omega
  obtain ⟨b, o, rfl, hb, hcs⟩ := hq (by intro e; rw [e] at hl; cases hl)
  have hcap : 22 ≤ cq := by have : l.length ≤ cq := cu; omega
  have h6c : (6 : Int) ≤ (cq : Int) := by omega
  have hc0 : ¬ cq = 0 := by omega
  have hc6 : ¬ cq = 6 := by omega
  obtain ⟨y0, hy0⟩ : ∃ y : Int, y = ((l.getD 0 0 : Nat) : Int) := ⟨_, rfl⟩
  obtain ⟨y1', hy1⟩ : ∃ y : Int, y = ((l.getD 1 0 : Nat) : Int) := ⟨_, rfl⟩
  obtain ⟨y2', hy2⟩ : ∃ y : Int, y = ((l.getD 2 0 : Nat) : Int) := ⟨_, rfl⟩
  obtain ⟨y3, hy3⟩ : ∃ y : Int, y = ((l.getD 3 0 : Nat) : Int) := ⟨_, rfl⟩
  obtain ⟨y4, hy4⟩ : ∃ y : Int, y = ((l.getD 4 0 : Nat) : Int) := ⟨_, rfl⟩
  obtain ⟨y5, hy5⟩ : ∃ y : Int, y = ((l.getD 5 0 : Nat) : Int) := ⟨_, rfl⟩
  obtain ⟨yY, hyY⟩ : ∃ y : Int, y = ((be4 l 2 : Nat) : Int) := ⟨_, rfl⟩
  have z0 := getD_byte sl.byte 0
  have z1 := getD_byte sl.byte 1
  have z2 := getD_byte sl.byte 2
  have z3 := getD_byte sl.byte 3
  have z4 := getD_byte sl.byte 4
  have z5 := getD_byte sl.byte 5
  have eo : Unit → bitOp .or .i64 (bitOp .or .i64 (bitOp .or .i64 (shlOp .i64 y2' 24) (shlOp .i64 y3 16)) (shlOp .i64 y4 8)) y5 = yY := fun _ => by
    rw [hy2, hy3, hy4, hy5, hyY]; exact or4_i64 z2 z3 z4 z5
  have yb : (0 ≤ y0 ∧ y0 < 256) ∧ (0 ≤ y1' ∧ y1' < 256) ∧ (0 ≤ y2' ∧ y2' < 256) ∧ (0 ≤ y3 ∧ y3 < 256) ∧ (0 ≤ y4 ∧ y4 < 256) ∧ (0 ≤ y5 ∧ y5 < 256) := by
    rw [hy0, hy1, hy2, hy3, hy4, hy5]; omega
  obtain ⟨⟨ya1, ya2⟩, ⟨ya3, ya4⟩, ⟨ya5, ya6⟩, ⟨ya7, ya8⟩, ⟨ya9, ya10⟩, ya11, ya12⟩ := yb
  have ee : prvErr key l = if (macS key (l.take 6)).take 16 ≠ l.drop 6 then 6 else tokErr y0 y1' yY := by
    rw [hy0, hy1, hyY]; unfold prvErr; rw [if_neg (by omega)]
  have eT : prvT key l = if prvErr key l = 0 then tokC y0 y1' yY else tokZ := by rw [hy0, hy1, hyY]; rfl
  have hcs' : ∀ i, i < 22 → V.hc h ⟨b, o + i, none⟩ = some (.int .u8 (l.getD i 0 : Nat)) := fun i hi => hcs i (by omega)
  have q0 := hcs' 0 (by omega)
  have q1 := hcs' 1 (by omega)
  have q2 := hcs' 2 (by omega)
  have q3 := hcs' 3 (by omega)
  have q4 := hcs' 4 (by omega)
  have q5 := hcs' 5 (by omega)
  rw [← hy0] at q0
  rw [← hy1] at q1
  rw [← hy2] at q2
  rw [← hy3] at q3
  rw [← hy4] at q4
  rw [← hy5] at q5
  obtain ⟨h1, hh1⟩ : ∃ h1 : Hp, h1 = h.push (.cells tokZ.toArray 23) := ⟨_, rfl⟩
  have b1 : Bel h.size h h1 := by rw [hh1]; exact Bel.push (Nat.le_refl _) _
  have s1 : h1.size = h.size + 1 := by rw [hh1]; simp
  have x1 : h1[h.size]? = some (.cells tokZ.toArray 23) := by rw [hh1]; exact get_push_last
  have e1 : h.push (.cells #[Value.int .i64 0, .int .i64 0, .int .i64 0] 23) = h1 := hh1.symm
  rw [hl] at sl hcs ⊢
  simp (config := {maxSteps := 2000000, implicitDefEqProofs := false}) only [go_sem, ↓reduceIte, Nat.reduceEqDiff, Nat.reduceAdd, Nat.reduceMul, Nat.reduceLeDiff, Nat.reduceLT, Nat.reduceSub, IntWalk.iteOmega, IntWalk.toNatUp, reduceCtorEq, Int.reduceLE, Int.reduceLT, Int.reduceToNat, Int.reduceNeg, hk', hl']
  rw [e1]
  clear e1 hh1
  have sl1 := sl.bel b1
  have s61 : Bs h1 (.slice (some ⟨b, o, none⟩) 6 cq) (l.take 6) := by
    rw [← hl] at sl1; exact Bs.fore sl1 (by omega) cq
  have t6 : (l.take 6).length ≤ 2000 := by rw [List.length_take]; omega
  obtain ⟨M, hM⟩ : ∃ M, M = (macS key (l.take 6)).take 16 := ⟨_, rfl⟩
  have ml : M.length ≤ 140737488355328 := by rw [hM, List.length_take]; omega
  rw [← hM] at ee
  refine VS.mono (N := fun F g => Bel h1.size h1 g ∧ F 1 = .slice (some ⟨b, o, none⟩) 22 cq ∧ F 4 = .pointer (some ⟨h.size, 0, none⟩) ∧ F 24 = .bool (!decide (M = l.drop 6))) ?_ ?_ (fun _ _ _ h => h) (fun _ _ h => h)
  · refine VS.w (h1.size) [] (.q 0 (.q 1 (.q 2 (.q 4 (.q 5 (.s 3 (.s 6 (.q 7 .nil)))))))) mixed (by kernel_rfl) ?_
    simp (config := {maxSteps := 2000000, implicitDefEqProofs := false}) only [go_sem, ↓reduceIte, Nat.reduceEqDiff, Nat.reduceAdd, Nat.reduceMul, Nat.reduceLeDiff, Nat.reduceLT, Nat.reduceSub, IntWalk.iteOmega, IntWalk.toNatUp, reduceCtorEq, Int.reduceLE, Int.reduceLT, Int.reduceToNat, Int.reduceNeg, h6c, hc0, hc6, Nat.sub_zero, Nat.zero_mul]
    rw [← hk']
    refine (proof_ok T h1 _ _ key (l.take 6) (s.bel b1) s61 (by omega) t6 (tk.bels b1)).use ?_
    rintro w h2 ⟨⟨s2, _⟩, b2⟩
    rw [← hM] at s2
    have sl2 := bs_cutF (sl1.bel b2) (k := 6) (by omega) hl (cq - 6)
    simp (config := {maxSteps := 2000000, implicitDefEqProofs := false}) only [go_sem, ↓reduceIte, Nat.reduceEqDiff, Nat.reduceAdd, Nat.reduceMul, Nat.reduceLeDiff, Nat.reduceLT, Nat.reduceSub, IntWalk.iteOmega, IntWalk.toNatUp, reduceCtorEq, Int.reduceLE, Int.reduceLT, Int.reduceToNat, Int.reduceNeg, b2]
    refine (same_ok T h2 w _ M (l.drop 6) s2 sl2 ml).pure ?_
    simp (config := {maxSteps := 2000000, implicitDefEqProofs := false}) only [go_sem, ↓reduceIte, Nat.reduceEqDiff, Nat.reduceAdd, Nat.reduceMul, Nat.reduceLeDiff, Nat.reduceLT, Nat.reduceSub, IntWalk.iteOmega, IntWalk.toNatUp, reduceCtorEq, Int.reduceLE, Int.reduceLT, Int.reduceToNat, Int.reduceNeg, b2]
  rintro F g ⟨bg, f1, f4, f24⟩
  have Bg := b1.trans (bg.mono (by omega))
  have k0 : g[h.size]? = some (.cells tokZ.toArray 23) := bg.get (by omega) x1
  have k1 : rd g ⟨h.size, 0, none⟩ 3 = some tokZ := rd_last k0 rfl
  have k2 := wr_get k0 0
  have hgs := lt_of_get k0
  clear hM
  unfold tokZ tokC at *
  by_cases hm : M = l.drop 6
  case neg =>
    have hd : decide (M = l.drop 6) = false := decide_eq_false hm
    rw [hd] at f24
    rw [if_pos hm] at ee
    rw [eT, ee]
    simp (config := {contextual := true, maxSteps := 2000000, implicitDefEqProofs := false}) only [go_sem, ↓reduceIte, Nat.reduceEqDiff, Nat.reduceAdd, Nat.reduceMul, Nat.reduceLeDiff, Nat.reduceLT, Nat.reduceSub, IntWalk.iteOmega, IntWalk.toNatUp, reduceCtorEq, Int.reduceLE, Int.reduceLT, Int.reduceToNat, Int.reduceNeg, f1, f4, f24, k1, k2]
    exact Bg.addSet (Nat.le_refl _) _
  have hd : decide (M = l.drop 6) = true := decide_eq_true hm
  rw [hd] at f24
  rw [if_neg (fun hn => hn hm)] at ee
  have e0 : V.hc g ⟨b, o, none⟩ = some (.int .u8 y0) := by rw [Bg.hc (by exact hb)]; exact q0
  have e1 : V.hc g ⟨b, o + 1, none⟩ = some (.int .u8 y1') := by rw [Bg.hc (by exact hb)]; exact q1
  have e2 : V.hc g ⟨b, o + 2, none⟩ = some (.int .u8 y2') := by rw [Bg.hc (by exact hb)]; exact q2
  have e3 : V.hc g ⟨b, o + 3, none⟩ = some (.int .u8 y3) := by rw [Bg.hc (by exact hb)]; exact q3
  have e4 : V.hc g ⟨b, o + 4, none⟩ = some (.int .u8 y4) := by rw [Bg.hc (by exact hb)]; exact q4
  have e5 : V.hc g ⟨b, o + 5, none⟩ = some (.int .u8 y5) := by rw [Bg.hc (by exact hb)]; exact q5
  rw [eT, ee]
  clear hy0 hy1 hy2 hy3 hy4 hy5 hyY
  have hbg : b < g.size := Nat.lt_of_lt_of_le hb Bg.size
  simp (config := {maxSteps := 2000000, implicitDefEqProofs := false}) only [go_sem, ↓reduceIte, Nat.reduceEqDiff, Nat.reduceAdd, Nat.reduceMul, Nat.reduceLeDiff, Nat.reduceLT, Nat.reduceSub, IntWalk.iteOmega, IntWalk.toNatUp, reduceCtorEq, Int.reduceLE, Int.reduceLT, Int.reduceToNat, Int.reduceNeg, f1, f4, f24]
  refine VS.w (g.size) [32] (.q 0 (.q 1 (.q 2 (.q 3 (.q 4 (.q 5 (.q 6 (.q 7 (.q 8 (.q 9 (.q 10 (.q 11 (.q 12 (.q 13 (.q 14 (.q 15 (.q 16 (.q 17 (.q 18 (.q 19 (.q 20 (.q 21 (.q 22 (.q 23 (.q 24 (.q 25 (.q 26 (.q 27 (.q 28 (.q 29 (.q 30 (.s 31 (.w 32 .nil))))))))))))))))))))))))))))))))) mixed (by kernel_rfl) ?_
  simp (config := {maxSteps := 2000000, implicitDefEqProofs := false}) only [go_sem, ↓reduceIte, Nat.reduceEqDiff, Nat.reduceAdd, Nat.reduceMul, Nat.reduceLeDiff, Nat.reduceLT, Nat.reduceSub, IntWalk.iteOmega, IntWalk.toNatUp, reduceCtorEq, Int.reduceLE, Int.reduceLT, Int.reduceToNat, Int.reduceNeg, f1, f4, hbg, e0, e1, e2, e3, e4, e5, eo ()]
  refine (token_ok T _ y0 y1' yY).use ?_
  rintro _ _ ⟨rfl, rfl⟩
  unfold tokC
  obtain ⟨E, hE⟩ : ∃ E, E = tokErr y0 y1' yY := ⟨_, rfl⟩
  rw [← hE]
  by_cases q : E = 0
  · rw [if_pos q]
    simp (config := {contextual := true, maxSteps := 2000000, implicitDefEqProofs := false}) only [go_sem, ↓reduceIte, Nat.reduceEqDiff, Nat.reduceAdd, Nat.reduceMul, Nat.reduceLeDiff, Nat.reduceLT, Nat.reduceSub, IntWalk.iteOmega, IntWalk.toNatUp, reduceCtorEq, Int.reduceLE, Int.reduceLT, Int.reduceToNat, Int.reduceNeg, q, f1, f4, k1, k2, hgs]
    (repeat' (first | exact Bel.refl _ _ | assumption | refine Bel.add ?_ _ | refine Bel.addSet ?_ (by first | omega | (simp; omega)) _ | refine Bel.trans (by assumption) ?_))
  · rw [if_neg q]
    simp (config := {contextual := true, maxSteps := 2000000, implicitDefEqProofs := false}) only [go_sem, ↓reduceIte, Nat.reduceEqDiff, Nat.reduceAdd, Nat.reduceMul, Nat.reduceLeDiff, Nat.reduceLT, Nat.reduceSub, IntWalk.iteOmega, IntWalk.toNatUp, reduceCtorEq, Int.reduceLE, Int.reduceLT, Int.reduceToNat, Int.reduceNeg, q, f1, f4, k1, k2, hgs]
    (repeat' (first | exact Bel.refl _ _ | assumption | refine Bel.add ?_ _ | refine Bel.addSet ?_ (by first | omega | (simp; omega)) _ | refine Bel.trans (by assumption) ?_))
theorem quietConv {P : Program} {h : Hp} {S D : TypeId} {v r : Value} {C : Value → Prop} (c : vConv P S D v (kEq r h) h) (H : C r) : ∃ u, vConv P S D v (kEq u h) h ∧ ap C u := ⟨r, c, H⟩
theorem proved_ok (T : World) (h : Hp) (v u : Value) (key l : List Nat) (s : Bs h v key) (sl : Bs h u l) (cu : Cap u) :
    CallsH Tryd.prog T 38 #[v, u] h fun v' h' => v' = .tuple [.agg (prvT key l).toArray, .int .i64 (prvErr key l)].toArray ∧ Bel h.size h h' := by
  obtain ⟨p, cp, rfl, _⟩ := s.open
  obtain ⟨q, cq, rfl, hq⟩ := sl.opend
  refine CallsH.of_code' (args := [_, _]) Tryd.func38 rfl rfl rfl rfl ?_
  by_cases hk : key.length = 32
  case neg =>
    have ee : prvErr key l = 1 := by unfold prvErr; rw [if_pos (.inl hk)]
    have hk' : ¬ (key.length : Int) = 32 := by omega
    unfold prvT
    rw [ee]
    unfold tokZ tokC
    simp (config := {contextual := true, maxSteps := 2000000, implicitDefEqProofs := false}) only [go_sem, ↓reduceIte, Nat.reduceEqDiff, Nat.reduceAdd, Nat.reduceMul, Nat.reduceLeDiff, Nat.reduceLT, Nat.reduceSub, IntWalk.iteOmega, IntWalk.toNatUp, reduceCtorEq, Int.reduceLE, Int.reduceLT, Int.reduceToNat, Int.reduceNeg, hk']
    (repeat' (first | exact Bel.refl _ _ | assumption | refine Bel.add ?_ _ | refine Bel.addSet ?_ (by first | omega | (simp; omega)) _ | refine Bel.trans (by assumption) ?_))
  have hk' : (key.length : Int) = 32 := by omega
  by_cases hl : l.length = 22
  case neg =>
    have ee : prvErr key l = 1 := by unfold prvErr; rw [if_pos (.inr hl)]
    have hl' : ¬ (l.length : Int) = 22 := by omega
    unfold prvT
    rw [ee]
    unfold tokZ tokC
    simp (config := {contextual := true, maxSteps := 2000000, implicitDefEqProofs := false}) only [go_sem, ↓reduceIte, Nat.reduceEqDiff, Nat.reduceAdd, Nat.reduceMul, Nat.reduceLeDiff, Nat.reduceLT, Nat.reduceSub, IntWalk.iteOmega, IntWalk.toNatUp, reduceCtorEq, Int.reduceLE, Int.reduceLT, Int.reduceToNat, Int.reduceNeg, hk', hl']
    (repeat' (first | exact Bel.refl _ _ | assumption | refine Bel.add ?_ _ | refine Bel.addSet ?_ (by first | omega | (simp; omega)) _ | refine Bel.trans (by assumption) ?_))
  have hl' : (l.length : Int) = 22 := by omega
  obtain ⟨b, o, rfl, hb, hcs⟩ := hq (by intro e; rw [e] at hl; cases hl)
  have hcap : 22 ≤ cq := by have : l.length ≤ cq := cu; omega
  have h6c : (6 : Int) ≤ (cq : Int) := by omega
  have hc0 : ¬ cq = 0 := by omega
  have hc6 : ¬ cq = 6 := by omega
  obtain ⟨y0, hy0⟩ : ∃ y : Int, y = ((l.getD 0 0 : Nat) : Int) := ⟨_, rfl⟩
  obtain ⟨y1', hy1⟩ : ∃ y : Int, y = ((l.getD 1 0 : Nat) : Int) := ⟨_, rfl⟩
  obtain ⟨y2', hy2⟩ : ∃ y : Int, y = ((l.getD 2 0 : Nat) : Int) := ⟨_, rfl⟩
  obtain ⟨y3, hy3⟩ : ∃ y : Int, y = ((l.getD 3 0 : Nat) : Int) := ⟨_, rfl⟩
  obtain ⟨y4, hy4⟩ : ∃ y : Int, y = ((l.getD 4 0 : Nat) : Int) := ⟨_, rfl⟩
  obtain ⟨y5, hy5⟩ : ∃ y : Int, y = ((l.getD 5 0 : Nat) : Int) := ⟨_, rfl⟩
  obtain ⟨yY, hyY⟩ : ∃ y : Int, y = ((be4 l 2 : Nat) : Int) := ⟨_, rfl⟩
  have z0 := getD_byte sl.byte 0
  have z1 := getD_byte sl.byte 1
  have z2 := getD_byte sl.byte 2
  have z3 := getD_byte sl.byte 3
  have z4 := getD_byte sl.byte 4
  have z5 := getD_byte sl.byte 5
  have eo : Unit → bitOp .or .i64 (bitOp .or .i64 (bitOp .or .i64 (shlOp .i64 y2' 24) (shlOp .i64 y3 16)) (shlOp .i64 y4 8)) y5 = yY := fun _ => by
    rw [hy2, hy3, hy4, hy5, hyY]; exact or4_i64 z2 z3 z4 z5
  have yb : (0 ≤ y0 ∧ y0 < 256) ∧ (0 ≤ y1' ∧ y1' < 256) ∧ (0 ≤ y2' ∧ y2' < 256) ∧ (0 ≤ y3 ∧ y3 < 256) ∧ (0 ≤ y4 ∧ y4 < 256) ∧ (0 ≤ y5 ∧ y5 < 256) := by
    rw [hy0, hy1, hy2, hy3, hy4, hy5]; omega
  obtain ⟨⟨ya1, ya2⟩, ⟨ya3, ya4⟩, ⟨ya5, ya6⟩, ⟨ya7, ya8⟩, ⟨ya9, ya10⟩, ya11, ya12⟩ := yb
  have ee : prvErr key l = if (macS key (l.take 6)).take 16 ≠ l.drop 6 then 6 else tokErr y0 y1' yY := by
    rw [hy0, hy1, hyY]; unfold prvErr; rw [if_neg (by omega)]
  have eT : prvT key l = if prvErr key l = 0 then tokC y0 y1' yY else tokZ := by rw [hy0, hy1, hyY]; rfl
  have hcs' : ∀ i, i < 22 → V.hc h ⟨b, o + i, none⟩ = some (.int .u8 (l.getD i 0 : Nat)) := fun i hi => hcs i (by omega)
  have q0 := hcs' 0 (by omega)
  have q1 := hcs' 1 (by omega)
  have q2 := hcs' 2 (by omega)
  have q3 := hcs' 3 (by omega)
  have q4 := hcs' 4 (by omega)
  have q5 := hcs' 5 (by omega)
  rw [← hy0] at q0
  rw [← hy1] at q1
  rw [← hy2] at q2
  rw [← hy3] at q3
  rw [← hy4] at q4
  rw [← hy5] at q5
  obtain ⟨h1, hh1⟩ : ∃ h1 : Hp, h1 = h.push (.cells tokZ.toArray 23) := ⟨_, rfl⟩
  have b1 : Bel h.size h h1 := by rw [hh1]; exact Bel.push (Nat.le_refl _) _
  have s1 : h1.size = h.size + 1 := by rw [hh1]; simp
  have x1 : h1[h.size]? = some (.cells tokZ.toArray 23) := by rw [hh1]; exact get_push_last
  have e1 : h.push (.cells #[Value.int .i64 0, .int .i64 0, .int .i64 0] 23) = h1 := hh1.symm
  rw [hl] at sl hcs ⊢
  simp (config := {maxSteps := 2000000, implicitDefEqProofs := false}) only [go_sem, ↓reduceIte, Nat.reduceEqDiff, Nat.reduceAdd, Nat.reduceMul, Nat.reduceLeDiff, Nat.reduceLT, Nat.reduceSub, IntWalk.iteOmega, IntWalk.toNatUp, reduceCtorEq, Int.reduceLE, Int.reduceLT, Int.reduceToNat, Int.reduceNeg, hk', hl', h6c, hc0, Nat.sub_zero, Nat.zero_mul]
  rw [e1]
  clear e1 hh1
  have sl1 := sl.bel b1
  have s61 : Bs h1 (.slice (some ⟨b, o, none⟩) 6 cq) (l.take 6) := by
    rw [← hl] at sl1; exact Bs.fore sl1 (by omega) cq
  have t6 : (l.take 6).length ≤ 2000 := by rw [List.length_take]; omega
  rw [← hk']
  refine (macced_ok T h1 _ _ key (l.take 6) (s.bel b1) s61 (by omega) (by omega)).use ?_
  rintro w g ⟨o2, bg⟩
  rw [hk']
  have ml := macS_length key (l.take 6)
  generalize macS key (l.take 6) = MM at *
  obtain ⟨pM, cM, rfl, hcM⟩ := o2.open
  have sM := o2.bs
  obtain ⟨p', c', hv, hh⟩ := sM.opend
  simp only [Value.slice.injEq] at hv
  obtain ⟨rfl, _, rfl⟩ := hv
  obtain ⟨bb, ob, rfl, _⟩ := hh (by intro e; rw [e] at ml; cases ml)
  have s16 := Bs.fore sM (m := 16) (by omega) cM
  have sl2 := bs_cutF (sl1.bel bg) (k := 6) (by omega) hl (cq - 6)
  rw [ml] at hcM ⊢
  have h16 : (16 : Int) ≤ (cM : Int) := by omega
  have hcM0 : ¬ cM = 0 := by omega
  obtain ⟨M, hM⟩ : ∃ M, M = MM.take 16 := ⟨_, rfl⟩
  rw [← hM] at ee s16
  have Bg := b1.trans (bg.mono (by omega))
  have k0 : g[h.size]? = some (.cells tokZ.toArray 23) := bg.get (by omega) x1
  have k1 : rd g ⟨h.size, 0, none⟩ 3 = some tokZ := rd_last k0 rfl
  have k2 := wr_get k0 0
  have hgs := lt_of_get k0
  have hbe := bytes_eq M (l.drop 6) s16.byte sl2.byte
  clear hM
  unfold tokZ tokC at *
  try simp (config := {maxSteps := 2000000, implicitDefEqProofs := false}) only [go_sem, ↓reduceIte, Nat.reduceEqDiff, Nat.reduceAdd, Nat.reduceMul, Nat.reduceLeDiff, Nat.reduceLT, Nat.reduceSub, IntWalk.iteOmega, IntWalk.toNatUp, reduceCtorEq, Int.reduceLE, Int.reduceLT, Int.reduceToNat, Int.reduceNeg]
  refine VS.q mixed (by kernel_rfl) ?_
  simp (config := {maxSteps := 2000000, implicitDefEqProofs := false}) only [go_sem, ↓reduceIte, Nat.reduceEqDiff, Nat.reduceAdd, Nat.reduceMul, Nat.reduceLeDiff, Nat.reduceLT, Nat.reduceSub, IntWalk.iteOmega, IntWalk.toNatUp, reduceCtorEq, Int.reduceLE, Int.reduceLT, Int.reduceToNat, Int.reduceNeg, h16, hcM0, Nat.sub_zero, Nat.zero_mul]
  refine quietConv (conv_str Tryd.underlying29 Tryd.underlying9 Tryd.underlying5 s16 ⟨rfl, rfl⟩) ?_
  simp (config := {maxSteps := 2000000, implicitDefEqProofs := false}) only [go_sem, ↓reduceIte, Nat.reduceEqDiff, Nat.reduceAdd, Nat.reduceMul, Nat.reduceLeDiff, Nat.reduceLT, Nat.reduceSub, IntWalk.iteOmega, IntWalk.toNatUp, reduceCtorEq, Int.reduceLE, Int.reduceLT, Int.reduceToNat, Int.reduceNeg, h6c, hc6]
  refine quietConv (conv_str Tryd.underlying29 Tryd.underlying9 Tryd.underlying5 sl2 ⟨rfl, rfl⟩) ?_
  simp (config := {maxSteps := 2000000, implicitDefEqProofs := false}) only [go_sem, ↓reduceIte, Nat.reduceEqDiff, Nat.reduceAdd, Nat.reduceMul, Nat.reduceLeDiff, Nat.reduceLT, Nat.reduceSub, IntWalk.iteOmega, IntWalk.toNatUp, reduceCtorEq, Int.reduceLE, Int.reduceLT, Int.reduceToNat, Int.reduceNeg]
  rw [hbe]
  by_cases hm : M = l.drop 6
  case neg =>
    have hd : decide (M = l.drop 6) = false := decide_eq_false hm
    rw [hd]
    rw [if_pos hm] at ee
    rw [eT, ee]
    simp (config := {contextual := true, maxSteps := 2000000, implicitDefEqProofs := false}) only [go_sem, ↓reduceIte, Nat.reduceEqDiff, Nat.reduceAdd, Nat.reduceMul, Nat.reduceLeDiff, Nat.reduceLT, Nat.reduceSub, IntWalk.iteOmega, IntWalk.toNatUp, reduceCtorEq, Int.reduceLE, Int.reduceLT, Int.reduceToNat, Int.reduceNeg, k1, k2]
    exact Bg.addSet (Nat.le_refl _) _
  have hd : decide (M = l.drop 6) = true := decide_eq_true hm
  rw [hd]
  rw [if_neg (fun hn => hn hm)] at ee
  have e0 : V.hc g ⟨b, o, none⟩ = some (.int .u8 y0) := by rw [Bg.hc (by exact hb)]; exact q0
  have e1 : V.hc g ⟨b, o + 1, none⟩ = some (.int .u8 y1') := by rw [Bg.hc (by exact hb)]; exact q1
  have slg := sl1.bel bg
  rw [eT, ee]
  have fh : ∀ h', Bel g.size g h' → CallsH Tryd.prog T 81 #[.slice (some ⟨b, o, none⟩) 22 cq, .int .i64 2] h' fun v' h'' => v' = .int .i64 yY ∧ h'' = h' := fun h' hb' => by
    have := fourHigh_ok T h' _ l (slg.bel hb') 2 (by omega) (by omega)
    rw [hyY]; exact this
  clear hy0 hy1 hy2 hy3 hy4 hy5 hyY
  have hbg : b < g.size := Nat.lt_of_lt_of_le hb Bg.size
  simp (config := {maxSteps := 2000000, implicitDefEqProofs := false}) only [go_sem, ↓reduceIte, Nat.reduceEqDiff, Nat.reduceAdd, Nat.reduceMul, Nat.reduceLeDiff, Nat.reduceLT, Nat.reduceSub, IntWalk.iteOmega, IntWalk.toNatUp, reduceCtorEq, Int.reduceLE, Int.reduceLT, Int.reduceToNat, Int.reduceNeg]
  refine VS.w (g.size) [12] (.q 0 (.q 1 (.q 2 (.q 3 (.q 4 (.q 5 (.q 6 (.q 7 (.q 8 (.or 9 (.q 10 (.s 11 (.w 12 .nil))) (.s 11 (.s 9 (.q 10 (.w 12 .nil)))))))))))))) mixed (by kernel_rfl) ?_
  simp (config := {maxSteps := 2000000, implicitDefEqProofs := false}) only [go_sem, ↓reduceIte, Nat.reduceEqDiff, Nat.reduceAdd, Nat.reduceMul, Nat.reduceLeDiff, Nat.reduceLT, Nat.reduceSub, IntWalk.iteOmega, IntWalk.toNatUp, reduceCtorEq, Int.reduceLE, Int.reduceLT, Int.reduceToNat, Int.reduceNeg, hbg, e0, e1]
  refine ⟨?_, ?_⟩
  · refine (fh _ (Bel.refl _ _)).use ?_
    rintro _ _ ⟨rfl, rfl⟩
    simp (config := {maxSteps := 2000000, implicitDefEqProofs := false}) only [go_sem, ↓reduceIte, Nat.reduceEqDiff, Nat.reduceAdd, Nat.reduceMul, Nat.reduceLeDiff, Nat.reduceLT, Nat.reduceSub, IntWalk.iteOmega, IntWalk.toNatUp, reduceCtorEq, Int.reduceLE, Int.reduceLT, Int.reduceToNat, Int.reduceNeg]
    refine (tokenFault_ok T _ y0 y1' yY).use ?_
    rintro _ _ ⟨rfl, rfl⟩
    unfold tokC
    obtain ⟨E, hE⟩ : ∃ E, E = tokErr y0 y1' yY := ⟨_, rfl⟩
    rw [← hE]
    by_cases q : E = 0
    · rw [if_pos q]
      simp (config := {contextual := true, maxSteps := 2000000, implicitDefEqProofs := false}) only [go_sem, ↓reduceIte, Nat.reduceEqDiff, Nat.reduceAdd, Nat.reduceMul, Nat.reduceLeDiff, Nat.reduceLT, Nat.reduceSub, IntWalk.iteOmega, IntWalk.toNatUp, reduceCtorEq, Int.reduceLE, Int.reduceLT, Int.reduceToNat, Int.reduceNeg, q, k1, k2, hgs]
      (repeat' (first | exact Bel.refl _ _ | assumption | refine Bel.add ?_ _ | refine Bel.addSet ?_ (by first | omega | (simp; omega)) _ | refine Bel.trans (by assumption) ?_))
    · rw [if_neg q]
      simp (config := {contextual := true, maxSteps := 2000000, implicitDefEqProofs := false}) only [go_sem, ↓reduceIte, Nat.reduceEqDiff, Nat.reduceAdd, Nat.reduceMul, Nat.reduceLeDiff, Nat.reduceLT, Nat.reduceSub, IntWalk.iteOmega, IntWalk.toNatUp, reduceCtorEq, Int.reduceLE, Int.reduceLT, Int.reduceToNat, Int.reduceNeg, q, k1, k2, hgs]
      (repeat' (first | exact Bel.refl _ _ | assumption | refine Bel.add ?_ _ | refine Bel.addSet ?_ (by first | omega | (simp; omega)) _ | refine Bel.trans (by assumption) ?_))
  · refine (fh _ (Bel.push (Nat.le_refl _) _)).use ?_
    rintro _ _ ⟨rfl, rfl⟩
    simp (config := {maxSteps := 2000000, implicitDefEqProofs := false}) only [go_sem, ↓reduceIte, Nat.reduceEqDiff, Nat.reduceAdd, Nat.reduceMul, Nat.reduceLeDiff, Nat.reduceLT, Nat.reduceSub, IntWalk.iteOmega, IntWalk.toNatUp, reduceCtorEq, Int.reduceLE, Int.reduceLT, Int.reduceToNat, Int.reduceNeg]
    refine (tokenFault_ok T _ y0 y1' yY).use ?_
    rintro _ _ ⟨rfl, rfl⟩
    unfold tokC
    obtain ⟨E, hE⟩ : ∃ E, E = tokErr y0 y1' yY := ⟨_, rfl⟩
    rw [← hE]
    by_cases q : E = 0
    · rw [if_pos q]
      simp (config := {contextual := true, maxSteps := 2000000, implicitDefEqProofs := false}) only [go_sem, ↓reduceIte, Nat.reduceEqDiff, Nat.reduceAdd, Nat.reduceMul, Nat.reduceLeDiff, Nat.reduceLT, Nat.reduceSub, IntWalk.iteOmega, IntWalk.toNatUp, reduceCtorEq, Int.reduceLE, Int.reduceLT, Int.reduceToNat, Int.reduceNeg, q, k1, k2, hgs]
      (repeat' (first | exact Bel.refl _ _ | assumption | refine Bel.add ?_ _ | refine Bel.addSet ?_ (by first | omega | (simp; omega)) _ | refine Bel.trans (by assumption) ?_))
    · rw [if_neg q]
      simp (config := {contextual := true, maxSteps := 2000000, implicitDefEqProofs := false}) only [go_sem, ↓reduceIte, Nat.reduceEqDiff, Nat.reduceAdd, Nat.reduceMul, Nat.reduceLeDiff, Nat.reduceLT, Nat.reduceSub, IntWalk.iteOmega, IntWalk.toNatUp, reduceCtorEq, Int.reduceLE, Int.reduceLT, Int.reduceToNat, Int.reduceNeg, q, k1, k2, hgs]
      (repeat' (first | exact Bel.refl _ _ | assumption | refine Bel.add ?_ _ | refine Bel.addSet ?_ (by first | omega | (simp; omega)) _ | refine Bel.trans (by assumption) ?_))
end Go.Proofs.YtnpacofabdgcdaaDoor
