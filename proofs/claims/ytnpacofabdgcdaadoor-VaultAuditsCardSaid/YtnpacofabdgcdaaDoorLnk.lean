/- A link of the vault's chain: what the program and the document compute; no condition but those in the statements. -/
import Derived.Test.YtnpacofabdgcdaaDoorShat
import Derived.Test.YtnpacofabdgcdaaDoorVdo
namespace Go.Proofs.YtnpacofabdgcdaaDoor
open Go Go.V
set_option linter.unusedSimpArgs false
set_option linter.unusedVariables false
set_option maxRecDepth 100000
def linkM (bf : List Nat) (k c s n v : Int) (a b : Nat) : List Nat := ((bf ++ cmdBytes [k.toNat, c.toNat, s.toNat, n.toNat, v.toNat]) ++ high4 a) ++ high4 b
def linkS (bf : List Nat) (k c s n v : Int) (a b : Nat) : List Nat := shaS (linkM bf k c s n v a b)
theorem linkS_length (bf : List Nat) (k c s n v : Int) (a b : Nat) : (linkS bf k c s n v a b).length = 32 := shaS_length _
theorem linkM_length (bf : List Nat) (k c s n v : Int) (a b : Nat) : (linkM bf k c s n v a b).length = bf.length + 28 := by
  unfold linkM
  simp only [List.length_append, cmdBytes_length, List.length_cons, List.length_nil, high4]
theorem link_ok (T : World) (h : Hp) (u : Value) (bf : List Nat) (su : Bs h u bf) (hbf : bf.length = 32) (k c s n v : Int) (he : cmdErr k c s n v = 0) (a b : Nat) (ha : a ≤ 1073741824) (hb : b ≤ 1073741824) (tk : Tk h) :
    CallsH Tryd.prog T 83 #[u, .agg (cmdC k c s n v).toArray, .agg [.int .i64 a, .int .i64 b].toArray] h fun v' h' => OBs h.size 5 h' v' (linkS bf k c s n v a b) ∧ Bel h.size h h' := by
  obtain ⟨p, cp, rfl, _⟩ := su.open
  refine CallsH.of_code' (args := [_, _, _]) Tryd.func83 rfl rfl rfl rfl ?_
  obtain ⟨za, hza⟩ : ∃ z : Int, z = (a : Int) := ⟨_, rfl⟩
  obtain ⟨zb, hzb⟩ : ∃ z : Int, z = (b : Int) := ⟨_, rfl⟩
  rw [← hza, ← hzb]
  have e0 : cmdC k c s n v = [.int .i64 k, .int .i64 c, .int .i64 s, .int .i64 n, .int .i64 v] := rfl
  rw [e0]
  simp (config := {maxSteps := 2000000, implicitDefEqProofs := false}) only [go_sem, ↓reduceIte, Nat.reduceEqDiff, Nat.reduceAdd, Nat.reduceMul, Nat.reduceLeDiff, Nat.reduceLT, Nat.reduceSub, IntWalk.iteOmega, IntWalk.toNatUp, reduceCtorEq, false_and, and_false, false_or, or_false, true_or, or_true, not_true_eq_false, not_false_eq_true, Bool.not_true, Bool.not_false, Bool.and_true, Bool.true_and, Bool.and_false, Bool.false_and, Bool.not_eq_true, beq_self_eq_true, Nat.add_zero, Int.reduceLE, Int.reduceLT, Int.reduceToNat, Int.reduceNeg]
  obtain ⟨h0, hh0⟩ : ∃ h0 : Hp, h0 = (h.push (.cells [.int .i64 k, .int .i64 c, .int .i64 s, .int .i64 n, .int .i64 v].toArray 25)).push (.cells [.int .i64 za, .int .i64 zb].toArray 50) := ⟨_, rfl⟩
  have b0 : Bel h.size h h0 := by rw [hh0]; exact ((Bel.refl _ _).add _).add _
  have s0 : h0.size = h.size + 2 := by rw [hh0]; simp
  have x0 : h0[h.size + 1]? = some (.cells [.int .i64 za, .int .i64 zb].toArray 50) := by
    rw [hh0, Array.getElem?_push, if_pos (by simp)]
  rw [← hh0]
  clear hh0
  have en := encode_ok T h0 k c s n v
  rw [e0] at en
  refine en.use ?_
  rintro _ h1 ⟨⟨w1, rfl, q1⟩, b1⟩
  rw [he, if_pos rfl] at q1
  rw [he]
  have B1 := b0.trans (b1.mono b0.size)
  simp (config := {maxSteps := 2000000, implicitDefEqProofs := false}) only [go_sem, ↓reduceIte, Nat.reduceEqDiff, Nat.reduceAdd, Nat.reduceMul, Nat.reduceLeDiff, Nat.reduceLT, Nat.reduceSub, IntWalk.iteOmega, IntWalk.toNatUp, reduceCtorEq, false_and, and_false, false_or, or_false, true_or, or_true, not_true_eq_false, not_false_eq_true, Bool.not_true, Bool.not_false, Bool.and_true, Bool.true_and, Bool.and_false, Bool.false_and, Bool.not_eq_true, beq_self_eq_true, Nat.add_zero, Int.reduceLE, Int.reduceLT, Int.reduceToNat, Int.reduceNeg]
  refine (clone_ok T h1 _ bf (su.bel B1) (by omega)).use ?_
  rintro w2 h2 ⟨o2, b2⟩
  have B2 := B1.trans (b2.mono B1.size)
  have z1 := b1.size
  have z2 := b2.size
  have lc : (cmdBytes [k.toNat, c.toNat, s.toNat, n.toNat, v.toNat]).length = 20 := by rw [cmdBytes_length]; rfl
  simp (config := {maxSteps := 2000000, implicitDefEqProofs := false}) only [go_sem, ↓reduceIte, Nat.reduceEqDiff, Nat.reduceAdd, Nat.reduceMul, Nat.reduceLeDiff, Nat.reduceLT, Nat.reduceSub, IntWalk.iteOmega, IntWalk.toNatUp, reduceCtorEq, false_and, and_false, false_or, or_false, true_or, or_true, not_true_eq_false, not_false_eq_true, Bool.not_true, Bool.not_false, Bool.and_true, Bool.true_and, Bool.and_false, Bool.false_and, Bool.not_eq_true, beq_self_eq_true, Nat.add_zero, Int.reduceLE, Int.reduceLT, Int.reduceToNat, Int.reduceNeg]
  refine append_bytes (E := 5) (B := h1.size) tsl29 Tryd.underlying29 tn5 tz5 tb5 o2 z2 (q1.bel b2) (by omega) ?_
  intro w3 h3 o3 b3 _
  have B3 := B2.trans (b3.mono (by omega))
  have z3 := B3.size
  have x3 : h3[h.size + 1]? = some (.cells [.int .i64 za, .int .i64 zb].toArray 50) := b3.get (by omega) (b2.get (by omega) (b1.get (by omega) x0))
  have c0 : V.hc h3 ⟨h.size + 1, 0, none⟩ = some (.int .i64 za) := by rw [hc_last x3]; rfl
  have c1 : V.hc h3 ⟨h.size + 1, 1, none⟩ = some (.int .i64 zb) := by rw [hc_last x3]; rfl
  have hlm : (bf ++ cmdBytes [k.toNat, c.toNat, s.toNat, n.toNat, v.toNat]).length = 52 := by rw [List.length_append]; omega
  unfold linkS linkM
  generalize bf ++ cmdBytes [k.toNat, c.toNat, s.toNat, n.toNat, v.toNat] = M at *
  have o3' : OBs h.size 5 h3 w3 M := o3.mono (by omega)
  clear o3 q1 o2 en
  obtain ⟨a0, ha0⟩ : ∃ y : Int, y = ((a / 16777216 % 256 : Nat) : Int) := ⟨_, rfl⟩
  obtain ⟨a1, ha1⟩ : ∃ y : Int, y = ((a / 65536 % 256 : Nat) : Int) := ⟨_, rfl⟩
  obtain ⟨a2, ha2⟩ : ∃ y : Int, y = ((a / 256 % 256 : Nat) : Int) := ⟨_, rfl⟩
  obtain ⟨a3, ha3⟩ : ∃ y : Int, y = ((a % 256 : Nat) : Int) := ⟨_, rfl⟩
  have e1 : Unit → shrOp .i64 za 24 % 256 = a0 := fun _ => by rw [hza, ha0, show (24 : Int) = ((24 : Nat) : Int) from rfl, shr_i64 a 24 (by decide)]; rfl
  have e2 : Unit → shrOp .i64 za 16 % 256 = a1 := fun _ => by rw [hza, ha1, show (16 : Int) = ((16 : Nat) : Int) from rfl, shr_i64 a 16 (by decide)]; rfl
  have e3 : Unit → shrOp .i64 za 8 % 256 = a2 := fun _ => by rw [hza, ha2, show (8 : Int) = ((8 : Nat) : Int) from rfl, shr_i64 a 8 (by decide)]; rfl
  have e4 : Unit → za % 256 = a3 := fun _ => by rw [hza, ha3]; rfl
  obtain ⟨b0', hb0⟩ : ∃ y : Int, y = ((b / 16777216 % 256 : Nat) : Int) := ⟨_, rfl⟩
  obtain ⟨b1', hb1⟩ : ∃ y : Int, y = ((b / 65536 % 256 : Nat) : Int) := ⟨_, rfl⟩
  obtain ⟨b2', hb2⟩ : ∃ y : Int, y = ((b / 256 % 256 : Nat) : Int) := ⟨_, rfl⟩
  obtain ⟨b3', hb3⟩ : ∃ y : Int, y = ((b % 256 : Nat) : Int) := ⟨_, rfl⟩
  have f1 : Unit → shrOp .i64 zb 24 % 256 = b0' := fun _ => by rw [hzb, hb0, show (24 : Int) = ((24 : Nat) : Int) from rfl, shr_i64 b 24 (by decide)]; rfl
  have f2 : Unit → shrOp .i64 zb 16 % 256 = b1' := fun _ => by rw [hzb, hb1, show (16 : Int) = ((16 : Nat) : Int) from rfl, shr_i64 b 16 (by decide)]; rfl
  have f3 : Unit → shrOp .i64 zb 8 % 256 = b2' := fun _ => by rw [hzb, hb2, show (8 : Int) = ((8 : Nat) : Int) from rfl, shr_i64 b 8 (by decide)]; rfl
  have f4 : Unit → zb % 256 = b3' := fun _ => by rw [hzb, hb3]; rfl
  have ea : ([Value.int .u8 a0, .int .u8 a1, .int .u8 a2, .int .u8 a3] : List Value) = (high4 a).map bv := by rw [ha0, ha1, ha2, ha3]; rfl
  have eb : ([Value.int .u8 b0', .int .u8 b1', .int .u8 b2', .int .u8 b3'] : List Value) = (high4 b).map bv := by rw [hb0, hb1, hb2, hb3]; rfl
  clear hza hzb ha0 ha1 ha2 ha3 hb0 hb1 hb2 hb3
  simp (config := {maxSteps := 2000000, implicitDefEqProofs := false}) only [go_sem, ↓reduceIte, Nat.reduceEqDiff, Nat.reduceAdd, Nat.reduceMul, Nat.reduceLeDiff, Nat.reduceLT, Nat.reduceSub, IntWalk.iteOmega, IntWalk.toNatUp, reduceCtorEq, false_and, and_false, false_or, or_false, true_or, or_true, not_true_eq_false, not_false_eq_true, Bool.not_true, Bool.not_false, Bool.and_true, Bool.true_and, Bool.and_false, Bool.false_and, Bool.not_eq_true, beq_self_eq_true, Nat.add_zero, Int.reduceLE, Int.reduceLT, Int.reduceToNat, Int.reduceNeg, c0, c1]
  refine VS.rounds 3 rfl ?_
  simp (config := {maxSteps := 2000000, implicitDefEqProofs := false}) only [go_sem, ↓reduceIte, Nat.reduceEqDiff, Nat.reduceAdd, Nat.reduceMul, Nat.reduceLeDiff, Nat.reduceLT, Nat.reduceSub, IntWalk.iteOmega, IntWalk.toNatUp, reduceCtorEq, false_and, and_false, false_or, or_false, true_or, or_true, not_true_eq_false, not_false_eq_true, Bool.not_true, Bool.not_false, Bool.and_true, Bool.true_and, Bool.and_false, Bool.false_and, Bool.not_eq_true, beq_self_eq_true, Nat.add_zero, Int.reduceLE, Int.reduceLT, Int.reduceToNat, Int.reduceNeg, e1 (), e2 (), e3 (), e4 ()]
  rw [ea]
  have hla : (high4 a).length = 4 := rfl
  have hlb : (high4 b).length = 4 := rfl
  refine append_bytes (E := 5) (B := h.size) tsl29 Tryd.underlying29 tn5 tz5 tb5 (o3'.push _) (by simp; omega) (Bs.made (l := high4 a) (high4_byte a) 4) (by omega) ?_
  intro w4 h4 o4 b4 _
  have B4 := (B3.addP B3.size _).trans b4
  simp (config := {maxSteps := 2000000, implicitDefEqProofs := false}) only [go_sem, ↓reduceIte, Nat.reduceEqDiff, Nat.reduceAdd, Nat.reduceMul, Nat.reduceLeDiff, Nat.reduceLT, Nat.reduceSub, IntWalk.iteOmega, IntWalk.toNatUp, reduceCtorEq, false_and, and_false, false_or, or_false, true_or, or_true, not_true_eq_false, not_false_eq_true, Bool.not_true, Bool.not_false, Bool.and_true, Bool.true_and, Bool.and_false, Bool.false_and, Bool.not_eq_true, beq_self_eq_true, Nat.add_zero, Int.reduceLE, Int.reduceLT, Int.reduceToNat, Int.reduceNeg, f1 (), f2 (), f3 (), f4 ()]
  rw [eb]
  refine append_bytes (E := 5) (B := h.size) tsl29 Tryd.underlying29 tn5 tz5 tb5 (o4.push _) (by have := B4.size; simp; omega) (Bs.made (l := high4 b) (high4_byte b) 4) (by rw [List.length_append]; omega) ?_
  intro w5 h5 o5 b5 _
  have B5 := (B4.addP B4.size _).trans b5
  simp (config := {maxSteps := 2000000, implicitDefEqProofs := false}) only [go_sem, ↓reduceIte, Nat.reduceEqDiff, Nat.reduceAdd, Nat.reduceMul, Nat.reduceLeDiff, Nat.reduceLT, Nat.reduceSub, IntWalk.iteOmega, IntWalk.toNatUp, reduceCtorEq, false_and, and_false, false_or, or_false, true_or, or_true, not_true_eq_false, not_false_eq_true, Bool.not_true, Bool.not_false, Bool.and_true, Bool.true_and, Bool.and_false, Bool.false_and, Bool.not_eq_true, beq_self_eq_true, Nat.add_zero, Int.reduceLE, Int.reduceLT, Int.reduceToNat, Int.reduceNeg]
  have l5 : (M ++ high4 a ++ high4 b).length = 60 := by rw [List.length_append, List.length_append]; omega
  refine (shaSum_ok T h5 w5 _ o5.bs (tk.bels B5)).use ?_
  rintro _ h6 ⟨⟨w6, rfl, o6⟩, b6⟩
  have es : sumErr (M ++ high4 a ++ high4 b).length = 0 := by unfold sumErr; rw [if_neg (by omega)]
  rw [es, if_pos rfl] at o6
  rw [es]
  simp (config := {maxSteps := 2000000, implicitDefEqProofs := false}) only [go_sem, ↓reduceIte, Nat.reduceEqDiff, Nat.reduceAdd, Nat.reduceMul, Nat.reduceLeDiff, Nat.reduceLT, Nat.reduceSub, IntWalk.iteOmega, IntWalk.toNatUp, reduceCtorEq, false_and, and_false, false_or, or_false, true_or, or_true, not_true_eq_false, not_false_eq_true, Bool.not_true, Bool.not_false, Bool.and_true, Bool.true_and, Bool.and_false, Bool.false_and, Bool.not_eq_true, beq_self_eq_true, Nat.add_zero, Int.reduceLE, Int.reduceLT, Int.reduceToNat, Int.reduceNeg]
  exact ⟨o6.mono B5.size, B5.trans (b6.mono B5.size)⟩
theorem linked_ok (T : World) (h : Hp) (u : Value) (bf : List Nat) (su : Bs h u bf) (hbf : bf.length = 32) (k c s n v : Int) (he : cmdErr k c s n v = 0) (a b : Nat) (ha : a ≤ 1073741824) (hb : b ≤ 1073741824) :
    CallsH Tryd.prog T 87 #[u, .agg (cmdC k c s n v).toArray, .agg [.int .i64 a, .int .i64 b].toArray] h fun v' h' => OBs h.size 5 h' v' (linkS bf k c s n v a b) ∧ Bel h.size h h' := by
  obtain ⟨p, cp, rfl, _⟩ := su.open
  refine CallsH.of_code' (args := [_, _, _]) Tryd.func87 rfl rfl rfl rfl ?_
  have e0 : cmdC k c s n v = [.int .i64 k, .int .i64 c, .int .i64 s, .int .i64 n, .int .i64 v] := rfl
  rw [e0]
  simp (config := {maxSteps := 2000000, implicitDefEqProofs := false}) only [go_sem, ↓reduceIte, Nat.reduceEqDiff, Nat.reduceAdd, Nat.reduceMul, Nat.reduceLeDiff, Nat.reduceLT, Nat.reduceSub, IntWalk.iteOmega, IntWalk.toNatUp, reduceCtorEq, false_and, and_false, false_or, or_false, true_or, or_true, not_true_eq_false, not_false_eq_true, Bool.not_true, Bool.not_false, Bool.and_true, Bool.true_and, Bool.and_false, Bool.false_and, Bool.not_eq_true, beq_self_eq_true, Nat.add_zero, Int.reduceLE, Int.reduceLT, Int.reduceToNat, Int.reduceNeg]
  obtain ⟨h0, hh0⟩ : ∃ h0 : Hp, h0 = (h.push (.cells [.int .i64 k, .int .i64 c, .int .i64 s, .int .i64 n, .int .i64 v].toArray 25)).push (.cells [.int .i64 (a : Nat), .int .i64 (b : Nat)].toArray 50) := ⟨_, rfl⟩
  have b0 : Bel h.size h h0 := by rw [hh0]; exact ((Bel.refl _ _).add _).add _
  have s0 : h0.size = h.size + 2 := by rw [hh0]; simp
  have x0 : h0[h.size + 1]? = some (.cells [.int .i64 (a : Nat), .int .i64 (b : Nat)].toArray 50) := by
    rw [hh0, Array.getElem?_push, if_pos (by simp)]
  rw [← hh0]
  clear hh0
  have en := commandBytes_ok T h0 k c s n v
  rw [e0] at en
  refine en.use ?_
  rintro _ h1 ⟨⟨w1, rfl, q1⟩, b1⟩
  rw [he, if_pos rfl] at q1
  rw [he]
  have B1 := b0.trans (b1.mono b0.size)
  have lc : (cmdBytes [k.toNat, c.toNat, s.toNat, n.toNat, v.toNat]).length = 20 := by rw [cmdBytes_length]; rfl
  simp (config := {maxSteps := 2000000, implicitDefEqProofs := false}) only [go_sem, ↓reduceIte, Nat.reduceEqDiff, Nat.reduceAdd, Nat.reduceMul, Nat.reduceLeDiff, Nat.reduceLT, Nat.reduceSub, IntWalk.iteOmega, IntWalk.toNatUp, reduceCtorEq, false_and, and_false, false_or, or_false, true_or, or_true, not_true_eq_false, not_false_eq_true, Bool.not_true, Bool.not_false, Bool.and_true, Bool.true_and, Bool.and_false, Bool.false_and, Bool.not_eq_true, beq_self_eq_true, Nat.add_zero, Int.reduceLE, Int.reduceLT, Int.reduceToNat, Int.reduceNeg]
  refine (joined_ok T h1 _ _ bf _ (su.bel B1) q1 (by omega)).use ?_
  rintro w2 h2 ⟨o2, b2⟩
  have B2 := B1.trans (b2.mono B1.size)
  have z1 := b1.size
  have z2 := b2.size
  have hlm : (bf ++ cmdBytes [k.toNat, c.toNat, s.toNat, n.toNat, v.toNat]).length = 52 := by rw [List.length_append]; omega
  unfold linkS linkM
  generalize bf ++ cmdBytes [k.toNat, c.toNat, s.toNat, n.toNat, v.toNat] = M at *
  have x2 := b2.get (by omega) (b1.get (by omega) x0)
  have c0 : V.hc h2 ⟨h.size + 1, 0, none⟩ = some (.int .i64 (a : Nat)) := by rw [hc_last x2]; rfl
  simp (config := {maxSteps := 2000000, implicitDefEqProofs := false}) only [go_sem, ↓reduceIte, Nat.reduceEqDiff, Nat.reduceAdd, Nat.reduceMul, Nat.reduceLeDiff, Nat.reduceLT, Nat.reduceSub, IntWalk.iteOmega, IntWalk.toNatUp, reduceCtorEq, false_and, and_false, false_or, or_false, true_or, or_true, not_true_eq_false, not_false_eq_true, Bool.not_true, Bool.not_false, Bool.and_true, Bool.true_and, Bool.and_false, Bool.false_and, Bool.not_eq_true, beq_self_eq_true, Nat.add_zero, Int.reduceLE, Int.reduceLT, Int.reduceToNat, Int.reduceNeg, c0]
  refine (headOf_ok T h2 a ha).use ?_
  rintro w3 h3 ⟨q3, b3⟩
  simp (config := {maxSteps := 2000000, implicitDefEqProofs := false}) only [go_sem, ↓reduceIte, Nat.reduceEqDiff, Nat.reduceAdd, Nat.reduceMul, Nat.reduceLeDiff, Nat.reduceLT, Nat.reduceSub, IntWalk.iteOmega, IntWalk.toNatUp, reduceCtorEq, false_and, and_false, false_or, or_false, true_or, or_true, not_true_eq_false, not_false_eq_true, Bool.not_true, Bool.not_false, Bool.and_true, Bool.true_and, Bool.and_false, Bool.false_and, Bool.not_eq_true, beq_self_eq_true, Nat.add_zero, Int.reduceLE, Int.reduceLT, Int.reduceToNat, Int.reduceNeg]
  have hla : (high4 a).length = 4 := rfl
  have hlb : (high4 b).length = 4 := rfl
  refine (joined_ok T h3 _ _ M _ (o2.bs.bel b3) q3 (by omega)).use ?_
  rintro w4 h4 ⟨o4, b4⟩
  have z3 := b3.size
  have z4 := b4.size
  have x4 := b4.get (by omega) (b3.get (by omega) x2)
  have c1 : V.hc h4 ⟨h.size + 1, 1, none⟩ = some (.int .i64 (b : Nat)) := by rw [hc_last x4]; rfl
  have B4 := B2.trans ((b3.mono (by omega)).trans (b4.mono (by omega)))
  simp (config := {maxSteps := 2000000, implicitDefEqProofs := false}) only [go_sem, ↓reduceIte, Nat.reduceEqDiff, Nat.reduceAdd, Nat.reduceMul, Nat.reduceLeDiff, Nat.reduceLT, Nat.reduceSub, IntWalk.iteOmega, IntWalk.toNatUp, reduceCtorEq, false_and, and_false, false_or, or_false, true_or, or_true, not_true_eq_false, not_false_eq_true, Bool.not_true, Bool.not_false, Bool.and_true, Bool.true_and, Bool.and_false, Bool.false_and, Bool.not_eq_true, beq_self_eq_true, Nat.add_zero, Int.reduceLE, Int.reduceLT, Int.reduceToNat, Int.reduceNeg, c1]
  refine (headOf_ok T h4 b hb).use ?_
  rintro w5 h5 ⟨q5, b5⟩
  simp (config := {maxSteps := 2000000, implicitDefEqProofs := false}) only [go_sem, ↓reduceIte, Nat.reduceEqDiff, Nat.reduceAdd, Nat.reduceMul, Nat.reduceLeDiff, Nat.reduceLT, Nat.reduceSub, IntWalk.iteOmega, IntWalk.toNatUp, reduceCtorEq, false_and, and_false, false_or, or_false, true_or, or_true, not_true_eq_false, not_false_eq_true, Bool.not_true, Bool.not_false, Bool.and_true, Bool.true_and, Bool.and_false, Bool.false_and, Bool.not_eq_true, beq_self_eq_true, Nat.add_zero, Int.reduceLE, Int.reduceLT, Int.reduceToNat, Int.reduceNeg]
  have lma : (M ++ high4 a).length = 56 := by rw [List.length_append]; omega
  refine (joined_ok T h5 _ _ _ _ (o4.bs.bel b5) q5 (by omega)).use ?_
  rintro w6 h6 ⟨o6, b6⟩
  have z5 := b5.size
  have z6 := b6.size
  have B6 := B4.trans ((b5.mono (by omega)).trans (b6.mono (by omega)))
  have l5 : (M ++ high4 a ++ high4 b).length = 60 := by rw [List.length_append]; omega
  simp (config := {maxSteps := 2000000, implicitDefEqProofs := false}) only [go_sem, ↓reduceIte, Nat.reduceEqDiff, Nat.reduceAdd, Nat.reduceMul, Nat.reduceLeDiff, Nat.reduceLT, Nat.reduceSub, IntWalk.iteOmega, IntWalk.toNatUp, reduceCtorEq, false_and, and_false, false_or, or_false, true_or, or_true, not_true_eq_false, not_false_eq_true, Bool.not_true, Bool.not_false, Bool.and_true, Bool.true_and, Bool.and_false, Bool.false_and, Bool.not_eq_true, beq_self_eq_true, Nat.add_zero, Int.reduceLE, Int.reduceLT, Int.reduceToNat, Int.reduceNeg]
  refine (digested_ok T h6 w6 _ o6.bs (by omega)).use ?_
  rintro w7 h7 ⟨o7, b7⟩
  simp (config := {maxSteps := 2000000, implicitDefEqProofs := false}) only [go_sem, ↓reduceIte, Nat.reduceEqDiff, Nat.reduceAdd, Nat.reduceMul, Nat.reduceLeDiff, Nat.reduceLT, Nat.reduceSub, IntWalk.iteOmega, IntWalk.toNatUp, reduceCtorEq, false_and, and_false, false_or, or_false, true_or, or_true, not_true_eq_false, not_false_eq_true, Bool.not_true, Bool.not_false, Bool.and_true, Bool.true_and, Bool.and_false, Bool.false_and, Bool.not_eq_true, beq_self_eq_true, Nat.add_zero, Int.reduceLE, Int.reduceLT, Int.reduceToNat, Int.reduceNeg]
  exact ⟨o7.mono B6.size, B6.trans (b7.mono B6.size)⟩
theorem noughts_ok (T : World) (h : Hp) : CallsH Tryd.prog T 85 #[] h fun v' h' => OBs h.size 5 h' v' (List.replicate 32 0) ∧ Bel h.size h h' := by
  refine CallsH.of_code' (args := []) Tryd.func85 rfl rfl rfl rfl ?_
  simp (config := {maxSteps := 2000000, implicitDefEqProofs := false}) only [go_sem, ↓reduceIte, Nat.reduceEqDiff, Nat.reduceAdd, Nat.reduceMul, Nat.reduceLeDiff, Nat.reduceLT, Nat.reduceSub, IntWalk.iteOmega, IntWalk.toNatUp, reduceCtorEq, false_and, and_false, false_or, or_false, true_or, or_true, not_true_eq_false, not_false_eq_true, Bool.not_true, Bool.not_false, Bool.and_true, Bool.true_and, Bool.and_false, Bool.false_and, Bool.not_eq_true, beq_self_eq_true, Nat.add_zero, Int.reduceLE, Int.reduceLT, Int.reduceToNat, Int.reduceNeg]
  refine VS.loop' (fun F g => Bel h.size h g ∧ ∃ i : Nat, i ≤ 32 ∧ F 2 = .int .i64 i ∧ OBs h.size 5 g (F 1) (List.replicate i 0))
    (fun F _ => 32 - (vi (F 2)).toNat) rfl ⟨Bel.refl _ _, 0, by omega, rfl, OBs.nil _ _ _⟩ ?_
  rintro F g ⟨hg, i, hi, f2, ho⟩
  have hgs := hg.size
  by_cases hlt : i < 32
  · have hlt' : (i : Int) < 32 := by omega
    simp (config := {maxSteps := 2000000, implicitDefEqProofs := false}) only [go_sem, ↓reduceIte, Nat.reduceEqDiff, Nat.reduceAdd, Nat.reduceMul, Nat.reduceLeDiff, Nat.reduceLT, Nat.reduceSub, IntWalk.iteOmega, IntWalk.toNatUp, reduceCtorEq, false_and, and_false, false_or, or_false, true_or, or_true, not_true_eq_false, not_false_eq_true, Bool.not_true, Bool.not_false, Bool.and_true, Bool.true_and, Bool.and_false, Bool.false_and, Bool.not_eq_true, beq_self_eq_true, Nat.add_zero, Int.reduceLE, Int.reduceLT, Int.reduceToNat, Int.reduceNeg, f2, hlt']
    refine append_bytes (E := 5) (B := h.size) tsl29 Tryd.underlying29 tn5 tz5 tb5 (ho.push _) (by simp; omega) (Bs.made (l := [0]) (by decide) 1) (by rw [List.length_replicate]; simp; omega) ?_
    intro w' g' ho' hb' _
    simp (config := {maxSteps := 2000000, implicitDefEqProofs := false}) only [go_sem, ↓reduceIte, Nat.reduceEqDiff, Nat.reduceAdd, Nat.reduceMul, Nat.reduceLeDiff, Nat.reduceLT, Nat.reduceSub, IntWalk.iteOmega, IntWalk.toNatUp, reduceCtorEq, false_and, and_false, false_or, or_false, true_or, or_true, not_true_eq_false, not_false_eq_true, Bool.not_true, Bool.not_false, Bool.and_true, Bool.true_and, Bool.and_false, Bool.false_and, Bool.not_eq_true, beq_self_eq_true, Nat.add_zero, Int.reduceLE, Int.reduceLT, Int.reduceToNat, Int.reduceNeg, f2]
    refine ⟨⟨(hg.addP hg.size _).trans hb', i + 1, hlt, rfl, ?_⟩, ?_⟩
    · rw [show List.replicate (i + 1) 0 = List.replicate i 0 ++ [0] from List.replicate_succ']
      exact ho'
    · simp only [vi, updo_some, ↓reduceIte, f2]; omega
  · have hge : ¬ (i : Int) < 32 := by omega
    obtain rfl : i = 32 := by omega
    simp (config := {maxSteps := 2000000, implicitDefEqProofs := false}) only [go_sem, ↓reduceIte, Nat.reduceEqDiff, Nat.reduceAdd, Nat.reduceMul, Nat.reduceLeDiff, Nat.reduceLT, Nat.reduceSub, IntWalk.iteOmega, IntWalk.toNatUp, reduceCtorEq, false_and, and_false, false_or, or_false, true_or, or_true, not_true_eq_false, not_false_eq_true, Bool.not_true, Bool.not_false, Bool.and_true, Bool.true_and, Bool.and_false, Bool.false_and, Bool.not_eq_true, beq_self_eq_true, Nat.add_zero, Int.reduceLE, Int.reduceLT, Int.reduceToNat, Int.reduceNeg, f2, hge]
    exact ⟨ho, hg⟩
end Go.Proofs.YtnpacofabdgcdaaDoor
