/- Records of commands: what moot.Pack and the document's way compute; no condition but those in the statements. -/
import Derived.Test.YtnpacofabdgcdaaDoorSndr
import Derived.Test.YtnpacofabdgcdaaDoorGrt
import Derived.Test.YtnpacofabdgcdaaDoorKey
import Derived.Test.YtnpacofabdgcdaaDoorEnc
import Derived.Test.YtnpacofabdgcdaaDoorW21
import Derived.Test.YtnpacofabdgcdaaDoorCards
import Derived.Test.YtnpacofabdgcdaaDoorTie
namespace Go.Proofs.YtnpacofabdgcdaaDoor
open Go Go.V
set_option linter.unusedSimpArgs false
set_option linter.unusedVariables false
set_option maxRecDepth 100000
theorem bs_but {x : Option Nat} {h h' : Hp} {v : Value} {l : List Nat} (s : Bs h v l) (hc : Cap v) (a : But x h h') (hx : ∀ b, blkOf v = some b → x ≠ some b) : Bs h' v l := by
  obtain ⟨⟨p, cap, rfl, hl, hcs⟩, hb⟩ := s
  refine ⟨⟨p, cap, rfl, hl, fun hne => ?_⟩, hb⟩
  obtain ⟨b, o, rfl, hcell⟩ := hcs hne
  refine ⟨b, o, rfl, fun i hi => ?_⟩
  have h1 := hcell i hi
  have hc' : l.length ≤ cap := hc
  have hpos : 0 < l.length := by
    cases l with
    | nil => exact (hne rfl).elim
    | cons x l => simp
  have hsame : h'[b]? = h[b]? := a.block b (lt_of_hc h1) (hx b (by simp only [blkOf]; rw [if_neg (by omega)]))
  unfold V.hc at h1 ⊢
  rw [hsame]; exact h1
def pakErr (n c r u k cl s nm v : Int) : Int := if ¬ (0 ≤ n ∧ n ≤ 1073741823) then 2 else if grtErr 32 c r u ≠ 0 then grtErr 32 c r u else cmdErr k cl s nm v
def pakP (c r u k cl s nm v : Int) : List Nat := grtS issS c.toNat r.toNat u.toNat ++ cmdBytes [k.toNat, cl.toNat, s.toNat, nm.toNat, v.toNat]
def pakS (n c r u k cl s nm v : Int) : List Nat := cl.toNat :: recS (cliS cl.toNat) n.toNat (pakP c r u k cl s nm v)
def PakRes (h' : Hp) (v' : Value) (n c r u k cl s nm v : Int) : Prop := ∃ w, v' = .tuple [w, .int .i64 (pakErr n c r u k cl s nm v)].toArray ∧ Bs h' w (if pakErr n c r u k cl s nm v = 0 then pakS n c r u k cl s nm v else [])
theorem sendErr_pak {n : Int} (h0 : 0 ≤ n) (h1 : n ≤ 1073741823) {m : Nat} (hm : m ≤ 2000) : sendErr 32 n 0 noSeen m = 0 := by
  have e : chanErr 32 n 0 noSeen = 0 := by
    unfold chanErr
    rw [show early 0 noSeen 8 = false from rfl]
    simp; omega
  unfold sendErr
  rw [e, if_neg (by simp), if_neg (by omega), if_neg (by omega)]
theorem cmdErr_client {k c s n v : Int} (h : cmdErr k c s n v = 0) : 0 ≤ c ∧ c ≤ 7 := by
  unfold cmdErr at h
  repeat' split at h
  all_goals omega
theorem rec_le (kl : List Nat) (n : Nat) (plain : List Nat) : (recS kl n plain).length ≤ plain.length + 20 := by
  unfold recS sealS
  have l1 := mixB_length kl 1 (nonceS (head4 n)) plain
  have l2 : (sealTagS kl (nonceS (head4 n)) (head4 n) (mixB kl 1 (nonceS (head4 n)) plain)).length ≤ 16 := tagL_le _ _
  rw [List.length_append, List.length_append, l1]
  have l3 : (head4 n).length = 4 := rfl
  omega
theorem pak_ok (T : World) (h : Hp) (n c r u k cl s nm v : Int) (tk : Tk h) :
    CallsH Tryd.prog T 61 #[.int .i64 n, .agg (tokC c r u).toArray, .agg (cmdC k cl s nm v).toArray] h fun v' h' => PakRes h' v' n c r u k cl s nm v ∧ Bel h.size h h' := by
  refine CallsH.of_code' (args := [_, _, _]) Tryd.func61 rfl rfl rfl rfl ?_
  unfold PakRes tokC cmdC
  by_cases q : 0 ≤ n ∧ n ≤ 1073741823
  case neg =>
    have ee : pakErr n c r u k cl s nm v = 2 := by unfold pakErr; rw [if_pos q]
    rw [ee]
    by_cases q0 : n < 0
    · simp (config := {maxSteps := 2000000, implicitDefEqProofs := false}) only [go_sem, ↓reduceIte, Nat.reduceEqDiff, Nat.reduceAdd, Nat.reduceMul, Nat.reduceLeDiff, Nat.reduceLT, Nat.reduceSub, IntWalk.iteOmega, IntWalk.toNatUp, reduceCtorEq, false_and, and_false, false_or, or_false, true_or, or_true, not_true_eq_false, not_false_eq_true, Bool.not_true, Bool.not_false, Bool.and_true, Bool.true_and, Bool.and_false, Bool.false_and, Bool.not_eq_true, beq_self_eq_true, Nat.add_zero, Int.reduceLE, Int.reduceLT, Int.reduceToNat, Int.reduceNeg, q0]
      exact ⟨_, rfl, (OBs.nil 0 5 _).bs⟩
    · have q1 : 1073741824 ≤ n := by omega
      simp (config := {maxSteps := 2000000, implicitDefEqProofs := false}) only [go_sem, ↓reduceIte, Nat.reduceEqDiff, Nat.reduceAdd, Nat.reduceMul, Nat.reduceLeDiff, Nat.reduceLT, Nat.reduceSub, IntWalk.iteOmega, IntWalk.toNatUp, reduceCtorEq, false_and, and_false, false_or, or_false, true_or, or_true, not_true_eq_false, not_false_eq_true, Bool.not_true, Bool.not_false, Bool.and_true, Bool.true_and, Bool.and_false, Bool.false_and, Bool.not_eq_true, beq_self_eq_true, Nat.add_zero, Int.reduceLE, Int.reduceLT, Int.reduceToNat, Int.reduceNeg, q0, q1]
      exact ⟨_, rfl, (OBs.nil 0 5 _).bs⟩
  obtain ⟨q0, q1⟩ := q
  have qn0 : ¬ n < 0 := by omega
  have qn1 : ¬ (1073741824 : Int) ≤ n := by omega
  obtain ⟨h0, hh0⟩ : ∃ h0 : Hp, h0 = (h.push (.cells [.int .i64 c, .int .i64 r, .int .i64 u].toArray 23)).push (.cells [.int .i64 k, .int .i64 cl, .int .i64 s, .int .i64 nm, .int .i64 v].toArray 25) := ⟨_, rfl⟩
  have b0 : Bel h.size h h0 := by rw [hh0]; exact ((Bel.refl _ _).add _).add _
  have s0 : h0.size = h.size + 2 := by rw [hh0]; simp
  have t0 : h0[h.size]? = some (.cells [.int .i64 c, .int .i64 r, .int .i64 u].toArray 23) := by
    rw [hh0, Array.getElem?_push, if_neg (by simp), get_push_last]
  have c0 : h0[h.size + 1]? = some (.cells [.int .i64 k, .int .i64 cl, .int .i64 s, .int .i64 nm, .int .i64 v].toArray 25) := by
    rw [hh0, Array.getElem?_push, if_pos (by simp)]
  have e0 : (h.push (.cells #[Value.int .i64 c, .int .i64 r, .int .i64 u] 23)).push (.cells #[Value.int .i64 k, .int .i64 cl, .int .i64 s, .int .i64 nm, .int .i64 v] 25) = h0 := hh0.symm
  have e0' : (h.push (.cells [Value.int .i64 c, .int .i64 r, .int .i64 u].toArray 23)).push (.cells [Value.int .i64 k, .int .i64 cl, .int .i64 s, .int .i64 nm, .int .i64 v].toArray 25) = h0 := hh0.symm
  simp (config := {maxSteps := 2000000, implicitDefEqProofs := false}) only [go_sem, ↓reduceIte, Nat.reduceEqDiff, Nat.reduceAdd, Nat.reduceMul, Nat.reduceLeDiff, Nat.reduceLT, Nat.reduceSub, IntWalk.iteOmega, IntWalk.toNatUp, reduceCtorEq, false_and, and_false, false_or, or_false, true_or, or_true, not_true_eq_false, not_false_eq_true, Bool.not_true, Bool.not_false, Bool.and_true, Bool.true_and, Bool.and_false, Bool.false_and, Bool.not_eq_true, beq_self_eq_true, Nat.add_zero, Int.reduceLE, Int.reduceLT, Int.reduceToNat, Int.reduceNeg, qn0, qn1]
  first | rw [e0] | rw [e0']
  clear e0 e0' hh0
  have r0 : rd h0 ⟨h.size, 0, none⟩ 3 = some [.int .i64 c, .int .i64 r, .int .i64 u] := rd_last t0 rfl
  have k0 : h.size < h0.size := by omega
  refine VS.w (h0.size) [] (.q 1 (.s 0 (.s 2 (.q 3 (.q 4 (.q 5 (.q 6 (.q 7 .nil)))))))) mixed (by kernel_rfl) ?_
  simp (config := {maxSteps := 2000000, implicitDefEqProofs := false}) only [go_sem, ↓reduceIte, Nat.reduceEqDiff, Nat.reduceAdd, Nat.reduceMul, Nat.reduceLeDiff, Nat.reduceLT, Nat.reduceSub, IntWalk.iteOmega, IntWalk.toNatUp, reduceCtorEq, false_and, and_false, false_or, or_false, true_or, or_true, not_true_eq_false, not_false_eq_true, Bool.not_true, Bool.not_false, Bool.and_true, Bool.true_and, Bool.and_false, Bool.false_and, Bool.not_eq_true, beq_self_eq_true, Nat.add_zero, Int.reduceLE, Int.reduceLT, Int.reduceToNat, Int.reduceNeg, r0, k0]
  refine (issuer_ok T h0 (tk.bels b0)).use ?_
  rintro wi h1 ⟨⟨ci, si⟩, b1⟩
  have B1 := b0.trans (b1.mono b0.size)
  have s1 := b1.size
  simp (config := {maxSteps := 2000000, implicitDefEqProofs := false}) only [go_sem, ↓reduceIte, Nat.reduceEqDiff, Nat.reduceAdd, Nat.reduceMul, Nat.reduceLeDiff, Nat.reduceLT, Nat.reduceSub, IntWalk.iteOmega, IntWalk.toNatUp, reduceCtorEq, false_and, and_false, false_or, or_false, true_or, or_true, not_true_eq_false, not_false_eq_true, Bool.not_true, Bool.not_false, Bool.and_true, Bool.true_and, Bool.and_false, Bool.false_and, Bool.not_eq_true, beq_self_eq_true, Nat.add_zero, Int.reduceLE, Int.reduceLT, Int.reduceToNat, Int.reduceNeg, b1]
  have ht : CallsH Tryd.prog T 35 #[wi, .agg #[.int .i64 c, .int .i64 r, .int .i64 u]] h1 fun v' h' => GrtRes h1.size h' v' issS c r u ∧ Bel h1.size h1 h' := grant_ok T h1 wi issS c r u si (tk.bels B1)
  refine ht.use ?_
  rintro _ h2 ⟨⟨w2, rfl, o2⟩, b2⟩
  have B2 := B1.trans (b2.mono B1.size)
  have s2 := b2.size
  have b02 : Bel h0.size h0 h2 := b1.trans (b2.mono s1)
  rw [issS_length] at o2
  rw [issS_length]
  by_cases g : grtErr 32 c r u = 0
  case neg =>
    have ee : pakErr n c r u k cl s nm v = grtErr 32 c r u := by unfold pakErr; rw [if_neg (fun hn => hn ⟨q0, q1⟩), if_pos g]
    rw [ee, if_neg g]
    obtain ⟨E, hE⟩ : ∃ E, E = grtErr 32 c r u := ⟨_, rfl⟩
    rw [← hE] at g ⊢
    simp (config := {maxSteps := 2000000, implicitDefEqProofs := false}) only [go_sem, ↓reduceIte, Nat.reduceEqDiff, Nat.reduceAdd, Nat.reduceMul, Nat.reduceLeDiff, Nat.reduceLT, Nat.reduceSub, IntWalk.iteOmega, IntWalk.toNatUp, reduceCtorEq, false_and, and_false, false_or, or_false, true_or, or_true, not_true_eq_false, not_false_eq_true, Bool.not_true, Bool.not_false, Bool.and_true, Bool.true_and, Bool.and_false, Bool.false_and, Bool.not_eq_true, beq_self_eq_true, Nat.add_zero, Int.reduceLE, Int.reduceLT, Int.reduceToNat, Int.reduceNeg, b02, g]
    exact ⟨⟨_, rfl, (OBs.nil 0 5 _).bs⟩, B2⟩
  rw [g, if_pos rfl] at o2
  rw [g]
  have ee : pakErr n c r u k cl s nm v = cmdErr k cl s nm v := by unfold pakErr; rw [if_neg (fun hn => hn ⟨q0, q1⟩), if_neg (fun hn => hn g)]
  rw [ee]
  have c2 := b02.get (by omega) c0
  have r2 : rd h2 ⟨h.size + 1, 0, none⟩ 5 = some [.int .i64 k, .int .i64 cl, .int .i64 s, .int .i64 nm, .int .i64 v] := rd_last c2 rfl
  simp (config := {maxSteps := 2000000, implicitDefEqProofs := false}) only [go_sem, ↓reduceIte, Nat.reduceEqDiff, Nat.reduceAdd, Nat.reduceMul, Nat.reduceLeDiff, Nat.reduceLT, Nat.reduceSub, IntWalk.iteOmega, IntWalk.toNatUp, reduceCtorEq, false_and, and_false, false_or, or_false, true_or, or_true, not_true_eq_false, not_false_eq_true, Bool.not_true, Bool.not_false, Bool.and_true, Bool.true_and, Bool.and_false, Bool.false_and, Bool.not_eq_true, beq_self_eq_true, Nat.add_zero, Int.reduceLE, Int.reduceLT, Int.reduceToNat, Int.reduceNeg, b02, r2]
  have he : CallsH Tryd.prog T 103 #[.agg #[.int .i64 k, .int .i64 cl, .int .i64 s, .int .i64 nm, .int .i64 v]] h2 fun v' h' => EncRes h' v' k cl s nm v ∧ Bel h2.size h2 h' := encode_ok T h2 k cl s nm v
  refine he.use ?_
  rintro _ h3 ⟨⟨w3, rfl, o3⟩, b3⟩
  have B3 := B2.trans (b3.mono B2.size)
  have s3 := b3.size
  by_cases e : cmdErr k cl s nm v = 0
  case neg =>
    rw [if_neg e]
    obtain ⟨E, hE⟩ : ∃ E, E = cmdErr k cl s nm v := ⟨_, rfl⟩
    rw [← hE] at e ⊢
    simp (config := {maxSteps := 2000000, implicitDefEqProofs := false}) only [go_sem, ↓reduceIte, Nat.reduceEqDiff, Nat.reduceAdd, Nat.reduceMul, Nat.reduceLeDiff, Nat.reduceLT, Nat.reduceSub, IntWalk.iteOmega, IntWalk.toNatUp, reduceCtorEq, false_and, and_false, false_or, or_false, true_or, or_true, not_true_eq_false, not_false_eq_true, Bool.not_true, Bool.not_false, Bool.and_true, Bool.true_and, Bool.and_false, Bool.false_and, Bool.not_eq_true, beq_self_eq_true, Nat.add_zero, Int.reduceLE, Int.reduceLT, Int.reduceToNat, Int.reduceNeg, e]
    exact ⟨⟨_, rfl, (OBs.nil 0 5 _).bs⟩, B3⟩
  rw [e, if_pos rfl] at o3
  rw [e]
  obtain ⟨cl0, cl7⟩ := cmdErr_client e
  have ke : keyErr cl = 0 := by unfold keyErr; rw [if_neg (by omega)]
  have c3 := b3.get (by omega) c2
  have rc3 : V.hc h3 ⟨h.size + 1, 1, none⟩ = some (.int .i64 cl) := by rw [hc_last c3]; rfl
  simp (config := {maxSteps := 2000000, implicitDefEqProofs := false}) only [go_sem, ↓reduceIte, Nat.reduceEqDiff, Nat.reduceAdd, Nat.reduceMul, Nat.reduceLeDiff, Nat.reduceLT, Nat.reduceSub, IntWalk.iteOmega, IntWalk.toNatUp, reduceCtorEq, false_and, and_false, false_or, or_false, true_or, or_true, not_true_eq_false, not_false_eq_true, Bool.not_true, Bool.not_false, Bool.and_true, Bool.true_and, Bool.and_false, Bool.false_and, Bool.not_eq_true, beq_self_eq_true, Nat.add_zero, Int.reduceLE, Int.reduceLT, Int.reduceToNat, Int.reduceNeg, rc3]
  refine (mootKey_ok T h3 cl (tk.bels B3)).use ?_
  rintro _ h4 ⟨⟨w4, rfl, k4, o4, f4⟩, b4⟩
  rw [ke, if_pos rfl] at o4
  rw [ke]
  obtain ⟨p4, c4, rfl, hc4⟩ := o4.open
  have B4 := B3.trans (b4.mono B3.size)
  have s4 := b4.size
  have o24 := (o2.bel b3 (Nat.le_refl _)).bel b4 (Nat.le_refl _)
  have o34 := o3.bel b4
  have l2 : (grtS issS c.toNat r.toNat u.toNat).length = 22 := grtS_length _ _ _ _
  have l3 : (cmdBytes [k.toNat, cl.toNat, s.toNat, nm.toNat, v.toNat]).length = 20 := by rw [cmdBytes_length]; rfl
  have ep : pakP c r u k cl s nm v = grtS issS c.toNat r.toNat u.toNat ++ cmdBytes [k.toNat, cl.toNat, s.toNat, nm.toNat, v.toNat] := rfl
  have o2lt := o2.own.lt
  generalize grtS issS c.toNat r.toNat u.toNat = PR at *
  generalize cmdBytes [k.toNat, cl.toNat, s.toNat, nm.toNat, v.toNat] = CB at *
  simp (config := {maxSteps := 2000000, implicitDefEqProofs := false}) only [go_sem, ↓reduceIte, Nat.reduceEqDiff, Nat.reduceAdd, Nat.reduceMul, Nat.reduceLeDiff, Nat.reduceLT, Nat.reduceSub, IntWalk.iteOmega, IntWalk.toNatUp, reduceCtorEq, false_and, and_false, false_or, or_false, true_or, or_true, not_true_eq_false, not_false_eq_true, Bool.not_true, Bool.not_false, Bool.and_true, Bool.true_and, Bool.and_false, Bool.false_and, Bool.not_eq_true, beq_self_eq_true, Nat.add_zero, Int.reduceLE, Int.reduceLT, Int.reduceToNat, Int.reduceNeg]
  refine append_bytes2 (E := 5) (B := h1.size) tsl29 Tryd.underlying29 tn5 tz5 tb5 o24 (by omega) o34 (by omega) ?_
  intro w5 h5 o5 b5 bt5 _
  have s5 := b5.size
  have B5 : Bel h.size h h5 := B4.trans (b5.mono (by omega))
  have o4' : Bs h5 (.slice p4 (cliS cl.toNat).length c4) (cliS cl.toNat) := bs_but o4 k4 bt5 (fun b hb e => by
    have q1 := f4 b hb
    have q2 := o2lt b e
    omega)
  have lk := cliS_length cl.toNat
  have eS : pakS n c r u k cl s nm v = cl.toNat :: recS (cliS cl.toNat) n.toNat (PR ++ CB) := by unfold pakS; rw [ep]
  have se : sendErr (cliS cl.toNat).length n 0 noSeen (PR ++ CB).length = 0 := by rw [lk]; exact sendErr_pak q0 q1 (by rw [List.length_append]; omega)
  simp (config := {maxSteps := 2000000, implicitDefEqProofs := false}) only [go_sem, ↓reduceIte, Nat.reduceEqDiff, Nat.reduceAdd, Nat.reduceMul, Nat.reduceLeDiff, Nat.reduceLT, Nat.reduceSub, IntWalk.iteOmega, IntWalk.toNatUp, reduceCtorEq, false_and, and_false, false_or, or_false, true_or, or_true, not_true_eq_false, not_false_eq_true, Bool.not_true, Bool.not_false, Bool.and_true, Bool.true_and, Bool.and_false, Bool.false_and, Bool.not_eq_true, beq_self_eq_true, Nat.add_zero, Int.reduceLE, Int.reduceLT, Int.reduceToNat, Int.reduceNeg]
  have hsnd : CallsH Tryd.prog T 109 #[.agg #[.slice p4 (cliS cl.toNat).length c4, .int .i64 n, .int .i64 0, .bool false, .bool false, .bool false, .bool false, .bool false, .bool false, .bool false, .bool false], w5] h5 fun v' h' => SendRes h5.size h' v' (cliS cl.toNat) n 0 noSeen (PR ++ CB) ∧ Bel h5.size h5 h' := lineSend_ok T h5 _ w5 (cliS cl.toNat) (PR ++ CB) n 0 noSeen rfl o4' o5.bs k4
  refine hsnd.use ?_
  rintro _ h6 ⟨⟨cw, w6, rfl, ⟨w7, rfl, o7⟩, o6⟩, b6⟩
  rw [se, if_pos rfl] at o6
  rw [se, if_pos rfl] at o7
  rw [se]
  have s6 := b6.size
  have B6 : Bel h.size h h6 := B5.trans (b6.mono (by omega))
  have c6 := b6.get (by omega) ((b5.mono (B' := h0.size) (by omega)).get (by omega) (b4.get (by omega) c3))
  have rc6 : V.hc h6 ⟨h.size + 1, 1, none⟩ = some (.int .i64 cl) := by rw [hc_last c6]; rfl
  obtain ⟨p7, c7, rfl, _⟩ := o7.open
  obtain ⟨x, rfl⟩ : ∃ x : Nat, cl = x := ⟨cl.toNat, by omega⟩
  have ec : (x : Int) % 256 = (x : Int) := by omega
  have hne6 : ¬ h.size + 1 = h6.size := by omega
  have eN : noSeen.map Value.bool = [.bool false, .bool false, .bool false, .bool false, .bool false, .bool false, .bool false, .bool false] := rfl
  have ez : ((0 : Int) = 0) = True := eq_self 0
  simp only [ez, if_true]
  unfold chanC
  rw [eN]
  rw [Int.toNat_natCast] at eS o6
  have hx1 : ∀ y ∈ [x], y < 256 := by intro y hy; rw [List.mem_singleton.1 hy]; omega
  rw [show ((x : Nat) : Int).toNat = x from Int.toNat_natCast x] at *
  simp (config := {maxSteps := 2000000, implicitDefEqProofs := false}) only [go_sem, ↓reduceIte, Nat.reduceEqDiff, Nat.reduceAdd, Nat.reduceMul, Nat.reduceLeDiff, Nat.reduceLT, Nat.reduceSub, IntWalk.iteOmega, IntWalk.toNatUp, reduceCtorEq, false_and, and_false, false_or, or_false, true_or, or_true, not_true_eq_false, not_false_eq_true, Bool.not_true, Bool.not_false, Bool.and_true, Bool.true_and, Bool.and_false, Bool.false_and, Bool.not_eq_true, beq_self_eq_true, Nat.add_zero, Int.reduceLE, Int.reduceLT, Int.reduceToNat, Int.reduceNeg, rc6, hne6, ec]
  obtain ⟨h7, hh7⟩ : ∃ h7 : Hp, h7 = h6.push (.cells [.slice p7 (cliS x).length c7, .int .i64 (n + 1), .int .i64 0, .bool false, .bool false, .bool false, .bool false, .bool false, .bool false, .bool false, .bool false].toArray 143) := ⟨_, rfl⟩
  have e7 : h6.push (.cells #[Value.slice p7 (cliS x).length c7, .int .i64 (n + 1), .int .i64 0, .bool false, .bool false, .bool false, .bool false, .bool false, .bool false, .bool false, .bool false] 143) = h7 := hh7.symm
  rw [e7]
  have b7 : Bel h6.size h6 h7 := by rw [hh7]; exact Bel.push (Nat.le_refl _) _
  have s7 : h7.size = h6.size + 1 := by rw [hh7]; simp
  have q7 : h6.size + 1 = h7.size := s7.symm
  clear e7 hh7
  have B7 := B6.trans (b7.mono (by omega))
  have o1 : OBs h7.size 5 (h7.push (.cells (([x] : List Nat).map bv).toArray 5)) (.slice (some ⟨h7.size, 0, none⟩) 1 1) [x] := OBs.made hx1 (Nat.le_refl _)
  have bp : Bel h7.size h7 (h7.push (.cells (([x] : List Nat).map bv).toArray 5)) := Bel.push (Nat.le_refl _) _
  have lr : (recS (cliS x) n.toNat (PR ++ CB)).length ≤ 1000000 := Nat.le_trans (rec_le _ _ _) (by rw [List.length_append]; omega)
  try rw [q7]
  refine append_bytes (E := 5) (B := h7.size) tsl29 Tryd.underlying29 tn5 tz5 tb5 o1 (by simp) ((o6.bs.bel b7).bel bp) (by simp; omega) ?_
  intro w8 h8 o8 b8 _
  simp (config := {maxSteps := 2000000, implicitDefEqProofs := false}) only [go_sem, ↓reduceIte, Nat.reduceEqDiff, Nat.reduceAdd, Nat.reduceMul, Nat.reduceLeDiff, Nat.reduceLT, Nat.reduceSub, IntWalk.iteOmega, IntWalk.toNatUp, reduceCtorEq, false_and, and_false, false_or, or_false, true_or, or_true, not_true_eq_false, not_false_eq_true, Bool.not_true, Bool.not_false, Bool.and_true, Bool.true_and, Bool.and_false, Bool.false_and, Bool.not_eq_true, beq_self_eq_true, Nat.add_zero, Int.reduceLE, Int.reduceLT, Int.reduceToNat, Int.reduceNeg]
  rw [eS]
  exact ⟨⟨_, rfl, o8.bs⟩, B7.trans (((bp.trans b8)).mono (by omega))⟩
theorem packed_ok (T : World) (h : Hp) (n c r u k cl s nm v : Int) :
    CallsH Tryd.prog T 62 #[.int .i64 n, .agg (tokC c r u).toArray, .agg (cmdC k cl s nm v).toArray] h fun v' h' => PakRes h' v' n c r u k cl s nm v ∧ Bel h.size h h' := by
  refine CallsH.of_code' (args := [_, _, _]) Tryd.func62 rfl rfl rfl rfl ?_
  unfold PakRes tokC cmdC
  by_cases q : 0 ≤ n ∧ n ≤ 1073741823
  case neg =>
    have ee : pakErr n c r u k cl s nm v = 2 := by unfold pakErr; rw [if_pos q]
    rw [ee]
    simp (config := {maxSteps := 2000000, implicitDefEqProofs := false}) only [go_sem, ↓reduceIte, Nat.reduceEqDiff, Nat.reduceAdd, Nat.reduceMul, Nat.reduceLeDiff, Nat.reduceLT, Nat.reduceSub, IntWalk.iteOmega, IntWalk.toNatUp, reduceCtorEq, false_and, and_false, false_or, or_false, true_or, or_true, not_true_eq_false, not_false_eq_true, Bool.not_true, Bool.not_false, Bool.and_true, Bool.true_and, Bool.and_false, Bool.false_and, Bool.not_eq_true, beq_self_eq_true, Nat.add_zero, Int.reduceLE, Int.reduceLT, Int.reduceToNat, Int.reduceNeg]
    refine (in_ok T _ _ _ _).pure ?_
    simp (config := {maxSteps := 2000000, implicitDefEqProofs := false}) only [go_sem, ↓reduceIte, Nat.reduceEqDiff, Nat.reduceAdd, Nat.reduceMul, Nat.reduceLeDiff, Nat.reduceLT, Nat.reduceSub, IntWalk.iteOmega, IntWalk.toNatUp, reduceCtorEq, false_and, and_false, false_or, or_false, true_or, or_true, not_true_eq_false, not_false_eq_true, Bool.not_true, Bool.not_false, Bool.and_true, Bool.true_and, Bool.and_false, Bool.false_and, Bool.not_eq_true, beq_self_eq_true, Nat.add_zero, Int.reduceLE, Int.reduceLT, Int.reduceToNat, Int.reduceNeg, q]
    exact ⟨_, rfl, (OBs.nil 0 5 _).bs⟩
  have qq := q
  obtain ⟨q0, q1⟩ := q
  obtain ⟨h0, hh0⟩ : ∃ h0 : Hp, h0 = (h.push (.cells [.int .i64 c, .int .i64 r, .int .i64 u].toArray 23)).push (.cells [.int .i64 k, .int .i64 cl, .int .i64 s, .int .i64 nm, .int .i64 v].toArray 25) := ⟨_, rfl⟩
  have b0 : Bel h.size h h0 := by rw [hh0]; exact ((Bel.refl _ _).add _).add _
  have s0 : h0.size = h.size + 2 := by rw [hh0]; simp
  have t0 : h0[h.size]? = some (.cells [.int .i64 c, .int .i64 r, .int .i64 u].toArray 23) := by
    rw [hh0, Array.getElem?_push, if_neg (by simp), get_push_last]
  have c0 : h0[h.size + 1]? = some (.cells [.int .i64 k, .int .i64 cl, .int .i64 s, .int .i64 nm, .int .i64 v].toArray 25) := by
    rw [hh0, Array.getElem?_push, if_pos (by simp)]
  have e0 : (h.push (.cells #[Value.int .i64 c, .int .i64 r, .int .i64 u] 23)).push (.cells #[Value.int .i64 k, .int .i64 cl, .int .i64 s, .int .i64 nm, .int .i64 v] 25) = h0 := hh0.symm
  have e0' : (h.push (.cells [Value.int .i64 c, .int .i64 r, .int .i64 u].toArray 23)).push (.cells [Value.int .i64 k, .int .i64 cl, .int .i64 s, .int .i64 nm, .int .i64 v].toArray 25) = h0 := hh0.symm
  simp (config := {maxSteps := 2000000, implicitDefEqProofs := false}) only [go_sem, ↓reduceIte, Nat.reduceEqDiff, Nat.reduceAdd, Nat.reduceMul, Nat.reduceLeDiff, Nat.reduceLT, Nat.reduceSub, IntWalk.iteOmega, IntWalk.toNatUp, reduceCtorEq, false_and, and_false, false_or, or_false, true_or, or_true, not_true_eq_false, not_false_eq_true, Bool.not_true, Bool.not_false, Bool.and_true, Bool.true_and, Bool.and_false, Bool.false_and, Bool.not_eq_true, beq_self_eq_true, Nat.add_zero, Int.reduceLE, Int.reduceLT, Int.reduceToNat, Int.reduceNeg]
  refine (in_ok T _ _ _ _).pure ?_
  simp (config := {maxSteps := 2000000, implicitDefEqProofs := false}) only [go_sem, ↓reduceIte, Nat.reduceEqDiff, Nat.reduceAdd, Nat.reduceMul, Nat.reduceLeDiff, Nat.reduceLT, Nat.reduceSub, IntWalk.iteOmega, IntWalk.toNatUp, reduceCtorEq, false_and, and_false, false_or, or_false, true_or, or_true, not_true_eq_false, not_false_eq_true, Bool.not_true, Bool.not_false, Bool.and_true, Bool.true_and, Bool.and_false, Bool.false_and, Bool.not_eq_true, beq_self_eq_true, Nat.add_zero, Int.reduceLE, Int.reduceLT, Int.reduceToNat, Int.reduceNeg, qq]
  first | rw [e0] | rw [e0']
  clear e0 e0' hh0
  have k0 : h.size < h0.size := by omega
  refine (issuerKey_ok T h0).use ?_
  rintro wi h1 ⟨⟨ci, si⟩, b1⟩
  have B1 := b0.trans (b1.mono b0.size)
  have s1 := b1.size
  have t1 := b1.get (by omega) t0
  have r1 : rd h1 ⟨h.size, 0, none⟩ 3 = some [.int .i64 c, .int .i64 r, .int .i64 u] := rd_last t1 rfl
  simp (config := {maxSteps := 2000000, implicitDefEqProofs := false}) only [go_sem, ↓reduceIte, Nat.reduceEqDiff, Nat.reduceAdd, Nat.reduceMul, Nat.reduceLeDiff, Nat.reduceLT, Nat.reduceSub, IntWalk.iteOmega, IntWalk.toNatUp, reduceCtorEq, false_and, and_false, false_or, or_false, true_or, or_true, not_true_eq_false, not_false_eq_true, Bool.not_true, Bool.not_false, Bool.and_true, Bool.true_and, Bool.and_false, Bool.false_and, Bool.not_eq_true, beq_self_eq_true, Nat.add_zero, Int.reduceLE, Int.reduceLT, Int.reduceToNat, Int.reduceNeg, r1]
  have ht : CallsH Tryd.prog T 36 #[wi, .agg #[.int .i64 c, .int .i64 r, .int .i64 u]] h1 fun v' h' => GrtRes h1.size h' v' issS c r u ∧ Bel h1.size h1 h' := granted_ok T h1 wi issS c r u si
  refine ht.use ?_
  rintro _ h2 ⟨⟨w2, rfl, o2⟩, b2⟩
  have B2 := B1.trans (b2.mono B1.size)
  have s2 := b2.size
  have b02 : Bel h0.size h0 h2 := b1.trans (b2.mono s1)
  rw [issS_length] at o2
  rw [issS_length]
  by_cases g : grtErr 32 c r u = 0
  case neg =>
    have ee : pakErr n c r u k cl s nm v = grtErr 32 c r u := by unfold pakErr; rw [if_neg (fun hn => hn ⟨q0, q1⟩), if_pos g]
    rw [ee, if_neg g]
    obtain ⟨E, hE⟩ : ∃ E, E = grtErr 32 c r u := ⟨_, rfl⟩
    rw [← hE] at g ⊢
    simp (config := {maxSteps := 2000000, implicitDefEqProofs := false}) only [go_sem, ↓reduceIte, Nat.reduceEqDiff, Nat.reduceAdd, Nat.reduceMul, Nat.reduceLeDiff, Nat.reduceLT, Nat.reduceSub, IntWalk.iteOmega, IntWalk.toNatUp, reduceCtorEq, false_and, and_false, false_or, or_false, true_or, or_true, not_true_eq_false, not_false_eq_true, Bool.not_true, Bool.not_false, Bool.and_true, Bool.true_and, Bool.and_false, Bool.false_and, Bool.not_eq_true, beq_self_eq_true, Nat.add_zero, Int.reduceLE, Int.reduceLT, Int.reduceToNat, Int.reduceNeg, b02, g]
    exact ⟨⟨_, rfl, (OBs.nil 0 5 _).bs⟩, B2⟩
  rw [g, if_pos rfl] at o2
  rw [g]
  have ee : pakErr n c r u k cl s nm v = cmdErr k cl s nm v := by unfold pakErr; rw [if_neg (fun hn => hn ⟨q0, q1⟩), if_neg (fun hn => hn g)]
  rw [ee]
  have c2 := b02.get (by omega) c0
  have r2 : rd h2 ⟨h.size + 1, 0, none⟩ 5 = some [.int .i64 k, .int .i64 cl, .int .i64 s, .int .i64 nm, .int .i64 v] := rd_last c2 rfl
  simp (config := {maxSteps := 2000000, implicitDefEqProofs := false}) only [go_sem, ↓reduceIte, Nat.reduceEqDiff, Nat.reduceAdd, Nat.reduceMul, Nat.reduceLeDiff, Nat.reduceLT, Nat.reduceSub, IntWalk.iteOmega, IntWalk.toNatUp, reduceCtorEq, false_and, and_false, false_or, or_false, true_or, or_true, not_true_eq_false, not_false_eq_true, Bool.not_true, Bool.not_false, Bool.and_true, Bool.true_and, Bool.and_false, Bool.false_and, Bool.not_eq_true, beq_self_eq_true, Nat.add_zero, Int.reduceLE, Int.reduceLT, Int.reduceToNat, Int.reduceNeg, b02, r2]
  have he : CallsH Tryd.prog T 110 #[.agg #[.int .i64 k, .int .i64 cl, .int .i64 s, .int .i64 nm, .int .i64 v]] h2 fun v' h' => EncRes h' v' k cl s nm v ∧ Bel h2.size h2 h' := commandBytes_ok T h2 k cl s nm v
  refine he.use ?_
  rintro _ h3 ⟨⟨w3, rfl, o3⟩, b3⟩
  have B3 := B2.trans (b3.mono B2.size)
  have s3 := b3.size
  by_cases e : cmdErr k cl s nm v = 0
  case neg =>
    rw [if_neg e]
    obtain ⟨E, hE⟩ : ∃ E, E = cmdErr k cl s nm v := ⟨_, rfl⟩
    rw [← hE] at e ⊢
    simp (config := {maxSteps := 2000000, implicitDefEqProofs := false}) only [go_sem, ↓reduceIte, Nat.reduceEqDiff, Nat.reduceAdd, Nat.reduceMul, Nat.reduceLeDiff, Nat.reduceLT, Nat.reduceSub, IntWalk.iteOmega, IntWalk.toNatUp, reduceCtorEq, false_and, and_false, false_or, or_false, true_or, or_true, not_true_eq_false, not_false_eq_true, Bool.not_true, Bool.not_false, Bool.and_true, Bool.true_and, Bool.and_false, Bool.false_and, Bool.not_eq_true, beq_self_eq_true, Nat.add_zero, Int.reduceLE, Int.reduceLT, Int.reduceToNat, Int.reduceNeg, e]
    exact ⟨⟨_, rfl, (OBs.nil 0 5 _).bs⟩, B3⟩
  rw [e, if_pos rfl] at o3
  rw [e]
  obtain ⟨cl0, cl7⟩ := cmdErr_client e
  have ke : keyErr cl = 0 := by unfold keyErr; rw [if_neg (by omega)]
  have c3 := b3.get (by omega) c2
  have rc3 : V.hc h3 ⟨h.size + 1, 1, none⟩ = some (.int .i64 cl) := by rw [hc_last c3]; rfl
  simp (config := {maxSteps := 2000000, implicitDefEqProofs := false}) only [go_sem, ↓reduceIte, Nat.reduceEqDiff, Nat.reduceAdd, Nat.reduceMul, Nat.reduceLeDiff, Nat.reduceLT, Nat.reduceSub, IntWalk.iteOmega, IntWalk.toNatUp, reduceCtorEq, false_and, and_false, false_or, or_false, true_or, or_true, not_true_eq_false, not_false_eq_true, Bool.not_true, Bool.not_false, Bool.and_true, Bool.true_and, Bool.and_false, Bool.false_and, Bool.not_eq_true, beq_self_eq_true, Nat.add_zero, Int.reduceLE, Int.reduceLT, Int.reduceToNat, Int.reduceNeg, rc3]
  refine (clientKey_ok T h3 cl).use ?_
  rintro _ h4 ⟨⟨w4, rfl, k4, o4, f4⟩, b4⟩
  rw [ke, if_pos rfl] at o4
  rw [ke]
  obtain ⟨p4, c4, rfl, hc4⟩ := o4.open
  have B4 := B3.trans (b4.mono B3.size)
  have s4 := b4.size
  have o24 := (o2.bel b3 (Nat.le_refl _)).bel b4 (Nat.le_refl _)
  have o34 := o3.bel b4
  have l2 : (grtS issS c.toNat r.toNat u.toNat).length = 22 := grtS_length _ _ _ _
  have l3 : (cmdBytes [k.toNat, cl.toNat, s.toNat, nm.toNat, v.toNat]).length = 20 := by rw [cmdBytes_length]; rfl
  have ep : pakP c r u k cl s nm v = grtS issS c.toNat r.toNat u.toNat ++ cmdBytes [k.toNat, cl.toNat, s.toNat, nm.toNat, v.toNat] := rfl
  have o2lt := o2.own.lt
  generalize grtS issS c.toNat r.toNat u.toNat = PR at *
  generalize cmdBytes [k.toNat, cl.toNat, s.toNat, nm.toNat, v.toNat] = CB at *
  simp (config := {maxSteps := 2000000, implicitDefEqProofs := false}) only [go_sem, ↓reduceIte, Nat.reduceEqDiff, Nat.reduceAdd, Nat.reduceMul, Nat.reduceLeDiff, Nat.reduceLT, Nat.reduceSub, IntWalk.iteOmega, IntWalk.toNatUp, reduceCtorEq, false_and, and_false, false_or, or_false, true_or, or_true, not_true_eq_false, not_false_eq_true, Bool.not_true, Bool.not_false, Bool.and_true, Bool.true_and, Bool.and_false, Bool.false_and, Bool.not_eq_true, beq_self_eq_true, Nat.add_zero, Int.reduceLE, Int.reduceLT, Int.reduceToNat, Int.reduceNeg]
  refine (joined_ok T h4 w2 w3 PR CB o24.bs o34 (by omega)).use ?_
  rintro w5 h5 ⟨o5, b5⟩
  have s5 := b5.size
  have B5 : Bel h.size h h5 := B4.trans (b5.mono (by omega))
  have o4' := o4.bel b5
  have lk := cliS_length cl.toNat
  have eS : pakS n c r u k cl s nm v = cl.toNat :: recS (cliS cl.toNat) n.toNat (PR ++ CB) := by unfold pakS; rw [ep]
  have se : sendErr (cliS cl.toNat).length n 0 noSeen (PR ++ CB).length = 0 := by rw [lk]; exact sendErr_pak q0 q1 (by rw [List.length_append]; omega)
  simp (config := {maxSteps := 2000000, implicitDefEqProofs := false}) only [go_sem, ↓reduceIte, Nat.reduceEqDiff, Nat.reduceAdd, Nat.reduceMul, Nat.reduceLeDiff, Nat.reduceLT, Nat.reduceSub, IntWalk.iteOmega, IntWalk.toNatUp, reduceCtorEq, false_and, and_false, false_or, or_false, true_or, or_true, not_true_eq_false, not_false_eq_true, Bool.not_true, Bool.not_false, Bool.and_true, Bool.true_and, Bool.and_false, Bool.false_and, Bool.not_eq_true, beq_self_eq_true, Nat.add_zero, Int.reduceLE, Int.reduceLT, Int.reduceToNat, Int.reduceNeg]
  have hsnd : CallsH Tryd.prog T 111 #[.agg #[.slice p4 (cliS cl.toNat).length c4, .int .i64 n, .int .i64 0, .bool false, .bool false, .bool false, .bool false, .bool false, .bool false, .bool false, .bool false], w5] h5 fun v' h' => SendRes h5.size h' v' (cliS cl.toNat) n 0 noSeen (PR ++ CB) ∧ Bel h5.size h5 h' := sentOn_ok T h5 _ w5 (cliS cl.toNat) (PR ++ CB) n 0 noSeen rfl o4' o5.bs (by omega) (by omega)
  refine hsnd.use ?_
  rintro _ h6 ⟨⟨cw, w6, rfl, ⟨w7, rfl, o7⟩, o6⟩, b6⟩
  rw [se, if_pos rfl] at o6
  rw [se, if_pos rfl] at o7
  rw [se]
  have s6 := b6.size
  have B6 : Bel h.size h h6 := B5.trans (b6.mono (by omega))
  have c6 := b6.get (by omega) (b5.get (by omega) (b4.get (by omega) c3))
  have rc6 : V.hc h6 ⟨h.size + 1, 1, none⟩ = some (.int .i64 cl) := by rw [hc_last c6]; rfl
  obtain ⟨p7, c7, rfl, _⟩ := o7.open
  obtain ⟨x, rfl⟩ : ∃ x : Nat, cl = x := ⟨cl.toNat, by omega⟩
  have ec : (x : Int) % 256 = (x : Int) := by omega
  have hne6 : ¬ h.size + 1 = h6.size := by omega
  have eN : noSeen.map Value.bool = [.bool false, .bool false, .bool false, .bool false, .bool false, .bool false, .bool false, .bool false] := rfl
  have ez : ((0 : Int) = 0) = True := eq_self 0
  simp only [ez, if_true]
  unfold chanC
  rw [eN]
  rw [Int.toNat_natCast] at eS o6
  have hx1 : ∀ y ∈ [x], y < 256 := by intro y hy; rw [List.mem_singleton.1 hy]; omega
  rw [show ((x : Nat) : Int).toNat = x from Int.toNat_natCast x] at *
  simp (config := {maxSteps := 2000000, implicitDefEqProofs := false}) only [go_sem, ↓reduceIte, Nat.reduceEqDiff, Nat.reduceAdd, Nat.reduceMul, Nat.reduceLeDiff, Nat.reduceLT, Nat.reduceSub, IntWalk.iteOmega, IntWalk.toNatUp, reduceCtorEq, false_and, and_false, false_or, or_false, true_or, or_true, not_true_eq_false, not_false_eq_true, Bool.not_true, Bool.not_false, Bool.and_true, Bool.true_and, Bool.and_false, Bool.false_and, Bool.not_eq_true, beq_self_eq_true, Nat.add_zero, Int.reduceLE, Int.reduceLT, Int.reduceToNat, Int.reduceNeg, rc6, hne6, ec]
  obtain ⟨h7, hh7⟩ : ∃ h7 : Hp, h7 = h6.push (.cells [.slice p7 (cliS x).length c7, .int .i64 (n + 1), .int .i64 0, .bool false, .bool false, .bool false, .bool false, .bool false, .bool false, .bool false, .bool false].toArray 143) := ⟨_, rfl⟩
  have e7 : h6.push (.cells #[Value.slice p7 (cliS x).length c7, .int .i64 (n + 1), .int .i64 0, .bool false, .bool false, .bool false, .bool false, .bool false, .bool false, .bool false, .bool false] 143) = h7 := hh7.symm
  rw [e7]
  have b7 : Bel h6.size h6 h7 := by rw [hh7]; exact Bel.push (Nat.le_refl _) _
  have s7 : h7.size = h6.size + 1 := by rw [hh7]; simp
  have q7 : h6.size + 1 = h7.size := s7.symm
  clear e7 hh7
  have B7 := B6.trans (b7.mono (by omega))
  have bp : Bel h7.size h7 (h7.push (.cells (([x] : List Nat).map bv).toArray 5)) := Bel.push (Nat.le_refl _) _
  have so : Bs (h7.push (.cells (([x] : List Nat).map bv).toArray 5)) (.slice (some ⟨h7.size, 0, none⟩) 1 1) [x] := Bs.made hx1 1
  have lr : (recS (cliS x) n.toNat (PR ++ CB)).length ≤ 1000000 := Nat.le_trans (rec_le _ _ _) (by rw [List.length_append]; omega)
  try rw [q7]
  refine (joined_ok T _ _ w6 [x] (recS (cliS x) n.toNat (PR ++ CB)) so ((o6.bs.bel b7).bel bp) (by simp only [List.length_singleton]; omega)).use ?_
  rintro w8 h8 ⟨o8, b8⟩
  simp (config := {maxSteps := 2000000, implicitDefEqProofs := false}) only [go_sem, ↓reduceIte, Nat.reduceEqDiff, Nat.reduceAdd, Nat.reduceMul, Nat.reduceLeDiff, Nat.reduceLT, Nat.reduceSub, IntWalk.iteOmega, IntWalk.toNatUp, reduceCtorEq, false_and, and_false, false_or, or_false, true_or, or_true, not_true_eq_false, not_false_eq_true, Bool.not_true, Bool.not_false, Bool.and_true, Bool.true_and, Bool.and_false, Bool.false_and, Bool.not_eq_true, beq_self_eq_true, Nat.add_zero, Int.reduceLE, Int.reduceLT, Int.reduceToNat, Int.reduceNeg]
  rw [eS]
  exact ⟨⟨_, rfl, o8.bs⟩, B7.trans ((bp.trans (b8.mono (by simp))).mono (by omega))⟩
end Go.Proofs.YtnpacofabdgcdaaDoor
namespace Go.Proofs.YtnpacofabdgcdaaDoor
open Go Go.V
set_option linter.unusedSimpArgs false
set_option linter.unusedVariables false
set_option maxRecDepth 100000
theorem mootPacks_ok : LawOkL Tryd.prog Tk 18 Tryd.f18.params.toList := by
  intro T args tk hfit
  rw [show Tryd.f18.params.toList = [3, 23, 25] from rfl] at hfit
  obtain ⟨vn, _, rfl, ⟨k1, h1⟩, hfit⟩ := fitAll_cons hfit
  obtain ⟨vt, _, rfl, ⟨k2, h2⟩, hfit⟩ := fitAll_cons hfit
  obtain ⟨vc, _, rfl, ⟨k3, h3⟩, hfit⟩ := fitAll_cons hfit
  obtain rfl := fitAll_nil hfit
  obtain ⟨n, hn, _⟩ := fit_int Tryd.underlying3 (fitV_one (by kernel_rfl) h1)
  simp only [List.cons.injEq, and_true] at hn
  subst hn
  obtain ⟨cs, rfl, hl, hf⟩ := fitV_struct (l := rep 3 [3]) Tryd.underlying23 (by kernel_rfl) (by kernel_rfl) h2
  obtain ⟨c, _, rfl, _, _, hf⟩ := fitL_int Tryd.underlying3 hf
  obtain ⟨r, _, rfl, _, _, hf⟩ := fitL_int Tryd.underlying3 hf
  obtain ⟨u, _, rfl, _, _, hf⟩ := fitL_int Tryd.underlying3 hf
  obtain rfl := fitL_nil hf
  obtain ⟨cs, rfl, hl, hf⟩ := fitV_struct (l := rep 5 [3]) Tryd.underlying25 (by kernel_rfl) (by kernel_rfl) h3
  obtain ⟨k, _, rfl, _, _, hf⟩ := fitL_int Tryd.underlying3 hf
  obtain ⟨cl, _, rfl, _, _, hf⟩ := fitL_int Tryd.underlying3 hf
  obtain ⟨s, _, rfl, _, _, hf⟩ := fitL_int Tryd.underlying3 hf
  obtain ⟨nm, _, rfl, _, _, hf⟩ := fitL_int Tryd.underlying3 hf
  obtain ⟨v, _, rfl, _, _, hf⟩ := fitL_int Tryd.underlying3 hf
  obtain rfl := fitL_nil hf
  clear h1 h2 h3
  generalize T.heap = h at *
  refine CallsH.of_code' (args := [_, _, _]) Tryd.func18 rfl rfl rfl rfl ?_
  simp (config := {maxSteps := 2000000, implicitDefEqProofs := false}) only [go_sem, ↓reduceIte, Nat.reduceEqDiff, Nat.reduceAdd, Nat.reduceMul, Nat.reduceLeDiff, Nat.reduceLT, Nat.reduceSub, IntWalk.iteOmega, IntWalk.toNatUp, reduceCtorEq, false_and, and_false, false_or, or_false, true_or, or_true, not_true_eq_false, not_false_eq_true, Bool.not_true, Bool.not_false, Bool.and_true, Bool.true_and, Bool.and_false, Bool.false_and, Bool.not_eq_true, beq_self_eq_true, Nat.add_zero, Int.reduceLE, Int.reduceLT, Int.reduceToNat, Int.reduceNeg]
  obtain ⟨h0, hh0⟩ : ∃ h0 : Hp, h0 = (h.push (.cells [.int .i64 c, .int .i64 r, .int .i64 u].toArray 23)).push (.cells [.int .i64 k, .int .i64 cl, .int .i64 s, .int .i64 nm, .int .i64 v].toArray 25) := ⟨_, rfl⟩
  have b0 : Bel h.size h h0 := by rw [hh0]; exact ((Bel.refl _ _).add _).add _
  have s0 : h0.size = h.size + 2 := by rw [hh0]; simp
  have t0 : h0[h.size]? = some (.cells [.int .i64 c, .int .i64 r, .int .i64 u].toArray 23) := by
    rw [hh0, Array.getElem?_push, if_neg (by simp), get_push_last]
  have c0 : h0[h.size + 1]? = some (.cells [.int .i64 k, .int .i64 cl, .int .i64 s, .int .i64 nm, .int .i64 v].toArray 25) := by
    rw [hh0, Array.getElem?_push, if_pos (by simp)]
  have e0 : (h.push (.cells #[Value.int .i64 c, .int .i64 r, .int .i64 u] 23)).push (.cells #[Value.int .i64 k, .int .i64 cl, .int .i64 s, .int .i64 nm, .int .i64 v] 25) = h0 := hh0.symm
  have e0' : (h.push (.cells [Value.int .i64 c, .int .i64 r, .int .i64 u].toArray 23)).push (.cells [Value.int .i64 k, .int .i64 cl, .int .i64 s, .int .i64 nm, .int .i64 v].toArray 25) = h0 := hh0.symm
  first | rw [e0] | rw [e0']
  clear e0 e0' hh0
  have c1 : CallsH Tryd.prog T 61 #[.int .i64 n, .agg #[.int .i64 c, .int .i64 r, .int .i64 u], .agg #[.int .i64 k, .int .i64 cl, .int .i64 s, .int .i64 nm, .int .i64 v]] h0 fun v' h' => PakRes h' v' n c r u k cl s nm v ∧ Bel h0.size h0 h' := pak_ok T h0 n c r u k cl s nm v (tk.bels b0)
  refine c1.use ?_
  rintro _ h1 ⟨⟨w1, rfl, o1⟩, b1⟩
  obtain ⟨E, hE⟩ : ∃ E, E = pakErr n c r u k cl s nm v := ⟨_, rfl⟩
  obtain ⟨L, hL⟩ : ∃ L : List Nat, L = if E = 0 then pakS n c r u k cl s nm v else [] := ⟨_, rfl⟩
  rw [← hE] at o1 ⊢
  rw [← hL] at o1
  have B1 := b0.trans (b1.mono b0.size)
  have s1 := b1.size
  have t1 := b1.get (by omega) t0
  have c1' := b1.get (by omega) c0
  have rt := rd_last t1 (n := 3) rfl
  have rc := rd_last c1' (n := 5) rfl
  simp (config := {maxSteps := 2000000, implicitDefEqProofs := false}) only [go_sem, ↓reduceIte, Nat.reduceEqDiff, Nat.reduceAdd, Nat.reduceMul, Nat.reduceLeDiff, Nat.reduceLT, Nat.reduceSub, IntWalk.iteOmega, IntWalk.toNatUp, reduceCtorEq, false_and, and_false, false_or, or_false, true_or, or_true, not_true_eq_false, not_false_eq_true, Bool.not_true, Bool.not_false, Bool.and_true, Bool.true_and, Bool.and_false, Bool.false_and, Bool.not_eq_true, beq_self_eq_true, Nat.add_zero, Int.reduceLE, Int.reduceLT, Int.reduceToNat, Int.reduceNeg, rt, rc]
  have c2 : CallsH Tryd.prog T 62 #[.int .i64 n, .agg #[.int .i64 c, .int .i64 r, .int .i64 u], .agg #[.int .i64 k, .int .i64 cl, .int .i64 s, .int .i64 nm, .int .i64 v]] h1 fun v' h' => PakRes h' v' n c r u k cl s nm v ∧ Bel h1.size h1 h' := packed_ok T h1 n c r u k cl s nm v
  refine c2.use ?_
  rintro _ h2 ⟨⟨w2, rfl, o2⟩, b2⟩
  rw [← hE] at o2 ⊢
  rw [← hL] at o2
  simp (config := {maxSteps := 2000000, implicitDefEqProofs := false}) only [go_sem, ↓reduceIte, Nat.reduceEqDiff, Nat.reduceAdd, Nat.reduceMul, Nat.reduceLeDiff, Nat.reduceLT, Nat.reduceSub, IntWalk.iteOmega, IntWalk.toNatUp, reduceCtorEq, false_and, and_false, false_or, or_false, true_or, or_true, not_true_eq_false, not_false_eq_true, Bool.not_true, Bool.not_false, Bool.and_true, Bool.true_and, Bool.and_false, Bool.false_and, Bool.not_eq_true, beq_self_eq_true, Nat.add_zero, Int.reduceLE, Int.reduceLT, Int.reduceToNat, Int.reduceNeg]
  refine (sameBytes_ok T h2 _ _ L L (o1.bel b2) o2).pure ?_
  simp (config := {maxSteps := 2000000, implicitDefEqProofs := false}) only [go_sem, ↓reduceIte, Nat.reduceEqDiff, Nat.reduceAdd, Nat.reduceMul, Nat.reduceLeDiff, Nat.reduceLT, Nat.reduceSub, IntWalk.iteOmega, IntWalk.toNatUp, reduceCtorEq, false_and, and_false, false_or, or_false, true_or, or_true, not_true_eq_false, not_false_eq_true, Bool.not_true, Bool.not_false, Bool.and_true, Bool.true_and, Bool.and_false, Bool.false_and, Bool.not_eq_true, beq_self_eq_true, Nat.add_zero, Int.reduceLE, Int.reduceLT, Int.reduceToNat, Int.reduceNeg]
  exact B1.trans (b2.mono B1.size)
end Go.Proofs.YtnpacofabdgcdaaDoor
namespace Go.Proofs.YtnpacofabdgcdaaDoor
open Go Go.V
set_option linter.unusedSimpArgs false
set_option linter.unusedVariables false
set_option maxRecDepth 100000
set_option maxRecDepth 100000 in
theorem mootPacks_lifted (os : Os) (started : os.Started) (H : Type) (enc : TypeId × Value → H) :
    ReturnsInHanded {} Tryd.checked os 18 .any (fun w args => (Rows.mootPacksSpec.pre enc Tryd.prog Tryd.f18 [] false w args ∧ laidMetH Tryd.prog Rows.mootPacksRow.laid w) ∧ sizedMet enc Tryd.prog Tryd.f18 (OpenSpec.ofChange Rows.mootPacksSpec) false w args)
      (Rows.mootPacksSpec.post enc Tryd.prog Tryd.f18 false true false false) :=
  law_liftedL (C := Tryd.checked) (laid := Rows.mootPacksRow.laid) ownKnobT started (by kernel_rfl) Tryd.func18
    (ChangeSpec.witness_shaped (enc := enc) (C := Tryd.checked) (os := os) (X := fun w _ => laidMetH Tryd.prog Rows.mootPacksRow.laid w) false (World.doorLaid Tryd.prog 87 os) #[.int .i64 0, .agg (rep 3 [Value.int .i64 0]).toArray, .agg (rep 5 [Value.int .i64 0]).toArray] 12 rfl (doorShaped os _) (by kernel_rfl) (by kernel_rfl) (by kernel_rfl) (doorSha os _))
    laidOutT (by kernel_rfl) (by kernel_rfl) (tb := 4) rfl Tryd.underlying4 rfl (fun ds hd => by
      have hl : ds.length = 3 := hd
      match ds, hl with
      | [d0, d1, d2], _ => rfl) (fun W h => shaTab h) mootPacks_ok
theorem mootPacks_said : Rows.MootPacksSaid :=
  OpenClaim.holds_of_wide 18 Tryd.f18 rfl rfl rfl rfl rfl rfl rfl ⟨rfl, rfl, rfl, rfl, rfl⟩ rfl rfl rfl rfl rfl (by kernel_rfl) Tryd.func18 (show joinedFacts Tryd.prog 18 Tryd.f18 Rows.mootPacksSpec Rows.mootPacksRow = true by unfold joinedFacts; rw [makeT, enterT, liftsT]; kernel_rfl)
    (of_decide_eq_true (by kernel_rfl)) (by unfold Func.isWrapper; rw [if_neg (of_decide_eq_false (by kernel_rfl))]; exact ⟨rfl, rfl⟩)
    (fun os started H enc _ => mootPacks_lifted os started H enc)
theorem mootPacks_plain (f : FuncId) (fn : Func) (hf : Tryd.pinned.checked.prog.funcNamed "conclave/conclavelaw.MootPacks" = some f) (hfn : Tryd.pinned.checked.prog.funcs[f]? = some fn) :
    true = Tryd.pinned.checked.prog.looks [] ∧ ∀ (j : Nat) t, fn.params[j]? = some t → Tryd.pinned.checked.prog.wantsStandIn t = false := by
  obtain rfl : f = 18 := Option.some.inj ((show Tryd.prog.funcNamed "conclave/conclavelaw.MootPacks" = some 18 by kernel_rfl).symm.trans hf) |>.symm
  obtain rfl : fn = Tryd.f18 := (Option.some.inj (Tryd.func18.symm.trans hfn)).symm
  refine ⟨by kernel_rfl, fun j t ht => ?_⟩
  have hm : t ∈ Tryd.f18.params.toList := by simpa using Array.mem_of_getElem? ht
  have hall : (Tryd.f18.params.toList.all fun u => !Tryd.prog.wantsStandIn u) = true := by kernel_rfl
  exact (show Tryd.prog.wantsStandIn t = false by simpa using List.all_eq_true.1 hall t hm)
theorem mootPacks_card : Rows.MootPacksCardSaid :=
  Claim7.holds_tied_plain_at .later [] _ _ _ _ mootPacks_said (fun _ h => by cases h) (by kernel_rfl) (fun _ h => by cases h) mootPacks_row_tie rfl ⟨rfl, rfl⟩ (main_words (L := headCodes.map Char.ofNat) (by kernel_rfl) (by kernel_rfl)) rfl mootPacks_plain (by kernel_rfl)
end Go.Proofs.YtnpacofabdgcdaaDoor
