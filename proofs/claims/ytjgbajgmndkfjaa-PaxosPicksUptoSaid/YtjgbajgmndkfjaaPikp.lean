/- PaxosPicks holds where what comes in is of bulk at most 1048576: paxos.Pick answers what the document says, at every such argument. -/
import Derived.Test.YtjgbajgmndkfjaaPikf
namespace Go.Proofs.Ytjgbajgmndkfjaa
open Go Go.V
open Go.ChangeShapes Go.WideShapes Go.ChangeAt Go.RowKit
set_option linter.unusedSimpArgs false
set_option linter.unusedVariables false
set_option maxRecDepth 100000
set_option maxHeartbeats 1000000 in
theorem manyVotes_ok (T : World) (h : Hp) (u : Value) (LL : List (List Vt)) (s : Vss h u LL) (hL : LL.length ≤ 1048576) :
    CallsH Try.prog T 65 #[u] h fun v' h' => Vss h' v' LL ∧ Bel h.size h h' := by
  obtain ⟨p, c, rfl, hcs⟩ := s
  refine CallsH.of_code' (args := [_]) Try.func65 rfl rfl rfl rfl ?_
  simp (config := {maxSteps := 2000000, implicitDefEqProofs := false}) only [go_sem, ↓reduceIte, Nat.reduceEqDiff, Nat.reduceAdd, Nat.reduceMul, Nat.reduceLeDiff, Nat.reduceLT, Nat.reduceSub, IntWalk.iteOmega, IntWalk.toNatUp, reduceCtorEq, false_and, and_false, false_or, or_false, true_or, or_true, not_true_eq_false, not_false_eq_true, Bool.not_true, Bool.not_false, Bool.and_true, Bool.true_and, Bool.and_false, Bool.false_and, Bool.not_eq_true, beq_self_eq_true, Nat.add_zero, Int.reduceLE, Int.reduceLT, Int.reduceToNat, Int.reduceNeg]
  refine VS.loop' (fun F g => F 0 = .slice p LL.length c ∧ Bel h.size h g ∧ ∃ (i : Nat) (ws : List Value), i ≤ LL.length ∧ F 4 = .int .i64 i ∧ ws.length = i ∧ Own h.size 77 1 g (F 3) i ws ∧ ∀ j (hj : j < LL.length) (hj' : j < ws.length), Ots h.size 102 voteC 8 g ws[j] LL[j] ∧ LL[j].length ≤ 2199023255552 ∧ ∀ b, blkOf ws[j] = some b → blkOf (F 3) ≠ some b)
    (fun F _ => LL.length - (vi (F 4)).toNat) rfl ⟨rfl, Bel.refl _ _, 0, [], by omega, rfl, rfl, Own.nil _ _ _ _, fun j hj hj' => by simp at hj'⟩ ?_
  rintro F g ⟨f0, hg, i, ws, hi, f4, hws, ho, hall⟩
  have hgs := hg.size
  by_cases hlt : i < LL.length
  · have hlt' : (i : Int) < LL.length := by omega
    obtain ⟨bb, oo, rfl, hbb, hcs⟩ := hcs (by intro e; rw [e] at hlt; simp at hlt)
    obtain ⟨w, hw, tw, hwl⟩ := hcs i hlt
    have hw' : V.hc g ⟨bb, oo + i, none⟩ = some w := by rw [hg.hc (by exact hbb)]; exact hw
    simp (config := {maxSteps := 2000000, implicitDefEqProofs := false}) only [go_sem, ↓reduceIte, Nat.reduceEqDiff, Nat.reduceAdd, Nat.reduceMul, Nat.reduceLeDiff, Nat.reduceLT, Nat.reduceSub, IntWalk.iteOmega, IntWalk.toNatUp, reduceCtorEq, false_and, and_false, false_or, or_false, true_or, or_true, not_true_eq_false, not_false_eq_true, Bool.not_true, Bool.not_false, Bool.and_true, Bool.true_and, Bool.and_false, Bool.false_and, Bool.not_eq_true, beq_self_eq_true, Nat.add_zero, Int.reduceLE, Int.reduceLT, Int.reduceToNat, Int.reduceNeg, f0, f4, hlt', Int.toNat_natCast, hw']
    refine (votesLaw_ok T _ w LL[i] (tw.bel hg) hwl).use ?_
    rintro w1 g1 ⟨o1, b1⟩
    have z1 := b1.size
    obtain ⟨p1, c1, rfl, _⟩ := o1.open
    have hlto := ho.lt
    have hlt1 := o1.own.lt
    have hbk1 := o1.own.blk
    have ho1 := ho.bel b1 (Nat.le_refl _)
    simp (config := {maxSteps := 2000000, implicitDefEqProofs := false}) only [go_sem, ↓reduceIte, Nat.reduceEqDiff, Nat.reduceAdd, Nat.reduceMul, Nat.reduceLeDiff, Nat.reduceLT, Nat.reduceSub, IntWalk.iteOmega, IntWalk.toNatUp, reduceCtorEq, false_and, and_false, false_or, or_false, true_or, or_true, not_true_eq_false, not_false_eq_true, Bool.not_true, Bool.not_false, Bool.and_true, Bool.true_and, Bool.and_false, Bool.false_and, Bool.not_eq_true, beq_self_eq_true, Nat.add_zero, Int.reduceLE, Int.reduceLT, Int.reduceToNat, Int.reduceNeg, f0, f4]
    have src : Sl 1 (g1.push (.cells [Value.slice p1 LL[i].length c1].toArray 77)) (.slice (some ⟨g1.size, 0, none⟩) 1 1) 1 [Value.slice p1 LL[i].length c1] := Sl.made (by simp) 1
    refine append_own2 (E := 77) (n := 1) (B := h.size) (bytes := 24) (m := i) (k := 1) (cs := ws) tsl83 Try.underlying83 tn77 tz77 rfl tb77 (ho1.push _) (by simp; omega) src rfl (by omega) (by omega) ?_
    intro v' h' ho' hbut hblk
    have hbel' : Bel h.size (g1.push (.cells [Value.slice p1 LL[i].length c1].toArray 77)) h' := hbut.bel (by simp; omega) (fun b hb => ho.blk b hb)
    have hfin : Bel h.size h h' := (hg.trans (b1.mono hgs)).trans ((Bel.push (by omega) _).trans hbel')
    simp (config := {maxSteps := 2000000, implicitDefEqProofs := false}) only [go_sem, ↓reduceIte, Nat.reduceEqDiff, Nat.reduceAdd, Nat.reduceMul, Nat.reduceLeDiff, Nat.reduceLT, Nat.reduceSub, IntWalk.iteOmega, IntWalk.toNatUp, reduceCtorEq, false_and, and_false, false_or, or_false, true_or, or_true, not_true_eq_false, not_false_eq_true, Bool.not_true, Bool.not_false, Bool.and_true, Bool.true_and, Bool.and_false, Bool.false_and, Bool.not_eq_true, beq_self_eq_true, Nat.add_zero, Int.reduceLE, Int.reduceLT, Int.reduceToNat, Int.reduceNeg, f0, f4]
    refine ⟨⟨f0, hfin, i + 1, ws ++ [Value.slice p1 LL[i].length c1], hlt, rfl, by simp [hws], ho', fun j hj hj' => ?_⟩, ?_⟩
    · by_cases e : j < ws.length
      · obtain ⟨k1, k2, k3⟩ := hall j hj e
        have hl3 := k1.own.lt
        rw [List.getElem_append_left e]
        refine ⟨⟨(((k1.own.bel b1 (Nat.le_refl _)).push _).but hbut (fun b hb e2 => k3 b hb e2))⟩, k2, fun b hb e2 => ?_⟩
        rcases hblk b e2 with hh | hh
        · exact k3 b hb hh
        · have := hl3 b hb
          simp only [Array.size_push] at hh
          omega
      · have hje : j = i := by simp at hj'; omega
        subst hje
        have eg : (ws ++ [Value.slice p1 LL[j].length c1])[j] = Value.slice p1 LL[j].length c1 := by
          rw [List.getElem_append_right (by omega)]; simp [hws]
        rw [eg]
        refine ⟨⟨((o1.own.mono hgs).push _).but hbut (fun b hb e2 => by have := hbk1 b hb; have := hlto b e2; omega)⟩, hwl, fun b hb e2 => ?_⟩
        rcases hblk b e2 with hh | hh
        · have := hbk1 b hb; have := hlto b hh; omega
        · have := hlt1 b hb
          simp only [Array.size_push] at hh
          omega
    · simp only [vi, updo_some, ↓reduceIte, f4]; omega
  · have hge : ¬ (i : Int) < LL.length := by omega
    obtain rfl : i = LL.length := by omega
    simp (config := {maxSteps := 2000000, implicitDefEqProofs := false}) only [go_sem, ↓reduceIte, Nat.reduceEqDiff, Nat.reduceAdd, Nat.reduceMul, Nat.reduceLeDiff, Nat.reduceLT, Nat.reduceSub, IntWalk.iteOmega, IntWalk.toNatUp, reduceCtorEq, false_and, and_false, false_or, or_false, true_or, or_true, not_true_eq_false, not_false_eq_true, Bool.not_true, Bool.not_false, Bool.and_true, Bool.true_and, Bool.and_false, Bool.false_and, Bool.not_eq_true, beq_self_eq_true, Nat.add_zero, Int.reduceLE, Int.reduceLT, Int.reduceToNat, Int.reduceNeg, f0, f4, hge]
    refine ⟨?_, hg⟩
    obtain ⟨pv, cv, hv, hl, hcells⟩ := ho.sl
    refine ⟨pv, cv, hv, fun hne => ?_⟩
    have hne' : ws ≠ [] := by
      intro e
      rw [e] at hws
      exact hne (List.eq_nil_of_length_eq_zero hws.symm)
    obtain ⟨b, o, hp, hcc⟩ := hcells hne'
    have hpos : 0 < ws.length := List.length_pos_iff.2 hne'
    refine ⟨b, o, hp, lt_of_hc (hcc 0 hpos), fun j hj => ?_⟩
    obtain ⟨k1, k2, _⟩ := hall j hj (by omega)
    exact ⟨ws[j], hcc j (by omega), k1.ts, k2⟩
theorem picks_body (T : World) (v u : Value) (LL : List (List Vt)) (slot : Int) (s : Vss T.heap v LL) (hL : LL.length ≤ 1048576) (hT : LL.flatten.length ≤ 1048576) :
    CallsH Try.prog T 18 #[v, .int .i64 slot] T.heap fun v' h' => v' = .bool true ∧ Bel T.heap.size T.heap h' := by
  generalize T.heap = h at *
  obtain ⟨p, c, rfl, hcs⟩ := s
  have s : Vss h (.slice p LL.length c) LL := ⟨p, c, rfl, hcs⟩
  refine CallsH.of_code' (args := [_, _]) Try.func18 rfl rfl rfl rfl ?_
  simp (config := {maxSteps := 2000000, implicitDefEqProofs := false}) only [go_sem, ↓reduceIte, Nat.reduceEqDiff, Nat.reduceAdd, Nat.reduceMul, Nat.reduceLeDiff, Nat.reduceLT, Nat.reduceSub, IntWalk.iteOmega, IntWalk.toNatUp, reduceCtorEq, false_and, and_false, false_or, or_false, true_or, or_true, not_true_eq_false, not_false_eq_true, Bool.not_true, Bool.not_false, Bool.and_true, Bool.true_and, Bool.and_false, Bool.false_and, Bool.not_eq_true, beq_self_eq_true, Nat.add_zero, Int.reduceLE, Int.reduceLT, Int.reduceToNat, Int.reduceNeg]
  refine (manyVotes_ok T _ _ LL s hL).use ?_
  rintro v1 g1 ⟨s1, b1⟩
  have z1 := b1.size
  obtain ⟨X, hX⟩ : ∃ X, X = (if pickErr slot LL.flatten = 0 then bestOf slot LL.flatten else vt0) := ⟨_, rfl⟩
  obtain ⟨Y, hY⟩ : ∃ Y, Y = (if pickErr slot LL.flatten = 0 then decide (0 < (bestOf slot LL.flatten).b.r) else false) := ⟨_, rfl⟩
  obtain ⟨E, hE⟩ : ∃ E, E = pickErr slot LL.flatten := ⟨_, rfl⟩
  have hP := pick_ok T g1 v1 LL slot s1 (by omega)
  unfold PickRes at hP
  rw [← hX, ← hY, ← hE] at hP
  simp (config := {maxSteps := 2000000, implicitDefEqProofs := false}) only [go_sem, ↓reduceIte, Nat.reduceEqDiff, Nat.reduceAdd, Nat.reduceMul, Nat.reduceLeDiff, Nat.reduceLT, Nat.reduceSub, IntWalk.iteOmega, IntWalk.toNatUp, reduceCtorEq, false_and, and_false, false_or, or_false, true_or, or_true, not_true_eq_false, not_false_eq_true, Bool.not_true, Bool.not_false, Bool.and_true, Bool.true_and, Bool.and_false, Bool.false_and, Bool.not_eq_true, beq_self_eq_true, Nat.add_zero, Int.reduceLE, Int.reduceLT, Int.reduceToNat, Int.reduceNeg]
  refine hP.use ?_
  rintro _ g2 ⟨rfl, b2⟩
  have z2 := b2.size
  have hB2 := b1.trans (b2.mono z1)
  have hQ := pickedFrom_ok T (g2.push (.cells (cmdV X).toArray 48)) (.slice p LL.length c) LL slot (s.bel (hB2.addP hB2.size _)) (by omega) (by omega)
  unfold PickRes at hQ
  rw [← hX, ← hY, ← hE] at hQ
  unfold cmdV at hQ ⊢
  simp (config := {maxSteps := 2000000, implicitDefEqProofs := false}) only [go_sem, ↓reduceIte, Nat.reduceEqDiff, Nat.reduceAdd, Nat.reduceMul, Nat.reduceLeDiff, Nat.reduceLT, Nat.reduceSub, IntWalk.iteOmega, IntWalk.toNatUp, reduceCtorEq, false_and, and_false, false_or, or_false, true_or, or_true, not_true_eq_false, not_false_eq_true, Bool.not_true, Bool.not_false, Bool.and_true, Bool.true_and, Bool.and_false, Bool.false_and, Bool.not_eq_true, beq_self_eq_true, Nat.add_zero, Int.reduceLE, Int.reduceLT, Int.reduceToNat, Int.reduceNeg]
  refine hQ.use ?_
  rintro _ g3 ⟨rfl, b3⟩
  have z3 := b3.size
  simp only [Array.size_push] at z3
  have xc : g3[g2.size]? = some (.cells [.int .i64 X.k, .int .i64 X.c, .int .i64 X.s, .int .i64 X.nm, .int .i64 X.v].toArray 48) := b3.get (by simp) get_push_last
  have r1 := rd_last xc (n := 5) rfl
  have zc := lt_of_get xc
  have hB3 := (hB2.addP hB2.size (.cells [.int .i64 X.k, .int .i64 X.c, .int .i64 X.s, .int .i64 X.nm, .int .i64 X.v].toArray 48)).trans (b3.mono (by have := hB2.size; simp; omega))
  simp (config := {maxSteps := 2000000, implicitDefEqProofs := false}) only [go_sem, ↓reduceIte, Nat.reduceEqDiff, Nat.reduceAdd, Nat.reduceMul, Nat.reduceLeDiff, Nat.reduceLT, Nat.reduceSub, IntWalk.iteOmega, IntWalk.toNatUp, reduceCtorEq, false_and, and_false, false_or, or_false, true_or, or_true, not_true_eq_false, not_false_eq_true, Bool.not_true, Bool.not_false, Bool.and_true, Bool.true_and, Bool.and_false, Bool.false_and, Bool.not_eq_true, beq_self_eq_true, Nat.add_zero, Int.reduceLE, Int.reduceLT, Int.reduceToNat, Int.reduceNeg, r1, zc]
  exact hB3.addP hB3.size _
theorem law_calls_u {H : Type} {enc : TypeId × Value → H} {P : Program} {f : FuncId} {fn : Func} {s : ChangeSpec} {tb : TypeId} (hlaid : laidOutB P = true)
    (hp1 : fn.params.toList.all (fun t => (ta P t).isSome) = true) (hp2 : fn.params.toList.all (fun t => P.readableRec t && decide (t < P.types.size)) = true)
    (hrt : fn.resultTypes = #[tb]) (htb : P.underlying tb = some .bool) (hvars : s.vars = [])
    (hspec : ∀ ds : List (DataW H), ds.length = fn.params.toList.length → s.fn H ds = { results := [.lit (.bool true)], args := ds })
    {W : World} {base : Nat} {args : Array Value} {ds gs : List (DataW H)} {before : List MemPlace}
    (hval : ∀ (j : Nat) t v, fn.params[j]? = some t → args[j]? = some v → Value.okWide P W .any base t v)
    (hW : DataW.Whole enc P fn.params.toList s.vars false W args.toList ds gs before)
    (hsz : (DataW.weightsEach P (fn.params.toList ++ s.plain.varTypes P) (ds ++ gs)).all (· ≤ reachBytes) = true)
    (law : ∀ p, fitAll P W.heap fn.params.toList args.toList → DataW.TrodAll enc P W 0 (fun _ => true) true fn.params.toList args.toList ds p → (DataW.weightsEach P fn.params.toList ds).all (· ≤ reachBytes) = true → gs = [] →
      CallsH P W f args W.heap fun v h' => v = .bool true ∧ Bel W.heap.size W.heap h') :
    Calls P f args W fun e W' => ∃ v, e = .returned v ∧ s.post enc P fn false true false false W args v W' := by
  have hW' := hW
  obtain ⟨p, q, hA, hV, rfl, hz, _⟩ := hW
  rw [hvars] at hV
  obtain ⟨rfl, rfl⟩ := trodVars_none hV
  have hvt : s.plain.varTypes P = [] := by
    have h1 : s.plain.vars = [] := hvars
    simp [DataSpec.varTypes, h1]
  rw [hvt, List.append_nil, List.append_nil] at hsz
  have hfit : fitAll P W.heap fn.params.toList args.toList := by
    refine fitAll_of (enc := enc) (base := base) _ _ ds p hp1 (fun j t v ht hv => hval j t v ?_ ?_) hA hsz
    · rw [← Array.getElem?_toList]; exact ht
    · rw [← Array.getElem?_toList]; exact hv
  have hcall := law p hfit hA hsz rfl W ⟨rfl, rfl, rfl, rfl⟩
  refine hcall.mono fun e W' ⟨v, h', he, hs, hv, hb⟩ => ?_
  subst hv
  have hbel := below_of hs hb
  have hlen := trodAll_length _ _ _ _ hA
  have hfn := hspec ds hlen
  refine ⟨_, he, ds, [], _, [], p, [], hW', ?_, ?_, ?_, hbel.frame _, fun h => by cases h⟩
  · rw [List.append_nil, hfn, hrt]
    exact trodAll_mk1 (v := .bool true) ⟨1, by simp [DataW.trod, Value.cells, htb]⟩
  · rw [List.append_nil, hfn]
    refine trodAll_stays hlaid hbel _ _ _ _ hp2 hA (fun x hx => hW'.lt x (by simpa using hx))
  · rw [List.append_nil, hfn, hvars]
    rfl
theorem paxosPicks_lifted (os : Os) (started : os.Started) (H : Type) (enc : TypeId × Value → H) (F : Stop.Interp) :
    ReturnsInHanded {} Try.checked os 18 .any ((Rows.OpenSpec.upto Rows.paxosPicksSpec).pre6 enc Try.prog Try.f18 Rows.paxosPicksUptoRow.domain false) (((Rows.OpenSpec.upto Rows.paxosPicksSpec).at F).post enc Try.prog Try.f18 false true false false) := by
  refine returnsInHanded_of_cond_sized (C := Try.checked) (s := Rows.OpenSpec.upto Rows.paxosPicksSpec) (k := Rows.uptoSmall) rfl ownKnobT started (by kernel_rfl) Try.func18
    (OpenSpec.witness (enc := enc) (C := Try.checked) (s := Rows.OpenSpec.upto Rows.paxosPicksSpec) (k := Rows.uptoSmall) rfl false ⟨#[], #[.slice none 0 0, .int .i64 0], []⟩ 8 (by kernel_rfl) (by kernel_rfl) (by kernel_rfl)
      (x := ([.nil, .lit (.int .i64 0)], [], [])) (by kernel_rfl) rfl (by kernel_rfl)) ?_
  intro W base args ds gs before hval hW _ hk hsz _
  refine law_calls_u (s := Rows.paxosPicksSpec) (tb := 4) laidOutT (by kernel_rfl) (by kernel_rfl) rfl Try.underlying4 rfl (fun ds hd => by
      have hl : ds.length = 2 := hd
      match ds, hl with
      | [d0, d1], _ => rfl) hval hW hsz ?_
  intro p hfit hA hw hgs
  subst hgs
  rw [List.append_nil] at hk
  have hpar : Try.f18.params.toList = [83, 3] := rfl
  rw [hpar] at hfit hA hw
  obtain ⟨v0, vs0, d0, ds0, p0, q0, hargs, rfl, rfl, h0, r0⟩ := trodAll_cons hA
  obtain ⟨v1, vs1, d1, ds1, p1, q1, hargs1, rfl, rfl, h1, r1⟩ := trodAll_cons r0
  obtain ⟨rfl, rfl, rfl⟩ := trodAll_nil r1
  subst hargs1
  rw [hargs] at hfit
  obtain ⟨va, _, ea, _, hfit⟩ := fitAll_cons hfit
  obtain ⟨vb, _, eb, ⟨kb, hb⟩, _⟩ := fitAll_cons hfit
  simp only [List.cons.injEq] at ea
  obtain ⟨rfl, rfl⟩ := ea
  simp only [List.cons.injEq] at eb
  obtain ⟨rfl, _⟩ := eb
  obtain ⟨slot, hslot, _⟩ := fit_int Try.underlying3 (fitV_one ta3 hb)
  obtain rfl : v1 = .int .i64 slot := by simpa using hslot
  have ha0 : args[0]? = some v0 := by rw [← Array.getElem?_toList, hargs]; rfl
  have hv0 : v0.cells.toList = [v0] := by
    have hok := hval 0 83 v0 rfl ha0
    cases v0 with
    | agg cs => exact (not_agg ta83 hok).elim
    | _ => rfl
  obtain ⟨k, hk0⟩ := h0
  rw [hv0] at hk0
  simp only [DataW.weightsEach, List.all_append, Bool.and_eq_true] at hw
  obtain ⟨LL, s, hL, hT⟩ := vss_fit hk0 hw.1
  have hbound : Rows.uptoBulkAll [d0, d1] ≤ 1048576 := of_decide_eq_true hk
  simp only [Rows.uptoBulkAll] at hbound
  have hbody := picks_body W v0 v0 LL slot s (by omega) (by omega)
  have hargs' : args = #[v0, .int .i64 slot] := by
    apply Array.toList_inj.1
    rw [hargs]
  rw [hargs']
  exact hbody
theorem paxosPicksUpto_holds : Rows.PaxosPicksUptoSaid :=
  OpenClaim.holds_of_cond 18 Try.f18 rfl rfl rfl rfl rfl rfl rfl ⟨rfl, rfl, rfl, rfl, rfl⟩ rfl rfl rfl rfl rfl (by kernel_rfl) Try.func18 (show joinedFacts Try.prog 18 Try.f18 Rows.paxosPicksSpec Rows.paxosPicksUptoRow = true by unfold joinedFacts; rw [makeT, enterT, liftsT]; kernel_rfl)
    (of_decide_eq_true (by kernel_rfl)) (by unfold Func.isWrapper; rw [if_neg (of_decide_eq_false (by kernel_rfl))]; exact ⟨rfl, rfl⟩)
    (fun os started H enc _ F => paxosPicks_lifted os started H enc F)
end Go.Proofs.Ytjgbajgmndkfjaa
