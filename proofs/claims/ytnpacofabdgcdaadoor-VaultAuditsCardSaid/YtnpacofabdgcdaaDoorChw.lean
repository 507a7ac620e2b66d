/- The vault's chain: what the program and the document compute; no condition but those in the statements. -/
import Derived.Test.YtnpacofabdgcdaaDoorChn
namespace Go.Proofs.YtnpacofabdgcdaaDoor
open Go Go.V
set_option linter.unusedSimpArgs false
set_option linter.unusedVariables false
set_option maxRecDepth 100000
theorem cmds_open {h : Hp} {v : Value} {l : List Cmv} (s : Ts cmvC 5 h v l) : ∃ p cap, v = .slice p l.length cap ∧ (l ≠ [] → ∃ b o, p = some ⟨b, o, none⟩ ∧ b < h.size ∧ ∀ i (hi : i < l.length), rd h ⟨b, o + i * 5, none⟩ 5 = some [.int .i64 l[i].k, .int .i64 l[i].c, .int .i64 l[i].s, .int .i64 l[i].n, .int .i64 l[i].v]) := by
  obtain ⟨p, cap, hv, hc1⟩ := Ts.open (enc := cmvC) (n := 5) (fun _ => rfl) (by decide) s
  refine ⟨p, cap, hv, fun hne => ?_⟩
  obtain ⟨b, o, hp, hb, hcs⟩ := hc1 hne
  exact ⟨b, o, hp, hb, fun i hi => (hcs i hi).rd (by simp [cmvC]) rfl⟩
theorem doL_chn {cs : List Value} (hf : fitK storeK cs = true) (x : Cmv) : ∃ (D : List Value) (a b : Int), doL cs x.k x.c x.s x.n x.v = [.agg D.toArray, .agg [.int .i64 a, .int .i64 b].toArray, .int .i64 (chnE cs x)] ∧ fitK storeK D = true ∧ (chnE cs x = 0 → D = (doneC cs x).cells ∧ a = (doneC cs x).code ∧ b = (doneC cs x).val) := by
  unfold doL chnE doneC
  by_cases e : doErr cs x.k x.c x.s x.n x.v = 0
  · rw [if_pos e]
    refine ⟨_, _, _, by rw [e], ?_, fun _ => ⟨rfl, rfl, rfl⟩⟩
    have e2 : cmdErr x.k x.c x.s x.n x.v = 0 := (chnE_zero (cs := cs) (x := x) e).2
    obtain ⟨k, c, s, n, v, e1, e2, e3, e4, e5, y1, y2, y3, y4, y5⟩ := cmdErr_small e2
    rw [e1, e2, e3, e4, e5]
    exact doneS_fit hf _ _ _ _ _ (by simpa using y4) (by simpa using y2)
  · rw [if_neg e]
    exact ⟨_, _, _, rfl, rfl, fun h => absurd h e⟩
/-- Two slices of the call's own, of two types of elements, do not lie in one block. -/
theorem own_apart {B B' n n' m m' : Nat} {E E' : TypeId} {h : Hp} {v u : Value} {cs ds : List Value} (hE : E ≠ E') (s : Own B E n h v m cs) (t : Own B' E' n' h u m' ds) : ∀ b, blkOf v = some b → blkOf u ≠ some b := by
  intro b hb hc
  rcases s with ⟨⟨p, rfl⟩, _, _⟩ | ⟨b1, cap, sp, _, rfl, hx, _⟩
  · cases p <;> simp [blkOf] at hb
  rcases t with ⟨⟨p, rfl⟩, _, _⟩ | ⟨b2, cap2, sp2, _, rfl, hy, _⟩
  · cases p <;> simp [blkOf] at hc
  simp only [blkOf] at hb hc
  split at hb
  · cases hb
  split at hc
  · cases hc
  obtain rfl := Option.some.inj hb
  obtain rfl := Option.some.inj hc
  rw [hx] at hy
  simp only [Option.some.injEq, Obj.cells.injEq] at hy
  exact hE hy.2.1
theorem OEnts.app {B : Nat} {h h' : Hp} {v : Value} {es : List EntV} {l : List Etv} (s1 : Ots B 112 entC 8 h v es) (s2 : Ents (fun w s => OBs B 5 h w s) es l) (a : But (blkOf v) h h') : Ents (fun w s => OBs B 5 h' w s) es l :=
  s2.mono (fun w t q => q.but a (fun b hb => own_apart (by decide) q.own s1.own b hb))
theorem chain_ok (T : World) (h : Hp) (u : Value) (l : List Cmv) (s : Ts cmvC 5 h u l) (tk : Tk h) :
    CallsH Tryd.prog T 39 #[u] h fun v' h' => (∃ w E D, v' = .tuple [w, .agg D.toArray, .int .i64 E].toArray ∧ (E, D) = (if 200 < l.length then (1, storeZ) else (chainE l, chainS l)) ∧ OEnts h.size h' w (if 200 < l.length then [] else chainO l)) ∧ Bel h.size h h' := by
  obtain ⟨p, cp, rfl, hc1⟩ := cmds_open s
  have hZ : storeZ.length = 40 := rfl
  have hZo : storeZ.all oneC = true := rfl
  refine CallsH.of_code2 (args := [_]) Tryd.func39 rfl rfl rfl rfl ?_
  by_cases big : 200 < l.length
  · have big' : (200 : Int) < l.length := by omega
    simp (config := {maxSteps := 2000000, implicitDefEqProofs := false}) only [go_sem, ↓reduceIte, Nat.reduceEqDiff, Nat.reduceAdd, Nat.reduceMul, Nat.reduceLeDiff, Nat.reduceLT, Nat.reduceSub, IntWalk.iteOmega, IntWalk.toNatUp, reduceCtorEq, false_and, and_false, false_or, or_false, true_or, or_true, not_true_eq_false, not_false_eq_true, Bool.not_true, Bool.not_false, Bool.and_true, Bool.true_and, Bool.and_false, Bool.false_and, Bool.not_eq_true, beq_self_eq_true, Nat.add_zero, Int.reduceLE, Int.reduceLT, Int.reduceToNat, Int.reduceNeg, big', big]
    exact ⟨_, _, _, rfl, rfl, OEnts.nil _ _⟩
  have big' : ¬ (200 : Int) < l.length := by omega
  simp (config := {maxSteps := 2000000, implicitDefEqProofs := false}) only [go_sem, ↓reduceIte, Nat.reduceEqDiff, Nat.reduceAdd, Nat.reduceMul, Nat.reduceLeDiff, Nat.reduceLT, Nat.reduceSub, IntWalk.iteOmega, IntWalk.toNatUp, reduceCtorEq, false_and, and_false, false_or, or_false, true_or, or_true, not_true_eq_false, not_false_eq_true, Bool.not_true, Bool.not_false, Bool.and_true, Bool.true_and, Bool.and_false, Bool.false_and, Bool.not_eq_true, beq_self_eq_true, Nat.add_zero, Int.reduceLE, Int.reduceLT, Int.reduceToNat, Int.reduceNeg, big', big]
  have z32 : OBs (h.size + 2) 5 (((h.push (.cells storeZ.toArray 54)).push (.cells storeZ.toArray 54)).push (.cells ((List.replicate 32 0).map bv).toArray 5)) (.slice (some ⟨h.size + 1 + 1, 0, none⟩) 32 32) (List.replicate 32 0) := by
    have := OBs.made (B := h.size + 2) (E := 5) (h := (h.push (.cells storeZ.toArray 54)).push (.cells storeZ.toArray 54)) (l := List.replicate 32 0) (by decide) (by simp)
    simp only [Array.size_push, List.length_replicate] at this
    exact this
  refine VS.loop' (fun F g => Bel h.size h g ∧ F 0 = .slice p l.length cp ∧ F 3 = .pointer (some ⟨h.size, 0, none⟩) ∧ F 5 = .pointer (some ⟨h.size + 1, 0, none⟩) ∧ F 18 = .slice p l.length cp ∧ F 19 = .int .i64 l.length ∧ g[h.size]? = some (.cells storeZ.toArray 54) ∧ ∃ (i : Nat) (st : Chn), i ≤ l.length ∧ F 20 = .int .i64 i ∧ chnR chn0 l = chnR st (l.drop i) ∧ ChnOk st ∧ st.out.length = i ∧ g[h.size + 1]? = some (.cells st.cs.toArray 54) ∧ OEnts (h.size + 2) g (F 6) st.out ∧ OBs (h.size + 2) 5 g (F 7) st.sum)
    (fun F _ => l.length - (vi (F 20)).toNat) rfl ⟨?_, rfl, rfl, rfl, rfl, rfl, ?_, 0, chn0, by omega, rfl, rfl, chn0_ok, rfl, ?_, OEnts.nil _ _, z32⟩ ?_
  · (repeat' (first | exact Bel.refl _ _ | assumption | refine Bel.add ?_ _ | refine Bel.addSet ?_ (by first | omega | (simp; omega)) _ | refine Bel.trans (by assumption) ?_))
  · rw [Array.getElem?_push, if_neg (by simp; omega), Array.getElem?_push, if_neg (by simp), get_push_last]; rfl
  · rw [Array.getElem?_push, if_neg (by simp), Array.getElem?_push, if_pos (by simp)]; rfl
  clear z32
  rintro F g ⟨hg, f0, f3, f5, f18, f19, x0, i, st, hi, f20, hr, ok, ho, x1, oe, os⟩
  have gs := hg.size
  have g1 := lt_of_get x1
  by_cases hlt : i < l.length
  · have hlt' : (i : Int) < l.length := by omega
    obtain ⟨bb, oo, rfl, hbb, hcs⟩ := hc1 (by intro e; rw [e] at hlt; simp at hlt)
    have r1 := hcs i hlt
    obtain ⟨x, hx⟩ : ∃ x, x = l[i] := ⟨_, rfl⟩
    rw [← hx, ← rd_bel hg (by exact hbb)] at r1
    have hdr : l.drop i = x :: l.drop (i + 1) := by rw [hx]; exact List.drop_eq_getElem_cons hlt
    rw [hdr] at hr
    have hcl : st.cs.length = 40 := fitK_length ok.fit
    have tkc := take_len hcl
    have rs := rd_last x1 hcl
    have hne1 : ¬ h.size + 1 = g.size := by omega
    simp (config := {maxSteps := 2000000, implicitDefEqProofs := false}) only [go_sem, ↓reduceIte, Nat.reduceEqDiff, Nat.reduceAdd, Nat.reduceMul, Nat.reduceLeDiff, Nat.reduceLT, Nat.reduceSub, IntWalk.iteOmega, IntWalk.toNatUp, reduceCtorEq, false_and, and_false, false_or, or_false, true_or, or_true, not_true_eq_false, not_false_eq_true, Bool.not_true, Bool.not_false, Bool.and_true, Bool.true_and, Bool.and_false, Bool.false_and, Bool.not_eq_true, beq_self_eq_true, Nat.add_zero, Int.reduceLE, Int.reduceLT, Int.reduceToNat, Int.reduceNeg, f0, f3, f5, f18, f19, f20, hlt', r1, rs, hne1, hcl, tkc]
    refine (vaultDo_ok T _ st.cs x.k x.c x.s x.n x.v ok.fit (store_ints ok.fit) (store_bools ok.fit)).use ?_
    rintro _ h1 ⟨hd, b1⟩
    obtain ⟨D, a, b, hL, fD, hz⟩ := doL_chn ok.fit x
    unfold DoRes at hd
    rw [hL] at hd
    subst hd
    have z1 : g.size + 1 ≤ h1.size := by have := b1.size; simp at this; omega
    have B1 : Bel g.size g h1 := (Bel.push (Nat.le_refl _) _).trans (b1.mono (by simp))
    have y9 : h1[g.size]? = some (.cells [.int .i64 x.k, .int .i64 x.c, .int .i64 x.s, .int .i64 x.n, .int .i64 x.v].toArray 25) := b1.get (by simp) get_push_last
    have D40 : D.length = 40 := fitK_length fD
    have hDone := fitK_one fD
    have tkD := take_len D40
    simp (config := {maxSteps := 2000000, implicitDefEqProofs := false}) only [go_sem, ↓reduceIte, Nat.reduceEqDiff, Nat.reduceAdd, Nat.reduceMul, Nat.reduceLeDiff, Nat.reduceLT, Nat.reduceSub, IntWalk.iteOmega, IntWalk.toNatUp, reduceCtorEq, false_and, and_false, false_or, or_false, true_or, or_true, not_true_eq_false, not_false_eq_true, Bool.not_true, Bool.not_false, Bool.and_true, Bool.true_and, Bool.and_false, Bool.false_and, Bool.not_eq_true, beq_self_eq_true, Nat.add_zero, Int.reduceLE, Int.reduceLT, Int.reduceToNat, Int.reduceNeg, D40, hDone, lput_full, tkD]
    obtain ⟨h2, hh2⟩ : ∃ h2 : Hp, h2 = (h1.push (.cells D.toArray 54)).push (.cells [.int .i64 a, .int .i64 b].toArray 50) := ⟨_, rfl⟩
    have b2 : Bel h1.size h1 h2 := by rw [hh2]; exact ((Bel.refl _ _).add _).add _
    have z2 : h2.size = h1.size + 2 := by rw [hh2]; simp
    have y10 : h2[h1.size]? = some (.cells D.toArray 54) := by rw [hh2, Array.getElem?_push, if_neg (by simp), get_push_last]
    have y11 : h2[h1.size + 1]? = some (.cells [.int .i64 a, .int .i64 b].toArray 50) := by rw [hh2, Array.getElem?_push, if_pos (by simp)]
    rw [← hh2]
    clear hh2
    have B2 : Bel g.size g h2 := B1.trans (b2.mono (by omega))
    have Bh2 := hg.trans (B2.mono gs)
    have x02 := B2.get (by omega) x0
    have x12 := B2.get (by omega) x1
    have y92 := b2.get (by omega) y9
    by_cases e : chnE st.cs x = 0
    case neg =>
      have hE : chnR chn0 l = (chnE st.cs x, st) := by rw [hr, chnR_stop e]
      have eE : chainE l = chnE st.cs x := by unfold chainE; rw [hE]
      have eS : chainS l = storeZ := by unfold chainS; rw [eE, if_neg e]
      have eO : chainO l = [] := by unfold chainO; rw [eE, if_neg e]
      have w0 := wr_get x02 0 storeZ
      rw [if_pos ⟨by simp, rfl⟩, lput_full rfl] at w0
      have w0' : wr h2 ⟨h.size, 0, none⟩ [.int .i64 0, .int .i64 0, .int .i64 0, .int .i64 0, .int .i64 0, .int .i64 0, .int .i64 0, .int .i64 0, .int .i64 0, .int .i64 0, .int .i64 0, .int .i64 0, .int .i64 0, .int .i64 0, .int .i64 0, .int .i64 0, .int .i64 0, .int .i64 0, .int .i64 0, .int .i64 0, .int .i64 0, .int .i64 0, .int .i64 0, .int .i64 0, .int .i64 0, .int .i64 0, .int .i64 0, .int .i64 0, .int .i64 0, .int .i64 0, .int .i64 0, .int .i64 0, .bool false, .bool false, .bool false, .bool false, .bool false, .bool false, .bool false, .bool false] = some (h2.setIfInBounds h.size (.cells storeZ.toArray 54)) := w0
      have hl2 : h.size < h2.size := by omega
      rw [eE, eS, eO]
      simp (config := {maxSteps := 2000000, implicitDefEqProofs := false}) only [go_sem, ↓reduceIte, Nat.reduceEqDiff, Nat.reduceAdd, Nat.reduceMul, Nat.reduceLeDiff, Nat.reduceLT, Nat.reduceSub, IntWalk.iteOmega, IntWalk.toNatUp, reduceCtorEq, false_and, and_false, false_or, or_false, true_or, or_true, not_true_eq_false, not_false_eq_true, Bool.not_true, Bool.not_false, Bool.and_true, Bool.true_and, Bool.and_false, Bool.false_and, Bool.not_eq_true, beq_self_eq_true, Nat.add_zero, Int.reduceLE, Int.reduceLT, Int.reduceToNat, Int.reduceNeg, f3, e, w0', hl2, hZ, hZo]
      exact ⟨⟨_, _, _, rfl, rfl, OEnts.nil _ _⟩, Bh2.addSet (Nat.le_refl _) _⟩
    have r10 := rd_last y10 D40
    have w1 := wr_get x12 0 D
    rw [if_pos ⟨by omega, hDone⟩, lput_full (by omega)] at w1
    obtain ⟨h3, hh3⟩ : ∃ h3 : Hp, h3 = h2.setIfInBounds (h.size + 1) (.cells D.toArray 54) := ⟨_, rfl⟩
    rw [← hh3] at w1
    have z3 : h3.size = h2.size := by rw [hh3]; simp
    have x13 : h3[h.size + 1]? = some (.cells D.toArray 54) := by rw [hh3, Array.getElem?_setIfInBounds, if_pos rfl, if_pos (by omega)]
    have n3 : ∀ k, k ≠ h.size + 1 → h3[k]? = h2[k]? := fun k hk => by rw [hh3, Array.getElem?_setIfInBounds, if_neg (by omega)]
    have x03 : h3[h.size]? = some (.cells storeZ.toArray 54) := by rw [n3 _ (by omega)]; exact x02
    have y93 := (n3 g.size (by omega)).trans y92
    have y113 := (n3 (h1.size + 1) (by omega)).trans y11
    have Bh3 : Bel h.size h h3 := by rw [hh3]; exact Bh2.addSet (by omega) _
    have os3 : OBs (h.size + 2) 5 h3 (F 7) st.sum := by rw [hh3]; exact (os.bel B2 (Nat.le_refl _)).setLow (by omega) _
    have oe3 : OEnts (h.size + 2) h3 (F 6) st.out := by rw [hh3]; exact (oe.bel B2 (Nat.le_refl _)).setLow (by omega) _
    clear hh3
    obtain ⟨p7, c7, hf7, _⟩ := os3.open
    have r9 := rd_last y93 (n := 5) rfl
    have r11 := rd_last y113 (n := 2) rfl
    obtain ⟨ok', a', b', ea, eb, la, lb⟩ := step_ok ok e
    obtain ⟨hD, ha, hb⟩ := hz e
    rw [ea] at ha
    rw [eb] at hb
    have hst : chnL st.cs st.sum x = linkS st.sum x.k x.c x.s x.n x.v a' b' := by unfold chnL; rw [ea, eb]; rfl
    subst ha hb
    rw [hf7] at os3
    simp (config := {maxSteps := 2000000, implicitDefEqProofs := false}) only [go_sem, ↓reduceIte, Nat.reduceEqDiff, Nat.reduceAdd, Nat.reduceMul, Nat.reduceLeDiff, Nat.reduceLT, Nat.reduceSub, IntWalk.iteOmega, IntWalk.toNatUp, reduceCtorEq, false_and, and_false, false_or, or_false, true_or, or_true, not_true_eq_false, not_false_eq_true, Bool.not_true, Bool.not_false, Bool.and_true, Bool.true_and, Bool.and_false, Bool.false_and, Bool.not_eq_true, beq_self_eq_true, Nat.add_zero, Int.reduceLE, Int.reduceLT, Int.reduceToNat, Int.reduceNeg, f5, hf7, e, r10, w1, r9, r11]
    refine (link_ok T h3 _ st.sum os3.bs ok.sum x.k x.c x.s x.n x.v (chnE_zero e).2 a' b' la lb (tk.bels Bh3)).use ?_
    rintro w4 h4 ⟨o4, b4⟩
    have z4 := b4.size
    have Bh4 := Bh3.trans (b4.mono Bh3.size)
    have x04 := b4.get (by omega) x03
    have x14 := b4.get (by omega) x13
    have y94 := b4.get (by omega) y93
    have y114 := b4.get (by omega) y113
    have r94 := rd_last y94 (n := 5) rfl
    have r114 := rd_last y114 (n := 2) rfl
    have oe4 := oe3.bel b4 (Nat.le_refl _)
    obtain ⟨p6, c6, hf6⟩ := oe3.open
    rw [hf6] at oe4
    rw [← hst] at o4
    have ls : (chnL st.cs st.sum x).length = 32 := by rw [hst]; exact linkS_length _ _ _ _ _ _ _ _
    obtain ⟨pw4, cw4, rfl, _⟩ := o4.open
    have k1 : g.size < h4.size := by omega
    have k2 : h1.size + 1 < h4.size := by omega
    refine VS.w (h4.size) [7, 8] (.q 0 (.q 1 (.q 2 (.q 3 (.s 4 (.q 5 (.s 6 (.w 7 (.w 8 .nil))))))))) mixed (by kernel_rfl) ?_
    simp (config := {maxSteps := 2000000, implicitDefEqProofs := false}) only [go_sem, ↓reduceIte, Nat.reduceEqDiff, Nat.reduceAdd, Nat.reduceMul, Nat.reduceLeDiff, Nat.reduceLT, Nat.reduceSub, IntWalk.iteOmega, IntWalk.toNatUp, reduceCtorEq, false_and, and_false, false_or, or_false, true_or, or_true, not_true_eq_false, not_false_eq_true, Bool.not_true, Bool.not_false, Bool.and_true, Bool.true_and, Bool.and_false, Bool.false_and, Bool.not_eq_true, beq_self_eq_true, Nat.add_zero, Int.reduceLE, Int.reduceLT, Int.reduceToNat, Int.reduceNeg, hf6, r94, r114, k1, k2]
    refine (clone_ok T h4 _ _ o4.bs (by omega)).use ?_
    rintro w5 h5 ⟨o5, b5⟩
    obtain ⟨p5, c5, rfl, _⟩ := o5.open
    have z5 := b5.size
    have oe5 := oe4.bel b5 (Nat.le_refl _)
    obtain ⟨es, s1, s2⟩ := oe5.ex
    have les := s2.length
    have hone := Ts.one (E := 112) (h := h5) (enc := entC) (n := 8) ⟨x, a', b', p5, (chnL st.cs st.sum x).length, c5⟩ (fun _ => rfl) 1
    unfold entC at hone
    have k3 : g.size < h5.size := by omega
    simp (config := {maxSteps := 2000000, implicitDefEqProofs := false}) only [go_sem, ↓reduceIte, Nat.reduceEqDiff, Nat.reduceAdd, Nat.reduceMul, Nat.reduceLeDiff, Nat.reduceLT, Nat.reduceSub, IntWalk.iteOmega, IntWalk.toNatUp, reduceCtorEq, false_and, and_false, false_or, or_false, true_or, or_true, not_true_eq_false, not_false_eq_true, Bool.not_true, Bool.not_false, Bool.and_true, Bool.true_and, Bool.and_false, Bool.false_and, Bool.not_eq_true, beq_self_eq_true, Nat.add_zero, Int.reduceLE, Int.reduceLT, Int.reduceToNat, Int.reduceNeg, b5]
    refine append_ts (E := 112) (B := h.size + 2) (n := 8) (bytes := 80) tsl47 Tryd.underlying47 tn112 tz112 rfl tb112 entC_one (s1.push _) (by simp; omega) hone (by simp only [List.length_singleton]; omega) (by omega) ?_
    intro w6 h6 o6 _ b6
    have s2' := OEnts.app (s1.push _) (s2.mono (fun w t q => q.push _)) b6
    have b56 : Bel (h.size + 2) h5 h6 := (Bel.push (by omega) _).trans (b6.bel (by simp; omega) s1.own.blk)
    have Bh6 : Bel h.size h h6 := (Bh4.trans (b5.mono Bh4.size)).trans (b56.mono (by omega))
    have z6 := b56.size
    have x06 := b56.get (by omega) (b5.get (by omega) x04)
    have x16 := b56.get (by omega) (b5.get (by omega) x14)
    have q5 := ((o5.mono (B' := h.size + 2) (by omega)).push (.cells [.int .i64 x.k, .int .i64 x.c, .int .i64 x.s, .int .i64 x.n, .int .i64 x.v, .int .i64 (a' : Nat), .int .i64 (b' : Nat), .slice p5 (chnL st.cs st.sum x).length c5].toArray 112)).but b6 (fun b hb => own_apart (by decide) o5.own s1.own b hb)
    have q4 := (((o4.mono (B' := h.size + 2) (by omega)).bel b5 (Nat.le_refl _)).push (.cells [.int .i64 x.k, .int .i64 x.c, .int .i64 x.s, .int .i64 x.n, .int .i64 x.v, .int .i64 (a' : Nat), .int .i64 (b' : Nat), .slice p5 (chnL st.cs st.sum x).length c5].toArray 112)).but b6 (fun b hb => own_apart (by decide) (o4.bel b5 (Nat.le_refl _)).own s1.own b hb)
    simp (config := {maxSteps := 2000000, implicitDefEqProofs := false}) only [go_sem, ↓reduceIte, Nat.reduceEqDiff, Nat.reduceAdd, Nat.reduceMul, Nat.reduceLeDiff, Nat.reduceLT, Nat.reduceSub, IntWalk.iteOmega, IntWalk.toNatUp, reduceCtorEq, false_and, and_false, false_or, or_false, true_or, or_true, not_true_eq_false, not_false_eq_true, Bool.not_true, Bool.not_false, Bool.and_true, Bool.true_and, Bool.and_false, Bool.false_and, Bool.not_eq_true, beq_self_eq_true, Nat.add_zero, Int.reduceLE, Int.reduceLT, Int.reduceToNat, Int.reduceNeg, f20]
    refine ⟨⟨Bh6, f0, f3, f5, f18, f19, x06, i + 1, stepC st x, hlt, rfl, ?_, ok', ?_, ?_, ?_, q4⟩, ?_⟩
    · rw [hr, chnR_go e]
    · simp only [stepC, List.length_append, List.length_singleton]; omega
    · rw [show (stepC st x).cs = D from hD.symm]; exact x16
    · exact ⟨_, o6, s2'.snoc ⟨rfl, ea.symm, eb.symm, q5⟩⟩
    · simp only [vi, updo_some, ↓reduceIte, f20]; omega
  · have hge : ¬ (i : Int) < l.length := by omega
    obtain rfl : i = l.length := by omega
    rw [List.drop_length, chnR_nil] at hr
    have eE : chainE l = 0 := by unfold chainE; rw [hr]
    have eS : chainS l = st.cs := by unfold chainS; rw [eE, if_pos rfl, hr]
    have eO : chainO l = st.out := by unfold chainO; rw [eE, if_pos rfl, hr]
    have hcl : st.cs.length = 40 := fitK_length ok.fit
    have hone := fitK_one ok.fit
    have r1 := rd_last x1 hcl
    have w0 := wr_get x0 0 st.cs
    rw [if_pos ⟨by omega, hone⟩, lput_full (by omega)] at w0
    have hl0 : h.size < g.size := by omega
    obtain ⟨p6, c6, hf6⟩ := oe.open
    rw [eE, eS, eO]
    simp (config := {maxSteps := 2000000, implicitDefEqProofs := false}) only [go_sem, ↓reduceIte, Nat.reduceEqDiff, Nat.reduceAdd, Nat.reduceMul, Nat.reduceLeDiff, Nat.reduceLT, Nat.reduceSub, IntWalk.iteOmega, IntWalk.toNatUp, reduceCtorEq, false_and, and_false, false_or, or_false, true_or, or_true, not_true_eq_false, not_false_eq_true, Bool.not_true, Bool.not_false, Bool.and_true, Bool.true_and, Bool.and_false, Bool.false_and, Bool.not_eq_true, beq_self_eq_true, Nat.add_zero, Int.reduceLE, Int.reduceLT, Int.reduceToNat, Int.reduceNeg, f18, f19, f20, hge]
    refine VS.w (h.size) [] (.q 0 (.q 2 (.s 1 (.s 3 (.q 4 .nil))))) mixed (by kernel_rfl) ?_
    simp (config := {maxSteps := 2000000, implicitDefEqProofs := false}) only [go_sem, ↓reduceIte, Nat.reduceEqDiff, Nat.reduceAdd, Nat.reduceMul, Nat.reduceLeDiff, Nat.reduceLT, Nat.reduceSub, IntWalk.iteOmega, IntWalk.toNatUp, reduceCtorEq, false_and, and_false, false_or, or_false, true_or, or_true, not_true_eq_false, not_false_eq_true, Bool.not_true, Bool.not_false, Bool.and_true, Bool.true_and, Bool.and_false, Bool.false_and, Bool.not_eq_true, beq_self_eq_true, Nat.add_zero, Int.reduceLE, Int.reduceLT, Int.reduceToNat, Int.reduceNeg, f3, f5, hf6, r1, w0, hl0, g1]
    have oe' := oe
    rw [hf6] at oe'
    exact ⟨⟨_, 0, st.cs, by rw [take_len hcl], rfl, (oe'.setLow (by omega) _).mono (by omega)⟩, hg.addSet (Nat.le_refl _) _⟩
end Go.Proofs.YtnpacofabdgcdaaDoor
