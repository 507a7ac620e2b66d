/- Records of a tape, told again: stable.Recover, and the document's way; no condition but those in the statements. -/
import Derived.Test.YtnpacofabdgcdaaDoorRca
import Derived.Test.YtnpacofabdgcdaaDoorTape
namespace Go.Proofs.YtnpacofabdgcdaaDoor
open Go Go.V
set_option linter.unusedSimpArgs false
set_option linter.unusedVariables false
set_option maxRecDepth 100000
theorem bs_mid {h : Hp} {bp op m c k n off m' c' : Nat} {l : List Nat} (s : Bs h (.slice (some ⟨bp, op, none⟩) m c) l) (hm : l.length = m) (hk : k + n ≤ m) (ho : off = op + k) (hm' : m' = n) : Bs h (.slice (some ⟨bp, off, none⟩) m' c') ((l.drop k).take n) := by
  subst ho; subst hm'
  have s1 := bs_cutF s (k := k) (by omega) hm c'
  have e : m - k = (l.drop k).length := by rw [List.length_drop]; omega
  rw [e] at s1
  exact s1.fore (by rw [List.length_drop]; omega) c'
def recN (l : List Nat) (k : Nat) : Nat := 1 + l.getD k 0
/-- One record more, or none. -/
def recStep (l : List Nat) (a : Acp) (k : Nat) : Option (Acp × Nat) :=
  if k < l.length ∧ k + recN l k + 4 ≤ l.length ∧ (shaS ((l.drop k).take (recN l k))).take 4 = (l.drop (k + recN l k)).take 4 then
    (bodyS a ((l.drop (k + 1)).take (recN l k - 1))).map fun x => (x, k + (recN l k + 4))
  else none
inductive Rec (l : List Nat) : Acp → Nat → Acp → Nat → Prop
  | stop {a : Acp} {k : Nat} : recStep l a k = none → Rec l a k a k
  | go {a a' r : Acp} {k k' j : Nat} : recStep l a k = some (a', k') → Rec l a' k' r j → Rec l a k r j
theorem Rec.det {l : List Nat} {a r s : Acp} {k i j : Nat} (h : Rec l a k r i) : Rec l a k s j → r = s ∧ i = j := by
  induction h with
  | stop e =>
    intro h2
    cases h2 with
    | stop _ => exact ⟨rfl, rfl⟩
    | go e2 _ => rw [e] at e2; cases e2
  | go e _ ih =>
    intro h2
    cases h2 with
    | stop e2 => rw [e] at e2; cases e2
    | go e2 h3 =>
      rw [e] at e2
      cases e2
      exact ih h3
def acp0 : Acp := ⟨⟨0, 0⟩, []⟩
def RecRes (B : Nat) (h' : Hp) (v' : Value) (l : List Nat) (n : Int) : Prop := ∃ (r : Acp) (k : Nat) (E : Int) (w : Value), v' = .tuple [.agg (accC r.p w).toArray, .int .i64 k, .int .i64 E].toArray ∧ Ots B 80 voteC 8 h' w r.l ∧ k ≤ l.length ∧ r.l.length ≤ k ∧
  if tapeOk l n then E = 0 ∧ Rec l acp0 0 r k else E = 5 ∧ r = acp0 ∧ k = 0
theorem insV_length {l : List Vt} (hs : Srt l) (v : Vt) : (insV l v).length ≤ l.length + 1 := by
  have : ∀ l : List Vt, (l.filter (fun x => decide (x.slot < v.slot))).length + (l.filter (fun x => decide (v.slot < x.slot))).length ≤ l.length := by
    intro l
    induction l with
    | nil => simp
    | cons x l ih =>
      simp only [List.filter_cons, List.length_cons]
      by_cases q1 : x.slot < v.slot
      · rw [if_pos (by simpa using q1), if_neg (by simp; omega), List.length_cons]; omega
      · rw [if_neg (by simpa using q1)]
        by_cases q2 : v.slot < x.slot
        · rw [if_pos (by simpa using q2), List.length_cons]; omega
        · rw [if_neg (by simpa using q2)]; omega
  have := this l
  unfold insV
  rw [List.length_append, List.length_cons]; omega
theorem bodyS_length {a x : Acp} {b : List Nat} (h : bodyS a b = some x) : x.l.length ≤ a.l.length + 1 := by
  unfold bodyS at h
  split at h
  · split at h
    · cases h; simp
    · cases h
  · split at h
    · split at h
      · cases h
      · split at h
        · rename_i q
          cases h
          have : accErr a.p a.l = 0 := by
            unfold acErr at q
            split at q
            · cases q
            · rename_i hn; simpa using hn
          exact insV_length (accErr_srt this) _
        · cases h
    · cases h
set_option maxHeartbeats 2000000 in
theorem recover_ok (T : World) (h : Hp) (v : Value) (n : Int) (l : List Nat) (s : Bs h v l) (hl : l.length ≤ 140737488355328) (tk : Tk h) :
    CallsH Tryd.prog T 56 #[.agg [v, .int .i64 n].toArray] h fun v' h' => RecRes h.size h' v' l n ∧ Bel h.size h h' := by
  obtain ⟨p, c, rfl, _⟩ := s.open
  refine CallsH.of_code2 (args := [_]) Tryd.func56 rfl rfl rfl rfl ?_
  unfold RecRes
  simp (config := {maxSteps := 2000000, implicitDefEqProofs := false}) only [go_sem, ↓reduceIte, Nat.reduceEqDiff, Nat.reduceAdd, Nat.reduceMul, Nat.reduceLeDiff, Nat.reduceLT, Nat.reduceSub, IntWalk.iteOmega, IntWalk.toNatUp, reduceCtorEq, false_and, and_false, false_or, or_false, true_or, or_true, not_true_eq_false, not_false_eq_true, Bool.not_true, Bool.not_false, Bool.and_true, Bool.true_and, Bool.and_false, Bool.false_and, Bool.not_eq_true, beq_self_eq_true, Nat.add_zero, Int.reduceLE, Int.reduceLT, Int.reduceToNat, Int.reduceNeg]
  obtain ⟨h0, hh0⟩ : ∃ h0 : Hp, h0 = (h.push (.cells [.slice p l.length c, .int .i64 n].toArray 65)).push (.cells [.int .i64 0, .int .i64 0, .slice none 0 0].toArray 85) := ⟨_, rfl⟩
  have b0 : Bel h.size h h0 := by rw [hh0]; exact ((Bel.refl _ _).add _).add _
  have s0 : h0.size = h.size + 2 := by rw [hh0]; simp
  have z0 : h0[h.size + 1]? = some (.cells [.int .i64 0, .int .i64 0, .slice none 0 0].toArray 85) := by
    rw [hh0, Array.getElem?_push, if_pos (by simp)]
  have e0 : (h.push (.cells #[Value.slice p l.length c, .int .i64 n] 65)).push (.cells #[Value.int .i64 0, .int .i64 0, .slice none 0 0] 85) = h0 := hh0.symm
  rw [e0]
  clear e0 hh0
  have fin : ∀ (G : Hp) (w : List Value), w.length = 3 → w.all oneC = true → G[h.size + 1]? = some (.cells [.int .i64 0, .int .i64 0, .slice none 0 0].toArray 85) → wr G ⟨h.size + 1, 0, none⟩ w = some (G.setIfInBounds (h.size + 1) (.cells w.toArray 85)) := by
    intro G w h3 h1 hx
    rw [wr_get (b := h.size + 1) hx 0 w, lput_full (by rw [h3]; rfl), if_pos ⟨by rw [h3]; simp, h1⟩]
  refine (open_ok T h0 _ n l (s.bel b0) hl).use ?_
  rintro _ h1 ⟨b1, o1⟩
  have s1 := b1.size
  have B1 : Bel h.size h h1 := b0.trans (b1.mono (by omega))
  have z1 := b1.get (by omega) z0
  by_cases ok : tapeOk l n
  case neg =>
    rw [if_neg (show ¬ (l.length ≤ 100000 ∧ 0 ≤ n ∧ n ≤ l.length) from ok)] at o1
    subst o1
    have y2 := fin h1 [.int .i64 0, .int .i64 0, .slice none 0 0] rfl rfl z1
    have hlt : h.size + 1 < h1.size := by omega
    have hne : ¬ h.size + 1 = h1.size := by omega
    simp (config := {maxSteps := 2000000, implicitDefEqProofs := false}) only [go_sem, ↓reduceIte, Nat.reduceEqDiff, Nat.reduceAdd, Nat.reduceMul, Nat.reduceLeDiff, Nat.reduceLT, Nat.reduceSub, IntWalk.iteOmega, IntWalk.toNatUp, reduceCtorEq, false_and, and_false, false_or, or_false, true_or, or_true, not_true_eq_false, not_false_eq_true, Bool.not_true, Bool.not_false, Bool.and_true, Bool.true_and, Bool.and_false, Bool.false_and, Bool.not_eq_true, beq_self_eq_true, Nat.add_zero, Int.reduceLE, Int.reduceLT, Int.reduceToNat, Int.reduceNeg, y2, hne, hlt]
    refine ⟨⟨acp0, 0, 5, .slice none 0 0, rfl, Ots.nil _ _ _ _ _, Nat.zero_le _, Nat.le_refl _, ?_⟩, (B1.addSet (by omega) _).addP (by simp; omega) _⟩
    rw [if_neg ok]
    exact ⟨rfl, rfl, rfl⟩
  rw [if_pos (show (l.length ≤ 100000 ∧ 0 ≤ n ∧ n ≤ l.length) from ok)] at o1
  obtain ⟨w, rfl, o1⟩ := o1
  obtain ⟨pw, cw, rfl, hcw⟩ := o1.open
  have l1 := ok.1
  obtain ⟨h2, hh2⟩ : ∃ h2 : Hp, h2 = (h1.push (.cells [.slice pw l.length cw, .int .i64 n].toArray 65)).push (.cells [.int .i64 0, .int .i64 0, .slice none 0 0].toArray 85) := ⟨_, rfl⟩
  have e2 : (h1.push (.cells #[Value.slice pw l.length cw, .int .i64 n] 65)).push (.cells #[Value.int .i64 0, .int .i64 0, .slice none 0 0] 85) = h2 := hh2.symm
  simp (config := {maxSteps := 2000000, implicitDefEqProofs := false}) only [go_sem, ↓reduceIte, Nat.reduceEqDiff, Nat.reduceAdd, Nat.reduceMul, Nat.reduceLeDiff, Nat.reduceLT, Nat.reduceSub, IntWalk.iteOmega, IntWalk.toNatUp, reduceCtorEq, false_and, and_false, false_or, or_false, true_or, or_true, not_true_eq_false, not_false_eq_true, Bool.not_true, Bool.not_false, Bool.and_true, Bool.true_and, Bool.and_false, Bool.false_and, Bool.not_eq_true, beq_self_eq_true, Nat.add_zero, Int.reduceLE, Int.reduceLT, Int.reduceToNat, Int.reduceNeg]
  rw [e2]
  have b2 : Bel h1.size h1 h2 := by rw [hh2]; exact ((Bel.refl _ _).add _).add _
  have s2 : h2.size = h1.size + 2 := by rw [hh2]; simp
  have t2 : h2[h1.size]? = some (.cells [.slice pw l.length cw, .int .i64 n].toArray 65) := by
    rw [hh2, Array.getElem?_push, if_neg (by simp), get_push_last]
  have a2 : h2[h1.size + 1]? = some (.cells [.int .i64 0, .int .i64 0, .slice none 0 0].toArray 85) := by
    rw [hh2, Array.getElem?_push, if_pos (by simp)]
  clear e2 hh2
  have z2 := b2.get (by omega) z1
  obtain ⟨A, hA⟩ : ∃ A, A = h1.size + 1 := ⟨_, rfl⟩
  rw [← hA] at a2 ⊢
  have sw := o1.bs.bel b2
  have B2 : Bel h.size h h2 := B1.trans (b2.mono (by omega))
  have tk2 : Tk h2 := tk.bels B2
  have blo := o1.own.blk
  refine VS.loop' (fun F g => Bel A h2 g ∧ F 2 = .pointer (some ⟨h.size + 1, 0, none⟩) ∧ F 5 = .pointer (some ⟨h1.size, 0, none⟩) ∧ F 7 = .pointer (some ⟨A, 0, none⟩) ∧ ∃ (k : Nat) (a : Acp) (p1 : Option Addr) (c1 : Nat), k ≤ l.length ∧ F 8 = .int .i64 k ∧ g[A]? = some (.cells (accC a.p (.slice p1 a.l.length c1)).toArray 85) ∧ Ots (A + 1) 80 voteC 8 g (.slice p1 a.l.length c1) a.l ∧ a.l.length ≤ k ∧ ∀ r j, Rec l a k r j → Rec l acp0 0 r j)
    (fun F _ => l.length - (vi (F 8)).toNat) rfl ⟨Bel.refl _ _, rfl, rfl, rfl, 0, acp0, none, 0, Nat.zero_le _, rfl, a2, Ots.nil _ _ _ _ _, Nat.zero_le _, fun _ _ h => h⟩ ?_
  rintro F g ⟨hg, f2, f5, f7, k, a, p1, c1, hk, f8, xa, oa, hal, hrec⟩
  have tg := hg.get (by omega) t2
  have zg := hg.get (by omega) z2
  have hzA := lt_of_get xa
  have fact : ∀ G, Bel g.size g G → V.hc G ⟨h1.size, 0, none⟩ = some (.slice pw l.length cw) ∧ rd G ⟨A, 0, none⟩ 3 = some [.int .i64 a.p.r, .int .i64 a.p.n, .slice p1 a.l.length c1] ∧
      wr G ⟨h.size + 1, 0, none⟩ [.int .i64 a.p.r, .int .i64 a.p.n, .slice p1 a.l.length c1] = some (G.setIfInBounds (h.size + 1) (.cells [.int .i64 a.p.r, .int .i64 a.p.n, .slice p1 a.l.length c1].toArray 85)) ∧ h.size + 1 < G.size ∧ Bel A h2 G ∧
      G[A]? = some (.cells (accC a.p (.slice p1 a.l.length c1)).toArray 85) ∧ Ots (A + 1) 80 voteC 8 G (.slice p1 a.l.length c1) a.l ∧ Bs G (.slice pw l.length cw) l := by
    intro G hG
    have tG := hG.get (by omega) tg
    have zG := hG.get (by omega) zg
    have xG := hG.get (by omega) xa
    have bG : Bel A h2 G := hg.trans (hG.mono (by omega))
    exact ⟨by rw [hc_last tG]; rfl, rd_last xG rfl, fin G _ rfl rfl zG, lt_of_get zG, bG, xG, oa.bel hG (Nat.le_refl _), o1.bs.bel (b2.trans (bG.mono (by omega)))⟩
  have done : ∀ G, Bel g.size g G → recStep l a k = none → (∃ (r : Acp) (k' : Nat) (E : Int) (w : Value), Value.tuple [.agg (accC a.p (.slice p1 a.l.length c1)).toArray, .int .i64 (k : Nat), .int .i64 0].toArray = .tuple [.agg (accC r.p w).toArray, .int .i64 (k' : Nat), .int .i64 E].toArray ∧ Ots h.size 80 voteC 8 (G.setIfInBounds (h.size + 1) (.cells [.int .i64 a.p.r, .int .i64 a.p.n, .slice p1 a.l.length c1].toArray 85)) w r.l ∧ k' ≤ l.length ∧ r.l.length ≤ k' ∧ if tapeOk l n then E = 0 ∧ Rec l acp0 0 r k' else E = 5 ∧ r = acp0 ∧ k' = 0) ∧ Bel h.size h (G.setIfInBounds (h.size + 1) (.cells [.int .i64 a.p.r, .int .i64 a.p.n, .slice p1 a.l.length c1].toArray 85)) := by
    intro G hG e
    obtain ⟨_, _, _, _, bG, _, oG, _⟩ := fact G hG
    refine ⟨⟨a, k, 0, _, rfl, (oG.setLow (by omega) _).mono (by omega), hk, hal, ?_⟩, (B2.trans (bG.mono (by omega))).addSet (by omega) _⟩
    rw [if_pos ok]
    exact ⟨rfl, hrec _ _ (.stop e)⟩
  obtain ⟨rt, ra, wf, hlz, _, _, _, swg⟩ := fact g (Bel.refl _ _)
  by_cases hlt : k < l.length
  case neg =>
    have hlt' : ¬ (k : Int) < l.length := by omega
    have e : recStep l a k = none := by unfold recStep; rw [if_neg (fun hn => hlt hn.1)]
    simp (config := {maxSteps := 2000000, implicitDefEqProofs := false}) only [go_sem, ↓reduceIte, Nat.reduceEqDiff, Nat.reduceAdd, Nat.reduceMul, Nat.reduceLeDiff, Nat.reduceLT, Nat.reduceSub, IntWalk.iteOmega, IntWalk.toNatUp, reduceCtorEq, false_and, and_false, false_or, or_false, true_or, or_true, not_true_eq_false, not_false_eq_true, Bool.not_true, Bool.not_false, Bool.and_true, Bool.true_and, Bool.and_false, Bool.false_and, Bool.not_eq_true, beq_self_eq_true, Nat.add_zero, Int.reduceLE, Int.reduceLT, Int.reduceToNat, Int.reduceNeg, f2, f5, f7, f8, rt, hlt', ra, wf, hlz]
    exact done g (Bel.refl _ _) e
  have hlt' : (k : Int) < l.length := by omega
  obtain ⟨q', d', hv, hh⟩ := swg.opend
  simp only [Value.slice.injEq, true_and] at hv
  obtain ⟨rfl, rfl⟩ := hv
  obtain ⟨bx, ox, rfl, hbx, hcs⟩ := hh (by intro e; subst e; simp at hlt)
  have rx := hcs k hlt
  have hx := getD_byte swg.byte k
  obtain ⟨N, hN⟩ : ∃ N, N = recN l k := ⟨_, rfl⟩
  have hN' : N = 1 + l.getD k 0 := hN
  have e1 : (1 : Int) + ((l.getD k 0 : Nat) : Int) = (N : Int) := by omega
  have e2 : (N : Int) + 4 = ((N + 4 : Nat) : Int) := by omega
  have d1 : ¬ cw = k := by omega
  have n0 : (0 : Int) < ((l.length - k : Nat) : Int) := by omega
  have n1 : (0 : Int) ≤ (k : Int) := by omega
  have n2 : (k : Int) ≤ (l.length : Int) := by omega
  by_cases hsh : l.length - k < N + 4
  case pos =>
    have hsh' : ((l.length - k : Nat) : Int) < ((N + 4 : Nat) : Int) := by omega
    have e : recStep l a k = none := by unfold recStep; rw [← hN, if_neg (fun hn => by omega)]
    simp (config := {maxSteps := 2000000, implicitDefEqProofs := false}) only [go_sem, ↓reduceIte, Nat.reduceEqDiff, Nat.reduceAdd, Nat.reduceMul, Nat.reduceLeDiff, Nat.reduceLT, Nat.reduceSub, IntWalk.iteOmega, IntWalk.toNatUp, reduceCtorEq, false_and, and_false, false_or, or_false, true_or, or_true, not_true_eq_false, not_false_eq_true, Bool.not_true, Bool.not_false, Bool.and_true, Bool.true_and, Bool.and_false, Bool.false_and, Bool.not_eq_true, beq_self_eq_true, Nat.add_zero, Int.reduceLE, Int.reduceLT, Int.reduceToNat, Int.reduceNeg, f2, f5, f7, f8, rt, hlt', ra, wf, hlz, rx, e1, e2, d1, n0, n1, n2, hsh', Int.toNat_natCast]
    exact done g (Bel.refl _ _) e
  have hsh' : ¬ ((l.length - k : Nat) : Int) < ((N + 4 : Nat) : Int) := by omega
  have n3 : (0 : Int) ≤ (N : Int) := by omega
  have n4 : (N : Int) ≤ ((cw - k : Nat) : Int) := by omega
  simp (config := {maxSteps := 2000000, implicitDefEqProofs := false}) only [go_sem, ↓reduceIte, Nat.reduceEqDiff, Nat.reduceAdd, Nat.reduceMul, Nat.reduceLeDiff, Nat.reduceLT, Nat.reduceSub, IntWalk.iteOmega, IntWalk.toNatUp, reduceCtorEq, false_and, and_false, false_or, or_false, true_or, or_true, not_true_eq_false, not_false_eq_true, Bool.not_true, Bool.not_false, Bool.and_true, Bool.true_and, Bool.and_false, Bool.false_and, Bool.not_eq_true, beq_self_eq_true, Nat.add_zero, Int.reduceLE, Int.reduceLT, Int.reduceToNat, Int.reduceNeg, f2, f5, f7, f8, rt, hlt', rx, e1, e2, d1, n0, n1, n2, n3, n4, hsh', Int.toNat_natCast]
  have sN : Bs g (.slice (some ⟨bx, ox + k, none⟩) N (cw - k)) ((l.drop k).take N) := bs_mid swg rfl (by omega) rfl rfl
  have Bg : Bel h.size h g := B2.trans (hg.mono (by omega))
  refine (shaSum_ok T g _ _ sN (tk.bels Bg)).use ?_
  rintro _ g1 ⟨⟨w5, rfl, o5⟩, b5⟩
  have e0 : sumErr ((l.drop k).take N).length = 0 := by unfold sumErr; rw [List.length_take, List.length_drop, if_neg (by omega)]
  rw [e0, if_pos rfl] at o5
  rw [e0]
  have ml := shaS_length ((l.drop k).take N)
  obtain ⟨M, hM⟩ : ∃ M, M = shaS ((l.drop k).take N) := ⟨_, rfl⟩
  rw [← hM] at o5 ml
  obtain ⟨p5, c5, rfl, hc5⟩ := o5.open
  have sM := o5.bs
  obtain ⟨rt1, ra1, wf1, hlz1, bA1, xA1, oA1, sw1⟩ := fact g1 b5
  have s5 := b5.size
  have h4 : (4 : Int) ≤ (c5 : Int) := by omega
  have n5 : ((N + 4 : Nat) : Int) ≤ ((cw - k : Nat) : Int) := by omega
  have n6 : (N : Int) ≤ ((N + 4 : Nat) : Int) := by omega
  have n7 : (0 : Int) ≤ ((N + 4 : Nat) : Int) := by omega
  have d2 : ¬ cw - k = N := by omega
  have hMd : Bs g1 (.slice p5 4 c5) (M.take 4) := sM.fore (by omega) c5
  have hRd : Bs g1 (.slice (some ⟨bx, ox + k + N, none⟩) (N + 4 - N) (cw - k - N)) ((l.drop (k + N)).take 4) := bs_mid sw1 rfl (by omega) (by omega) (by omega)
  simp (config := {maxSteps := 2000000, implicitDefEqProofs := false}) only [go_sem, ↓reduceIte, Nat.reduceEqDiff, Nat.reduceAdd, Nat.reduceMul, Nat.reduceLeDiff, Nat.reduceLT, Nat.reduceSub, IntWalk.iteOmega, IntWalk.toNatUp, reduceCtorEq, false_and, and_false, false_or, or_false, true_or, or_true, not_true_eq_false, not_false_eq_true, Bool.not_true, Bool.not_false, Bool.and_true, Bool.true_and, Bool.and_false, Bool.false_and, Bool.not_eq_true, beq_self_eq_true, Nat.add_zero, Int.reduceLE, Int.reduceLT, Int.reduceToNat, Int.reduceNeg, f2, f5, f7, f8]
  refine VS.w (g1.size) [] (.q 0 (.q 1 (.q 2 (.q 3 (.q 4 (.q 5 (.q 6 (.s 7 (.q 8 .nil))))))))) mixed (by kernel_rfl) ?_
  simp (config := {maxSteps := 2000000, implicitDefEqProofs := false}) only [go_sem, ↓reduceIte, Nat.reduceEqDiff, Nat.reduceAdd, Nat.reduceMul, Nat.reduceLeDiff, Nat.reduceLT, Nat.reduceSub, IntWalk.iteOmega, IntWalk.toNatUp, reduceCtorEq, false_and, and_false, false_or, or_false, true_or, or_true, not_true_eq_false, not_false_eq_true, Bool.not_true, Bool.not_false, Bool.and_true, Bool.true_and, Bool.and_false, Bool.false_and, Bool.not_eq_true, beq_self_eq_true, Nat.add_zero, Int.reduceLE, Int.reduceLT, Int.reduceToNat, Int.reduceNeg, f2, f5, f7, f8, h4, e2, n3, n5, n6, n7, d2, Int.toNat_natCast]
  refine (same_ok T g1 _ _ (M.take 4) ((l.drop (k + N)).take 4) hMd hRd (by rw [List.length_take]; omega)).pure ?_
  have eR : (l.drop (k + N)).take 4 = (l.drop (k + recN l k)).take 4 := by rw [← hN]
  by_cases heq : M.take 4 = (l.drop (k + N)).take 4
  case neg =>
    have hd : decide (M.take 4 = (l.drop (k + N)).take 4) = false := decide_eq_false heq
    have e : recStep l a k = none := by
      unfold recStep
      rw [← hN, ← hM, if_neg (fun hn => heq hn.2.2)]
    rw [hd]
    simp (config := {maxSteps := 2000000, implicitDefEqProofs := false}) only [go_sem, ↓reduceIte, Nat.reduceEqDiff, Nat.reduceAdd, Nat.reduceMul, Nat.reduceLeDiff, Nat.reduceLT, Nat.reduceSub, IntWalk.iteOmega, IntWalk.toNatUp, reduceCtorEq, false_and, and_false, false_or, or_false, true_or, or_true, not_true_eq_false, not_false_eq_true, Bool.not_true, Bool.not_false, Bool.and_true, Bool.true_and, Bool.and_false, Bool.false_and, Bool.not_eq_true, beq_self_eq_true, Nat.add_zero, Int.reduceLE, Int.reduceLT, Int.reduceToNat, Int.reduceNeg, f2, f5, f7, f8, ra1, wf1, hlz1]
    exact done g1 b5 e
  have hd : decide (M.take 4 = (l.drop (k + N)).take 4) = true := decide_eq_true heq
  rw [hd]
  obtain ⟨bd, hbd⟩ : ∃ bd, bd = (l.drop (k + 1)).take (N - 1) := ⟨_, rfl⟩
  have estep : recStep l a k = (bodyS a bd).map fun x => (x, k + (N + 4)) := by
    unfold recStep
    rw [← hN, ← hM, if_pos ⟨hlt, by omega, heq⟩, hbd]
  have lbd : bd.length = N - 1 := by rw [hbd, List.length_take, List.length_drop]; omega
  have sbd : Bs g1 (.slice (some ⟨bx, ox + k + 1, none⟩) (N - 1) (cw - k - 1)) bd := by rw [hbd]; exact bs_mid sw1 rfl (by omega) (by omega) rfl
  have call : ∀ G, Bel g1.size g1 G → CallsH Tryd.prog T 106 #[.agg #[.int .i64 a.p.r, .int .i64 a.p.n, .slice p1 a.l.length c1], .slice (some ⟨bx, ox + k + 1, none⟩) (N - 1) (cw - k - 1)] G fun v' h' => BodyRes G.size h' v' a bd ∧ Bel G.size G h' := fun G hG =>
    apply_ok T G a.p p1 c1 a.l _ (N - 1) (cw - k - 1) bd (oA1.ts.bel hG) (sbd.bel hG) lbd (by omega) (by omega) (by omega)
  have n8 : (1 : Int) ≤ (N : Int) := by omega
  have d3 : ¬ cw - k = 1 := by omega
  have q1 : A < g1.size := by omega
  have zfin : ∀ (G : Hp) (b : Nat) (z w : List Value), z.length = 3 → w.length = 3 → w.all oneC = true → G[b]? = some (.cells z.toArray 85) → wr G ⟨b, 0, none⟩ w = some (G.setIfInBounds b (.cells w.toArray 85)) := by
    intro G b z w hz h3 h1 hx
    rw [wr_get (b := b) hx 0 w, lput_full (by rw [h3, hz]), if_pos ⟨by rw [h3, hz]; simp, h1⟩]
  simp (config := {maxSteps := 2000000, implicitDefEqProofs := false}) only [go_sem, ↓reduceIte, Nat.reduceEqDiff, Nat.reduceAdd, Nat.reduceMul, Nat.reduceLeDiff, Nat.reduceLT, Nat.reduceSub, IntWalk.iteOmega, IntWalk.toNatUp, reduceCtorEq, false_and, and_false, false_or, or_false, true_or, or_true, not_true_eq_false, not_false_eq_true, Bool.not_true, Bool.not_false, Bool.and_true, Bool.true_and, Bool.and_false, Bool.false_and, Bool.not_eq_true, beq_self_eq_true, Nat.add_zero, Int.reduceLE, Int.reduceLT, Int.reduceToNat, Int.reduceNeg, f2, f5, f7, f8]
  refine VS.mono (N := fun F' g' => Bel g1.size g1 g' ∧ F' 2 = .pointer (some ⟨h.size + 1, 0, none⟩) ∧ F' 5 = .pointer (some ⟨h1.size, 0, none⟩) ∧ F' 7 = .pointer (some ⟨A, 0, none⟩) ∧ F' 8 = .int .i64 k ∧ F' 10 = .int .i64 N ∧ F' 14 = .bool (bodyS a bd).isSome ∧ ∃ (A' : Nat) (P : Bal) (p m : _) (c : Nat), g1.size ≤ A' ∧ F' 13 = .pointer (some ⟨A', 0, none⟩) ∧ g'[A']? = some (.cells (accC P (.slice p m c)).toArray 85) ∧ ∀ x, bodyS a bd = some x → P = x.p ∧ Ots g1.size 80 voteC 8 g' (.slice p m c) x.l) ?_ ?_ (fun _ _ _ h => h) (fun _ _ h => h)
  · refine VS.w (g1.size) [] (.q 0 (.q 1 (.q 2 (.q 3 (.or 4 (.q 5 (.q 6 (.q 7 (.s 8 (.s 9 (.q 10 .nil)))))) (.s 8 (.s 4 (.q 5 (.q 6 (.q 7 (.s 9 (.q 10 .nil)))))))))))) mixed (by kernel_rfl) ?_
    simp (config := {maxSteps := 2000000, implicitDefEqProofs := false}) only [go_sem, ↓reduceIte, Nat.reduceEqDiff, Nat.reduceAdd, Nat.reduceMul, Nat.reduceLeDiff, Nat.reduceLT, Nat.reduceSub, IntWalk.iteOmega, IntWalk.toNatUp, reduceCtorEq, false_and, and_false, false_or, or_false, true_or, or_true, not_true_eq_false, not_false_eq_true, Bool.not_true, Bool.not_false, Bool.and_true, Bool.true_and, Bool.and_false, Bool.false_and, Bool.not_eq_true, beq_self_eq_true, Nat.add_zero, Int.reduceLE, Int.reduceLT, Int.reduceToNat, Int.reduceNeg, f2, f5, f7, f8, ra1, q1, n3, n4, n8, d3, Int.toNat_natCast]
    refine ⟨?_, ?_⟩
    · refine (call g1 (Bel.refl _ _)).use ?_
      rintro _ g2 ⟨⟨P, p2, m2, c2, rfl, h2x⟩, b6⟩
      have s6 := b6.size
      unfold accC
      simp (config := {maxSteps := 2000000, implicitDefEqProofs := false}) only [go_sem, ↓reduceIte, Nat.reduceEqDiff, Nat.reduceAdd, Nat.reduceMul, Nat.reduceLeDiff, Nat.reduceLT, Nat.reduceSub, IntWalk.iteOmega, IntWalk.toNatUp, reduceCtorEq, false_and, and_false, false_or, or_false, true_or, or_true, not_true_eq_false, not_false_eq_true, Bool.not_true, Bool.not_false, Bool.and_true, Bool.true_and, Bool.and_false, Bool.false_and, Bool.not_eq_true, beq_self_eq_true, Nat.add_zero, Int.reduceLE, Int.reduceLT, Int.reduceToNat, Int.reduceNeg, f2, f5, f7, f8, b6]
      exact ⟨_, _, _, _, _, s6, rfl, get_push_last, fun x hx => ⟨(h2x x hx).1, (h2x x hx).2.push _⟩⟩
    · refine (call (g1.push (.cells [.int .i64 0, .int .i64 0, .slice none 0 0].toArray 85)) (Bel.push (Nat.le_refl _) _)).use ?_
      rintro _ g2 ⟨⟨P, p2, m2, c2, rfl, h2x⟩, b6⟩
      have B6 : Bel g1.size g1 g2 := (Bel.push (Nat.le_refl _) _).trans (b6.mono (by simp))
      have xA := b6.get (by simp) get_push_last
      have yA := zfin g2 g1.size _ [.int .i64 P.r, .int .i64 P.n, .slice p2 m2 c2] rfl rfl rfl xA
      have hz := lt_of_get xA
      unfold accC
      simp (config := {maxSteps := 2000000, implicitDefEqProofs := false}) only [go_sem, ↓reduceIte, Nat.reduceEqDiff, Nat.reduceAdd, Nat.reduceMul, Nat.reduceLeDiff, Nat.reduceLT, Nat.reduceSub, IntWalk.iteOmega, IntWalk.toNatUp, reduceCtorEq, false_and, and_false, false_or, or_false, true_or, or_true, not_true_eq_false, not_false_eq_true, Bool.not_true, Bool.not_false, Bool.and_true, Bool.true_and, Bool.and_false, Bool.false_and, Bool.not_eq_true, beq_self_eq_true, Nat.add_zero, Int.reduceLE, Int.reduceLT, Int.reduceToNat, Int.reduceNeg, f2, f5, f7, f8, B6, yA, hz]
      exact ⟨_, _, _, _, _, Nat.le_refl _, rfl, get_set xA, fun x hx => ⟨(h2x x hx).1, ((h2x x hx).2.setLow (b := g1.size) (by simp) _).mono (by simp)⟩⟩
  rintro F' g' ⟨hB, f2, f5, f7, f8, f10, f14, A', P, p2, m2, c2, hA', f13, xA', hx'⟩
  have sB := hB.size
  have hgG : Bel g.size g g' := b5.trans (hB.mono s5)
  obtain ⟨rt2, ra2, wf2, hlz2, bA2, xA2, oA2, sw2⟩ := fact g' hgG
  cases hbs : bodyS a bd with
  | none =>
    have e : recStep l a k = none := by rw [estep, hbs]; rfl
    rw [hbs] at f14
    simp (config := {maxSteps := 2000000, implicitDefEqProofs := false}) only [go_sem, ↓reduceIte, Nat.reduceEqDiff, Nat.reduceAdd, Nat.reduceMul, Nat.reduceLeDiff, Nat.reduceLT, Nat.reduceSub, IntWalk.iteOmega, IntWalk.toNatUp, reduceCtorEq, false_and, and_false, false_or, or_false, true_or, or_true, not_true_eq_false, not_false_eq_true, Bool.not_true, Bool.not_false, Bool.and_true, Bool.true_and, Bool.and_false, Bool.false_and, Bool.not_eq_true, beq_self_eq_true, Nat.add_zero, Int.reduceLE, Int.reduceLT, Int.reduceToNat, Int.reduceNeg, f2, f5, f7, f8, f10, f14, ra2, wf2, hlz2]
    exact done g' hgG e
  | some x =>
    obtain ⟨rfl, ox2⟩ := hx' x hbs
    obtain ⟨p3, c3, e3, _⟩ := ox2.open
    simp only [Value.slice.injEq] at e3
    obtain ⟨rfl, rfl, rfl⟩ := e3
    have e : recStep l a k = some (x, k + (N + 4)) := by rw [estep, hbs]; rfl
    have rA' : rd g' ⟨A', 0, none⟩ 3 = some [.int .i64 x.p.r, .int .i64 x.p.n, .slice p2 x.l.length c2] := rd_last xA' rfl
    have wA := zfin g' A _ [.int .i64 x.p.r, .int .i64 x.p.n, .slice p2 x.l.length c2] rfl rfl rfl xA2
    have zA := lt_of_get xA2
    have e4 : (k : Int) + ((N + 4 : Nat) : Int) = ((k + (N + 4) : Nat) : Int) := by omega
    have lx := bodyS_length hbs
    rw [hbs] at f14
    simp (config := {maxSteps := 2000000, implicitDefEqProofs := false}) only [go_sem, ↓reduceIte, Nat.reduceEqDiff, Nat.reduceAdd, Nat.reduceMul, Nat.reduceLeDiff, Nat.reduceLT, Nat.reduceSub, IntWalk.iteOmega, IntWalk.toNatUp, reduceCtorEq, false_and, and_false, false_or, or_false, true_or, or_true, not_true_eq_false, not_false_eq_true, Bool.not_true, Bool.not_false, Bool.and_true, Bool.true_and, Bool.and_false, Bool.false_and, Bool.not_eq_true, beq_self_eq_true, Nat.add_zero, Int.reduceLE, Int.reduceLT, Int.reduceToNat, Int.reduceNeg, f2, f5, f7, f8, f10, f13, f14, rA', wA, zA, e2, e4]
    refine ⟨⟨bA2.addSet (Nat.le_refl _) _, f2, f5, f7, k + (N + 4), x, p2, c2, by omega, rfl, get_set xA2, (ox2.setLow (by omega) _).mono (by omega), by omega, fun r j hr => hrec r j (.go e hr)⟩, ?_⟩
    simp only [vi, updo_some, ↓reduceIte, f8]; omega
end Go.Proofs.YtnpacofabdgcdaaDoor
namespace Go.Proofs.YtnpacofabdgcdaaDoor
open Go Go.V
set_option linter.unusedSimpArgs false
set_option linter.unusedVariables false
set_option maxRecDepth 100000
set_option maxHeartbeats 2000000 in
theorem recovered_ok (T : World) (h : Hp) (v : Value) (n : Int) (l : List Nat) (s : Bs h v l) (hcap : Cap v) (hl : l.length ≤ 140737488355328) :
    CallsH Tryd.prog T 57 #[.agg [v, .int .i64 n].toArray] h fun v' h' => RecRes h.size h' v' l n ∧ Bel h.size h h' := by
  obtain ⟨pw, cw, rfl, _⟩ := s.open
  have hcw : l.length ≤ cw := hcap
  refine CallsH.of_code2 (args := [_]) Tryd.func57 rfl rfl rfl rfl ?_
  unfold RecRes
  simp (config := {maxSteps := 2000000, implicitDefEqProofs := false}) only [go_sem, ↓reduceIte, Nat.reduceEqDiff, Nat.reduceAdd, Nat.reduceMul, Nat.reduceLeDiff, Nat.reduceLT, Nat.reduceSub, IntWalk.iteOmega, IntWalk.toNatUp, reduceCtorEq, false_and, and_false, false_or, or_false, true_or, or_true, not_true_eq_false, not_false_eq_true, Bool.not_true, Bool.not_false, Bool.and_true, Bool.true_and, Bool.and_false, Bool.false_and, Bool.not_eq_true, beq_self_eq_true, Nat.add_zero, Int.reduceLE, Int.reduceLT, Int.reduceToNat, Int.reduceNeg]
  refine (tapeMay_ok T _ pw l.length cw n).use ?_
  rintro _ _ ⟨rfl, rfl⟩
  obtain ⟨h1, hh1⟩ : ∃ h1 : Hp, h1 = ((h.push (.cells [.slice pw l.length cw, .int .i64 n].toArray 65)).push (.cells [.int .i64 0, .int .i64 0, .slice none 0 0].toArray 85)).push (.cells [.slice pw l.length cw, .int .i64 n].toArray 65) := ⟨_, rfl⟩
  have B1 : Bel h.size h h1 := by rw [hh1]; exact (((Bel.refl _ _).add _).add _).add _
  have s1 : h1.size = h.size + 3 := by rw [hh1]; simp
  have t1 : h1[h.size]? = some (.cells [.slice pw l.length cw, .int .i64 n].toArray 65) := by
    rw [hh1, Array.getElem?_push, if_neg (by simp; omega), Array.getElem?_push, if_neg (by simp), get_push_last]
  have z1 : h1[h.size + 1]? = some (.cells [.int .i64 0, .int .i64 0, .slice none 0 0].toArray 85) := by
    rw [hh1, Array.getElem?_push, if_neg (by simp), Array.getElem?_push, if_pos (by simp)]
  have e1 : ((h.push (.cells #[Value.slice pw l.length cw, .int .i64 n] 65)).push (.cells #[Value.int .i64 0, .int .i64 0, .slice none 0 0] 85)).push (.cells #[Value.slice pw l.length cw, .int .i64 n] 65) = h1 := hh1.symm
  have e1' : ((h.push (.cells [Value.slice pw l.length cw, .int .i64 n].toArray 65)).push (.cells [Value.int .i64 0, .int .i64 0, .slice none 0 0].toArray 85)).push (.cells [Value.slice pw l.length cw, .int .i64 n].toArray 65) = h1 := hh1.symm
  first | rw [e1] | rw [e1']
  clear e1 e1' hh1
  have fin : ∀ (G : Hp) (w : List Value), w.length = 3 → w.all oneC = true → G[h.size + 1]? = some (.cells [.int .i64 0, .int .i64 0, .slice none 0 0].toArray 85) → wr G ⟨h.size + 1, 0, none⟩ w = some (G.setIfInBounds (h.size + 1) (.cells w.toArray 85)) := by
    intro G w h3 h1 hx
    rw [wr_get (b := h.size + 1) hx 0 w, lput_full (by rw [h3]; rfl), if_pos ⟨by rw [h3]; simp, h1⟩]
  by_cases ok : tapeOk l n
  case neg =>
    have hd : decide (l.length ≤ 100000 ∧ 0 ≤ n ∧ n ≤ l.length) = false := decide_eq_false ok
    have y2 := fin h1 [.int .i64 0, .int .i64 0, .slice none 0 0] rfl rfl z1
    have hlt : h.size + 1 < h1.size := by omega
    rw [hd]
    simp (config := {maxSteps := 2000000, implicitDefEqProofs := false}) only [go_sem, ↓reduceIte, Nat.reduceEqDiff, Nat.reduceAdd, Nat.reduceMul, Nat.reduceLeDiff, Nat.reduceLT, Nat.reduceSub, IntWalk.iteOmega, IntWalk.toNatUp, reduceCtorEq, false_and, and_false, false_or, or_false, true_or, or_true, not_true_eq_false, not_false_eq_true, Bool.not_true, Bool.not_false, Bool.and_true, Bool.true_and, Bool.and_false, Bool.false_and, Bool.not_eq_true, beq_self_eq_true, Nat.add_zero, Int.reduceLE, Int.reduceLT, Int.reduceToNat, Int.reduceNeg, y2, hlt]
    refine ⟨⟨acp0, 0, 5, .slice none 0 0, rfl, Ots.nil _ _ _ _ _, Nat.zero_le _, Nat.le_refl _, ?_⟩, B1.addSet (by omega) _⟩
    rw [if_neg ok]
    exact ⟨rfl, rfl, rfl⟩
  have hd : decide (l.length ≤ 100000 ∧ 0 ≤ n ∧ n ≤ l.length) = true := decide_eq_true ok
  rw [hd]
  have l1 := ok.1
  simp (config := {maxSteps := 2000000, implicitDefEqProofs := false}) only [go_sem, ↓reduceIte, Nat.reduceEqDiff, Nat.reduceAdd, Nat.reduceMul, Nat.reduceLeDiff, Nat.reduceLT, Nat.reduceSub, IntWalk.iteOmega, IntWalk.toNatUp, reduceCtorEq, false_and, and_false, false_or, or_false, true_or, or_true, not_true_eq_false, not_false_eq_true, Bool.not_true, Bool.not_false, Bool.and_true, Bool.true_and, Bool.and_false, Bool.false_and, Bool.not_eq_true, beq_self_eq_true, Nat.add_zero, Int.reduceLE, Int.reduceLT, Int.reduceToNat, Int.reduceNeg]
  obtain ⟨h2, hh2⟩ : ∃ h2 : Hp, h2 = h1.push (.cells [.int .i64 0, .int .i64 0, .slice none 0 0].toArray 85) := ⟨_, rfl⟩
  have e2 : h1.push (.cells #[Value.int .i64 0, .int .i64 0, .slice none 0 0] 85) = h2 := hh2.symm
  rw [e2]
  have b2 : Bel h1.size h1 h2 := by rw [hh2]; exact Bel.push (Nat.le_refl _) _
  have s2 : h2.size = h1.size + 1 := by rw [hh2]; simp
  have a2 : h2[h1.size]? = some (.cells [.int .i64 0, .int .i64 0, .slice none 0 0].toArray 85) := by rw [hh2]; exact get_push_last
  clear e2 hh2
  have z2 := b2.get (by omega) z1
  have t2 := b2.get (by omega) t1
  obtain ⟨A, hA⟩ : ∃ A, A = h1.size := ⟨_, rfl⟩
  rw [← hA] at a2 ⊢
  have B2 : Bel h.size h h2 := B1.trans (b2.mono (by omega))
  refine VS.loop' (fun F g => Bel A h2 g ∧ F 1 = .pointer (some ⟨h.size, 0, none⟩) ∧ F 2 = .pointer (some ⟨h.size + 1, 0, none⟩) ∧ F 5 = .pointer (some ⟨A, 0, none⟩) ∧ ∃ (k : Nat) (a : Acp) (p1 : Option Addr) (c1 : Nat), k ≤ l.length ∧ F 6 = .int .i64 k ∧ g[A]? = some (.cells (accC a.p (.slice p1 a.l.length c1)).toArray 85) ∧ Ots (A + 1) 80 voteC 8 g (.slice p1 a.l.length c1) a.l ∧ a.l.length ≤ k ∧ ∀ r j, Rec l a k r j → Rec l acp0 0 r j)
    (fun F _ => l.length - (vi (F 6)).toNat) rfl ⟨Bel.refl _ _, rfl, rfl, rfl, 0, acp0, none, 0, Nat.zero_le _, rfl, a2, Ots.nil _ _ _ _ _, Nat.zero_le _, fun _ _ h => h⟩ ?_
  rintro F g ⟨hg, f1, f2, f5, k, a, p1, c1, hk, f6, xa, oa, hal, hrec⟩
  have tg := hg.get (by omega) t2
  have zg := hg.get (by omega) z2
  have hzA := lt_of_get xa
  have fact : ∀ G, Bel g.size g G → V.hc G ⟨h.size, 0, none⟩ = some (.slice pw l.length cw) ∧ rd G ⟨A, 0, none⟩ 3 = some [.int .i64 a.p.r, .int .i64 a.p.n, .slice p1 a.l.length c1] ∧
      wr G ⟨h.size + 1, 0, none⟩ [.int .i64 a.p.r, .int .i64 a.p.n, .slice p1 a.l.length c1] = some (G.setIfInBounds (h.size + 1) (.cells [.int .i64 a.p.r, .int .i64 a.p.n, .slice p1 a.l.length c1].toArray 85)) ∧ h.size + 1 < G.size ∧ Bel A h2 G ∧
      G[A]? = some (.cells (accC a.p (.slice p1 a.l.length c1)).toArray 85) ∧ Ots (A + 1) 80 voteC 8 G (.slice p1 a.l.length c1) a.l ∧ Bs G (.slice pw l.length cw) l := by
    intro G hG
    have tG := hG.get (by omega) tg
    have zG := hG.get (by omega) zg
    have xG := hG.get (by omega) xa
    have bG : Bel A h2 G := hg.trans (hG.mono (by omega))
    exact ⟨by rw [hc_last tG]; rfl, rd_last xG rfl, fin G _ rfl rfl zG, lt_of_get zG, bG, xG, oa.bel hG (Nat.le_refl _), s.bel (B2.trans (bG.mono (by omega)))⟩
  have done : ∀ G, Bel g.size g G → recStep l a k = none → (∃ (r : Acp) (k' : Nat) (E : Int) (w : Value), Value.tuple [.agg (accC a.p (.slice p1 a.l.length c1)).toArray, .int .i64 (k : Nat), .int .i64 0].toArray = .tuple [.agg (accC r.p w).toArray, .int .i64 (k' : Nat), .int .i64 E].toArray ∧ Ots h.size 80 voteC 8 (G.setIfInBounds (h.size + 1) (.cells [.int .i64 a.p.r, .int .i64 a.p.n, .slice p1 a.l.length c1].toArray 85)) w r.l ∧ k' ≤ l.length ∧ r.l.length ≤ k' ∧ if tapeOk l n then E = 0 ∧ Rec l acp0 0 r k' else E = 5 ∧ r = acp0 ∧ k' = 0) ∧ Bel h.size h (G.setIfInBounds (h.size + 1) (.cells [.int .i64 a.p.r, .int .i64 a.p.n, .slice p1 a.l.length c1].toArray 85)) := by
    intro G hG e
    obtain ⟨_, _, _, _, bG, _, oG, _⟩ := fact G hG
    refine ⟨⟨a, k, 0, _, rfl, (oG.setLow (by omega) _).mono (by omega), hk, hal, ?_⟩, (B2.trans (bG.mono (by omega))).addSet (by omega) _⟩
    rw [if_pos ok]
    exact ⟨rfl, hrec _ _ (.stop e)⟩
  obtain ⟨rt, ra, wf, hlz, _, _, _, swg⟩ := fact g (Bel.refl _ _)
  by_cases hlt : k < l.length
  case neg =>
    have hlt' : ¬ (k : Int) < l.length := by omega
    have e : recStep l a k = none := by unfold recStep; rw [if_neg (fun hn => hlt hn.1)]
    simp (config := {maxSteps := 2000000, implicitDefEqProofs := false}) only [go_sem, ↓reduceIte, Nat.reduceEqDiff, Nat.reduceAdd, Nat.reduceMul, Nat.reduceLeDiff, Nat.reduceLT, Nat.reduceSub, IntWalk.iteOmega, IntWalk.toNatUp, reduceCtorEq, false_and, and_false, false_or, or_false, true_or, or_true, not_true_eq_false, not_false_eq_true, Bool.not_true, Bool.not_false, Bool.and_true, Bool.true_and, Bool.and_false, Bool.false_and, Bool.not_eq_true, beq_self_eq_true, Nat.add_zero, Int.reduceLE, Int.reduceLT, Int.reduceToNat, Int.reduceNeg, f1, f2, f5, f6, rt, hlt', ra, wf, hlz]
    exact done g (Bel.refl _ _) e
  have hlt' : (k : Int) < l.length := by omega
  obtain ⟨q', d', hv, hh⟩ := swg.opend
  simp only [Value.slice.injEq, true_and] at hv
  obtain ⟨rfl, rfl⟩ := hv
  obtain ⟨bx, ox, rfl, hbx, hcs⟩ := hh (by intro e; subst e; simp at hlt)
  have rx := hcs k hlt
  have hx := getD_byte swg.byte k
  obtain ⟨N, hN⟩ : ∃ N, N = recN l k := ⟨_, rfl⟩
  have hN' : N = 1 + l.getD k 0 := hN
  have e0 : (k : Int) + 1 = ((k + 1 : Nat) : Int) := by omega
  have e1 : ((k + 1 : Nat) : Int) + ((l.getD k 0 : Nat) : Int) = ((k + N : Nat) : Int) := by omega
  have e2 : ((k + N : Nat) : Int) + 4 = ((k + N + 4 : Nat) : Int) := by omega
  have n1 : (0 : Int) ≤ (k : Int) := by omega
  by_cases hsh : l.length < k + N + 4
  case pos =>
    have hsh' : (l.length : Int) < ((k + N + 4 : Nat) : Int) := by omega
    have e : recStep l a k = none := by unfold recStep; rw [← hN, if_neg (fun hn => by omega)]
    simp (config := {maxSteps := 2000000, implicitDefEqProofs := false}) only [go_sem, ↓reduceIte, Nat.reduceEqDiff, Nat.reduceAdd, Nat.reduceMul, Nat.reduceLeDiff, Nat.reduceLT, Nat.reduceSub, IntWalk.iteOmega, IntWalk.toNatUp, reduceCtorEq, false_and, and_false, false_or, or_false, true_or, or_true, not_true_eq_false, not_false_eq_true, Bool.not_true, Bool.not_false, Bool.and_true, Bool.true_and, Bool.and_false, Bool.false_and, Bool.not_eq_true, beq_self_eq_true, Nat.add_zero, Int.reduceLE, Int.reduceLT, Int.reduceToNat, Int.reduceNeg, f1, f2, f5, f6, rt, hlt', ra, wf, hlz, rx, e0, e1, e2, n1, hsh', Int.toNat_natCast]
    exact done g (Bel.refl _ _) e
  have hsh' : ¬ (l.length : Int) < ((k + N + 4 : Nat) : Int) := by omega
  have n3 : (0 : Int) ≤ ((k + N : Nat) : Int) := by omega
  have n4 : ((k + N : Nat) : Int) ≤ (cw : Int) := by omega
  have n2 : (k : Int) ≤ ((k + N : Nat) : Int) := by omega
  have d1 : ¬ cw = k := by omega
  simp (config := {maxSteps := 2000000, implicitDefEqProofs := false}) only [go_sem, ↓reduceIte, Nat.reduceEqDiff, Nat.reduceAdd, Nat.reduceMul, Nat.reduceLeDiff, Nat.reduceLT, Nat.reduceSub, IntWalk.iteOmega, IntWalk.toNatUp, reduceCtorEq, false_and, and_false, false_or, or_false, true_or, or_true, not_true_eq_false, not_false_eq_true, Bool.not_true, Bool.not_false, Bool.and_true, Bool.true_and, Bool.and_false, Bool.false_and, Bool.not_eq_true, beq_self_eq_true, Nat.add_zero, Int.reduceLE, Int.reduceLT, Int.reduceToNat, Int.reduceNeg, f1, f2, f5, f6, rt, hlt', rx, e0, e1, e2, d1, n1, n2, n3, n4, hsh', Int.toNat_natCast]
  have sN : Bs g (.slice (some ⟨bx, ox + k, none⟩) (k + N - k) (cw - k)) ((l.drop k).take N) := bs_mid swg rfl (by omega) rfl (by omega)
  refine (digested_ok T g _ _ sN (by rw [List.length_take, List.length_drop]; omega)).use ?_
  rintro w5 g1 ⟨o5, b5⟩
  have ml := shaS_length ((l.drop k).take N)
  obtain ⟨M, hM⟩ : ∃ M, M = shaS ((l.drop k).take N) := ⟨_, rfl⟩
  rw [← hM] at o5 ml
  obtain ⟨p5, c5, rfl, hc5⟩ := o5.open
  have sM := o5.bs
  obtain ⟨rt1, ra1, wf1, hlz1, bA1, xA1, oA1, sw1⟩ := fact g1 b5
  have s5 := b5.size
  have h4 : (4 : Int) ≤ (c5 : Int) := by omega
  have n5 : ((k + N + 4 : Nat) : Int) ≤ (cw : Int) := by omega
  have n6 : ((k + N : Nat) : Int) ≤ ((k + N + 4 : Nat) : Int) := by omega
  have n7 : (0 : Int) ≤ ((k + N + 4 : Nat) : Int) := by omega
  have d2 : ¬ cw = k + N := by omega
  have hMd : Bs g1 (.slice p5 (M.take 4).length c5) (M.take 4) := by
    have := sM.fore (m := 4) (by omega) c5
    rw [List.length_take, Nat.min_eq_left (by omega)]; exact this
  have hRd : Bs g1 (.slice (some ⟨bx, ox + (k + N), none⟩) (k + N + 4 - (k + N)) (cw - (k + N))) ((l.drop (k + N)).take 4) := bs_mid sw1 rfl (by omega) (by omega) (by omega)
  have hMd4 : Bs g1 (.slice p5 4 c5) (M.take 4) := sM.fore (m := 4) (by omega) c5
  have hbe := bytes_eq (M.take 4) ((l.drop (k + N)).take 4) hMd4.byte hRd.byte
  simp (config := {maxSteps := 2000000, implicitDefEqProofs := false}) only [go_sem, ↓reduceIte, Nat.reduceEqDiff, Nat.reduceAdd, Nat.reduceMul, Nat.reduceLeDiff, Nat.reduceLT, Nat.reduceSub, IntWalk.iteOmega, IntWalk.toNatUp, reduceCtorEq, false_and, and_false, false_or, or_false, true_or, or_true, not_true_eq_false, not_false_eq_true, Bool.not_true, Bool.not_false, Bool.and_true, Bool.true_and, Bool.and_false, Bool.false_and, Bool.not_eq_true, beq_self_eq_true, Nat.add_zero, Int.reduceLE, Int.reduceLT, Int.reduceToNat, Int.reduceNeg, f1, f2, f5, f6]
  refine VS.q mixed (by kernel_rfl) ?_
  simp (config := {maxSteps := 2000000, implicitDefEqProofs := false}) only [go_sem, ↓reduceIte, Nat.reduceEqDiff, Nat.reduceAdd, Nat.reduceMul, Nat.reduceLeDiff, Nat.reduceLT, Nat.reduceSub, IntWalk.iteOmega, IntWalk.toNatUp, reduceCtorEq, false_and, and_false, false_or, or_false, true_or, or_true, not_true_eq_false, not_false_eq_true, Bool.not_true, Bool.not_false, Bool.and_true, Bool.true_and, Bool.and_false, Bool.false_and, Bool.not_eq_true, beq_self_eq_true, Nat.add_zero, Int.reduceLE, Int.reduceLT, Int.reduceToNat, Int.reduceNeg, f1, f2, f5, f6, rt1, h4, e2, n3, n5, n6, n7, d2, Int.toNat_natCast]
  refine ⟨_, conv_str Tryd.underlying29 Tryd.underlying9 Tryd.underlying5 hMd4 ⟨rfl, rfl⟩, ?_⟩
  unfold ap
  simp (config := {maxSteps := 2000000, implicitDefEqProofs := false}) only [go_sem, ↓reduceIte, Nat.reduceEqDiff, Nat.reduceAdd, Nat.reduceMul, Nat.reduceLeDiff, Nat.reduceLT, Nat.reduceSub, IntWalk.iteOmega, IntWalk.toNatUp, reduceCtorEq, false_and, and_false, false_or, or_false, true_or, or_true, not_true_eq_false, not_false_eq_true, Bool.not_true, Bool.not_false, Bool.and_true, Bool.true_and, Bool.and_false, Bool.false_and, Bool.not_eq_true, beq_self_eq_true, Nat.add_zero, Int.reduceLE, Int.reduceLT, Int.reduceToNat, Int.reduceNeg, f1, f2, f5, f6, rt1, h4, e2, n3, n5, n6, n7, d2, Int.toNat_natCast]
  refine ⟨_, conv_str Tryd.underlying29 Tryd.underlying9 Tryd.underlying5 hRd ⟨rfl, rfl⟩, ?_⟩
  unfold ap
  by_cases heq : M.take 4 = (l.drop (k + N)).take 4
  case neg =>
    rw [decide_eq_false heq] at hbe
    have e : recStep l a k = none := by
      unfold recStep
      rw [← hN, ← hM, if_neg (fun hn => heq hn.2.2)]
    simp (config := {maxSteps := 2000000, implicitDefEqProofs := false}) only [go_sem, ↓reduceIte, Nat.reduceEqDiff, Nat.reduceAdd, Nat.reduceMul, Nat.reduceLeDiff, Nat.reduceLT, Nat.reduceSub, IntWalk.iteOmega, IntWalk.toNatUp, reduceCtorEq, false_and, and_false, false_or, or_false, true_or, or_true, not_true_eq_false, not_false_eq_true, Bool.not_true, Bool.not_false, Bool.and_true, Bool.true_and, Bool.and_false, Bool.false_and, Bool.not_eq_true, beq_self_eq_true, Nat.add_zero, Int.reduceLE, Int.reduceLT, Int.reduceToNat, Int.reduceNeg, f1, f2, f5, f6, hbe, ra1, wf1, hlz1]
    exact done g1 b5 e
  rw [decide_eq_true heq] at hbe
  obtain ⟨bd, hbd⟩ : ∃ bd, bd = (l.drop (k + 1)).take (N - 1) := ⟨_, rfl⟩
  have estep : recStep l a k = (bodyS a bd).map fun x => (x, k + (N + 4)) := by
    unfold recStep
    rw [← hN, ← hM, if_pos ⟨hlt, by omega, heq⟩, hbd]
  have lbd : bd.length = N - 1 := by rw [hbd, List.length_take, List.length_drop]; omega
  have sbd : Bs g1 (.slice (some ⟨bx, ox + (k + 1), none⟩) (k + N - (k + 1)) (cw - (k + 1))) bd := by rw [hbd]; exact bs_mid sw1 rfl (by omega) rfl (by omega)
  have call : ∀ G, Bel g1.size g1 G → CallsH Tryd.prog T 107 #[.agg #[.int .i64 a.p.r, .int .i64 a.p.n, .slice p1 a.l.length c1], .slice (some ⟨bx, ox + (k + 1), none⟩) (k + N - (k + 1)) (cw - (k + 1))] G fun v' h' => BodyRes G.size h' v' a bd ∧ Bel G.size G h' := fun G hG =>
    bodyDone_ok T G a.p p1 c1 a.l _ (k + N - (k + 1)) (cw - (k + 1)) bd (oA1.ts.bel hG) (sbd.bel hG) (by omega) (by omega) (by omega) (by omega)
  have n8 : ((k + 1 : Nat) : Int) ≤ ((k + N : Nat) : Int) := by omega
  have n9 : (0 : Int) ≤ ((k + 1 : Nat) : Int) := by omega
  have d3 : ¬ cw = k + 1 := by omega
  have q1 : A < g1.size := by omega
  have q2 : h.size < g1.size := by omega
  have zfin : ∀ (G : Hp) (b : Nat) (z w : List Value), z.length = 3 → w.length = 3 → w.all oneC = true → G[b]? = some (.cells z.toArray 85) → wr G ⟨b, 0, none⟩ w = some (G.setIfInBounds b (.cells w.toArray 85)) := by
    intro G b z w hz h3 h1 hx
    rw [wr_get (b := b) hx 0 w, lput_full (by rw [h3, hz]), if_pos ⟨by rw [h3, hz]; simp, h1⟩]
  simp (config := {maxSteps := 2000000, implicitDefEqProofs := false}) only [go_sem, ↓reduceIte, Nat.reduceEqDiff, Nat.reduceAdd, Nat.reduceMul, Nat.reduceLeDiff, Nat.reduceLT, Nat.reduceSub, IntWalk.iteOmega, IntWalk.toNatUp, reduceCtorEq, false_and, and_false, false_or, or_false, true_or, or_true, not_true_eq_false, not_false_eq_true, Bool.not_true, Bool.not_false, Bool.and_true, Bool.true_and, Bool.and_false, Bool.false_and, Bool.not_eq_true, beq_self_eq_true, Nat.add_zero, Int.reduceLE, Int.reduceLT, Int.reduceToNat, Int.reduceNeg, f1, f2, f5, f6, hbe]
  refine VS.mono (N := fun F' g' => Bel g1.size g1 g' ∧ F' 1 = .pointer (some ⟨h.size, 0, none⟩) ∧ F' 2 = .pointer (some ⟨h.size + 1, 0, none⟩) ∧ F' 5 = .pointer (some ⟨A, 0, none⟩) ∧ F' 6 = .int .i64 k ∧ F' 7 = .int .i64 (k + N : Nat) ∧ F' 10 = .bool (bodyS a bd).isSome ∧ ∃ (A' : Nat) (P : Bal) (p m : _) (c : Nat), g1.size ≤ A' ∧ F' 9 = .pointer (some ⟨A', 0, none⟩) ∧ g'[A']? = some (.cells (accC P (.slice p m c)).toArray 85) ∧ ∀ x, bodyS a bd = some x → P = x.p ∧ Ots g1.size 80 voteC 8 g' (.slice p m c) x.l) ?_ ?_ (fun _ _ _ h => h) (fun _ _ h => h)
  · refine VS.w (g1.size) [] (.q 0 (.q 1 (.q 2 (.q 3 (.q 4 (.q 5 (.q 6 (.or 7 (.q 8 (.q 9 (.q 10 (.s 11 (.s 12 (.q 13 .nil)))))) (.s 11 (.s 7 (.q 8 (.q 9 (.q 10 (.s 12 (.q 13 .nil))))))))))))))) mixed (by kernel_rfl) ?_
    simp (config := {maxSteps := 2000000, implicitDefEqProofs := false}) only [go_sem, ↓reduceIte, Nat.reduceEqDiff, Nat.reduceAdd, Nat.reduceMul, Nat.reduceLeDiff, Nat.reduceLT, Nat.reduceSub, IntWalk.iteOmega, IntWalk.toNatUp, reduceCtorEq, false_and, and_false, false_or, or_false, true_or, or_true, not_true_eq_false, not_false_eq_true, Bool.not_true, Bool.not_false, Bool.and_true, Bool.true_and, Bool.and_false, Bool.false_and, Bool.not_eq_true, beq_self_eq_true, Nat.add_zero, Int.reduceLE, Int.reduceLT, Int.reduceToNat, Int.reduceNeg, f1, f2, f5, f6, rt1, ra1, q1, q2, e0, n3, n4, n8, n9, d3, Int.toNat_natCast]
    refine ⟨?_, ?_⟩
    · refine (call g1 (Bel.refl _ _)).use ?_
      rintro _ g2 ⟨⟨P, p2, m2, c2, rfl, h2x⟩, b6⟩
      have s6 := b6.size
      unfold accC
      simp (config := {maxSteps := 2000000, implicitDefEqProofs := false}) only [go_sem, ↓reduceIte, Nat.reduceEqDiff, Nat.reduceAdd, Nat.reduceMul, Nat.reduceLeDiff, Nat.reduceLT, Nat.reduceSub, IntWalk.iteOmega, IntWalk.toNatUp, reduceCtorEq, false_and, and_false, false_or, or_false, true_or, or_true, not_true_eq_false, not_false_eq_true, Bool.not_true, Bool.not_false, Bool.and_true, Bool.true_and, Bool.and_false, Bool.false_and, Bool.not_eq_true, beq_self_eq_true, Nat.add_zero, Int.reduceLE, Int.reduceLT, Int.reduceToNat, Int.reduceNeg, f1, f2, f5, f6, b6]
      exact ⟨_, _, _, _, _, s6, rfl, get_push_last, fun x hx => ⟨(h2x x hx).1, (h2x x hx).2.push _⟩⟩
    · refine (call (g1.push (.cells [.int .i64 0, .int .i64 0, .slice none 0 0].toArray 85)) (Bel.push (Nat.le_refl _) _)).use ?_
      rintro _ g2 ⟨⟨P, p2, m2, c2, rfl, h2x⟩, b6⟩
      have B6 : Bel g1.size g1 g2 := (Bel.push (Nat.le_refl _) _).trans (b6.mono (by simp))
      have xA := b6.get (by simp) get_push_last
      have yA := zfin g2 g1.size _ [.int .i64 P.r, .int .i64 P.n, .slice p2 m2 c2] rfl rfl rfl xA
      have hz := lt_of_get xA
      unfold accC
      simp (config := {maxSteps := 2000000, implicitDefEqProofs := false}) only [go_sem, ↓reduceIte, Nat.reduceEqDiff, Nat.reduceAdd, Nat.reduceMul, Nat.reduceLeDiff, Nat.reduceLT, Nat.reduceSub, IntWalk.iteOmega, IntWalk.toNatUp, reduceCtorEq, false_and, and_false, false_or, or_false, true_or, or_true, not_true_eq_false, not_false_eq_true, Bool.not_true, Bool.not_false, Bool.and_true, Bool.true_and, Bool.and_false, Bool.false_and, Bool.not_eq_true, beq_self_eq_true, Nat.add_zero, Int.reduceLE, Int.reduceLT, Int.reduceToNat, Int.reduceNeg, f1, f2, f5, f6, B6, yA, hz]
      exact ⟨_, _, _, _, _, Nat.le_refl _, rfl, get_set xA, fun x hx => ⟨(h2x x hx).1, ((h2x x hx).2.setLow (b := g1.size) (by simp) _).mono (by simp)⟩⟩
  rintro F' g' ⟨hB, f1, f2, f5, f6, f7, f10, A', P, p2, m2, c2, hA', f9, xA', hx'⟩
  have sB := hB.size
  have hgG : Bel g.size g g' := b5.trans (hB.mono s5)
  obtain ⟨rt2, ra2, wf2, hlz2, bA2, xA2, oA2, sw2⟩ := fact g' hgG
  cases hbs : bodyS a bd with
  | none =>
    have e : recStep l a k = none := by rw [estep, hbs]; rfl
    rw [hbs] at f10
    simp (config := {maxSteps := 2000000, implicitDefEqProofs := false}) only [go_sem, ↓reduceIte, Nat.reduceEqDiff, Nat.reduceAdd, Nat.reduceMul, Nat.reduceLeDiff, Nat.reduceLT, Nat.reduceSub, IntWalk.iteOmega, IntWalk.toNatUp, reduceCtorEq, false_and, and_false, false_or, or_false, true_or, or_true, not_true_eq_false, not_false_eq_true, Bool.not_true, Bool.not_false, Bool.and_true, Bool.true_and, Bool.and_false, Bool.false_and, Bool.not_eq_true, beq_self_eq_true, Nat.add_zero, Int.reduceLE, Int.reduceLT, Int.reduceToNat, Int.reduceNeg, f1, f2, f5, f6, f7, f10, ra2, wf2, hlz2]
    exact done g' hgG e
  | some x =>
    obtain ⟨rfl, ox2⟩ := hx' x hbs
    obtain ⟨p3, c3, e3, _⟩ := ox2.open
    simp only [Value.slice.injEq] at e3
    obtain ⟨rfl, rfl, rfl⟩ := e3
    have e : recStep l a k = some (x, k + (N + 4)) := by rw [estep, hbs]; rfl
    have rA' : rd g' ⟨A', 0, none⟩ 3 = some [.int .i64 x.p.r, .int .i64 x.p.n, .slice p2 x.l.length c2] := rd_last xA' rfl
    have wA := zfin g' A _ [.int .i64 x.p.r, .int .i64 x.p.n, .slice p2 x.l.length c2] rfl rfl rfl xA2
    have zA := lt_of_get xA2
    have e4 : ((k + N : Nat) : Int) + 4 = ((k + (N + 4) : Nat) : Int) := by omega
    have lx := bodyS_length hbs
    rw [hbs] at f10
    simp (config := {maxSteps := 2000000, implicitDefEqProofs := false}) only [go_sem, ↓reduceIte, Nat.reduceEqDiff, Nat.reduceAdd, Nat.reduceMul, Nat.reduceLeDiff, Nat.reduceLT, Nat.reduceSub, IntWalk.iteOmega, IntWalk.toNatUp, reduceCtorEq, false_and, and_false, false_or, or_false, true_or, or_true, not_true_eq_false, not_false_eq_true, Bool.not_true, Bool.not_false, Bool.and_true, Bool.true_and, Bool.and_false, Bool.false_and, Bool.not_eq_true, beq_self_eq_true, Nat.add_zero, Int.reduceLE, Int.reduceLT, Int.reduceToNat, Int.reduceNeg, f1, f2, f5, f6, f7, f9, f10, rA', wA, zA, e4]
    refine ⟨⟨bA2.addSet (Nat.le_refl _) _, f1, f2, f5, k + (N + 4), x, p2, c2, by omega, rfl, get_set xA2, (ox2.setLow (by omega) _).mono (by omega), by omega, fun r j hr => hrec r j (.go e hr)⟩, ?_⟩
    simp only [vi, updo_some, ↓reduceIte, f6]; omega
end Go.Proofs.YtnpacofabdgcdaaDoor
