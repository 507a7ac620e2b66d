/- The reference's ladder, and that it tells what the program's does; no condition but those in the statements. -/
import Derived.Test.YtiakfdpmapmifaaCvo
namespace Go.Proofs.Ytiakfdpmapmifaa
open Go Go.V
set_option linter.unusedSimpArgs false
set_option linter.unusedVariables false
set_option maxRecDepth 100000
/-- The ladder on whole numbers. -/
def ladZ (k : List Nat) (u : Int) : Nat → Rung
  | 0 => ⟨1, 0, u, 1⟩
  | j + 1 => (((ladZ k u j).turn (kbit k (254 - j))).core u).turn (kbit k (254 - j))
theorem Like.of_eq {a b : Int} (h : a = b) : Like a b := by rw [h]; exact Like.refl _
theorem vF_one16 : vF one16 = 1 := by decide
theorem vF_zer16 : vF zer16 = 0 := by decide
theorem vF_k16 : vF k16 = 121665 := by decide
def FR.val (s : FR) : Rung := ⟨vF s.x2, vF s.z2, vF s.x3, vF s.z3⟩
theorem FR.val_turn (s : FR) (b : Bool) : (s.turn b).val = s.val.turn b := by cases b <;> rfl
set_option maxHeartbeats 1000000 in
theorem FR.core_like {u : List Int} {s : FR} (hu : Fok u) (h : s.ok) : Rung.Like (s.core u).val (s.val.core (vF u)) := by
  obtain ⟨⟨l_1, _⟩, ⟨l_2, _⟩, ⟨l_3, _⟩, ⟨l_4, _⟩⟩ := h
  have l_k : k16.length = 16 := rfl
  have l_u := hu.1
  have kk16 : Like (vF k16) 121665 := by rw [vF_k16]; exact Like.refl _
  obtain ⟨xa, hxa⟩ : ∃ l, l = fplus s.x2 s.z2 := ⟨_, rfl⟩
  have lxa : xa.length = 16 := by rw [hxa]; unfold fplus; rw [fpl_length]; exact l_1
  have kxa := (Like.of_eq (fplus_val l_1 l_2)).trans (Like.add (Like.refl (vF s.x2)) (Like.refl (vF s.z2)))
  rw [← hxa] at kxa
  obtain ⟨xb, hxb⟩ : ∃ l, l = fminus s.x2 s.z2 := ⟨_, rfl⟩
  have lxb : xb.length = 16 := by rw [hxb]; unfold fminus; rw [fpl_length]; exact l_1
  have kxb := (Like.of_eq (fminus_val l_1 l_2)).trans (Like.sub (Like.refl (vF s.x2)) (Like.refl (vF s.z2)))
  rw [← hxb] at kxb
  obtain ⟨xc, hxc⟩ : ∃ l, l = fplus s.x3 s.z3 := ⟨_, rfl⟩
  have lxc : xc.length = 16 := by rw [hxc]; unfold fplus; rw [fpl_length]; exact l_3
  have kxc := (Like.of_eq (fplus_val l_3 l_4)).trans (Like.add (Like.refl (vF s.x3)) (Like.refl (vF s.z3)))
  rw [← hxc] at kxc
  obtain ⟨xd, hxd⟩ : ∃ l, l = fminus s.x3 s.z3 := ⟨_, rfl⟩
  have lxd : xd.length = 16 := by rw [hxd]; unfold fminus; rw [fpl_length]; exact l_3
  have kxd := (Like.of_eq (fminus_val l_3 l_4)).trans (Like.sub (Like.refl (vF s.x3)) (Like.refl (vF s.z3)))
  rw [← hxd] at kxd
  obtain ⟨aa, haa⟩ : ∃ l, l = ftimes xa xa := ⟨_, rfl⟩
  have laa : aa.length = 16 := by rw [haa]; exact ftimes_length _ _
  have kaa := (ftimes_like lxa lxa).trans (Like.mul kxa kxa)
  rw [← haa] at kaa
  obtain ⟨bb, hbb⟩ : ∃ l, l = ftimes xb xb := ⟨_, rfl⟩
  have lbb : bb.length = 16 := by rw [hbb]; exact ftimes_length _ _
  have kbb := (ftimes_like lxb lxb).trans (Like.mul kxb kxb)
  rw [← hbb] at kbb
  obtain ⟨da, hda⟩ : ∃ l, l = ftimes xd xa := ⟨_, rfl⟩
  have lda : da.length = 16 := by rw [hda]; exact ftimes_length _ _
  have kda := (ftimes_like lxd lxa).trans (Like.mul kxd kxa)
  rw [← hda] at kda
  obtain ⟨cb, hcb⟩ : ∃ l, l = ftimes xc xb := ⟨_, rfl⟩
  have lcb : cb.length = 16 := by rw [hcb]; exact ftimes_length _ _
  have kcb := (ftimes_like lxc lxb).trans (Like.mul kxc kxb)
  rw [← hcb] at kcb
  obtain ⟨su, hsu⟩ : ∃ l, l = fplus da cb := ⟨_, rfl⟩
  have lsu : su.length = 16 := by rw [hsu]; unfold fplus; rw [fpl_length]; exact lda
  have ksu := (Like.of_eq (fplus_val lda lcb)).trans (Like.add kda kcb)
  rw [← hsu] at ksu
  obtain ⟨ga, hga⟩ : ∃ l, l = fminus da cb := ⟨_, rfl⟩
  have lga : ga.length = 16 := by rw [hga]; unfold fminus; rw [fpl_length]; exact lda
  have kga := (Like.of_eq (fminus_val lda lcb)).trans (Like.sub kda kcb)
  rw [← hga] at kga
  obtain ⟨ee, hee⟩ : ∃ l, l = fminus aa bb := ⟨_, rfl⟩
  have lee : ee.length = 16 := by rw [hee]; unfold fminus; rw [fpl_length]; exact laa
  have kee := (Like.of_eq (fminus_val laa lbb)).trans (Like.sub kaa kbb)
  rw [← hee] at kee
  obtain ⟨ek, hek⟩ : ∃ l, l = ftimes ee k16 := ⟨_, rfl⟩
  have lek : ek.length = 16 := by rw [hek]; exact ftimes_length _ _
  have kek := (ftimes_like lee l_k).trans (Like.mul kee kk16)
  rw [← hek] at kek
  obtain ⟨ap, hap⟩ : ∃ l, l = fplus aa ek := ⟨_, rfl⟩
  have lap : ap.length = 16 := by rw [hap]; unfold fplus; rw [fpl_length]; exact laa
  have kap := (Like.of_eq (fplus_val laa lek)).trans (Like.add kaa kek)
  rw [← hap] at kap
  obtain ⟨x2n, hx2n⟩ : ∃ l, l = ftimes aa bb := ⟨_, rfl⟩
  have lx2n : x2n.length = 16 := by rw [hx2n]; exact ftimes_length _ _
  have kx2n := (ftimes_like laa lbb).trans (Like.mul kaa kbb)
  rw [← hx2n] at kx2n
  obtain ⟨z2n, hz2n⟩ : ∃ l, l = ftimes ee ap := ⟨_, rfl⟩
  have lz2n : z2n.length = 16 := by rw [hz2n]; exact ftimes_length _ _
  have kz2n := (ftimes_like lee lap).trans (Like.mul kee kap)
  rw [← hz2n] at kz2n
  obtain ⟨x3n, hx3n⟩ : ∃ l, l = ftimes su su := ⟨_, rfl⟩
  have lx3n : x3n.length = 16 := by rw [hx3n]; exact ftimes_length _ _
  have kx3n := (ftimes_like lsu lsu).trans (Like.mul ksu ksu)
  rw [← hx3n] at kx3n
  obtain ⟨gg, hgg⟩ : ∃ l, l = ftimes ga ga := ⟨_, rfl⟩
  have lgg : gg.length = 16 := by rw [hgg]; exact ftimes_length _ _
  have kgg := (ftimes_like lga lga).trans (Like.mul kga kga)
  rw [← hgg] at kgg
  obtain ⟨z3n, hz3n⟩ : ∃ l, l = ftimes gg u := ⟨_, rfl⟩
  have lz3n : z3n.length = 16 := by rw [hz3n]; exact ftimes_length _ _
  have kz3n := (ftimes_like lgg l_u).trans (Like.mul kgg (Like.refl (vF u)))
  rw [← hz3n] at kz3n
  have e : s.core u = ⟨x2n, z2n, x3n, z3n⟩ := by simp only [FR.core, hxa, hxb, hxc, hxd, haa, hbb, hda, hcb, hsu, hga, hee, hek, hap, hx2n, hz2n, hx3n, hgg, hz3n]
  rw [e]
  exact ⟨kx2n, kz2n, kx3n, kz3n⟩
theorem ladF_like (k : List Nat) {u : List Int} (hu : Fok u) : ∀ j, Rung.Like (ladF k u j).val (ladZ k (vF u) j)
  | 0 => by
    refine ⟨?_, ?_, Like.refl _, ?_⟩
    · show Like (vF one16) 1; rw [vF_one16]; exact Like.refl _
    · show Like (vF zer16) 0; rw [vF_zer16]; exact Like.refl _
    · show Like (vF one16) 1; rw [vF_one16]; exact Like.refl _
  | j + 1 => by
    have ih := ladF_like k hu j
    have ok := (ladF_ok k hu j).turn (kbit k (254 - j))
    rw [ladF, ladZ, FR.val_turn]
    refine Rung.Like.turn ?_ _
    have h1 := FR.core_like hu ok
    have h2 := Rung.Like.core (Like.refl (vF u)) (Rung.Like.turn ih (kbit k (254 - j)))
    rw [← FR.val_turn] at h2
    exact ⟨h1.1.trans h2.1, h1.2.1.trans h2.2.1, h1.2.2.1.trans h2.2.2.1, h1.2.2.2.trans h2.2.2.2⟩
def byN (o : List Nat) : Nat → List Nat
  | 0 => []
  | n + 1 => byN o n ++ [o.getD n 0 % 256, o.getD n 0 / 256]
theorem byN_length (o : List Nat) : ∀ n, (byN o n).length = 2 * n
  | 0 => rfl
  | n + 1 => by rw [byN, List.length_append, byN_length o n]; simp; omega
theorem fby_byN {l : List Int} {o : List Nat} : ∀ n, (∀ i, i < n → l.getD i 0 = ((o.getD i 0 : Nat) : Int)) → fby l n = byN o n
  | 0, _ => rfl
  | n + 1, h => by
    rw [fby, byN, fby_byN n (fun i hi => h i (by omega)), h n (by omega)]
    generalize o.getD n 0 = m
    have m1 : ((m : Int) % 256).toNat = m % 256 := by omega
    have m2 : ((m : Int) / 256).toNat = m / 256 := by omega
    rw [m1, m2]
/-- Digits are told by what they stand for. -/
theorem near_digits {l : List Int} {o : List Nat} (w : Near 0 l) (lo : o.length = 16) (wo : Eg o) (hv : vF l = ((valE o : Nat) : Int)) (i : Nat) (hi : i < 16) : l.getD i 0 = ((o.getD i 0 : Nat) : Int) := by
  obtain ⟨m, hm⟩ : ∃ m : List Nat, m = l.map Int.toNat := ⟨_, rfl⟩
  have lm : m.length = 16 := by rw [hm, List.length_map]; exact w.1
  have hat : ∀ j, j < 16 → l.getD j 0 = ((m.getD j 0 : Nat) : Int) := by
    intro j hj
    have c := w.cell hj
    have e : m.getD j 0 = (l.getD j 0).toNat := by
      rw [hm, List.getD_eq_getElem?_getD, List.getElem?_map, List.getD_eq_getElem?_getD, List.getElem?_eq_getElem (by rw [w.1]; exact hj)]; rfl
    rw [e]; omega
  have wm : Eg m := by
    intro x hx
    obtain ⟨j, hj, rfl⟩ := List.getElem_of_mem hx
    have c := w.cell (show j < 16 by omega)
    have := hat j (by omega)
    rw [List.getD_eq_getElem?_getD (l := m), List.getElem?_eq_getElem hj] at this
    have h2 : l.getD j 0 = ((m[j] : Nat) : Int) := this
    omega
  have vm : ((valE m : Nat) : Int) = vF l := by
    have h1 := valE_vS m 16
    rw [List.take_of_length_le (by omega)] at h1
    rw [h1, vF_vS, w.1]
    exact vS_congr 16 fun j hj => (hat j hj).symm
  have hmo : valE m = valE o := by omega
  rw [hat i hi, valE_digit wm i, valE_digit wo i, hmo]
/-- Both ladders tell the same bytes. -/
theorem lad_law {k p o : List Nat} (hp : ∀ x ∈ p, x < 256) (r : Rf o ((ladZ (clampK k) (vF (fread p)) 255).x2 * powZ (ladZ (clampK k) (vF (fread p)) 255).z2 254)) : byN o 16 = curveF k p := by
  have hu : Fok (fread p) := ⟨fread_length p, ((fread_near hp).inK (by omega)).mono (by omega)⟩
  have ll := ladF_like (clampK k) hu 255
  obtain ⟨⟨l1, w1⟩, ⟨l2, w2⟩, _⟩ := ladF_ok (clampK k) hu 255
  unfold curveF
  obtain ⟨s, hs⟩ : ∃ s, s = ladF (clampK k) (fread p) 255 := ⟨_, rfl⟩
  obtain ⟨z, hz⟩ : ∃ z, z = ladZ (clampK k) (vF (fread p)) 255 := ⟨_, rfl⟩
  rw [← hs] at ll l1 w1 l2 w2 ⊢
  rw [← hz] at r ll
  obtain ⟨wp, lp⟩ := fpow_in l2 (w2.mono (by omega)) 254
  have hn : Near 38 (ftimes s.x2 (fpow s.z2 254)) := ftimes_near (w1.mono (by omega)) wp
  have hw := fwritten hn
  have hlike : Like (vF (ftimes s.x2 (fpow s.z2 254))) (z.x2 * powZ z.z2 254) :=
    (ftimes_like l1 lp).trans (Like.mul ll.1 ((fpow_like l2 (w2.mono (by omega)) 254).trans (powZ_like ll.2.1 254)))
  have hval : vF (fon (fcN (ftimes s.x2 (fpow s.z2 254)) 16) 2) = ((valE o : Nat) : Int) := by
    rw [hw, show vF (ftimes s.x2 (fpow s.z2 254)) % P255 = (z.x2 * powZ z.z2 254) % P255 from hlike, ← show ((valE o : Nat) : Int) % P255 = (z.x2 * powZ z.z2 254) % P255 from r.2]
    refine Int.emod_eq_of_lt (Int.natCast_nonneg _) ?_
    have := r.1.2.2
    rw [← pn_p]; omega
  have n0 : Near 0 (fon (fcN (ftimes s.x2 (fpow s.z2 254)) 16) 2) := fon_near (near_three hn) 2
  exact (fby_byN 16 (near_digits n0 r.1.1 r.1.2.1 hval)).symm

set_option maxHeartbeats 4000000 in
theorem laddered_ok (T : World) (h : Hp) (u v : Value) (kl pl : List Nat) (s : Bs h u kl) (sp : Bs h v pl) (hk : kl.length = 32) (hp : pl.length = 32) :
    CallsH Try.prog T 24 #[u, v] h fun v' h' => OBs h.size 5 h' v' (curveF kl pl) ∧ Bel h.size h h' := by
  refine CallsH.of_code' (args := [_, _]) Try.func24 rfl rfl rfl rfl ?_
  simp (config := {maxSteps := 2000000, implicitDefEqProofs := false}) only [go_sem, ↓reduceIte, Nat.reduceEqDiff, Nat.reduceAdd, Nat.reduceMul, Nat.reduceLeDiff, Nat.reduceLT, Nat.reduceSub, IntWalk.iteOmega, IntWalk.toNatUp, reduceCtorEq, false_and, and_false, false_or, or_false, true_or, or_true, not_true_eq_false, not_false_eq_true, Bool.not_true, Bool.not_false, Bool.and_true, Bool.true_and, Bool.and_false, Bool.false_and, Bool.not_eq_true, beq_self_eq_true, Nat.add_zero, Int.reduceLE, Int.reduceLT, Int.reduceToNat, Int.reduceNeg]
  refine (curveRead_rf T h _ pl sp hp).use ?_
  rintro w1 g1 ⟨⟨oU, iU, rU⟩, hg⟩
  have lawf := fun (o : List Nat) => lad_law (k := kl) (p := pl) (o := o) sp.byte
  obtain ⟨uz, huz⟩ : ∃ uz, uz = vF (fread pl) := ⟨_, rfl⟩
  obtain ⟨kk, hkk⟩ : ∃ kk, kk = clampK kl := ⟨_, rfl⟩
  rw [← huz] at rU
  simp only [← huz, ← hkk] at lawf
  clear sp
  simp (config := {maxSteps := 2000000, implicitDefEqProofs := false}) only [go_sem, ↓reduceIte, Nat.reduceEqDiff, Nat.reduceAdd, Nat.reduceMul, Nat.reduceLeDiff, Nat.reduceLT, Nat.reduceSub, IntWalk.iteOmega, IntWalk.toNatUp, reduceCtorEq, false_and, and_false, false_or, or_false, true_or, or_true, not_true_eq_false, not_false_eq_true, Bool.not_true, Bool.not_false, Bool.and_true, Bool.true_and, Bool.and_false, Bool.false_and, Bool.not_eq_true, beq_self_eq_true, Nat.add_zero, Int.reduceLE, Int.reduceLT, Int.reduceToNat, Int.reduceNeg]
  refine (curveSmall_rf T g1 1 (by decide)).use ?_
  rintro w2 g2 ⟨⟨oX2, iX2, rX2⟩, b2⟩
  replace iU := iU.bel b2
  replace hg := hg.trans (b2.mono hg.size)
  simp (config := {maxSteps := 2000000, implicitDefEqProofs := false}) only [go_sem, ↓reduceIte, Nat.reduceEqDiff, Nat.reduceAdd, Nat.reduceMul, Nat.reduceLeDiff, Nat.reduceLT, Nat.reduceSub, IntWalk.iteOmega, IntWalk.toNatUp, reduceCtorEq, false_and, and_false, false_or, or_false, true_or, or_true, not_true_eq_false, not_false_eq_true, Bool.not_true, Bool.not_false, Bool.and_true, Bool.true_and, Bool.and_false, Bool.false_and, Bool.not_eq_true, beq_self_eq_true, Nat.add_zero, Int.reduceLE, Int.reduceLT, Int.reduceToNat, Int.reduceNeg]
  refine (curveSmall_rf T g2 0 (by decide)).use ?_
  rintro w3 g3 ⟨⟨oZ2, iZ2, rZ2⟩, b3⟩
  replace iU := iU.bel b3
  replace iX2 := iX2.bel b3
  replace hg := hg.trans (b3.mono hg.size)
  simp (config := {maxSteps := 2000000, implicitDefEqProofs := false}) only [go_sem, ↓reduceIte, Nat.reduceEqDiff, Nat.reduceAdd, Nat.reduceMul, Nat.reduceLeDiff, Nat.reduceLT, Nat.reduceSub, IntWalk.iteOmega, IntWalk.toNatUp, reduceCtorEq, false_and, and_false, false_or, or_false, true_or, or_true, not_true_eq_false, not_false_eq_true, Bool.not_true, Bool.not_false, Bool.and_true, Bool.true_and, Bool.and_false, Bool.false_and, Bool.not_eq_true, beq_self_eq_true, Nat.add_zero, Int.reduceLE, Int.reduceLT, Int.reduceToNat, Int.reduceNeg]
  refine (curveSmall_rf T g3 1 (by decide)).use ?_
  rintro w4 g4 ⟨⟨oZ3, iZ3, rZ3⟩, b4⟩
  replace iU := iU.bel b4
  replace iX2 := iX2.bel b4
  replace iZ2 := iZ2.bel b4
  replace hg := hg.trans (b4.mono hg.size)
  simp (config := {maxSteps := 2000000, implicitDefEqProofs := false}) only [go_sem, ↓reduceIte, Nat.reduceEqDiff, Nat.reduceAdd, Nat.reduceMul, Nat.reduceLeDiff, Nat.reduceLT, Nat.reduceSub, IntWalk.iteOmega, IntWalk.toNatUp, reduceCtorEq, false_and, and_false, false_or, or_false, true_or, or_true, not_true_eq_false, not_false_eq_true, Bool.not_true, Bool.not_false, Bool.and_true, Bool.true_and, Bool.and_false, Bool.false_and, Bool.not_eq_true, beq_self_eq_true, Nat.add_zero, Int.reduceLE, Int.reduceLT, Int.reduceToNat, Int.reduceNeg]
  refine (curveSmall_rf T g4 121665 (by decide)).use ?_
  rintro w5 g5 ⟨⟨oK, iK, rK⟩, b5⟩
  replace iU := iU.bel b5
  replace iX2 := iX2.bel b5
  replace iZ2 := iZ2.bel b5
  replace iZ3 := iZ3.bel b5
  replace hg := hg.trans (b5.mono hg.size)
  simp (config := {maxSteps := 2000000, implicitDefEqProofs := false}) only [go_sem, ↓reduceIte, Nat.reduceEqDiff, Nat.reduceAdd, Nat.reduceMul, Nat.reduceLeDiff, Nat.reduceLT, Nat.reduceSub, IntWalk.iteOmega, IntWalk.toNatUp, reduceCtorEq, false_and, and_false, false_or, or_false, true_or, or_true, not_true_eq_false, not_false_eq_true, Bool.not_true, Bool.not_false, Bool.and_true, Bool.true_and, Bool.and_false, Bool.false_and, Bool.not_eq_true, beq_self_eq_true, Nat.add_zero, Int.reduceLE, Int.reduceLT, Int.reduceToNat, Int.reduceNeg]
  refine VS.loop' (fun F g => Bel h.size h g ∧ F 0 = u ∧ IT g (F 5) oU ∧ IT g (F 10) oK ∧ ∃ (j : Nat) (oX2 oZ2 oX3 oZ3 : List Nat), j ≤ 255 ∧ F 11 = .int .i64 (254 - (j : Int)) ∧ IT g (F 6) oX2 ∧ IT g (F 7) oZ2 ∧ IT g (F 8) oX3 ∧ IT g (F 9) oZ3 ∧ Rf oX2 (ladZ kk uz j).x2 ∧ Rf oZ2 (ladZ kk uz j).z2 ∧ Rf oX3 (ladZ kk uz j).x3 ∧ Rf oZ3 (ladZ kk uz j).z3)
    (fun F _ => (vi (F 11) + 1).toNat) rfl ⟨hg, rfl, iU, iK, 0, oX2, oZ2, oU, oZ3, by omega, rfl, iX2, iZ2, iU, iZ3, rX2, rZ2, rU, rZ3⟩ ?_
  clear hg iU iK iX2 iZ2 iZ3 rX2 rZ2 rZ3 b2 b3 b4 b5
  rintro F g ⟨hg, f0, iU, iK, j, oX2, oZ2, oX3, oZ3, hj, f11, iX2, iZ2, iX3, iZ3, rX2, rZ2, rX3, rZ3⟩
  obtain ⟨V5, f5⟩ : ∃ V, F 5 = V := ⟨_, rfl⟩
  obtain ⟨V6, f6⟩ : ∃ V, F 6 = V := ⟨_, rfl⟩
  obtain ⟨V7, f7⟩ : ∃ V, F 7 = V := ⟨_, rfl⟩
  obtain ⟨V8, f8⟩ : ∃ V, F 8 = V := ⟨_, rfl⟩
  obtain ⟨V9, f9⟩ : ∃ V, F 9 = V := ⟨_, rfl⟩
  obtain ⟨V10, f10⟩ : ∃ V, F 10 = V := ⟨_, rfl⟩
  rw [f5] at iU
  rw [f6] at iX2
  rw [f7] at iZ2
  rw [f8] at iX3
  rw [f9] at iZ3
  rw [f10] at iK
  by_cases hlt : j < 255
  · have hge : 0 ≤ 254 - (j : Int) := by omega
    have hi : 254 - (j : Int) = ((254 - j : Nat) : Int) := by omega
    have hnext : (254 - (j : Int)) - 1 = 254 - ((j + 1 : Nat) : Int) := by omega
    have hμ : ((254 - ((j + 1 : Nat) : Int)) + 1).toNat < ((254 - (j : Int)) + 1).toNat := by omega
    have bit := bitAt_ok T g u kl (s.bel hg) hk (254 - j) (by omega)
    rw [← hkk, ← hi] at bit
    have hstep : ladZ kk uz (j + 1) = (((ladZ kk uz j).turn (kbit kk (254 - j))).core uz).turn (kbit kk (254 - j)) := by rw [ladZ]
    obtain ⟨zz, hzz⟩ : ∃ zz, zz = ladZ kk uz j := ⟨_, rfl⟩
    obtain ⟨b, hb⟩ : ∃ b, kbit kk (254 - j) = b := ⟨_, rfl⟩
    rw [hb] at bit hstep
    rw [← hzz] at rX2 rZ2 rX3 rZ3 hstep
    clear hzz hb
    obtain ⟨m, hm⟩ : ∃ m : Int, m = 254 - (j : Int) := ⟨_, rfl⟩
    have hm1 : m ≤ 254 := by omega
    rw [← hm] at f11 hge hnext hμ bit
    clear hi hm
    simp (config := {maxSteps := 2000000, implicitDefEqProofs := false}) only [go_sem, ↓reduceIte, Nat.reduceEqDiff, Nat.reduceAdd, Nat.reduceMul, Nat.reduceLeDiff, Nat.reduceLT, Nat.reduceSub, IntWalk.iteOmega, IntWalk.toNatUp, reduceCtorEq, false_and, and_false, false_or, or_false, true_or, or_true, not_true_eq_false, not_false_eq_true, Bool.not_true, Bool.not_false, Bool.and_true, Bool.true_and, Bool.and_false, Bool.false_and, Bool.not_eq_true, beq_self_eq_true, Nat.add_zero, Int.reduceLE, Int.reduceLT, Int.reduceToNat, Int.reduceNeg, f0, f5, f6, f7, f8, f9, f10, f11, hge]
    refine bit.pure ?_
    clear bit
    obtain ⟨zx2, zz2, zx3, zz3⟩ := zz
    dsimp only at rX2 rZ2 rX3 rZ3
    cases b
    · simp (config := {maxSteps := 2000000, implicitDefEqProofs := false}) only [go_sem, ↓reduceIte, Nat.reduceEqDiff, Nat.reduceAdd, Nat.reduceMul, Nat.reduceLeDiff, Nat.reduceLT, Nat.reduceSub, IntWalk.iteOmega, IntWalk.toNatUp, reduceCtorEq, false_and, and_false, false_or, or_false, true_or, or_true, not_true_eq_false, not_false_eq_true, Bool.not_true, Bool.not_false, Bool.and_true, Bool.true_and, Bool.and_false, Bool.false_and, Bool.not_eq_true, beq_self_eq_true, Nat.add_zero, Int.reduceLE, Int.reduceLT, Int.reduceToNat, Int.reduceNeg, f0, f5, f6, f7, f8, f9, f10, f11]
      refine (curveAdd_rf T _ _ _ _ _ _ _ iX2 iZ2 rX2 rZ2).use ?_
      rintro vxa g0 ⟨⟨oxa, ixa, rxa⟩, b0⟩
      replace iX2 := iX2.bel b0
      replace iZ2 := iZ2.bel b0
      replace iX3 := iX3.bel b0
      replace iZ3 := iZ3.bel b0
      replace iU := iU.bel b0
      replace iK := iK.bel b0
      replace hg := hg.trans (b0.mono hg.size)
      simp (config := {maxSteps := 2000000, implicitDefEqProofs := false}) only [go_sem, ↓reduceIte, Nat.reduceEqDiff, Nat.reduceAdd, Nat.reduceMul, Nat.reduceLeDiff, Nat.reduceLT, Nat.reduceSub, IntWalk.iteOmega, IntWalk.toNatUp, reduceCtorEq, false_and, and_false, false_or, or_false, true_or, or_true, not_true_eq_false, not_false_eq_true, Bool.not_true, Bool.not_false, Bool.and_true, Bool.true_and, Bool.and_false, Bool.false_and, Bool.not_eq_true, beq_self_eq_true, Nat.add_zero, Int.reduceLE, Int.reduceLT, Int.reduceToNat, Int.reduceNeg, f0, f5, f6, f7, f8, f9, f10, f11]
      refine (curveTake_rf T _ _ _ _ _ _ _ iX2 iZ2 rX2 rZ2).use ?_
      rintro vxb g1 ⟨⟨oxb, ixb, rxb⟩, b1⟩
      replace iX2 := iX2.bel b1
      replace iZ2 := iZ2.bel b1
      replace iX3 := iX3.bel b1
      replace iZ3 := iZ3.bel b1
      replace iU := iU.bel b1
      replace iK := iK.bel b1
      replace ixa := ixa.bel b1
      replace hg := hg.trans (b1.mono hg.size)
      clear iX2
      clear iZ2
      simp (config := {maxSteps := 2000000, implicitDefEqProofs := false}) only [go_sem, ↓reduceIte, Nat.reduceEqDiff, Nat.reduceAdd, Nat.reduceMul, Nat.reduceLeDiff, Nat.reduceLT, Nat.reduceSub, IntWalk.iteOmega, IntWalk.toNatUp, reduceCtorEq, false_and, and_false, false_or, or_false, true_or, or_true, not_true_eq_false, not_false_eq_true, Bool.not_true, Bool.not_false, Bool.and_true, Bool.true_and, Bool.and_false, Bool.false_and, Bool.not_eq_true, beq_self_eq_true, Nat.add_zero, Int.reduceLE, Int.reduceLT, Int.reduceToNat, Int.reduceNeg, f0, f5, f6, f7, f8, f9, f10, f11]
      refine (curveAdd_rf T _ _ _ _ _ _ _ iX3 iZ3 rX3 rZ3).use ?_
      rintro vxc g2 ⟨⟨oxc, ixc, rxc⟩, b2⟩
      replace iX3 := iX3.bel b2
      replace iZ3 := iZ3.bel b2
      replace iU := iU.bel b2
      replace iK := iK.bel b2
      replace ixa := ixa.bel b2
      replace ixb := ixb.bel b2
      replace hg := hg.trans (b2.mono hg.size)
      simp (config := {maxSteps := 2000000, implicitDefEqProofs := false}) only [go_sem, ↓reduceIte, Nat.reduceEqDiff, Nat.reduceAdd, Nat.reduceMul, Nat.reduceLeDiff, Nat.reduceLT, Nat.reduceSub, IntWalk.iteOmega, IntWalk.toNatUp, reduceCtorEq, false_and, and_false, false_or, or_false, true_or, or_true, not_true_eq_false, not_false_eq_true, Bool.not_true, Bool.not_false, Bool.and_true, Bool.true_and, Bool.and_false, Bool.false_and, Bool.not_eq_true, beq_self_eq_true, Nat.add_zero, Int.reduceLE, Int.reduceLT, Int.reduceToNat, Int.reduceNeg, f0, f5, f6, f7, f8, f9, f10, f11]
      refine (curveTake_rf T _ _ _ _ _ _ _ iX3 iZ3 rX3 rZ3).use ?_
      rintro vxd g3 ⟨⟨oxd, ixd, rxd⟩, b3⟩
      replace iX3 := iX3.bel b3
      replace iZ3 := iZ3.bel b3
      replace iU := iU.bel b3
      replace iK := iK.bel b3
      replace ixa := ixa.bel b3
      replace ixb := ixb.bel b3
      replace ixc := ixc.bel b3
      replace hg := hg.trans (b3.mono hg.size)
      clear iX3
      clear iZ3
      simp (config := {maxSteps := 2000000, implicitDefEqProofs := false}) only [go_sem, ↓reduceIte, Nat.reduceEqDiff, Nat.reduceAdd, Nat.reduceMul, Nat.reduceLeDiff, Nat.reduceLT, Nat.reduceSub, IntWalk.iteOmega, IntWalk.toNatUp, reduceCtorEq, false_and, and_false, false_or, or_false, true_or, or_true, not_true_eq_false, not_false_eq_true, Bool.not_true, Bool.not_false, Bool.and_true, Bool.true_and, Bool.and_false, Bool.false_and, Bool.not_eq_true, beq_self_eq_true, Nat.add_zero, Int.reduceLE, Int.reduceLT, Int.reduceToNat, Int.reduceNeg, f0, f5, f6, f7, f8, f9, f10, f11]
      refine (curveTimes_rf T _ _ _ _ _ _ _ ixa ixa rxa rxa).use ?_
      rintro vaa g4 ⟨⟨oaa, iaa, raa⟩, b4⟩
      replace iU := iU.bel b4
      replace iK := iK.bel b4
      replace ixa := ixa.bel b4
      replace ixb := ixb.bel b4
      replace ixc := ixc.bel b4
      replace ixd := ixd.bel b4
      replace hg := hg.trans (b4.mono hg.size)
      simp (config := {maxSteps := 2000000, implicitDefEqProofs := false}) only [go_sem, ↓reduceIte, Nat.reduceEqDiff, Nat.reduceAdd, Nat.reduceMul, Nat.reduceLeDiff, Nat.reduceLT, Nat.reduceSub, IntWalk.iteOmega, IntWalk.toNatUp, reduceCtorEq, false_and, and_false, false_or, or_false, true_or, or_true, not_true_eq_false, not_false_eq_true, Bool.not_true, Bool.not_false, Bool.and_true, Bool.true_and, Bool.and_false, Bool.false_and, Bool.not_eq_true, beq_self_eq_true, Nat.add_zero, Int.reduceLE, Int.reduceLT, Int.reduceToNat, Int.reduceNeg, f0, f5, f6, f7, f8, f9, f10, f11]
      refine (curveTimes_rf T _ _ _ _ _ _ _ ixb ixb rxb rxb).use ?_
      rintro vbb g5 ⟨⟨obb, ibb, rbb⟩, b5⟩
      replace iU := iU.bel b5
      replace iK := iK.bel b5
      replace ixa := ixa.bel b5
      replace ixb := ixb.bel b5
      replace ixc := ixc.bel b5
      replace ixd := ixd.bel b5
      replace iaa := iaa.bel b5
      replace hg := hg.trans (b5.mono hg.size)
      simp (config := {maxSteps := 2000000, implicitDefEqProofs := false}) only [go_sem, ↓reduceIte, Nat.reduceEqDiff, Nat.reduceAdd, Nat.reduceMul, Nat.reduceLeDiff, Nat.reduceLT, Nat.reduceSub, IntWalk.iteOmega, IntWalk.toNatUp, reduceCtorEq, false_and, and_false, false_or, or_false, true_or, or_true, not_true_eq_false, not_false_eq_true, Bool.not_true, Bool.not_false, Bool.and_true, Bool.true_and, Bool.and_false, Bool.false_and, Bool.not_eq_true, beq_self_eq_true, Nat.add_zero, Int.reduceLE, Int.reduceLT, Int.reduceToNat, Int.reduceNeg, f0, f5, f6, f7, f8, f9, f10, f11]
      refine (curveTake_rf T _ _ _ _ _ _ _ iaa ibb raa rbb).use ?_
      rintro vee g6 ⟨⟨oee, iee, ree⟩, b6⟩
      replace iU := iU.bel b6
      replace iK := iK.bel b6
      replace ixa := ixa.bel b6
      replace ixb := ixb.bel b6
      replace ixc := ixc.bel b6
      replace ixd := ixd.bel b6
      replace iaa := iaa.bel b6
      replace ibb := ibb.bel b6
      replace hg := hg.trans (b6.mono hg.size)
      simp (config := {maxSteps := 2000000, implicitDefEqProofs := false}) only [go_sem, ↓reduceIte, Nat.reduceEqDiff, Nat.reduceAdd, Nat.reduceMul, Nat.reduceLeDiff, Nat.reduceLT, Nat.reduceSub, IntWalk.iteOmega, IntWalk.toNatUp, reduceCtorEq, false_and, and_false, false_or, or_false, true_or, or_true, not_true_eq_false, not_false_eq_true, Bool.not_true, Bool.not_false, Bool.and_true, Bool.true_and, Bool.and_false, Bool.false_and, Bool.not_eq_true, beq_self_eq_true, Nat.add_zero, Int.reduceLE, Int.reduceLT, Int.reduceToNat, Int.reduceNeg, f0, f5, f6, f7, f8, f9, f10, f11]
      refine (curveTimes_rf T _ _ _ _ _ _ _ ixd ixa rxd rxa).use ?_
      rintro vda g7 ⟨⟨oda, ida, rda⟩, b7⟩
      replace iU := iU.bel b7
      replace iK := iK.bel b7
      replace ixa := ixa.bel b7
      replace ixb := ixb.bel b7
      replace ixc := ixc.bel b7
      replace ixd := ixd.bel b7
      replace iaa := iaa.bel b7
      replace ibb := ibb.bel b7
      replace iee := iee.bel b7
      replace hg := hg.trans (b7.mono hg.size)
      clear ixa
      clear ixd
      simp (config := {maxSteps := 2000000, implicitDefEqProofs := false}) only [go_sem, ↓reduceIte, Nat.reduceEqDiff, Nat.reduceAdd, Nat.reduceMul, Nat.reduceLeDiff, Nat.reduceLT, Nat.reduceSub, IntWalk.iteOmega, IntWalk.toNatUp, reduceCtorEq, false_and, and_false, false_or, or_false, true_or, or_true, not_true_eq_false, not_false_eq_true, Bool.not_true, Bool.not_false, Bool.and_true, Bool.true_and, Bool.and_false, Bool.false_and, Bool.not_eq_true, beq_self_eq_true, Nat.add_zero, Int.reduceLE, Int.reduceLT, Int.reduceToNat, Int.reduceNeg, f0, f5, f6, f7, f8, f9, f10, f11]
      refine (curveTimes_rf T _ _ _ _ _ _ _ ixc ixb rxc rxb).use ?_
      rintro vcb g8 ⟨⟨ocb, icb, rcb⟩, b8⟩
      replace iU := iU.bel b8
      replace iK := iK.bel b8
      replace ixb := ixb.bel b8
      replace ixc := ixc.bel b8
      replace iaa := iaa.bel b8
      replace ibb := ibb.bel b8
      replace iee := iee.bel b8
      replace ida := ida.bel b8
      replace hg := hg.trans (b8.mono hg.size)
      clear ixb
      clear ixc
      simp (config := {maxSteps := 2000000, implicitDefEqProofs := false}) only [go_sem, ↓reduceIte, Nat.reduceEqDiff, Nat.reduceAdd, Nat.reduceMul, Nat.reduceLeDiff, Nat.reduceLT, Nat.reduceSub, IntWalk.iteOmega, IntWalk.toNatUp, reduceCtorEq, false_and, and_false, false_or, or_false, true_or, or_true, not_true_eq_false, not_false_eq_true, Bool.not_true, Bool.not_false, Bool.and_true, Bool.true_and, Bool.and_false, Bool.false_and, Bool.not_eq_true, beq_self_eq_true, Nat.add_zero, Int.reduceLE, Int.reduceLT, Int.reduceToNat, Int.reduceNeg, f0, f5, f6, f7, f8, f9, f10, f11]
      refine (curveAdd_rf T _ _ _ _ _ _ _ ida icb rda rcb).use ?_
      rintro vsu g9 ⟨⟨osu, isu, rsu⟩, b9⟩
      replace iU := iU.bel b9
      replace iK := iK.bel b9
      replace iaa := iaa.bel b9
      replace ibb := ibb.bel b9
      replace iee := iee.bel b9
      replace ida := ida.bel b9
      replace icb := icb.bel b9
      replace hg := hg.trans (b9.mono hg.size)
      simp (config := {maxSteps := 2000000, implicitDefEqProofs := false}) only [go_sem, ↓reduceIte, Nat.reduceEqDiff, Nat.reduceAdd, Nat.reduceMul, Nat.reduceLeDiff, Nat.reduceLT, Nat.reduceSub, IntWalk.iteOmega, IntWalk.toNatUp, reduceCtorEq, false_and, and_false, false_or, or_false, true_or, or_true, not_true_eq_false, not_false_eq_true, Bool.not_true, Bool.not_false, Bool.and_true, Bool.true_and, Bool.and_false, Bool.false_and, Bool.not_eq_true, beq_self_eq_true, Nat.add_zero, Int.reduceLE, Int.reduceLT, Int.reduceToNat, Int.reduceNeg, f0, f5, f6, f7, f8, f9, f10, f11]
      refine (curveTake_rf T _ _ _ _ _ _ _ ida icb rda rcb).use ?_
      rintro vga g10 ⟨⟨oga, iga, rga⟩, b10⟩
      replace iU := iU.bel b10
      replace iK := iK.bel b10
      replace iaa := iaa.bel b10
      replace ibb := ibb.bel b10
      replace iee := iee.bel b10
      replace ida := ida.bel b10
      replace icb := icb.bel b10
      replace isu := isu.bel b10
      replace hg := hg.trans (b10.mono hg.size)
      clear ida
      clear icb
      simp (config := {maxSteps := 2000000, implicitDefEqProofs := false}) only [go_sem, ↓reduceIte, Nat.reduceEqDiff, Nat.reduceAdd, Nat.reduceMul, Nat.reduceLeDiff, Nat.reduceLT, Nat.reduceSub, IntWalk.iteOmega, IntWalk.toNatUp, reduceCtorEq, false_and, and_false, false_or, or_false, true_or, or_true, not_true_eq_false, not_false_eq_true, Bool.not_true, Bool.not_false, Bool.and_true, Bool.true_and, Bool.and_false, Bool.false_and, Bool.not_eq_true, beq_self_eq_true, Nat.add_zero, Int.reduceLE, Int.reduceLT, Int.reduceToNat, Int.reduceNeg, f0, f5, f6, f7, f8, f9, f10, f11]
      refine (curveTimes_rf T _ _ _ _ _ _ _ isu isu rsu rsu).use ?_
      rintro vn3 g11 ⟨⟨on3, in3, rn3⟩, b11⟩
      replace iU := iU.bel b11
      replace iK := iK.bel b11
      replace iaa := iaa.bel b11
      replace ibb := ibb.bel b11
      replace iee := iee.bel b11
      replace isu := isu.bel b11
      replace iga := iga.bel b11
      replace hg := hg.trans (b11.mono hg.size)
      clear isu
      simp (config := {maxSteps := 2000000, implicitDefEqProofs := false}) only [go_sem, ↓reduceIte, Nat.reduceEqDiff, Nat.reduceAdd, Nat.reduceMul, Nat.reduceLeDiff, Nat.reduceLT, Nat.reduceSub, IntWalk.iteOmega, IntWalk.toNatUp, reduceCtorEq, false_and, and_false, false_or, or_false, true_or, or_true, not_true_eq_false, not_false_eq_true, Bool.not_true, Bool.not_false, Bool.and_true, Bool.true_and, Bool.and_false, Bool.false_and, Bool.not_eq_true, beq_self_eq_true, Nat.add_zero, Int.reduceLE, Int.reduceLT, Int.reduceToNat, Int.reduceNeg, f0, f5, f6, f7, f8, f9, f10, f11]
      refine (curveTimes_rf T _ _ _ _ _ _ _ iga iga rga rga).use ?_
      rintro vsq g12 ⟨⟨osq, isq, rsq⟩, b12⟩
      replace iU := iU.bel b12
      replace iK := iK.bel b12
      replace iaa := iaa.bel b12
      replace ibb := ibb.bel b12
      replace iee := iee.bel b12
      replace iga := iga.bel b12
      replace in3 := in3.bel b12
      replace hg := hg.trans (b12.mono hg.size)
      clear iga
      simp (config := {maxSteps := 2000000, implicitDefEqProofs := false}) only [go_sem, ↓reduceIte, Nat.reduceEqDiff, Nat.reduceAdd, Nat.reduceMul, Nat.reduceLeDiff, Nat.reduceLT, Nat.reduceSub, IntWalk.iteOmega, IntWalk.toNatUp, reduceCtorEq, false_and, and_false, false_or, or_false, true_or, or_true, not_true_eq_false, not_false_eq_true, Bool.not_true, Bool.not_false, Bool.and_true, Bool.true_and, Bool.and_false, Bool.false_and, Bool.not_eq_true, beq_self_eq_true, Nat.add_zero, Int.reduceLE, Int.reduceLT, Int.reduceToNat, Int.reduceNeg, f0, f5, f6, f7, f8, f9, f10, f11]
      refine (curveTimes_rf T _ _ _ _ _ _ _ iU isq rU rsq).use ?_
      rintro vm3 g13 ⟨⟨om3, im3, rm3⟩, b13⟩
      replace iU := iU.bel b13
      replace iK := iK.bel b13
      replace iaa := iaa.bel b13
      replace ibb := ibb.bel b13
      replace iee := iee.bel b13
      replace in3 := in3.bel b13
      replace isq := isq.bel b13
      replace hg := hg.trans (b13.mono hg.size)
      clear isq
      simp (config := {maxSteps := 2000000, implicitDefEqProofs := false}) only [go_sem, ↓reduceIte, Nat.reduceEqDiff, Nat.reduceAdd, Nat.reduceMul, Nat.reduceLeDiff, Nat.reduceLT, Nat.reduceSub, IntWalk.iteOmega, IntWalk.toNatUp, reduceCtorEq, false_and, and_false, false_or, or_false, true_or, or_true, not_true_eq_false, not_false_eq_true, Bool.not_true, Bool.not_false, Bool.and_true, Bool.true_and, Bool.and_false, Bool.false_and, Bool.not_eq_true, beq_self_eq_true, Nat.add_zero, Int.reduceLE, Int.reduceLT, Int.reduceToNat, Int.reduceNeg, f0, f5, f6, f7, f8, f9, f10, f11]
      refine (curveTimes_rf T _ _ _ _ _ _ _ iaa ibb raa rbb).use ?_
      rintro vn2 g14 ⟨⟨on2, in2, rn2⟩, b14⟩
      replace iU := iU.bel b14
      replace iK := iK.bel b14
      replace iaa := iaa.bel b14
      replace ibb := ibb.bel b14
      replace iee := iee.bel b14
      replace in3 := in3.bel b14
      replace im3 := im3.bel b14
      replace hg := hg.trans (b14.mono hg.size)
      clear ibb
      simp (config := {maxSteps := 2000000, implicitDefEqProofs := false}) only [go_sem, ↓reduceIte, Nat.reduceEqDiff, Nat.reduceAdd, Nat.reduceMul, Nat.reduceLeDiff, Nat.reduceLT, Nat.reduceSub, IntWalk.iteOmega, IntWalk.toNatUp, reduceCtorEq, false_and, and_false, false_or, or_false, true_or, or_true, not_true_eq_false, not_false_eq_true, Bool.not_true, Bool.not_false, Bool.and_true, Bool.true_and, Bool.and_false, Bool.false_and, Bool.not_eq_true, beq_self_eq_true, Nat.add_zero, Int.reduceLE, Int.reduceLT, Int.reduceToNat, Int.reduceNeg, f0, f5, f6, f7, f8, f9, f10, f11]
      refine (curveTimes_rf T _ _ _ _ _ _ _ iK iee rK ree).use ?_
      rintro vpt g15 ⟨⟨opt, ipt, rpt⟩, b15⟩
      replace iU := iU.bel b15
      replace iK := iK.bel b15
      replace iaa := iaa.bel b15
      replace iee := iee.bel b15
      replace in3 := in3.bel b15
      replace im3 := im3.bel b15
      replace in2 := in2.bel b15
      replace hg := hg.trans (b15.mono hg.size)
      simp (config := {maxSteps := 2000000, implicitDefEqProofs := false}) only [go_sem, ↓reduceIte, Nat.reduceEqDiff, Nat.reduceAdd, Nat.reduceMul, Nat.reduceLeDiff, Nat.reduceLT, Nat.reduceSub, IntWalk.iteOmega, IntWalk.toNatUp, reduceCtorEq, false_and, and_false, false_or, or_false, true_or, or_true, not_true_eq_false, not_false_eq_true, Bool.not_true, Bool.not_false, Bool.and_true, Bool.true_and, Bool.and_false, Bool.false_and, Bool.not_eq_true, beq_self_eq_true, Nat.add_zero, Int.reduceLE, Int.reduceLT, Int.reduceToNat, Int.reduceNeg, f0, f5, f6, f7, f8, f9, f10, f11]
      refine (curveAdd_rf T _ _ _ _ _ _ _ iaa ipt raa rpt).use ?_
      rintro vwh g16 ⟨⟨owh, iwh, rwh⟩, b16⟩
      replace iU := iU.bel b16
      replace iK := iK.bel b16
      replace iaa := iaa.bel b16
      replace iee := iee.bel b16
      replace in3 := in3.bel b16
      replace im3 := im3.bel b16
      replace in2 := in2.bel b16
      replace ipt := ipt.bel b16
      replace hg := hg.trans (b16.mono hg.size)
      clear iaa
      clear ipt
      simp (config := {maxSteps := 2000000, implicitDefEqProofs := false}) only [go_sem, ↓reduceIte, Nat.reduceEqDiff, Nat.reduceAdd, Nat.reduceMul, Nat.reduceLeDiff, Nat.reduceLT, Nat.reduceSub, IntWalk.iteOmega, IntWalk.toNatUp, reduceCtorEq, false_and, and_false, false_or, or_false, true_or, or_true, not_true_eq_false, not_false_eq_true, Bool.not_true, Bool.not_false, Bool.and_true, Bool.true_and, Bool.and_false, Bool.false_and, Bool.not_eq_true, beq_self_eq_true, Nat.add_zero, Int.reduceLE, Int.reduceLT, Int.reduceToNat, Int.reduceNeg, f0, f5, f6, f7, f8, f9, f10, f11]
      refine (curveTimes_rf T _ _ _ _ _ _ _ iee iwh ree rwh).use ?_
      rintro vm2 g17 ⟨⟨om2, im2, rm2⟩, b17⟩
      replace iU := iU.bel b17
      replace iK := iK.bel b17
      replace iee := iee.bel b17
      replace in3 := in3.bel b17
      replace im3 := im3.bel b17
      replace in2 := in2.bel b17
      replace iwh := iwh.bel b17
      replace hg := hg.trans (b17.mono hg.size)
      clear iee
      clear iwh
      simp (config := {maxSteps := 2000000, implicitDefEqProofs := false}) only [go_sem, ↓reduceIte, Nat.reduceEqDiff, Nat.reduceAdd, Nat.reduceMul, Nat.reduceLeDiff, Nat.reduceLT, Nat.reduceSub, IntWalk.iteOmega, IntWalk.toNatUp, reduceCtorEq, false_and, and_false, false_or, or_false, true_or, or_true, not_true_eq_false, not_false_eq_true, Bool.not_true, Bool.not_false, Bool.and_true, Bool.true_and, Bool.and_false, Bool.false_and, Bool.not_eq_true, beq_self_eq_true, Nat.add_zero, Int.reduceLE, Int.reduceLT, Int.reduceToNat, Int.reduceNeg, f0, f5, f6, f7, f8, f9, f10, f11, hnext]
      rw [← f5] at iU
      rw [← f10] at iK
      rw [Int.mul_comm uz] at rm3
      rw [Int.mul_comm ((121665 : Nat) : Int)] at rm2
      refine ⟨⟨hg, f0, iU, iK, j + 1, on2, om2, on3, om3, hlt, rfl, in2, im2, in3, im3, ?_, ?_, ?_, ?_⟩, hμ⟩
      · rw [hstep]; exact rn2
      · rw [hstep]; exact rm2
      · rw [hstep]; exact rn3
      · rw [hstep]; exact rm3
    · simp (config := {maxSteps := 2000000, implicitDefEqProofs := false}) only [go_sem, ↓reduceIte, Nat.reduceEqDiff, Nat.reduceAdd, Nat.reduceMul, Nat.reduceLeDiff, Nat.reduceLT, Nat.reduceSub, IntWalk.iteOmega, IntWalk.toNatUp, reduceCtorEq, false_and, and_false, false_or, or_false, true_or, or_true, not_true_eq_false, not_false_eq_true, Bool.not_true, Bool.not_false, Bool.and_true, Bool.true_and, Bool.and_false, Bool.false_and, Bool.not_eq_true, beq_self_eq_true, Nat.add_zero, Int.reduceLE, Int.reduceLT, Int.reduceToNat, Int.reduceNeg, f0, f5, f6, f7, f8, f9, f10, f11]
      refine (curveAdd_rf T _ _ _ _ _ _ _ iX3 iZ3 rX3 rZ3).use ?_
      rintro vxa g0 ⟨⟨oxa, ixa, rxa⟩, b0⟩
      replace iX2 := iX2.bel b0
      replace iZ2 := iZ2.bel b0
      replace iX3 := iX3.bel b0
      replace iZ3 := iZ3.bel b0
      replace iU := iU.bel b0
      replace iK := iK.bel b0
      replace hg := hg.trans (b0.mono hg.size)
      simp (config := {maxSteps := 2000000, implicitDefEqProofs := false}) only [go_sem, ↓reduceIte, Nat.reduceEqDiff, Nat.reduceAdd, Nat.reduceMul, Nat.reduceLeDiff, Nat.reduceLT, Nat.reduceSub, IntWalk.iteOmega, IntWalk.toNatUp, reduceCtorEq, false_and, and_false, false_or, or_false, true_or, or_true, not_true_eq_false, not_false_eq_true, Bool.not_true, Bool.not_false, Bool.and_true, Bool.true_and, Bool.and_false, Bool.false_and, Bool.not_eq_true, beq_self_eq_true, Nat.add_zero, Int.reduceLE, Int.reduceLT, Int.reduceToNat, Int.reduceNeg, f0, f5, f6, f7, f8, f9, f10, f11]
      refine (curveTake_rf T _ _ _ _ _ _ _ iX3 iZ3 rX3 rZ3).use ?_
      rintro vxb g1 ⟨⟨oxb, ixb, rxb⟩, b1⟩
      replace iX2 := iX2.bel b1
      replace iZ2 := iZ2.bel b1
      replace iX3 := iX3.bel b1
      replace iZ3 := iZ3.bel b1
      replace iU := iU.bel b1
      replace iK := iK.bel b1
      replace ixa := ixa.bel b1
      replace hg := hg.trans (b1.mono hg.size)
      clear iX3
      clear iZ3
      simp (config := {maxSteps := 2000000, implicitDefEqProofs := false}) only [go_sem, ↓reduceIte, Nat.reduceEqDiff, Nat.reduceAdd, Nat.reduceMul, Nat.reduceLeDiff, Nat.reduceLT, Nat.reduceSub, IntWalk.iteOmega, IntWalk.toNatUp, reduceCtorEq, false_and, and_false, false_or, or_false, true_or, or_true, not_true_eq_false, not_false_eq_true, Bool.not_true, Bool.not_false, Bool.and_true, Bool.true_and, Bool.and_false, Bool.false_and, Bool.not_eq_true, beq_self_eq_true, Nat.add_zero, Int.reduceLE, Int.reduceLT, Int.reduceToNat, Int.reduceNeg, f0, f5, f6, f7, f8, f9, f10, f11]
      refine (curveAdd_rf T _ _ _ _ _ _ _ iX2 iZ2 rX2 rZ2).use ?_
      rintro vxc g2 ⟨⟨oxc, ixc, rxc⟩, b2⟩
      replace iX2 := iX2.bel b2
      replace iZ2 := iZ2.bel b2
      replace iU := iU.bel b2
      replace iK := iK.bel b2
      replace ixa := ixa.bel b2
      replace ixb := ixb.bel b2
      replace hg := hg.trans (b2.mono hg.size)
      simp (config := {maxSteps := 2000000, implicitDefEqProofs := false}) only [go_sem, ↓reduceIte, Nat.reduceEqDiff, Nat.reduceAdd, Nat.reduceMul, Nat.reduceLeDiff, Nat.reduceLT, Nat.reduceSub, IntWalk.iteOmega, IntWalk.toNatUp, reduceCtorEq, false_and, and_false, false_or, or_false, true_or, or_true, not_true_eq_false, not_false_eq_true, Bool.not_true, Bool.not_false, Bool.and_true, Bool.true_and, Bool.and_false, Bool.false_and, Bool.not_eq_true, beq_self_eq_true, Nat.add_zero, Int.reduceLE, Int.reduceLT, Int.reduceToNat, Int.reduceNeg, f0, f5, f6, f7, f8, f9, f10, f11]
      refine (curveTake_rf T _ _ _ _ _ _ _ iX2 iZ2 rX2 rZ2).use ?_
      rintro vxd g3 ⟨⟨oxd, ixd, rxd⟩, b3⟩
      replace iX2 := iX2.bel b3
      replace iZ2 := iZ2.bel b3
      replace iU := iU.bel b3
      replace iK := iK.bel b3
      replace ixa := ixa.bel b3
      replace ixb := ixb.bel b3
      replace ixc := ixc.bel b3
      replace hg := hg.trans (b3.mono hg.size)
      clear iX2
      clear iZ2
      simp (config := {maxSteps := 2000000, implicitDefEqProofs := false}) only [go_sem, ↓reduceIte, Nat.reduceEqDiff, Nat.reduceAdd, Nat.reduceMul, Nat.reduceLeDiff, Nat.reduceLT, Nat.reduceSub, IntWalk.iteOmega, IntWalk.toNatUp, reduceCtorEq, false_and, and_false, false_or, or_false, true_or, or_true, not_true_eq_false, not_false_eq_true, Bool.not_true, Bool.not_false, Bool.and_true, Bool.true_and, Bool.and_false, Bool.false_and, Bool.not_eq_true, beq_self_eq_true, Nat.add_zero, Int.reduceLE, Int.reduceLT, Int.reduceToNat, Int.reduceNeg, f0, f5, f6, f7, f8, f9, f10, f11]
      refine (curveTimes_rf T _ _ _ _ _ _ _ ixa ixa rxa rxa).use ?_
      rintro vaa g4 ⟨⟨oaa, iaa, raa⟩, b4⟩
      replace iU := iU.bel b4
      replace iK := iK.bel b4
      replace ixa := ixa.bel b4
      replace ixb := ixb.bel b4
      replace ixc := ixc.bel b4
      replace ixd := ixd.bel b4
      replace hg := hg.trans (b4.mono hg.size)
      simp (config := {maxSteps := 2000000, implicitDefEqProofs := false}) only [go_sem, ↓reduceIte, Nat.reduceEqDiff, Nat.reduceAdd, Nat.reduceMul, Nat.reduceLeDiff, Nat.reduceLT, Nat.reduceSub, IntWalk.iteOmega, IntWalk.toNatUp, reduceCtorEq, false_and, and_false, false_or, or_false, true_or, or_true, not_true_eq_false, not_false_eq_true, Bool.not_true, Bool.not_false, Bool.and_true, Bool.true_and, Bool.and_false, Bool.false_and, Bool.not_eq_true, beq_self_eq_true, Nat.add_zero, Int.reduceLE, Int.reduceLT, Int.reduceToNat, Int.reduceNeg, f0, f5, f6, f7, f8, f9, f10, f11]
      refine (curveTimes_rf T _ _ _ _ _ _ _ ixb ixb rxb rxb).use ?_
      rintro vbb g5 ⟨⟨obb, ibb, rbb⟩, b5⟩
      replace iU := iU.bel b5
      replace iK := iK.bel b5
      replace ixa := ixa.bel b5
      replace ixb := ixb.bel b5
      replace ixc := ixc.bel b5
      replace ixd := ixd.bel b5
      replace iaa := iaa.bel b5
      replace hg := hg.trans (b5.mono hg.size)
      simp (config := {maxSteps := 2000000, implicitDefEqProofs := false}) only [go_sem, ↓reduceIte, Nat.reduceEqDiff, Nat.reduceAdd, Nat.reduceMul, Nat.reduceLeDiff, Nat.reduceLT, Nat.reduceSub, IntWalk.iteOmega, IntWalk.toNatUp, reduceCtorEq, false_and, and_false, false_or, or_false, true_or, or_true, not_true_eq_false, not_false_eq_true, Bool.not_true, Bool.not_false, Bool.and_true, Bool.true_and, Bool.and_false, Bool.false_and, Bool.not_eq_true, beq_self_eq_true, Nat.add_zero, Int.reduceLE, Int.reduceLT, Int.reduceToNat, Int.reduceNeg, f0, f5, f6, f7, f8, f9, f10, f11]
      refine (curveTake_rf T _ _ _ _ _ _ _ iaa ibb raa rbb).use ?_
      rintro vee g6 ⟨⟨oee, iee, ree⟩, b6⟩
      replace iU := iU.bel b6
      replace iK := iK.bel b6
      replace ixa := ixa.bel b6
      replace ixb := ixb.bel b6
      replace ixc := ixc.bel b6
      replace ixd := ixd.bel b6
      replace iaa := iaa.bel b6
      replace ibb := ibb.bel b6
      replace hg := hg.trans (b6.mono hg.size)
      simp (config := {maxSteps := 2000000, implicitDefEqProofs := false}) only [go_sem, ↓reduceIte, Nat.reduceEqDiff, Nat.reduceAdd, Nat.reduceMul, Nat.reduceLeDiff, Nat.reduceLT, Nat.reduceSub, IntWalk.iteOmega, IntWalk.toNatUp, reduceCtorEq, false_and, and_false, false_or, or_false, true_or, or_true, not_true_eq_false, not_false_eq_true, Bool.not_true, Bool.not_false, Bool.and_true, Bool.true_and, Bool.and_false, Bool.false_and, Bool.not_eq_true, beq_self_eq_true, Nat.add_zero, Int.reduceLE, Int.reduceLT, Int.reduceToNat, Int.reduceNeg, f0, f5, f6, f7, f8, f9, f10, f11]
      refine (curveTimes_rf T _ _ _ _ _ _ _ ixd ixa rxd rxa).use ?_
      rintro vda g7 ⟨⟨oda, ida, rda⟩, b7⟩
      replace iU := iU.bel b7
      replace iK := iK.bel b7
      replace ixa := ixa.bel b7
      replace ixb := ixb.bel b7
      replace ixc := ixc.bel b7
      replace ixd := ixd.bel b7
      replace iaa := iaa.bel b7
      replace ibb := ibb.bel b7
      replace iee := iee.bel b7
      replace hg := hg.trans (b7.mono hg.size)
      clear ixa
      clear ixd
      simp (config := {maxSteps := 2000000, implicitDefEqProofs := false}) only [go_sem, ↓reduceIte, Nat.reduceEqDiff, Nat.reduceAdd, Nat.reduceMul, Nat.reduceLeDiff, Nat.reduceLT, Nat.reduceSub, IntWalk.iteOmega, IntWalk.toNatUp, reduceCtorEq, false_and, and_false, false_or, or_false, true_or, or_true, not_true_eq_false, not_false_eq_true, Bool.not_true, Bool.not_false, Bool.and_true, Bool.true_and, Bool.and_false, Bool.false_and, Bool.not_eq_true, beq_self_eq_true, Nat.add_zero, Int.reduceLE, Int.reduceLT, Int.reduceToNat, Int.reduceNeg, f0, f5, f6, f7, f8, f9, f10, f11]
      refine (curveTimes_rf T _ _ _ _ _ _ _ ixc ixb rxc rxb).use ?_
      rintro vcb g8 ⟨⟨ocb, icb, rcb⟩, b8⟩
      replace iU := iU.bel b8
      replace iK := iK.bel b8
      replace ixb := ixb.bel b8
      replace ixc := ixc.bel b8
      replace iaa := iaa.bel b8
      replace ibb := ibb.bel b8
      replace iee := iee.bel b8
      replace ida := ida.bel b8
      replace hg := hg.trans (b8.mono hg.size)
      clear ixb
      clear ixc
      simp (config := {maxSteps := 2000000, implicitDefEqProofs := false}) only [go_sem, ↓reduceIte, Nat.reduceEqDiff, Nat.reduceAdd, Nat.reduceMul, Nat.reduceLeDiff, Nat.reduceLT, Nat.reduceSub, IntWalk.iteOmega, IntWalk.toNatUp, reduceCtorEq, false_and, and_false, false_or, or_false, true_or, or_true, not_true_eq_false, not_false_eq_true, Bool.not_true, Bool.not_false, Bool.and_true, Bool.true_and, Bool.and_false, Bool.false_and, Bool.not_eq_true, beq_self_eq_true, Nat.add_zero, Int.reduceLE, Int.reduceLT, Int.reduceToNat, Int.reduceNeg, f0, f5, f6, f7, f8, f9, f10, f11]
      refine (curveAdd_rf T _ _ _ _ _ _ _ ida icb rda rcb).use ?_
      rintro vsu g9 ⟨⟨osu, isu, rsu⟩, b9⟩
      replace iU := iU.bel b9
      replace iK := iK.bel b9
      replace iaa := iaa.bel b9
      replace ibb := ibb.bel b9
      replace iee := iee.bel b9
      replace ida := ida.bel b9
      replace icb := icb.bel b9
      replace hg := hg.trans (b9.mono hg.size)
      simp (config := {maxSteps := 2000000, implicitDefEqProofs := false}) only [go_sem, ↓reduceIte, Nat.reduceEqDiff, Nat.reduceAdd, Nat.reduceMul, Nat.reduceLeDiff, Nat.reduceLT, Nat.reduceSub, IntWalk.iteOmega, IntWalk.toNatUp, reduceCtorEq, false_and, and_false, false_or, or_false, true_or, or_true, not_true_eq_false, not_false_eq_true, Bool.not_true, Bool.not_false, Bool.and_true, Bool.true_and, Bool.and_false, Bool.false_and, Bool.not_eq_true, beq_self_eq_true, Nat.add_zero, Int.reduceLE, Int.reduceLT, Int.reduceToNat, Int.reduceNeg, f0, f5, f6, f7, f8, f9, f10, f11]
      refine (curveTake_rf T _ _ _ _ _ _ _ ida icb rda rcb).use ?_
      rintro vga g10 ⟨⟨oga, iga, rga⟩, b10⟩
      replace iU := iU.bel b10
      replace iK := iK.bel b10
      replace iaa := iaa.bel b10
      replace ibb := ibb.bel b10
      replace iee := iee.bel b10
      replace ida := ida.bel b10
      replace icb := icb.bel b10
      replace isu := isu.bel b10
      replace hg := hg.trans (b10.mono hg.size)
      clear ida
      clear icb
      simp (config := {maxSteps := 2000000, implicitDefEqProofs := false}) only [go_sem, ↓reduceIte, Nat.reduceEqDiff, Nat.reduceAdd, Nat.reduceMul, Nat.reduceLeDiff, Nat.reduceLT, Nat.reduceSub, IntWalk.iteOmega, IntWalk.toNatUp, reduceCtorEq, false_and, and_false, false_or, or_false, true_or, or_true, not_true_eq_false, not_false_eq_true, Bool.not_true, Bool.not_false, Bool.and_true, Bool.true_and, Bool.and_false, Bool.false_and, Bool.not_eq_true, beq_self_eq_true, Nat.add_zero, Int.reduceLE, Int.reduceLT, Int.reduceToNat, Int.reduceNeg, f0, f5, f6, f7, f8, f9, f10, f11]
      refine (curveTimes_rf T _ _ _ _ _ _ _ isu isu rsu rsu).use ?_
      rintro vn3 g11 ⟨⟨on3, in3, rn3⟩, b11⟩
      replace iU := iU.bel b11
      replace iK := iK.bel b11
      replace iaa := iaa.bel b11
      replace ibb := ibb.bel b11
      replace iee := iee.bel b11
      replace isu := isu.bel b11
      replace iga := iga.bel b11
      replace hg := hg.trans (b11.mono hg.size)
      clear isu
      simp (config := {maxSteps := 2000000, implicitDefEqProofs := false}) only [go_sem, ↓reduceIte, Nat.reduceEqDiff, Nat.reduceAdd, Nat.reduceMul, Nat.reduceLeDiff, Nat.reduceLT, Nat.reduceSub, IntWalk.iteOmega, IntWalk.toNatUp, reduceCtorEq, false_and, and_false, false_or, or_false, true_or, or_true, not_true_eq_false, not_false_eq_true, Bool.not_true, Bool.not_false, Bool.and_true, Bool.true_and, Bool.and_false, Bool.false_and, Bool.not_eq_true, beq_self_eq_true, Nat.add_zero, Int.reduceLE, Int.reduceLT, Int.reduceToNat, Int.reduceNeg, f0, f5, f6, f7, f8, f9, f10, f11]
      refine (curveTimes_rf T _ _ _ _ _ _ _ iga iga rga rga).use ?_
      rintro vsq g12 ⟨⟨osq, isq, rsq⟩, b12⟩
      replace iU := iU.bel b12
      replace iK := iK.bel b12
      replace iaa := iaa.bel b12
      replace ibb := ibb.bel b12
      replace iee := iee.bel b12
      replace iga := iga.bel b12
      replace in3 := in3.bel b12
      replace hg := hg.trans (b12.mono hg.size)
      clear iga
      simp (config := {maxSteps := 2000000, implicitDefEqProofs := false}) only [go_sem, ↓reduceIte, Nat.reduceEqDiff, Nat.reduceAdd, Nat.reduceMul, Nat.reduceLeDiff, Nat.reduceLT, Nat.reduceSub, IntWalk.iteOmega, IntWalk.toNatUp, reduceCtorEq, false_and, and_false, false_or, or_false, true_or, or_true, not_true_eq_false, not_false_eq_true, Bool.not_true, Bool.not_false, Bool.and_true, Bool.true_and, Bool.and_false, Bool.false_and, Bool.not_eq_true, beq_self_eq_true, Nat.add_zero, Int.reduceLE, Int.reduceLT, Int.reduceToNat, Int.reduceNeg, f0, f5, f6, f7, f8, f9, f10, f11]
      refine (curveTimes_rf T _ _ _ _ _ _ _ iU isq rU rsq).use ?_
      rintro vm3 g13 ⟨⟨om3, im3, rm3⟩, b13⟩
      replace iU := iU.bel b13
      replace iK := iK.bel b13
      replace iaa := iaa.bel b13
      replace ibb := ibb.bel b13
      replace iee := iee.bel b13
      replace in3 := in3.bel b13
      replace isq := isq.bel b13
      replace hg := hg.trans (b13.mono hg.size)
      clear isq
      simp (config := {maxSteps := 2000000, implicitDefEqProofs := false}) only [go_sem, ↓reduceIte, Nat.reduceEqDiff, Nat.reduceAdd, Nat.reduceMul, Nat.reduceLeDiff, Nat.reduceLT, Nat.reduceSub, IntWalk.iteOmega, IntWalk.toNatUp, reduceCtorEq, false_and, and_false, false_or, or_false, true_or, or_true, not_true_eq_false, not_false_eq_true, Bool.not_true, Bool.not_false, Bool.and_true, Bool.true_and, Bool.and_false, Bool.false_and, Bool.not_eq_true, beq_self_eq_true, Nat.add_zero, Int.reduceLE, Int.reduceLT, Int.reduceToNat, Int.reduceNeg, f0, f5, f6, f7, f8, f9, f10, f11]
      refine (curveTimes_rf T _ _ _ _ _ _ _ iaa ibb raa rbb).use ?_
      rintro vn2 g14 ⟨⟨on2, in2, rn2⟩, b14⟩
      replace iU := iU.bel b14
      replace iK := iK.bel b14
      replace iaa := iaa.bel b14
      replace ibb := ibb.bel b14
      replace iee := iee.bel b14
      replace in3 := in3.bel b14
      replace im3 := im3.bel b14
      replace hg := hg.trans (b14.mono hg.size)
      clear ibb
      simp (config := {maxSteps := 2000000, implicitDefEqProofs := false}) only [go_sem, ↓reduceIte, Nat.reduceEqDiff, Nat.reduceAdd, Nat.reduceMul, Nat.reduceLeDiff, Nat.reduceLT, Nat.reduceSub, IntWalk.iteOmega, IntWalk.toNatUp, reduceCtorEq, false_and, and_false, false_or, or_false, true_or, or_true, not_true_eq_false, not_false_eq_true, Bool.not_true, Bool.not_false, Bool.and_true, Bool.true_and, Bool.and_false, Bool.false_and, Bool.not_eq_true, beq_self_eq_true, Nat.add_zero, Int.reduceLE, Int.reduceLT, Int.reduceToNat, Int.reduceNeg, f0, f5, f6, f7, f8, f9, f10, f11]
      refine (curveTimes_rf T _ _ _ _ _ _ _ iK iee rK ree).use ?_
      rintro vpt g15 ⟨⟨opt, ipt, rpt⟩, b15⟩
      replace iU := iU.bel b15
      replace iK := iK.bel b15
      replace iaa := iaa.bel b15
      replace iee := iee.bel b15
      replace in3 := in3.bel b15
      replace im3 := im3.bel b15
      replace in2 := in2.bel b15
      replace hg := hg.trans (b15.mono hg.size)
      simp (config := {maxSteps := 2000000, implicitDefEqProofs := false}) only [go_sem, ↓reduceIte, Nat.reduceEqDiff, Nat.reduceAdd, Nat.reduceMul, Nat.reduceLeDiff, Nat.reduceLT, Nat.reduceSub, IntWalk.iteOmega, IntWalk.toNatUp, reduceCtorEq, false_and, and_false, false_or, or_false, true_or, or_true, not_true_eq_false, not_false_eq_true, Bool.not_true, Bool.not_false, Bool.and_true, Bool.true_and, Bool.and_false, Bool.false_and, Bool.not_eq_true, beq_self_eq_true, Nat.add_zero, Int.reduceLE, Int.reduceLT, Int.reduceToNat, Int.reduceNeg, f0, f5, f6, f7, f8, f9, f10, f11]
      refine (curveAdd_rf T _ _ _ _ _ _ _ iaa ipt raa rpt).use ?_
      rintro vwh g16 ⟨⟨owh, iwh, rwh⟩, b16⟩
      replace iU := iU.bel b16
      replace iK := iK.bel b16
      replace iaa := iaa.bel b16
      replace iee := iee.bel b16
      replace in3 := in3.bel b16
      replace im3 := im3.bel b16
      replace in2 := in2.bel b16
      replace ipt := ipt.bel b16
      replace hg := hg.trans (b16.mono hg.size)
      clear iaa
      clear ipt
      simp (config := {maxSteps := 2000000, implicitDefEqProofs := false}) only [go_sem, ↓reduceIte, Nat.reduceEqDiff, Nat.reduceAdd, Nat.reduceMul, Nat.reduceLeDiff, Nat.reduceLT, Nat.reduceSub, IntWalk.iteOmega, IntWalk.toNatUp, reduceCtorEq, false_and, and_false, false_or, or_false, true_or, or_true, not_true_eq_false, not_false_eq_true, Bool.not_true, Bool.not_false, Bool.and_true, Bool.true_and, Bool.and_false, Bool.false_and, Bool.not_eq_true, beq_self_eq_true, Nat.add_zero, Int.reduceLE, Int.reduceLT, Int.reduceToNat, Int.reduceNeg, f0, f5, f6, f7, f8, f9, f10, f11]
      refine (curveTimes_rf T _ _ _ _ _ _ _ iee iwh ree rwh).use ?_
      rintro vm2 g17 ⟨⟨om2, im2, rm2⟩, b17⟩
      replace iU := iU.bel b17
      replace iK := iK.bel b17
      replace iee := iee.bel b17
      replace in3 := in3.bel b17
      replace im3 := im3.bel b17
      replace in2 := in2.bel b17
      replace iwh := iwh.bel b17
      replace hg := hg.trans (b17.mono hg.size)
      clear iee
      clear iwh
      simp (config := {maxSteps := 2000000, implicitDefEqProofs := false}) only [go_sem, ↓reduceIte, Nat.reduceEqDiff, Nat.reduceAdd, Nat.reduceMul, Nat.reduceLeDiff, Nat.reduceLT, Nat.reduceSub, IntWalk.iteOmega, IntWalk.toNatUp, reduceCtorEq, false_and, and_false, false_or, or_false, true_or, or_true, not_true_eq_false, not_false_eq_true, Bool.not_true, Bool.not_false, Bool.and_true, Bool.true_and, Bool.and_false, Bool.false_and, Bool.not_eq_true, beq_self_eq_true, Nat.add_zero, Int.reduceLE, Int.reduceLT, Int.reduceToNat, Int.reduceNeg, f0, f5, f6, f7, f8, f9, f10, f11, hnext]
      rw [← f5] at iU
      rw [← f10] at iK
      rw [Int.mul_comm uz] at rm3
      rw [Int.mul_comm ((121665 : Nat) : Int)] at rm2
      refine ⟨⟨hg, f0, iU, iK, j + 1, on3, om3, on2, om2, hlt, rfl, in3, im3, in2, im2, ?_, ?_, ?_, ?_⟩, hμ⟩
      · rw [hstep]; exact rn3
      · rw [hstep]; exact rm3
      · rw [hstep]; exact rn2
      · rw [hstep]; exact rm2
  · obtain rfl : j = 255 := by omega
    have c1 : (254 : Int) - ((255 : Nat) : Int) = -1 := rfl
    rw [c1] at f11
    obtain ⟨zz, hzz⟩ : ∃ zz, zz = ladZ kk uz 255 := ⟨_, rfl⟩
    rw [← hzz] at rX2 rZ2 lawf
    clear hzz
    simp (config := {maxSteps := 2000000, implicitDefEqProofs := false}) only [go_sem, ↓reduceIte, Nat.reduceEqDiff, Nat.reduceAdd, Nat.reduceMul, Nat.reduceLeDiff, Nat.reduceLT, Nat.reduceSub, IntWalk.iteOmega, IntWalk.toNatUp, reduceCtorEq, false_and, and_false, false_or, or_false, true_or, or_true, not_true_eq_false, not_false_eq_true, Bool.not_true, Bool.not_false, Bool.and_true, Bool.true_and, Bool.and_false, Bool.false_and, Bool.not_eq_true, beq_self_eq_true, Nat.add_zero, Int.reduceLE, Int.reduceLT, Int.reduceToNat, Int.reduceNeg, f0, f5, f6, f7, f8, f9, f10, f11]
    refine (curveOver_rf T g _ oZ2 _ iZ2 rZ2).use ?_
    rintro v1 g1' ⟨⟨o1, i1, r1⟩, b1⟩
    replace iX2 := iX2.bel b1
    replace hg := hg.trans (b1.mono hg.size)
    simp (config := {maxSteps := 2000000, implicitDefEqProofs := false}) only [go_sem, ↓reduceIte, Nat.reduceEqDiff, Nat.reduceAdd, Nat.reduceMul, Nat.reduceLeDiff, Nat.reduceLT, Nat.reduceSub, IntWalk.iteOmega, IntWalk.toNatUp, reduceCtorEq, false_and, and_false, false_or, or_false, true_or, or_true, not_true_eq_false, not_false_eq_true, Bool.not_true, Bool.not_false, Bool.and_true, Bool.true_and, Bool.and_false, Bool.false_and, Bool.not_eq_true, beq_self_eq_true, Nat.add_zero, Int.reduceLE, Int.reduceLT, Int.reduceToNat, Int.reduceNeg, f0, f5, f6, f7, f8, f9, f10, f11]
    refine (curveTimes_rf T _ _ _ _ _ _ _ iX2 i1 rX2 r1).use ?_
    rintro v2 g2' ⟨⟨o2, i2, r2⟩, b2⟩
    replace hg := hg.trans (b2.mono hg.size)
    have hres := lawf o2 r2
    rw [← hres]
    have l2 := r2.1.1
    have w2 := r2.1.2.1
    obtain ⟨q, cq, rfl, hcs⟩ := nv_open i2
    obtain ⟨bb, ob, rfl, hbb, hcs⟩ := hcs (by intro e; rw [e] at l2; cases l2)
    rw [l2] at hcs
    clear i1 iX2 i2 iU iK iZ2 iX3 iZ3 rX2 rZ2 rX3 rZ3 r1 r2 hres lawf
    simp (config := {maxSteps := 2000000, implicitDefEqProofs := false}) only [go_sem, ↓reduceIte, Nat.reduceEqDiff, Nat.reduceAdd, Nat.reduceMul, Nat.reduceLeDiff, Nat.reduceLT, Nat.reduceSub, IntWalk.iteOmega, IntWalk.toNatUp, reduceCtorEq, false_and, and_false, false_or, or_false, true_or, or_true, not_true_eq_false, not_false_eq_true, Bool.not_true, Bool.not_false, Bool.and_true, Bool.true_and, Bool.and_false, Bool.false_and, Bool.not_eq_true, beq_self_eq_true, Nat.add_zero, Int.reduceLE, Int.reduceLT, Int.reduceToNat, Int.reduceNeg, l2]
    refine VS.loop' (fun F g => Bel h.size h g ∧ Bel g2'.size g2' g ∧ F 32 = .slice (some ⟨bb, ob, none⟩) 16 cq ∧ ∃ i : Nat, i ≤ 16 ∧ F 34 = .int .i64 i ∧ OBs g2'.size 5 g (F 33) (byN o2 i))
      (fun F _ => 16 - (vi (F 34)).toNat) rfl ⟨hg, Bel.refl _ _, rfl, 0, by omega, rfl, OBs.nil _ _ _⟩ ?_
    have hsz := hg.size
    clear f0 f5 f6 f7 f8 f9 f10 f11 F
    rintro F g' ⟨hg', hgg, f32, i, hi, f34, ho⟩
    by_cases hl16 : i < 16
    · have hl16' : (i : Int) < 16 := by omega
      have gx : V.hc g' ⟨bb, ob + i, none⟩ = some (.int .i64 (o2.getD i 0 : Nat)) := by rw [hgg.hc (by exact hbb)]; exact hcs i hl16
      have hx := w2.getD i
      have hfb : byN o2 (i + 1) = byN o2 i ++ [o2.getD i 0 % 256, o2.getD i 0 / 256] := rfl
      have hfl := byN_length o2 i
      obtain ⟨m, hm⟩ : ∃ m, m = o2.getD i 0 := ⟨_, rfl⟩
      rw [← hm] at gx hx hfb
      have d0 : ((m : Nat) : Int).tmod 256 = ((m % 256 : Nat) : Int) := rfl
      have d1 : ((m : Nat) : Int).tdiv 256 = ((m / 256 : Nat) : Int) := rfl
      have d2 : ((m / 256 : Nat) : Int) % 256 = ((m / 256 : Nat) : Int) := by omega
      have d3 : ((m % 256 : Nat) : Int) % 256 = ((m % 256 : Nat) : Int) := by omega
      generalize byN o2 i = bs at *
      have hgs := hgg.size
      simp (config := {maxSteps := 2000000, implicitDefEqProofs := false}) only [go_sem, ↓reduceIte, Nat.reduceEqDiff, Nat.reduceAdd, Nat.reduceMul, Nat.reduceLeDiff, Nat.reduceLT, Nat.reduceSub, IntWalk.iteOmega, IntWalk.toNatUp, reduceCtorEq, false_and, and_false, false_or, or_false, true_or, or_true, not_true_eq_false, not_false_eq_true, Bool.not_true, Bool.not_false, Bool.and_true, Bool.true_and, Bool.and_false, Bool.false_and, Bool.not_eq_true, beq_self_eq_true, Nat.add_zero, Int.reduceLE, Int.reduceLT, Int.reduceToNat, Int.reduceNeg, f32, f34, hl16']
      refine VS.w (g2'.size) [] (.q 0 (.q 1 (.q 2 (.q 3 (.q 4 (.q 5 (.q 6 (.q 7 (.q 8 (.q 9 (.q 10 (.q 11 (.q 12 (.s 13 (.s 14 (.q 15 .nil)))))))))))))))) mixed (by kernel_rfl) ?_
      simp (config := {maxSteps := 2000000, implicitDefEqProofs := false}) only [go_sem, ↓reduceIte, Nat.reduceEqDiff, Nat.reduceAdd, Nat.reduceMul, Nat.reduceLeDiff, Nat.reduceLT, Nat.reduceSub, IntWalk.iteOmega, IntWalk.toNatUp, reduceCtorEq, false_and, and_false, false_or, or_false, true_or, or_true, not_true_eq_false, not_false_eq_true, Bool.not_true, Bool.not_false, Bool.and_true, Bool.true_and, Bool.and_false, Bool.false_and, Bool.not_eq_true, beq_self_eq_true, Nat.add_zero, Int.reduceLE, Int.reduceLT, Int.reduceToNat, Int.reduceNeg, f32, f34, hl16', Int.toNat_natCast, gx, hbb, d0, d1, d2, d3]
      refine ⟨Bel.push hgs _, ?_⟩
      refine append_bytes (E := 5) (B := g2'.size) tsl30 Try.underlying30 tn5 tz5 tb5 (ho.push _) (by simp; omega) (Bs.made (l := [m % 256, m / 256]) (fun x hx => by simp only [List.mem_cons, List.not_mem_nil, or_false] at hx; rcases hx with rfl | rfl <;> omega) 2) (by simp; omega) ?_
      intro v' h2 ho' hb2 _
      have B2 : Bel g2'.size g' h2 := (Bel.push hgs _).trans hb2
      simp (config := {maxSteps := 2000000, implicitDefEqProofs := false}) only [go_sem, ↓reduceIte, Nat.reduceEqDiff, Nat.reduceAdd, Nat.reduceMul, Nat.reduceLeDiff, Nat.reduceLT, Nat.reduceSub, IntWalk.iteOmega, IntWalk.toNatUp, reduceCtorEq, false_and, and_false, false_or, or_false, true_or, or_true, not_true_eq_false, not_false_eq_true, Bool.not_true, Bool.not_false, Bool.and_true, Bool.true_and, Bool.and_false, Bool.false_and, Bool.not_eq_true, beq_self_eq_true, Nat.add_zero, Int.reduceLE, Int.reduceLT, Int.reduceToNat, Int.reduceNeg, f32, f34]
      refine ⟨B2, ⟨hg'.trans (B2.mono hsz), hgg.trans B2, f32, i + 1, hl16, rfl, ?_⟩, ?_⟩
      · rw [hfb]; exact ho'
      · simp only [vi, updo_some, ↓reduceIte, f34]; omega
    · have hge : ¬ (i : Int) < 16 := by omega
      obtain rfl : i = 16 := by omega
      have c16 : ((16 : Nat) : Int) = 16 := rfl
      rw [c16] at f34
      simp (config := {maxSteps := 2000000, implicitDefEqProofs := false}) only [go_sem, ↓reduceIte, Nat.reduceEqDiff, Nat.reduceAdd, Nat.reduceMul, Nat.reduceLeDiff, Nat.reduceLT, Nat.reduceSub, IntWalk.iteOmega, IntWalk.toNatUp, reduceCtorEq, false_and, and_false, false_or, or_false, true_or, or_true, not_true_eq_false, not_false_eq_true, Bool.not_true, Bool.not_false, Bool.and_true, Bool.true_and, Bool.and_false, Bool.false_and, Bool.not_eq_true, beq_self_eq_true, Nat.add_zero, Int.reduceLE, Int.reduceLT, Int.reduceToNat, Int.reduceNeg, f34]
      exact ⟨ho.mono hsz, hg'⟩
end Go.Proofs.Ytiakfdpmapmifaa
