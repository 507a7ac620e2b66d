/- What is drawn of a secret: what the program and the document compute; no condition but those in the statements. -/
import Derived.Test.YtnpacofabdgcdaaDoorShn
namespace Go.Proofs.YtnpacofabdgcdaaDoor
open Go Go.V
set_option linter.unusedSimpArgs false
set_option linter.unusedVariables false
set_option maxRecDepth 100000
def drawErr (s a i : Nat) (n : Int) : Int := if 256 < s ∨ 256 < a ∨ 256 < i ∨ n < 0 ∨ 512 < n then 1 else 0
theorem blkOf_cap {p : Option Addr} {m c k c' b : Nat} (h : blkOf (.slice p m c) = some b) (hc : c' ≠ 0) : blkOf (.slice p k c') = some b := by
  cases p with
  | none => simp [blkOf] at h
  | some a =>
    simp only [blkOf] at h ⊢
    split at h
    · cases h
    · rw [if_neg hc]; exact h
theorem blkOf_ne {p : Option Addr} {m c b : Nat} (h : blkOf (.slice p m c) = some b) : c ≠ 0 := by
  cases p with
  | none => simp [blkOf] at h
  | some a =>
    simp only [blkOf] at h
    split at h
    · cases h
    · assumption
def DrawRes (B : Nat) (h' : Hp) (v' : Value) (secret salt info : List Nat) (n : Int) : Prop := ∃ w, v' = .tuple [w, .int .i64 (drawErr secret.length salt.length info.length n)].toArray ∧ Cap w ∧ Bs h' w (if drawErr secret.length salt.length info.length n = 0 then drawS secret salt info n.toNat else []) ∧ ∀ b, blkOf w = some b → B ≤ b
theorem shaDraw_ok (T : World) (h : Hp) (vs va vi' : Value) (secret salt info : List Nat) (n : Int) (ss : Bs h vs secret) (sa : Bs h va salt) (si : Bs h vi' info) (tk : Tk h) :
    CallsH Tryd.prog T 29 #[vs, va, vi', .int .i64 n] h fun v' h' => DrawRes h.size h' v' secret salt info n ∧ Bel h.size h h' := by
  obtain ⟨p1, c1, rfl, _⟩ := ss.open
  obtain ⟨p2, c2, rfl, _⟩ := sa.open
  obtain ⟨p3, c3, rfl, _⟩ := si.open
  refine CallsH.of_code' (args := [_, _, _, _]) Tryd.func29 rfl rfl rfl rfl ?_
  unfold DrawRes
  by_cases e1 : 256 < secret.length
  · have e1' : 256 < (secret.length : Int) := by omega
    have ee : drawErr secret.length salt.length info.length n = 1 := by unfold drawErr; rw [if_pos (.inl e1)]
    rw [ee]
    simp (config := {maxSteps := 2000000, implicitDefEqProofs := false}) only [go_sem, ↓reduceIte, Nat.reduceEqDiff, Nat.reduceAdd, Nat.reduceMul, Nat.reduceLeDiff, Nat.reduceLT, Nat.reduceSub, IntWalk.iteOmega, IntWalk.toNatUp, reduceCtorEq, Int.reduceLE, Int.reduceLT, Int.reduceToNat, Int.reduceNeg, e1']
    exact ⟨_, rfl, Nat.le_refl _, (OBs.nil 0 5 _).bs, fun b hb => by simp [blkOf] at hb⟩
  have e1' : ¬ 256 < (secret.length : Int) := by omega
  by_cases e2 : 256 < salt.length
  · have e2' : 256 < (salt.length : Int) := by omega
    have ee : drawErr secret.length salt.length info.length n = 1 := by unfold drawErr; rw [if_pos (.inr (.inl e2))]
    rw [ee]
    simp (config := {maxSteps := 2000000, implicitDefEqProofs := false}) only [go_sem, ↓reduceIte, Nat.reduceEqDiff, Nat.reduceAdd, Nat.reduceMul, Nat.reduceLeDiff, Nat.reduceLT, Nat.reduceSub, IntWalk.iteOmega, IntWalk.toNatUp, reduceCtorEq, Int.reduceLE, Int.reduceLT, Int.reduceToNat, Int.reduceNeg, e1', e2']
    exact ⟨_, rfl, Nat.le_refl _, (OBs.nil 0 5 _).bs, fun b hb => by simp [blkOf] at hb⟩
  have e2' : ¬ 256 < (salt.length : Int) := by omega
  by_cases e3 : 256 < info.length
  · have e3' : 256 < (info.length : Int) := by omega
    have ee : drawErr secret.length salt.length info.length n = 1 := by unfold drawErr; rw [if_pos (.inr (.inr (.inl e3)))]
    rw [ee]
    simp (config := {maxSteps := 2000000, implicitDefEqProofs := false}) only [go_sem, ↓reduceIte, Nat.reduceEqDiff, Nat.reduceAdd, Nat.reduceMul, Nat.reduceLeDiff, Nat.reduceLT, Nat.reduceSub, IntWalk.iteOmega, IntWalk.toNatUp, reduceCtorEq, Int.reduceLE, Int.reduceLT, Int.reduceToNat, Int.reduceNeg, e1', e2', e3']
    exact ⟨_, rfl, Nat.le_refl _, (OBs.nil 0 5 _).bs, fun b hb => by simp [blkOf] at hb⟩
  have e3' : ¬ 256 < (info.length : Int) := by omega
  by_cases e4 : n < 0
  · have ee : drawErr secret.length salt.length info.length n = 1 := by unfold drawErr; rw [if_pos (.inr (.inr (.inr (.inl e4))))]
    rw [ee]
    simp (config := {maxSteps := 2000000, implicitDefEqProofs := false}) only [go_sem, ↓reduceIte, Nat.reduceEqDiff, Nat.reduceAdd, Nat.reduceMul, Nat.reduceLeDiff, Nat.reduceLT, Nat.reduceSub, IntWalk.iteOmega, IntWalk.toNatUp, reduceCtorEq, Int.reduceLE, Int.reduceLT, Int.reduceToNat, Int.reduceNeg, e1', e2', e3', e4]
    exact ⟨_, rfl, Nat.le_refl _, (OBs.nil 0 5 _).bs, fun b hb => by simp [blkOf] at hb⟩
  by_cases e5 : 512 < n
  · have ee : drawErr secret.length salt.length info.length n = 1 := by unfold drawErr; rw [if_pos (.inr (.inr (.inr (.inr e5))))]
    rw [ee]
    simp (config := {maxSteps := 2000000, implicitDefEqProofs := false}) only [go_sem, ↓reduceIte, Nat.reduceEqDiff, Nat.reduceAdd, Nat.reduceMul, Nat.reduceLeDiff, Nat.reduceLT, Nat.reduceSub, IntWalk.iteOmega, IntWalk.toNatUp, reduceCtorEq, Int.reduceLE, Int.reduceLT, Int.reduceToNat, Int.reduceNeg, e1', e2', e3', e4, e5]
    exact ⟨_, rfl, Nat.le_refl _, (OBs.nil 0 5 _).bs, fun b hb => by simp [blkOf] at hb⟩
  have ee : drawErr secret.length salt.length info.length n = 0 := by unfold drawErr; rw [if_neg (by omega)]
  obtain ⟨m, rfl⟩ : ∃ m : Nat, n = m := ⟨n.toNat, by omega⟩
  rw [ee, Int.toNat_natCast]
  simp (config := {maxSteps := 2000000, implicitDefEqProofs := false}) only [go_sem, ↓reduceIte, Nat.reduceEqDiff, Nat.reduceAdd, Nat.reduceMul, Nat.reduceLeDiff, Nat.reduceLT, Nat.reduceSub, IntWalk.iteOmega, IntWalk.toNatUp, reduceCtorEq, Int.reduceLE, Int.reduceLT, Int.reduceToNat, Int.reduceNeg, e1', e2', e3', e4, e5]
  refine (mac_ok T _ _ _ salt secret sa ss (by omega) (by omega) tk).use ?_
  rintro vk h1 ⟨ok, b1⟩
  have s1 := b1.size
  obtain ⟨key, hkey⟩ : ∃ key, key = macS salt secret := ⟨_, rfl⟩
  rw [← hkey] at ok
  have kl : key.length = 32 := by rw [hkey]; exact macS_length _ _
  have hm : m ≤ 512 := by omega
  have eS : drawS secret salt info m = (drawA key info 16).take m := by rw [drawS, hkey]
  have dt : ∀ i, m ≤ 32 * i → i ≤ 16 → (drawA key info 16).take m = (drawA key info i).take m := fun i h1 h2 => drawA_take key info m i 16 h1 h2
  rw [eS]
  clear eS hkey
  simp (config := {maxSteps := 2000000, implicitDefEqProofs := false}) only [go_sem, ↓reduceIte, Nat.reduceEqDiff, Nat.reduceAdd, Nat.reduceMul, Nat.reduceLeDiff, Nat.reduceLT, Nat.reduceSub, IntWalk.iteOmega, IntWalk.toNatUp, reduceCtorEq, Int.reduceLE, Int.reduceLT, Int.reduceToNat, Int.reduceNeg]
  refine VS.loop' (fun F g => Bel h1.size h1 g ∧ F 2 = .slice p3 info.length c3 ∧ F 3 = .int .i64 m ∧ F 10 = vk ∧ ∃ i : Nat, 32 * i < m + 32 ∧ F 13 = .int .i64 ((i + 1 : Nat) : Int) ∧ OBs h1.size 5 g (F 11) (drawA key info i) ∧ OBs h1.size 5 g (F 12) (drawT key info i) ∧ ∀ b, blkOf (F 12) = some b → ¬ blkOf (F 11) = some b)
    (fun F _ => m + 32 - slen (F 11)) rfl ⟨Bel.refl _ _, rfl, rfl, rfl, 0, by omega, rfl, OBs.nil _ _ _, OBs.nil _ _ _, fun b hb => by cases hb⟩ ?_
  rintro F g ⟨hg, f2, f3, f10, i, hi, f13, oa, ot, hsep⟩
  have hgs := hg.size
  have Bg := b1.trans (hg.mono s1)
  obtain ⟨pa, ca, f11, hca⟩ := oa.open
  have al := drawA_length key info i
  rw [al] at f11 hca
  by_cases hlt : 32 * i < m
  · have hlt' : ((32 * i : Nat) : Int) < (m : Int) := by omega
    have tl := drawT_le key info i
    have i16 : i ≤ 16 := by omega
    have eT : drawT key info (i + 1) = macS key (drawT key info i ++ info ++ [(i + 1) % 256]) := rfl
    have eA : drawA key info (i + 1) = drawA key info i ++ drawT key info (i + 1) := rfl
    obtain ⟨lt, hlT⟩ : ∃ x, x = drawT key info i := ⟨_, rfl⟩
    rw [← hlT] at ot tl eT
    have hby : (i + 1) % 256 < 256 := Nat.mod_lt _ (by decide)
    obtain ⟨X, hX⟩ : ∃ X, X = (i + 1) % 256 := ⟨_, rfl⟩
    rw [← hX] at eT hby
    have ex : ((i + 1 : Nat) : Int) % 256 = (X : Int) := by rw [hX]; rfl
    clear hX hlT
    obtain ⟨xi, hxi⟩ : ∃ x : Int, x = ((i + 1 : Nat) : Int) := ⟨_, rfl⟩
    rw [← hxi] at ex f13
    simp (config := {maxSteps := 2000000, implicitDefEqProofs := false}) only [go_sem, ↓reduceIte, Nat.reduceEqDiff, Nat.reduceAdd, Nat.reduceMul, Nat.reduceLeDiff, Nat.reduceLT, Nat.reduceSub, IntWalk.iteOmega, IntWalk.toNatUp, reduceCtorEq, Int.reduceLE, Int.reduceLT, Int.reduceToNat, Int.reduceNeg, f2, f3, f10, f11, f13, hlt', ex]
    refine append_bytes2 (E := 5) (B := h1.size) tsl29 Tryd.underlying29 tn5 tz5 tb5 ot hgs (si.bel Bg) (by omega) ?_
    intro w2 g2 o2 b2 bt2 bk2
    have s2 := b2.size
    have oa2 := oa.but bt2 (fun b hb e => hsep b e hb)
    have ol2 : (lt ++ info).length ≤ 400 := by rw [List.length_append]; omega
    have sep2 : ∀ b, blkOf w2 = some b → ¬ blkOf (F 11) = some b := fun b hb e => by
      rcases bk2 b hb with q | q
      · exact hsep b q e
      · have := oa.own.lt b e; omega
    simp (config := {maxSteps := 2000000, implicitDefEqProofs := false}) only [go_sem, ↓reduceIte, Nat.reduceEqDiff, Nat.reduceAdd, Nat.reduceMul, Nat.reduceLeDiff, Nat.reduceLT, Nat.reduceSub, IntWalk.iteOmega, IntWalk.toNatUp, reduceCtorEq, Int.reduceLE, Int.reduceLT, Int.reduceToNat, Int.reduceNeg, f2, f3, f10, f13, ex]
    refine append_bytes2 (E := 5) (B := h1.size) tsl29 Tryd.underlying29 tn5 tz5 tb5 (o2.push _) (by simp; omega) (Bs.one hby 1) (by simp only [List.length_singleton]; omega) ?_
    intro w3 g3 o3 b3 bt3 bk3
    have s3 := b3.size
    simp only [Array.size_push] at s3 bk3
    have oa3 := (oa2.push (.cells [Value.int .u8 ((X : Nat) : Int)].toArray 5)).but bt3 (fun b hb e => sep2 b e hb)
    have Bg3 : Bel h1.size h1 g3 := ((hg.trans b2).addP (by omega) _).trans b3
    have B3 := b1.trans (Bg3.mono s1)
    have ok3 := ok.bel Bg3 (Nat.le_refl _)
    simp (config := {maxSteps := 2000000, implicitDefEqProofs := false}) only [go_sem, ↓reduceIte, Nat.reduceEqDiff, Nat.reduceAdd, Nat.reduceMul, Nat.reduceLeDiff, Nat.reduceLT, Nat.reduceSub, IntWalk.iteOmega, IntWalk.toNatUp, reduceCtorEq, Int.reduceLE, Int.reduceLT, Int.reduceToNat, Int.reduceNeg, f2, f3, f10, f13]
    refine (mac_ok T g3 vk w3 key _ ok3.bs o3.bs (by omega) (by rw [List.length_append]; simp only [List.length_singleton]; omega) (tk.bels B3)).use ?_
    rintro w4 g4 ⟨o4, b4⟩
    rw [← eT] at o4
    have s4 := b4.size
    have oa4 := oa3.bel b4 (Nat.le_refl _)
    have Bg4 := Bg3.trans (b4.mono (by omega))
    rw [f11] at oa4
    have tl1 := drawT_length key info i
    simp (config := {maxSteps := 2000000, implicitDefEqProofs := false}) only [go_sem, ↓reduceIte, Nat.reduceEqDiff, Nat.reduceAdd, Nat.reduceMul, Nat.reduceLeDiff, Nat.reduceLT, Nat.reduceSub, IntWalk.iteOmega, IntWalk.toNatUp, reduceCtorEq, Int.reduceLE, Int.reduceLT, Int.reduceToNat, Int.reduceNeg, f2, f3, f10, f11, f13]
    refine append_bytes2 (E := 5) (B := h1.size) tsl29 Tryd.underlying29 tn5 tz5 tb5 oa4 Bg4.size o4.bs (by rw [al, tl1]; omega) ?_
    intro w5 g5 o5 b5 bt5 bk5
    have s5 := b5.size
    obtain ⟨p5, c5, rfl, _⟩ := o5.open
    have sep4 : ∀ b, blkOf w4 = some b → ¬ blkOf (F 11) = some b := fun b hb e => by
      have q1 := o4.own.blk b hb
      have q2 := oa3.own.lt b e
      omega
    rw [f11] at sep4
    have o4' := (o4.mono (show h1.size ≤ g3.size by omega)).but bt5 (fun b hb e => sep4 b hb e)
    simp (config := {maxSteps := 2000000, implicitDefEqProofs := false}) only [go_sem, ↓reduceIte, Nat.reduceEqDiff, Nat.reduceAdd, Nat.reduceMul, Nat.reduceLeDiff, Nat.reduceLT, Nat.reduceSub, IntWalk.iteOmega, IntWalk.toNatUp, reduceCtorEq, Int.reduceLE, Int.reduceLT, Int.reduceToNat, Int.reduceNeg, f2, f3, f10, f13]
    refine ⟨⟨Bg4.trans b5, f2, f3, f10, i + 1, by omega, ?_, ?_, o4', fun b hb e => ?_⟩, ?_⟩
    · show Value.int .i64 _ = _
      rw [hxi]; rfl
    · rw [eA]; exact o5
    · have e' : blkOf (Value.slice p5 (drawA key info i ++ drawT key info (i + 1)).length c5) = some b := e
      rcases bk5 b e' with q | q
      · exact sep4 b hb q
      · have := o4.own.lt b hb; omega
    · simp only [slen, updo_some, ↓reduceIte, Nat.reduceEqDiff, f11, List.length_append, al, tl1]; omega
  · have hge : ¬ ((32 * i : Nat) : Int) < (m : Int) := by omega
    have e6 := dt i (by omega) (by omega)
    rw [e6]
    have oab := oa.bs
    have oaB := oa.own.blk
    rw [f11] at oab oaB
    rw [← al] at oab
    have hmc : (m : Int) ≤ (ca : Int) := by omega
    have hm0 : (0 : Int) ≤ (m : Int) := by omega
    have fin := Bs.fore oab (m := m) (by rw [al]; omega) m
    simp (config := {maxSteps := 2000000, implicitDefEqProofs := false}) only [go_sem, ↓reduceIte, Nat.reduceEqDiff, Nat.reduceAdd, Nat.reduceMul, Nat.reduceLeDiff, Nat.reduceLT, Nat.reduceSub, IntWalk.iteOmega, IntWalk.toNatUp, reduceCtorEq, Int.reduceLE, Int.reduceLT, Int.reduceToNat, Int.reduceNeg, f2, f3, f11, hge, hmc, hm0, Bg]
    exact ⟨_, rfl, Nat.le_refl _, fin, fun b hb => Nat.le_trans (by omega) (oaB b (blkOf_cap hb (by have := blkOf_ne hb; omega)))⟩
theorem drawnOf_ok (T : World) (h : Hp) (vs va vi' : Value) (secret salt info : List Nat) (n : Int) (ss : Bs h vs secret) (sa : Bs h va salt) (si : Bs h vi' info) :
    CallsH Tryd.prog T 30 #[vs, va, vi', .int .i64 n] h fun v' h' => DrawRes h.size h' v' secret salt info n ∧ Bel h.size h h' := by
  obtain ⟨p1, c1, rfl, _⟩ := ss.open
  obtain ⟨p2, c2, rfl, _⟩ := sa.open
  obtain ⟨p3, c3, rfl, _⟩ := si.open
  refine CallsH.of_code' (args := [_, _, _, _]) Tryd.func30 rfl rfl rfl rfl ?_
  unfold DrawRes
  by_cases e1 : 256 < secret.length
  · have e1' : 256 < (secret.length : Int) := by omega
    have ee : drawErr secret.length salt.length info.length n = 1 := by unfold drawErr; rw [if_pos (.inl e1)]
    rw [ee]
    simp (config := {maxSteps := 2000000, implicitDefEqProofs := false}) only [go_sem, ↓reduceIte, Nat.reduceEqDiff, Nat.reduceAdd, Nat.reduceMul, Nat.reduceLeDiff, Nat.reduceLT, Nat.reduceSub, IntWalk.iteOmega, IntWalk.toNatUp, reduceCtorEq, Int.reduceLE, Int.reduceLT, Int.reduceToNat, Int.reduceNeg, e1']
    exact ⟨_, rfl, Nat.le_refl _, (OBs.nil 0 5 _).bs, fun b hb => by simp [blkOf] at hb⟩
  have e1' : ¬ 256 < (secret.length : Int) := by omega
  by_cases e2 : 256 < salt.length
  · have e2' : 256 < (salt.length : Int) := by omega
    have ee : drawErr secret.length salt.length info.length n = 1 := by unfold drawErr; rw [if_pos (.inr (.inl e2))]
    rw [ee]
    simp (config := {maxSteps := 2000000, implicitDefEqProofs := false}) only [go_sem, ↓reduceIte, Nat.reduceEqDiff, Nat.reduceAdd, Nat.reduceMul, Nat.reduceLeDiff, Nat.reduceLT, Nat.reduceSub, IntWalk.iteOmega, IntWalk.toNatUp, reduceCtorEq, Int.reduceLE, Int.reduceLT, Int.reduceToNat, Int.reduceNeg, e1', e2']
    exact ⟨_, rfl, Nat.le_refl _, (OBs.nil 0 5 _).bs, fun b hb => by simp [blkOf] at hb⟩
  have e2' : ¬ 256 < (salt.length : Int) := by omega
  by_cases e3 : 256 < info.length
  · have e3' : 256 < (info.length : Int) := by omega
    have ee : drawErr secret.length salt.length info.length n = 1 := by unfold drawErr; rw [if_pos (.inr (.inr (.inl e3)))]
    rw [ee]
    simp (config := {maxSteps := 2000000, implicitDefEqProofs := false}) only [go_sem, ↓reduceIte, Nat.reduceEqDiff, Nat.reduceAdd, Nat.reduceMul, Nat.reduceLeDiff, Nat.reduceLT, Nat.reduceSub, IntWalk.iteOmega, IntWalk.toNatUp, reduceCtorEq, Int.reduceLE, Int.reduceLT, Int.reduceToNat, Int.reduceNeg, e1', e2', e3']
    exact ⟨_, rfl, Nat.le_refl _, (OBs.nil 0 5 _).bs, fun b hb => by simp [blkOf] at hb⟩
  have e3' : ¬ 256 < (info.length : Int) := by omega
  by_cases e4 : 0 ≤ n ∧ n ≤ 512
  case neg =>
    have ee : drawErr secret.length salt.length info.length n = 1 := by unfold drawErr; rw [if_pos (.inr (.inr (.inr (by omega))))]
    rw [ee]
    have hd : decide (0 ≤ n ∧ n ≤ 512) = false := decide_eq_false e4
    simp (config := {maxSteps := 2000000, implicitDefEqProofs := false}) only [go_sem, ↓reduceIte, Nat.reduceEqDiff, Nat.reduceAdd, Nat.reduceMul, Nat.reduceLeDiff, Nat.reduceLT, Nat.reduceSub, IntWalk.iteOmega, IntWalk.toNatUp, reduceCtorEq, Int.reduceLE, Int.reduceLT, Int.reduceToNat, Int.reduceNeg, e1', e2', e3']
    refine (in_ok T _ _ _ _).pure ?_
    rw [hd]
    simp (config := {maxSteps := 2000000, implicitDefEqProofs := false}) only [go_sem, ↓reduceIte, Nat.reduceEqDiff, Nat.reduceAdd, Nat.reduceMul, Nat.reduceLeDiff, Nat.reduceLT, Nat.reduceSub, IntWalk.iteOmega, IntWalk.toNatUp, reduceCtorEq, Int.reduceLE, Int.reduceLT, Int.reduceToNat, Int.reduceNeg]
    exact ⟨_, rfl, Nat.le_refl _, (OBs.nil 0 5 _).bs, fun b hb => by simp [blkOf] at hb⟩
  have ee : drawErr secret.length salt.length info.length n = 0 := by unfold drawErr; rw [if_neg (by omega)]
  have hd : decide (0 ≤ n ∧ n ≤ 512) = true := decide_eq_true e4
  rw [ee]
  simp (config := {maxSteps := 2000000, implicitDefEqProofs := false}) only [go_sem, ↓reduceIte, Nat.reduceEqDiff, Nat.reduceAdd, Nat.reduceMul, Nat.reduceLeDiff, Nat.reduceLT, Nat.reduceSub, IntWalk.iteOmega, IntWalk.toNatUp, reduceCtorEq, Int.reduceLE, Int.reduceLT, Int.reduceToNat, Int.reduceNeg, e1', e2', e3']
  refine (in_ok T _ _ _ _).pure ?_
  rw [hd]
  obtain ⟨m, rfl⟩ : ∃ m : Nat, n = m := ⟨n.toNat, by omega⟩
  rw [Int.toNat_natCast]
  clear hd
  simp (config := {maxSteps := 2000000, implicitDefEqProofs := false}) only [go_sem, ↓reduceIte, Nat.reduceEqDiff, Nat.reduceAdd, Nat.reduceMul, Nat.reduceLeDiff, Nat.reduceLT, Nat.reduceSub, IntWalk.iteOmega, IntWalk.toNatUp, reduceCtorEq, Int.reduceLE, Int.reduceLT, Int.reduceToNat, Int.reduceNeg]
  refine (macced_ok T _ _ _ salt secret sa ss (by omega) (by omega)).use ?_
  rintro vk h1 ⟨ok, b1⟩
  have s1 := b1.size
  obtain ⟨key, hkey⟩ : ∃ key, key = macS salt secret := ⟨_, rfl⟩
  rw [← hkey] at ok
  have kl : key.length = 32 := by rw [hkey]; exact macS_length _ _
  have hm : m ≤ 512 := by omega
  have eS : drawS secret salt info m = (drawA key info 16).take m := by rw [drawS, hkey]
  rw [eS]
  clear eS hkey
  have o0 : OBs h1.size 5 h1 (.slice none 0 0) ((drawA key info 0).take m) := by
    rw [show (drawA key info 0).take m = [] from List.take_nil]; exact OBs.nil _ _ _
  simp (config := {maxSteps := 2000000, implicitDefEqProofs := false}) only [go_sem, ↓reduceIte, Nat.reduceEqDiff, Nat.reduceAdd, Nat.reduceMul, Nat.reduceLeDiff, Nat.reduceLT, Nat.reduceSub, IntWalk.iteOmega, IntWalk.toNatUp, reduceCtorEq, Int.reduceLE, Int.reduceLT, Int.reduceToNat, Int.reduceNeg]
  refine VS.loop' (fun F g => Bel h1.size h1 g ∧ F 2 = .slice p3 info.length c3 ∧ F 3 = .int .i64 m ∧ F 10 = vk ∧ ∃ i : Nat, i ≤ 16 ∧ F 13 = .int .i64 ((i + 1 : Nat) : Int) ∧ OBs h1.size 5 g (F 11) ((drawA key info i).take m) ∧ OBs h1.size 5 g (F 12) (drawT key info i))
    (fun F _ => 18 - (vi (F 13)).toNat) rfl ⟨Bel.refl _ _, rfl, rfl, rfl, 0, by omega, rfl, o0, OBs.nil _ _ _⟩ ?_
  clear o0
  rintro F g ⟨hg, f2, f3, f10, i, hi, f13, oa, ot⟩
  have hgs := hg.size
  have Bg := b1.trans (hg.mono s1)
  have al := drawA_length key info i
  obtain ⟨xi, hxi⟩ : ∃ x : Int, x = ((i + 1 : Nat) : Int) := ⟨_, rfl⟩
  rw [← hxi] at f13
  by_cases hlt : i < 16
  · have hlt' : xi ≤ 16 := by omega
    have tl := drawT_le key info i
    have eT : drawT key info (i + 1) = macS key (drawT key info i ++ info ++ [(i + 1) % 256]) := rfl
    have eA : drawA key info (i + 1) = drawA key info i ++ drawT key info (i + 1) := rfl
    obtain ⟨lt, hlT⟩ : ∃ x, x = drawT key info i := ⟨_, rfl⟩
    rw [← hlT] at ot tl eT
    have hby : (i + 1) % 256 < 256 := Nat.mod_lt _ (by decide)
    obtain ⟨X, hX⟩ : ∃ X, X = (i + 1) % 256 := ⟨_, rfl⟩
    rw [← hX] at eT hby
    have ex : xi % 256 = (X : Int) := by rw [hxi, hX]; rfl
    clear hX hlT
    simp (config := {maxSteps := 2000000, implicitDefEqProofs := false}) only [go_sem, ↓reduceIte, Nat.reduceEqDiff, Nat.reduceAdd, Nat.reduceMul, Nat.reduceLeDiff, Nat.reduceLT, Nat.reduceSub, IntWalk.iteOmega, IntWalk.toNatUp, reduceCtorEq, Int.reduceLE, Int.reduceLT, Int.reduceToNat, Int.reduceNeg, f2, f3, f10, f13, hlt']
    refine (joined_ok T g _ _ lt info ot.bs (si.bel Bg) (by omega)).use ?_
    rintro w2 g2 ⟨o2, b2⟩
    have s2 := b2.size
    have oa2 := oa.bel b2 (Nat.le_refl _)
    have ol2 : (lt ++ info).length ≤ 400 := by rw [List.length_append]; omega
    simp (config := {maxSteps := 2000000, implicitDefEqProofs := false}) only [go_sem, ↓reduceIte, Nat.reduceEqDiff, Nat.reduceAdd, Nat.reduceMul, Nat.reduceLeDiff, Nat.reduceLT, Nat.reduceSub, IntWalk.iteOmega, IntWalk.toNatUp, reduceCtorEq, Int.reduceLE, Int.reduceLT, Int.reduceToNat, Int.reduceNeg, f2, f3, f10, f13, ex]
    refine append_bytes2 (E := 5) (B := g.size) tsl29 Tryd.underlying29 tn5 tz5 tb5 (o2.push _) (by simp; omega) (Bs.one hby 1) (by simp only [List.length_singleton]; omega) ?_
    intro w3 g3 o3 b3 bt3 bk3
    have s3 := b3.size
    simp only [Array.size_push] at s3 bk3
    have b23 : Bel g.size g g3 := (b2.addP (by omega) _).trans b3
    have oa3 := oa.bel b23 (Nat.le_refl _)
    have Bg3 : Bel h1.size h1 g3 := hg.trans (b23.mono hgs)
    have B3 := b1.trans (Bg3.mono s1)
    have ok3 := ok.bel Bg3 (Nat.le_refl _)
    simp (config := {maxSteps := 2000000, implicitDefEqProofs := false}) only [go_sem, ↓reduceIte, Nat.reduceEqDiff, Nat.reduceAdd, Nat.reduceMul, Nat.reduceLeDiff, Nat.reduceLT, Nat.reduceSub, IntWalk.iteOmega, IntWalk.toNatUp, reduceCtorEq, Int.reduceLE, Int.reduceLT, Int.reduceToNat, Int.reduceNeg, f2, f3, f10, f13]
    refine (macced_ok T g3 vk w3 key _ ok3.bs o3.bs (by omega) (by rw [List.length_append]; simp only [List.length_singleton]; omega)).use ?_
    rintro w4 g4 ⟨o4, b4⟩
    rw [← eT] at o4
    have s4 := b4.size
    have oa4 := oa3.bel b4 (Nat.le_refl _)
    have Bg4 := Bg3.trans (b4.mono (by omega))
    have tl1 := drawT_length key info i
    have tb := drawT_byte key info (i + 1)
    have sep4 : ∀ b, blkOf w4 = some b → ¬ blkOf (F 11) = some b := fun b hb e => by
      have q1 := o4.own.blk b hb
      have q2 := oa3.own.lt b e
      omega
    obtain ⟨LT, hLT⟩ : ∃ x, x = drawT key info (i + 1) := ⟨_, rfl⟩
    rw [← hLT] at o4 tl1 eA tb
    have o0 : OBs h1.size 5 g4 (F 11) ((drawA key info i ++ LT.take 0).take m) := by rw [List.take_zero, List.append_nil]; exact oa4
    simp (config := {maxSteps := 2000000, implicitDefEqProofs := false}) only [go_sem, ↓reduceIte, Nat.reduceEqDiff, Nat.reduceAdd, Nat.reduceMul, Nat.reduceLeDiff, Nat.reduceLT, Nat.reduceSub, IntWalk.iteOmega, IntWalk.toNatUp, reduceCtorEq, Int.reduceLE, Int.reduceLT, Int.reduceToNat, Int.reduceNeg, f2, f3, f10, f13]
    refine VS.loop' (fun F g => Bel h1.size h1 g ∧ F 2 = .slice p3 info.length c3 ∧ F 3 = .int .i64 m ∧ F 10 = vk ∧ F 13 = .int .i64 xi ∧ F 12 = w4 ∧ ∃ k : Nat, k ≤ 32 ∧ F 15 = .int .i64 k ∧ OBs h1.size 5 g (F 11) ((drawA key info i ++ LT.take k).take m) ∧ OBs h1.size 5 g w4 LT ∧ ∀ b, blkOf w4 = some b → ¬ blkOf (F 11) = some b)
      (fun F _ => 32 - (vi (F 15)).toNat) rfl ⟨Bg4, f2, f3, f10, f13, rfl, 0, by omega, rfl, o0, o4.mono (by omega), sep4⟩ ?_
    clear o0 sep4 oa4 Bg4 o4 ok3 B3 Bg3 oa3 b23 oa2 o3 b3 bt3 bk3 o2 b2 s2 s3 s4 b4 oa ot f2 f3 f10 f13 hgs Bg hg F
    rintro F g ⟨hg, f2, f3, f10, f13, f12, k, hk, f15, oa, o4, hsep⟩
    have hgs := hg.size
    have lL : (drawA key info i ++ LT.take k).length = 32 * i + k := by rw [List.length_append, al, List.length_take]; omega
    obtain ⟨pa, ca, f11, hca⟩ := oa.open
    have lM : ((drawA key info i ++ LT.take k).take m).length = min m (32 * i + k) := by rw [List.length_take, lL]
    rw [lM] at f11
    by_cases hk32 : k < 32
    · have hk' : (k : Int) < 32 := by omega
      by_cases hmk : 32 * i + k < m
      · have hmin : ((min m (32 * i + k) : Nat) : Int) < (m : Int) := by omega
        obtain ⟨pt, ct, ft, hct⟩ := o4.bs.opend
        rw [tl1] at ft hct
        obtain ⟨bt, ob, rfl, hbt, hct⟩ := hct (by intro e; rw [e] at tl1; simp at tl1)
        have f12' := f12.trans ft
        have n1 := hct k hk32
        have hXb := getD_byte tb k
        have et : (drawA key info i ++ LT.take (k + 1)).take m = (drawA key info i ++ LT.take k).take m ++ [LT.getD k 0] := by
          have e9 : LT.take (k + 1) = LT.take k ++ [LT.getD k 0] := by
            rw [take_snoc _ k (by omega), List.getD_eq_getElem?_getD, List.getElem?_eq_getElem (by omega)]; rfl
          have w1 : ((drawA key info i ++ LT.take k) ++ [LT.getD k 0]).take m = (drawA key info i ++ LT.take k) ++ [LT.getD k 0] := List.take_of_length_le (by rw [List.length_append, lL]; simp only [List.length_singleton]; omega)
          have w2 : (drawA key info i ++ LT.take k).take m = drawA key info i ++ LT.take k := List.take_of_length_le (by rw [lL]; omega)
          rw [e9, ← List.append_assoc, w1, w2]
        generalize LT.getD k 0 = Y at *
        have oa2 := oa
        rw [f11] at oa2
        rw [f11] at hsep
        simp (config := {maxSteps := 2000000, implicitDefEqProofs := false}) only [go_sem, ↓reduceIte, Nat.reduceEqDiff, Nat.reduceAdd, Nat.reduceMul, Nat.reduceLeDiff, Nat.reduceLT, Nat.reduceSub, IntWalk.iteOmega, IntWalk.toNatUp, reduceCtorEq, Int.reduceLE, Int.reduceLT, Int.reduceToNat, Int.reduceNeg, f2, f3, f11, f12', f15, hk', hmin, n1]
        refine append_bytes2 (E := 5) (B := h1.size) tsl29 Tryd.underlying29 tn5 tz5 tb5 (oa2.push _) (by simp; omega) (Bs.one hXb 1) (by rw [lM]; simp only [List.length_singleton]; omega) ?_
        intro w5 g5 o5 b5 bt5 bk5
        simp only [Array.size_push] at bk5
        simp (config := {maxSteps := 2000000, implicitDefEqProofs := false}) only [go_sem, ↓reduceIte, Nat.reduceEqDiff, Nat.reduceAdd, Nat.reduceMul, Nat.reduceLeDiff, Nat.reduceLT, Nat.reduceSub, IntWalk.iteOmega, IntWalk.toNatUp, reduceCtorEq, Int.reduceLE, Int.reduceLT, Int.reduceToNat, Int.reduceNeg, f2, f3, f10, f13, f15]
        refine ⟨⟨(hg.addP hgs _).trans b5, f2, f3, f10, f13, f12, k + 1, hk32, rfl, ?_, ?_, fun b hb e => ?_⟩, ?_⟩
        · rw [et]; exact o5
        · exact (o4.push _).but bt5 (fun b hb e => hsep b hb e)
        · have e' : blkOf w5 = some b := e
          rcases bk5 b e' with q | q
          · exact hsep b hb q
          · have := o4.own.lt b hb; omega
        · simp only [vi, updo_some, ↓reduceIte, f15]; omega
      · have hmin : ¬ ((min m (32 * i + k) : Nat) : Int) < (m : Int) := by omega
        have ef : (drawA key info (i + 1)).take m = (drawA key info i ++ LT.take k).take m := by
          rw [eA]
          have e9 : drawA key info i ++ LT = (drawA key info i ++ LT.take k) ++ LT.drop k := by rw [List.append_assoc, List.take_append_drop]
          rw [e9, List.take_append_of_le_length (by rw [lL]; omega)]
        have oa2 := oa
        rw [f11] at oa2
        simp (config := {maxSteps := 2000000, implicitDefEqProofs := false}) only [go_sem, ↓reduceIte, Nat.reduceEqDiff, Nat.reduceAdd, Nat.reduceMul, Nat.reduceLeDiff, Nat.reduceLT, Nat.reduceSub, IntWalk.iteOmega, IntWalk.toNatUp, reduceCtorEq, Int.reduceLE, Int.reduceLT, Int.reduceToNat, Int.reduceNeg, f2, f3, f10, f11, f13, f15, hk', hmin]
        refine ⟨⟨hg, f2, f3, f10, i + 1, hlt, ?_, ?_, ?_⟩, ?_⟩
        · show Value.int .i64 _ = _
          rw [hxi]; rfl
        · rw [ef]; first | exact oa | exact oa2
        · show OBs h1.size 5 g (F 12) (drawT key info (i + 1))
          rw [f12, ← hLT]; exact o4
        · simp only [vi, updo_some, ↓reduceIte, f13]; omega
    · have hk' : ¬ (k : Int) < 32 := by omega
      obtain rfl : k = 32 := by omega
      have ef : (drawA key info (i + 1)).take m = (drawA key info i ++ LT.take 32).take m := by
        rw [eA, List.take_of_length_le (show LT.length ≤ 32 by omega)]
      simp (config := {maxSteps := 2000000, implicitDefEqProofs := false}) only [go_sem, ↓reduceIte, Nat.reduceEqDiff, Nat.reduceAdd, Nat.reduceMul, Nat.reduceLeDiff, Nat.reduceLT, Nat.reduceSub, IntWalk.iteOmega, IntWalk.toNatUp, reduceCtorEq, Int.reduceLE, Int.reduceLT, Int.reduceToNat, Int.reduceNeg, f2, f3, f10, f13, f15, hk']
      refine ⟨⟨hg, f2, f3, f10, i + 1, hlt, ?_, ?_, ?_⟩, ?_⟩
      · show Value.int .i64 _ = _
        rw [hxi]; rfl
      · rw [ef]; exact oa
      · show OBs h1.size 5 g (F 12) (drawT key info (i + 1))
        rw [f12, ← hLT]; exact o4
      · simp only [vi, updo_some, ↓reduceIte, f13]; omega
  · have hge : ¬ xi ≤ 16 := by omega
    obtain rfl : i = 16 := by omega
    simp (config := {maxSteps := 2000000, implicitDefEqProofs := false}) only [go_sem, ↓reduceIte, Nat.reduceEqDiff, Nat.reduceAdd, Nat.reduceMul, Nat.reduceLeDiff, Nat.reduceLT, Nat.reduceSub, IntWalk.iteOmega, IntWalk.toNatUp, reduceCtorEq, Int.reduceLE, Int.reduceLT, Int.reduceToNat, Int.reduceNeg, f13, hge, Bg]
    exact ⟨_, rfl, oa.cap, oa.bs, fun b hb => Nat.le_trans (by omega) (oa.own.blk b hb)⟩
end Go.Proofs.YtnpacofabdgcdaaDoor
