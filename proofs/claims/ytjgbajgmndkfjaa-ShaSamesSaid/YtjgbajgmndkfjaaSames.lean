/- ShaSames holds: sha.Same answers what the document says, at every argument; without any condition. -/
import Derived.Test.YtjgbajgmndkfjaaW1
import Derived.Test.YtjgbajgmndkfjaaTy
namespace Go.Proofs.Ytjgbajgmndkfjaa
open Go Go.V
set_option linter.unusedSimpArgs false
set_option maxRecDepth 100000
theorem octets_ok (T : World) (h : Hp) (v : Value) (l : List Nat) (s : Bs h v l) (hl : l.length ≤ 140737488355328) :
    CallsH Try.prog T 30 #[v] h fun v' h' => OBs h.size 5 h' v' l ∧ Bel h.size h h' := by
  refine CallsH.of_code' (args := [_]) Try.func30 rfl rfl rfl rfl ?_
  simp (config := {contextual := true}) only [go_sem, ↓reduceIte, Nat.reduceEqDiff, Nat.reduceAdd, Nat.reduceMul, Nat.reduceLeDiff, Nat.reduceLT, Nat.reduceSub, IntWalk.iteOmega, IntWalk.toNatUp]
  refine append_own (E := 5) (n := 1) (B := h.size) (bytes := 1) (m := 0) (cs := []) tsl26 Try.underlying26 tn5 tz5 rfl tb5 (Own.nil _ _ _ _) (Nat.le_refl _) s.sl (bv_one l) (by omega) (Nat.le_refl _) ?_
  intro v' h' ho hb
  simp (config := {contextual := true}) only [go_sem, ↓reduceIte, Nat.reduceEqDiff, Nat.reduceAdd, Nat.reduceMul, Nat.reduceLeDiff, Nat.reduceLT, Nat.reduceSub, IntWalk.iteOmega, IntWalk.toNatUp]
  rw [Nat.zero_add, List.nil_append] at ho
  exact ⟨⟨ho, s.byte⟩, hb.bel (Nat.le_refl _) (fun b hb => by simp [blkOf] at hb)⟩
theorem same_ok (T : World) (h : Hp) (v u : Value) (l k : List Nat) (s : Bs h v l) (t : Bs h u k) (hl : l.length ≤ 140737488355328) :
    CallsH Try.prog T 29 #[v, u] h fun v' h' => v' = .bool (decide (l = k)) ∧ h' = h := by
  obtain ⟨p, c, rfl, hc1⟩ := s.open
  obtain ⟨q, d, rfl, hc2⟩ := t.open
  refine CallsH.of_code' (args := [_, _]) Try.func29 rfl rfl rfl rfl ?_
  by_cases hlen : l.length = k.length
  · have hlen' : (l.length : Int) = k.length := by omega
    simp (config := {contextual := true}) only [go_sem, ↓reduceIte, Nat.reduceEqDiff, Nat.reduceAdd, Nat.reduceMul, Nat.reduceLeDiff, Nat.reduceLT, Nat.reduceSub, IntWalk.iteOmega, IntWalk.toNatUp, hlen']
    refine VS.loop' (fun F g => g = h ∧ F 0 = .slice p l.length c ∧ F 1 = .slice q k.length d ∧ F 13 = .int .i64 l.length ∧ ∃ i x : Nat, i ≤ l.length ∧ x < 256 ∧ F 14 = .int .i64 i ∧ F 5 = .int .u8 x ∧ (x = 0 ↔ l.take i = k.take i))
      (fun F _ => l.length - (vi (F 14)).toNat) rfl ⟨rfl, rfl, rfl, by rw [hlen']; rfl, 0, 0, by omega, by omega, rfl, rfl, by simp⟩ ?_
    rintro F g ⟨rfl, f0, f1, f13, i, x, hi, hx, f14, f5, hxi⟩
    by_cases hlt : i < l.length
    · have hlt' : (i : Int) < l.length := by omega
      have hltk : i < k.length := by omega
      obtain ⟨b1, o1, rfl, hb1, g1⟩ := hc1 (by intro e; subst e; simp at hlt)
      obtain ⟨b2, o2, rfl, hb2, g2⟩ := hc2 (by intro e; subst e; simp at hltk)
      have g1i := g1 i hlt
      have g2i := g2 i hltk
      have y1 := s.byte _ (List.getElem_mem hlt)
      have y2 := t.byte _ (List.getElem_mem hltk)
      simp (config := {contextual := true}) only [go_sem, ↓reduceIte, Nat.reduceEqDiff, Nat.reduceAdd, Nat.reduceMul, Nat.reduceLeDiff, Nat.reduceLT, Nat.reduceSub, IntWalk.iteOmega, IntWalk.toNatUp, f0, f1, f13, f14, f5, hlt']
      refine VS.q mixed (by kernel_rfl) ?_
      simp (config := {contextual := true}) only [go_sem, ↓reduceIte, Nat.reduceEqDiff, Nat.reduceAdd, Nat.reduceMul, Nat.reduceLeDiff, Nat.reduceLT, Nat.reduceSub, IntWalk.iteOmega, IntWalk.toNatUp, f0, f1, f13, f14, f5, g1i, g2i]
      have e1 := xor_u8 l[i] k[i] y1 y2
      have e2 : l[i] ^^^ k[i] < 256 := Nat.xor_lt_two_pow (n := 8) y1 y2
      have e3 := or_u8 x (l[i] ^^^ k[i]) hx e2
      rw [e1, e3]
      refine ⟨⟨rfl, f0, f1, f13, i + 1, x ||| (l[i] ^^^ k[i]), hlt, Nat.or_lt_two_pow (n := 8) hx e2, rfl, rfl, ?_⟩, ?_⟩
      · rw [take_snoc l i hlt, take_snoc k i hltk, or_zero_iff, xor_zero_iff, hxi]
        constructor
        · rintro ⟨a, b⟩; rw [a, b]
        · intro a
          have a2 := List.append_inj' a rfl
          exact ⟨a2.1, by simpa using a2.2⟩
      · simp only [vi, updo_some, ↓reduceIte, f14]; omega
    · have hge : ¬ (i : Int) < l.length := by omega
      simp (config := {contextual := true}) only [go_sem, ↓reduceIte, Nat.reduceEqDiff, Nat.reduceAdd, Nat.reduceMul, Nat.reduceLeDiff, Nat.reduceLT, Nat.reduceSub, IntWalk.iteOmega, IntWalk.toNatUp, f0, f1, f13, f14, f5, hge]
      obtain rfl : i = l.length := by omega
      rw [List.take_length, hlen, List.take_length] at hxi
      congr 1
      rw [decide_eq_decide, ← hxi]
      omega
  · have hlen' : ¬ (l.length : Int) = k.length := by omega
    simp (config := {contextual := true}) only [go_sem, ↓reduceIte, Nat.reduceEqDiff, Nat.reduceAdd, Nat.reduceMul, Nat.reduceLeDiff, Nat.reduceLT, Nat.reduceSub, IntWalk.iteOmega, IntWalk.toNatUp, hlen']
    congr 1
    simp; intro e; rw [e] at hlen; exact hlen rfl
theorem refSame_ok (T : World) (h : Hp) (v u : Value) (l k : List Nat) (s : Bs h v l) (t : Bs h u k) :
    CallsH Try.prog T 31 #[v, u] h fun v' h' => v' = .bool (decide (l = k)) ∧ h' = h := by
  refine CallsH.of_code' (args := [_, _]) Try.func31 rfl rfl rfl rfl ?_
  simp (config := {contextual := true}) only [go_sem, ↓reduceIte, Nat.reduceEqDiff, Nat.reduceAdd, Nat.reduceMul, Nat.reduceLeDiff, Nat.reduceLT, Nat.reduceSub, IntWalk.iteOmega, IntWalk.toNatUp]
  refine conv_str Try.underlying26 Try.underlying9 Try.underlying5 s ?_
  simp (config := {contextual := true}) only [go_sem, ↓reduceIte, Nat.reduceEqDiff, Nat.reduceAdd, Nat.reduceMul, Nat.reduceLeDiff, Nat.reduceLT, Nat.reduceSub, IntWalk.iteOmega, IntWalk.toNatUp]
  refine conv_str Try.underlying26 Try.underlying9 Try.underlying5 t ?_
  simp (config := {contextual := true}) only [go_sem, ↓reduceIte, Nat.reduceEqDiff, Nat.reduceAdd, Nat.reduceMul, Nat.reduceLeDiff, Nat.reduceLT, Nat.reduceSub, IntWalk.iteOmega, IntWalk.toNatUp]
  rw [bytes_eq l k s.byte t.byte]
theorem shaSames_ok : LawOk Try.prog 4 Try.f4.params.toList := by
  intro T args hfit
  rw [show Try.f4.params.toList = [26, 26] from rfl] at hfit
  obtain ⟨v, _, rfl, ⟨k1, h1⟩, hfit⟩ := fitAll_cons hfit
  obtain ⟨u, _, rfl, ⟨k2, h2⟩, hfit⟩ := fitAll_cons hfit
  obtain rfl := fitAll_nil hfit
  obtain ⟨l, s, hl⟩ := fit_bytes Try.underlying26 Try.underlying5 (by kernel_rfl) (by kernel_rfl) (fitV_one ta26 h1)
  obtain ⟨k, t, hk⟩ := fit_bytes Try.underlying26 Try.underlying5 (by kernel_rfl) (by kernel_rfl) (fitV_one ta26 h2)
  generalize T.heap = h at *
  refine CallsH.of_code' (args := [_, _]) Try.func4 rfl rfl rfl rfl ?_
  simp (config := {contextual := true}) only [go_sem, ↓reduceIte, Nat.reduceEqDiff, Nat.reduceAdd, Nat.reduceMul, Nat.reduceLeDiff, Nat.reduceLT, Nat.reduceSub, IntWalk.iteOmega, IntWalk.toNatUp]
  refine (octets_ok T h v l s hl).use ?_
  rintro v1 h1 ⟨o1, b1⟩
  simp (config := {contextual := true}) only [go_sem, ↓reduceIte, Nat.reduceEqDiff, Nat.reduceAdd, Nat.reduceMul, Nat.reduceLeDiff, Nat.reduceLT, Nat.reduceSub, IntWalk.iteOmega, IntWalk.toNatUp]
  refine (octets_ok T h1 u k (t.bel b1) hk).use ?_
  rintro u1 h2 ⟨o2, b2⟩
  simp (config := {contextual := true}) only [go_sem, ↓reduceIte, Nat.reduceEqDiff, Nat.reduceAdd, Nat.reduceMul, Nat.reduceLeDiff, Nat.reduceLT, Nat.reduceSub, IntWalk.iteOmega, IntWalk.toNatUp]
  have o1' := o1.bel b2 (Nat.le_refl _)
  refine (same_ok T h2 v1 u1 l k o1'.bs o2.bs hl).pure ?_
  simp (config := {contextual := true}) only [go_sem, ↓reduceIte, Nat.reduceEqDiff, Nat.reduceAdd, Nat.reduceMul, Nat.reduceLeDiff, Nat.reduceLT, Nat.reduceSub, IntWalk.iteOmega, IntWalk.toNatUp]
  have b3 := b1.trans (b2.mono b1.size)
  refine (refSame_ok T h2 v u l k (s.bel b3) (t.bel b3)).pure ?_
  simp (config := {contextual := true}) only [go_sem, ↓reduceIte, Nat.reduceEqDiff, Nat.reduceAdd, Nat.reduceMul, Nat.reduceLeDiff, Nat.reduceLT, Nat.reduceSub, IntWalk.iteOmega, IntWalk.toNatUp]
  exact ⟨by simp, b3⟩
theorem shaSames_lifted (os : Os) (started : os.Started) (H : Type) (enc : TypeId × Value → H) :
    ReturnsInHanded {} Try.checked os 4 .any (Rows.shaSamesSpec.pre6 enc Try.prog Try.f4 Rows.shaSamesRow.domain false) (Rows.shaSamesSpec.post enc Try.prog Try.f4 false true false false) :=
  law_lifted (C := Try.checked) ownKnobT started (by kernel_rfl) Try.func4
    (ChangeSpec.witness6 (enc := enc) (C := Try.checked) false ⟨#[], #[.slice none 0 0, .slice none 0 0], []⟩ 12 (by kernel_rfl) (by kernel_rfl) (by kernel_rfl) (by kernel_rfl))
    laidOutT (by kernel_rfl) (by kernel_rfl) (tb := 4) rfl Try.underlying4 rfl (fun ds hd => by
      have hl : ds.length = 2 := hd
      match ds, hl with
      | [d0, d1], _ => rfl) shaSames_ok
theorem shaSames_holds : Rows.ShaSamesSaid :=
  OpenClaim.holds_of_wide 4 Try.f4 rfl rfl rfl rfl rfl rfl rfl ⟨rfl, rfl, rfl, rfl, rfl⟩ rfl rfl rfl rfl rfl (by kernel_rfl) Try.func4 (show joinedFacts Try.prog 4 Try.f4 Rows.shaSamesSpec Rows.shaSamesRow = true by unfold joinedFacts; rw [makeT, enterT, liftsT]; kernel_rfl)
    (of_decide_eq_true (by kernel_rfl)) (by unfold Func.isWrapper; rw [if_neg (of_decide_eq_false (by kernel_rfl))]; exact ⟨rfl, rfl⟩)
    (fun os started H enc _ => shaSames_lifted os started H enc)
end Go.Proofs.Ytjgbajgmndkfjaa
