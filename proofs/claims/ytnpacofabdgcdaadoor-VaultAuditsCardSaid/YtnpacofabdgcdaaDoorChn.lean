/- The vault's chain: the plain law; no condition but those in the statements. -/
import Derived.Test.YtnpacofabdgcdaaDoorLnk
namespace Go.Proofs.YtnpacofabdgcdaaDoor
open Go Go.V
set_option linter.unusedSimpArgs false
set_option linter.unusedVariables false
set_option maxRecDepth 100000
structure Cmv where
  k : Int
  c : Int
  s : Int
  n : Int
  v : Int
def cmvC (x : Cmv) : List Value := [.int .i64 x.k, .int .i64 x.c, .int .i64 x.s, .int .i64 x.n, .int .i64 x.v]
/-- An entry, plain. -/
structure Etv where
  x : Cmv
  a : Int
  b : Int
  sum : List Nat
structure Chn where
  cs : List Value
  sum : List Nat
  out : List Etv
def doneC (cs : List Value) (x : Cmv) : Done := doneS cs x.k.toNat x.c.toNat x.s.toNat x.n.toNat x.v.toNat
def chnE (cs : List Value) (x : Cmv) : Int := doErr cs x.k x.c x.s x.n x.v
def chnL (cs : List Value) (sum : List Nat) (x : Cmv) : List Nat := linkS sum x.k x.c x.s x.n x.v (doneC cs x).code.toNat (doneC cs x).val.toNat
def stepC (st : Chn) (x : Cmv) : Chn := ⟨(doneC st.cs x).cells, chnL st.cs st.sum x, st.out ++ [⟨x, (doneC st.cs x).code, (doneC st.cs x).val, chnL st.cs st.sum x⟩]⟩
def chn0 : Chn := ⟨storeZ, List.replicate 32 0, []⟩
def chnR : Chn → List Cmv → Int × Chn
  | st, [] => (0, st)
  | st, x :: l => if chnE st.cs x = 0 then chnR (stepC st x) l else (chnE st.cs x, st)
theorem chnR_nil (st : Chn) : chnR st [] = (0, st) := rfl
theorem chnR_go {st : Chn} {x : Cmv} {l : List Cmv} (h : chnE st.cs x = 0) : chnR st (x :: l) = chnR (stepC st x) l := by rw [chnR, if_pos h]
theorem chnR_stop {st : Chn} {x : Cmv} {l : List Cmv} (h : ¬ chnE st.cs x = 0) : chnR st (x :: l) = (chnE st.cs x, st) := by rw [chnR, if_neg h]
theorem chnR_snoc (x : Cmv) : ∀ (l : List Cmv) (st : Chn), (chnR st l).1 = 0 → chnR st (l ++ [x]) = chnR (chnR st l).2 [x] := by
  intro l
  induction l with
  | nil => intro st _; rfl
  | cons y l ih =>
    intro st h
    by_cases q : chnE st.cs y = 0
    · rw [chnR_go q] at h ⊢
      rw [List.cons_append, chnR_go q]
      exact ih _ h
    · rw [chnR_stop q] at h
      exact absurd h q
theorem chnR_len : ∀ (l : List Cmv) (st : Chn), (chnR st l).1 = 0 → (chnR st l).2.out.length = st.out.length + l.length := by
  intro l
  induction l with
  | nil => intro st _; rfl
  | cons y l ih =>
    intro st h
    by_cases q : chnE st.cs y = 0
    · rw [chnR_go q] at h ⊢
      rw [ih _ h]
      simp [stepC]
      omega
    · rw [chnR_stop q] at h
      exact absurd h q
def ansOk (cs : List Value) : Prop := ∀ i, i < 8 → (0 ≤ ci cs (16 + i * 2) ∧ ci cs (16 + i * 2) ≤ 1073741824) ∧ (0 ≤ ci cs (16 + i * 2 + 1) ∧ ci cs (16 + i * 2 + 1) ≤ 1073741824)
theorem ci_set_self {cs : List Value} {i : Nat} (h : i < cs.length) (k : IntKind) (x : Int) : ci (cs.set i (.int k x)) i = x := by
  unfold ci
  rw [nth_eq, List.getElem?_set_self h]
theorem actS_length (cs : List Value) (k c n v : Nat) : (actS cs k c n v).1.length = cs.length := by
  unfold actS
  split
  · simp
  · split
    · rfl
    · simp
theorem actS_ci (cs : List Value) (k c n v : Nat) (hn : n ≤ 7) (j : Nat) (h1 : 8 ≤ j) (h2 : j < 32) : ci (actS cs k c n v).1 j = ci cs j := by
  unfold actS
  split
  · exact ci_set_ne (by omega)
  · split
    · rfl
    · exact ci_set_ne (by omega)
theorem values_ok {cs : List Value} (h : storeBad cs = false) (i : Nat) (hi : i < 8) : 0 ≤ ci cs i ∧ ci cs i ≤ 1073741824 := by
  unfold storeBad at h
  rw [List.any_eq_false] at h
  have := h i (List.mem_range.2 hi)
  simp only [Bool.or_eq_true, not_or] at this
  have h1 := this.1
  simp only [bad1, decide_eq_true_eq] at h1
  omega
theorem chnE_zero {cs : List Value} {x : Cmv} (h : chnE cs x = 0) : storeBad cs = false ∧ cmdErr x.k x.c x.s x.n x.v = 0 := by
  unfold chnE doErr at h
  split at h
  · cases h
  · rename_i q
    exact ⟨by simpa using q, h⟩
theorem doneS_ans {cs : List Value} (hl : cs.length = 40) (hb : storeBad cs = false) (ho : ansOk cs) (k c s n v : Nat) (hn : n ≤ 7) (hc : c ≤ 7) (hv : v ≤ 1073741824) :
    ansOk (doneS cs k c s n v).cells ∧ (0 ≤ (doneS cs k c s n v).code ∧ (doneS cs k c s n v).code ≤ 1073741824) ∧ (0 ≤ (doneS cs k c s n v).val ∧ (doneS cs k c s n v).val ≤ 1073741824) := by
  unfold doneS
  split
  · exact ⟨ho, ⟨(by decide : (0 : Int) ≤ 0), (by decide : (0 : Int) ≤ 1073741824)⟩, ⟨(by decide : (0 : Int) ≤ 0), (by decide : (0 : Int) ≤ 1073741824)⟩⟩
  split
  · have := ho c (by omega)
    exact ⟨ho, this.1, this.2⟩
  split
  · exact ⟨ho, ⟨(by decide : (0 : Int) ≤ 7), (by decide : (7 : Int) ≤ 1073741824)⟩, ⟨(by decide : (0 : Int) ≤ 0), (by decide : (0 : Int) ≤ 1073741824)⟩⟩
  split
  · exact ⟨ho, ⟨(by decide : (0 : Int) ≤ 11), (by decide : (11 : Int) ≤ 1073741824)⟩, ⟨(by decide : (0 : Int) ≤ 0), (by decide : (0 : Int) ≤ 1073741824)⟩⟩
  have hA : (0 ≤ (actS cs k c n v).2 ∧ (actS cs k c n v).2 ≤ 1073741824) := by
    unfold actS
    split
    · exact ⟨by simp only; omega, by simp only; omega⟩
    · split
      · exact values_ok hb n (by omega)
      · exact ⟨(by decide : (0 : Int) ≤ 0), (by decide : (0 : Int) ≤ 1073741824)⟩
  refine ⟨?_, ⟨(by decide : (0 : Int) ≤ 0), (by decide : (0 : Int) ≤ 1073741824)⟩, hA⟩
  intro i hi
  have hlen := actS_length cs k c n v
  have h1 := actS_ci cs k c n v hn (16 + i * 2) (by omega) (by omega)
  have h2 := actS_ci cs k c n v hn (16 + i * 2 + 1) (by omega) (by omega)
  simp only
  by_cases e : i = c
  · subst e
    rw [ci_set_ne (by omega), ci_set_self (by simp only [List.length_set]; omega), ci_set_self (by simp only [List.length_set]; omega)]
    exact ⟨by decide, hA⟩
  · rw [ci_set_ne (by omega), ci_set_ne (by omega), ci_set_ne (by omega), ci_set_ne (by omega), ci_set_ne (by omega), ci_set_ne (by omega), h1, h2]
    exact ho i hi
theorem fitK_nth : ∀ {ks : List (Option IntKind)} {vs : List Value} (i : Nat) {k : Option IntKind}, fitK ks vs = true → ks[i]? = some k → ∃ v, nth vs i = some v ∧ cellOk k v = true := by
  intro ks
  induction ks with
  | nil => intro vs i k _ h; simp at h
  | cons a ks ih =>
    intro vs i k hf hk
    cases vs with
    | nil => simp [fitK] at hf
    | cons x vs =>
      simp only [fitK, Bool.and_eq_true] at hf
      cases i with
      | zero => simp only [List.getElem?_cons_zero, Option.some.injEq] at hk; subst hk; exact ⟨x, rfl, hf.1⟩
      | succ i => exact ih i hf.2 (by simpa using hk)
theorem store_ints {cs : List Value} (hf : fitK storeK cs = true) : ∀ i, i < 32 → nth cs i = some (.int .i64 (ci cs i)) := by
  intro i hi
  have : ∀ i < 32, storeK[i]? = some (some .i64) := by decide
  obtain ⟨v, h1, h2⟩ := fitK_nth i hf (this i hi)
  unfold ci
  rw [h1]
  cases v <;> simp [cellOk] at h2
  rw [h2]
theorem store_bools {cs : List Value} (hf : fitK storeK cs = true) : ∀ i, 32 ≤ i → i < 40 → nth cs i = some (.bool (cb cs i)) := by
  intro i h1 h2
  have : ∀ j < 8, storeK[32 + j]? = some none := by decide
  have e := this (i - 32) (by omega)
  rw [show 32 + (i - 32) = i by omega] at e
  obtain ⟨v, h1, h2⟩ := fitK_nth i hf e
  unfold cb
  rw [h1]
  cases v <;> simp [cellOk] at h2
  rfl
structure ChnOk (st : Chn) : Prop where
  fit : fitK storeK st.cs = true
  ans : ansOk st.cs
  sum : st.sum.length = 32
theorem chn0_ok : ChnOk chn0 := by
  refine ⟨rfl, ?_, rfl⟩
  have : ∀ i < 8, ci storeZ (16 + i * 2) = 0 ∧ ci storeZ (16 + i * 2 + 1) = 0 := by decide
  intro i hi
  obtain ⟨h1, h2⟩ := this i hi
  show (0 ≤ ci storeZ (16 + i * 2) ∧ ci storeZ (16 + i * 2) ≤ 1073741824) ∧ (0 ≤ ci storeZ (16 + i * 2 + 1) ∧ ci storeZ (16 + i * 2 + 1) ≤ 1073741824)
  rw [h1, h2]
  decide
theorem step_ok {st : Chn} (ok : ChnOk st) {x : Cmv} (h : chnE st.cs x = 0) : ChnOk (stepC st x) ∧ ∃ a b : Nat, (doneC st.cs x).code = a ∧ (doneC st.cs x).val = b ∧ a ≤ 1073741824 ∧ b ≤ 1073741824 := by
  obtain ⟨h1, h2⟩ := chnE_zero h
  obtain ⟨k, c, s, n, v, e1, e2, e3, e4, e5, y1, y2, y3, y4, y5⟩ := cmdErr_small h2
  have hl : st.cs.length = 40 := fitK_length ok.fit
  have hd : doneC st.cs x = doneS st.cs k c s n v := by unfold doneC; rw [e1, e2, e3, e4, e5]; rfl
  obtain ⟨g1, g2, g3⟩ := doneS_ans hl h1 ok.ans k c s n v y4 y2 y5
  have gf := doneS_fit ok.fit k c s n v y4 y2
  rw [← hd] at g1 g2 g3 gf
  refine ⟨⟨gf, g1, linkS_length _ _ _ _ _ _ _ _⟩, (doneC st.cs x).code.toNat, (doneC st.cs x).val.toNat, ?_, ?_, ?_, ?_⟩ <;> omega
/-- What the chain of commands is. -/
def chainE (l : List Cmv) : Int := (chnR chn0 l).1
def chainS (l : List Cmv) : List Value := if chainE l = 0 then (chnR chn0 l).2.cs else storeZ
def chainO (l : List Cmv) : List Etv := if chainE l = 0 then (chnR chn0 l).2.out else []
/-- The audit. -/
def entBad (st : Chn) (e : Etv) : Prop := ¬ chnE st.cs e.x = 0 ∨ ¬ ((doneC st.cs e.x).code = e.a ∧ (doneC st.cs e.x).val = e.b) ∨ ¬ chnL st.cs st.sum e.x = e.sum
instance (st : Chn) (e : Etv) : Decidable (entBad st e) := by unfold entBad; infer_instance
def audR : Chn → List Etv → Nat → Int
  | _, [], _ => -1
  | st, e :: l, i => if entBad st e then i else audR (stepC st e.x) l (i + 1)
theorem audR_go {st : Chn} {e : Etv} {l : List Etv} {i : Nat} (h : ¬ entBad st e) : audR st (e :: l) i = audR (stepC st e.x) l (i + 1) := by rw [audR, if_neg h]
theorem audR_stop {st : Chn} {e : Etv} {l : List Etv} {i : Nat} (h : entBad st e) : audR st (e :: l) i = i := by rw [audR, if_pos h]
/-! ### entries, as they lie -/
structure EntV where
  x : Cmv
  a : Int
  b : Int
  p : Option Addr
  m : Nat
  cp : Nat
def entC (e : EntV) : List Value := [.int .i64 e.x.k, .int .i64 e.x.c, .int .i64 e.x.s, .int .i64 e.x.n, .int .i64 e.x.v, .int .i64 e.a, .int .i64 e.b, .slice e.p e.m e.cp]
theorem entC_one (e : EntV) : (entC e).all oneC = true := rfl
def EntOk (Q : Value → List Nat → Prop) (e : EntV) (t : Etv) : Prop := e.x = t.x ∧ e.a = t.a ∧ e.b = t.b ∧ Q (.slice e.p e.m e.cp) t.sum
def Ents (Q : Value → List Nat → Prop) : List EntV → List Etv → Prop
  | [], [] => True
  | e :: l, t :: k => EntOk Q e t ∧ Ents Q l k
  | _, _ => False
variable {Q Q' : Value → List Nat → Prop}
theorem Ents.mono (H : ∀ w s, Q w s → Q' w s) : ∀ {l : List EntV} {k : List Etv}, Ents Q l k → Ents Q' l k := by
  intro l
  induction l with
  | nil => intro k h; cases k with
    | nil => trivial
    | cons => exact h.elim
  | cons e l ih => intro k h; cases k with
    | nil => exact h.elim
    | cons t k => exact ⟨⟨h.1.1, h.1.2.1, h.1.2.2.1, H _ _ h.1.2.2.2⟩, ih h.2⟩
theorem Ents.length : ∀ {l : List EntV} {k : List Etv}, Ents Q l k → l.length = k.length := by
  intro l
  induction l with
  | nil => intro k h; cases k with
    | nil => rfl
    | cons => exact h.elim
  | cons e l ih => intro k h; cases k with
    | nil => exact h.elim
    | cons t k => simp [ih h.2]
theorem Ents.snoc {e : EntV} {t : Etv} (h2 : EntOk Q e t) : ∀ {l : List EntV} {k : List Etv}, Ents Q l k → Ents Q (l ++ [e]) (k ++ [t]) := by
  intro l
  induction l with
  | nil => intro k h; cases k with
    | nil => exact ⟨h2, trivial⟩
    | cons => exact h.elim
  | cons e l ih => intro k h; cases k with
    | nil => exact h.elim
    | cons t k => exact ⟨h.1, ih h.2⟩
theorem Ents.get : ∀ {l : List EntV} {k : List Etv}, Ents Q l k → ∀ i (hi : i < l.length) (hk : i < k.length), EntOk Q l[i] k[i] := by
  intro l
  induction l with
  | nil => intro k h i hi; simp at hi
  | cons e l ih => intro k h; cases k with
    | nil => exact h.elim
    | cons t k =>
      intro i hi hk
      cases i with
      | zero => exact h.1
      | succ i => exact ih h.2 i (by simpa using hi) (by simpa using hk)
structure OEnts (B : Nat) (h : Hp) (v : Value) (l : List Etv) : Prop where
  ex : ∃ es, Ots B 112 entC 8 h v es ∧ Ents (fun w s => OBs B 5 h w s) es l
structure TEnts (h : Hp) (v : Value) (l : List Etv) : Prop where
  ex : ∃ es, Ts entC 8 h v es ∧ Ents (fun w s => Bs h w s) es l
theorem OEnts.bel {B C : Nat} {h h' : Hp} {v : Value} {l : List Etv} (s : OEnts B h v l) (a : Bel C h h') (hC : h.size ≤ C) : OEnts B h' v l := by
  obtain ⟨es, s1, s2⟩ := s.ex
  exact ⟨es, s1.bel a hC, s2.mono (fun w t q => q.bel a hC)⟩
theorem OEnts.mono {B B' : Nat} {h : Hp} {v : Value} {l : List Etv} (s : OEnts B h v l) (hB : B' ≤ B) : OEnts B' h v l := by
  obtain ⟨es, s1, s2⟩ := s.ex
  exact ⟨es, s1.mono hB, s2.mono (fun w t q => q.mono hB)⟩
theorem OEnts.push {B : Nat} {h : Hp} {v : Value} {l : List Etv} (s : OEnts B h v l) (o : Obj) : OEnts B (h.push o) v l := s.bel (Bel.push (Nat.le_refl _) o) (Nat.le_refl _)
theorem OEnts.setLow {B b : Nat} {h : Hp} {v : Value} {l : List Etv} (s : OEnts B h v l) (hb : b < B) (o : Obj) : OEnts B (h.setIfInBounds b o) v l := by
  obtain ⟨es, s1, s2⟩ := s.ex
  exact ⟨es, s1.setLow hb o, s2.mono (fun w t q => q.setLow hb o)⟩
theorem OEnts.nil (B : Nat) (h : Hp) : OEnts B h (.slice none 0 0) [] := ⟨[], Ots.nil _ _ _ _ _, trivial⟩
theorem OEnts.ts {B : Nat} {h : Hp} {v : Value} {l : List Etv} (s : OEnts B h v l) : TEnts h v l := by
  obtain ⟨es, s1, s2⟩ := s.ex
  exact ⟨es, s1.ts, s2.mono (fun w t q => q.bs)⟩
theorem TEnts.bel {h h' : Hp} {v : Value} {l : List Etv} (s : TEnts h v l) (a : Bel h.size h h') : TEnts h' v l := by
  obtain ⟨es, s1, s2⟩ := s.ex
  exact ⟨es, s1.bel a, s2.mono (fun w t q => q.bel a)⟩
theorem OEnts.open {B : Nat} {h : Hp} {v : Value} {l : List Etv} (s : OEnts B h v l) : ∃ p c, v = .slice p l.length c := by
  obtain ⟨es, s1, s2⟩ := s.ex
  obtain ⟨p, c, hv, _⟩ := s1.open
  exact ⟨p, c, by rw [hv, s2.length]⟩
theorem TEnts.open {h : Hp} {v : Value} {l : List Etv} (s : TEnts h v l) : ∃ p c, v = .slice p l.length c ∧ (l ≠ [] → ∃ b o, p = some ⟨b, o, none⟩ ∧ b < h.size ∧ ∀ i (hi : i < l.length), ∃ q m cp, cellsAt h b (o + i * 8) [.int .i64 l[i].x.k, .int .i64 l[i].x.c, .int .i64 l[i].x.s, .int .i64 l[i].x.n, .int .i64 l[i].x.v, .int .i64 l[i].a, .int .i64 l[i].b, .slice q m cp] ∧ Bs h (.slice q m cp) l[i].sum) := by
  obtain ⟨es, s1, s2⟩ := s.ex
  have hlen := s2.length
  obtain ⟨p, c, hv, hh⟩ := Ts.open (enc := entC) (n := 8) (fun _ => rfl) (by decide) s1
  refine ⟨p, c, by rw [hv, hlen], fun hne => ?_⟩
  have hne' : es ≠ [] := by
    intro e
    rw [e] at hlen
    exact hne (List.length_eq_zero_iff.1 hlen.symm)
  obtain ⟨b, o, hp, hb, hcs⟩ := hh hne'
  refine ⟨b, o, hp, hb, fun i hi => ?_⟩
  have hi' : i < es.length := by omega
  obtain ⟨g1, g2, g3, g4⟩ := s2.get i hi' hi
  have := hcs i hi'
  refine ⟨es[i].p, es[i].m, es[i].cp, ?_, g4⟩
  unfold entC at this
  rw [g1, g2, g3] at this
  exact this
end Go.Proofs.YtnpacofabdgcdaaDoor
