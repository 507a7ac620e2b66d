/- W22: maps whose keys are structs of plain cells, with an integer for each; entries are never struck. -/
import Derived.Test.YtiakfdpmapmifaaW21
namespace Go.V
set_option linter.unusedVariables false
set_option linter.unusedSimpArgs false
section
variable {P : Program} {T : World} {ty : TypeId} {F : Env} {h : Hp} {K : Value → Hp → Prop}
def vLook (P : Program) (t : TypeId) (m x : Value) (c : Bool) (K : Value → Hp → Prop) (h : Hp) : Prop := hw P (Instr.lookup t m x c) K h
def vMent (P : Program) (t : TypeId) (m x : Value) (K : Value → Hp → Prop) (h : Hp) : Prop := hw P (Instr.mapEntry t m x) K h
def vMset (P : Program) (t : TypeId) (m s x : Value) (K : Value → Hp → Prop) (h : Hp) : Prop := hw P (Instr.entryStore t m s x) (fun _ h => K undef h) h
def vMnew (P : Program) (t : TypeId) (K : Value → Hp → Prop) (h : Hp) : Prop := hw P (Instr.makeMap t none) K h
def vMrng (P : Program) (t : TypeId) (x : Value) (K : Value → Hp → Prop) (h : Hp) : Prop := hw P (Instr.range t x) K h
def vMnxt (P : Program) (x : Value) (ty : TypeId) (K : Value → Hp → Prop) (h : Hp) : Prop := hw P (Instr.next x false ty) K h
def vMcur (P : Program) (x : Value) (K : Value → Hp → Prop) (h : Hp) : Prop := hw P (Instr.entry x) K h
@[go_sem] theorem vDo_lookup {t : TypeId} {m x : Operand} {c : Bool} : vDo P T (.lookup t m x c) ty K F h = vLook P t (ev F m) (ev F x) c K h := by
  show hw P (do pure (Next.value (← Instr.lookup t (ev F m) (ev F x) c))) (vNext P T K) h = _
  rw [hw_bind]; rfl
@[go_sem] theorem vDo_mapEntry {t : TypeId} {m x : Operand} : vDo P T (.mapEntry t m x) ty K F h = vMent P t (ev F m) (ev F x) K h := by
  show hw P (do pure (Next.value (← Instr.mapEntry t (ev F m) (ev F x)))) (vNext P T K) h = _
  rw [hw_bind]; rfl
@[go_sem] theorem vDo_entryStore {t : TypeId} {m s x : Operand} : vDo P T (.entryStore t m s x) ty K F h = vMset P t (ev F m) (ev F s) (ev F x) K h := by
  show hw P (do let _ ← Instr.entryStore t (ev F m) (ev F s) (ev F x); pure Next.skip) (vNext P T K) h = _
  rw [hw_bind]; rfl
@[go_sem] theorem vDo_makeMap {t : TypeId} : vDo P T (.makeMap t none) ty K F h = vMnew P t K h := by
  show hw P (do pure (Next.value (← Instr.makeMap t none))) (vNext P T K) h = _
  rw [hw_bind]; rfl
@[go_sem] theorem vDo_range {t : TypeId} {x : Operand} : vDo P T (.range t x) ty K F h = vMrng P t (ev F x) K h := by
  show hw P (do pure (Next.value (← Instr.range t (ev F x)))) (vNext P T K) h = _
  rw [hw_bind]; rfl
@[go_sem] theorem vDo_next {x : Operand} : vDo P T (.next x false) ty K F h = vMnxt P (ev F x) ty K h := by
  show hw P (do pure (Next.value (← Instr.next (ev F x) false ty))) (vNext P T K) h = _
  rw [hw_bind]; rfl
@[go_sem] theorem vDo_entry {x : Operand} : vDo P T (.entry x) ty K F h = vMcur P (ev F x) K h := by
  show hw P (do pure (Next.value (← Instr.entry (ev F x)))) (vNext P T K) h = _
  rw [hw_bind]; rfl
@[go_sem] theorem vOp_lookup {t : TypeId} {m x : Operand} {c : Bool} : vOp P T ⟨none, .lookup t m x c, ty, "", #[], none⟩ K F h = vLook P t (ev F m) (ev F x) c K h := vDo_lookup
@[go_sem] theorem vOp_mapEntry {t : TypeId} {m x : Operand} : vOp P T ⟨none, .mapEntry t m x, ty, "", #[], none⟩ K F h = vMent P t (ev F m) (ev F x) K h := vDo_mapEntry
@[go_sem] theorem vOp_entryStore {t : TypeId} {m s x : Operand} : vOp P T ⟨none, .entryStore t m s x, ty, "", #[], none⟩ K F h = vMset P t (ev F m) (ev F s) (ev F x) K h := vDo_entryStore
@[go_sem] theorem vOp_makeMap {t : TypeId} : vOp P T ⟨none, .makeMap t none, ty, "", #[], none⟩ K F h = vMnew P t K h := vDo_makeMap
@[go_sem] theorem vOp_range {t : TypeId} {x : Operand} : vOp P T ⟨none, .range t x, ty, "", #[], none⟩ K F h = vMrng P t (ev F x) K h := vDo_range
@[go_sem] theorem vOp_next {x : Operand} : vOp P T ⟨none, .next x false, ty, "", #[], none⟩ K F h = vMnxt P (ev F x) ty K h := vDo_next
@[go_sem] theorem vOp_entry {x : Operand} : vOp P T ⟨none, .entry x, ty, "", #[], none⟩ K F h = vMcur P (ev F x) K h := vDo_entry
@[go_sem] theorem vMnew_eq {t : TypeId} : vMnew P t K h = K (.map (some h.size)) (h.push (.map #[] 0)) := rfl

theorem run_checkKey : ∀ (k : Nat) (t : TypeId) (ks : List (Option IntKind)) (a : List Value) (d : Nat) (e : Bool), k ≤ d → flat P k t = some ks → fitK ks a = true → ∀ {Q : Unit → Hp → Prop},
    hw P (Instr.checkKey e d t (valOf P t a)) Q h = Q () h := by
  intro k
  induction k with
  | zero => intro t ks a d e _ hk; simp [flat] at hk
  | succ k ih =>
    intro t ks a d e hd hk ha Q
    obtain ⟨d, rfl⟩ : ∃ e, d = e + 1 := ⟨d - 1, by omega⟩
    unfold flat at hk
    split at hk
    · rename_i i hu
      simp only [Instr.checkKey]
      rw [hw_bind, run_under hu]
      rfl
    · rename_i hu
      simp only [Instr.checkKey]
      rw [hw_bind, run_under hu]
      rfl
    · rename_i fs hu
      split at hk
      · cases hk
      · rename_i hst
        have hta : ta P t = some true := by simp [ta, hu]
        simp only [valOf, hta, Instr.checkKey]
        rw [hw_bind, run_under hu]
        simp only
        have loop : ∀ (fs : List Field) (o : Nat) (ks : List (Option IntKind)), flatFs P (flat P k) fs o = some ks → fitK ks (a.drop o) = true → ∀ {Q : PUnit → Hp → Prop},
            hw P (forIn fs PUnit.unit fun (f : Field) (_ : PUnit) =>
              if f.name ≠ "_" then do
                let x ← part f.type a.toArray f.offset
                Instr.checkKey e d f.type x
                pure (ForInStep.yield PUnit.unit)
              else pure (ForInStep.yield PUnit.unit)) Q h = Q () h := by
          intro fs
          induction fs with
          | nil => intro o ks hk ha Q; rfl
          | cons f fs ihf =>
            intro o ks hk ha Q
            unfold flatFs at hk
            split at hk
            · rename_i l hl
              split at hk
              · rename_i hc
                obtain ⟨hn, rfl, htn⟩ := hc
                cases hr : flatFs P (flat P k) fs (f.offset + l.length) with
                | none => rw [hr] at hk; cases hk
                | some ks' =>
                  rw [hr] at hk
                  simp only [Option.map_some, Option.some.injEq] at hk
                  subst hk
                  obtain ⟨a1, a2⟩ := fitK_append ha
                  rw [List.drop_drop] at a2
                  rw [List.forIn_cons, hw_bind, if_pos hn, hw_bind, run_part hl htn a1, hw_bind, ih f.type l _ d e (by omega) hl a1]
                  exact ihf (f.offset + l.length) ks' hr a2
              · cases hk
            · cases hk
        rw [← Array.forIn_toList]
        rw [hw_bind]
        exact loop fs.toList 0 ks hk (by simpa using ha)
    · rename_i n e' hu
      split at hk
      · rename_i l hl
        split at hk
        · rename_i htn
          simp only [Option.some.injEq] at hk
          subst hk
          have hta : ta P t = some true := by simp [ta, hu]
          simp only [valOf, hta, Instr.checkKey]
          rw [hw_bind, run_under hu]
          simp only
          have loop : ∀ (n s : Nat), fitK (rep n l) (a.drop (s * l.length)) = true → ∀ {Q : PUnit → Hp → Prop},
              hw P (forIn (List.range' s n) PUnit.unit fun (i : Nat) (_ : PUnit) => do
                let z ← sizeOf e'
                let x ← part e' a.toArray (i * z)
                Instr.checkKey e d e' x
                pure (ForInStep.yield PUnit.unit)) Q h = Q () h := by
            intro n
            induction n with
            | zero => intro s ha Q; rfl
            | succ n ihn =>
              intro s ha Q
              obtain ⟨a1, a2⟩ := fitK_append ha
              have es : s * l.length + l.length = (s + 1) * l.length := by rw [Nat.add_mul, Nat.one_mul]
              rw [List.drop_drop, es] at a2
              rw [List.range'_succ, List.forIn_cons, hw_bind, hw_bind, run_sizeOf htn, hw_bind, run_part hl htn a1, hw_bind, ih e' l _ d e (by omega) hl a1]
              exact ihn (s + 1) a2
          rw [hw_bind, Std.Legacy.Range.forIn_eq_forIn_range']
          simp only [Std.Legacy.Range.size, Nat.sub_zero, Nat.add_sub_cancel, Nat.div_one]
          exact loop n 0 (by simpa using ha)
        · cases hk
      · cases hk
    · cases hk
/-- The entries of a map, in the order in which they were laid. -/
def entsFrom {α : Type} (enc : α → List Value) : Nat → List (α × Int) → List MapEntry
  | _, [] => []
  | i, x :: l => ⟨.agg (enc x.1).toArray, .int .i64 x.2, i⟩ :: entsFrom enc (i + 1) l
def ents {α : Type} (enc : α → List Value) (l : List (α × Int)) : Array MapEntry := (entsFrom enc 0 l).toArray
theorem entsFrom_length {α : Type} (enc : α → List Value) : ∀ (l : List (α × Int)) (i : Nat), (entsFrom enc i l).length = l.length := by
  intro l; induction l with
  | nil => intro i; rfl
  | cons x l ih => intro i; simp [entsFrom, ih]
theorem entsFrom_get {α : Type} (enc : α → List Value) : ∀ (l : List (α × Int)) (i j : Nat) (hj : j < l.length), (entsFrom enc i l)[j]? = some ⟨.agg (enc l[j].1).toArray, .int .i64 l[j].2, i + j⟩ := by
  intro l; induction l with
  | nil => intro i j hj; simp at hj
  | cons x l ih =>
    intro i j hj
    cases j with
    | zero => rfl
    | succ j => simp only [entsFrom, List.getElem?_cons_succ, List.getElem_cons_succ]; rw [ih (i + 1) j (by simpa using hj)]; congr 2; omega
def findP {α : Type} [DecidableEq α] (a : α) : List (α × Int) → Nat → Option (Nat × Int)
  | [], _ => none
  | x :: l, j => if a = x.1 then some (j, x.2) else findP a l (j + 1)
def asP (o : Option (Nat × Int)) : Option (Nat × Value) := o.map fun p => (p.1, .int .i64 p.2)
theorem run_findAsking {α : Type} [DecidableEq α] {enc : α → List Value} {kt : TypeId} {ks : List (Option IntKind)} (hk : flat P 6 kt = some ks) (ht : ta P kt = some true) (hf : ∀ x, fitK ks (enc x) = true) (he : ∀ x y, leq (enc x) (enc y) = decide (x = y)) (a : α) :
    ∀ (l : List (α × Int)) (i j : Nat) {Q : Option (Nat × Value) → Hp → Prop}, hw P (Instr.findAsking kt (.agg (enc a).toArray) (entsFrom enc i l) j) Q h = Q (asP (findP a l j)) h := by
  intro l
  induction l with
  | nil => intro i j Q; rfl
  | cons x l ih =>
    intro i j Q
    have this := fun {Q : Bool → Hp → Prop} => run_equalIn (P := P) (h := h) 6 kt ks (enc a) (enc x.1) 10000 (by omega) hk (hf _) (hf _) (Q := Q)
    simp only [valOf, ht] at this
    unfold entsFrom Instr.findAsking findP
    rw [hw_bind]
    show hw P (Op.equalIn 10000 kt (.agg (enc a).toArray) (.agg (enc x.1).toArray)) _ h = _
    rw [this, he]
    by_cases q : a = x.1
    · rw [if_pos q, if_pos (by simpa using q)]; rfl
    · rw [if_neg q, if_neg (by simpa using q)]; exact ih _ _
theorem run_findKey {α : Type} [DecidableEq α] {enc : α → List Value} {kt : TypeId} {ks : List (Option IntKind)} (hk : flat P 6 kt = some ks) (hs : ∃ fs, P.underlying kt = some (.struct fs)) (hf : ∀ x, fitK ks (enc x) = true) (he : ∀ x y, leq (enc x) (enc y) = decide (x = y)) (a : α)
    (l : List (α × Int)) {Q : Option (Nat × Value) → Hp → Prop} : hw P (Instr.findKey kt (.agg (enc a).toArray) (ents enc l).toList) Q h = Q (asP (findP a l 0)) h := by
  obtain ⟨fs, hu⟩ := hs
  have ht : ta P kt = some true := by simp [ta, hu]
  unfold Instr.findKey
  rw [hw_bind, run_under hu]
  cases l with
  | nil => rfl
  | cons x l =>
    exact run_findAsking hk ht hf he a (x :: l) 0 0
theorem findP_some {α : Type} [DecidableEq α] {a : α} : ∀ {l : List (α × Int)} {j i : Nat} {v : Int}, findP a l j = some (i, v) → ∃ n, ∃ hn : n < l.length, i = n + j ∧ l[n].1 = a ∧ v = l[n].2 := by
  intro l; induction l with
  | nil => intro j i v h; cases h
  | cons x l ih =>
    intro j i v h
    unfold findP at h
    by_cases q : a = x.1
    · rw [if_pos q] at h; cases h; exact ⟨0, by simp, by omega, q.symm, rfl⟩
    · rw [if_neg q] at h
      obtain ⟨n, hn, h1, h2, h3⟩ := ih h
      exact ⟨n + 1, by simpa using hn, by omega, by simpa using h2, by simpa using h3⟩
theorem findP_none {α : Type} [DecidableEq α] {a : α} : ∀ {l : List (α × Int)} {j : Nat}, findP a l j = none → ∀ x ∈ l, x.1 ≠ a := by
  intro l; induction l with
  | nil => intro j h x hx; cases hx
  | cons y l ih =>
    intro j h x hx
    unfold findP at h
    by_cases q : a = y.1
    · rw [if_pos q] at h; cases h
    · rw [if_neg q] at h
      rcases List.mem_cons.1 hx with rfl | hx
      · exact fun e => q e.symm
      · exact ih h x hx
variable {α : Type} [DecidableEq α] {enc : α → List Value}
def lookM (a : α) (l : List (α × Int)) : Int := match findP a l 0 with | some p => p.2 | none => 0
def insM (a : α) (l : List (α × Int)) : List (α × Int) := match findP a l 0 with | some _ => l | none => l ++ [(a, 0)]
def posM (a : α) (l : List (α × Int)) : Nat := match findP a l 0 with | some p => p.1 | none => l.length
def putM (l : List (α × Int)) (i : Nat) (n : Int) : List (α × Int) := l.modify i fun x => (x.1, n)
theorem run_zeroV {e : TypeId} {v : Value} (hz : (P.info? e).bind (·.zero) = some v) {Q : Value → Hp → Prop} : hw P (zeroValue e) Q h = Q v h := by
  cases hi : P.info? e with
  | none => rw [hi] at hz; cases hz
  | some i =>
    rw [hi] at hz
    unfold zeroValue
    rw [hw_bind, run_info hi]
    have hz : i.zero = some v := hz
    simp only [hz]
    rfl
theorem vLook_own {t k e : TypeId} {fs : Array Field} {ks : List (Option IntKind)} (hu : P.underlying t = some (.map k e)) (hs : P.underlying k = some (.struct fs)) (hz : (P.info? e).bind (·.zero) = some (.int .i64 0)) (hk : flat P 6 k = some ks)
    (hf : ∀ x, fitK ks (enc x) = true) (he : ∀ x y, leq (enc x) (enc y) = decide (x = y)) {b c : Nat} {l : List (α × Int)} (hm : h[b]? = some (.map (ents enc l) c)) (a : α) :
    vLook P t (.map (some b)) (.agg (enc a).toArray) false K h ↔ K (.int .i64 (lookM a l)) h := by
  have ht : ta P k = some true := by simp [ta, hs]
  unfold vLook Instr.lookup
  rw [hw_bind, run_under hu]
  simp only
  rw [hw_bind]
  have g : ∀ {Q : Obj → Hp → Prop}, hw P (getObj b) Q h ↔ Q (.map (ents enc l) c) h := fun {Q} => ⟨fun ⟨o, h1, _, h2⟩ => (by rw [hm] at h1; cases h1; exact h2), fun H => ⟨_, hm, rfl, H⟩⟩
  rw [g]
  have ck := fun {Q : Unit → Hp → Prop} => run_checkKey (P := P) (h := h) 6 k ks (enc a) 10000 (ents enc l).isEmpty (by omega) hk (hf _) (Q := Q)
  simp only [valOf, ht] at ck
  simp only
  rw [hw_bind, hw_pure, hw_bind, ck, hw_bind, run_findKey hk ⟨fs, hs⟩ hf he]
  unfold lookM
  cases findP a l 0 with
  | none =>
    simp only [asP, Option.map_none]
    rw [hw_bind, run_zeroV hz]
    exact Iff.rfl
  | some p => exact Iff.rfl
theorem run_same {v : Value} {Q : Value → Hp → Prop} (H : Q v h) : hw P (Instr.keyThatStays v v) Q h := by
  unfold Instr.keyThatStays
  split
  · exact H
  · rw [hw_bind]
    show hw P (choose _) _ h
    have e : ∀ t : Nat, hw P (pure (if t = 0 then v else v)) Q h := fun t => by rw [ite_self]; exact H
    show (if _ then _ else _)
    split
    · exact e 0
    · exact fun t => e _
theorem run_getMap {b : Nat} {es : Array MapEntry} {c : Nat} (hm : h[b]? = some (.map es c)) {Q : Obj → Hp → Prop} : hw P (getObj b) Q h ↔ Q (.map es c) h :=
  ⟨fun ⟨o, h1, _, h2⟩ => (by rw [hm] at h1; cases h1; exact h2), fun H => ⟨_, hm, rfl, H⟩⟩
theorem run_setMap {b : Nat} {es es' : Array MapEntry} {c c' : Nat} (hm : h[b]? = some (.map es c)) {Q : Unit → Hp → Prop} (H : Q () (h.setIfInBounds b (.map es' c'))) : hw P (setObj b (.map es' c')) Q h :=
  ⟨⟨_, hm, rfl⟩, H⟩
omit [DecidableEq α] in
theorem ents_size (l : List (α × Int)) : (ents enc l).size = l.length := by simp [ents, entsFrom_length]
omit [DecidableEq α] in
theorem ents_get {l : List (α × Int)} {j : Nat} (hj : j < l.length) : (ents enc l)[j]? = some ⟨.agg (enc l[j].1).toArray, .int .i64 l[j].2, j⟩ := by
  have := entsFrom_get enc l 0 j hj
  simpa [ents] using this
omit [DecidableEq α] in
theorem ents_ext {es : Array MapEntry} {l : List (α × Int)} (hl : es.size = l.length) (hg : ∀ j (hj : j < l.length), es[j]? = some ⟨.agg (enc l[j].1).toArray, .int .i64 l[j].2, j⟩) : es = ents enc l := by
  apply Array.ext_getElem?
  intro j
  by_cases hj : j < l.length
  · rw [hg j hj, ents_get hj]
  · rw [Array.getElem?_eq_none (by omega), Array.getElem?_eq_none (by rw [ents_size]; omega)]
theorem vMent_own {t k e : TypeId} {fs : Array Field} {ks : List (Option IntKind)} (hu : P.underlying t = some (.map k e)) (hs : P.underlying k = some (.struct fs)) (hz : (P.info? e).bind (·.zero) = some (.int .i64 0)) (hk : flat P 6 k = some ks)
    (hf : ∀ x, fitK ks (enc x) = true) (he : ∀ x y, leq (enc x) (enc y) = decide (x = y)) {b : Nat} {l : List (α × Int)} (hm : h[b]? = some (.map (ents enc l) l.length)) (a : α)
    (H : K (.tuple #[.int .i64 (lookM a l), .int .i64 (posM a l : Nat)]) (h.setIfInBounds b (.map (ents enc (insM a l)) (insM a l).length))) :
    vMent P t (.map (some b)) (.agg (enc a).toArray) K h := by
  have ht : ta P k = some true := by simp [ta, hs]
  unfold vMent Instr.mapEntry
  rw [hw_bind, run_under hu]
  simp only
  rw [hw_bind, run_getMap hm]
  have ck := fun {Q : Unit → Hp → Prop} => run_checkKey (P := P) (h := h) 6 k ks (enc a) 10000 false (by omega) hk (hf _) (Q := Q)
  simp only [valOf, ht] at ck
  simp only
  rw [hw_bind, ck, hw_bind, run_findKey hk ⟨fs, hs⟩ hf he]
  unfold lookM insM posM at H
  cases hp : findP a l 0 with
  | none =>
    rw [hp] at H
    simp only [asP, Option.map_none]
    rw [hw_bind, run_zeroV hz, hw_bind]
    refine run_setMap hm ?_
    have e1 : (ents enc l).push ⟨.agg (enc a).toArray, .int .i64 0, l.length⟩ = ents enc (l ++ [(a, 0)]) := by
      refine ents_ext (by rw [Array.size_push, ents_size]; simp) fun j hj => ?_
      rw [Array.getElem?_push, ents_size]
      by_cases hjl : j = l.length
      · subst hjl; rw [if_pos rfl]; simp
      · rw [if_neg hjl]
        have : j < l.length := by simp at hj; omega
        rw [ents_get this, List.getElem_append_left this]
    rw [e1]
    simp only [List.length_append, List.length_singleton] at H
    exact H
  | some p =>
    obtain ⟨i, v⟩ := p
    rw [hp] at H
    obtain ⟨n, hn, h1, h2, h3⟩ := findP_some hp
    obtain rfl : i = n := by omega
    simp only [asP, Option.map_some]
    rw [hw_bind]
    rw [show ((ents enc l)[i]?).map (·.key) = some (.agg (enc a).toArray) by rw [ents_get hn, h2]; rfl]
    simp only [Option.getD_some]
    refine run_same ?_
    rw [hw_bind]
    refine run_setMap hm ?_
    have e1 : (ents enc l).modify i (fun e => { e with key := .agg (enc a).toArray }) = ents enc l := by
      refine ents_ext (by rw [Array.size_modify, ents_size]) fun j hj => ?_
      rw [Array.getElem?_modify, ents_get hj]
      split
      · rename_i q; subst q; simp [h2]
      · rfl
    rw [e1]
    rw [ents_get hn]
    exact H
omit [DecidableEq α] in
theorem vMset_own {t : TypeId} {b c : Nat} {l : List (α × Int)} (hm : h[b]? = some (.map (ents enc l) c)) {i : Nat} (hi : i < l.length) {n : Int}
    (H : K undef (h.setIfInBounds b (.map (ents enc (putM l i n)) c))) : vMset P t (.map (some b)) (.int .i64 (i : Int)) (.int .i64 n) K h := by
  unfold vMset Instr.entryStore
  simp only
  rw [hw_bind, run_getMap hm]
  simp only
  have e0 : hw P (asInt (.int .i64 (i : Int))) = fun Q h => Q (i : Int) h := rfl
  rw [hw_bind, e0]
  have e1 : (ents enc l).findIdx? (fun e => (e.born : Int) == (i : Int)) = some i := by
    rw [Array.findIdx?_eq_some_iff_getElem]
    have hs := ents_size (enc := enc) l
    have gg : ∀ j (hj : j < (ents enc l).size), ((ents enc l)[j]).born = j := fun j hj => by
      have := ents_get (enc := enc) (l := l) (j := j) (by omega)
      rw [Array.getElem?_eq_getElem hj] at this
      rw [Option.some.inj this]
    refine ⟨by omega, by rw [gg]; simp, fun j hj => ?_⟩
    rw [gg]; simp; omega
  simp only [e1]
  refine run_setMap hm ?_
  have e2 : (ents enc l).modify i (fun e => { e with val := .int .i64 n }) = ents enc (putM l i n) := by
    unfold putM
    refine ents_ext (by rw [Array.size_modify, ents_size, List.length_modify]) fun j hj => ?_
    rw [List.length_modify] at hj
    rw [Array.getElem?_modify, ents_get hj, List.getElem_modify]
    split
    · rfl
    · rfl
  rw [e2]
  exact H
omit [DecidableEq α] in
theorem ents_mem {l : List (α × Int)} {x : MapEntry} (hx : x ∈ ents enc l) : ∃ j, ∃ hj : j < l.length, x = ⟨.agg (enc l[j].1).toArray, .int .i64 l[j].2, j⟩ := by
  obtain ⟨j, hj, rfl⟩ := Array.getElem_of_mem hx
  have hj' : j < l.length := by rw [ents_size] at hj; exact hj
  refine ⟨j, hj', ?_⟩
  have := ents_get (enc := enc) hj'
  rw [Array.getElem?_eq_getElem hj] at this
  exact Option.some.inj this
omit [DecidableEq α] in
theorem vMrng_own {t k e : TypeId} (hu : P.underlying t = some (.map k e)) {b c : Nat} {es : Array MapEntry} (hm : h[b]? = some (.map es c))
    (H : K (.pointer (some ⟨h.size, 0, none⟩)) (h.push (.mapIter (some b) c #[] c))) : vMrng P t (.map (some b)) K h := by
  unfold vMrng Instr.range
  rw [hw_bind, run_under hu]
  simp only
  rw [hw_bind, run_getMap hm]
  exact H
omit [DecidableEq α] in
theorem vMnxt_own {it b : Nat} {l : List (α × Int)} {seen : Array Nat} (hi : h[it]? = some (.mapIter (some b) l.length seen l.length)) (hm : h[b]? = some (.map (ents enc l) l.length))
    (H0 : (∀ j, j < l.length → j ∈ seen) → K (.tuple #[.bool false]) h)
    (H1 : ∀ j (hj : j < l.length), j ∉ seen → K (.tuple #[.bool true, .agg (enc l[j].1).toArray, .int .i64 l[j].2]) (h.setIfInBounds it (.mapIter (some b) l.length (seen.push j) l.length))) :
    vMnxt P (.pointer (some ⟨it, 0, none⟩)) ty K h := by
  unfold vMnxt Instr.next
  simp only
  rw [hw_bind]
  refine ⟨_, hi, rfl, ?_⟩
  show hw P (getObj b >>= _) K h
  rw [hw_bind, run_getMap hm]
  simp only
  have e0 : (!seen.isEmpty && !(ents enc l).isEmpty && (ents enc l).all (fun x => decide (x.born ≥ l.length))) = false := by
    cases l with
    | nil => simp [ents, entsFrom]
    | cons x l =>
      have : (ents enc (x :: l)).all (fun y => decide (y.born ≥ (x :: l).length)) = false := by
        rw [Array.all_eq_false]
        refine ⟨0, by rw [ents_size]; simp, ?_⟩
        have := ents_get (enc := enc) (l := x :: l) (j := 0) (by simp)
        rw [Array.getElem?_eq_getElem (by rw [ents_size]; simp)] at this
        rw [Option.some.inj this]
        simp
      rw [this, Bool.and_false]
  rw [if_neg (by rw [e0]; simp)]
  have hL : ∀ x ∈ (ents enc l).filter (fun e => !seen.contains e.born), ∃ j, ∃ hj : j < l.length, x = ⟨.agg (enc l[j].1).toArray, .int .i64 l[j].2, j⟩ ∧ j ∉ seen := by
    intro x hx
    rw [Array.mem_filter] at hx
    obtain ⟨j, hj, rfl⟩ := ents_mem hx.1
    exact ⟨j, hj, rfl, by simpa using hx.2⟩
  have hE : (ents enc l).filter (fun e => !seen.contains e.born) = #[] → ∀ j, j < l.length → j ∈ seen := by
    intro he j hj
    rw [Array.filter_eq_empty_iff] at he
    have := he _ (Array.mem_of_getElem? (ents_get (enc := enc) hj))
    simpa using this
  generalize (ents enc l).filter (fun e => !seen.contains e.born) = L at hL hE
  have e1 : L.filter (fun x => decide (x.born < l.length)) = L := Array.filter_eq_self.2 fun x hx => by obtain ⟨j, hj, rfl, _⟩ := hL x hx; simpa using hj
  have e2 : L.filter (fun x => decide (x.born ≥ l.length)) = #[] := by
    rw [Array.filter_eq_empty_iff]
    intro x hx
    obtain ⟨j, hj, rfl, _⟩ := hL x hx
    simp; omega
  simp only [e1, e2, Array.append_empty]
  by_cases h0 : L = #[]
  · subst h0
    have := H0 (hE rfl)
    simp [choose, hw_bind, hw, Question.forced]
    exact this
  · have hne : L.isEmpty = false := by simpa using h0
    have hsz : 0 < L.size := by
      rcases Nat.eq_zero_or_pos L.size with q | q
      · exact absurd (Array.eq_empty_of_size_eq_zero q) h0
      · exact q
    simp only [hne, Bool.false_eq_true, if_false, Array.empty_append, Array.size_map]
    have step : ∀ (n : Nat) (hn : n < L.size), hw P (match (L.map some)[n]? with
        | some (some e) => do
          setObj it (.mapIter (some b) l.length (seen.push e.born) l.length)
          pure (.tuple #[.bool true, e.key, e.val])
        | some none => pure (.tuple #[.bool false])
        | none => stuck "Next: no such candidate") K h := by
      intro n hn
      obtain ⟨j, hj, hx, hnot⟩ := hL L[n] (Array.getElem_mem hn)
      rw [Array.getElem?_map, Array.getElem?_eq_getElem hn, Option.map_some]
      simp only
      rw [hw_bind]
      refine ⟨⟨_, hi, rfl⟩, ?_⟩
      rw [hx]
      exact H1 j hj hnot
    rw [hw_bind]
    show (if _ then _ else _)
    by_cases hf : (Question.mapNext L.size).forced = true
    · rw [if_pos hf]; exact step 0 hsz
    · rw [if_neg hf]; exact fun t => step _ (Nat.mod_lt _ hsz)
omit [DecidableEq α] in
theorem vMcur_own {it b since : Nat} {l : List (α × Int)} {seen : Array Nat} {j : Nat} (hj : j < l.length) (hi : h[it]? = some (.mapIter (some b) since (seen.push j) l.length)) (hm : h[b]? = some (.map (ents enc l) l.length))
    (H : K (.tuple #[.agg (enc l[j].1).toArray, .int .i64 l[j].2]) h) : vMcur P (.pointer (some ⟨it, 0, none⟩)) K h := by
  unfold vMcur Instr.entry
  simp only
  rw [hw_bind]
  refine ⟨_, hi, rfl, ?_⟩
  have e0 : (seen.push j).back? = some j := Array.back?_push ..
  have e2 : ∀ (o : Obj) (Q : Obj → Hp → Prop), hw P (Sem.pure o) Q h = Q o h := fun _ _ => rfl
  rw [e2]
  simp only [e0]
  rw [hw_bind, run_getMap hm]
  simp only [bne_self_eq_false, Bool.false_eq_true, if_false]
  have e1 : (ents enc l).find? (fun e => e.born == j) = some ⟨.agg (enc l[j].1).toArray, .int .i64 l[j].2, j⟩ := by
    rw [Array.find?_eq_some_iff_getElem]
    refine ⟨by simp, j, by rw [ents_size]; exact hj, ?_, fun i hi => ?_⟩
    · have := ents_get (enc := enc) hj
      rw [Array.getElem?_eq_getElem (by rw [ents_size]; exact hj)] at this
      exact Option.some.inj this
    · have h2 : i < l.length := by omega
      have := ents_get (enc := enc) h2
      rw [Array.getElem?_eq_getElem (by rw [ents_size]; exact h2)] at this
      rw [Option.some.inj this]
      simp; omega
  rw [e1]
  exact H
end
end Go.V
