/- W3: what fits a type, as a row of cells, each of its own type. -/
import Derived.Test.YtiakfdpmapmifaaW2
namespace Go.V
set_option linter.unusedVariables false
set_option linter.unusedSimpArgs false

/-- The types of a type's cells, in their order. -/
def leafFs (P : Program) (g : TypeId → Option (List TypeId)) : List Field → Nat → Option (List TypeId)
  | [], _ => some []
  | f :: fs, o => match g f.type with
    | some l => if f.offset = o ∧ P.cellsOf f.type = l.length then (leafFs P g fs (o + l.length)).map (l ++ ·) else none
    | none => none
def leaf (P : Program) : Nat → TypeId → Option (List TypeId)
  | 0, _ => none
  | k + 1, t => match P.underlying t with
    | some (.struct fs) => match leafFs P (leaf P k) fs.toList 0 with
      | some l => if P.cellsOf t = l.length then some l else none
      | none => none
    | some (.array n e) => match leaf P k e with
      | some l => if P.cellsOf e = l.length ∧ P.cellsOf t = n * l.length then some (rep n l) else none
      | none => none
    | _ => some [t]
def fitL (P : Program) (h : Hp) : List TypeId → List Value → Prop
  | [], [] => True
  | t :: ts, c :: cs => (∃ k, fit P h k t [c]) ∧ fitL P h ts cs
  | _, _ => False
theorem fitL_append {P : Program} {h : Hp} : ∀ {ts us : List TypeId} {cs ds : List Value}, fitL P h ts cs → fitL P h us ds → fitL P h (ts ++ us) (cs ++ ds)
  | [], us, [], ds, _, h2 => h2
  | t :: ts, us, c :: cs, ds, h1, h2 => ⟨h1.1, fitL_append h1.2 h2⟩
  | [], us, c :: cs, ds, h1, _ => h1.elim
  | t :: ts, us, [], ds, h1, _ => h1.elim
theorem rep_length {α : Type} (l : List α) : ∀ n, (rep n l).length = n * l.length
  | 0 => by simp [rep]
  | n + 1 => by simp [rep, rep_length l n, Nat.add_mul, Nat.add_comm]
theorem fit_leaf {P : Program} {h : Hp} : ∀ (j k : Nat) (t : TypeId) (cs : List Value) (l : List TypeId), leaf P j t = some l → cs.length = l.length → fit P h k t cs → fitL P h l cs := by
  intro j
  induction j with
  | zero => intro k t cs l hl; simp [leaf] at hl
  | succ j ih =>
    intro k t cs l hl hlen hf
    unfold leaf at hl
    split at hl
    · rename_i fs hu
      split at hl
      · rename_i l' hl'
        split at hl
        · rename_i hc
          simp only [Option.some.injEq] at hl
          subst hl
          obtain ⟨h1, h2⟩ := fit_struct hu hf
          have key : ∀ (gs : List Field) (o : Nat) (l : List TypeId), leafFs P (leaf P j) gs o = some l → (∀ f ∈ gs, ∃ k, fit P h k f.type ((cs.drop f.offset).take (P.cellsOf f.type))) → (cs.drop o).length = l.length → fitL P h l (cs.drop o) := by
            intro gs
            induction gs with
            | nil =>
              intro o l hl _ hlen
              simp only [leafFs, Option.some.injEq] at hl
              subst hl
              rw [List.eq_nil_of_length_eq_zero hlen]
              trivial
            | cons f gs ihg =>
              intro o l hl hall hlen
              unfold leafFs at hl
              split at hl
              · rename_i lf hlf
                split at hl
                · rename_i hcf
                  obtain ⟨rfl, hcf⟩ := hcf
                  cases hr : leafFs P (leaf P j) gs (f.offset + lf.length) with
                  | none => rw [hr] at hl; cases hl
                  | some lr =>
                    rw [hr] at hl
                    simp only [Option.map_some, Option.some.injEq] at hl
                    subst hl
                    simp only [List.length_append] at hlen
                    have e : cs.drop f.offset = (cs.drop f.offset).take lf.length ++ cs.drop (f.offset + lf.length) := by
                      rw [← List.drop_drop, List.take_append_drop]
                    obtain ⟨k', hk'⟩ := hall f (by simp)
                    rw [hcf] at hk'
                    rw [e]
                    refine fitL_append (ih k' f.type _ lf hlf ?_ hk') (ihg _ lr hr (fun g hg => hall g (by simp [hg])) ?_)
                    · simp only [List.length_take]; omega
                    · rw [← List.drop_drop, List.length_drop]; omega
                · cases hl
              · cases hl
          have := key fs.toList 0 l' hl' (fun f hf' => by
            obtain ⟨i, hi, hfi⟩ := List.mem_iff_getElem.1 hf'
            exact h2 i f (by rw [← Array.getElem?_toList, List.getElem?_eq_getElem hi, hfi])) (by simpa using hlen)
          simpa using this
        · cases hl
      · cases hl
    · rename_i n e hu
      split at hl
      · rename_i l' hl'
        split at hl
        · rename_i hc
          obtain ⟨hc1, hc2⟩ := hc
          simp only [Option.some.injEq] at hl
          subst hl
          obtain ⟨h1, h2⟩ := fit_array hu hf
          have key : ∀ (m s : Nat), s + m = n → (cs.drop (s * l'.length)).length = m * l'.length → fitL P h (rep m l') (cs.drop (s * l'.length)) := by
            intro m
            induction m with
            | zero =>
              intro s _ hlen
              have e0 : cs.drop (s * l'.length) = [] := List.eq_nil_of_length_eq_zero (by rw [hlen]; simp)
              rw [e0]
              trivial
            | succ m ihm =>
              intro s hs hlen
              have es : s * l'.length + l'.length = (s + 1) * l'.length := by rw [Nat.add_mul, Nat.one_mul]
              have ee : cs.drop (s * l'.length) = (cs.drop (s * l'.length)).take l'.length ++ cs.drop ((s + 1) * l'.length) := by
                rw [← es, ← List.drop_drop, List.take_append_drop]
              obtain ⟨k', hk'⟩ := h2 s (by omega)
              rw [hc1] at hk'
              rw [ee]
              rw [Nat.add_mul, Nat.one_mul] at hlen
              refine fitL_append (ih k' e _ l' hl' ?_ hk') (ihm (s + 1) (by omega) ?_)
              · simp only [List.length_take]; omega
              · rw [← es, ← List.drop_drop, List.length_drop]; omega
          have := key n 0 (by omega) (by rw [Nat.zero_mul, List.drop_zero, hlen, rep_length])
          simpa using this
        · cases hl
      · cases hl
    · simp only [Option.some.injEq] at hl
      subst hl
      match cs, hlen with
      | [c], _ => exact ⟨⟨k, hf⟩, trivial⟩
/-- The number, the bool, in a cell. -/
def ci (cs : List Value) (i : Nat) : Int := match nth cs i with | some (.int _ n) => n | _ => 0
def cb (cs : List Value) (i : Nat) : Bool := match nth cs i with | some (.bool b) => b | _ => false
def i64s (P : Program) (ts : List TypeId) (a n : Nat) : Bool := (List.range n).all fun j => match nth ts (a + j) with | some t => (match P.underlying t with | some (.int .i64) => true | _ => false) | none => false
def bools (P : Program) (ts : List TypeId) (a n : Nat) : Bool := (List.range n).all fun j => match nth ts (a + j) with | some t => (match P.underlying t with | some .bool => true | _ => false) | none => false
theorem Bel.add {h h' : Hp} (b : Bel h.size h h') (o : Obj) : Bel h.size h (h'.push o) := b.trans (Bel.push b.size o)
theorem fitL_int {P : Program} {h : Hp} {t : TypeId} {ts : List TypeId} {cs : List Value} (ht : P.underlying t = some (.int .i64)) (hf : fitL P h (t :: ts) cs) :
    ∃ n l, cs = .int .i64 n :: l ∧ -9223372036854775808 ≤ n ∧ n ≤ 9223372036854775807 ∧ fitL P h ts l := by
  cases cs with
  | nil => exact hf.elim
  | cons c l =>
    obtain ⟨⟨k, hk⟩, hl⟩ := hf
    obtain ⟨m, hm, hw⟩ := fit_int ht hk
    simp only [List.cons.injEq, and_true] at hm
    subst hm
    exact ⟨m, l, rfl, (wf_i64 hw).1, (wf_i64 hw).2, hl⟩
theorem fitL_nil {P : Program} {h : Hp} {cs : List Value} (hf : fitL P h [] cs) : cs = [] := by
  cases cs with
  | nil => rfl
  | cons c l => exact hf.elim
theorem fitL_cell {P : Program} {h : Hp} {t : TypeId} {ts : List TypeId} {cs : List Value} (hf : fitL P h (t :: ts) cs) : ∃ c l k, cs = c :: l ∧ fit P h k t [c] ∧ fitL P h ts l := by
  cases cs with
  | nil => exact hf.elim
  | cons c l => exact ⟨c, l, hf.1.choose, rfl, hf.1.choose_spec, hf.2⟩
end Go.V
