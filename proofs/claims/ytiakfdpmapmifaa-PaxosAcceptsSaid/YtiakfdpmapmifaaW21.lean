/- W21: slices cut short and cut behind, of the call's own; what is put at a place of a list. -/
import Derived.Test.YtiakfdpmapmifaaW20
namespace Go.V
set_option linter.unusedVariables false
set_option linter.unusedSimpArgs false
section
variable {h h' : Hp}
theorem Own.fore {B : Nat} {E : TypeId} {n : Nat} {p : Option Addr} {k c : Nat} {cs : List Value} (s : Own B E n h (.slice p k c) k cs) {m : Nat} (hm : m ≤ k) : Own B E n h (.slice p m c) m (cs.take (m * n)) := by
  rcases s with ⟨⟨q, h1⟩, h2, h3⟩ | ⟨b, cap, spare, hB, h1, hg, hl, hs, hc⟩
  · simp only [Value.slice.injEq] at h1
    obtain ⟨rfl, rfl, rfl⟩ := h1
    have e : m = 0 := by omega
    subst e
    subst h3
    exact .inl ⟨⟨_, rfl⟩, rfl, by simp⟩
  · simp only [Value.slice.injEq] at h1
    obtain ⟨rfl, _, rfl⟩ := h1
    have hmn : m * n ≤ k * n := Nat.mul_le_mul_right _ hm
    have hcn : k * n ≤ c * n := Nat.mul_le_mul_right _ hc
    refine .inr ⟨b, c, cs.drop (m * n) ++ spare, hB, rfl, ?_, ?_, ?_, by omega⟩
    · rw [← List.append_assoc, List.take_append_drop]; exact hg
    · rw [List.length_take]; omega
    · rw [List.length_append, List.length_drop, hl, hs, Nat.sub_mul, Nat.sub_mul]; omega
theorem sl_of_get {b : Nat} {E : TypeId} {n m c : Nat} {pre cs post : List Value} (hg : h[b]? = some (.cells (pre ++ (cs ++ post)).toArray E)) (hl : cs.length = m * n) {o : Nat} (ho : o = pre.length) : Sl n h (.slice (some ⟨b, o, none⟩) m c) m cs := by
  refine ⟨_, c, rfl, hl, fun _ => ⟨b, o, rfl, fun i hi => ?_⟩⟩
  subst ho
  rw [hc_of_get hg]
  simp only [List.getElem?_toArray]
  rw [List.getElem?_append_right (by omega), Nat.add_sub_cancel_left, List.getElem?_append_left hi, List.getElem?_eq_getElem hi]
theorem lput_at {a b c vs : List Value} {o : Nat} (ho : o = a.length) (hv : vs.length = b.length) : lput (a ++ (b ++ c)) o vs = a ++ (vs ++ c) := by
  subst ho
  rw [lput_app, lput_zero _ _ (by rw [List.length_append]; omega), hv, List.drop_append, List.drop_length, Nat.sub_self, List.drop_zero, List.nil_append]
theorem Own.spare {B : Nat} {E : TypeId} {n : Nat} {p : Option Addr} {k c : Nat} {cs : List Value} (s : Own B E n h (.slice p k c) k cs) (hk : c ≠ 0) : ∃ b spare, B ≤ b ∧ p = some ⟨b, 0, none⟩ ∧ h[b]? = some (.cells (cs ++ spare).toArray E) ∧ cs.length = k * n ∧ spare.length = (c - k) * n ∧ k ≤ c := by
  rcases s with ⟨⟨q, h1⟩, h2, h3⟩ | ⟨b, cap, spare, hB, h1, hg, hl, hs, hc⟩
  · simp only [Value.slice.injEq] at h1
    exact (hk h1.2.2).elim
  · simp only [Value.slice.injEq] at h1
    obtain ⟨rfl, _, rfl⟩ := h1
    exact ⟨b, spare, hB, rfl, hg, hl, hs, hc⟩
theorem Own.of_get {B b : Nat} {E : TypeId} {n k c : Nat} {cs spare : List Value} (hB : B ≤ b) (hg : h[b]? = some (.cells (cs ++ spare).toArray E)) (hl : cs.length = k * n) (hs : spare.length = (c - k) * n) (hc : k ≤ c) : Own B E n h (.slice (some ⟨b, 0, none⟩) k c) k cs :=
  .inr ⟨b, c, spare, hB, rfl, hg, hl, hs, hc⟩
theorem get_set {b : Nat} {o o' : Obj} (hb : h[b]? = some o') : (h.setIfInBounds b o)[b]? = some o := by
  rw [Array.getElem?_setIfInBounds, if_pos rfl, if_pos (lt_of_get hb)]
theorem get_set_ne {b b' : Nat} {o : Obj} (hb : b ≠ b') : (h.setIfInBounds b o)[b']? = h[b']? := by
  rw [Array.getElem?_setIfInBounds, if_neg hb]
variable {P : Program} {T : World} {K : Value → Hp → Prop} {ty : TypeId}
@[go_sem] theorem vBi_cap {cs : Array Bool} {t : TypeId} {p : Option Addr} {l c : Nat} (ht : (tsl P t).isSome = true) : vBi P T .cap #[t] ty cs [.slice p l c] K h = K (.int .i64 c) h := by
  unfold tsl at ht
  split at ht
  · rename_i e hu
    show hw P (do pure (.value (← Builtin.cap_ #[t] ty #[.slice p l c]))) (vNext P T K) h = _
    rw [hw_bind]
    show hw P (do
      match ← underlying t, (Value.slice p l c) with
      | .array n _, _ => pure (goInt n)
      | .pointer arr, _ =>
        let .array n _ ← underlying arr | stuck "cap: pointer to array expected"
        pure (goInt n)
      | .slice _, .slice _ _ n => pure (goInt n)
      | .chan _ _, .chan none => pure (goInt 0)
      | .chan _ _, .chan (some r) =>
        let .chan n _ _ _ _ timer ← getObj r | stuck "cap: channel expected"
        pure (goInt (if timer then 0 else n))
      | _, _ => stuck "cap: array, pointer to array, slice or channel expected") K h = _
    rw [hw_bind, run_under hu]; rfl
  · cases ht
/-- 'copy(dst, src)': only what is copied need be single cells. -/
theorem copy_part {dT sT E E' b o dl dc k n : Nat} {c news : List Value} {cb : Array Bool} {s : Value} (hd : tsl P dT = some E) (hn : tn P E = some n) (hb : h[b]? = some (.cells c.toArray E' (0, 0)))
    (src : Sl n h s k news) (hone : (news.take (min k dl * n)).all oneC = true) (hroom : o + min k dl * n ≤ c.length)
    (H : K (.int .i64 ((min k dl : Nat) : Int)) (h.setIfInBounds b (.cells (lput c o (news.take (min k dl * n))).toArray E' (0, 0)))) :
    vBi P T .copy #[dT, sT] ty cb [.slice (some ⟨b, o, none⟩) dl dc, s] K h := by
  unfold tsl at hd
  split at hd
  · rename_i e' hu
    simp only [Option.some.injEq] at hd
    subst hd
    show hw P (do pure (.value (← Builtin.copy_ #[dT, sT] ty #[.slice (some ⟨b, o, none⟩) dl dc, s])) ) (vNext P T K) h
    rw [hw_bind]
    show hw P (Builtin.copy_ #[dT, sT] ty #[.slice (some ⟨b, o, none⟩) dl dc, s]) K h
    simp only [Builtin.copy_, List.getElem?_toArray, List.getElem?_cons_zero, List.getElem?_cons_succ, hw_bind, hw_pure, run_under hu, run_sizeOf hn, src.lenOf]
    have hlen : news.length = k * n := by obtain ⟨_, _, _, hl, _⟩ := src; simpa using hl
    obtain ⟨p, cap, rfl, hl, hc⟩ := src
    have hm : Nat.min k dl = min k dl := rfl
    rw [hm]
    obtain ⟨m, hmm⟩ : ∃ m, m = min k dl := ⟨_, rfl⟩
    rw [← hmm] at hroom hone H ⊢
    have hmk : m ≤ k := by omega
    have hmn : m * n ≤ k * n := Nat.mul_le_mul_right _ hmk
    rw [firstCells_len (k' := m) (c' := cap)]
    refine run_firstCells (Sl.foren ⟨p, cap, rfl, hl, hc⟩ hmk cap) ?_
    refine run_storeCells (a := ⟨b, o, none⟩) (e := E') (lo := 0) (hi := 0) rfl (Nat.le_refl _) (news.take (m * n)) 0 h c.toArray hb ?_ ?_ ?_
    · simp; omega
    · exact hone
    · simp only [hw_pure, Nat.add_zero]
      exact H
  · cases hd
/-- A function without a body, which the model's table has. -/
theorem vCall_extern {f : FuncId} {fn : Func} {e : Array Value → Sem Value} (hf : P.funcs[f]? = some fn) (hname : (fn.name == "runtime.NumGoroutine") = false) (hb : fn.body.isNone = true) (hn : Extern.findNext fn = none) (he : Extern.find fn = some e)
    {l : List Value} (H : hw P (e l.toArray) K h) : vCall P T (.func (.func f) #[] #[]) l K h := by
  have h1 : fn.name ≠ "runtime.NumGoroutine" := by simpa using hname
  have h2 : fn.body = none := by simpa using hb
  have hg : ¬ goes P f = true := by unfold goes; rw [hf]; simp [h2]
  show if goes P f = true then CallsH P T f (([] : List Value) ++ l ++ []).toArray h K else hw P (callFunc f (([] : List Value) ++ l ++ []).toArray) (vNext P T K) h
  rw [if_neg hg, List.nil_append, List.append_nil]
  unfold callFunc
  rw [hw_bind]
  simp only [program, hw, hf]
  rw [if_neg (by simpa using h1), if_pos (by rw [h2]; rfl), hw_bind]
  simp only [mark, hw, hn, he]
  rw [hw_bind]
  exact H
end
end Go.V
