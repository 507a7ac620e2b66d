/- V8: a law's row, from its contract. -/
import Derived.Test.YtiakfdpmapmifaaV7
import Derived.Carry
namespace Go.V
open Go.ChangeShapes Go.WideShapes Go.ChangeAt Go.RowKit

theorem not_agg {P : Program} {w : World} {r : Reach} {base : Nat} {t : TypeId} {cs : Array Value} (ha : ta P t = some false) (h : Value.okWide P w r base t (.agg cs)) : False := by
  unfold ta at ha
  unfold Value.okWide at h
  cases hu : P.underlying t with
  | none => rw [hu] at ha; cases ha
  | some d =>
    rw [hu] at ha h
    cases d <;> simp at ha <;> simp [Cell.okWide, Cell.ok, hu] at h

theorem fitV_of {H : Type} {enc : TypeId × Value → H} {P : Program} {w : World} {r : Reach} {base : Nat} {t : TypeId} {v : Value} {d : DataW H} {ps : List MemPlace}
    (hta : (ta P t).isSome = true) (hok : Value.okWide P w r base t v) (h : DataW.Trod enc P w 0 (fun _ => true) true t v d ps) (hw : (d.weights P t).all (· ≤ reachBytes) = true) : ∃ k, fitV P w.heap k t v := by
  obtain ⟨k, hk⟩ := h
  have hf := fit_of_trod k t _ d ps hk hw
  refine ⟨k, ?_⟩
  unfold fitV
  cases ha : ta P t with
  | none => rw [ha] at hta; cases hta
  | some b =>
    cases b with
    | true =>
      unfold ta at ha
      unfold Value.okWide at hok
      cases hu : P.underlying t with
      | none => rw [hu] at ha; cases ha
      | some d' =>
        rw [hu] at ha hok
        have : ∃ cs, v = .agg cs := by
          cases d' <;> simp at ha <;> (obtain ⟨cs, hv, _⟩ := hok; exact ⟨cs, hv⟩)
        obtain ⟨cs, rfl⟩ := this
        exact ⟨cs.toList, by simp, hf⟩
    | false =>
      have : v.cells.toList = [v] := by
        cases v with
        | agg cs => exact (not_agg ha hok).elim
        | _ => rfl
      rw [this] at hf
      exact hf

theorem fitAll_of {H : Type} {enc : TypeId × Value → H} {P : Program} {w : World} {base : Nat} : ∀ (ts : List TypeId) (vs : List Value) (ds : List (DataW H)) (ps : List MemPlace),
    ts.all (fun t => (ta P t).isSome) = true → (∀ (j : Nat) t v, ts[j]? = some t → vs[j]? = some v → Value.okWide P w .any base t v) → DataW.TrodAll enc P w 0 (fun _ => true) true ts vs ds ps →
    (DataW.weightsEach P ts ds).all (· ≤ reachBytes) = true → fitAll P w.heap ts vs
  | [], vs, ds, ps, _, _, h, _ => by
    obtain ⟨rfl, rfl, rfl⟩ := trodAll_nil h
    trivial
  | t :: ts, vs, ds, ps, ha, hv, h, hw => by
    obtain ⟨v, vs', d, ds', p, q, rfl, rfl, rfl, h1, h2⟩ := trodAll_cons h
    simp only [List.all_cons, Bool.and_eq_true] at ha
    simp only [DataW.weightsEach, List.all_append, Bool.and_eq_true] at hw
    exact ⟨fitV_of ha.1 (hv 0 t v rfl rfl) h1 hw.1, fitAll_of ts vs' ds' q ha.2 (fun j t v ht hv' => hv (j + 1) t v ht hv') h2 hw.2⟩

theorem trodAll_stays {H : Type} {enc : TypeId × Value → H} {P : Program} (hl : laidOutB P = true) {W W' : World} (hb : Below W.heap.size W W') : ∀ (ts : List TypeId) (vs : List Value) (ds : List (DataW H)) (ps : List MemPlace),
    ts.all (fun t => P.readableRec t && decide (t < P.types.size)) = true → DataW.TrodAll enc P W 0 (fun _ => true) true ts vs ds ps → (∀ x ∈ ps, x.block < W.heap.size) →
    DataW.TrodAll enc P W' 0 (fun b => decide (b < W.heap.size)) true ts vs ds ps
  | [], vs, ds, ps, _, h, _ => by
    obtain ⟨rfl, rfl, rfl⟩ := trodAll_nil h
    rfl
  | t :: ts, vs, ds, ps, ha, h, hlt => by
    obtain ⟨v, vs', d, ds', p, q, rfl, rfl, rfl, h1, h2⟩ := trodAll_cons h
    simp only [List.all_cons, Bool.and_eq_true, decide_eq_true_eq] at ha
    exact ⟨p, q, Below.trod hl ha.1.1 ha.1.2 h1 hb (fun x hx => hlt x (by simp [hx])), trodAll_stays hl hb ts vs' ds' q ha.2 h2 (fun x hx => hlt x (by simp [hx])), rfl⟩

theorem trodAll_length {H : Type} {enc : TypeId × Value → H} {P : Program} {w : World} {b : Nat} {sp : Nat → Bool} {hd : Bool} : ∀ (ts : List TypeId) (vs : List Value) (ds : List (DataW H)) (ps : List MemPlace), DataW.TrodAll enc P w b sp hd ts vs ds ps → ds.length = ts.length
  | [], vs, ds, ps, h => by obtain ⟨rfl, rfl, rfl⟩ := trodAll_nil h; rfl
  | t :: ts, vs, ds, ps, h => by
    obtain ⟨v, vs', d, ds', p, q, rfl, rfl, rfl, h1, h2⟩ := trodAll_cons h
    simp [trodAll_length ts vs' ds' q h2]

/-- What a law says: whatever fits, it answers true, and nothing that was there has turned. -/
def LawOk (P : Program) (f : FuncId) (ts : List TypeId) : Prop :=
  ∀ (W : World) (args : List Value), fitAll P W.heap ts args → CallsH P W f args.toArray W.heap fun v h' => v = .bool true ∧ Bel W.heap.size W.heap h'

theorem below_of {W W' : World} {h' : Hp} (hs : Sees W W' h') (hb : Bel W.heap.size W.heap h') : Below W.heap.size W W' :=
  ⟨hs.os, hs.tape, hs.output, by rw [hs.heap]; exact hb.size, fun k hk => by rw [hs.heap]; exact hb.block k hk⟩

theorem law_calls {H : Type} {enc : TypeId × Value → H} {P : Program} {f : FuncId} {fn : Func} {s : ChangeSpec} {tb : TypeId} (hlaid : laidOutB P = true)
    (hp1 : fn.params.toList.all (fun t => (ta P t).isSome) = true) (hp2 : fn.params.toList.all (fun t => P.readableRec t && decide (t < P.types.size)) = true)
    (hrt : fn.resultTypes = #[tb]) (htb : P.underlying tb = some .bool) (hvars : s.vars = [])
    (hspec : ∀ ds : List (DataW H), ds.length = fn.params.toList.length → s.fn H ds = { results := [.lit (.bool true)], args := ds })
    (law : LawOk P f fn.params.toList) {W : World} {base : Nat} {args : Array Value} {ds gs : List (DataW H)} {before : List MemPlace}
    (hval : ∀ (j : Nat) t v, fn.params[j]? = some t → args[j]? = some v → Value.okWide P W .any base t v)
    (hW : DataW.Whole enc P fn.params.toList s.vars false W args.toList ds gs before)
    (hsz : (DataW.weightsEach P (fn.params.toList ++ s.plain.varTypes P) (ds ++ gs)).all (· ≤ reachBytes) = true) :
    Calls P f args W fun e W' => ∃ v, e = .returned v ∧ s.post enc P fn false true false false W args v W' := by
  have hW' := hW
  obtain ⟨p, q, hA, hV, rfl, hz, _⟩ := hW
  rw [hvars] at hV
  obtain ⟨rfl, rfl⟩ := trodVars_none hV
  have hvt : s.plain.varTypes P = [] := by
    have h1 : s.plain.vars = [] := hvars
    simp [DataSpec.varTypes, h1]
  rw [hvt, List.append_nil, List.append_nil] at hsz
  have hfit : fitAll P W.heap fn.params.toList args.toList := by
    refine fitAll_of (enc := enc) (base := base) _ _ ds p hp1 (fun j t v ht hv => hval j t v ?_ ?_) hA hsz
    · rw [← Array.getElem?_toList]; exact ht
    · rw [← Array.getElem?_toList]; exact hv
  have hcall := law W args.toList hfit W ⟨rfl, rfl, rfl, rfl⟩
  rw [Array.toArray_toList] at hcall
  refine hcall.mono fun e W' ⟨v, h', he, hs, hv, hb⟩ => ?_
  subst hv
  have hbel := below_of hs hb
  have hlen := trodAll_length _ _ _ _ hA
  have hfn := hspec ds hlen
  refine ⟨_, he, ds, [], _, [], p, [], hW', ?_, ?_, ?_, hbel.frame _, fun h => by cases h⟩
  · rw [List.append_nil, hfn, hrt]
    exact trodAll_mk1 (v := .bool true) ⟨1, by simp [DataW.trod, Value.cells, htb]⟩
  · rw [List.append_nil, hfn]
    refine trodAll_stays hlaid hbel _ _ _ _ hp2 hA (fun x hx => hW'.lt x (by simpa using hx))
  · rw [List.append_nil, hfn, hvars]
    rfl

theorem law_lifted {C : Checked} {os : Os} {H : Type} {enc : TypeId × Value → H} {f : FuncId} {fn : Func} {s : ChangeSpec} {tb : TypeId}
    (own : ownKnob C.prog.godebug = none) (started : os.Started) (noInit : C.prog.inits.idxOf? f = none) (hfn : C.prog.funcs[f]? = some fn)
    (witness : ∃ (w : World) (tape : Tape) (i : Input), w.os = os ∧ (w.forCall tape i).Shaped C.prog ∧ i.vars = [] ∧ Input.okWide C.prog (w.forCall tape i) .any w.heap.size f i ∧
      s.pre6 enc C.prog fn [] false (w.forCall tape i).memory i.args ∧ ({} : Assume).holds C.prog (lone (Frame.enter C.prog f i.args .normal) [] (w.forCall tape i)))
    (hlaid : laidOutB C.prog = true)
    (hp1 : fn.params.toList.all (fun t => (ta C.prog t).isSome) = true) (hp2 : fn.params.toList.all (fun t => C.prog.readableRec t && decide (t < C.prog.types.size)) = true)
    (hrt : fn.resultTypes = #[tb]) (htb : C.prog.underlying tb = some .bool) (hvars : s.vars = [])
    (hspec : ∀ ds : List (DataW H), ds.length = fn.params.toList.length → s.fn H ds = { results := [.lit (.bool true)], args := ds })
    (law : LawOk C.prog f fn.params.toList) :
    ReturnsInHanded {} C os f .any (s.pre6 enc C.prog fn [] false) (s.post enc C.prog fn false true false false) := by
  refine returnsInHanded_of_change_sized own started noInit hfn witness ?_
  intro W base args ds gs before hval hW _ hsz _
  exact law_calls hlaid hp1 hp2 hrt htb hvars hspec law hval hW hsz
end Go.V
