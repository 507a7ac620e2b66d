/- V7: from what a row hands over (data that can be read) to heaps; from a contract to a row's step. -/
import Derived.Test.YtiakfdpmapmifaaV6
import Derived.WalkKit
import Derived.ProofKit
import Derived.OpenShut
import Derived.SizedLaws
import Derived.JoinedCond
import Derived.Deep.CondSized
namespace Go.V
open Go.ChangeShapes Go.WideShapes Go.ChangeAt Go.RowKit

/-- These cells hold a value of the type, in this heap: to its bottom. -/
def fit (P : Program) (h : Hp) : Nat → TypeId → List Value → Prop
  | 0, _, _ => False
  | k + 1, t, cs =>
    match P.underlying t with
    | some .bool => ∃ b, cs = [.bool b]
    | some (.int i) => ∃ n, cs = [.int i n] ∧ (Lit.int i n).wf = true
    | some .string => ∃ s, cs = [.string s] ∧ s.size ≤ reachBytes
    | some (.slice e) => ∃ p len cap, cs = [.slice p len cap] ∧ len ≤ cap ∧ cap * P.bytesOf e ≤ reachBytes ∧
        (len ≠ 0 → P.cellsOf e ≠ 0 → ∃ b o, p = some ⟨b, o, none⟩ ∧ b < h.size ∧ ∀ i, i < len → ∃ ds, ds.length = P.cellsOf e ∧ cellsAt h b (o + i * P.cellsOf e) ds ∧ fit P h k e ds)
    | some (.struct fs) => cs.length = P.cellsOf t ∧ ∀ f ∈ fs.toList, fit P h k f.type ((cs.drop f.offset).take (P.cellsOf f.type))
    | some (.array n e) => cs.length = P.cellsOf t ∧ ∀ i, i < n → fit P h k e ((cs.drop (i * P.cellsOf e)).take (P.cellsOf e))
    | _ => True

def fitV (P : Program) (h : Hp) (k : Nat) (t : TypeId) (v : Value) : Prop :=
  match ta P t with
  | some true => ∃ cs : List Value, v = .agg cs.toArray ∧ fit P h k t cs
  | _ => fit P h k t [v]
def fitAll (P : Program) (h : Hp) : List TypeId → List Value → Prop
  | [], [] => True
  | t :: ts, v :: vs => (∃ k, fitV P h k t v) ∧ fitAll P h ts vs
  | _, _ => False

theorem mapM_get {α β : Type} {f : α → Option β} : ∀ {l : List α} {r : List β}, l.mapM f = some r → r.length = l.length ∧ ∀ (i : Nat) (x : α) (y : β), l[i]? = some x → r[i]? = some y → f x = some y
  | [], r, h => by
    simp only [List.mapM_nil, pure, Option.some.injEq] at h
    subst h
    exact ⟨rfl, fun i x y hx _ => by simp at hx⟩
  | a :: l, r, h => by
    rw [List.mapM_cons] at h
    cases ha : f a with
    | none => rw [ha] at h; cases h
    | some b =>
      rw [ha] at h
      cases hl : l.mapM f with
      | none => simp [hl] at h
      | some bs =>
        simp [hl] at h
        subst h
        obtain ⟨h1, h2⟩ := mapM_get hl
        refine ⟨by simp [h1], fun i x y hx hy => ?_⟩
        cases i with
        | zero => simp at hx hy; subst hx; subst hy; exact ha
        | succ i => simp at hx hy; exact h2 i x y hx hy

theorem cells_some {w : World} {base : Nat} {a : Addr} {n : Nat} {ds : List Value} (h : w.cells? base a n = some ds) : ds.length = n ∧ ∀ i (hi : i < ds.length), w.cell? (a.add i) = some ds[i] := by
  unfold World.cells? at h
  split at h
  · obtain ⟨h1, h2⟩ := mapM_get h
    rw [List.length_range] at h1
    refine ⟨h1, fun i hi => h2 i i ds[i] ?_ ?_⟩
    · rw [List.getElem?_range (by omega)]
    · exact List.getElem?_eq_getElem hi
  · cases h

theorem spot_none {w : World} {a : Addr} {i : Nat} {v : Value} (h : w.cell? (a.add i) = some v) (hi : i = 0) : a.spot = none := by
  subst hi
  have e : a.add 0 = a := by simp [Addr.add]
  rw [e] at h
  unfold World.cell? at h
  split at h
  · split at h
    · cases h
    · rename_i hs; simpa using hs
  · cases h

theorem weightsEach_get {H : Type} {P : Program} {q : Nat → Bool} : ∀ (ts : List TypeId) (ds : List (DataW H)), (DataW.weightsEach P ts ds).all q = true → ∀ (i : Nat) (t : TypeId) (d : DataW H), ts[i]? = some t → ds[i]? = some d → (d.weights P t).all q = true
  | [], _, _, i, t, d, ht, _ => by simp at ht
  | t :: ts, [], _, i, t', d, _, hd => by simp at hd
  | t :: ts, d :: ds, h, i, t', d', ht, hd => by
    simp only [DataW.weightsEach, List.all_append, Bool.and_eq_true] at h
    cases i with
    | zero => simp at ht hd; subst ht; subst hd; exact h.1
    | succ i => simp at ht hd; exact weightsEach_get ts ds h.2 i t' d' ht hd
theorem weightsAll_get {H : Type} {P : Program} {e : TypeId} {q : Nat → Bool} : ∀ (ds : List (DataW H)), (DataW.weightsAll P e ds).all q = true → ∀ (i : Nat) (d : DataW H), ds[i]? = some d → (d.weights P e).all q = true
  | [], _, i, d, hd => by simp at hd
  | d :: ds, h, i, d', hd => by
    simp only [DataW.weightsAll, List.all_append, Bool.and_eq_true] at h
    cases i with
    | zero => simp at hd; subst hd; exact h.1
    | succ i => simp at hd; exact weightsAll_get ds h.2 i d' hd

theorem fit_of_trod {H : Type} {enc : TypeId × Value → H} {P : Program} {w : World} : ∀ (k : Nat) (t : TypeId) (cs : List Value) (d : DataW H) (ps : List MemPlace),
    DataW.trod enc P w 0 (fun _ => true) true k t cs = some (d, ps) → (d.weights P t).all (· ≤ reachBytes) = true → fit P w.heap k t cs
  | 0, t, cs, d, ps, h, _ => by simp [DataW.trod] at h
  | k + 1, t, cs, d, ps, h, hw => by
    unfold DataW.trod at h
    unfold fit
    split at h
    · rename_i hu; rw [hu]; exact ⟨_, rfl⟩
    · rename_i i i' n hu
      rw [hu]
      split at h
      · rename_i hc; obtain ⟨rfl, hc⟩ := hc; exact ⟨_, rfl, hc⟩
      · cases h
    · rename_i hu; rw [hu]; trivial
    · rename_i s hu
      rw [hu]
      split at h
      · simp only [Option.some.injEq, Prod.mk.injEq] at h
        obtain ⟨rfl, _⟩ := h
        refine ⟨_, rfl, ?_⟩
        simpa [DataW.weights] using hw
      · cases h
    · rename_i hu; rw [hu]; trivial
    · rename_i hu; rw [hu]; trivial
    · rename_i e hu
      rw [hu]
      exact ⟨_, _, _, rfl, Nat.le_refl _, by simp, fun h => (h rfl).elim⟩
    · rename_i e a len cap hu
      rw [hu]
      split at h
      · rename_i hcond
        simp only [if_true] at h
        cases he : ((List.range len).mapM fun i => (w.cells? 0 (a.add (i * P.cellsOf e)) (P.cellsOf e)).bind (DataW.trod enc P w 0 (fun _ => true) true k e)) with
        | none => rw [he] at h; cases h
        | some elems =>
          rw [he] at h
          simp only [Option.bind_some] at h
          cases hr : ((List.range (cap - len)).mapM fun j => (w.cells? 0 (a.add ((len + j) * P.cellsOf e)) (P.cellsOf e)).bind (DataW.trod enc P w 0 (fun _ => true) true k e)) with
          | none => rw [hr] at h; cases h
          | some rest =>
            rw [hr] at h
            simp only [Option.map_some, Option.some.injEq, Prod.mk.injEq] at h
            obtain ⟨rfl, _⟩ := h
            obtain ⟨l1, g1⟩ := mapM_get he
            obtain ⟨l2, _⟩ := mapM_get hr
            rw [List.length_range] at l1 l2
            simp only [DataW.weights, hu, List.all_cons, List.all_append, Bool.and_eq_true, List.length_map, decide_eq_true_eq] at hw
            refine ⟨_, _, _, rfl, hcond.2.1, ?_, fun hlen hce => ?_⟩
            · have : elems.length + rest.length = cap := by omega
              rw [← this]; exact hw.1
            · have getE : ∀ i, i < len → ∃ ds x, w.cells? 0 (a.add (i * P.cellsOf e)) (P.cellsOf e) = some ds ∧ elems[i]? = some x ∧ DataW.trod enc P w 0 (fun _ => true) true k e ds = some x := by
                intro i hi
                have hx : elems[i]? = some elems[i] := List.getElem?_eq_getElem (by omega)
                have := g1 i i elems[i] (by rw [List.getElem?_range hi]) hx
                cases hc : w.cells? 0 (a.add (i * P.cellsOf e)) (P.cellsOf e) with
                | none => rw [hc] at this; cases this
                | some ds => rw [hc] at this; exact ⟨ds, _, rfl, hx, this⟩
              obtain ⟨ds0, x0, hc0, _, _⟩ := getE 0 (by omega)
              obtain ⟨q1, q2⟩ := cells_some hc0
              have e0 : a.add (0 * P.cellsOf e) = a := by simp [Addr.add]
              rw [e0] at q2
              have hsp : a.spot = none := spot_none (q2 0 (by omega)) rfl
              have hcell0 : w.cell? a = some ds0[0] := by have := q2 0 (by omega); simpa [Addr.add] using this
              have hlt : a.block < w.heap.size := lt_of_hc (h := w.heap) (p := a) (v := ds0[0]) hcell0
              refine ⟨a.block, a.off, ?_, hlt, fun i hi => ?_⟩
              · obtain ⟨b, o, s⟩ := a; simp only at hsp; subst hsp; rfl
              · obtain ⟨ds, x, hc, hx, ht⟩ := getE i hi
                obtain ⟨r1, r2⟩ := cells_some hc
                refine ⟨ds, r1, fun j hj => ?_, ?_⟩
                · have := r2 j hj
                  rw [addr_add' a _ hsp, addr_add] at this
                  exact this
                · refine fit_of_trod k e ds x.1 x.2 ht ?_
                  exact weightsAll_get _ hw.2.1 i x.1 (by rw [List.getElem?_map, hx]; rfl)
      · cases h
    · rename_i cs _ _ fs hu
      rw [hu]
      split at h
      · rename_i hlen
        cases hm : (fs.toList.mapM fun f => DataW.trod enc P w 0 (fun _ => true) true k f.type ((cs.drop f.offset).take (P.cellsOf f.type))) with
        | none => rw [hm] at h; cases h
        | some xs =>
          rw [hm] at h
          simp only [Option.map_some, Option.some.injEq, Prod.mk.injEq] at h
          obtain ⟨rfl, _⟩ := h
          obtain ⟨l1, g1⟩ := mapM_get hm
          refine ⟨hlen, fun f hf => ?_⟩
          obtain ⟨i, hi, hfi⟩ := List.mem_iff_getElem.1 hf
          have hx : xs[i]? = some xs[i] := List.getElem?_eq_getElem (by omega)
          have hfi' : fs.toList[i]? = some f := by rw [List.getElem?_eq_getElem hi, hfi]
          refine fit_of_trod k _ _ xs[i].1 xs[i].2 (g1 i f xs[i] hfi' hx) ?_
          simp only [DataW.weights, hu] at hw
          exact weightsEach_get _ _ hw i f.type xs[i].1 (by rw [List.getElem?_map, hfi']; rfl) (by rw [List.getElem?_map, hx]; rfl)
      · cases h
    · rename_i cs _ _ n e hu
      rw [hu]
      split at h
      · rename_i hlen
        cases hm : ((List.range n).mapM fun i => DataW.trod enc P w 0 (fun _ => true) true k e ((cs.drop (i * P.cellsOf e)).take (P.cellsOf e))) with
        | none => rw [hm] at h; cases h
        | some xs =>
          rw [hm] at h
          simp only [Option.map_some, Option.some.injEq, Prod.mk.injEq] at h
          obtain ⟨rfl, _⟩ := h
          obtain ⟨l1, g1⟩ := mapM_get hm
          rw [List.length_range] at l1
          refine ⟨hlen, fun i hi => ?_⟩
          have hx : xs[i]? = some xs[i] := List.getElem?_eq_getElem (by omega)
          refine fit_of_trod k _ _ xs[i].1 xs[i].2 (g1 i i xs[i] (by rw [List.getElem?_range hi]) hx) ?_
          simp only [DataW.weights, hu] at hw
          exact weightsAll_get _ hw i xs[i].1 (by rw [List.getElem?_map, hx]; rfl)
      · cases h
    all_goals first | (cases h; done) | (rename_i hu; rw [hu]; trivial)
end Go.V
