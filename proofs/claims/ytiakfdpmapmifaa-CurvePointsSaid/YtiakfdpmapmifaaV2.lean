/- V2: what each operation asks and leaves, over V1's calculus, in forms that simp can run. -/
import Derived.Test.YtiakfdpmapmifaaV1
import Derived.IntWalk
namespace Go.V
set_option linter.unusedSimpArgs false
set_option linter.unusedVariables false

/-! ### What a program's tables say -/
def tz (P : Program) (t : TypeId) : Option (List Value) := ((P.info? t).bind (·.zero)).map fun v => v.cells.toList
def tn (P : Program) (t : TypeId) : Option Nat := (P.info? t).map (·.size)
def tb (P : Program) (t : TypeId) : Option Nat := (P.info? t).map (·.bytes)
def ta (P : Program) (t : TypeId) : Option Bool := (P.underlying t).map fun | .struct _ => true | .array _ _ => true | _ => false
/-- Of a field: where it begins; none: it has no cells. -/
def tf (P : Program) (t : TypeId) (i : Nat) : Option Nat :=
  match P.underlying t with
  | some (.struct fs) => (fs[i]?).bind fun f => match tn P f.type with
    | some (_ + 1) => some f.offset
    | _ => none
  | _ => none
/-- Of an array's type: its length and its elements' type. -/
def tarr (P : Program) (t : TypeId) : Option (Nat × TypeId) := match P.underlying t with | some (.array n e) => some (n, e) | _ => none
/-- Of a slice's type: its elements'. -/
def tsl (P : Program) (t : TypeId) : Option TypeId := match P.underlying t with | some (.slice e) => some e | _ => none
/-- Of a struct's type: where each field begins, and how many cells it has. -/
def tpl (P : Program) (t : TypeId) : Option (List (Nat × Nat)) := match P.underlying t with | some (.struct fs) => fs.toList.mapM (fun f => (tn P f.type).map fun n => (f.offset, n)) | _ => none
/-- Of a field: where it begins, and its type. -/
def tfl (P : Program) (t : TypeId) (i : Nat) : Option (Nat × TypeId) := match P.underlying t with | some (.struct fs) => (fs[i]?).map fun f => (f.offset, f.type) | _ => none
def tstr (P : Program) (t : TypeId) : Bool := match P.underlying t with | some .string => true | _ => false
/-- Of an integer's type: its kind. -/
def tint (P : Program) (t : TypeId) : Option IntKind := match P.underlying t with | some (.int k) => some k | _ => none
/-- May a function be entered? -/
def goes (P : Program) (f : FuncId) : Bool := match P.funcs[f]? with | some fn => !(fn.name == "runtime.NumGoroutine") && fn.body.isSome | none => false

/-! ### The forms -/
def cl : Value → List Value
  | .agg cs => cs.toList
  | v => [v]
theorem cl_cells (v : Value) : (cl v).toArray = v.cells := by cases v <;> rfl

section
variable (P : Program) (T : World)
def vPick (c a b : Value) (K : Value → Hp → Prop) (h : Hp) : Prop :=
  match c with | .bool t => K (if t then a else b) h | _ => False
def vNew (z : Option (List Value)) (t : TypeId) (K : Value → Hp → Prop) (h : Hp) : Prop :=
  match z with | some l => K (.pointer (some ⟨h.size, 0, none⟩)) (h.push (.cells l.toArray t)) | none => False
/-- Cells, so many. -/
def rd (h : Hp) (a : Addr) (n : Nat) : Option (List Value) :=
  match h[a.block]? with
  | some (.cells c _ _) => if a.spot = none ∧ a.off + n ≤ c.size then some ((c.toList.drop a.off).take n) else none
  | _ => none
def vRd1 (x : Option Value) (K : Value → Hp → Prop) (h : Hp) : Prop := match x with | some v => K v h | none => False
def vRdN (x : Option (List Value)) (K : Value → Hp → Prop) (h : Hp) : Prop := match x with | some l => K (.agg l.toArray) h | none => False
def vLoad (s : Option Bool) (n : Option Nat) (p : Value) (K : Value → Hp → Prop) (h : Hp) : Prop :=
  match p with
  | .pointer (some a) => match s, n with
    | some false, _ => vRd1 (hc h a) K h
    | some true, some n => vRdN (rd h a n) K h
    | _, _ => False
  | _ => False
/-- A list over a list's places. -/
def lput : List Value → Nat → List Value → List Value
  | l, _, [] => l
  | [], _, _ :: _ => []
  | _ :: l, 0, v :: vs => v :: lput l 0 vs
  | x :: l, n + 1, v :: vs => x :: lput l n (v :: vs)
def wr (h : Hp) (a : Addr) (vs : List Value) : Option Hp :=
  match h[a.block]? with
  | some (.cells c e (lo, hi)) => if a.spot = none ∧ a.off + vs.length ≤ c.size ∧ hi ≤ lo ∧ vs.all oneC = true then some (h.setIfInBounds a.block (.cells (lput c.toList a.off vs).toArray e (lo, hi))) else none
  | _ => none
/-- One cell. -/
def wr1 (h : Hp) (a : Addr) (v : Value) : Option Hp :=
  match h[a.block]? with
  | some (.cells c e (lo, hi)) => if a.spot = none ∧ a.off < c.size ∧ hi ≤ lo ∧ oneC v = true then some (h.setIfInBounds a.block (.cells (c.setIfInBounds a.off v) e (lo, hi))) else none
  | _ => none
def vWr (x : Option Hp) (K : Value → Hp → Prop) : Prop := match x with | some h' => K undef h' | none => False
def vStore (n : Option Nat) (p v : Value) (K : Value → Hp → Prop) (h : Hp) : Prop :=
  match p, n with
  | .pointer (some a), some n =>
    if n = (cl v).length then
      match v with
      | .agg cs => vWr (wr h a cs.toList) K
      | v => vWr (wr1 h a v) K
    else False
  | _, _ => False
def vField (f : Option Nat) (p : Value) (K : Value → Hp → Prop) (h : Hp) : Prop :=
  match f, p with
  | some o, .pointer (some a) => K (.pointer (some (a.add o))) h
  | _, _ => False
def vBin (op : BinOp) (t : TypeId) (x y : Operand) (a b : Value) (K : Value → Hp → Prop) (h : Hp) : Prop :=
  hw P (do eqGuard op t x y a b; binOp op t a b) K h
def vUn (op : UnOp) (a : Value) (K : Value → Hp → Prop) (h : Hp) : Prop := hw P (Op.unary op a) K h
def vConv (src dst : TypeId) (a : Value) (K : Value → Hp → Prop) (h : Hp) : Prop := hw P (convert src dst a) K h
def vIx (arr : Option (Nat × TypeId)) (sl : Option TypeId) (n : TypeId → Option Nat) (p i : Value) (K : Value → Hp → Prop) (h : Hp) : Prop :=
  match i with
  | .int _ i => (match arr, sl, p with
    | some (len, e), none, .pointer (some a) => (match n e with
      | some n => if 0 ≤ i ∧ i < (len : Int) then K (.pointer (some (a.add (i.toNat * n)))) h else False
      | none => False)
    | none, some e, .slice (some a) len _ => (match n e with
      | some n => if 0 ≤ i ∧ i < (len : Int) then K (.pointer (some (a.add (i.toNat * n)))) h else False
      | none => False)
    | _, _, _ => False)
  | _ => False
def vExtract (v : Value) (i : Nat) (K : Value → Hp → Prop) (h : Hp) : Prop :=
  match v with | .tuple vs => vRd1 (vs[i]?) K h | _ => False
def vNil (v : Value) (K : Value → Hp → Prop) (h : Hp) : Prop :=
  match v with | .pointer (some a) => K (.pointer (some a)) h | .func (.func f) x y => K (.func (.func f) x y) h | _ => False
def vCall (f : Value) (args : List Value) (K : Value → Hp → Prop) (h : Hp) : Prop :=
  match f with
  | .func (.func f) first captured => if goes P f = true then CallsH P T f (first.toList ++ args ++ captured.toList).toArray h K
    else hw P (callFunc f (first.toList ++ args ++ captured.toList).toArray) (vNext P T K) h
  | _ => False
def vBi (b : Builtin) (ts : Array TypeId) (ty : TypeId) (cs : Array Bool) (args : List Value) (K : Value → Hp → Prop) (h : Hp) : Prop :=
  hw P (builtin b ts ty cs args.toArray) (vNext P T K) h
def vSem (s : Sem Value) (K : Value → Hp → Prop) (h : Hp) : Prop := hw P s K h

def evL (F : Env) : List Operand → List Value
  | [] => []
  | x :: l => ev F x :: evL F l
theorem evL_map (F : Env) (l : List Operand) : evL F l = l.map (ev F) := by induction l with | nil => rfl | cons x l ih => simp [evL, ih]

def isConst : Operand → Bool
  | .const _ => true
  | _ => false

/-! composite values -/
def nth {α : Type} : List α → Nat → Option α
  | [], _ => none
  | x :: _, 0 => some x
  | _ :: l, n + 1 => nth l n
def arrPl (n : Nat) (i : Nat) : Option (Nat × Nat) := some (i * n, n)
def fillL (place : Nat → Option (Nat × Nat)) : List Value → List (Nat × Value) → Option (List Value)
  | cs, [] => some cs
  | cs, (i, v) :: l => match place i with
    | some (o, s) => if (cl v).length = s ∧ o + s ≤ cs.length then fillL place (lput cs o (cl v)) l else none
    | none => none
def evP (F : Env) : List (Nat × Operand) → List (Nat × Value)
  | [] => []
  | (i, x) :: l => (i, ev F x) :: evP F l
def vBuildA (n : Option Nat) (z : List Value) (parts : List (Nat × Value)) (K : Value → Hp → Prop) (h : Hp) : Prop :=
  match n with | some n => vRdN (fillL (arrPl n) z parts) K h | none => False
def vBuild (z : Option (List Value)) (pl : Option (List (Nat × Nat))) (arr : Option (Nat × TypeId)) (n : TypeId → Option Nat) (parts : List (Nat × Value)) (K : Value → Hp → Prop) (h : Hp) : Prop :=
  match z, pl, arr with
  | some z, some pl, none => vRdN (fillL (nth pl) z parts) K h
  | some z, none, some (_, e) => vBuildA (n e) z parts K h
  | _, _, _ => False
/-- A slice's cells, at first. -/
def zrep : Nat → List Value → List Value
  | 0, _ => []
  | n + 1, z => z ++ zrep n z
/-- All the parts, in their order, one cell each. -/
def seqV : Nat → List (Nat × Value) → Option (List Value)
  | _, [] => some []
  | k, (i, v) :: l => if i = k ∧ oneC v = true then (seqV (k + 1) l).map (v :: ·) else none
def vMade (e : TypeId) (len : Nat) (x : Option (List Value)) (K : Value → Hp → Prop) (h : Hp) : Prop :=
  match x with | some l => K (.slice (some ⟨h.size, 0, none⟩) len len) (h.push (.cells l.toArray e)) | none => False
def slCells (n len : Nat) (z : List Value) (parts : List (Nat × Value)) : Option (List Value) :=
  if n = 1 ∧ parts.length = len then seqV 0 parts else fillL (arrPl n) (zrep len z) parts
def vBuildSlA (e : TypeId) (n : Option Nat) (z : Option (List Value)) (len : Nat) (parts : List (Nat × Value)) (K : Value → Hp → Prop) (h : Hp) : Prop :=
  match n, z with
  | some n, some z => if z.length = n ∧ len * n ≤ 16777216 then vMade e len (slCells n len z parts) K h else False
  | _, _ => False
def vBuildSl (e : Option TypeId) (n : TypeId → Option Nat) (z : TypeId → Option (List Value)) (len : Nat) (parts : List (Nat × Value)) (K : Value → Hp → Prop) (h : Hp) : Prop :=
  match e with
  | some e => vBuildSlA e (n e) (z e) len parts K h
  | none => False
def vPart (a : Option Bool) (n : Option Nat) (cs : List Value) (o : Nat) (K : Value → Hp → Prop) (h : Hp) : Prop :=
  match a, n with
  | some true, some n => K (.agg ((cs.drop o).take n).toArray) h
  | some false, _ => vRd1 (nth cs o) K h
  | _, _ => False
def vFld (f : Option (Nat × TypeId)) (a : TypeId → Option Bool) (n : TypeId → Option Nat) (x : Value) (K : Value → Hp → Prop) (h : Hp) : Prop :=
  match f, x with
  | some (o, t), .agg cs => vPart (a t) (n t) cs.toList o K h
  | _, _ => False
def vIdxA (m : Option Nat) (a : Option Bool) (len : Nat) (cs : List Value) (i : Int) (K : Value → Hp → Prop) (h : Hp) : Prop :=
  match m with | some m => if 0 ≤ i ∧ i < (len : Int) then vPart a (some m) cs (i.toNat * m) K h else False | none => False
def vIdx (arr : Option (Nat × TypeId)) (str : Bool) (a : TypeId → Option Bool) (n : TypeId → Option Nat) (x i : Value) (K : Value → Hp → Prop) (h : Hp) : Prop :=
  match i with
  | .int _ i => (match arr, str, x with
    | some (len, e), false, .agg cs => vIdxA (n e) (a e) len cs.toList i K h
    | none, true, .string s => if 0 ≤ i ∧ i < (s.size : Int) then K (.int .u8 ((s.data.toList.getD i.toNat 0).toNat : Nat)) h else False
    | _, _, _ => False)
  | _ => False
/-- A bound of a slice: at most y; its default. -/
def sb (x : Option Value) (d y : Nat) : Option Nat :=
  match x with
  | none => some d
  | some (.int _ i) => if 0 ≤ i ∧ i ≤ (y : Int) then some i.toNat else none
  | _ => none
def evO (F : Env) : Option Operand → Option Value
  | none => none
  | some x => some (ev F x)
def vSlcB (l h' : Option Nat) (K : Nat → Nat → Prop) : Prop := match l, h' with | some l, some h' => K l h' | _, _ => False
def vSlcS (n : Option Nat) (a : Option Addr) (len cap : Nat) (lo hi : Option Value) (K : Value → Hp → Prop) (h : Hp) : Prop :=
  match n, sb hi len cap with
  | some n, some b => (match sb lo 0 b with
    | some l => K (.slice (if cap = l then a else a.map (·.add (l * n))) (b - l) (cap - l)) h
    | none => False)
  | _, _ => False
def vSlc (arr : Option (Nat × TypeId)) (sl : Option TypeId) (str : Bool) (n : TypeId → Option Nat) (x : Value) (lo hi mx : Option Value) (K : Value → Hp → Prop) (h : Hp) : Prop :=
  match mx, x, arr, sl, str with
  | some mv, .slice a len cap, none, some e, _ => (match hi, sb (some mv) 0 cap with
    | some hv, some m => vSlcS (n e) a len m lo (some hv) K h
    | _, _ => False)
  | none, .slice a len cap, none, some e, _ => vSlcS (n e) a len cap lo hi K h
  | none, .pointer (some a), some (len, e), none, _ => vSlcS (n e) (some a) len len lo hi K h
  | none, .string s, none, none, true => (match sb hi s.size s.size with
    | some b => (match sb lo 0 b with | some l => K (.string (s.extract l b)) h | none => False)
    | none => False)
  | _, _, _, _, _ => False
def vMkA (e : TypeId) (n : Option Nat) (by' : Option Nat) (z : Option (List Value)) (l c : Int) (K : Value → Hp → Prop) (h : Hp) : Prop :=
  match n, by', z with
  | some n, some bytes, some z => if z.length = n ∧ 0 ≤ l ∧ l ≤ c ∧ c ≤ 9223372036854775807 ∧ (bytes : Int) * c ≤ 281474976710656 then K (.slice (some ⟨h.size, 0, none⟩) l.toNat c.toNat) (h.push (.cells (zrep c.toNat z).toArray e)) else False
  | _, _, _ => False
def vMk (e : Option TypeId) (n by' : TypeId → Option Nat) (z : TypeId → Option (List Value)) (l c : Value) (K : Value → Hp → Prop) (h : Hp) : Prop :=
  match e, l, c with
  | some e, .int _ l, .int _ c => vMkA e (n e) (by' e) (z e) l c K h
  | _, _, _ => False

def vDo (op : Op) (ty : TypeId) (K : Value → Hp → Prop) (F : Env) (h : Hp) : Prop :=
  match op with
  | .move x | .assign x => K (ev F x) h
  | .pick c a b => vPick (ev F c) (ev F a) (ev F b) K h
  | .alloc e => vNew (tz P e) e K h
  | .box e x => vNew (some (cl (ev F x))) e K h
  | .load t a => vLoad (ta P t) (tn P t) (ev F a) K h
  | .store t a x => vStore (tn P t) (ev F a) (ev F x) K h
  | .fieldAddr t x i => vField (tf P t i) (ev F x) K h
  | .indexAddr t x i => vIx (tarr P t) (tsl P t) (tn P) (ev F x) (ev F i) K h
  | .nilCheck x => vNil (ev F x) K h
  | .binOp op t x y _ => vBin P op t x y (ev F x) (ev F y) K h
  | .unOp op _ x => vUn P op (ev F x) K h
  | .convert s d x => vConv P s d (ev F x) K h
  | .extract x i => vExtract (ev F x) i K h
  | .makeFunc fn first captured => K (.func fn (evL F first.toList).toArray (evL F captured.toList).toArray) h
  | .call ⟨.value f, args, _⟩ => vCall P T (ev F f) (evL F args.toList) K h
  | .call ⟨.builtin b, args, ts⟩ => vBi P T b ts ty (args.map fun | .const _ => true | _ => false) (evL F args.toList) K h
  | .build t parts => vBuild (tz P t) (tpl P t) (tarr P t) (tn P) (evP F parts.toList) K h
  | .buildSlice t len parts => vBuildSl (tsl P t) (tn P) (tz P) len (evP F parts.toList) K h
  | .field t x i => vFld (tfl P t i) (ta P) (tn P) (ev F x) K h
  | .index t x i => vIdx (tarr P t) (tstr P t) (ta P) (tn P) (ev F x) (ev F i) K h
  | .slice t x lo hi mx => vSlc (tarr P t) (tsl P t) (tstr P t) (tn P) (ev F x) (evO F lo) (evO F hi) (evO F mx) K h
  | .makeSlice t l c => vMk (tsl P t) (tn P) (tb P) (tz P) (ev F l) (ev F c) K h
  | op => vOp P T ⟨none, op, ty, "", #[], none⟩ K F h
end

section
variable {P : Program} {T : World} {K : Value → Hp → Prop} {F : Env} {h : Hp} {ty : TypeId}

theorem hw_program {Q : Program → Hp → Prop} : hw P program Q h = Q P h := rfl
theorem hw_pure {α : Type} {Q : α → Hp → Prop} (a : α) : hw P (pure a) Q h = Q a h := rfl
theorem run_info {t : TypeId} {d : TypeInfo} (hd : P.info? t = some d) {Q : TypeInfo → Hp → Prop} : hw P (typeInfo t) Q h = Q d h := by
  simp only [typeInfo]; rw [hw_bind]; simp only [program, hw]; rw [hd]; rfl
theorem run_under {t : TypeId} {d : TypeDesc} (hd : P.underlying t = some d) {Q : TypeDesc → Hp → Prop} : hw P (underlying t) Q h = Q d h := by
  simp only [underlying]; rw [hw_bind]; simp only [program, hw]; rw [hd]; rfl
theorem run_sizeOf {t : TypeId} {n : Nat} (hn : tn P t = some n) {Q : Nat → Hp → Prop} : hw P (sizeOf t) Q h = Q n h := by
  unfold tn at hn
  cases hi : P.info? t with
  | none => rw [hi] at hn; cases hn
  | some i =>
    rw [hi] at hn
    simp only [Option.map_some, Option.some.injEq] at hn
    subst hn
    unfold sizeOf
    rw [hw_bind, run_info hi]; rfl
theorem run_isAgg {t : TypeId} {b : Bool} (hb : ta P t = some b) {Q : Bool → Hp → Prop} : hw P (isAgg t) Q h = Q b h := by
  unfold ta at hb
  cases hi : P.underlying t with
  | none => rw [hi] at hb; cases hb
  | some d =>
    rw [hi] at hb
    simp only [Option.map_some, Option.some.injEq] at hb
    subst hb
    unfold isAgg
    rw [hw_bind, run_under hi]
    cases d <;> rfl

theorem addr_add (b o n : Nat) : Addr.add ⟨b, o, none⟩ n = ⟨b, o + n, none⟩ := by
  unfold Addr.add
  split
  · rename_i h; subst h; rfl
  · rfl
theorem addr_add' (a : Addr) (n : Nat) (ha : a.spot = none) : a.add n = ⟨a.block, a.off + n, none⟩ := by
  obtain ⟨b, o, s⟩ := a
  simp only at ha
  subst ha
  exact addr_add b o n

/-! loads -/
theorem run_loadCells (a : Addr) (c : List Value) {Q : Array Value → Hp → Prop} : ∀ (n i : Nat) (acc : Array Value),
    (∀ j, j < n → hc h (a.add (i + j)) = some (c.getD j undef)) → n = c.length → Q (acc ++ c.toArray) h → hw P (loadCellsFrom a i n acc) Q h := by
  induction c with
  | nil => intro n i acc _ hn H; subst hn; simpa [loadCellsFrom, pure, hw] using H
  | cons v c ih =>
    intro n i acc hj hn H
    subst hn
    show hw P (load (a.add i) >>= fun v => loadCellsFrom a (i + 1) c.length (acc.push v)) Q h
    rw [hw_bind]
    refine ⟨v, by simpa using hj 0 (by simp), ?_⟩
    refine ih _ (i + 1) _ (fun j hjl => ?_) rfl ?_
    · have := hj (j + 1) (by simp; omega)
      have e : i + (j + 1) = i + 1 + j := by omega
      rw [e] at this
      simpa using this
    · simpa using H

theorem sound_load {t : TypeId} {v : Value} (H : vLoad (ta P t) (tn P t) v K h) : hw P (Instr.loadAt t v) K h := by
  unfold vLoad at H
  split at H
  · rename_i a
    unfold Instr.loadAt
    rw [hw_bind]
    show hw P (loadVar t a) K h
    unfold loadVar
    rw [hw_bind]
    split at H
    · rename_i hs
      rw [run_isAgg hs]
      unfold vRd1 at H
      split at H
      · rename_i v hv; exact ⟨v, hv, H⟩
      · exact H.elim
    · rename_i n hs hn
      rw [run_isAgg hs]
      simp only [if_true]
      rw [hw_bind, run_sizeOf hn, hw_bind]
      unfold vRdN at H
      split at H
      · rename_i l hl
        unfold rd at hl
        split at hl
        · rename_i c e fr hb
          split at hl
          · rename_i hcond
            obtain ⟨h1, h2⟩ := hcond
            simp only [Option.some.injEq] at hl
            subst hl
            have hlen : ((c.toList.drop a.off).take n).length = n := by simp; omega
            refine run_loadCells a _ n 0 #[] (fun j hj => ?_) hlen.symm (by simpa [hw_pure] using H)
            rw [addr_add' a _ h1]
            unfold hc
            rw [hb]
            simp only [Option.isSome_none, Bool.false_eq_true, if_false]
            rw [List.getD_eq_getElem?_getD, List.getElem?_take, if_pos hj, List.getElem?_drop]
            have e : a.off + (0 + j) = a.off + j := by omega
            rw [e]
            simp
            rw [Array.getElem?_eq_getElem (by omega)]; rfl
          · cases hl
        · cases hl
      · exact H.elim
    · exact H.elim
  · exact H.elim

/-! stores -/
theorem run_store {a : Addr} {v : Value} {Q : Unit → Hp → Prop} : hw P (store a v) Q h = (oneC v = true ∧ (∃ u, hc h a = some u) ∧ hfr h a = false ∧ Q () (hset h a v)) := rfl

theorem hset_eq {a : Addr} {c : Array Value} {e : TypeId} {fr : Nat × Nat} (hb : h[a.block]? = some (.cells c e fr)) (hs : a.spot = none) (v : Value) :
    hset h a v = h.setIfInBounds a.block (.cells (c.setIfInBounds a.off v) e fr) := by
  obtain ⟨hlt, hget⟩ := Array.getElem?_eq_some_iff.1 hb
  unfold hset
  apply Array.ext_getElem?
  intro i
  rw [Array.getElem?_modify, Array.getElem?_setIfInBounds]
  by_cases hi : a.block = i
  · subst hi
    simp [hget, hs, hlt]
  · simp [hi]

theorem lput_set (l : List Value) (n : Nat) (v : Value) (vs : List Value) : lput l n (v :: vs) = lput (l.set n v) (n + 1) vs := by
  induction l generalizing n with
  | nil => cases vs <;> simp [lput]
  | cons x l ih =>
    cases n with
    | zero =>
      simp only [lput, List.set_cons_zero]
      cases vs with
      | nil => simp [lput]
      | cons u us => simp [lput]
    | succ n =>
      simp only [lput, List.set_cons_succ]
      rw [ih]
      cases vs with
      | nil => simp [lput]
      | cons u us => simp [lput]

theorem run_storeCells {a : Addr} {e : TypeId} {lo hi : Nat} {Q : Unit → Hp → Prop} (hs : a.spot = none) (hfr0 : hi ≤ lo) : ∀ (vs : List Value) (i : Nat) (h : Hp) (c : Array Value),
    h[a.block]? = some (.cells c e (lo, hi)) → a.off + i + vs.length ≤ c.size → vs.all oneC = true →
    Q () (h.setIfInBounds a.block (.cells (lput c.toList (a.off + i) vs).toArray e (lo, hi))) → hw P (storeCells a vs i) Q h
  | [], i, h, c, hb, _, _, H => by
    have e : h.setIfInBounds a.block (.cells (lput c.toList (a.off + i) []).toArray e (lo, hi)) = h := by
      have hlt := (Array.getElem?_eq_some_iff.1 hb).1
      apply Array.ext_getElem?
      intro j
      rw [Array.getElem?_setIfInBounds]
      by_cases hj : a.block = j
      · subst hj; rw [if_pos rfl, if_pos hlt, hb]; simp [lput]
      · simp [hj]
    rw [e] at H
    exact H
  | v :: vs, i, h, c, hb, hlen, hone, H => by
    simp only [List.all_cons, Bool.and_eq_true] at hone
    simp only [List.length_cons] at hlen
    show hw P (store (a.add i) v >>= fun _ => storeCells a vs (i + 1)) Q h
    rw [hw_bind, run_store, addr_add' a i hs]
    have hlt : a.block < h.size := (Array.getElem?_eq_some_iff.1 hb).1
    refine ⟨hone.1, ?_, ?_, ?_⟩
    · unfold hc; simp only [hb]
      refine ⟨c[a.off + i]'(by omega), ?_⟩
      simp only [Option.isSome_none, Bool.false_eq_true, if_false]
      rw [Array.getElem?_eq_getElem (by omega)]
    · unfold hfr; simp only [hb]; simp; omega
    · have hb' : h[({ block := a.block, off := a.off + i, spot := none } : Addr).block]? = some (.cells c e (lo, hi)) := hb
      rw [hset_eq hb' rfl]
      have hb2 : (h.setIfInBounds a.block (.cells (c.setIfInBounds (a.off + i) v) e (lo, hi)))[a.block]? = some (.cells (c.setIfInBounds (a.off + i) v) e (lo, hi)) := by
        simp [hlt]
      refine run_storeCells hs hfr0 vs (i + 1) _ _ hb2 (by simp; omega) hone.2 ?_
      have e2 : (h.setIfInBounds a.block (.cells (c.setIfInBounds (a.off + i) v) e (lo, hi))).setIfInBounds a.block
          (.cells (lput (c.setIfInBounds (a.off + i) v).toList (a.off + (i + 1)) vs).toArray e (lo, hi)) =
          h.setIfInBounds a.block (.cells (lput c.toList (a.off + i) (v :: vs)).toArray e (lo, hi)) := by
        rw [lput_set, Array.toList_setIfInBounds]
        rw [Array.setIfInBounds_setIfInBounds, Nat.add_assoc]
      rw [e2]; exact H

theorem sound_store {t : TypeId} {p v : Value} (H : vStore (tn P t) p v K h) : hw P (Instr.storeAt t p v) (fun _ h => K undef h) h := by
  unfold vStore at H
  split at H
  · rename_i a n hn
    unfold Instr.storeAt
    rw [hw_bind]
    show hw P (storeVar t a v) _ h
    unfold storeVar
    split at H
    · rename_i hlen
      have hsz : v.cells.size = n := by rw [← cl_cells, hlen]; simp
      rw [hw_bind, run_sizeOf hn]
      simp only [hsz, ne_eq, not_true_eq_false, if_false]
      show hw P (storeCells a v.cells.toList) _ h
      split at H
      · rename_i cs
        unfold vWr at H
        split at H
        · rename_i h' hh
          unfold wr at hh
          split at hh
          · rename_i c e lo hi hb
            split at hh
            · rename_i hcnd
              obtain ⟨h1, h2, h3, h4⟩ := hcnd
              simp only [Option.some.injEq] at hh
              subst hh
              exact run_storeCells h1 h3 cs.toList 0 h c hb h2 h4 H
            · cases hh
          · cases hh
        · exact H.elim
      · rename_i hna
        have hcells : v.cells.toList = [v] := by cases v <;> first | rfl | exact (hna _ rfl).elim
        rw [hcells]
        unfold vWr at H
        split at H
        · rename_i h' hh
          unfold wr1 at hh
          split at hh
          · rename_i c e lo hi hb
            split at hh
            · rename_i hcnd
              obtain ⟨h1, h2, h3, h4⟩ := hcnd
              simp only [Option.some.injEq] at hh
              subst hh
              refine run_storeCells h1 h3 [v] 0 h c hb (by simp; omega) (by simpa using h4) ?_
              have e1 : (lput c.toList (a.off + 0) [v]).toArray = c.setIfInBounds a.off v := by
                rw [lput_set, Nat.add_zero]
                apply Array.toList_inj.1
                rw [Array.toList_setIfInBounds]
                cases h9 : (c.toList.set a.off v) <;> simp [lput]
              rw [e1]; exact H
            · cases hh
          · cases hh
        · exact H.elim
    · exact H.elim
  · exact H.elim

theorem sound_field {t : TypeId} {p : Value} {i : Nat} (H : vField (tf P t i) p K h) : hw P (Instr.fieldAt t p i) K h := by
  unfold vField at H
  split at H
  · rename_i o a hf
    unfold tf at hf
    split at hf
    · rename_i fs hu
      unfold Instr.fieldAt
      rw [hw_bind, run_under hu]
      cases hfi : fs[i]? with
      | none => rw [hfi] at hf; cases hf
      | some f =>
        rw [hfi] at hf
        simp only [Option.bind_some] at hf
        split at hf
        · rename_i m hm
          simp only [Option.some.injEq] at hf
          subst hf
          simp only [hfi]
          simp only [Instr.sureAddr, fieldPlace, hw_bind, hw_pure, run_sizeOf hm, if_neg (Nat.succ_ne_zero m)]
          exact H
        · cases hf
    · cases hf
  · exact H.elim

theorem sound_ix {t : TypeId} {p i : Value} (H : vIx (tarr P t) (tsl P t) (tn P) p i K h) : hw P (Instr.indexAt t p i) K h := by
  unfold vIx at H
  split at H
  · rename_i k i
    split at H
    · rename_i len e a ha hs
      split at H
      · rename_i n hn
        unfold tarr at ha
        split at ha
        · rename_i m e' hu
          simp only [Option.some.injEq, Prod.mk.injEq] at ha
          obtain ⟨rfl, rfl⟩ := ha
          split at H
          · rename_i hb
            simp only [Instr.indexAt, asIntOf, Instr.sureAddr, hw_bind, hw_pure, run_under hu, if_pos hb, run_sizeOf hn]
            exact H
          · exact H.elim
        · cases ha
      · exact H.elim
    · rename_i e a len cap ha hs
      split at H
      · rename_i n hn
        unfold tsl at hs
        split at hs
        · rename_i e' hu
          simp only [Option.some.injEq] at hs
          subst hs
          split at H
          · rename_i hb
            simp only [Instr.indexAt, asIntOf, Instr.sureAddr, hw_bind, hw_pure, run_under hu, if_pos hb, run_sizeOf hn]
            exact H
          · exact H.elim
        · cases hs
      · exact H.elim
    · exact H.elim
  · exact H.elim

theorem sound_extract {v : Value} {i : Nat} (H : vExtract v i K h) : hw P (Instr.extract v i) K h := by
  unfold vExtract at H
  split at H
  · rename_i vs
    unfold vRd1 at H
    split at H
    · rename_i v hv; simp only [Instr.extract, hv]; exact H
    · exact H.elim
  · exact H.elim

theorem sound_call {x : Operand} {f : Value} {c : Call} {args : List Value} (hc : c.callee = .value x) (hf : ev F x = f) (ha : (c.args.map (ev F)).toList = args) (H : vCall P T f args K h) :
    hw P (do let d ← resolve (ev F) c ty; invoke d.target d.args) (vNext P T K) h := by
  unfold vCall at H
  split at H
  · rename_i f first captured
    have e : first ++ c.args.map (ev F) ++ captured = (first.toList ++ args ++ captured.toList).toArray := by rw [← ha]; simp
    by_cases hg : goes P f = true
    case neg =>
      rw [if_neg hg] at H
      simp only [resolve, hc, hf, Deferred.ofValue, hw_bind, hw_pure, invoke]
      rw [e]
      exact H
    rw [if_pos hg] at H
    unfold goes at hg
    split at hg
    · rename_i fn hfn
      simp only [Bool.and_eq_true, Bool.not_eq_true'] at hg
      have hbody : fn.body.isNone = false := by
        cases hb : fn.body with
        | none => rw [hb] at hg; simp at hg
        | some _ => rfl
      simp only [resolve, hc, hf, Deferred.ofValue, hw_bind, hw_pure, invoke, callFunc, hw_program, hfn, hg.1, Bool.false_eq_true, if_false, hbody]
      rw [e]
      exact H
    · cases hg
  · exact H.elim

/-! composite values: soundness -/
theorem tz_spec {t : TypeId} {z : List Value} (hz : tz P t = some z) : ∃ v, v.cells = z.toArray ∧ ∀ {Q : Value → Hp → Prop} {h : Hp}, hw P (zeroValue t) Q h = Q v h := by
  unfold tz at hz
  cases hi : P.info? t with
  | none => rw [hi] at hz; cases hz
  | some i =>
    rw [hi] at hz
    cases hzz : i.zero with
    | none => rw [Option.bind_some, hzz] at hz; cases hz
    | some v =>
      rw [Option.bind_some, hzz] at hz
      simp only [Option.map_some, Option.some.injEq] at hz
      refine ⟨v, by rw [← hz, Array.toArray_toList], fun {Q h} => ?_⟩
      unfold zeroValue
      rw [hw_bind, run_info hi]
      simp only [hzz]
      rfl
theorem foldl_set (off : Nat) : ∀ (vs : List Value) (k : Nat) (cells : Array Value),
    ((vs.zipIdx k).foldl (fun (cs : Array Value) (x : Value × Nat) => cs.setIfInBounds (off + x.2) x.1) cells).toList = lput cells.toList (off + k) vs
  | [], k, cells => by cases h : cells.toList <;> simp [lput, h]
  | v :: vs, k, cells => by
    rw [List.zipIdx_cons, List.foldl_cons, foldl_set off vs (k + 1), lput_set, Array.toList_setIfInBounds, Nat.add_assoc]
theorem fill_of {place : Nat → Option (Nat × Nat)} : ∀ (parts : List (Nat × Value)) (cs : List Value) (cs' : List Value), fillL place cs parts = some cs' → Instr.fill place cs.toArray parts = some cs'.toArray
  | [], cs, cs', h => by simp only [fillL, Option.some.injEq] at h; subst h; rfl
  | (i, v) :: l, cs, cs', h => by
    unfold fillL at h
    unfold Instr.fill
    cases hp : place i with
    | none => rw [hp] at h; cases h
    | some os =>
      obtain ⟨o, s⟩ := os
      rw [hp] at h
      simp only at h ⊢
      split at h
      · rename_i hc
        have hsz : v.cells.size = s := by rw [← cl_cells]; simpa using hc.1
        have hcond : ¬ ((decide (v.cells.size ≠ s) || decide (o + v.cells.size > cs.toArray.size)) = true) := by
          rw [hsz]; simp; omega
        rw [if_neg hcond]
        have e : (v.cells.zipIdx.foldl (fun (cs : Array Value) (x : Value × Nat) => cs.setIfInBounds (o + x.2) x.1) cs.toArray) = (lput cs o (cl v)).toArray := by
          apply Array.toList_inj.1
          have := foldl_set o (cl v) 0 cs.toArray
          rw [← cl_cells, Array.zipIdx, ← Array.foldl_toList]
          have e3 : (cl v).mapIdx (fun i a => (a, i)) = (cl v).zipIdx 0 := by
            apply List.ext_getElem?
            intro i
            simp [List.getElem?_zipIdx]
          simpa [Array.zipIdx, e3] using this
        have key := fill_of l _ _ h
        rw [← e] at key
        exact key
      · cases h
theorem nth_eq {α : Type} (l : List α) (n : Nat) : nth l n = l[n]? := by
  induction l generalizing n with
  | nil => simp [nth]
  | cons x l ih => cases n <;> simp [nth, ih]
theorem evP_map (F : Env) (l : List (Nat × Operand)) : evP F l = l.map fun x => (x.1, ev F x.2) := by
  induction l with
  | nil => rfl
  | cons x l ih => obtain ⟨i, x⟩ := x; simp [evP, ih]
theorem run_places : ∀ (l : List Field) (Q : List (Nat × Nat) → Hp → Prop) (pl : List (Nat × Nat)), l.mapM (fun f : Field => (tn P f.type).map fun n => (f.offset, n)) = some pl →
    Q pl h → hw P (l.mapM fun f : Field => do pure (f.offset, ← sizeOf f.type)) Q h
  | [], Q, pl, hp, H => by
    simp only [List.mapM_nil, pure, Option.some.injEq] at hp
    subst hp
    exact H
  | f :: l, Q, pl, hp, H => by
    rw [List.mapM_cons] at hp
    cases hn : tn P f.type with
    | none => rw [hn] at hp; cases hp
    | some n =>
      rw [hn] at hp
      cases hl : l.mapM (fun f : Field => (tn P f.type).map fun n => (f.offset, n)) with
      | none => simp [hl] at hp
      | some pl' =>
        simp [hl] at hp
        subst hp
        rw [List.mapM_cons, hw_bind, hw_bind, run_sizeOf hn]
        show hw P (_ >>= _) Q h
        rw [hw_bind]
        exact run_places l _ pl' hl H
theorem sound_build {t : TypeId} {parts : Array (Nat × Operand)} (H : vBuild (tz P t) (tpl P t) (tarr P t) (tn P) (evP F parts.toList) K h) : hw P (Instr.build t (parts.map fun (i, x) => (i, ev F x))) K h := by
  have e1 : (parts.map fun (i, x) => (i, ev F x)).toList = evP F parts.toList := by rw [evP_map, Array.toList_map]
  unfold Instr.build
  rw [e1]
  unfold vBuild at H
  split at H
  · rename_i z pl hz hpl _
    obtain ⟨v, hv, hrun⟩ := tz_spec hz
    rw [hw_bind, hrun, hw_bind, hv]
    unfold tpl at hpl
    split at hpl
    · rename_i fs hu
      rw [run_under hu]
      simp only
      rw [hw_bind, ← Array.toArray_toList (xs := fs), List.mapM_toArray, map_eq_pure_bind, hw_bind]
      refine run_places fs.toList _ pl hpl ?_
      unfold vRdN at H
      split at H
      · rename_i cs hcs
        have e2 : (fun i => pl.toArray[i]?) = nth pl := by funext i; rw [nth_eq]; simp
        have := fill_of _ _ _ hcs
        rw [← e2] at this
        simp only [hw_pure, this]
        exact H
      · exact H.elim
    · cases hpl
  · rename_i z n e hz _ ha
    obtain ⟨v, hv, hrun⟩ := tz_spec hz
    rw [hw_bind, hrun, hw_bind, hv]
    unfold tarr at ha
    split at ha
    · rename_i n' e' hu
      simp only [Option.some.injEq, Prod.mk.injEq] at ha
      obtain ⟨rfl, rfl⟩ := ha
      rw [run_under hu]
      simp only
      unfold vBuildA at H
      split at H
      · rename_i m hm
        rw [hw_bind, run_sizeOf hm]
        unfold vRdN at H
        split at H
        · rename_i cs hcs
          have := fill_of _ _ _ hcs
          have e2 : (fun i => some (i * m, m)) = arrPl m := rfl
          rw [e2]
          simp only [this]
          exact H
        · exact H.elim
      · exact H.elim
    · cases ha
  · exact H.elim
theorem zrep_eq (z : List Value) (hz : z ≠ []) : ∀ (len : Nat), (Array.range (len * z.length)).map (fun j => z.toArray[j % z.toArray.size]!) = (zrep len z).toArray := by
  have hpos : 0 < z.length := List.length_pos_iff.2 hz
  have hlen : ∀ len, (zrep len z).length = len * z.length := by
    intro len
    induction len with
    | zero => simp [zrep]
    | succ n ih => simp [zrep, ih, Nat.add_mul, Nat.add_comm]
  have hget : ∀ len j, j < len * z.length → (zrep len z)[j]? = z[j % z.length]? := by
    intro len
    induction len with
    | zero => intro j hj; simp at hj
    | succ n ih =>
      intro j hj
      simp only [zrep]
      by_cases hjl : j < z.length
      · rw [List.getElem?_append_left hjl, Nat.mod_eq_of_lt hjl]
      · rw [List.getElem?_append_right (by omega), ih (j - z.length) (by rw [Nat.add_mul] at hj; omega)]
        rw [Nat.mod_eq_sub_mod (by omega : j ≥ z.length)]
  intro len
  apply Array.ext_getElem?
  intro j
  by_cases hj : j < len * z.length
  · have hmod : j % z.length < z.length := Nat.mod_lt _ hpos
    simp [hj, hget len j hj, hmod]
  · have h2 : (zrep len z)[j]? = none := List.getElem?_eq_none (by rw [hlen]; omega)
    simp [hj, h2]
theorem zrep_length (z : List Value) : ∀ n, (zrep n z).length = n * z.length := by
  intro len
  induction len with
  | zero => simp [zrep]
  | succ n ih => simp [zrep, ih, Nat.add_mul, Nat.add_comm]
theorem seqV_fill : ∀ (parts : List (Nat × Value)) (pre vs rest : List Value), seqV pre.length parts = some vs → rest.length = parts.length → fillL (arrPl 1) (pre ++ rest) parts = some (pre ++ vs)
  | [], pre, vs, rest, h, hl => by
    simp only [seqV, Option.some.injEq] at h
    subst h
    have : rest = [] := List.eq_nil_of_length_eq_zero (by simpa using hl)
    simp [fillL, this]
  | (i, v) :: l, pre, vs, rest, h, hl => by
    unfold seqV at h
    split at h
    · rename_i hc
      obtain ⟨rfl, hv⟩ := hc
      cases hs : seqV (pre.length + 1) l with
      | none => rw [hs] at h; cases h
      | some us =>
        rw [hs] at h
        simp only [Option.map_some, Option.some.injEq] at h
        subst h
        cases rest with
        | nil => simp at hl
        | cons r rest =>
          have hcl : cl v = [v] := by cases v <;> first | rfl | (simp [oneC] at hv)
          have e1 : lput (pre ++ r :: rest) pre.length [v] = (pre ++ [v]) ++ rest := by
            rw [lput_set]
            simp [lput]
          have ih := seqV_fill l (pre ++ [v]) us rest (by simpa using hs) (by simpa using hl)
          simp only [fillL, arrPl, hcl, Nat.mul_one, List.length_cons, List.length_nil, List.length_append]
          rw [if_pos (by simp), e1, ih]
          simp
    · cases h
theorem sound_buildSl {t : TypeId} {len : Nat} {parts : Array (Nat × Operand)} (H : vBuildSl (tsl P t) (tn P) (tz P) len (evP F parts.toList) K h) : hw P (Instr.buildSlice t len (parts.map fun (i, x) => (i, ev F x))) K h := by
  have e1 : (parts.map fun (i, x) => (i, ev F x)).toList = evP F parts.toList := by rw [evP_map, Array.toList_map]
  unfold Instr.buildSlice
  rw [e1]
  unfold vBuildSl at H
  split at H
  · rename_i e he
    unfold tsl at he
    split at he
    · rename_i e' hu
      simp only [Option.some.injEq] at he
      subst he
      unfold vBuildSlA at H
      split at H
      · rename_i n z hn hz
        split at H
        · rename_i hc
          obtain ⟨hzl, hle⟩ := hc
          unfold vMade at H
          split at H
          · rename_i l hl
            have hfill : fillL (arrPl n) (zrep len z) (evP F parts.toList) = some l := by
              unfold slCells at hl
              split at hl
              · rename_i hc
                obtain ⟨rfl, hpl⟩ := hc
                have := seqV_fill (evP F parts.toList) [] l (zrep len z) hl (by rw [zrep_length, hzl, hpl, Nat.mul_one])
                simpa using this
              · exact hl
            rw [hw_bind, run_under hu]
            simp only
            rw [hw_bind, run_sizeOf hn, if_neg (by omega)]
            have fin : ∀ z' : Array Value, (Array.range (len * n)).map (fun j => z'[j % z'.size]!) = (zrep len z).toArray → hw P (match Instr.fill (fun i => some (i * n, n)) ((Array.range (len * n)).map (fun j => z'[j % z'.size]!)) (evP F parts.toList) with
                | some cells => do
                  let a ← newRow e' cells
                  pure (Value.slice (some a) len len)
                | x => stuck "buildSlice: a part of the wrong size") K h := by
              intro z' hz'
              have := fill_of _ _ _ hfill
              have e2 : (fun i => some (i * n, n)) = arrPl n := rfl
              rw [e2, hz']
              simp only [this]
              exact H
            split
            · rename_i h0
              refine fin #[] ?_
              have : (zrep len z).length = 0 := by rw [zrep_length, hzl, h0]
              rw [List.eq_nil_of_length_eq_zero this, h0]
              simp
            · rename_i h0
              obtain ⟨v, hv, hr⟩ := tz_spec hz
              rw [hw_bind, hr]
              refine fin v.cells ?_
              have : z ≠ [] := by intro e; subst e; simp at hzl; subst hzl; simp at h0
              rw [hv, ← hzl]
              exact zrep_eq z this len
          · exact H.elim
        · exact H.elim
      · exact H.elim
    · cases he
  · exact H.elim
theorem sound_part {t : TypeId} {cs : Array Value} {o : Nat} (H : vPart (ta P t) (tn P t) cs.toList o K h) : hw P (part t cs o) K h := by
  unfold vPart at H
  unfold part
  rw [hw_bind]
  split at H
  · rename_i n ha hn
    rw [run_isAgg ha, if_pos rfl, hw_bind, run_sizeOf hn]
    have e : (cs.extract o (o + n)) = ((cs.toList.drop o).take n).toArray := by
      apply Array.toList_inj.1
      simp [List.extract_eq_take_drop]
    rw [e]
    exact H
  · rename_i ha
    rw [run_isAgg ha, if_neg (by simp)]
    unfold vRd1 at H
    split at H
    · rename_i v hv
      rw [nth_eq] at hv
      have : cs[o]? = some v := by rw [← Array.getElem?_toList]; exact hv
      simp only [this]
      exact H
    · exact H.elim
  · exact H.elim
theorem sound_fld {t : TypeId} {x : Value} {i : Nat} (H : vFld (tfl P t i) (ta P) (tn P) x K h) : hw P (Instr.field t x i) K h := by
  unfold vFld at H
  split at H
  · rename_i o ft cs hf
    unfold tfl at hf
    split at hf
    · rename_i fs hu
      unfold Instr.field
      rw [hw_bind, run_under hu]
      cases hfi : fs[i]? with
      | none => rw [hfi] at hf; cases hf
      | some f =>
        rw [hfi] at hf
        simp only [Option.map_some, Option.some.injEq, Prod.mk.injEq] at hf
        obtain ⟨rfl, rfl⟩ := hf
        simp only [hfi]
        exact sound_part H
    · cases hf
  · exact H.elim
theorem sound_idx {t : TypeId} {x i : Value} (H : vIdx (tarr P t) (tstr P t) (ta P) (tn P) x i K h) : hw P (Instr.index t x i) K h := by
  unfold vIdx at H
  split at H
  · rename_i k i
    split at H
    · rename_i len e cs ha _
      unfold tarr at ha
      split at ha
      · rename_i n' e' hu
        simp only [Option.some.injEq, Prod.mk.injEq] at ha
        obtain ⟨rfl, rfl⟩ := ha
        unfold vIdxA at H
        split at H
        · rename_i m hm
          split at H
          · rename_i hc
            unfold Instr.index
            simp only [asIntOf, hw_bind, hw_pure, run_under hu, if_pos hc, run_sizeOf hm]
            exact sound_part (by rw [hm]; exact H)
          · exact H.elim
        · exact H.elim
      · cases ha
    · rename_i s _ hs
      unfold tstr at hs
      split at hs
      · rename_i hu
        split at H
        · rename_i hc
          unfold Instr.index
          have hlt : i.toNat < s.size := by omega
          have e : s[i.toNat]? = some s[i.toNat] := by exact getElem?_pos s i.toNat hlt
          have e2 : s.data.toList.getD i.toNat 0 = s[i.toNat] := by
            have hl2 : i.toNat < s.data.toList.length := by simpa using hlt
            rw [List.getD_eq_getElem?_getD, List.getElem?_eq_getElem hl2, Option.getD_some]
            rfl
          simp only [asIntOf, hw_bind, hw_pure, run_under hu, if_pos hc.1, e]
          rw [e2] at H
          exact H
        · exact H.elim
      · cases hs
    · exact H.elim
  · exact H.elim
theorem run_sb {x : Option Value} {v : Value} {y n : Nat} {c : BoundsCode} (hx : x = some v) (hs : sb x 0 y = some n) {Q : Nat → Hp → Prop} : hw P (Instr.sliceBound v y c) Q h = Q n h := by
  subst hx
  unfold sb at hs
  split at hs
  · rename_i he; cases he
  · rename_i k i he
    simp only [Option.some.injEq] at he
    subst he
    split at hs
    · rename_i hc
      simp only [Option.some.injEq] at hs
      subst hs
      unfold Instr.sliceBound
      simp only [asIntOf, hw_bind, hw_pure, if_pos hc]
    · cases hs
  · cases hs
theorem run_bounds {isS : Bool} {len cap b l : Nat} {lo hi : Option Value} (hb : sb hi len cap = some b) (hl : sb lo 0 b = some l) {Q : Nat × Nat × Nat → Hp → Prop} (H : Q (l, b, cap) h) : hw P (Instr.sliceBounds isS len cap lo hi none) Q h := by
  have h2 : ∀ {c : BoundsCode}, hw P (match lo with
      | some v => do
        let l ← Instr.sliceBound v b c
        pure (l, b, cap)
      | none => do
        let l ← pure 0
        pure (l, b, cap)) Q h := by
    intro c
    cases lo with
    | none => simp only [sb, Option.some.injEq] at hl; subst hl; exact H
    | some v =>
      simp only
      rw [hw_bind, run_sb rfl hl]
      exact H
  unfold Instr.sliceBounds
  rw [hw_bind]
  show hw P (pure cap) _ h
  rw [hw_pure]
  cases hi with
  | none =>
    simp only [sb, Option.some.injEq] at hb
    subst hb
    exact h2
  | some v =>
    have hb' : sb (some v) 0 cap = some b := by unfold sb at hb ⊢; cases v <;> simp at hb ⊢ <;> exact hb
    simp only
    rw [hw_bind, run_sb rfl hb']
    exact h2
theorem run_bounds3 {isS : Bool} {len cap m b l : Nat} {lo : Option Value} {hv mv : Value} (hm : sb (some mv) 0 cap = some m) (hb : sb (some hv) len m = some b) (hl : sb lo 0 b = some l) {Q : Nat × Nat × Nat → Hp → Prop} (H : Q (l, b, m) h) : hw P (Instr.sliceBounds isS len cap lo (some hv) (some mv)) Q h := by
  have hb' : sb (some hv) 0 m = some b := by unfold sb at hb ⊢; cases hv <;> simp at hb ⊢ <;> exact hb
  unfold Instr.sliceBounds
  rw [hw_bind]
  show hw P (Instr.sliceBound mv cap _) _ h
  rw [run_sb rfl hm, hw_bind, run_sb rfl hb']
  cases lo with
  | none => simp only [sb, Option.some.injEq] at hl; subst hl; exact H
  | some v =>
    show hw P (Instr.sliceBound v b _ >>= _) _ h
    rw [hw_bind, run_sb rfl hl]
    exact H
theorem sound_slc {t : TypeId} {x : Value} {lo hi mx : Option Operand} (H : vSlc (tarr P t) (tsl P t) (tstr P t) (tn P) x (evO F lo) (evO F hi) (evO F mx) K h) : hw P (Instr.sliceAt t x (lo.map (ev F)) (hi.map (ev F)) (mx.map (ev F))) K h := by
  have e : ∀ o, evO F o = o.map (ev F) := fun o => by cases o <;> rfl
  rw [e, e, e] at H
  generalize lo.map (ev F) = lo at *
  generalize hi.map (ev F) = hi at *
  generalize mx.map (ev F) = mx at *
  unfold vSlc at H
  split at H
  · rename_i mv a len cap e ha hs
    unfold tsl at hs
    split at hs
    · rename_i e' hu
      simp only [Option.some.injEq] at hs
      subst hs
      split at H
      · rename_i hv m hm
        unfold vSlcS at H
        split at H
        · rename_i n b hn hb
          split at H
          · rename_i l hl
            unfold Instr.sliceAt
            rw [hw_bind, run_under hu]
            simp only
            unfold Instr.slice
            rw [hw_bind, run_under hu]
            simp only
            rw [hw_bind]
            refine run_bounds3 hm hb hl ?_
            simp only [hw_bind, run_sizeOf hn, hw_pure]
            exact H
          · exact H.elim
        · exact H.elim
      · exact H.elim
    · cases hs
  · rename_i a len cap e ha hs
    unfold tsl at hs
    split at hs
    · rename_i e' hu
      simp only [Option.some.injEq] at hs
      subst hs
      unfold vSlcS at H
      split at H
      · rename_i n b hn hb
        split at H
        · rename_i l hl
          unfold Instr.sliceAt
          rw [hw_bind, run_under hu]
          simp only
          unfold Instr.slice
          rw [hw_bind, run_under hu]
          simp only
          rw [hw_bind]
          refine run_bounds hb hl ?_
          simp only [hw_bind, run_sizeOf hn, hw_pure]
          exact H
        · exact H.elim
      · exact H.elim
    · cases hs
  · rename_i a len e ha hs
    unfold tarr at ha
    split at ha
    · rename_i n' e' hu
      simp only [Option.some.injEq, Prod.mk.injEq] at ha
      obtain ⟨rfl, rfl⟩ := ha
      unfold vSlcS at H
      split at H
      · rename_i n b hn hb
        split at H
        · rename_i l hl
          unfold Instr.sliceAt
          rw [hw_bind, run_under hu]
          simp only [Instr.sureAddr, hw_bind, hw_pure]
          refine run_bounds hb hl ?_
          simp only [hw_bind, run_sizeOf hn, hw_pure]
          have e3 : (if n' = l then some a else (some a).map (·.add (l * n))) = some (if n' = l then a else a.add (l * n)) := by split <;> rfl
          rw [e3] at H
          exact H
        · exact H.elim
      · exact H.elim
    · cases ha
  · rename_i s ha hs hst
    unfold tstr at hst
    split at hst
    · rename_i hu
      split at H
      · rename_i b hb
        split at H
        · rename_i l hl
          unfold Instr.sliceAt
          rw [hw_bind, run_under hu]
          simp only
          unfold Instr.slice
          rw [hw_bind, run_under hu]
          simp only [Option.isSome_none, Bool.false_eq_true, if_false]
          rw [hw_bind]
          refine run_bounds hb hl ?_
          exact H
        · exact H.elim
      · exact H.elim
    · cases hst
  · exact H.elim
theorem sound_mk {t : TypeId} {l c : Value} (H : vMk (tsl P t) (tn P) (tb P) (tz P) l c K h) : hw P (Instr.makeSlice t l c) K h := by
  unfold vMk at H
  split at H
  · rename_i e k l k' c he
    unfold tsl at he
    split at he
    · rename_i e' hu
      simp only [Option.some.injEq] at he
      subst he
      unfold vMkA at H
      split at H
      · rename_i n bytes z hn hby hz
        split at H
        · rename_i hc
          obtain ⟨hzl, h0, hlc, hc63, hroom⟩ := hc
          obtain ⟨i0, hi0⟩ : ∃ i, P.info? e' = some i := by
            unfold tn at hn
            cases hi : P.info? e' with
            | none => rw [hi] at hn; cases hn
            | some i => exact ⟨i, rfl⟩
          have hib : i0.bytes = bytes := by unfold tb at hby; rw [hi0] at hby; simpa using hby
          have w1 : IntKind.i64.wrap l = l := IntWalk.i64_in l ⟨by omega, by omega⟩
          have w2 : IntKind.i64.wrap c = c := IntWalk.i64_in c ⟨by omega, by omega⟩
          have hbig : ¬ ((bytes : Int) * c > 2 ^ 48) := by omega
          unfold Instr.makeSlice
          simp only [hw_bind, run_under hu, asInt, asIntOf, hw_pure, run_info hi0, w1, w2, hib]
          have hcond : ¬ ((decide (c < 0) || decide ((bytes : Int) * c > 2 ^ 48) || decide (l < 0) || decide (l > c)) = true) := by
            simp; omega
          rw [if_neg hcond]
          have hask : ∀ {Q : Unit → Hp → Prop} (b : Nat) (g : Hp), Q () g → hw P (askRoom b) Q g := fun {Q} b g q => by
            unfold askRoom; split <;> exact q
          rw [hw_bind]
          refine hask _ _ ?_
          rw [hw_bind, run_sizeOf hn]
          have fin : ∀ z' : Array Value, (Array.range (c.toNat * n)).map (fun j => z'[j % z'.size]!) = (zrep c.toNat z).toArray → hw P (do
              let a ← newRow e' ((Array.range (c.toNat * n)).map (fun j => z'[j % z'.size]!))
              pure (Value.slice (some a) l.toNat c.toNat)) K h := by
            intro z' hz'
            rw [hz']
            exact H
          split
          · rename_i h0
            refine fin #[] ?_
            have : (zrep c.toNat z).length = 0 := by rw [zrep_length, hzl, h0]
            rw [List.eq_nil_of_length_eq_zero this, h0]
            simp
          · rename_i h0
            obtain ⟨v, hv, hr⟩ := tz_spec hz
            rw [hw_bind, hr]
            refine fin v.cells ?_
            have : z ≠ [] := by intro e; subst e; simp at hzl; subst hzl; simp at h0
            rw [hv, ← hzl]
            exact zrep_eq z this c.toNat
        · exact H.elim
      · exact H.elim
    · cases he
  · exact H.elim

theorem sound_do {op : Op} (H : vDo P T op ty K F h) : vOp P T ⟨none, op, ty, "", #[], none⟩ K F h := by
  have lift : ∀ {s : Sem Value}, hw P s K h → hw P (do pure (Next.value (← s))) (vNext P T K) h := fun {s} H => by rw [hw_bind]; exact H
  unfold vDo at H
  split at H
  · exact H
  · exact H
  · rename_i c a b
    show hw P (do pure (.value (if ← asBool (ev F c) then ev F a else ev F b))) (vNext P T K) h
    unfold vPick at H
    split at H
    · rename_i t ht
      rw [ht]; cases t <;> exact H
    · exact H.elim
  · rename_i e
    refine lift ?_
    unfold vNew tz at H
    split at H
    · rename_i l hl
      cases hi : P.info? e with
      | none => rw [hi] at hl; cases hl
      | some i =>
        rw [hi] at hl
        cases hz : i.zero with
        | none => rw [Option.bind_some, hz] at hl; cases hl
        | some z =>
          rw [Option.bind_some, hz] at hl
          simp only [Option.map_some, Option.some.injEq] at hl
          subst hl
          simp only [Instr.alloc, zeroValue, hw_bind, run_info hi, hz, newVar, newRow, newObj, hw_pure, hw]
          simpa using H
    · exact H.elim
  · rename_i e x
    refine lift ?_
    simp only [vNew, cl_cells] at H
    simp only [Instr.box, newVar, newRow, newObj, hw_bind, hw_pure]
    exact H
  · exact lift (sound_load H)
  · refine (?_ : hw P (do Instr.storeAt _ _ _; pure Next.skip) (vNext P T K) h)
    rw [hw_bind]
    exact sound_store H
  · exact lift (sound_field H)
  · exact lift (sound_ix H)
  · rename_i x
    unfold vNil at H
    split at H
    · rename_i a hx
      show hw P (match ev F x with | .pointer none | .nilIface | .nilFunc => _ | .func (.method name) first captured => _ | x => _) _ h
      rw [hx]; exact H
    · rename_i f a b hx
      show hw P (match ev F x with | .pointer none | .nilIface | .nilFunc => _ | .func (.method name) first captured => _ | x => _) _ h
      rw [hx]; exact H
    · exact H.elim
  · exact lift H
  · exact lift H
  · exact lift H
  · exact lift (sound_extract H)
  · rename_i fn first captured
    refine lift ?_
    have e1 : ∀ l : Array Operand, l.map (ev F) = (evL F l.toList).toArray := fun l => by rw [evL_map, ← Array.toList_map]
    show hw P (Instr.makeFunc fn (first.map (ev F)) (captured.map (ev F))) K h
    rw [e1, e1]; exact H
  · rename_i f args ts
    exact sound_call (x := f) (c := ⟨.value f, args, ts⟩) rfl rfl (by rw [evL_map]; simp) H
  · rename_i b args ts
    have e1 : args.map (ev F) = (evL F args.toList).toArray := by rw [evL_map, ← Array.toList_map]
    unfold vBi at H
    rw [← e1] at H
    exact H
  · exact lift (sound_build H)
  · exact lift (sound_buildSl H)
  · exact lift (sound_fld H)
  · exact lift (sound_idx H)
  · exact lift (sound_slc H)
  · exact lift (sound_mk H)
  · exact H

theorem vOp_of_do {o : Oper} (H : vDo P T o.op o.type K F h) : vOp P T o K F h := sound_do H

/-! ### Lists of operations -/
def gval : List Oper → Env → Nat → Value
  | [], _, _ => undef
  | o :: _, F, 0 => match o.dst with | some t => F t | none => undef
  | _ :: l, F, n + 1 => gval l F n
def vGuard (v : Value) (b : Bool) (A B : Prop) : Prop := match v with | .bool c => if c = b then A else B | _ => B

def sOps (P : Program) (T : World) (ops : List Oper) (N : Env → Hp → Prop) : List Oper → Env → Hp → Prop
  | [], F, h => N F h
  | ⟨d, op, ty, _, _, none⟩ :: l, F, h => vDo P T op ty (fun v h' => sOps P T ops N l (updo F d v) h') F h
  | ⟨d, op, ty, _, _, some (j, b)⟩ :: l, F, h => vGuard (gval ops F j) b (vDo P T op ty (fun v h' => sOps P T ops N l (updo F d v) h') F h) (sOps P T ops N l (updo F d undef) h)

theorem yieldedF_gval (ops : List Oper) (F : Env) : ∀ j, yieldedF ops.toArray F j = match gval ops F j with | .bool b => some b | _ => none := by
  intro j
  unfold yieldedF
  rw [List.getElem?_toArray]
  induction ops generalizing j with
  | nil => rfl
  | cons o l ih =>
    cases j with
    | zero => simp only [List.getElem?_cons_zero, Option.bind_some, gval]; cases o.dst <;> rfl
    | succ j => simp only [List.getElem?_cons_succ, gval]; exact ih j

theorem wantedF_guard (ops : List Oper) (F : Env) (d : Option Tmp) (op : Op) (pos : String) (aft : Array Edge) (j : Nat) (b : Bool) {A B : Prop} (H : vGuard (gval ops F j) b A B) :
    (wantedF ops.toArray ⟨d, op, ty, pos, aft, some (j, b)⟩ F = true ∧ A) ∨ (wantedF ops.toArray ⟨d, op, ty, pos, aft, some (j, b)⟩ F = false ∧ B) := by
  unfold wantedF Region.wanted
  simp only [yieldedF_gval]
  unfold vGuard at H
  split at H
  · rename_i c hc
    split at H
    · rename_i hcb; exact .inl ⟨by simp [hcb], H⟩
    · rename_i hcb; exact .inr ⟨by simpa using hcb, H⟩
  · rename_i hne
    refine .inr ⟨?_, H⟩
    cases hv : gval ops F j <;> first | rfl | exact (hne _ hv).elim

theorem vDo_mono {op : Op} {K' : Value → Hp → Prop} (hk : ∀ v h, K v h → K' v h) (H : vDo P T op ty K F h) : vOp P T ⟨none, op, ty, "", #[], none⟩ K' F h := vOp_mono hk (sound_do H)

theorem vOps_of_sOps {ops : List Oper} {N : Env → Hp → Prop} : ∀ (l : List Oper) (F : Env) (h : Hp), sOps P T ops N l F h → vOps P T ops.toArray N l F h
  | [], F, h, H => H
  | ⟨d, op, ty, pos, aft, none⟩ :: l, F, h, H => by
    show (if wantedF ops.toArray _ F = true then _ else _)
    rw [if_pos (by rfl)]
    exact vDo_mono (fun v h' q => vOps_of_sOps l _ _ q) H
  | ⟨d, op, ty, pos, aft, some (j, b)⟩ :: l, F, h, H => by
    show (if wantedF ops.toArray _ F = true then _ else _)
    rcases wantedF_guard ops F d op pos aft j b H with ⟨hw, H⟩ | ⟨hw, H⟩
    · rw [if_pos hw]
      exact vDo_mono (fun v h' q => vOps_of_sOps l _ _ q) H
    · rw [hw, if_neg (by simp)]
      exact vOps_of_sOps l _ _ H

def sHeld (P : Program) (T : World) (ops : List Oper) (S : Hp → Prop) (N : Env → Hp → Prop) : List (Nat × Bool × Oper) → Env → Hp → Prop
  | [], F, h => N F h
  | (_, true, ⟨d, op, ty, _, _, none⟩) :: l, F, h => ∃ v, (∀ h', S h' → vDo P T op ty (fun v' h'' => v' = v ∧ h'' = h') F h') ∧ sHeld P T ops S N l (updo F d v) h
  | (_, false, ⟨d, op, ty, _, _, none⟩) :: l, F, h => vDo P T op ty (fun v h' => S h' ∧ sHeld P T ops S N l (updo F d v) h') F h
  | (_, true, ⟨d, op, ty, _, _, some (j, b)⟩) :: l, F, h => vGuard (gval ops F j) b (∃ v, (∀ h', S h' → vDo P T op ty (fun v' h'' => v' = v ∧ h'' = h') F h') ∧ sHeld P T ops S N l (updo F d v) h) (sHeld P T ops S N l (updo F d undef) h)
  | (_, false, ⟨d, op, ty, _, _, some (j, b)⟩) :: l, F, h => vGuard (gval ops F j) b (vDo P T op ty (fun v h' => S h' ∧ sHeld P T ops S N l (updo F d v) h') F h) (sHeld P T ops S N l (updo F d undef) h)

theorem vHeld_of_sHeld {ops : List Oper} {S : Hp → Prop} {N : Env → Hp → Prop} : ∀ (l : List (Nat × Bool × Oper)) (F : Env) (h : Hp), sHeld P T ops S N l F h → vHeld P T ops.toArray S N l F h
  | [], F, h, H => H
  | (i, true, ⟨d, op, ty, pos, aft, none⟩) :: l, F, h, H => by
    show (if wantedF ops.toArray _ F = true then _ else _)
    rw [if_pos (by rfl)]
    obtain ⟨v, hv, H⟩ := H
    exact ⟨v, fun h' hs => vOp_of_do (hv h' hs), vHeld_of_sHeld l _ _ H⟩
  | (i, false, ⟨d, op, ty, pos, aft, none⟩) :: l, F, h, H => by
    show (if wantedF ops.toArray _ F = true then _ else _)
    rw [if_pos (by rfl)]
    exact vDo_mono (fun v h' q => ⟨q.1, vHeld_of_sHeld l _ _ q.2⟩) H
  | (i, true, ⟨d, op, ty, pos, aft, some (j, b)⟩) :: l, F, h, H => by
    show (if wantedF ops.toArray _ F = true then _ else _)
    rcases wantedF_guard ops F d op pos aft j b H with ⟨hw, H⟩ | ⟨hw, H⟩
    · rw [if_pos hw]
      obtain ⟨v, hv, H⟩ := H
      exact ⟨v, fun h' hs => vOp_of_do (hv h' hs), vHeld_of_sHeld l _ _ H⟩
    · rw [hw, if_neg (by simp)]
      exact vHeld_of_sHeld l _ _ H
  | (i, false, ⟨d, op, ty, pos, aft, some (j, b)⟩) :: l, F, h, H => by
    show (if wantedF ops.toArray _ F = true then _ else _)
    rcases wantedF_guard ops F d op pos aft j b H with ⟨hw, H⟩ | ⟨hw, H⟩
    · rw [if_pos hw]
      exact vDo_mono (fun v h' q => ⟨q.1, vHeld_of_sHeld l _ _ q.2⟩) H
    · rw [hw, if_neg (by simp)]
      exact vHeld_of_sHeld l _ _ H

theorem VS.quiets {n : Nat} {N : Env → Hp → Prop} {X : Nat → Env → Hp → Prop} {R : Env → Hp → Prop} {id : Nat} {ops : List Oper} (hm : P.follows .mixedOrders = true) (hok : regionOk n ops.toArray ((List.range ops.toArray.size).map fun i => (i, true)) = true)
    (H : sHeld P T ops (fun h' => h' = h) N (ops.map fun o => (0, true, o)) F h) : VS P n T (.region id ops.toArray true) N X R F h := by
  refine VS.quiet hm hok ?_
  have key : ∀ (l : List Oper) (k : Nat) (F : Env), (∀ j, l[j]? = ops[k + j]?) → sHeld P T ops (fun h' => h' = h) N (l.map fun o => (0, true, o)) F h →
      sHeld P T ops (fun h' => h' = h) N (picked ops.toArray ((List.range' k l.length).map fun i => (i, true))) F h := by
    intro l
    induction l with
    | nil => intro k F _ H; exact H
    | cons o l ih =>
      intro k F hl H
      have h0 : ops[k]? = some o := by simpa using (hl 0).symm
      have hl' : ∀ j, l[j]? = ops[k + 1 + j]? := fun j => by have := hl (j + 1); simpa [Nat.add_assoc, Nat.add_comm 1 j] using this
      have e : picked ops.toArray ((List.range' k (o :: l).length).map fun i => (i, true)) = (k, true, o) :: picked ops.toArray ((List.range' (k + 1) l.length).map fun i => (i, true)) := by
        simp [picked, List.range'_succ, h0]
      rw [e]
      obtain ⟨d, op, ty, pos, aft, g⟩ := o
      cases g with
      | none =>
        obtain ⟨v, hv, H⟩ := H
        exact ⟨v, hv, ih (k + 1) _ hl' H⟩
      | some jb =>
        obtain ⟨j, b⟩ := jb
        simp only [List.map_cons, sHeld] at H ⊢
        unfold vGuard at *
        split at H
        · split at H
          · rename_i hcb
            rw [if_pos hcb]
            obtain ⟨v, hv, H⟩ := H
            exact ⟨v, hv, ih (k + 1) _ hl' H⟩
          · rename_i hcb
            rw [if_neg hcb]
            exact ih (k + 1) _ hl' H
        · exact ih (k + 1) _ hl' H
  have := key ops 0 F (fun j => by simp) H
  rw [List.range_eq_range']
  exact vHeld_of_sHeld _ _ _ this

/-! ### Code -/
def vCond (v : Value) (A B : Prop) : Prop := match v with | .bool b => if b = true then A else B | _ => False

def vc (P : Program) (n : Nat) (T : World) : Code → (Env → Hp → Prop) → (Nat → Env → Hp → Prop) → (Env → Hp → Prop) → Env → Hp → Prop
  | .skip, N, _, _, F, h => N F h
  | .ret, _, _, R, F, h => R F h
  | .exit j, _, X, _, F, h => X j F h
  | .seq a b, N, X, R, F, h => vc P n T a (fun F h => vc P n T b N X R F h) X R F h
  | .cond c a b, N, X, R, F, h => vCond (ev F c) (vc P n T a N X R F h) (vc P n T b N X R F h)
  | .block j c, N, X, R, F, h => vc P n T c N (fun i F h => if i = j then N F h else X i F h) R F h
  | .region _ ops false, N, _, _, F, h => sOps P T ops.toList N ops.toList F h
  | c, N, X, R, F, h => VS P n T c N X R F h

/-- Every operation of it writes a slot that there is. -/
def codeOk (n : Nat) : Code → Bool
  | .seq a b => codeOk n a && codeOk n b
  | .cond _ a b => codeOk n a && codeOk n b
  | .block _ c => codeOk n c
  | .region _ ops false => opsOk n ops
  | _ => true

theorem vc_sound {n : Nat} : ∀ (c : Code) (N : Env → Hp → Prop) (X : Nat → Env → Hp → Prop) (R : Env → Hp → Prop) (F : Env) (h : Hp), codeOk n c = true → vc P n T c N X R F h → VS P n T c N X R F h := by
  intro c
  induction c with
  | skip => intro N X R F h _ H; exact VS.skip H
  | ret => intro N X R F h _ H; exact VS.ret H
  | exit j => intro N X R F h _ H; exact VS.exit H
  | seq a b iha ihb =>
    intro N X R F h hok H
    simp only [codeOk, Bool.and_eq_true] at hok
    exact VS.seq (VS.mono (iha _ _ _ _ _ hok.1 H) (fun F h q => ihb _ _ _ _ _ hok.2 q) (fun _ _ _ q => q) (fun _ _ q => q))
  | cond c a b iha ihb =>
    intro N X R F h hok H
    simp only [codeOk, Bool.and_eq_true] at hok
    simp only [vc, vCond] at H
    split at H
    · rename_i t ht
      refine VS.cond ht (fun hb => ?_) (fun hb => ?_)
      · rw [if_pos hb] at H; exact iha _ _ _ _ _ hok.1 H
      · rw [if_neg (by simp [hb])] at H; exact ihb _ _ _ _ _ hok.2 H
    · exact H.elim
  | block j c ih => intro N X R F h hok H; exact VS.block (ih _ _ _ _ _ hok H)
  | region id ops draw =>
    intro N X R F h hok H
    cases draw with
    | true => exact H
    | false => exact VS.region hok (by simpa using vOps_of_sOps _ _ _ H)
  | _ => intro N X R F h _ H; exact H

theorem CallsH.of_code {f : FuncId} {fn : Func} {c : Code} {l : List ResultVar} {args : List Value} {Q : Value → Hp → Prop} (hf : P.funcs[f]? = some fn) (hb : fn.body = some c)
    (hl : fn.results = l.toArray) (hn : Nat.ble args.length fn.ntmps = true) (hok : codeOk fn.ntmps c = true)
    (H : vc P fn.ntmps T c (fun F h' => resH P l F Q h') (fun _ _ _ => False) (fun F h' => resH P l F Q h') (envL args 0) h) :
    CallsH P T f args.toArray h Q :=
  CallsH.of_body hf hb hl (by simpa using hn) (by simpa using vc_sound _ _ _ _ _ _ hok H)
end
end Go.V
