/- V3: the equations by which simp runs V2's forms. -/
import Derived.Test.YtiakfdpmapmifaaV2
namespace Go.V

section
variable {P : Program} {T : World} {K : Value → Hp → Prop} {F : Env} {h : Hp} {ty : TypeId}

/-! ### continuations by name: simp does not look into them till they are applied -/
def kOps (P : Program) (T : World) (ops : List Oper) (N : Env → Hp → Prop) (l : List Oper) (F : Env) (d : Option Tmp) : Value → Hp → Prop := fun v h => sOps P T ops N l (updo F d v) h
theorem kOps_app {ops l : List Oper} {N : Env → Hp → Prop} {d : Option Tmp} {v : Value} : kOps P T ops N l F d v h = sOps P T ops N l (updo F d v) h := rfl
theorem sOps_nil {ops : List Oper} {N : Env → Hp → Prop} : sOps P T ops N [] F h = N F h := rfl
theorem sOps_plain {ops l : List Oper} {N : Env → Hp → Prop} {d : Option Tmp} {op : Op} {pos : String} {aft : Array Edge} :
    sOps P T ops N (⟨d, op, ty, pos, aft, none⟩ :: l) F h = vDo P T op ty (kOps P T ops N l F d) F h := rfl
def sGuard (P : Program) (T : World) (ops : List Oper) (N : Env → Hp → Prop) (l : List Oper) (F : Env) (d : Option Tmp) (op : Op) (ty : TypeId) (v : Value) (b : Bool) (h : Hp) : Prop :=
  vGuard v b (vDo P T op ty (kOps P T ops N l F d) F h) (sOps P T ops N l (updo F d undef) h)
theorem sOps_guard {ops l : List Oper} {N : Env → Hp → Prop} {d : Option Tmp} {op : Op} {pos : String} {aft : Array Edge} {j : Nat} {b : Bool} :
    sOps P T ops N (⟨d, op, ty, pos, aft, some (j, b)⟩ :: l) F h = sGuard P T ops N l F d op ty (gval ops F j) b h := rfl
theorem sGuard_bool {ops l : List Oper} {N : Env → Hp → Prop} {d : Option Tmp} {op : Op} {b c : Bool} :
    sGuard P T ops N l F d op ty (.bool c) b h = if c = b then vDo P T op ty (kOps P T ops N l F d) F h else sOps P T ops N l (updo F d undef) h := rfl

def nSeq (P : Program) (n : Nat) (T : World) (b : Code) (N : Env → Hp → Prop) (X : Nat → Env → Hp → Prop) (R : Env → Hp → Prop) : Env → Hp → Prop := fun F h => vc P n T b N X R F h
def xBlk (j : Nat) (N : Env → Hp → Prop) (X : Nat → Env → Hp → Prop) : Nat → Env → Hp → Prop := fun i F h => if i = j then N F h else X i F h
def xNone : Nat → Env → Hp → Prop := fun _ _ _ => False
def nRes (P : Program) (l : List ResultVar) (Q : Value → Hp → Prop) : Env → Hp → Prop := fun F h => resH P l F Q h
def sCond (P : Program) (n : Nat) (T : World) (v : Value) (a b : Code) (N : Env → Hp → Prop) (X : Nat → Env → Hp → Prop) (R : Env → Hp → Prop) (F : Env) (h : Hp) : Prop :=
  vCond v (vc P n T a N X R F h) (vc P n T b N X R F h)
section
variable {n : Nat} {N : Env → Hp → Prop} {X : Nat → Env → Hp → Prop} {R : Env → Hp → Prop}
theorem nSeq_app {b : Code} : nSeq P n T b N X R F h = vc P n T b N X R F h := rfl
theorem xBlk_app {i j : Nat} : xBlk j N X i F h = if i = j then N F h else X i F h := rfl
theorem xNone_app {i : Nat} : xNone i F h = False := rfl
theorem nRes_app {l : List ResultVar} {Q : Value → Hp → Prop} : nRes P l Q F h = resH P l F Q h := rfl
theorem vc_skip : vc P n T .skip N X R F h = N F h := rfl
theorem vc_ret : vc P n T .ret N X R F h = R F h := rfl
theorem vc_exit {j : Nat} : vc P n T (.exit j) N X R F h = X j F h := rfl
theorem vc_seq {a b : Code} : vc P n T (.seq a b) N X R F h = vc P n T a (nSeq P n T b N X R) X R F h := rfl
theorem vc_cond {c : Operand} {a b : Code} : vc P n T (.cond c a b) N X R F h = sCond P n T (ev F c) a b N X R F h := rfl
theorem vc_block {j : Nat} {c : Code} : vc P n T (.block j c) N X R F h = vc P n T c N (xBlk j N X) R F h := rfl
theorem vc_region {id : Nat} {l : List Oper} : vc P n T (.region id l.toArray false) N X R F h = sOps P T l N l F h := rfl
theorem vc_draw {id : Nat} {l : Array Oper} : vc P n T (.region id l true) N X R F h = VS P n T (.region id l true) N X R F h := rfl
theorem vc_loop {c : Code} : vc P n T (.loop c) N X R F h = VS P n T (.loop c) N X R F h := rfl
theorem sCond_bool {a b : Code} {t : Bool} : sCond P n T (.bool t) a b N X R F h = if t = true then vc P n T a N X R F h else vc P n T b N X R F h := rfl
end

theorem CallsH.of_code' {f : FuncId} {fn : Func} {c : Code} {l : List ResultVar} {args : List Value} {Q : Value → Hp → Prop} (hf : P.funcs[f]? = some fn) (hb : fn.body = some c)
    (hl : fn.results = l.toArray) (hn : Nat.ble args.length fn.ntmps = true) (hok : codeOk fn.ntmps c = true)
    (H : vc P fn.ntmps T c (nRes P l Q) xNone (nRes P l Q) (envL args 0) h) : CallsH P T f args.toArray h Q := CallsH.of_code hf hb hl hn hok H

/-- A loop's round, at its end. -/
def nLoop (I : Env → Hp → Prop) (μ : Env → Hp → Nat) (m : Nat) : Env → Hp → Prop := fun F h => I F h ∧ μ F h < m
theorem VS.loop' {n : Nat} {N : Env → Hp → Prop} {X : Nat → Env → Hp → Prop} {R : Env → Hp → Prop} {c : Code} (I : Env → Hp → Prop) (μ : Env → Hp → Nat) (hok : codeOk n c = true) (h0 : I F h)
    (round : ∀ F h, I F h → vc P n T c (nLoop I μ (μ F h)) X R F h) : VS P n T (.loop c) N X R F h :=
  VS.loop I μ h0 fun F h hI => vc_sound _ _ _ _ _ _ hok (round F h hI)
theorem CallsH.use {f : FuncId} {args : Array Value} {Q : Value → Hp → Prop} (c : CallsH P T f args h Q) (H : ∀ v h', Q v h' → K v h') : CallsH P T f args h K := c.mono H
/-- A call that only computes. -/
theorem CallsH.pure {f : FuncId} {args : Array Value} {r : Value} (c : CallsH P T f args h fun v h' => v = r ∧ h' = h) (H : K r h) : CallsH P T f args h K :=
  c.mono fun _ _ ⟨e1, e2⟩ => by subst e1; subst e2; exact H

/-! quiet regions -/
def ap (B : Value → Prop) (v : Value) : Prop := B v
def kEq (v : Value) (h : Hp) : Value → Hp → Prop := fun v' h' => v' = v ∧ h' = h
def kHeld (P : Program) (T : World) (ops : List Oper) (S : Hp → Prop) (N : Env → Hp → Prop) (l : List (Nat × Bool × Oper)) (F : Env) (d : Option Tmp) (h : Hp) : Value → Prop := fun v => sHeld P T ops S N l (updo F d v) h
/-- Quiet operations in this very heap. -/
def qOps (P : Program) (T : World) (ops : List Oper) (N : Env → Hp → Prop) : List Oper → Env → Hp → Prop
  | [], F, h => N F h
  | ⟨d, op, ty, _, _, none⟩ :: l, F, h => ∃ v, vDo P T op ty (kEq v h) F h ∧ qOps P T ops N l (updo F d v) h
  | ⟨d, op, ty, _, _, some (j, b)⟩ :: l, F, h => vGuard (gval ops F j) b (∃ v, vDo P T op ty (kEq v h) F h ∧ qOps P T ops N l (updo F d v) h) (qOps P T ops N l (updo F d undef) h)
theorem sHeld_of_qOps {ops : List Oper} {N : Env → Hp → Prop} : ∀ (l : List Oper) (F : Env), qOps P T ops N l F h → sHeld P T ops (fun h' => h' = h) N (l.map fun o => (0, true, o)) F h
  | [], _, H => H
  | ⟨d, op, ty, pos, aft, none⟩ :: l, F, H => by
    obtain ⟨v, hv, H⟩ := H
    exact ⟨v, fun h' e => by subst e; exact hv, sHeld_of_qOps l _ H⟩
  | ⟨d, op, ty, pos, aft, some (j, b)⟩ :: l, F, H => by
    simp only [qOps, vGuard] at H
    simp only [List.map_cons, sHeld, vGuard]
    split at H
    · split at H
      · rename_i hcb
        rw [if_pos hcb]
        obtain ⟨v, hv, H⟩ := H
        exact ⟨v, fun h' e => by subst e; exact hv, sHeld_of_qOps l _ H⟩
      · rename_i hcb
        rw [if_neg hcb]
        exact sHeld_of_qOps l _ H
    · exact sHeld_of_qOps l _ H
theorem VS.q {n : Nat} {N : Env → Hp → Prop} {X : Nat → Env → Hp → Prop} {R : Env → Hp → Prop} {id : Nat} {ops : List Oper} (hm : P.follows .mixedOrders = true) (hok : regionOk n ops.toArray ((List.range ops.toArray.size).map fun i => (i, true)) = true)
    (H : qOps P T ops N ops F h) : VS P n T (.region id ops.toArray true) N X R F h := VS.quiets hm hok (sHeld_of_qOps _ _ H)
/-- Behind a quiet operation, by name. -/
def qK (P : Program) (T : World) (ops : List Oper) (N : Env → Hp → Prop) (l : List Oper) (F : Env) (d : Option Tmp) (h : Hp) : Value → Prop := fun v => qOps P T ops N l (updo F d v) h
def qDo (P : Program) (T : World) (op : Op) (ty : TypeId) (B : Value → Prop) (F : Env) (h : Hp) : Prop := ∃ v, vDo P T op ty (kEq v h) F h ∧ ap B v
def qGuard (P : Program) (T : World) (ops : List Oper) (N : Env → Hp → Prop) (l : List Oper) (F : Env) (d : Option Tmp) (op : Op) (ty : TypeId) (v : Value) (b : Bool) (h : Hp) : Prop :=
  vGuard v b (qDo P T op ty (qK P T ops N l F d h) F h) (qOps P T ops N l (updo F d undef) h)
theorem qOps_nil {ops : List Oper} {N : Env → Hp → Prop} : qOps P T ops N [] F h = N F h := rfl
theorem qOps_plain {ops l : List Oper} {N : Env → Hp → Prop} {d : Option Tmp} {op : Op} {pos : String} {aft : Array Edge} :
    qOps P T ops N (⟨d, op, ty, pos, aft, none⟩ :: l) F h = qDo P T op ty (qK P T ops N l F d h) F h := rfl
theorem qOps_guard {ops l : List Oper} {N : Env → Hp → Prop} {d : Option Tmp} {op : Op} {pos : String} {aft : Array Edge} {j : Nat} {b : Bool} :
    qOps P T ops N (⟨d, op, ty, pos, aft, some (j, b)⟩ :: l) F h = qGuard P T ops N l F d op ty (gval ops F j) b h := rfl
theorem qGuard_bool {ops l : List Oper} {N : Env → Hp → Prop} {d : Option Tmp} {op : Op} {b c : Bool} :
    qGuard P T ops N l F d op ty (.bool c) b h = if c = b then qDo P T op ty (qK P T ops N l F d h) F h else qOps P T ops N l (updo F d undef) h := rfl
theorem qK_app {ops l : List Oper} {N : Env → Hp → Prop} {d : Option Tmp} {v : Value} : qK P T ops N l F d h v = qOps P T ops N l (updo F d v) h := rfl
/-- What a reading comes to. -/
def qR (x : Option Value) (B : Value → Prop) : Prop := match x with | some v => ap B v | none => False
theorem qR_some {v : Value} {B : Value → Prop} : qR (some v) B = B v := rfl
theorem qEq {v : Value} {B : Value → Prop} : (∃ u, kEq u h v h ∧ ap B u) = B v := by
  apply propext; constructor
  · rintro ⟨u, ⟨e, _⟩, H⟩; subst e; exact H
  · intro H; exact ⟨v, ⟨rfl, rfl⟩, H⟩
section
variable {B : Value → Prop}
theorem qDo_move {x : Operand} : qDo P T (.move x) ty B F h = B (ev F x) := qEq
theorem qDo_assign {x : Operand} : qDo P T (.assign x) ty B F h = B (ev F x) := qEq
def qPick (c a b : Value) (B : Value → Prop) : Prop := match c with | .bool t => B (if t then a else b) | _ => False
theorem qPick_bool {t : Bool} {a b : Value} : qPick (.bool t) a b B = B (if t = true then a else b) := rfl
theorem qDo_pick {c a b : Operand} : qDo P T (.pick c a b) ty B F h = qPick (ev F c) (ev F a) (ev F b) B := by
  show (∃ u, vPick _ _ _ (kEq u h) h ∧ ap B u) = _
  unfold vPick qPick
  cases ev F c <;> first | exact qEq | simp
def qLoad (s : Option Bool) (n : Option Nat) (p : Value) (B : Value → Prop) (h : Hp) : Prop :=
  match p with
  | .pointer (some a) => match s, n with
    | some false, _ => qR (hc h a) B
    | some true, some n => qR ((rd h a n).map fun l => .agg l.toArray) B
    | _, _ => False
  | _ => False
theorem qLoad_one {n : Option Nat} {a : Addr} : qLoad (some false) n (.pointer (some a)) B h = qR (hc h a) B := rfl
theorem qLoad_many {n : Nat} {a : Addr} : qLoad (some true) (some n) (.pointer (some a)) B h = qR ((rd h a n).map fun l => .agg l.toArray) B := rfl
theorem qDo_load {t : TypeId} {x : Operand} : qDo P T (.load t x) ty B F h = qLoad (ta P t) (tn P t) (ev F x) B h := by
  show (∃ u, vLoad _ _ _ (kEq u h) h ∧ ap B u) = _
  unfold vLoad qLoad
  cases ev F x with
  | pointer a =>
    cases a with
    | none => simp
    | some a =>
      simp only
      rcases ta P t with _ | b
      · simp
      · cases b
        · simp only [vRd1, qR]
          cases hc h a with
          | none => simp
          | some v => exact qEq
        · rcases tn P t with _ | n
          · simp
          · simp only [vRdN, qR]
            cases rd h a n with
            | none => simp
            | some v => exact qEq
  | _ => simp
def qField (f : Option Nat) (p : Value) (B : Value → Prop) : Prop := match f, p with | some o, .pointer (some a) => B (.pointer (some (a.add o))) | _, _ => False
theorem qField_some {o b f : Nat} : qField (some o) (.pointer (some ⟨b, f, none⟩)) B = B (.pointer (some ⟨b, f + o, none⟩)) := by
  show B (.pointer (some (Addr.add _ _))) = _; rw [addr_add]
theorem qDo_field {t : TypeId} {x : Operand} {i : Nat} : qDo P T (.fieldAddr t x i) ty B F h = qField (tf P t i) (ev F x) B := by
  show (∃ u, vField _ _ (kEq u h) h ∧ ap B u) = _
  unfold vField qField
  rcases tf P t i with _ | o
  · simp
  · cases ev F x with
    | pointer a => cases a with
      | none => simp
      | some a => exact qEq
    | _ => simp
def qIx (arr : Option (Nat × TypeId)) (sl : Option TypeId) (n : TypeId → Option Nat) (p i : Value) (B : Value → Prop) : Prop :=
  match i with
  | .int _ i => (match arr, sl, p with
    | some (len, e), none, .pointer (some a) => (match n e with
      | some n => if 0 ≤ i ∧ i < (len : Int) then B (.pointer (some (a.add (i.toNat * n)))) else False
      | none => False)
    | none, some e, .slice (some a) len _ => (match n e with
      | some n => if 0 ≤ i ∧ i < (len : Int) then B (.pointer (some (a.add (i.toNat * n)))) else False
      | none => False)
    | _, _, _ => False)
  | _ => False
def qIxA (m : Option Nat) (len : Nat) (a : Addr) (i : Int) (B : Value → Prop) : Prop :=
  match m with | some m => if 0 ≤ i ∧ i < (len : Int) then B (.pointer (some (a.add (i.toNat * m)))) else False | none => False
theorem qIx_arr {len : Nat} {e : TypeId} {n : TypeId → Option Nat} {a : Addr} {k : IntKind} {i : Int} : qIx (some (len, e)) none n (.pointer (some a)) (.int k i) B = qIxA (n e) len a i B := rfl
theorem qIx_slice {len cap : Nat} {e : TypeId} {n : TypeId → Option Nat} {a : Addr} {k : IntKind} {i : Int} : qIx none (some e) n (.slice (some a) len cap) (.int k i) B = qIxA (n e) len a i B := rfl
theorem qIxA_some {m len b f : Nat} {i : Int} : qIxA (some m) len ⟨b, f, none⟩ i B = if 0 ≤ i ∧ i < (len : Int) then B (.pointer (some ⟨b, f + i.toNat * m, none⟩)) else False := by
  simp only [qIxA, addr_add]
theorem exists_ite {c : Prop} [Decidable c] {A : Value → Prop} : (∃ u, (if c then A u else False) ∧ ap B u) = if c then (∃ u, A u ∧ ap B u) else False := by
  split <;> simp
theorem qDo_ix {t : TypeId} {x i : Operand} : qDo P T (.indexAddr t x i) ty B F h = qIx (tarr P t) (tsl P t) (tn P) (ev F x) (ev F i) B := by
  show (∃ u, vIx _ _ _ _ _ (kEq u h) h ∧ ap B u) = _
  unfold vIx qIx
  cases ev F i with
  | int k i =>
    simp only
    rcases tarr P t with _ | ⟨len, e⟩
    · rcases tsl P t with _ | e
      · simp
      · cases ev F x with
        | slice a len cap =>
          cases a with
          | none => simp
          | some a =>
            simp only
            rcases tn P e with _ | n
            · simp
            · simp only; rw [exists_ite, qEq]
        | _ => simp
    · rcases tsl P t with _ | e'
      · cases ev F x with
        | pointer a =>
          cases a with
          | none => simp
          | some a =>
            simp only
            rcases tn P e with _ | n
            · simp
            · simp only; rw [exists_ite, qEq]
        | _ => simp
      · simp
  | _ => simp
def qExtract (v : Value) (i : Nat) (B : Value → Prop) : Prop := match v with | .tuple vs => qR (vs[i]?) B | _ => False
theorem qExtract_tuple {l : List Value} {i : Nat} : qExtract (.tuple l.toArray) i B = qR (nth l i) B := by simp [qExtract, nth_eq]
theorem qDo_extract {x : Operand} {i : Nat} : qDo P T (.extract x i) ty B F h = qExtract (ev F x) i B := by
  show (∃ u, vExtract _ _ (kEq u h) h ∧ ap B u) = _
  unfold vExtract qExtract
  cases ev F x with
  | tuple vs =>
    simp only [vRd1, qR]
    cases vs[i]? with
    | none => simp
    | some v => exact qEq
  | _ => simp
def qNil (v : Value) (B : Value → Prop) : Prop := match v with | .pointer (some a) => B (.pointer (some a)) | .func (.func f) x y => B (.func (.func f) x y) | _ => False
theorem qNil_pointer {a : Addr} : qNil (.pointer (some a)) B = B (.pointer (some a)) := rfl
theorem qDo_nil {x : Operand} : qDo P T (.nilCheck x) ty B F h = qNil (ev F x) B := by
  show (∃ u, vNil _ (kEq u h) h ∧ ap B u) = _
  unfold vNil qNil
  cases ev F x with
  | pointer a => cases a with
    | none => simp
    | some a => exact qEq
  | func f a b => cases f with
    | func f => exact qEq
    | _ => simp
  | _ => simp
/-- The others: the walk's own forms, their value found by simp. -/
def qV (A : (Value → Hp → Prop) → Prop) (B : Value → Prop) (h : Hp) : Prop := ∃ u, A (kEq u h) ∧ ap B u
theorem qDo_bin {op : BinOp} {t t' : TypeId} {x y : Operand} : qDo P T (.binOp op t x y t') ty B F h = ∃ u, vBin P op t x y (ev F x) (ev F y) (kEq u h) h ∧ ap B u := rfl
theorem qDo_un {op : UnOp} {t : TypeId} {x : Operand} : qDo P T (.unOp op t x) ty B F h = ∃ u, vUn P op (ev F x) (kEq u h) h ∧ ap B u := rfl
theorem qDo_conv {s d : TypeId} {x : Operand} : qDo P T (.convert s d x) ty B F h = ∃ u, vConv P s d (ev F x) (kEq u h) h ∧ ap B u := rfl
theorem qDo_bi {b : Builtin} {args : Array Operand} {ts : Array TypeId} : qDo P T (.call ⟨.builtin b, args, ts⟩) ty B F h =
    ∃ u, vBi P T b ts ty (args.map fun | .const _ => true | _ => false) (evL F args.toList) (kEq u h) h ∧ ap B u := rfl
end

/-! ### slots -/
theorem ev_tmp {t : Nat} : ev F (.tmp t) = F t := rfl
theorem ev_const {v : Value} : ev F (.const v) = v := rfl
theorem ev_global {g : Nat} : ev F (.global g) = .pointer (some ⟨g, 0, none⟩) := rfl
theorem ev_func {g : Nat} : ev F (.func g) = .func (.func g) #[] #[] := rfl
theorem updo_some {d : Nat} {v : Value} {t : Nat} : updo F (some d) v t = if t = d then v else F t := rfl
theorem updo_none {v : Value} : updo F none v = F := rfl
theorem upd_app {d : Nat} {v : Value} {t : Nat} : upd F d v t = if t = d then v else F t := rfl

/-! ### values -/
theorem vPick_bool {t : Bool} {a b : Value} : vPick (.bool t) a b K h = K (if t = true then a else b) h := rfl
theorem vNew_some {l : List Value} {t : TypeId} : vNew (some l) t K h = K (.pointer (some ⟨h.size, 0, none⟩)) (h.push (.cells l.toArray t)) := rfl
theorem vRd1_some {v : Value} : vRd1 (some v) K h = K v h := rfl
theorem vRdN_some {l : List Value} : vRdN (some l) K h = K (.agg l.toArray) h := rfl
theorem vLoad_one {n : Option Nat} {a : Addr} : vLoad (some false) n (.pointer (some a)) K h = vRd1 (hc h a) K h := rfl
theorem vLoad_many {n : Nat} {a : Addr} : vLoad (some true) (some n) (.pointer (some a)) K h = vRdN (rd h a n) K h := rfl
theorem vWr_some {h' : Hp} : vWr (some h') K = K undef h' := rfl
theorem vStore_int {n : Nat} {a : Addr} {k : IntKind} {i : Int} : vStore (some n) (.pointer (some a)) (.int k i) K h = if n = 1 then vWr (wr1 h a (.int k i)) K else False := rfl
theorem vStore_bool {n : Nat} {a : Addr} {b : Bool} : vStore (some n) (.pointer (some a)) (.bool b) K h = if n = 1 then vWr (wr1 h a (.bool b)) K else False := rfl
theorem vStore_slice {n : Nat} {a : Addr} {p : Option Addr} {l c : Nat} : vStore (some n) (.pointer (some a)) (.slice p l c) K h = if n = 1 then vWr (wr1 h a (.slice p l c)) K else False := rfl
theorem vStore_string {n : Nat} {a : Addr} {s : ByteArray} : vStore (some n) (.pointer (some a)) (.string s) K h = if n = 1 then vWr (wr1 h a (.string s)) K else False := rfl
theorem vStore_pointer {n : Nat} {a : Addr} {p : Option Addr} : vStore (some n) (.pointer (some a)) (.pointer p) K h = if n = 1 then vWr (wr1 h a (.pointer p)) K else False := rfl
theorem vStore_map {n : Nat} {a : Addr} {p : Option Nat} : vStore (some n) (.pointer (some a)) (.map p) K h = if n = 1 then vWr (wr1 h a (.map p)) K else False := rfl
theorem vStore_func {n : Nat} {a : Addr} {f : Fn} {x y : Array Value} : vStore (some n) (.pointer (some a)) (.func f x y) K h = if n = 1 then vWr (wr1 h a (.func f x y)) K else False := rfl
theorem vStore_nilFunc {n : Nat} {a : Addr} : vStore (some n) (.pointer (some a)) .nilFunc K h = if n = 1 then vWr (wr1 h a .nilFunc) K else False := rfl
theorem vStore_agg {n : Nat} {a : Addr} {l : List Value} : vStore (some n) (.pointer (some a)) (.agg l.toArray) K h = if n = l.length then vWr (wr h a l) K else False := rfl
theorem vField_some {o b f : Nat} : vField (some o) (.pointer (some ⟨b, f, none⟩)) K h = K (.pointer (some ⟨b, f + o, none⟩)) h := by
  show K (.pointer (some (Addr.add _ _))) h = _; rw [addr_add]
def vIxA (m : Option Nat) (len : Nat) (a : Addr) (i : Int) (K : Value → Hp → Prop) (h : Hp) : Prop :=
  match m with | some m => if 0 ≤ i ∧ i < (len : Int) then K (.pointer (some (a.add (i.toNat * m)))) h else False | none => False
theorem vIx_arr {len : Nat} {e : TypeId} {n : TypeId → Option Nat} {a : Addr} {k : IntKind} {i : Int} :
    vIx (some (len, e)) none n (.pointer (some a)) (.int k i) K h = vIxA (n e) len a i K h := rfl
theorem vIx_slice {len cap : Nat} {e : TypeId} {n : TypeId → Option Nat} {a : Addr} {k : IntKind} {i : Int} :
    vIx none (some e) n (.slice (some a) len cap) (.int k i) K h = vIxA (n e) len a i K h := rfl
theorem vIxA_some {m len b f : Nat} {i : Int} : vIxA (some m) len ⟨b, f, none⟩ i K h = if 0 ≤ i ∧ i < (len : Int) then K (.pointer (some ⟨b, f + i.toNat * m, none⟩)) h else False := by
  simp only [vIxA, addr_add]
theorem vExtract_tuple {l : List Value} {i : Nat} : vExtract (.tuple l.toArray) i K h = vRd1 (nth l i) K h := by simp [vExtract, nth_eq]
theorem vNil_pointer {a : Addr} : vNil (.pointer (some a)) K h = K (.pointer (some a)) h := rfl
theorem vNil_func {f : FuncId} {x y : Array Value} : vNil (.func (.func f) x y) K h = K (.func (.func f) x y) h := rfl
theorem vCall_func {f : FuncId} {l : List Value} (hg : goes P f = true) : vCall P T (.func (.func f) #[] #[]) l K h = CallsH P T f l.toArray h K := by
  simp only [vCall, hg, ↓reduceIte]
  simp
/-! ### integers -/
theorem vBin_add {t : TypeId} {x y : Operand} {k : IntKind} {a b : Int} : vBin P .add t x y (.int k a) (.int k b) K h = K (.int k (k.wrap (a + b))) h := by
  simp [vBin, binOp, Op.intArith, hw_pure, eqGuard]
theorem vBin_sub {t : TypeId} {x y : Operand} {k : IntKind} {a b : Int} : vBin P .sub t x y (.int k a) (.int k b) K h = K (.int k (k.wrap (a - b))) h := by
  simp [vBin, binOp, Op.intArith, hw_pure, eqGuard]
theorem vBin_mul {t : TypeId} {x y : Operand} {k : IntKind} {a b : Int} : vBin P .mul t x y (.int k a) (.int k b) K h = K (.int k (k.wrap (a * b))) h := by
  simp [vBin, binOp, Op.intArith, hw_pure, eqGuard]
theorem vBin_quo {t : TypeId} {x y : Operand} {k : IntKind} {a b : Int} : vBin P .quo t x y (.int k a) (.int k b) K h = if b = 0 then False else K (.int k (k.wrap (a.tdiv b))) h := by
  simp only [vBin, binOp, Op.intDiv, hw_bind, eqGuard]
  by_cases hb : b = 0
  · subst hb; simp [runtimePanic, goPanic, hw_bind, hw, hw_pure, program]
  · simp [hb, hw_pure]
theorem vBin_rem {t : TypeId} {x y : Operand} {k : IntKind} {a b : Int} : vBin P .rem t x y (.int k a) (.int k b) K h = if b = 0 then False else K (.int k (a.tmod b)) h := by
  simp only [vBin, binOp, Op.intDiv, hw_bind, eqGuard]
  by_cases hb : b = 0
  · subst hb; simp [runtimePanic, goPanic, hw_bind, hw, hw_pure, program]
  · simp [hb, hw_pure]
/-- What '&', '|', '^', '&^' make of two numbers of a kind. -/
def bitOp (op : BinOp) (k : IntKind) (a b : Int) : Int :=
  let x := BitVec.ofInt k.bits a
  let y := BitVec.ofInt k.bits b
  k.wrap (match op with | .and => x &&& y | .or => x ||| y | .xor => x ^^^ y | _ => x &&& ~~~y).toNat
theorem vBin_and {t : TypeId} {x y : Operand} {k : IntKind} {a b : Int} : vBin P .and t x y (.int k a) (.int k b) K h = K (.int k (bitOp .and k a b)) h := by
  simp [vBin, binOp, Op.intBits, hw_pure, eqGuard, bitOp]
theorem vBin_or {t : TypeId} {x y : Operand} {k : IntKind} {a b : Int} : vBin P .or t x y (.int k a) (.int k b) K h = K (.int k (bitOp .or k a b)) h := by
  simp [vBin, binOp, Op.intBits, hw_pure, eqGuard, bitOp]
theorem vBin_xor {t : TypeId} {x y : Operand} {k : IntKind} {a b : Int} : vBin P .xor t x y (.int k a) (.int k b) K h = K (.int k (bitOp .xor k a b)) h := by
  simp [vBin, binOp, Op.intBits, hw_pure, eqGuard, bitOp]
theorem vBin_andNot {t : TypeId} {x y : Operand} {k : IntKind} {a b : Int} : vBin P .andNot t x y (.int k a) (.int k b) K h = K (.int k (bitOp .andNot k a b)) h := by
  simp [vBin, binOp, Op.intBits, hw_pure, eqGuard, bitOp]
/-- A shift, by a count that is not below 0. -/
def shlOp (k : IntKind) (a b : Int) : Int := k.wrap (a * 2 ^ min b.toNat k.bits)
def shrOp (k : IntKind) (a b : Int) : Int := a.fdiv (2 ^ min b.toNat k.bits)
theorem vBin_shl {t : TypeId} {x y : Operand} {k k' : IntKind} {a b : Int} : vBin P .shl t x y (.int k a) (.int k' b) K h = if b < 0 then False else K (.int k (shlOp k a b)) h := by
  simp only [vBin, binOp, Op.shift, hw_bind, eqGuard]
  by_cases hb : b < 0
  · simp [hb, runtimePanic, goPanic, hw_bind, hw, hw_pure, program]
  · simp [hb, hw_pure, shlOp]
theorem vBin_shr {t : TypeId} {x y : Operand} {k k' : IntKind} {a b : Int} : vBin P .shr t x y (.int k a) (.int k' b) K h = if b < 0 then False else K (.int k (shrOp k a b)) h := by
  simp only [vBin, binOp, Op.shift, hw_bind, eqGuard]
  by_cases hb : b < 0
  · simp [hb, runtimePanic, goPanic, hw_bind, hw, hw_pure, program]
  · simp [hb, hw_pure, shrOp]
theorem vBin_eql {t : TypeId} {x y : Operand} {k : IntKind} {a b : Int} : vBin P .eql t x y (.int k a) (.int k b) K h = K (.bool (decide (a = b))) h := by
  simp [vBin, binOp, Op.intCmp, hw_pure, eqGuard]; rfl
theorem vBin_neq {t : TypeId} {x y : Operand} {k : IntKind} {a b : Int} : vBin P .neq t x y (.int k a) (.int k b) K h = K (.bool (decide (a ≠ b))) h := by
  simp [vBin, binOp, Op.intCmp, hw_pure, eqGuard]
  have : (a != b) = !decide (a = b) := by rfl
  rw [this]
theorem vBin_lss {t : TypeId} {x y : Operand} {k : IntKind} {a b : Int} : vBin P .lss t x y (.int k a) (.int k b) K h = K (.bool (decide (a < b))) h := by
  simp [vBin, binOp, Op.intCmp, hw_pure, eqGuard]
theorem vBin_leq {t : TypeId} {x y : Operand} {k : IntKind} {a b : Int} : vBin P .leq t x y (.int k a) (.int k b) K h = K (.bool (decide (a ≤ b))) h := by
  simp [vBin, binOp, Op.intCmp, hw_pure, eqGuard]
theorem vBin_gtr {t : TypeId} {x y : Operand} {k : IntKind} {a b : Int} : vBin P .gtr t x y (.int k a) (.int k b) K h = K (.bool (decide (b < a))) h := by
  simp [vBin, binOp, Op.intCmp, hw_pure, eqGuard]
theorem vBin_geq {t : TypeId} {x y : Operand} {k : IntKind} {a b : Int} : vBin P .geq t x y (.int k a) (.int k b) K h = K (.bool (decide (b ≤ a))) h := by
  simp [vBin, binOp, Op.intCmp, hw_pure, eqGuard]
theorem vUn_not {b : Bool} : vUn P .not (.bool b) K h = K (.bool (!b)) h := rfl
theorem vUn_neg {k : IntKind} {a : Int} : vUn P .neg (.int k a) K h = K (.int k (k.wrap (0 - a))) h := rfl
theorem vUn_xor {k : IntKind} {a : Int} : vUn P .xor (.int k a) K h = K (.int k (bitOp .xor k (if k.signed then -1 else k.max) a)) h := rfl
def vConvI (d : Option IntKind) (a : Int) (K : Value → Hp → Prop) (h : Hp) : Prop := match d with | some k => K (.int k (k.wrap a)) h | none => False
theorem vConvI_some {k : IntKind} {a : Int} : vConvI (some k) a K h = K (.int k (k.wrap a)) h := rfl
theorem vConv_int {s d : TypeId} {j : IntKind} {a : Int} (hs : (tint P s).isSome = true) (hd : (tint P d).isSome = true) : vConv P s d (.int j a) K h = vConvI (tint P d) a K h := by
  unfold tint at hd hs
  split at hd
  · rename_i k1 h1
    split at hs
    · rename_i k2 h2
      simp only [vConv, convert, hw_bind, run_under h1, run_under h2]
      unfold tint
      rw [h1]
      rfl
    · cases hs
  · cases hd

/-! ### strings and bools -/
theorem run_equalB {t : TypeId} {d : Nat} {a b : Bool} (ht : P.underlying t = some .bool) {Q : Bool → Hp → Prop} : hw P (Op.equalIn (d + 1) t (.bool a) (.bool b)) Q h = Q (a == b) h := by
  simp only [Op.equalIn]; rw [hw_bind, run_under ht]; rfl
theorem vBin_eqlB {t : TypeId} {x y : Operand} {a b : Bool} (ht : P.underlying t = some .bool) : vBin P .eql t x y (.bool a) (.bool b) K h = K (.bool (a == b)) h := by
  show hw P (do pure (.bool (← Op.equalIn (9999 + 1) t (.bool a) (.bool b)))) K h = _
  rw [hw_bind, run_equalB ht]; rfl
theorem vBin_neqB {t : TypeId} {x y : Operand} {a b : Bool} (ht : P.underlying t = some .bool) : vBin P .neq t x y (.bool a) (.bool b) K h = K (.bool (!(a == b))) h := by
  show hw P (do pure (.bool (!(← Op.equalIn (9999 + 1) t (.bool a) (.bool b))))) K h = _
  rw [hw_bind, run_equalB ht]; rfl
theorem vBin_eqlS {t : TypeId} {x y : Operand} {a b : ByteArray} : vBin P .eql t x y (.string a) (.string b) K h = K (.bool (a.toList == b.toList)) h := by
  simp [vBin, binOp, Op.stringOp, hw_pure, eqGuard]
theorem vBin_neqS {t : TypeId} {x y : Operand} {a b : ByteArray} : vBin P .neq t x y (.string a) (.string b) K h = K (.bool (!(a.toList == b.toList))) h := by
  simp [vBin, binOp, Op.stringOp, hw_pure, eqGuard]

/-! ### builtins -/
theorem vBi_lenSlice {cs : Array Bool} {t : TypeId} {p : Option Addr} {l c : Nat} (ht : (tsl P t).isSome = true) :
    vBi P T .len #[t] ty cs [.slice p l c] K h = K (.int .i64 l) h := by
  unfold tsl at ht
  split at ht
  · rename_i e' hu
    simp [vBi, builtin, Builtin.len_, hw_bind, hw_pure, run_under hu, vNext, goInt]
  · cases ht
theorem tstr_spec {t : TypeId} (h : tstr P t = true) : P.underlying t = some .string := by
  unfold tstr at h; split at h
  · assumption
  · cases h
def tboo (P : Program) (t : TypeId) : Bool := match P.underlying t with | some .bool => true | _ => false
theorem tboo_spec {t : TypeId} (h : tboo P t = true) : P.underlying t = some .bool := by
  unfold tboo at h; split at h
  · assumption
  · cases h
theorem vBi_lenString {cs : Array Bool} {t : TypeId} {s : ByteArray} (ht : tstr P t = true) :
    vBi P T .len #[t] ty cs [.string s] K h = K (.int .i64 s.size) h := by
  simp [vBi, builtin, Builtin.len_, hw_bind, hw_pure, run_under (tstr_spec ht), vNext, goInt]
theorem vBi_min {ts : Array TypeId} {cs : Array Bool} {k k' : IntKind} {a b : Int} : vBi P T .min ts ty cs [.int k a, .int k' b] K h = K (.int k (if b < a then b else a)) h := by
  simp [vBi, builtin, Builtin.min_, Builtin.min2, hw_pure, vNext]
theorem vBi_max {ts : Array TypeId} {cs : Array Bool} {k k' : IntKind} {a b : Int} : vBi P T .max ts ty cs [.int k a, .int k' b] K h = K (.int k (if b > a then b else a)) h := by
  simp [vBi, builtin, Builtin.max_, Builtin.max2, hw_pure, vNext]
end
/-! ### composite values -/
section
variable {P : Program} {T : World} {K : Value → Hp → Prop} {F : Env} {h : Hp} {ty : TypeId} {B : Value → Prop}
def fillAt (p : Option (Nat × Nat)) (place : Nat → Option (Nat × Nat)) (cs : List Value) (v : Value) (l : List (Nat × Value)) : Option (List Value) :=
  match p with
  | some (o, s) => if (cl v).length = s ∧ o + s ≤ cs.length then fillL place (lput cs o (cl v)) l else none
  | none => none
theorem fillL_nil {place : Nat → Option (Nat × Nat)} {cs : List Value} : fillL place cs [] = some cs := rfl
theorem fillL_cons {place : Nat → Option (Nat × Nat)} {cs : List Value} {i : Nat} {v : Value} {l : List (Nat × Value)} : fillL place cs ((i, v) :: l) = fillAt (place i) place cs v l := rfl
theorem fillAt_some {o s : Nat} {place : Nat → Option (Nat × Nat)} {cs : List Value} {v : Value} {l : List (Nat × Value)} :
    fillAt (some (o, s)) place cs v l = if (cl v).length = s ∧ o + s ≤ cs.length then fillL place (lput cs o (cl v)) l else none := rfl
theorem arrPl_app {n i : Nat} : arrPl n i = some (i * n, n) := rfl
theorem vBuild_struct {z : List Value} {pl : List (Nat × Nat)} {n : TypeId → Option Nat} {parts : List (Nat × Value)} : vBuild (some z) (some pl) none n parts K h = vRdN (fillL (nth pl) z parts) K h := rfl
theorem vBuild_arr {z : List Value} {m e : Nat} {n : TypeId → Option Nat} {parts : List (Nat × Value)} : vBuild (some z) none (some (m, e)) n parts K h = vBuildA (n e) z parts K h := rfl
theorem vBuildA_some {z : List Value} {n : Nat} {parts : List (Nat × Value)} : vBuildA (some n) z parts K h = vRdN (fillL (arrPl n) z parts) K h := rfl
theorem vMade_some {e : TypeId} {len : Nat} {l : List Value} : vMade e len (some l) K h = K (.slice (some ⟨h.size, 0, none⟩) len len) (h.push (.cells l.toArray e)) := rfl
theorem vBuildSlA_some {e : TypeId} {n len : Nat} {z : List Value} {parts : List (Nat × Value)} : vBuildSlA e (some n) (some z) len parts K h = if z.length = n ∧ len * n ≤ 16777216 then vMade e len (slCells n len z parts) K h else False := rfl
theorem vBuildSl_some {e : TypeId} {n : TypeId → Option Nat} {z : TypeId → Option (List Value)} {len : Nat} {parts : List (Nat × Value)} : vBuildSl (some e) n z len parts K h = vBuildSlA e (n e) (z e) len parts K h := rfl
theorem vPart_true {n o : Nat} {cs : List Value} : vPart (some true) (some n) cs o K h = K (.agg ((cs.drop o).take n).toArray) h := rfl
theorem vPart_false {n : Option Nat} {o : Nat} {cs : List Value} : vPart (some false) n cs o K h = vRd1 (nth cs o) K h := rfl
theorem vFld_some {o t : Nat} {a : TypeId → Option Bool} {n : TypeId → Option Nat} {cs : List Value} : vFld (some (o, t)) a n (.agg cs.toArray) K h = vPart (a t) (n t) cs o K h := rfl
theorem vIdx_arr {len e : Nat} {a : TypeId → Option Bool} {n : TypeId → Option Nat} {cs : List Value} {k : IntKind} {i : Int} : vIdx (some (len, e)) false a n (.agg cs.toArray) (.int k i) K h = vIdxA (n e) (a e) len cs i K h := rfl
theorem vIdxA_some {m len : Nat} {a : Option Bool} {cs : List Value} {i : Int} : vIdxA (some m) a len cs i K h = if 0 ≤ i ∧ i < (len : Int) then vPart a (some m) cs (i.toNat * m) K h else False := rfl
theorem vIdx_str {a : TypeId → Option Bool} {n : TypeId → Option Nat} {s : ByteArray} {k : IntKind} {i : Int} : vIdx none true a n (.string s) (.int k i) K h = if 0 ≤ i ∧ i < (s.size : Int) then K (.int .u8 ((s.data.toList.getD i.toNat 0).toNat : Nat)) h else False := rfl
theorem sb_none {d y : Nat} : sb none d y = some d := rfl
theorem sb_int {k : IntKind} {i : Int} {d y : Nat} : sb (some (.int k i)) d y = if 0 ≤ i ∧ i ≤ (y : Int) then some i.toNat else none := rfl
def vSlcL (a : Option Addr) (n cap b : Nat) (l : Option Nat) (K : Value → Hp → Prop) (h : Hp) : Prop :=
  match l with | some l => K (.slice (if cap = l then a else a.map (·.add (l * n))) (b - l) (cap - l)) h | none => False
def vSlcH (n : Nat) (a : Option Addr) (cap : Nat) (lo : Option Value) (b : Option Nat) (K : Value → Hp → Prop) (h : Hp) : Prop :=
  match b with | some b => vSlcL a n cap b (sb lo 0 b) K h | none => False
theorem vSlcS_some {n : Nat} {a : Option Addr} {len cap : Nat} {lo hi : Option Value} : vSlcS (some n) a len cap lo hi K h = vSlcH n a cap lo (sb hi len cap) K h := by
  unfold vSlcS vSlcH vSlcL
  cases sb hi len cap <;> rfl
theorem vSlcH_some {n b : Nat} {a : Option Addr} {cap : Nat} {lo : Option Value} : vSlcH n a cap lo (some b) K h = vSlcL a n cap b (sb lo 0 b) K h := rfl
theorem vSlcL_some {n b l k o : Nat} {cap : Nat} : vSlcL (some ⟨k, o, none⟩) n cap b (some l) K h = K (.slice (if cap = l then some ⟨k, o, none⟩ else some ⟨k, o + l * n, none⟩) (b - l) (cap - l)) h := by
  simp only [vSlcL, Option.map_some, addr_add]
theorem vSlcL_none {n b l : Nat} {cap : Nat} : vSlcL none n cap b (some l) K h = K (.slice none (b - l) (cap - l)) h := by
  simp [vSlcL]
theorem vSlc_slice {e : Nat} {str : Bool} {n : TypeId → Option Nat} {a : Option Addr} {len cap : Nat} {lo hi : Option Value} : vSlc none (some e) str n (.slice a len cap) lo hi none K h = vSlcS (n e) a len cap lo hi K h := rfl
def vSlc3 (n : Option Nat) (a : Option Addr) (len : Nat) (lo : Option Value) (hv : Value) (m : Option Nat) (K : Value → Hp → Prop) (h : Hp) : Prop := match m with | some m => vSlcS n a len m lo (some hv) K h | none => False
theorem vSlc3_some {n : Option Nat} {a : Option Addr} {len m : Nat} {lo : Option Value} {hv : Value} : vSlc3 n a len lo hv (some m) K h = vSlcS n a len m lo (some hv) K h := rfl
theorem vSlc_max {e : Nat} {str : Bool} {n : TypeId → Option Nat} {a : Option Addr} {len cap : Nat} {lo : Option Value} {hv mv : Value} : vSlc none (some e) str n (.slice a len cap) lo (some hv) (some mv) K h = vSlc3 (n e) a len lo hv (sb (some mv) 0 cap) K h := by
  simp only [vSlc, vSlc3]
  cases sb (some mv) 0 cap <;> rfl
theorem vSlc_arr {e len : Nat} {str : Bool} {n : TypeId → Option Nat} {a : Addr} {lo hi : Option Value} : vSlc (some (len, e)) none str n (.pointer (some a)) lo hi none K h = vSlcS (n e) (some a) len len lo hi K h := rfl
def vSlcT (s : ByteArray) (lo : Option Value) (b : Option Nat) (K : Value → Hp → Prop) (h : Hp) : Prop :=
  match b with
  | some b => (match sb lo 0 b with | some l => K (.string (s.extract l b)) h | none => False)
  | none => False
theorem vSlc_str {n : TypeId → Option Nat} {s : ByteArray} {lo hi : Option Value} : vSlc none none true n (.string s) lo hi none K h = vSlcT s lo (sb hi s.size s.size) K h := rfl
theorem vMk_ints {e : Nat} {n b' : TypeId → Option Nat} {z : TypeId → Option (List Value)} {k k' : IntKind} {l c : Int} : vMk (some e) n b' z (.int k l) (.int k' c) K h = vMkA e (n e) (b' e) (z e) l c K h := rfl
theorem vMkA_some {e n by' : Nat} {z : List Value} {l c : Int} : vMkA e (some n) (some by') (some z) l c K h =
    if z.length = n ∧ 0 ≤ l ∧ l ≤ c ∧ c ≤ 9223372036854775807 ∧ (by' : Int) * c ≤ 281474976710656 then K (.slice (some ⟨h.size, 0, none⟩) l.toNat c.toNat) (h.push (.cells (zrep c.toNat z).toArray e)) else False := rfl
theorem qDo_fld {t : TypeId} {x : Operand} {i : Nat} : qDo P T (.field t x i) ty B F h = ∃ u, vFld (tfl P t i) (ta P) (tn P) (ev F x) (kEq u h) h ∧ ap B u := rfl
theorem qDo_idx {t : TypeId} {x i : Operand} : qDo P T (.index t x i) ty B F h = ∃ u, vIdx (tarr P t) (tstr P t) (ta P) (tn P) (ev F x) (ev F i) (kEq u h) h ∧ ap B u := rfl
theorem qDo_slc {t : TypeId} {x : Operand} {lo hi mx : Option Operand} : qDo P T (.slice t x lo hi mx) ty B F h = ∃ u, vSlc (tarr P t) (tsl P t) (tstr P t) (tn P) (ev F x) (evO F lo) (evO F hi) (evO F mx) (kEq u h) h ∧ ap B u := rfl
theorem qDo_build {t : TypeId} {parts : Array (Nat × Operand)} : qDo P T (.build t parts) ty B F h = ∃ u, vBuild (tz P t) (tpl P t) (tarr P t) (tn P) (evP F parts.toList) (kEq u h) h ∧ ap B u := rfl

/-! ### cells just made -/
theorem cl_agg {l : List Value} : cl (.agg l.toArray) = l := rfl
theorem hc_push {l : List Value} {t : TypeId} {b o : Nat} : hc (h.push (.cells l.toArray t)) ⟨b, o, none⟩ = if b = h.size then nth l o else hc h ⟨b, o, none⟩ := by
  unfold hc
  simp only [Array.getElem?_push]
  by_cases hb : b = h.size
  · subst hb; simp [nth_eq]
  · simp [hb]
theorem rd_push {l : List Value} {t : TypeId} {b o n : Nat} : rd (h.push (.cells l.toArray t)) ⟨b, o, none⟩ n = if b = h.size then (if o + n ≤ l.length then some ((l.drop o).take n) else none) else rd h ⟨b, o, none⟩ n := by
  unfold rd
  simp only [Array.getElem?_push]
  by_cases hb : b = h.size
  · subst hb; simp
  · simp [hb]
def opush (x : Option Hp) (o : Obj) : Option Hp := match x with | some h => some (h.push o) | none => none
theorem opush_some {o : Obj} : opush (some h) o = some (h.push o) := rfl
theorem set_push {o o' : Obj} {b : Nat} (hb : b < h.size) : (h.push o).setIfInBounds b o' = (h.setIfInBounds b o').push o := by
  apply Array.ext_getElem?
  intro i
  simp only [Array.getElem?_setIfInBounds, Array.getElem?_push, Array.size_push, Array.size_setIfInBounds]
  by_cases h1 : b = i
  · subst h1
    rw [if_pos rfl, if_pos (by omega), if_neg (by omega), if_pos rfl, if_pos hb]
  · rw [if_neg h1]
    by_cases h2 : i = h.size
    · rw [if_pos h2, if_pos h2]
    · rw [if_neg h2, if_neg h2, if_neg h1]
theorem set_push_eq {o o' : Obj} : (h.push o).setIfInBounds h.size o' = h.push o' := by
  apply Array.ext_getElem?
  intro i
  simp only [Array.getElem?_setIfInBounds, Array.getElem?_push, Array.size_push]
  by_cases h1 : h.size = i
  · subst h1; rw [if_pos rfl, if_pos (by omega), if_pos rfl]
  · rw [if_neg h1, if_neg (fun e => h1 e.symm), if_neg (fun e => h1 e.symm)]
theorem wr1_push {l : List Value} {t : TypeId} {b o : Nat} {v : Value} : wr1 (h.push (.cells l.toArray t)) ⟨b, o, none⟩ v = if b = h.size then (if o < l.length ∧ oneC v = true then some (h.push (.cells (l.set o v).toArray t)) else none) else opush (wr1 h ⟨b, o, none⟩ v) (.cells l.toArray t) := by
  unfold wr1
  simp only [Array.getElem?_push]
  by_cases hb : b = h.size
  · subst hb
    simp only [↓reduceIte, List.size_toArray, Nat.le_refl, true_and, set_push_eq, List.setIfInBounds_toArray]
  · simp only [if_neg hb]
    cases hx : h[b]? with
    | none => rfl
    | some ob =>
      have hlt := (Array.getElem?_eq_some_iff.1 hx).1
      cases ob with
      | cells c e fr =>
        obtain ⟨lo, hi⟩ := fr
        simp only
        split
        · simp only [opush, set_push hlt]
        · rfl
      | _ => rfl
theorem wr_push {l : List Value} {t : TypeId} {b o : Nat} {vs : List Value} : wr (h.push (.cells l.toArray t)) ⟨b, o, none⟩ vs = if b = h.size then (if o + vs.length ≤ l.length ∧ vs.all oneC = true then some (h.push (.cells (lput l o vs).toArray t)) else none) else opush (wr h ⟨b, o, none⟩ vs) (.cells l.toArray t) := by
  unfold wr
  simp only [Array.getElem?_push]
  by_cases hb : b = h.size
  · subst hb
    simp only [↓reduceIte, List.size_toArray, Nat.le_refl, true_and, set_push_eq]
  · simp only [if_neg hb]
    cases hx : h[b]? with
    | none => rfl
    | some ob =>
      have hlt := (Array.getElem?_eq_some_iff.1 hx).1
      cases ob with
      | cells c e fr =>
        obtain ⟨lo, hi⟩ := fr
        simp only
        split
        · simp only [opush, set_push hlt]
        · rfl
      | _ => rfl
end
end Go.V
