/- W9: a region that draws its order, where more than one operation may come next: each of them is walked. -/
import Derived.Test.YtiakfdpmapmifaaW8
namespace Go.V
set_option linter.unusedVariables false
set_option linter.unusedSimpArgs false
/-- An order with choices: 'q' a quiet operation, taken first; 's' the one that comes; 'or' one of those that may come, or else the rest. -/
inductive Tr where
  | nil
  | q (i : Nat) (t : Tr)
  | s (i : Nat) (t : Tr)
  | or (i : Nat) (t : Tr) (r : Tr)
def Tr.alts : Tr → List Nat
  | .s i _ => [i]
  | .or i _ r => i :: r.alts
  | _ => []
def Tr.ok (ops : Array Oper) : Tr → Nat → Array Bool → Bool → Bool
  | .nil, n, listed, _ => Nat.beq n 0 && (Region.ready .any ops listed).isEmpty
  | .q _ _, 0, _, _ => false
  | .q i t, n + 1, listed, _ => ((Region.ready .any ops listed).contains i && Region.free .any ops listed i) && t.ok ops n (listed.setIfInBounds i true) true
  | .s _ _, 0, _, _ => false
  | .s i t, n + 1, listed, b => (!b || (Region.ready .any ops listed == [i])) && t.ok ops n (listed.setIfInBounds i true) true
  | .or _ _ _, 0, _, _ => false
  | .or i t r, n + 1, listed, b => (!b || (Region.ready .any ops listed == i :: r.alts)) && (t.ok ops n (listed.setIfInBounds i true) true && r.ok ops (n + 1) listed false)
section
variable {P : Program} {n : Nat} {T : World} {N : Env → Hp → Prop} {X : Nat → Env → Hp → Prop} {R : Env → Hp → Prop} {F : Env} {h : Hp}
def vTr (P : Program) (T : World) (ops : Array Oper) (S : Hp → Prop) (N : Env → Hp → Prop) : Tr → Env → Hp → Prop
  | .nil, F, h => N F h
  | .q i t, F, h => match ops[i]? with
    | some o => if wantedF ops o F then ∃ v, (∀ h', S h' → vOp P T o (fun v' h'' => v' = v ∧ h'' = h') F h') ∧ vTr P T ops S N t (updo F o.dst v) h else vTr P T ops S N t (updo F o.dst undef) h
    | none => False
  | .s i t, F, h => vOpI P T ops i (fun F' h' => S h' ∧ vTr P T ops S N t F' h') F h
  | .or i t r, F, h => vOpI P T ops i (fun F' h' => S h' ∧ vTr P T ops S N t F' h') F h ∧ vTr P T ops S N r F h
theorem vAny_of_vTr {ops : Array Oper} {S : Hp → Prop} (hs : Region.noSelect ops = true) : ∀ (t : Tr),
    (∀ (k : Nat) (listed : Array Bool) (F : Env) (h : Hp), t.ok ops k listed true = true → S h → vTr P T ops S N t F h → vAny P T ops S N k listed F h) ∧
    (∀ (k : Nat) (listed : Array Bool) (F : Env) (h : Hp), t.ok ops (k + 1) listed false = true → S h → vTr P T ops S N t F h → ∀ j ∈ t.alts, vOpI P T ops j (fun F' h' => S h' ∧ vAny P T ops S N k (listed.setIfInBounds j true) F' h') F h) := by
  intro t
  induction t with
  | nil =>
    refine ⟨fun k listed F h hB hS H => ?_, fun k listed F h _ _ _ j hj => by cases hj⟩
    simp only [Tr.ok, Bool.and_eq_true, List.isEmpty_iff] at hB
    obtain ⟨h1, h2⟩ := hB
    obtain rfl := Nat.eq_of_beq_eq_true h1
    exact ⟨h2, H⟩
  | q i t ih =>
    refine ⟨fun k listed F h hB hS H => ?_, fun k listed F h _ _ _ j hj => by cases hj⟩
    cases k with
    | zero => simp [Tr.ok] at hB
    | succ k =>
      simp only [Tr.ok, Bool.and_eq_true] at hB
      obtain ⟨⟨h1, h2⟩, h3⟩ := hB
      have hri : i ∈ Region.ready .any ops listed := by simpa using h1
      obtain ⟨_, o, ho, _⟩ := mem_ready.1 hri
      simp only [vTr, ho] at H
      split at H
      · rename_i hw
        obtain ⟨v, hv, H⟩ := H
        exact vAny_first ho (Region.noSelect_spec hs) k listed F h (Region.free_spec ho h2) hri (.inl ⟨hw, hv⟩) hS (ih.1 k _ _ _ h3 hS H)
      · rename_i hw
        exact vAny_first ho (Region.noSelect_spec hs) k listed F h (Region.free_spec ho h2) hri (.inr ⟨by simpa using hw, rfl⟩) hS (ih.1 k _ _ _ h3 hS H)
  | s i t ih =>
    have second : ∀ (k : Nat) (listed : Array Bool) (F : Env) (h : Hp), t.ok ops k (listed.setIfInBounds i true) true = true → vTr P T ops S N (.s i t) F h → vOpI P T ops i (fun F' h' => S h' ∧ vAny P T ops S N k (listed.setIfInBounds i true) F' h') F h := by
      intro k listed F h hB H
      exact vOpI_mono (fun F' h' q => ⟨q.1, ih.1 k _ _ _ hB q.1 q.2⟩) H
    refine ⟨fun k listed F h hB hS H => ?_, fun k listed F h hB hS H j hj => ?_⟩
    · cases k with
      | zero => simp [Tr.ok] at hB
      | succ k =>
        simp only [Tr.ok, Bool.and_eq_true, Bool.not_true, Bool.false_or, beq_iff_eq] at hB
        refine ⟨fun h0 => (by rw [hB.1] at h0; cases h0), fun j hj => ?_⟩
        rw [hB.1] at hj
        have hj : j = i := by simpa using hj
        subst hj
        exact second k listed F h hB.2 H
    · simp only [Tr.ok, Bool.and_eq_true] at hB
      have hj : j = i := by simpa [Tr.alts] using hj
      subst hj
      exact second k listed F h hB.2 H
  | or i t r iht ihr =>
    have second : ∀ (k : Nat) (listed : Array Bool) (F : Env) (h : Hp), t.ok ops k (listed.setIfInBounds i true) true = true → r.ok ops (k + 1) listed false = true → S h → vTr P T ops S N (.or i t r) F h → ∀ j ∈ (Tr.or i t r).alts, vOpI P T ops j (fun F' h' => S h' ∧ vAny P T ops S N k (listed.setIfInBounds j true) F' h') F h := by
      intro k listed F h hB hR hS H j hj
      rcases List.mem_cons.1 hj with hj | hj
      · subst hj
        exact vOpI_mono (fun F' h' q => ⟨q.1, iht.1 k _ _ _ hB q.1 q.2⟩) H.1
      · exact ihr.2 k listed F h hR hS H.2 j hj
    refine ⟨fun k listed F h hB hS H => ?_, fun k listed F h hB hS H j hj => ?_⟩
    · cases k with
      | zero => simp [Tr.ok] at hB
      | succ k =>
        simp only [Tr.ok, Bool.and_eq_true, Bool.not_true, Bool.false_or, beq_iff_eq] at hB
        refine ⟨fun h0 => (by rw [hB.1] at h0; cases h0), fun j hj => ?_⟩
        rw [hB.1] at hj
        exact second k listed F h hB.2.1 hB.2.2 hS H j hj
    · simp only [Tr.ok, Bool.and_eq_true] at hB
      exact second k listed F h hB.2.1 hB.2.2 hS H j hj
/-! by name, for simp -/
def tHB (P : Program) (T : World) (ops : List Oper) (B : Nat) (h0 : Hp) (N : Env → Hp → Prop) : Tr → Env → Hp → Prop
  | .nil, F, h => N F h
  | .q i t, F, h => match nth ops i with
    | some ⟨d, op, ty, _, _, none⟩ => hDo P T B h0 op ty (fun v => tHB P T ops B h0 N t (updo F d v) h) F
    | some ⟨d, op, ty, _, _, some (j, b)⟩ => vGuard (gval ops F j) b (hDo P T B h0 op ty (fun v => tHB P T ops B h0 N t (updo F d v) h) F) (tHB P T ops B h0 N t (updo F d undef) h)
    | none => False
  | .s i t, F, h => match nth ops i with
    | some ⟨d, op, ty, _, _, none⟩ => vDo P T op ty (fun v h' => Bel B h0 h' ∧ tHB P T ops B h0 N t (updo F d v) h') F h
    | some ⟨d, op, ty, _, _, some (j, b)⟩ => vGuard (gval ops F j) b (vDo P T op ty (fun v h' => Bel B h0 h' ∧ tHB P T ops B h0 N t (updo F d v) h') F h) (Bel B h0 h ∧ tHB P T ops B h0 N t (updo F d undef) h)
    | none => False
  | .or i t r, F, h => (match nth ops i with
    | some ⟨d, op, ty, _, _, none⟩ => vDo P T op ty (fun v h' => Bel B h0 h' ∧ tHB P T ops B h0 N t (updo F d v) h') F h
    | some ⟨d, op, ty, _, _, some (j, b)⟩ => vGuard (gval ops F j) b (vDo P T op ty (fun v h' => Bel B h0 h' ∧ tHB P T ops B h0 N t (updo F d v) h') F h) (Bel B h0 h ∧ tHB P T ops B h0 N t (updo F d undef) h)
    | none => False) ∧ tHB P T ops B h0 N r F h
theorem get_of_nth {ops : List Oper} {i : Nat} {o : Oper} (h : nth ops i = some o) : ops.toArray[i]? = some o := by
  rw [List.getElem?_toArray, ← nth_eq]; exact h
theorem step_sound {ops : List Oper} {B : Nat} {h0 : Hp} {i : Nat} {K K' : Env → Hp → Prop} (hk : ∀ F h, K F h → K' F h)
    (H : match nth ops i with
      | some ⟨d, op, ty, _, _, none⟩ => vDo P T op ty (fun v h' => Bel B h0 h' ∧ K (updo F d v) h') F h
      | some ⟨d, op, ty, _, _, some (j, b)⟩ => vGuard (gval ops F j) b (vDo P T op ty (fun v h' => Bel B h0 h' ∧ K (updo F d v) h') F h) (Bel B h0 h ∧ K (updo F d undef) h)
      | none => False) : vOpI P T ops.toArray i (fun F' h' => Bel B h0 h' ∧ K' F' h') F h := by
  unfold vOpI
  cases ho : nth ops i with
  | none => rw [ho] at H; exact H.elim
  | some o =>
    rw [get_of_nth ho]
    rw [ho] at H
    obtain ⟨d, op, ty, pos, aft, g⟩ := o
    cases g with
    | none =>
      show (if wantedF ops.toArray _ F = true then _ else _)
      rw [if_pos (by rfl)]
      exact vDo_mono (fun v h' q => ⟨q.1, hk _ _ q.2⟩) H
    | some jb =>
      obtain ⟨j, b⟩ := jb
      show (if wantedF ops.toArray _ F = true then _ else _)
      rcases wantedF_guard ops F d op pos aft j b H with ⟨hw, H⟩ | ⟨hw, H⟩
      · rw [if_pos hw]
        exact vDo_mono (fun v h' q => ⟨q.1, hk _ _ q.2⟩) H
      · rw [hw, if_neg (by simp)]
        exact ⟨H.1, hk _ _ H.2⟩
theorem vTr_of_tHB {ops : List Oper} {B : Nat} {h0 : Hp} {N : Env → Hp → Prop} : ∀ (t : Tr) (F : Env) (h : Hp), tHB P T ops B h0 N t F h → vTr P T ops.toArray (fun h' => Bel B h0 h') N t F h := by
  intro t
  induction t with
  | nil => intro F h H; exact H
  | q i t ih =>
    intro F h H
    simp only [tHB] at H
    simp only [vTr]
    cases ho : nth ops i with
    | none => rw [ho] at H; exact H.elim
    | some o =>
      rw [get_of_nth ho]
      rw [ho] at H
      obtain ⟨d, op, ty, pos, aft, g⟩ := o
      cases g with
      | none =>
        show (if wantedF ops.toArray _ F = true then _ else _)
        rw [if_pos (by rfl)]
        obtain ⟨v, hv, H⟩ := hDo_sound H
        exact ⟨v, fun h' hs => vOp_of_do (hv h' hs), ih _ _ H⟩
      | some jb =>
        obtain ⟨j, b⟩ := jb
        show (if wantedF ops.toArray _ F = true then _ else _)
        rcases wantedF_guard ops F d op pos aft j b H with ⟨hw, H⟩ | ⟨hw, H⟩
        · rw [if_pos hw]
          obtain ⟨v, hv, H⟩ := hDo_sound H
          exact ⟨v, fun h' hs => vOp_of_do (hv h' hs), ih _ _ H⟩
        · rw [hw, if_neg (by simp)]
          exact ih _ _ H
  | s i t ih => intro F h H; exact step_sound ih H
  | or i t r iht ihr => intro F h H; exact ⟨step_sound iht H.1, ihr _ _ H.2⟩
def trOk (n : Nat) (ops : Array Oper) (t : Tr) : Bool := opsOk n ops && (Region.noSelect ops && t.ok ops ops.size (Array.replicate ops.size false) true)
theorem VS.t {id : Nat} {ops : List Oper} (B : Nat) (t : Tr) (hm : P.follows .mixedOrders = true) (hok : trOk n ops.toArray t = true)
    (H : tHB P T ops B h N t F h) : VS P n T (.region id ops.toArray true) N X R F h := by
  intro a w h1 h2 h3 h4
  simp only [trOk, Bool.and_eq_true] at hok
  obtain ⟨k1, k2, k3⟩ := hok
  refine wp_region_any hm ?_
  refine wpAny_of_vAny k1 _ _ F h ((vAny_of_vTr (S := fun h' => Bel B h h') k2 t).1 _ _ F h k3 (Bel.refl _ _) (vTr_of_tHB t F h H)) a _ h1 h2 h3 ⟨h4.heap, h4.tape, h4.os, h4.output⟩
/-! the words of simp -/
def tK (P : Program) (T : World) (ops : List Oper) (B : Nat) (h0 : Hp) (N : Env → Hp → Prop) (t : Tr) (F : Env) (d : Option Tmp) (h : Hp) : Value → Prop := fun v => tHB P T ops B h0 N t (updo F d v) h
def tKs (P : Program) (T : World) (ops : List Oper) (B : Nat) (h0 : Hp) (N : Env → Hp → Prop) (t : Tr) (F : Env) (d : Option Tmp) : Value → Hp → Prop := fun v h' => Bel B h0 h' ∧ tHB P T ops B h0 N t (updo F d v) h'
def tQ (P : Program) (T : World) (ops : List Oper) (B : Nat) (h0 : Hp) (N : Env → Hp → Prop) (t : Tr) (F : Env) (h : Hp) (o : Option Oper) : Prop :=
  match o with
  | some ⟨d, op, ty, _, _, none⟩ => hDo P T B h0 op ty (tK P T ops B h0 N t F d h) F
  | some ⟨d, op, ty, _, _, some (j, b)⟩ => vGuard (gval ops F j) b (hDo P T B h0 op ty (tK P T ops B h0 N t F d h) F) (tHB P T ops B h0 N t (updo F d undef) h)
  | none => False
def tS (P : Program) (T : World) (ops : List Oper) (B : Nat) (h0 : Hp) (N : Env → Hp → Prop) (t : Tr) (F : Env) (h : Hp) (o : Option Oper) : Prop :=
  match o with
  | some ⟨d, op, ty, _, _, none⟩ => vDo P T op ty (tKs P T ops B h0 N t F d) F h
  | some ⟨d, op, ty, _, _, some (j, b)⟩ => vGuard (gval ops F j) b (vDo P T op ty (tKs P T ops B h0 N t F d) F h) (Bel B h0 h ∧ tHB P T ops B h0 N t (updo F d undef) h)
  | none => False
variable {ops : List Oper} {B : Nat} {h0 : Hp} {t r : Tr} {i j : Nat} {d : Option Tmp} {op : Op} {ty : TypeId} {pos : String} {aft : Array Edge} {b c : Bool} {v : Value}
@[go_sem] theorem tHB_nil : tHB P T ops B h0 N .nil F h = N F h := rfl
@[go_sem] theorem tHB_q : tHB P T ops B h0 N (.q i t) F h = tQ P T ops B h0 N t F h (nth ops i) := rfl
@[go_sem] theorem tHB_s : tHB P T ops B h0 N (.s i t) F h = tS P T ops B h0 N t F h (nth ops i) := rfl
@[go_sem] theorem tHB_or : tHB P T ops B h0 N (.or i t r) F h = (tS P T ops B h0 N t F h (nth ops i) ∧ tHB P T ops B h0 N r F h) := rfl
@[go_sem] theorem tQ_plain : tQ P T ops B h0 N t F h (some ⟨d, op, ty, pos, aft, none⟩) = hDo P T B h0 op ty (tK P T ops B h0 N t F d h) F := rfl
def tQg (P : Program) (T : World) (ops : List Oper) (B : Nat) (h0 : Hp) (N : Env → Hp → Prop) (t : Tr) (F : Env) (h : Hp) (d : Option Tmp) (op : Op) (ty : TypeId) (v : Value) (b : Bool) : Prop := vGuard v b (hDo P T B h0 op ty (tK P T ops B h0 N t F d h) F) (tHB P T ops B h0 N t (updo F d undef) h)
def tSg (P : Program) (T : World) (ops : List Oper) (B : Nat) (h0 : Hp) (N : Env → Hp → Prop) (t : Tr) (F : Env) (h : Hp) (d : Option Tmp) (op : Op) (ty : TypeId) (v : Value) (b : Bool) : Prop := vGuard v b (vDo P T op ty (tKs P T ops B h0 N t F d) F h) (Bel B h0 h ∧ tHB P T ops B h0 N t (updo F d undef) h)
@[go_sem] theorem tQ_guard : tQ P T ops B h0 N t F h (some ⟨d, op, ty, pos, aft, some (j, b)⟩) = tQg P T ops B h0 N t F h d op ty (gval ops F j) b := rfl
@[go_sem] theorem tS_plain : tS P T ops B h0 N t F h (some ⟨d, op, ty, pos, aft, none⟩) = vDo P T op ty (tKs P T ops B h0 N t F d) F h := rfl
@[go_sem] theorem tS_guard : tS P T ops B h0 N t F h (some ⟨d, op, ty, pos, aft, some (j, b)⟩) = tSg P T ops B h0 N t F h d op ty (gval ops F j) b := rfl
@[go_sem] theorem tQg_bool : tQg P T ops B h0 N t F h d op ty (.bool c) b = if c = b then hDo P T B h0 op ty (tK P T ops B h0 N t F d h) F else tHB P T ops B h0 N t (updo F d undef) h := rfl
@[go_sem] theorem tSg_bool : tSg P T ops B h0 N t F h d op ty (.bool c) b = if c = b then vDo P T op ty (tKs P T ops B h0 N t F d) F h else (Bel B h0 h ∧ tHB P T ops B h0 N t (updo F d undef) h) := rfl
@[go_sem] theorem tQg_undef : tQg P T ops B h0 N t F h d op ty undef b = tHB P T ops B h0 N t (updo F d undef) h := rfl
@[go_sem] theorem tSg_undef : tSg P T ops B h0 N t F h d op ty undef b = (Bel B h0 h ∧ tHB P T ops B h0 N t (updo F d undef) h) := rfl
@[go_sem] theorem tK_app : tK P T ops B h0 N t F d h v = tHB P T ops B h0 N t (updo F d v) h := rfl
@[go_sem] theorem tKs_app : tKs P T ops B h0 N t F d v h = (Bel B h0 h ∧ tHB P T ops B h0 N t (updo F d v) h) := rfl
end
end Go.V
