/- V1: a small calculus of weakest preconditions on heaps (arrays of objects), over the model's own rules: what draws is 'for all', and a function's frame is a function of slots. -/
import Derived.Calls
import Derived.OrdersHeld
import Derived.Still
import Derived.Tactics
import Derived.Laws.Sem
import Derived.KernelRfl
namespace Go.V

/-! ### Slots -/
abbrev Env := Nat → Value
def upd (F : Env) (d : Nat) (v : Value) : Env := fun t => if t = d then v else F t
def updo (F : Env) : Option Nat → Value → Env
  | none, _ => F
  | some d, v => upd F d v
def ev (F : Env) : Operand → Value
  | .tmp t => F t
  | .const v => v
  | .global g => .pointer (some ⟨g, 0, none⟩)
  | .func f => .func (.func f) #[] #[]
def envL : List Value → Nat → Env
  | [], _ => fun _ => undef
  | v :: l, k => upd (envL l (k + 1)) k v
def env (a : Act) : Env := fun t => a.tmps.getD t undef

theorem eval_env (a : Act) : a.eval = ev (env a) := by
  funext x; cases x <;> rfl

theorem env_put (a : Act) (dst : Option Nat) (v : Value) (h : ∀ d, dst = some d → d < a.tmps.size) : env (a.put dst v) = updo (env a) dst v := by
  cases dst with
  | none => rfl
  | some d =>
    funext t
    have hd := h d rfl
    simp only [env, Act.put, updo, upd, Array.getD_eq_getD_getElem?, Array.getElem?_setIfInBounds]
    by_cases htd : d = t
    · subst htd; simp [hd]
    · rw [if_neg htd, if_neg (fun h => htd h.symm)]

theorem size_put (a : Act) (dst : Option Nat) (v : Value) : (a.put dst v).tmps.size = a.tmps.size := by
  cases dst <;> simp [Act.put]

/-! ### Heaps -/
abbrev Hp := Array Obj
structure Sees (T : World) (w : World) (h : Hp) : Prop where
  heap : w.heap = h
  tape : w.tape = T.tape
  os : w.os = T.os
  output : w.output = T.output

def hc (h : Hp) (a : Addr) : Option Value :=
  match h[a.block]? with
  | some (.cells c _ _) => if a.spot.isSome then none else c[a.off]?
  | _ => none
def hshape (h : Hp) (r : Nat) : Option (TypeId × Nat) :=
  match h[r]? with
  | some (.cells c elem _) => some (elem, c.size)
  | _ => none
def hfr (h : Hp) (a : Addr) : Bool :=
  match h[a.block]? with
  | some (.cells _ _ (lo, hi)) => lo ≤ a.off && a.off < hi
  | _ => false
def hset (h : Hp) (a : Addr) (v : Value) : Hp :=
  h.modify a.block fun
    | .cells c elem frozen => .cells (if a.spot.isSome then c else c.setIfInBounds a.off v) elem frozen
    | o => o
def hfreeze (h : Hp) (a : Addr) (n : Nat) : Hp :=
  if n = 0 then h else
  h.modify a.block fun
    | .cells c elem (lo, hi) => .cells c elem (if lo == hi then (a.off, a.off + n) else (min lo a.off, max hi (a.off + n)))
    | o => o
def isCells : Obj → Bool
  | .cells .. => true
  | _ => false
def oneC : Value → Bool
  | .agg _ | .tuple _ => false
  | _ => true

def hw {α : Type} (P : Program) : Sem α → (α → Hp → Prop) → Hp → Prop
  | .pure a, Q, h => Q a h
  | .load _ a k, Q, h => ∃ v, hc h a = some v ∧ hw P (k v) Q h
  | .store _ a v k, Q, h => oneC v = true ∧ (∃ u, hc h a = some u) ∧ hfr h a = false ∧ hw P k Q (hset h a v)
  | .new o k, Q, h => hw P (k h.size) Q (h.push o)
  | .shape r k, Q, h => hw P (k (hshape h r)) Q h
  | .freeze a n k, Q, h => hw P k Q (hfreeze h a n)
  | .frozen a k, Q, h => hw P (k (hfr h a)) Q h
  | .getObj r k, Q, h => ∃ o, h[r]? = some o ∧ isCells o = false ∧ hw P (k o) Q h
  | .setObj r o k, Q, h => (∃ o', h[r]? = some o' ∧ isCells o' = false) ∧ hw P k Q (h.setIfInBounds r o)
  | .choose q k, Q, h => if q.forced then hw P (k 0) Q h else ∀ t, hw P (k (q.cut t)) Q h
  | .sys _ _, _, _ => False
  | .program k, Q, h => hw P (k P) Q h
  | .mark _ k, Q, h => hw P k Q h
  | .halt _, _, _ => False

theorem hw_sound {α : Type} {P : Program} {T : World} : ∀ (s : Sem α) (Q : α → Hp → Prop) (h : Hp), hw P s Q h → ∀ w, Sees T w h →
    ∃ a w' h', s.run P w = .ok a w' ∧ Sees T w' h' ∧ Q a h' := by
  intro s
  induction s with
  | pure a => intro Q h H w hs; exact ⟨a, w, h, rfl, hs, H⟩
  | load m a k ih =>
    intro Q h H w hs
    obtain ⟨v, hv, H⟩ := H
    obtain ⟨a', w', h', hr, r⟩ := ih v Q h H w hs
    refine ⟨a', w', h', ?_, r⟩
    have : w.cell? a = some v := by rw [World.cell?, hs.heap]; exact hv
    rw [Sem.run, this]; exact hr
  | store m a v k ih =>
    intro Q h H w hs
    obtain ⟨h1, ⟨u, h2⟩, h3, H⟩ := H
    have hs' : Sees T (w.setCell a v) (hset h a v) := ⟨by simp only [World.setCell, hset, hs.heap]; rfl, hs.tape, hs.os, hs.output⟩
    obtain ⟨a', w', h', hr, r⟩ := ih Q _ H _ hs'
    refine ⟨a', w', h', ?_, r⟩
    have e1 : w.cell? a = some u := by rw [World.cell?, hs.heap]; exact h2
    have e2 : w.frozen? a = false := by rw [World.frozen?, hs.heap]; exact h3
    cases v <;> first | (simp [oneC] at h1; done) | (simp only [Sem.run, e1, e2, Bool.false_eq_true, if_false]; exact hr)
  | new o k ih =>
    intro Q h H w hs
    have hs' : Sees T { w with heap := w.heap.push o } (h.push o) := ⟨by simp only [hs.heap], hs.tape, hs.os, hs.output⟩
    have e : w.heap.size = h.size := by rw [hs.heap]
    obtain ⟨a', w', h', hr, r⟩ := ih h.size Q _ H _ hs'
    refine ⟨a', w', h', ?_, r⟩
    rw [Sem.run, e]; exact hr
  | shape r k ih =>
    intro Q h H w hs
    obtain ⟨a', w', h', hr, r'⟩ := ih _ Q h H w hs
    refine ⟨a', w', h', ?_, r'⟩
    have : w.shape? r = hshape h r := by rw [World.shape?, hs.heap]; rfl
    rw [Sem.run, this]; exact hr
  | freeze a n k ih =>
    intro Q h H w hs
    have hs' : Sees T (w.freeze a n) (hfreeze h a n) := by
      unfold World.freeze hfreeze
      split
      · exact hs
      · exact ⟨by simp only [hs.heap]; rfl, hs.tape, hs.os, hs.output⟩
    obtain ⟨a', w', h', hr, r'⟩ := ih Q _ H _ hs'
    exact ⟨a', w', h', by rw [Sem.run]; exact hr, r'⟩
  | frozen a k ih =>
    intro Q h H w hs
    obtain ⟨a', w', h', hr, r'⟩ := ih _ Q h H w hs
    refine ⟨a', w', h', ?_, r'⟩
    have : w.frozen? a = hfr h a := by rw [World.frozen?, hs.heap]; rfl
    rw [Sem.run, this]; exact hr
  | getObj r k ih =>
    intro Q h H w hs
    obtain ⟨o, ho, hc, H⟩ := H
    obtain ⟨a', w', h', hr, r'⟩ := ih o Q h H w hs
    refine ⟨a', w', h', ?_, r'⟩
    have e : w.heap[r]? = some o := by rw [hs.heap]; exact ho
    simp only [Sem.run, e]
    cases o <;> first | (simp [isCells] at hc; done) | exact hr
  | setObj r o k ih =>
    intro Q h H w hs
    obtain ⟨⟨o', ho, hc⟩, H⟩ := H
    have hs' : Sees T { w with heap := w.heap.setIfInBounds r o } (h.setIfInBounds r o) := ⟨by simp only [hs.heap], hs.tape, hs.os, hs.output⟩
    obtain ⟨a', w', h', hr, r'⟩ := ih Q _ H _ hs'
    refine ⟨a', w', h', ?_, r'⟩
    have e : w.heap[r]? = some o' := by rw [hs.heap]; exact ho
    simp only [Sem.run, e]
    cases o' <;> first | (simp [isCells] at hc; done) | exact hr
  | choose q k ih =>
    intro Q h H w hs
    simp only [hw] at H
    split at H
    · rename_i hq
      obtain ⟨a', w', h', hr, r'⟩ := ih _ Q h H w hs
      exact ⟨a', w', h', by rw [Sem.run, if_pos hq]; exact hr, r'⟩
    · rename_i hq
      have hs' : Sees T { w with drawn := w.drawn + 1 } h := ⟨hs.heap, hs.tape, hs.os, hs.output⟩
      obtain ⟨a', w', h', hr, r'⟩ := ih _ Q h (H (w.tape w.drawn q)) _ hs'
      exact ⟨a', w', h', by rw [Sem.run, if_neg hq]; exact hr, r'⟩
  | sys c k ih => intro Q h H; exact H.elim
  | program k ih =>
    intro Q h H w hs
    obtain ⟨a', w', h', hr, r'⟩ := ih _ Q h H w hs
    exact ⟨a', w', h', by rw [Sem.run]; exact hr, r'⟩
  | mark m k ih =>
    intro Q h H w hs
    obtain ⟨a', w', h', hr, r'⟩ := ih Q h H w hs
    exact ⟨a', w', h', by rw [Sem.run]; exact hr, r'⟩
  | halt x => intro Q h H; exact H.elim

theorem hw_bind {α β : Type} {P : Program} (s : Sem α) (f : α → Sem β) (Q : β → Hp → Prop) : ∀ h, hw P (s >>= f) Q h = hw P s (fun a h' => hw P (f a) Q h') h := by
  show ∀ h, hw P (s.bind f) Q h = _
  induction s with
  | pure a => intro h; rfl
  | load m a k ih => intro h; simp only [Sem.bind, hw, ih]
  | store m a v k ih => intro h; simp only [Sem.bind, hw, ih]
  | new o k ih => intro h; simp only [Sem.bind, hw, ih]
  | shape r k ih => intro h; simp only [Sem.bind, hw, ih]
  | freeze a n k ih => intro h; simp only [Sem.bind, hw, ih]
  | frozen a k ih => intro h; simp only [Sem.bind, hw, ih]
  | getObj r k ih => intro h; simp only [Sem.bind, hw, ih]
  | setObj r o k ih => intro h; simp only [Sem.bind, hw, ih]
  | choose q k ih => intro h; simp only [Sem.bind, hw, ih]
  | sys c k ih => intro h; simp only [Sem.bind, hw]
  | program k ih => intro h; simp only [Sem.bind, hw, ih]
  | mark m k ih => intro h; simp only [Sem.bind, hw, ih]
  | halt x => intro h; rfl

theorem hw_mono {α : Type} {P : Program} {Q Q' : α → Hp → Prop} (hq : ∀ a h, Q a h → Q' a h) : ∀ (s : Sem α) (h : Hp), hw P s Q h → hw P s Q' h := by
  intro s
  induction s with
  | pure a => intro h H; exact hq _ _ H
  | load m a k ih => intro h H; obtain ⟨v, hv, H⟩ := H; exact ⟨v, hv, ih _ _ H⟩
  | store m a v k ih => intro h H; obtain ⟨h1, h2, h3, H⟩ := H; exact ⟨h1, h2, h3, ih _ H⟩
  | new o k ih => intro h H; exact ih _ _ H
  | shape r k ih => intro h H; exact ih _ _ H
  | freeze a n k ih => intro h H; exact ih _ H
  | frozen a k ih => intro h H; exact ih _ _ H
  | getObj r k ih => intro h H; obtain ⟨o, h1, h2, H⟩ := H; exact ⟨o, h1, h2, ih _ _ H⟩
  | setObj r o k ih => intro h H; obtain ⟨h1, H⟩ := H; exact ⟨h1, ih _ H⟩
  | choose q k ih =>
    intro h H
    simp only [hw] at H ⊢
    split at H
    · rename_i hf; rw [if_pos hf]; exact ih _ _ H
    · rename_i hf; rw [if_neg hf]; exact fun t => ih _ _ (H t)
  | sys c k ih => intro h H; exact H
  | program k ih => intro h H; exact ih _ _ H
  | mark m k ih => intro h H; exact ih _ H
  | halt x => intro h H; exact H

/-! ### Calls -/
def CallsH (P : Program) (T : World) (f : FuncId) (args : Array Value) (h : Hp) (Q : Value → Hp → Prop) : Prop :=
  ∀ w, Sees T w h → Calls P f args w fun e w' => ∃ v h', e = .returned v ∧ Sees T w' h' ∧ Q v h'

theorem CallsH.mono {P : Program} {T : World} {f : FuncId} {args : Array Value} {h : Hp} {Q Q' : Value → Hp → Prop} (H : CallsH P T f args h Q)
    (hq : ∀ v h', Q v h' → Q' v h') : CallsH P T f args h Q' :=
  fun w hs => (H w hs).mono fun _ _ ⟨v, h', he, hs', q⟩ => ⟨v, h', he, hs', hq _ _ q⟩

def vNext (P : Program) (T : World) (K : Value → Hp → Prop) : Next → Hp → Prop
  | .value v, h => K v h
  | .skip, h => K undef h
  | .enter f args, h => CallsH P T f args h K
  | _, _ => False

def vOp (P : Program) (T : World) (o : Oper) (K : Value → Hp → Prop) (F : Env) (h : Hp) : Prop :=
  hw P (execOp (ev F) o) (vNext P T K) h

theorem vNext_mono {P : Program} {T : World} {K K' : Value → Hp → Prop} (hk : ∀ v h, K v h → K' v h) : ∀ (x : Next) (h : Hp), vNext P T K x h → vNext P T K' x h := by
  intro x h H
  cases x <;> simp only [vNext] at H ⊢ <;> first | exact hk _ _ H | exact H.mono hk

theorem vOp_mono {P : Program} {T : World} {o : Oper} {K K' : Value → Hp → Prop} {F : Env} {h : Hp} (hk : ∀ v h, K v h → K' v h) (H : vOp P T o K F h) : vOp P T o K' F h :=
  hw_mono (vNext_mono hk) _ _ H

theorem wp_of_vOp {P : Program} {T : World} {o : Oper} {K : Value → Hp → Prop} {F : Env} {h : Hp} (H : vOp P T o K F h) {a : Act} {w : World} (hF : env a = F) (hs : Sees T w h)
    {next : Act → World → Prop} {Q : Exit → Act → World → Prop} (hk : ∀ v w' h', Sees T w' h' → K v h' → next (a.put o.dst v) w') : o.wp P a w next Q := by
  obtain ⟨x, w', h', hr, hs', hx⟩ := hw_sound _ _ _ H w hs
  unfold Oper.wp
  rw [eval_env, hF, hr]
  cases x <;> simp only [vNext] at hx
  case value v => exact hk _ _ _ hs' hx
  case skip => exact hk _ _ _ hs' hx
  case enter f args =>
    simp only [Oper.upon]
    exact (hx w' hs').mono fun e w'' ⟨v, h'', he, hs'', q⟩ => by subst he; exact hk _ _ _ hs'' q

/-! ### Regions -/
def yieldedF (ops : Array Oper) (F : Env) (j : Nat) : Option Bool :=
  match (ops[j]?).bind (·.dst) with
  | some t => match F t with
    | .bool b => some b
    | _ => none
  | none => none
def wantedF (ops : Array Oper) (o : Oper) (F : Env) : Bool := Region.wanted o (yieldedF ops F)

def dstOk (n : Nat) (o : Oper) : Bool := match o.dst with | some d => Nat.blt d n | none => true
def opsOk (n : Nat) (ops : Array Oper) : Bool := ops.toList.all (dstOk n)

theorem dstOk_spec {n : Nat} {o : Oper} (h : dstOk n o = true) : ∀ d, o.dst = some d → d < n := by
  intro d hd
  unfold dstOk at h
  rw [hd] at h
  exact Nat.blt_eq.mp h

theorem yielded_env {n : Nat} {ops : Array Oper} (hok : opsOk n ops = true) (a : Act) (hn : a.tmps.size = n) : yielded ops a.tmps = yieldedF ops (env a) := by
  funext j
  unfold yielded yieldedF
  cases hj : ops[j]? with
  | none => rfl
  | some o =>
    simp only [Option.bind_some]
    cases hd : o.dst with
    | none => rfl
    | some d =>
      have hlt : d < a.tmps.size := by
        rw [hn]
        have hm : o ∈ ops.toList := by
          have := Array.mem_of_getElem? hj
          simpa using this
        exact dstOk_spec (List.all_eq_true.1 hok o hm) d hd
      simp only [Option.bind_some]
      rw [Array.getElem?_eq_getElem hlt]
      have : env a d = a.tmps[d] := by simp [env, hlt]
      rw [this]
      cases a.tmps[d] <;> rfl

def vOps (P : Program) (T : World) (ops : Array Oper) (N : Env → Hp → Prop) : List Oper → Env → Hp → Prop
  | [], F, h => N F h
  | o :: l, F, h =>
    if wantedF ops o F then vOp P T o (fun v h' => vOps P T ops N l (updo F o.dst v) h') F h
    else vOps P T ops N l (updo F o.dst undef) h

/-! ### Code -/
def Post (n : Nat) (T : World) (N : Env → Hp → Prop) (X : Nat → Env → Hp → Prop) (R : Env → Hp → Prop) (e : Exit) (a : Act) (w : World) : Prop :=
  a.tmps.size = n ∧ a.defers = [] ∧ ∃ h, Sees T w h ∧ match e with
    | .normal => N (env a) h
    | .exit j => X j (env a) h
    | .ret => R (env a) h
    | _ => False

def VS (P : Program) (n : Nat) (T : World) (c : Code) (N : Env → Hp → Prop) (X : Nat → Env → Hp → Prop) (R : Env → Hp → Prop) (F : Env) (h : Hp) : Prop :=
  ∀ a w, a.tmps.size = n → a.defers = [] → env a = F → Sees T w h → c.wp P (Post n T N X R) a w

section
variable {P : Program} {n : Nat} {T : World} {N : Env → Hp → Prop} {X : Nat → Env → Hp → Prop} {R : Env → Hp → Prop} {F : Env} {h : Hp}

theorem VS.mono {c : Code} {N' : Env → Hp → Prop} {X' : Nat → Env → Hp → Prop} {R' : Env → Hp → Prop} (H : VS P n T c N X R F h)
    (hN : ∀ F h, N F h → N' F h) (hX : ∀ j F h, X j F h → X' j F h) (hR : ∀ F h, R F h → R' F h) : VS P n T c N' X' R' F h := by
  intro a w h1 h2 h3 h4
  refine Code.wp_mono (fun e a w ⟨q1, q2, h, q3, q4⟩ => ⟨q1, q2, h, q3, ?_⟩) (H a w h1 h2 h3 h4)
  cases e <;> simp only at q4 ⊢ <;> first | exact hN _ _ q4 | exact hX _ _ _ q4 | exact hR _ _ q4

theorem VS.seq {c d : Code} (H : VS P n T c (fun F h => VS P n T d N X R F h) X R F h) : VS P n T (.seq c d) N X R F h := by
  intro a w h1 h2 h3 h4
  refine wp_seq (Code.wp_mono (fun e a w ⟨q1, q2, h, q3, q4⟩ => ?_) (H a w h1 h2 h3 h4))
  cases e with
  | normal => exact q4 a w q1 q2 rfl q3
  | exit j => exact ⟨q1, q2, h, q3, q4⟩
  | ret => exact ⟨q1, q2, h, q3, q4⟩
  | _ => exact q4.elim

theorem VS.skip (H : N F h) : VS P n T .skip N X R F h := by
  intro a w h1 h2 h3 h4
  exact wp_skip ⟨h1, h2, h, h4, by rw [h3]; exact H⟩

theorem VS.ret (H : R F h) : VS P n T .ret N X R F h := by
  intro a w h1 h2 h3 h4
  exact wp_ret ⟨h1, h2, h, h4, by rw [h3]; exact H⟩

theorem VS.exit {j : Nat} (H : X j F h) : VS P n T (.exit j) N X R F h := by
  intro a w h1 h2 h3 h4
  exact wp_exit ⟨h1, h2, h, h4, by rw [h3]; exact H⟩

theorem VS.block {j : Nat} {c : Code} (H : VS P n T c N (fun i F h => if i = j then N F h else X i F h) R F h) : VS P n T (.block j c) N X R F h := by
  intro a w h1 h2 h3 h4
  refine wp_block (Code.wp_mono (fun e a w ⟨q1, q2, h, q3, q4⟩ => ?_) (H a w h1 h2 h3 h4))
  cases e with
  | normal => exact ⟨q1, q2, h, q3, q4⟩
  | exit i =>
    simp only [Exit.inBlock]
    simp only at q4
    split
    · rename_i hij; rw [if_pos hij] at q4; exact ⟨q1, q2, h, q3, q4⟩
    · rename_i hij; rw [if_neg hij] at q4; exact ⟨q1, q2, h, q3, q4⟩
  | ret => exact ⟨q1, q2, h, q3, q4⟩
  | _ => exact q4.elim

theorem VS.cond {c : Operand} {x y : Code} {b : Bool} (hc : ev F c = .bool b) (ht : b = true → VS P n T x N X R F h) (hf : b = false → VS P n T y N X R F h) :
    VS P n T (.cond c x y) N X R F h := by
  intro a w h1 h2 h3 h4
  refine wp_cond_split (t := b) (by rw [eval_env, h3]; exact hc) (fun hb => ht hb a w h1 h2 h3 h4) (fun hb => hf hb a w h1 h2 h3 h4)

theorem VS.loop {c : Code} (I : Env → Hp → Prop) (μ : Env → Hp → Nat) (h0 : I F h)
    (round : ∀ F h, I F h → VS P n T c (fun F' h' => I F' h' ∧ μ F' h' < μ F h) X R F h) : VS P n T (.loop c) N X R F h := by
  intro a w h1 h2 h3 h4
  refine wp_loop (fun a w => a.tmps.size = n ∧ a.defers = [] ∧ Sees T w w.heap ∧ I (env a) w.heap) (fun a w => μ (env a) w.heap)
    ⟨h1, h2, by rw [h4.heap]; exact h4, by rw [h3, h4.heap]; exact h0⟩ ?_
  intro a w ⟨q1, q2, q3, q4⟩
  refine Code.wp_mono (fun e a' w' ⟨p1, p2, h', p3, p4⟩ => ?_) (round (env a) w.heap q4 a w q1 q2 rfl q3)
  cases e with
  | normal =>
    have e := p3.heap
    subst e
    exact ⟨⟨p1, p2, p3, p4.1⟩, p4.2⟩
  | exit j => exact ⟨p1, p2, h', p3, p4⟩
  | ret => exact ⟨p1, p2, h', p3, p4⟩
  | _ => exact p4.elim

theorem wpList_of_vOps {ops : Array Oper} (hok : opsOk n ops = true) : ∀ (l : List Oper) (F : Env) (h : Hp), (∀ o ∈ l, o ∈ ops.toList) → vOps P T ops N l F h →
    ∀ a w, a.tmps.size = n → a.defers = [] → env a = F → Sees T w h → wpList P ops (Post n T N X R) l a w
  | [], F, h, _, H, a, w, h1, h2, h3, h4 => ⟨h1, h2, h, h4, by rw [h3]; exact H⟩
  | o :: l, F, h, hm, H, a, w, h1, h2, h3, h4 => by
    have hd : ∀ d, o.dst = some d → d < a.tmps.size := by
      rw [h1]; exact dstOk_spec (List.all_eq_true.1 hok o (hm o (by simp)))
    have hm' : ∀ o ∈ l, o ∈ ops.toList := fun x hx => hm x (by simp [hx])
    have hwt : Region.wanted o (yielded ops a.tmps) = wantedF ops o F := by rw [yielded_env hok a h1, h3]; rfl
    unfold wpList
    rw [hwt]
    unfold vOps at H
    split at H
    · rename_i hw
      rw [if_pos hw]
      refine .inl (wp_of_vOp H h3 h4 fun v w' h' hs' hk => ?_)
      exact wpList_of_vOps hok l _ h' hm' hk _ _ (by rw [size_put, h1]) (by cases o.dst <;> exact h2) (by rw [env_put a _ _ hd, h3]) hs'
    · rename_i hw
      rw [if_neg hw]
      exact wpList_of_vOps hok l _ h hm' H _ _ (by rw [size_put, h1]) (by cases o.dst <;> exact h2) (by rw [env_put a _ _ hd, h3]) h4

theorem VS.region {id : Nat} {ops : Array Oper} (hok : opsOk n ops = true) (H : vOps P T ops N ops.toList F h) : VS P n T (.region id ops false) N X R F h := by
  intro a w h1 h2 h3 h4
  exact wp_region_list (wpList_of_vOps hok ops.toList F h (fun _ h => h) H a w h1 h2 h3 h4)

/-! A region that draws its order: the quiet operations (one value in each heap of a class) are taken first; the others one at a time, where but one can come. -/
def vOpI (P : Program) (T : World) (ops : Array Oper) (i : Nat) (K : Env → Hp → Prop) (F : Env) (h : Hp) : Prop :=
  match ops[i]? with
  | none => K F h
  | some o => if wantedF ops o F then vOp P T o (fun v h' => K (updo F o.dst v) h') F h else K (updo F o.dst undef) h

theorem vOpI_mono {ops : Array Oper} {i : Nat} {K K' : Env → Hp → Prop} (hk : ∀ F h, K F h → K' F h) {F : Env} {h : Hp} (H : vOpI P T ops i K F h) : vOpI P T ops i K' F h := by
  unfold vOpI at *
  split at H
  · exact hk _ _ H
  · split at H
    · rename_i hw; rw [if_pos hw]; exact vOp_mono (fun _ _ q => hk _ _ q) H
    · rename_i hw; rw [if_neg hw]; exact hk _ _ H

def vAny (P : Program) (T : World) (ops : Array Oper) (S : Hp → Prop) (N : Env → Hp → Prop) : Nat → Array Bool → Env → Hp → Prop
  | 0, listed, F, h => Region.ready .any ops listed = [] ∧ N F h
  | k + 1, listed, F, h => (Region.ready .any ops listed = [] → N F h) ∧
      ∀ i ∈ Region.ready .any ops listed, vOpI P T ops i (fun F' h' => S h' ∧ vAny P T ops S N k (listed.setIfInBounds i true) F' h') F h

theorem wpAny_of_vAny {ops : Array Oper} {S : Hp → Prop} (hok : opsOk n ops = true) : ∀ (k : Nat) (listed : Array Bool) (F : Env) (h : Hp), vAny P T ops S N k listed F h →
    ∀ a w, a.tmps.size = n → a.defers = [] → env a = F → Sees T w h → wpAny P .any ops (Post n T N X R) k listed a w
  | 0, listed, F, h, H, a, w, h1, h2, h3, h4 => ⟨H.1, h1, h2, h, h4, by rw [h3]; exact H.2⟩
  | k + 1, listed, F, h, H, a, w, h1, h2, h3, h4 => by
    refine ⟨fun h0 => ⟨h1, h2, h, h4, by rw [h3]; exact H.1 h0⟩, fun i hi => ?_⟩
    have Hi := H.2 i hi
    unfold vOpI at Hi
    unfold wpOp
    cases ho : ops[i]? with
    | none => rw [ho] at Hi; exact wpAny_of_vAny hok k _ F h Hi.2 a w h1 h2 h3 h4
    | some o =>
      rw [ho] at Hi
      simp only at Hi ⊢
      have hd : ∀ d, o.dst = some d → d < a.tmps.size := by
        rw [h1]; exact dstOk_spec (List.all_eq_true.1 hok o (by have := Array.mem_of_getElem? ho; simpa using this))
      have hwt : Region.wanted o (yielded ops a.tmps) = wantedF ops o F := by rw [yielded_env hok a h1, h3]; rfl
      rw [hwt]
      split at Hi
      · rename_i hw
        rw [if_pos hw]
        refine .inl (wp_of_vOp Hi h3 h4 fun v w' h' hs' hk => ?_)
        exact wpAny_of_vAny hok k _ _ h' hk.2 _ _ (by rw [size_put, h1]) (by cases o.dst <;> exact h2) (by rw [env_put a _ _ hd, h3]) hs'
      · rename_i hw
        rw [if_neg hw]
        exact wpAny_of_vAny hok k _ _ h Hi.2 _ _ (by rw [size_put, h1]) (by cases o.dst <;> exact h2) (by rw [env_put a _ _ hd, h3]) h4

/-- In each heap of the class the operation leaves 'v', and the heap as it is. -/
def qYields (P : Program) (T : World) (ops : Array Oper) (S : Hp → Prop) (o : Oper) (v : Value) (F : Env) : Prop :=
  (wantedF ops o F = true ∧ ∀ h, S h → vOp P T o (fun v' h' => v' = v ∧ h' = h) F h) ∨ (wantedF ops o F = false ∧ v = undef)

theorem ev_updo {F : Env} {dst : Option Nat} {v : Value} {x : Operand} (hx : ∀ d, dst = some d → x ≠ .tmp d) : ev (updo F dst v) x = ev F x := by
  cases dst with
  | none => rfl
  | some d =>
    cases x with
    | tmp t =>
      have hne : t ≠ d := fun e => hx d rfl (by rw [e])
      show (if t = d then v else F t) = F t
      rw [if_neg hne]
    | _ => rfl

theorem execOp_updo {ops : Array Oper} (o : Oper) (hs : ∀ cs b, o.op ≠ .select cs b) (F : Env) (dst : Option Nat) (v : Value) (h : ∀ d, dst = some d → d ∉ o.looksAt ops) :
    execOp (ev (updo F dst v)) o = execOp (ev F) o :=
  execOp_congr o hs fun x hx => ev_updo fun d hd hxd => h d hd (by
    subst hxd
    exact List.mem_append_left _ (List.mem_filterMap.2 ⟨.tmp d, by simpa using hx, rfl⟩))

theorem wantedF_updo {ops : Array Oper} (o : Oper) (F : Env) (dst : Option Nat) (v : Value) (h : ∀ d, dst = some d → d ∉ o.looksAt ops) :
    wantedF ops o (updo F dst v) = wantedF ops o F := by
  cases dst with
  | none => rfl
  | some d =>
    unfold wantedF Region.wanted
    cases hg : o.guard with
    | none => rfl
    | some gw =>
      obtain ⟨g, want⟩ := gw
      simp only
      have hd := h d rfl
      unfold Oper.looksAt at hd
      rw [hg] at hd
      simp only [List.mem_append, not_or] at hd
      have : yieldedF ops (updo F (some d) v) g = yieldedF ops F g := by
        unfold yieldedF
        cases hb : (ops[g]?).bind (·.dst) with
        | none => rfl
        | some t =>
          have hne : t ≠ d := fun e => hd.2 (by rw [hb, e]; simp)
          show (match (if t = d then v else F t) with | .bool b => some b | _ => none) = _
          rw [if_neg hne]
      rw [this]

theorem updo_comm (F : Env) {d d' : Option Nat} (v v' : Value) (h : ∀ x, d = some x → d' ≠ some x) : updo (updo F d v) d' v' = updo (updo F d' v') d v := by
  cases d with
  | none => rfl
  | some x =>
    cases d' with
    | none => rfl
    | some y =>
      have hne : y ≠ x := fun e => h x rfl (by rw [e])
      funext t
      simp only [updo, upd]
      by_cases h1 : t = y
      · subst h1; rw [if_pos rfl, if_neg hne, if_pos rfl]
      · rw [if_neg h1]
        by_cases h2 : t = x
        · rw [if_pos h2, if_pos h2]
        · rw [if_neg h2, if_neg h2, if_neg h1]

theorem qYields.put {ops : Array Oper} {S : Hp → Prop} {o : Oper} (hs : ∀ cs b, o.op ≠ .select cs b) {v : Value} {F : Env} (hy : qYields P T ops S o v F) {dst : Option Nat} {u : Value}
    (h : ∀ d, dst = some d → d ∉ o.looksAt ops) : qYields P T ops S o v (updo F dst u) := by
  unfold qYields vOp at *
  rw [wantedF_updo o F dst u h, execOp_updo o hs F dst u h]
  exact hy

theorem qYields.opI {ops : Array Oper} {S : Hp → Prop} {i : Nat} {o : Oper} {v : Value} {F : Env} {h : Hp} (hi : ops[i]? = some o) (hy : qYields P T ops S o v F) (hS : S h)
    {K : Env → Hp → Prop} (H : K (updo F o.dst v) h) : vOpI P T ops i K F h := by
  unfold vOpI
  rw [hi]
  rcases hy with ⟨hw, hv⟩ | ⟨hw, rfl⟩
  · simp only [hw, if_true]
    exact vOp_mono (fun v' h' ⟨e1, e2⟩ => by subst e1; subst e2; exact H) (hv h hS)
  · simp only [hw, Bool.false_eq_true, if_false]; exact H

theorem vOpI_put {ops : Array Oper} {S : Hp → Prop} {j : Nat} {oi oj : Oper} {v : Value} (hj : ops[j]? = some oj) (hap : oi.apart ops oj = true)
    (hsi : ∀ cs b, oi.op ≠ .select cs b) (hsj : ∀ cs b, oj.op ≠ .select cs b) {K : Env → Hp → Prop} {F : Env} {h : Hp} (hy : qYields P T ops S oi v F)
    (H : vOpI P T ops j K (updo F oi.dst v) h) : vOpI P T ops j (fun F' h' => qYields P T ops S oi v F' ∧ K (updo F' oi.dst v) h') F h := by
  obtain ⟨h1, h2, h3⟩ := Oper.apart_spec hap
  unfold vOpI at *
  rw [hj] at *
  simp only at *
  rw [wantedF_updo oj F oi.dst v h1] at H
  split at H
  · rename_i hw
    rw [if_pos hw]
    unfold vOp at *
    rw [execOp_updo oj hsj F oi.dst v h1] at H
    refine hw_mono (vNext_mono fun u h' q => ?_) _ _ H
    exact ⟨hy.put hsi h3, by rw [← updo_comm F v u h2]; exact q⟩
  · rename_i hw
    rw [if_neg hw]
    exact ⟨hy.put hsi h3, by rw [← updo_comm F v undef h2]; exact H⟩

theorem vAny_first {ops : Array Oper} {S : Hp → Prop} {i : Nat} {oi : Oper} {v : Value} (hi : ops[i]? = some oi) (hsel : ∀ (j : Nat) (o : Oper) cs b, ops[j]? = some o → o.op ≠ .select cs b) :
    ∀ (k : Nat) (listed : Array Bool) (F : Env) (h : Hp),
      (∀ j oj, ops[j]? = some oj → j ≠ i → listed.getD j true = false → (∀ e ∈ oj.after, Region.binds .any e = true → e.on ≠ i) → oi.apart ops oj = true) →
      i ∈ Region.ready .any ops listed → qYields P T ops S oi v F → S h →
      vAny P T ops S N k (listed.setIfInBounds i true) (updo F oi.dst v) h → vAny P T ops S N (k + 1) listed F h := by
  intro k
  induction k with
  | zero =>
    intro listed F h _ hr hy hS H
    refine ⟨fun h => (by rw [h] at hr; cases hr), fun j hj => ?_⟩
    by_cases hji : j = i
    · subst hji; exact hy.opI hi hS ⟨hS, H⟩
    · have := ready_mono hj hji
      rw [H.1] at this
      cases this
  | succ k ih =>
    intro listed F h hfree hr hy hS H
    refine ⟨fun h => (by rw [h] at hr; cases hr), fun j hj => ?_⟩
    by_cases hji : j = i
    · subst hji; exact hy.opI hi hS ⟨hS, H⟩
    · have h1 := H.2 j (ready_mono hj hji)
      obtain ⟨hjun, oj, hoj, hall⟩ := mem_ready.1 hj
      have hnot : ∀ e ∈ oj.after, Region.binds .any e = true → e.on ≠ i := fun e he hb heq => by
        have h1 := hall e he hb
        have h0 := (mem_ready.1 hr).1
        rw [heq] at h1
        rcases Nat.lt_or_ge i listed.size with h' | h'
        · simp [h'] at h0 h1; rw [h0] at h1; cases h1
        · simp [Array.getElem?_eq_none h'] at h1
      have h2 := vOpI_put hoj (hfree j oj hoj hji hjun hnot) (fun cs b => hsel i oi cs b hi) (fun cs b => hsel j oj cs b hoj) hy h1
      have hfree' : ∀ k ok, ops[k]? = some ok → k ≠ i → (listed.setIfInBounds j true).getD k true = false →
          (∀ e ∈ ok.after, Region.binds .any e = true → e.on ≠ i) → oi.apart ops ok = true := fun k ok hk hki hun hno => by
        refine hfree k ok hk hki ?_ hno
        by_cases hjk : j = k
        · subst hjk; exact hjun
        · rw [getD_set_ne true hjk] at hun; exact hun
      refine vOpI_mono (fun F' h' h3 => ⟨h3.2.1, ih (listed.setIfInBounds j true) F' h' hfree' (ready_mono hr (Ne.symm hji)) h3.1 h3.2.1 ?_⟩) h2
      rw [Array.setIfInBounds_comm _ _ hji]
      exact h3.2.2

def vHeld (P : Program) (T : World) (ops : Array Oper) (S : Hp → Prop) (N : Env → Hp → Prop) : List (Nat × Bool × Oper) → Env → Hp → Prop
  | [], F, h => N F h
  | (_, q, o) :: l, F, h =>
    if wantedF ops o F then
      if q then ∃ v, (∀ h', S h' → vOp P T o (fun v' h'' => v' = v ∧ h'' = h') F h') ∧ vHeld P T ops S N l (updo F o.dst v) h
      else vOp P T o (fun v h' => S h' ∧ vHeld P T ops S N l (updo F o.dst v) h') F h
    else vHeld P T ops S N l (updo F o.dst undef) h

/-- The operations by an order, each with its mark. -/
def picked (ops : Array Oper) (l : List (Nat × Bool)) : List (Nat × Bool × Oper) := l.map fun (i, q) => (i, q, ops.getD i default)

/-- Is this an order in which each quiet operation may be taken first, and each other one comes alone? -/
def heldOk (ops : Array Oper) : List (Nat × Bool) → Array Bool → Bool
  | [], listed => (Region.ready .any ops listed).isEmpty
  | (i, q) :: l, listed =>
    (if q then (Region.ready .any ops listed).contains i && Region.free .any ops listed i else (Region.ready .any ops listed == [i])) && heldOk ops l (listed.setIfInBounds i true)

theorem vAny_of_vHeld {ops : Array Oper} {S : Hp → Prop} (hs : Region.noSelect ops = true) : ∀ (l : List (Nat × Bool)) (listed : Array Bool) (F : Env) (h : Hp), heldOk ops l listed = true → S h →
    vHeld P T ops S N (picked ops l) F h → vAny P T ops S N l.length listed F h
  | [], listed, F, h, hB, _, H => ⟨by simpa [heldOk] using hB, H⟩
  | (i, q) :: l, listed, F, h, hB, hS, H => by
    simp only [heldOk, Bool.and_eq_true] at hB
    obtain ⟨hB1, hB2⟩ := hB
    have hri : i ∈ Region.ready .any ops listed := by
      cases q
      · simp only [Bool.false_eq_true, if_false, beq_iff_eq] at hB1; rw [hB1]; simp
      · simp only [if_true, Bool.and_eq_true] at hB1; simpa using hB1.1
    obtain ⟨_, o, ho, _⟩ := mem_ready.1 hri
    have hp : picked ops ((i, q) :: l) = (i, q, o) :: picked ops l := by simp [picked, ho]
    rw [hp] at H
    simp only [vHeld] at H
    cases q with
    | true =>
      simp only [if_true, Bool.and_eq_true] at hB1 H
      split at H
      · rename_i hw
        obtain ⟨v, hv, H⟩ := H
        exact vAny_first ho (Region.noSelect_spec hs) l.length listed F h (Region.free_spec ho hB1.2) hri (.inl ⟨hw, hv⟩) hS (vAny_of_vHeld hs l _ _ _ hB2 hS H)
      · rename_i hw
        exact vAny_first ho (Region.noSelect_spec hs) l.length listed F h (Region.free_spec ho hB1.2) hri (.inr ⟨by simpa using hw, rfl⟩) hS (vAny_of_vHeld hs l _ _ _ hB2 hS H)
    | false =>
      simp only [Bool.false_eq_true, if_false, beq_iff_eq] at hB1 H
      refine ⟨fun h0 => (by rw [h0] at hri; cases hri), fun j hj => ?_⟩
      rw [hB1] at hj
      have hj : j = i := by simpa using hj
      subst hj
      unfold vOpI
      rw [ho]
      simp only
      split at H
      · rename_i hw
        rw [if_pos hw]
        exact vOp_mono (fun v h' q => ⟨q.1, vAny_of_vHeld hs l _ _ _ hB2 q.1 q.2⟩) H
      · rename_i hw
        rw [if_neg hw]
        exact ⟨hS, vAny_of_vHeld hs l _ _ _ hB2 hS H⟩

def regionOk (n : Nat) (ops : Array Oper) (l : List (Nat × Bool)) : Bool :=
  opsOk n ops && (Region.noSelect ops && (heldOk ops l (Array.replicate ops.size false) && Nat.beq l.length ops.size))

theorem VS.held {id : Nat} {ops : Array Oper} (S : Hp → Prop) (l : List (Nat × Bool)) (hm : P.follows .mixedOrders = true) (hok : regionOk n ops l = true) (hS : S h)
    (H : vHeld P T ops S N (picked ops l) F h) : VS P n T (.region id ops true) N X R F h := by
  intro a w h1 h2 h3 h4
  simp only [regionOk, Bool.and_eq_true] at hok
  obtain ⟨k1, k2, k3, k4⟩ := hok
  refine wp_region_any hm ?_
  have hl : l.length = ops.size := Nat.eq_of_beq_eq_true k4
  rw [← hl]
  refine wpAny_of_vAny k1 _ _ F h (vAny_of_vHeld k2 l _ F h (by rw [hl]; exact k3) hS H) a _ h1 h2 h3 ⟨h4.heap, h4.tape, h4.os, h4.output⟩

/-- The quiet region: all in the order of the text, each of one value in this very heap. -/
theorem VS.quiet {id : Nat} {ops : Array Oper} (hm : P.follows .mixedOrders = true) (hok : regionOk n ops ((List.range ops.size).map fun i => (i, true)) = true)
    (H : vHeld P T ops (fun h' => h' = h) N (picked ops ((List.range ops.size).map fun i => (i, true))) F h) : VS P n T (.region id ops true) N X R F h :=
  VS.held (fun h' => h' = h) _ hm hok rfl H

/-! ### A function's body -/
/-- A reading: what a program yields that neither writes nor draws. -/
def hr {α : Type} (P : Program) : Sem α → Hp → Option α
  | .pure a, _ => some a
  | .load _ a k, h => (hc h a).bind fun v => hr P (k v) h
  | .shape r k, h => hr P (k (hshape h r)) h
  | .frozen a k, h => hr P (k (hfr h a)) h
  | .program k, h => hr P (k P) h
  | _, _ => none

theorem hr_sound {α : Type} {P : Program} {T : World} : ∀ (s : Sem α) (h : Hp) (a : α), hr P s h = some a → ∀ w, Sees T w h → s.run P w = .ok a w := by
  intro s
  induction s with
  | pure a => intro h b H w hs; simp only [hr, Option.some.injEq] at H; rw [H]; rfl
  | load m a k ih =>
    intro h b H w hs
    simp only [hr] at H
    cases hv : hc h a with
    | none => rw [hv] at H; cases H
    | some v =>
      rw [hv] at H
      have : w.cell? a = some v := by rw [World.cell?, hs.heap]; exact hv
      rw [Sem.run, this]; exact ih v h b H w hs
  | shape r k ih =>
    intro h b H w hs
    have : w.shape? r = hshape h r := by rw [World.shape?, hs.heap]; rfl
    rw [Sem.run, this]; exact ih _ h b H w hs
  | frozen a k ih =>
    intro h b H w hs
    have : w.frozen? a = hfr h a := by rw [World.frozen?, hs.heap]; rfl
    rw [Sem.run, this]; exact ih _ h b H w hs
  | program k ih => intro h b H w hs; rw [Sem.run]; exact ih _ h b H w hs
  | _ => intro h b H; cases H

theorem hr_bind {α β : Type} {P : Program} (s : Sem α) (f : α → Sem β) : ∀ h, hr P (s >>= f) h = (hr P s h).bind fun a => hr P (f a) h := by
  show ∀ h, hr P (s.bind f) h = _
  induction s with
  | load m a k ih => intro h; simp only [Sem.bind, hr, ih]; cases hc h a <;> rfl
  | shape r k ih => intro h; simp only [Sem.bind, hr, ih]
  | frozen a k ih => intro h; simp only [Sem.bind, hr, ih]
  | program k ih => intro h; simp only [Sem.bind, hr, ih]
  | _ => intro h; rfl

def readVar (P : Program) (t : TypeId) (v : Value) (h : Hp) : Option Value :=
  match v with
  | .pointer (some a) => hr P (loadVar t a) h
  | _ => none

def resVals (P : Program) (F : Env) (h : Hp) : List ResultVar → Option (List Value)
  | [] => some []
  | .tmp t :: l => (resVals P F h l).map (F t :: ·)
  | .cell a t :: l => (readVar P t (F a) h).bind fun v => (resVals P F h l).map (v :: ·)

def resOne : List Value → Value
  | [v] => v
  | l => .tuple l.toArray

/-- What the function's results read as, at its end. -/
def resH (P : Program) (l : List ResultVar) (F : Env) (Q : Value → Hp → Prop) (h : Hp) : Prop :=
  match resVals P F h l with
  | some vs => Q (resOne vs) h
  | none => False

def resF (F : Env) : ResultVar → Sem Value
  | .tmp t => pure (F t)
  | .cell a t => do loadVar t (← asAddr (F a))

theorem resF_read {F : Env} {h : Hp} : ∀ (l : List ResultVar) (vs : List Value), resVals P F h l = some vs → hr P (l.mapM (resF F)) h = some vs := by
  intro l
  induction l with
  | nil => intro vs H; simp only [resVals, Option.some.injEq] at H; subst H; rfl
  | cons x l ih =>
    intro vs H
    rw [List.mapM_cons, hr_bind]
    cases x with
    | tmp t =>
      simp only [resVals] at H
      cases hl : resVals P F h l with
      | none => rw [hl] at H; cases H
      | some us =>
        rw [hl] at H
        simp only [Option.map_some, Option.some.injEq] at H
        subst H
        show (some (F t)).bind _ = _
        rw [Option.bind_some, hr_bind, ih us hl]; rfl
    | cell a t =>
      simp only [resVals] at H
      cases hv : readVar P t (F a) h with
      | none => rw [hv] at H; cases H
      | some v =>
        rw [hv] at H
        cases hl : resVals P F h l with
        | none => rw [hl] at H; cases H
        | some us =>
          rw [hl] at H
          simp only [Option.bind_some, Option.map_some, Option.some.injEq] at H
          subst H
          have e : hr P (resF F (.cell a t)) h = some v := by
            show hr P (asAddr (F a) >>= fun b => loadVar t b) h = some v
            unfold readVar at hv
            split at hv
            · rename_i b hb
              rw [hb, hr_bind]; exact hv
            · cases hv
          rw [e, Option.bind_some, hr_bind, ih us hl]; rfl

theorem results_run {fn : Func} {l : List ResultVar} (hl : fn.results = l.toArray) {a : Act} {h : Hp} {vs : List Value} (H : resVals P (env a) h l = some vs) {w : World} (hs : Sees T w h) :
    (results fn a.tmps).run P w = .ok (resOne vs) w := by
  have e : results fn a.tmps = (do let us ← fn.results.mapM (resF (env a)); pure (if h : us.size = 1 then us[0] else .tuple us)) := by
    have e1 : (fun x : ResultVar => match x with | .tmp t => (pure (a.tmps.getD t undef) : Sem Value) | .cell x t => do loadVar t (← asAddr (a.tmps.getD x undef))) = resF (env a) := by
      funext x
      cases x <;> rfl
    rw [← e1]
    rfl
  rw [e, hl]
  refine hr_sound (T := T) _ h _ ?_ w hs
  rw [hr_bind, List.mapM_toArray, map_eq_pure_bind, hr_bind, resF_read l vs H]
  show some _ = _
  congr 1
  match vs with
  | [] => rfl
  | [v] => rfl
  | v :: u :: l => simp [resOne]
end

theorem env_start (args : Array Value) (k : Nat) : env { tmps := args ++ Array.replicate k undef, defers := [] } = envL args.toList 0 := by
  have key : ∀ (l : List Value) (j t : Nat), envL l j t = if j ≤ t then (l[t - j]?).getD undef else undef := by
    intro l
    induction l with
    | nil => intro j t; simp [envL]
    | cons v l ih =>
      intro j t
      simp only [envL, upd]
      by_cases h : t = j
      · subst h; simp
      · rw [if_neg h, ih]
        by_cases h' : j ≤ t
        · have e : t - j = (t - (j + 1)) + 1 := by omega
          rw [if_pos (by omega), if_pos h', e]; simp
        · rw [if_neg (by omega), if_neg h']
  funext t
  rw [key]
  simp only [env, Nat.zero_le, if_true, Nat.sub_zero, Array.getD_eq_getD_getElem?, Array.getElem?_append, Array.getElem?_toList]
  by_cases h : t < args.size
  · rw [if_pos h]
  · rw [if_neg h, Array.getElem?_eq_none (by omega : args.size ≤ t)]
    by_cases h2 : t - args.size < k
    · simp [h2]
    · simp [h2]

theorem CallsH.of_body {P : Program} {T : World} {f : FuncId} {fn : Func} {c : Code} {l : List ResultVar} {args : Array Value} {h : Hp} {Q : Value → Hp → Prop} (hf : P.funcs[f]? = some fn) (hb : fn.body = some c)
    (hl : fn.results = l.toArray) (hn : Nat.ble args.size fn.ntmps = true)
    (H : VS P fn.ntmps T c (fun F h' => resH P l F Q h') (fun _ _ _ => False) (fun F h' => resH P l F Q h') (envL args.toList 0) h) :
    CallsH P T f args h Q := by
  intro w hs
  refine calls_of_wp hf hb (Code.wp_mono (fun e a w hp => ?_) (H _ w ?_ rfl (env_start _ _) hs))
  · obtain ⟨q1, q2, h', q3, q4⟩ := hp
    have key : resH P l (env a) Q h' → ∃ v, (results fn a.tmps).run P w = .ok v w ∧ ∃ v' h'', Ending.returned v = .returned v' ∧ Sees T w h'' ∧ Q v' h'' := by
      intro hr
      unfold resH at hr
      split at hr
      · rename_i vs hvs
        exact ⟨_, results_run hl hvs q3, _, h', rfl, q3, hr⟩
      · exact hr.elim
    cases e with
    | normal => exact ⟨q2, key q4⟩
    | ret => exact ⟨q2, key q4⟩
    | _ => exact q4.elim
  · have := Nat.le_of_ble_eq_true hn
    simp only [Array.size_append, Array.size_replicate]; omega
end Go.V
