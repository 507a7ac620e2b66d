/- W22: maps whose keys are structs of plain cells, with an integer for each; entries are never struck. -/
import Derived.Test.YtpomedigibbeeaaGreatDoorW21
namespace Go.V
set_option linter.unusedVariables false
set_option linter.unusedSimpArgs false
section
variable {P:Program} {T:World} {ty:TypeId} {F:Env} {h:Hp} {K:Value→Hp→Prop}
def OX (P:Program) (t:TypeId) (m x:Value) (c:Bool) (K:Value→Hp→Prop) (h:Hp):Prop:=hw P (Instr.lookup t m x c) K h
def jS (P:Program) (t:TypeId) (K:Value→Hp→Prop) (h:Hp):Prop:=hw P (Instr.makeMap t none) K h
@[go_sem] theorem CS {t:TypeId} {m x:Operand} {c:Bool}:U9 P T (.lookup t m x c) ty K F h=OX P t (ev F m) (ev F x) c K h:=by
 show hw P (do pure (Next.value (←Instr.lookup t (ev F m) (ev F x) c))) (Xk P T K) h=_
 rw[Ze];rfl
@[go_sem] theorem FG {t:TypeId}:U9 P T (.makeMap t none) ty K F h=jS P t K h:=by
 show hw P (do pure (Next.value (←Instr.makeMap t none))) (Xk P T K) h=_
 rw[Ze];rfl
@[go_sem] theorem wU {t:TypeId} {m x:Operand} {c:Bool}:Kz P T ⟨none,.lookup t m x c,ty, "", #[],none⟩ K F h=OX P t (ev F m) (ev F x) c K h:=CS
@[go_sem] theorem uo {t:TypeId}:Kz P T ⟨none,.makeMap t none,ty, "", #[],none⟩ K F h=jS P t K h:=FG
@[go_sem] theorem Zb8 {t:TypeId}:jS P t K h=K (.map (some h.size)) (h.push (.map #[] 0)):=rfl
variable {α:Type} [DecidableEq α] {enc:α→List Value}
theorem IA {e:TypeId} {v:Value} (hz:(P.info? e).bind (·.zero)=some v) {Q:Value→Hp→Prop}:hw P (zeroValue e) Q h=Q v h:=by
 cases hi:P.info? e with
 | none=>rw[hi]at hz;cases hz
 | some i=>
  rw[hi]at hz
  unfold zeroValue
  rw[Ze,YX hi]
  have hz:i.zero=some v:=hz
  simp only[hz]
  rfl
theorem S6 {b:Nat} {es:Array MapEntry} {c:Nat} (hm:h[b]? = some (.map es c)) {Q:Obj→Hp→Prop}:hw P (getObj b) Q h↔Q (.map es c) h:=
 ⟨fun⟨o,h1,_,h2⟩=>(by rw[hm]at h1;cases h1;exact h2),fun H=>⟨_,hm,rfl,H⟩⟩
end
section
variable {P:Program} {n:Nat} {T:World} {N:Env→Hp→Prop} {X:Nat→Env→Hp→Prop} {R:Env→Hp→Prop} {F:Env} {h:Hp}
def RV (P:Program) (T:World) (ops:Array Oper) (S:Hp→Prop) (W:List Nat) (N:Env→Hp→Prop):Nat→Array Bool→Env→Hp→Prop
 | 0,listed,F,h=>Region.ready .any ops listed=[]∧N F h
 | k+1,listed,F,h=>(Region.ready .any ops listed=[]→N F h) ∧
   ∀i∈Region.ready .any ops listed,JJ P T ops i (fun F' h'=>(i∈W∨(S h→S h'))∧RV P T ops S W N k (listed.setIfInBounds i true) F' h') F h
theorem KP {ops:Array Oper} {S:Hp→Prop} {W:List Nat}:∀(k:Nat) (listed:Array Bool) (F:Env) (h:Hp),RV P T ops S W N k listed F h→DY P T ops (fun _=>True) N k listed F h:=by
 intro k
 induction k with
 | zero=>intro listed F h H;exact H
 | succ k ih=>intro listed F h H;exact⟨H.1,fun i hi=>XH (fun F' h' q=>⟨trivial,ih _ _ _ q.2⟩) (H.2 i hi)⟩
theorem Wg {ops:Array Oper} {S S1:Hp→Prop} {W:List Nat} {i:Nat} {oi:Oper} {v:Value} (hi:ops[i]? = some oi) (GZ:∀(j:Nat) (o:Oper) cs b,ops[j]? = some o→o.op ≠ .select cs b)
  (hW:(∀h,S1 h)∨((∀h,S h→S1 h)∧∀j∈W,∃f,QW ops f j i=true)) :
  ∀(k:Nat) (listed:Array Bool) (F:Env) (h:Hp),X8 ops listed →
   (∀j oj,ops[j]? = some oj→j≠i→listed.getD j true=false→(∀e∈oj.after,Region.binds .any e=true→e.on≠i)→oi.apart ops oj=true) →
   i∈Region.ready .any ops listed→Qi P T ops S1 oi v F→((∀h,S1 h)∨S h) →
   RV P T ops S W N k (listed.setIfInBounds i true) (Z0 F oi.dst v) h→RV P T ops S W N (k+1) listed F h:=by
 intro k
 induction k with
 | zero=>
  intro listed F h _ _ hr hy hS H
  have hS1:S1 h:=hS.elim (fun q=>q h) (fun q=>hW.elim (fun p=>p h) (fun p=>p.1 h q))
  refine⟨fun h=>(by rw[h]at hr;cases hr),fun j hj=>?_⟩
  by_cases U8:j=i
  ·subst U8;exact hy.opI hi hS1 ⟨.inr id,H⟩
  ·have:=ready_mono hj U8
   rw[H.1]at this
   cases this
 | succ k ih=>
  intro listed F h XY OQ hr hy hS H
  have hS1:S1 h:=hS.elim (fun q=>q h) (fun q=>hW.elim (fun p=>p h) (fun p=>p.1 h q))
  refine⟨fun h=>(by rw[h]at hr;cases hr),fun j hj=>?_⟩
  by_cases U8:j=i
  ·subst U8;exact hy.opI hi hS1 ⟨.inr id,H⟩
  ·have h1:=H.2 j (ready_mono hj U8)
   obtain⟨G0,oj,bU,YU⟩:=mem_ready.1 hj
   have Hq:∀e∈oj.after,Region.binds .any e=true→e.on≠i:=fun e he hb heq=>by
    have h1:=YU e he hb
    have h0:=(mem_ready.1 hr).1
    rw[heq]at h1
    rcases Nat.lt_or_ge i listed.size with h'|h'
    ·simp[h']at h0 h1;rw[h0]at h1;cases h1
    ·simp[Array.getElem?_eq_none h']at h1
   have h2:=Mv bU (OQ j oj bU U8 G0 Hq) (fun cs b=>GZ i oi cs b hi) (fun cs b=>GZ j oj cs b bU) hy h1
   have Mz:∀k ok,ops[k]? = some ok→k≠i→(listed.setIfInBounds j true).getD k true=false →
     (∀e∈ok.after,Region.binds .any e=true→e.on≠i)→oi.apart ops ok=true:=fun k ok hk hki ub hno=>by
    refine OQ k ok hk hki ?_ hno
    by_cases AT:j=k
    ·subst AT;exact G0
    ·rw[getD_set_ne true AT]at ub;exact ub
   refine XH (fun F' h' h3=>?_) h2
   refine⟨h3.2.1,ih (listed.setIfInBounds j true) F' h' (XY.set hj) Mz (ready_mono hr (Ne.symm U8)) h3.1 ?_ ?_⟩
   ·rcases hW with hW|⟨hW1,hW2⟩
    ·exact .inl hW
    ·rcases hS with hS|hS
     ·exact .inl hS
     ·rcases h3.2.1 with hjw|hss
      ·obtain⟨f,hf⟩:=hW2 j hjw
       have h1:=OT XY hf hj
       have h0:=(mem_ready.1 hr).1
       rcases Nat.lt_or_ge i listed.size with h'|h'
       ·simp[h']at h0 h1;rw[h0]at h1;cases h1
       ·simp[Array.getElem?_eq_none h']at h1
      ·exact .inr (hss hS)
   ·rw[Array.setIfInBounds_comm _ _ U8]
    exact h3.2.2
inductive Tz where
 | nil
 | p (i:Nat) (t:Tz)
 | q (i:Nat) (t:Tz)
 | s (i:Nat) (t:Tz)
 | w (i:Nat) (t:Tz)
 | or (i:Nat) (t:Tz) (r:Tz)
def Tz.alts:Tz→List Nat
 | .s i _=>[i]
 | .w i _=>[i]
 | .or i _ r=>i :: r.alts
 | _=>[]
def Tz.RT:Tz→Bool
 | .q _ _=>true
 | .p _ t=>t.RT
 | .s _ t=>t.RT
 | .or _ t r=>t.RT||r.RT
 | _=>false
def Tz.ok (ops:Array Oper) (W:List Nat):Tz→Nat→Array Bool→Bool→Bool
 | .nil,n,listed,_=>Nat.beq n 0&&(Region.ready .any ops listed).isEmpty
 | .p _ _,0,_,_=>false
 | .p i t,n+1,listed,_=>((Region.ready .any ops listed).contains i&&Region.free .any ops listed i)&&t.ok ops W n (listed.setIfInBounds i true) true
 | .q _ _,0,_,_=>false
 | .q i t,n+1,listed,_=>((Region.ready .any ops listed).contains i&&(Region.free .any ops listed i&&W.all fun j=>QW ops ae j i))&&t.ok ops W n (listed.setIfInBounds i true) true
 | .s _ _,0,_,_=>false
 | .s i t,n+1,listed,b=>(!b||(Region.ready .any ops listed == [i]))&&t.ok ops W n (listed.setIfInBounds i true) true
 | .w _ _,0,_,_=>false
 | .w i t,n+1,listed,b=>((!b||(Region.ready .any ops listed == [i]))&&(W.contains i&&!t.RT))&&t.ok ops W n (listed.setIfInBounds i true) true
 | .or _ _ _,0,_,_=>false
 | .or i t r,n+1,listed,b=>(!b||(Region.ready .any ops listed == i :: r.alts))&&(t.ok ops W n (listed.setIfInBounds i true) true&&r.ok ops W (n+1) listed false)
def GW (P:Program) (T:World) (ops:Array Oper) (S:Hp→Prop) (N:Env→Hp→Prop):Tz→Env→Hp→Prop
 | .nil,F,h=>N F h
 | .p i t,F,h=>match ops[i]? with
  | some o=>if Z2 ops o F then ∃v,(∀h',Kz P T o (fun v' P9=>v'=v∧P9=h') F h')∧GW P T ops S N t (Z0 F o.dst v) h else GW P T ops S N t (Z0 F o.dst undef) h
  | none=>False
 | .q i t,F,h=>match ops[i]? with
  | some o=>if Z2 ops o F then ∃v,(∀h',S h'→Kz P T o (fun v' P9=>v'=v∧P9=h') F h')∧GW P T ops S N t (Z0 F o.dst v) h else GW P T ops S N t (Z0 F o.dst undef) h
  | none=>False
 | .s i t,F,h=>JJ P T ops i (fun F' h'=>S h'∧GW P T ops S N t F' h') F h
 | .w i t,F,h=>JJ P T ops i (fun F' h'=>GW P T ops S N t F' h') F h
 | .or i t r,F,h=>JJ P T ops i (fun F' h'=>S h'∧GW P T ops S N t F' h') F h∧GW P T ops S N r F h
theorem HW {ops:Array Oper} {S:Hp→Prop} {W:List Nat} (hs:Region.noSelect ops=true):∀(t:Tz),
  (∀(k:Nat) (listed:Array Bool) (F:Env) (h:Hp),X8 ops listed→t.ok ops W k listed true=true→(t.RT=true→S h)→GW P T ops S N t F h→RV P T ops S W N k listed F h) ∧
  (∀(k:Nat) (listed:Array Bool) (F:Env) (h:Hp),X8 ops listed→t.ok ops W (k+1) listed false=true→GW P T ops S N t F h→∀j∈t.alts,j∈Region.ready .any ops listed→JJ P T ops j (fun F' h'=>(j∈W∨(S h→S h'))∧RV P T ops S W N k (listed.setIfInBounds j true) F' h') F h):=by
 intro t
 induction t with
 | nil=>
  refine⟨fun k listed F h XY hB hS H=>?_,fun k listed F h _ _ _ j hj=>by cases hj⟩
  simp only[Tz.ok,Bool.and_eq_true,List.isEmpty_iff]at hB
  obtain⟨h1,h2⟩:=hB
  obtain rfl:=Nat.eq_of_beq_eq_true h1
  exact⟨h2,H⟩
 | p i t ih=>
  refine⟨fun k listed F h XY hB hS H=>?_,fun k listed F h _ _ _ j hj=>by cases hj⟩
  cases k with
  | zero=>simp[Tz.ok]at hB
  | succ k=>
   simp only[Tz.ok,Bool.and_eq_true]at hB
   obtain⟨⟨h1,h2⟩,h3⟩:=hB
   have SP:i∈Region.ready .any ops listed:=by simpa using h1
   obtain⟨_,o,ho,_⟩:=mem_ready.1 SP
   simp only[GW,ho]at H
   split at H
   ·rename_i Mu
    obtain⟨v,hv,H⟩:=H
    exact Wg (S1:=fun _=>True) ho (Region.noSelect_spec hs) (.inl fun _=>trivial) k listed F h XY (Region.free_spec ho h2) SP (.inl ⟨Mu,fun h' _=>hv h'⟩) (.inl fun _=>trivial) (ih.1 k _ _ _ (XY.set SP) h3 hS H)
   ·rename_i Mu
    exact Wg (S1:=fun _=>True) ho (Region.noSelect_spec hs) (.inl fun _=>trivial) k listed F h XY (Region.free_spec ho h2) SP (.inr ⟨by simpa using Mu,rfl⟩) (.inl fun _=>trivial) (ih.1 k _ _ _ (XY.set SP) h3 hS H)
 | q i t ih=>
  refine⟨fun k listed F h XY hB hS H=>?_,fun k listed F h _ _ _ j hj=>by cases hj⟩
  have hS:=hS rfl
  cases k with
  | zero=>simp[Tz.ok]at hB
  | succ k=>
   simp only[Tz.ok,Bool.and_eq_true]at hB
   obtain⟨⟨h1,h2,hw⟩,h3⟩:=hB
   have SP:i∈Region.ready .any ops listed:=by simpa using h1
   obtain⟨_,o,ho,_⟩:=mem_ready.1 SP
   have hW:∀j∈W,∃f,QW ops f j i=true:=fun j hj=>⟨ae,List.all_eq_true.1 hw j hj⟩
   simp only[GW,ho]at H
   split at H
   ·rename_i Mu
    obtain⟨v,hv,H⟩:=H
    exact Wg ho (Region.noSelect_spec hs) (.inr ⟨fun _ q=>q,hW⟩) k listed F h XY (Region.free_spec ho h2) SP (.inl ⟨Mu,hv⟩) (.inr hS) (ih.1 k _ _ _ (XY.set SP) h3 (fun _=>hS) H)
   ·rename_i Mu
    exact Wg ho (Region.noSelect_spec hs) (.inr ⟨fun _ q=>q,hW⟩) k listed F h XY (Region.free_spec ho h2) SP (.inr ⟨by simpa using Mu,rfl⟩) (.inr hS) (ih.1 k _ _ _ (XY.set SP) h3 (fun _=>hS) H)
 | s i t ih=>
  have second:∀(k:Nat) (listed:Array Bool) (F:Env) (h:Hp),X8 ops listed→i∈Region.ready .any ops listed→t.ok ops W k (listed.setIfInBounds i true) true=true→GW P T ops S N (.s i t) F h→JJ P T ops i (fun F' h'=>(i∈W∨(S h→S h'))∧RV P T ops S W N k (listed.setIfInBounds i true) F' h') F h:=by
   intro k listed F h XY SP hB H
   exact XH (fun F' h' q=>⟨.inr fun _=>q.1,ih.1 k _ _ _ (XY.set SP) hB (fun _=>q.1) q.2⟩) H
  refine⟨fun k listed F h XY hB hS H=>?_,fun k listed F h XY hB H j hj hr=>?_⟩
  ·cases k with
   | zero=>simp[Tz.ok]at hB
   | succ k=>
    simp only[Tz.ok,Bool.and_eq_true,Bool.not_true,Bool.false_or,beq_iff_eq]at hB
    refine⟨fun h0=>(by rw[hB.1]at h0;cases h0),fun j hj=>?_⟩
    have hr:=hj
    rw[hB.1]at hj
    have hj:j=i:=by simpa using hj
    subst hj
    exact second k listed F h XY hr hB.2 H
  ·simp only[Tz.ok,Bool.and_eq_true]at hB
   have hj:j=i:=by simpa [Tz.alts] using hj
   subst hj
   exact second k listed F h XY hr hB.2 H
 | w i t ih=>
  have second:∀(k:Nat) (listed:Array Bool) (F:Env) (h:Hp),X8 ops listed→i∈Region.ready .any ops listed→i∈W→t.RT=false→t.ok ops W k (listed.setIfInBounds i true) true=true→GW P T ops S N (.w i t) F h→JJ P T ops i (fun F' h'=>(i∈W∨(S h→S h'))∧RV P T ops S W N k (listed.setIfInBounds i true) F' h') F h:=by
   intro k listed F h XY SP hw hq hB H
   exact XH (fun F' h' q=>⟨.inl hw,ih.1 k _ _ _ (XY.set SP) hB (fun e=>by rw[hq]at e;cases e) q⟩) H
  refine⟨fun k listed F h XY hB hS H=>?_,fun k listed F h XY hB H j hj hr=>?_⟩
  ·cases k with
   | zero=>simp[Tz.ok]at hB
   | succ k=>
    simp only[Tz.ok,Bool.and_eq_true,Bool.not_true,Bool.false_or,beq_iff_eq,Bool.not_eq_true']at hB
    obtain⟨⟨h1,h2,h3⟩,h4⟩:=hB
    refine⟨fun h0=>(by rw[h1]at h0;cases h0),fun j hj=>?_⟩
    have hr:=hj
    rw[h1]at hj
    have hj:j=i:=by simpa using hj
    subst hj
    exact second k listed F h XY hr (by simpa using h2) h3 h4 H
  ·simp only[Tz.ok,Bool.and_eq_true,Bool.not_eq_true']at hB
   obtain⟨⟨h1,h2,h3⟩,h4⟩:=hB
   have hj:j=i:=by simpa [Tz.alts] using hj
   subst hj
   exact second k listed F h XY hr (by simpa using h2) h3 h4 H
 | or i t r wH wI=>
  have second:∀(k:Nat) (listed:Array Bool) (F:Env) (h:Hp),X8 ops listed→t.ok ops W k (listed.setIfInBounds i true) true=true→r.ok ops W (k+1) listed false=true→GW P T ops S N (.or i t r) F h→∀j∈(Tz.or i t r).alts,j∈Region.ready .any ops listed→JJ P T ops j (fun F' h'=>(j∈W∨(S h→S h'))∧RV P T ops S W N k (listed.setIfInBounds j true) F' h') F h:=by
   intro k listed F h XY hB hR H j hj hr
   rcases List.mem_cons.1 hj with hj|hj
   ·subst hj
    exact XH (fun F' h' q=>⟨.inr fun _=>q.1,wH.1 k _ _ _ (XY.set hr) hB (fun _=>q.1) q.2⟩) H.1
   ·exact wI.2 k listed F h XY hR H.2 j hj hr
  refine⟨fun k listed F h XY hB hS H=>?_,fun k listed F h XY hB H j hj hr=>?_⟩
  ·cases k with
   | zero=>simp[Tz.ok]at hB
   | succ k=>
    simp only[Tz.ok,Bool.and_eq_true,Bool.not_true,Bool.false_or,beq_iff_eq]at hB
    refine⟨fun h0=>(by rw[hB.1]at h0;cases h0),fun j hj=>?_⟩
    have hr:=hj
    rw[hB.1]at hj
    exact second k listed F h XY hB.2.1 hB.2.2 H j hj hr
  ·simp only[Tz.ok,Bool.and_eq_true]at hB
   exact second k listed F h XY hB.2.1 hB.2.2 H j hj hr
def FH (P:Program) (T:World) (op:Op) (ty:TypeId) (C:Value→Prop) (F:Env):Prop:=
 match op with
 | .load _ _=>False
 | op=>VB P T 0 #[] op ty C F
theorem IB {op:Op} {ty:TypeId} {C:Value→Prop} (H:FH P T op ty C F):∃v,(∀h',U9 P T op ty (fun v' P9=>v'=v∧P9=h') F h')∧C v:=by
 cases op<;>first|exact H|exact H.elim
def zPg (P:Program) (T:World) (K:Env→Hp→Prop) (F:Env) (h:Hp) (d:Option Tmp) (op:Op) (ty:TypeId) (v:Value) (b:Bool):Prop:=Xr v b (FH P T op ty (fun v=>K (Z0 F d v) h) F) (K (Z0 F d undef) h)
def zP (P:Program) (T:World) (ops:List Oper) (K:Env→Hp→Prop) (F:Env) (h:Hp) (o:Option Oper):Prop:=
 match o with
 | some ⟨d,op,ty,_,_,none⟩=>FH P T op ty (fun v=>K (Z0 F d v) h) F
 | some ⟨d,op,ty,_,_,some (j,b)⟩=>zPg P T K F h d op ty (Qu ops F j) b
 | none=>False
def Kv (P:Program) (T:World) (ops:List Oper) (B:Nat) (h0:Hp) (N:Env→Hp→Prop):Tz→Env→Hp→Prop
 | .nil,F,h=>N F h
 | .p i t,F,h=>zP P T ops (Kv P T ops B h0 N t) F h (nth ops i)
 | .q i t,F,h=>wQ P T ops B h0 (Kv P T ops B h0 N t) F h (nth ops i)
 | .s i t,F,h=>wS P T ops B h0 (Kv P T ops B h0 N t) F h (nth ops i)
 | .w i t,F,h=>wW P T ops (Kv P T ops B h0 N t) F h (nth ops i)
 | .or i t r,F,h=>wS P T ops B h0 (Kv P T ops B h0 N t) F h (nth ops i)∧Kv P T ops B h0 N r F h
theorem CT {ops:List Oper} {B:Nat} {h0:Hp} {N:Env→Hp→Prop}:∀(t:Tz) (F:Env) (h:Hp),Kv P T ops B h0 N t F h→GW P T ops.toArray (fun h'=>Zf B h0 h') N t F h:=by
 intro t
 induction t with
 | nil=>intro F h H;exact H
 | p i t ih=>
  intro F h H
  simp only[Kv]at H
  simp only[GW]
  cases ho:nth ops i with
  | none=>rw[ho]at H;exact H.elim
  | some o=>
   rw[UH ho]
   rw[ho]at H
   obtain⟨d,op,ty,pos,QS,g⟩:=o
   cases g with
   | none=>
    show (if Z2 ops.toArray _ F=true then _ else _)
    rw[if_pos (by rfl)]
    obtain⟨v,hv,H⟩:=IB H
    exact⟨v,fun h'=>X6 (hv h'),ih _ _ H⟩
   | some jb=>
    obtain⟨j,b⟩:=jb
    show (if Z2 ops.toArray _ F=true then _ else _)
    rcases YM ops F d op pos QS j b H with⟨hw,H⟩|⟨hw,H⟩
    ·rw[if_pos hw]
     obtain⟨v,hv,H⟩:=IB H
     exact⟨v,fun h'=>X6 (hv h'),ih _ _ H⟩
    ·rw[hw,if_neg (by simp)]
     exact ih _ _ H
 | q i t ih=>
  intro F h H
  simp only[Kv]at H
  simp only[GW]
  cases ho:nth ops i with
  | none=>rw[ho]at H;exact H.elim
  | some o=>
   rw[UH ho]
   rw[ho]at H
   obtain⟨d,op,ty,pos,QS,g⟩:=o
   cases g with
   | none=>
    show (if Z2 ops.toArray _ F=true then _ else _)
    rw[if_pos (by rfl)]
    obtain⟨v,hv,H⟩:=Ux H
    exact⟨v,fun h' hs=>X6 (hv h' hs),ih _ _ H⟩
   | some jb=>
    obtain⟨j,b⟩:=jb
    show (if Z2 ops.toArray _ F=true then _ else _)
    rcases YM ops F d op pos QS j b H with⟨hw,H⟩|⟨hw,H⟩
    ·rw[if_pos hw]
     obtain⟨v,hv,H⟩:=Ux H
     exact⟨v,fun h' hs=>X6 (hv h' hs),ih _ _ H⟩
    ·rw[hw,if_neg (by simp)]
     exact ih _ _ H
 | s i t ih=>intro F h H;exact RU ih H
 | w i t ih=>intro F h H;exact FA ih H
 | or i t r wH wI=>intro F h H;exact⟨RU wH H.1,wI _ _ H.2⟩
def Zca (n:Nat) (ops:Array Oper) (W:List Nat) (t:Tz):Bool:=ON n ops&&(Region.noSelect ops&&t.ok ops W ops.size (Array.replicate ops.size false) true)
theorem VS.z {id:Nat} {ops:List Oper} (B:Nat) (W:List Nat) (t:Tz) (hm:P.follows .mixedOrders=true) (JD:Zca n ops.toArray W t=true)
  (H:Kv P T ops B h N t F h):VS P n T (.region id ops.toArray true) N X R F h:=by
 intro a w h1 h2 h3 h4
 simp only[Zca,Bool.and_eq_true]at JD
 obtain⟨k1,k2,k3⟩:=JD
 refine wp_region_any hm ?_
 refine X4 k1 _ _ F h (KP _ _ _ _ ((HW (S:=fun h'=>Zf B h h') k2 t).1 _ _ F h (OV _ _) k3 (fun _=>Zf.refl _ _) (CT t F h H))) a _ h1 h2 h3 ⟨h4.heap,h4.tape,h4.os,h4.output⟩
variable {ops:List Oper} {B:Nat} {h0:Hp} {t r:Tz} {i j:Nat} {d:Option Tmp} {op:Op} {ty:TypeId} {pos:String} {QS:Array Edge} {b c:Bool} {v:Value} {K:Env→Hp→Prop} {C:Value→Prop}
@[go_sem] theorem Zfq:Kv P T ops B h0 N .nil F h=N F h:=rfl
@[go_sem] theorem Zoo:Kv P T ops B h0 N (.p i t) F h=zP P T ops (Kv P T ops B h0 N t) F h (nth ops i):=rfl
@[go_sem] theorem Zop:Kv P T ops B h0 N (.q i t) F h=wQ P T ops B h0 (Kv P T ops B h0 N t) F h (nth ops i):=rfl
@[go_sem] theorem Zoq:Kv P T ops B h0 N (.s i t) F h=wS P T ops B h0 (Kv P T ops B h0 N t) F h (nth ops i):=rfl
@[go_sem] theorem Zor:Kv P T ops B h0 N (.w i t) F h=wW P T ops (Kv P T ops B h0 N t) F h (nth ops i):=rfl
@[go_sem] theorem ZiK:Kv P T ops B h0 N (.or i t r) F h=(wS P T ops B h0 (Kv P T ops B h0 N t) F h (nth ops i)∧Kv P T ops B h0 N r F h):=rfl
@[go_sem] theorem Zcb:zP P T ops K F h (some ⟨d,op,ty,pos,QS,none⟩)=FH P T op ty (wKq K F d h) F:=rfl
@[go_sem] theorem Zcc:zP P T ops K F h (some ⟨d,op,ty,pos,QS,some (j,b)⟩)=zPg P T K F h d op ty (Qu ops F j) b:=rfl
@[go_sem] theorem Zcd:zPg P T K F h d op ty (.bool c) b=if c=b then FH P T op ty (wKq K F d h) F else K (Z0 F d undef) h:=rfl
@[go_sem] theorem Zce {x:Operand}:FH P T (.move x) ty C F=VB P T 0 #[] (.move x) ty C F:=rfl
@[go_sem] theorem wX {x:Operand}:FH P T (.assign x) ty C F=VB P T 0 #[] (.assign x) ty C F:=rfl
@[go_sem] theorem Zay {t:TypeId} {x:Operand} {i:Nat}:FH P T (.fieldAddr t x i) ty C F=VB P T 0 #[] (.fieldAddr t x i) ty C F:=rfl
@[go_sem] theorem ZiL {t:TypeId} {x i:Operand}:FH P T (.indexAddr t x i) ty C F=VB P T 0 #[] (.indexAddr t x i) ty C F:=rfl
@[go_sem] theorem Zcf {x y z:Operand}:FH P T (.pick x y z) ty C F=VB P T 0 #[] (.pick x y z) ty C F:=rfl
@[go_sem] theorem Zfr {x:Operand}:FH P T (.nilCheck x) ty C F=VB P T 0 #[] (.nilCheck x) ty C F:=rfl
@[go_sem] theorem Zfs {op:BinOp} {t t':TypeId} {x y:Operand}:FH P T (.binOp op t x y t') ty C F=VB P T 0 #[] (.binOp op t x y t') ty C F:=rfl
@[go_sem] theorem ZiM {op:UnOp} {t:TypeId} {x:Operand}:FH P T (.unOp op t x) ty C F=VB P T 0 #[] (.unOp op t x) ty C F:=rfl
@[go_sem] theorem uq {x:Operand} {i:Nat}:FH P T (.extract x i) ty C F=VB P T 0 #[] (.extract x i) ty C F:=rfl
@[go_sem] theorem Zft {t:TypeId} {x:Operand} {lo hi mx:Option Operand}:FH P T (.slice t x lo hi mx) ty C F=VB P T 0 #[] (.slice t x lo hi mx) ty C F:=rfl
@[go_sem] theorem Zaz {t:TypeId} {parts:Array (Nat × Operand)}:FH P T (.build t parts) ty C F=VB P T 0 #[] (.build t parts) ty C F:=rfl
@[go_sem] theorem Zcg {c:Call}:FH P T (.call c) ty C F=VB P T 0 #[] (.call c) ty C F:=rfl
end
def Y9 {β:Type}:List (Int × β)→Int→Option β
 | [],_=>none
 | (a,v) :: r,k=>if a=k then some v else Y9 r k
def ins {β:Type}:List (Int × β)→Int→β→List (Int × β)
 | [],k,v=>[(k,v)]
 | (a,x) :: r,k,v=>if a=k then (a,v) :: r else (a,x) :: ins r k v
def Ua {β γ:Type} (f:β→γ) (l:List (Int × β)):List (Int × γ):=l.map fun x=>(x.1,f x.2)
theorem Xf {β γ:Type} (f:β→γ):∀(l:List (Int × β)) (k:Int),Y9 (Ua f l) k=(Y9 l k).map f:=by
 intro l k
 induction l with
 | nil=>rfl
 | cons x l ih=>
  obtain⟨a,v⟩:=x
  show (if a=k then some (f v) else Y9 (Ua f l) k)=Option.map f (if a=k then some v else Y9 l k)
  rw[ih]
  split<;>rfl
theorem Tv {β γ:Type} (f:β→γ):∀(l:List (Int × β)) (k:Int) (v:β),Ua f (ins l k v)=ins (Ua f l) k (f v):=by
 intro l k v
 induction l with
 | nil=>rfl
 | cons x l ih=>
  obtain⟨a,u⟩:=x
  show Ua f (if a=k then (a,v) :: l else (a,u) :: ins l k v)=if a=k then (a,f v) :: Ua f l else (a,f u) :: ins (Ua f l) k (f v)
  split
  ·rfl
  ·rw[←ih];rfl
theorem OY {β γ:Type} (f:β→γ) (l:List (Int × β)):(Ua f l).length=l.length:=List.length_map ..
theorem S7 {β:Type}:∀(l:List (Int × β)) (k:Int) (v:β),(ins l k v).length=if (Y9 l k).isSome=true then l.length else l.length+1:=by
 intro l k v
 induction l with
 | nil=>rfl
 | cons x l ih=>
  obtain⟨a,u⟩:=x
  unfold ins Y9
  by_cases h:a=k
  ·rw[if_pos h,if_pos h];rfl
  ·rw[if_neg h,if_neg h,List.length_cons,ih,List.length_cons]
   split<;>rfl
theorem ai {β:Type}:∀(l:List (Int × β)) (k j:Int) (v:β),Y9 (ins l k v) j=if k=j then some v else Y9 l j:=by
 intro l k j v
 induction l with
 | nil=>rfl
 | cons x l ih=>
  obtain⟨a,u⟩:=x
  unfold ins
  by_cases h:a=k
  ·subst h
   rw[if_pos rfl]
   unfold Y9
   by_cases hj:a=j
   ·rw[if_pos hj,if_pos hj]
   ·rw[if_neg hj,if_neg hj,if_neg hj]
  ·rw[if_neg h]
   show (if a=j then some u else Y9 (ins l k v) j)=if k=j then some v else if a=j then some u else Y9 l j
   rw[ih]
   by_cases hj:a=j
   ·rw[if_pos hj,if_pos hj,if_neg (fun e=>h (hj.trans e.symm))]
   ·rw[if_neg hj,if_neg hj]
theorem Mj {β:Type} {l:List (Int × β)} {k:Int} {v:β} (h:Y9 l k=some v):(k,v)∈l:=by
 induction l with
 | nil=>cases h
 | cons y l ih=>
  obtain⟨a,u⟩:=y
  unfold Y9 at h
  split at h
  ·rename_i he
   cases h;subst he;exact List.mem_cons_self
  ·exact List.mem_cons_of_mem _ (ih h)
section
variable {P:Program} {T:World} {ty:TypeId} {F:Env} {h:Hp} {K:Value→Hp→Prop}
def JE:Nat→List (Int × Value)→List MapEntry
 | _,[]=>[]
 | i,(k,v) :: l=>⟨.int .i64 k,v,i⟩ :: JE (i+1) l
def Xg (l:List (Int × Value)):Obj:=.map (JE 0 l).toArray l.length
theorem Uq:∀(l:List (Int × Value)) (i:Nat),(JE i l).length=l.length:=by
 intro l
 induction l with
 | nil=>intro i;rfl
 | cons x l ih=>intro i;obtain⟨k,v⟩:=x;simp[JE,ih]
def Oh (l:List (Int × Value)) (k:Int):Nat→Option (Nat × Value):=fun j=>match l with
 | []=>none
 | (a,v) :: r=>if k=a then some (j,v) else Oh r k (j+1)
theorem FI (k:Int):∀(l:List (Int × Value)) (i j:Nat),Instr.findNow (.int .i64) (.int .i64 k) (JE i l) j=some (Oh l k j):=by
 intro l
 induction l with
 | nil=>intro i j;rfl
 | cons x l ih=>
  intro i j
  obtain⟨a,v⟩:=x
  unfold JE Instr.findNow Oh
  simp only[Instr.sameNow,if_true]
  by_cases hk:k=a
  ·subst hk;simp
  ·rw[if_neg hk]
   have:(k == a)=false:=by simpa using hk
   rw[this]
   exact ih _ _
theorem jT (k:Int):∀(l:List (Int × Value)) (j:Nat),(Oh l k j).map (·.2)=Y9 l k:=by
 intro l
 induction l with
 | nil=>intro j;rfl
 | cons x l ih=>
  intro j
  obtain⟨a,v⟩:=x
  unfold Oh Y9
  by_cases hk:k=a
  ·rw[if_pos hk,if_pos hk.symm];rfl
  ·rw[if_neg hk,if_neg (fun e=>hk e.symm)];exact ih _
theorem dx {k:Int}:∀{l:List (Int × Value)} {j:Nat},Oh l k j=none→∀(v:Value),ins l k v=l++[(k,v)]:=by
 intro l
 induction l with
 | nil=>intro j _ v;rfl
 | cons x l ih=>
  intro j h v
  obtain⟨a,u⟩:=x
  unfold Oh at h
  split at h
  ·cases h
  ·rename_i hk
   unfold ins
   rw[if_neg (fun e=>hk e.symm),ih h v];rfl
theorem CU (k:Int) (v:Value):∀(l:List (Int × Value)) (i:Nat),JE i (l++[(k,v)])=JE i l++[⟨.int .i64 k,v,i+l.length⟩]:=by
 intro l
 induction l with
 | nil=>intro i;rfl
 | cons x l ih=>intro i;obtain⟨a,u⟩:=x;simp only[List.cons_append,JE,ih,List.length_cons];congr 4;omega
theorem dy {k:Int}:∀{l:List (Int × Value)} {i j:Nat} {n:Nat} {u:Value},Oh l k j=some (n,u)→∃m,n=m+j∧m<l.length∧(JE i l)[m]? = some ⟨.int .i64 k,u,i+m⟩∧∀v,JE i (ins l k v)=(JE i l).set m ⟨.int .i64 k,v,i+m⟩:=by
 intro l
 induction l with
 | nil=>intro i j n u h;cases h
 | cons x l ih=>
  intro i j n u h
  obtain⟨a,w⟩:=x
  unfold Oh at h
  by_cases hk:k=a
  ·subst hk
   rw[if_pos rfl]at h
   cases h
   exact⟨0,by omega,by simp,rfl,fun v=>by unfold ins;rw[if_pos rfl];rfl⟩
  ·rw[if_neg hk]at h
   obtain⟨m,h1,h2,h3,h4⟩:=ih (i:=i+1) h
   refine⟨m+1,by omega,by simpa using h2,?_,fun v=>?_⟩
   ·simp only[JE,List.getElem?_cons_succ];rw[h3];congr 2;omega
   ·unfold ins
    rw[if_neg (fun e=>hk e.symm)]
    simp only[JE,List.set_cons_succ,h4];congr 3;omega
def OZ (P:Program) (t:TypeId) (m k x:Value) (K:Value→Hp→Prop) (h:Hp):Prop:=hw P (Instr.mapUpdate t m k x) (fun _ h=>K undef h) h
@[go_sem] theorem KQ {t:TypeId} {m k x:Operand}:U9 P T (.mapUpdate t m k x) ty K F h=OZ P t (ev F m) (ev F k) (ev F x) K h:=by
 show hw P (do let _ ←Instr.mapUpdate t (ev F m) (ev F k) (ev F x);pure Next.skip) (Xk P T K) h=_
 rw[Ze];rfl
@[go_sem] theorem CV {t:TypeId} {m k x:Operand}:U9 P T (.insert t m k x) ty K F h=OZ P t (ev F m) (ev F k) (ev F x) K h:=by
 show hw P (do let _ ←Instr.mapUpdate t (ev F m) (ev F k) (ev F x);pure Next.skip) (Xk P T K) h=_
 rw[Ze];rfl
@[go_sem] theorem nY {t:TypeId} {m k x:Operand}:Kz P T ⟨none,.mapUpdate t m k x,ty, "", #[],none⟩ K F h=OZ P t (ev F m) (ev F k) (ev F x) K h:=KQ
@[go_sem] theorem wZ {t:TypeId} {m k x:Operand}:Kz P T ⟨none,.insert t m k x,ty, "", #[],none⟩ K F h=OZ P t (ev F m) (ev F k) (ev F x) K h:=CV
def aj (P:Program) (t:TypeId):Option TypeId:=match P.underlying t with
 | some (.map k e)=>(match P.underlying k with|some (.int .i64)=>some e|_=>none)
 | _=>none
theorem RW {t e:TypeId} (h:aj P t=some e):∃k,P.underlying t=some (.map k e)∧P.underlying k=some (.int .i64):=by
 unfold aj at h
 split at h
 ·rename_i k e' hu
  split at h
  ·rename_i hk
   cases h
   exact⟨k,hu,hk⟩
  ·cases h
 ·cases h
def ur (P:Program) (t:TypeId):Option Value:=(P.info? t).bind (·.zero)
theorem S8 {k:TypeId} (hk:P.underlying k=some (.int .i64)) {b:Bool} {n:Int} {Q:Unit→Hp→Prop}:hw P (Instr.checkKey b 10000 k (.int .i64 n)) Q h=Q () h:=by
 show hw P (do
  match ←underlying k,(Value.int .i64 n) with
  | .interface _,.iface d x=>
   let info ←typeInfo d
   if !info.comparable then
    if b then runtimePanic (.unhashable d)
    runtimePanic (.error ("hash of unhashable type " ++ (←typeStr d)))
   Instr.checkKey b 9999 d x
  | .array len elem,.agg cs=>
   for i in [0:len] do Instr.checkKey b 9999 elem (←part elem cs (i*(←sizeOf elem)))
  | .struct fields,.agg cs=>
   for f in fields do
    if f.name ≠ "_" then Instr.checkKey b 9999 f.type (←part f.type cs f.offset)
  | .interface _,.nilIface=>pure ()
  | .interface _,_|.array _ _,_|.struct _,_=>stuck "map key: not a value of its type"
  | _,_=>pure ()) Q h=_
 rw[Ze,Zr hk]
 rfl
theorem Tw {k:TypeId} (hk:P.underlying k=some (.int .i64)) {n:Int} {l:List (Int × Value)} {Q:Option (Nat × Value)→Hp→Prop}:hw P (Instr.findKey k (.int .i64 n) (JE 0 l)) Q h=Q (Oh l n 0) h:=by
 unfold Instr.findKey
 rw[Ze,Zr hk]
 simp only[FI]
 rfl
theorem Yn {t e:TypeId} {z:Value} {b:Nat} {l:List (Int × Value)} {n:Int} {c:Bool} (ht:aj P t=some e) (hz:ur P e=some z) (hm:h[b]? = some (Xg l)) :
  OX P t (.map (some b)) (.int .i64 n) c K h=K (if c=true then .tuple #[(Y9 l n).getD z,.bool (Y9 l n).isSome] else (Y9 l n).getD z) h:=by
 obtain⟨k,hu,hk⟩:=RW ht
 unfold OX Instr.lookup
 rw[Ze,Zr hu]
 simp only
 rw[Ze]
 apply propext
 rw[S6 hm]
 simp only
 rw[Ze,Zs,Ze,S8 hk,Ze,Tw hk,←jT n l 0]
 cases Oh l n 0 with
 | none=>
  simp only[Option.map_none,Option.getD_none,Option.isSome_none]
  rw[Ze]
  have Fb:=fun {Q:Value→Hp→Prop}=>IA (P:=P) (h:=h) (Q:=Q) hz
  rw[Fb]
  cases c<;>exact Iff.rfl
 | some p=>cases c<;>exact Iff.rfl
@[go_sem] theorem HX {t e:TypeId} {z:Value} {n:Int} {c:Bool} (ht:aj P t=some e) (hz:ur P e=some z) :
  OX P t (.map none) (.int .i64 n) c K h=K (if c=true then .tuple #[z,.bool false] else z) h:=by
 obtain⟨k,hu,hk⟩:=RW ht
 unfold OX Instr.lookup
 rw[Ze,Zr hu]
 simp only
 rw[Ze,Zs,Ze,S8 hk,Ze]
 have:=fun {Q:Option (Nat × Value)→Hp→Prop}=>Tw (P:=P) (h:=h) (k:=k) hk (n:=n) (l:=[]) (Q:=Q)
 rw[show (#[]:Array MapEntry).toList=JE 0 [] from rfl,this]
 simp only[Oh]
 rw[Ze]
 have Fb:=fun {Q:Value→Hp→Prop}=>IA (P:=P) (h:=h) (Q:=Q) hz
 rw[Fb]
 cases c<;>rfl
theorem XK {t e:TypeId} {b:Nat} {l:List (Int × Value)} {n:Int} {x:Value} (ht:aj P t=some e) (hm:h[b]? = some (Xg l)) :
  OZ P t (.map (some b)) (.int .i64 n) x K h=K undef (h.setIfInBounds b (Xg (ins l n x))):=by
 obtain⟨k,hu,hk⟩:=RW ht
 unfold OZ Instr.mapUpdate
 rw[Ze,Zr hu]
 simp only
 rw[Ze]
 apply propext
 rw[S6 hm]
 simp only
 rw[Ze,S8 hk,Ze]
 show hw P (Instr.findKey k (.int .i64 n) (JE 0 l)) _ h↔_
 rw[Tw hk]
 have st:∀(es:Array MapEntry) (c:Nat) (Q:Unit→Hp→Prop),hw P (setObj b (.map es c)) Q h↔Q () (h.setIfInBounds b (.map es c)):=fun es c Q=>
  ⟨fun H=>H.2,fun H=>⟨⟨_,hm,rfl⟩,H⟩⟩
 cases hp:Oh l n 0 with
 | none=>
  simp only
  rw[st]
  have e1:(Obj.map ((JE 0 l).toArray.push ⟨.int .i64 n,x,l.length⟩) (l.length+1))=Xg (ins l n x):=by
   rw[dx hp x]
   unfold Xg
   rw[CU,List.push_toArray,List.length_append,Nat.zero_add];rfl
  rw[e1]
 | some p=>
  obtain⟨i,u⟩:=p
  obtain⟨m,h1,h2,h3,h4⟩:=dy (i:=0) hp
  obtain rfl:i=m:=by omega
  simp only
  rw[Ze]
  have e0:(((JE 0 l).toArray[i]?).map (·.key)).getD (.int .i64 n)=.int .i64 n:=by
   rw[List.getElem?_toArray,h3];rfl
  have e2:∀(Q:Value→Hp→Prop),hw P (Instr.keyThatStays (.int .i64 n) (.int .i64 n)) Q h=Q (.int .i64 n) h:=fun Q=>by
   unfold Instr.keyThatStays
   have:Instr.sameBits 10000 (.int .i64 n) (.int .i64 n)=true:=by simp[Instr.sameBits]
   rw[if_pos this];rfl
  rw[e0,e2,st]
  have e1:(Obj.map ((JE 0 l).toArray.modify i fun e=>{ e with key:=.int .i64 n,val:=x }) l.length)=Xg (ins l n x):=by
   unfold Xg
   rw[h4 x,Nat.zero_add]
   have hlen:(ins l n x).length=l.length:=by
    have e5:(JE 0 (ins l n x)).length=(JE 0 l).length:=by rw[h4 x];simp
    rw[Uq,Uq]at e5;exact e5
   rw[hlen]
   congr 1
   apply Array.ext_getElem?
   intro j
   rw[Array.getElem?_modify,List.getElem?_toArray,List.getElem?_toArray,List.getElem?_set]
   by_cases hj:i=j
   ·subst hj
    rw[if_pos rfl,if_pos rfl,h3,if_pos (by rw[Uq];exact h2)]
    rw[Nat.zero_add];rfl
   ·rw[if_neg hj,if_neg hj]
  rw[e1]
theorem VC {cs:Array Bool} {t e:TypeId} {b:Nat} {l:List (Int × Value)} (ht:aj P t=some e) (hm:h[b]? = some (Xg l)):Tj P T .len #[t] ty cs [.map (some b)] K h=K (.int .i64 l.length) h:=by
 obtain⟨k,hu,hk⟩:=RW ht
 show hw P (do pure (.value (←Builtin.len_ #[t] ty #[.map (some b)]))) (Xk P T K) h=_
 rw[Ze]
 show hw P (do
  match ←underlying t,(Value.map (some b)) with
  | .string,.string s=>pure (goInt s.size)
  | .array n _,_=>pure (goInt n)
  | .pointer arr,_=>
   let .array n _ ←underlying arr|stuck "len: pointer to array expected"
   pure (goInt n)
  | .slice _,.slice _ n _=>pure (goInt n)
  | .map _ _,.map none|.chan _ _,.chan none=>pure (goInt 0)
  | .map _ _,.map (some r)=>
   let .map entries _ ←getObj r|stuck "len: map expected"
   pure (goInt entries.size)
  | .chan _ _,.chan (some r)=>
   let .chan _ buf _ _ _ timer ←getObj r|stuck "len: channel expected"
   pure (goInt (if timer then 0 else buf.size))
  | _,_=>stuck "len: string, array, pointer to array, slice, map or channel expected") K h=_
 rw[Ze,Zr hu]
 simp only
 rw[Ze]
 apply propext
 rw[S6 hm]
 simp only[List.size_toArray,Uq]
 exact Iff.rfl
def tkp (P:Program) (t:TypeId):Bool:=match P.underlying t with|some (.pointer _)=>true|_=>false
def tkm (P:Program) (t:TypeId):Bool:=match P.underlying t with|some (.map _ _)=>true|_=>false
def qg (P:Program) (t:TypeId):Bool:=match P.underlying t with|some (.func _ _ _)=>true|_=>false
theorem jU {t:TypeId} (h:tkp P t=true):∃e,P.underlying t=some (.pointer e):=by
 unfold tkp at h;split at h
 ·exact⟨_,by assumption⟩
 ·cases h
theorem jV {t:TypeId} (h:tkm P t=true):∃k e,P.underlying t=some (.map k e):=by
 unfold tkm at h;split at h
 ·exact⟨_,_,by assumption⟩
 ·cases h
theorem FJ {t:TypeId} (h:qg P t=true):∃a b c,P.underlying t=some (.func a b c):=by
 unfold qg at h;split at h
 ·exact⟨_,_,_,by assumption⟩
 ·cases h
theorem Le {t:TypeId} (ht:tkp P t=true) {a:Option Addr} {Q:Bool→Hp→Prop}:hw P (Op.equal t (.pointer a) (.pointer none)) Q h=Q a.isNone h:=by
 obtain⟨e,hu⟩:=jU ht
 unfold Op.equal Op.maxDepth Op.equalIn
 rw[Ze,Zr hu]
 cases a<;>rfl
theorem run_eq_map {t:TypeId} (ht:tkm P t=true) {a:Option Nat} {Q:Bool→Hp→Prop}:hw P (Op.equal t (.map a) (.map none)) Q h=Q a.isNone h:=by
 obtain⟨k,e,hu⟩:=jV ht
 unfold Op.equal Op.maxDepth Op.equalIn
 rw[Ze,Zr hu]
 cases a<;>rfl
theorem IC {t:TypeId} (ht:qg P t=true) {f:Fn} {x y:Array Value} {Q:Bool→Hp→Prop}:hw P (Op.equal t (.func f x y) .nilFunc) Q h=Q false h:=by
 obtain⟨a,b,c,hu⟩:=FJ ht
 unfold Op.equal Op.maxDepth Op.equalIn
 rw[Ze,Zr hu]
 rfl
theorem ID {t:TypeId} (ht:qg P t=true) {Q:Bool→Hp→Prop}:hw P (Op.equal t .nilFunc .nilFunc) Q h=Q true h:=by
 obtain⟨a,b,c,hu⟩:=FJ ht
 unfold Op.equal Op.maxDepth Op.equalIn
 rw[Ze,Zr hu]
 rfl
theorem HY {t:TypeId} {x y:Operand} {a b:Value} {r:Bool} (hg:∀{Q:Unit→Hp→Prop},hw P (eqGuard .eql t x y a b) Q h=Q () h) (hb:binOp .eql t a b=do pure (.bool (←Op.equal t a b))) (he:∀{Q:Bool→Hp→Prop},hw P (Op.equal t a b) Q h=Q r h):YS P .eql t x y a b K h=K (.bool r) h:=by
 unfold YS
 rw[Ze,hg,hb,Ze,he];rfl
theorem CW {t:TypeId} {x y:Operand} {a b:Value} {r:Bool} (hg:∀{Q:Unit→Hp→Prop},hw P (eqGuard .neq t x y a b) Q h=Q () h) (hb:binOp .neq t a b=do pure (.bool (!(←Op.equal t a b)))) (he:∀{Q:Bool→Hp→Prop},hw P (Op.equal t a b) Q h=Q r h):YS P .neq t x y a b K h=K (.bool (!r)) h:=by
 unfold YS
 rw[Ze,hg,hb,Ze,he];rfl
@[go_sem] theorem uw {t:TypeId} {x y:Operand} {a:Option Addr} (ht:tkp P t=true):YS P .eql t x y (.pointer a) (.pointer none) K h=K (.bool a.isNone) h:=HY rfl rfl (Le ht)
@[go_sem] theorem uz {t:TypeId} {x y:Operand} {a:Option Addr} (ht:tkp P t=true):YS P .neq t x y (.pointer a) (.pointer none) K h=K (.bool (!a.isNone)) h:=CW rfl rfl (Le ht)
@[go_sem] theorem uA {t:TypeId} {x y:Operand} {a:Option Nat} (ht:tkm P t=true):YS P .eql t x y (.map a) (.map none) K h=K (.bool a.isNone) h:=HY rfl rfl (run_eq_map ht)
@[go_sem] theorem xd {t:TypeId} {x y:Operand} {f:Fn} {u v:Array Value} (ht:qg P t=true):YS P .eql t x y (.func f u v) .nilFunc K h=K (.bool false) h:=HY rfl rfl (IC ht)
@[go_sem] theorem xe {t:TypeId} {x y:Operand} (ht:qg P t=true):YS P .eql t x y .nilFunc .nilFunc K h=K (.bool true) h:=HY rfl rfl (ID ht)
@[go_sem] theorem xf {t:TypeId} {x y:Operand} {f:Fn} {u v:Array Value} (ht:qg P t=true):YS P .neq t x y (.func f u v) .nilFunc K h=K (.bool true) h:=CW rfl rfl (IC ht)
@[go_sem] theorem xh {t:TypeId} {x y:Operand} (ht:qg P t=true):YS P .neq t x y .nilFunc .nilFunc K h=K (.bool false) h:=CW rfl rfl (ID ht)
end
inductive DN {α β:Type} (R:α→β→Prop):List α→List β→Prop
 | nil:DN R [] []
 | cons {a:α} {b:β} {l:List α} {k:List β}:R a b→DN R l k→DN R (a :: l) (b :: k)
section
variable {τ:Type}
structure Kp (S:τ→Prop) (o:Nat→Option τ) (h:Hp) (o':Nat→Option τ) (h':Hp):Prop where
 size:h.size≤h'.size
 Zd:∀b,b<h.size→(∀t,o b=some t→¬S t)→h'[b]? = h[b]? ∧ o' b=o b
 stay:∀b,b<h.size→∀t,o b=some t→S t→∃t',o' b=some t'∧S t'
 new:∀b,h.size≤b→∀t,o' b=some t→S t
 ZU:∀b,h'.size≤b→o' b=none
variable {S S':τ→Prop} {o o' o'':Nat→Option τ} {h h' P9:Hp}
def Q3 (o:Nat→Option τ) (h:Hp):Prop:=∀b,h.size≤b→o b=none
theorem Kp.refl (d:Q3 o h) (S:τ→Prop):Kp S o h o h:=
 ⟨Nat.le_refl _,fun _ _ _=>⟨rfl,rfl⟩,fun _ _ t ht hs=>⟨t,ht,hs⟩,fun b hb t ht=>(by rw[d b hb]at ht;cases ht),d⟩
theorem Kp.mono (k:Kp S o h o' h') (hs:∀t,S t→S' t):Kp S' o h o' h':=
 ⟨k.size,fun b hb hn=>k.Zd b hb fun t ht q=>hn t ht (hs t q),fun b hb t ht q=>by
  by_cases p:S t
  ·obtain⟨t',h1,h2⟩:=k.stay b hb t ht p;exact⟨t',h1,hs _ h2⟩
  ·exact⟨t,by rw[(k.Zd b hb fun u hu=>by rw[ht]at hu;cases hu;exact p).2,ht],q⟩,fun b hb t ht=>hs _ (k.new b hb t ht),k.ZU⟩
theorem Kp.trans (k:Kp S o h o' h') (l:Kp S o' h' o'' P9):Kp S o h o'' P9:=by
 refine⟨Nat.le_trans k.size l.size,fun b hb hn=>?_,fun b hb t ht hs=>?_,fun b hb t ht=>?_,l.ZU⟩
 ·obtain⟨h1,h2⟩:=k.Zd b hb hn
  obtain⟨h3,h4⟩:=l.Zd b (Nat.lt_of_lt_of_le hb k.size) fun t ht=>hn t (by rw[←h2];exact ht)
  exact⟨h3.trans h1,h4.trans h2⟩
 ·obtain⟨t',h1,h2⟩:=k.stay b hb t ht hs
  exact l.stay b (Nat.lt_of_lt_of_le hb k.size) t' h1 h2
 ·by_cases XX:h'.size≤b
  ·exact l.new b XX t ht
  ·have ZA:b<h'.size:=by omega
   cases ho:o' b with
   | none=>
    have:=(l.Zd b ZA fun u hu=>by rw[ho]at hu;cases hu).2
    rw[this,ho]at ht;cases ht
   | some t1=>
    obtain⟨t2,h1,h2⟩:=l.stay b ZA t1 ho (k.new b hb t1 ho)
    rw[h1]at ht;cases ht;exact h2
theorem Kp.get (k:Kp S o h o' h') {b:Nat} {x:Obj} (hx:h[b]? = some x) (hn:∀t,o b=some t→¬S t):h'[b]? = some x:=by
 rw[(k.Zd b (Za hx) hn).1,hx]
theorem Kp.own (k:Kp S o h o' h') {b:Nat} {x:Obj} (hx:h[b]? = some x) (hn:∀t,o b=some t→¬S t):o' b=o b:=(k.Zd b (Za hx) hn).2
theorem Kp.free (k:Kp S o h o' h') {b:Nat} {x:Obj} (hx:h[b]? = some x) (hn:o b=none):h'[b]? = some x∧o' b=none:=by
 have SD:∀t,o b=some t→¬S t:=fun t ht=>by rw[hn]at ht;cases ht
 exact⟨k.get hx SD,(k.own hx SD).trans hn⟩
theorem Kp.Lf (d:Q3 o h) (b:Zf h.size h h') (S:τ→Prop):Kp S o h o h':=
 ⟨b.size,fun k hk _=>⟨b.block k hk,rfl⟩,fun _ _ t ht hs=>⟨t,ht,hs⟩,fun k hk t ht=>(by rw[d k hk]at ht;cases ht),fun k hk=>d k (Nat.le_trans b.size hk)⟩
theorem Kp.Z7 (k:Kp S o h o' h') (b:Zf h'.size h' P9):Kp S o h o' P9:=k.trans (Kp.Lf k.ZU b S)
theorem Kp.push (k:Kp S o h o' h') (x:Obj):Kp S o h o' (h'.push x):=k.Z7 ((Zf.refl _ _).add x)
theorem Kp.set (k:Kp S o h o' h') {b:Nat} {t:τ} (hb:o' b=some t) (hs:S t) (x:Obj):Kp S o h o' (h'.setIfInBounds b x):=by
 refine k.trans ⟨by rw[Array.size_setIfInBounds];exact Nat.le_refl _,fun c hc hn=>⟨?_,rfl⟩,fun _ _ t ht hs=>⟨t,ht,hs⟩,fun c hc t ht=>(by rw[k.ZU c hc]at ht;cases ht),fun c hc=>k.ZU c (by rw[Array.size_setIfInBounds]at hc;exact hc)⟩
 rw[Array.getElem?_setIfInBounds,if_neg (fun e=>hn t (by rw[←e];exact hb) hs)]
theorem Kp.CX (k:Kp S o h o' h') {b:Nat} (hb:h.size≤b) (x:Obj):Kp S o h o' (h'.setIfInBounds b x):=by
 refine⟨by rw[Array.size_setIfInBounds];exact k.size,fun c hc hn=>⟨?_,(k.Zd c hc hn).2⟩,k.stay,k.new,fun c hc=>k.ZU c (by rw[Array.size_setIfInBounds]at hc;exact hc)⟩
 rw[Array.getElem?_setIfInBounds,if_neg (fun e=>by omega)]
 exact (k.Zd c hc hn).1
def Ji (o:Nat→Option τ) (b:Nat) (t:τ):Nat→Option τ:=fun c=>if c=b then some t else o c
theorem YR {b:Nat} {t:τ}:Ji o b t b=some t:=if_pos rfl
theorem YW {b c:Nat} {t:τ} (hc:c≠b):Ji o b t c=o c:=if_neg hc
theorem Kp.Tx (k:Kp S o h o' h') {b:Nat} {t:τ} (hb:h.size≤b) (ZA:b<h'.size) (hs:S t):Kp S o h (Ji o' b t) h':=
 ⟨k.size,fun c hc hn=>⟨(k.Zd c hc hn).1,by rw[YW (by omega)];exact (k.Zd c hc hn).2⟩,fun c hc u hu hsu=>by rw[YW (by omega)];exact k.stay c hc u hu hsu,
  fun c hc u hu=>by
  by_cases Hu:c=b
  ·subst Hu;rw[YR]at hu;cases hu;exact hs
  ·rw[YW Hu]at hu;exact k.new c hc u hu,
  fun c hc=>by rw[YW (by omega)];exact k.ZU c hc⟩
def Ys (o:Nat→Option τ) (t:τ) (E:TypeId) (n:Nat) (h:Hp) (v:Value) (m:Nat) (cs:List Value):Prop:=
 ((∃p,v=.slice p 0 0)∧m=0∧cs=[]) ∨
 ∃b k cap pre spare,o b=some t∧v=.slice (some ⟨b,k,none⟩) m cap∧h[b]? = some (.cells (pre++(cs++spare)).toArray E (0,0))∧pre.length=k∧cs.length=m*n∧spare.length=(cap-m)*n∧m≤cap
variable {t:τ} {E:TypeId} {n m:Nat} {v:Value} {cs:List Value}
theorem Ys.nil (o:Nat→Option τ) (t:τ) (E:TypeId) (n:Nat) (h:Hp):Ys o t E n h (.slice none 0 0) 0 []:=.inl ⟨⟨_,rfl⟩,rfl,rfl⟩
theorem Ys.Zd (s:Ys o t E n h v m cs) (k:Kp S o h o' h') (hn:¬S t):Ys o' t E n h' v m cs:=by
 rcases s with s|⟨b,j,cap,pre,spare,h1,h2,h3,h4,h5,h6,h7⟩
 ·exact .inl s
 ·have SD:∀u,o b=some u→¬S u:=fun u hu=>by rw[h1]at hu;cases hu;exact hn
  exact .inr ⟨b,j,cap,pre,spare,by rw[k.own h3 SD,h1],h2,k.get h3 SD,h4,h5,h6,h7⟩
theorem Ys.sl (s:Ys o t E n h v m cs):Sl n h v m cs:=by
 rcases s with⟨⟨p,rfl⟩,rfl,rfl⟩|⟨b,j,cap,pre,spare,h1,rfl,h3,h4,h5,h6,h7⟩
 ·exact⟨p,0,rfl,by simp,fun Yq=>absurd rfl Yq⟩
 ·exact Uy h3 h5 h4.symm
theorem Ys.length (s:Ys o t E n h v m cs):cs.length=m*n:=by
 rcases s with⟨_,rfl,rfl⟩|⟨b,j,cap,pre,spare,h1,h2,h3,h4,h5,h6,h7⟩
 ·simp
 ·exact h5
theorem Ys.isSlice (s:Ys o t E n h v m cs):∃p c,v=.slice p m c∧m≤c:=by
 rcases s with⟨⟨p,rfl⟩,rfl,rfl⟩|⟨b,j,cap,pre,spare,h1,rfl,h3,h4,h5,h6,h7⟩
 ·exact⟨p,0,rfl,Nat.le_refl _⟩
 ·exact⟨_,cap,rfl,h7⟩
theorem Ys.tail {p:Option Addr} {c:Nat} (s:Ys o t E n h (.slice p m c) m cs) {k:Nat} (hk:k≤m):Ys o t E n h (.slice (if c=k then p else p.map (·.add (k*n))) (m-k) (c-k)) (m-k) (cs.drop (k*n)):=by
 rcases s with⟨⟨q,h1⟩,h2,h3⟩|⟨b,j,cap,pre,spare,h1,h2,h3,h4,h5,h6,h7⟩
 ·simp only[Value.slice.injEq]at h1
  obtain⟨rfl,rfl,rfl⟩:=h1
  have e:k=0:=by omega
  subst e
  subst h3
  exact .inl ⟨⟨_,rfl⟩,rfl,by simp⟩
 ·simp only[Value.slice.injEq]at h2
  obtain⟨rfl,_,rfl⟩:=h2
  have hmn:k*n≤m*n:=Nat.mul_le_mul_right _ hk
  by_cases hc:c=k
  ·have hm:m=k:=by omega
   rw[if_pos hc]
   refine .inl ⟨⟨some ⟨b,j,none⟩,by rw[hc,hm,Nat.sub_self]⟩,by omega,?_⟩
   exact List.drop_eq_nil_of_le (by rw[h5,hm];exact Nat.le_refl _)
  ·rw[if_neg hc]
   refine .inr ⟨b,j+k*n,c-k,pre++cs.take (k*n),spare,h1,by rw[Option.map_some,YN],?_,?_,?_,?_,by omega⟩
   ·rw[List.append_assoc,←List.append_assoc (List.take _ _),List.take_append_drop];exact h3
   ·rw[List.length_append,List.length_take,h4,h5];omega
   ·rw[List.length_drop,h5,Nat.sub_mul]
   ·rw[h6];congr 1;omega
variable {P:Program} {T:World} {K:Value→Hp→Prop} {F:Env} {ty:TypeId}
theorem FK {a b c vs:List Value} {i:Nat} (hi:i=a.length+b.length) (hv:vs.length≤c.length):Ym (a++(b++c)) i vs=a++((b++vs)++c.drop vs.length):=by
 subst hi
 have e1:a++(b++c)=(a++b)++c:=by rw[List.append_assoc]
 rw[e1,←List.length_append,UD,JW _ _ hv]
 simp
theorem XQ {sT xT E' k bytes:Nat} {s:Value} {news zs:List Value} {cb:Array Bool} (Un:Jf P sT=some E) (HD:P.underlying xT=some (.slice E')) (hn:tn P E=some n) (hz:tz P E=some zs) (Cz:zs.length=n) (T6:tb P E=some bytes)
  (own:Ys o t E n h v m cs) (d:Q3 o h) (src:Sl n h s k news) (Y8:news.all Z6=true) (Yk:(m+k)*bytes≤140737488355328) (HE:1≤bytes)
  (H:∀v' o' h',Ys o' t E n h' v' (m+k) (cs++news)→Kp (fun u=>u=t) o h o' h'→(∀b,b<h.size→o' b=o b)→K v' h'):Tj P T .append #[sT,xT] ty cb [v,s] K h:=by
 unfold Jf at Un
 split at Un
 ·rename_i e' hu
  simp only[Option.some.injEq]at Un
  subst Un
  show hw P (do pure (.value (←Builtin.append_ #[sT,xT] ty #[v,s]))) (Xk P T K) h
  rw[Ze]
  show hw P (Builtin.append_ #[sT,xT] ty #[v,s]) K h
  obtain⟨i0,Tc⟩:∃i,P.info? e'=some i:=by
   unfold tn at hn
   cases hi:P.info? e' with
   | none=>rw[hi]at hn;cases hn
   | some i=>exact⟨i,rfl⟩
  have SX:i0.bytes=bytes:=by unfold tb at T6;rw[Tc]at T6;simpa using T6
  obtain⟨z0,GU,CA⟩:∃z,i0.zero=some z∧z.cells.toList=zs:=by
   unfold tz at hz;rw[Tc]at hz
   cases Mg:i0.zero with
   | none=>rw[Option.bind_some,Mg]at hz;cases hz
   | some z=>rw[Option.bind_some,Mg]at hz;exact⟨z,rfl,by simpa using hz⟩
  obtain⟨base,cap,hv,gM⟩:=own.isSlice
  subst hv
  have dd:∀{Q:Value→Hp→Prop} (g:Hp),hw P (zeroValue e') Q g=Q z0 g:=fun {Q} g=>by
   unfold zeroValue;rw[Ze,YX Tc];simp only[GU];rfl
  have UF:news.length=k*n:=by obtain⟨_,_,_,hl,_⟩:=src;exact hl
  simp only[Builtin.append_,List.getElem?_toArray,List.getElem?_cons_zero,List.getElem?_cons_succ,Ze,Zs,Zr hu,Zr HD,run_sizeOf hn,Bool.false_eq_true,if_false,src.lenOf,Bool.not_false,if_true]
  by_cases Jh:m+k≤cap
  ·rw[if_pos Jh,Ze]
   refine Z1 src ?_
   rcases own with⟨⟨p,h1⟩,h2,h3⟩|⟨b,j,MV,pre,spare,h1,h2,h3,h4,h5,h6,h7⟩
   ·simp only[Value.slice.injEq]at h1
    obtain⟨rfl,rfl,rfl⟩:=h1
    have hk:k=0:=by omega
    subst hk;subst h3
    have Yq:news=[]:=List.eq_nil_of_length_eq_zero (by simpa using UF)
    subst Yq
    have hK:K (.slice base (0+0) 0) h:=H _ o h (.inl ⟨⟨_,rfl⟩,rfl,rfl⟩) (Kp.refl d _) (fun _ _=>rfl)
    cases base<;>exact hK
   ·simp only[Value.slice.injEq]at h2
    obtain⟨rfl,_,rfl⟩:=h2
    simp only[Ze,YN]
    have Vz:news.length≤spare.length:=by rw[UF,h6];exact Nat.mul_le_mul_right _ (by omega)
    refine Yd (e:=e') (lo:=0) (hi:=0) rfl (Nat.le_refl _) news 0 h (pre++(cs++spare)).toArray h3 ?_ Y8 ?_
    ·simp;rw[h4,←h5];omega
    ·simp only[Zs,Nat.add_zero]
     refine H _ o _ (.inr ⟨b,j,cap,pre,spare.drop news.length,h1,rfl,?_,h4,?_,?_,Jh⟩) ((Kp.refl d (fun u=>u=t)).set h1 rfl _) (fun _ _=>rfl)
     ·rw[Array.getElem?_setIfInBounds,if_pos rfl,if_pos (Za h3)]
      rw[FK (by rw[h4,h5]) Vz]
     ·rw[List.length_append,h5,UF,Nat.add_mul]
     ·rw[List.length_drop,h6,UF,←Nat.sub_mul];congr 1;omega
  ·rw[if_neg Jh]
   have Qa:¬Builtin.nextslicecap (m+k) cap*i0.bytes>2 ^ 48:=by
    rw[SX]
    have:=UE (m+k) cap bytes (by omega) Yk
    omega
   have CD:¬i0.bytes=0:=by rw[SX];omega
   simp only[Ze,YX Tc,CD,or_false,and_false,if_false,if_neg Qa]
   intro q
   obtain⟨c,hc⟩:=Zy (Question.cut (Question.appendCap (m+k) cap e') q)
   have jA:m+k≤c:=by rw[hc];simp only[Question.cut];omega
   rw[←hc]
   have SY:∀{Q:Unit→Hp→Prop} (b:Nat) (g:Hp),Q () g→hw P (askRoom b) Q g:=fun {Q} b g q=>by
    unfold askRoom;split<;>exact q
   refine SY _ _ (Z1 own.sl (Z1 src ?_))
   rw[dd]
   have jB:z0.cells.size=n:=by rw[←Cz,←CA];simp
   refine H (.slice (some ⟨h.size,0,none⟩) (m+k) c) (Ji o h.size t) _ (.inr ⟨h.size,0,c,[],(Builtin.zeroCells z0.cells (c-(m+k))).toList,YR,rfl,?_,rfl,?_,?_,jA⟩) (((Kp.refl d _).push _).Tx (Nat.le_refl _) (by simp) rfl) (fun b hb=>YW (by omega))
   ·rw[Array.getElem?_push_size]
    simp
   ·rw[List.length_append,own.length,UF,Nat.add_mul]
   ·rw[Array.length_toList,Yx,jB]
 ·cases Un
theorem Lg {sT xT E' k b off cap:Nat} {s:Value} {pre spare news zs:List Value} {cb:Array Bool} (Un:Jf P sT=some E) (HD:P.underlying xT=some (.slice E')) (hn:tn P E=some n) (hz:tz P E=some zs)
  (hb:h[b]? = some (.cells (pre++(cs++spare)).toArray E (0,0))) (ho:off=pre.length) (hl:cs.length=m*n) (src:Sl n h s k news) (Y8:news.all Z6=true) (Jh:m+k≤cap) (Yk:k*n≤spare.length)
  (H:K (.slice (some ⟨b,off,none⟩) (m+k) cap) (h.setIfInBounds b (.cells (pre++((cs++news)++spare.drop (k*n))).toArray E (0,0)))):Tj P T .append #[sT,xT] ty cb [.slice (some ⟨b,off,none⟩) m cap,s] K h:=by
 unfold Jf at Un
 split at Un
 ·rename_i e' hu
  simp only[Option.some.injEq]at Un
  subst Un
  show hw P (do pure (.value (←Builtin.append_ #[sT,xT] ty #[.slice (some ⟨b,off,none⟩) m cap,s]))) (Xk P T K) h
  rw[Ze]
  show hw P (Builtin.append_ #[sT,xT] ty #[.slice (some ⟨b,off,none⟩) m cap,s]) K h
  obtain⟨i0,Tc⟩:∃i,P.info? e'=some i:=by
   unfold tn at hn
   cases hi:P.info? e' with
   | none=>rw[hi]at hn;cases hn
   | some i=>exact⟨i,rfl⟩
  obtain⟨z0,GU,CA⟩:∃z,i0.zero=some z∧z.cells.toList=zs:=by
   unfold tz at hz;rw[Tc]at hz
   cases Mg:i0.zero with
   | none=>rw[Option.bind_some,Mg]at hz;cases hz
   | some z=>rw[Option.bind_some,Mg]at hz;exact⟨z,rfl,by simpa using hz⟩
  have UF:news.length=k*n:=by obtain⟨_,_,_,hl,_⟩:=src;exact hl
  simp only[Builtin.append_,List.getElem?_toArray,List.getElem?_cons_zero,List.getElem?_cons_succ,Ze,Zs,Zr hu,Zr HD,run_sizeOf hn,Bool.false_eq_true,if_false,src.lenOf,Bool.not_false,if_true]
  rw[if_pos Jh,Ze]
  refine Z1 src ?_
  simp only[Ze,YN]
  refine Yd (e:=e') (lo:=0) (hi:=0) rfl (Nat.le_refl _) news 0 h (pre++(cs++spare)).toArray hb ?_ Y8 ?_
  ·simp;rw[ho,hl.symm];omega
  ·simp only[Zs,Nat.add_zero]
   have e:Ym (pre++(cs++spare)) (off+m*n) news=pre++((cs++news)++spare.drop (k*n)):=by
    rw[FK (by rw[ho,hl]) (by omega),UF]
   rw[e]
   exact H
 ·cases Un
theorem Oi {sT:TypeId} {zs:List Value} {cb:Array Bool} {b off k c:Nat} {pre uB post:List Value} (Un:Jf P sT=some E) (hz:tz P E=some zs) (Cz:zs.length=n) (H4:zs.all Z6=true)
  (hb:h[b]? = some (.cells (pre++(uB++post)).toArray E (0,0))) (ho:off=pre.length) (hl:uB.length=k*n)
  (H:∀new:List Value,new.length=uB.length→K (.tuple #[]) (h.setIfInBounds b (.cells (pre++(new++post)).toArray E (0,0)))):Tj P T .clear #[sT] ty cb [.slice (some ⟨b,off,none⟩) k c] K h:=by
 unfold Jf at Un
 split at Un
 ·rename_i e' hu
  simp only[Option.some.injEq]at Un
  subst Un
  show hw P (do pure (.value (←Builtin.clear_ #[sT] ty #[.slice (some ⟨b,off,none⟩) k c]))) (Xk P T K) h
  rw[Ze]
  show hw P (Builtin.clear_ #[sT] ty #[.slice (some ⟨b,off,none⟩) k c]) K h
  have same:h.setIfInBounds b (.cells (pre++(uB++post)).toArray e' (0,0))=h:=by
   apply Array.ext_getElem?
   intro j
   rw[Array.getElem?_setIfInBounds]
   by_cases hj:b=j
   ·subst hj;rw[if_pos rfl,if_pos (Za hb),hb]
   ·rw[if_neg hj]
  show hw P (do
   match ←underlying sT,(Value.slice (some ⟨b,off,none⟩) k c) with
   | _,.map none|_,.slice none _ _|_,.slice _ 0 _=>pure ()
   | _,.map (some r)=>
    let .map _ clock ←getObj r|stuck "clear: map expected"
    setObj r (.map #[] clock)
   | .slice elem,.slice (some a) n _=>
    storeCells a (Builtin.zeroCells (←zeroValue elem).cells n).toList
   | _,_=>stuck "clear: map or slice expected"
   pure (.tuple #[])) K h
  rw[Ze,Zr hu]
  cases k with
  | zero=>
   have h0:uB=[]:=List.eq_nil_of_length_eq_zero (by rw[hl];simp)
   subst h0
   have:=H [] rfl
   rw[same]at this
   exact this
  | succ k=>
   obtain⟨i0,Tc⟩:∃i,P.info? e'=some i:=by
    unfold tz at hz
    cases hi:P.info? e' with
    | none=>rw[hi]at hz;cases hz
    | some i=>exact⟨i,rfl⟩
   obtain⟨z0,GU,CA⟩:∃z,i0.zero=some z∧z.cells.toList=zs:=by
    unfold tz at hz;rw[Tc]at hz
    cases Mg:i0.zero with
    | none=>rw[Option.bind_some,Mg]at hz;cases hz
    | some z=>rw[Option.bind_some,Mg]at hz;exact⟨z,rfl,by simpa using hz⟩
   have dd:∀{Q:Value→Hp→Prop} (g:Hp),hw P (zeroValue e') Q g=Q z0 g:=fun {Q} g=>by
    unfold zeroValue;rw[Ze,YX Tc];simp only[GU];rfl
   simp only[Ze]
   rw[dd]
   have jB:z0.cells.size=n:=by rw[←Cz,←CA];simp
   have DK:(Builtin.zeroCells z0.cells (k+1)).toList.length=uB.length:=by rw[Array.length_toList,Yx,jB,hl]
   refine Yd (a:=⟨b,off,none⟩) (e:=e') (lo:=0) (hi:=0) rfl (Nat.le_refl _) _ 0 h (pre++(uB++post)).toArray hb ?_ ?_ ?_
   ·simp only[List.size_toArray,List.length_append,DK];omega
   ·rw[List.all_eq_true]
    intro x hx
    have hx:x∈Builtin.zeroCells z0.cells (k+1):=by simpa using hx
    have S9:x∈zs:=by
     rw[←CA]
     unfold Builtin.zeroCells at hx
     rw[Array.mem_map]at hx
     obtain⟨i,hi,rfl⟩:=hx
     rw[Array.mem_range]at hi
     have MF:0<z0.cells.size:=by
      rcases Nat.eq_zero_or_pos z0.cells.size with q|q
      ·rw[q,Nat.mul_zero]at hi;omega
      ·exact q
     have ZA:i%z0.cells.size<z0.cells.size:=Nat.mod_lt _ MF
     rw[getElem!_pos z0.cells _ ZA]
     simp
    exact List.all_eq_true.1 H4 x S9
   ·simp only[Nat.add_zero]
    have e1:Ym (pre++(uB++post)).toArray.toList off (Builtin.zeroCells z0.cells (k+1)).toList=pre++((Builtin.zeroCells z0.cells (k+1)).toList++post):=Wf ho DK
    rw[e1]
    exact H _ DK
 ·cases Un
end
end Go.V
