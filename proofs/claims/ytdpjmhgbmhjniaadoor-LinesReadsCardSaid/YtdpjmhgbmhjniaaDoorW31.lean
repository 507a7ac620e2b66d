/- Part W31. -/
import Derived.Test.YtdpjmhgbmhjniaaDoorW21
import Derived.Sort.Grow
import Derived.Deep.Draws
import Derived.Lib.UnsafeStr
import Derived.RangeFuncLeaves
import Derived.RangeFuncRecord
import Derived.OrdersIn
import Derived.TacticsIn
import Derived.RangeFuncSeq
import Derived.RangeFuncBound
namespace Go.V
set_option linter.unusedVariables false
set_option linter.unusedSimpArgs false
section
variable {P:Program} {T:World} {ty:TypeId} {F:Env} {h:Hp} {K:Value→Hp→Prop}
variable {α:Type} [DecidableEq α] {enc:α→List Value}
theorem Vz {v:Value} {Q:Value→Hp→Prop} (H:Q v h):hw P (Instr.keyThatStays v v) Q h:=by
 unfold Instr.keyThatStays
 split
 ·exact H
 ·rw[Za]
  show hw P (choose _) _ h
  have e:∀t:Nat,hw P (pure (if t=0 then v else v)) Q h:=fun t=>by rw[ite_self];exact H
  show (if _ then _ else _)
  split
  ·exact e 0
  ·exact fun t=>e _
end
section
variable {P:Program} {n:Nat} {T:World} {N:Env→Hp→Prop} {X:Nat→Env→Hp→Prop} {R:Env→Hp→Prop} {F:Env} {h:Hp}
def JY (P:Program) (T:World) (ops:Array Oper) (S:Hp→Prop) (W:List Nat) (N:Env→Hp→Prop):Nat→Array Bool→Env→Hp→Prop
 | 0,listed,F,h=>Region.ready .any ops listed=[]∧N F h
 | k+1,listed,F,h=>(Region.ready .any ops listed=[]→N F h) ∧
   ∀i∈Region.ready .any ops listed,Yd P T ops i (fun F' h'=>(i∈W∨(S h→S h'))∧JY P T ops S W N k (listed.setIfInBounds i true) F' h') F h
theorem UO {ops:Array Oper} {S:Hp→Prop} {W:List Nat}:∀(k:Nat) (listed:Array Bool) (F:Env) (h:Hp),JY P T ops S W N k listed F h→Ta P T ops (fun _=>True) N k listed F h:=by
 intro k
 induction k with
 | zero=>intro listed F h H;exact H
 | succ k ih=>intro listed F h H;exact⟨H.1,fun i hi=>ZR (fun F' h' q=>⟨trivial,ih _ _ _ q.2⟩) (H.2 i hi)⟩
theorem Xf {ops:Array Oper} {S S1:Hp→Prop} {W:List Nat} {i:Nat} {oi:Oper} {v:Value} (hi:ops[i]? = some oi) (WY:∀(j:Nat) (o:Oper) cs b,ops[j]? = some o→o.op ≠ .select cs b)
  (hW:(∀h,S1 h)∨((∀h,S h→S1 h)∧∀j∈W,∃f,YG ops f j i=true)) :
  ∀(k:Nat) (listed:Array Bool) (F:Env) (h:Hp),Z0 ops listed →
   (∀j oj,ops[j]? = some oj→j≠i→listed.getD j true=false→(∀e∈oj.after,Region.binds .any e=true→e.on≠i)→oi.apart ops oj=true) →
   i∈Region.ready .any ops listed→Yo P T ops S1 oi v F→((∀h,S1 h)∨S h) →
   JY P T ops S W N k (listed.setIfInBounds i true) (Zl F oi.dst v) h→JY P T ops S W N (k+1) listed F h:=by
 intro k
 induction k with
 | zero=>
  intro listed F h _ _ hr hy hS H
  have GW:S1 h:=hS.elim (fun q=>q h) (fun q=>hW.elim (fun p=>p h) (fun p=>p.1 h q))
  refine⟨fun h=>(by rw[h]at hr;cases hr),fun j hj=>?_⟩
  by_cases Qq:j=i
  ·subst Qq;exact hy.Kw hi GW ⟨.inr id,H⟩
  ·have:=ready_mono hj Qq
   rw[H.1]at this
   cases this
 | succ k ih=>
  intro listed F h Z7 Qr hr hy hS H
  have GW:S1 h:=hS.elim (fun q=>q h) (fun q=>hW.elim (fun p=>p h) (fun p=>p.1 h q))
  refine⟨fun h=>(by rw[h]at hr;cases hr),fun j hj=>?_⟩
  by_cases Qq:j=i
  ·subst Qq;exact hy.Kw hi GW ⟨.inr id,H⟩
  ·have h1:=H.2 j (ready_mono hj Qq)
   obtain⟨WZ,oj,SY,XM⟩:=mem_ready.1 hj
   have Pw:∀e∈oj.after,Region.binds .any e=true→e.on≠i:=fun e he hb heq=>by
    have h1:=XM e he hb
    have h0:=(mem_ready.1 hr).1
    rw[heq]at h1
    rcases Nat.lt_or_ge i listed.size with h'|h'
    ·simp[h']at h0 h1;rw[h0]at h1;cases h1
    ·simp[Array.getElem?_eq_none h']at h1
   have h2:=QV SY (Qr j oj SY Qq WZ Pw) (fun cs b=>WY i oi cs b hi) (fun cs b=>WY j oj cs b SY) hy h1
   have QX:∀k ok,ops[k]? = some ok→k≠i→(listed.setIfInBounds j true).getD k true=false →
     (∀e∈ok.after,Region.binds .any e=true→e.on≠i)→oi.apart ops ok=true:=fun k ok hk KT MM Nt=>by
    refine Qr k ok hk KT ?_ Nt
    by_cases Sx:j=k
    ·subst Sx;exact WZ
    ·rw[getD_set_ne true Sx]at MM;exact MM
   refine ZR (fun F' h' h3=>?_) h2
   refine⟨h3.2.1,ih (listed.setIfInBounds j true) F' h' (Z7.set hj) QX (ready_mono hr (Ne.symm Qq)) h3.1 ?_ ?_⟩
   ·rcases hW with hW|⟨V6,Mk⟩
    ·exact .inl hW
    ·rcases hS with hS|hS
     ·exact .inl hS
     ·rcases h3.2.1 with GR|D9
      ·obtain⟨f,hf⟩:=Mk j GR
       have h1:=Qw Z7 hf hj
       have h0:=(mem_ready.1 hr).1
       rcases Nat.lt_or_ge i listed.size with h'|h'
       ·simp[h']at h0 h1;rw[h0]at h1;cases h1
       ·simp[Array.getElem?_eq_none h']at h1
      ·exact .inr (D9 hS)
   ·rw[Array.setIfInBounds_comm _ _ Qq]
    exact h3.2.2
inductive Tz where
 | nil
 | p (i:Nat) (t:Tz)
 | q (i:Nat) (t:Tz)
 | s (i:Nat) (t:Tz)
 | w (i:Nat) (t:Tz)
 | or (i:Nat) (t:Tz) (r:Tz)
def Tz.alts:Tz→List Nat
 | .s i _=>[i]
 | .w i _=>[i]
 | .or i _ r=>i :: r.alts
 | _=>[]
def Tz.JV:Tz→Bool
 | .q _ _=>true
 | .p _ t=>t.JV
 | .s _ t=>t.JV
 | .or _ t r=>t.JV||r.JV
 | _=>false
def Tz.ok (ops:Array Oper) (W:List Nat):Tz→Nat→Array Bool→Bool→Bool
 | .nil,n,listed,_=>Nat.beq n 0&&(Region.ready .any ops listed).isEmpty
 | .p _ _,0,_,_=>false
 | .p i t,n+1,listed,_=>((Region.ready .any ops listed).contains i&&Region.free .any ops listed i)&&t.ok ops W n (listed.setIfInBounds i true) true
 | .q _ _,0,_,_=>false
 | .q i t,n+1,listed,_=>((Region.ready .any ops listed).contains i&&(Region.free .any ops listed i&&W.all fun j=>YG ops SJ j i))&&t.ok ops W n (listed.setIfInBounds i true) true
 | .s _ _,0,_,_=>false
 | .s i t,n+1,listed,b=>(!b||(Region.ready .any ops listed == [i]))&&t.ok ops W n (listed.setIfInBounds i true) true
 | .w _ _,0,_,_=>false
 | .w i t,n+1,listed,b=>((!b||(Region.ready .any ops listed == [i]))&&(W.contains i&&!t.JV))&&t.ok ops W n (listed.setIfInBounds i true) true
 | .or _ _ _,0,_,_=>false
 | .or i t r,n+1,listed,b=>(!b||(Region.ready .any ops listed == i :: r.alts))&&(t.ok ops W n (listed.setIfInBounds i true) true&&r.ok ops W (n+1) listed false)
def WV (P:Program) (T:World) (ops:Array Oper) (S:Hp→Prop) (N:Env→Hp→Prop):Tz→Env→Hp→Prop
 | .nil,F,h=>N F h
 | .p i t,F,h=>match ops[i]? with
  | some o=>if Zp ops o F then ∃v,(∀h',WW P T o (fun v' Qc=>v'=v∧Qc=h') F h')∧WV P T ops S N t (Zl F o.dst v) h else WV P T ops S N t (Zl F o.dst undef) h
  | none=>False
 | .q i t,F,h=>match ops[i]? with
  | some o=>if Zp ops o F then ∃v,(∀h',S h'→WW P T o (fun v' Qc=>v'=v∧Qc=h') F h')∧WV P T ops S N t (Zl F o.dst v) h else WV P T ops S N t (Zl F o.dst undef) h
  | none=>False
 | .s i t,F,h=>Yd P T ops i (fun F' h'=>S h'∧WV P T ops S N t F' h') F h
 | .w i t,F,h=>Yd P T ops i (fun F' h'=>WV P T ops S N t F' h') F h
 | .or i t r,F,h=>Yd P T ops i (fun F' h'=>S h'∧WV P T ops S N t F' h') F h∧WV P T ops S N r F h
theorem WC {ops:Array Oper} {S:Hp→Prop} {W:List Nat} (hs:Region.noSelect ops=true):∀(t:Tz),
  (∀(k:Nat) (listed:Array Bool) (F:Env) (h:Hp),Z0 ops listed→t.ok ops W k listed true=true→(t.JV=true→S h)→WV P T ops S N t F h→JY P T ops S W N k listed F h) ∧
  (∀(k:Nat) (listed:Array Bool) (F:Env) (h:Hp),Z0 ops listed→t.ok ops W (k+1) listed false=true→WV P T ops S N t F h→∀j∈t.alts,j∈Region.ready .any ops listed→Yd P T ops j (fun F' h'=>(j∈W∨(S h→S h'))∧JY P T ops S W N k (listed.setIfInBounds j true) F' h') F h):=by
 intro t
 induction t with
 | nil=>
  refine⟨fun k listed F h Z7 hB hS H=>?_,fun k listed F h _ _ _ j hj=>by cases hj⟩
  simp only[Tz.ok,Bool.and_eq_true,List.isEmpty_iff]at hB
  obtain⟨h1,h2⟩:=hB
  obtain rfl:=Nat.eq_of_beq_eq_true h1
  exact⟨h2,H⟩
 | p i t ih=>
  refine⟨fun k listed F h Z7 hB hS H=>?_,fun k listed F h _ _ _ j hj=>by cases hj⟩
  cases k with
  | zero=>simp[Tz.ok]at hB
  | succ k=>
   simp only[Tz.ok,Bool.and_eq_true]at hB
   obtain⟨⟨h1,h2⟩,h3⟩:=hB
   have Jp:i∈Region.ready .any ops listed:=by simpa using h1
   obtain⟨_,o,ho,_⟩:=mem_ready.1 Jp
   simp only[WV,ho]at H
   split at H
   ·rename_i WX
    obtain⟨v,hv,H⟩:=H
    exact Xf (S1:=fun _=>True) ho (Region.noSelect_spec hs) (.inl fun _=>trivial) k listed F h Z7 (Region.free_spec ho h2) Jp (.inl ⟨WX,fun h' _=>hv h'⟩) (.inl fun _=>trivial) (ih.1 k _ _ _ (Z7.set Jp) h3 hS H)
   ·rename_i WX
    exact Xf (S1:=fun _=>True) ho (Region.noSelect_spec hs) (.inl fun _=>trivial) k listed F h Z7 (Region.free_spec ho h2) Jp (.inr ⟨by simpa using WX,rfl⟩) (.inl fun _=>trivial) (ih.1 k _ _ _ (Z7.set Jp) h3 hS H)
 | q i t ih=>
  refine⟨fun k listed F h Z7 hB hS H=>?_,fun k listed F h _ _ _ j hj=>by cases hj⟩
  have hS:=hS rfl
  cases k with
  | zero=>simp[Tz.ok]at hB
  | succ k=>
   simp only[Tz.ok,Bool.and_eq_true]at hB
   obtain⟨⟨h1,h2,hw⟩,h3⟩:=hB
   have Jp:i∈Region.ready .any ops listed:=by simpa using h1
   obtain⟨_,o,ho,_⟩:=mem_ready.1 Jp
   have hW:∀j∈W,∃f,YG ops f j i=true:=fun j hj=>⟨SJ,List.all_eq_true.1 hw j hj⟩
   simp only[WV,ho]at H
   split at H
   ·rename_i WX
    obtain⟨v,hv,H⟩:=H
    exact Xf ho (Region.noSelect_spec hs) (.inr ⟨fun _ q=>q,hW⟩) k listed F h Z7 (Region.free_spec ho h2) Jp (.inl ⟨WX,hv⟩) (.inr hS) (ih.1 k _ _ _ (Z7.set Jp) h3 (fun _=>hS) H)
   ·rename_i WX
    exact Xf ho (Region.noSelect_spec hs) (.inr ⟨fun _ q=>q,hW⟩) k listed F h Z7 (Region.free_spec ho h2) Jp (.inr ⟨by simpa using WX,rfl⟩) (.inr hS) (ih.1 k _ _ _ (Z7.set Jp) h3 (fun _=>hS) H)
 | s i t ih=>
  have second:∀(k:Nat) (listed:Array Bool) (F:Env) (h:Hp),Z0 ops listed→i∈Region.ready .any ops listed→t.ok ops W k (listed.setIfInBounds i true) true=true→WV P T ops S N (.s i t) F h→Yd P T ops i (fun F' h'=>(i∈W∨(S h→S h'))∧JY P T ops S W N k (listed.setIfInBounds i true) F' h') F h:=by
   intro k listed F h Z7 Jp hB H
   exact ZR (fun F' h' q=>⟨.inr fun _=>q.1,ih.1 k _ _ _ (Z7.set Jp) hB (fun _=>q.1) q.2⟩) H
  refine⟨fun k listed F h Z7 hB hS H=>?_,fun k listed F h Z7 hB H j hj hr=>?_⟩
  ·cases k with
   | zero=>simp[Tz.ok]at hB
   | succ k=>
    simp only[Tz.ok,Bool.and_eq_true,Bool.not_true,Bool.false_or,beq_iff_eq]at hB
    refine⟨fun h0=>(by rw[hB.1]at h0;cases h0),fun j hj=>?_⟩
    have hr:=hj
    rw[hB.1]at hj
    have hj:j=i:=by simpa using hj
    subst hj
    exact second k listed F h Z7 hr hB.2 H
  ·simp only[Tz.ok,Bool.and_eq_true]at hB
   have hj:j=i:=by simpa [Tz.alts] using hj
   subst hj
   exact second k listed F h Z7 hr hB.2 H
 | w i t ih=>
  have second:∀(k:Nat) (listed:Array Bool) (F:Env) (h:Hp),Z0 ops listed→i∈Region.ready .any ops listed→i∈W→t.JV=false→t.ok ops W k (listed.setIfInBounds i true) true=true→WV P T ops S N (.w i t) F h→Yd P T ops i (fun F' h'=>(i∈W∨(S h→S h'))∧JY P T ops S W N k (listed.setIfInBounds i true) F' h') F h:=by
   intro k listed F h Z7 Jp hw hq hB H
   exact ZR (fun F' h' q=>⟨.inl hw,ih.1 k _ _ _ (Z7.set Jp) hB (fun e=>by rw[hq]at e;cases e) q⟩) H
  refine⟨fun k listed F h Z7 hB hS H=>?_,fun k listed F h Z7 hB H j hj hr=>?_⟩
  ·cases k with
   | zero=>simp[Tz.ok]at hB
   | succ k=>
    simp only[Tz.ok,Bool.and_eq_true,Bool.not_true,Bool.false_or,beq_iff_eq,Bool.not_eq_true']at hB
    obtain⟨⟨h1,h2,h3⟩,h4⟩:=hB
    refine⟨fun h0=>(by rw[h1]at h0;cases h0),fun j hj=>?_⟩
    have hr:=hj
    rw[h1]at hj
    have hj:j=i:=by simpa using hj
    subst hj
    exact second k listed F h Z7 hr (by simpa using h2) h3 h4 H
  ·simp only[Tz.ok,Bool.and_eq_true,Bool.not_eq_true']at hB
   obtain⟨⟨h1,h2,h3⟩,h4⟩:=hB
   have hj:j=i:=by simpa [Tz.alts] using hj
   subst hj
   exact second k listed F h Z7 hr (by simpa using h2) h3 h4 H
 | or i t r LM LN=>
  have second:∀(k:Nat) (listed:Array Bool) (F:Env) (h:Hp),Z0 ops listed→t.ok ops W k (listed.setIfInBounds i true) true=true→r.ok ops W (k+1) listed false=true→WV P T ops S N (.or i t r) F h→∀j∈(Tz.or i t r).alts,j∈Region.ready .any ops listed→Yd P T ops j (fun F' h'=>(j∈W∨(S h→S h'))∧JY P T ops S W N k (listed.setIfInBounds j true) F' h') F h:=by
   intro k listed F h Z7 hB hR H j hj hr
   rcases List.mem_cons.1 hj with hj|hj
   ·subst hj
    exact ZR (fun F' h' q=>⟨.inr fun _=>q.1,LM.1 k _ _ _ (Z7.set hr) hB (fun _=>q.1) q.2⟩) H.1
   ·exact LN.2 k listed F h Z7 hR H.2 j hj hr
  refine⟨fun k listed F h Z7 hB hS H=>?_,fun k listed F h Z7 hB H j hj hr=>?_⟩
  ·cases k with
   | zero=>simp[Tz.ok]at hB
   | succ k=>
    simp only[Tz.ok,Bool.and_eq_true,Bool.not_true,Bool.false_or,beq_iff_eq]at hB
    refine⟨fun h0=>(by rw[hB.1]at h0;cases h0),fun j hj=>?_⟩
    have hr:=hj
    rw[hB.1]at hj
    exact second k listed F h Z7 hB.2.1 hB.2.2 H j hj hr
  ·simp only[Tz.ok,Bool.and_eq_true]at hB
   exact second k listed F h Z7 hB.2.1 hB.2.2 H j hj hr
def T4 (P:Program) (T:World) (op:Op) (ty:TypeId) (C:Value→Prop) (F:Env):Prop:=
 match op with
 | .load _ _=>False
 | op=>XV P T 0 #[] op ty C F
theorem U9 {op:Op} {ty:TypeId} {C:Value→Prop} (H:T4 P T op ty C F):∃v,(∀h',Je P T op ty (fun v' Qc=>v'=v∧Qc=h') F h')∧C v:=by
 cases op<;>first|exact H|exact H.elim
def GX (P:Program) (T:World) (K:Env→Hp→Prop) (F:Env) (h:Hp) (d:Option Tmp) (op:Op) (ty:TypeId) (v:Value) (b:Bool):Prop:=ZZ v b (T4 P T op ty (fun v=>K (Zl F d v) h) F) (K (Zl F d undef) h)
def zP (P:Program) (T:World) (ops:List Oper) (K:Env→Hp→Prop) (F:Env) (h:Hp) (o:Option Oper):Prop:=
 match o with
 | some ⟨d,op,ty,_,_,none⟩=>T4 P T op ty (fun v=>K (Zl F d v) h) F
 | some ⟨d,op,ty,_,_,some (j,b)⟩=>GX P T K F h d op ty (Y1 ops F j) b
 | none=>False
def WD (P:Program) (T:World) (ops:List Oper) (B:Nat) (h0:Hp) (N:Env→Hp→Prop):Tz→Env→Hp→Prop
 | .nil,F,h=>N F h
 | .p i t,F,h=>zP P T ops (WD P T ops B h0 N t) F h (nth ops i)
 | .q i t,F,h=>wQ P T ops B h0 (WD P T ops B h0 N t) F h (nth ops i)
 | .s i t,F,h=>wS P T ops B h0 (WD P T ops B h0 N t) F h (nth ops i)
 | .w i t,F,h=>wW P T ops (WD P T ops B h0 N t) F h (nth ops i)
 | .or i t r,F,h=>wS P T ops B h0 (WD P T ops B h0 N t) F h (nth ops i)∧WD P T ops B h0 N r F h
theorem T5 {ops:List Oper} {B:Nat} {h0:Hp} {N:Env→Hp→Prop}:∀(t:Tz) (F:Env) (h:Hp),WD P T ops B h0 N t F h→WV P T ops.toArray (fun h'=>Zj B h0 h') N t F h:=by
 intro t
 induction t with
 | nil=>intro F h H;exact H
 | p i t ih=>
  intro F h H
  simp only[WD]at H
  simp only[WV]
  cases ho:nth ops i with
  | none=>rw[ho]at H;exact H.elim
  | some o=>
   rw[Y3 ho]
   rw[ho]at H
   obtain⟨d,op,ty,pos,YN,g⟩:=o
   cases g with
   | none=>
    show (if Zp ops.toArray _ F=true then _ else _)
    rw[if_pos (by rfl)]
    obtain⟨v,hv,H⟩:=U9 H
    exact⟨v,fun h'=>ZY (hv h'),ih _ _ H⟩
   | some jb=>
    obtain⟨j,b⟩:=jb
    show (if Zp ops.toArray _ F=true then _ else _)
    rcases ZB ops F d op pos YN j b H with⟨hw,H⟩|⟨hw,H⟩
    ·rw[if_pos hw]
     obtain⟨v,hv,H⟩:=U9 H
     exact⟨v,fun h'=>ZY (hv h'),ih _ _ H⟩
    ·rw[hw,if_neg (by simp)]
     exact ih _ _ H
 | q i t ih=>
  intro F h H
  simp only[WD]at H
  simp only[WV]
  cases ho:nth ops i with
  | none=>rw[ho]at H;exact H.elim
  | some o=>
   rw[Y3 ho]
   rw[ho]at H
   obtain⟨d,op,ty,pos,YN,g⟩:=o
   cases g with
   | none=>
    show (if Zp ops.toArray _ F=true then _ else _)
    rw[if_pos (by rfl)]
    obtain⟨v,hv,H⟩:=YY H
    exact⟨v,fun h' hs=>ZY (hv h' hs),ih _ _ H⟩
   | some jb=>
    obtain⟨j,b⟩:=jb
    show (if Zp ops.toArray _ F=true then _ else _)
    rcases ZB ops F d op pos YN j b H with⟨hw,H⟩|⟨hw,H⟩
    ·rw[if_pos hw]
     obtain⟨v,hv,H⟩:=YY H
     exact⟨v,fun h' hs=>ZY (hv h' hs),ih _ _ H⟩
    ·rw[hw,if_neg (by simp)]
     exact ih _ _ H
 | s i t ih=>intro F h H;exact JX ih H
 | w i t ih=>intro F h H;exact Vv ih H
 | or i t r LM LN=>intro F h H;exact⟨JX LM H.1,LN _ _ H.2⟩
def IH (n:Nat) (ops:Array Oper) (W:List Nat) (t:Tz):Bool:=XC n ops&&(Region.noSelect ops&&t.ok ops W ops.size (Array.replicate ops.size false) true)
theorem VS.z {id:Nat} {ops:List Oper} (B:Nat) (W:List Nat) (t:Tz) (hm:P.follows .mixedOrders=true) (ZN:IH n ops.toArray W t=true)
  (H:WD P T ops B h N t F h):VS P n T (.region id ops.toArray true) N X R F h:=by
 intro a w h1 h2 h3 h4
 simp only[IH,Bool.and_eq_true]at ZN
 obtain⟨k1,k2,k3⟩:=ZN
 refine wp_region_any hm ?_
 refine ZQ k1 _ _ F h (UO _ _ _ _ ((WC (S:=fun h'=>Zj B h h') k2 t).1 _ _ F h (XW _ _) k3 (fun _=>Zj.refl _ _) (T5 t F h H))) a _ h1 h2 h3 ⟨h4.heap,h4.tape,h4.os,h4.output⟩
variable {ops:List Oper} {B:Nat} {h0:Hp} {t r:Tz} {i j:Nat} {d:Option Tmp} {op:Op} {ty:TypeId} {pos:String} {YN:Array Edge} {b c:Bool} {v:Value} {K:Env→Hp→Prop} {C:Value→Prop}
@[go_sem] theorem Gj:WD P T ops B h0 N .nil F h=N F h:=rfl
@[go_sem] theorem EM:WD P T ops B h0 N (.p i t) F h=zP P T ops (WD P T ops B h0 N t) F h (nth ops i):=rfl
@[go_sem] theorem EN:WD P T ops B h0 N (.q i t) F h=wQ P T ops B h0 (WD P T ops B h0 N t) F h (nth ops i):=rfl
@[go_sem] theorem EO:WD P T ops B h0 N (.s i t) F h=wS P T ops B h0 (WD P T ops B h0 N t) F h (nth ops i):=rfl
@[go_sem] theorem EP:WD P T ops B h0 N (.w i t) F h=wW P T ops (WD P T ops B h0 N t) F h (nth ops i):=rfl
@[go_sem] theorem II:zP P T ops K F h (some ⟨d,op,ty,pos,YN,none⟩)=T4 P T op ty (Ip K F d h) F:=rfl
@[go_sem] theorem IJ:zP P T ops K F h (some ⟨d,op,ty,pos,YN,some (j,b)⟩)=GX P T K F h d op ty (Y1 ops F j) b:=rfl
@[go_sem] theorem IK:GX P T K F h d op ty (.bool c) b=if c=b then T4 P T op ty (Ip K F d h) F else K (Zl F d undef) h:=rfl
@[go_sem] theorem IL {x:Operand}:T4 P T (.move x) ty C F=XV P T 0 #[] (.move x) ty C F:=rfl
@[go_sem] theorem KH {t:TypeId} {x:Operand} {i:Nat}:T4 P T (.fieldAddr t x i) ty C F=XV P T 0 #[] (.fieldAddr t x i) ty C F:=rfl
@[go_sem] theorem GY {t:TypeId} {x i:Operand}:T4 P T (.indexAddr t x i) ty C F=XV P T 0 #[] (.indexAddr t x i) ty C F:=rfl
@[go_sem] theorem IM {x y z:Operand}:T4 P T (.pick x y z) ty C F=XV P T 0 #[] (.pick x y z) ty C F:=rfl
@[go_sem] theorem Gk {x:Operand}:T4 P T (.nilCheck x) ty C F=XV P T 0 #[] (.nilCheck x) ty C F:=rfl
@[go_sem] theorem Gl {op:BinOp} {t t':TypeId} {x y:Operand}:T4 P T (.binOp op t x y t') ty C F=XV P T 0 #[] (.binOp op t x y t') ty C F:=rfl
@[go_sem] theorem GZ {op:UnOp} {t:TypeId} {x:Operand}:T4 P T (.unOp op t x) ty C F=XV P T 0 #[] (.unOp op t x) ty C F:=rfl
@[go_sem] theorem IN {s t:TypeId} {x:Operand}:T4 P T (.convert s t x) ty C F=XV P T 0 #[] (.convert s t x) ty C F:=rfl
@[go_sem] theorem MZ {x:Operand} {i:Nat}:T4 P T (.extract x i) ty C F=XV P T 0 #[] (.extract x i) ty C F:=rfl
@[go_sem] theorem Gm {t:TypeId} {x i:Operand}:T4 P T (.index t x i) ty C F=XV P T 0 #[] (.index t x i) ty C F:=rfl
end
section
variable {P:Program} {T:World} {ty:TypeId} {F:Env} {h:Hp} {K:Value→Hp→Prop}
def IP (P:Program) (t:TypeId):Bool:=match P.underlying t with|some (.pointer _)=>true|_=>false
theorem Oy {t:TypeId} (h:IP P t=true):∃e,P.underlying t=some (.pointer e):=by
 unfold IP at h;split at h
 ·exact⟨_,by assumption⟩
 ·cases h
theorem T6 {t:TypeId} (ht:IP P t=true) {a:Option Addr} {Q:Bool→Hp→Prop}:hw P (Op.equal t (.pointer a) (.pointer none)) Q h=Q a.isNone h:=by
 obtain⟨e,hu⟩:=Oy ht
 unfold Op.equal Op.maxDepth Op.equalIn
 rw[Za,Zh hu]
 cases a<;>rfl
theorem LO {t:TypeId} {x y:Operand} {a b:Value} {r:Bool} (hg:∀{Q:Unit→Hp→Prop},hw P (eqGuard .eql t x y a b) Q h=Q () h) (hb:binOp .eql t a b=do pure (.bool (←Op.equal t a b))) (he:∀{Q:Bool→Hp→Prop},hw P (Op.equal t a b) Q h=Q r h):ZI P .eql t x y a b K h=K (.bool r) h:=by
 unfold ZI
 rw[Za,hg,hb,Za,he];rfl
@[go_sem] theorem M0 {t:TypeId} {x y:Operand} {a:Option Addr} (ht:IP P t=true):ZI P .eql t x y (.pointer a) (.pointer none) K h=K (.bool a.isNone) h:=LO rfl rfl (T6 ht)
end
section
variable {τ:Type}
structure Kp (S:τ→Prop) (o:Nat→Option τ) (h:Hp) (o':Nat→Option τ) (h':Hp):Prop where
 size:h.size≤h'.size
 ZM:∀b,b<h.size→(∀t,o b=some t→¬S t)→h'[b]? = h[b]? ∧ o' b=o b
 stay:∀b,b<h.size→∀t,o b=some t→S t→∃t',o' b=some t'∧S t'
 new:∀b,h.size≤b→∀t,o' b=some t→S t
 UP:∀b,h'.size≤b→o' b=none
variable {S S':τ→Prop} {o o' ER:Nat→Option τ} {h h' Qc:Hp}
def LP (o:Nat→Option τ) (h:Hp):Prop:=∀b,h.size≤b→o b=none
theorem Kp.refl (d:LP o h) (S:τ→Prop):Kp S o h o h:=
 ⟨Nat.le_refl _,fun _ _ _=>⟨rfl,rfl⟩,fun _ _ t ht hs=>⟨t,ht,hs⟩,fun b hb t ht=>(by rw[d b hb]at ht;cases ht),d⟩
theorem Kp.mono (k:Kp S o h o' h') (hs:∀t,S t→S' t):Kp S' o h o' h':=
 ⟨k.size,fun b hb hn=>k.ZM b hb fun t ht q=>hn t ht (hs t q),fun b hb t ht q=>by
  by_cases p:S t
  ·obtain⟨t',h1,h2⟩:=k.stay b hb t ht p;exact⟨t',h1,hs _ h2⟩
  ·exact⟨t,by rw[(k.ZM b hb fun u hu=>by rw[ht]at hu;cases hu;exact p).2,ht],q⟩,fun b hb t ht=>hs _ (k.new b hb t ht),k.UP⟩
theorem Kp.trans (k:Kp S o h o' h') (l:Kp S o' h' ER Qc):Kp S o h ER Qc:=by
 refine⟨Nat.le_trans k.size l.size,fun b hb hn=>?_,fun b hb t ht hs=>?_,fun b hb t ht=>?_,l.UP⟩
 ·obtain⟨h1,h2⟩:=k.ZM b hb hn
  obtain⟨h3,h4⟩:=l.ZM b (Nat.lt_of_lt_of_le hb k.size) fun t ht=>hn t (by rw[←h2];exact ht)
  exact⟨h3.trans h1,h4.trans h2⟩
 ·obtain⟨t',h1,h2⟩:=k.stay b hb t ht hs
  exact l.stay b (Nat.lt_of_lt_of_le hb k.size) t' h1 h2
 ·by_cases Jg:h'.size≤b
  ·exact l.new b Jg t ht
  ·have ZH:b<h'.size:=by omega
   cases ho:o' b with
   | none=>
    have:=(l.ZM b ZH fun u hu=>by rw[ho]at hu;cases hu).2
    rw[this,ho]at ht;cases ht
   | some t1=>
    obtain⟨t2,h1,h2⟩:=l.stay b ZH t1 ho (k.new b hb t1 ho)
    rw[h1]at ht;cases ht;exact h2
theorem Kp.get (k:Kp S o h o' h') {b:Nat} {x:Obj} (hx:h[b]? = some x) (hn:∀t,o b=some t→¬S t):h'[b]? = some x:=by
 rw[(k.ZM b (Zb hx) hn).1,hx]
theorem Kp.ZJ (k:Kp S o h o' h') {b:Nat} {x:Obj} (hx:h[b]? = some x) (hn:∀t,o b=some t→¬S t):o' b=o b:=(k.ZM b (Zb hx) hn).2
theorem Kp.Oz (d:LP o h) (b:Zj h.size h h') (S:τ→Prop):Kp S o h o h':=
 ⟨b.size,fun k hk _=>⟨b.block k hk,rfl⟩,fun _ _ t ht hs=>⟨t,ht,hs⟩,fun k hk t ht=>(by rw[d k hk]at ht;cases ht),fun k hk=>d k (Nat.le_trans b.size hk)⟩
theorem Kp.Yu (k:Kp S o h o' h') (b:Zj h'.size h' Qc):Kp S o h o' Qc:=k.trans (Kp.Oz k.UP b S)
theorem Kp.push (k:Kp S o h o' h') (x:Obj):Kp S o h o' (h'.push x):=k.Yu ((Zj.refl _ _).add x)
theorem Kp.set (k:Kp S o h o' h') {b:Nat} {t:τ} (hb:o' b=some t) (hs:S t) (x:Obj):Kp S o h o' (h'.setIfInBounds b x):=by
 refine k.trans ⟨by rw[Array.size_setIfInBounds];exact Nat.le_refl _,fun c hc hn=>⟨?_,rfl⟩,fun _ _ t ht hs=>⟨t,ht,hs⟩,fun c hc t ht=>(by rw[k.UP c hc]at ht;cases ht),fun c hc=>k.UP c (by rw[Array.size_setIfInBounds]at hc;exact hc)⟩
 rw[Array.getElem?_setIfInBounds,if_neg (fun e=>hn t (by rw[←e];exact hb) hs)]
def Qi (o:Nat→Option τ) (b:Nat) (t:τ):Nat→Option τ:=fun c=>if c=b then some t else o c
theorem Wa {b:Nat} {t:τ}:Qi o b t b=some t:=if_pos rfl
theorem JZ {b c:Nat} {t:τ} (hc:c≠b):Qi o b t c=o c:=if_neg hc
theorem Kp.IQ (k:Kp S o h o' h') {b:Nat} {t:τ} (hb:h.size≤b) (ZH:b<h'.size) (hs:S t):Kp S o h (Qi o' b t) h':=
 ⟨k.size,fun c hc hn=>⟨(k.ZM c hc hn).1,by rw[JZ (by omega)];exact (k.ZM c hc hn).2⟩,fun c hc u hu Ca=>by rw[JZ (by omega)];exact k.stay c hc u hu Ca,
  fun c hc u hu=>by
  by_cases SF:c=b
  ·subst SF;rw[Wa]at hu;cases hu;exact hs
  ·rw[JZ SF]at hu;exact k.new c hc u hu,
  fun c hc=>by rw[JZ (by omega)];exact k.UP c hc⟩
def XX (o:Nat→Option τ) (t:τ) (E:TypeId) (n:Nat) (h:Hp) (v:Value) (m:Nat) (cs:List Value):Prop:=
 ((∃p,v=.slice p 0 0)∧m=0∧cs=[]) ∨
 ∃b k cap pre Zy,o b=some t∧v=.slice (some ⟨b,k,none⟩) m cap∧h[b]? = some (.cells (pre++(cs++Zy)).toArray E (0,0))∧pre.length=k∧cs.length=m*n∧Zy.length=(cap-m)*n∧m≤cap
variable {t:τ} {E:TypeId} {n m:Nat} {v:Value} {cs:List Value}
theorem XX.nil (o:Nat→Option τ) (t:τ) (E:TypeId) (n:Nat) (h:Hp):XX o t E n h (.slice none 0 0) 0 []:=.inl ⟨⟨_,rfl⟩,rfl,rfl⟩
theorem XX.ZM (s:XX o t E n h v m cs) (k:Kp S o h o' h') (hn:¬S t):XX o' t E n h' v m cs:=by
 rcases s with s|⟨b,j,cap,pre,Zy,h1,h2,h3,h4,h5,h6,h7⟩
 ·exact .inl s
 ·have IS:∀u,o b=some u→¬S u:=fun u hu=>by rw[h1]at hu;cases hu;exact hn
  exact .inr ⟨b,j,cap,pre,Zy,by rw[k.ZJ h3 IS,h1],h2,k.get h3 IS,h4,h5,h6,h7⟩
theorem XX.sl (s:XX o t E n h v m cs):Sl n h v m cs:=by
 rcases s with⟨⟨p,rfl⟩,rfl,rfl⟩|⟨b,j,cap,pre,Zy,h1,rfl,h3,h4,h5,h6,h7⟩
 ·exact⟨p,0,rfl,by simp,fun ZC=>absurd rfl ZC⟩
 ·exact RI h3 h5 h4.symm
theorem XX.length (s:XX o t E n h v m cs):cs.length=m*n:=by
 rcases s with⟨_,rfl,rfl⟩|⟨b,j,cap,pre,Zy,h1,h2,h3,h4,h5,h6,h7⟩
 ·simp
 ·exact h5
theorem XX.J0 (s:XX o t E n h v m cs):∃p c,v=.slice p m c∧m≤c:=by
 rcases s with⟨⟨p,rfl⟩,rfl,rfl⟩|⟨b,j,cap,pre,Zy,h1,rfl,h3,h4,h5,h6,h7⟩
 ·exact⟨p,0,rfl,Nat.le_refl _⟩
 ·exact⟨_,cap,rfl,h7⟩
variable {P:Program} {T:World} {K:Value→Hp→Prop} {F:Env} {ty:TypeId}
theorem OA {a b c vs:List Value} {i:Nat} (hi:i=a.length+b.length) (hv:vs.length≤c.length):ZW (a++(b++c)) i vs=a++((b++vs)++c.drop vs.length):=by
 subst hi
 have e1:a++(b++c)=(a++b)++c:=by rw[List.append_assoc]
 rw[e1,←List.length_append,JS,X8 _ _ hv]
 simp
theorem Ui {sT xT E' k bytes:Nat} {s:Value} {news zs:List Value} {cb:Array Bool} (JT:XD P sT=some E) (Ry:P.underlying xT=some (.slice E')) (hn:tn P E=some n) (hz:tz P E=some zs) (Mc:zs.length=n) (QF:tb P E=some bytes)
  (ZJ:XX o t E n h v m cs) (d:LP o h) (src:Sl n h s k news) (Qe:news.all Yb=true) (Xd:(m+k)*bytes≤140737488355328) (MP:1≤bytes)
  (H:∀v' o' h',XX o' t E n h' v' (m+k) (cs++news)→Kp (fun u=>u=t) o h o' h'→(∀b,b<h.size→o' b=o b)→K v' h'):UE P T .append #[sT,xT] ty cb [v,s] K h:=by
 unfold XD at JT
 split at JT
 ·rename_i e' hu
  simp only[Option.some.injEq]at JT
  subst JT
  show hw P (do pure (.value (←Builtin.append_ #[sT,xT] ty #[v,s]))) (Z9 P T K) h
  rw[Za]
  show hw P (Builtin.append_ #[sT,xT] ty #[v,s]) K h
  obtain⟨i0,Qf⟩:∃i,P.info? e'=some i:=by
   unfold tn at hn
   cases hi:P.info? e' with
   | none=>rw[hi]at hn;cases hn
   | some i=>exact⟨i,rfl⟩
  have S7:i0.bytes=bytes:=by unfold tb at QF;rw[Qf]at QF;simpa using QF
  obtain⟨z0,LC,LD⟩:∃z,i0.zero=some z∧z.cells.toList=zs:=by
   unfold tz at hz;rw[Qf]at hz
   cases Tk:i0.zero with
   | none=>rw[Option.bind_some,Tk]at hz;cases hz
   | some z=>rw[Option.bind_some,Tk]at hz;exact⟨z,rfl,by simpa using hz⟩
  obtain⟨base,cap,hv,MQ⟩:=ZJ.J0
  subst hv
  have LF:∀{Q:Value→Hp→Prop} (g:Hp),hw P (zeroValue e') Q g=Q z0 g:=fun {Q} g=>by
   unfold zeroValue;rw[Za,ZX Qf];simp only[LC];rfl
  have Ji:news.length=k*n:=by obtain⟨_,_,_,hl,_⟩:=src;exact hl
  simp only[Builtin.append_,List.getElem?_toArray,List.getElem?_cons_zero,List.getElem?_cons_succ,Za,Zi,Zh hu,Zh Ry,run_sizeOf hn,Bool.false_eq_true,if_false,src.lenOf,Bool.not_false,if_true]
  by_cases YR:m+k≤cap
  ·rw[if_pos YR,Za]
   refine Zv src ?_
   rcases ZJ with⟨⟨p,h1⟩,h2,h3⟩|⟨b,j,Vp,pre,Zy,h1,h2,h3,h4,h5,h6,h7⟩
   ·simp only[Value.slice.injEq]at h1
    obtain⟨rfl,rfl,rfl⟩:=h1
    have hk:k=0:=by omega
    subst hk;subst h3
    have ZC:news=[]:=List.eq_nil_of_length_eq_zero (by simpa using Ji)
    subst ZC
    have hK:K (.slice base (0+0) 0) h:=H _ o h (.inl ⟨⟨_,rfl⟩,rfl,rfl⟩) (Kp.refl d _) (fun _ _=>rfl)
    cases base<;>exact hK
   ·simp only[Value.slice.injEq]at h2
    obtain⟨rfl,_,rfl⟩:=h2
    simp only[Za,addr_add]
    have Jw:news.length≤Zy.length:=by rw[Ji,h6];exact Nat.mul_le_mul_right _ (by omega)
    refine ZK (e:=e') (lo:=0) (hi:=0) rfl (Nat.le_refl _) news 0 h (pre++(cs++Zy)).toArray h3 ?_ Qe ?_
    ·simp;rw[h4,←h5];omega
    ·simp only[Zi,Nat.add_zero]
     refine H _ o _ (.inr ⟨b,j,cap,pre,Zy.drop news.length,h1,rfl,?_,h4,?_,?_,YR⟩) ((Kp.refl d (fun u=>u=t)).set h1 rfl _) (fun _ _=>rfl)
     ·rw[Array.getElem?_setIfInBounds,if_pos rfl,if_pos (Zb h3)]
      rw[OA (by rw[h4,h5]) Jw]
     ·rw[List.length_append,h5,Ji,Nat.add_mul]
     ·rw[List.length_drop,h6,Ji,←Nat.sub_mul];congr 1;omega
  ·rw[if_neg YR]
   have TU:¬Builtin.nextslicecap (m+k) cap*i0.bytes>2 ^ 48:=by
    rw[S7]
    have:=Xt (m+k) cap bytes (by omega) Xd
    omega
   have TV:¬i0.bytes=0:=by rw[S7];omega
   simp only[Za,ZX Qf,TV,or_false,and_false,if_false,if_neg TU]
   intro q
   obtain⟨c,hc⟩:=ZE (Question.cut (Question.appendCap (m+k) cap e') q)
   have LG:m+k≤c:=by rw[hc];simp only[Question.cut];omega
   rw[←hc]
   have Wn:∀{Q:Unit→Hp→Prop} (b:Nat) (g:Hp),Q () g→hw P (askRoom b) Q g:=fun {Q} b g q=>by
    unfold askRoom;split<;>exact q
   refine Wn _ _ (Zv ZJ.sl (Zv src ?_))
   rw[LF]
   have LH:z0.cells.size=n:=by rw[←Mc,←LD];simp
   refine H (.slice (some ⟨h.size,0,none⟩) (m+k) c) (Qi o h.size t) _ (.inr ⟨h.size,0,c,[],(Builtin.zeroCells z0.cells (c-(m+k))).toList,Wa,rfl,?_,rfl,?_,?_,LG⟩) (((Kp.refl d _).push _).IQ (Nat.le_refl _) (by simp) rfl) (fun b hb=>JZ (by omega))
   ·rw[Array.getElem?_push_size]
    simp
   ·rw[List.length_append,ZJ.length,Ji,Nat.add_mul]
   ·rw[Array.length_toList,Yq,LH]
 ·cases JT
end
section
variable {P:Program} {T:World} {K:Value→Hp→Prop} {F:Env} {h:Hp} {ty:TypeId}
theorem RL (l:List Nat) (hl:∀x∈l,x<256):(((⟨(l.map UInt8.ofNat).toArray⟩:ByteArray).extract 0 l.length).data.map fun b=>Value.int .u8 b.toNat)=(l.map bv).toArray:=by
 have e:((⟨(l.map UInt8.ofNat).toArray⟩:ByteArray).extract 0 l.length)=⟨(l.map UInt8.ofNat).toArray⟩:=by
  apply ByteArray.ext
  rw[ByteArray.data_extract]
  simp[Array.extract_eq_self_of_le]
 rw[e]
 simp only[List.map_toArray,List.map_map]
 congr 1
 refine List.map_congr_left (fun x hx=>?_)
 have:=hl x hx
 simp only[Function.comp_apply,bv,UInt8.toNat_ofNat'];congr 1
 omega
theorem VA {sT xT E B n m k bytes:Nat} {v s:Value} {cs news zs:List Value} {cb:Array Bool} (JT:XD P sT=some E) (Ry:P.underlying xT=some .string) (hn:tn P E=some n) (hz:tz P E=some zs) (Mc:zs.length=n) (QF:tb P E=some bytes)
  (ZJ:Own B E n h v m cs) (hB:B≤h.size) (hlen:∀{Q:Nat→Hp→Prop} (g:Hp),hw P (Builtin.lenOf s) Q g=Q k g) (ES:∀{Q:Array Value→Hp→Prop},Q news.toArray h→hw P (Builtin.firstCells n k s) Q h) (IT:news.length=k*n) (Qe:news.all Yb=true) (Xd:(m+k)*bytes≤140737488355328) (MP:1≤bytes)
  (H:∀v' h',Own B E n h' v' (m+k) (cs++news)→Xn (Zt v) h h'→(∀b,Zt v'=some b→Zt v=some b∨h.size≤b)→K v' h'):UE P T .append #[sT,xT] ty cb [v,s] K h:=by
 unfold XD at JT
 split at JT
 ·rename_i e' hu
  simp only[Option.some.injEq]at JT
  subst JT
  show hw P (do pure (.value (←Builtin.append_ #[sT,xT] ty #[v,s]))) (Z9 P T K) h
  rw[Za]
  show hw P (Builtin.append_ #[sT,xT] ty #[v,s]) K h
  obtain⟨i0,Qf⟩:∃i,P.info? e'=some i:=by
   unfold tn at hn
   cases hi:P.info? e' with
   | none=>rw[hi]at hn;cases hn
   | some i=>exact⟨i,rfl⟩
  have S7:i0.bytes=bytes:=by unfold tb at QF;rw[Qf]at QF;simpa using QF
  obtain⟨z0,LC,LD⟩:∃z,i0.zero=some z∧z.cells.toList=zs:=by
   unfold tz at hz;rw[Qf]at hz
   cases Tk:i0.zero with
   | none=>rw[Option.bind_some,Tk]at hz;cases hz
   | some z=>rw[Option.bind_some,Tk]at hz;exact⟨z,rfl,by simpa using hz⟩
  have ND:∃base cap,v=.slice base m cap:=by
   rcases ZJ with⟨⟨p,rfl⟩,rfl,_⟩|⟨b,cap,sp,_,rfl,_⟩
   ·exact⟨_,_,rfl⟩
   ·exact⟨_,_,rfl⟩
  obtain⟨base,cap,hv⟩:=ND
  subst hv
  have LF:∀{Q:Value→Hp→Prop} (g:Hp),hw P (zeroValue e') Q g=Q z0 g:=fun {Q} g=>by
   unfold zeroValue;rw[Za,ZX Qf];simp only[LC];rfl
  simp only[Builtin.append_,List.getElem?_toArray,List.getElem?_cons_zero,List.getElem?_cons_succ,Za,Zi,Zh hu,Zh Ry,run_sizeOf hn,Bool.false_eq_true,if_false,hlen,Bool.not_false,if_true]
  by_cases YR:m+k≤cap
  ·rw[if_pos YR,Za]
   refine ES ?_
   have Ji:=IT
   by_cases ZC:news=[]
   ·subst ZC
    have Q9:hw P (match base with|some a=>(do storeCells (a.add (m*n)) [];pure (Value.slice base (m+k) cap))|none=>pure (Value.slice base (m+k) cap)) K h=K (.slice base (m+k) cap) h:=by
     cases base<;>rfl
    have hK:K (.slice base (m+k) cap) h:=by
     refine H _ _ ?_ Xn.refl (fun b hb=>.inl (by
      cases base with
      | none=>simp[Zt]at hb
      | some a=>simpa [Zt] using hb))
     rcases ZJ with⟨⟨p,h1⟩,h2,h3⟩|⟨b,Vp,Zy,TT,h1,hb,hl,WU,MQ⟩
     ·simp only[Value.slice.injEq]at h1
      obtain⟨rfl,rfl,rfl⟩:=h1
      have hk:k=0:=by omega
      subst hk;subst h3
      exact .inl ⟨⟨_,rfl⟩,rfl,rfl⟩
     ·simp only[Value.slice.injEq]at h1
      obtain⟨rfl,_,rfl⟩:=h1
      have MR:k*n=0:=by simpa using Ji.symm
      refine .inr ⟨b,cap,Zy,TT,rfl,by simpa using hb,by rw[List.append_nil,hl,Nat.add_mul,MR];rfl,?_,YR⟩
      rw[WU,Nat.sub_mul,Nat.sub_mul,Nat.add_mul,MR,Nat.add_zero]
    cases base<;>exact hK
   rcases ZJ with⟨⟨p,h1⟩,h2,h3⟩|⟨b,Vp,Zy,TT,h1,hb,hl,WU,MQ⟩
   ·simp only[Value.slice.injEq]at h1
    obtain⟨rfl,rfl,rfl⟩:=h1
    have hk:k=0:=by omega
    subst hk
    exact (ZC (List.eq_nil_of_length_eq_zero (by simpa using Ji))).elim
   ·simp only[Value.slice.injEq]at h1
    obtain⟨rfl,_,rfl⟩:=h1
    simp only[Za,addr_add]
    have Jw:news.length≤Zy.length:=by rw[Ji,WU];exact Nat.mul_le_mul_right _ (by omega)
    refine ZK (e:=e') (lo:=0) (hi:=0) rfl (Nat.le_refl _) news 0 h (cs++Zy).toArray hb ?_ Qe ?_
    ·simp;rw[←hl];omega
    ·simp only[Zi,Nat.zero_add,Nat.add_zero]
     refine H _ _ (.inr ⟨b,cap,Zy.drop news.length,TT,rfl,?_,?_,?_,YR⟩) ⟨by simp,fun b' Jg hx=>?_⟩ (fun b' Jg=>.inl (by simpa [Zt] using Jg))
     ·rw[Array.getElem?_setIfInBounds,if_pos rfl,if_pos (Zb hb)]
      rw[←hl,JS,X8 _ _ Jw,List.append_assoc]
     ·rw[List.length_append,hl,Ji,Nat.add_mul]
     ·rw[List.length_drop,WU,Ji,←Nat.sub_mul];congr 1;omega
     ·rw[Array.getElem?_setIfInBounds,if_neg]
      intro e;subst e
      have KZ:cap≠0:=by
       intro h0;subst h0
       have:k=0:=by omega
       subst this
       exact ZC (List.eq_nil_of_length_eq_zero (by simpa using Ji))
      exact hx (by simp[Zt,KZ])
  ·rw[if_neg YR]
   have TU:¬Builtin.nextslicecap (m+k) cap*i0.bytes>2 ^ 48:=by
    rw[S7]
    have:=Xt (m+k) cap bytes (by omega) Xd
    omega
   have TV:¬i0.bytes=0:=by rw[S7];omega
   simp only[Za,ZX Qf,TV,or_false,and_false,if_false,if_neg TU]
   intro t
   obtain⟨c,hc⟩:=ZE (Question.cut (Question.appendCap (m+k) cap e') t)
   have LG:m+k≤c:=by rw[hc];simp only[Question.cut];omega
   rw[←hc]
   have Wn:∀{Q:Unit→Hp→Prop} (b:Nat) (g:Hp),Q () g→hw P (askRoom b) Q g:=fun {Q} b g q=>by
    unfold askRoom;split<;>exact q
   refine Wn _ _ (Zv ZJ.sl (ES ?_))
   rw[LF]
   have LH:z0.cells.size=n:=by rw[←Mc,←LD];simp
   refine H (.slice (some ⟨h.size,0,none⟩) (m+k) c) _ (.inr ⟨h.size,c,(Builtin.zeroCells z0.cells (c-(m+k))).toList,hB,rfl,?_,?_,?_,LG⟩) (Xn.push _) (fun b' Jg=>.inr (by simp only[Zt]at Jg;split at Jg;cases Jg;rw[←Option.some.inj Jg];exact Nat.le_refl _))
   ·rw[Array.getElem?_push_size]
    simp
   ·have Ji:=IT
    have Z7:cs.length=m*n:=by obtain⟨_,_,_,hl,_⟩:=ZJ.sl;exact hl
    rw[List.length_append,Z7,Ji,Nat.add_mul]
   ·rw[Array.length_toList,Yq,LH]
 ·cases JT
theorem T7 {sT xT E B:Nat} {v:Value} {l k:List Nat} {z:Value} {cb:Array Bool} (JT:XD P sT=some E) (Ry:P.underlying xT=some .string) (hn:tn P E=some 1) (hz:tz P E=some [z]) (QF:tb P E=some 1)
  (ZJ:Y8 B E h v l) (hB:B≤h.size) (hk:∀x∈k,x<256) (Xd:l.length+k.length≤140737488355328)
  (H:∀v' h',Y8 B E h' v' (l++k)→Zj B h h'→Xn (Zt v) h h'→(∀b,Zt v'=some b→Zt v=some b∨h.size≤b)→K v' h'):UE P T .append #[sT,xT] ty cb [v,.string ⟨(k.map UInt8.ofNat).toArray⟩] K h:=by
 refine VA (k:=k.length) (news:=k.map bv) JT Ry hn hz rfl QF ZJ.ZJ hB (fun {Q} g=>?_) (fun {Q} q=>?_) (by simp) (Om k) (by omega) (Nat.le_refl _) ?_
 ·show Q (ByteArray.size ⟨(k.map UInt8.ofNat).toArray⟩) g=_
  simp[ByteArray.size]
 ·show Q _ h
  rw[RL k hk]
  exact q
 intro v' h' ho hb RH
 refine H v' h' ⟨by simpa using ho,fun x hx=>?_⟩ (hb.Yu hB ZJ.ZJ.Mb) hb RH
 rcases List.mem_append.1 hx with hx|hx
 ·exact ZJ.byte x hx
 ·exact hk x hx
end
theorem Zf.XY {P:Program} {T:World} {f:FuncId} {args:Array Value} {h:Hp} {Q:Value→Hp→Prop}
  (H:∀w,ZT T w h→Calls P f args w fun e w'=>∃v,e=.returned v∧w'.tape=w.tape∧w'.os=w.os∧w'.output=w.output∧Q v w'.heap):Zf P T f args h Q:=
 fun w hs=>(H w hs).mono fun _ w' ⟨v,he,h1,h2,h3,q⟩=>⟨v,w'.heap,he,⟨rfl,h1.trans hs.tape,h2.trans hs.os,h3.trans hs.output⟩,q⟩
theorem Zj.app {B:Nat} {h:Hp} (os:Array Obj) (hB:B≤h.size):Zj B h (h++os):=by
 refine⟨by simp,fun b hb=>?_⟩
 rw[Array.getElem?_append_left (by omega)]
section
variable {P:Program} {T:World} {K:Value→Hp→Prop} {F:Env} {h:Hp} {ty:TypeId}
theorem T8 {b:Nat} {x:TypeId × Nat} (V7:Z5 h b=some x) {Q:Option (Addr × TypeId)→Hp→Prop} (H:Q none h):hw P (viewAt b) Q h:=by
 unfold viewAt
 rw[Za]
 show hw P (if (Z5 h b).isSome=true then _ else _) Q h
 rw[V7]
 exact H
theorem VB {b:Nat} {x:TypeId × Nat} (V7:Z5 h b=some x) {Q:Option Nat→Hp→Prop} (H:Q (some x.2) h):hw P (cellsIn b) Q h:=by
 unfold cellsIn
 rw[Za]
 show hw P (match Z5 h b with|some (_,n)=>_|_=>_) Q h
 rw[V7]
 exact H
theorem Uj {a:Addr} {x:TypeId × Nat} (V7:Z5 h a.block=some x) {Q:Addr→Hp→Prop} (H:Q a h):hw P (Conv.seenAt a) Q h:=by
 unfold Conv.seenAt
 rw[Za]
 exact T8 V7 H
theorem Uk {S D t:TypeId} {n:Nat} {a:Addr} {x:TypeId × Nat} (hs:P.underlying S=some (.pointer t)) (hd:P.underlying D=some .unsafePointer) (hn:tn P t=some n) (h0:n≠0) (V7:Z5 h a.block=some x) (Cb:a.off<x.2)
  (H:K (.pointer (some a)) h):XQ P S D (.pointer (some a)) K h:=by
 unfold XQ convert
 rw[Za,Zh hs,Za,Zh hd]
 simp only[Conv.unsafePointer]
 rw[Za,Zh hs,Za,Zh hd]
 simp only
 rw[Za]
 refine Uj V7 ?_
 rw[Za]
 refine VB V7 ?_
 rw[Za,run_sizeOf hn]
 rw[if_neg (by simp;omega)]
 exact H
theorem Qj {S D t:TypeId} {n:Nat} {a:Addr} {e:TypeId} {c:Nat} (hs:P.underlying S=some .unsafePointer) (hd:P.underlying D=some (.pointer t)) (hn:tn P t=some n) (V7:Z5 h a.block=some (e,c)) (hl:liesAt P P.depth e (c/P.cellsOf e) a.off t 1=true)
  (H:K (.pointer (some a)) h):XQ P S D (.pointer (some a)) K h:=by
 unfold XQ convert
 rw[Za,Zh hs,Za,Zh hd]
 simp only[Conv.unsafePointer]
 rw[Za,Zh hs,Za,Zh hd]
 simp only
 rw[Za]
 refine Uj V7 ?_
 rw[Za,run_sizeOf hn,Za]
 unfold variablesAt
 simp only[program,Za,hw]
 show hw P (match Z5 h a.block with|some (e,cells)=>_|none=>_) _ h
 rw[V7]
 simp only[hl,Zi,hw,Bool.or_true,if_true,or_true]
 exact H
theorem VC {t e:TypeId} {n:Nat} {a:Addr} (hu:P.underlying t=some (.pointer e)) (hn:tn P e=some n) {Q:Bool→Hp→Prop} (H:Q true h):hw P (Op.equal t (.pointer (some a)) (.pointer (some a))) Q h:=by
 unfold Op.equal Op.maxDepth Op.equalIn
 rw[Za,Zh hu]
 simp only
 rw[Za,run_sizeOf hn]
 unfold sameAddr
 simp only[beq_self_eq_true,Bool.or_true,Bool.true_or,if_true,Zi,hw]
 first|exact H|(split<;>exact H)
theorem WE {t e:TypeId} {n:Nat} {a:Addr} {x y:Operand} (hu:P.underlying t=some (.pointer e)) (hn:tn P e=some n) (H:K (.bool false) h):ZI P .neq t x y (.pointer (some a)) (.pointer (some a)) K h:=by
 unfold ZI
 rw[Za]
 show hw P (do pure (Value.bool (!(←Op.equal t (.pointer (some a)) (.pointer (some a)))))) K h
 rw[Za]
 exact VC hu hn H
theorem WG {sT B E:Nat} {v:Value} {l:List Nat} {cb:Array Bool} (ZJ:Y8 B E h v l) (ZC:l≠[])
  (H:∀b cap,v=.slice (some ⟨b,0,none⟩) l.length cap→B≤b→K (.pointer (some ⟨b,0,none⟩)) h):UE P T .unsafeSliceData #[sT] ty cb [v] K h:=by
 have hl:l.length≠0:=by simpa using ZC
 rcases ZJ.ZJ with⟨⟨p,rfl⟩,h2,_⟩|⟨b,cap,sp,hB,rfl,hb,_,_,MQ⟩
 ·omega
 ·show hw P (do pure (.value (←Builtin.unsafeSliceData_ #[sT] ty #[.slice (some ⟨b,0,none⟩) l.length cap]))) (Z9 P T K) h
  rw[Za]
  show hw P (if cap≠0 then (pure (Value.pointer (some ⟨b,0,none⟩)):Sem Value) else _) _ h
  rw[if_pos (by omega)]
  exact H b cap rfl hB
theorem run_loadBytes {b:Nat}:∀(l:List Nat) (o:Nat) (acc:ByteArray) {Q:ByteArray→Hp→Prop},(∀i,i<l.length→hc h ⟨b,o+i,none⟩=some (bv (l.getD i 0)))→Q (⟨acc.data++(l.map UInt8.ofNat).toArray⟩) h→hw P (loadBytes ⟨b,o,none⟩ acc l.length) Q h:=by
 intro l
 induction l with
 | nil=>intro o acc Q _ H;simpa [loadBytes,Zi,hw] using H
 | cons x l ih=>
  intro o acc Q hx H
  have h0:=hx 0 (by simp)
  simp only[List.length_cons,loadBytes,Za,load,hw]
  refine⟨_,h0,?_⟩
  refine ih (o+1) _ (fun i hi=>?_) ?_
  ·have:=hx (i+1) (by simp;omega)
   rw[show o+1+i=o+(i+1) by omega]
   simpa using this
  ·simpa [ByteArray.push,Nat.toUInt8] using H
theorem WH {pT iT B E:Nat} {b cap:Nat} {l:List Nat} {cb:Array Bool} (ZJ:Y8 B E h (.slice (some ⟨b,0,none⟩) l.length cap) l) (ZC:l≠[]) (hp:P.underlying pT=some (.pointer E)) (H8:P.cellsOf E=1) (hlen:l.length≤140737488355328)
  (H:∀h',Xn (some b) h h'→K (.string ⟨(l.map UInt8.ofNat).toArray⟩) h'):UE P T .unsafeString #[pT,iT] ty cb [.pointer (some ⟨b,0,none⟩),.int .i64 l.length] K h:=by
 have h0:l.length≠0:=by simpa using ZC
 obtain⟨cells,hb,Wm⟩:∃cells:Array Value,h[b]? = some (.cells cells E (0,0))∧(∀i,i<l.length→cells[i]? = some (bv (l.getD i 0)))∧l.length≤cells.size:=by
  rcases ZJ.ZJ with⟨⟨p,he⟩,h2,_⟩|⟨b',Vp,sp,hB,he,hb,hl,_,MQ⟩
  ·omega
  ·simp only[Value.slice.injEq,Option.some.injEq,Addr.mk.injEq]at he
   obtain⟨⟨rfl,_⟩,_⟩:=he
   refine⟨_,hb,fun i hi=>?_,by simp⟩
   simp[hi,List.getElem?_append_left,List.getD_eq_getElem?_getD,List.getElem?_eq_getElem]
 show hw P (do pure (.value (←Builtin.unsafeString_ #[pT,iT] ty #[.pointer (some ⟨b,0,none⟩),.int .i64 l.length]))) (Z9 P T K) h
 rw[Za]
 have G0:Builtin.unsafeString_ #[pT,iT] ty #[.pointer (some ⟨b,0,none⟩),.int .i64 l.length] =
   (do
     let n ←asInt (.int .i64 l.length)
     if n<0 then runtimePanic (.error "unsafe.String: len out of range")
     if n>IntKind.i64.max then unsupported (.unsafePointer "String: a length above the largest int")
     if n=0 then pure (.string .empty)
     else if ←variablesAt ⟨b,0,none⟩ (←elemOf pT) n.toNat then do
      let s ←loadBytes ⟨b,0,none⟩ .empty n.toNat
      freeze ⟨b,0,none⟩ n.toNat
      pure (.string s)
     else unsupported (.unsafePointer "String: not so many bytes at ptr")):=rfl
 rw[G0]
 have LQ:IntKind.i64.max=9223372036854775807:=rfl
 have V7:Z5 h b=some (E,cells.size):=by unfold Z5;rw[hb]
 have IU:=Lib.liesAt_bytes (P:=P) H8 (cells.size/P.cellsOf E) l.length (by rw[H8];simpa using Wm.2)
 have e1:¬((l.length:Int)<0):=by omega
 have e2:¬((l.length:Int)>9223372036854775807):=by omega
 have e3:¬((l.length:Int)=0):=by omega
 have Cc:∀{Q:TypeId→Hp→Prop},hw P (elemOf pT) Q h=Q E h:=by
  intro Q
  unfold elemOf
  rw[Za,Zh hp];rfl
 have Cd:∀{Q:Bool→Hp→Prop},hw P (variablesAt ⟨b,0,none⟩ E l.length) Q h=Q true h:=by
  intro Q
  unfold variablesAt
  rw[Za]
  show hw P (do match ←shape b with|some (e,c)=>pure (liesAt P P.depth e (c/P.cellsOf e) 0 E l.length)|none=>pure false) Q h=_
  rw[Za]
  show hw P (match Z5 h b with|some (e,c)=>pure (liesAt P P.depth e (c/P.cellsOf e) 0 E l.length)|none=>pure false) Q h=_
  rw[V7]
  simp only[IU]
  rfl
 simp only[asInt,asIntOf,LQ,Za,Zi,if_neg e1,if_neg e2,if_neg e3,Int.toNat_natCast,Cc,Cd,if_true]
 refine run_loadBytes l 0 _ (fun i hi=>?_) ?_
 ·rw[Yy hb,Nat.zero_add];exact Wm.1 i hi
 ·show K _ (JF h ⟨b,0,none⟩ l.length)
  have e:(⟨ByteArray.empty.data++(l.map UInt8.ofNat).toArray⟩:ByteArray)=⟨(l.map UInt8.ofNat).toArray⟩:=by simp
  rw[e]
  refine H _ ?_
  unfold JF
  rw[if_neg h0]
  refine⟨by simp,fun k hk ZC=>?_⟩
  rw[Array.getElem?_modify,if_neg (fun e=>ZC (by rw[←e]))]
end
def M1 (r:Option Nat):Fence:={ Fence.wide with round:=r }
section
variable {P:Program} {n:Nat} {T:World} {N:Env→Hp→Prop} {X:Nat→Env→Hp→Prop} {R:Env→Hp→Prop} {F:Env} {h:Hp}
def VR (P:Program) (n:Nat) (T:World) (l:Option Nat) (c:Code) (N:Env→Hp→Prop) (X:Nat→Env→Hp→Prop) (R:Env→Hp→Prop) (F:Env) (h:Hp):Prop:=
 ∀a w,a.tmps.size=n→a.defers=[]→env a=F→ZT T w h→c.wpIn (M1 l) 0 P (SX n T N X R) a w
variable {l:Option Nat}
theorem VR.mono {c:Code} {N':Env→Hp→Prop} {X':Nat→Env→Hp→Prop} {R':Env→Hp→Prop} (H:VR P n T l c N X R F h)
  (hN:∀F h,N F h→N' F h) (hX:∀j F h,X j F h→X' j F h) (hR:∀F h,R F h→R' F h):VR P n T l c N' X' R' F h:=by
 intro a w h1 h2 h3 h4
 refine wpIn_mono (H a w h1 h2 h3 h4) (fun e a w ⟨q1,q2,h,q3,q4⟩=>⟨q1,q2,h,q3,?_⟩)
 cases e<;>simp only at q4 ⊢<;>first|exact hN _ _ q4|exact hX _ _ _ q4|exact hR _ _ q4
theorem VR.seq {c d:Code} (H:VR P n T l c (fun F h=>VR P n T l d N X R F h) X R F h):VR P n T l (.seq c d) N X R F h:=by
 intro a w h1 h2 h3 h4
 refine wpIn_seq (wpIn_mono (H a w h1 h2 h3 h4) (fun e a w ⟨q1,q2,h,q3,q4⟩=>?_))
 cases e with
 | normal=>exact q4 a w q1 q2 rfl q3
 | exit j=>exact⟨q1,q2,h,q3,q4⟩
 | ret=>exact⟨q1,q2,h,q3,q4⟩
 | _=>exact q4.elim
theorem VR.skip (H:N F h):VR P n T l .skip N X R F h:=by
 intro a w h1 h2 h3 h4
 exact wpIn_skip ⟨h1,h2,h,h4,by rw[h3];exact H⟩
theorem VR.ret (H:R F h):VR P n T l .ret N X R F h:=by
 intro a w h1 h2 h3 h4
 exact wpIn_ret ⟨h1,h2,h,h4,by rw[h3];exact H⟩
theorem VR.exit {j:Nat} (H:X j F h):VR P n T l (.exit j) N X R F h:=by
 intro a w h1 h2 h3 h4
 exact wpIn_exit ⟨h1,h2,h,h4,by rw[h3];exact H⟩
theorem VR.block {j:Nat} {c:Code} (H:VR P n T l c N (fun i F h=>if i=j then N F h else X i F h) R F h):VR P n T l (.block j c) N X R F h:=by
 intro a w h1 h2 h3 h4
 refine wpIn_block (wpIn_mono (H a w h1 h2 h3 h4) (fun e a w ⟨q1,q2,h,q3,q4⟩=>?_))
 cases e with
 | normal=>exact⟨q1,q2,h,q3,q4⟩
 | exit i=>
  simp only[Exit.inBlock]
  simp only at q4
  split
  ·rename_i Pj;rw[if_pos Pj]at q4;exact⟨q1,q2,h,q3,q4⟩
  ·rename_i Pj;rw[if_neg Pj]at q4;exact⟨q1,q2,h,q3,q4⟩
 | ret=>exact⟨q1,q2,h,q3,q4⟩
 | _=>exact q4.elim
theorem VR.cond {c:Operand} {x y:Code} {b:Bool} (hc:ev F c=.bool b) (ht:b=true→VR P n T l x N X R F h) (hf:b=false→VR P n T l y N X R F h) :
  VR P n T l (.cond c x y) N X R F h:=by
 intro a w h1 h2 h3 h4
 exact wpIn_cond_split (t:=b) (by rw[Yl,h3];exact hc) (fun hb=>ht hb a w h1 h2 h3 h4) (fun hb=>hf hb a w h1 h2 h3 h4)
def Yr (o:Oper):Bool:=match o.op with|.defer _=>false|_=>true
theorem WI {o:Oper} (h:Yr o=true):∀c,o.op ≠ .defer c:=fun c e=>by
 unfold Yr at h
 rw[e]at h
 cases h
theorem VD {r:Option Nat} {k:Nat} {f:FuncId} {args:Array Value} {w:World} {Q:Ending→World→Prop} (h:Calls P f args w Q):CallsIn (M1 r) k P f args w Q:=
 (callsIn_wide (n:=k)).2 h
theorem T9 {r:Option Nat} {k:Nat} {row:String} {args:Array Value} {w:World} {Q:Value→World→Prop} (h:Rows P row args w Q):RowsIn (M1 r) k P row args w Q:=by
 intro c cs _
 obtain⟨v,w',q,s⟩:=h c cs
 exact⟨v,w',q,stepsIn_wide.2 s⟩
theorem Ul {r:Option Nat} {o:Oper} (hd:Yr o=true) {a:Act} {w:World} {next:Act→World→Prop} {Q:Exit→Act→World→Prop} (H:o.wp P a w next Q):o.wpIn (M1 r) 0 P a w next Q:=by
 refine⟨fun _ _=>trivial,?_⟩
 rw[Oper.semAt_eq _ _ _ (WI hd)]
 unfold Oper.wp at H
 generalize (execOp a.eval o).run P w=x at *
 cases x with
 | ok y w'=>
  cases y with
  | value v=>exact H
  | skip=>exact H
  | defer d=>exact H
  | enter f args=>exact⟨(fun q=>by cases q),VD H⟩
  | row At args=>exact⟨(fun q=>by cases q),T9 H⟩
  | _=>exact H.elim
 | halt e w'=>
  cases e with
  | panic v=>exact H
  | _=>exact H.elim
theorem SL:¬LetsOut (SX n T N X R):=fun⟨_,_,_,_,_,_,q⟩=>q
theorem Qy {r:Option Nat} {ops:Array Oper} {Q:Exit→Act→World→Prop} (hQ:¬LetsOut Q):∀(l:List Oper),l.all Yr=true→∀a w,wpList P ops Q l a w→wpListIn (M1 r) 0 P ops Q l a w:=by
 intro l
 induction l with
 | nil=>intro _ a w H;exact H
 | cons o l ih=>
  intro hd a w H
  simp only[List.all_cons,Bool.and_eq_true]at hd
  unfold wpListIn
  unfold wpList at H
  split
  ·rename_i hw
   rw[if_pos hw]at H
   rcases H with H|⟨_,H⟩
   ·exact Ul hd.1 (Oper.wp_mono (fun a w q=>ih hd.2 a w q) H)
   ·exact absurd H hQ
  ·rename_i hw
   rw[if_neg hw]at H
   exact⟨fun _ _=>trivial,ih hd.2 _ _ H⟩
theorem RM {r:Option Nat} {ops:Array Oper} {Q:Exit→Act→World→Prop} (hQ:¬LetsOut Q) (hd:ops.toList.all Yr=true) {i:Nat} {K K':Act→World→Prop} (hk:∀a w,K a w→K' a w) {a:Act} {w:World} (H:wpOp P ops Q i K a w):wpOpIn (M1 r) 0 P ops Q i K' a w:=by
 unfold wpOpIn
 unfold wpOp at H
 cases ho:ops[i]? with
 | none=>rw[ho]at H;exact hk _ _ H
 | some o=>
  rw[ho]at H
  have Ce:Yr o=true:=List.all_eq_true.1 hd o (by
   have:=Array.mem_of_getElem? ho
   simpa using this)
  simp only at H ⊢
  split
  ·rename_i hw
   rw[if_pos hw]at H
   rcases H with H|⟨_,H⟩
   ·exact Ul Ce (Oper.wp_mono hk H)
   ·exact absurd H hQ
  ·rename_i hw
   rw[if_neg hw]at H
   exact⟨fun _ _=>trivial,hk _ _ H⟩
theorem Sa {r:Option Nat} {ops:Array Oper} {Q:Exit→Act→World→Prop} (hQ:¬LetsOut Q) (hd:ops.toList.all Yr=true) {md:Region.Mode}:∀(k:Nat) (listed:Array Bool) (a:Act) (w:World),wpAny P md ops Q k listed a w→wpAnyIn (M1 r) 0 P md ops Q k listed a w:=by
 intro k
 induction k with
 | zero=>intro listed a w H;exact H
 | succ k ih=>
  intro listed a w H
  exact⟨H.1,fun i hi=>RM hQ hd (fun a w q=>ih _ a w q) (H.2 i hi)⟩
theorem VR.region {id:Nat} {ops:Array Oper} (ZN:(XC n ops&&ops.toList.all Yr)=true) (H:UD P T ops N ops.toList F h):VR P n T l (.region id ops false) N X R F h:=by
 intro a w h1 h2 h3 h4
 simp only[Bool.and_eq_true]at ZN
 exact wpIn_region_list (Qy SL _ ZN.2 _ _ (Yn ZN.1 ops.toList F h (fun _ h=>h) H a w h1 h2 h3 h4))
theorem VR.w {id:Nat} {ops:List Oper} (B:Nat) (W:List Nat) (t:Ja) (hm:P.follows .mixedOrders=true) (ZN:(Mi n ops.toArray W t&&ops.all Yr)=true)
  (H:Wz P T ops B h N t F h):VR P n T l (.region id ops.toArray true) N X R F h:=by
 intro a w h1 h2 h3 h4
 simp only[Mi,Bool.and_eq_true]at ZN
 obtain⟨⟨k1,k2,k3⟩,k4⟩:=ZN
 refine wpIn_region_any hm (Sa SL (by simpa using k4) _ _ _ _ ?_)
 exact ZQ k1 _ _ F h (Jl _ _ _ _ ((JW (S:=fun h'=>Zj B h h') k2 t).1 _ _ F h (XW _ _) k3 (fun _=>Zj.refl _ _) (Uf t F h H))) a _ h1 h2 h3 ⟨h4.heap,h4.tape,h4.os,h4.output⟩
def vr (P:Program) (n:Nat) (T:World) (l:Option Nat):Code→(Env→Hp→Prop)→(Nat→Env→Hp→Prop)→(Env→Hp→Prop)→Env→Hp→Prop
 | .skip,N,_,_,F,h=>N F h
 | .ret,_,_,R,F,h=>R F h
 | .exit j,_,X,_,F,h=>X j F h
 | .seq a b,N,X,R,F,h=>vr P n T l a (fun F h=>vr P n T l b N X R F h) X R F h
 | .cond c a b,N,X,R,F,h=>U3 (ev F c) (vr P n T l a N X R F h) (vr P n T l b N X R F h)
 | .block j c,N,X,R,F,h=>vr P n T l c N (fun i F h=>if i=j then N F h else X i F h) R F h
 | .region _ ops false,N,_,_,F,h=>Jf P T ops.toList N ops.toList F h
 | c,N,X,R,F,h=>VR P n T l c N X R F h
def Xg (n:Nat):Code→Bool
 | .seq a b=>Xg n a&&Xg n b
 | .cond _ a b=>Xg n a&&Xg n b
 | .block _ c=>Xg n c
 | .region _ ops false=>XC n ops&&ops.toList.all Yr
 | _=>true
theorem ZS:∀(c:Code) (N:Env→Hp→Prop) (X:Nat→Env→Hp→Prop) (R:Env→Hp→Prop) (F:Env) (h:Hp),Xg n c=true→vr P n T l c N X R F h→VR P n T l c N X R F h:=by
 intro c
 induction c with
 | skip=>intro N X R F h _ H;exact VR.skip H
 | ret=>intro N X R F h _ H;exact VR.ret H
 | exit j=>intro N X R F h _ H;exact VR.exit H
 | seq a b Lp Lq=>
  intro N X R F h ZN H
  simp only[Xg,Bool.and_eq_true]at ZN
  exact VR.seq (VR.mono (Lp _ _ _ _ _ ZN.1 H) (fun F h q=>Lq _ _ _ _ _ ZN.2 q) (fun _ _ _ q=>q) (fun _ _ q=>q))
 | cond c a b Lp Lq=>
  intro N X R F h ZN H
  simp only[Xg,Bool.and_eq_true]at ZN
  simp only[vr,U3]at H
  split at H
  ·rename_i t ht
   refine VR.cond ht (fun hb=>?_) (fun hb=>?_)
   ·rw[if_pos hb]at H;exact Lp _ _ _ _ _ ZN.1 H
   ·rw[if_neg (by simp[hb])]at H;exact Lq _ _ _ _ _ ZN.2 H
  ·exact H.elim
 | block j c ih=>intro N X R F h ZN H;exact VR.block (ih _ _ _ _ _ ZN H)
 | region id ops draw=>
  intro N X R F h ZN H
  cases draw with
  | true=>exact H
  | false=>exact VR.region ZN (by simpa using Z8 _ _ _ H)
 | _=>intro N X R F h _ H;exact H
def M3 (P:Program) (n:Nat) (T:World) (l:Option Nat) (b:Code) (N:Env→Hp→Prop) (X:Nat→Env→Hp→Prop) (R:Env→Hp→Prop):Env→Hp→Prop:=fun F h=>vr P n T l b N X R F h
def OB (P:Program) (n:Nat) (T:World) (l:Option Nat) (v:Value) (a b:Code) (N:Env→Hp→Prop) (X:Nat→Env→Hp→Prop) (R:Env→Hp→Prop) (F:Env) (h:Hp):Prop:=U3 v (vr P n T l a N X R F h) (vr P n T l b N X R F h)
@[go_sem] theorem KI {b:Code}:M3 P n T l b N X R F h=vr P n T l b N X R F h:=rfl
@[go_sem] theorem Gn:vr P n T l .skip N X R F h=N F h:=rfl
@[go_sem] theorem G1:vr P n T l .ret N X R F h=R F h:=rfl
@[go_sem] theorem Gp {j:Nat}:vr P n T l (.exit j) N X R F h=X j F h:=rfl
@[go_sem] theorem Gq {c:Code}:vr P n T l (.loop c) N X R F h=VR P n T l (.loop c) N X R F h:=rfl
@[go_sem] theorem G2 {a b:Code}:vr P n T l (.seq a b) N X R F h=vr P n T l a (M3 P n T l b N X R) X R F h:=rfl
@[go_sem] theorem Gr {c:Operand} {a b:Code}:vr P n T l (.cond c a b) N X R F h=OB P n T l (ev F c) a b N X R F h:=rfl
@[go_sem] theorem IV {j:Nat} {c:Code}:vr P n T l (.block j c) N X R F h=vr P n T l c N (Lr j N X) R F h:=rfl
@[go_sem] theorem KJ {id:Nat} {l':List Oper}:vr P n T l (.region id l'.toArray false) N X R F h=Jf P T l' N l' F h:=rfl
@[go_sem] theorem Gs {id:Nat} {l':Array Oper}:vr P n T l (.region id l' true) N X R F h=VR P n T l (.region id l' true) N X R F h:=rfl
@[go_sem] theorem M4 {a b:Code} {t:Bool}:OB P n T l (.bool t) a b N X R F h=if t=true then vr P n T l a N X R F h else vr P n T l b N X R F h:=rfl
end
section
variable {P:Program} {n:Nat} {T:World} {h:Hp}
theorem ZT.putObj {w:World} (s:ZT T w h) (l:Nat) (o:Obj):ZT T (w.putObj l o) (h.setIfInBounds l o):=by
 obtain⟨q1,q2,q3,q4⟩:=s
 subst q1
 exact⟨rfl,q2,q3,q4⟩
theorem ZT.alloc {w:World} (s:ZT T w h) (o:Obj):ZT T (w.alloc o) (h.push o):=by
 obtain⟨q1,q2,q3,q4⟩:=s
 subst q1
 exact⟨rfl,q2,q3,q4⟩
def Xv (P:Program) (T:World) (l:Nat) (x:Value) (K:Bool→Hp→Prop) (h:Hp):Prop:=
 ∀w,ZT T w h→YieldAt Fence.wide 0 P l #[x] w fun e w'=>∃b h',e=.returned (.bool b)∧ZT T w' h'∧K b h'
theorem Xv.mono {l:Nat} {x:Value} {K K':Bool→Hp→Prop} (H:Xv P T l x K h) (hk:∀b h,K b h→K' b h):Xv P T l x K' h:=fun w hs=>
 (H w hs).mono fun e w' ⟨b,h',q1,q2,q3⟩=>⟨b,h',q1,q2,hk _ _ q3⟩
theorem Xv.of {l:Nat} {rec:Loop} {p:Tmp} {x:Value} {K:Bool→Hp→Prop} {F0:Env} (hl:h[l]? = some (.loop rec)) (hp:rec.params=#[p]) (hn:rec.tmps.size=n)
  (hF:env { tmps:=rec.tmps.setIfInBounds p x,defers:=[] } = F0)
  (H:VR P n T (some l) rec.assign (fun F1 h1=>∃r1,h1[l]? = some (.loop r1)∧r1.state=.ready ∧
    VR P n T (some l) rec.body (fun _ h2=>∃r2,h2[l]? = some (.loop r2)∧K true (h2.setIfInBounds l (.loop { r2 with state:=.ready,pending:=none }))) (fun _ _ _=>False)
     (fun _ h2=>∃r2,h2[l]? = some (.loop r2)∧K false (h2.setIfInBounds l (.loop { r2 with state:=.done,pending:=some .ret }))) F1 (h1.setIfInBounds l (.loop { r1 with state:=.busy }))) (fun _ _ _=>False) (fun _ _=>False) F0 h):Xv P T l x K h:=by
 intro w hs
 refine⟨rec.fn,_,rec.assign,rec.body,run_yield (by rw[hs.heap];exact hl) (by rw[hp];rfl),roundIn_of_wpIn trivial ?_⟩
 have ht:(rec.params.zip #[x]).foldl (fun tmps (t,a)=>tmps.setIfInBounds t a) rec.tmps=rec.tmps.setIfInBounds p x:=by rw[hp];simp
 rw[ht]
 refine wpIn_mono (H { tmps:=rec.tmps.setIfInBounds p x,defers:=[] } w (by simpa using hn) rfl hF hs) ?_
 rintro e a1 w1 ⟨q1,q2,h1,q3,q4⟩
 cases e with
 | normal=>
  obtain⟨r1,Cf,KX,HB⟩:=q4
  refine⟨_,run_beginRound (by rw[q3.heap];exact Cf) KX,?_⟩
  refine wpIn_mono (HB a1 _ q1 q2 rfl (q3.putObj _ _)) ?_
  rintro e a2 w2 ⟨_,_,h2,s2,k2⟩
  cases e with
  | normal=>
   obtain⟨r2,Gt,hk⟩:=k2
   exact⟨_,_,run_endRound none (by rw[s2.heap];exact Gt),true,_,rfl,s2.putObj _ _,hk⟩
  | ret=>
   obtain⟨r2,Gt,hk⟩:=k2
   exact⟨_,_,run_endRound (some .ret) (by rw[s2.heap];exact Gt),false,_,rfl,s2.putObj _ _,hk⟩
  | exit j=>exact k2.elim
  | goto t=>exact k2.elim
  | panic c=>exact k2.elim
  | outgrown=>exact k2.elim
 | exit j=>exact q4.elim
 | ret=>exact q4.elim
 | goto t=>exact q4.elim
 | panic c=>exact q4.elim
 | outgrown=>exact q4.elim
section
variable {l:Option Nat} {N:Env→Hp→Prop} {X:Nat→Env→Hp→Prop} {R:Env→Hp→Prop} {F:Env}
theorem VR.loop {c:Code} (I:Env→Hp→Prop) (μ:Env→Hp→Nat) (h0:I F h)
  (round:∀F h,I F h→VR P n T l c (fun F' h'=>I F' h'∧μ F' h'<μ F h) X R F h):VR P n T l (.loop c) N X R F h:=by
 intro a w h1 h2 h3 h4
 refine wpIn_loop (fun a w=>a.tmps.size=n∧a.defers=[]∧ZT T w w.heap∧I (env a) w.heap) (fun a w=>μ (env a) w.heap)
  ⟨h1,h2,by rw[h4.heap];exact h4,by rw[h3,h4.heap];exact h0⟩ ?_
 intro a w ⟨q1,q2,q3,q4⟩
 refine wpIn_mono (round (env a) w.heap q4 a w q1 q2 rfl q3) (fun e a' w' ⟨p1,p2,h',p3,p4⟩=>?_)
 cases e with
 | normal=>
  have e:=p3.heap
  subst e
  exact⟨⟨p1,p2,p3,p4.1⟩,p4.2⟩
 | exit j=>exact⟨p1,p2,h',p3,p4⟩
 | ret=>exact⟨p1,p2,h',p3,p4⟩
 | _=>exact p4.elim
theorem Xh {F:Fence} {m:Nat} {ops:Array Oper} {Q:Exit→Act→World→Prop} {o:Oper} {rest:List Oper} {a:Act} {w:World} (hg:o.guard=none) (H:o.wpIn F m P a w (wpListIn F m P ops Q rest) Q):wpListIn F m P ops Q (o :: rest) a w:=by
 unfold wpListIn
 rw[if_pos (by unfold Region.wanted;rw[hg])]
 exact H
theorem VR.yield {id:Nat} {t0 t3:Tmp} {d1 d2 d3 d4:Tmp} {Cg Ch ET EU:TypeId} {p1 p2 p3 p4:String} {a1 a2 a3 a4} {EV:Array TypeId} {EW:TypeId} {lp:Nat} {x:Value}
  (hd:d1<n∧d2<n∧d3<n∧d4<n∧d1≠d2)
  (ht:F t0=.func (.yield lp) #[] #[]) (hx:Zl F (some d1) (F t0) t3=x)
  (H:Xv P T lp x (fun b h'=>N (Zl (Zl (Zl (Zl F (some d1) (F t0)) (some d2) x) (some d3) (.bool b)) (some d4) (.bool !b)) h') h) :
  VR P n T l (.region id #[⟨some d1,.move (.tmp t0),Cg,p1,a1,none⟩,⟨some d2,.move (.tmp t3),Ch,p2,a2,none⟩,⟨some d3,.call { callee:=.value (.tmp d1),args:=#[.tmp d2],argTypes:=EV },ET,p3,a3,none⟩,⟨some d4,.unOp .not EW (.tmp d3),EU,p4,a4,none⟩] false) N X R F h:=by
 intro a w h1 h2 h3 h4
 refine wpIn_region_list ?_
 obtain⟨k1,k2,k3,k4,k5⟩:=hd
 refine Xh rfl ⟨fun _ _=>trivial,?_⟩
 rw[Oper.semAt_eq _ _ _ (fun c e=>by cases e)]
 show wpListIn _ _ _ _ _ _ (a.put (some d1) (a.eval (.tmp t0))) w
 have e0:a.eval (.tmp t0)=F t0:=by rw[Yl,h3];rfl
 rw[e0]
 have F1:env (a.put (some d1) (F t0))=Zl F (some d1) (F t0):=by rw[Ym a _ _ (fun d e=>by cases e;rw[h1];exact k1),h3]
 refine Xh rfl ⟨fun _ _=>trivial,?_⟩
 rw[Oper.semAt_eq _ _ _ (fun c e=>by cases e)]
 show wpListIn _ _ _ _ _ _ ((a.put (some d1) (F t0)).put (some d2) ((a.put (some d1) (F t0)).eval (.tmp t3))) w
 have e1:(a.put (some d1) (F t0)).eval (.tmp t3)=x:=by rw[Yl,F1];exact hx
 rw[e1]
 have s1:(a.put (some d1) (F t0)).tmps.size=n:=by rw[size_put,h1]
 have F2:env ((a.put (some d1) (F t0)).put (some d2) x)=Zl (Zl F (some d1) (F t0)) (some d2) x:=by rw[Ym _ _ _ (fun d e=>by cases e;rw[s1];exact k2),F1]
 have s2:((a.put (some d1) (F t0)).put (some d2) x).tmps.size=n:=by rw[size_put,s1]
 have f2:((a.put (some d1) (F t0)).put (some d2) x).defers=[]:=h2
 obtain⟨b,hb⟩:=ZE ((a.put (some d1) (F t0)).put (some d2) x)
 rw[←hb]at F2 s2 f2 ⊢
 have v1:b.eval (.tmp d1)=.func (.yield lp) #[] #[]:=by
  rw[Yl,F2,←ht]
  simp[ev,Zl,Jo,k5]
 have v2:b.eval (.tmp d2)=x:=by
  rw[Yl,F2]
  simp[ev,Zl,Jo]
 refine Xh rfl ⟨fun _ _=>trivial,?_⟩
 rw[Oper.semAt_eq _ _ _ (fun c e=>by cases e)]
 obtain⟨fn,tmps,as,bd,hy,hr⟩:=H w h4
 have run:(execOp b.eval ⟨some d3,.call { callee:=.value (.tmp d1),args:=#[.tmp d2],argTypes:=EV },ET,p3,a3,none⟩).run P w=.ok (.round lp fn tmps as bd) w:=by
  have Ci:b.tmps[d1]?.getD undef=.func (.yield lp) #[] #[]:=by rw[←v1];simp[go_sem]
  have Cj:b.tmps[d2]?.getD undef=x:=by rw[←v2];simp[go_sem]
  simp[execOp,resolve,invoke,Ci,Cj,hy,go_sem]
 rw[run,Oper.uponIn_round]
 refine⟨(fun q=>by cases q),hr.mono ?_⟩
 rintro e w' ⟨c,h',rfl,X3,hN⟩
 have F3:env (b.put (some d3) (.bool c))=Zl (Zl (Zl F (some d1) (F t0)) (some d2) x) (some d3) (.bool c):=by rw[Ym _ _ _ (fun d e=>by cases e;rw[s2];exact k3),F2]
 have s3:(b.put (some d3) (.bool c)).tmps.size=n:=by rw[size_put,s2]
 refine Xh rfl ⟨fun _ _=>trivial,?_⟩
 rw[Oper.semAt_eq _ _ _ (fun c e=>by cases e)]
 have v3:(b.put (some d3) (.bool c)).eval (.tmp d3)=.bool c:=by
  rw[Yl,F3]
  simp[ev,Zl,Jo]
 have G3:(execOp (b.put (some d3) (.bool c)).eval ⟨some d4,.unOp .not EW (.tmp d3),EU,p4,a4,none⟩).run P w'=.ok (.value (.bool !c)) w':=by
  simp[execOp,s2,k3,go_sem,Op.unary]
 rw[G3]
 show SX n T N X R .normal ((b.put (some d3) (.bool c)).put (some d4) (.bool !c)) w'
 refine⟨by rw[size_put,s3],f2,h',X3,?_⟩
 show N (env ((b.put (some d3) (.bool c)).put (some d4) (.bool !c))) h'
 rw[Ym _ _ _ (fun d e=>by cases e;rw[s3];exact k4),F3]
 exact hN
end
section
variable {f:FuncId} {fn:Func} {c:Code} {l:List ResultVar} {K:Value→Hp→Prop}
def Ml (T:World) (K:Value→Hp→Prop):Ending→World→Prop:=fun e w'=>∃v h',e=.returned v∧ZT T w' h'∧K v h'
theorem QP {a:Act} {w:World} {h':Hp} (hl:fn.results=l.toArray) (q3:ZT T w h') (hr:Y0 P l (env a) K h'):∃v,(results fn a.tmps).run P w=.ok v w∧Ml T K (.returned v) w:=by
 unfold Y0 at hr
 split at hr
 ·rename_i vs ND
  exact⟨_,Qs hl ND q3,_,h',rfl,q3,hr⟩
 ·exact hr.elim
theorem Zf.IW {args:Array Value} (hf:P.funcs[f]? = some fn) (hb:fn.body=some c) (hl:fn.results=l.toArray) (hn:Nat.ble args.size fn.ntmps=true)
  (H:VR P fn.ntmps T none c (fun F h'=>Y0 P l F K h') (fun _ _ _=>False) (fun F h'=>Y0 P l F K h') (JE args.toList 0) h):Zf P T f args h K:=by
 intro w hs
 refine callsIn_wide.1 (callsIn_of_wp (n:=0) hf hb trivial ?_)
 refine wpIn_mono (H _ w ?_ rfl (Qd _ _) hs) (fun e a w hp=>?_)
 ·have:=Nat.le_of_ble_eq_true hn
  simp only[Array.size_append,Array.size_replicate];omega
 ·obtain⟨q1,q2,h',q3,q4⟩:=hp
  cases e with
  | normal=>exact⟨q2,QP hl q3 q4⟩
  | ret=>exact⟨q2,QP hl q3 q4⟩
  | _=>exact q4.elim
def QM (P:Program) (T:World) (fn:Func) (K:Value→Hp→Prop):Exit→Act→World→Prop:=bodyPostM Fence.wide 0 P fn (Ml T K)
def VF (P:Program) (T:World) (fn:Func) (K:Value→Hp→Prop) (c:Code) (F:Env) (h:Hp):Prop:=
 ∀a w,a.tmps.size=fn.ntmps→a.defers=[]→env a=F→ZT T w h→c.wpIn (M1 none) 0 P (QM P T fn K) a w
theorem Zf.IX {args:Array Value} (hf:P.funcs[f]? = some fn) (hb:fn.body=some c) (hn:Nat.ble args.size fn.ntmps=true) (H:VF P T fn K c (JE args.toList 0) h):Zf P T f args h K:=by
 intro w hs
 refine callsIn_wide.1 (callsIn_of_wp_marks (n:=0) hf hb trivial ?_)
 refine H _ w ?_ rfl (Qd _ _) hs
 have:=Nat.le_of_ble_eq_true hn
 simp only[Array.size_append,Array.size_replicate];omega
theorem OC {a:Act} {w:World} {h':Hp} (hl:fn.results=l.toArray) (hd:a.defers=[]) (q3:ZT T w h') (hr:Y0 P l (env a) K h'):QM P T fn K .ret a w:=by
 show LeavesInM Fence.wide 0 P fn a.tmps (Ml T K) a.defers .returning w
 rw[hd]
 exact QP hl q3 hr
theorem SM {a:Act} {w:World} {h':Hp} {D:Nat} (hl:fn.results=l.toArray) (hd:a.defers=[{ target:=.collected D,args:=#[] }]) (q3:ZT T w h') (hD:h'[D]? = some (.deferred (some [])))
  (hr:Y0 P l (env a) K (h'.setIfInBounds D (.deferred none))):QM P T fn K .ret a w:=by
 show LeavesInM Fence.wide 0 P fn a.tmps (Ml T K) a.defers .returning w
 rw[hd]
 exact⟨(by simp),.inl ⟨D,_,rfl,run_takeDeferred (by rw[q3.heap];exact hD),QP hl (q3.putObj _ _) hr⟩⟩
theorem VF.seq {d:Code} {F:Env} (hl:fn.results=l.toArray) (H:VR P fn.ntmps T none c (fun F h=>VF P T fn K d F h) (fun _ _ _=>False) (fun F h'=>Y0 P l F K h') F h):VF P T fn K (.seq c d) F h:=by
 intro a w h1 h2 h3 h4
 refine wpIn_seq (wpIn_mono (H a w h1 h2 h3 h4) (fun e a w ⟨q1,q2,h,q3,q4⟩=>?_))
 cases e with
 | normal=>exact q4 a w q1 q2 rfl q3
 | ret=>exact OC hl q2 q3 q4
 | _=>exact q4.elim
theorem OD {ops:Array Oper} {N:Env→Hp→Prop} {m:Nat} {ds:List Deferred} (ZN:XC m ops=true):∀(l:List Oper) (F:Env) (h:Hp),(∀o∈l,o∈ops.toList)→UD P T ops N l F h →
  ∀a w,a.tmps.size=m→a.defers=ds→env a=F→ZT T w h→wpList P ops (fun e a w=>e=.normal∧a.tmps.size=m∧a.defers=ds∧∃h,ZT T w h∧N (env a) h) l a w
 | [],F,h,_,H,a,w,h1,h2,h3,h4=>⟨rfl,h1,h2,h,h4,by rw[h3];exact H⟩
 | o :: l,F,h,hm,H,a,w,h1,h2,h3,h4=>by
  have hd:∀d,o.dst=some d→d<a.tmps.size:=by
   rw[h1];exact Xs (List.all_eq_true.1 ZN o (hm o (by simp)))
  have Ns:∀o∈l,o∈ops.toList:=fun x hx=>hm x (by simp[hx])
  have WX:Region.wanted o (yielded ops a.tmps)=Zp ops o F:=by rw[XP ZN a h1,h3];rfl
  unfold wpList
  rw[WX]
  unfold UD at H
  split at H
  ·rename_i hw
   rw[if_pos hw]
   refine .inl (Qb H h3 h4 fun v w' h' X3 hk=>?_)
   exact OD ZN l _ h' Ns hk _ _ (by rw[size_put,h1]) (by cases o.dst<;>exact h2) (by rw[Ym a _ _ hd,h3]) X3
  ·rename_i hw
   rw[if_neg hw]
   exact OD ZN l _ h Ns H _ _ (by rw[size_put,h1]) (by cases o.dst<;>exact h2) (by rw[Ym a _ _ hd,h3]) h4
def LR (P:Program) (T:World) (fn:Func) (l:List ResultVar) (K:Value→Hp→Prop) (g:Operand) (p:Tmp) (assign body:Code) (ops:List Oper) (F:Env) (h:Hp):Prop:=
 ∃gf lb,ev F g=.func (.func gf) #[] lb∧(∀args w,(callFunc gf args).run P w=.ok (.enter gf args) w) ∧
  ∀rec:Loop,rec.state=.ready→rec.pending=none→rec.params=#[p]→rec.assign=assign→rec.body=body→rec.tmps.size=fn.ntmps→env { tmps:=rec.tmps,defers:=[] } = F →
   Zf P T gf (#[.func (.yield (h.size+1)) #[] #[]]++lb) ((h.push (.deferred (some []))).push (.loop rec)) fun _ h'=>∃r,h'[h.size+1]? = some (.loop r)∧r.state ≠ .busy ∧
    h'[h.size]? = some (.deferred (some [])) ∧
    ((r.pending=none∧UD P T ops.toArray (fun F' h2=>h2[h.size]? = some (.deferred (some []))∧Y0 P l F' K (h2.setIfInBounds h.size (.deferred none))) ops F (h'.setIfInBounds (h.size+1) (.loop { r with state:=.exhausted }))) ∨
     (r.pending=some .ret∧Y0 P l F K ((h'.setIfInBounds (h.size+1) (.loop { r with state:=.exhausted })).setIfInBounds h.size (.deferred none))))
theorem VF.range {c0:Code} {j id:Nat} {g:Operand} {p:Tmp} {assign body:Code} {ops:List Oper} {F:Env} (hl:fn.results=l.toArray) (ZN:(XC fn.ntmps ops.toArray&&ops.toArray.toList.all Yr)=true)
  (H:VR P fn.ntmps T none c0 (fun F h=>LR P T fn l K g p assign body ops F h) (fun _ _ _=>False) (fun F h'=>Y0 P l F K h') F h) :
  VF P T fn K (.seq (.seq c0 (.block j (.rangeFunc g #[p] assign body))) (.seq (.region id ops.toArray false) .ret)) F h:=by
 intro a w h1 h2 h3 h4
 refine wpIn_seq (wpIn_seq (wpIn_mono (H a w h1 h2 h3 h4) (fun e a w ⟨q1,q2,h,q3,q4⟩=>?_)))
 cases e with
 | ret=>exact OC hl q2 q3 q4
 | exit j=>exact q4.elim
 | goto t=>exact q4.elim
 | panic c=>exact q4.elim
 | outgrown=>exact q4.elim
 | normal=>
  obtain⟨F',q5⟩:∃F',env a=F':=⟨_,rfl⟩
  rw[q5]at q4
  obtain⟨gf,lb,hg,eg,HC⟩:=q4
  refine wpIn_block (wpIn_rangeFunc ?_)
  intro G4 _
  obtain⟨rec,UQ⟩:∃rec:Loop,rec = { state:=.ready,pending:=none,fn:=G4,tmps:=a.tmps,params:=#[p],assign,body,defers:=w.heap.size }:=⟨_,rfl⟩
  have QQ:w.heap.size=h.size:=by rw[q3.heap]
  have s2:ZT T ((w.alloc (.deferred (some []))).alloc (.loop rec)) ((h.push (.deferred (some []))).push (.loop rec)):=(q3.alloc _).alloc _
  refine⟨w.heap.size+1,[{ target:=.collected w.heap.size,args:=#[] }],(w.alloc (.deferred (some []))).alloc (.loop rec),{ target:=.fn (.func gf) lb,args:=#[.func (.yield (w.heap.size+1)) #[] #[]] },(w.alloc (.deferred (some []))).alloc (.loop rec),gf,
   #[.func (.yield (w.heap.size+1)) #[] #[]]++lb,(w.alloc (.deferred (some []))).alloc (.loop rec),?_,?_,?_,?_,(fun q=>by cases q),?_⟩
  ·rw[UQ];exact run_enterLoop_outer _ _ _ _ _
  ·have IY:a.eval g=.func (.func gf) #[] lb:=by rw[Yl,q5];exact hg
   simp only[resolve,IY]
   simp[go_sem]
  ·intro f' _;exact trivial
  ·simp[invoke,go_sem,eg]
  ·rw[QQ]
   have HC:=HC rec (by rw[UQ]) (by rw[UQ]) (by rw[UQ]) (by rw[UQ]) (by rw[UQ]) (by rw[UQ];exact q1) (by rw[UQ];exact q5)
   refine (callsIn_wide.2 (HC _ s2)).mono ?_
   rintro e w' ⟨v,h',rfl,s',r,hr,hb,hD,hp⟩
   have s3:=s'.putObj (h.size+1) (.loop { r with state:=.exhausted })
   have Ck:(h'.setIfInBounds (h.size+1) (.loop { r with state:=.exhausted }))[h.size]? = some (.deferred (some [])):=by
    rw[Array.getElem?_setIfInBounds,if_neg (by omega)];exact hD
   obtain⟨pd,G5⟩:=ZE (r.pending)
   refine⟨pd,w'.putObj (h.size+1) (.loop { r with state:=.exhausted }),(by rw[G5];exact run_endLoop (by rw[s'.heap];exact hr) hb),?_⟩
   rcases hp with⟨hp,hv⟩|⟨hp,hv⟩
   ·have e1:pd=none:=G5.trans hp
    subst e1
    simp only[Exit.inBlock,Exit.then]
    simp only[Bool.and_eq_true]at ZN
    refine wpIn_seq (wpIn_mono (wpIn_region_list (Qy (r:=none) (Q:=fun e a w=>e=.normal∧a.tmps.size=fn.ntmps∧a.defers=[{ target:=.collected h.size,args:=#[] }]∧∃h2,ZT T w h2∧h2[h.size]? = some (.deferred (some []))∧Y0 P l (env a) K (h2.setIfInBounds h.size (.deferred none))) ?_ _ ZN.2 _ _ (OD (ds:=[{ target:=.collected h.size,args:=#[] }]) ZN.1 ops F' _ (fun o ho=>by simpa using ho) hv _ _ q1 ?_ q5 s3))) ?_)
    ·rintro⟨_,_,q,_⟩;cases q
    ·rw[q2];rfl
    ·rintro e a w ⟨rfl,z1,z2,h2,z3,z4,z5⟩
     exact wpIn_ret (SM (D:=h.size) hl z2 z3 z4 z5)
   ·have e1:pd=some .ret:=G5.trans hp
    subst e1
    refine wpIn_ret ?_
    exact SM (D:=h.size) hl (by rw[q2];rfl) s3 Ck (by rw[←q5]at hv;exact hv)
end
end
def LS:Code→List Nat→Option Code
 | c,[]=>some c
 | .seq a _,0 :: l=>LS a l
 | .seq _ b,1 :: l=>LS b l
 | .block _ c,0 :: l=>LS c l
 | .loop c,0 :: l=>LS c l
 | .cond _ a _,0 :: l=>LS a l
 | .cond _ _ b,1 :: l=>LS b l
 | _,_=>none
def Nu (f:Func) (l:List Nat):Option Code:=f.body.bind fun c=>LS c l
def EX:Code→Option Code
 | .rangeFunc _ _ a _=>some a
 | _=>none
def EY:Code→Option Code
 | .rangeFunc _ _ _ b=>some b
 | _=>none
end Go.V
