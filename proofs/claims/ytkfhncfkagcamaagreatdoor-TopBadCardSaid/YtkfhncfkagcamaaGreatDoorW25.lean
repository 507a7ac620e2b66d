/- W22: maps whose keys are structs of plain cells, with an integer for each; entries are never struck. -/
import Derived.Test.YtkfhncfkagcamaaGreatDoorW21
namespace Go.V
set_option linter.unusedVariables false
set_option linter.unusedSimpArgs false
section
variable {P:Program} {T:World} {ty:TypeId} {F:Env} {h:Hp} {K:Value→Hp→Prop}
def Nn (P:Program) (t:TypeId) (m x:Value) (c:Bool) (K:Value→Hp→Prop) (h:Hp):Prop:=hw P (Instr.lookup t m x c) K h
def lJ (P:Program) (t:TypeId) (K:Value→Hp→Prop) (h:Hp):Prop:=hw P (Instr.makeMap t none) K h
@[go_sem] theorem BJ {t:TypeId} {m x:Operand} {c:Bool}:Wo P T (.lookup t m x c) ty K F h=Nn P t (ev F m) (ev F x) c K h:=by
 show hw P (do pure (Next.value (←Instr.lookup t (ev F m) (ev F x) c))) (Xm P T K) h=_
 rw[Zf];rfl
@[go_sem] theorem Eo {t:TypeId}:Wo P T (.makeMap t none) ty K F h=lJ P t K h:=by
 show hw P (do pure (Next.value (←Instr.makeMap t none))) (Xm P T K) h=_
 rw[Zf];rfl
@[go_sem] theorem zj {t:TypeId} {m x:Operand} {c:Bool}:K0 P T ⟨none,.lookup t m x c,ty, "", #[],none⟩ K F h=Nn P t (ev F m) (ev F x) c K h:=BJ
@[go_sem] theorem wJ {t:TypeId}:K0 P T ⟨none,.makeMap t none,ty, "", #[],none⟩ K F h=lJ P t K h:=Eo
@[go_sem] theorem Zdn {t:TypeId}:lJ P t K h=K (.map (some h.size)) (h.push (.map #[] 0)):=rfl
variable {α:Type} [DecidableEq α] {enc:α→List Value}
theorem I7 {e:TypeId} {v:Value} (hz:(P.info? e).bind (·.zero)=some v) {Q:Value→Hp→Prop}:hw P (zeroValue e) Q h=Q v h:=by
 cases hi:P.info? e with
 | none=>rw[hi]at hz;cases hz
 | some i=>
  rw[hi]at hz
  unfold zeroValue
  rw[Zf,Y1 hi]
  have hz:i.zero=some v:=hz
  simp only[hz]
  rfl
theorem Rw {b:Nat} {es:Array MapEntry} {c:Nat} (hm:h[b]? = some (.map es c)) {Q:Obj→Hp→Prop}:hw P (getObj b) Q h↔Q (.map es c) h:=
 ⟨fun⟨o,h1,_,h2⟩=>(by rw[hm]at h1;cases h1;exact h2),fun H=>⟨_,hm,rfl,H⟩⟩
end
section
variable {P:Program} {n:Nat} {T:World} {N:Env→Hp→Prop} {X:Nat→Env→Hp→Prop} {R:Env→Hp→Prop} {F:Env} {h:Hp}
def Pz (P:Program) (T:World) (ops:Array Oper) (S:Hp→Prop) (W:List Nat) (N:Env→Hp→Prop):Nat→Array Bool→Env→Hp→Prop
 | 0,listed,F,h=>Region.ready .any ops listed=[]∧N F h
 | k+1,listed,F,h=>(Region.ready .any ops listed=[]→N F h) ∧
   ∀i∈Region.ready .any ops listed,JR P T ops i (fun F' h'=>(i∈W∨(S h→S h'))∧Pz P T ops S W N k (listed.setIfInBounds i true) F' h') F h
theorem Iu {ops:Array Oper} {S:Hp→Prop} {W:List Nat}:∀(k:Nat) (listed:Array Bool) (F:Env) (h:Hp),Pz P T ops S W N k listed F h→CP P T ops (fun _=>True) N k listed F h:=by
 intro k
 induction k with
 | zero=>intro listed F h H;exact H
 | succ k ih=>intro listed F h H;exact⟨H.1,fun i hi=>XL (fun F' h' q=>⟨trivial,ih _ _ _ q.2⟩) (H.2 i hi)⟩
theorem Wu {ops:Array Oper} {S S1:Hp→Prop} {W:List Nat} {i:Nat} {oi:Oper} {v:Value} (hi:ops[i]? = some oi) (FH:∀(j:Nat) (o:Oper) cs b,ops[j]? = some o→o.op ≠ .select cs b)
  (hW:(∀h,S1 h)∨((∀h,S h→S1 h)∧∀j∈W,∃f,Ua ops f j i=true)) :
  ∀(k:Nat) (listed:Array Bool) (F:Env) (h:Hp),Ji ops listed →
   (∀j oj,ops[j]? = some oj→j≠i→listed.getD j true=false→(∀e∈oj.after,Region.binds .any e=true→e.on≠i)→oi.apart ops oj=true) →
   i∈Region.ready .any ops listed→Qp P T ops S1 oi v F→((∀h,S1 h)∨S h) →
   Pz P T ops S W N k (listed.setIfInBounds i true) (Z2 F oi.dst v) h→Pz P T ops S W N (k+1) listed F h:=by
 intro k
 induction k with
 | zero=>
  intro listed F h _ _ hr hy hS H
  have hS1:S1 h:=hS.elim (fun q=>q h) (fun q=>hW.elim (fun p=>p h) (fun p=>p.1 h q))
  refine⟨fun h=>(by rw[h]at hr;cases hr),fun j hj=>?_⟩
  by_cases Wn:j=i
  ·subst Wn;exact hy.opI hi hS1 ⟨.inr id,H⟩
  ·have:=ready_mono hj Wn
   rw[H.1]at this
   cases this
 | succ k ih=>
  intro listed F h X4 Ng hr hy hS H
  have hS1:S1 h:=hS.elim (fun q=>q h) (fun q=>hW.elim (fun p=>p h) (fun p=>p.1 h q))
  refine⟨fun h=>(by rw[h]at hr;cases hr),fun j hj=>?_⟩
  by_cases Wn:j=i
  ·subst Wn;exact hy.opI hi hS1 ⟨.inr id,H⟩
  ·have h1:=H.2 j (ready_mono hj Wn)
   obtain⟨FI,oj,dJ,YH⟩:=mem_ready.1 hj
   have HX:∀e∈oj.after,Region.binds .any e=true→e.on≠i:=fun e he hb heq=>by
    have h1:=YH e he hb
    have h0:=(mem_ready.1 hr).1
    rw[heq]at h1
    rcases Nat.lt_or_ge i listed.size with h'|h'
    ·simp[h']at h0 h1;rw[h0]at h1;cases h1
    ·simp[Array.getElem?_eq_none h']at h1
   have h2:=MU dJ (Ng j oj dJ Wn FI HX) (fun cs b=>FH i oi cs b hi) (fun cs b=>FH j oj cs b dJ) hy h1
   have MW:∀k ok,ops[k]? = some ok→k≠i→(listed.setIfInBounds j true).getD k true=false →
     (∀e∈ok.after,Region.binds .any e=true→e.on≠i)→oi.apart ops ok=true:=fun k ok hk hki wm hno=>by
    refine Ng k ok hk hki ?_ hno
    by_cases bj:j=k
    ·subst bj;exact FI
    ·rw[getD_set_ne true bj]at wm;exact wm
   refine XL (fun F' h' h3=>?_) h2
   refine⟨h3.2.1,ih (listed.setIfInBounds j true) F' h' (X4.set hj) MW (ready_mono hr (Ne.symm Wn)) h3.1 ?_ ?_⟩
   ·rcases hW with hW|⟨hW1,hW2⟩
    ·exact .inl hW
    ·rcases hS with hS|hS
     ·exact .inl hS
     ·rcases h3.2.1 with hjw|hss
      ·obtain⟨f,hf⟩:=hW2 j hjw
       have h1:=Nj X4 hf hj
       have h0:=(mem_ready.1 hr).1
       rcases Nat.lt_or_ge i listed.size with h'|h'
       ·simp[h']at h0 h1;rw[h0]at h1;cases h1
       ·simp[Array.getElem?_eq_none h']at h1
      ·exact .inr (hss hS)
   ·rw[Array.setIfInBounds_comm _ _ Wn]
    exact h3.2.2
inductive Tz where
 | nil
 | p (i:Nat) (t:Tz)
 | q (i:Nat) (t:Tz)
 | s (i:Nat) (t:Tz)
 | w (i:Nat) (t:Tz)
 | or (i:Nat) (t:Tz) (r:Tz)
def Tz.alts:Tz→List Nat
 | .s i _=>[i]
 | .w i _=>[i]
 | .or i _ r=>i :: r.alts
 | _=>[]
def Tz.Px:Tz→Bool
 | .q _ _=>true
 | .p _ t=>t.Px
 | .s _ t=>t.Px
 | .or _ t r=>t.Px||r.Px
 | _=>false
def Tz.ok (ops:Array Oper) (W:List Nat):Tz→Nat→Array Bool→Bool→Bool
 | .nil,n,listed,_=>Nat.beq n 0&&(Region.ready .any ops listed).isEmpty
 | .p _ _,0,_,_=>false
 | .p i t,n+1,listed,_=>((Region.ready .any ops listed).contains i&&Region.free .any ops listed i)&&t.ok ops W n (listed.setIfInBounds i true) true
 | .q _ _,0,_,_=>false
 | .q i t,n+1,listed,_=>((Region.ready .any ops listed).contains i&&(Region.free .any ops listed i&&W.all fun j=>Ua ops bK j i))&&t.ok ops W n (listed.setIfInBounds i true) true
 | .s _ _,0,_,_=>false
 | .s i t,n+1,listed,b=>(!b||(Region.ready .any ops listed == [i]))&&t.ok ops W n (listed.setIfInBounds i true) true
 | .w _ _,0,_,_=>false
 | .w i t,n+1,listed,b=>((!b||(Region.ready .any ops listed == [i]))&&(W.contains i&&!t.Px))&&t.ok ops W n (listed.setIfInBounds i true) true
 | .or _ _ _,0,_,_=>false
 | .or i t r,n+1,listed,b=>(!b||(Region.ready .any ops listed == i :: r.alts))&&(t.ok ops W n (listed.setIfInBounds i true) true&&r.ok ops W (n+1) listed false)
def FE (P:Program) (T:World) (ops:Array Oper) (S:Hp→Prop) (N:Env→Hp→Prop):Tz→Env→Hp→Prop
 | .nil,F,h=>N F h
 | .p i t,F,h=>match ops[i]? with
  | some o=>if Z6 ops o F then ∃v,(∀h',K0 P T o (fun v' On=>v'=v∧On=h') F h')∧FE P T ops S N t (Z2 F o.dst v) h else FE P T ops S N t (Z2 F o.dst undef) h
  | none=>False
 | .q i t,F,h=>match ops[i]? with
  | some o=>if Z6 ops o F then ∃v,(∀h',S h'→K0 P T o (fun v' On=>v'=v∧On=h') F h')∧FE P T ops S N t (Z2 F o.dst v) h else FE P T ops S N t (Z2 F o.dst undef) h
  | none=>False
 | .s i t,F,h=>JR P T ops i (fun F' h'=>S h'∧FE P T ops S N t F' h') F h
 | .w i t,F,h=>JR P T ops i (fun F' h'=>FE P T ops S N t F' h') F h
 | .or i t r,F,h=>JR P T ops i (fun F' h'=>S h'∧FE P T ops S N t F' h') F h∧FE P T ops S N r F h
theorem Gu {ops:Array Oper} {S:Hp→Prop} {W:List Nat} (hs:Region.noSelect ops=true):∀(t:Tz),
  (∀(k:Nat) (listed:Array Bool) (F:Env) (h:Hp),Ji ops listed→t.ok ops W k listed true=true→(t.Px=true→S h)→FE P T ops S N t F h→Pz P T ops S W N k listed F h) ∧
  (∀(k:Nat) (listed:Array Bool) (F:Env) (h:Hp),Ji ops listed→t.ok ops W (k+1) listed false=true→FE P T ops S N t F h→∀j∈t.alts,j∈Region.ready .any ops listed→JR P T ops j (fun F' h'=>(j∈W∨(S h→S h'))∧Pz P T ops S W N k (listed.setIfInBounds j true) F' h') F h):=by
 intro t
 induction t with
 | nil=>
  refine⟨fun k listed F h X4 hB hS H=>?_,fun k listed F h _ _ _ j hj=>by cases hj⟩
  simp only[Tz.ok,Bool.and_eq_true,List.isEmpty_iff]at hB
  obtain⟨h1,h2⟩:=hB
  obtain rfl:=Nat.eq_of_beq_eq_true h1
  exact⟨h2,H⟩
 | p i t ih=>
  refine⟨fun k listed F h X4 hB hS H=>?_,fun k listed F h _ _ _ j hj=>by cases hj⟩
  cases k with
  | zero=>simp[Tz.ok]at hB
  | succ k=>
   simp only[Tz.ok,Bool.and_eq_true]at hB
   obtain⟨⟨h1,h2⟩,h3⟩:=hB
   have Ri:i∈Region.ready .any ops listed:=by simpa using h1
   obtain⟨_,o,ho,_⟩:=mem_ready.1 Ri
   simp only[FE,ho]at H
   split at H
   ·rename_i MT
    obtain⟨v,hv,H⟩:=H
    exact Wu (S1:=fun _=>True) ho (Region.noSelect_spec hs) (.inl fun _=>trivial) k listed F h X4 (Region.free_spec ho h2) Ri (.inl ⟨MT,fun h' _=>hv h'⟩) (.inl fun _=>trivial) (ih.1 k _ _ _ (X4.set Ri) h3 hS H)
   ·rename_i MT
    exact Wu (S1:=fun _=>True) ho (Region.noSelect_spec hs) (.inl fun _=>trivial) k listed F h X4 (Region.free_spec ho h2) Ri (.inr ⟨by simpa using MT,rfl⟩) (.inl fun _=>trivial) (ih.1 k _ _ _ (X4.set Ri) h3 hS H)
 | q i t ih=>
  refine⟨fun k listed F h X4 hB hS H=>?_,fun k listed F h _ _ _ j hj=>by cases hj⟩
  have hS:=hS rfl
  cases k with
  | zero=>simp[Tz.ok]at hB
  | succ k=>
   simp only[Tz.ok,Bool.and_eq_true]at hB
   obtain⟨⟨h1,h2,hw⟩,h3⟩:=hB
   have Ri:i∈Region.ready .any ops listed:=by simpa using h1
   obtain⟨_,o,ho,_⟩:=mem_ready.1 Ri
   have hW:∀j∈W,∃f,Ua ops f j i=true:=fun j hj=>⟨bK,List.all_eq_true.1 hw j hj⟩
   simp only[FE,ho]at H
   split at H
   ·rename_i MT
    obtain⟨v,hv,H⟩:=H
    exact Wu ho (Region.noSelect_spec hs) (.inr ⟨fun _ q=>q,hW⟩) k listed F h X4 (Region.free_spec ho h2) Ri (.inl ⟨MT,hv⟩) (.inr hS) (ih.1 k _ _ _ (X4.set Ri) h3 (fun _=>hS) H)
   ·rename_i MT
    exact Wu ho (Region.noSelect_spec hs) (.inr ⟨fun _ q=>q,hW⟩) k listed F h X4 (Region.free_spec ho h2) Ri (.inr ⟨by simpa using MT,rfl⟩) (.inr hS) (ih.1 k _ _ _ (X4.set Ri) h3 (fun _=>hS) H)
 | s i t ih=>
  have second:∀(k:Nat) (listed:Array Bool) (F:Env) (h:Hp),Ji ops listed→i∈Region.ready .any ops listed→t.ok ops W k (listed.setIfInBounds i true) true=true→FE P T ops S N (.s i t) F h→JR P T ops i (fun F' h'=>(i∈W∨(S h→S h'))∧Pz P T ops S W N k (listed.setIfInBounds i true) F' h') F h:=by
   intro k listed F h X4 Ri hB H
   exact XL (fun F' h' q=>⟨.inr fun _=>q.1,ih.1 k _ _ _ (X4.set Ri) hB (fun _=>q.1) q.2⟩) H
  refine⟨fun k listed F h X4 hB hS H=>?_,fun k listed F h X4 hB H j hj hr=>?_⟩
  ·cases k with
   | zero=>simp[Tz.ok]at hB
   | succ k=>
    simp only[Tz.ok,Bool.and_eq_true,Bool.not_true,Bool.false_or,beq_iff_eq]at hB
    refine⟨fun h0=>(by rw[hB.1]at h0;cases h0),fun j hj=>?_⟩
    have hr:=hj
    rw[hB.1]at hj
    have hj:j=i:=by simpa using hj
    subst hj
    exact second k listed F h X4 hr hB.2 H
  ·simp only[Tz.ok,Bool.and_eq_true]at hB
   have hj:j=i:=by simpa [Tz.alts] using hj
   subst hj
   exact second k listed F h X4 hr hB.2 H
 | w i t ih=>
  have second:∀(k:Nat) (listed:Array Bool) (F:Env) (h:Hp),Ji ops listed→i∈Region.ready .any ops listed→i∈W→t.Px=false→t.ok ops W k (listed.setIfInBounds i true) true=true→FE P T ops S N (.w i t) F h→JR P T ops i (fun F' h'=>(i∈W∨(S h→S h'))∧Pz P T ops S W N k (listed.setIfInBounds i true) F' h') F h:=by
   intro k listed F h X4 Ri hw hq hB H
   exact XL (fun F' h' q=>⟨.inl hw,ih.1 k _ _ _ (X4.set Ri) hB (fun e=>by rw[hq]at e;cases e) q⟩) H
  refine⟨fun k listed F h X4 hB hS H=>?_,fun k listed F h X4 hB H j hj hr=>?_⟩
  ·cases k with
   | zero=>simp[Tz.ok]at hB
   | succ k=>
    simp only[Tz.ok,Bool.and_eq_true,Bool.not_true,Bool.false_or,beq_iff_eq,Bool.not_eq_true']at hB
    obtain⟨⟨h1,h2,h3⟩,h4⟩:=hB
    refine⟨fun h0=>(by rw[h1]at h0;cases h0),fun j hj=>?_⟩
    have hr:=hj
    rw[h1]at hj
    have hj:j=i:=by simpa using hj
    subst hj
    exact second k listed F h X4 hr (by simpa using h2) h3 h4 H
  ·simp only[Tz.ok,Bool.and_eq_true,Bool.not_eq_true']at hB
   obtain⟨⟨h1,h2,h3⟩,h4⟩:=hB
   have hj:j=i:=by simpa [Tz.alts] using hj
   subst hj
   exact second k listed F h X4 hr (by simpa using h2) h3 h4 H
 | or i t r zc zd=>
  have second:∀(k:Nat) (listed:Array Bool) (F:Env) (h:Hp),Ji ops listed→t.ok ops W k (listed.setIfInBounds i true) true=true→r.ok ops W (k+1) listed false=true→FE P T ops S N (.or i t r) F h→∀j∈(Tz.or i t r).alts,j∈Region.ready .any ops listed→JR P T ops j (fun F' h'=>(j∈W∨(S h→S h'))∧Pz P T ops S W N k (listed.setIfInBounds j true) F' h') F h:=by
   intro k listed F h X4 hB hR H j hj hr
   rcases List.mem_cons.1 hj with hj|hj
   ·subst hj
    exact XL (fun F' h' q=>⟨.inr fun _=>q.1,zc.1 k _ _ _ (X4.set hr) hB (fun _=>q.1) q.2⟩) H.1
   ·exact zd.2 k listed F h X4 hR H.2 j hj hr
  refine⟨fun k listed F h X4 hB hS H=>?_,fun k listed F h X4 hB H j hj hr=>?_⟩
  ·cases k with
   | zero=>simp[Tz.ok]at hB
   | succ k=>
    simp only[Tz.ok,Bool.and_eq_true,Bool.not_true,Bool.false_or,beq_iff_eq]at hB
    refine⟨fun h0=>(by rw[hB.1]at h0;cases h0),fun j hj=>?_⟩
    have hr:=hj
    rw[hB.1]at hj
    exact second k listed F h X4 hB.2.1 hB.2.2 H j hj hr
  ·simp only[Tz.ok,Bool.and_eq_true]at hB
   exact second k listed F h X4 hB.2.1 hB.2.2 H j hj hr
def Ep (P:Program) (T:World) (op:Op) (ty:TypeId) (C:Value→Prop) (F:Env):Prop:=
 match op with
 | .load _ _=>False
 | op=>VW P T 0 #[] op ty C F
theorem I8 {op:Op} {ty:TypeId} {C:Value→Prop} (H:Ep P T op ty C F):∃v,(∀h',Wo P T op ty (fun v' On=>v'=v∧On=h') F h')∧C v:=by
 cases op<;>first|exact H|exact H.elim
def zPg (P:Program) (T:World) (K:Env→Hp→Prop) (F:Env) (h:Hp) (d:Option Tmp) (op:Op) (ty:TypeId) (v:Value) (b:Bool):Prop:=Xt v b (Ep P T op ty (fun v=>K (Z2 F d v) h) F) (K (Z2 F d undef) h)
def zP (P:Program) (T:World) (ops:List Oper) (K:Env→Hp→Prop) (F:Env) (h:Hp) (o:Option Oper):Prop:=
 match o with
 | some ⟨d,op,ty,_,_,none⟩=>Ep P T op ty (fun v=>K (Z2 F d v) h) F
 | some ⟨d,op,ty,_,_,some (j,b)⟩=>zPg P T K F h d op ty (QE ops F j) b
 | none=>False
def KX (P:Program) (T:World) (ops:List Oper) (B:Nat) (h0:Hp) (N:Env→Hp→Prop):Tz→Env→Hp→Prop
 | .nil,F,h=>N F h
 | .p i t,F,h=>zP P T ops (KX P T ops B h0 N t) F h (nth ops i)
 | .q i t,F,h=>wQ P T ops B h0 (KX P T ops B h0 N t) F h (nth ops i)
 | .s i t,F,h=>wS P T ops B h0 (KX P T ops B h0 N t) F h (nth ops i)
 | .w i t,F,h=>wW P T ops (KX P T ops B h0 N t) F h (nth ops i)
 | .or i t r,F,h=>wS P T ops B h0 (KX P T ops B h0 N t) F h (nth ops i)∧KX P T ops B h0 N r F h
theorem BK {ops:List Oper} {B:Nat} {h0:Hp} {N:Env→Hp→Prop}:∀(t:Tz) (F:Env) (h:Hp),KX P T ops B h0 N t F h→FE P T ops.toArray (fun h'=>Ze B h0 h') N t F h:=by
 intro t
 induction t with
 | nil=>intro F h H;exact H
 | p i t ih=>
  intro F h H
  simp only[KX]at H
  simp only[FE]
  cases ho:nth ops i with
  | none=>rw[ho]at H;exact H.elim
  | some o=>
   rw[UU ho]
   rw[ho]at H
   obtain⟨d,op,ty,pos,Q8,g⟩:=o
   cases g with
   | none=>
    show (if Z6 ops.toArray _ F=true then _ else _)
    rw[if_pos (by rfl)]
    obtain⟨v,hv,H⟩:=I8 H
    exact⟨v,fun h'=>Jd (hv h'),ih _ _ H⟩
   | some jb=>
    obtain⟨j,b⟩:=jb
    show (if Z6 ops.toArray _ F=true then _ else _)
    rcases YP ops F d op pos Q8 j b H with⟨hw,H⟩|⟨hw,H⟩
    ·rw[if_pos hw]
     obtain⟨v,hv,H⟩:=I8 H
     exact⟨v,fun h'=>Jd (hv h'),ih _ _ H⟩
    ·rw[hw,if_neg (by simp)]
     exact ih _ _ H
 | q i t ih=>
  intro F h H
  simp only[KX]at H
  simp only[FE]
  cases ho:nth ops i with
  | none=>rw[ho]at H;exact H.elim
  | some o=>
   rw[UU ho]
   rw[ho]at H
   obtain⟨d,op,ty,pos,Q8,g⟩:=o
   cases g with
   | none=>
    show (if Z6 ops.toArray _ F=true then _ else _)
    rw[if_pos (by rfl)]
    obtain⟨v,hv,H⟩:=UL H
    exact⟨v,fun h' hs=>Jd (hv h' hs),ih _ _ H⟩
   | some jb=>
    obtain⟨j,b⟩:=jb
    show (if Z6 ops.toArray _ F=true then _ else _)
    rcases YP ops F d op pos Q8 j b H with⟨hw,H⟩|⟨hw,H⟩
    ·rw[if_pos hw]
     obtain⟨v,hv,H⟩:=UL H
     exact⟨v,fun h' hs=>Jd (hv h' hs),ih _ _ H⟩
    ·rw[hw,if_neg (by simp)]
     exact ih _ _ H
 | s i t ih=>intro F h H;exact Py ih H
 | w i t ih=>intro F h H;exact Ej ih H
 | or i t r zc zd=>intro F h H;exact⟨Py zc H.1,zd _ _ H.2⟩
def Zdp (n:Nat) (ops:Array Oper) (W:List Nat) (t:Tz):Bool:=Nb n ops&&(Region.noSelect ops&&t.ok ops W ops.size (Array.replicate ops.size false) true)
theorem VS.z {id:Nat} {ops:List Oper} (B:Nat) (W:List Nat) (t:Tz) (hm:P.follows .mixedOrders=true) (Jk:Zdp n ops.toArray W t=true)
  (H:KX P T ops B h N t F h):VS P n T (.region id ops.toArray true) N X R F h:=by
 intro a w h1 h2 h3 h4
 simp only[Zdp,Bool.and_eq_true]at Jk
 obtain⟨k1,k2,k3⟩:=Jk
 refine wp_region_any hm ?_
 refine Jc k1 _ _ F h (Iu _ _ _ _ ((Gu (S:=fun h'=>Ze B h h') k2 t).1 _ _ F h (Nl _ _) k3 (fun _=>Ze.refl _ _) (BK t F h H))) a _ h1 h2 h3 ⟨h4.heap,h4.tape,h4.os,h4.output⟩
variable {ops:List Oper} {B:Nat} {h0:Hp} {t r:Tz} {i j:Nat} {d:Option Tmp} {op:Op} {ty:TypeId} {pos:String} {Q8:Array Edge} {b c:Bool} {v:Value} {K:Env→Hp→Prop} {C:Value→Prop}
@[go_sem] theorem ZgU:KX P T ops B h0 N .nil F h=N F h:=rfl
@[go_sem] theorem Zqb:KX P T ops B h0 N (.p i t) F h=zP P T ops (KX P T ops B h0 N t) F h (nth ops i):=rfl
@[go_sem] theorem Zqc:KX P T ops B h0 N (.q i t) F h=wQ P T ops B h0 (KX P T ops B h0 N t) F h (nth ops i):=rfl
@[go_sem] theorem Zqd:KX P T ops B h0 N (.s i t) F h=wS P T ops B h0 (KX P T ops B h0 N t) F h (nth ops i):=rfl
@[go_sem] theorem Zqe:KX P T ops B h0 N (.w i t) F h=wW P T ops (KX P T ops B h0 N t) F h (nth ops i):=rfl
@[go_sem] theorem Zkj:KX P T ops B h0 N (.or i t r) F h=(wS P T ops B h0 (KX P T ops B h0 N t) F h (nth ops i)∧KX P T ops B h0 N r F h):=rfl
@[go_sem] theorem Zdq:zP P T ops K F h (some ⟨d,op,ty,pos,Q8,none⟩)=Ep P T op ty (wKq K F d h) F:=rfl
@[go_sem] theorem Zdr:zP P T ops K F h (some ⟨d,op,ty,pos,Q8,some (j,b)⟩)=zPg P T K F h d op ty (QE ops F j) b:=rfl
@[go_sem] theorem Zds:zPg P T K F h d op ty (.bool c) b=if c=b then Ep P T op ty (wKq K F d h) F else K (Z2 F d undef) h:=rfl
@[go_sem] theorem Zdt {x:Operand}:Ep P T (.move x) ty C F=VW P T 0 #[] (.move x) ty C F:=rfl
@[go_sem] theorem zk {x:Operand}:Ep P T (.assign x) ty C F=VW P T 0 #[] (.assign x) ty C F:=rfl
@[go_sem] theorem ZbJ {t:TypeId} {x:Operand} {i:Nat}:Ep P T (.fieldAddr t x i) ty C F=VW P T 0 #[] (.fieldAddr t x i) ty C F:=rfl
@[go_sem] theorem Zkk {t:TypeId} {x i:Operand}:Ep P T (.indexAddr t x i) ty C F=VW P T 0 #[] (.indexAddr t x i) ty C F:=rfl
@[go_sem] theorem Zdu {x y z:Operand}:Ep P T (.pick x y z) ty C F=VW P T 0 #[] (.pick x y z) ty C F:=rfl
@[go_sem] theorem ZgV {x:Operand}:Ep P T (.nilCheck x) ty C F=VW P T 0 #[] (.nilCheck x) ty C F:=rfl
@[go_sem] theorem ZgW {op:BinOp} {t t':TypeId} {x y:Operand}:Ep P T (.binOp op t x y t') ty C F=VW P T 0 #[] (.binOp op t x y t') ty C F:=rfl
@[go_sem] theorem Zkl {op:UnOp} {t:TypeId} {x:Operand}:Ep P T (.unOp op t x) ty C F=VW P T 0 #[] (.unOp op t x) ty C F:=rfl
@[go_sem] theorem wK {x:Operand} {i:Nat}:Ep P T (.extract x i) ty C F=VW P T 0 #[] (.extract x i) ty C F:=rfl
@[go_sem] theorem ZgX {t:TypeId} {x:Operand} {lo hi mx:Option Operand}:Ep P T (.slice t x lo hi mx) ty C F=VW P T 0 #[] (.slice t x lo hi mx) ty C F:=rfl
@[go_sem] theorem ZbK {t:TypeId} {parts:Array (Nat × Operand)}:Ep P T (.build t parts) ty C F=VW P T 0 #[] (.build t parts) ty C F:=rfl
@[go_sem] theorem Zdv {c:Call}:Ep P T (.call c) ty C F=VW P T 0 #[] (.call c) ty C F:=rfl
end
def Xe {β:Type}:List (Int × β)→Int→Option β
 | [],_=>none
 | (a,v) :: r,k=>if a=k then some v else Xe r k
def ins {β:Type}:List (Int × β)→Int→β→List (Int × β)
 | [],k,v=>[(k,v)]
 | (a,x) :: r,k,v=>if a=k then (a,v) :: r else (a,x) :: ins r k v
def Ul {β γ:Type} (f:β→γ) (l:List (Int × β)):List (Int × γ):=l.map fun x=>(x.1,f x.2)
theorem Xh {β γ:Type} (f:β→γ):∀(l:List (Int × β)) (k:Int),Xe (Ul f l) k=(Xe l k).map f:=by
 intro l k
 induction l with
 | nil=>rfl
 | cons x l ih=>
  obtain⟨a,v⟩:=x
  show (if a=k then some (f v) else Xe (Ul f l) k)=Option.map f (if a=k then some v else Xe l k)
  rw[ih]
  split<;>rfl
theorem TQ {β γ:Type} (f:β→γ):∀(l:List (Int × β)) (k:Int) (v:β),Ul f (ins l k v)=ins (Ul f l) k (f v):=by
 intro l k v
 induction l with
 | nil=>rfl
 | cons x l ih=>
  obtain⟨a,u⟩:=x
  show Ul f (if a=k then (a,v) :: l else (a,u) :: ins l k v)=if a=k then (a,f v) :: Ul f l else (a,f u) :: ins (Ul f l) k (f v)
  split
  ·rfl
  ·rw[←ih];rfl
theorem No {β γ:Type} (f:β→γ) (l:List (Int × β)):(Ul f l).length=l.length:=List.length_map ..
theorem Rx {β:Type}:∀(l:List (Int × β)) (k:Int) (v:β),(ins l k v).length=if (Xe l k).isSome=true then l.length else l.length+1:=by
 intro l k v
 induction l with
 | nil=>rfl
 | cons x l ih=>
  obtain⟨a,u⟩:=x
  unfold ins Xe
  by_cases h:a=k
  ·rw[if_pos h,if_pos h];rfl
  ·rw[if_neg h,if_neg h,List.length_cons,ih,List.length_cons]
   split<;>rfl
theorem bO {β:Type}:∀(l:List (Int × β)) (k j:Int) (v:β),Xe (ins l k v) j=if k=j then some v else Xe l j:=by
 intro l k j v
 induction l with
 | nil=>rfl
 | cons x l ih=>
  obtain⟨a,u⟩:=x
  unfold ins
  by_cases h:a=k
  ·subst h
   rw[if_pos rfl]
   unfold Xe
   by_cases hj:a=j
   ·rw[if_pos hj,if_pos hj]
   ·rw[if_neg hj,if_neg hj,if_neg hj]
  ·rw[if_neg h]
   show (if a=j then some u else Xe (ins l k v) j)=if k=j then some v else if a=j then some u else Xe l j
   rw[ih]
   by_cases hj:a=j
   ·rw[if_pos hj,if_pos hj,if_neg (fun e=>h (hj.trans e.symm))]
   ·rw[if_neg hj,if_neg hj]
theorem MG {β:Type} {l:List (Int × β)} {k:Int} {v:β} (h:Xe l k=some v):(k,v)∈l:=by
 induction l with
 | nil=>cases h
 | cons y l ih=>
  obtain⟨a,u⟩:=y
  unfold Xe at h
  split at h
  ·rename_i he
   cases h;subst he;exact List.mem_cons_self
  ·exact List.mem_cons_of_mem _ (ih h)
section
variable {P:Program} {T:World} {ty:TypeId} {F:Env} {h:Hp} {K:Value→Hp→Prop}
def JN:Nat→List (Int × Value)→List MapEntry
 | _,[]=>[]
 | i,(k,v) :: l=>⟨.int .i64 k,v,i⟩ :: JN (i+1) l
def Xi (l:List (Int × Value)):Obj:=.map (JN 0 l).toArray l.length
theorem UC:∀(l:List (Int × Value)) (i:Nat),(JN i l).length=l.length:=by
 intro l
 induction l with
 | nil=>intro i;rfl
 | cons x l ih=>intro i;obtain⟨k,v⟩:=x;simp[JN,ih]
def OB (l:List (Int × Value)) (k:Int):Nat→Option (Nat × Value):=fun j=>match l with
 | []=>none
 | (a,v) :: r=>if k=a then some (j,v) else OB r k (j+1)
theorem Er (k:Int):∀(l:List (Int × Value)) (i j:Nat),Instr.findNow (.int .i64) (.int .i64 k) (JN i l) j=some (OB l k j):=by
 intro l
 induction l with
 | nil=>intro i j;rfl
 | cons x l ih=>
  intro i j
  obtain⟨a,v⟩:=x
  unfold JN Instr.findNow OB
  simp only[Instr.sameNow,if_true]
  by_cases hk:k=a
  ·subst hk;simp
  ·rw[if_neg hk]
   have:(k == a)=false:=by simpa using hk
   rw[this]
   exact ih _ _
theorem lK (k:Int):∀(l:List (Int × Value)) (j:Nat),(OB l k j).map (·.2)=Xe l k:=by
 intro l
 induction l with
 | nil=>intro j;rfl
 | cons x l ih=>
  intro j
  obtain⟨a,v⟩:=x
  unfold OB Xe
  by_cases hk:k=a
  ·rw[if_pos hk,if_pos hk.symm];rfl
  ·rw[if_neg hk,if_neg (fun e=>hk e.symm)];exact ih _
theorem fv {k:Int}:∀{l:List (Int × Value)} {j:Nat},OB l k j=none→∀(v:Value),ins l k v=l++[(k,v)]:=by
 intro l
 induction l with
 | nil=>intro j _ v;rfl
 | cons x l ih=>
  intro j h v
  obtain⟨a,u⟩:=x
  unfold OB at h
  split at h
  ·cases h
  ·rename_i hk
   unfold ins
   rw[if_neg (fun e=>hk e.symm),ih h v];rfl
theorem BL (k:Int) (v:Value):∀(l:List (Int × Value)) (i:Nat),JN i (l++[(k,v)])=JN i l++[⟨.int .i64 k,v,i+l.length⟩]:=by
 intro l
 induction l with
 | nil=>intro i;rfl
 | cons x l ih=>intro i;obtain⟨a,u⟩:=x;simp only[List.cons_append,JN,ih,List.length_cons];congr 4;omega
theorem fw {k:Int}:∀{l:List (Int × Value)} {i j:Nat} {n:Nat} {u:Value},OB l k j=some (n,u)→∃m,n=m+j∧m<l.length∧(JN i l)[m]? = some ⟨.int .i64 k,u,i+m⟩∧∀v,JN i (ins l k v)=(JN i l).set m ⟨.int .i64 k,v,i+m⟩:=by
 intro l
 induction l with
 | nil=>intro i j n u h;cases h
 | cons x l ih=>
  intro i j n u h
  obtain⟨a,w⟩:=x
  unfold OB at h
  by_cases hk:k=a
  ·subst hk
   rw[if_pos rfl]at h
   cases h
   exact⟨0,by omega,by simp,rfl,fun v=>by unfold ins;rw[if_pos rfl];rfl⟩
  ·rw[if_neg hk]at h
   obtain⟨m,h1,h2,h3,h4⟩:=ih (i:=i+1) h
   refine⟨m+1,by omega,by simpa using h2,?_,fun v=>?_⟩
   ·simp only[JN,List.getElem?_cons_succ];rw[h3];congr 2;omega
   ·unfold ins
    rw[if_neg (fun e=>hk e.symm)]
    simp only[JN,List.set_cons_succ,h4];congr 3;omega
def Np (P:Program) (t:TypeId) (m k x:Value) (K:Value→Hp→Prop) (h:Hp):Prop:=hw P (Instr.mapUpdate t m k x) (fun _ h=>K undef h) h
@[go_sem] theorem Iv {t:TypeId} {m k x:Operand}:Wo P T (.mapUpdate t m k x) ty K F h=Np P t (ev F m) (ev F k) (ev F x) K h:=by
 show hw P (do let _ ←Instr.mapUpdate t (ev F m) (ev F k) (ev F x);pure Next.skip) (Xm P T K) h=_
 rw[Zf];rfl
@[go_sem] theorem BM {t:TypeId} {m k x:Operand}:Wo P T (.insert t m k x) ty K F h=Np P t (ev F m) (ev F k) (ev F x) K h:=by
 show hw P (do let _ ←Instr.mapUpdate t (ev F m) (ev F k) (ev F x);pure Next.skip) (Xm P T K) h=_
 rw[Zf];rfl
@[go_sem] theorem qo {t:TypeId} {m k x:Operand}:K0 P T ⟨none,.mapUpdate t m k x,ty, "", #[],none⟩ K F h=Np P t (ev F m) (ev F k) (ev F x) K h:=Iv
@[go_sem] theorem zm {t:TypeId} {m k x:Operand}:K0 P T ⟨none,.insert t m k x,ty, "", #[],none⟩ K F h=Np P t (ev F m) (ev F k) (ev F x) K h:=BM
def bP (P:Program) (t:TypeId):Option TypeId:=match P.underlying t with
 | some (.map k e)=>(match P.underlying k with|some (.int .i64)=>some e|_=>none)
 | _=>none
theorem PA {t e:TypeId} (h:bP P t=some e):∃k,P.underlying t=some (.map k e)∧P.underlying k=some (.int .i64):=by
 unfold bP at h
 split at h
 ·rename_i k e' hu
  split at h
  ·rename_i hk
   cases h
   exact⟨k,hu,hk⟩
  ·cases h
 ·cases h
def wM (P:Program) (t:TypeId):Option Value:=(P.info? t).bind (·.zero)
theorem Ry {k:TypeId} (hk:P.underlying k=some (.int .i64)) {b:Bool} {n:Int} {Q:Unit→Hp→Prop}:hw P (Instr.checkKey b 10000 k (.int .i64 n)) Q h=Q () h:=by
 show hw P (do
  match ←underlying k,(Value.int .i64 n) with
  | .interface _,.iface d x=>
   let info ←typeInfo d
   if !info.comparable then
    if b then runtimePanic (.unhashable d)
    runtimePanic (.error ("hash of unhashable type " ++ (←typeStr d)))
   Instr.checkKey b 9999 d x
  | .array len elem,.agg cs=>
   for i in [0:len] do Instr.checkKey b 9999 elem (←part elem cs (i*(←sizeOf elem)))
  | .struct fields,.agg cs=>
   for f in fields do
    if f.name ≠ "_" then Instr.checkKey b 9999 f.type (←part f.type cs f.offset)
  | .interface _,.nilIface=>pure ()
  | .interface _,_|.array _ _,_|.struct _,_=>stuck "map key: not a value of its type"
  | _,_=>pure ()) Q h=_
 rw[Zf,Zr hk]
 rfl
theorem TS {k:TypeId} (hk:P.underlying k=some (.int .i64)) {n:Int} {l:List (Int × Value)} {Q:Option (Nat × Value)→Hp→Prop}:hw P (Instr.findKey k (.int .i64 n) (JN 0 l)) Q h=Q (OB l n 0) h:=by
 unfold Instr.findKey
 rw[Zf,Zr hk]
 simp only[Er]
 rfl
theorem Yn {t e:TypeId} {z:Value} {b:Nat} {l:List (Int × Value)} {n:Int} {c:Bool} (ht:bP P t=some e) (hz:wM P e=some z) (hm:h[b]? = some (Xi l)) :
  Nn P t (.map (some b)) (.int .i64 n) c K h=K (if c=true then .tuple #[(Xe l n).getD z,.bool (Xe l n).isSome] else (Xe l n).getD z) h:=by
 obtain⟨k,hu,hk⟩:=PA ht
 unfold Nn Instr.lookup
 rw[Zf,Zr hu]
 simp only
 rw[Zf]
 apply propext
 rw[Rw hm]
 simp only
 rw[Zf,Zt,Zf,Ry hk,Zf,TS hk,←lK n l 0]
 cases OB l n 0 with
 | none=>
  simp only[Option.map_none,Option.getD_none,Option.isSome_none]
  rw[Zf]
  have FO:=fun {Q:Value→Hp→Prop}=>I7 (P:=P) (h:=h) (Q:=Q) hz
  rw[FO]
  cases c<;>exact Iff.rfl
 | some p=>cases c<;>exact Iff.rfl
@[go_sem] theorem Gv {t e:TypeId} {z:Value} {n:Int} {c:Bool} (ht:bP P t=some e) (hz:wM P e=some z) :
  Nn P t (.map none) (.int .i64 n) c K h=K (if c=true then .tuple #[z,.bool false] else z) h:=by
 obtain⟨k,hu,hk⟩:=PA ht
 unfold Nn Instr.lookup
 rw[Zf,Zr hu]
 simp only
 rw[Zf,Zt,Zf,Ry hk,Zf]
 have:=fun {Q:Option (Nat × Value)→Hp→Prop}=>TS (P:=P) (h:=h) (k:=k) hk (n:=n) (l:=[]) (Q:=Q)
 rw[show (#[]:Array MapEntry).toList=JN 0 [] from rfl,this]
 simp only[OB]
 rw[Zf]
 have FO:=fun {Q:Value→Hp→Prop}=>I7 (P:=P) (h:=h) (Q:=Q) hz
 rw[FO]
 cases c<;>rfl
theorem XN {t e:TypeId} {b:Nat} {l:List (Int × Value)} {n:Int} {x:Value} (ht:bP P t=some e) (hm:h[b]? = some (Xi l)) :
  Np P t (.map (some b)) (.int .i64 n) x K h=K undef (h.setIfInBounds b (Xi (ins l n x))):=by
 obtain⟨k,hu,hk⟩:=PA ht
 unfold Np Instr.mapUpdate
 rw[Zf,Zr hu]
 simp only
 rw[Zf]
 apply propext
 rw[Rw hm]
 simp only
 rw[Zf,Ry hk,Zf]
 show hw P (Instr.findKey k (.int .i64 n) (JN 0 l)) _ h↔_
 rw[TS hk]
 have st:∀(es:Array MapEntry) (c:Nat) (Q:Unit→Hp→Prop),hw P (setObj b (.map es c)) Q h↔Q () (h.setIfInBounds b (.map es c)):=fun es c Q=>
  ⟨fun H=>H.2,fun H=>⟨⟨_,hm,rfl⟩,H⟩⟩
 cases hp:OB l n 0 with
 | none=>
  simp only
  rw[st]
  have e1:(Obj.map ((JN 0 l).toArray.push ⟨.int .i64 n,x,l.length⟩) (l.length+1))=Xi (ins l n x):=by
   rw[fv hp x]
   unfold Xi
   rw[BL,List.push_toArray,List.length_append,Nat.zero_add];rfl
  rw[e1]
 | some p=>
  obtain⟨i,u⟩:=p
  obtain⟨m,h1,h2,h3,h4⟩:=fw (i:=0) hp
  obtain rfl:i=m:=by omega
  simp only
  rw[Zf]
  have e0:(((JN 0 l).toArray[i]?).map (·.key)).getD (.int .i64 n)=.int .i64 n:=by
   rw[List.getElem?_toArray,h3];rfl
  have e2:∀(Q:Value→Hp→Prop),hw P (Instr.keyThatStays (.int .i64 n) (.int .i64 n)) Q h=Q (.int .i64 n) h:=fun Q=>by
   unfold Instr.keyThatStays
   have:Instr.sameBits 10000 (.int .i64 n) (.int .i64 n)=true:=by simp[Instr.sameBits]
   rw[if_pos this];rfl
  rw[e0,e2,st]
  have e1:(Obj.map ((JN 0 l).toArray.modify i fun e=>{ e with key:=.int .i64 n,val:=x }) l.length)=Xi (ins l n x):=by
   unfold Xi
   rw[h4 x,Nat.zero_add]
   have hlen:(ins l n x).length=l.length:=by
    have e5:(JN 0 (ins l n x)).length=(JN 0 l).length:=by rw[h4 x];simp
    rw[UC,UC]at e5;exact e5
   rw[hlen]
   congr 1
   apply Array.ext_getElem?
   intro j
   rw[Array.getElem?_modify,List.getElem?_toArray,List.getElem?_toArray,List.getElem?_set]
   by_cases hj:i=j
   ·subst hj
    rw[if_pos rfl,if_pos rfl,h3,if_pos (by rw[UC];exact h2)]
    rw[Nat.zero_add];rfl
   ·rw[if_neg hj,if_neg hj]
  rw[e1]
theorem VX {cs:Array Bool} {t e:TypeId} {b:Nat} {l:List (Int × Value)} (ht:bP P t=some e) (hm:h[b]? = some (Xi l)):Sq P T .len #[t] ty cs [.map (some b)] K h=K (.int .i64 l.length) h:=by
 obtain⟨k,hu,hk⟩:=PA ht
 show hw P (do pure (.value (←Builtin.len_ #[t] ty #[.map (some b)]))) (Xm P T K) h=_
 rw[Zf]
 show hw P (do
  match ←underlying t,(Value.map (some b)) with
  | .string,.string s=>pure (goInt s.size)
  | .array n _,_=>pure (goInt n)
  | .pointer arr,_=>
   let .array n _ ←underlying arr|stuck "len: pointer to array expected"
   pure (goInt n)
  | .slice _,.slice _ n _=>pure (goInt n)
  | .map _ _,.map none|.chan _ _,.chan none=>pure (goInt 0)
  | .map _ _,.map (some r)=>
   let .map entries _ ←getObj r|stuck "len: map expected"
   pure (goInt entries.size)
  | .chan _ _,.chan (some r)=>
   let .chan _ buf _ _ _ timer ←getObj r|stuck "len: channel expected"
   pure (goInt (if timer then 0 else buf.size))
  | _,_=>stuck "len: string, array, pointer to array, slice, map or channel expected") K h=_
 rw[Zf,Zr hu]
 simp only
 rw[Zf]
 apply propext
 rw[Rw hm]
 simp only[List.size_toArray,UC]
 exact Iff.rfl
def tkp (P:Program) (t:TypeId):Bool:=match P.underlying t with|some (.pointer _)=>true|_=>false
def tkm (P:Program) (t:TypeId):Bool:=match P.underlying t with|some (.map _ _)=>true|_=>false
def sI (P:Program) (t:TypeId):Bool:=match P.underlying t with|some (.func _ _ _)=>true|_=>false
theorem lL {t:TypeId} (h:tkp P t=true):∃e,P.underlying t=some (.pointer e):=by
 unfold tkp at h;split at h
 ·exact⟨_,by assumption⟩
 ·cases h
theorem lP {t:TypeId} (h:tkm P t=true):∃k e,P.underlying t=some (.map k e):=by
 unfold tkm at h;split at h
 ·exact⟨_,_,by assumption⟩
 ·cases h
theorem Es {t:TypeId} (h:sI P t=true):∃a b c,P.underlying t=some (.func a b c):=by
 unfold sI at h;split at h
 ·exact⟨_,_,_,by assumption⟩
 ·cases h
theorem Lt {t:TypeId} (ht:tkp P t=true) {a:Option Addr} {Q:Bool→Hp→Prop}:hw P (Op.equal t (.pointer a) (.pointer none)) Q h=Q a.isNone h:=by
 obtain⟨e,hu⟩:=lL ht
 unfold Op.equal Op.maxDepth Op.equalIn
 rw[Zf,Zr hu]
 cases a<;>rfl
theorem run_eq_map {t:TypeId} (ht:tkm P t=true) {a:Option Nat} {Q:Bool→Hp→Prop}:hw P (Op.equal t (.map a) (.map none)) Q h=Q a.isNone h:=by
 obtain⟨k,e,hu⟩:=lP ht
 unfold Op.equal Op.maxDepth Op.equalIn
 rw[Zf,Zr hu]
 cases a<;>rfl
theorem I9 {t:TypeId} (ht:sI P t=true) {f:Fn} {x y:Array Value} {Q:Bool→Hp→Prop}:hw P (Op.equal t (.func f x y) .nilFunc) Q h=Q false h:=by
 obtain⟨a,b,c,hu⟩:=Es ht
 unfold Op.equal Op.maxDepth Op.equalIn
 rw[Zf,Zr hu]
 rfl
theorem Ha {t:TypeId} (ht:sI P t=true) {Q:Bool→Hp→Prop}:hw P (Op.equal t .nilFunc .nilFunc) Q h=Q true h:=by
 obtain⟨a,b,c,hu⟩:=Es ht
 unfold Op.equal Op.maxDepth Op.equalIn
 rw[Zf,Zr hu]
 rfl
theorem Gw {t:TypeId} {x y:Operand} {a b:Value} {r:Bool} (hg:∀{Q:Unit→Hp→Prop},hw P (eqGuard .eql t x y a b) Q h=Q () h) (hb:binOp .eql t a b=do pure (.bool (←Op.equal t a b))) (he:∀{Q:Bool→Hp→Prop},hw P (Op.equal t a b) Q h=Q r h):YW P .eql t x y a b K h=K (.bool r) h:=by
 unfold YW
 rw[Zf,hg,hb,Zf,he];rfl
theorem BN {t:TypeId} {x y:Operand} {a b:Value} {r:Bool} (hg:∀{Q:Unit→Hp→Prop},hw P (eqGuard .neq t x y a b) Q h=Q () h) (hb:binOp .neq t a b=do pure (.bool (!(←Op.equal t a b)))) (he:∀{Q:Bool→Hp→Prop},hw P (Op.equal t a b) Q h=Q r h):YW P .neq t x y a b K h=K (.bool (!r)) h:=by
 unfold YW
 rw[Zf,hg,hb,Zf,he];rfl
@[go_sem] theorem wP {t:TypeId} {x y:Operand} {a:Option Addr} (ht:tkp P t=true):YW P .eql t x y (.pointer a) (.pointer none) K h=K (.bool a.isNone) h:=Gw rfl rfl (Lt ht)
@[go_sem] theorem wU {t:TypeId} {x y:Operand} {a:Option Addr} (ht:tkp P t=true):YW P .neq t x y (.pointer a) (.pointer none) K h=K (.bool (!a.isNone)) h:=BN rfl rfl (Lt ht)
@[go_sem] theorem wX {t:TypeId} {x y:Operand} {a:Option Nat} (ht:tkm P t=true):YW P .eql t x y (.map a) (.map none) K h=K (.bool a.isNone) h:=Gw rfl rfl (run_eq_map ht)
@[go_sem] theorem zn {t:TypeId} {x y:Operand} {f:Fn} {u v:Array Value} (ht:sI P t=true):YW P .eql t x y (.func f u v) .nilFunc K h=K (.bool false) h:=Gw rfl rfl (I9 ht)
@[go_sem] theorem zo {t:TypeId} {x y:Operand} (ht:sI P t=true):YW P .eql t x y .nilFunc .nilFunc K h=K (.bool true) h:=Gw rfl rfl (Ha ht)
@[go_sem] theorem zp {t:TypeId} {x y:Operand} {f:Fn} {u v:Array Value} (ht:sI P t=true):YW P .neq t x y (.func f u v) .nilFunc K h=K (.bool true) h:=BN rfl rfl (I9 ht)
@[go_sem] theorem zq {t:TypeId} {x y:Operand} (ht:sI P t=true):YW P .neq t x y .nilFunc .nilFunc K h=K (.bool false) h:=BN rfl rfl (Ha ht)
end
inductive Et {α β:Type} (R:α→β→Prop):List α→List β→Prop
 | nil:Et R [] []
 | cons {a:α} {b:β} {l:List α} {k:List β}:R a b→Et R l k→Et R (a :: l) (b :: k)
section
variable {τ:Type}
structure Kp (S:τ→Prop) (o:Nat→Option τ) (h:Hp) (o':Nat→Option τ) (h':Hp):Prop where
 size:h.size≤h'.size
 Zc:∀b,b<h.size→(∀t,o b=some t→¬S t)→h'[b]? = h[b]? ∧ o' b=o b
 stay:∀b,b<h.size→∀t,o b=some t→S t→∃t',o' b=some t'∧S t'
 new:∀b,h.size≤b→∀t,o' b=some t→S t
 ZV:∀b,h'.size≤b→o' b=none
variable {S S':τ→Prop} {o o' o'':Nat→Option τ} {h h' On:Hp}
def Ug (o:Nat→Option τ) (h:Hp):Prop:=∀b,h.size≤b→o b=none
theorem Kp.refl (d:Ug o h) (S:τ→Prop):Kp S o h o h:=
 ⟨Nat.le_refl _,fun _ _ _=>⟨rfl,rfl⟩,fun _ _ t ht hs=>⟨t,ht,hs⟩,fun b hb t ht=>(by rw[d b hb]at ht;cases ht),d⟩
theorem Kp.mono (k:Kp S o h o' h') (hs:∀t,S t→S' t):Kp S' o h o' h':=
 ⟨k.size,fun b hb hn=>k.Zc b hb fun t ht q=>hn t ht (hs t q),fun b hb t ht q=>by
  by_cases p:S t
  ·obtain⟨t',h1,h2⟩:=k.stay b hb t ht p;exact⟨t',h1,hs _ h2⟩
  ·exact⟨t,by rw[(k.Zc b hb fun u hu=>by rw[ht]at hu;cases hu;exact p).2,ht],q⟩,fun b hb t ht=>hs _ (k.new b hb t ht),k.ZV⟩
theorem Kp.trans (k:Kp S o h o' h') (l:Kp S o' h' o'' On):Kp S o h o'' On:=by
 refine⟨Nat.le_trans k.size l.size,fun b hb hn=>?_,fun b hb t ht hs=>?_,fun b hb t ht=>?_,l.ZV⟩
 ·obtain⟨h1,h2⟩:=k.Zc b hb hn
  obtain⟨h3,h4⟩:=l.Zc b (Nat.lt_of_lt_of_le hb k.size) fun t ht=>hn t (by rw[←h2];exact ht)
  exact⟨h3.trans h1,h4.trans h2⟩
 ·obtain⟨t',h1,h2⟩:=k.stay b hb t ht hs
  exact l.stay b (Nat.lt_of_lt_of_le hb k.size) t' h1 h2
 ·by_cases X3:h'.size≤b
  ·exact l.new b X3 t ht
  ·have ZA:b<h'.size:=by omega
   cases ho:o' b with
   | none=>
    have:=(l.Zc b ZA fun u hu=>by rw[ho]at hu;cases hu).2
    rw[this,ho]at ht;cases ht
   | some t1=>
    obtain⟨t2,h1,h2⟩:=l.stay b ZA t1 ho (k.new b hb t1 ho)
    rw[h1]at ht;cases ht;exact h2
theorem Kp.get (k:Kp S o h o' h') {b:Nat} {x:Obj} (hx:h[b]? = some x) (hn:∀t,o b=some t→¬S t):h'[b]? = some x:=by
 rw[(k.Zc b (Za hx) hn).1,hx]
theorem Kp.own (k:Kp S o h o' h') {b:Nat} {x:Obj} (hx:h[b]? = some x) (hn:∀t,o b=some t→¬S t):o' b=o b:=(k.Zc b (Za hx) hn).2
theorem Kp.free (k:Kp S o h o' h') {b:Nat} {x:Obj} (hx:h[b]? = some x) (hn:o b=none):h'[b]? = some x∧o' b=none:=by
 have S4:∀t,o b=some t→¬S t:=fun t ht=>by rw[hn]at ht;cases ht
 exact⟨k.get hx S4,(k.own hx S4).trans hn⟩
theorem Kp.Lu (d:Ug o h) (b:Ze h.size h h') (S:τ→Prop):Kp S o h o h':=
 ⟨b.size,fun k hk _=>⟨b.block k hk,rfl⟩,fun _ _ t ht hs=>⟨t,ht,hs⟩,fun k hk t ht=>(by rw[d k hk]at ht;cases ht),fun k hk=>d k (Nat.le_trans b.size hk)⟩
theorem Kp.Z4 (k:Kp S o h o' h') (b:Ze h'.size h' On):Kp S o h o' On:=k.trans (Kp.Lu k.ZV b S)
theorem Kp.push (k:Kp S o h o' h') (x:Obj):Kp S o h o' (h'.push x):=k.Z4 ((Ze.refl _ _).add x)
theorem Kp.set (k:Kp S o h o' h') {b:Nat} {t:τ} (hb:o' b=some t) (hs:S t) (x:Obj):Kp S o h o' (h'.setIfInBounds b x):=by
 refine k.trans ⟨by rw[Array.size_setIfInBounds];exact Nat.le_refl _,fun c hc hn=>⟨?_,rfl⟩,fun _ _ t ht hs=>⟨t,ht,hs⟩,fun c hc t ht=>(by rw[k.ZV c hc]at ht;cases ht),fun c hc=>k.ZV c (by rw[Array.size_setIfInBounds]at hc;exact hc)⟩
 rw[Array.getElem?_setIfInBounds,if_neg (fun e=>hn t (by rw[←e];exact hb) hs)]
theorem Kp.BO (k:Kp S o h o' h') {b:Nat} (hb:h.size≤b) (x:Obj):Kp S o h o' (h'.setIfInBounds b x):=by
 refine⟨by rw[Array.size_setIfInBounds];exact k.size,fun c hc hn=>⟨?_,(k.Zc c hc hn).2⟩,k.stay,k.new,fun c hc=>k.ZV c (by rw[Array.size_setIfInBounds]at hc;exact hc)⟩
 rw[Array.getElem?_setIfInBounds,if_neg (fun e=>by omega)]
 exact (k.Zc c hc hn).1
def Jt (o:Nat→Option τ) (b:Nat) (t:τ):Nat→Option τ:=fun c=>if c=b then some t else o c
theorem YV {b:Nat} {t:τ}:Jt o b t b=some t:=if_pos rfl
theorem Y0 {b c:Nat} {t:τ} (hc:c≠b):Jt o b t c=o c:=if_neg hc
theorem Kp.TT (k:Kp S o h o' h') {b:Nat} {t:τ} (hb:h.size≤b) (ZA:b<h'.size) (hs:S t):Kp S o h (Jt o' b t) h':=
 ⟨k.size,fun c hc hn=>⟨(k.Zc c hc hn).1,by rw[Y0 (by omega)];exact (k.Zc c hc hn).2⟩,fun c hc u hu hsu=>by rw[Y0 (by omega)];exact k.stay c hc u hu hsu,
  fun c hc u hu=>by
  by_cases H5:c=b
  ·subst H5;rw[YV]at hu;cases hu;exact hs
  ·rw[Y0 H5]at hu;exact k.new c hc u hu,
  fun c hc=>by rw[Y0 (by omega)];exact k.ZV c hc⟩
def Ys (o:Nat→Option τ) (t:τ) (E:TypeId) (n:Nat) (h:Hp) (v:Value) (m:Nat) (cs:List Value):Prop:=
 ((∃p,v=.slice p 0 0)∧m=0∧cs=[]) ∨
 ∃b k cap pre spare,o b=some t∧v=.slice (some ⟨b,k,none⟩) m cap∧h[b]? = some (.cells (pre++(cs++spare)).toArray E (0,0))∧pre.length=k∧cs.length=m*n∧spare.length=(cap-m)*n∧m≤cap
variable {t:τ} {E:TypeId} {n m:Nat} {v:Value} {cs:List Value}
theorem Ys.nil (o:Nat→Option τ) (t:τ) (E:TypeId) (n:Nat) (h:Hp):Ys o t E n h (.slice none 0 0) 0 []:=.inl ⟨⟨_,rfl⟩,rfl,rfl⟩
theorem Ys.Zc (s:Ys o t E n h v m cs) (k:Kp S o h o' h') (hn:¬S t):Ys o' t E n h' v m cs:=by
 rcases s with s|⟨b,j,cap,pre,spare,h1,h2,h3,h4,h5,h6,h7⟩
 ·exact .inl s
 ·have S4:∀u,o b=some u→¬S u:=fun u hu=>by rw[h1]at hu;cases hu;exact hn
  exact .inr ⟨b,j,cap,pre,spare,by rw[k.own h3 S4,h1],h2,k.get h3 S4,h4,h5,h6,h7⟩
theorem Ys.sl (s:Ys o t E n h v m cs):Sl n h v m cs:=by
 rcases s with⟨⟨p,rfl⟩,rfl,rfl⟩|⟨b,j,cap,pre,spare,h1,rfl,h3,h4,h5,h6,h7⟩
 ·exact⟨p,0,rfl,by simp,fun Yr=>absurd rfl Yr⟩
 ·exact UM h3 h5 h4.symm
theorem Ys.length (s:Ys o t E n h v m cs):cs.length=m*n:=by
 rcases s with⟨_,rfl,rfl⟩|⟨b,j,cap,pre,spare,h1,h2,h3,h4,h5,h6,h7⟩
 ·simp
 ·exact h5
theorem Ys.isSlice (s:Ys o t E n h v m cs):∃p c,v=.slice p m c∧m≤c:=by
 rcases s with⟨⟨p,rfl⟩,rfl,rfl⟩|⟨b,j,cap,pre,spare,h1,rfl,h3,h4,h5,h6,h7⟩
 ·exact⟨p,0,rfl,Nat.le_refl _⟩
 ·exact⟨_,cap,rfl,h7⟩
theorem Ys.tail {p:Option Addr} {c:Nat} (s:Ys o t E n h (.slice p m c) m cs) {k:Nat} (hk:k≤m):Ys o t E n h (.slice (if c=k then p else p.map (·.add (k*n))) (m-k) (c-k)) (m-k) (cs.drop (k*n)):=by
 rcases s with⟨⟨q,h1⟩,h2,h3⟩|⟨b,j,cap,pre,spare,h1,h2,h3,h4,h5,h6,h7⟩
 ·simp only[Value.slice.injEq]at h1
  obtain⟨rfl,rfl,rfl⟩:=h1
  have e:k=0:=by omega
  subst e
  subst h3
  exact .inl ⟨⟨_,rfl⟩,rfl,by simp⟩
 ·simp only[Value.slice.injEq]at h2
  obtain⟨rfl,_,rfl⟩:=h2
  have hmn:k*n≤m*n:=Nat.mul_le_mul_right _ hk
  by_cases hc:c=k
  ·have hm:m=k:=by omega
   rw[if_pos hc]
   refine .inl ⟨⟨some ⟨b,j,none⟩,by rw[hc,hm,Nat.sub_self]⟩,by omega,?_⟩
   exact List.drop_eq_nil_of_le (by rw[h5,hm];exact Nat.le_refl _)
  ·rw[if_neg hc]
   refine .inr ⟨b,j+k*n,c-k,pre++cs.take (k*n),spare,h1,by rw[Option.map_some,YQ],?_,?_,?_,?_,by omega⟩
   ·rw[List.append_assoc,←List.append_assoc (List.take _ _),List.take_append_drop];exact h3
   ·rw[List.length_append,List.length_take,h4,h5];omega
   ·rw[List.length_drop,h5,Nat.sub_mul]
   ·rw[h6];congr 1;omega
variable {P:Program} {T:World} {K:Value→Hp→Prop} {F:Env} {ty:TypeId}
theorem Eu {a b c vs:List Value} {i:Nat} (hi:i=a.length+b.length) (hv:vs.length≤c.length):Yl (a++(b++c)) i vs=a++((b++vs)++c.drop vs.length):=by
 subst hi
 have e1:a++(b++c)=(a++b)++c:=by rw[List.append_assoc]
 rw[e1,←List.length_append,UR,Qa _ _ hv]
 simp
theorem XW {sT xT E' k bytes:Nat} {s:Value} {news zs:List Value} {cb:Array Bool} (Uz:Jf P sT=some E) (Gc:P.underlying xT=some (.slice E')) (hn:tn P E=some n) (hz:tz P E=some zs) (Bu:zs.length=n) (St:tb P E=some bytes)
  (own:Ys o t E n h v m cs) (d:Ug o h) (src:Sl n h s k news) (Xd:news.all Z5=true) (Ym:(m+k)*bytes≤140737488355328) (Iq:1≤bytes)
  (H:∀v' o' h',Ys o' t E n h' v' (m+k) (cs++news)→Kp (fun u=>u=t) o h o' h'→(∀b,b<h.size→o' b=o b)→K v' h'):Sq P T .append #[sT,xT] ty cb [v,s] K h:=by
 unfold Jf at Uz
 split at Uz
 ·rename_i e' hu
  simp only[Option.some.injEq]at Uz
  subst Uz
  show hw P (do pure (.value (←Builtin.append_ #[sT,xT] ty #[v,s]))) (Xm P T K) h
  rw[Zf]
  show hw P (Builtin.append_ #[sT,xT] ty #[v,s]) K h
  obtain⟨i0,TC⟩:∃i,P.info? e'=some i:=by
   unfold tn at hn
   cases hi:P.info? e' with
   | none=>rw[hi]at hn;cases hn
   | some i=>exact⟨i,rfl⟩
  have Rp:i0.bytes=bytes:=by unfold tb at St;rw[TC]at St;simpa using St
  obtain⟨z0,FC,Bv⟩:∃z,i0.zero=some z∧z.cells.toList=zs:=by
   unfold tz at hz;rw[TC]at hz
   cases MD:i0.zero with
   | none=>rw[Option.bind_some,MD]at hz;cases hz
   | some z=>rw[Option.bind_some,MD]at hz;exact⟨z,rfl,by simpa using hz⟩
  obtain⟨base,cap,hv,bF⟩:=own.isSlice
  subst hv
  have fb:∀{Q:Value→Hp→Prop} (g:Hp),hw P (zeroValue e') Q g=Q z0 g:=fun {Q} g=>by
   unfold zeroValue;rw[Zf,Y1 TC];simp only[FC];rfl
  have Qq:news.length=k*n:=by obtain⟨_,_,_,hl,_⟩:=src;exact hl
  simp only[Builtin.append_,List.getElem?_toArray,List.getElem?_cons_zero,List.getElem?_cons_succ,Zf,Zt,Zr hu,Zr Gc,run_sizeOf hn,Bool.false_eq_true,if_false,src.lenOf,Bool.not_false,if_true]
  by_cases Xr:m+k≤cap
  ·rw[if_pos Xr,Zf]
   refine Z3 src ?_
   rcases own with⟨⟨p,h1⟩,h2,h3⟩|⟨b,j,Li,pre,spare,h1,h2,h3,h4,h5,h6,h7⟩
   ·simp only[Value.slice.injEq]at h1
    obtain⟨rfl,rfl,rfl⟩:=h1
    have hk:k=0:=by omega
    subst hk;subst h3
    have Yr:news=[]:=List.eq_nil_of_length_eq_zero (by simpa using Qq)
    subst Yr
    have hK:K (.slice base (0+0) 0) h:=H _ o h (.inl ⟨⟨_,rfl⟩,rfl,rfl⟩) (Kp.refl d _) (fun _ _=>rfl)
    cases base<;>exact hK
   ·simp only[Value.slice.injEq]at h2
    obtain⟨rfl,_,rfl⟩:=h2
    simp only[Zf,YQ]
    have VU:news.length≤spare.length:=by rw[Qq,h6];exact Nat.mul_le_mul_right _ (by omega)
    refine Yf (e:=e') (lo:=0) (hi:=0) rfl (Nat.le_refl _) news 0 h (pre++(cs++spare)).toArray h3 ?_ Xd ?_
    ·simp;rw[h4,←h5];omega
    ·simp only[Zt,Nat.add_zero]
     refine H _ o _ (.inr ⟨b,j,cap,pre,spare.drop news.length,h1,rfl,?_,h4,?_,?_,Xr⟩) ((Kp.refl d (fun u=>u=t)).set h1 rfl _) (fun _ _=>rfl)
     ·rw[Array.getElem?_setIfInBounds,if_pos rfl,if_pos (Za h3)]
      rw[Eu (by rw[h4,h5]) VU]
     ·rw[List.length_append,h5,Qq,Nat.add_mul]
     ·rw[List.length_drop,h6,Qq,←Nat.sub_mul];congr 1;omega
  ·rw[if_neg Xr]
   have Jg:¬Builtin.nextslicecap (m+k) cap*i0.bytes>2 ^ 48:=by
    rw[Rp]
    have:=US (m+k) cap bytes (by omega) Ym
    omega
   have Bw:¬i0.bytes=0:=by rw[Rp];omega
   simp only[Zf,Y1 TC,Bw,or_false,and_false,if_false,if_neg Jg]
   intro q
   obtain⟨c,hc⟩:=Zu (Question.cut (Question.appendCap (m+k) cap e') q)
   have kP:m+k≤c:=by rw[hc];simp only[Question.cut];omega
   rw[←hc]
   have Rq:∀{Q:Unit→Hp→Prop} (b:Nat) (g:Hp),Q () g→hw P (askRoom b) Q g:=fun {Q} b g q=>by
    unfold askRoom;split<;>exact q
   refine Rq _ _ (Z3 own.sl (Z3 src ?_))
   rw[fb]
   have kQ:z0.cells.size=n:=by rw[←Bu,←Bv];simp
   refine H (.slice (some ⟨h.size,0,none⟩) (m+k) c) (Jt o h.size t) _ (.inr ⟨h.size,0,c,[],(Builtin.zeroCells z0.cells (c-(m+k))).toList,YV,rfl,?_,rfl,?_,?_,kP⟩) (((Kp.refl d _).push _).TT (Nat.le_refl _) (by simp) rfl) (fun b hb=>Y0 (by omega))
   ·rw[Array.getElem?_push_size]
    simp
   ·rw[List.length_append,own.length,Qq,Nat.add_mul]
   ·rw[Array.length_toList,YA,kQ]
 ·cases Uz
theorem Lv {sT xT E' k b off cap:Nat} {s:Value} {pre spare news zs:List Value} {cb:Array Bool} (Uz:Jf P sT=some E) (Gc:P.underlying xT=some (.slice E')) (hn:tn P E=some n) (hz:tz P E=some zs)
  (hb:h[b]? = some (.cells (pre++(cs++spare)).toArray E (0,0))) (ho:off=pre.length) (hl:cs.length=m*n) (src:Sl n h s k news) (Xd:news.all Z5=true) (Xr:m+k≤cap) (Ym:k*n≤spare.length)
  (H:K (.slice (some ⟨b,off,none⟩) (m+k) cap) (h.setIfInBounds b (.cells (pre++((cs++news)++spare.drop (k*n))).toArray E (0,0)))):Sq P T .append #[sT,xT] ty cb [.slice (some ⟨b,off,none⟩) m cap,s] K h:=by
 unfold Jf at Uz
 split at Uz
 ·rename_i e' hu
  simp only[Option.some.injEq]at Uz
  subst Uz
  show hw P (do pure (.value (←Builtin.append_ #[sT,xT] ty #[.slice (some ⟨b,off,none⟩) m cap,s]))) (Xm P T K) h
  rw[Zf]
  show hw P (Builtin.append_ #[sT,xT] ty #[.slice (some ⟨b,off,none⟩) m cap,s]) K h
  obtain⟨i0,TC⟩:∃i,P.info? e'=some i:=by
   unfold tn at hn
   cases hi:P.info? e' with
   | none=>rw[hi]at hn;cases hn
   | some i=>exact⟨i,rfl⟩
  obtain⟨z0,FC,Bv⟩:∃z,i0.zero=some z∧z.cells.toList=zs:=by
   unfold tz at hz;rw[TC]at hz
   cases MD:i0.zero with
   | none=>rw[Option.bind_some,MD]at hz;cases hz
   | some z=>rw[Option.bind_some,MD]at hz;exact⟨z,rfl,by simpa using hz⟩
  have Qq:news.length=k*n:=by obtain⟨_,_,_,hl,_⟩:=src;exact hl
  simp only[Builtin.append_,List.getElem?_toArray,List.getElem?_cons_zero,List.getElem?_cons_succ,Zf,Zt,Zr hu,Zr Gc,run_sizeOf hn,Bool.false_eq_true,if_false,src.lenOf,Bool.not_false,if_true]
  rw[if_pos Xr,Zf]
  refine Z3 src ?_
  simp only[Zf,YQ]
  refine Yf (e:=e') (lo:=0) (hi:=0) rfl (Nat.le_refl _) news 0 h (pre++(cs++spare)).toArray hb ?_ Xd ?_
  ·simp;rw[ho,hl.symm];omega
  ·simp only[Zt,Nat.add_zero]
   have e:Yl (pre++(cs++spare)) (off+m*n) news=pre++((cs++news)++spare.drop (k*n)):=by
    rw[Eu (by rw[ho,hl]) (by omega),Qq]
   rw[e]
   exact H
 ·cases Uz
theorem OC {sT:TypeId} {zs:List Value} {cb:Array Bool} {b off k c:Nat} {pre wZ post:List Value} (Uz:Jf P sT=some E) (hz:tz P E=some zs) (Bu:zs.length=n) (Gx:zs.all Z5=true)
  (hb:h[b]? = some (.cells (pre++(wZ++post)).toArray E (0,0))) (ho:off=pre.length) (hl:wZ.length=k*n)
  (H:∀new:List Value,new.length=wZ.length→K (.tuple #[]) (h.setIfInBounds b (.cells (pre++(new++post)).toArray E (0,0)))):Sq P T .clear #[sT] ty cb [.slice (some ⟨b,off,none⟩) k c] K h:=by
 unfold Jf at Uz
 split at Uz
 ·rename_i e' hu
  simp only[Option.some.injEq]at Uz
  subst Uz
  show hw P (do pure (.value (←Builtin.clear_ #[sT] ty #[.slice (some ⟨b,off,none⟩) k c]))) (Xm P T K) h
  rw[Zf]
  show hw P (Builtin.clear_ #[sT] ty #[.slice (some ⟨b,off,none⟩) k c]) K h
  have same:h.setIfInBounds b (.cells (pre++(wZ++post)).toArray e' (0,0))=h:=by
   apply Array.ext_getElem?
   intro j
   rw[Array.getElem?_setIfInBounds]
   by_cases hj:b=j
   ·subst hj;rw[if_pos rfl,if_pos (Za hb),hb]
   ·rw[if_neg hj]
  show hw P (do
   match ←underlying sT,(Value.slice (some ⟨b,off,none⟩) k c) with
   | _,.map none|_,.slice none _ _|_,.slice _ 0 _=>pure ()
   | _,.map (some r)=>
    let .map _ clock ←getObj r|stuck "clear: map expected"
    setObj r (.map #[] clock)
   | .slice elem,.slice (some a) n _=>
    storeCells a (Builtin.zeroCells (←zeroValue elem).cells n).toList
   | _,_=>stuck "clear: map or slice expected"
   pure (.tuple #[])) K h
  rw[Zf,Zr hu]
  cases k with
  | zero=>
   have h0:wZ=[]:=List.eq_nil_of_length_eq_zero (by rw[hl];simp)
   subst h0
   have:=H [] rfl
   rw[same]at this
   exact this
  | succ k=>
   obtain⟨i0,TC⟩:∃i,P.info? e'=some i:=by
    unfold tz at hz
    cases hi:P.info? e' with
    | none=>rw[hi]at hz;cases hz
    | some i=>exact⟨i,rfl⟩
   obtain⟨z0,FC,Bv⟩:∃z,i0.zero=some z∧z.cells.toList=zs:=by
    unfold tz at hz;rw[TC]at hz
    cases MD:i0.zero with
    | none=>rw[Option.bind_some,MD]at hz;cases hz
    | some z=>rw[Option.bind_some,MD]at hz;exact⟨z,rfl,by simpa using hz⟩
   have fb:∀{Q:Value→Hp→Prop} (g:Hp),hw P (zeroValue e') Q g=Q z0 g:=fun {Q} g=>by
    unfold zeroValue;rw[Zf,Y1 TC];simp only[FC];rfl
   simp only[Zf]
   rw[fb]
   have kQ:z0.cells.size=n:=by rw[←Bu,←Bv];simp
   have CD:(Builtin.zeroCells z0.cells (k+1)).toList.length=wZ.length:=by rw[Array.length_toList,YA,kQ,hl]
   refine Yf (a:=⟨b,off,none⟩) (e:=e') (lo:=0) (hi:=0) rfl (Nat.le_refl _) _ 0 h (pre++(wZ++post)).toArray hb ?_ ?_ ?_
   ·simp only[List.size_toArray,List.length_append,CD];omega
   ·rw[List.all_eq_true]
    intro x hx
    have hx:x∈Builtin.zeroCells z0.cells (k+1):=by simpa using hx
    have Rz:x∈zs:=by
     rw[←Bv]
     unfold Builtin.zeroCells at hx
     rw[Array.mem_map]at hx
     obtain⟨i,hi,rfl⟩:=hx
     rw[Array.mem_range]at hi
     have M3:0<z0.cells.size:=by
      rcases Nat.eq_zero_or_pos z0.cells.size with q|q
      ·rw[q,Nat.mul_zero]at hi;omega
      ·exact q
     have ZA:i%z0.cells.size<z0.cells.size:=Nat.mod_lt _ M3
     rw[getElem!_pos z0.cells _ ZA]
     simp
    exact List.all_eq_true.1 Gx x Rz
   ·simp only[Nat.add_zero]
    have e1:Yl (pre++(wZ++post)).toArray.toList off (Builtin.zeroCells z0.cells (k+1)).toList=pre++((Builtin.zeroCells z0.cells (k+1)).toList++post):=Wt ho CD
    rw[e1]
    exact H _ CD
 ·cases Uz
end
end Go.V
