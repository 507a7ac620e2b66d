/- W22: maps whose keys are structs of plain cells, with an integer for each; entries are never struck. -/
import Derived.Test.YtkfhncfkagcamaaGreatDoorW21
namespace Go.V
set_option linter.unusedVariables false
set_option linter.unusedSimpArgs false
section
variable {P:Program} {T:World} {ty:TypeId} {F:Env} {h:Hp} {K:Value→Hp→Prop}
def O1 (P:Program) (t:TypeId) (m x:Value) (c:Bool) (K:Value→Hp→Prop) (h:Hp):Prop:=hw P (Instr.lookup t m x c) K h
def jR (P:Program) (t:TypeId) (K:Value→Hp→Prop) (h:Hp):Prop:=hw P (Instr.makeMap t none) K h
@[go_sem] theorem CN {t:TypeId} {m x:Operand} {c:Bool}:Wf P T (.lookup t m x c) ty K F h=O1 P t (ev F m) (ev F x) c K h:=by
 show hw P (do pure (Next.value (←Instr.lookup t (ev F m) (ev F x) c))) (Xp P T K) h=_
 rw[Zf];rfl
@[go_sem] theorem FF {t:TypeId}:Wf P T (.makeMap t none) ty K F h=jR P t K h:=by
 show hw P (do pure (Next.value (←Instr.makeMap t none))) (Xp P T K) h=_
 rw[Zf];rfl
@[go_sem] theorem wC {t:TypeId} {m x:Operand} {c:Bool}:Kw P T ⟨none,.lookup t m x c,ty, "", #[],none⟩ K F h=O1 P t (ev F m) (ev F x) c K h:=CN
@[go_sem] theorem uh {t:TypeId}:Kw P T ⟨none,.makeMap t none,ty, "", #[],none⟩ K F h=jR P t K h:=FF
@[go_sem] theorem ZbW {t:TypeId}:jR P t K h=K (.map (some h.size)) (h.push (.map #[] 0)):=rfl
variable {α:Type} [DecidableEq α] {enc:α→List Value}
theorem Ix {e:TypeId} {v:Value} (hz:(P.info? e).bind (·.zero)=some v) {Q:Value→Hp→Prop}:hw P (zeroValue e) Q h=Q v h:=by
 cases hi:P.info? e with
 | none=>rw[hi]at hz;cases hz
 | some i=>
  rw[hi]at hz
  unfold zeroValue
  rw[Zf,Y0 hi]
  have hz:i.zero=some v:=hz
  simp only[hz]
  rfl
theorem Rg {b:Nat} {es:Array MapEntry} {c:Nat} (hm:h[b]? = some (.map es c)) {Q:Obj→Hp→Prop}:hw P (getObj b) Q h↔Q (.map es c) h:=
 ⟨fun⟨o,h1,_,h2⟩=>(by rw[hm]at h1;cases h1;exact h2),fun H=>⟨_,hm,rfl,H⟩⟩
end
section
variable {P:Program} {n:Nat} {T:World} {N:Env→Hp→Prop} {X:Nat→Env→Hp→Prop} {R:Env→Hp→Prop} {F:Env} {h:Hp}
def Pb (P:Program) (T:World) (ops:Array Oper) (S:Hp→Prop) (W:List Nat) (N:Env→Hp→Prop):Nat→Array Bool→Env→Hp→Prop
 | 0,listed,F,h=>Region.ready .any ops listed=[]∧N F h
 | k+1,listed,F,h=>(Region.ready .any ops listed=[]→N F h) ∧
   ∀i∈Region.ready .any ops listed,JK P T ops i (fun F' h'=>(i∈W∨(S h→S h'))∧Pb P T ops S W N k (listed.setIfInBounds i true) F' h') F h
theorem KM {ops:Array Oper} {S:Hp→Prop} {W:List Nat}:∀(k:Nat) (listed:Array Bool) (F:Env) (h:Hp),Pb P T ops S W N k listed F h→DS P T ops (fun _=>True) N k listed F h:=by
 intro k
 induction k with
 | zero=>intro listed F h H;exact H
 | succ k ih=>intro listed F h H;exact⟨H.1,fun i hi=>XH (fun F' h' q=>⟨trivial,ih _ _ _ q.2⟩) (H.2 i hi)⟩
theorem Wl {ops:Array Oper} {S S1:Hp→Prop} {W:List Nat} {i:Nat} {oi:Oper} {v:Value} (hi:ops[i]? = some oi) (GY:∀(j:Nat) (o:Oper) cs b,ops[j]? = some o→o.op ≠ .select cs b)
  (hW:(∀h,S1 h)∨((∀h,S h→S1 h)∧∀j∈W,∃f,QY ops f j i=true)) :
  ∀(k:Nat) (listed:Array Bool) (F:Env) (h:Hp),Ja ops listed →
   (∀j oj,ops[j]? = some oj→j≠i→listed.getD j true=false→(∀e∈oj.after,Region.binds .any e=true→e.on≠i)→oi.apart ops oj=true) →
   i∈Region.ready .any ops listed→Qj P T ops S1 oi v F→((∀h,S1 h)∨S h) →
   Pb P T ops S W N k (listed.setIfInBounds i true) (Z2 F oi.dst v) h→Pb P T ops S W N (k+1) listed F h:=by
 intro k
 induction k with
 | zero=>
  intro listed F h _ _ hr hy hS H
  have hS1:S1 h:=hS.elim (fun q=>q h) (fun q=>hW.elim (fun p=>p h) (fun p=>p.1 h q))
  refine⟨fun h=>(by rw[h]at hr;cases hr),fun j hj=>?_⟩
  by_cases We:j=i
  ·subst We;exact hy.zT hi hS1 ⟨.inr id,H⟩
  ·have:=ready_mono hj We
   rw[H.1]at this
   cases this
 | succ k ih=>
  intro listed F h X0 OU hr hy hS H
  have hS1:S1 h:=hS.elim (fun q=>q h) (fun q=>hW.elim (fun p=>p h) (fun p=>p.1 h q))
  refine⟨fun h=>(by rw[h]at hr;cases hr),fun j hj=>?_⟩
  by_cases We:j=i
  ·subst We;exact hy.zT hi hS1 ⟨.inr id,H⟩
  ·have h1:=H.2 j (ready_mono hj We)
   obtain⟨GZ,oj,bM,Y3⟩:=mem_ready.1 hj
   have Hl:∀e∈oj.after,Region.binds .any e=true→e.on≠i:=fun e he hb heq=>by
    have h1:=Y3 e he hb
    have h0:=(mem_ready.1 hr).1
    rw[heq]at h1
    rcases Nat.lt_or_ge i listed.size with h'|h'
    ·simp[h']at h0 h1;rw[h0]at h1;cases h1
    ·simp[Array.getElem?_eq_none h']at h1
   have h2:=MD bM (OU j oj bM We GZ Hl) (fun cs b=>GY i oi cs b hi) (fun cs b=>GY j oj cs b bM) hy h1
   have MF:∀k ok,ops[k]? = some ok→k≠i→(listed.setIfInBounds j true).getD k true=false →
     (∀e∈ok.after,Region.binds .any e=true→e.on≠i)→oi.apart ops ok=true:=fun k ok hk hki tW hno=>by
    refine OU k ok hk hki ?_ hno
    by_cases AP:j=k
    ·subst AP;exact GZ
    ·rw[getD_set_ne true AP]at tW;exact tW
   refine XH (fun F' h' h3=>?_) h2
   refine⟨h3.2.1,ih (listed.setIfInBounds j true) F' h' (X0.set hj) MF (ready_mono hr (Ne.symm We)) h3.1 ?_ ?_⟩
   ·rcases hW with hW|⟨hW1,hW2⟩
    ·exact .inl hW
    ·rcases hS with hS|hS
     ·exact .inl hS
     ·rcases h3.2.1 with hjw|hss
      ·obtain⟨f,hf⟩:=hW2 j hjw
       have h1:=OX X0 hf hj
       have h0:=(mem_ready.1 hr).1
       rcases Nat.lt_or_ge i listed.size with h'|h'
       ·simp[h']at h0 h1;rw[h0]at h1;cases h1
       ·simp[Array.getElem?_eq_none h']at h1
      ·exact .inr (hss hS)
   ·rw[Array.setIfInBounds_comm _ _ We]
    exact h3.2.2
inductive Tz where
 | nil
 | p (i:Nat) (t:Tz)
 | q (i:Nat) (t:Tz)
 | s (i:Nat) (t:Tz)
 | w (i:Nat) (t:Tz)
 | or (i:Nat) (t:Tz) (r:Tz)
def Tz.alts:Tz→List Nat
 | .s i _=>[i]
 | .w i _=>[i]
 | .or i _ r=>i :: r.alts
 | _=>[]
def Tz.R7:Tz→Bool
 | .q _ _=>true
 | .p _ t=>t.R7
 | .s _ t=>t.R7
 | .or _ t r=>t.R7||r.R7
 | _=>false
def Tz.ok (ops:Array Oper) (W:List Nat):Tz→Nat→Array Bool→Bool→Bool
 | .nil,n,listed,_=>Nat.beq n 0&&(Region.ready .any ops listed).isEmpty
 | .p _ _,0,_,_=>false
 | .p i t,n+1,listed,_=>((Region.ready .any ops listed).contains i&&Region.free .any ops listed i)&&t.ok ops W n (listed.setIfInBounds i true) true
 | .q _ _,0,_,_=>false
 | .q i t,n+1,listed,_=>((Region.ready .any ops listed).contains i&&(Region.free .any ops listed i&&W.all fun j=>QY ops A7 j i))&&t.ok ops W n (listed.setIfInBounds i true) true
 | .s _ _,0,_,_=>false
 | .s i t,n+1,listed,b=>(!b||(Region.ready .any ops listed == [i]))&&t.ok ops W n (listed.setIfInBounds i true) true
 | .w _ _,0,_,_=>false
 | .w i t,n+1,listed,b=>((!b||(Region.ready .any ops listed == [i]))&&(W.contains i&&!t.R7))&&t.ok ops W n (listed.setIfInBounds i true) true
 | .or _ _ _,0,_,_=>false
 | .or i t r,n+1,listed,b=>(!b||(Region.ready .any ops listed == i :: r.alts))&&(t.ok ops W n (listed.setIfInBounds i true) true&&r.ok ops W (n+1) listed false)
def GU (P:Program) (T:World) (ops:Array Oper) (S:Hp→Prop) (N:Env→Hp→Prop):Tz→Env→Hp→Prop
 | .nil,F,h=>N F h
 | .p i t,F,h=>match ops[i]? with
  | some o=>if Z4 ops o F then ∃v,(∀h',Kw P T o (fun v' Oc=>v'=v∧Oc=h') F h')∧GU P T ops S N t (Z2 F o.dst v) h else GU P T ops S N t (Z2 F o.dst undef) h
  | none=>False
 | .q i t,F,h=>match ops[i]? with
  | some o=>if Z4 ops o F then ∃v,(∀h',S h'→Kw P T o (fun v' Oc=>v'=v∧Oc=h') F h')∧GU P T ops S N t (Z2 F o.dst v) h else GU P T ops S N t (Z2 F o.dst undef) h
  | none=>False
 | .s i t,F,h=>JK P T ops i (fun F' h'=>S h'∧GU P T ops S N t F' h') F h
 | .w i t,F,h=>JK P T ops i (fun F' h'=>GU P T ops S N t F' h') F h
 | .or i t r,F,h=>JK P T ops i (fun F' h'=>S h'∧GU P T ops S N t F' h') F h∧GU P T ops S N r F h
theorem HP {ops:Array Oper} {S:Hp→Prop} {W:List Nat} (hs:Region.noSelect ops=true):∀(t:Tz),
  (∀(k:Nat) (listed:Array Bool) (F:Env) (h:Hp),Ja ops listed→t.ok ops W k listed true=true→(t.R7=true→S h)→GU P T ops S N t F h→Pb P T ops S W N k listed F h) ∧
  (∀(k:Nat) (listed:Array Bool) (F:Env) (h:Hp),Ja ops listed→t.ok ops W (k+1) listed false=true→GU P T ops S N t F h→∀j∈t.alts,j∈Region.ready .any ops listed→JK P T ops j (fun F' h'=>(j∈W∨(S h→S h'))∧Pb P T ops S W N k (listed.setIfInBounds j true) F' h') F h):=by
 intro t
 induction t with
 | nil=>
  refine⟨fun k listed F h X0 hB hS H=>?_,fun k listed F h _ _ _ j hj=>by cases hj⟩
  simp only[Tz.ok,Bool.and_eq_true,List.isEmpty_iff]at hB
  obtain⟨h1,h2⟩:=hB
  obtain rfl:=Nat.eq_of_beq_eq_true h1
  exact⟨h2,H⟩
 | p i t ih=>
  refine⟨fun k listed F h X0 hB hS H=>?_,fun k listed F h _ _ _ j hj=>by cases hj⟩
  cases k with
  | zero=>simp[Tz.ok]at hB
  | succ k=>
   simp only[Tz.ok,Bool.and_eq_true]at hB
   obtain⟨⟨h1,h2⟩,h3⟩:=hB
   have S3:i∈Region.ready .any ops listed:=by simpa using h1
   obtain⟨_,o,ho,_⟩:=mem_ready.1 S3
   simp only[GU,ho]at H
   split at H
   ·rename_i MC
    obtain⟨v,hv,H⟩:=H
    exact Wl (S1:=fun _=>True) ho (Region.noSelect_spec hs) (.inl fun _=>trivial) k listed F h X0 (Region.free_spec ho h2) S3 (.inl ⟨MC,fun h' _=>hv h'⟩) (.inl fun _=>trivial) (ih.1 k _ _ _ (X0.set S3) h3 hS H)
   ·rename_i MC
    exact Wl (S1:=fun _=>True) ho (Region.noSelect_spec hs) (.inl fun _=>trivial) k listed F h X0 (Region.free_spec ho h2) S3 (.inr ⟨by simpa using MC,rfl⟩) (.inl fun _=>trivial) (ih.1 k _ _ _ (X0.set S3) h3 hS H)
 | q i t ih=>
  refine⟨fun k listed F h X0 hB hS H=>?_,fun k listed F h _ _ _ j hj=>by cases hj⟩
  have hS:=hS rfl
  cases k with
  | zero=>simp[Tz.ok]at hB
  | succ k=>
   simp only[Tz.ok,Bool.and_eq_true]at hB
   obtain⟨⟨h1,h2,hw⟩,h3⟩:=hB
   have S3:i∈Region.ready .any ops listed:=by simpa using h1
   obtain⟨_,o,ho,_⟩:=mem_ready.1 S3
   have hW:∀j∈W,∃f,QY ops f j i=true:=fun j hj=>⟨A7,List.all_eq_true.1 hw j hj⟩
   simp only[GU,ho]at H
   split at H
   ·rename_i MC
    obtain⟨v,hv,H⟩:=H
    exact Wl ho (Region.noSelect_spec hs) (.inr ⟨fun _ q=>q,hW⟩) k listed F h X0 (Region.free_spec ho h2) S3 (.inl ⟨MC,hv⟩) (.inr hS) (ih.1 k _ _ _ (X0.set S3) h3 (fun _=>hS) H)
   ·rename_i MC
    exact Wl ho (Region.noSelect_spec hs) (.inr ⟨fun _ q=>q,hW⟩) k listed F h X0 (Region.free_spec ho h2) S3 (.inr ⟨by simpa using MC,rfl⟩) (.inr hS) (ih.1 k _ _ _ (X0.set S3) h3 (fun _=>hS) H)
 | s i t ih=>
  have second:∀(k:Nat) (listed:Array Bool) (F:Env) (h:Hp),Ja ops listed→i∈Region.ready .any ops listed→t.ok ops W k (listed.setIfInBounds i true) true=true→GU P T ops S N (.s i t) F h→JK P T ops i (fun F' h'=>(i∈W∨(S h→S h'))∧Pb P T ops S W N k (listed.setIfInBounds i true) F' h') F h:=by
   intro k listed F h X0 S3 hB H
   exact XH (fun F' h' q=>⟨.inr fun _=>q.1,ih.1 k _ _ _ (X0.set S3) hB (fun _=>q.1) q.2⟩) H
  refine⟨fun k listed F h X0 hB hS H=>?_,fun k listed F h X0 hB H j hj hr=>?_⟩
  ·cases k with
   | zero=>simp[Tz.ok]at hB
   | succ k=>
    simp only[Tz.ok,Bool.and_eq_true,Bool.not_true,Bool.false_or,beq_iff_eq]at hB
    refine⟨fun h0=>(by rw[hB.1]at h0;cases h0),fun j hj=>?_⟩
    have hr:=hj
    rw[hB.1]at hj
    have hj:j=i:=by simpa using hj
    subst hj
    exact second k listed F h X0 hr hB.2 H
  ·simp only[Tz.ok,Bool.and_eq_true]at hB
   have hj:j=i:=by simpa [Tz.alts] using hj
   subst hj
   exact second k listed F h X0 hr hB.2 H
 | w i t ih=>
  have second:∀(k:Nat) (listed:Array Bool) (F:Env) (h:Hp),Ja ops listed→i∈Region.ready .any ops listed→i∈W→t.R7=false→t.ok ops W k (listed.setIfInBounds i true) true=true→GU P T ops S N (.w i t) F h→JK P T ops i (fun F' h'=>(i∈W∨(S h→S h'))∧Pb P T ops S W N k (listed.setIfInBounds i true) F' h') F h:=by
   intro k listed F h X0 S3 hw hq hB H
   exact XH (fun F' h' q=>⟨.inl hw,ih.1 k _ _ _ (X0.set S3) hB (fun e=>by rw[hq]at e;cases e) q⟩) H
  refine⟨fun k listed F h X0 hB hS H=>?_,fun k listed F h X0 hB H j hj hr=>?_⟩
  ·cases k with
   | zero=>simp[Tz.ok]at hB
   | succ k=>
    simp only[Tz.ok,Bool.and_eq_true,Bool.not_true,Bool.false_or,beq_iff_eq,Bool.not_eq_true']at hB
    obtain⟨⟨h1,h2,h3⟩,h4⟩:=hB
    refine⟨fun h0=>(by rw[h1]at h0;cases h0),fun j hj=>?_⟩
    have hr:=hj
    rw[h1]at hj
    have hj:j=i:=by simpa using hj
    subst hj
    exact second k listed F h X0 hr (by simpa using h2) h3 h4 H
  ·simp only[Tz.ok,Bool.and_eq_true,Bool.not_eq_true']at hB
   obtain⟨⟨h1,h2,h3⟩,h4⟩:=hB
   have hj:j=i:=by simpa [Tz.alts] using hj
   subst hj
   exact second k listed F h X0 hr (by simpa using h2) h3 h4 H
 | or i t r wh wm=>
  have second:∀(k:Nat) (listed:Array Bool) (F:Env) (h:Hp),Ja ops listed→t.ok ops W k (listed.setIfInBounds i true) true=true→r.ok ops W (k+1) listed false=true→GU P T ops S N (.or i t r) F h→∀j∈(Tz.or i t r).alts,j∈Region.ready .any ops listed→JK P T ops j (fun F' h'=>(j∈W∨(S h→S h'))∧Pb P T ops S W N k (listed.setIfInBounds j true) F' h') F h:=by
   intro k listed F h X0 hB hR H j hj hr
   rcases List.mem_cons.1 hj with hj|hj
   ·subst hj
    exact XH (fun F' h' q=>⟨.inr fun _=>q.1,wh.1 k _ _ _ (X0.set hr) hB (fun _=>q.1) q.2⟩) H.1
   ·exact wm.2 k listed F h X0 hR H.2 j hj hr
  refine⟨fun k listed F h X0 hB hS H=>?_,fun k listed F h X0 hB H j hj hr=>?_⟩
  ·cases k with
   | zero=>simp[Tz.ok]at hB
   | succ k=>
    simp only[Tz.ok,Bool.and_eq_true,Bool.not_true,Bool.false_or,beq_iff_eq]at hB
    refine⟨fun h0=>(by rw[hB.1]at h0;cases h0),fun j hj=>?_⟩
    have hr:=hj
    rw[hB.1]at hj
    exact second k listed F h X0 hB.2.1 hB.2.2 H j hj hr
  ·simp only[Tz.ok,Bool.and_eq_true]at hB
   exact second k listed F h X0 hB.2.1 hB.2.2 H j hj hr
def FG (P:Program) (T:World) (op:Op) (ty:TypeId) (C:Value→Prop) (F:Env):Prop:=
 match op with
 | .load _ _=>False
 | op=>VE P T 0 #[] op ty C F
theorem Iy {op:Op} {ty:TypeId} {C:Value→Prop} (H:FG P T op ty C F):∃v,(∀h',Wf P T op ty (fun v' Oc=>v'=v∧Oc=h') F h')∧C v:=by
 cases op<;>first|exact H|exact H.elim
def zPg (P:Program) (T:World) (K:Env→Hp→Prop) (F:Env) (h:Hp) (d:Option Tmp) (op:Op) (ty:TypeId) (v:Value) (b:Bool):Prop:=Xt v b (FG P T op ty (fun v=>K (Z2 F d v) h) F) (K (Z2 F d undef) h)
def zP (P:Program) (T:World) (ops:List Oper) (K:Env→Hp→Prop) (F:Env) (h:Hp) (o:Option Oper):Prop:=
 match o with
 | some ⟨d,op,ty,_,_,none⟩=>FG P T op ty (fun v=>K (Z2 F d v) h) F
 | some ⟨d,op,ty,_,_,some (j,b)⟩=>zPg P T K F h d op ty (Qu ops F j) b
 | none=>False
def Kt (P:Program) (T:World) (ops:List Oper) (B:Nat) (h0:Hp) (N:Env→Hp→Prop):Tz→Env→Hp→Prop
 | .nil,F,h=>N F h
 | .p i t,F,h=>zP P T ops (Kt P T ops B h0 N t) F h (nth ops i)
 | .q i t,F,h=>wQ P T ops B h0 (Kt P T ops B h0 N t) F h (nth ops i)
 | .s i t,F,h=>wS P T ops B h0 (Kt P T ops B h0 N t) F h (nth ops i)
 | .w i t,F,h=>wW P T ops (Kt P T ops B h0 N t) F h (nth ops i)
 | .or i t r,F,h=>wS P T ops B h0 (Kt P T ops B h0 N t) F h (nth ops i)∧Kt P T ops B h0 N r F h
theorem CO {ops:List Oper} {B:Nat} {h0:Hp} {N:Env→Hp→Prop}:∀(t:Tz) (F:Env) (h:Hp),Kt P T ops B h0 N t F h→GU P T ops.toArray (fun h'=>Zg B h0 h') N t F h:=by
 intro t
 induction t with
 | nil=>intro F h H;exact H
 | p i t ih=>
  intro F h H
  simp only[Kt]at H
  simp only[GU]
  cases ho:nth ops i with
  | none=>rw[ho]at H;exact H.elim
  | some o=>
   rw[UL ho]
   rw[ho]at H
   obtain⟨d,op,ty,pos,QT,g⟩:=o
   cases g with
   | none=>
    show (if Z4 ops.toArray _ F=true then _ else _)
    rw[if_pos (by rfl)]
    obtain⟨v,hv,H⟩:=Iy H
    exact⟨v,fun h'=>X8 (hv h'),ih _ _ H⟩
   | some jb=>
    obtain⟨j,b⟩:=jb
    show (if Z4 ops.toArray _ F=true then _ else _)
    rcases YP ops F d op pos QT j b H with⟨hw,H⟩|⟨hw,H⟩
    ·rw[if_pos hw]
     obtain⟨v,hv,H⟩:=Iy H
     exact⟨v,fun h'=>X8 (hv h'),ih _ _ H⟩
    ·rw[hw,if_neg (by simp)]
     exact ih _ _ H
 | q i t ih=>
  intro F h H
  simp only[Kt]at H
  simp only[GU]
  cases ho:nth ops i with
  | none=>rw[ho]at H;exact H.elim
  | some o=>
   rw[UL ho]
   rw[ho]at H
   obtain⟨d,op,ty,pos,QT,g⟩:=o
   cases g with
   | none=>
    show (if Z4 ops.toArray _ F=true then _ else _)
    rw[if_pos (by rfl)]
    obtain⟨v,hv,H⟩:=UA H
    exact⟨v,fun h' hs=>X8 (hv h' hs),ih _ _ H⟩
   | some jb=>
    obtain⟨j,b⟩:=jb
    show (if Z4 ops.toArray _ F=true then _ else _)
    rcases YP ops F d op pos QT j b H with⟨hw,H⟩|⟨hw,H⟩
    ·rw[if_pos hw]
     obtain⟨v,hv,H⟩:=UA H
     exact⟨v,fun h' hs=>X8 (hv h' hs),ih _ _ H⟩
    ·rw[hw,if_neg (by simp)]
     exact ih _ _ H
 | s i t ih=>intro F h H;exact Pa ih H
 | w i t ih=>intro F h H;exact Fz ih H
 | or i t r wh wm=>intro F h H;exact⟨Pa wh H.1,wm _ _ H.2⟩
def ZbY (n:Nat) (ops:Array Oper) (W:List Nat) (t:Tz):Bool:=OR n ops&&(Region.noSelect ops&&t.ok ops W ops.size (Array.replicate ops.size false) true)
theorem VS.z {id:Nat} {ops:List Oper} (B:Nat) (W:List Nat) (t:Tz) (hm:P.follows .mixedOrders=true) (JF:ZbY n ops.toArray W t=true)
  (H:Kt P T ops B h N t F h):VS P n T (.region id ops.toArray true) N X R F h:=by
 intro a w h1 h2 h3 h4
 simp only[ZbY,Bool.and_eq_true]at JF
 obtain⟨k1,k2,k3⟩:=JF
 refine wp_region_any hm ?_
 refine X7 k1 _ _ F h (KM _ _ _ _ ((HP (S:=fun h'=>Zg B h h') k2 t).1 _ _ F h (OZ _ _) k3 (fun _=>Zg.refl _ _) (CO t F h H))) a _ h1 h2 h3 ⟨h4.heap,h4.tape,h4.os,h4.output⟩
variable {ops:List Oper} {B:Nat} {h0:Hp} {t r:Tz} {i j:Nat} {d:Option Tmp} {op:Op} {ty:TypeId} {pos:String} {QT:Array Edge} {b c:Bool} {v:Value} {K:Env→Hp→Prop} {C:Value→Prop}
@[go_sem] theorem Zfg:Kt P T ops B h0 N .nil F h=N F h:=rfl
@[go_sem] theorem Zn6:Kt P T ops B h0 N (.p i t) F h=zP P T ops (Kt P T ops B h0 N t) F h (nth ops i):=rfl
@[go_sem] theorem Zn7:Kt P T ops B h0 N (.q i t) F h=wQ P T ops B h0 (Kt P T ops B h0 N t) F h (nth ops i):=rfl
@[go_sem] theorem Zn8:Kt P T ops B h0 N (.s i t) F h=wS P T ops B h0 (Kt P T ops B h0 N t) F h (nth ops i):=rfl
@[go_sem] theorem Zn9:Kt P T ops B h0 N (.w i t) F h=wW P T ops (Kt P T ops B h0 N t) F h (nth ops i):=rfl
@[go_sem] theorem ZiB:Kt P T ops B h0 N (.or i t r) F h=(wS P T ops B h0 (Kt P T ops B h0 N t) F h (nth ops i)∧Kt P T ops B h0 N r F h):=rfl
@[go_sem] theorem ZbZ:zP P T ops K F h (some ⟨d,op,ty,pos,QT,none⟩)=FG P T op ty (wKq K F d h) F:=rfl
@[go_sem] theorem Zb0:zP P T ops K F h (some ⟨d,op,ty,pos,QT,some (j,b)⟩)=zPg P T K F h d op ty (Qu ops F j) b:=rfl
@[go_sem] theorem Zb1:zPg P T K F h d op ty (.bool c) b=if c=b then FG P T op ty (wKq K F d h) F else K (Z2 F d undef) h:=rfl
@[go_sem] theorem Zb2 {x:Operand}:FG P T (.move x) ty C F=VE P T 0 #[] (.move x) ty C F:=rfl
@[go_sem] theorem wE {x:Operand}:FG P T (.assign x) ty C F=VE P T 0 #[] (.assign x) ty C F:=rfl
@[go_sem] theorem Zan {t:TypeId} {x:Operand} {i:Nat}:FG P T (.fieldAddr t x i) ty C F=VE P T 0 #[] (.fieldAddr t x i) ty C F:=rfl
@[go_sem] theorem ZiC {t:TypeId} {x i:Operand}:FG P T (.indexAddr t x i) ty C F=VE P T 0 #[] (.indexAddr t x i) ty C F:=rfl
@[go_sem] theorem Zb3 {x y z:Operand}:FG P T (.pick x y z) ty C F=VE P T 0 #[] (.pick x y z) ty C F:=rfl
@[go_sem] theorem Zfh {x:Operand}:FG P T (.nilCheck x) ty C F=VE P T 0 #[] (.nilCheck x) ty C F:=rfl
@[go_sem] theorem Zfi {op:BinOp} {t t':TypeId} {x y:Operand}:FG P T (.binOp op t x y t') ty C F=VE P T 0 #[] (.binOp op t x y t') ty C F:=rfl
@[go_sem] theorem ZiD {op:UnOp} {t:TypeId} {x:Operand}:FG P T (.unOp op t x) ty C F=VE P T 0 #[] (.unOp op t x) ty C F:=rfl
@[go_sem] theorem ui {x:Operand} {i:Nat}:FG P T (.extract x i) ty C F=VE P T 0 #[] (.extract x i) ty C F:=rfl
@[go_sem] theorem Zfj {t:TypeId} {x:Operand} {lo hi mx:Option Operand}:FG P T (.slice t x lo hi mx) ty C F=VE P T 0 #[] (.slice t x lo hi mx) ty C F:=rfl
@[go_sem] theorem Zao {t:TypeId} {parts:Array (Nat × Operand)}:FG P T (.build t parts) ty C F=VE P T 0 #[] (.build t parts) ty C F:=rfl
@[go_sem] theorem Zb4 {c:Call}:FG P T (.call c) ty C F=VE P T 0 #[] (.call c) ty C F:=rfl
end
def Xc {β:Type}:List (Int × β)→Int→Option β
 | [],_=>none
 | (a,v) :: r,k=>if a=k then some v else Xc r k
def ins {β:Type}:List (Int × β)→Int→β→List (Int × β)
 | [],k,v=>[(k,v)]
 | (a,x) :: r,k,v=>if a=k then (a,v) :: r else (a,x) :: ins r k v
def Ue {β γ:Type} (f:β→γ) (l:List (Int × β)):List (Int × γ):=l.map fun x=>(x.1,f x.2)
theorem Xh {β γ:Type} (f:β→γ):∀(l:List (Int × β)) (k:Int),Xc (Ue f l) k=(Xc l k).map f:=by
 intro l k
 induction l with
 | nil=>rfl
 | cons x l ih=>
  obtain⟨a,v⟩:=x
  show (if a=k then some (f v) else Xc (Ue f l) k)=Option.map f (if a=k then some v else Xc l k)
  rw[ih]
  split<;>rfl
theorem Tw {β γ:Type} (f:β→γ):∀(l:List (Int × β)) (k:Int) (v:β),Ue f (ins l k v)=ins (Ue f l) k (f v):=by
 intro l k v
 induction l with
 | nil=>rfl
 | cons x l ih=>
  obtain⟨a,u⟩:=x
  show Ue f (if a=k then (a,v) :: l else (a,u) :: ins l k v)=if a=k then (a,f v) :: Ue f l else (a,f u) :: ins (Ue f l) k (f v)
  split
  ·rfl
  ·rw[←ih];rfl
theorem O3 {β γ:Type} (f:β→γ) (l:List (Int × β)):(Ue f l).length=l.length:=List.length_map ..
theorem Rh {β:Type}:∀(l:List (Int × β)) (k:Int) (v:β),(ins l k v).length=if (Xc l k).isSome=true then l.length else l.length+1:=by
 intro l k v
 induction l with
 | nil=>rfl
 | cons x l ih=>
  obtain⟨a,u⟩:=x
  unfold ins Xc
  by_cases h:a=k
  ·rw[if_pos h,if_pos h];rfl
  ·rw[if_neg h,if_neg h,List.length_cons,ih,List.length_cons]
   split<;>rfl
theorem ae {β:Type}:∀(l:List (Int × β)) (k j:Int) (v:β),Xc (ins l k v) j=if k=j then some v else Xc l j:=by
 intro l k j v
 induction l with
 | nil=>rfl
 | cons x l ih=>
  obtain⟨a,u⟩:=x
  unfold ins
  by_cases h:a=k
  ·subst h
   rw[if_pos rfl]
   unfold Xc
   by_cases hj:a=j
   ·rw[if_pos hj,if_pos hj]
   ·rw[if_neg hj,if_neg hj,if_neg hj]
  ·rw[if_neg h]
   show (if a=j then some u else Xc (ins l k v) j)=if k=j then some v else if a=j then some u else Xc l j
   rw[ih]
   by_cases hj:a=j
   ·rw[if_pos hj,if_pos hj,if_neg (fun e=>h (hj.trans e.symm))]
   ·rw[if_neg hj,if_neg hj]
theorem Mq {β:Type} {l:List (Int × β)} {k:Int} {v:β} (h:Xc l k=some v):(k,v)∈l:=by
 induction l with
 | nil=>cases h
 | cons y l ih=>
  obtain⟨a,u⟩:=y
  unfold Xc at h
  split at h
  ·rename_i he
   cases h;subst he;exact List.mem_cons_self
  ·exact List.mem_cons_of_mem _ (ih h)
section
variable {P:Program} {T:World} {ty:TypeId} {F:Env} {h:Hp} {K:Value→Hp→Prop}
def JG:Nat→List (Int × Value)→List MapEntry
 | _,[]=>[]
 | i,(k,v) :: l=>⟨.int .i64 k,v,i⟩ :: JG (i+1) l
def Xi (l:List (Int × Value)):Obj:=.map (JG 0 l).toArray l.length
theorem Ut:∀(l:List (Int × Value)) (i:Nat),(JG i l).length=l.length:=by
 intro l
 induction l with
 | nil=>intro i;rfl
 | cons x l ih=>intro i;obtain⟨k,v⟩:=x;simp[JG,ih]
def Ok (l:List (Int × Value)) (k:Int):Nat→Option (Nat × Value):=fun j=>match l with
 | []=>none
 | (a,v) :: r=>if k=a then some (j,v) else Ok r k (j+1)
theorem FH (k:Int):∀(l:List (Int × Value)) (i j:Nat),Instr.findNow (.int .i64) (.int .i64 k) (JG i l) j=some (Ok l k j):=by
 intro l
 induction l with
 | nil=>intro i j;rfl
 | cons x l ih=>
  intro i j
  obtain⟨a,v⟩:=x
  unfold JG Instr.findNow Ok
  simp only[Instr.sameNow,if_true]
  by_cases hk:k=a
  ·subst hk;simp
  ·rw[if_neg hk]
   have:(k == a)=false:=by simpa using hk
   rw[this]
   exact ih _ _
theorem jS (k:Int):∀(l:List (Int × Value)) (j:Nat),(Ok l k j).map (·.2)=Xc l k:=by
 intro l
 induction l with
 | nil=>intro j;rfl
 | cons x l ih=>
  intro j
  obtain⟨a,v⟩:=x
  unfold Ok Xc
  by_cases hk:k=a
  ·rw[if_pos hk,if_pos hk.symm];rfl
  ·rw[if_neg hk,if_neg (fun e=>hk e.symm)];exact ih _
theorem dj {k:Int}:∀{l:List (Int × Value)} {j:Nat},Ok l k j=none→∀(v:Value),ins l k v=l++[(k,v)]:=by
 intro l
 induction l with
 | nil=>intro j _ v;rfl
 | cons x l ih=>
  intro j h v
  obtain⟨a,u⟩:=x
  unfold Ok at h
  split at h
  ·cases h
  ·rename_i hk
   unfold ins
   rw[if_neg (fun e=>hk e.symm),ih h v];rfl
theorem CP (k:Int) (v:Value):∀(l:List (Int × Value)) (i:Nat),JG i (l++[(k,v)])=JG i l++[⟨.int .i64 k,v,i+l.length⟩]:=by
 intro l
 induction l with
 | nil=>intro i;rfl
 | cons x l ih=>intro i;obtain⟨a,u⟩:=x;simp only[List.cons_append,JG,ih,List.length_cons];congr 4;omega
theorem dk {k:Int}:∀{l:List (Int × Value)} {i j:Nat} {n:Nat} {u:Value},Ok l k j=some (n,u)→∃m,n=m+j∧m<l.length∧(JG i l)[m]? = some ⟨.int .i64 k,u,i+m⟩∧∀v,JG i (ins l k v)=(JG i l).set m ⟨.int .i64 k,v,i+m⟩:=by
 intro l
 induction l with
 | nil=>intro i j n u h;cases h
 | cons x l ih=>
  intro i j n u h
  obtain⟨a,w⟩:=x
  unfold Ok at h
  by_cases hk:k=a
  ·subst hk
   rw[if_pos rfl]at h
   cases h
   exact⟨0,by omega,by simp,rfl,fun v=>by unfold ins;rw[if_pos rfl];rfl⟩
  ·rw[if_neg hk]at h
   obtain⟨m,h1,h2,h3,h4⟩:=ih (i:=i+1) h
   refine⟨m+1,by omega,by simpa using h2,?_,fun v=>?_⟩
   ·simp only[JG,List.getElem?_cons_succ];rw[h3];congr 2;omega
   ·unfold ins
    rw[if_neg (fun e=>hk e.symm)]
    simp only[JG,List.set_cons_succ,h4];congr 3;omega
def O9 (P:Program) (t:TypeId) (m k x:Value) (K:Value→Hp→Prop) (h:Hp):Prop:=hw P (Instr.mapUpdate t m k x) (fun _ h=>K undef h) h
@[go_sem] theorem KN {t:TypeId} {m k x:Operand}:Wf P T (.mapUpdate t m k x) ty K F h=O9 P t (ev F m) (ev F k) (ev F x) K h:=by
 show hw P (do let _ ←Instr.mapUpdate t (ev F m) (ev F k) (ev F x);pure Next.skip) (Xp P T K) h=_
 rw[Zf];rfl
@[go_sem] theorem CQ {t:TypeId} {m k x:Operand}:Wf P T (.insert t m k x) ty K F h=O9 P t (ev F m) (ev F k) (ev F x) K h:=by
 show hw P (do let _ ←Instr.mapUpdate t (ev F m) (ev F k) (ev F x);pure Next.skip) (Xp P T K) h=_
 rw[Zf];rfl
@[go_sem] theorem nU {t:TypeId} {m k x:Operand}:Kw P T ⟨none,.mapUpdate t m k x,ty, "", #[],none⟩ K F h=O9 P t (ev F m) (ev F k) (ev F x) K h:=KN
@[go_sem] theorem wF {t:TypeId} {m k x:Operand}:Kw P T ⟨none,.insert t m k x,ty, "", #[],none⟩ K F h=O9 P t (ev F m) (ev F k) (ev F x) K h:=CQ
def af (P:Program) (t:TypeId):Option TypeId:=match P.underlying t with
 | some (.map k e)=>(match P.underlying k with|some (.int .i64)=>some e|_=>none)
 | _=>none
theorem Pc {t e:TypeId} (h:af P t=some e):∃k,P.underlying t=some (.map k e)∧P.underlying k=some (.int .i64):=by
 unfold af at h
 split at h
 ·rename_i k e' hu
  split at h
  ·rename_i hk
   cases h
   exact⟨k,hu,hk⟩
  ·cases h
 ·cases h
def uj (P:Program) (t:TypeId):Option Value:=(P.info? t).bind (·.zero)
theorem Ri {k:TypeId} (hk:P.underlying k=some (.int .i64)) {b:Bool} {n:Int} {Q:Unit→Hp→Prop}:hw P (Instr.checkKey b 10000 k (.int .i64 n)) Q h=Q () h:=by
 show hw P (do
  match ←underlying k,(Value.int .i64 n) with
  | .interface _,.iface d x=>
   let info ←typeInfo d
   if !info.comparable then
    if b then runtimePanic (.unhashable d)
    runtimePanic (.error ("hash of unhashable type " ++ (←typeStr d)))
   Instr.checkKey b 9999 d x
  | .array len elem,.agg cs=>
   for i in [0:len] do Instr.checkKey b 9999 elem (←part elem cs (i*(←sizeOf elem)))
  | .struct fields,.agg cs=>
   for f in fields do
    if f.name ≠ "_" then Instr.checkKey b 9999 f.type (←part f.type cs f.offset)
  | .interface _,.nilIface=>pure ()
  | .interface _,_|.array _ _,_|.struct _,_=>stuck "map key: not a value of its type"
  | _,_=>pure ()) Q h=_
 rw[Zf,Zt hk]
 rfl
theorem Tx {k:TypeId} (hk:P.underlying k=some (.int .i64)) {n:Int} {l:List (Int × Value)} {Q:Option (Nat × Value)→Hp→Prop}:hw P (Instr.findKey k (.int .i64 n) (JG 0 l)) Q h=Q (Ok l n 0) h:=by
 unfold Instr.findKey
 rw[Zf,Zt hk]
 simp only[FH]
 rfl
theorem Yo {t e:TypeId} {z:Value} {b:Nat} {l:List (Int × Value)} {n:Int} {c:Bool} (ht:af P t=some e) (hz:uj P e=some z) (hm:h[b]? = some (Xi l)) :
  O1 P t (.map (some b)) (.int .i64 n) c K h=K (if c=true then .tuple #[(Xc l n).getD z,.bool (Xc l n).isSome] else (Xc l n).getD z) h:=by
 obtain⟨k,hu,hk⟩:=Pc ht
 unfold O1 Instr.lookup
 rw[Zf,Zt hu]
 simp only
 rw[Zf]
 apply propext
 rw[Rg hm]
 simp only
 rw[Zf,Zu,Zf,Ri hk,Zf,Tx hk,←jS n l 0]
 cases Ok l n 0 with
 | none=>
  simp only[Option.map_none,Option.getD_none,Option.isSome_none]
  rw[Zf]
  have Fa:=fun {Q:Value→Hp→Prop}=>Ix (P:=P) (h:=h) (Q:=Q) hz
  rw[Fa]
  cases c<;>exact Iff.rfl
 | some p=>cases c<;>exact Iff.rfl
@[go_sem] theorem HQ {t e:TypeId} {z:Value} {n:Int} {c:Bool} (ht:af P t=some e) (hz:uj P e=some z) :
  O1 P t (.map none) (.int .i64 n) c K h=K (if c=true then .tuple #[z,.bool false] else z) h:=by
 obtain⟨k,hu,hk⟩:=Pc ht
 unfold O1 Instr.lookup
 rw[Zf,Zt hu]
 simp only
 rw[Zf,Zu,Zf,Ri hk,Zf]
 have:=fun {Q:Option (Nat × Value)→Hp→Prop}=>Tx (P:=P) (h:=h) (k:=k) hk (n:=n) (l:=[]) (Q:=Q)
 rw[show (#[]:Array MapEntry).toList=JG 0 [] from rfl,this]
 simp only[Ok]
 rw[Zf]
 have Fa:=fun {Q:Value→Hp→Prop}=>Ix (P:=P) (h:=h) (Q:=Q) hz
 rw[Fa]
 cases c<;>rfl
theorem XJ {t e:TypeId} {b:Nat} {l:List (Int × Value)} {n:Int} {x:Value} (ht:af P t=some e) (hm:h[b]? = some (Xi l)) :
  O9 P t (.map (some b)) (.int .i64 n) x K h=K undef (h.setIfInBounds b (Xi (ins l n x))):=by
 obtain⟨k,hu,hk⟩:=Pc ht
 unfold O9 Instr.mapUpdate
 rw[Zf,Zt hu]
 simp only
 rw[Zf]
 apply propext
 rw[Rg hm]
 simp only
 rw[Zf,Ri hk,Zf]
 show hw P (Instr.findKey k (.int .i64 n) (JG 0 l)) _ h↔_
 rw[Tx hk]
 have st:∀(es:Array MapEntry) (c:Nat) (Q:Unit→Hp→Prop),hw P (setObj b (.map es c)) Q h↔Q () (h.setIfInBounds b (.map es c)):=fun es c Q=>
  ⟨fun H=>H.2,fun H=>⟨⟨_,hm,rfl⟩,H⟩⟩
 cases hp:Ok l n 0 with
 | none=>
  simp only
  rw[st]
  have e1:(Obj.map ((JG 0 l).toArray.push ⟨.int .i64 n,x,l.length⟩) (l.length+1))=Xi (ins l n x):=by
   rw[dj hp x]
   unfold Xi
   rw[CP,List.push_toArray,List.length_append,Nat.zero_add];rfl
  rw[e1]
 | some p=>
  obtain⟨i,u⟩:=p
  obtain⟨m,h1,h2,h3,h4⟩:=dk (i:=0) hp
  obtain rfl:i=m:=by omega
  simp only
  rw[Zf]
  have e0:(((JG 0 l).toArray[i]?).map (·.key)).getD (.int .i64 n)=.int .i64 n:=by
   rw[List.getElem?_toArray,h3];rfl
  have e2:∀(Q:Value→Hp→Prop),hw P (Instr.keyThatStays (.int .i64 n) (.int .i64 n)) Q h=Q (.int .i64 n) h:=fun Q=>by
   unfold Instr.keyThatStays
   have:Instr.sameBits 10000 (.int .i64 n) (.int .i64 n)=true:=by simp[Instr.sameBits]
   rw[if_pos this];rfl
  rw[e0,e2,st]
  have e1:(Obj.map ((JG 0 l).toArray.modify i fun e=>{ e with key:=.int .i64 n,val:=x }) l.length)=Xi (ins l n x):=by
   unfold Xi
   rw[h4 x,Nat.zero_add]
   have hlen:(ins l n x).length=l.length:=by
    have e5:(JG 0 (ins l n x)).length=(JG 0 l).length:=by rw[h4 x];simp
    rw[Ut,Ut]at e5;exact e5
   rw[hlen]
   congr 1
   apply Array.ext_getElem?
   intro j
   rw[Array.getElem?_modify,List.getElem?_toArray,List.getElem?_toArray,List.getElem?_set]
   by_cases hj:i=j
   ·subst hj
    rw[if_pos rfl,if_pos rfl,h3,if_pos (by rw[Ut];exact h2)]
    rw[Nat.zero_add];rfl
   ·rw[if_neg hj,if_neg hj]
  rw[e1]
theorem VG {cs:Array Bool} {t e:TypeId} {b:Nat} {l:List (Int × Value)} (ht:af P t=some e) (hm:h[b]? = some (Xi l)):Tn P T .len #[t] ty cs [.map (some b)] K h=K (.int .i64 l.length) h:=by
 obtain⟨k,hu,hk⟩:=Pc ht
 show hw P (do pure (.value (←Builtin.len_ #[t] ty #[.map (some b)]))) (Xp P T K) h=_
 rw[Zf]
 show hw P (do
  match ←underlying t,(Value.map (some b)) with
  | .string,.string s=>pure (goInt s.size)
  | .array n _,_=>pure (goInt n)
  | .pointer arr,_=>
   let .array n _ ←underlying arr|stuck "len: pointer to array expected"
   pure (goInt n)
  | .slice _,.slice _ n _=>pure (goInt n)
  | .map _ _,.map none|.chan _ _,.chan none=>pure (goInt 0)
  | .map _ _,.map (some r)=>
   let .map entries _ ←getObj r|stuck "len: map expected"
   pure (goInt entries.size)
  | .chan _ _,.chan (some r)=>
   let .chan _ buf _ _ _ timer ←getObj r|stuck "len: channel expected"
   pure (goInt (if timer then 0 else buf.size))
  | _,_=>stuck "len: string, array, pointer to array, slice, map or channel expected") K h=_
 rw[Zf,Zt hu]
 simp only
 rw[Zf]
 apply propext
 rw[Rg hm]
 simp only[List.size_toArray,Ut]
 exact Iff.rfl
def tkp (P:Program) (t:TypeId):Bool:=match P.underlying t with|some (.pointer _)=>true|_=>false
def tkm (P:Program) (t:TypeId):Bool:=match P.underlying t with|some (.map _ _)=>true|_=>false
def qe (P:Program) (t:TypeId):Bool:=match P.underlying t with|some (.func _ _ _)=>true|_=>false
theorem jT {t:TypeId} (h:tkp P t=true):∃e,P.underlying t=some (.pointer e):=by
 unfold tkp at h;split at h
 ·exact⟨_,by assumption⟩
 ·cases h
theorem jU {t:TypeId} (h:tkm P t=true):∃k e,P.underlying t=some (.map k e):=by
 unfold tkm at h;split at h
 ·exact⟨_,_,by assumption⟩
 ·cases h
theorem FI {t:TypeId} (h:qe P t=true):∃a b c,P.underlying t=some (.func a b c):=by
 unfold qe at h;split at h
 ·exact⟨_,_,_,by assumption⟩
 ·cases h
theorem Ld {t:TypeId} (ht:tkp P t=true) {a:Option Addr} {Q:Bool→Hp→Prop}:hw P (Op.equal t (.pointer a) (.pointer none)) Q h=Q a.isNone h:=by
 obtain⟨e,hu⟩:=jT ht
 unfold Op.equal Op.maxDepth Op.equalIn
 rw[Zf,Zt hu]
 cases a<;>rfl
theorem run_eq_map {t:TypeId} (ht:tkm P t=true) {a:Option Nat} {Q:Bool→Hp→Prop}:hw P (Op.equal t (.map a) (.map none)) Q h=Q a.isNone h:=by
 obtain⟨k,e,hu⟩:=jU ht
 unfold Op.equal Op.maxDepth Op.equalIn
 rw[Zf,Zt hu]
 cases a<;>rfl
theorem Iz {t:TypeId} (ht:qe P t=true) {f:Fn} {x y:Array Value} {Q:Bool→Hp→Prop}:hw P (Op.equal t (.func f x y) .nilFunc) Q h=Q false h:=by
 obtain⟨a,b,c,hu⟩:=FI ht
 unfold Op.equal Op.maxDepth Op.equalIn
 rw[Zf,Zt hu]
 rfl
theorem IA {t:TypeId} (ht:qe P t=true) {Q:Bool→Hp→Prop}:hw P (Op.equal t .nilFunc .nilFunc) Q h=Q true h:=by
 obtain⟨a,b,c,hu⟩:=FI ht
 unfold Op.equal Op.maxDepth Op.equalIn
 rw[Zf,Zt hu]
 rfl
theorem HS {t:TypeId} {x y:Operand} {a b:Value} {r:Bool} (hg:∀{Q:Unit→Hp→Prop},hw P (eqGuard .eql t x y a b) Q h=Q () h) (hb:binOp .eql t a b=do pure (.bool (←Op.equal t a b))) (he:∀{Q:Bool→Hp→Prop},hw P (Op.equal t a b) Q h=Q r h):YU P .eql t x y a b K h=K (.bool r) h:=by
 unfold YU
 rw[Zf,hg,hb,Zf,he];rfl
theorem CR {t:TypeId} {x y:Operand} {a b:Value} {r:Bool} (hg:∀{Q:Unit→Hp→Prop},hw P (eqGuard .neq t x y a b) Q h=Q () h) (hb:binOp .neq t a b=do pure (.bool (!(←Op.equal t a b)))) (he:∀{Q:Bool→Hp→Prop},hw P (Op.equal t a b) Q h=Q r h):YU P .neq t x y a b K h=K (.bool (!r)) h:=by
 unfold YU
 rw[Zf,hg,hb,Zf,he];rfl
@[go_sem] theorem uk {t:TypeId} {x y:Operand} {a:Option Addr} (ht:tkp P t=true):YU P .eql t x y (.pointer a) (.pointer none) K h=K (.bool a.isNone) h:=HS rfl rfl (Ld ht)
@[go_sem] theorem um {t:TypeId} {x y:Operand} {a:Option Addr} (ht:tkp P t=true):YU P .neq t x y (.pointer a) (.pointer none) K h=K (.bool (!a.isNone)) h:=CR rfl rfl (Ld ht)
@[go_sem] theorem uo {t:TypeId} {x y:Operand} {a:Option Nat} (ht:tkm P t=true):YU P .eql t x y (.map a) (.map none) K h=K (.bool a.isNone) h:=HS rfl rfl (run_eq_map ht)
@[go_sem] theorem wG {t:TypeId} {x y:Operand} {f:Fn} {u v:Array Value} (ht:qe P t=true):YU P .eql t x y (.func f u v) .nilFunc K h=K (.bool false) h:=HS rfl rfl (Iz ht)
@[go_sem] theorem wH {t:TypeId} {x y:Operand} (ht:qe P t=true):YU P .eql t x y .nilFunc .nilFunc K h=K (.bool true) h:=HS rfl rfl (IA ht)
@[go_sem] theorem wI {t:TypeId} {x y:Operand} {f:Fn} {u v:Array Value} (ht:qe P t=true):YU P .neq t x y (.func f u v) .nilFunc K h=K (.bool true) h:=CR rfl rfl (Iz ht)
@[go_sem] theorem wJ {t:TypeId} {x y:Operand} (ht:qe P t=true):YU P .neq t x y .nilFunc .nilFunc K h=K (.bool false) h:=CR rfl rfl (IA ht)
end
inductive FJ {α β:Type} (R:α→β→Prop):List α→List β→Prop
 | nil:FJ R [] []
 | cons {a:α} {b:β} {l:List α} {k:List β}:R a b→FJ R l k→FJ R (a :: l) (b :: k)
section
variable {τ:Type}
structure Kp (S:τ→Prop) (o:Nat→Option τ) (h:Hp) (o':Nat→Option τ) (h':Hp):Prop where
 size:h.size≤h'.size
 Zd:∀b,b<h.size→(∀t,o b=some t→¬S t)→h'[b]? = h[b]? ∧ o' b=o b
 stay:∀b,b<h.size→∀t,o b=some t→S t→∃t',o' b=some t'∧S t'
 new:∀b,h.size≤b→∀t,o' b=some t→S t
 ZX:∀b,h'.size≤b→o' b=none
variable {S S':τ→Prop} {o o' o'':Nat→Option τ} {h h' Oc:Hp}
def Q8 (o:Nat→Option τ) (h:Hp):Prop:=∀b,h.size≤b→o b=none
theorem Kp.refl (d:Q8 o h) (S:τ→Prop):Kp S o h o h:=
 ⟨Nat.le_refl _,fun _ _ _=>⟨rfl,rfl⟩,fun _ _ t ht hs=>⟨t,ht,hs⟩,fun b hb t ht=>(by rw[d b hb]at ht;cases ht),d⟩
theorem Kp.mono (k:Kp S o h o' h') (hs:∀t,S t→S' t):Kp S' o h o' h':=
 ⟨k.size,fun b hb hn=>k.Zd b hb fun t ht q=>hn t ht (hs t q),fun b hb t ht q=>by
  by_cases p:S t
  ·obtain⟨t',h1,h2⟩:=k.stay b hb t ht p;exact⟨t',h1,hs _ h2⟩
  ·exact⟨t,by rw[(k.Zd b hb fun u hu=>by rw[ht]at hu;cases hu;exact p).2,ht],q⟩,fun b hb t ht=>hs _ (k.new b hb t ht),k.ZX⟩
theorem Kp.trans (k:Kp S o h o' h') (l:Kp S o' h' o'' Oc):Kp S o h o'' Oc:=by
 refine⟨Nat.le_trans k.size l.size,fun b hb hn=>?_,fun b hb t ht hs=>?_,fun b hb t ht=>?_,l.ZX⟩
 ·obtain⟨h1,h2⟩:=k.Zd b hb hn
  obtain⟨h3,h4⟩:=l.Zd b (Nat.lt_of_lt_of_le hb k.size) fun t ht=>hn t (by rw[←h2];exact ht)
  exact⟨h3.trans h1,h4.trans h2⟩
 ·obtain⟨t',h1,h2⟩:=k.stay b hb t ht hs
  exact l.stay b (Nat.lt_of_lt_of_le hb k.size) t' h1 h2
 ·by_cases XZ:h'.size≤b
  ·exact l.new b XZ t ht
  ·have ZC:b<h'.size:=by omega
   cases ho:o' b with
   | none=>
    have:=(l.Zd b ZC fun u hu=>by rw[ho]at hu;cases hu).2
    rw[this,ho]at ht;cases ht
   | some t1=>
    obtain⟨t2,h1,h2⟩:=l.stay b ZC t1 ho (k.new b hb t1 ho)
    rw[h1]at ht;cases ht;exact h2
theorem Kp.get (k:Kp S o h o' h') {b:Nat} {x:Obj} (hx:h[b]? = some x) (hn:∀t,o b=some t→¬S t):h'[b]? = some x:=by
 rw[(k.Zd b (Za hx) hn).1,hx]
theorem Kp.own (k:Kp S o h o' h') {b:Nat} {x:Obj} (hx:h[b]? = some x) (hn:∀t,o b=some t→¬S t):o' b=o b:=(k.Zd b (Za hx) hn).2
theorem Kp.free (k:Kp S o h o' h') {b:Nat} {x:Obj} (hx:h[b]? = some x) (hn:o b=none):h'[b]? = some x∧o' b=none:=by
 have SO:∀t,o b=some t→¬S t:=fun t ht=>by rw[hn]at ht;cases ht
 exact⟨k.get hx SO,(k.own hx SO).trans hn⟩
theorem Kp.Le (d:Q8 o h) (b:Zg h.size h h') (S:τ→Prop):Kp S o h o h':=
 ⟨b.size,fun k hk _=>⟨b.block k hk,rfl⟩,fun _ _ t ht hs=>⟨t,ht,hs⟩,fun k hk t ht=>(by rw[d k hk]at ht;cases ht),fun k hk=>d k (Nat.le_trans b.size hk)⟩
theorem Kp.Z9 (k:Kp S o h o' h') (b:Zg h'.size h' Oc):Kp S o h o' Oc:=k.trans (Kp.Le k.ZX b S)
theorem Kp.push (k:Kp S o h o' h') (x:Obj):Kp S o h o' (h'.push x):=k.Z9 ((Zg.refl _ _).add x)
theorem Kp.set (k:Kp S o h o' h') {b:Nat} {t:τ} (hb:o' b=some t) (hs:S t) (x:Obj):Kp S o h o' (h'.setIfInBounds b x):=by
 refine k.trans ⟨by rw[Array.size_setIfInBounds];exact Nat.le_refl _,fun c hc hn=>⟨?_,rfl⟩,fun _ _ t ht hs=>⟨t,ht,hs⟩,fun c hc t ht=>(by rw[k.ZX c hc]at ht;cases ht),fun c hc=>k.ZX c (by rw[Array.size_setIfInBounds]at hc;exact hc)⟩
 rw[Array.getElem?_setIfInBounds,if_neg (fun e=>hn t (by rw[←e];exact hb) hs)]
theorem Kp.CS (k:Kp S o h o' h') {b:Nat} (hb:h.size≤b) (x:Obj):Kp S o h o' (h'.setIfInBounds b x):=by
 refine⟨by rw[Array.size_setIfInBounds];exact k.size,fun c hc hn=>⟨?_,(k.Zd c hc hn).2⟩,k.stay,k.new,fun c hc=>k.ZX c (by rw[Array.size_setIfInBounds]at hc;exact hc)⟩
 rw[Array.getElem?_setIfInBounds,if_neg (fun e=>by omega)]
 exact (k.Zd c hc hn).1
def Jj (o:Nat→Option τ) (b:Nat) (t:τ):Nat→Option τ:=fun c=>if c=b then some t else o c
theorem YT {b:Nat} {t:τ}:Jj o b t b=some t:=if_pos rfl
theorem YZ {b c:Nat} {t:τ} (hc:c≠b):Jj o b t c=o c:=if_neg hc
theorem Kp.Ty (k:Kp S o h o' h') {b:Nat} {t:τ} (hb:h.size≤b) (ZC:b<h'.size) (hs:S t):Kp S o h (Jj o' b t) h':=
 ⟨k.size,fun c hc hn=>⟨(k.Zd c hc hn).1,by rw[YZ (by omega)];exact (k.Zd c hc hn).2⟩,fun c hc u hu hsu=>by rw[YZ (by omega)];exact k.stay c hc u hu hsu,
  fun c hc u hu=>by
  by_cases Ho:c=b
  ·subst Ho;rw[YT]at hu;cases hu;exact hs
  ·rw[YZ Ho]at hu;exact k.new c hc u hu,
  fun c hc=>by rw[YZ (by omega)];exact k.ZX c hc⟩
def Yt (o:Nat→Option τ) (t:τ) (E:TypeId) (n:Nat) (h:Hp) (v:Value) (m:Nat) (cs:List Value):Prop:=
 ((∃p,v=.slice p 0 0)∧m=0∧cs=[]) ∨
 ∃b k cap pre spare,o b=some t∧v=.slice (some ⟨b,k,none⟩) m cap∧h[b]? = some (.cells (pre++(cs++spare)).toArray E (0,0))∧pre.length=k∧cs.length=m*n∧spare.length=(cap-m)*n∧m≤cap
variable {t:τ} {E:TypeId} {n m:Nat} {v:Value} {cs:List Value}
theorem Yt.nil (o:Nat→Option τ) (t:τ) (E:TypeId) (n:Nat) (h:Hp):Yt o t E n h (.slice none 0 0) 0 []:=.inl ⟨⟨_,rfl⟩,rfl,rfl⟩
theorem Yt.Zd (s:Yt o t E n h v m cs) (k:Kp S o h o' h') (hn:¬S t):Yt o' t E n h' v m cs:=by
 rcases s with s|⟨b,j,cap,pre,spare,h1,h2,h3,h4,h5,h6,h7⟩
 ·exact .inl s
 ·have SO:∀u,o b=some u→¬S u:=fun u hu=>by rw[h1]at hu;cases hu;exact hn
  exact .inr ⟨b,j,cap,pre,spare,by rw[k.own h3 SO,h1],h2,k.get h3 SO,h4,h5,h6,h7⟩
theorem Yt.sl (s:Yt o t E n h v m cs):Sl n h v m cs:=by
 rcases s with⟨⟨p,rfl⟩,rfl,rfl⟩|⟨b,j,cap,pre,spare,h1,rfl,h3,h4,h5,h6,h7⟩
 ·exact⟨p,0,rfl,by simp,fun Ys=>absurd rfl Ys⟩
 ·exact UB h3 h5 h4.symm
theorem Yt.length (s:Yt o t E n h v m cs):cs.length=m*n:=by
 rcases s with⟨_,rfl,rfl⟩|⟨b,j,cap,pre,spare,h1,h2,h3,h4,h5,h6,h7⟩
 ·simp
 ·exact h5
theorem Yt.isSlice (s:Yt o t E n h v m cs):∃p c,v=.slice p m c∧m≤c:=by
 rcases s with⟨⟨p,rfl⟩,rfl,rfl⟩|⟨b,j,cap,pre,spare,h1,rfl,h3,h4,h5,h6,h7⟩
 ·exact⟨p,0,rfl,Nat.le_refl _⟩
 ·exact⟨_,cap,rfl,h7⟩
theorem Yt.tail {p:Option Addr} {c:Nat} (s:Yt o t E n h (.slice p m c) m cs) {k:Nat} (hk:k≤m):Yt o t E n h (.slice (if c=k then p else p.map (·.add (k*n))) (m-k) (c-k)) (m-k) (cs.drop (k*n)):=by
 rcases s with⟨⟨q,h1⟩,h2,h3⟩|⟨b,j,cap,pre,spare,h1,h2,h3,h4,h5,h6,h7⟩
 ·simp only[Value.slice.injEq]at h1
  obtain⟨rfl,rfl,rfl⟩:=h1
  have e:k=0:=by omega
  subst e
  subst h3
  exact .inl ⟨⟨_,rfl⟩,rfl,by simp⟩
 ·simp only[Value.slice.injEq]at h2
  obtain⟨rfl,_,rfl⟩:=h2
  have hmn:k*n≤m*n:=Nat.mul_le_mul_right _ hk
  by_cases hc:c=k
  ·have hm:m=k:=by omega
   rw[if_pos hc]
   refine .inl ⟨⟨some ⟨b,j,none⟩,by rw[hc,hm,Nat.sub_self]⟩,by omega,?_⟩
   exact List.drop_eq_nil_of_le (by rw[h5,hm];exact Nat.le_refl _)
  ·rw[if_neg hc]
   refine .inr ⟨b,j+k*n,c-k,pre++cs.take (k*n),spare,h1,by rw[Option.map_some,YQ],?_,?_,?_,?_,by omega⟩
   ·rw[List.append_assoc,←List.append_assoc (List.take _ _),List.take_append_drop];exact h3
   ·rw[List.length_append,List.length_take,h4,h5];omega
   ·rw[List.length_drop,h5,Nat.sub_mul]
   ·rw[h6];congr 1;omega
variable {P:Program} {T:World} {K:Value→Hp→Prop} {F:Env} {ty:TypeId}
theorem FK {a b c vs:List Value} {i:Nat} (hi:i=a.length+b.length) (hv:vs.length≤c.length):Yn (a++(b++c)) i vs=a++((b++vs)++c.drop vs.length):=by
 subst hi
 have e1:a++(b++c)=(a++b)++c:=by rw[List.append_assoc]
 rw[e1,←List.length_append,UH,JZ _ _ hv]
 simp
theorem XQ {sT xT E' k bytes:Nat} {s:Value} {news zs:List Value} {cb:Array Bool} (Uq:Jg P sT=some E) (Hx:P.underlying xT=some (.slice E')) (hn:tn P E=some n) (hz:tz P E=some zs) (Cu:zs.length=n) (Sc:tb P E=some bytes)
  (own:Yt o t E n h v m cs) (d:Q8 o h) (src:Sl n h s k news) (Xb:news.all Z8=true) (Ym:(m+k)*bytes≤140737488355328) (Hy:1≤bytes)
  (H:∀v' o' h',Yt o' t E n h' v' (m+k) (cs++news)→Kp (fun u=>u=t) o h o' h'→(∀b,b<h.size→o' b=o b)→K v' h'):Tn P T .append #[sT,xT] ty cb [v,s] K h:=by
 unfold Jg at Uq
 split at Uq
 ·rename_i e' hu
  simp only[Option.some.injEq]at Uq
  subst Uq
  show hw P (do pure (.value (←Builtin.append_ #[sT,xT] ty #[v,s]))) (Xp P T K) h
  rw[Zf]
  show hw P (Builtin.append_ #[sT,xT] ty #[v,s]) K h
  obtain⟨i0,Th⟩:∃i,P.info? e'=some i:=by
   unfold tn at hn
   cases hi:P.info? e' with
   | none=>rw[hi]at hn;cases hn
   | some i=>exact⟨i,rfl⟩
  have S9:i0.bytes=bytes:=by unfold tb at Sc;rw[Th]at Sc;simpa using Sc
  obtain⟨z0,GR,Cv⟩:∃z,i0.zero=some z∧z.cells.toList=zs:=by
   unfold tz at hz;rw[Th]at hz
   cases Mn:i0.zero with
   | none=>rw[Option.bind_some,Mn]at hz;cases hz
   | some z=>rw[Option.bind_some,Mn]at hz;exact⟨z,rfl,by simpa using hz⟩
  obtain⟨base,cap,hv,gK⟩:=own.isSlice
  subst hv
  have cW:∀{Q:Value→Hp→Prop} (g:Hp),hw P (zeroValue e') Q g=Q z0 g:=fun {Q} g=>by
   unfold zeroValue;rw[Zf,Y0 Th];simp only[GR];rfl
  have UJ:news.length=k*n:=by obtain⟨_,_,_,hl,_⟩:=src;exact hl
  simp only[Builtin.append_,List.getElem?_toArray,List.getElem?_cons_zero,List.getElem?_cons_succ,Zf,Zu,Zt hu,Zt Hx,run_sizeOf hn,Bool.false_eq_true,if_false,src.lenOf,Bool.not_false,if_true]
  by_cases JO:m+k≤cap
  ·rw[if_pos JO,Zf]
   refine Z3 src ?_
   rcases own with⟨⟨p,h1⟩,h2,h3⟩|⟨b,j,MX,pre,spare,h1,h2,h3,h4,h5,h6,h7⟩
   ·simp only[Value.slice.injEq]at h1
    obtain⟨rfl,rfl,rfl⟩:=h1
    have hk:k=0:=by omega
    subst hk;subst h3
    have Ys:news=[]:=List.eq_nil_of_length_eq_zero (by simpa using UJ)
    subst Ys
    have hK:K (.slice base (0+0) 0) h:=H _ o h (.inl ⟨⟨_,rfl⟩,rfl,rfl⟩) (Kp.refl d _) (fun _ _=>rfl)
    cases base<;>exact hK
   ·simp only[Value.slice.injEq]at h2
    obtain⟨rfl,_,rfl⟩:=h2
    simp only[Zf,YQ]
    have VC:news.length≤spare.length:=by rw[UJ,h6];exact Nat.mul_le_mul_right _ (by omega)
    refine Yg (e:=e') (lo:=0) (hi:=0) rfl (Nat.le_refl _) news 0 h (pre++(cs++spare)).toArray h3 ?_ Xb ?_
    ·simp;rw[h4,←h5];omega
    ·simp only[Zu,Nat.add_zero]
     refine H _ o _ (.inr ⟨b,j,cap,pre,spare.drop news.length,h1,rfl,?_,h4,?_,?_,JO⟩) ((Kp.refl d (fun u=>u=t)).set h1 rfl _) (fun _ _=>rfl)
     ·rw[Array.getElem?_setIfInBounds,if_pos rfl,if_pos (Za h3)]
      rw[FK (by rw[h4,h5]) VC]
     ·rw[List.length_append,h5,UJ,Nat.add_mul]
     ·rw[List.length_drop,h6,UJ,←Nat.sub_mul];congr 1;omega
  ·rw[if_neg JO]
   have Qk:¬Builtin.nextslicecap (m+k) cap*i0.bytes>2 ^ 48:=by
    rw[S9]
    have:=UI (m+k) cap bytes (by omega) Ym
    omega
   have Cw:¬i0.bytes=0:=by rw[S9];omega
   simp only[Zf,Y0 Th,Cw,or_false,and_false,if_false,if_neg Qk]
   intro q
   obtain⟨c,hc⟩:=ZA (Question.cut (Question.appendCap (m+k) cap e') q)
   have jy:m+k≤c:=by rw[hc];simp only[Question.cut];omega
   rw[←hc]
   have Ra:∀{Q:Unit→Hp→Prop} (b:Nat) (g:Hp),Q () g→hw P (askRoom b) Q g:=fun {Q} b g q=>by
    unfold askRoom;split<;>exact q
   refine Ra _ _ (Z3 own.sl (Z3 src ?_))
   rw[cW]
   have jz:z0.cells.size=n:=by rw[←Cu,←Cv];simp
   refine H (.slice (some ⟨h.size,0,none⟩) (m+k) c) (Jj o h.size t) _ (.inr ⟨h.size,0,c,[],(Builtin.zeroCells z0.cells (c-(m+k))).toList,YT,rfl,?_,rfl,?_,?_,jy⟩) (((Kp.refl d _).push _).Ty (Nat.le_refl _) (by simp) rfl) (fun b hb=>YZ (by omega))
   ·rw[Array.getElem?_push_size]
    simp
   ·rw[List.length_append,own.length,UJ,Nat.add_mul]
   ·rw[Array.length_toList,Yy,jz]
 ·cases Uq
theorem Lf {sT xT E' k b off cap:Nat} {s:Value} {pre spare news zs:List Value} {cb:Array Bool} (Uq:Jg P sT=some E) (Hx:P.underlying xT=some (.slice E')) (hn:tn P E=some n) (hz:tz P E=some zs)
  (hb:h[b]? = some (.cells (pre++(cs++spare)).toArray E (0,0))) (ho:off=pre.length) (hl:cs.length=m*n) (src:Sl n h s k news) (Xb:news.all Z8=true) (JO:m+k≤cap) (Ym:k*n≤spare.length)
  (H:K (.slice (some ⟨b,off,none⟩) (m+k) cap) (h.setIfInBounds b (.cells (pre++((cs++news)++spare.drop (k*n))).toArray E (0,0)))):Tn P T .append #[sT,xT] ty cb [.slice (some ⟨b,off,none⟩) m cap,s] K h:=by
 unfold Jg at Uq
 split at Uq
 ·rename_i e' hu
  simp only[Option.some.injEq]at Uq
  subst Uq
  show hw P (do pure (.value (←Builtin.append_ #[sT,xT] ty #[.slice (some ⟨b,off,none⟩) m cap,s]))) (Xp P T K) h
  rw[Zf]
  show hw P (Builtin.append_ #[sT,xT] ty #[.slice (some ⟨b,off,none⟩) m cap,s]) K h
  obtain⟨i0,Th⟩:∃i,P.info? e'=some i:=by
   unfold tn at hn
   cases hi:P.info? e' with
   | none=>rw[hi]at hn;cases hn
   | some i=>exact⟨i,rfl⟩
  obtain⟨z0,GR,Cv⟩:∃z,i0.zero=some z∧z.cells.toList=zs:=by
   unfold tz at hz;rw[Th]at hz
   cases Mn:i0.zero with
   | none=>rw[Option.bind_some,Mn]at hz;cases hz
   | some z=>rw[Option.bind_some,Mn]at hz;exact⟨z,rfl,by simpa using hz⟩
  have UJ:news.length=k*n:=by obtain⟨_,_,_,hl,_⟩:=src;exact hl
  simp only[Builtin.append_,List.getElem?_toArray,List.getElem?_cons_zero,List.getElem?_cons_succ,Zf,Zu,Zt hu,Zt Hx,run_sizeOf hn,Bool.false_eq_true,if_false,src.lenOf,Bool.not_false,if_true]
  rw[if_pos JO,Zf]
  refine Z3 src ?_
  simp only[Zf,YQ]
  refine Yg (e:=e') (lo:=0) (hi:=0) rfl (Nat.le_refl _) news 0 h (pre++(cs++spare)).toArray hb ?_ Xb ?_
  ·simp;rw[ho,hl.symm];omega
  ·simp only[Zu,Nat.add_zero]
   have e:Yn (pre++(cs++spare)) (off+m*n) news=pre++((cs++news)++spare.drop (k*n)):=by
    rw[FK (by rw[ho,hl]) (by omega),UJ]
   rw[e]
   exact H
 ·cases Uq
theorem Ol {sT:TypeId} {zs:List Value} {cb:Array Bool} {b off k c:Nat} {pre uq post:List Value} (Uq:Jg P sT=some E) (hz:tz P E=some zs) (Cu:zs.length=n) (HT:zs.all Z8=true)
  (hb:h[b]? = some (.cells (pre++(uq++post)).toArray E (0,0))) (ho:off=pre.length) (hl:uq.length=k*n)
  (H:∀new:List Value,new.length=uq.length→K (.tuple #[]) (h.setIfInBounds b (.cells (pre++(new++post)).toArray E (0,0)))):Tn P T .clear #[sT] ty cb [.slice (some ⟨b,off,none⟩) k c] K h:=by
 unfold Jg at Uq
 split at Uq
 ·rename_i e' hu
  simp only[Option.some.injEq]at Uq
  subst Uq
  show hw P (do pure (.value (←Builtin.clear_ #[sT] ty #[.slice (some ⟨b,off,none⟩) k c]))) (Xp P T K) h
  rw[Zf]
  show hw P (Builtin.clear_ #[sT] ty #[.slice (some ⟨b,off,none⟩) k c]) K h
  have same:h.setIfInBounds b (.cells (pre++(uq++post)).toArray e' (0,0))=h:=by
   apply Array.ext_getElem?
   intro j
   rw[Array.getElem?_setIfInBounds]
   by_cases hj:b=j
   ·subst hj;rw[if_pos rfl,if_pos (Za hb),hb]
   ·rw[if_neg hj]
  show hw P (do
   match ←underlying sT,(Value.slice (some ⟨b,off,none⟩) k c) with
   | _,.map none|_,.slice none _ _|_,.slice _ 0 _=>pure ()
   | _,.map (some r)=>
    let .map _ clock ←getObj r|stuck "clear: map expected"
    setObj r (.map #[] clock)
   | .slice elem,.slice (some a) n _=>
    storeCells a (Builtin.zeroCells (←zeroValue elem).cells n).toList
   | _,_=>stuck "clear: map or slice expected"
   pure (.tuple #[])) K h
  rw[Zf,Zt hu]
  cases k with
  | zero=>
   have h0:uq=[]:=List.eq_nil_of_length_eq_zero (by rw[hl];simp)
   subst h0
   have:=H [] rfl
   rw[same]at this
   exact this
  | succ k=>
   obtain⟨i0,Th⟩:∃i,P.info? e'=some i:=by
    unfold tz at hz
    cases hi:P.info? e' with
    | none=>rw[hi]at hz;cases hz
    | some i=>exact⟨i,rfl⟩
   obtain⟨z0,GR,Cv⟩:∃z,i0.zero=some z∧z.cells.toList=zs:=by
    unfold tz at hz;rw[Th]at hz
    cases Mn:i0.zero with
    | none=>rw[Option.bind_some,Mn]at hz;cases hz
    | some z=>rw[Option.bind_some,Mn]at hz;exact⟨z,rfl,by simpa using hz⟩
   have cW:∀{Q:Value→Hp→Prop} (g:Hp),hw P (zeroValue e') Q g=Q z0 g:=fun {Q} g=>by
    unfold zeroValue;rw[Zf,Y0 Th];simp only[GR];rfl
   simp only[Zf]
   rw[cW]
   have jz:z0.cells.size=n:=by rw[←Cu,←Cv];simp
   have DH:(Builtin.zeroCells z0.cells (k+1)).toList.length=uq.length:=by rw[Array.length_toList,Yy,jz,hl]
   refine Yg (a:=⟨b,off,none⟩) (e:=e') (lo:=0) (hi:=0) rfl (Nat.le_refl _) _ 0 h (pre++(uq++post)).toArray hb ?_ ?_ ?_
   ·simp only[List.size_toArray,List.length_append,DH];omega
   ·rw[List.all_eq_true]
    intro x hx
    have hx:x∈Builtin.zeroCells z0.cells (k+1):=by simpa using hx
    have Rj:x∈zs:=by
     rw[←Cv]
     unfold Builtin.zeroCells at hx
     rw[Array.mem_map]at hx
     obtain⟨i,hi,rfl⟩:=hx
     rw[Array.mem_range]at hi
     have MM:0<z0.cells.size:=by
      rcases Nat.eq_zero_or_pos z0.cells.size with q|q
      ·rw[q,Nat.mul_zero]at hi;omega
      ·exact q
     have ZC:i%z0.cells.size<z0.cells.size:=Nat.mod_lt _ MM
     rw[getElem!_pos z0.cells _ ZC]
     simp
    exact List.all_eq_true.1 HT x Rj
   ·simp only[Nat.add_zero]
    have e1:Yn (pre++(uq++post)).toArray.toList off (Builtin.zeroCells z0.cells (k+1)).toList=pre++((Builtin.zeroCells z0.cells (k+1)).toList++post):=Wk ho DH
    rw[e1]
    exact H _ DH
 ·cases Uq
end
end Go.V
