/- W22: maps whose keys are structs of plain cells, with an integer for each; entries are never struck. -/
import Derived.Test.YthlfaofofaphfaaDoorW21
import Derived.Sort.Grow
import Derived.Deep.Draws
import Derived.Lib.UnsafeStr
namespace Go.V
set_option linter.unusedVariables false
set_option linter.unusedSimpArgs false
section
variable {P:Program} {T:World} {ty:TypeId} {F:Env} {h:Hp} {K:Value→Hp→Prop}
variable {α:Type} [DecidableEq α] {enc:α→List Value}
theorem UY {v:Value} {Q:Value→Hp→Prop} (H:Q v h):hw P (Instr.keyThatStays v v) Q h:=by
 unfold Instr.keyThatStays
 split
 ·exact H
 ·rw[Za]
  show hw P (choose _) _ h
  have e:∀t:Nat,hw P (pure (if t=0 then v else v)) Q h:=fun t=>by rw[ite_self];exact H
  show (if _ then _ else _)
  split
  ·exact e 0
  ·exact fun t=>e _
end
section
variable {P:Program} {n:Nat} {T:World} {N:Env→Hp→Prop} {X:Nat→Env→Hp→Prop} {R:Env→Hp→Prop} {F:Env} {h:Hp}
def XU (P:Program) (T:World) (ops:Array Oper) (S:Hp→Prop) (W:List Nat) (N:Env→Hp→Prop):Nat→Array Bool→Env→Hp→Prop
 | 0,listed,F,h=>Region.ready .any ops listed=[]∧N F h
 | k+1,listed,F,h=>(Region.ready .any ops listed=[]→N F h) ∧
   ∀i∈Region.ready .any ops listed,ZS P T ops i (fun F' h'=>(i∈W∨(S h→S h'))∧XU P T ops S W N k (listed.setIfInBounds i true) F' h') F h
theorem Qy {ops:Array Oper} {S:Hp→Prop} {W:List Nat}:∀(k:Nat) (listed:Array Bool) (F:Env) (h:Hp),XU P T ops S W N k listed F h→Wh P T ops (fun _=>True) N k listed F h:=by
 intro k
 induction k with
 | zero=>intro listed F h H;exact H
 | succ k ih=>intro listed F h H;exact⟨H.1,fun i hi=>ZA (fun F' h' q=>⟨trivial,ih _ _ _ q.2⟩) (H.2 i hi)⟩
theorem YC {ops:Array Oper} {S S1:Hp→Prop} {W:List Nat} {i:Nat} {oi:Oper} {v:Value} (hi:ops[i]? = some oi) (Ut:∀(j:Nat) (o:Oper) cs b,ops[j]? = some o→o.op ≠ .select cs b)
  (hW:(∀h,S1 h)∨((∀h,S h→S1 h)∧∀j∈W,∃f,Yb ops f j i=true)) :
  ∀(k:Nat) (listed:Array Bool) (F:Env) (h:Hp),ZK ops listed →
   (∀j oj,ops[j]? = some oj→j≠i→listed.getD j true=false→(∀e∈oj.after,Region.binds .any e=true→e.on≠i)→oi.apart ops oj=true) →
   i∈Region.ready .any ops listed→Z0 P T ops S1 oi v F→((∀h,S1 h)∨S h) →
   XU P T ops S W N k (listed.setIfInBounds i true) (Zi F oi.dst v) h→XU P T ops S W N (k+1) listed F h:=by
 intro k
 induction k with
 | zero=>
  intro listed F h _ _ hr hy hS H
  have Ln:S1 h:=hS.elim (fun q=>q h) (fun q=>hW.elim (fun p=>p h) (fun p=>p.1 h q))
  refine⟨fun h=>(by rw[h]at hr;cases hr),fun j hj=>?_⟩
  by_cases Jk:j=i
  ·subst Jk;exact hy.Ou hi Ln ⟨.inr id,H⟩
  ·have:=ready_mono hj Jk
   rw[H.1]at this
   cases this
 | succ k ih=>
  intro listed F h ZR Jl hr hy hS H
  have Ln:S1 h:=hS.elim (fun q=>q h) (fun q=>hW.elim (fun p=>p h) (fun p=>p.1 h q))
  refine⟨fun h=>(by rw[h]at hr;cases hr),fun j hj=>?_⟩
  by_cases Jk:j=i
  ·subst Jk;exact hy.Ou hi Ln ⟨.inr id,H⟩
  ·have h1:=H.2 j (ready_mono hj Jk)
   obtain⟨Uu,oj,VQ,YF⟩:=mem_ready.1 hj
   have TV:∀e∈oj.after,Region.binds .any e=true→e.on≠i:=fun e he hb heq=>by
    have h1:=YF e he hb
    have h0:=(mem_ready.1 hr).1
    rw[heq]at h1
    rcases Nat.lt_or_ge i listed.size with h'|h'
    ·simp[h']at h0 h1;rw[h0]at h1;cases h1
    ·simp[Array.getElem?_eq_none h']at h1
   have h2:=JM VQ (Jl j oj VQ Jk Uu TV) (fun cs b=>Ut i oi cs b hi) (fun cs b=>Ut j oj cs b VQ) hy h1
   have JO:∀k ok,ops[k]? = some ok→k≠i→(listed.setIfInBounds j true).getD k true=false →
     (∀e∈ok.after,Region.binds .any e=true→e.on≠i)→oi.apart ops ok=true:=fun k ok hk OO Pa OP=>by
    refine Jl k ok hk OO ?_ OP
    by_cases Vv:j=k
    ·subst Vv;exact Uu
    ·rw[getD_set_ne true Vv]at Pa;exact Pa
   refine ZA (fun F' h' h3=>?_) h2
   refine⟨h3.2.1,ih (listed.setIfInBounds j true) F' h' (ZR.set hj) JO (ready_mono hr (Ne.symm Jk)) h3.1 ?_ ?_⟩
   ·rcases hW with hW|⟨HV,Is⟩
    ·exact .inl hW
    ·rcases hS with hS|hS
     ·exact .inl hS
     ·rcases h3.2.1 with Ld|It
      ·obtain⟨f,hf⟩:=Is j Ld
       have h1:=Jq ZR hf hj
       have h0:=(mem_ready.1 hr).1
       rcases Nat.lt_or_ge i listed.size with h'|h'
       ·simp[h']at h0 h1;rw[h0]at h1;cases h1
       ·simp[Array.getElem?_eq_none h']at h1
      ·exact .inr (It hS)
   ·rw[Array.setIfInBounds_comm _ _ Jk]
    exact h3.2.2
inductive Tz where
 | nil
 | p (i:Nat) (t:Tz)
 | q (i:Nat) (t:Tz)
 | s (i:Nat) (t:Tz)
 | w (i:Nat) (t:Tz)
 | or (i:Nat) (t:Tz) (r:Tz)
def Tz.alts:Tz→List Nat
 | .s i _=>[i]
 | .w i _=>[i]
 | .or i _ r=>i :: r.alts
 | _=>[]
def Tz.XS:Tz→Bool
 | .q _ _=>true
 | .p _ t=>t.XS
 | .s _ t=>t.XS
 | .or _ t r=>t.XS||r.XS
 | _=>false
def Tz.ok (ops:Array Oper) (W:List Nat):Tz→Nat→Array Bool→Bool→Bool
 | .nil,n,listed,_=>Nat.beq n 0&&(Region.ready .any ops listed).isEmpty
 | .p _ _,0,_,_=>false
 | .p i t,n+1,listed,_=>((Region.ready .any ops listed).contains i&&Region.free .any ops listed i)&&t.ok ops W n (listed.setIfInBounds i true) true
 | .q _ _,0,_,_=>false
 | .q i t,n+1,listed,_=>((Region.ready .any ops listed).contains i&&(Region.free .any ops listed i&&W.all fun j=>Yb ops VG j i))&&t.ok ops W n (listed.setIfInBounds i true) true
 | .s _ _,0,_,_=>false
 | .s i t,n+1,listed,b=>(!b||(Region.ready .any ops listed == [i]))&&t.ok ops W n (listed.setIfInBounds i true) true
 | .w _ _,0,_,_=>false
 | .w i t,n+1,listed,b=>((!b||(Region.ready .any ops listed == [i]))&&(W.contains i&&!t.XS))&&t.ok ops W n (listed.setIfInBounds i true) true
 | .or _ _ _,0,_,_=>false
 | .or i t r,n+1,listed,b=>(!b||(Region.ready .any ops listed == i :: r.alts))&&(t.ok ops W n (listed.setIfInBounds i true) true&&r.ok ops W (n+1) listed false)
def Uo (P:Program) (T:World) (ops:Array Oper) (S:Hp→Prop) (N:Env→Hp→Prop):Tz→Env→Hp→Prop
 | .nil,F,h=>N F h
 | .p i t,F,h=>match ops[i]? with
  | some o=>if Zh ops o F then ∃v,(∀h',Us P T o (fun v' X3=>v'=v∧X3=h') F h')∧Uo P T ops S N t (Zi F o.dst v) h else Uo P T ops S N t (Zi F o.dst undef) h
  | none=>False
 | .q i t,F,h=>match ops[i]? with
  | some o=>if Zh ops o F then ∃v,(∀h',S h'→Us P T o (fun v' X3=>v'=v∧X3=h') F h')∧Uo P T ops S N t (Zi F o.dst v) h else Uo P T ops S N t (Zi F o.dst undef) h
  | none=>False
 | .s i t,F,h=>ZS P T ops i (fun F' h'=>S h'∧Uo P T ops S N t F' h') F h
 | .w i t,F,h=>ZS P T ops i (fun F' h'=>Uo P T ops S N t F' h') F h
 | .or i t r,F,h=>ZS P T ops i (fun F' h'=>S h'∧Uo P T ops S N t F' h') F h∧Uo P T ops S N r F h
theorem Uf {ops:Array Oper} {S:Hp→Prop} {W:List Nat} (hs:Region.noSelect ops=true):∀(t:Tz),
  (∀(k:Nat) (listed:Array Bool) (F:Env) (h:Hp),ZK ops listed→t.ok ops W k listed true=true→(t.XS=true→S h)→Uo P T ops S N t F h→XU P T ops S W N k listed F h) ∧
  (∀(k:Nat) (listed:Array Bool) (F:Env) (h:Hp),ZK ops listed→t.ok ops W (k+1) listed false=true→Uo P T ops S N t F h→∀j∈t.alts,j∈Region.ready .any ops listed→ZS P T ops j (fun F' h'=>(j∈W∨(S h→S h'))∧XU P T ops S W N k (listed.setIfInBounds j true) F' h') F h):=by
 intro t
 induction t with
 | nil=>
  refine⟨fun k listed F h ZR hB hS H=>?_,fun k listed F h _ _ _ j hj=>by cases hj⟩
  simp only[Tz.ok,Bool.and_eq_true,List.isEmpty_iff]at hB
  obtain⟨h1,h2⟩:=hB
  obtain rfl:=Nat.eq_of_beq_eq_true h1
  exact⟨h2,H⟩
 | p i t ih=>
  refine⟨fun k listed F h ZR hB hS H=>?_,fun k listed F h _ _ _ j hj=>by cases hj⟩
  cases k with
  | zero=>simp[Tz.ok]at hB
  | succ k=>
   simp only[Tz.ok,Bool.and_eq_true]at hB
   obtain⟨⟨h1,h2⟩,h3⟩:=hB
   have Xo:i∈Region.ready .any ops listed:=by simpa using h1
   obtain⟨_,o,ho,_⟩:=mem_ready.1 Xo
   simp only[Uo,ho]at H
   split at H
   ·rename_i Wg
    obtain⟨v,hv,H⟩:=H
    exact YC (S1:=fun _=>True) ho (Region.noSelect_spec hs) (.inl fun _=>trivial) k listed F h ZR (Region.free_spec ho h2) Xo (.inl ⟨Wg,fun h' _=>hv h'⟩) (.inl fun _=>trivial) (ih.1 k _ _ _ (ZR.set Xo) h3 hS H)
   ·rename_i Wg
    exact YC (S1:=fun _=>True) ho (Region.noSelect_spec hs) (.inl fun _=>trivial) k listed F h ZR (Region.free_spec ho h2) Xo (.inr ⟨by simpa using Wg,rfl⟩) (.inl fun _=>trivial) (ih.1 k _ _ _ (ZR.set Xo) h3 hS H)
 | q i t ih=>
  refine⟨fun k listed F h ZR hB hS H=>?_,fun k listed F h _ _ _ j hj=>by cases hj⟩
  have hS:=hS rfl
  cases k with
  | zero=>simp[Tz.ok]at hB
  | succ k=>
   simp only[Tz.ok,Bool.and_eq_true]at hB
   obtain⟨⟨h1,h2,hw⟩,h3⟩:=hB
   have Xo:i∈Region.ready .any ops listed:=by simpa using h1
   obtain⟨_,o,ho,_⟩:=mem_ready.1 Xo
   have hW:∀j∈W,∃f,Yb ops f j i=true:=fun j hj=>⟨VG,List.all_eq_true.1 hw j hj⟩
   simp only[Uo,ho]at H
   split at H
   ·rename_i Wg
    obtain⟨v,hv,H⟩:=H
    exact YC ho (Region.noSelect_spec hs) (.inr ⟨fun _ q=>q,hW⟩) k listed F h ZR (Region.free_spec ho h2) Xo (.inl ⟨Wg,hv⟩) (.inr hS) (ih.1 k _ _ _ (ZR.set Xo) h3 (fun _=>hS) H)
   ·rename_i Wg
    exact YC ho (Region.noSelect_spec hs) (.inr ⟨fun _ q=>q,hW⟩) k listed F h ZR (Region.free_spec ho h2) Xo (.inr ⟨by simpa using Wg,rfl⟩) (.inr hS) (ih.1 k _ _ _ (ZR.set Xo) h3 (fun _=>hS) H)
 | s i t ih=>
  have second:∀(k:Nat) (listed:Array Bool) (F:Env) (h:Hp),ZK ops listed→i∈Region.ready .any ops listed→t.ok ops W k (listed.setIfInBounds i true) true=true→Uo P T ops S N (.s i t) F h→ZS P T ops i (fun F' h'=>(i∈W∨(S h→S h'))∧XU P T ops S W N k (listed.setIfInBounds i true) F' h') F h:=by
   intro k listed F h ZR Xo hB H
   exact ZA (fun F' h' q=>⟨.inr fun _=>q.1,ih.1 k _ _ _ (ZR.set Xo) hB (fun _=>q.1) q.2⟩) H
  refine⟨fun k listed F h ZR hB hS H=>?_,fun k listed F h ZR hB H j hj hr=>?_⟩
  ·cases k with
   | zero=>simp[Tz.ok]at hB
   | succ k=>
    simp only[Tz.ok,Bool.and_eq_true,Bool.not_true,Bool.false_or,beq_iff_eq]at hB
    refine⟨fun h0=>(by rw[hB.1]at h0;cases h0),fun j hj=>?_⟩
    have hr:=hj
    rw[hB.1]at hj
    have hj:j=i:=by simpa using hj
    subst hj
    exact second k listed F h ZR hr hB.2 H
  ·simp only[Tz.ok,Bool.and_eq_true]at hB
   have hj:j=i:=by simpa [Tz.alts] using hj
   subst hj
   exact second k listed F h ZR hr hB.2 H
 | w i t ih=>
  have second:∀(k:Nat) (listed:Array Bool) (F:Env) (h:Hp),ZK ops listed→i∈Region.ready .any ops listed→i∈W→t.XS=false→t.ok ops W k (listed.setIfInBounds i true) true=true→Uo P T ops S N (.w i t) F h→ZS P T ops i (fun F' h'=>(i∈W∨(S h→S h'))∧XU P T ops S W N k (listed.setIfInBounds i true) F' h') F h:=by
   intro k listed F h ZR Xo hw hq hB H
   exact ZA (fun F' h' q=>⟨.inl hw,ih.1 k _ _ _ (ZR.set Xo) hB (fun e=>by rw[hq]at e;cases e) q⟩) H
  refine⟨fun k listed F h ZR hB hS H=>?_,fun k listed F h ZR hB H j hj hr=>?_⟩
  ·cases k with
   | zero=>simp[Tz.ok]at hB
   | succ k=>
    simp only[Tz.ok,Bool.and_eq_true,Bool.not_true,Bool.false_or,beq_iff_eq,Bool.not_eq_true']at hB
    obtain⟨⟨h1,h2,h3⟩,h4⟩:=hB
    refine⟨fun h0=>(by rw[h1]at h0;cases h0),fun j hj=>?_⟩
    have hr:=hj
    rw[h1]at hj
    have hj:j=i:=by simpa using hj
    subst hj
    exact second k listed F h ZR hr (by simpa using h2) h3 h4 H
  ·simp only[Tz.ok,Bool.and_eq_true,Bool.not_eq_true']at hB
   obtain⟨⟨h1,h2,h3⟩,h4⟩:=hB
   have hj:j=i:=by simpa [Tz.alts] using hj
   subst hj
   exact second k listed F h ZR hr (by simpa using h2) h3 h4 H
 | or i t r PY PZ=>
  have second:∀(k:Nat) (listed:Array Bool) (F:Env) (h:Hp),ZK ops listed→t.ok ops W k (listed.setIfInBounds i true) true=true→r.ok ops W (k+1) listed false=true→Uo P T ops S N (.or i t r) F h→∀j∈(Tz.or i t r).alts,j∈Region.ready .any ops listed→ZS P T ops j (fun F' h'=>(j∈W∨(S h→S h'))∧XU P T ops S W N k (listed.setIfInBounds j true) F' h') F h:=by
   intro k listed F h ZR hB hR H j hj hr
   rcases List.mem_cons.1 hj with hj|hj
   ·subst hj
    exact ZA (fun F' h' q=>⟨.inr fun _=>q.1,PY.1 k _ _ _ (ZR.set hr) hB (fun _=>q.1) q.2⟩) H.1
   ·exact PZ.2 k listed F h ZR hR H.2 j hj hr
  refine⟨fun k listed F h ZR hB hS H=>?_,fun k listed F h ZR hB H j hj hr=>?_⟩
  ·cases k with
   | zero=>simp[Tz.ok]at hB
   | succ k=>
    simp only[Tz.ok,Bool.and_eq_true,Bool.not_true,Bool.false_or,beq_iff_eq]at hB
    refine⟨fun h0=>(by rw[hB.1]at h0;cases h0),fun j hj=>?_⟩
    have hr:=hj
    rw[hB.1]at hj
    exact second k listed F h ZR hB.2.1 hB.2.2 H j hj hr
  ·simp only[Tz.ok,Bool.and_eq_true]at hB
   exact second k listed F h ZR hB.2.1 hB.2.2 H j hj hr
def SZ (P:Program) (T:World) (op:Op) (ty:TypeId) (C:Value→Prop) (F:Env):Prop:=
 match op with
 | .load _ _=>False
 | op=>X1 P T 0 #[] op ty C F
theorem QN {op:Op} {ty:TypeId} {C:Value→Prop} (H:SZ P T op ty C F):∃v,(∀h',Xc P T op ty (fun v' X3=>v'=v∧X3=h') F h')∧C v:=by
 cases op<;>first|exact H|exact H.elim
def Lo (P:Program) (T:World) (K:Env→Hp→Prop) (F:Env) (h:Hp) (d:Option Tmp) (op:Op) (ty:TypeId) (v:Value) (b:Bool):Prop:=ZJ v b (SZ P T op ty (fun v=>K (Zi F d v) h) F) (K (Zi F d undef) h)
def zP (P:Program) (T:World) (ops:List Oper) (K:Env→Hp→Prop) (F:Env) (h:Hp) (o:Option Oper):Prop:=
 match o with
 | some ⟨d,op,ty,_,_,none⟩=>SZ P T op ty (fun v=>K (Zi F d v) h) F
 | some ⟨d,op,ty,_,_,some (j,b)⟩=>Lo P T K F h d op ty (Yu ops F j) b
 | none=>False
def UZ (P:Program) (T:World) (ops:List Oper) (B:Nat) (h0:Hp) (N:Env→Hp→Prop):Tz→Env→Hp→Prop
 | .nil,F,h=>N F h
 | .p i t,F,h=>zP P T ops (UZ P T ops B h0 N t) F h (nth ops i)
 | .q i t,F,h=>wQ P T ops B h0 (UZ P T ops B h0 N t) F h (nth ops i)
 | .s i t,F,h=>wS P T ops B h0 (UZ P T ops B h0 N t) F h (nth ops i)
 | .w i t,F,h=>wW P T ops (UZ P T ops B h0 N t) F h (nth ops i)
 | .or i t r,F,h=>wS P T ops B h0 (UZ P T ops B h0 N t) F h (nth ops i)∧UZ P T ops B h0 N r F h
theorem Vd {ops:List Oper} {B:Nat} {h0:Hp} {N:Env→Hp→Prop}:∀(t:Tz) (F:Env) (h:Hp),UZ P T ops B h0 N t F h→Uo P T ops.toArray (fun h'=>Zg B h0 h') N t F h:=by
 intro t
 induction t with
 | nil=>intro F h H;exact H
 | p i t ih=>
  intro F h H
  simp only[UZ]at H
  simp only[Uo]
  cases ho:nth ops i with
  | none=>rw[ho]at H;exact H.elim
  | some o=>
   rw[Yw ho]
   rw[ho]at H
   obtain⟨d,op,ty,pos,Yf,g⟩:=o
   cases g with
   | none=>
    show (if Zh ops.toArray _ F=true then _ else _)
    rw[if_pos (by rfl)]
    obtain⟨v,hv,H⟩:=QN H
    exact⟨v,fun h'=>ZF (hv h'),ih _ _ H⟩
   | some jb=>
    obtain⟨j,b⟩:=jb
    show (if Zh ops.toArray _ F=true then _ else _)
    rcases Zo ops F d op pos Yf j b H with⟨hw,H⟩|⟨hw,H⟩
    ·rw[if_pos hw]
     obtain⟨v,hv,H⟩:=QN H
     exact⟨v,fun h'=>ZF (hv h'),ih _ _ H⟩
    ·rw[hw,if_neg (by simp)]
     exact ih _ _ H
 | q i t ih=>
  intro F h H
  simp only[UZ]at H
  simp only[Uo]
  cases ho:nth ops i with
  | none=>rw[ho]at H;exact H.elim
  | some o=>
   rw[Yw ho]
   rw[ho]at H
   obtain⟨d,op,ty,pos,Yf,g⟩:=o
   cases g with
   | none=>
    show (if Zh ops.toArray _ F=true then _ else _)
    rw[if_pos (by rfl)]
    obtain⟨v,hv,H⟩:=Yq H
    exact⟨v,fun h' hs=>ZF (hv h' hs),ih _ _ H⟩
   | some jb=>
    obtain⟨j,b⟩:=jb
    show (if Zh ops.toArray _ F=true then _ else _)
    rcases Zo ops F d op pos Yf j b H with⟨hw,H⟩|⟨hw,H⟩
    ·rw[if_pos hw]
     obtain⟨v,hv,H⟩:=Yq H
     exact⟨v,fun h' hs=>ZF (hv h' hs),ih _ _ H⟩
    ·rw[hw,if_neg (by simp)]
     exact ih _ _ H
 | s i t ih=>intro F h H;exact XT ih H
 | w i t ih=>intro F h H;exact US ih H
 | or i t r PY PZ=>intro F h H;exact⟨XT PY H.1,PZ _ _ H.2⟩
def NF (n:Nat) (ops:Array Oper) (W:List Nat) (t:Tz):Bool:=Jh n ops&&(Region.noSelect ops&&t.ok ops W ops.size (Array.replicate ops.size false) true)
theorem VS.z {id:Nat} {ops:List Oper} (B:Nat) (W:List Nat) (t:Tz) (hm:P.follows .mixedOrders=true) (ZW:NF n ops.toArray W t=true)
  (H:UZ P T ops B h N t F h):VS P n T (.region id ops.toArray true) N X R F h:=by
 intro a w h1 h2 h3 h4
 simp only[NF,Bool.and_eq_true]at ZW
 obtain⟨k1,k2,k3⟩:=ZW
 refine wp_region_any hm ?_
 refine ZE k1 _ _ F h (Qy _ _ _ _ ((Uf (S:=fun h'=>Zg B h h') k2 t).1 _ _ F h (Js _ _) k3 (fun _=>Zg.refl _ _) (Vd t F h H))) a _ h1 h2 h3 ⟨h4.heap,h4.tape,h4.os,h4.output⟩
variable {ops:List Oper} {B:Nat} {h0:Hp} {t r:Tz} {i j:Nat} {d:Option Tmp} {op:Op} {ty:TypeId} {pos:String} {Yf:Array Edge} {b c:Bool} {v:Value} {K:Env→Hp→Prop} {C:Value→Prop}
@[go_sem] theorem MB:UZ P T ops B h0 N .nil F h=N F h:=rfl
@[go_sem] theorem KE:UZ P T ops B h0 N (.p i t) F h=zP P T ops (UZ P T ops B h0 N t) F h (nth ops i):=rfl
@[go_sem] theorem KF:UZ P T ops B h0 N (.q i t) F h=wQ P T ops B h0 (UZ P T ops B h0 N t) F h (nth ops i):=rfl
@[go_sem] theorem KG:UZ P T ops B h0 N (.w i t) F h=wW P T ops (UZ P T ops B h0 N t) F h (nth ops i):=rfl
@[go_sem] theorem NG:zP P T ops K F h (some ⟨d,op,ty,pos,Yf,none⟩)=SZ P T op ty (Nn K F d h) F:=rfl
@[go_sem] theorem NH:zP P T ops K F h (some ⟨d,op,ty,pos,Yf,some (j,b)⟩)=Lo P T K F h d op ty (Yu ops F j) b:=rfl
@[go_sem] theorem NI:Lo P T K F h d op ty (.bool c) b=if c=b then SZ P T op ty (Nn K F d h) F else K (Zi F d undef) h:=rfl
@[go_sem] theorem NJ {x:Operand}:SZ P T (.move x) ty C F=X1 P T 0 #[] (.move x) ty C F:=rfl
@[go_sem] theorem OI {t:TypeId} {x:Operand} {i:Nat}:SZ P T (.fieldAddr t x i) ty C F=X1 P T 0 #[] (.fieldAddr t x i) ty C F:=rfl
@[go_sem] theorem Lp {t:TypeId} {x i:Operand}:SZ P T (.indexAddr t x i) ty C F=X1 P T 0 #[] (.indexAddr t x i) ty C F:=rfl
@[go_sem] theorem NK {x y z:Operand}:SZ P T (.pick x y z) ty C F=X1 P T 0 #[] (.pick x y z) ty C F:=rfl
@[go_sem] theorem MC {op:BinOp} {t t':TypeId} {x y:Operand}:SZ P T (.binOp op t x y t') ty C F=X1 P T 0 #[] (.binOp op t x y t') ty C F:=rfl
@[go_sem] theorem Lq {op:UnOp} {t:TypeId} {x:Operand}:SZ P T (.unOp op t x) ty C F=X1 P T 0 #[] (.unOp op t x) ty C F:=rfl
end
section
variable {P:Program} {T:World} {ty:TypeId} {F:Env} {h:Hp} {K:Value→Hp→Prop}
def NL (P:Program) (t:TypeId):Bool:=match P.underlying t with|some (.pointer _)=>true|_=>false
theorem S0 {t:TypeId} (h:NL P t=true):∃e,P.underlying t=some (.pointer e):=by
 unfold NL at h;split at h
 ·exact⟨_,by assumption⟩
 ·cases h
theorem Ve {t:TypeId} (ht:NL P t=true) {a:Option Addr} {Q:Bool→Hp→Prop}:hw P (Op.equal t (.pointer a) (.pointer none)) Q h=Q a.isNone h:=by
 obtain⟨e,hu⟩:=S0 ht
 unfold Op.equal Op.maxDepth Op.equalIn
 rw[Za,Zc hu]
 cases a<;>rfl
theorem P2 {t:TypeId} {x y:Operand} {a b:Value} {r:Bool} (hg:∀{Q:Unit→Hp→Prop},hw P (eqGuard .eql t x y a b) Q h=Q () h) (hb:binOp .eql t a b=do pure (.bool (←Op.equal t a b))) (he:∀{Q:Bool→Hp→Prop},hw P (Op.equal t a b) Q h=Q r h):Zt P .eql t x y a b K h=K (.bool r) h:=by
 unfold Zt
 rw[Za,hg,hb,Za,he];rfl
@[go_sem] theorem Pr {t:TypeId} {x y:Operand} {a:Option Addr} (ht:NL P t=true):Zt P .eql t x y (.pointer a) (.pointer none) K h=K (.bool a.isNone) h:=P2 rfl rfl (Ve ht)
end
section
variable {τ:Type}
structure Kp (S:τ→Prop) (o:Nat→Option τ) (h:Hp) (o':Nat→Option τ) (h':Hp):Prop where
 size:h.size≤h'.size
 Yl:∀b,b<h.size→(∀t,o b=some t→¬S t)→h'[b]? = h[b]? ∧ o' b=o b
 stay:∀b,b<h.size→∀t,o b=some t→S t→∃t',o' b=some t'∧S t'
 new:∀b,h.size≤b→∀t,o' b=some t→S t
 TG:∀b,h'.size≤b→o' b=none
variable {S S':τ→Prop} {o o' KH:Nat→Option τ} {h h' X3:Hp}
def Ps (o:Nat→Option τ) (h:Hp):Prop:=∀b,h.size≤b→o b=none
theorem Kp.refl (d:Ps o h) (S:τ→Prop):Kp S o h o h:=
 ⟨Nat.le_refl _,fun _ _ _=>⟨rfl,rfl⟩,fun _ _ t ht hs=>⟨t,ht,hs⟩,fun b hb t ht=>(by rw[d b hb]at ht;cases ht),d⟩
theorem Kp.mono (k:Kp S o h o' h') (hs:∀t,S t→S' t):Kp S' o h o' h':=
 ⟨k.size,fun b hb hn=>k.Yl b hb fun t ht q=>hn t ht (hs t q),fun b hb t ht q=>by
  by_cases p:S t
  ·obtain⟨t',h1,h2⟩:=k.stay b hb t ht p;exact⟨t',h1,hs _ h2⟩
  ·exact⟨t,by rw[(k.Yl b hb fun u hu=>by rw[ht]at hu;cases hu;exact p).2,ht],q⟩,fun b hb t ht=>hs _ (k.new b hb t ht),k.TG⟩
theorem Kp.trans (k:Kp S o h o' h') (l:Kp S o' h' KH X3):Kp S o h KH X3:=by
 refine⟨Nat.le_trans k.size l.size,fun b hb hn=>?_,fun b hb t ht hs=>?_,fun b hb t ht=>?_,l.TG⟩
 ·obtain⟨h1,h2⟩:=k.Yl b hb hn
  obtain⟨h3,h4⟩:=l.Yl b (Nat.lt_of_lt_of_le hb k.size) fun t ht=>hn t (by rw[←h2];exact ht)
  exact⟨h3.trans h1,h4.trans h2⟩
 ·obtain⟨t',h1,h2⟩:=k.stay b hb t ht hs
  exact l.stay b (Nat.lt_of_lt_of_le hb k.size) t' h1 h2
 ·by_cases X4:h'.size≤b
  ·exact l.new b X4 t ht
  ·have Zs:b<h'.size:=by omega
   cases ho:o' b with
   | none=>
    have:=(l.Yl b Zs fun u hu=>by rw[ho]at hu;cases hu).2
    rw[this,ho]at ht;cases ht
   | some t1=>
    obtain⟨t2,h1,h2⟩:=l.stay b Zs t1 ho (k.new b hb t1 ho)
    rw[h1]at ht;cases ht;exact h2
theorem Kp.get (k:Kp S o h o' h') {b:Nat} {x:Obj} (hx:h[b]? = some x) (hn:∀t,o b=some t→¬S t):h'[b]? = some x:=by
 rw[(k.Yl b (Zb hx) hn).1,hx]
theorem Kp.own (k:Kp S o h o' h') {b:Nat} {x:Obj} (hx:h[b]? = some x) (hn:∀t,o b=some t→¬S t):o' b=o b:=(k.Yl b (Zb hx) hn).2
theorem Kp.S2 (d:Ps o h) (b:Zg h.size h h') (S:τ→Prop):Kp S o h o h':=
 ⟨b.size,fun k hk _=>⟨b.block k hk,rfl⟩,fun _ _ t ht hs=>⟨t,ht,hs⟩,fun k hk t ht=>(by rw[d k hk]at ht;cases ht),fun k hk=>d k (Nat.le_trans b.size hk)⟩
theorem Kp.ZZ (k:Kp S o h o' h') (b:Zg h'.size h' X3):Kp S o h o' X3:=k.trans (Kp.S2 k.TG b S)
theorem Kp.push (k:Kp S o h o' h') (x:Obj):Kp S o h o' (h'.push x):=k.ZZ ((Zg.refl _ _).add x)
theorem Kp.set (k:Kp S o h o' h') {b:Nat} {t:τ} (hb:o' b=some t) (hs:S t) (x:Obj):Kp S o h o' (h'.setIfInBounds b x):=by
 refine k.trans ⟨by rw[Array.size_setIfInBounds];exact Nat.le_refl _,fun c hc hn=>⟨?_,rfl⟩,fun _ _ t ht hs=>⟨t,ht,hs⟩,fun c hc t ht=>(by rw[k.TG c hc]at ht;cases ht),fun c hc=>k.TG c (by rw[Array.size_setIfInBounds]at hc;exact hc)⟩
 rw[Array.getElem?_setIfInBounds,if_neg (fun e=>hn t (by rw[←e];exact hb) hs)]
theorem Kp.P3 (k:Kp S o h o' h') {b:Nat} (hb:h.size≤b) (x:Obj):Kp S o h o' (h'.setIfInBounds b x):=by
 refine⟨by rw[Array.size_setIfInBounds];exact k.size,fun c hc hn=>⟨?_,(k.Yl c hc hn).2⟩,k.stay,k.new,fun c hc=>k.TG c (by rw[Array.size_setIfInBounds]at hc;exact hc)⟩
 rw[Array.getElem?_setIfInBounds,if_neg (fun e=>by omega)]
 exact (k.Yl c hc hn).1
def U0 (o:Nat→Option τ) (b:Nat) (t:τ):Nat→Option τ:=fun c=>if c=b then some t else o c
theorem X9 {b:Nat} {t:τ}:U0 o b t b=some t:=if_pos rfl
theorem YQ {b c:Nat} {t:τ} (hc:c≠b):U0 o b t c=o c:=if_neg hc
theorem Kp.NM (k:Kp S o h o' h') {b:Nat} {t:τ} (hb:h.size≤b) (Zs:b<h'.size) (hs:S t):Kp S o h (U0 o' b t) h':=
 ⟨k.size,fun c hc hn=>⟨(k.Yl c hc hn).1,by rw[YQ (by omega)];exact (k.Yl c hc hn).2⟩,fun c hc u hu Iu=>by rw[YQ (by omega)];exact k.stay c hc u hu Iu,
  fun c hc u hu=>by
  by_cases VC:c=b
  ·subst VC;rw[X9]at hu;cases hu;exact hs
  ·rw[YQ VC]at hu;exact k.new c hc u hu,
  fun c hc=>by rw[YQ (by omega)];exact k.TG c hc⟩
def Xv (o:Nat→Option τ) (t:τ) (E:TypeId) (n:Nat) (h:Hp) (v:Value) (m:Nat) (cs:List Value):Prop:=
 ((∃p,v=.slice p 0 0)∧m=0∧cs=[]) ∨
 ∃b k cap pre spare,o b=some t∧v=.slice (some ⟨b,k,none⟩) m cap∧h[b]? = some (.cells (pre++(cs++spare)).toArray E (0,0))∧pre.length=k∧cs.length=m*n∧spare.length=(cap-m)*n∧m≤cap
variable {t:τ} {E:TypeId} {n m:Nat} {v:Value} {cs:List Value}
theorem Xv.nil (o:Nat→Option τ) (t:τ) (E:TypeId) (n:Nat) (h:Hp):Xv o t E n h (.slice none 0 0) 0 []:=.inl ⟨⟨_,rfl⟩,rfl,rfl⟩
theorem Xv.Yl (s:Xv o t E n h v m cs) (k:Kp S o h o' h') (hn:¬S t):Xv o' t E n h' v m cs:=by
 rcases s with s|⟨b,j,cap,pre,spare,h1,h2,h3,h4,h5,h6,h7⟩
 ·exact .inl s
 ·have NN:∀u,o b=some u→¬S u:=fun u hu=>by rw[h1]at hu;cases hu;exact hn
  exact .inr ⟨b,j,cap,pre,spare,by rw[k.own h3 NN,h1],h2,k.get h3 NN,h4,h5,h6,h7⟩
theorem Xv.sl (s:Xv o t E n h v m cs):Sl n h v m cs:=by
 rcases s with⟨⟨p,rfl⟩,rfl,rfl⟩|⟨b,j,cap,pre,spare,h1,rfl,h3,h4,h5,h6,h7⟩
 ·exact⟨p,0,rfl,by simp,fun Z1=>absurd rfl Z1⟩
 ·exact TF h3 h5 h4.symm
theorem Xv.length (s:Xv o t E n h v m cs):cs.length=m*n:=by
 rcases s with⟨_,rfl,rfl⟩|⟨b,j,cap,pre,spare,h1,h2,h3,h4,h5,h6,h7⟩
 ·simp
 ·exact h5
theorem Xv.isSlice (s:Xv o t E n h v m cs):∃p c,v=.slice p m c∧m≤c:=by
 rcases s with⟨⟨p,rfl⟩,rfl,rfl⟩|⟨b,j,cap,pre,spare,h1,rfl,h3,h4,h5,h6,h7⟩
 ·exact⟨p,0,rfl,Nat.le_refl _⟩
 ·exact⟨_,cap,rfl,h7⟩
variable {P:Program} {T:World} {K:Value→Hp→Prop} {F:Env} {ty:TypeId}
theorem S3 {a b c vs:List Value} {i:Nat} (hi:i=a.length+b.length) (hv:vs.length≤c.length):ZI (a++(b++c)) i vs=a++((b++vs)++c.drop vs.length):=by
 subst hi
 have e1:a++(b++c)=(a++b)++c:=by rw[List.append_assoc]
 rw[e1,←List.length_append,XP,Y9 _ _ hv]
 simp
theorem Vf {sT xT E' k bytes:Nat} {s:Value} {news zs:List Value} {cb:Array Bool} (X7:YY P sT=some E) (SO:P.underlying xT=some (.slice E')) (hn:tn P E=some n) (hz:tz P E=some zs) (PM:zs.length=n) (Xx:tb P E=some bytes)
  (own:Xv o t E n h v m cs) (d:Ps o h) (src:Sl n h s k news) (JS:news.all YW=true) (YU:(m+k)*bytes≤140737488355328) (OA:1≤bytes)
  (H:∀v' o' h',Xv o' t E n h' v' (m+k) (cs++news)→Kp (fun u=>u=t) o h o' h'→(∀b,b<h.size→o' b=o b)→K v' h'):Ql P T .append #[sT,xT] ty cb [v,s] K h:=by
 unfold YY at X7
 split at X7
 ·rename_i e' hu
  simp only[Option.some.injEq]at X7
  subst X7
  show hw P (do pure (.value (←Builtin.append_ #[sT,xT] ty #[v,s]))) (ZQ P T K) h
  rw[Za]
  show hw P (Builtin.append_ #[sT,xT] ty #[v,s]) K h
  obtain⟨i0,Qm⟩:∃i,P.info? e'=some i:=by
   unfold tn at hn
   cases hi:P.info? e' with
   | none=>rw[hi]at hn;cases hn
   | some i=>exact⟨i,rfl⟩
  have V0:i0.bytes=bytes:=by unfold tb at Xx;rw[Qm]at Xx;simpa using Xx
  obtain⟨z0,PN,PO⟩:∃z,i0.zero=some z∧z.cells.toList=zs:=by
   unfold tz at hz;rw[Qm]at hz
   cases Wp:i0.zero with
   | none=>rw[Option.bind_some,Wp]at hz;cases hz
   | some z=>rw[Option.bind_some,Wp]at hz;exact⟨z,rfl,by simpa using hz⟩
  obtain⟨base,cap,hv,Pk⟩:=own.isSlice
  subst hv
  have PQ:∀{Q:Value→Hp→Prop} (g:Hp),hw P (zeroValue e') Q g=Q z0 g:=fun {Q} g=>by
   unfold zeroValue;rw[Za,ZC Qm];simp only[PN];rfl
  have Xf:news.length=k*n:=by obtain⟨_,_,_,hl,_⟩:=src;exact hl
  simp only[Builtin.append_,List.getElem?_toArray,List.getElem?_cons_zero,List.getElem?_cons_succ,Za,Zd,Zc hu,Zc SO,run_sizeOf hn,Bool.false_eq_true,if_false,src.lenOf,Bool.not_false,if_true]
  by_cases Yk:m+k≤cap
  ·rw[if_pos Yk,Za]
   refine Zl src ?_
   rcases own with⟨⟨p,h1⟩,h2,h3⟩|⟨b,j,UO,pre,spare,h1,h2,h3,h4,h5,h6,h7⟩
   ·simp only[Value.slice.injEq]at h1
    obtain⟨rfl,rfl,rfl⟩:=h1
    have hk:k=0:=by omega
    subst hk;subst h3
    have Z1:news=[]:=List.eq_nil_of_length_eq_zero (by simpa using Xf)
    subst Z1
    have hK:K (.slice base (0+0) 0) h:=H _ o h (.inl ⟨⟨_,rfl⟩,rfl,rfl⟩) (Kp.refl d _) (fun _ _=>rfl)
    cases base<;>exact hK
   ·simp only[Value.slice.injEq]at h2
    obtain⟨rfl,_,rfl⟩:=h2
    simp only[Za,ZD]
    have Xu:news.length≤spare.length:=by rw[Xf,h6];exact Nat.mul_le_mul_right _ (by omega)
    refine Zv (e:=e') (lo:=0) (hi:=0) rfl (Nat.le_refl _) news 0 h (pre++(cs++spare)).toArray h3 ?_ JS ?_
    ·simp;rw[h4,←h5];omega
    ·simp only[Zd,Nat.add_zero]
     refine H _ o _ (.inr ⟨b,j,cap,pre,spare.drop news.length,h1,rfl,?_,h4,?_,?_,Yk⟩) ((Kp.refl d (fun u=>u=t)).set h1 rfl _) (fun _ _=>rfl)
     ·rw[Array.getElem?_setIfInBounds,if_pos rfl,if_pos (Zb h3)]
      rw[S3 (by rw[h4,h5]) Xu]
     ·rw[List.length_append,h5,Xf,Nat.add_mul]
     ·rw[List.length_drop,h6,Xf,←Nat.sub_mul];congr 1;omega
  ·rw[if_neg Yk]
   have Q4:¬Builtin.nextslicecap (m+k) cap*i0.bytes>2 ^ 48:=by
    rw[V0]
    have:=YP (m+k) cap bytes (by omega) YU
    omega
   have WW:¬i0.bytes=0:=by rw[V0];omega
   simp only[Za,ZC Qm,WW,or_false,and_false,if_false,if_neg Q4]
   intro q
   obtain⟨c,hc⟩:=X2 (Question.cut (Question.appendCap (m+k) cap e') q)
   have PR:m+k≤c:=by rw[hc];simp only[Question.cut];omega
   rw[←hc]
   have QX:∀{Q:Unit→Hp→Prop} (b:Nat) (g:Hp),Q () g→hw P (askRoom b) Q g:=fun {Q} b g q=>by
    unfold askRoom;split<;>exact q
   refine QX _ _ (Zl own.sl (Zl src ?_))
   rw[PQ]
   have PS:z0.cells.size=n:=by rw[←PM,←PO];simp
   refine H (.slice (some ⟨h.size,0,none⟩) (m+k) c) (U0 o h.size t) _ (.inr ⟨h.size,0,c,[],(Builtin.zeroCells z0.cells (c-(m+k))).toList,X9,rfl,?_,rfl,?_,?_,PR⟩) (((Kp.refl d _).push _).NM (Nat.le_refl _) (by simp) rfl) (fun b hb=>YQ (by omega))
   ·rw[Array.getElem?_push_size]
    simp
   ·rw[List.length_append,own.length,Xf,Nat.add_mul]
   ·rw[Array.length_toList,Z2,PS]
 ·cases X7
end
section
variable {P:Program} {T:World} {K:Value→Hp→Prop} {F:Env} {h:Hp} {ty:TypeId}
theorem TH (l:List Nat) (hl:∀x∈l,x<256):(((⟨(l.map UInt8.ofNat).toArray⟩:ByteArray).extract 0 l.length).data.map fun b=>Value.int .u8 b.toNat)=(l.map bv).toArray:=by
 have e:((⟨(l.map UInt8.ofNat).toArray⟩:ByteArray).extract 0 l.length)=⟨(l.map UInt8.ofNat).toArray⟩:=by
  apply ByteArray.ext
  rw[ByteArray.data_extract]
  simp[Array.extract_eq_self_of_le]
 rw[e]
 simp only[List.map_toArray,List.map_map]
 congr 1
 refine List.map_congr_left (fun x hx=>?_)
 have:=hl x hx
 simp only[Function.comp_apply,bv,UInt8.toNat_ofNat'];congr 1
 omega
theorem U1 {sT xT E B n m k bytes:Nat} {v s:Value} {cs news zs:List Value} {cb:Array Bool} (X7:YY P sT=some E) (SO:P.underlying xT=some .string) (hn:tn P E=some n) (hz:tz P E=some zs) (PM:zs.length=n) (Xx:tb P E=some bytes)
  (own:YX B E n h v m cs) (hB:B≤h.size) (hlen:∀{Q:Nat→Hp→Prop} (g:Hp),hw P (Builtin.lenOf s) Q g=Q k g) (KI:∀{Q:Array Value→Hp→Prop},Q news.toArray h→hw P (Builtin.firstCells n k s) Q h) (NO:news.length=k*n) (JS:news.all YW=true) (YU:(m+k)*bytes≤140737488355328) (OA:1≤bytes)
  (H:∀v' h',YX B E n h' v' (m+k) (cs++news)→X6 (Zj v) h h'→(∀b,Zj v'=some b→Zj v=some b∨h.size≤b)→K v' h'):Ql P T .append #[sT,xT] ty cb [v,s] K h:=by
 unfold YY at X7
 split at X7
 ·rename_i e' hu
  simp only[Option.some.injEq]at X7
  subst X7
  show hw P (do pure (.value (←Builtin.append_ #[sT,xT] ty #[v,s]))) (ZQ P T K) h
  rw[Za]
  show hw P (Builtin.append_ #[sT,xT] ty #[v,s]) K h
  obtain⟨i0,Qm⟩:∃i,P.info? e'=some i:=by
   unfold tn at hn
   cases hi:P.info? e' with
   | none=>rw[hi]at hn;cases hn
   | some i=>exact⟨i,rfl⟩
  have V0:i0.bytes=bytes:=by unfold tb at Xx;rw[Qm]at Xx;simpa using Xx
  obtain⟨z0,PN,PO⟩:∃z,i0.zero=some z∧z.cells.toList=zs:=by
   unfold tz at hz;rw[Qm]at hz
   cases Wp:i0.zero with
   | none=>rw[Option.bind_some,Wp]at hz;cases hz
   | some z=>rw[Option.bind_some,Wp]at hz;exact⟨z,rfl,by simpa using hz⟩
  have Px:∃base cap,v=.slice base m cap:=by
   rcases own with⟨⟨p,rfl⟩,rfl,_⟩|⟨b,cap,sp,_,rfl,_⟩
   ·exact⟨_,_,rfl⟩
   ·exact⟨_,_,rfl⟩
  obtain⟨base,cap,hv⟩:=Px
  subst hv
  have PQ:∀{Q:Value→Hp→Prop} (g:Hp),hw P (zeroValue e') Q g=Q z0 g:=fun {Q} g=>by
   unfold zeroValue;rw[Za,ZC Qm];simp only[PN];rfl
  simp only[Builtin.append_,List.getElem?_toArray,List.getElem?_cons_zero,List.getElem?_cons_succ,Za,Zd,Zc hu,Zc SO,run_sizeOf hn,Bool.false_eq_true,if_false,hlen,Bool.not_false,if_true]
  by_cases Yk:m+k≤cap
  ·rw[if_pos Yk,Za]
   refine KI ?_
   have Xf:=NO
   by_cases Z1:news=[]
   ·subst Z1
    have Pj:hw P (match base with|some a=>(do storeCells (a.add (m*n)) [];pure (Value.slice base (m+k) cap))|none=>pure (Value.slice base (m+k) cap)) K h=K (.slice base (m+k) cap) h:=by
     cases base<;>rfl
    have hK:K (.slice base (m+k) cap) h:=by
     refine H _ _ ?_ X6.refl (fun b hb=>.inl (by
      cases base with
      | none=>simp[Zj]at hb
      | some a=>simpa [Zj] using hb))
     rcases own with⟨⟨p,h1⟩,h2,h3⟩|⟨b,UO,spare,WV,h1,hb,hl,Um,Pk⟩
     ·simp only[Value.slice.injEq]at h1
      obtain⟨rfl,rfl,rfl⟩:=h1
      have hk:k=0:=by omega
      subst hk;subst h3
      exact .inl ⟨⟨_,rfl⟩,rfl,rfl⟩
     ·simp only[Value.slice.injEq]at h1
      obtain⟨rfl,_,rfl⟩:=h1
      have Pl:k*n=0:=by simpa using Xf.symm
      refine .inr ⟨b,cap,spare,WV,rfl,by simpa using hb,by rw[List.append_nil,hl,Nat.add_mul,Pl];rfl,?_,Yk⟩
      rw[Um,Nat.sub_mul,Nat.sub_mul,Nat.add_mul,Pl,Nat.add_zero]
    cases base<;>exact hK
   rcases own with⟨⟨p,h1⟩,h2,h3⟩|⟨b,UO,spare,WV,h1,hb,hl,Um,Pk⟩
   ·simp only[Value.slice.injEq]at h1
    obtain⟨rfl,rfl,rfl⟩:=h1
    have hk:k=0:=by omega
    subst hk
    exact (Z1 (List.eq_nil_of_length_eq_zero (by simpa using Xf))).elim
   ·simp only[Value.slice.injEq]at h1
    obtain⟨rfl,_,rfl⟩:=h1
    simp only[Za,ZD]
    have Xu:news.length≤spare.length:=by rw[Xf,Um];exact Nat.mul_le_mul_right _ (by omega)
    refine Zv (e:=e') (lo:=0) (hi:=0) rfl (Nat.le_refl _) news 0 h (cs++spare).toArray hb ?_ JS ?_
    ·simp;rw[←hl];omega
    ·simp only[Zd,Nat.zero_add,Nat.add_zero]
     refine H _ _ (.inr ⟨b,cap,spare.drop news.length,WV,rfl,?_,?_,?_,Yk⟩) ⟨by simp,fun b' X4 hx=>?_⟩ (fun b' X4=>.inl (by simpa [Zj] using X4))
     ·rw[Array.getElem?_setIfInBounds,if_pos rfl,if_pos (Zb hb)]
      rw[←hl,XP,Y9 _ _ Xu,List.append_assoc]
     ·rw[List.length_append,hl,Xf,Nat.add_mul]
     ·rw[List.length_drop,Um,Xf,←Nat.sub_mul];congr 1;omega
     ·rw[Array.getElem?_setIfInBounds,if_neg]
      intro e;subst e
      have OV:cap≠0:=by
       intro h0;subst h0
       have:k=0:=by omega
       subst this
       exact Z1 (List.eq_nil_of_length_eq_zero (by simpa using Xf))
      exact hx (by simp[Zj,OV])
  ·rw[if_neg Yk]
   have Q4:¬Builtin.nextslicecap (m+k) cap*i0.bytes>2 ^ 48:=by
    rw[V0]
    have:=YP (m+k) cap bytes (by omega) YU
    omega
   have WW:¬i0.bytes=0:=by rw[V0];omega
   simp only[Za,ZC Qm,WW,or_false,and_false,if_false,if_neg Q4]
   intro t
   obtain⟨c,hc⟩:=X2 (Question.cut (Question.appendCap (m+k) cap e') t)
   have PR:m+k≤c:=by rw[hc];simp only[Question.cut];omega
   rw[←hc]
   have QX:∀{Q:Unit→Hp→Prop} (b:Nat) (g:Hp),Q () g→hw P (askRoom b) Q g:=fun {Q} b g q=>by
    unfold askRoom;split<;>exact q
   refine QX _ _ (Zl own.sl (KI ?_))
   rw[PQ]
   have PS:z0.cells.size=n:=by rw[←PM,←PO];simp
   refine H (.slice (some ⟨h.size,0,none⟩) (m+k) c) _ (.inr ⟨h.size,c,(Builtin.zeroCells z0.cells (c-(m+k))).toList,hB,rfl,?_,?_,?_,PR⟩) (X6.push _) (fun b' X4=>.inr (by simp only[Zj]at X4;split at X4;cases X4;rw[←Option.some.inj X4];exact Nat.le_refl _))
   ·rw[Array.getElem?_push_size]
    simp
   ·have Xf:=NO
    have ZR:cs.length=m*n:=by obtain⟨_,_,_,hl,_⟩:=own.sl;exact hl
    rw[List.length_append,ZR,Xf,Nat.add_mul]
   ·rw[Array.length_toList,Z2,PS]
 ·cases X7
theorem ZX {sT xT E B:Nat} {v:Value} {l k:List Nat} {z:Value} {cb:Array Bool} (X7:YY P sT=some E) (SO:P.underlying xT=some .string) (hn:tn P E=some 1) (hz:tz P E=some [z]) (Xx:tb P E=some 1)
  (own:Xg B E h v l) (hB:B≤h.size) (hk:∀x∈k,x<256) (YU:l.length+k.length≤140737488355328)
  (H:∀v' h',Xg B E h' v' (l++k)→Zg B h h'→X6 (Zj v) h h'→(∀b,Zj v'=some b→Zj v=some b∨h.size≤b)→K v' h'):Ql P T .append #[sT,xT] ty cb [v,.string ⟨(k.map UInt8.ofNat).toArray⟩] K h:=by
 refine U1 (k:=k.length) (news:=k.map bv) X7 SO hn hz rfl Xx own.own hB (fun {Q} g=>?_) (fun {Q} q=>?_) (by simp) (WX k) (by omega) (Nat.le_refl _) ?_
 ·show Q (ByteArray.size ⟨(k.map UInt8.ofNat).toArray⟩) g=_
  simp[ByteArray.size]
 ·show Q _ h
  rw[TH k hk]
  exact q
 intro v' h' ho hb TE
 refine H v' h' ⟨by simpa using ho,fun x hx=>?_⟩ (hb.ZZ hB own.own.Ph) hb TE
 rcases List.mem_append.1 hx with hx|hx
 ·exact own.byte x hx
 ·exact hk x hx
end
theorem Ze.S4 {P:Program} {T:World} {f:FuncId} {args:Array Value} {h:Hp} {Q:Value→Hp→Prop}
  (H:∀w,YE T w h→Calls P f args w fun e w'=>∃v,e=.returned v∧w'.tape=w.tape∧w'.os=w.os∧w'.output=w.output∧Q v w'.heap):Ze P T f args h Q:=
 fun w hs=>(H w hs).mono fun _ w' ⟨v,he,h1,h2,h3,q⟩=>⟨v,w'.heap,he,⟨rfl,h1.trans hs.tape,h2.trans hs.os,h3.trans hs.output⟩,q⟩
theorem Zg.app {B:Nat} {h:Hp} (os:Array Obj) (hB:B≤h.size):Zg B h (h++os):=by
 refine⟨by simp,fun b hb=>?_⟩
 rw[Array.getElem?_append_left (by omega)]
section
variable {P:Program} {T:World} {K:Value→Hp→Prop} {F:Env} {h:Hp} {ty:TypeId}
theorem Vg {b:Nat} {x:TypeId × Nat} (Wf:ZN h b=some x) {Q:Option (Addr × TypeId)→Hp→Prop} (H:Q none h):hw P (viewAt b) Q h:=by
 unfold viewAt
 rw[Za]
 show hw P (if (ZN h b).isSome=true then _ else _) Q h
 rw[Wf]
 exact H
theorem U2 {b:Nat} {x:TypeId × Nat} (Wf:ZN h b=some x) {Q:Option Nat→Hp→Prop} (H:Q (some x.2) h):hw P (cellsIn b) Q h:=by
 unfold cellsIn
 rw[Za]
 show hw P (match ZN h b with|some (_,n)=>_|_=>_) Q h
 rw[Wf]
 exact H
theorem J9 {a:Addr} {x:TypeId × Nat} (Wf:ZN h a.block=some x) {Q:Addr→Hp→Prop} (H:Q a h):hw P (Conv.seenAt a) Q h:=by
 unfold Conv.seenAt
 rw[Za]
 exact Vg Wf H
theorem Qa {S D t:TypeId} {n:Nat} {a:Addr} {x:TypeId × Nat} (hs:P.underlying S=some (.pointer t)) (hd:P.underlying D=some .unsafePointer) (hn:tn P t=some n) (h0:n≠0) (Wf:ZN h a.block=some x) (Iv:a.off<x.2)
  (H:K (.pointer (some a)) h):YZ P S D (.pointer (some a)) K h:=by
 unfold YZ convert
 rw[Za,Zc hs,Za,Zc hd]
 simp only[Conv.unsafePointer]
 rw[Za,Zc hs,Za,Zc hd]
 simp only
 rw[Za]
 refine J9 Wf ?_
 rw[Za]
 refine U2 Wf ?_
 rw[Za,run_sizeOf hn]
 rw[if_neg (by simp;omega)]
 exact H
theorem Ja {S D t:TypeId} {n:Nat} {a:Addr} {e:TypeId} {c:Nat} (hs:P.underlying S=some .unsafePointer) (hd:P.underlying D=some (.pointer t)) (hn:tn P t=some n) (Wf:ZN h a.block=some (e,c)) (hl:liesAt P P.depth e (c/P.cellsOf e) a.off t 1=true)
  (H:K (.pointer (some a)) h):YZ P S D (.pointer (some a)) K h:=by
 unfold YZ convert
 rw[Za,Zc hs,Za,Zc hd]
 simp only[Conv.unsafePointer]
 rw[Za,Zc hs,Za,Zc hd]
 simp only
 rw[Za]
 refine J9 Wf ?_
 rw[Za,run_sizeOf hn,Za]
 unfold variablesAt
 simp only[program,Za,hw]
 show hw P (match ZN h a.block with|some (e,cells)=>_|none=>_) _ h
 rw[Wf]
 simp only[hl,Zd,hw,Bool.or_true,if_true,or_true]
 exact H
theorem U3 {t e:TypeId} {n:Nat} {a:Addr} (hu:P.underlying t=some (.pointer e)) (hn:tn P e=some n) {Q:Bool→Hp→Prop} (H:Q true h):hw P (Op.equal t (.pointer (some a)) (.pointer (some a))) Q h:=by
 unfold Op.equal Op.maxDepth Op.equalIn
 rw[Za,Zc hu]
 simp only
 rw[Za,run_sizeOf hn]
 unfold sameAddr
 simp only[beq_self_eq_true,Bool.or_true,Bool.true_or,if_true,Zd,hw]
 first|exact H|(split<;>exact H)
theorem Ug {t e:TypeId} {n:Nat} {a:Addr} {x y:Operand} (hu:P.underlying t=some (.pointer e)) (hn:tn P e=some n) (H:K (.bool false) h):Zt P .neq t x y (.pointer (some a)) (.pointer (some a)) K h:=by
 unfold Zt
 rw[Za]
 show hw P (do pure (Value.bool (!(←Op.equal t (.pointer (some a)) (.pointer (some a)))))) K h
 rw[Za]
 exact U3 hu hn H
theorem Uh {sT B E:Nat} {v:Value} {l:List Nat} {cb:Array Bool} (own:Xg B E h v l) (Z1:l≠[])
  (H:∀b cap,v=.slice (some ⟨b,0,none⟩) l.length cap→B≤b→K (.pointer (some ⟨b,0,none⟩)) h):Ql P T .unsafeSliceData #[sT] ty cb [v] K h:=by
 have hl:l.length≠0:=by simpa using Z1
 rcases own.own with⟨⟨p,rfl⟩,h2,_⟩|⟨b,cap,sp,hB,rfl,hb,_,_,Pk⟩
 ·omega
 ·show hw P (do pure (.value (←Builtin.unsafeSliceData_ #[sT] ty #[.slice (some ⟨b,0,none⟩) l.length cap]))) (ZQ P T K) h
  rw[Za]
  show hw P (if cap≠0 then (pure (Value.pointer (some ⟨b,0,none⟩)):Sem Value) else _) _ h
  rw[if_pos (by omega)]
  exact H b cap rfl hB
theorem run_loadBytes {b:Nat}:∀(l:List Nat) (o:Nat) (acc:ByteArray) {Q:ByteArray→Hp→Prop},(∀i,i<l.length→hc h ⟨b,o+i,none⟩=some (bv (l.getD i 0)))→Q (⟨acc.data++(l.map UInt8.ofNat).toArray⟩) h→hw P (loadBytes ⟨b,o,none⟩ acc l.length) Q h:=by
 intro l
 induction l with
 | nil=>intro o acc Q _ H;simpa [loadBytes,Zd,hw] using H
 | cons x l ih=>
  intro o acc Q hx H
  have h0:=hx 0 (by simp)
  simp only[List.length_cons,loadBytes,Za,load,hw]
  refine⟨_,h0,?_⟩
  refine ih (o+1) _ (fun i hi=>?_) ?_
  ·have:=hx (i+1) (by simp;omega)
   rw[show o+1+i=o+(i+1) by omega]
   simpa using this
  ·simpa [ByteArray.push,Nat.toUInt8] using H
theorem Ui {pT iT B E:Nat} {b cap:Nat} {l:List Nat} {cb:Array Bool} (own:Xg B E h (.slice (some ⟨b,0,none⟩) l.length cap) l) (Z1:l≠[]) (hp:P.underlying pT=some (.pointer E)) (OB:P.cellsOf E=1) (hlen:l.length≤140737488355328)
  (H:∀h',X6 (some b) h h'→K (.string ⟨(l.map UInt8.ofNat).toArray⟩) h'):Ql P T .unsafeString #[pT,iT] ty cb [.pointer (some ⟨b,0,none⟩),.int .i64 l.length] K h:=by
 have h0:l.length≠0:=by simpa using Z1
 obtain⟨cells,hb,QW⟩:∃cells:Array Value,h[b]? = some (.cells cells E (0,0))∧(∀i,i<l.length→cells[i]? = some (bv (l.getD i 0)))∧l.length≤cells.size:=by
  rcases own.own with⟨⟨p,he⟩,h2,_⟩|⟨b',UO,sp,hB,he,hb,hl,_,Pk⟩
  ·omega
  ·simp only[Value.slice.injEq,Option.some.injEq,Addr.mk.injEq]at he
   obtain⟨⟨rfl,_⟩,_⟩:=he
   refine⟨_,hb,fun i hi=>?_,by simp⟩
   simp[hi,List.getElem?_append_left,List.getD_eq_getElem?_getD,List.getElem?_eq_getElem]
 show hw P (do pure (.value (←Builtin.unsafeString_ #[pT,iT] ty #[.pointer (some ⟨b,0,none⟩),.int .i64 l.length]))) (ZQ P T K) h
 rw[Za]
 have Lr:Builtin.unsafeString_ #[pT,iT] ty #[.pointer (some ⟨b,0,none⟩),.int .i64 l.length] =
   (do
     let n ←asInt (.int .i64 l.length)
     if n<0 then runtimePanic (.error "unsafe.String: len out of range")
     if n>IntKind.i64.max then unsupported (.unsafePointer "String: a length above the largest int")
     if n=0 then pure (.string .empty)
     else if ←variablesAt ⟨b,0,none⟩ (←elemOf pT) n.toNat then do
      let s ←loadBytes ⟨b,0,none⟩ .empty n.toNat
      freeze ⟨b,0,none⟩ n.toNat
      pure (.string s)
     else unsupported (.unsafePointer "String: not so many bytes at ptr")):=rfl
 rw[Lr]
 have P4:IntKind.i64.max=9223372036854775807:=rfl
 have Wf:ZN h b=some (E,cells.size):=by unfold ZN;rw[hb]
 have NP:=Lib.liesAt_bytes (P:=P) OB (cells.size/P.cellsOf E) l.length (by rw[OB];simpa using QW.2)
 have e1:¬((l.length:Int)<0):=by omega
 have e2:¬((l.length:Int)>9223372036854775807):=by omega
 have e3:¬((l.length:Int)=0):=by omega
 have M1:∀{Q:TypeId→Hp→Prop},hw P (elemOf pT) Q h=Q E h:=by
  intro Q
  unfold elemOf
  rw[Za,Zc hp];rfl
 have Iw:∀{Q:Bool→Hp→Prop},hw P (variablesAt ⟨b,0,none⟩ E l.length) Q h=Q true h:=by
  intro Q
  unfold variablesAt
  rw[Za]
  show hw P (do match ←shape b with|some (e,c)=>pure (liesAt P P.depth e (c/P.cellsOf e) 0 E l.length)|none=>pure false) Q h=_
  rw[Za]
  show hw P (match ZN h b with|some (e,c)=>pure (liesAt P P.depth e (c/P.cellsOf e) 0 E l.length)|none=>pure false) Q h=_
  rw[Wf]
  simp only[NP]
  rfl
 simp only[asInt,asIntOf,P4,Za,Zd,if_neg e1,if_neg e2,if_neg e3,Int.toNat_natCast,M1,Iw,if_true]
 refine run_loadBytes l 0 _ (fun i hi=>?_) ?_
 ·rw[YK hb,Nat.zero_add];exact QW.1 i hi
 ·show K _ (Xz h ⟨b,0,none⟩ l.length)
  have e:(⟨ByteArray.empty.data++(l.map UInt8.ofNat).toArray⟩:ByteArray)=⟨(l.map UInt8.ofNat).toArray⟩:=by simp
  rw[e]
  refine H _ ?_
  unfold Xz
  rw[if_neg h0]
  refine⟨by simp,fun k hk Z1=>?_⟩
  rw[Array.getElem?_modify,if_neg (fun e=>Z1 (by rw[←e]))]
end
end Go.V
