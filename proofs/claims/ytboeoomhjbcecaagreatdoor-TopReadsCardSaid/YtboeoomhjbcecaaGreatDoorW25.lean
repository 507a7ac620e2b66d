/- W22: maps whose keys are structs of plain cells, with an integer for each; entries are never struck. -/
import Derived.Test.YtboeoomhjbcecaaGreatDoorW21
namespace Go.V
set_option linter.unusedVariables false
set_option linter.unusedSimpArgs false
section
variable {P:Program} {T:World} {ty:TypeId} {F:Env} {h:Hp} {K:Value→Hp→Prop}
def Mn (P:Program) (t:TypeId) (m x:Value) (c:Bool) (K:Value→Hp→Prop) (h:Hp):Prop:=hw P (Instr.lookup t m x c) K h
def nH (P:Program) (t:TypeId) (K:Value→Hp→Prop) (h:Hp):Prop:=hw P (Instr.makeMap t none) K h
@[go_sem] theorem AL {t:TypeId} {m x:Operand} {c:Bool}:WQ P T (.lookup t m x c) ty K F h=Mn P t (ev F m) (ev F x) c K h:=by
 show hw P (do pure (Next.value (←Instr.lookup t (ev F m) (ev F x) c))) (Xy P T K) h=_;rw[Zg];rfl
@[go_sem] theorem Di {t:TypeId}:WQ P T (.makeMap t none) ty K F h=nH P t K h:=by
 show hw P (do pure (Next.value (←Instr.makeMap t none))) (Xy P T K) h=_;rw[Zg];rfl
@[go_sem] theorem Za6 {t:TypeId} {m x:Operand} {c:Bool}:IX P T ⟨none,.lookup t m x c,ty, "", #[],none⟩ K F h=Mn P t (ev F m) (ev F x) c K h:=AL
@[go_sem] theorem zj {t:TypeId}:IX P T ⟨none,.makeMap t none,ty, "", #[],none⟩ K F h=nH P t K h:=Di
@[go_sem] theorem Ze3 {t:TypeId}:nH P t K h=K (.map (some h.size)) (h.push (.map #[] 0)):=rfl
variable {α:Type} [DecidableEq α] {enc:α→List Value}
theorem HY {e:TypeId} {v:Value} (hz:(P.info? e).bind (·.zero)=some v) {Q:Value→Hp→Prop}:hw P (zeroValue e) Q h=Q v h:=by
 cases hi:P.info? e with
 | none=>rw[hi]at hz;cases hz
 | some i=>
  rw[hi]at hz;unfold zeroValue;rw[Zg,Xh hi];have hz:i.zero=some v:=hz;simp only[hz];rfl
theorem Pb {b:Nat} {es:Array MapEntry} {c:Nat} (hm:h[b]? = some (.map es c)) {Q:Obj→Hp→Prop}:hw P (getObj b) Q h↔Q (.map es c) h:=
 ⟨fun⟨o,h1,_,h2⟩=>(by rw[hm]at h1;cases h1;exact h2),fun H=>⟨_,hm,rfl,H⟩⟩
end
section
variable {P:Program} {n:Nat} {T:World} {N:Env→Hp→Prop} {X:Nat→Env→Hp→Prop} {R:Env→Hp→Prop} {F:Env} {h:Hp}
def Ol (P:Program) (T:World) (ops:Array Oper) (S:Hp→Prop) (W:List Nat) (N:Env→Hp→Prop):Nat→Array Bool→Env→Hp→Prop
 | 0,listed,F,h=>Region.ready .any ops listed=[]∧N F h
 | k+1,listed,F,h=>(Region.ready .any ops listed=[]→N F h) ∧
   ∀i∈Region.ready .any ops listed,Qk P T ops i (fun F' h'=>(i∈W∨(S h→S h'))∧Ol P T ops S W N k (listed.setIfInBounds i true) F' h') F h
theorem Hd {ops:Array Oper} {S:Hp→Prop} {W:List Nat}:∀(k:Nat) (listed:Array Bool) (F:Env) (h:Hp),Ol P T ops S W N k listed F h→BG P T ops (fun _=>True) N k listed F h:=by
 intro k
 induction k with
 | zero=>intro listed F h H;exact H
 | succ k ih=>intro listed F h H;exact⟨H.1,fun i hi=>XY (fun F' h' q=>⟨trivial,ih _ _ _ q.2⟩) (H.2 i hi)⟩
theorem WW {ops:Array Oper} {S S1:Hp→Prop} {W:List Nat} {i:Nat} {oi:Oper} {v:Value} (hi:ops[i]? = some oi) (Ez:∀(j:Nat) (o:Oper) cs b,ops[j]? = some o→o.op ≠ .select cs b)
  (hW:(∀h,S1 h)∨((∀h,S h→S1 h)∧∀j∈W,∃f,Ut ops f j i=true)) :
  ∀(k:Nat) (listed:Array Bool) (F:Env) (h:Hp),JA ops listed →
   (∀j oj,ops[j]? = some oj→j≠i→listed.getD j true=false→(∀e∈oj.after,Region.binds .any e=true→e.on≠i)→oi.apart ops oj=true) →
   i∈Region.ready .any ops listed→QN P T ops S1 oi v F→((∀h,S1 h)∨S h) →
   Ol P T ops S W N k (listed.setIfInBounds i true) (Z3 F oi.dst v) h→Ol P T ops S W N (k+1) listed F h:=by
 intro k
 induction k with
 | zero=>
  intro listed F h _ _ hr hy hS H;have hS1:S1 h:=hS.elim (fun q=>q h) (fun q=>hW.elim (fun p=>p h) (fun p=>p.1 h q));refine⟨fun h=>(by rw[h]at hr;cases hr),fun j hj=>?_⟩;by_cases WO:j=i
  ·subst WO;exact hy.opI hi hS1 ⟨.inr id,H⟩
  ·have:=ready_mono hj WO;rw[H.1]at this
   cases this
 | succ k ih=>
  intro listed F h XW Mg hr hy hS H;have hS1:S1 h:=hS.elim (fun q=>q h) (fun q=>hW.elim (fun p=>p h) (fun p=>p.1 h q));refine⟨fun h=>(by rw[h]at hr;cases hr),fun j hj=>?_⟩;by_cases WO:j=i
  ·subst WO;exact hy.opI hi hS1 ⟨.inr id,H⟩
  ·have h1:=H.2 j (ready_mono hj WO);obtain⟨EA,oj,fO,Xk⟩:=mem_ready.1 hj;have GW:∀e∈oj.after,Region.binds .any e=true→e.on≠i:=fun e he hb heq=>by
    have h1:=Xk e he hb;have h0:=(mem_ready.1 hr).1;rw[heq]at h1;rcases Nat.lt_or_ge i listed.size with h'|h'
    ·simp[h']at h0 h1;rw[h0]at h1;cases h1
    ·simp[Array.getElem?_eq_none h']at h1
   have h2:=LS fO (Mg j oj fO WO EA GW) (fun cs b=>Ez i oi cs b hi) (fun cs b=>Ez j oj cs b fO) hy h1;have LV:∀k ok,ops[k]? = some ok→k≠i→(listed.setIfInBounds j true).getD k true=false →
     (∀e∈ok.after,Region.binds .any e=true→e.on≠i)→oi.apart ops ok=true:=fun k ok hk kP yS lT=>by
    refine Mg k ok hk kP ?_ lT;by_cases da:j=k
    ·subst da;exact EA
    ·rw[getD_set_ne true da]at yS;exact yS
   refine XY (fun F' h' h3=>?_) h2;refine⟨h3.2.1,ih (listed.setIfInBounds j true) F' h' (XW.set hj) LV (ready_mono hr (Ne.symm WO)) h3.1 ?_ ?_⟩
   ·rcases hW with hW|⟨hW1,hW2⟩
    ·exact .inl hW
    ·rcases hS with hS|hS
     ·exact .inl hS
     ·rcases h3.2.1 with hjw|hss
      ·obtain⟨f,hf⟩:=hW2 j hjw;have h1:=Mj XW hf hj;have h0:=(mem_ready.1 hr).1;rcases Nat.lt_or_ge i listed.size with h'|h'
       ·simp[h']at h0 h1;rw[h0]at h1;cases h1
       ·simp[Array.getElem?_eq_none h']at h1
      ·exact .inr (hss hS)
   ·rw[Array.setIfInBounds_comm _ _ WO];exact h3.2.2
inductive Tz where
 | nil
 | p (i:Nat) (t:Tz)
 | q (i:Nat) (t:Tz)
 | s (i:Nat) (t:Tz)
 | w (i:Nat) (t:Tz)
 | or (i:Nat) (t:Tz) (r:Tz)
def Tz.alts:Tz→List Nat
 | .s i _=>[i]
 | .w i _=>[i]
 | .or i _ r=>i :: r.alts
 | _=>[]
def Tz.Oj:Tz→Bool
 | .q _ _=>true
 | .p _ t=>t.Oj
 | .s _ t=>t.Oj
 | .or _ t r=>t.Oj||r.Oj
 | _=>false
def Tz.ok (ops:Array Oper) (W:List Nat):Tz→Nat→Array Bool→Bool→Bool
 | .nil,n,listed,_=>Nat.beq n 0&&(Region.ready .any ops listed).isEmpty
 | .p _ _,0,_,_=>false
 | .p i t,n+1,listed,_=>((Region.ready .any ops listed).contains i&&Region.free .any ops listed i)&&t.ok ops W n (listed.setIfInBounds i true) true
 | .q _ _,0,_,_=>false
 | .q i t,n+1,listed,_=>((Region.ready .any ops listed).contains i&&(Region.free .any ops listed i&&W.all fun j=>Ut ops dp j i))&&t.ok ops W n (listed.setIfInBounds i true) true
 | .s _ _,0,_,_=>false
 | .s i t,n+1,listed,b=>(!b||(Region.ready .any ops listed == [i]))&&t.ok ops W n (listed.setIfInBounds i true) true
 | .w _ _,0,_,_=>false
 | .w i t,n+1,listed,b=>((!b||(Region.ready .any ops listed == [i]))&&(W.contains i&&!t.Oj))&&t.ok ops W n (listed.setIfInBounds i true) true
 | .or _ _ _,0,_,_=>false
 | .or i t r,n+1,listed,b=>(!b||(Region.ready .any ops listed == i :: r.alts))&&(t.ok ops W n (listed.setIfInBounds i true) true&&r.ok ops W (n+1) listed false)
def Ev (P:Program) (T:World) (ops:Array Oper) (S:Hp→Prop) (N:Env→Hp→Prop):Tz→Env→Hp→Prop
 | .nil,F,h=>N F h
 | .p i t,F,h=>match ops[i]? with
  | some o=>if Z8 ops o F then ∃v,(∀h',IX P T o (fun v' Nj=>v'=v∧Nj=h') F h')∧Ev P T ops S N t (Z3 F o.dst v) h else Ev P T ops S N t (Z3 F o.dst undef) h
  | none=>False
 | .q i t,F,h=>match ops[i]? with
  | some o=>if Z8 ops o F then ∃v,(∀h',S h'→IX P T o (fun v' Nj=>v'=v∧Nj=h') F h')∧Ev P T ops S N t (Z3 F o.dst v) h else Ev P T ops S N t (Z3 F o.dst undef) h
  | none=>False
 | .s i t,F,h=>Qk P T ops i (fun F' h'=>S h'∧Ev P T ops S N t F' h') F h
 | .w i t,F,h=>Qk P T ops i (fun F' h'=>Ev P T ops S N t F' h') F h
 | .or i t r,F,h=>Qk P T ops i (fun F' h'=>S h'∧Ev P T ops S N t F' h') F h∧Ev P T ops S N r F h
theorem Fq {ops:Array Oper} {S:Hp→Prop} {W:List Nat} (hs:Region.noSelect ops=true):∀(t:Tz),
  (∀(k:Nat) (listed:Array Bool) (F:Env) (h:Hp),JA ops listed→t.ok ops W k listed true=true→(t.Oj=true→S h)→Ev P T ops S N t F h→Ol P T ops S W N k listed F h) ∧
  (∀(k:Nat) (listed:Array Bool) (F:Env) (h:Hp),JA ops listed→t.ok ops W (k+1) listed false=true→Ev P T ops S N t F h→∀j∈t.alts,j∈Region.ready .any ops listed→Qk P T ops j (fun F' h'=>(j∈W∨(S h→S h'))∧Ol P T ops S W N k (listed.setIfInBounds j true) F' h') F h):=by
 intro t
 induction t with
 | nil=>
  refine⟨fun k listed F h XW hB hS H=>?_,fun k listed F h _ _ _ j hj=>by cases hj⟩;simp only[Tz.ok,Bool.and_eq_true,List.isEmpty_iff]at hB;obtain⟨h1,h2⟩:=hB;obtain rfl:=Nat.eq_of_beq_eq_true h1;exact⟨h2,H⟩
 | p i t ih=>
  refine⟨fun k listed F h XW hB hS H=>?_,fun k listed F h _ _ _ j hj=>by cases hj⟩
  cases k with
  | zero=>simp[Tz.ok]at hB
  | succ k=>
   simp only[Tz.ok,Bool.and_eq_true]at hB;obtain⟨⟨h1,h2⟩,h3⟩:=hB;have RQ:i∈Region.ready .any ops listed:=by simpa using h1
   obtain⟨_,o,ho,_⟩:=mem_ready.1 RQ;simp only[Ev,ho]at H;split at H
   ·rename_i LQ;obtain⟨v,hv,H⟩:=H;exact WW (S1:=fun _=>True) ho (Region.noSelect_spec hs) (.inl fun _=>trivial) k listed F h XW (Region.free_spec ho h2) RQ (.inl ⟨LQ,fun h' _=>hv h'⟩) (.inl fun _=>trivial) (ih.1 k _ _ _ (XW.set RQ) h3 hS H)
   ·rename_i LQ;exact WW (S1:=fun _=>True) ho (Region.noSelect_spec hs) (.inl fun _=>trivial) k listed F h XW (Region.free_spec ho h2) RQ (.inr ⟨by simpa using LQ,rfl⟩) (.inl fun _=>trivial) (ih.1 k _ _ _ (XW.set RQ) h3 hS H)
 | q i t ih=>
  refine⟨fun k listed F h XW hB hS H=>?_,fun k listed F h _ _ _ j hj=>by cases hj⟩;have hS:=hS rfl
  cases k with
  | zero=>simp[Tz.ok]at hB
  | succ k=>
   simp only[Tz.ok,Bool.and_eq_true]at hB;obtain⟨⟨h1,h2,hw⟩,h3⟩:=hB;have RQ:i∈Region.ready .any ops listed:=by simpa using h1
   obtain⟨_,o,ho,_⟩:=mem_ready.1 RQ;have hW:∀j∈W,∃f,Ut ops f j i=true:=fun j hj=>⟨dp,List.all_eq_true.1 hw j hj⟩
   simp only[Ev,ho]at H;split at H
   ·rename_i LQ;obtain⟨v,hv,H⟩:=H;exact WW ho (Region.noSelect_spec hs) (.inr ⟨fun _ q=>q,hW⟩) k listed F h XW (Region.free_spec ho h2) RQ (.inl ⟨LQ,hv⟩) (.inr hS) (ih.1 k _ _ _ (XW.set RQ) h3 (fun _=>hS) H)
   ·rename_i LQ;exact WW ho (Region.noSelect_spec hs) (.inr ⟨fun _ q=>q,hW⟩) k listed F h XW (Region.free_spec ho h2) RQ (.inr ⟨by simpa using LQ,rfl⟩) (.inr hS) (ih.1 k _ _ _ (XW.set RQ) h3 (fun _=>hS) H)
 | s i t ih=>
  have second:∀(k:Nat) (listed:Array Bool) (F:Env) (h:Hp),JA ops listed→i∈Region.ready .any ops listed→t.ok ops W k (listed.setIfInBounds i true) true=true→Ev P T ops S N (.s i t) F h→Qk P T ops i (fun F' h'=>(i∈W∨(S h→S h'))∧Ol P T ops S W N k (listed.setIfInBounds i true) F' h') F h:=by
   intro k listed F h XW RQ hB H;exact XY (fun F' h' q=>⟨.inr fun _=>q.1,ih.1 k _ _ _ (XW.set RQ) hB (fun _=>q.1) q.2⟩) H
  refine⟨fun k listed F h XW hB hS H=>?_,fun k listed F h XW hB H j hj hr=>?_⟩
  ·cases k with
   | zero=>simp[Tz.ok]at hB
   | succ k=>
    simp only[Tz.ok,Bool.and_eq_true,Bool.not_true,Bool.false_or,beq_iff_eq]at hB;refine⟨fun h0=>(by rw[hB.1]at h0;cases h0),fun j hj=>?_⟩;have hr:=hj;rw[hB.1]at hj;have hj:j=i:=by simpa using hj
    subst hj;exact second k listed F h XW hr hB.2 H
  ·simp only[Tz.ok,Bool.and_eq_true]at hB;have hj:j=i:=by simpa [Tz.alts] using hj
   subst hj;exact second k listed F h XW hr hB.2 H
 | w i t ih=>
  have second:∀(k:Nat) (listed:Array Bool) (F:Env) (h:Hp),JA ops listed→i∈Region.ready .any ops listed→i∈W→t.Oj=false→t.ok ops W k (listed.setIfInBounds i true) true=true→Ev P T ops S N (.w i t) F h→Qk P T ops i (fun F' h'=>(i∈W∨(S h→S h'))∧Ol P T ops S W N k (listed.setIfInBounds i true) F' h') F h:=by
   intro k listed F h XW RQ hw hq hB H;exact XY (fun F' h' q=>⟨.inl hw,ih.1 k _ _ _ (XW.set RQ) hB (fun e=>by rw[hq]at e;cases e) q⟩) H
  refine⟨fun k listed F h XW hB hS H=>?_,fun k listed F h XW hB H j hj hr=>?_⟩
  ·cases k with
   | zero=>simp[Tz.ok]at hB
   | succ k=>
    simp only[Tz.ok,Bool.and_eq_true,Bool.not_true,Bool.false_or,beq_iff_eq,Bool.not_eq_true']at hB;obtain⟨⟨h1,h2,h3⟩,h4⟩:=hB;refine⟨fun h0=>(by rw[h1]at h0;cases h0),fun j hj=>?_⟩;have hr:=hj;rw[h1]at hj;have hj:j=i:=by simpa using hj
    subst hj;exact second k listed F h XW hr (by simpa using h2) h3 h4 H
  ·simp only[Tz.ok,Bool.and_eq_true,Bool.not_eq_true']at hB;obtain⟨⟨h1,h2,h3⟩,h4⟩:=hB;have hj:j=i:=by simpa [Tz.alts] using hj
   subst hj;exact second k listed F h XW hr (by simpa using h2) h3 h4 H
 | or i t r iht ihr=>
  have second:∀(k:Nat) (listed:Array Bool) (F:Env) (h:Hp),JA ops listed→t.ok ops W k (listed.setIfInBounds i true) true=true→r.ok ops W (k+1) listed false=true→Ev P T ops S N (.or i t r) F h→∀j∈(Tz.or i t r).alts,j∈Region.ready .any ops listed→Qk P T ops j (fun F' h'=>(j∈W∨(S h→S h'))∧Ol P T ops S W N k (listed.setIfInBounds j true) F' h') F h:=by
   intro k listed F h XW hB hR H j hj hr;rcases List.mem_cons.1 hj with hj|hj
   ·subst hj;exact XY (fun F' h' q=>⟨.inr fun _=>q.1,iht.1 k _ _ _ (XW.set hr) hB (fun _=>q.1) q.2⟩) H.1
   ·exact ihr.2 k listed F h XW hR H.2 j hj hr
  refine⟨fun k listed F h XW hB hS H=>?_,fun k listed F h XW hB H j hj hr=>?_⟩
  ·cases k with
   | zero=>simp[Tz.ok]at hB
   | succ k=>
    simp only[Tz.ok,Bool.and_eq_true,Bool.not_true,Bool.false_or,beq_iff_eq]at hB;refine⟨fun h0=>(by rw[hB.1]at h0;cases h0),fun j hj=>?_⟩;have hr:=hj;rw[hB.1]at hj;exact second k listed F h XW hB.2.1 hB.2.2 H j hj hr
  ·simp only[Tz.ok,Bool.and_eq_true]at hB;exact second k listed F h XW hB.2.1 hB.2.2 H j hj hr
def Dj (P:Program) (T:World) (op:Op) (ty:TypeId) (C:Value→Prop) (F:Env):Prop:=
 match op with
 | .load _ _=>False
 | op=>VK P T 0 #[] op ty C F
theorem H4 {op:Op} {ty:TypeId} {C:Value→Prop} (H:Dj P T op ty C F):∃v,(∀h',WQ P T op ty (fun v' Nj=>v'=v∧Nj=h') F h')∧C v:=by
 cases op<;>first|exact H|exact H.elim
def zPg (P:Program) (T:World) (K:Env→Hp→Prop) (F:Env) (h:Hp) (d:Option Tmp) (op:Op) (ty:TypeId) (v:Value) (b:Bool):Prop:=XI v b (Dj P T op ty (fun v=>K (Z3 F d v) h) F) (K (Z3 F d undef) h)
def zP (P:Program) (T:World) (ops:List Oper) (K:Env→Hp→Prop) (F:Env) (h:Hp) (o:Option Oper):Prop:=
 match o with
 | some ⟨d,op,ty,_,_,none⟩=>Dj P T op ty (fun v=>K (Z3 F d v) h) F
 | some ⟨d,op,ty,_,_,some (j,b)⟩=>zPg P T K F h d op ty (QX ops F j) b
 | none=>False
def IT (P:Program) (T:World) (ops:List Oper) (B:Nat) (h0:Hp) (N:Env→Hp→Prop):Tz→Env→Hp→Prop
 | .nil,F,h=>N F h
 | .p i t,F,h=>zP P T ops (IT P T ops B h0 N t) F h (nth ops i)
 | .q i t,F,h=>wQ P T ops B h0 (IT P T ops B h0 N t) F h (nth ops i)
 | .s i t,F,h=>wS P T ops B h0 (IT P T ops B h0 N t) F h (nth ops i)
 | .w i t,F,h=>wW P T ops (IT P T ops B h0 N t) F h (nth ops i)
 | .or i t r,F,h=>wS P T ops B h0 (IT P T ops B h0 N t) F h (nth ops i)∧IT P T ops B h0 N r F h
theorem AM {ops:List Oper} {B:Nat} {h0:Hp} {N:Env→Hp→Prop}:∀(t:Tz) (F:Env) (h:Hp),IT P T ops B h0 N t F h→Ev P T ops.toArray (fun h'=>Zf B h0 h') N t F h:=by
 intro t
 induction t with
 | nil=>intro F h H;exact H
 | p i t ih=>
  intro F h H;simp only[IT]at H;simp only[Ev]
  cases ho:nth ops i with
  | none=>rw[ho]at H;exact H.elim
  | some o=>
   rw[We ho];rw[ho]at H;obtain⟨d,op,ty,pos,Up,g⟩:=o
   cases g with
   | none=>
    show (if Z8 ops.toArray _ F=true then _ else _);rw[if_pos (by rfl)];obtain⟨v,hv,H⟩:=H4 H;exact⟨v,fun h'=>Jz (hv h'),ih _ _ H⟩
   | some jb=>
    obtain⟨j,b⟩:=jb;show (if Z8 ops.toArray _ F=true then _ else _);rcases Y3 ops F d op pos Up j b H with⟨hw,H⟩|⟨hw,H⟩
    ·rw[if_pos hw];obtain⟨v,hv,H⟩:=H4 H;exact⟨v,fun h'=>Jz (hv h'),ih _ _ H⟩
    ·rw[hw,if_neg (by simp)];exact ih _ _ H
 | q i t ih=>
  intro F h H;simp only[IT]at H;simp only[Ev]
  cases ho:nth ops i with
  | none=>rw[ho]at H;exact H.elim
  | some o=>
   rw[We ho];rw[ho]at H;obtain⟨d,op,ty,pos,Up,g⟩:=o
   cases g with
   | none=>
    show (if Z8 ops.toArray _ F=true then _ else _);rw[if_pos (by rfl)];obtain⟨v,hv,H⟩:=U1 H;exact⟨v,fun h' hs=>Jz (hv h' hs),ih _ _ H⟩
   | some jb=>
    obtain⟨j,b⟩:=jb;show (if Z8 ops.toArray _ F=true then _ else _);rcases Y3 ops F d op pos Up j b H with⟨hw,H⟩|⟨hw,H⟩
    ·rw[if_pos hw];obtain⟨v,hv,H⟩:=U1 H;exact⟨v,fun h' hs=>Jz (hv h' hs),ih _ _ H⟩
    ·rw[hw,if_neg (by simp)];exact ih _ _ H
 | s i t ih=>intro F h H;exact Ok ih H
 | w i t ih=>intro F h H;exact Db ih H
 | or i t r iht ihr=>intro F h H;exact⟨Ok iht H.1,ihr _ _ H.2⟩
def Ze5 (n:Nat) (ops:Array Oper) (W:List Nat) (t:Tz):Bool:=Md n ops&&(Region.noSelect ops&&t.ok ops W ops.size (Array.replicate ops.size false) true)
theorem VS.z {id:Nat} {ops:List Oper} (B:Nat) (W:List Nat) (t:Tz) (hm:P.follows .mixedOrders=true) (J2:Ze5 n ops.toArray W t=true)
  (H:IT P T ops B h N t F h):VS P n T (.region id ops.toArray true) N X R F h:=by
 intro a w h1 h2 h3 h4;simp only[Ze5,Bool.and_eq_true]at J2;obtain⟨k1,k2,k3⟩:=J2;refine wp_region_any hm ?_;refine Jy k1 _ _ F h (Hd _ _ _ _ ((Fq (S:=fun h'=>Zf B h h') k2 t).1 _ _ F h (Ml _ _) k3 (fun _=>Zf.refl _ _) (AM t F h H))) a _ h1 h2 h3 ⟨h4.heap,h4.tape,h4.os,h4.output⟩
variable {ops:List Oper} {B:Nat} {h0:Hp} {t r:Tz} {i j:Nat} {d:Option Tmp} {op:Op} {ty:TypeId} {pos:String} {Up:Array Edge} {b c:Bool} {v:Value} {K:Env→Hp→Prop} {C:Value→Prop}
@[go_sem] theorem Zil:IT P T ops B h0 N .nil F h=N F h:=rfl
@[go_sem] theorem ZrL:IT P T ops B h0 N (.p i t) F h=zP P T ops (IT P T ops B h0 N t) F h (nth ops i):=rfl
@[go_sem] theorem ZrM:IT P T ops B h0 N (.q i t) F h=wQ P T ops B h0 (IT P T ops B h0 N t) F h (nth ops i):=rfl
@[go_sem] theorem ZrN:IT P T ops B h0 N (.s i t) F h=wS P T ops B h0 (IT P T ops B h0 N t) F h (nth ops i):=rfl
@[go_sem] theorem ZrO:IT P T ops B h0 N (.w i t) F h=wW P T ops (IT P T ops B h0 N t) F h (nth ops i):=rfl
@[go_sem] theorem Zlz:IT P T ops B h0 N (.or i t r) F h=(wS P T ops B h0 (IT P T ops B h0 N t) F h (nth ops i)∧IT P T ops B h0 N r F h):=rfl
@[go_sem] theorem Ze6:zP P T ops K F h (some ⟨d,op,ty,pos,Up,none⟩)=Dj P T op ty (wKq K F d h) F:=rfl
@[go_sem] theorem Ze7:zP P T ops K F h (some ⟨d,op,ty,pos,Up,some (j,b)⟩)=zPg P T K F h d op ty (QX ops F j) b:=rfl
@[go_sem] theorem Ze8:zPg P T K F h d op ty (.bool c) b=if c=b then Dj P T op ty (wKq K F d h) F else K (Z3 F d undef) h:=rfl
@[go_sem] theorem Ze9 {x:Operand}:Dj P T (.move x) ty C F=VK P T 0 #[] (.move x) ty C F:=rfl
@[go_sem] theorem Za7 {x:Operand}:Dj P T (.assign x) ty C F=VK P T 0 #[] (.assign x) ty C F:=rfl
@[go_sem] theorem Zdu {t:TypeId} {x:Operand} {i:Nat}:Dj P T (.fieldAddr t x i) ty C F=VK P T 0 #[] (.fieldAddr t x i) ty C F:=rfl
@[go_sem] theorem ZlA {t:TypeId} {x i:Operand}:Dj P T (.indexAddr t x i) ty C F=VK P T 0 #[] (.indexAddr t x i) ty C F:=rfl
@[go_sem] theorem Zfa {x y z:Operand}:Dj P T (.pick x y z) ty C F=VK P T 0 #[] (.pick x y z) ty C F:=rfl
@[go_sem] theorem Zim {x:Operand}:Dj P T (.nilCheck x) ty C F=VK P T 0 #[] (.nilCheck x) ty C F:=rfl
@[go_sem] theorem Zin {op:BinOp} {t t':TypeId} {x y:Operand}:Dj P T (.binOp op t x y t') ty C F=VK P T 0 #[] (.binOp op t x y t') ty C F:=rfl
@[go_sem] theorem ZlB {op:UnOp} {t:TypeId} {x:Operand}:Dj P T (.unOp op t x) ty C F=VK P T 0 #[] (.unOp op t x) ty C F:=rfl
@[go_sem] theorem zk {x:Operand} {i:Nat}:Dj P T (.extract x i) ty C F=VK P T 0 #[] (.extract x i) ty C F:=rfl
@[go_sem] theorem Zio {t:TypeId} {x:Operand} {lo hi mx:Option Operand}:Dj P T (.slice t x lo hi mx) ty C F=VK P T 0 #[] (.slice t x lo hi mx) ty C F:=rfl
@[go_sem] theorem Zdv {t:TypeId} {parts:Array (Nat × Operand)}:Dj P T (.build t parts) ty C F=VK P T 0 #[] (.build t parts) ty C F:=rfl
@[go_sem] theorem Zfb {c:Call}:Dj P T (.call c) ty C F=VK P T 0 #[] (.call c) ty C F:=rfl
end
def Yv {β:Type}:List (Int × β)→Int→Option β
 | [],_=>none
 | (a,v) :: r,k=>if a=k then some v else Yv r k
def ins {β:Type}:List (Int × β)→Int→β→List (Int × β)
 | [],k,v=>[(k,v)]
 | (a,x) :: r,k,v=>if a=k then (a,v) :: r else (a,x) :: ins r k v
def UJ {β γ:Type} (f:β→γ) (l:List (Int × β)):List (Int × γ):=l.map fun x=>(x.1,f x.2)
theorem Xt {β γ:Type} (f:β→γ):∀(l:List (Int × β)) (k:Int),Yv (UJ f l) k=(Yv l k).map f:=by
 intro l k
 induction l with
 | nil=>rfl
 | cons x l ih=>
  obtain⟨a,v⟩:=x;show (if a=k then some (f v) else Yv (UJ f l) k)=Option.map f (if a=k then some v else Yv l k);rw[ih];split<;>rfl
theorem Sh {β γ:Type} (f:β→γ):∀(l:List (Int × β)) (k:Int) (v:β),UJ f (ins l k v)=ins (UJ f l) k (f v):=by
 intro l k v
 induction l with
 | nil=>rfl
 | cons x l ih=>
  obtain⟨a,u⟩:=x;show UJ f (if a=k then (a,v) :: l else (a,u) :: ins l k v)=if a=k then (a,f v) :: UJ f l else (a,f u) :: ins (UJ f l) k (f v)
  split
  ·rfl
  ·rw[←ih];rfl
theorem Mo {β γ:Type} (f:β→γ) (l:List (Int × β)):(UJ f l).length=l.length:=List.length_map ..
theorem Pc {β:Type}:∀(l:List (Int × β)) (k:Int) (v:β),(ins l k v).length=if (Yv l k).isSome=true then l.length else l.length+1:=by
 intro l k v
 induction l with
 | nil=>rfl
 | cons x l ih=>
  obtain⟨a,u⟩:=x;unfold ins Yv;by_cases h:a=k
  ·rw[if_pos h,if_pos h];rfl
  ·rw[if_neg h,if_neg h,List.length_cons,ih,List.length_cons];split<;>rfl
theorem JK {β:Type}:∀(l:List (Int × β)) (k j:Int) (v:β),Yv (ins l k v) j=if k=j then some v else Yv l j:=by
 intro l k j v
 induction l with
 | nil=>rfl
 | cons x l ih=>
  obtain⟨a,u⟩:=x;unfold ins;by_cases h:a=k
  ·subst h;rw[if_pos rfl];unfold Yv;by_cases hj:a=j
   ·rw[if_pos hj,if_pos hj]
   ·rw[if_neg hj,if_neg hj,if_neg hj]
  ·rw[if_neg h];show (if a=j then some u else Yv (ins l k v) j)=if k=j then some v else if a=j then some u else Yv l j
   rw[ih];by_cases hj:a=j
   ·rw[if_pos hj,if_pos hj,if_neg (fun e=>h (hj.trans e.symm))]
   ·rw[if_neg hj,if_neg hj]
theorem nI {β:Type} {l:List (Int × β)} {k:Int} (h:Yv l k=none):∀x∈l,x.1≠k:=by
 induction l with
 | nil=>intro x hx;cases hx
 | cons y l ih=>
  obtain⟨a,u⟩:=y;unfold Yv at h;split at h
  ·cases h
  ·rename_i YA;intro x hx;rcases List.mem_cons.1 hx with rfl|hx
   ·exact YA
   ·exact ih h x hx
theorem SY {β:Type} {l:List (Int × β)} {k:Int} {v:β} (h:Yv l k=some v):(k,v)∈l:=by
 induction l with
 | nil=>cases h
 | cons y l ih=>
  obtain⟨a,u⟩:=y;unfold Yv at h;split at h
  ·rename_i he
   cases h;subst he;exact List.mem_cons_self
  ·exact List.mem_cons_of_mem _ (ih h)
section
variable {P:Program} {T:World} {ty:TypeId} {F:Env} {h:Hp} {K:Value→Hp→Prop}
def Qe:Nat→List (Int × Value)→List MapEntry
 | _,[]=>[]
 | i,(k,v) :: l=>⟨.int .i64 k,v,i⟩ :: Qe (i+1) l
def Xu (l:List (Int × Value)):Obj:=.map (Qe 0 l).toArray l.length
theorem US:∀(l:List (Int × Value)) (i:Nat),(Qe i l).length=l.length:=by
 intro l
 induction l with
 | nil=>intro i;rfl
 | cons x l ih=>intro i;obtain⟨k,v⟩:=x;simp[Qe,ih]
def Ns (l:List (Int × Value)) (k:Int):Nat→Option (Nat × Value):=fun j=>match l with
 | []=>none
 | (a,v) :: r=>if k=a then some (j,v) else Ns r k (j+1)
theorem Dk (k:Int):∀(l:List (Int × Value)) (i j:Nat),Instr.findNow (.int .i64) (.int .i64 k) (Qe i l) j=some (Ns l k j):=by
 intro l
 induction l with
 | nil=>intro i j;rfl
 | cons x l ih=>
  intro i j;obtain⟨a,v⟩:=x;unfold Qe Instr.findNow Ns;simp only[Instr.sameNow,if_true];by_cases hk:k=a
  ·subst hk;simp
  ·rw[if_neg hk];have:(k == a)=false:=by simpa using hk
   rw[this];exact ih _ _
theorem nJ (k:Int):∀(l:List (Int × Value)) (j:Nat),(Ns l k j).map (·.2)=Yv l k:=by
 intro l
 induction l with
 | nil=>intro j;rfl
 | cons x l ih=>
  intro j;obtain⟨a,v⟩:=x;unfold Ns Yv;by_cases hk:k=a
  ·rw[if_pos hk,if_pos hk.symm];rfl
  ·rw[if_neg hk,if_neg (fun e=>hk e.symm)];exact ih _
theorem gX {k:Int}:∀{l:List (Int × Value)} {j:Nat},Ns l k j=none→∀(v:Value),ins l k v=l++[(k,v)]:=by
 intro l
 induction l with
 | nil=>intro j _ v;rfl
 | cons x l ih=>
  intro j h v;obtain⟨a,u⟩:=x;unfold Ns at h;split at h
  ·cases h
  ·rename_i hk;unfold ins;rw[if_neg (fun e=>hk e.symm),ih h v];rfl
theorem AN (k:Int) (v:Value):∀(l:List (Int × Value)) (i:Nat),Qe i (l++[(k,v)])=Qe i l++[⟨.int .i64 k,v,i+l.length⟩]:=by
 intro l
 induction l with
 | nil=>intro i;rfl
 | cons x l ih=>intro i;obtain⟨a,u⟩:=x;simp only[List.cons_append,Qe,ih,List.length_cons];congr 4;omega
theorem gY {k:Int}:∀{l:List (Int × Value)} {i j:Nat} {n:Nat} {u:Value},Ns l k j=some (n,u)→∃m,n=m+j∧m<l.length∧(Qe i l)[m]? = some ⟨.int .i64 k,u,i+m⟩∧∀v,Qe i (ins l k v)=(Qe i l).set m ⟨.int .i64 k,v,i+m⟩:=by
 intro l
 induction l with
 | nil=>intro i j n u h;cases h
 | cons x l ih=>
  intro i j n u h;obtain⟨a,w⟩:=x;unfold Ns at h;by_cases hk:k=a
  ·subst hk;rw[if_pos rfl]at h
   cases h
   exact⟨0,by omega,by simp,rfl,fun v=>by unfold ins;rw[if_pos rfl];rfl⟩
  ·rw[if_neg hk]at h;obtain⟨m,h1,h2,h3,h4⟩:=ih (i:=i+1) h;refine⟨m+1,by omega,by simpa using h2,?_,fun v=>?_⟩
   ·simp only[Qe,List.getElem?_cons_succ];rw[h3];congr 2;omega
   ·unfold ins;rw[if_neg (fun e=>hk e.symm)];simp only[Qe,List.set_cons_succ,h4];congr 3;omega
def Mp (P:Program) (t:TypeId) (m k x:Value) (K:Value→Hp→Prop) (h:Hp):Prop:=hw P (Instr.mapUpdate t m k x) (fun _ h=>K undef h) h
@[go_sem] theorem He {t:TypeId} {m k x:Operand}:WQ P T (.mapUpdate t m k x) ty K F h=Mp P t (ev F m) (ev F k) (ev F x) K h:=by
 show hw P (do let _ ←Instr.mapUpdate t (ev F m) (ev F k) (ev F x);pure Next.skip) (Xy P T K) h=_;rw[Zg];rfl
@[go_sem] theorem AO {t:TypeId} {m k x:Operand}:WQ P T (.insert t m k x) ty K F h=Mp P t (ev F m) (ev F k) (ev F x) K h:=by
 show hw P (do let _ ←Instr.mapUpdate t (ev F m) (ev F k) (ev F x);pure Next.skip) (Xy P T K) h=_;rw[Zg];rfl
@[go_sem] theorem tE {t:TypeId} {m k x:Operand}:IX P T ⟨none,.mapUpdate t m k x,ty, "", #[],none⟩ K F h=Mp P t (ev F m) (ev F k) (ev F x) K h:=He
@[go_sem] theorem Za8 {t:TypeId} {m k x:Operand}:IX P T ⟨none,.insert t m k x,ty, "", #[],none⟩ K F h=Mp P t (ev F m) (ev F k) (ev F x) K h:=AO
def dA (P:Program) (t:TypeId):Option TypeId:=match P.underlying t with
 | some (.map k e)=>(match P.underlying k with|some (.int .i64)=>some e|_=>none)
 | _=>none
theorem Om {t e:TypeId} (h:dA P t=some e):∃k,P.underlying t=some (.map k e)∧P.underlying k=some (.int .i64):=by
 unfold dA at h;split at h
 ·rename_i k e' hu;split at h
  ·rename_i hk
   cases h
   exact⟨k,hu,hk⟩
  ·cases h
 ·cases h
def zm (P:Program) (t:TypeId):Option Value:=(P.info? t).bind (·.zero)
theorem Pd {k:TypeId} (hk:P.underlying k=some (.int .i64)) {b:Bool} {n:Int} {Q:Unit→Hp→Prop}:hw P (Instr.checkKey b 10000 k (.int .i64 n)) Q h=Q () h:=by
 show hw P (do
  match ←underlying k,(Value.int .i64 n) with
  | .interface _,.iface d x=>
   let info ←typeInfo d
   if !info.comparable then
    if b then runtimePanic (.unhashable d)
    runtimePanic (.error ("hash of unhashable type " ++ (←typeStr d)))
   Instr.checkKey b 9999 d x
  | .array len elem,.agg cs=>
   for i in [0:len] do Instr.checkKey b 9999 elem (←part elem cs (i*(←sizeOf elem)))
  | .struct fields,.agg cs=>
   for f in fields do
    if f.name ≠ "_" then Instr.checkKey b 9999 f.type (←part f.type cs f.offset)
  | .interface _,.nilIface=>pure ()
  | .interface _,_|.array _ _,_|.struct _,_=>stuck "map key: not a value of its type"
  | _,_=>pure ()) Q h=_
 rw[Zg,Zu hk];rfl
theorem Si {k:TypeId} (hk:P.underlying k=some (.int .i64)) {n:Int} {l:List (Int × Value)} {Q:Option (Nat × Value)→Hp→Prop}:hw P (Instr.findKey k (.int .i64 n) (Qe 0 l)) Q h=Q (Ns l n 0) h:=by
 unfold Instr.findKey;rw[Zg,Zu hk];simp only[Dk];rfl
theorem Yz {t e:TypeId} {z:Value} {b:Nat} {l:List (Int × Value)} {n:Int} {c:Bool} (ht:dA P t=some e) (hz:zm P e=some z) (hm:h[b]? = some (Xu l)) :
  Mn P t (.map (some b)) (.int .i64 n) c K h=K (if c=true then .tuple #[(Yv l n).getD z,.bool (Yv l n).isSome] else (Yv l n).getD z) h:=by
 obtain⟨k,hu,hk⟩:=Om ht;unfold Mn Instr.lookup;rw[Zg,Zu hu];simp only;rw[Zg];apply propext;rw[Pb hm];simp only;rw[Zg,Zw,Zg,Pd hk,Zg,Si hk,←nJ n l 0]
 cases Ns l n 0 with
 | none=>
  simp only[Option.map_none,Option.getD_none,Option.isSome_none];rw[Zg];have EG:=fun {Q:Value→Hp→Prop}=>HY (P:=P) (h:=h) (Q:=Q) hz;rw[EG]
  cases c<;>exact Iff.rfl
 | some p=>cases c<;>exact Iff.rfl
@[go_sem] theorem Fs {t e:TypeId} {z:Value} {n:Int} {c:Bool} (ht:dA P t=some e) (hz:zm P e=some z) :
  Mn P t (.map none) (.int .i64 n) c K h=K (if c=true then .tuple #[z,.bool false] else z) h:=by
 obtain⟨k,hu,hk⟩:=Om ht;unfold Mn Instr.lookup;rw[Zg,Zu hu];simp only;rw[Zg,Zw,Zg,Pd hk,Zg];have:=fun {Q:Option (Nat × Value)→Hp→Prop}=>Si (P:=P) (h:=h) (k:=k) hk (n:=n) (l:=[]) (Q:=Q);rw[show (#[]:Array MapEntry).toList=Qe 0 [] from rfl,this];simp only[Ns];rw[Zg];have EG:=fun {Q:Value→Hp→Prop}=>HY (P:=P) (h:=h) (Q:=Q) hz;rw[EG]
 cases c<;>rfl
theorem XZ {t e:TypeId} {b:Nat} {l:List (Int × Value)} {n:Int} {x:Value} (ht:dA P t=some e) (hm:h[b]? = some (Xu l)) :
  Mp P t (.map (some b)) (.int .i64 n) x K h=K undef (h.setIfInBounds b (Xu (ins l n x))):=by
 obtain⟨k,hu,hk⟩:=Om ht;unfold Mp Instr.mapUpdate;rw[Zg,Zu hu];simp only;rw[Zg];apply propext;rw[Pb hm];simp only;rw[Zg,Pd hk,Zg];show hw P (Instr.findKey k (.int .i64 n) (Qe 0 l)) _ h↔_;rw[Si hk];have st:∀(es:Array MapEntry) (c:Nat) (Q:Unit→Hp→Prop),hw P (setObj b (.map es c)) Q h↔Q () (h.setIfInBounds b (.map es c)):=fun es c Q=>
  ⟨fun H=>H.2,fun H=>⟨⟨_,hm,rfl⟩,H⟩⟩
 cases hp:Ns l n 0 with
 | none=>
  simp only;rw[st];have e1:(Obj.map ((Qe 0 l).toArray.push ⟨.int .i64 n,x,l.length⟩) (l.length+1))=Xu (ins l n x):=by
   rw[gX hp x];unfold Xu;rw[AN,List.push_toArray,List.length_append,Nat.zero_add];rfl
  rw[e1]
 | some p=>
  obtain⟨i,u⟩:=p;obtain⟨m,h1,h2,h3,h4⟩:=gY (i:=0) hp;obtain rfl:i=m:=by omega
  simp only;rw[Zg];have e0:(((Qe 0 l).toArray[i]?).map (·.key)).getD (.int .i64 n)=.int .i64 n:=by
   rw[List.getElem?_toArray,h3];rfl
  have e2:∀(Q:Value→Hp→Prop),hw P (Instr.keyThatStays (.int .i64 n) (.int .i64 n)) Q h=Q (.int .i64 n) h:=fun Q=>by
   unfold Instr.keyThatStays;have:Instr.sameBits 10000 (.int .i64 n) (.int .i64 n)=true:=by simp[Instr.sameBits]
   rw[if_pos this];rfl
  rw[e0,e2,st];have e1:(Obj.map ((Qe 0 l).toArray.modify i fun e=>{ e with key:=.int .i64 n,val:=x }) l.length)=Xu (ins l n x):=by
   unfold Xu;rw[h4 x,Nat.zero_add];have hlen:(ins l n x).length=l.length:=by
    have e5:(Qe 0 (ins l n x)).length=(Qe 0 l).length:=by rw[h4 x];simp
    rw[US,US]at e5;exact e5
   rw[hlen]
   congr 1
   apply Array.ext_getElem?;intro j;rw[Array.getElem?_modify,List.getElem?_toArray,List.getElem?_toArray,List.getElem?_set];by_cases hj:i=j
   ·subst hj;rw[if_pos rfl,if_pos rfl,h3,if_pos (by rw[US];exact h2)];rw[Nat.zero_add];rfl
   ·rw[if_neg hj,if_neg hj]
  rw[e1]
theorem TB {cs:Array Bool} {t e:TypeId} {b:Nat} {l:List (Int × Value)} (ht:dA P t=some e) (hm:h[b]? = some (Xu l)):T9 P T .len #[t] ty cs [.map (some b)] K h=K (.int .i64 l.length) h:=by
 obtain⟨k,hu,hk⟩:=Om ht;show hw P (do pure (.value (←Builtin.len_ #[t] ty #[.map (some b)]))) (Xy P T K) h=_;rw[Zg];show hw P (do
  match ←underlying t,(Value.map (some b)) with
  | .string,.string s=>pure (goInt s.size)
  | .array n _,_=>pure (goInt n)
  | .pointer arr,_=>
   let .array n _ ←underlying arr|stuck "len: pointer to array expected"
   pure (goInt n)
  | .slice _,.slice _ n _=>pure (goInt n)
  | .map _ _,.map none|.chan _ _,.chan none=>pure (goInt 0)
  | .map _ _,.map (some r)=>
   let .map entries _ ←getObj r|stuck "len: map expected"
   pure (goInt entries.size)
  | .chan _ _,.chan (some r)=>
   let .chan _ buf _ _ _ timer ←getObj r|stuck "len: channel expected"
   pure (goInt (if timer then 0 else buf.size))
  | _,_=>stuck "len: string, array, pointer to array, slice, map or channel expected") K h=_
 rw[Zg,Zu hu];simp only;rw[Zg];apply propext;rw[Pb hm];simp only[List.size_toArray,US];exact Iff.rfl
def tkp (P:Program) (t:TypeId):Bool:=match P.underlying t with|some (.pointer _)=>true|_=>false
def tkm (P:Program) (t:TypeId):Bool:=match P.underlying t with|some (.map _ _)=>true|_=>false
def uZ (P:Program) (t:TypeId):Bool:=match P.underlying t with|some (.func _ _ _)=>true|_=>false
theorem nK {t:TypeId} (h:tkp P t=true):∃e,P.underlying t=some (.pointer e):=by
 unfold tkp at h;split at h
 ·exact⟨_,by assumption⟩
 ·cases h
theorem nL {t:TypeId} (h:tkm P t=true):∃k e,P.underlying t=some (.map k e):=by
 unfold tkm at h;split at h
 ·exact⟨_,_,by assumption⟩
 ·cases h
theorem Dl {t:TypeId} (h:uZ P t=true):∃a b c,P.underlying t=some (.func a b c):=by
 unfold uZ at h;split at h
 ·exact⟨_,_,_,by assumption⟩
 ·cases h
theorem Kr {t:TypeId} (ht:tkp P t=true) {a:Option Addr} {Q:Bool→Hp→Prop}:hw P (Op.equal t (.pointer a) (.pointer none)) Q h=Q a.isNone h:=by
 obtain⟨e,hu⟩:=nK ht;unfold Op.equal Op.maxDepth Op.equalIn;rw[Zg,Zu hu]
 cases a<;>rfl
theorem run_eq_map {t:TypeId} (ht:tkm P t=true) {a:Option Nat} {Q:Bool→Hp→Prop}:hw P (Op.equal t (.map a) (.map none)) Q h=Q a.isNone h:=by
 obtain⟨k,e,hu⟩:=nL ht;unfold Op.equal Op.maxDepth Op.equalIn;rw[Zg,Zu hu]
 cases a<;>rfl
theorem H5 {t:TypeId} (ht:uZ P t=true) {f:Fn} {x y:Array Value} {Q:Bool→Hp→Prop}:hw P (Op.equal t (.func f x y) .nilFunc) Q h=Q false h:=by
 obtain⟨a,b,c,hu⟩:=Dl ht;unfold Op.equal Op.maxDepth Op.equalIn;rw[Zg,Zu hu];rfl
theorem H6 {t:TypeId} (ht:uZ P t=true) {Q:Bool→Hp→Prop}:hw P (Op.equal t .nilFunc .nilFunc) Q h=Q true h:=by
 obtain⟨a,b,c,hu⟩:=Dl ht;unfold Op.equal Op.maxDepth Op.equalIn;rw[Zg,Zu hu];rfl
theorem Ft {t:TypeId} {x y:Operand} {a b:Value} {r:Bool} (hg:∀{Q:Unit→Hp→Prop},hw P (eqGuard .eql t x y a b) Q h=Q () h) (hb:binOp .eql t a b=do pure (.bool (←Op.equal t a b))) (he:∀{Q:Bool→Hp→Prop},hw P (Op.equal t a b) Q h=Q r h):Xa P .eql t x y a b K h=K (.bool r) h:=by
 unfold Xa;rw[Zg,hg,hb,Zg,he];rfl
theorem AP {t:TypeId} {x y:Operand} {a b:Value} {r:Bool} (hg:∀{Q:Unit→Hp→Prop},hw P (eqGuard .neq t x y a b) Q h=Q () h) (hb:binOp .neq t a b=do pure (.bool (!(←Op.equal t a b)))) (he:∀{Q:Bool→Hp→Prop},hw P (Op.equal t a b) Q h=Q r h):Xa P .neq t x y a b K h=K (.bool (!r)) h:=by
 unfold Xa;rw[Zg,hg,hb,Zg,he];rfl
@[go_sem] theorem zn {t:TypeId} {x y:Operand} {a:Option Addr} (ht:tkp P t=true):Xa P .eql t x y (.pointer a) (.pointer none) K h=K (.bool a.isNone) h:=Ft rfl rfl (Kr ht)
@[go_sem] theorem zo {t:TypeId} {x y:Operand} {a:Option Addr} (ht:tkp P t=true):Xa P .neq t x y (.pointer a) (.pointer none) K h=K (.bool (!a.isNone)) h:=AP rfl rfl (Kr ht)
@[go_sem] theorem zp {t:TypeId} {x y:Operand} {a:Option Nat} (ht:tkm P t=true):Xa P .eql t x y (.map a) (.map none) K h=K (.bool a.isNone) h:=Ft rfl rfl (run_eq_map ht)
@[go_sem] theorem Za9 {t:TypeId} {x y:Operand} {f:Fn} {u v:Array Value} (ht:uZ P t=true):Xa P .eql t x y (.func f u v) .nilFunc K h=K (.bool false) h:=Ft rfl rfl (H5 ht)
@[go_sem] theorem Zba {t:TypeId} {x y:Operand} (ht:uZ P t=true):Xa P .eql t x y .nilFunc .nilFunc K h=K (.bool true) h:=Ft rfl rfl (H6 ht)
@[go_sem] theorem Zbb {t:TypeId} {x y:Operand} {f:Fn} {u v:Array Value} (ht:uZ P t=true):Xa P .neq t x y (.func f u v) .nilFunc K h=K (.bool true) h:=AP rfl rfl (H5 ht)
@[go_sem] theorem Zbc {t:TypeId} {x y:Operand} (ht:uZ P t=true):Xa P .neq t x y .nilFunc .nilFunc K h=K (.bool false) h:=AP rfl rfl (H6 ht)
end
inductive Dm {α β:Type} (R:α→β→Prop):List α→List β→Prop
 | nil:Dm R [] []
 | cons {a:α} {b:β} {l:List α} {k:List β}:R a b→Dm R l k→Dm R (a :: l) (b :: k)
section
variable {τ:Type}
structure Kp (S:τ→Prop) (o:Nat→Option τ) (h:Hp) (o':Nat→Option τ) (h':Hp):Prop where
 size:h.size≤h'.size
 Zd:∀b,b<h.size→(∀t,o b=some t→¬S t)→h'[b]? = h[b]? ∧ o' b=o b
 stay:∀b,b<h.size→∀t,o b=some t→S t→∃t',o' b=some t'∧S t'
 new:∀b,h.size≤b→∀t,o' b=some t→S t
 ZX:∀b,h'.size≤b→o' b=none
variable {S S':τ→Prop} {o o' o'':Nat→Option τ} {h h' Nj:Hp}
def UE (o:Nat→Option τ) (h:Hp):Prop:=∀b,h.size≤b→o b=none
theorem Kp.refl (d:UE o h) (S:τ→Prop):Kp S o h o h:=
 ⟨Nat.le_refl _,fun _ _ _=>⟨rfl,rfl⟩,fun _ _ t ht hs=>⟨t,ht,hs⟩,fun b hb t ht=>(by rw[d b hb]at ht;cases ht),d⟩
theorem Kp.mono (k:Kp S o h o' h') (hs:∀t,S t→S' t):Kp S' o h o' h':=
 ⟨k.size,fun b hb hn=>k.Zd b hb fun t ht q=>hn t ht (hs t q),fun b hb t ht q=>by
  by_cases p:S t
  ·obtain⟨t',h1,h2⟩:=k.stay b hb t ht p;exact⟨t',h1,hs _ h2⟩
  ·exact⟨t,by rw[(k.Zd b hb fun u hu=>by rw[ht]at hu;cases hu;exact p).2,ht],q⟩,fun b hb t ht=>hs _ (k.new b hb t ht),k.ZX⟩
theorem Kp.trans (k:Kp S o h o' h') (l:Kp S o' h' o'' Nj):Kp S o h o'' Nj:=by
 refine⟨Nat.le_trans k.size l.size,fun b hb hn=>?_,fun b hb t ht hs=>?_,fun b hb t ht=>?_,l.ZX⟩
 ·obtain⟨h1,h2⟩:=k.Zd b hb hn;obtain⟨h3,h4⟩:=l.Zd b (Nat.lt_of_lt_of_le hb k.size) fun t ht=>hn t (by rw[←h2];exact ht);exact⟨h3.trans h1,h4.trans h2⟩
 ·obtain⟨t',h1,h2⟩:=k.stay b hb t ht hs;exact l.stay b (Nat.lt_of_lt_of_le hb k.size) t' h1 h2
 ·by_cases XH:h'.size≤b
  ·exact l.new b XH t ht
  ·have ZD:b<h'.size:=by omega
   cases ho:o' b with
   | none=>
    have:=(l.Zd b ZD fun u hu=>by rw[ho]at hu;cases hu).2;rw[this,ho]at ht;cases ht
   | some t1=>
    obtain⟨t2,h1,h2⟩:=l.stay b ZD t1 ho (k.new b hb t1 ho);rw[h1]at ht;cases ht;exact h2
theorem Kp.get (k:Kp S o h o' h') {b:Nat} {x:Obj} (hx:h[b]? = some x) (hn:∀t,o b=some t→¬S t):h'[b]? = some x:=by
 rw[(k.Zd b (Za hx) hn).1,hx]
theorem Kp.own (k:Kp S o h o' h') {b:Nat} {x:Obj} (hx:h[b]? = some x) (hn:∀t,o b=some t→¬S t):o' b=o b:=(k.Zd b (Za hx) hn).2
theorem Kp.free (k:Kp S o h o' h') {b:Nat} {x:Obj} (hx:h[b]? = some x) (hn:o b=none):h'[b]? = some x∧o' b=none:=by
 have RD:∀t,o b=some t→¬S t:=fun t ht=>by rw[hn]at ht;cases ht
 exact⟨k.get hx RD,(k.own hx RD).trans hn⟩
theorem Kp.Ks (d:UE o h) (b:Zf h.size h h') (S:τ→Prop):Kp S o h o h':=
 ⟨b.size,fun k hk _=>⟨b.block k hk,rfl⟩,fun _ _ t ht hs=>⟨t,ht,hs⟩,fun k hk t ht=>(by rw[d k hk]at ht;cases ht),fun k hk=>d k (Nat.le_trans b.size hk)⟩
theorem Kp.Z2 (k:Kp S o h o' h') (b:Zf h'.size h' Nj):Kp S o h o' Nj:=k.trans (Kp.Ks k.ZX b S)
theorem Kp.push (k:Kp S o h o' h') (x:Obj):Kp S o h o' (h'.push x):=k.Z2 ((Zf.refl _ _).add x)
theorem Kp.set (k:Kp S o h o' h') {b:Nat} {t:τ} (hb:o' b=some t) (hs:S t) (x:Obj):Kp S o h o' (h'.setIfInBounds b x):=by
 refine k.trans ⟨by rw[Array.size_setIfInBounds];exact Nat.le_refl _,fun c hc hn=>⟨?_,rfl⟩,fun _ _ t ht hs=>⟨t,ht,hs⟩,fun c hc t ht=>(by rw[k.ZX c hc]at ht;cases ht),fun c hc=>k.ZX c (by rw[Array.size_setIfInBounds]at hc;exact hc)⟩;rw[Array.getElem?_setIfInBounds,if_neg (fun e=>hn t (by rw[←e];exact hb) hs)]
theorem Kp.AQ (k:Kp S o h o' h') {b:Nat} (hb:h.size≤b) (x:Obj):Kp S o h o' (h'.setIfInBounds b x):=by
 refine⟨by rw[Array.size_setIfInBounds];exact k.size,fun c hc hn=>⟨?_,(k.Zd c hc hn).2⟩,k.stay,k.new,fun c hc=>k.ZX c (by rw[Array.size_setIfInBounds]at hc;exact hc)⟩;rw[Array.getElem?_setIfInBounds,if_neg (fun e=>by omega)];exact (k.Zd c hc hn).1
def JO (o:Nat→Option τ) (b:Nat) (t:τ):Nat→Option τ:=fun c=>if c=b then some t else o c
theorem Y9 {b:Nat} {t:τ}:JO o b t b=some t:=if_pos rfl
theorem Xe {b c:Nat} {t:τ} (hc:c≠b):JO o b t c=o c:=if_neg hc
theorem Kp.Sj (k:Kp S o h o' h') {b:Nat} {t:τ} (hb:h.size≤b) (ZD:b<h'.size) (hs:S t):Kp S o h (JO o' b t) h':=
 ⟨k.size,fun c hc hn=>⟨(k.Zd c hc hn).1,by rw[Xe (by omega)];exact (k.Zd c hc hn).2⟩,fun c hc u hu hsu=>by rw[Xe (by omega)];exact k.stay c hc u hu hsu,
  fun c hc u hu=>by
  by_cases GY:c=b
  ·subst GY;rw[Y9]at hu;cases hu;exact hs
  ·rw[Xe GY]at hu;exact k.new c hc u hu,
  fun c hc=>by rw[Xe (by omega)];exact k.ZX c hc⟩
def YG (o:Nat→Option τ) (t:τ) (E:TypeId) (n:Nat) (h:Hp) (v:Value) (m:Nat) (cs:List Value):Prop:=
 ((∃p,v=.slice p 0 0)∧m=0∧cs=[]) ∨
 ∃b k cap pre spare,o b=some t∧v=.slice (some ⟨b,k,none⟩) m cap∧h[b]? = some (.cells (pre++(cs++spare)).toArray E (0,0))∧pre.length=k∧cs.length=m*n∧spare.length=(cap-m)*n∧m≤cap
variable {t:τ} {E:TypeId} {n m:Nat} {v:Value} {cs:List Value}
theorem YG.nil (o:Nat→Option τ) (t:τ) (E:TypeId) (n:Nat) (h:Hp):YG o t E n h (.slice none 0 0) 0 []:=.inl ⟨⟨_,rfl⟩,rfl,rfl⟩
theorem YG.Zd (s:YG o t E n h v m cs) (k:Kp S o h o' h') (hn:¬S t):YG o' t E n h' v m cs:=by
 rcases s with s|⟨b,j,cap,pre,spare,h1,h2,h3,h4,h5,h6,h7⟩
 ·exact .inl s
 ·have RD:∀u,o b=some u→¬S u:=fun u hu=>by rw[h1]at hu;cases hu;exact hn
  exact .inr ⟨b,j,cap,pre,spare,by rw[k.own h3 RD,h1],h2,k.get h3 RD,h4,h5,h6,h7⟩
theorem YG.sl (s:YG o t E n h v m cs):Sl n h v m cs:=by
 rcases s with⟨⟨p,rfl⟩,rfl,rfl⟩|⟨b,j,cap,pre,spare,h1,rfl,h3,h4,h5,h6,h7⟩
 ·exact⟨p,0,rfl,by simp,fun YA=>absurd rfl YA⟩
 ·exact U2 h3 h5 h4.symm
theorem YG.length (s:YG o t E n h v m cs):cs.length=m*n:=by
 rcases s with⟨_,rfl,rfl⟩|⟨b,j,cap,pre,spare,h1,h2,h3,h4,h5,h6,h7⟩
 ·simp
 ·exact h5
theorem YG.isSlice (s:YG o t E n h v m cs):∃p c,v=.slice p m c∧m≤c:=by
 rcases s with⟨⟨p,rfl⟩,rfl,rfl⟩|⟨b,j,cap,pre,spare,h1,rfl,h3,h4,h5,h6,h7⟩
 ·exact⟨p,0,rfl,Nat.le_refl _⟩
 ·exact⟨_,cap,rfl,h7⟩
theorem YG.tail {p:Option Addr} {c:Nat} (s:YG o t E n h (.slice p m c) m cs) {k:Nat} (hk:k≤m):YG o t E n h (.slice (if c=k then p else p.map (·.add (k*n))) (m-k) (c-k)) (m-k) (cs.drop (k*n)):=by
 rcases s with⟨⟨q,h1⟩,h2,h3⟩|⟨b,j,cap,pre,spare,h1,h2,h3,h4,h5,h6,h7⟩
 ·simp only[Value.slice.injEq]at h1;obtain⟨rfl,rfl,rfl⟩:=h1;have e:k=0:=by omega
  subst e;subst h3;exact .inl ⟨⟨_,rfl⟩,rfl,by simp⟩
 ·simp only[Value.slice.injEq]at h2;obtain⟨rfl,_,rfl⟩:=h2;have hmn:k*n≤m*n:=Nat.mul_le_mul_right _ hk;by_cases hc:c=k
  ·have hm:m=k:=by omega
   rw[if_pos hc];refine .inl ⟨⟨some ⟨b,j,none⟩,by rw[hc,hm,Nat.sub_self]⟩,by omega,?_⟩;exact List.drop_eq_nil_of_le (by rw[h5,hm];exact Nat.le_refl _)
  ·rw[if_neg hc];refine .inr ⟨b,j+k*n,c-k,pre++cs.take (k*n),spare,h1,by rw[Option.map_some,Y4],?_,?_,?_,?_,by omega⟩
   ·rw[List.append_assoc,←List.append_assoc (List.take _ _),List.take_append_drop];exact h3
   ·rw[List.length_append,List.length_take,h4,h5];omega
   ·rw[List.length_drop,h5,Nat.sub_mul]
   ·rw[h6];congr 1;omega
variable {P:Program} {T:World} {K:Value→Hp→Prop} {F:Env} {ty:TypeId}
theorem Dn {a b c vs:List Value} {i:Nat} (hi:i=a.length+b.length) (hv:vs.length≤c.length):Yw (a++(b++c)) i vs=a++((b++vs)++c.drop vs.length):=by
 subst hi;have e1:a++(b++c)=(a++b)++c:=by rw[List.append_assoc]
 rw[e1,←List.length_append,U9,QA _ _ hv];simp
theorem Jf {sT xT E' k bytes:Nat} {s:Value} {news zs:List Value} {cb:Array Bool} (UQ:JI P sT=some E) (Fa:P.underlying xT=some (.slice E')) (hn:tn P E=some n) (hz:tz P E=some zs) (Au:zs.length=n) (SQ:tb P E=some bytes)
  (own:YG o t E n h v m cs) (d:UE o h) (src:Sl n h s k news) (Xc:news.all Z7=true) (Ys:(m+k)*bytes≤140737488355328) (Kf:1≤bytes)
  (H:∀v' o' h',YG o' t E n h' v' (m+k) (cs++news)→Kp (fun u=>u=t) o h o' h'→(∀b,b<h.size→o' b=o b)→K v' h'):T9 P T .append #[sT,xT] ty cb [v,s] K h:=by
 unfold JI at UQ;split at UQ
 ·rename_i e' hu;simp only[Option.some.injEq]at UQ;subst UQ;show hw P (do pure (.value (←Builtin.append_ #[sT,xT] ty #[v,s]))) (Xy P T K) h;rw[Zg];show hw P (Builtin.append_ #[sT,xT] ty #[v,s]) K h;obtain⟨i0,T6⟩:∃i,P.info? e'=some i:=by
   unfold tn at hn
   cases hi:P.info? e' with
   | none=>rw[hi]at hn;cases hn
   | some i=>exact⟨i,rfl⟩
  have RW:i0.bytes=bytes:=by unfold tb at SQ;rw[T6]at SQ;simpa using SQ
  obtain⟨z0,Et,Av⟩:∃z,i0.zero=some z∧z.cells.toList=zs:=by
   unfold tz at hz;rw[T6]at hz
   cases Lt:i0.zero with
   | none=>rw[Option.bind_some,Lt]at hz;cases hz
   | some z=>rw[Option.bind_some,Lt]at hz;exact⟨z,rfl,by simpa using hz⟩
  obtain⟨base,cap,hv,kR⟩:=own.isSlice;subst hv;have gK:∀{Q:Value→Hp→Prop} (g:Hp),hw P (zeroValue e') Q g=Q z0 g:=fun {Q} g=>by
   unfold zeroValue;rw[Zg,Xh T6];simp only[Et];rfl
  have Wb:news.length=k*n:=by obtain⟨_,_,_,hl,_⟩:=src;exact hl
  simp only[Builtin.append_,List.getElem?_toArray,List.getElem?_cons_zero,List.getElem?_cons_succ,Zg,Zw,Zu hu,Zu Fa,run_sizeOf hn,Bool.false_eq_true,if_false,src.lenOf,Bool.not_false,if_true];by_cases J4:m+k≤cap
  ·rw[if_pos J4,Zg];refine Z4 src ?_;rcases own with⟨⟨p,h1⟩,h2,h3⟩|⟨b,j,Kh,pre,spare,h1,h2,h3,h4,h5,h6,h7⟩
   ·simp only[Value.slice.injEq]at h1;obtain⟨rfl,rfl,rfl⟩:=h1;have hk:k=0:=by omega
    subst hk;subst h3;have YA:news=[]:=List.eq_nil_of_length_eq_zero (by simpa using Wb);subst YA;have hK:K (.slice base (0+0) 0) h:=H _ o h (.inl ⟨⟨_,rfl⟩,rfl,rfl⟩) (Kp.refl d _) (fun _ _=>rfl)
    cases base<;>exact hK
   ·simp only[Value.slice.injEq]at h2;obtain⟨rfl,_,rfl⟩:=h2;simp only[Zg,Y4];have Ty:news.length≤spare.length:=by rw[Wb,h6];exact Nat.mul_le_mul_right _ (by omega)
    refine Yk (e:=e') (lo:=0) (hi:=0) rfl (Nat.le_refl _) news 0 h (pre++(cs++spare)).toArray h3 ?_ Xc ?_
    ·simp;rw[h4,←h5];omega
    ·simp only[Zw,Nat.add_zero];refine H _ o _ (.inr ⟨b,j,cap,pre,spare.drop news.length,h1,rfl,?_,h4,?_,?_,J4⟩) ((Kp.refl d (fun u=>u=t)).set h1 rfl _) (fun _ _=>rfl)
     ·rw[Array.getElem?_setIfInBounds,if_pos rfl,if_pos (Za h3)];rw[Dn (by rw[h4,h5]) Ty]
     ·rw[List.length_append,h5,Wb,Nat.add_mul]
     ·rw[List.length_drop,h6,Wb,←Nat.sub_mul];congr 1;omega
  ·rw[if_neg J4];have QO:¬Builtin.nextslicecap (m+k) cap*i0.bytes>2 ^ 48:=by
    rw[RW];have:=Wa (m+k) cap bytes (by omega) Ys;omega
   have Aw:¬i0.bytes=0:=by rw[RW];omega
   simp only[Zg,Xh T6,Aw,or_false,and_false,if_false,if_neg QO];intro q;obtain⟨c,hc⟩:=Zx (Question.cut (Question.appendCap (m+k) cap e') q);have nh:m+k≤c:=by rw[hc];simp only[Question.cut];omega
   rw[←hc];have RX:∀{Q:Unit→Hp→Prop} (b:Nat) (g:Hp),Q () g→hw P (askRoom b) Q g:=fun {Q} b g q=>by
    unfold askRoom;split<;>exact q
   refine RX _ _ (Z4 own.sl (Z4 src ?_));rw[gK];have nj:z0.cells.size=n:=by rw[←Au,←Av];simp
   refine H (.slice (some ⟨h.size,0,none⟩) (m+k) c) (JO o h.size t) _ (.inr ⟨h.size,0,c,[],(Builtin.zeroCells z0.cells (c-(m+k))).toList,Y9,rfl,?_,rfl,?_,?_,nh⟩) (((Kp.refl d _).push _).Sj (Nat.le_refl _) (by simp) rfl) (fun b hb=>Xe (by omega))
   ·rw[Array.getElem?_push_size];simp
   ·rw[List.length_append,own.length,Wb,Nat.add_mul]
   ·rw[Array.length_toList,YM,nj]
 ·cases UQ
theorem Kt {sT xT E' k b off cap:Nat} {s:Value} {pre spare news zs:List Value} {cb:Array Bool} (UQ:JI P sT=some E) (Fa:P.underlying xT=some (.slice E')) (hn:tn P E=some n) (hz:tz P E=some zs)
  (hb:h[b]? = some (.cells (pre++(cs++spare)).toArray E (0,0))) (ho:off=pre.length) (hl:cs.length=m*n) (src:Sl n h s k news) (Xc:news.all Z7=true) (J4:m+k≤cap) (Ys:k*n≤spare.length)
  (H:K (.slice (some ⟨b,off,none⟩) (m+k) cap) (h.setIfInBounds b (.cells (pre++((cs++news)++spare.drop (k*n))).toArray E (0,0)))):T9 P T .append #[sT,xT] ty cb [.slice (some ⟨b,off,none⟩) m cap,s] K h:=by
 unfold JI at UQ;split at UQ
 ·rename_i e' hu;simp only[Option.some.injEq]at UQ;subst UQ;show hw P (do pure (.value (←Builtin.append_ #[sT,xT] ty #[.slice (some ⟨b,off,none⟩) m cap,s]))) (Xy P T K) h;rw[Zg];show hw P (Builtin.append_ #[sT,xT] ty #[.slice (some ⟨b,off,none⟩) m cap,s]) K h;obtain⟨i0,T6⟩:∃i,P.info? e'=some i:=by
   unfold tn at hn
   cases hi:P.info? e' with
   | none=>rw[hi]at hn;cases hn
   | some i=>exact⟨i,rfl⟩
  obtain⟨z0,Et,Av⟩:∃z,i0.zero=some z∧z.cells.toList=zs:=by
   unfold tz at hz;rw[T6]at hz
   cases Lt:i0.zero with
   | none=>rw[Option.bind_some,Lt]at hz;cases hz
   | some z=>rw[Option.bind_some,Lt]at hz;exact⟨z,rfl,by simpa using hz⟩
  have Wb:news.length=k*n:=by obtain⟨_,_,_,hl,_⟩:=src;exact hl
  simp only[Builtin.append_,List.getElem?_toArray,List.getElem?_cons_zero,List.getElem?_cons_succ,Zg,Zw,Zu hu,Zu Fa,run_sizeOf hn,Bool.false_eq_true,if_false,src.lenOf,Bool.not_false,if_true];rw[if_pos J4,Zg];refine Z4 src ?_;simp only[Zg,Y4];refine Yk (e:=e') (lo:=0) (hi:=0) rfl (Nat.le_refl _) news 0 h (pre++(cs++spare)).toArray hb ?_ Xc ?_
  ·simp;rw[ho,hl.symm];omega
  ·simp only[Zw,Nat.add_zero];have e:Yw (pre++(cs++spare)) (off+m*n) news=pre++((cs++news)++spare.drop (k*n)):=by
    rw[Dn (by rw[ho,hl]) (by omega),Wb]
   rw[e];exact H
 ·cases UQ
theorem Nt {sT:TypeId} {zs:List Value} {cb:Array Bool} {b off k c:Nat} {pre kV post:List Value} (UQ:JI P sT=some E) (hz:tz P E=some zs) (Au:zs.length=n) (Fu:zs.all Z7=true)
  (hb:h[b]? = some (.cells (pre++(kV++post)).toArray E (0,0))) (ho:off=pre.length) (hl:kV.length=k*n)
  (H:∀new:List Value,new.length=kV.length→K (.tuple #[]) (h.setIfInBounds b (.cells (pre++(new++post)).toArray E (0,0)))):T9 P T .clear #[sT] ty cb [.slice (some ⟨b,off,none⟩) k c] K h:=by
 unfold JI at UQ;split at UQ
 ·rename_i e' hu;simp only[Option.some.injEq]at UQ;subst UQ;show hw P (do pure (.value (←Builtin.clear_ #[sT] ty #[.slice (some ⟨b,off,none⟩) k c]))) (Xy P T K) h;rw[Zg];show hw P (Builtin.clear_ #[sT] ty #[.slice (some ⟨b,off,none⟩) k c]) K h;have same:h.setIfInBounds b (.cells (pre++(kV++post)).toArray e' (0,0))=h:=by
   apply Array.ext_getElem?;intro j;rw[Array.getElem?_setIfInBounds];by_cases hj:b=j
   ·subst hj;rw[if_pos rfl,if_pos (Za hb),hb]
   ·rw[if_neg hj]
  show hw P (do
   match ←underlying sT,(Value.slice (some ⟨b,off,none⟩) k c) with
   | _,.map none|_,.slice none _ _|_,.slice _ 0 _=>pure ()
   | _,.map (some r)=>
    let .map _ clock ←getObj r|stuck "clear: map expected"
    setObj r (.map #[] clock)
   | .slice elem,.slice (some a) n _=>
    storeCells a (Builtin.zeroCells (←zeroValue elem).cells n).toList
   | _,_=>stuck "clear: map or slice expected"
   pure (.tuple #[])) K h
  rw[Zg,Zu hu]
  cases k with
  | zero=>
   have h0:kV=[]:=List.eq_nil_of_length_eq_zero (by rw[hl];simp);subst h0;have:=H [] rfl;rw[same]at this;exact this
  | succ k=>
   obtain⟨i0,T6⟩:∃i,P.info? e'=some i:=by
    unfold tz at hz
    cases hi:P.info? e' with
    | none=>rw[hi]at hz;cases hz
    | some i=>exact⟨i,rfl⟩
   obtain⟨z0,Et,Av⟩:∃z,i0.zero=some z∧z.cells.toList=zs:=by
    unfold tz at hz;rw[T6]at hz
    cases Lt:i0.zero with
    | none=>rw[Option.bind_some,Lt]at hz;cases hz
    | some z=>rw[Option.bind_some,Lt]at hz;exact⟨z,rfl,by simpa using hz⟩
   have gK:∀{Q:Value→Hp→Prop} (g:Hp),hw P (zeroValue e') Q g=Q z0 g:=fun {Q} g=>by
    unfold zeroValue;rw[Zg,Xh T6];simp only[Et];rfl
   simp only[Zg];rw[gK];have nj:z0.cells.size=n:=by rw[←Au,←Av];simp
   have Bp:(Builtin.zeroCells z0.cells (k+1)).toList.length=kV.length:=by rw[Array.length_toList,YM,nj,hl]
   refine Yk (a:=⟨b,off,none⟩) (e:=e') (lo:=0) (hi:=0) rfl (Nat.le_refl _) _ 0 h (pre++(kV++post)).toArray hb ?_ ?_ ?_
   ·simp only[List.size_toArray,List.length_append,Bp];omega
   ·rw[List.all_eq_true];intro x hx;have hx:x∈Builtin.zeroCells z0.cells (k+1):=by simpa using hx
    have Pe:x∈zs:=by
     rw[←Av];unfold Builtin.zeroCells at hx;rw[Array.mem_map]at hx;obtain⟨i,hi,rfl⟩:=hx;rw[Array.mem_range]at hi;have L1:0<z0.cells.size:=by
      rcases Nat.eq_zero_or_pos z0.cells.size with q|q
      ·rw[q,Nat.mul_zero]at hi;omega
      ·exact q
     have ZD:i%z0.cells.size<z0.cells.size:=Nat.mod_lt _ L1;rw[getElem!_pos z0.cells _ ZD];simp
    exact List.all_eq_true.1 Fu x Pe
   ·simp only[Nat.add_zero];have e1:Yw (pre++(kV++post)).toArray.toList off (Builtin.zeroCells z0.cells (k+1)).toList=pre++((Builtin.zeroCells z0.cells (k+1)).toList++post):=WV ho Bp;rw[e1];exact H _ Bp
 ·cases UQ
end
end Go.V
