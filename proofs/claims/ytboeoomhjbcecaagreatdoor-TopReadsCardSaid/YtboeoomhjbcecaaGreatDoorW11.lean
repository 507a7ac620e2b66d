/- W9: a region that draws its order, where more than one operation may come next: each of them is walked. -/
import Derived.Test.YtboeoomhjbcecaaGreatDoorW8
namespace Go.V
set_option linter.unusedVariables false
set_option linter.unusedSimpArgs false
inductive Tr where
 | nil
 | q (i:Nat) (t:Tr)
 | s (i:Nat) (t:Tr)
 | or (i:Nat) (t:Tr) (r:Tr)
def Tr.alts:Tr→List Nat
 | .s i _=>[i]
 | .or i _ r=>i :: r.alts
 | _=>[]
def Tr.ok (ops:Array Oper):Tr→Nat→Array Bool→Bool→Bool
 | .nil,n,listed,_=>Nat.beq n 0&&(Region.ready .any ops listed).isEmpty
 | .q _ _,0,_,_=>false
 | .q i t,n+1,listed,_=>((Region.ready .any ops listed).contains i&&Region.free .any ops listed i)&&t.ok ops n (listed.setIfInBounds i true) true
 | .s _ _,0,_,_=>false
 | .s i t,n+1,listed,b=>(!b||(Region.ready .any ops listed == [i]))&&t.ok ops n (listed.setIfInBounds i true) true
 | .or _ _ _,0,_,_=>false
 | .or i t r,n+1,listed,b=>(!b||(Region.ready .any ops listed == i :: r.alts))&&(t.ok ops n (listed.setIfInBounds i true) true&&r.ok ops (n+1) listed false)
section
variable {P:Program} {n:Nat} {T:World} {N:Env→Hp→Prop} {X:Nat→Env→Hp→Prop} {R:Env→Hp→Prop} {F:Env} {h:Hp}
def kT (P:Program) (T:World) (ops:List Oper) (B:Nat) (h0:Hp) (N:Env→Hp→Prop):Tr→Env→Hp→Prop
 | .nil,F,h=>N F h
 | .q i t,F,h=>match nth ops i with
  | some ⟨d,op,ty,_,_,none⟩=>VK P T B h0 op ty (fun v=>kT P T ops B h0 N t (Z3 F d v) h) F
  | some ⟨d,op,ty,_,_,some (j,b)⟩=>XI (QX ops F j) b (VK P T B h0 op ty (fun v=>kT P T ops B h0 N t (Z3 F d v) h) F) (kT P T ops B h0 N t (Z3 F d undef) h)
  | none=>False
 | .s i t,F,h=>match nth ops i with
  | some ⟨d,op,ty,_,_,none⟩=>WQ P T op ty (fun v h'=>Zf B h0 h'∧kT P T ops B h0 N t (Z3 F d v) h') F h
  | some ⟨d,op,ty,_,_,some (j,b)⟩=>XI (QX ops F j) b (WQ P T op ty (fun v h'=>Zf B h0 h'∧kT P T ops B h0 N t (Z3 F d v) h') F h) (Zf B h0 h∧kT P T ops B h0 N t (Z3 F d undef) h)
  | none=>False
 | .or i t r,F,h=>(match nth ops i with
  | some ⟨d,op,ty,_,_,none⟩=>WQ P T op ty (fun v h'=>Zf B h0 h'∧kT P T ops B h0 N t (Z3 F d v) h') F h
  | some ⟨d,op,ty,_,_,some (j,b)⟩=>XI (QX ops F j) b (WQ P T op ty (fun v h'=>Zf B h0 h'∧kT P T ops B h0 N t (Z3 F d v) h') F h) (Zf B h0 h∧kT P T ops B h0 N t (Z3 F d undef) h)
  | none=>False)∧kT P T ops B h0 N r F h
theorem We {ops:List Oper} {i:Nat} {o:Oper} (h:nth ops i=some o):ops.toArray[i]? = some o:=by
 rw[List.getElem?_toArray,←Yh];exact h
theorem AE {ops:List Oper} {B:Nat} {h0:Hp} {i:Nat} {K K':Env→Hp→Prop} (hk:∀F h,K F h→K' F h)
  (H:match nth ops i with
    | some ⟨d,op,ty,_,_,none⟩=>WQ P T op ty (fun v h'=>Zf B h0 h'∧K (Z3 F d v) h') F h
    | some ⟨d,op,ty,_,_,some (j,b)⟩=>XI (QX ops F j) b (WQ P T op ty (fun v h'=>Zf B h0 h'∧K (Z3 F d v) h') F h) (Zf B h0 h∧K (Z3 F d undef) h)
    | none=>False):Qk P T ops.toArray i (fun F' h'=>Zf B h0 h'∧K' F' h') F h:=by
 unfold Qk
 cases ho:nth ops i with
 | none=>rw[ho]at H;exact H.elim
 | some o=>
  rw[We ho];rw[ho]at H;obtain⟨d,op,ty,pos,Up,g⟩:=o
  cases g with
  | none=>
   show (if Z8 ops.toArray _ F=true then _ else _);rw[if_pos (by rfl)];exact Qm (fun v h' q=>⟨q.1,hk _ _ q.2⟩) H
  | some jb=>
   obtain⟨j,b⟩:=jb;show (if Z8 ops.toArray _ F=true then _ else _);rcases Y3 ops F d op pos Up j b H with⟨hw,H⟩|⟨hw,H⟩
   ·rw[if_pos hw];exact Qm (fun v h' q=>⟨q.1,hk _ _ q.2⟩) H
   ·rw[hw,if_neg (by simp)];exact⟨H.1,hk _ _ H.2⟩
def tKs (P:Program) (T:World) (ops:List Oper) (B:Nat) (h0:Hp) (N:Env→Hp→Prop) (t:Tr) (F:Env) (d:Option Tmp):Value→Hp→Prop:=fun v h'=>Zf B h0 h'∧kT P T ops B h0 N t (Z3 F d v) h'
def tS (P:Program) (T:World) (ops:List Oper) (B:Nat) (h0:Hp) (N:Env→Hp→Prop) (t:Tr) (F:Env) (h:Hp) (o:Option Oper):Prop:=
 match o with
 | some ⟨d,op,ty,_,_,none⟩=>WQ P T op ty (tKs P T ops B h0 N t F d) F h
 | some ⟨d,op,ty,_,_,some (j,b)⟩=>XI (QX ops F j) b (WQ P T op ty (tKs P T ops B h0 N t F d) F h) (Zf B h0 h∧kT P T ops B h0 N t (Z3 F d undef) h)
 | none=>False
variable {ops:List Oper} {B:Nat} {h0:Hp} {t r:Tr} {i j:Nat} {d:Option Tmp} {op:Op} {ty:TypeId} {pos:String} {Up:Array Edge} {b c:Bool} {v:Value}
end
section
variable {B:Nat} {h h':Hp} {o:Obj} {b:Nat}
@[go_sem] theorem Zdo:Zf B h h=True:=eq_true (Zf.refl _ _)
@[go_sem] theorem ZeA (a:Zf h.size h h'):Zf h.size h (h'.push o)=True:=eq_true (a.add _)
@[go_sem] theorem ZeB (a:Zf B h h') (hb:B≤b):Zf B h (h'.setIfInBounds b o)=True:=eq_true (a.Zm hb _)
attribute [go_sem] Nat.le_add_right Nat.le_refl List.cons_append List.nil_append
@[go_sem] theorem ZeC (z:List Value):X2 1 z=z:=by simp[X2]
@[go_sem] theorem ZeD (z:List Value):X2 2 z=z++z:=by simp[X2]
end
theorem Jn.ZeE {α:Type} {enc:α→List Value} {n B:Nat} {E:TypeId} {h:Hp} {v:Value} {l:List α} (Qw:∀x,(enc x).length=n) (hn:n≠0) (s:Jn B E enc n h v l) :
  ∃p cap,v=.slice p l.length cap∧(l≠[]→∃b o,p=some ⟨b,o,none⟩∧B≤b∧b<h.size∧∀i (hi:i<l.length),YY h b (o+i*n) (enc l[i])):=by
 obtain⟨p,cap,hv,YS⟩:=s.ts.open Qw hn;refine⟨p,cap,hv,fun YA=>?_⟩;obtain⟨b,o,hp,hb,hc⟩:=YS YA;refine⟨b,o,hp,?_,hb,hc⟩;rcases s.own with⟨_,h0,_⟩|⟨b',Kh,spare,hB,EY,_⟩
 ·exact absurd (List.eq_nil_of_length_eq_zero h0) YA
 ·rw[hv,hp]at EY;simp only[Value.slice.injEq,Option.some.injEq,Addr.mk.injEq]at EY;obtain⟨⟨rfl,_⟩,_⟩:=EY;exact hB
theorem Jn.one {α:Type} {enc:α→List Value} {n B:Nat} {E:TypeId} {h:Hp} (x:α) (Qw:∀x,(enc x).length=n) (hB:B≤h.size):Jn B E enc n (h.push (.cells (enc x).toArray E)) (.slice (some ⟨h.size,0,none⟩) 1 1) [x]:=by
 have:=Jn.made (h:=h) (E:=E) (B:=B) Qw [x] hB
 simpa [Zz] using this
section
variable {P:Program} {n:Nat} {T:World} {N:Env→Hp→Prop} {X:Nat→Env→Hp→Prop} {R:Env→Hp→Prop} {F:Env} {h:Hp}
def Oi (P:Program) (T:World) (ops:Array Oper) (S:Hp→Prop) (W:List Nat) (N:Env→Hp→Prop):Nat→Array Bool→Env→Hp→Prop
 | 0,listed,F,h=>Region.ready .any ops listed=[]∧N F h
 | k+1,listed,F,h=>(Region.ready .any ops listed=[]→N F h) ∧
   ∀i∈Region.ready .any ops listed,Qk P T ops i (fun F' h'=>(i∈W∨S h')∧Oi P T ops S W N k (listed.setIfInBounds i true) F' h') F h
theorem Hb {ops:Array Oper} {S:Hp→Prop} {W:List Nat}:∀(k:Nat) (listed:Array Bool) (F:Env) (h:Hp),Oi P T ops S W N k listed F h→BG P T ops (fun _=>True) N k listed F h:=by
 intro k
 induction k with
 | zero=>intro listed F h H;exact H
 | succ k ih=>intro listed F h H;exact⟨H.1,fun i hi=>XY (fun F' h' q=>⟨trivial,ih _ _ _ q.2⟩) (H.2 i hi)⟩
def JA (ops:Array Oper) (listed:Array Bool):Prop:=
 ∀(j:Nat) oj,ops[j]? = some oj→listed.getD j false=true→∀e∈oj.after,Region.binds .any e=true→listed.getD e.on false=true
theorem getD_set_true {l:Array Bool} {j k:Nat} (h:l.getD k false=true):(l.setIfInBounds j true).getD k false=true:=by
 rw[Array.getD_eq_getD_getElem?]at h ⊢;rw[Array.getElem?_setIfInBounds];by_cases da:j=k
 ·subst da;rw[if_pos rfl];by_cases ZD:j<l.size
  ·rw[if_pos ZD];rfl
  ·rw[Array.getElem?_eq_none (by omega)]at h;cases h
 ·rw[if_neg da];exact h
theorem JA.set {ops:Array Oper} {listed:Array Bool} (c:JA ops listed) {j:Nat} (hj:j∈Region.ready .any ops listed):JA ops (listed.setIfInBounds j true):=by
 intro k ok J2 hl e he hb;obtain⟨_,oj,fO,Xk⟩:=mem_ready.1 hj;by_cases da:j=k
 ·subst da;rw[fO]at J2;obtain rfl:=Option.some.inj J2;exact getD_set_true (Xk e he hb)
 ·refine getD_set_true (c k ok J2 ?_ e he hb);rw[Array.getD_eq_getD_getElem?,Array.getElem?_setIfInBounds,if_neg da]at hl;rw[Array.getD_eq_getD_getElem?];exact hl
def dp:Nat:=16
def ons (ops:Array Oper) (k:Nat):List Nat:=match ops[k]? with|some o=>(o.after.toList.filter fun e=>Region.binds .any e).map fun e=>e.on|none=>[]
def Fk (ops:Array Oper):Nat→List Nat→List Nat
 | 0,M=>M
 | k+1,M=>Fk ops k (if M.any (Nat.beq k)=true then ons ops k++M else M)
def Ut (ops:Array Oper) (f j i:Nat):Bool:=(Fk ops j (ons ops j)).any (Nat.beq i)
theorem Km {ops:Array Oper} {k:Nat} {L:Nat→Prop} (h:∀o,ops[k]? = some o→∀e∈o.after,Region.binds .any e=true→L e.on):∀x∈ons ops k,L x:=by
 intro x hx;unfold ons at hx
 cases ho:ops[k]? with
 | none=>rw[ho]at hx;cases hx
 | some o=>
  rw[ho]at hx;simp only[List.mem_map,List.mem_filter]at hx;obtain⟨e,⟨he,hb⟩,rfl⟩:=hx;exact h o ho e (by simpa using he) hb
theorem Kn {ops:Array Oper} {listed:Array Bool} (c:JA ops listed):∀(k:Nat) (M:List Nat),(∀x∈M,listed.getD x false=true)→∀x∈Fk ops k M,listed.getD x false=true:=by
 intro k
 induction k with
 | zero=>intro M hM;exact hM
 | succ k ih=>
  intro M hM;refine ih _ ?_;split
  ·rename_i hk;obtain⟨y,hy,he⟩:=List.any_eq_true.1 hk;obtain rfl:=Nat.eq_of_beq_eq_true he;intro x hx;rcases List.mem_append.1 hx with hx|hx
   ·exact Km (L:=fun x=>listed.getD x false=true) (fun o ho e he hb=>c _ o ho (hM _ hy) e he hb) x hx
   ·exact hM x hx
  ·exact hM
theorem Mj {ops:Array Oper} {listed:Array Bool} (c:JA ops listed) {i f j:Nat} (h:Ut ops f j i=true) (hj:j∈Region.ready .any ops listed):listed.getD i false=true:=by
 obtain⟨_,o,ho,Xk⟩:=mem_ready.1 hj;unfold Ut at h;obtain⟨y,hy,he⟩:=List.any_eq_true.1 h;obtain rfl:=Nat.eq_of_beq_eq_true he;refine Kn c _ _ (Km (L:=fun x=>listed.getD x false=true) fun o' R7 e he hb=>?_) _ hy;rw[ho]at R7;obtain rfl:=Option.some.inj R7;exact Xk e he hb
theorem Mk {ops:Array Oper} {S:Hp→Prop} {W:List Nat} {i:Nat} {oi:Oper} {v:Value} (hi:ops[i]? = some oi) (Ez:∀(j:Nat) (o:Oper) cs b,ops[j]? = some o→o.op ≠ .select cs b)
  (hW:∀j∈W,∃f,Ut ops f j i=true) :
  ∀(k:Nat) (listed:Array Bool) (F:Env) (h:Hp),JA ops listed →
   (∀j oj,ops[j]? = some oj→j≠i→listed.getD j true=false→(∀e∈oj.after,Region.binds .any e=true→e.on≠i)→oi.apart ops oj=true) →
   i∈Region.ready .any ops listed→QN P T ops S oi v F→S h →
   Oi P T ops S W N k (listed.setIfInBounds i true) (Z3 F oi.dst v) h→Oi P T ops S W N (k+1) listed F h:=by
 intro k
 induction k with
 | zero=>
  intro listed F h _ _ hr hy hS H;refine⟨fun h=>(by rw[h]at hr;cases hr),fun j hj=>?_⟩;by_cases WO:j=i
  ·subst WO;exact hy.opI hi hS ⟨.inr hS,H⟩
  ·have:=ready_mono hj WO;rw[H.1]at this
   cases this
 | succ k ih=>
  intro listed F h XW Mg hr hy hS H;refine⟨fun h=>(by rw[h]at hr;cases hr),fun j hj=>?_⟩;by_cases WO:j=i
  ·subst WO;exact hy.opI hi hS ⟨.inr hS,H⟩
  ·have h1:=H.2 j (ready_mono hj WO);obtain⟨EA,oj,fO,Xk⟩:=mem_ready.1 hj;have GW:∀e∈oj.after,Region.binds .any e=true→e.on≠i:=fun e he hb heq=>by
    have h1:=Xk e he hb;have h0:=(mem_ready.1 hr).1;rw[heq]at h1;rcases Nat.lt_or_ge i listed.size with h'|h'
    ·simp[h']at h0 h1;rw[h0]at h1;cases h1
    ·simp[Array.getElem?_eq_none h']at h1
   have hjW:j ∉ W:=fun hjw=>by
    obtain⟨f,hf⟩:=hW j hjw;have h1:=Mj XW hf hj;have h0:=(mem_ready.1 hr).1;rcases Nat.lt_or_ge i listed.size with h'|h'
    ·simp[h']at h0 h1;rw[h0]at h1;cases h1
    ·simp[Array.getElem?_eq_none h']at h1
   have h2:=LS fO (Mg j oj fO WO EA GW) (fun cs b=>Ez i oi cs b hi) (fun cs b=>Ez j oj cs b fO) hy h1;have LV:∀k ok,ops[k]? = some ok→k≠i→(listed.setIfInBounds j true).getD k true=false →
     (∀e∈ok.after,Region.binds .any e=true→e.on≠i)→oi.apart ops ok=true:=fun k ok hk kP yS lT=>by
    refine Mg k ok hk kP ?_ lT;by_cases da:j=k
    ·subst da;exact EA
    ·rw[getD_set_ne true da]at yS;exact yS
   refine XY (fun F' h' h3=>?_) h2;have hS':S h':=h3.2.1.resolve_left hjW;refine⟨.inr hS',ih (listed.setIfInBounds j true) F' h' (XW.set hj) LV (ready_mono hr (Ne.symm WO)) h3.1 hS' ?_⟩;rw[Array.setIfInBounds_comm _ _ WO];exact h3.2.2
inductive Rm where
 | nil
 | q (i:Nat) (t:Rm)
 | s (i:Nat) (t:Rm)
 | w (i:Nat) (t:Rm)
 | or (i:Nat) (t:Rm) (r:Rm)
def Rm.alts:Rm→List Nat
 | .s i _=>[i]
 | .w i _=>[i]
 | .or i _ r=>i :: r.alts
 | _=>[]
def Rm.Oj:Rm→Bool
 | .q _ _=>true
 | .s _ t=>t.Oj
 | .or _ t r=>t.Oj||r.Oj
 | _=>false
def Rm.ok (ops:Array Oper) (W:List Nat):Rm→Nat→Array Bool→Bool→Bool
 | .nil,n,listed,_=>Nat.beq n 0&&(Region.ready .any ops listed).isEmpty
 | .q _ _,0,_,_=>false
 | .q i t,n+1,listed,_=>((Region.ready .any ops listed).contains i&&(Region.free .any ops listed i&&W.all fun j=>Ut ops dp j i))&&t.ok ops W n (listed.setIfInBounds i true) true
 | .s _ _,0,_,_=>false
 | .s i t,n+1,listed,b=>(!b||(Region.ready .any ops listed == [i]))&&t.ok ops W n (listed.setIfInBounds i true) true
 | .w _ _,0,_,_=>false
 | .w i t,n+1,listed,b=>((!b||(Region.ready .any ops listed == [i]))&&(W.contains i&&!t.Oj))&&t.ok ops W n (listed.setIfInBounds i true) true
 | .or _ _ _,0,_,_=>false
 | .or i t r,n+1,listed,b=>(!b||(Region.ready .any ops listed == i :: r.alts))&&(t.ok ops W n (listed.setIfInBounds i true) true&&r.ok ops W (n+1) listed false)
def dq (P:Program) (T:World) (ops:Array Oper) (S:Hp→Prop) (N:Env→Hp→Prop):Rm→Env→Hp→Prop
 | .nil,F,h=>N F h
 | .q i t,F,h=>match ops[i]? with
  | some o=>if Z8 ops o F then ∃v,(∀h',S h'→IX P T o (fun v' Nj=>v'=v∧Nj=h') F h')∧dq P T ops S N t (Z3 F o.dst v) h else dq P T ops S N t (Z3 F o.dst undef) h
  | none=>False
 | .s i t,F,h=>Qk P T ops i (fun F' h'=>S h'∧dq P T ops S N t F' h') F h
 | .w i t,F,h=>Qk P T ops i (fun F' h'=>dq P T ops S N t F' h') F h
 | .or i t r,F,h=>Qk P T ops i (fun F' h'=>S h'∧dq P T ops S N t F' h') F h∧dq P T ops S N r F h
theorem Fl {ops:Array Oper} {S:Hp→Prop} {W:List Nat} (hs:Region.noSelect ops=true):∀(t:Rm),
  (∀(k:Nat) (listed:Array Bool) (F:Env) (h:Hp),JA ops listed→t.ok ops W k listed true=true→(t.Oj=true→S h)→dq P T ops S N t F h→Oi P T ops S W N k listed F h) ∧
  (∀(k:Nat) (listed:Array Bool) (F:Env) (h:Hp),JA ops listed→t.ok ops W (k+1) listed false=true→dq P T ops S N t F h→∀j∈t.alts,j∈Region.ready .any ops listed→Qk P T ops j (fun F' h'=>(j∈W∨S h')∧Oi P T ops S W N k (listed.setIfInBounds j true) F' h') F h):=by
 intro t
 induction t with
 | nil=>
  refine⟨fun k listed F h XW hB hS H=>?_,fun k listed F h _ _ _ j hj=>by cases hj⟩;simp only[Rm.ok,Bool.and_eq_true,List.isEmpty_iff]at hB;obtain⟨h1,h2⟩:=hB;obtain rfl:=Nat.eq_of_beq_eq_true h1;exact⟨h2,H⟩
 | q i t ih=>
  refine⟨fun k listed F h XW hB hS H=>?_,fun k listed F h _ _ _ j hj=>by cases hj⟩;have hS:=hS rfl
  cases k with
  | zero=>simp[Rm.ok]at hB
  | succ k=>
   simp only[Rm.ok,Bool.and_eq_true]at hB;obtain⟨⟨h1,h2,hw⟩,h3⟩:=hB;have RQ:i∈Region.ready .any ops listed:=by simpa using h1
   obtain⟨_,o,ho,_⟩:=mem_ready.1 RQ;have hW:∀j∈W,∃f,Ut ops f j i=true:=fun j hj=>⟨dp,List.all_eq_true.1 hw j hj⟩
   simp only[dq,ho]at H;split at H
   ·rename_i LQ;obtain⟨v,hv,H⟩:=H;exact Mk ho (Region.noSelect_spec hs) hW k listed F h XW (Region.free_spec ho h2) RQ (.inl ⟨LQ,hv⟩) hS (ih.1 k _ _ _ (XW.set RQ) h3 (fun _=>hS) H)
   ·rename_i LQ;exact Mk ho (Region.noSelect_spec hs) hW k listed F h XW (Region.free_spec ho h2) RQ (.inr ⟨by simpa using LQ,rfl⟩) hS (ih.1 k _ _ _ (XW.set RQ) h3 (fun _=>hS) H)
 | s i t ih=>
  have second:∀(k:Nat) (listed:Array Bool) (F:Env) (h:Hp),JA ops listed→i∈Region.ready .any ops listed→t.ok ops W k (listed.setIfInBounds i true) true=true→dq P T ops S N (.s i t) F h→Qk P T ops i (fun F' h'=>(i∈W∨S h')∧Oi P T ops S W N k (listed.setIfInBounds i true) F' h') F h:=by
   intro k listed F h XW RQ hB H;exact XY (fun F' h' q=>⟨.inr q.1,ih.1 k _ _ _ (XW.set RQ) hB (fun _=>q.1) q.2⟩) H
  refine⟨fun k listed F h XW hB hS H=>?_,fun k listed F h XW hB H j hj hr=>?_⟩
  ·cases k with
   | zero=>simp[Rm.ok]at hB
   | succ k=>
    simp only[Rm.ok,Bool.and_eq_true,Bool.not_true,Bool.false_or,beq_iff_eq]at hB;refine⟨fun h0=>(by rw[hB.1]at h0;cases h0),fun j hj=>?_⟩;have hr:=hj;rw[hB.1]at hj;have hj:j=i:=by simpa using hj
    subst hj;exact second k listed F h XW hr hB.2 H
  ·simp only[Rm.ok,Bool.and_eq_true]at hB;have hj:j=i:=by simpa [Rm.alts] using hj
   subst hj;exact second k listed F h XW hr hB.2 H
 | w i t ih=>
  have second:∀(k:Nat) (listed:Array Bool) (F:Env) (h:Hp),JA ops listed→i∈Region.ready .any ops listed→i∈W→t.Oj=false→t.ok ops W k (listed.setIfInBounds i true) true=true→dq P T ops S N (.w i t) F h→Qk P T ops i (fun F' h'=>(i∈W∨S h')∧Oi P T ops S W N k (listed.setIfInBounds i true) F' h') F h:=by
   intro k listed F h XW RQ hw hq hB H;exact XY (fun F' h' q=>⟨.inl hw,ih.1 k _ _ _ (XW.set RQ) hB (fun e=>by rw[hq]at e;cases e) q⟩) H
  refine⟨fun k listed F h XW hB hS H=>?_,fun k listed F h XW hB H j hj hr=>?_⟩
  ·cases k with
   | zero=>simp[Rm.ok]at hB
   | succ k=>
    simp only[Rm.ok,Bool.and_eq_true,Bool.not_true,Bool.false_or,beq_iff_eq,Bool.not_eq_true']at hB;obtain⟨⟨h1,h2,h3⟩,h4⟩:=hB;refine⟨fun h0=>(by rw[h1]at h0;cases h0),fun j hj=>?_⟩;have hr:=hj;rw[h1]at hj;have hj:j=i:=by simpa using hj
    subst hj;exact second k listed F h XW hr (by simpa using h2) h3 h4 H
  ·simp only[Rm.ok,Bool.and_eq_true,Bool.not_eq_true']at hB;obtain⟨⟨h1,h2,h3⟩,h4⟩:=hB;have hj:j=i:=by simpa [Rm.alts] using hj
   subst hj;exact second k listed F h XW hr (by simpa using h2) h3 h4 H
 | or i t r iht ihr=>
  have second:∀(k:Nat) (listed:Array Bool) (F:Env) (h:Hp),JA ops listed→t.ok ops W k (listed.setIfInBounds i true) true=true→r.ok ops W (k+1) listed false=true→dq P T ops S N (.or i t r) F h→∀j∈(Rm.or i t r).alts,j∈Region.ready .any ops listed→Qk P T ops j (fun F' h'=>(j∈W∨S h')∧Oi P T ops S W N k (listed.setIfInBounds j true) F' h') F h:=by
   intro k listed F h XW hB hR H j hj hr;rcases List.mem_cons.1 hj with hj|hj
   ·subst hj;exact XY (fun F' h' q=>⟨.inr q.1,iht.1 k _ _ _ (XW.set hr) hB (fun _=>q.1) q.2⟩) H.1
   ·exact ihr.2 k listed F h XW hR H.2 j hj hr
  refine⟨fun k listed F h XW hB hS H=>?_,fun k listed F h XW hB H j hj hr=>?_⟩
  ·cases k with
   | zero=>simp[Rm.ok]at hB
   | succ k=>
    simp only[Rm.ok,Bool.and_eq_true,Bool.not_true,Bool.false_or,beq_iff_eq]at hB;refine⟨fun h0=>(by rw[hB.1]at h0;cases h0),fun j hj=>?_⟩;have hr:=hj;rw[hB.1]at hj;exact second k listed F h XW hB.2.1 hB.2.2 H j hj hr
  ·simp only[Rm.ok,Bool.and_eq_true]at hB;exact second k listed F h XW hB.2.1 hB.2.2 H j hj hr
def wKs (B:Nat) (h0:Hp) (K:Env→Hp→Prop) (F:Env) (d:Option Tmp):Value→Hp→Prop:=fun v h'=>Zf B h0 h'∧K (Z3 F d v) h'
def wKw (K:Env→Hp→Prop) (F:Env) (d:Option Tmp):Value→Hp→Prop:=fun v h'=>K (Z3 F d v) h'
def wQg (P:Program) (T:World) (B:Nat) (h0:Hp) (K:Env→Hp→Prop) (F:Env) (h:Hp) (d:Option Tmp) (op:Op) (ty:TypeId) (v:Value) (b:Bool):Prop:=XI v b (VK P T B h0 op ty (fun v=>K (Z3 F d v) h) F) (K (Z3 F d undef) h)
def wQ (P:Program) (T:World) (ops:List Oper) (B:Nat) (h0:Hp) (K:Env→Hp→Prop) (F:Env) (h:Hp) (o:Option Oper):Prop:=
 match o with
 | some ⟨d,op,ty,_,_,none⟩=>VK P T B h0 op ty (fun v=>K (Z3 F d v) h) F
 | some ⟨d,op,ty,_,_,some (j,b)⟩=>wQg P T B h0 K F h d op ty (QX ops F j) b
 | none=>False
def wSg (P:Program) (T:World) (B:Nat) (h0:Hp) (K:Env→Hp→Prop) (F:Env) (h:Hp) (d:Option Tmp) (op:Op) (ty:TypeId) (v:Value) (b:Bool):Prop:=XI v b (WQ P T op ty (wKs B h0 K F d) F h) (Zf B h0 h∧K (Z3 F d undef) h)
def wS (P:Program) (T:World) (ops:List Oper) (B:Nat) (h0:Hp) (K:Env→Hp→Prop) (F:Env) (h:Hp) (o:Option Oper):Prop:=
 match o with
 | some ⟨d,op,ty,_,_,none⟩=>WQ P T op ty (wKs B h0 K F d) F h
 | some ⟨d,op,ty,_,_,some (j,b)⟩=>wSg P T B h0 K F h d op ty (QX ops F j) b
 | none=>False
def wWg (P:Program) (T:World) (K:Env→Hp→Prop) (F:Env) (h:Hp) (d:Option Tmp) (op:Op) (ty:TypeId) (v:Value) (b:Bool):Prop:=XI v b (WQ P T op ty (wKw K F d) F h) (K (Z3 F d undef) h)
def wW (P:Program) (T:World) (ops:List Oper) (K:Env→Hp→Prop) (F:Env) (h:Hp) (o:Option Oper):Prop:=
 match o with
 | some ⟨d,op,ty,_,_,none⟩=>WQ P T op ty (wKw K F d) F h
 | some ⟨d,op,ty,_,_,some (j,b)⟩=>wWg P T K F h d op ty (QX ops F j) b
 | none=>False
def Eu (P:Program) (T:World) (ops:List Oper) (B:Nat) (h0:Hp) (N:Env→Hp→Prop):Rm→Env→Hp→Prop
 | .nil,F,h=>N F h
 | .q i t,F,h=>wQ P T ops B h0 (Eu P T ops B h0 N t) F h (nth ops i)
 | .s i t,F,h=>wS P T ops B h0 (Eu P T ops B h0 N t) F h (nth ops i)
 | .w i t,F,h=>wW P T ops (Eu P T ops B h0 N t) F h (nth ops i)
 | .or i t r,F,h=>wS P T ops B h0 (Eu P T ops B h0 N t) F h (nth ops i)∧Eu P T ops B h0 N r F h
theorem Ok {ops:List Oper} {B:Nat} {h0:Hp} {i:Nat} {K K':Env→Hp→Prop} (hk:∀F h,K F h→K' F h) (H:wS P T ops B h0 K F h (nth ops i)):Qk P T ops.toArray i (fun F' h'=>Zf B h0 h'∧K' F' h') F h:=by
 refine AE (K:=K) hk ?_
 cases ho:nth ops i with
 | none=>rw[ho]at H;exact H.elim
 | some o=>
  rw[ho]at H;obtain⟨d,op,ty,pos,Up,g⟩:=o
  cases g with
  | none=>exact H
  | some jb=>exact H
theorem Db {ops:List Oper} {i:Nat} {K K':Env→Hp→Prop} (hk:∀F h,K F h→K' F h) (H:wW P T ops K F h (nth ops i)):Qk P T ops.toArray i K' F h:=by
 unfold Qk
 cases ho:nth ops i with
 | none=>rw[ho]at H;exact H.elim
 | some o=>
  rw[We ho];rw[ho]at H;obtain⟨d,op,ty,pos,Up,g⟩:=o
  cases g with
  | none=>
   show (if Z8 ops.toArray _ F=true then _ else _);rw[if_pos (by rfl)];exact Qm (fun v h' q=>hk _ _ q) H
  | some jb=>
   obtain⟨j,b⟩:=jb;show (if Z8 ops.toArray _ F=true then _ else _);rcases Y3 ops F d op pos Up j b H with⟨hw,H⟩|⟨hw,H⟩
   ·rw[if_pos hw];exact Qm (fun v h' q=>hk _ _ q) H
   ·rw[hw,if_neg (by simp)];exact hk _ _ H
theorem AF {ops:List Oper} {B:Nat} {h0:Hp} {N:Env→Hp→Prop}:∀(t:Rm) (F:Env) (h:Hp),Eu P T ops B h0 N t F h→dq P T ops.toArray (fun h'=>Zf B h0 h') N t F h:=by
 intro t
 induction t with
 | nil=>intro F h H;exact H
 | q i t ih=>
  intro F h H;simp only[Eu]at H;simp only[dq]
  cases ho:nth ops i with
  | none=>rw[ho]at H;exact H.elim
  | some o=>
   rw[We ho];rw[ho]at H;obtain⟨d,op,ty,pos,Up,g⟩:=o
   cases g with
   | none=>
    show (if Z8 ops.toArray _ F=true then _ else _);rw[if_pos (by rfl)];obtain⟨v,hv,H⟩:=U1 H;exact⟨v,fun h' hs=>Jz (hv h' hs),ih _ _ H⟩
   | some jb=>
    obtain⟨j,b⟩:=jb;show (if Z8 ops.toArray _ F=true then _ else _);rcases Y3 ops F d op pos Up j b H with⟨hw,H⟩|⟨hw,H⟩
    ·rw[if_pos hw];obtain⟨v,hv,H⟩:=U1 H;exact⟨v,fun h' hs=>Jz (hv h' hs),ih _ _ H⟩
    ·rw[hw,if_neg (by simp)];exact ih _ _ H
 | s i t ih=>intro F h H;exact Ok ih H
 | w i t ih=>intro F h H;exact Db ih H
 | or i t r iht ihr=>intro F h H;exact⟨Ok iht H.1,ihr _ _ H.2⟩
theorem Ml (ops:Array Oper) (n:Nat):JA ops (Array.replicate n false):=by
 intro j oj _ hl;rw[Array.getD_eq_getD_getElem?]at hl;by_cases hj:j<n
 ·simp[hj]at hl
 ·rw[Array.getElem?_eq_none (by simp;omega)]at hl;cases hl
def ZeH (n:Nat) (ops:Array Oper) (W:List Nat) (t:Rm):Bool:=Md n ops&&(Region.noSelect ops&&t.ok ops W ops.size (Array.replicate ops.size false) true)
theorem VS.w {id:Nat} {ops:List Oper} (B:Nat) (W:List Nat) (t:Rm) (hm:P.follows .mixedOrders=true) (J2:ZeH n ops.toArray W t=true)
  (H:Eu P T ops B h N t F h):VS P n T (.region id ops.toArray true) N X R F h:=by
 intro a w h1 h2 h3 h4;simp only[ZeH,Bool.and_eq_true]at J2;obtain⟨k1,k2,k3⟩:=J2;refine wp_region_any hm ?_;refine Jy k1 _ _ F h (Hb _ _ _ _ ((Fl (S:=fun h'=>Zf B h h') k2 t).1 _ _ F h (Ml _ _) k3 (fun _=>Zf.refl _ _) (AF t F h H))) a _ h1 h2 h3 ⟨h4.heap,h4.tape,h4.os,h4.output⟩
variable {ops:List Oper} {B:Nat} {h0:Hp} {t r:Rm} {i j:Nat} {d:Option Tmp} {op:Op} {ty:TypeId} {pos:String} {Up:Array Edge} {b c:Bool} {v:Value} {K:Env→Hp→Prop}
def wKq (K:Env→Hp→Prop) (F:Env) (d:Option Tmp) (h:Hp):Value→Prop:=fun v=>K (Z3 F d v) h
@[go_sem] theorem Zib:Eu P T ops B h0 N .nil F h=N F h:=rfl
@[go_sem] theorem ZrC:Eu P T ops B h0 N (.q i t) F h=wQ P T ops B h0 (Eu P T ops B h0 N t) F h (nth ops i):=rfl
@[go_sem] theorem ZrD:Eu P T ops B h0 N (.s i t) F h=wS P T ops B h0 (Eu P T ops B h0 N t) F h (nth ops i):=rfl
@[go_sem] theorem ZrE:Eu P T ops B h0 N (.w i t) F h=wW P T ops (Eu P T ops B h0 N t) F h (nth ops i):=rfl
@[go_sem] theorem Zlm:Eu P T ops B h0 N (.or i t r) F h=(wS P T ops B h0 (Eu P T ops B h0 N t) F h (nth ops i)∧Eu P T ops B h0 N r F h):=rfl
@[go_sem] theorem ZeJ:wQ P T ops B h0 K F h (some ⟨d,op,ty,pos,Up,none⟩)=VK P T B h0 op ty (wKq K F d h) F:=rfl
@[go_sem] theorem ZeK:wQ P T ops B h0 K F h (some ⟨d,op,ty,pos,Up,some (j,b)⟩)=wQg P T B h0 K F h d op ty (QX ops F j) b:=rfl
@[go_sem] theorem ZeL:wS P T ops B h0 K F h (some ⟨d,op,ty,pos,Up,none⟩)=WQ P T op ty (wKs B h0 K F d) F h:=rfl
@[go_sem] theorem ZeM:wS P T ops B h0 K F h (some ⟨d,op,ty,pos,Up,some (j,b)⟩)=wSg P T B h0 K F h d op ty (QX ops F j) b:=rfl
@[go_sem] theorem ZeN:wW P T ops K F h (some ⟨d,op,ty,pos,Up,none⟩)=WQ P T op ty (wKw K F d) F h:=rfl
@[go_sem] theorem ZeO:wW P T ops K F h (some ⟨d,op,ty,pos,Up,some (j,b)⟩)=wWg P T K F h d op ty (QX ops F j) b:=rfl
@[go_sem] theorem ZeP:wQg P T B h0 K F h d op ty (.bool c) b=if c=b then VK P T B h0 op ty (wKq K F d h) F else K (Z3 F d undef) h:=rfl
@[go_sem] theorem ZeQ:wSg P T B h0 K F h d op ty (.bool c) b=if c=b then WQ P T op ty (wKs B h0 K F d) F h else (Zf B h0 h∧K (Z3 F d undef) h):=rfl
@[go_sem] theorem ZeR:wWg P T K F h d op ty (.bool c) b=if c=b then WQ P T op ty (wKw K F d) F h else K (Z3 F d undef) h:=rfl
@[go_sem] theorem Zic:wKq K F d h v=K (Z3 F d v) h:=rfl
@[go_sem] theorem Zid:wKs B h0 K F d v h=(Zf B h0 h∧K (Z3 F d v) h):=rfl
@[go_sem] theorem Zie:wKw K F d v h=K (Z3 F d v) h:=rfl
end
end Go.V
