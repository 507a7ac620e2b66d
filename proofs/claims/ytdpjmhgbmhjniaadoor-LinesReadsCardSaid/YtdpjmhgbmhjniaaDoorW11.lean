/- Part W11. -/
import Derived.Test.YtdpjmhgbmhjniaaDoorW8
namespace Go.V
set_option linter.unusedVariables false
set_option linter.unusedSimpArgs false
inductive Tr where
 | nil
 | q (i:Nat) (t:Tr)
 | s (i:Nat) (t:Tr)
 | or (i:Nat) (t:Tr) (r:Tr)
def Tr.alts:Tr→List Nat
 | .s i _=>[i]
 | .or i _ r=>i :: r.alts
 | _=>[]
def Tr.ok (ops:Array Oper):Tr→Nat→Array Bool→Bool→Bool
 | .nil,n,listed,_=>Nat.beq n 0&&(Region.ready .any ops listed).isEmpty
 | .q _ _,0,_,_=>false
 | .q i t,n+1,listed,_=>((Region.ready .any ops listed).contains i&&Region.free .any ops listed i)&&t.ok ops n (listed.setIfInBounds i true) true
 | .s _ _,0,_,_=>false
 | .s i t,n+1,listed,b=>(!b||(Region.ready .any ops listed == [i]))&&t.ok ops n (listed.setIfInBounds i true) true
 | .or _ _ _,0,_,_=>false
 | .or i t r,n+1,listed,b=>(!b||(Region.ready .any ops listed == i :: r.alts))&&(t.ok ops n (listed.setIfInBounds i true) true&&r.ok ops (n+1) listed false)
section
variable {P:Program} {n:Nat} {T:World} {N:Env→Hp→Prop} {X:Nat→Env→Hp→Prop} {R:Env→Hp→Prop} {F:Env} {h:Hp}
theorem Y3 {ops:List Oper} {i:Nat} {o:Oper} (h:nth ops i=some o):ops.toArray[i]? = some o:=by
 rw[List.getElem?_toArray,←Yx];exact h
theorem T0 {ops:List Oper} {B:Nat} {h0:Hp} {i:Nat} {K K':Env→Hp→Prop} (hk:∀F h,K F h→K' F h)
  (H:match nth ops i with
    | some ⟨d,op,ty,_,_,none⟩=>Je P T op ty (fun v h'=>Zj B h0 h'∧K (Zl F d v) h') F h
    | some ⟨d,op,ty,_,_,some (j,b)⟩=>ZZ (Y1 ops F j) b (Je P T op ty (fun v h'=>Zj B h0 h'∧K (Zl F d v) h') F h) (Zj B h0 h∧K (Zl F d undef) h)
    | none=>False):Yd P T ops.toArray i (fun F' h'=>Zj B h0 h'∧K' F' h') F h:=by
 unfold Yd
 cases ho:nth ops i with
 | none=>rw[ho]at H;exact H.elim
 | some o=>
  rw[Y3 ho]
  rw[ho]at H
  obtain⟨d,op,ty,pos,YN,g⟩:=o
  cases g with
  | none=>
   show (if Zp ops.toArray _ F=true then _ else _)
   rw[if_pos (by rfl)]
   exact Yf (fun v h' q=>⟨q.1,hk _ _ q.2⟩) H
  | some jb=>
   obtain⟨j,b⟩:=jb
   show (if Zp ops.toArray _ F=true then _ else _)
   rcases ZB ops F d op pos YN j b H with⟨hw,H⟩|⟨hw,H⟩
   ·rw[if_pos hw]
    exact Yf (fun v h' q=>⟨q.1,hk _ _ q.2⟩) H
   ·rw[hw,if_neg (by simp)]
    exact⟨H.1,hk _ _ H.2⟩
variable {ops:List Oper} {B:Nat} {h0:Hp} {t r:Tr} {i j:Nat} {d:Option Tmp} {op:Op} {ty:TypeId} {pos:String} {YN:Array Edge} {b c:Bool} {v:Value}
end
section
variable {B:Nat} {h h':Hp} {o:Obj} {b:Nat}
@[go_sem] theorem KD:Zj B h h=True:=eq_true (Zj.refl _ _)
@[go_sem] theorem Ij (a:Zj h.size h h'):Zj h.size h (h'.push o)=True:=eq_true (a.add _)
attribute [go_sem] Nat.le_add_right Nat.le_refl List.cons_append List.nil_append
@[go_sem] theorem Ik (z:List Value):YT 1 z=z:=by simp[YT]
@[go_sem] theorem Il (z:List Value):YT 2 z=z++z:=by simp[YT]
end
theorem Jk.MW {α:Type} {enc:α→List Value} {n B:Nat} {E:TypeId} {h:Hp} {v:Value} {l:List α} (Xu:∀x,(enc x).length=n) (hn:n≠0) (s:Jk B E enc n h v l) :
  ∃p cap,v=.slice p l.length cap∧(l≠[]→∃b o,p=some ⟨b,o,none⟩∧B≤b∧b<h.size∧∀i (hi:i<l.length),ZF h b (o+i*n) (enc l[i])):=by
 obtain⟨p,cap,hv,Xc⟩:=s.ts.open Xu hn
 refine⟨p,cap,hv,fun ZC=>?_⟩
 obtain⟨b,o,hp,hb,hc⟩:=Xc ZC
 refine⟨b,o,hp,?_,hb,hc⟩
 rcases s.ZJ with⟨_,h0,_⟩|⟨b',Vp,Zy,hB,K7,_⟩
 ·exact absurd (List.eq_nil_of_length_eq_zero h0) ZC
 ·rw[hv,hp]at K7
  simp only[Value.slice.injEq,Option.some.injEq,Addr.mk.injEq]at K7
  obtain⟨⟨rfl,_⟩,_⟩:=K7
  exact hB
theorem Jk.one {α:Type} {enc:α→List Value} {n B:Nat} {E:TypeId} {h:Hp} (x:α) (Xu:∀x,(enc x).length=n) (hB:B≤h.size):Jk B E enc n (h.push (.cells (enc x).toArray E)) (.slice (some ⟨h.size,0,none⟩) 1 1) [x]:=by
 have:=Jk.made (h:=h) (E:=E) (B:=B) Xu [x] hB
 simpa [Yh] using this
section
variable {P:Program} {n:Nat} {T:World} {N:Env→Hp→Prop} {X:Nat→Env→Hp→Prop} {R:Env→Hp→Prop} {F:Env} {h:Hp}
def JU (P:Program) (T:World) (ops:Array Oper) (S:Hp→Prop) (W:List Nat) (N:Env→Hp→Prop):Nat→Array Bool→Env→Hp→Prop
 | 0,listed,F,h=>Region.ready .any ops listed=[]∧N F h
 | k+1,listed,F,h=>(Region.ready .any ops listed=[]→N F h) ∧
   ∀i∈Region.ready .any ops listed,Yd P T ops i (fun F' h'=>(i∈W∨S h')∧JU P T ops S W N k (listed.setIfInBounds i true) F' h') F h
theorem Jl {ops:Array Oper} {S:Hp→Prop} {W:List Nat}:∀(k:Nat) (listed:Array Bool) (F:Env) (h:Hp),JU P T ops S W N k listed F h→Ta P T ops (fun _=>True) N k listed F h:=by
 intro k
 induction k with
 | zero=>intro listed F h H;exact H
 | succ k ih=>intro listed F h H;exact⟨H.1,fun i hi=>ZR (fun F' h' q=>⟨trivial,ih _ _ _ q.2⟩) (H.2 i hi)⟩
def Z0 (ops:Array Oper) (listed:Array Bool):Prop:=
 ∀(j:Nat) oj,ops[j]? = some oj→listed.getD j false=true→∀e∈oj.after,Region.binds .any e=true→listed.getD e.on false=true
theorem getD_set_true {l:Array Bool} {j k:Nat} (h:l.getD k false=true):(l.setIfInBounds j true).getD k false=true:=by
 rw[Array.getD_eq_getD_getElem?]at h ⊢
 rw[Array.getElem?_setIfInBounds]
 by_cases Sx:j=k
 ·subst Sx
  rw[if_pos rfl]
  by_cases ZH:j<l.size
  ·rw[if_pos ZH];rfl
  ·rw[Array.getElem?_eq_none (by omega)]at h;cases h
 ·rw[if_neg Sx];exact h
theorem Z0.set {ops:Array Oper} {listed:Array Bool} (c:Z0 ops listed) {j:Nat} (hj:j∈Region.ready .any ops listed):Z0 ops (listed.setIfInBounds j true):=by
 intro k ok ZN hl e he hb
 obtain⟨_,oj,SY,XM⟩:=mem_ready.1 hj
 by_cases Sx:j=k
 ·subst Sx
  rw[SY]at ZN
  obtain rfl:=Option.some.inj ZN
  exact getD_set_true (XM e he hb)
 ·refine getD_set_true (c k ok ZN ?_ e he hb)
  rw[Array.getD_eq_getD_getElem?,Array.getElem?_setIfInBounds,if_neg Sx]at hl
  rw[Array.getD_eq_getD_getElem?];exact hl
def SJ:Nat:=16
def H9 (ops:Array Oper) (k:Nat):List Nat:=match ops[k]? with|some o=>(o.after.toList.filter fun e=>Region.binds .any e).map fun e=>e.on|none=>[]
def Wy (ops:Array Oper):Nat→List Nat→List Nat
 | 0,M=>M
 | k+1,M=>Wy ops k (if M.any (Nat.beq k)=true then H9 ops k++M else M)
def YG (ops:Array Oper) (f j i:Nat):Bool:=(Wy ops j (H9 ops j)).any (Nat.beq i)
theorem Ud {ops:Array Oper} {k:Nat} {L:Nat→Prop} (h:∀o,ops[k]? = some o→∀e∈o.after,Region.binds .any e=true→L e.on):∀x∈H9 ops k,L x:=by
 intro x hx
 unfold H9 at hx
 cases ho:ops[k]? with
 | none=>rw[ho]at hx;cases hx
 | some o=>
  rw[ho]at hx
  simp only[List.mem_map,List.mem_filter]at hx
  obtain⟨e,⟨he,hb⟩,rfl⟩:=hx
  exact h o ho e (by simpa using he) hb
theorem Ue {ops:Array Oper} {listed:Array Bool} (c:Z0 ops listed):∀(k:Nat) (M:List Nat),(∀x∈M,listed.getD x false=true)→∀x∈Wy ops k M,listed.getD x false=true:=by
 intro k
 induction k with
 | zero=>intro M hM;exact hM
 | succ k ih=>
  intro M hM
  refine ih _ ?_
  split
  ·rename_i hk
   obtain⟨y,hy,he⟩:=List.any_eq_true.1 hk
   obtain rfl:=Nat.eq_of_beq_eq_true he
   intro x hx
   rcases List.mem_append.1 hx with hx|hx
   ·exact Ud (L:=fun x=>listed.getD x false=true) (fun o ho e he hb=>c _ o ho (hM _ hy) e he hb) x hx
   ·exact hM x hx
  ·exact hM
theorem Qw {ops:Array Oper} {listed:Array Bool} (c:Z0 ops listed) {i f j:Nat} (h:YG ops f j i=true) (hj:j∈Region.ready .any ops listed):listed.getD i false=true:=by
 obtain⟨_,o,ho,XM⟩:=mem_ready.1 hj
 unfold YG at h
 obtain⟨y,hy,he⟩:=List.any_eq_true.1 h
 obtain rfl:=Nat.eq_of_beq_eq_true he
 refine Ue c _ _ (Ud (L:=fun x=>listed.getD x false=true) fun o' EF e he hb=>?_) _ hy
 rw[ho]at EF
 obtain rfl:=Option.some.inj EF
 exact XM e he hb
theorem Qx {ops:Array Oper} {S:Hp→Prop} {W:List Nat} {i:Nat} {oi:Oper} {v:Value} (hi:ops[i]? = some oi) (WY:∀(j:Nat) (o:Oper) cs b,ops[j]? = some o→o.op ≠ .select cs b)
  (hW:∀j∈W,∃f,YG ops f j i=true) :
  ∀(k:Nat) (listed:Array Bool) (F:Env) (h:Hp),Z0 ops listed →
   (∀j oj,ops[j]? = some oj→j≠i→listed.getD j true=false→(∀e∈oj.after,Region.binds .any e=true→e.on≠i)→oi.apart ops oj=true) →
   i∈Region.ready .any ops listed→Yo P T ops S oi v F→S h →
   JU P T ops S W N k (listed.setIfInBounds i true) (Zl F oi.dst v) h→JU P T ops S W N (k+1) listed F h:=by
 intro k
 induction k with
 | zero=>
  intro listed F h _ _ hr hy hS H
  refine⟨fun h=>(by rw[h]at hr;cases hr),fun j hj=>?_⟩
  by_cases Qq:j=i
  ·subst Qq;exact hy.Kw hi hS ⟨.inr hS,H⟩
  ·have:=ready_mono hj Qq
   rw[H.1]at this
   cases this
 | succ k ih=>
  intro listed F h Z7 Qr hr hy hS H
  refine⟨fun h=>(by rw[h]at hr;cases hr),fun j hj=>?_⟩
  by_cases Qq:j=i
  ·subst Qq;exact hy.Kw hi hS ⟨.inr hS,H⟩
  ·have h1:=H.2 j (ready_mono hj Qq)
   obtain⟨WZ,oj,SY,XM⟩:=mem_ready.1 hj
   have Pw:∀e∈oj.after,Region.binds .any e=true→e.on≠i:=fun e he hb heq=>by
    have h1:=XM e he hb
    have h0:=(mem_ready.1 hr).1
    rw[heq]at h1
    rcases Nat.lt_or_ge i listed.size with h'|h'
    ·simp[h']at h0 h1;rw[h0]at h1;cases h1
    ·simp[Array.getElem?_eq_none h']at h1
   have D6:j ∉ W:=fun GR=>by
    obtain⟨f,hf⟩:=hW j GR
    have h1:=Qw Z7 hf hj
    have h0:=(mem_ready.1 hr).1
    rcases Nat.lt_or_ge i listed.size with h'|h'
    ·simp[h']at h0 h1;rw[h0]at h1;cases h1
    ·simp[Array.getElem?_eq_none h']at h1
   have h2:=QV SY (Qr j oj SY Qq WZ Pw) (fun cs b=>WY i oi cs b hi) (fun cs b=>WY j oj cs b SY) hy h1
   have QX:∀k ok,ops[k]? = some ok→k≠i→(listed.setIfInBounds j true).getD k true=false →
     (∀e∈ok.after,Region.binds .any e=true→e.on≠i)→oi.apart ops ok=true:=fun k ok hk KT MM Nt=>by
    refine Qr k ok hk KT ?_ Nt
    by_cases Sx:j=k
    ·subst Sx;exact WZ
    ·rw[getD_set_ne true Sx]at MM;exact MM
   refine ZR (fun F' h' h3=>?_) h2
   have EG:S h':=h3.2.1.resolve_left D6
   refine⟨.inr EG,ih (listed.setIfInBounds j true) F' h' (Z7.set hj) QX (ready_mono hr (Ne.symm Qq)) h3.1 EG ?_⟩
   rw[Array.setIfInBounds_comm _ _ Qq]
   exact h3.2.2
inductive Ja where
 | nil
 | q (i:Nat) (t:Ja)
 | s (i:Nat) (t:Ja)
 | w (i:Nat) (t:Ja)
 | or (i:Nat) (t:Ja) (r:Ja)
def Ja.alts:Ja→List Nat
 | .s i _=>[i]
 | .w i _=>[i]
 | .or i _ r=>i :: r.alts
 | _=>[]
def Ja.JV:Ja→Bool
 | .q _ _=>true
 | .s _ t=>t.JV
 | .or _ t r=>t.JV||r.JV
 | _=>false
def Ja.ok (ops:Array Oper) (W:List Nat):Ja→Nat→Array Bool→Bool→Bool
 | .nil,n,listed,_=>Nat.beq n 0&&(Region.ready .any ops listed).isEmpty
 | .q _ _,0,_,_=>false
 | .q i t,n+1,listed,_=>((Region.ready .any ops listed).contains i&&(Region.free .any ops listed i&&W.all fun j=>YG ops SJ j i))&&t.ok ops W n (listed.setIfInBounds i true) true
 | .s _ _,0,_,_=>false
 | .s i t,n+1,listed,b=>(!b||(Region.ready .any ops listed == [i]))&&t.ok ops W n (listed.setIfInBounds i true) true
 | .w _ _,0,_,_=>false
 | .w i t,n+1,listed,b=>((!b||(Region.ready .any ops listed == [i]))&&(W.contains i&&!t.JV))&&t.ok ops W n (listed.setIfInBounds i true) true
 | .or _ _ _,0,_,_=>false
 | .or i t r,n+1,listed,b=>(!b||(Region.ready .any ops listed == i :: r.alts))&&(t.ok ops W n (listed.setIfInBounds i true) true&&r.ok ops W (n+1) listed false)
def SK (P:Program) (T:World) (ops:Array Oper) (S:Hp→Prop) (N:Env→Hp→Prop):Ja→Env→Hp→Prop
 | .nil,F,h=>N F h
 | .q i t,F,h=>match ops[i]? with
  | some o=>if Zp ops o F then ∃v,(∀h',S h'→WW P T o (fun v' Qc=>v'=v∧Qc=h') F h')∧SK P T ops S N t (Zl F o.dst v) h else SK P T ops S N t (Zl F o.dst undef) h
  | none=>False
 | .s i t,F,h=>Yd P T ops i (fun F' h'=>S h'∧SK P T ops S N t F' h') F h
 | .w i t,F,h=>Yd P T ops i (fun F' h'=>SK P T ops S N t F' h') F h
 | .or i t r,F,h=>Yd P T ops i (fun F' h'=>S h'∧SK P T ops S N t F' h') F h∧SK P T ops S N r F h
theorem JW {ops:Array Oper} {S:Hp→Prop} {W:List Nat} (hs:Region.noSelect ops=true):∀(t:Ja),
  (∀(k:Nat) (listed:Array Bool) (F:Env) (h:Hp),Z0 ops listed→t.ok ops W k listed true=true→(t.JV=true→S h)→SK P T ops S N t F h→JU P T ops S W N k listed F h) ∧
  (∀(k:Nat) (listed:Array Bool) (F:Env) (h:Hp),Z0 ops listed→t.ok ops W (k+1) listed false=true→SK P T ops S N t F h→∀j∈t.alts,j∈Region.ready .any ops listed→Yd P T ops j (fun F' h'=>(j∈W∨S h')∧JU P T ops S W N k (listed.setIfInBounds j true) F' h') F h):=by
 intro t
 induction t with
 | nil=>
  refine⟨fun k listed F h Z7 hB hS H=>?_,fun k listed F h _ _ _ j hj=>by cases hj⟩
  simp only[Ja.ok,Bool.and_eq_true,List.isEmpty_iff]at hB
  obtain⟨h1,h2⟩:=hB
  obtain rfl:=Nat.eq_of_beq_eq_true h1
  exact⟨h2,H⟩
 | q i t ih=>
  refine⟨fun k listed F h Z7 hB hS H=>?_,fun k listed F h _ _ _ j hj=>by cases hj⟩
  have hS:=hS rfl
  cases k with
  | zero=>simp[Ja.ok]at hB
  | succ k=>
   simp only[Ja.ok,Bool.and_eq_true]at hB
   obtain⟨⟨h1,h2,hw⟩,h3⟩:=hB
   have Jp:i∈Region.ready .any ops listed:=by simpa using h1
   obtain⟨_,o,ho,_⟩:=mem_ready.1 Jp
   have hW:∀j∈W,∃f,YG ops f j i=true:=fun j hj=>⟨SJ,List.all_eq_true.1 hw j hj⟩
   simp only[SK,ho]at H
   split at H
   ·rename_i WX
    obtain⟨v,hv,H⟩:=H
    exact Qx ho (Region.noSelect_spec hs) hW k listed F h Z7 (Region.free_spec ho h2) Jp (.inl ⟨WX,hv⟩) hS (ih.1 k _ _ _ (Z7.set Jp) h3 (fun _=>hS) H)
   ·rename_i WX
    exact Qx ho (Region.noSelect_spec hs) hW k listed F h Z7 (Region.free_spec ho h2) Jp (.inr ⟨by simpa using WX,rfl⟩) hS (ih.1 k _ _ _ (Z7.set Jp) h3 (fun _=>hS) H)
 | s i t ih=>
  have second:∀(k:Nat) (listed:Array Bool) (F:Env) (h:Hp),Z0 ops listed→i∈Region.ready .any ops listed→t.ok ops W k (listed.setIfInBounds i true) true=true→SK P T ops S N (.s i t) F h→Yd P T ops i (fun F' h'=>(i∈W∨S h')∧JU P T ops S W N k (listed.setIfInBounds i true) F' h') F h:=by
   intro k listed F h Z7 Jp hB H
   exact ZR (fun F' h' q=>⟨.inr q.1,ih.1 k _ _ _ (Z7.set Jp) hB (fun _=>q.1) q.2⟩) H
  refine⟨fun k listed F h Z7 hB hS H=>?_,fun k listed F h Z7 hB H j hj hr=>?_⟩
  ·cases k with
   | zero=>simp[Ja.ok]at hB
   | succ k=>
    simp only[Ja.ok,Bool.and_eq_true,Bool.not_true,Bool.false_or,beq_iff_eq]at hB
    refine⟨fun h0=>(by rw[hB.1]at h0;cases h0),fun j hj=>?_⟩
    have hr:=hj
    rw[hB.1]at hj
    have hj:j=i:=by simpa using hj
    subst hj
    exact second k listed F h Z7 hr hB.2 H
  ·simp only[Ja.ok,Bool.and_eq_true]at hB
   have hj:j=i:=by simpa [Ja.alts] using hj
   subst hj
   exact second k listed F h Z7 hr hB.2 H
 | w i t ih=>
  have second:∀(k:Nat) (listed:Array Bool) (F:Env) (h:Hp),Z0 ops listed→i∈Region.ready .any ops listed→i∈W→t.JV=false→t.ok ops W k (listed.setIfInBounds i true) true=true→SK P T ops S N (.w i t) F h→Yd P T ops i (fun F' h'=>(i∈W∨S h')∧JU P T ops S W N k (listed.setIfInBounds i true) F' h') F h:=by
   intro k listed F h Z7 Jp hw hq hB H
   exact ZR (fun F' h' q=>⟨.inl hw,ih.1 k _ _ _ (Z7.set Jp) hB (fun e=>by rw[hq]at e;cases e) q⟩) H
  refine⟨fun k listed F h Z7 hB hS H=>?_,fun k listed F h Z7 hB H j hj hr=>?_⟩
  ·cases k with
   | zero=>simp[Ja.ok]at hB
   | succ k=>
    simp only[Ja.ok,Bool.and_eq_true,Bool.not_true,Bool.false_or,beq_iff_eq,Bool.not_eq_true']at hB
    obtain⟨⟨h1,h2,h3⟩,h4⟩:=hB
    refine⟨fun h0=>(by rw[h1]at h0;cases h0),fun j hj=>?_⟩
    have hr:=hj
    rw[h1]at hj
    have hj:j=i:=by simpa using hj
    subst hj
    exact second k listed F h Z7 hr (by simpa using h2) h3 h4 H
  ·simp only[Ja.ok,Bool.and_eq_true,Bool.not_eq_true']at hB
   obtain⟨⟨h1,h2,h3⟩,h4⟩:=hB
   have hj:j=i:=by simpa [Ja.alts] using hj
   subst hj
   exact second k listed F h Z7 hr (by simpa using h2) h3 h4 H
 | or i t r LM LN=>
  have second:∀(k:Nat) (listed:Array Bool) (F:Env) (h:Hp),Z0 ops listed→t.ok ops W k (listed.setIfInBounds i true) true=true→r.ok ops W (k+1) listed false=true→SK P T ops S N (.or i t r) F h→∀j∈(Ja.or i t r).alts,j∈Region.ready .any ops listed→Yd P T ops j (fun F' h'=>(j∈W∨S h')∧JU P T ops S W N k (listed.setIfInBounds j true) F' h') F h:=by
   intro k listed F h Z7 hB hR H j hj hr
   rcases List.mem_cons.1 hj with hj|hj
   ·subst hj
    exact ZR (fun F' h' q=>⟨.inr q.1,LM.1 k _ _ _ (Z7.set hr) hB (fun _=>q.1) q.2⟩) H.1
   ·exact LN.2 k listed F h Z7 hR H.2 j hj hr
  refine⟨fun k listed F h Z7 hB hS H=>?_,fun k listed F h Z7 hB H j hj hr=>?_⟩
  ·cases k with
   | zero=>simp[Ja.ok]at hB
   | succ k=>
    simp only[Ja.ok,Bool.and_eq_true,Bool.not_true,Bool.false_or,beq_iff_eq]at hB
    refine⟨fun h0=>(by rw[hB.1]at h0;cases h0),fun j hj=>?_⟩
    have hr:=hj
    rw[hB.1]at hj
    exact second k listed F h Z7 hB.2.1 hB.2.2 H j hj hr
  ·simp only[Ja.ok,Bool.and_eq_true]at hB
   exact second k listed F h Z7 hB.2.1 hB.2.2 H j hj hr
def Ga (B:Nat) (h0:Hp) (K:Env→Hp→Prop) (F:Env) (d:Option Tmp):Value→Hp→Prop:=fun v h'=>Zj B h0 h'∧K (Zl F d v) h'
def Io (K:Env→Hp→Prop) (F:Env) (d:Option Tmp):Value→Hp→Prop:=fun v h'=>K (Zl F d v) h'
def GS (P:Program) (T:World) (B:Nat) (h0:Hp) (K:Env→Hp→Prop) (F:Env) (h:Hp) (d:Option Tmp) (op:Op) (ty:TypeId) (v:Value) (b:Bool):Prop:=ZZ v b (XV P T B h0 op ty (fun v=>K (Zl F d v) h) F) (K (Zl F d undef) h)
def wQ (P:Program) (T:World) (ops:List Oper) (B:Nat) (h0:Hp) (K:Env→Hp→Prop) (F:Env) (h:Hp) (o:Option Oper):Prop:=
 match o with
 | some ⟨d,op,ty,_,_,none⟩=>XV P T B h0 op ty (fun v=>K (Zl F d v) h) F
 | some ⟨d,op,ty,_,_,some (j,b)⟩=>GS P T B h0 K F h d op ty (Y1 ops F j) b
 | none=>False
def D7 (P:Program) (T:World) (B:Nat) (h0:Hp) (K:Env→Hp→Prop) (F:Env) (h:Hp) (d:Option Tmp) (op:Op) (ty:TypeId) (v:Value) (b:Bool):Prop:=ZZ v b (Je P T op ty (Ga B h0 K F d) F h) (Zj B h0 h∧K (Zl F d undef) h)
def wS (P:Program) (T:World) (ops:List Oper) (B:Nat) (h0:Hp) (K:Env→Hp→Prop) (F:Env) (h:Hp) (o:Option Oper):Prop:=
 match o with
 | some ⟨d,op,ty,_,_,none⟩=>Je P T op ty (Ga B h0 K F d) F h
 | some ⟨d,op,ty,_,_,some (j,b)⟩=>D7 P T B h0 K F h d op ty (Y1 ops F j) b
 | none=>False
def GU (P:Program) (T:World) (K:Env→Hp→Prop) (F:Env) (h:Hp) (d:Option Tmp) (op:Op) (ty:TypeId) (v:Value) (b:Bool):Prop:=ZZ v b (Je P T op ty (Io K F d) F h) (K (Zl F d undef) h)
def wW (P:Program) (T:World) (ops:List Oper) (K:Env→Hp→Prop) (F:Env) (h:Hp) (o:Option Oper):Prop:=
 match o with
 | some ⟨d,op,ty,_,_,none⟩=>Je P T op ty (Io K F d) F h
 | some ⟨d,op,ty,_,_,some (j,b)⟩=>GU P T K F h d op ty (Y1 ops F j) b
 | none=>False
def Wz (P:Program) (T:World) (ops:List Oper) (B:Nat) (h0:Hp) (N:Env→Hp→Prop):Ja→Env→Hp→Prop
 | .nil,F,h=>N F h
 | .q i t,F,h=>wQ P T ops B h0 (Wz P T ops B h0 N t) F h (nth ops i)
 | .s i t,F,h=>wS P T ops B h0 (Wz P T ops B h0 N t) F h (nth ops i)
 | .w i t,F,h=>wW P T ops (Wz P T ops B h0 N t) F h (nth ops i)
 | .or i t r,F,h=>wS P T ops B h0 (Wz P T ops B h0 N t) F h (nth ops i)∧Wz P T ops B h0 N r F h
theorem JX {ops:List Oper} {B:Nat} {h0:Hp} {i:Nat} {K K':Env→Hp→Prop} (hk:∀F h,K F h→K' F h) (H:wS P T ops B h0 K F h (nth ops i)):Yd P T ops.toArray i (fun F' h'=>Zj B h0 h'∧K' F' h') F h:=by
 refine T0 (K:=K) hk ?_
 cases ho:nth ops i with
 | none=>rw[ho]at H;exact H.elim
 | some o=>
  rw[ho]at H
  obtain⟨d,op,ty,pos,YN,g⟩:=o
  cases g with
  | none=>exact H
  | some jb=>exact H
theorem Vv {ops:List Oper} {i:Nat} {K K':Env→Hp→Prop} (hk:∀F h,K F h→K' F h) (H:wW P T ops K F h (nth ops i)):Yd P T ops.toArray i K' F h:=by
 unfold Yd
 cases ho:nth ops i with
 | none=>rw[ho]at H;exact H.elim
 | some o=>
  rw[Y3 ho]
  rw[ho]at H
  obtain⟨d,op,ty,pos,YN,g⟩:=o
  cases g with
  | none=>
   show (if Zp ops.toArray _ F=true then _ else _)
   rw[if_pos (by rfl)]
   exact Yf (fun v h' q=>hk _ _ q) H
  | some jb=>
   obtain⟨j,b⟩:=jb
   show (if Zp ops.toArray _ F=true then _ else _)
   rcases ZB ops F d op pos YN j b H with⟨hw,H⟩|⟨hw,H⟩
   ·rw[if_pos hw]
    exact Yf (fun v h' q=>hk _ _ q) H
   ·rw[hw,if_neg (by simp)]
    exact hk _ _ H
theorem Uf {ops:List Oper} {B:Nat} {h0:Hp} {N:Env→Hp→Prop}:∀(t:Ja) (F:Env) (h:Hp),Wz P T ops B h0 N t F h→SK P T ops.toArray (fun h'=>Zj B h0 h') N t F h:=by
 intro t
 induction t with
 | nil=>intro F h H;exact H
 | q i t ih=>
  intro F h H
  simp only[Wz]at H
  simp only[SK]
  cases ho:nth ops i with
  | none=>rw[ho]at H;exact H.elim
  | some o=>
   rw[Y3 ho]
   rw[ho]at H
   obtain⟨d,op,ty,pos,YN,g⟩:=o
   cases g with
   | none=>
    show (if Zp ops.toArray _ F=true then _ else _)
    rw[if_pos (by rfl)]
    obtain⟨v,hv,H⟩:=YY H
    exact⟨v,fun h' hs=>ZY (hv h' hs),ih _ _ H⟩
   | some jb=>
    obtain⟨j,b⟩:=jb
    show (if Zp ops.toArray _ F=true then _ else _)
    rcases ZB ops F d op pos YN j b H with⟨hw,H⟩|⟨hw,H⟩
    ·rw[if_pos hw]
     obtain⟨v,hv,H⟩:=YY H
     exact⟨v,fun h' hs=>ZY (hv h' hs),ih _ _ H⟩
    ·rw[hw,if_neg (by simp)]
     exact ih _ _ H
 | s i t ih=>intro F h H;exact JX ih H
 | w i t ih=>intro F h H;exact Vv ih H
 | or i t r LM LN=>intro F h H;exact⟨JX LM H.1,LN _ _ H.2⟩
theorem XW (ops:Array Oper) (n:Nat):Z0 ops (Array.replicate n false):=by
 intro j oj _ hl
 rw[Array.getD_eq_getD_getElem?]at hl
 by_cases hj:j<n
 ·simp[hj]at hl
 ·rw[Array.getElem?_eq_none (by simp;omega)]at hl;cases hl
def Mi (n:Nat) (ops:Array Oper) (W:List Nat) (t:Ja):Bool:=XC n ops&&(Region.noSelect ops&&t.ok ops W ops.size (Array.replicate ops.size false) true)
theorem VS.w {id:Nat} {ops:List Oper} (B:Nat) (W:List Nat) (t:Ja) (hm:P.follows .mixedOrders=true) (ZN:Mi n ops.toArray W t=true)
  (H:Wz P T ops B h N t F h):VS P n T (.region id ops.toArray true) N X R F h:=by
 intro a w h1 h2 h3 h4
 simp only[Mi,Bool.and_eq_true]at ZN
 obtain⟨k1,k2,k3⟩:=ZN
 refine wp_region_any hm ?_
 refine ZQ k1 _ _ F h (Jl _ _ _ _ ((JW (S:=fun h'=>Zj B h h') k2 t).1 _ _ F h (XW _ _) k3 (fun _=>Zj.refl _ _) (Uf t F h H))) a _ h1 h2 h3 ⟨h4.heap,h4.tape,h4.os,h4.output⟩
variable {ops:List Oper} {B:Nat} {h0:Hp} {t r:Ja} {i j:Nat} {d:Option Tmp} {op:Op} {ty:TypeId} {pos:String} {YN:Array Edge} {b c:Bool} {v:Value} {K:Env→Hp→Prop}
def Ip (K:Env→Hp→Prop) (F:Env) (d:Option Tmp) (h:Hp):Value→Prop:=fun v=>K (Zl F d v) h
@[go_sem] theorem Gb:Wz P T ops B h0 N .nil F h=N F h:=rfl
@[go_sem] theorem EH:Wz P T ops B h0 N (.q i t) F h=wQ P T ops B h0 (Wz P T ops B h0 N t) F h (nth ops i):=rfl
@[go_sem] theorem EI:Wz P T ops B h0 N (.s i t) F h=wS P T ops B h0 (Wz P T ops B h0 N t) F h (nth ops i):=rfl
@[go_sem] theorem EJ:Wz P T ops B h0 N (.w i t) F h=wW P T ops (Wz P T ops B h0 N t) F h (nth ops i):=rfl
@[go_sem] theorem GV:Wz P T ops B h0 N (.or i t r) F h=(wS P T ops B h0 (Wz P T ops B h0 N t) F h (nth ops i)∧Wz P T ops B h0 N r F h):=rfl
@[go_sem] theorem Iq:wQ P T ops B h0 K F h (some ⟨d,op,ty,pos,YN,none⟩)=XV P T B h0 op ty (Ip K F d h) F:=rfl
@[go_sem] theorem Ir:wQ P T ops B h0 K F h (some ⟨d,op,ty,pos,YN,some (j,b)⟩)=GS P T B h0 K F h d op ty (Y1 ops F j) b:=rfl
@[go_sem] theorem Is:wS P T ops B h0 K F h (some ⟨d,op,ty,pos,YN,none⟩)=Je P T op ty (Ga B h0 K F d) F h:=rfl
@[go_sem] theorem It:wW P T ops K F h (some ⟨d,op,ty,pos,YN,none⟩)=Je P T op ty (Io K F d) F h:=rfl
@[go_sem] theorem Iu:wW P T ops K F h (some ⟨d,op,ty,pos,YN,some (j,b)⟩)=GU P T K F h d op ty (Y1 ops F j) b:=rfl
@[go_sem] theorem Iv:GS P T B h0 K F h d op ty (.bool c) b=if c=b then XV P T B h0 op ty (Ip K F d h) F else K (Zl F d undef) h:=rfl
@[go_sem] theorem Iw:GU P T K F h d op ty (.bool c) b=if c=b then Je P T op ty (Io K F d) F h else K (Zl F d undef) h:=rfl
@[go_sem] theorem Gc:Ip K F d h v=K (Zl F d v) h:=rfl
@[go_sem] theorem Gd:Ga B h0 K F d v h=(Zj B h0 h∧K (Zl F d v) h):=rfl
@[go_sem] theorem Ge:Io K F d v h=K (Zl F d v) h:=rfl
end
end Go.V
