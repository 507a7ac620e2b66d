/- W9: a region that draws its order, where more than one operation may come next: each of them is walked. -/
import Derived.Test.YthlfaofofaphfaaDoorW8
namespace Go.V
set_option linter.unusedVariables false
set_option linter.unusedSimpArgs false
inductive Tr where
 | nil
 | q (i:Nat) (t:Tr)
 | s (i:Nat) (t:Tr)
 | or (i:Nat) (t:Tr) (r:Tr)
def Tr.alts:Tr→List Nat
 | .s i _=>[i]
 | .or i _ r=>i :: r.alts
 | _=>[]
def Tr.ok (ops:Array Oper):Tr→Nat→Array Bool→Bool→Bool
 | .nil,n,listed,_=>Nat.beq n 0&&(Region.ready .any ops listed).isEmpty
 | .q _ _,0,_,_=>false
 | .q i t,n+1,listed,_=>((Region.ready .any ops listed).contains i&&Region.free .any ops listed i)&&t.ok ops n (listed.setIfInBounds i true) true
 | .s _ _,0,_,_=>false
 | .s i t,n+1,listed,b=>(!b||(Region.ready .any ops listed == [i]))&&t.ok ops n (listed.setIfInBounds i true) true
 | .or _ _ _,0,_,_=>false
 | .or i t r,n+1,listed,b=>(!b||(Region.ready .any ops listed == i :: r.alts))&&(t.ok ops n (listed.setIfInBounds i true) true&&r.ok ops (n+1) listed false)
section
variable {P:Program} {n:Nat} {T:World} {N:Env→Hp→Prop} {X:Nat→Env→Hp→Prop} {R:Env→Hp→Prop} {F:Env} {h:Hp}
theorem Yw {ops:List Oper} {i:Nat} {o:Oper} (h:nth ops i=some o):ops.toArray[i]? = some o:=by
 rw[List.getElem?_toArray,←Yt];exact h
theorem W3 {ops:List Oper} {B:Nat} {h0:Hp} {i:Nat} {K K':Env→Hp→Prop} (hk:∀F h,K F h→K' F h)
  (H:match nth ops i with
    | some ⟨d,op,ty,_,_,none⟩=>Xc P T op ty (fun v h'=>Zg B h0 h'∧K (Zi F d v) h') F h
    | some ⟨d,op,ty,_,_,some (j,b)⟩=>ZJ (Yu ops F j) b (Xc P T op ty (fun v h'=>Zg B h0 h'∧K (Zi F d v) h') F h) (Zg B h0 h∧K (Zi F d undef) h)
    | none=>False):ZS P T ops.toArray i (fun F' h'=>Zg B h0 h'∧K' F' h') F h:=by
 unfold ZS
 cases ho:nth ops i with
 | none=>rw[ho]at H;exact H.elim
 | some o=>
  rw[Yw ho]
  rw[ho]at H
  obtain⟨d,op,ty,pos,Yf,g⟩:=o
  cases g with
  | none=>
   show (if Zh ops.toArray _ F=true then _ else _)
   rw[if_pos (by rfl)]
   exact ZU (fun v h' q=>⟨q.1,hk _ _ q.2⟩) H
  | some jb=>
   obtain⟨j,b⟩:=jb
   show (if Zh ops.toArray _ F=true then _ else _)
   rcases Zo ops F d op pos Yf j b H with⟨hw,H⟩|⟨hw,H⟩
   ·rw[if_pos hw]
    exact ZU (fun v h' q=>⟨q.1,hk _ _ q.2⟩) H
   ·rw[hw,if_neg (by simp)]
    exact⟨H.1,hk _ _ H.2⟩
variable {ops:List Oper} {B:Nat} {h0:Hp} {t r:Tr} {i j:Nat} {d:Option Tmp} {op:Op} {ty:TypeId} {pos:String} {Yf:Array Edge} {b c:Bool} {v:Value}
end
section
variable {B:Nat} {h h':Hp} {o:Obj} {b:Nat}
@[go_sem] theorem OF:Zg B h h=True:=eq_true (Zg.refl _ _)
@[go_sem] theorem Nh (a:Zg h.size h h'):Zg h.size h (h'.push o)=True:=eq_true (a.add _)
attribute [go_sem] Nat.le_add_right Nat.le_refl List.cons_append List.nil_append
@[go_sem] theorem Ni (z:List Value):Yn 1 z=z:=by simp[Yn]
@[go_sem] theorem Nj (z:List Value):Yn 2 z=z++z:=by simp[Yn]
end
theorem Qn.Pp {α:Type} {enc:α→List Value} {n B:Nat} {E:TypeId} {h:Hp} {v:Value} {l:List α} (YM:∀x,(enc x).length=n) (hn:n≠0) (s:Qn B E enc n h v l) :
  ∃p cap,v=.slice p l.length cap∧(l≠[]→∃b o,p=some ⟨b,o,none⟩∧B≤b∧b<h.size∧∀i (hi:i<l.length),Zp h b (o+i*n) (enc l[i])):=by
 obtain⟨p,cap,hv,Ye⟩:=s.ts.open YM hn
 refine⟨p,cap,hv,fun Z1=>?_⟩
 obtain⟨b,o,hp,hb,hc⟩:=Ye Z1
 refine⟨b,o,hp,?_,hb,hc⟩
 rcases s.own with⟨_,h0,_⟩|⟨b',UO,spare,hB,O0,_⟩
 ·exact absurd (List.eq_nil_of_length_eq_zero h0) Z1
 ·rw[hv,hp]at O0
  simp only[Value.slice.injEq,Option.some.injEq,Addr.mk.injEq]at O0
  obtain⟨⟨rfl,_⟩,_⟩:=O0
  exact hB
theorem Qn.one {α:Type} {enc:α→List Value} {n B:Nat} {E:TypeId} {h:Hp} (x:α) (YM:∀x,(enc x).length=n) (hB:B≤h.size):Qn B E enc n (h.push (.cells (enc x).toArray E)) (.slice (some ⟨h.size,0,none⟩) 1 1) [x]:=by
 have:=Qn.made (h:=h) (E:=E) (B:=B) YM [x] hB
 simpa [Z3] using this
section
variable {P:Program} {n:Nat} {T:World} {N:Env→Hp→Prop} {X:Nat→Env→Hp→Prop} {R:Env→Hp→Prop} {F:Env} {h:Hp}
def XR (P:Program) (T:World) (ops:Array Oper) (S:Hp→Prop) (W:List Nat) (N:Env→Hp→Prop):Nat→Array Bool→Env→Hp→Prop
 | 0,listed,F,h=>Region.ready .any ops listed=[]∧N F h
 | k+1,listed,F,h=>(Region.ready .any ops listed=[]→N F h) ∧
   ∀i∈Region.ready .any ops listed,ZS P T ops i (fun F' h'=>(i∈W∨S h')∧XR P T ops S W N k (listed.setIfInBounds i true) F' h') F h
theorem Qx {ops:Array Oper} {S:Hp→Prop} {W:List Nat}:∀(k:Nat) (listed:Array Bool) (F:Env) (h:Hp),XR P T ops S W N k listed F h→Wh P T ops (fun _=>True) N k listed F h:=by
 intro k
 induction k with
 | zero=>intro listed F h H;exact H
 | succ k ih=>intro listed F h H;exact⟨H.1,fun i hi=>ZA (fun F' h' q=>⟨trivial,ih _ _ _ q.2⟩) (H.2 i hi)⟩
def ZK (ops:Array Oper) (listed:Array Bool):Prop:=
 ∀(j:Nat) oj,ops[j]? = some oj→listed.getD j false=true→∀e∈oj.after,Region.binds .any e=true→listed.getD e.on false=true
theorem getD_set_true {l:Array Bool} {j k:Nat} (h:l.getD k false=true):(l.setIfInBounds j true).getD k false=true:=by
 rw[Array.getD_eq_getD_getElem?]at h ⊢
 rw[Array.getElem?_setIfInBounds]
 by_cases Vv:j=k
 ·subst Vv
  rw[if_pos rfl]
  by_cases Zs:j<l.size
  ·rw[if_pos Zs];rfl
  ·rw[Array.getElem?_eq_none (by omega)]at h;cases h
 ·rw[if_neg Vv];exact h
theorem ZK.set {ops:Array Oper} {listed:Array Bool} (c:ZK ops listed) {j:Nat} (hj:j∈Region.ready .any ops listed):ZK ops (listed.setIfInBounds j true):=by
 intro k ok ZW hl e he hb
 obtain⟨_,oj,VQ,YF⟩:=mem_ready.1 hj
 by_cases Vv:j=k
 ·subst Vv
  rw[VQ]at ZW
  obtain rfl:=Option.some.inj ZW
  exact getD_set_true (YF e he hb)
 ·refine getD_set_true (c k ok ZW ?_ e he hb)
  rw[Array.getD_eq_getD_getElem?,Array.getElem?_setIfInBounds,if_neg Vv]at hl
  rw[Array.getD_eq_getD_getElem?];exact hl
def VG:Nat:=16
def Ms (ops:Array Oper) (k:Nat):List Nat:=match ops[k]? with|some o=>(o.after.toList.filter fun e=>Region.binds .any e).map fun e=>e.on|none=>[]
def Ub (ops:Array Oper):Nat→List Nat→List Nat
 | 0,M=>M
 | k+1,M=>Ub ops k (if M.any (Nat.beq k)=true then Ms ops k++M else M)
def Yb (ops:Array Oper) (f j i:Nat):Bool:=(Ub ops j (Ms ops j)).any (Nat.beq i)
theorem J7 {ops:Array Oper} {k:Nat} {L:Nat→Prop} (h:∀o,ops[k]? = some o→∀e∈o.after,Region.binds .any e=true→L e.on):∀x∈Ms ops k,L x:=by
 intro x hx
 unfold Ms at hx
 cases ho:ops[k]? with
 | none=>rw[ho]at hx;cases hx
 | some o=>
  rw[ho]at hx
  simp only[List.mem_map,List.mem_filter]at hx
  obtain⟨e,⟨he,hb⟩,rfl⟩:=hx
  exact h o ho e (by simpa using he) hb
theorem J8 {ops:Array Oper} {listed:Array Bool} (c:ZK ops listed):∀(k:Nat) (M:List Nat),(∀x∈M,listed.getD x false=true)→∀x∈Ub ops k M,listed.getD x false=true:=by
 intro k
 induction k with
 | zero=>intro M hM;exact hM
 | succ k ih=>
  intro M hM
  refine ih _ ?_
  split
  ·rename_i hk
   obtain⟨y,hy,he⟩:=List.any_eq_true.1 hk
   obtain rfl:=Nat.eq_of_beq_eq_true he
   intro x hx
   rcases List.mem_append.1 hx with hx|hx
   ·exact J7 (L:=fun x=>listed.getD x false=true) (fun o ho e he hb=>c _ o ho (hM _ hy) e he hb) x hx
   ·exact hM x hx
  ·exact hM
theorem Jq {ops:Array Oper} {listed:Array Bool} (c:ZK ops listed) {i f j:Nat} (h:Yb ops f j i=true) (hj:j∈Region.ready .any ops listed):listed.getD i false=true:=by
 obtain⟨_,o,ho,YF⟩:=mem_ready.1 hj
 unfold Yb at h
 obtain⟨y,hy,he⟩:=List.any_eq_true.1 h
 obtain rfl:=Nat.eq_of_beq_eq_true he
 refine J8 c _ _ (J7 (L:=fun x=>listed.getD x false=true) fun o' Kt e he hb=>?_) _ hy
 rw[ho]at Kt
 obtain rfl:=Option.some.inj Kt
 exact YF e he hb
theorem Jr {ops:Array Oper} {S:Hp→Prop} {W:List Nat} {i:Nat} {oi:Oper} {v:Value} (hi:ops[i]? = some oi) (Ut:∀(j:Nat) (o:Oper) cs b,ops[j]? = some o→o.op ≠ .select cs b)
  (hW:∀j∈W,∃f,Yb ops f j i=true) :
  ∀(k:Nat) (listed:Array Bool) (F:Env) (h:Hp),ZK ops listed →
   (∀j oj,ops[j]? = some oj→j≠i→listed.getD j true=false→(∀e∈oj.after,Region.binds .any e=true→e.on≠i)→oi.apart ops oj=true) →
   i∈Region.ready .any ops listed→Z0 P T ops S oi v F→S h →
   XR P T ops S W N k (listed.setIfInBounds i true) (Zi F oi.dst v) h→XR P T ops S W N (k+1) listed F h:=by
 intro k
 induction k with
 | zero=>
  intro listed F h _ _ hr hy hS H
  refine⟨fun h=>(by rw[h]at hr;cases hr),fun j hj=>?_⟩
  by_cases Jk:j=i
  ·subst Jk;exact hy.Ou hi hS ⟨.inr hS,H⟩
  ·have:=ready_mono hj Jk
   rw[H.1]at this
   cases this
 | succ k ih=>
  intro listed F h ZR Jl hr hy hS H
  refine⟨fun h=>(by rw[h]at hr;cases hr),fun j hj=>?_⟩
  by_cases Jk:j=i
  ·subst Jk;exact hy.Ou hi hS ⟨.inr hS,H⟩
  ·have h1:=H.2 j (ready_mono hj Jk)
   obtain⟨Uu,oj,VQ,YF⟩:=mem_ready.1 hj
   have TV:∀e∈oj.after,Region.binds .any e=true→e.on≠i:=fun e he hb heq=>by
    have h1:=YF e he hb
    have h0:=(mem_ready.1 hr).1
    rw[heq]at h1
    rcases Nat.lt_or_ge i listed.size with h'|h'
    ·simp[h']at h0 h1;rw[h0]at h1;cases h1
    ·simp[Array.getElem?_eq_none h']at h1
   have Il:j ∉ W:=fun Ld=>by
    obtain⟨f,hf⟩:=hW j Ld
    have h1:=Jq ZR hf hj
    have h0:=(mem_ready.1 hr).1
    rcases Nat.lt_or_ge i listed.size with h'|h'
    ·simp[h']at h0 h1;rw[h0]at h1;cases h1
    ·simp[Array.getElem?_eq_none h']at h1
   have h2:=JM VQ (Jl j oj VQ Jk Uu TV) (fun cs b=>Ut i oi cs b hi) (fun cs b=>Ut j oj cs b VQ) hy h1
   have JO:∀k ok,ops[k]? = some ok→k≠i→(listed.setIfInBounds j true).getD k true=false →
     (∀e∈ok.after,Region.binds .any e=true→e.on≠i)→oi.apart ops ok=true:=fun k ok hk OO Pa OP=>by
    refine Jl k ok hk OO ?_ OP
    by_cases Vv:j=k
    ·subst Vv;exact Uu
    ·rw[getD_set_ne true Vv]at Pa;exact Pa
   refine ZA (fun F' h' h3=>?_) h2
   have Ku:S h':=h3.2.1.resolve_left Il
   refine⟨.inr Ku,ih (listed.setIfInBounds j true) F' h' (ZR.set hj) JO (ready_mono hr (Ne.symm Jk)) h3.1 Ku ?_⟩
   rw[Array.setIfInBounds_comm _ _ Jk]
   exact h3.2.2
inductive Xd where
 | nil
 | q (i:Nat) (t:Xd)
 | s (i:Nat) (t:Xd)
 | w (i:Nat) (t:Xd)
 | or (i:Nat) (t:Xd) (r:Xd)
def Xd.alts:Xd→List Nat
 | .s i _=>[i]
 | .w i _=>[i]
 | .or i _ r=>i :: r.alts
 | _=>[]
def Xd.XS:Xd→Bool
 | .q _ _=>true
 | .s _ t=>t.XS
 | .or _ t r=>t.XS||r.XS
 | _=>false
def Xd.ok (ops:Array Oper) (W:List Nat):Xd→Nat→Array Bool→Bool→Bool
 | .nil,n,listed,_=>Nat.beq n 0&&(Region.ready .any ops listed).isEmpty
 | .q _ _,0,_,_=>false
 | .q i t,n+1,listed,_=>((Region.ready .any ops listed).contains i&&(Region.free .any ops listed i&&W.all fun j=>Yb ops VG j i))&&t.ok ops W n (listed.setIfInBounds i true) true
 | .s _ _,0,_,_=>false
 | .s i t,n+1,listed,b=>(!b||(Region.ready .any ops listed == [i]))&&t.ok ops W n (listed.setIfInBounds i true) true
 | .w _ _,0,_,_=>false
 | .w i t,n+1,listed,b=>((!b||(Region.ready .any ops listed == [i]))&&(W.contains i&&!t.XS))&&t.ok ops W n (listed.setIfInBounds i true) true
 | .or _ _ _,0,_,_=>false
 | .or i t r,n+1,listed,b=>(!b||(Region.ready .any ops listed == i :: r.alts))&&(t.ok ops W n (listed.setIfInBounds i true) true&&r.ok ops W (n+1) listed false)
def VH (P:Program) (T:World) (ops:Array Oper) (S:Hp→Prop) (N:Env→Hp→Prop):Xd→Env→Hp→Prop
 | .nil,F,h=>N F h
 | .q i t,F,h=>match ops[i]? with
  | some o=>if Zh ops o F then ∃v,(∀h',S h'→Us P T o (fun v' X3=>v'=v∧X3=h') F h')∧VH P T ops S N t (Zi F o.dst v) h else VH P T ops S N t (Zi F o.dst undef) h
  | none=>False
 | .s i t,F,h=>ZS P T ops i (fun F' h'=>S h'∧VH P T ops S N t F' h') F h
 | .w i t,F,h=>ZS P T ops i (fun F' h'=>VH P T ops S N t F' h') F h
 | .or i t r,F,h=>ZS P T ops i (fun F' h'=>S h'∧VH P T ops S N t F' h') F h∧VH P T ops S N r F h
theorem Uc {ops:Array Oper} {S:Hp→Prop} {W:List Nat} (hs:Region.noSelect ops=true):∀(t:Xd),
  (∀(k:Nat) (listed:Array Bool) (F:Env) (h:Hp),ZK ops listed→t.ok ops W k listed true=true→(t.XS=true→S h)→VH P T ops S N t F h→XR P T ops S W N k listed F h) ∧
  (∀(k:Nat) (listed:Array Bool) (F:Env) (h:Hp),ZK ops listed→t.ok ops W (k+1) listed false=true→VH P T ops S N t F h→∀j∈t.alts,j∈Region.ready .any ops listed→ZS P T ops j (fun F' h'=>(j∈W∨S h')∧XR P T ops S W N k (listed.setIfInBounds j true) F' h') F h):=by
 intro t
 induction t with
 | nil=>
  refine⟨fun k listed F h ZR hB hS H=>?_,fun k listed F h _ _ _ j hj=>by cases hj⟩
  simp only[Xd.ok,Bool.and_eq_true,List.isEmpty_iff]at hB
  obtain⟨h1,h2⟩:=hB
  obtain rfl:=Nat.eq_of_beq_eq_true h1
  exact⟨h2,H⟩
 | q i t ih=>
  refine⟨fun k listed F h ZR hB hS H=>?_,fun k listed F h _ _ _ j hj=>by cases hj⟩
  have hS:=hS rfl
  cases k with
  | zero=>simp[Xd.ok]at hB
  | succ k=>
   simp only[Xd.ok,Bool.and_eq_true]at hB
   obtain⟨⟨h1,h2,hw⟩,h3⟩:=hB
   have Xo:i∈Region.ready .any ops listed:=by simpa using h1
   obtain⟨_,o,ho,_⟩:=mem_ready.1 Xo
   have hW:∀j∈W,∃f,Yb ops f j i=true:=fun j hj=>⟨VG,List.all_eq_true.1 hw j hj⟩
   simp only[VH,ho]at H
   split at H
   ·rename_i Wg
    obtain⟨v,hv,H⟩:=H
    exact Jr ho (Region.noSelect_spec hs) hW k listed F h ZR (Region.free_spec ho h2) Xo (.inl ⟨Wg,hv⟩) hS (ih.1 k _ _ _ (ZR.set Xo) h3 (fun _=>hS) H)
   ·rename_i Wg
    exact Jr ho (Region.noSelect_spec hs) hW k listed F h ZR (Region.free_spec ho h2) Xo (.inr ⟨by simpa using Wg,rfl⟩) hS (ih.1 k _ _ _ (ZR.set Xo) h3 (fun _=>hS) H)
 | s i t ih=>
  have second:∀(k:Nat) (listed:Array Bool) (F:Env) (h:Hp),ZK ops listed→i∈Region.ready .any ops listed→t.ok ops W k (listed.setIfInBounds i true) true=true→VH P T ops S N (.s i t) F h→ZS P T ops i (fun F' h'=>(i∈W∨S h')∧XR P T ops S W N k (listed.setIfInBounds i true) F' h') F h:=by
   intro k listed F h ZR Xo hB H
   exact ZA (fun F' h' q=>⟨.inr q.1,ih.1 k _ _ _ (ZR.set Xo) hB (fun _=>q.1) q.2⟩) H
  refine⟨fun k listed F h ZR hB hS H=>?_,fun k listed F h ZR hB H j hj hr=>?_⟩
  ·cases k with
   | zero=>simp[Xd.ok]at hB
   | succ k=>
    simp only[Xd.ok,Bool.and_eq_true,Bool.not_true,Bool.false_or,beq_iff_eq]at hB
    refine⟨fun h0=>(by rw[hB.1]at h0;cases h0),fun j hj=>?_⟩
    have hr:=hj
    rw[hB.1]at hj
    have hj:j=i:=by simpa using hj
    subst hj
    exact second k listed F h ZR hr hB.2 H
  ·simp only[Xd.ok,Bool.and_eq_true]at hB
   have hj:j=i:=by simpa [Xd.alts] using hj
   subst hj
   exact second k listed F h ZR hr hB.2 H
 | w i t ih=>
  have second:∀(k:Nat) (listed:Array Bool) (F:Env) (h:Hp),ZK ops listed→i∈Region.ready .any ops listed→i∈W→t.XS=false→t.ok ops W k (listed.setIfInBounds i true) true=true→VH P T ops S N (.w i t) F h→ZS P T ops i (fun F' h'=>(i∈W∨S h')∧XR P T ops S W N k (listed.setIfInBounds i true) F' h') F h:=by
   intro k listed F h ZR Xo hw hq hB H
   exact ZA (fun F' h' q=>⟨.inl hw,ih.1 k _ _ _ (ZR.set Xo) hB (fun e=>by rw[hq]at e;cases e) q⟩) H
  refine⟨fun k listed F h ZR hB hS H=>?_,fun k listed F h ZR hB H j hj hr=>?_⟩
  ·cases k with
   | zero=>simp[Xd.ok]at hB
   | succ k=>
    simp only[Xd.ok,Bool.and_eq_true,Bool.not_true,Bool.false_or,beq_iff_eq,Bool.not_eq_true']at hB
    obtain⟨⟨h1,h2,h3⟩,h4⟩:=hB
    refine⟨fun h0=>(by rw[h1]at h0;cases h0),fun j hj=>?_⟩
    have hr:=hj
    rw[h1]at hj
    have hj:j=i:=by simpa using hj
    subst hj
    exact second k listed F h ZR hr (by simpa using h2) h3 h4 H
  ·simp only[Xd.ok,Bool.and_eq_true,Bool.not_eq_true']at hB
   obtain⟨⟨h1,h2,h3⟩,h4⟩:=hB
   have hj:j=i:=by simpa [Xd.alts] using hj
   subst hj
   exact second k listed F h ZR hr (by simpa using h2) h3 h4 H
 | or i t r PY PZ=>
  have second:∀(k:Nat) (listed:Array Bool) (F:Env) (h:Hp),ZK ops listed→t.ok ops W k (listed.setIfInBounds i true) true=true→r.ok ops W (k+1) listed false=true→VH P T ops S N (.or i t r) F h→∀j∈(Xd.or i t r).alts,j∈Region.ready .any ops listed→ZS P T ops j (fun F' h'=>(j∈W∨S h')∧XR P T ops S W N k (listed.setIfInBounds j true) F' h') F h:=by
   intro k listed F h ZR hB hR H j hj hr
   rcases List.mem_cons.1 hj with hj|hj
   ·subst hj
    exact ZA (fun F' h' q=>⟨.inr q.1,PY.1 k _ _ _ (ZR.set hr) hB (fun _=>q.1) q.2⟩) H.1
   ·exact PZ.2 k listed F h ZR hR H.2 j hj hr
  refine⟨fun k listed F h ZR hB hS H=>?_,fun k listed F h ZR hB H j hj hr=>?_⟩
  ·cases k with
   | zero=>simp[Xd.ok]at hB
   | succ k=>
    simp only[Xd.ok,Bool.and_eq_true,Bool.not_true,Bool.false_or,beq_iff_eq]at hB
    refine⟨fun h0=>(by rw[hB.1]at h0;cases h0),fun j hj=>?_⟩
    have hr:=hj
    rw[hB.1]at hj
    exact second k listed F h ZR hB.2.1 hB.2.2 H j hj hr
  ·simp only[Xd.ok,Bool.and_eq_true]at hB
   exact second k listed F h ZR hB.2.1 hB.2.2 H j hj hr
def Mt (B:Nat) (h0:Hp) (K:Env→Hp→Prop) (F:Env) (d:Option Tmp):Value→Hp→Prop:=fun v h'=>Zg B h0 h'∧K (Zi F d v) h'
def Nk (K:Env→Hp→Prop) (F:Env) (d:Option Tmp):Value→Hp→Prop:=fun v h'=>K (Zi F d v) h'
def Le (P:Program) (T:World) (B:Nat) (h0:Hp) (K:Env→Hp→Prop) (F:Env) (h:Hp) (d:Option Tmp) (op:Op) (ty:TypeId) (v:Value) (b:Bool):Prop:=ZJ v b (X1 P T B h0 op ty (fun v=>K (Zi F d v) h) F) (K (Zi F d undef) h)
def wQ (P:Program) (T:World) (ops:List Oper) (B:Nat) (h0:Hp) (K:Env→Hp→Prop) (F:Env) (h:Hp) (o:Option Oper):Prop:=
 match o with
 | some ⟨d,op,ty,_,_,none⟩=>X1 P T B h0 op ty (fun v=>K (Zi F d v) h) F
 | some ⟨d,op,ty,_,_,some (j,b)⟩=>Le P T B h0 K F h d op ty (Yu ops F j) b
 | none=>False
def Io (P:Program) (T:World) (B:Nat) (h0:Hp) (K:Env→Hp→Prop) (F:Env) (h:Hp) (d:Option Tmp) (op:Op) (ty:TypeId) (v:Value) (b:Bool):Prop:=ZJ v b (Xc P T op ty (Mt B h0 K F d) F h) (Zg B h0 h∧K (Zi F d undef) h)
def wS (P:Program) (T:World) (ops:List Oper) (B:Nat) (h0:Hp) (K:Env→Hp→Prop) (F:Env) (h:Hp) (o:Option Oper):Prop:=
 match o with
 | some ⟨d,op,ty,_,_,none⟩=>Xc P T op ty (Mt B h0 K F d) F h
 | some ⟨d,op,ty,_,_,some (j,b)⟩=>Io P T B h0 K F h d op ty (Yu ops F j) b
 | none=>False
def Lf (P:Program) (T:World) (K:Env→Hp→Prop) (F:Env) (h:Hp) (d:Option Tmp) (op:Op) (ty:TypeId) (v:Value) (b:Bool):Prop:=ZJ v b (Xc P T op ty (Nk K F d) F h) (K (Zi F d undef) h)
def wW (P:Program) (T:World) (ops:List Oper) (K:Env→Hp→Prop) (F:Env) (h:Hp) (o:Option Oper):Prop:=
 match o with
 | some ⟨d,op,ty,_,_,none⟩=>Xc P T op ty (Nk K F d) F h
 | some ⟨d,op,ty,_,_,some (j,b)⟩=>Lf P T K F h d op ty (Yu ops F j) b
 | none=>False
def Un (P:Program) (T:World) (ops:List Oper) (B:Nat) (h0:Hp) (N:Env→Hp→Prop):Xd→Env→Hp→Prop
 | .nil,F,h=>N F h
 | .q i t,F,h=>wQ P T ops B h0 (Un P T ops B h0 N t) F h (nth ops i)
 | .s i t,F,h=>wS P T ops B h0 (Un P T ops B h0 N t) F h (nth ops i)
 | .w i t,F,h=>wW P T ops (Un P T ops B h0 N t) F h (nth ops i)
 | .or i t r,F,h=>wS P T ops B h0 (Un P T ops B h0 N t) F h (nth ops i)∧Un P T ops B h0 N r F h
theorem XT {ops:List Oper} {B:Nat} {h0:Hp} {i:Nat} {K K':Env→Hp→Prop} (hk:∀F h,K F h→K' F h) (H:wS P T ops B h0 K F h (nth ops i)):ZS P T ops.toArray i (fun F' h'=>Zg B h0 h'∧K' F' h') F h:=by
 refine W3 (K:=K) hk ?_
 cases ho:nth ops i with
 | none=>rw[ho]at H;exact H.elim
 | some o=>
  rw[ho]at H
  obtain⟨d,op,ty,pos,Yf,g⟩:=o
  cases g with
  | none=>exact H
  | some jb=>exact H
theorem US {ops:List Oper} {i:Nat} {K K':Env→Hp→Prop} (hk:∀F h,K F h→K' F h) (H:wW P T ops K F h (nth ops i)):ZS P T ops.toArray i K' F h:=by
 unfold ZS
 cases ho:nth ops i with
 | none=>rw[ho]at H;exact H.elim
 | some o=>
  rw[Yw ho]
  rw[ho]at H
  obtain⟨d,op,ty,pos,Yf,g⟩:=o
  cases g with
  | none=>
   show (if Zh ops.toArray _ F=true then _ else _)
   rw[if_pos (by rfl)]
   exact ZU (fun v h' q=>hk _ _ q) H
  | some jb=>
   obtain⟨j,b⟩:=jb
   show (if Zh ops.toArray _ F=true then _ else _)
   rcases Zo ops F d op pos Yf j b H with⟨hw,H⟩|⟨hw,H⟩
   ·rw[if_pos hw]
    exact ZU (fun v h' q=>hk _ _ q) H
   ·rw[hw,if_neg (by simp)]
    exact hk _ _ H
theorem W6 {ops:List Oper} {B:Nat} {h0:Hp} {N:Env→Hp→Prop}:∀(t:Xd) (F:Env) (h:Hp),Un P T ops B h0 N t F h→VH P T ops.toArray (fun h'=>Zg B h0 h') N t F h:=by
 intro t
 induction t with
 | nil=>intro F h H;exact H
 | q i t ih=>
  intro F h H
  simp only[Un]at H
  simp only[VH]
  cases ho:nth ops i with
  | none=>rw[ho]at H;exact H.elim
  | some o=>
   rw[Yw ho]
   rw[ho]at H
   obtain⟨d,op,ty,pos,Yf,g⟩:=o
   cases g with
   | none=>
    show (if Zh ops.toArray _ F=true then _ else _)
    rw[if_pos (by rfl)]
    obtain⟨v,hv,H⟩:=Yq H
    exact⟨v,fun h' hs=>ZF (hv h' hs),ih _ _ H⟩
   | some jb=>
    obtain⟨j,b⟩:=jb
    show (if Zh ops.toArray _ F=true then _ else _)
    rcases Zo ops F d op pos Yf j b H with⟨hw,H⟩|⟨hw,H⟩
    ·rw[if_pos hw]
     obtain⟨v,hv,H⟩:=Yq H
     exact⟨v,fun h' hs=>ZF (hv h' hs),ih _ _ H⟩
    ·rw[hw,if_neg (by simp)]
     exact ih _ _ H
 | s i t ih=>intro F h H;exact XT ih H
 | w i t ih=>intro F h H;exact US ih H
 | or i t r PY PZ=>intro F h H;exact⟨XT PY H.1,PZ _ _ H.2⟩
theorem Js (ops:Array Oper) (n:Nat):ZK ops (Array.replicate n false):=by
 intro j oj _ hl
 rw[Array.getD_eq_getD_getElem?]at hl
 by_cases hj:j<n
 ·simp[hj]at hl
 ·rw[Array.getElem?_eq_none (by simp;omega)]at hl;cases hl
def Nl (n:Nat) (ops:Array Oper) (W:List Nat) (t:Xd):Bool:=Jh n ops&&(Region.noSelect ops&&t.ok ops W ops.size (Array.replicate ops.size false) true)
theorem VS.w {id:Nat} {ops:List Oper} (B:Nat) (W:List Nat) (t:Xd) (hm:P.follows .mixedOrders=true) (ZW:Nl n ops.toArray W t=true)
  (H:Un P T ops B h N t F h):VS P n T (.region id ops.toArray true) N X R F h:=by
 intro a w h1 h2 h3 h4
 simp only[Nl,Bool.and_eq_true]at ZW
 obtain⟨k1,k2,k3⟩:=ZW
 refine wp_region_any hm ?_
 refine ZE k1 _ _ F h (Qx _ _ _ _ ((Uc (S:=fun h'=>Zg B h h') k2 t).1 _ _ F h (Js _ _) k3 (fun _=>Zg.refl _ _) (W6 t F h H))) a _ h1 h2 h3 ⟨h4.heap,h4.tape,h4.os,h4.output⟩
variable {ops:List Oper} {B:Nat} {h0:Hp} {t r:Xd} {i j:Nat} {d:Option Tmp} {op:Op} {ty:TypeId} {pos:String} {Yf:Array Edge} {b c:Bool} {v:Value} {K:Env→Hp→Prop}
def Nn (K:Env→Hp→Prop) (F:Env) (d:Option Tmp) (h:Hp):Value→Prop:=fun v=>K (Zi F d v) h
@[go_sem] theorem Mu:Un P T ops B h0 N .nil F h=N F h:=rfl
@[go_sem] theorem Kv:Un P T ops B h0 N (.q i t) F h=wQ P T ops B h0 (Un P T ops B h0 N t) F h (nth ops i):=rfl
@[go_sem] theorem Kw:Un P T ops B h0 N (.s i t) F h=wS P T ops B h0 (Un P T ops B h0 N t) F h (nth ops i):=rfl
@[go_sem] theorem Kx:Un P T ops B h0 N (.w i t) F h=wW P T ops (Un P T ops B h0 N t) F h (nth ops i):=rfl
@[go_sem] theorem Lg:Un P T ops B h0 N (.or i t r) F h=(wS P T ops B h0 (Un P T ops B h0 N t) F h (nth ops i)∧Un P T ops B h0 N r F h):=rfl
@[go_sem] theorem No:wQ P T ops B h0 K F h (some ⟨d,op,ty,pos,Yf,none⟩)=X1 P T B h0 op ty (Nn K F d h) F:=rfl
@[go_sem] theorem Np:wQ P T ops B h0 K F h (some ⟨d,op,ty,pos,Yf,some (j,b)⟩)=Le P T B h0 K F h d op ty (Yu ops F j) b:=rfl
@[go_sem] theorem Nq:wS P T ops B h0 K F h (some ⟨d,op,ty,pos,Yf,none⟩)=Xc P T op ty (Mt B h0 K F d) F h:=rfl
@[go_sem] theorem Nr:wW P T ops K F h (some ⟨d,op,ty,pos,Yf,none⟩)=Xc P T op ty (Nk K F d) F h:=rfl
@[go_sem] theorem Ns:wW P T ops K F h (some ⟨d,op,ty,pos,Yf,some (j,b)⟩)=Lf P T K F h d op ty (Yu ops F j) b:=rfl
@[go_sem] theorem Nt:Le P T B h0 K F h d op ty (.bool c) b=if c=b then X1 P T B h0 op ty (Nn K F d h) F else K (Zi F d undef) h:=rfl
@[go_sem] theorem Nu:Lf P T K F h d op ty (.bool c) b=if c=b then Xc P T op ty (Nk K F d) F h else K (Zi F d undef) h:=rfl
@[go_sem] theorem Mv:Nn K F d h v=K (Zi F d v) h:=rfl
@[go_sem] theorem Mw:Mt B h0 K F d v h=(Zg B h0 h∧K (Zi F d v) h):=rfl
@[go_sem] theorem Mx:Nk K F d v h=K (Zi F d v) h:=rfl
end
end Go.V
