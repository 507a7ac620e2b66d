/- Part Tzb. -/
import Derived.Test.YthlfaofofaphfaaGreatDoorTyd
open List renaming mem_singleton→o,length→O,mem_append→U,length_append→am,mem_flatMap→aI,mem_filter→aU,mem_range→a0,length_cons→a5,getElem?_eq_getElem→a6,length_map→a7,filter_cons→a9,mem_cons→ba,append_nil→bc,nodup_iff_pairwise_ne→bf,mem_map→bh,mem_of_mem_erase→bk,append_assoc→bl,not_mem_nil→bn,getElem_mem→bo
open Nat renaming le_refl→al,zero_le→aw
open Option renaming isSome_none→a8,isSome_some→bd,some→B,none→aa
open Bool renaming false_eq_true→au
open Classical renaming byContradiction→bg
namespace Go.Proofs.YthlfaofofaphfaaGreatDoor
open Go Go.V
set_option linter.unusedSimpArgs false
set_option linter.unusedVariables false
variable{X t:Nat}{n:Nd}{r:Xw}{x:Cm}
structure PW(C:List Cm)(b:Yw)(L:Nat)(w:Wd):Prop where
 nd:∀X,X<5->PN C b L X (w.Zb X)
 Nw:∀l∈w.Zp,PJ C b l
 Wp:∀X,X<5->∀l∈(w.Zb X).Zg,PJ C b l
def Clear(w:Wd):Prop:=∀X,X<5->VU (w.Zb X)
section
variable {C:List Cm} {b:Yw} {L:Nat} {w:Wd}
theorem LN(h:PW C b L w)(hC:(O C)<=100000)(hb:ZF b)(hX:X<5):PN C b L X (step (w.Zb X)).n/\(∀m∈(step (w.Zb X)).ls,PJ C b m)/\∀l∈(step (w.Zb X)).n.Zg,l∈(w.Zb X).Zg:=
 V3 (J8 hX hC hb) (h.nd X hX).up (h.nd X hX) (h.Wp X hX)
theorem ZdX(h:PW C b L w)(hC:(O C)<=100000)(hb:ZF b):∀l∈Ro w,PJ C b l:=fun l hl=>by
 rcases Vm.1 hl with q|⟨i,hi,q⟩
 .exact h.Nw l q
 .exact (LN h hC hb hi).2.1 l q
theorem Zax(h:PW C b L w)(hC:(O C)<=100000)(hb:ZF b):PW C b L (jQ w):=by
 refine⟨fun X hX=>?_,fun l hl=>(by rw[BJ]at hl;cases hl),fun X hX l hl=>?_⟩
 .rw[QM w X hX (h.nd X hX).up];exact (J8 hX hC hb).box _ _ (LN h hC hb hX).1
 .rcases (OZ hX (h.nd X hX).up).1 hl with q|⟨q,_⟩
  .exact h.Wp X hX l ((LN h hC hb hX).2.2 l q)
  .exact ZdX h hC hb l q
theorem Zay(h:PW C b L w)(hC:(O C)<=100000)(hb:ZF b)(hX:X<5){A G:YF->Prop}{E F:Nd->Prop}(H:Mm (PN C b L X) (PJ C b) A G E F)(hs:Src A E F (w.Zb X)):
  (Src A E F ((jQ w).Zb X)\/∃m∈Ro w,G m)/\(VU (w.Zb X)->E ((jQ w).Zb X)\/∃m∈Ro w,G m):=by
 have hu:=(h.nd X hX).up;obtain⟨h1,h2⟩:=di (J8 hX hC hb) H hu (h.nd X hX) (h.Wp X hX) hs;have hm:(∃m∈(step (w.Zb X)).ls,G m)->∃m∈Ro w,G m:=fun⟨m,q1,q2⟩=>⟨m,Vm.2 (.inr ⟨X,hX,q1⟩),q2⟩
 rw[QM w X hX hu];refine⟨?_,fun hf=>?_⟩
 .rcases h1 with (q|q|⟨l,hl,q⟩)|q
  .exact .inl (.inl (H.sc _ _ q))
  .exact .inl (.inr (.inl (H.ZhH _ _ q)))
  .exact .inl (.inr (.inr ⟨l,U.2 (.inl hl),q⟩))
  .exact .inr (hm q)
 .rcases h2 hf with q|q
  .exact .inl (H.sc _ _ q)
  .exact .inr (hm q)
theorem jU{A:YF->Prop}{E F:Nd->Prop}{Y:Nat}(hY:Y<5)(hu:(w.Zb Y).up=true)(h:∃m∈Ro w,A m)(ht:∀m,A m->m.to.toNat=Y):Src A E F ((jQ w).Zb Y):=by
 obtain⟨m,q1,q2⟩:=h;exact .inr (.inr ⟨m,(OZ hY hu).2 (.inr ⟨q1,ht m q2⟩),q2⟩)
end
def Full(n:Nd):Prop:=99900<(O n.data)
section
variable {C:List Cm} {b:Yw} {L X:Nat}
theorem dn(h:PN C b L X n):(ZO n).data=n.data/\(ZO n).YZ=(O n.data):=by
 have ht:YW n.data n.YZ:=⟨h.ni.data,h.tape.1,h.tape.2⟩
 refine⟨?_,?_⟩
 .show (if YW n.data n.YZ then n.data else [])=n.data;rw[if_pos ht]
 .show (if YW n.data n.YZ then ((O n.data):Int) else 0)=(O n.data);rw[if_pos ht]
theorem dp(h:PN C b L X n)(p:LV):(YK (ZO n) p).n.data=n.data:=by
 cases p<;>exact (dn h).1
theorem Full.mS(h:Full n)(l:YF):Full (Zw n l).n:=by
 rcases (XR n l).2 with k|⟨_,_,_,_,e⟩|⟨_,_,_,_,e⟩
 .unfold Full;rw[k.data];exact h
 .rw[e];unfold Full ZmB;simp only[am];unfold Full at h;omega
 .rw[e];unfold Full ZmC;simp only[am];unfold Full at h;omega
theorem Full.mT(h:Full n)(D:FU n (Yp n).n):Full (Yp n).n:=by
 unfold Full at h ⊢;rcases D.Zs with⟨_,e⟩|⟨_,_,_,_,e,_⟩
 .rw[e];exact h
 .rw[e,am];omega
theorem Full.fin(hf:Full n)(h:PN C b L X n)(p:LV):Full (YK (ZO n) p).n:=by
 unfold Full;rw[dp h];exact hf
theorem dq(h:PN C b L X n){k:Nat}(hk:k<=33)(hq:Qt n.data n.YZ k≠0):Full n:=by
 have ht:YW n.data n.YZ:=⟨h.ni.data,h.tape.1,h.tape.2⟩
 unfold Qt at hq;rw[if_neg (fun q=>q ht)]at hq;unfold Full;split at hq
 .omega
 .exact absurd rfl hq
theorem FV(h:PN C b L X n){c:Yw}(hc:ZF c)(hq:Ji n.data n.YZ c≠0):Full n:=by
 have ht:YW n.data n.YZ:=⟨h.ni.data,h.tape.1,h.tape.2⟩
 unfold Ji at hq;rw[if_neg (fun q=>q ht),if_neg (fun q=>q hc)]at hq;exact dq h nc hq
theorem Zaz(h:PN C b L X n){v:Vt}(hv:Ym v)(hq:QZ n.data n.YZ v≠0):Full n:=by
 have ht:YW n.data n.YZ:=⟨h.ni.data,h.tape.1,h.tape.2⟩
 unfold QZ at hq;rw[if_neg (fun q=>q ht),if_neg (fun q=>q hv)]at hq;exact dq h nc hq
theorem dx(hb:ZF b):Mm (PN C b L X) (PJ C b) (fun l=>l.Z7=0/\l.b=b/\l.Jq=L) (fun m=>m.Z7=1/\m.b=b/\m.Jq=X/\m.to=L) Full (fun n=>∃a vs,n.Zs=B (.VB a L b vs)):=by
 refine⟨fun n k h=>h,fun n l _ _ _ h=>h.mS l,fun n h hp hf=>hf.mT (YY hp h.Yr).1,fun n p h hp hf=>hf.fin h p,fun n k h=>h,fun n ⟨a,vs,h⟩ e=>(by rw[e]at h;cases h),fun n p h hp ⟨a,vs,hq⟩=>?_,fun n l h hp hl ⟨k0,k1,k2⟩=>?_⟩
 .rw[hq]at hp;obtain rfl:=Option.some.inj hp;exact .inr ⟨_,o.2 rfl,rfl,rfl,by show ((ZO n).me:Int)=X;rw[show (ZO n).me=n.me from rfl,h.ni.me],rfl⟩
 .have e:Zw n l=YB n l:=by unfold Zw;rw[if_pos k0]
  rw[e];unfold YB;rw[k1,k2,if_neg (by rw[h.pr0 hb h.Zq];simp)];by_cases q1:n.Zq.p=b
  .rw[if_pos q1];exact .inr (.inr ⟨_,o.2 rfl,rfl,rfl,by show (n.me:Int)=X;rw[h.ni.me],rfl⟩)
  .rw[if_neg q1];by_cases q2:Ji n.data n.YZ b=0
   .rw[if_neg (by simp[q2])];exact .inr (.inl ⟨_,_,rfl⟩)
   .rw[if_pos q2];exact .inl (FV h hb q2)
theorem ZdY(hr:n.Zh=B r)(l:YF):∃r',(Zw n l).n.Zh=B r'/\VE r r':=by
 rcases (XR n l).2 with k|⟨_,_,_,_,e⟩|⟨_,_,_,_,e⟩
 .exact k.on hr
 .rw[e];exact⟨r,hr,VE.refl r⟩
 .rw[e];exact⟨r,hr,VE.refl r⟩
theorem ZdZ(h:PN C b L L n)(hp:n.Zs=aa)(hr:n.Zh=B r):∃r',(Yp n).n.Zh=B r'/\XQ r r':=by
 obtain⟨r0,h1,h2⟩:=h.Z4 rfl;rw[hr]at h1;obtain rfl:=Option.some.inj h1;rcases (YY hp h.Yr).1.SG with⟨e,_⟩|⟨r2,e,q,_⟩|⟨r2,r3,e,_,e3,k,_,_,_⟩
 .rw[e]at hr;cases hr
 .rw[e]at hr;obtain rfl:=Option.some.inj hr;rw[h2]at q;exact absurd q h.Zq
 .rw[e]at hr;obtain rfl:=Option.some.inj hr;exact⟨r3,e3,k⟩
theorem Zd0(hr:n.Zh=B r)(p:LV):∃r',(YK (ZO n) p).n.Zh=B r'/\XQ r r':=by
 cases p with
 | VB a to b' vs=>exact⟨r,hr,XQ.refl r⟩
 | TC a to v=>exact⟨r,hr,XQ.refl r⟩
 | Zq a vs cur=>
  show ∃r',(if cur=true then n.Zh.map (fun r=>{ r with ZI:=ins r.ZI n.me vs }) else n.Zh)=B r'/\XQ r r';rw[hr];split
  .exact⟨_,rfl,⟨rfl,fun _ _ h=>h,fun h=>h,fun k h=>Has.ins h _ _,fun _ _ h=>h⟩⟩
  .exact⟨r,rfl,XQ.refl r⟩
def Mn(Q:Xw->Prop)(n:Nd):Prop:=∃r,n.Zh=B r/\Q r
theorem FW{Q:Xw->Prop}(hQ:∀r r',XQ r r'->Q r->Q r'){A G:YF->Prop}(hit:∀n l,PN C b L L n->n.Zs=aa->PJ C b l->A l->Mn Q (Zw n l).n):Mm (PN C b L L) (PJ C b) A G (Mn Q) (fun _=>False):=by
 refine⟨fun n k h=>h,fun n l _ _ _ ⟨r,h1,h2⟩=>?_,fun n h hp ⟨r,h1,h2⟩=>?_,fun n p h hp ⟨r,h1,h2⟩=>?_,fun n k h=>h,fun n h=>h.elim,fun n p _ _ h=>h.elim,fun n l h hp hl hA=>.inl (hit n l h hp hl hA)⟩
 .obtain⟨r',e,k⟩:=ZdY h1 l;exact⟨r',e,hQ r r' k.k h2⟩
 .obtain⟨r',e,k⟩:=ZdZ h hp h1;exact⟨r',e,hQ r r' k h2⟩
 .obtain⟨r',e,k⟩:=Zd0 h1 p;exact⟨r',e,hQ r r' k h2⟩
theorem KH{G:YF->Prop}:Mm (PN C b L L) (PJ C b) (fun m=>m.Z7=1/\m.b=b/\m.Jq=X/\m.to=L) G (Mn fun r=>Has r.ZI X) (fun _=>False):=by
 refine FW (fun r r' k h=>k.ZI _ h) (fun n l h hp hl ⟨k0,k1,k2,_⟩=>?_);obtain⟨r,h1,h2⟩:=h.Z4 rfl;have e:Zw n l=Yl n l:=by unfold Zw;rw[if_neg nc,if_pos (.inl k0)]
 rw[e];unfold Yl;rw[h1];simp only;rw[if_pos k0,if_pos (by rw[k1,h2])];refine⟨_,rfl,?_⟩;show Has (ins r.ZI l.Jq l.vs) X;rw[k2];exact Has.now _ _ _
end
theorem PN.ac0{C:List Cm}{b:Yw}{L:Nat}(h:PN C b L X n){v:Vt}(hv:Ym v)(hle:¬ZL v.b n.Zq.p):Xj n.Zq.p n.Zq.l v=0:=by
 unfold Xj;rw[if_neg (by rw[KD h.ni.Zq h.Y5];simp),if_neg (fun q=>q hv),if_neg hle]
theorem Laws.and{I:Nd->Prop}{J K:YF->Prop}{E:Nd->Prop}(W:Laws I J K)(e1:∀n k,E n->E { n with Zg:=k })(e2:∀n l,I n->n.Zs=aa->J l->E n->E (Zw n l).n)(e3:∀n,I n->n.Zs=aa->E n->E (Yp n).n)(e4:∀n p,I n->n.Zs=B p->E n->E (YK (ZO n) p).n):Laws (fun n=>I n/\E n) J K:=
 ⟨fun n k h=>⟨W.box n k h.1,e1 n k h.2⟩,fun n l h hp hl=>⟨⟨(W.mS n l h.1 hp hl).1,e2 n l h.1 hp hl h.2⟩,(W.mS n l h.1 hp hl).2⟩,fun n h hp=>⟨⟨(W.mT n h.1 hp).1,e3 n h.1 hp h.2⟩,(W.mT n h.1 hp).2⟩,fun n p h hp=>⟨⟨(W.fin n p h.1 hp).1,e4 n p h.1 hp h.2⟩,(W.fin n p h.1 hp).2⟩⟩
theorem VV(n:Nd)(l:YF):VF n (Zw n l).n:=by
 rcases (XR n l).2 with k|⟨_,_,_,_,e⟩|⟨_,_,_,_,e⟩
 .exact k.go
 .rw[e];exact .same rfl rfl rfl rfl rfl
 .rw[e];exact .same rfl rfl rfl rfl rfl
theorem VW(n:Nd)(p:LV):VF n (YK (ZO n) p).n:=by
 cases p<;>exact .same rfl rfl rfl rfl rfl
section
variable {C:List Cm} {b:Yw} {L X Y:Nat} {G:YF->Prop}
theorem D6{s:Int}(hv:Ym (QB s b x)):Mm (PN C b L X) (PJ C b) (fun l=>l.Z7=2/\l.v=QB s b x/\l.Jq=L) (fun m=>m.Z7=3/\m.v=QB s b x/\m.Jq=X/\m.to=L) Full (fun n=>∃a,n.Zs=B (.TC a L (QB s b x))):=by
 refine⟨fun n k h=>h,fun n l _ _ _ h=>h.mS l,fun n h hp hf=>hf.mT (YY hp h.Yr).1,fun n p h hp hf=>hf.fin h p,fun n k h=>h,fun n ⟨a,h⟩ e=>(by rw[e]at h;cases h),fun n p h hp ⟨a,hq⟩=>?_,fun n l h hp hl ⟨k0,k1,k2⟩=>?_⟩
 .rw[hq]at hp;obtain rfl:=Option.some.inj hp;exact .inr ⟨_,o.2 rfl,rfl,rfl,by show ((ZO n).me:Int)=X;rw[show (ZO n).me=n.me from rfl,h.ni.me],rfl⟩
 .have e:Zw n l=asked n l:=by
   unfold Zw;rw[if_neg nc,if_neg nc,if_pos k0]
  rw[e];unfold asked;rw[k1,k2,if_neg (by rw[h.ac0 hv h.Zq];simp)];by_cases q1:QB s b x∈n.Zq.l
  .rw[if_pos q1];exact .inr (.inr ⟨_,o.2 rfl,rfl,rfl,by show (n.me:Int)=X;rw[h.ni.me],rfl⟩)
  .rw[if_neg q1];by_cases q2:QZ n.data n.YZ (QB s b x)=0
   .rw[if_neg (by simp[q2])];exact .inr (.inl ⟨_,rfl⟩)
   .rw[if_pos q2];exact .inl (Zaz h hv q2)
theorem FX{s:Int}:Mm (PN C b L L) (PJ C b) (fun m=>m.Z7=3/\m.v=QB s b x/\m.Jq=X/\m.to=L) G (Mn fun r=>mU r s X) (fun _=>False):=by
 refine FW (fun r r' k h=>k.Y5 _ _ h) (fun n l h hp hl ⟨k0,k1,k2,_⟩=>?_);obtain⟨r,h1,h2⟩:=h.Z4 rfl;have e:Zw n l=Yl n l:=by unfold Zw;rw[if_neg nc,if_pos (.inr k0)]
 rw[e];unfold Yl;rw[h1];simp only;have hb:l.v.b=b:=by rw[k1];rfl
 have hs:l.v.Zu=s:=by rw[k1];rfl
 rw[if_neg nc,if_neg (by rw[hb,h2];simp)];have hV:mU { r with Y5:=ins r.Y5 l.v.Zu (Q2 r l) } s X:=by
  show Has ((Yh (ins r.Y5 l.v.Zu (Q2 r l)) s).getD []) X;rw[Xf,if_pos hs];show Has (Q2 r l) X;unfold Q2;rw[k2];exact Has.now _ _ _
 split
 .obtain⟨k,_,_⟩:=Ue (Tq n r l) l.v.Zu l.v.cm;obtain⟨r',e1,e2⟩:=k.on (r:={ r with Y5:=ins r.Y5 l.v.Zu (Q2 r l) }) rfl;exact⟨r',e1,e2.k.Y5 _ _ hV⟩
 .exact⟨_,rfl,hV⟩
theorem KJ{j:Int}(h:Has n.Zi j)(l:YF):Has (Zw n l).n.Zi j:=(VV n l).Zi j h
theorem KK{j:Int}(h:Has n.Zi j)(hp:n.Zs=aa)(hn:PN C b L X n):Has (Yp n).n.Zi j:=by rw[(YY hp hn.Yr).1.Zi];exact h
theorem KL{j:Int}(h:Has n.Zi j)(p:LV):Has (YK (ZO n) p).n.Zi j:=(VW n p).Zi j h
theorem jV(hX:X<5)(hC:(O C)<=100000)(hb:ZF b)(j:Int):Laws (fun n=>PN C b L X n/\Has n.Zi j) (PJ C b) (PJ C b):=
 (J8 hX hC hb).and (fun n k h=>h) (fun n l _ _ _ h=>KJ h l) (fun n hn hp h=>KK h hp hn) (fun n p _ _ h=>KL h p)
theorem sq{j:Int}:Mm (fun n=>PN C b L Y n/\Has n.Zi j) (PJ C b) (fun m=>m.Z7=5/\m.v.Zu=j/\m.Jq=X/\m.to=Y) (fun m=>m.Z7=6/\m.v.Zu=j/\m.to=X) (fun _=>False) (fun _=>False):=by
 refine⟨fun n k h=>h,fun n l _ _ _ h=>h,fun n _ _ h=>h,fun n p _ _ h=>h,fun n k h=>h,fun n h=>h.elim,fun n p _ _ h=>h.elim,fun n l h hp hl ⟨k0,k1,k2,_⟩=>.inr (.inr ?_)⟩;have e:Zw n l=Qp n l:=by
  unfold Zw;rw[if_neg nc,if_neg nc,if_neg nc,if_neg nc,if_pos k0]
 rw[e];unfold Qp;rw[k1]
 cases q:Yh n.Zi j with
 | none=>exact absurd q h.2
 | some x=>exact⟨_,o.2 rfl,rfl,rfl,k2⟩
theorem D7{j:Int}:Mm (PN C b L X) (PJ C b) (fun m=>m.Z7=6/\m.v.Zu=j/\m.to=X) G (fun n=>Has n.Zi j) (fun _=>False):=by
 refine⟨fun n k h=>h,fun n l _ _ _ h=>KJ h l,fun n hn hp h=>KK h hp hn,fun n p _ _ h=>KL h p,fun n k h=>h,fun n h=>h.elim,fun n p _ _ h=>h.elim,fun n l h hp hl ⟨k0,k1,_⟩=>.inl ?_⟩;have e:Zw n l=Jg n l.v.Zu l.v.cm:=by
  unfold Zw;rw[if_neg nc,if_neg nc,if_neg nc,if_neg nc,if_neg nc,if_pos k0]
 rw[e,k1];exact (Ue n j l.v.cm).2.1
def SD(x:Cm)(n:Nd):Prop:=x∈n.Zx\/x∈n.ZB
theorem SD.go{x:Cm}{n m:Nd}(h:SD x n)(g:VF n m):SD x m:=by
 rcases h with h|h
 .exact g.Zx x h
 .obtain⟨e,he⟩:=g.ZB;exact .inr (by rw[he];exact U.2 (.inl h))
theorem SD.mT(h:SD x n)(D:FU n (Yp n).n):SD x (Yp n).n:=by
 unfold SD;rw[D.Zx,D.ZB];exact h
theorem dy:Mm (PN C b L X) (PJ C b) (fun m=>m.Z7=4/\m.v.cm=x/\m.to=X) G (SD x) (fun _=>False):=by
 refine⟨fun n k h=>h,fun n l _ _ _ h=>h.go (VV n l),fun n hn hp h=>h.mT (YY hp hn.Yr).1,fun n p _ _ h=>h.go (VW n p),fun n k h=>h,fun n h=>h.elim,fun n p _ _ h=>h.elim,fun n l h hp hl ⟨k0,k1,_⟩=>.inl ?_⟩;have e:Zw n l=⟨add n l.v.cm,[],[]⟩:=by
  unfold Zw;rw[if_neg nc,if_neg nc,if_neg nc,if_pos k0]
 rw[e,k1];exact (D4 n x).2
theorem O1(h:PN C b L X n){p:LV}(hp:n.Zs=B p):(YK (ZO n) p).n.Zq=WM p:=by
 cases p<;>rfl
theorem Rp:(∀n l,PN C b L X n->n.Zq.p=b->(Zw n l).n.Zq.p=b)/\(∀n,PN C b L X n->n.Zs=aa->n.Zq.p=b->(Yp n).n.Zq.p=b)/\∀n p,PN C b L X n->n.Zs=B p->n.Zq.p=b->(YK (ZO n) p).n.Zq.p=b:=by
 refine⟨fun n l h e=>?_,fun n h hp e=>by rw[(YY hp h.Yr).1.Zq];exact e,fun n p h hp e=>?_⟩
 .rcases (XR n l).2 with k|⟨_,_,_,_,q⟩|⟨_,_,_,_,q⟩
  .rw[k.Zq];exact e
  .rw[q];exact e
  .rw[q];exact e
 .rw[O1 h hp];obtain⟨h1,h2,_⟩:=h.pnd p hp;rw[e]at h2;exact RU h2 h1
theorem dz{A:YF->Prop}(hit:∀n l,PN C b L X n->n.Zs=aa->PJ C b l->A l->(n.Zq.p=b\/Full n)\/∃p,(Zw n l).n.Zs=B p/\(WM p).p=b):Mm (PN C b L X) (PJ C b) A G (fun n=>n.Zq.p=b\/Full n) (fun n=>∃p,n.Zs=B p/\(WM p).p=b):=by
 obtain⟨o1,o2,o3⟩:=Rp (C:=C) (b:=b) (L:=L) (X:=X);have stay:∀n l,PN C b L X n->n.Zq.p=b\/Full n->(Zw n l).n.Zq.p=b\/Full (Zw n l).n:=fun n l h q=>by
  rcases q with q|q
  .exact .inl (o1 n l h q)
  .exact .inr (q.mS l)
 refine⟨fun n k h=>h,fun n l h _ _ q=>stay n l h q,fun n h hp q=>?_,fun n p h hp q=>?_,fun n k h=>h,fun n ⟨p,h,_⟩ e=>(by rw[e]at h;cases h),fun n p h hp ⟨p',hq,e⟩=>?_,fun n l h hp hl hA=>?_⟩
 .rcases q with q|q
  .exact .inl (o2 n h hp q)
  .exact .inr (q.mT (YY hp h.Yr).1)
 .rcases q with q|q
  .exact .inl (o3 n p h hp q)
  .exact .inr (q.fin h p)
 .rw[hq]at hp;obtain rfl:=Option.some.inj hp;exact .inl (.inl (by rw[O1 h hq];exact e))
 .rcases hit n l h hp hl hA with q|q
  .exact .inl (stay n l h q)
  .exact .inr (.inl q)
theorem IV(hb:ZF b):Mm (PN C b L X) (PJ C b) (fun l=>l.Z7=0/\l.b=b) G (fun n=>n.Zq.p=b\/Full n) (fun n=>∃p,n.Zs=B p/\(WM p).p=b):=by
 refine dz fun n l h hp hl ⟨k0,k1⟩=>?_;have e:Zw n l=YB n l:=by unfold Zw;rw[if_pos k0]
 rw[e];unfold YB;rw[k1,if_neg (by rw[h.pr0 hb h.Zq];simp)];by_cases q1:n.Zq.p=b
 .exact .inl (.inl q1)
 .rw[if_neg q1];by_cases q2:Ji n.data n.YZ b=0
  .rw[if_neg (by simp[q2])];exact .inr ⟨_,rfl,rfl⟩
  .exact .inl (.inr (FV h hb q2))
theorem Vo:∀(k:List YF) (n:Nd),(ZA n k).n.Zs=aa->XD n (ZA n k).n:=by
 intro k
 induction k with
 | nil=>intro n _;unfold ZA;exact⟨.same rfl rfl rfl rfl rfl,rfl,rfl,rfl,rfl,UL.refl _⟩
 | cons l k ih=>
  intro n h;unfold ZA at h ⊢;by_cases hp:n.Zs.isSome=true
  .rw[if_pos hp]at h ⊢;exact⟨.same rfl rfl rfl rfl rfl,rfl,rfl,rfl,rfl,UL.refl _⟩
  .rw[if_neg hp]at h ⊢;have h:(ZA (Zw { n with Zg:=k } l).n k).n.Zs=aa:=h;have K:=ih _ h;have hq:(Zw { n with Zg:=k } l).n.Zs=aa:=by rw[<-K.Zs];exact h
   have hn:XD n { n with Zg:=k }:=⟨.same rfl rfl rfl rfl rfl,rfl,rfl,rfl,rfl,UL.refl _⟩
   rcases (XR { n with Zg:=k } l).2 with q|⟨_,_,_,_,e⟩|⟨_,_,_,_,e⟩
   .exact (hn.trans q).trans K
   .rw[e]at hq;cases hq
   .rw[e]at hq;cases hq
theorem Rq(h:PN C b L L n)(hp:n.Zs=aa)(hr:n.Zh=B r):r.b=b/\Z9 (Zo n)=JM n r:=by
 obtain⟨r0,h1,h2⟩:=h.Z4 rfl;rw[hr]at h1;obtain rfl:=Option.some.inj h1;refine⟨h2,?_⟩;rcases Vn n with⟨e,_⟩|⟨r1,e,q,_⟩|⟨r1,e,q,e2⟩
 .rw[e]at hr;cases hr
 .rw[e]at hr;obtain rfl:=Option.some.inj hr;rw[h2]at q;exact absurd q h.Zq
 .rw[e2];unfold Z9;rw[hr]
theorem BL{l:YF}(h:l∈(Z9 (Zo n)).ls):l∈(Yp n).ls:=by
 unfold Yp;split
 .exact h
 .exact U.2 (.inl h)
theorem Rr:(Yp n).n.Zh=(Z9 (Zo n)).n.Zh/\(Yp n).n.Zs=(Z9 (Zo n)).n.Zs/\(Yp n).n.data=(Z9 (Zo n)).n.data:=by
 unfold Yp;split
 .exact⟨rfl,rfl,rfl⟩
 .exact⟨rfl,rfl,rfl⟩
theorem ZaA(h:PN C b L L n)(hp:n.Zs=aa)(hb:n.Zq.p≠b):Full n\/∃p,(Yp n).n.Zs=B p/\(WM p).p=b:=by
 obtain⟨r,hr,_⟩:=h.Z4 rfl;obtain⟨h2,e⟩:=Rq h hp hr;have ZU:ZL n.Zq.p r.b:=by
  rw[h2];by_cases q:ZL n.Zq.p b
  .exact q
  .exact absurd (RU q h.Zq) hb
 have hm:=h.may r hr;rw[Rr.2.1,e];unfold JM;rw[if_pos ZU];by_cases q:Ji n.data n.YZ r.b=0
 .rw[if_neg (by simp[q])];refine .inr ⟨_,rfl,?_⟩;show (if YG n.Zq.p n.Zq.l r.b=0 then (⟨r.b,n.Zq.l⟩:UC) else JE).p=b;rw[if_pos (h.pr0 hm (LF ZU)),<-h2]
 .exact .inl (FV h hm q)
theorem sr(h:PN C b L L n)(hp:n.Zs=aa)(hb:n.Zq.p=b)(hr:n.Zh=B r)(hq:¬5<2*r.ZI.length){m:Nat}(hm:m<5)(hn:¬Has r.ZI m):(⟨0,L,m,b,St,[]⟩:YF)∈(Yp n).ls:=by
 obtain⟨h2,e⟩:=Rq h hp hr;refine BL ?_;rw[e];unfold JM;rw[if_neg (by rw[hb,h2];exact Qu _),if_pos hq];unfold RN;refine aI.2 ⟨m,a0.2 hm,?_⟩;rw[if_pos (by unfold Has at hn;simpa using hn),h2,h.ni.me];exact o.2 rfl
theorem ZaB(h:PN C b L L n)(hp:n.Zs=aa)(hb:n.Zq.p=b)(hr:n.Zh=B r)(hq:5<2*r.ZI.length):(Yp n).n.Zh=B (X2 n r) /\
  ∀(s:Nat) x (m:Nat),s<40->Yh (X2 n r).ZW s=B x->Yh n.Zi s=aa->m<5->¬mU r s m->(⟨2,L,m,Jj,QB s b x,[]⟩:YF)∈(Yp n).ls:=by
 obtain⟨h2,e⟩:=Rq h hp hr;have er:JM n r=⟨{ n with Zh:=B (X2 n r) },Tt n (X2 n r),[]⟩:=by
  unfold JM;rw[if_neg (by rw[hb,h2];exact Qu _),if_neg nc]
 refine⟨by rw[Rr.1,e,er],fun s x m hs hx hk hm hv=>BL ?_⟩;rw[e,er];show _∈Tt n (X2 n r);unfold Tt;refine aI.2 ⟨s,a0.2 hs,?_⟩;unfold Vx;rw[hx];simp only;rw[if_pos hk];refine aI.2 ⟨m,a0.2 hm,?_⟩;unfold Pk;have hbk:(X2 n r).b=b:=by rw[(IU n r (h.Yr r hr)).1.b,h2]
 rw[(O0 n r).1,if_pos (by unfold mU Has at hv;simpa using hv),hbk,h.ni.me];exact o.2 rfl
theorem jW(h:PN C b L X n)(hX:X≠L)(hp:n.Zs=aa)(hb:n.Zq.p=b)(hm:ZF b)(hL:b.n=L)(hx:x∈n.Zx):(⟨4,X,L,Jj,QB 0 Jj x,[]⟩:YF)∈(Yp n).ls:=by
 refine BL ?_;have hs:∃m:Nd,Zo n=m/\m.Zh=aa/\m.Zq=n.Zq/\m.me=n.me/\m.Zx=n.Zx:=by
  rcases Vn n with⟨e,e2⟩|⟨r,e,_,e2⟩|⟨r,e,q,_⟩
  .exact⟨_,e2,e,rfl,rfl,rfl⟩
  .exact⟨_,e2,rfl,rfl,rfl,rfl⟩
  .rw[hb]at q;exact absurd (h.SG hX r e) q
 obtain⟨m,e,e1,e2,e3,e4⟩:=hs;rw[e];unfold Z9;rw[e1];simp only;rw[e2,e3,hb,hL,h.ni.me];rw[if_pos ⟨by have:=hm.1;omega,fun q=>hX nc⟩];unfold Wu;rw[e4,e3,e2,hb,hL,h.ni.me];exact bh.2 ⟨x,hx,rfl⟩
theorem WP(n:Nd):(Z9 (Zo n)).n.Ys=n.Ys/\(Z9 (Zo n)).n.ZB=n.ZB/\(Z9 (Zo n)).n.me=n.me:=by
 have hs:(Zo n).Ys=n.Ys/\(Zo n).ZB=n.ZB/\(Zo n).me=n.me:=by
  rcases Vn n with⟨_,e⟩|⟨_,_,_,e⟩|⟨_,_,_,e⟩<;>rw[e]<;>exact⟨rfl,rfl,rfl⟩
 have hd:(Z9 (Zo n)).n.Ys=(Zo n).Ys/\(Z9 (Zo n)).n.ZB=(Zo n).ZB/\(Z9 (Zo n)).n.me=(Zo n).me:=by
  unfold Z9;split
  .unfold JM
   repeat' split
   all_goals exact⟨rfl,rfl,rfl⟩
  .split<;>exact⟨rfl,rfl,rfl⟩
 exact⟨by rw[hd.1,hs.1],by rw[hd.2.1,hs.2.1],by rw[hd.2.2,hs.2.2]⟩
theorem sz(hq:(Yp n).n.Zs=aa):(Yp n).n.Ys=(n.Ys+1)%5/\((Yp n).n.Ys≠n.me->n.ZB.length<40->∃bb,(⟨5,n.me,(Yp n).n.Ys,bb,QB n.ZB.length Jj IB,[]⟩:YF)∈(Yp n).ls):=by
 obtain⟨t1,t2,t3⟩:=WP n;have hp:(Z9 (Zo n)).n.Zs=aa:=by rw[<-Rr.2.1];exact hq
 have e:Yp n=⟨JW (Z9 (Zo n)).n,(Z9 (Zo n)).ls++UI (JW (Z9 (Zo n)).n),[]⟩:=by
  unfold Yp;rw[if_neg (by rw[hp];decide)]
 have et:(Yp n).n.Ys=(n.Ys+1)%5:=by
  rw[e];show ((Z9 (Zo n)).n.Ys+1)%5=_;rw[t1]
 refine⟨et,fun h1 h2=>?_⟩;rw[et]at h1 ⊢;rw[e];refine⟨Vi (JW (Z9 (Zo n)).n),U.2 (.inr ?_)⟩;unfold UI;have q1:(JW (Z9 (Zo n)).n).Ys=(n.Ys+1)%5:=by
  show ((Z9 (Zo n)).n.Ys+1)%5=_;rw[t1]
 have q2:(JW (Z9 (Zo n)).n).ZB=n.ZB:=t2;have q3:(JW (Z9 (Zo n)).n).me=n.me:=t3;rw[q1,q2,q3,if_pos ⟨h1,h2⟩];exact o.2 rfl
end
def jX(n:Nd)(r:Xw)(t:Nat):Prop:=Has r.ZW t\/Has n.Zi t
theorem dA:∀(k s:Nat),(∀t,t<s->jX n r t)->Qe n r x k s=aa ->
  (∃t,s<=t/\t<s+k/\(∀u,u<=t->jX n r u)/\(Yh r.ZW t=B x\/Yh n.Zi t=B x))\/∀t,t<s+k->jX n r t:=by
 intro k
 induction k with
 | zero=>intro s h _;exact .inr fun t ht=>h t nc
 | succ k ih=>
  intro s h hn;unfold Qe at hn;by_cases q1:Yh r.ZW (s:Int)=B x\/Yh n.Zi (s:Int)=B x
  .refine .inl ⟨s,al _,nc,fun u hu=>?_,q1⟩;by_cases e:u=s
   .subst e;rcases q1 with q|q
    .exact .inl (by unfold Has;rw[q];simp)
    .exact .inr (by unfold Has;rw[q];simp)
   .exact h u nc
  .rw[if_neg q1]at hn;by_cases q2:Yh r.ZW (s:Int)=aa/\Yh n.Zi (s:Int)=aa
   .rw[if_pos q2]at hn;cases hn
   .rw[if_neg q2]at hn;have ho:jX n r s:=by
     unfold jX Has;by_cases q:Yh r.ZW (s:Int)=aa
     .exact .inr fun e=>q2 ⟨q,e⟩
     .exact .inl q
    rcases ih (s+1) (fun t ht=>by
     by_cases e:t=s
     .rw[e];exact ho
     .exact h t nc) hn with⟨t,h1,h2,h3,h4⟩|h1
    .exact .inl ⟨t,nc,nc,h3,h4⟩
    .exact .inr fun t ht=>h1 t nc
theorem IW:∀(k s t:Nat),(∀u,u<s->jX n r u)->Qe n r x k s=B t->∀u,u<t->jX n r u:=by
 intro k
 induction k with
 | zero=>intro s t _ hn;cases hn
 | succ k ih=>
  intro s t h hn;unfold Qe at hn;by_cases q1:Yh r.ZW (s:Int)=B x\/Yh n.Zi (s:Int)=B x
  .rw[if_pos q1]at hn;cases hn
  .rw[if_neg q1]at hn;by_cases q2:Yh r.ZW (s:Int)=aa/\Yh n.Zi (s:Int)=aa
   .rw[if_pos q2]at hn;obtain rfl:=Option.some.inj hn;exact h
   .rw[if_neg q2]at hn;refine ih (s+1) t (fun u hu=>?_) hn;by_cases e:u=s
    .rw[e];unfold jX Has;by_cases q:Yh r.ZW (s:Int)=aa
     .exact .inr fun e=>q2 ⟨q,e⟩
     .exact .inl q
    .exact h u nc
def Put(n:Nd)(r:Xw)(x:Cm):Prop:=(∃s:Nat,s<40/\(∀u,u<=s->jX n r u)/\(Yh r.ZW s=B x\/Yh n.Zi s=B x))\/∀t,t<40->jX n r t
theorem jX.Zf{r':Xw}(h:jX n r t)(k:XQ r r'):jX n r' t:=by
 rcases h with h|h
 .unfold Has at h
  cases e:Yh r.ZW (t:Int) with
  | none=>exact absurd e h
  | some x=>exact .inl (by unfold Has;rw[k.ZW _ _ e];simp)
 .exact .inr h
theorem Put.Zf{r':Xw}(h:Put n r x)(k:XQ r r'):Put n r' x:=by
 rcases h with⟨s,h1,h2,h3⟩|h
 .refine .inl ⟨s,h1,fun u hu=>(h2 u hu).Zf k,?_⟩;rcases h3 with h3|h3
  .exact .inl (k.ZW _ _ h3)
  .exact .inr h3
 .exact .inr fun t ht=>(h t ht).Zf k
theorem sA(hl:n.ZB.length<=40)(h0:∀t,t<n.ZB.length->Has n.Zi (t:Int)):Put n (J4 n r x) x:=by
 have hb:∀u,u<n.ZB.length->jX n r u:=fun u hu=>.inr (h0 u hu);unfold J4
 cases hf:free n r x with
 | none=>
  simp only;rcases dA _ _ hb hf with⟨t,h1,h2,h3,h4⟩|h
  .exact .inl ⟨t,nc,h3,h4⟩
  .exact .inr fun t ht=>h t nc
 | some s=>
  simp only;obtain⟨q1,q2,_,_⟩:=OY _ _ _ hf;have q3:=IW _ _ _ hb hf;have hs:Yh (ins r.ZW (s:Int) x) (s:Int)=B x:=by rw[Xf,if_pos rfl]
  refine .inl ⟨s,nc,fun u hu=>?_,.inl hs⟩;by_cases e:u=s
  .subst e;exact .inl (by unfold Has;rw[hs];simp)
  .rcases q3 u nc with q|q
   .exact .inl (Has.ins q _ _)
   .exact .inr q
theorem dB(hl:n.ZB.length<=40)(h0:∀t,t<n.ZB.length->Has n.Zi (t:Int)):∀(l:List Cm) (r:Xw),∀x∈l,Put n (Jd n r l) x:=by
 intro l
 induction l with
 | nil=>intro r x hx;cases hx
 | cons y l ih=>
  intro r x hx;show Put n (Jd n (J4 n r y) l) x;rcases ba.1 hx with rfl|hx
  .exact (sA hl h0).Zf (WR n l _)
  .exact ih _ x hx
theorem sE{C:List Cm}{b:Yw}{L:Nat}(h:PN C b L L n)(r:Xw)(hx:x∈n.Zx):Put n (X2 n r) x:=by
 unfold X2;refine dB h.ni.Kz (fun t ht=>?_) _ _ x hx;have:=h.ni.ZB t ht;unfold Has;intro e;rw[e]at this
 cases this
theorem sF{β:Type}{l:List (Int × β)}(h:∀X:Nat,X<5->X≠9->Has l X):5<2*(O l):=by
 have:=Oq (l:=[(0:Int),1,2,3,4]) (C:=l.map (·.1)) aaa (fun x hx=>by
  have:∃X:Nat,X<5/\x=X:=by
   simp only[ba,bn,or_false]at hx;rcases hx with rfl|rfl|rfl|rfl|rfl
   .exact⟨0,nc,rfl⟩
   .exact⟨1,nc,rfl⟩
   .exact⟨2,nc,rfl⟩
   .exact⟨3,nc,rfl⟩
   .exact⟨4,nc,rfl⟩
  obtain⟨X,hX,rfl⟩:=this;have:=h X hX nc;unfold Has at this
  cases e:Yh l (X:Int) with
  | none=>exact absurd e this
  | some v=>exact mM e)
 rw[a7]at this;simp at this;omega
theorem sH{β:Type}{l:List (Int × β)}{L:Nat}(hL:L<5)(h:∀X:Nat,X<5->X≠L->Has l X):5<2*(O l):=by
 have hm:∀X:Nat,X<5->X≠L->(X:Int)∈l.map (·.1):=fun X hX hn=>by
  have:=h X hX hn;unfold Has at this
  cases e:Yh l (X:Int) with
  | none=>exact absurd e this
  | some v=>exact mM e
 have:∃a b c:Nat,a<5/\b<5/\c<5/\a≠L/\b≠L/\c≠L/\a≠b/\a≠c/\b≠c:=by
  match L,hL with
  | 0,_=>exact⟨1,2,3,aaa⟩
  | 1,_=>exact⟨0,2,3,aaa⟩
  | 2,_=>exact⟨0,1,3,aaa⟩
  | 3,_=>exact⟨0,1,2,aaa⟩
  | 4,_=>exact⟨0,1,2,aaa⟩
 obtain⟨a,c,d,h1,h2,h3,h4,h5,h6,h7,h8,h9⟩:=this;have:=Oq (l:=[(a:Int),(c:Int),(d:Int)]) (C:=l.map (·.1)) KQ (fun x hx=>by
  simp only[ba,bn,or_false]at hx;rcases hx with rfl|rfl|rfl
  .exact hm a h1 h4
  .exact hm c h2 h5
  .exact hm d h3 h6)
 rw[a7]at this;simp at this;omega
section
variable {C:List Cm} {b:Yw} {L X:Nat} {w:Wd}
theorem jY(h:PW C b L w)(hC:(O C)<=100000)(hb:ZF b)(hX:X<5)(hf:VU (w.Zb X)):∃d:Nd,PN C b L X d/\d.Zs=aa/\XD (w.Zb X) d/\(∀l∈(Yp d).ls,l∈Ro w) /\
  ∃k,(jQ w).Zb X = { (Yp d).n with Zg:=k }:=by
 have hu:=(h.nd X hX).up;have hd:=JY (J8 (C:=C) (b:=b) (L:=L) hX hC hb) (w.Zb X).Zg (w.Zb X) (h.nd X hX) (h.Wp X hX);have hs:=WO hu hf;refine⟨(ZA (w.Zb X) (w.Zb X).Zg).n,hd.1,hf.2,Vo _ _ hf.2,fun l hl=>Vm.2 (.inr ⟨X,hX,by rw[hs];exact U.2 (.inr hl)⟩),?_⟩;rw[QM w X hX hu,hs];exact⟨_,rfl⟩
end
def Ct(w:Nat->Wd):Nat->Nat->Prop
 | _,0=>True
 | 0,_+1=>False
 | t+1,k+1=>Ct w t (k+1)\/(Clear (w t)/\Ct w t k)
def sh{α:Type}(w:Nat->α)(a:Nat):Nat->α:=fun t=>w (a+t)
theorem Ct.zero(w:Nat->Wd)(t:Nat):Ct w t 0:=by cases t<;>exact trivial
theorem Ct.mono{w:Nat->Wd}{k:Nat}(h:Ct w t k):Ct w (t+1) k:=by
 cases k with
 | zero=>exact Ct.zero _ _
 | succ k=>exact .inl h
theorem Ct.less{w:Nat->Wd}:∀{t k:Nat},Ct w t (k+1)->Ct w t k:=by
 intro t
 induction t with
 | zero=>intro k h;exact h.elim
 | succ t ih=>
  intro k h;rcases h with h|⟨_,h⟩
  .exact (ih h).mono
  .exact h.mono
theorem Ct.split{w:Nat->Wd}:∀(t j k:Nat),Ct w t (j+k)->∃a,a<=t/\Ct w a j/\Ct (sh w a) (t-a) k:=by
 intro t
 induction t with
 | zero=>
  intro j k h
  cases k with
  | zero=>exact⟨0,al _,h,Ct.zero _ _⟩
  | succ k=>exact h.elim
 | succ t ih=>
  intro j k h
  cases k with
  | zero=>exact⟨t+1,al _,h,Ct.zero _ _⟩
  | succ k=>
   rcases h with h|⟨hc,h⟩
   .obtain⟨a,h1,h2,h3⟩:=ih j (k+1) h;exact⟨a,nc,h2,by rw[show t+1-a=t-a+1 by omega];exact h3.mono⟩
   .obtain⟨a,h1,h2,h3⟩:=ih j k h;refine⟨a,nc,h2,?_⟩;rw[show t+1-a=t-a+1 by omega];refine .inr ⟨?_,h3⟩;show Clear (w (a+(t-a)));rw[show a+(t-a)=t by omega];exact hc
structure Yk(S:Cm->Prop)(C:List Cm)(b:Yw)(L T:Nat)(w:Nat->Wd)(g:Nat->Gh)(M:Nat->Nat->Yw):Prop where
 hC:(O C)<=100000
 hb:ZF b
 hL:L<5
 hn:b.n=L
 nx:∀t,w (t+1)=jQ (w t)
 pw:PW C b L (w 0)
 nf:∀t,t<=T->∀X,X<5->¬Full ((w t).Zb X)
 ti:∀t,t<=T->TI S (g t) (M t) (w t)
 mv:∀t,t<T->∀j b s x,(g t).V j b s x->(g (t+1)).V j b s x
 hS:∀x,S x->x.err=0
section
variable {S:Cm->Prop} {C:List Cm} {b:Yw} {L T:Nat} {w:Nat->Wd} {g:Nat->Gh} {M:Nat->Nat->Yw}
theorem Yk.at(tr:Yk S C b L T w g M):∀t,PW C b L (w t):=by
 intro t
 induction t with
 | zero=>exact tr.pw
 | succ t ih=>rw[tr.nx];exact Zax ih tr.hC tr.hb
theorem Yk.sh(tr:Yk S C b L T w g M){a:Nat}(ha:a<=T):Yk S C b L (T-a) (sh w a) (Go.Proofs.YthlfaofofaphfaaGreatDoor.sh g a) (Go.Proofs.YthlfaofofaphfaaGreatDoor.sh M a):=
 ⟨tr.hC,tr.hb,tr.hL,tr.hn,fun t=>tr.nx (a+t),tr.at a,fun t ht=>tr.nf (a+t) nc,fun t ht=>tr.ti (a+t) nc,fun t ht=>tr.mv (a+t) nc,tr.hS⟩
theorem Yk.Wk(tr:Yk S C b L T w g M){Z Z':Nat->Prop}{k:Nat}(hZ:∀t,t<=T->Ct w t k->Z t)(st:∀t,t<T->Z' t->Z' (t+1))(go:∀t,t<T->Clear (w t)->Z t->Z' (t+1)):∀t,t<=T->Ct w t (k+1)->Z' t:=by
 intro t
 induction t with
 | zero=>intro _ h;exact h.elim
 | succ t ih=>
  intro ht h;rcases h with h|⟨hc,h⟩
  .exact st t nc (ih nc h)
  .exact go t nc hc (hZ t nc h)
theorem Yk.stays(tr:Yk S C b L T w g M){Z:Nat->Prop}(st:∀t,t<T->Z t->Z (t+1)){a:Nat}(h:Z a):∀t,a<=t->t<=T->Z t:=by
 intro t
 induction t with
 | zero=>intro h1 _;rw[show (0:Nat)=a by omega];exact h
 | succ t ih=>
  intro h1 h2;by_cases e:a=t+1
  .rw[<-e];exact h
  .exact st t nc (ih nc nc)
theorem Yk.Wl(tr:Yk S C b L T w g M)(hX:X<5){A G:YF->Prop}{E F:Nd->Prop}(H:Mm (PN C b L X) (PJ C b) A G E F)(hs:Src A E F ((w t).Zb X)):
  (Src A E F ((w (t+1)).Zb X)\/∃m∈Ro (w t),G m)/\(VU ((w t).Zb X)->E ((w (t+1)).Zb X)\/∃m∈Ro (w t),G m):=by
 rw[tr.nx];exact Zay (tr.at t) tr.hC tr.hb hX H hs
theorem Yk.comes(tr:Yk S C b L T w g M){Y:Nat}(hY:Y<5){A:YF->Prop}{E F:Nd->Prop}(h:∃m∈Ro (w t),A m)(ht:∀m,A m->m.to=Y):Src A E F ((w (t+1)).Zb Y):=by
 rw[tr.nx];exact jU hY ((tr.at t).nd Y hY).up h (fun m q=>by have:=ht m q;omega)
theorem Yk.free(tr:Yk S C b L T w g M)(hX:X<5)(hf:VU ((w t).Zb X)):∃d:Nd,PN C b L X d/\d.Zs=aa/\XD ((w t).Zb X) d/\(∀l∈(Yp d).ls,l∈Ro (w t)) /\
  ∃k,(w (t+1)).Zb X = { (Yp d).n with Zg:=k }:=by
 rw[tr.nx];exact jY (tr.at t) tr.hC tr.hb hX hf
def ZhJ(b:Yw)(n:Nd):Prop:=Src (fun _=>False) (fun n=>n.Zq.p=b\/Full n) (fun n=>∃p,n.Zs=B p/\(WM p).p=b) n
theorem D8:Mm (PN C b L X) (PJ C b) (fun _=>False) (fun _=>False) (fun n=>n.Zq.p=b\/Full n) (fun n=>∃p,n.Zs=B p/\(WM p).p=b):=
 dz fun n l _ _ _ h=>h.elim
theorem Yk.ZhK(tr:Yk S C b L T w g M)(hX:X<5)(h:ZhJ b ((w t).Zb X)):ZhJ b ((w (t+1)).Zb X):=by
 rcases (tr.Wl hX D8 h).1 with q|⟨_,_,q⟩
 .exact q
 .exact q.elim
theorem Yk.Ox(tr:Yk S C b L T w g M)(hX:X<5)(h:((w t).Zb X).Zq.p=b)(ht:t<T):((w (t+1)).Zb X).Zq.p=b:=by
 rcases (tr.Wl hX D8 (.inl (.inl h))).1 with (q|⟨p,q,e⟩|⟨_,_,q⟩)|⟨_,_,q⟩
 .rcases q with q|q
  .exact q
  .exact absurd q (tr.nf (t+1) nc X hX)
 ·-- ZvJ is ZmD ZID not go back
  have hs:=LN (tr.at t) tr.hC tr.hb hX;have e2:((w (t+1)).Zb X).Zq=(step ((w t).Zb X)).n.Zq:=by
   rw[tr.nx,QM _ X hX ((tr.at t).nd X hX).up]
  have:(step ((w t).Zb X)).n.Zq.p=b:=by
   have W:=(J8 (C:=C) (b:=b) (L:=L) (X:=X) hX tr.hC tr.hb).and (E:=fun n=>n.Zq.p=b) (fun n k h=>h) (fun n l h _ _ q=>Rp.1 n l h q) (fun n h hp q=>Rp.2.1 n h hp q) (fun n p h hp q=>Rp.2.2 n p h hp q);exact (V3 W ((tr.at t).nd X hX).up ⟨(tr.at t).nd X hX,h⟩ ((tr.at t).Wp X hX)).1.2
  rw[e2];exact this
 .exact q.elim
 .exact q.elim
theorem Yk.ZmE(tr:Yk S C b L T w g M):∀t,t<=T->Ct w t 1->ZhJ b ((w t).Zb L):=by
 refine tr.Wk (Z:=fun _=>True) (k:=0) (fun _ _ _=>trivial) (fun t _ h=>tr.ZhK tr.hL h) (fun t ht hc _=>?_);obtain⟨d,hd,hp,_,_,k,e⟩:=tr.free tr.hL (hc L tr.hL);rw[e];by_cases q:d.Zq.p=b
 .exact .inl (.inl (Rp.2.1 d hd hp q))
 .rcases ZaA hd hp q with q|q
  .exact .inl (.inr (q.mT (YY hp hd.Yr).1))
  .exact .inr (.inl q)
def ZaC(b:Yw)(n:Nd):Prop:=Src (fun l=>l.Z7=0/\l.b=b) (fun n=>n.Zq.p=b\/Full n) (fun n=>∃p,n.Zs=B p/\(WM p).p=b) n
def dC(b:Yw)(L X:Nat)(w:Wd):Prop:=
 Src (fun l=>l.Z7=0/\l.b=b/\l.Jq=L) Full (fun n=>∃a vs,n.Zs=B (.VB a L b vs)) (w.Zb X) \/
 Src (fun m=>m.Z7=1/\m.b=b/\m.Jq=X/\m.to=L) (Mn fun r=>Has r.ZI X) (fun _=>False) (w.Zb L)
theorem Yk.jZ(tr:Yk S C b L T w g M)(hX:X<5)(h:ZaC b ((w t).Zb X)):ZaC b ((w (t+1)).Zb X):=by
 rcases (tr.Wl hX (IV (G:=fun _=>False) tr.hb) h).1 with q|⟨_,_,q⟩
 .exact q
 .exact q.elim
theorem Yk.BM(tr:Yk S C b L T w g M)(hX:X<5)(h:dC b L X (w t)):dC b L X (w (t+1)):=by
 rcases h with h|h
 .rcases (tr.Wl hX (dx tr.hb) h).1 with q|q
  .exact .inl q
  .exact .inr (tr.comes tr.hL q fun m h=>h.2.2.2)
 .rcases (tr.Wl tr.hL (KH (X:=X) (G:=fun _=>False)) h).1 with q|⟨_,_,q⟩
  .exact .inr q
  .exact q.elim
def UJ(b:Yw)(l:YF):Prop:=(l.Z7=0->l.b≠b)/\(l.Z7=2->l.v.b≠b)
def UN(b:Yw)(n:Nd):Prop:=n.Zq.p≠b/\∀p,n.Zs=B p->(WM p).p≠b
structure Un(b:Yw)(L:Nat)(w:Wd):Prop where
 nd:∀X,X<5->X≠L->UN b (w.Zb X)
 Wp:∀X,X<5->∀l∈(w.Zb X).Zg,UJ b l
 Nw:∀l∈w.Zp,UJ b l
theorem dE{a c:Yw}(h:ZL a c):a≠c:=fun e=>Qu c (by rw[e]at h;exact h)
theorem Zd1(hX:X<5)(VG:X≠L)(hC:(O C)<=100000)(hb:ZF b):Laws (fun n=>PN C b L X n/\UN b n) (fun l=>PJ C b l/\UJ b l) (fun l=>PJ C b l/\UJ b l):=by
 have W:=J8 (C:=C) (b:=b) (L:=L) (X:=X) hX hC hb;refine⟨fun n k h=>⟨W.box n k h.1,h.2⟩,fun n l h hp hl=>?_,fun n h hp=>?_,fun n p h hp=>?_⟩
 .obtain⟨h1,h2⟩:=W.mS n l h.1 hp hl.1;obtain⟨hk,hc⟩:=XR n l;refine⟨⟨h1,?_⟩,fun m hm=>⟨h2 m hm,fun e=>absurd e (hk m hm).1,fun e=>absurd e (hk m hm).2⟩⟩;rcases hc with k|⟨c1,_,_,_,e⟩|⟨c1,_,_,_,e⟩
  .exact⟨by rw[k.Zq];exact h.2.1,fun p q=>h.2.2 p (by rw[<-k.Zs];exact q)⟩
  .rw[e];refine⟨h.2.1,fun p q=>?_⟩;obtain rfl:=Option.some.inj q;exact hl.2.1 c1
  .rw[e];refine⟨h.2.1,fun p q=>?_⟩;obtain rfl:=Option.some.inj q;exact hl.2.2 c1
 .obtain⟨h1,h2⟩:=W.mT n h.1 hp;obtain⟨D,hA⟩:=YY hp h.1.Yr;have Y4:∀r,n.Zh=B r->r.b≠b:=fun r hr=>dE (h.1.SG VG r hr);refine⟨⟨h1,by rw[D.Zq];exact h.2.1,fun p q=>?_⟩,fun m hm=>⟨h2 m hm,fun e=>?_,fun e=>?_⟩⟩
  .rcases D.Zs with⟨e,_⟩|⟨r,hr,c1,_,_,e⟩
   .rw[e]at q;cases q
   .rw[e]at q;obtain rfl:=Option.some.inj q;show (if YG n.Zq.p n.Zq.l r.b=0 then (⟨r.b,n.Zq.l⟩:UC) else JE).p≠b;rw[if_pos (h.1.pr0 (h.1.may r hr) (LF c1))];exact Y4 r hr
  .obtain⟨r,hr,_,_,e2,_⟩:=hA m hm (.inl e);rw[e2 e];exact Y4 r hr
  .obtain⟨r,hr,_,_,_,e2,_⟩:=hA m hm (.inr e);rw[e2 e];exact Y4 r hr
 .obtain⟨h1,h2⟩:=W.fin n p h.1 hp;refine⟨⟨h1,by rw[O1 h.1 hp];exact h.2.2 p hp,fun q hq=>?_⟩,fun m hm=>⟨h2 m hm,fun e=>?_,fun e=>?_⟩⟩
  .have:(YK (ZO n) p).n.Zs=aa:=by cases p<;>rfl
   rw[this]at hq;cases hq
  .cases p with
   | VB a to b' vs=>rw[o.1 hm]at e;cases e
   | TC a to v=>rw[o.1 hm]at e;cases e
   | Zq a vs cur=>cases hm
  .cases p with
   | VB a to b' vs=>rw[o.1 hm]at e;cases e
   | TC a to v=>rw[o.1 hm]at e;cases e
   | Zq a vs cur=>cases hm
end
theorem IX(n:Nd)(s:Int)(x:Cm):(Jg n s x).n.Zh=n.Zh:=by
 have:∀(k:Nat) (n:Nd),(Yg k n).1.Zh=n.Zh:=by
  intro k
  induction k with
  | zero=>intro n;rfl
  | succ k ih=>
   intro n;unfold Yg;split
   .rfl
   .exact ih _
 exact this _ _
theorem RW(n:Nd)(l:YF):(Zw n l).n.Zh=n.Zh\/∃r,n.Zh=B r /\
  ((l.Z7=1/\l.b=r.b/\(Zw n l).n.Zh=B { r with ZI:=ins r.ZI l.Jq l.vs }) \/
   (l.Z7=3/\l.v.b=r.b/\(Zw n l).n.Zh=B { r with Y5:=ins r.Y5 l.v.Zu (Q2 r l) })):=by
 have hn:(Xs n l).Zh=n.Zh:=by unfold Xs;split<;>rfl
 unfold Zw;split
 .unfold YB
  repeat' split
  all_goals exact .inl rfl
 split
 .rename_i hk;unfold Yl
  cases hr:n.Zh with
  | none=>exact .inl hr
  | some r=>
   simp only;split
   .rename_i k1;split
    .rename_i q;exact .inr ⟨r,rfl,.inl ⟨k1,q,rfl⟩⟩
    .exact .inl hr
   .rename_i k1;have k3:l.Z7=3:=by
     rcases hk with hk|hk
     .exact absurd hk k1
     .exact hk
    split
    .exact .inl hr
    .rename_i q;have q:l.v.b=r.b:=by simpa using q
     split
     .exact .inr ⟨r,rfl,.inr ⟨k3,q,by rw[IX];rfl⟩⟩
     .exact .inr ⟨r,rfl,.inr ⟨k3,q,rfl⟩⟩
 split
 .unfold asked
  repeat' split
  all_goals exact .inl rfl
 split
 .unfold add;split<;>exact .inl rfl
 split
 .unfold Qp;split<;>exact .inl hn
 split
 .exact .inl (IX _ _ _)
 .exact .inl hn
theorem dF:∀(k:List YF) (n:Nd),∀m∈(ZA n k).ls,m.Z7≠0/\m.Z7≠2:=by
 intro k
 induction k with
 | nil=>intro n m hm;unfold ZA at hm;cases hm
 | cons l k ih=>
  intro n m hm;unfold ZA at hm;split at hm
  .cases hm
  .rcases U.1 hm with hm|hm
   .exact (XR _ l).1 m hm
   .exact ih _ m hm
theorem KM(n:Nd)(p:LV):∀m∈(YK n p).ls,m.Z7≠0/\m.Z7≠2:=fun m hm=>by
 cases p with
 | VB a to b' vs=>rw[o.1 hm];exact⟨(by decide:(1:Int)≠0),(by decide:(1:Int)≠2)⟩
 | TC a to v=>rw[o.1 hm];exact⟨(by decide:(3:Int)≠0),(by decide:(3:Int)≠2)⟩
 | Zq a vs cur=>cases hm
theorem j1{C:List Cm}{b:Yw}{L:Nat}(h:PN C b L L n)(hd:VU n->PN C b L L (ZA n n.Zg).n)(hq:¬(VU n/\n.Zq.p=b)):∀m∈(step n).ls,UJ b m:=fun m hm=>by
 have ok:m.Z7≠0/\m.Z7≠2->UJ b m:=fun q=>⟨fun e=>absurd e q.1,fun e=>absurd e q.2⟩
 cases hp:n.Zs with
 | some p=>
  have e:step n=YK (ZO n) p:=by unfold step;rw[if_pos h.up,hp]
  rw[e]at hm;exact ok (KM _ p m hm)
 | none=>
  by_cases hf:VU n
  .rw[WO h.up hf]at hm;rcases U.1 hm with hm|hm
   .exact ok (dF _ _ m hm)
   .have D:=hd hf;have K:=Vo _ _ hf.2;have hA:=(YY hf.2 D.Yr).2 m hm;have ku:¬(m.Z7=0\/m.Z7=2):=fun e=>by
     obtain⟨r,hr,c1,c2,_⟩:=hA e;obtain⟨r',UZ,e2⟩:=D.Z4 rfl;rw[hr]at UZ;obtain rfl:=Option.some.inj UZ;refine hq ⟨hf,?_⟩;rw[<-K.Zq,<-e2];exact RU c2 c1
    exact ok ⟨fun e=>ku (.inl e),fun e=>ku (.inr e)⟩
  .have e:step n=ZA n n.Zg:=by
    unfold step;rw[if_pos h.up,hp];simp only;rw[if_pos]
    cases q:(ZA n n.Zg).n.Zs with
    | none=>exact absurd ⟨hp,q⟩ hf
    | some p=>rfl
   rw[e]at hm;exact ok (dF _ _ m hm)
def NP(L:Nat)(n:Nd):Prop:=∀r,n.Zh=B r->∀X:Nat,X<5->X≠L->¬Has r.ZI X
theorem BN{β:Type}{l:List (Int × β)}{k j:Int}{v:β}(h:Has (ins l k v) j):j=k\/Has l j:=by
 unfold Has at h;rw[Xf]at h;by_cases e:k=j
 .exact .inl e.symm
 .rw[if_neg e]at h;exact .inr h
section
variable {S:Cm->Prop} {C:List Cm} {b:Yw} {L T:Nat} {w:Nat->Wd} {g:Nat->Gh} {M:Nat->Nat->Yw}
theorem Zd2(hL:L<5)(hC:(O C)<=100000)(hb:ZF b):Laws (fun n=>PN C b L L n/\NP L n) (fun l=>PJ C b l/\(l.Z7=1->l.b=b->l.Jq=L)) (PJ C b):=by
 have W:=J8 (C:=C) (b:=b) (L:=L) (X:=L) hL hC hb;refine⟨fun n k h=>⟨W.box n k h.1,h.2⟩,fun n l h hp hl=>?_,fun n h hp=>?_,fun n p h hp=>?_⟩
 .obtain⟨h1,h2⟩:=W.mS n l h.1 hp hl.1;refine⟨⟨h1,fun r' UZ X hX VG hH=>?_⟩,h2⟩;rcases RW n l with e|⟨r,hr,⟨k1,k2,e⟩|⟨_,_,e⟩⟩
  .rw[e]at UZ;exact h.2 r' UZ X hX VG hH
  .rw[e]at UZ;obtain rfl:=Option.some.inj UZ;rcases BN hH with q|q
   .obtain⟨r0,h3,h4⟩:=h.1.Z4 rfl;rw[hr]at h3;obtain rfl:=Option.some.inj h3;have:=hl.2 k1 (by rw[k2,h4]);omega
   .exact h.2 r hr X hX VG q
  .rw[e]at UZ;obtain rfl:=Option.some.inj UZ;exact h.2 r hr X hX VG hH
 .obtain⟨h1,h2⟩:=W.mT n h.1 hp;refine⟨⟨h1,fun r' UZ X hX VG hH=>?_⟩,h2⟩;rcases (YY hp h.1.Yr).1.SG with⟨_,e⟩|⟨_,_,_,e⟩|⟨r,r2,hr,_,e,_,_,_,k⟩
  .rw[e]at UZ;cases UZ
  .rw[e]at UZ;cases UZ
  .rw[e]at UZ;obtain rfl:=Option.some.inj UZ;rw[k]at hH;exact h.2 r hr X hX VG hH
 .obtain⟨h1,h2⟩:=W.fin n p h.1 hp;refine⟨⟨h1,fun r' UZ X hX VG hH=>?_⟩,h2⟩
  cases p with
  | VB a to b' vs=>exact h.2 r' UZ X hX VG hH
  | TC a to v=>exact h.2 r' UZ X hX VG hH
  | Zq a vs cur=>
   have UZ:(if cur=true then n.Zh.map (fun r=>{ r with ZI:=ins r.ZI n.me vs }) else n.Zh)=B r':=UZ;split at UZ
   .cases e:n.Zh with
    | none=>rw[e]at UZ;cases UZ
    | some r=>
     rw[e]at UZ;obtain rfl:=Option.some.inj UZ;rcases BN hH with q|q
     .have:=h.1.ni.me;omega
     .exact h.2 r e X hX VG q
   .exact h.2 r' UZ X hX VG hH
theorem Yk.mW(tr:Yk S C b L T w g M)(ht:t<=T)(hX:X<5){vs:List Vt}(h:PF (g t) (M t) X b vs):((w t).Zb X).Zq.p=b:=by
 have N:=(tr.ti t ht).nd X hX;have P:=(tr.at t).nd X hX;have hm:=N.m;rw[JC P.up]at hm;have:=h.Z4;rw[hm]at this;exact RU this P.Zq
theorem Yk.Z0(tr:Yk S C b L T w g M)(ht:t<T)(hu:Un b L (w t))(hf:VU ((w t).Zb L))(ho:((w t).Zb L).Zq.p=b):∀X,X<5->X≠L->ZaC b ((w (t+1)).Zb X)/\dC b L X (w (t+1)):=by
 have hN:=(tr.at t).nd L tr.hL;have TT:=tr.ti t nc;have hnp:NP L ((w t).Zb L):=fun r hr X hX VG hH=>by
  unfold Has at hH
  cases e:Yh r.ZI (X:Int) with
  | none=>exact hH e
  | some vs=>
   have R:=(TT.nd L tr.hL).Zh r hr;obtain⟨r0,h1,h2⟩:=hN.Z4 rfl;rw[hr]at h1;obtain rfl:=Option.some.inj h1;have P:=R.ZI X vs e;rw[h2]at P;exact (hu.nd X hX VG).1 (tr.mW nc hX P)
 have HI:∀l∈((w t).Zb L).Zg,PJ C b l/\(l.Z7=1->l.b=b->l.Jq=L):=fun l hl=>by
  refine⟨(tr.at t).Wp L tr.hL l hl,fun k1 k2=>?_⟩;have P:=(TT.Wp L tr.hL l hl).VB k1;rw[k2]at P;have q:=tr.mW nc P.lt P;have lf:=((tr.at t).Wp L tr.hL l hl).li.Jq;by_cases e:l.Jq.toNat=L
  .omega
  .exact absurd q (hu.nd _ P.lt e).1
 have dl:=JY (Zd2 (C:=C) (b:=b) (L:=L) tr.hL tr.hC tr.hb) ((w t).Zb L).Zg ((w t).Zb L) ⟨hN,hnp⟩ HI;obtain⟨d,hd0⟩:=ZQ ((ZA ((w t).Zb L) ((w t).Zb L).Zg).n);rw[<-hd0]at dl;have hp:d.Zs=aa:=by rw[hd0];exact hf.2
 have K:=Vo _ _ hf.2;rw[<-hd0]at K;obtain⟨hd,mS⟩:=dl.1;have hdo:d.Zq.p=b:=by rw[K.Zq];exact ho
 obtain⟨r,hr,Hd⟩:=hd.Z4 rfl;have hq:¬5<2*r.ZI.length:=by
  have kk:=(hd.ni.Zh r hr).ZI;have:=Oq (l:=r.ZI.map (·.1)) (C:=[(L:Int)]) kk.1 (fun x hx=>by
   have h5:=kk.2 x hx;rw[o];by_cases e:x.toNat=L
   .omega
   .obtain⟨v,hv⟩:=mL hx;have:=mS r hr x.toNat nc e;rw[show ((x.toNat:Nat):Int)=x by omega]at this;exact absurd (by unfold Has;rw[hv];simp) this)
  rw[a7]at this;simp at this;omega
 intro X hX VG;have hl:=sr hd hp hdo hr hq hX (mS r hr X hX VG);have hm:(⟨0,L,X,b,St,[]⟩:YF)∈Ro (w t):=Vm.2 (.inr ⟨L,tr.hL,by
  rw[WO hN.up hf];refine U.2 (.inr ?_);rw[<-hd0];exact hl⟩)
 have hb:(⟨0,L,X,b,St,[]⟩:YF)∈((w (t+1)).Zb X).Zg:=by
  rw[tr.nx];exact (OZ hX ((tr.at t).nd X hX).up).2 (.inr ⟨hm,Hg⟩)
 exact⟨.inr (.inr ⟨_,hb,rfl,rfl⟩),.inl (.inr (.inr ⟨_,hb,rfl,rfl,rfl⟩))⟩
theorem Yk.asked(tr:Yk S C b L T w g M)(h0:Un b L (w 0)):∀t,t<=T->Un b L (w t)\/∀X,X<5->X≠L->ZaC b ((w t).Zb X)/\dC b L X (w t):=by
 intro t
 induction t with
 | zero=>intro _;exact .inl h0
 | succ t ih=>
  intro ht;rcases ih nc with hu|h
  .by_cases hq:VU ((w t).Zb L)/\((w t).Zb L).Zq.p=b
   .exact .inr (tr.Z0 nc hu hq.1 hq.2)
   .have hX:∀X,X<5->X≠L->UN b (step ((w t).Zb X)).n/\∀m∈(step ((w t).Zb X)).ls,UJ b m:=fun X hX VG=>by
     have q:=V3 (Zd1 (C:=C) (b:=b) (L:=L) hX VG tr.hC tr.hb) ((tr.at t).nd X hX).up ⟨(tr.at t).nd X hX,hu.nd X hX VG⟩ (fun l hl=>⟨(tr.at t).Wp X hX l hl,hu.Wp X hX l hl⟩);exact⟨q.1.2,fun m hm=>(q.2.1 m hm).2⟩
    have ej:∀l∈Ro (w t),UJ b l:=fun l hl=>by
     rcases Vm.1 hl with q|⟨i,hi,q⟩
     .exact hu.Nw l q
     .by_cases e:i=L
      .subst e;refine j1 ((tr.at t).nd i hi) (fun hf=>?_) hq l q;exact (JY (J8 (C:=C) (b:=b) (L:=i) hi tr.hC tr.hb) _ _ ((tr.at t).nd i hi) ((tr.at t).Wp i hi)).1
      .exact (hX i hi e).2 l q
    refine .inl ⟨fun X hX5 VG=>?_,fun X hX5 l hl=>?_,fun l hl=>?_⟩
    .rw[tr.nx,QM _ X hX5 ((tr.at t).nd X hX5).up];exact (hX X hX5 VG).1
    .rw[tr.nx]at hl;rcases (OZ hX5 ((tr.at t).nd X hX5).up).1 hl with q|⟨q,_⟩
     .exact hu.Wp X hX5 l ((LN (tr.at t) tr.hC tr.hb hX5).2.2 l q)
     .exact ej l q
    .rw[tr.nx,BJ]at hl;cases hl
  .exact .inr fun X hX VG=>⟨tr.jZ hX (h X hX VG).1,tr.BM hX (h X hX VG).2⟩
theorem Yk.ZmF(tr:Yk S C b L T w g M)(h0:Un b L (w 0)):∀t,t<=T->Ct w t 2->((w t).Zb L).Zq.p=b/\∀X,X<5->X≠L->ZaC b ((w t).Zb X)/\dC b L X (w t):=by
 refine tr.Wk (k:=1) tr.ZmE (fun t ht h=>⟨tr.Ox tr.hL h.1 ht,fun X hX VG=>⟨tr.jZ hX (h.2 X hX VG).1,tr.BM hX (h.2 X hX VG).2⟩⟩) (fun t ht hc h=>?_);have hf:=hc L tr.hL;have ho:((w t).Zb L).Zq.p=b:=by
  rcases h with q|⟨p,q,_⟩|⟨_,_,q⟩
  .rcases q with q|q
   .exact q
   .exact absurd q (tr.nf t nc L tr.hL)
  .rw[hf.1]at q;cases q
  .exact q.elim
 refine⟨tr.Ox tr.hL ho ht,?_⟩;rcases tr.asked h0 t nc with hu|h
 .exact tr.Z0 ht hu hf ho
 .exact fun X hX VG=>⟨tr.jZ hX (h X hX VG).1,tr.BM hX (h X hX VG).2⟩
def ZaD(b:Yw)(L X:Nat)(w:Wd):Prop:=Src (fun m=>m.Z7=1/\m.b=b/\m.Jq=X/\m.to=L) (Mn fun r=>Has r.ZI X) (fun _=>False) (w.Zb L)
theorem Yk.dG(tr:Yk S C b L T w g M)(h:ZaD b L X (w t)):ZaD b L X (w (t+1)):=by
 rcases (tr.Wl tr.hL (KH (X:=X) (G:=fun _=>False)) h).1 with q|⟨_,_,q⟩
 .exact q
 .exact q.elim
theorem Yk.Zfg(tr:Yk S C b L T w g M)(h0:Un b L (w 0)):∀t,t<=T->Ct w t 3->(∀X,X<5->((w t).Zb X).Zq.p=b)/\∀X,X<5->X≠L->ZaD b L X (w t):=by
 refine tr.Wk (k:=2) (tr.ZmF h0) (fun t ht h=>⟨fun X hX=>tr.Ox hX (h.1 X hX) ht,fun X hX VG=>tr.dG (h.2 X hX VG)⟩) (fun t ht hc h=>⟨fun X hX=>?_,fun X hX VG=>?_⟩)
 .by_cases e:X=L
  .rw[e];exact tr.Ox tr.hL h.1 ht
  .rcases (tr.Wl hX (IV (G:=fun _=>False) tr.hb) (h.2 X hX e).1).2 (hc X hX) with q|⟨_,_,q⟩
   .rcases q with q|q
    .exact q
    .exact absurd q (tr.nf (t+1) nc X hX)
   .exact q.elim
 .rcases (h.2 X hX VG).2 with q|q
  .rcases (tr.Wl hX (dx tr.hb) q).2 (hc X hX) with q|q
   .exact absurd q (tr.nf (t+1) nc X hX)
   .exact tr.comes tr.hL q fun m h=>h.2.2.2
  .exact tr.dG q
theorem Yk.KN(tr:Yk S C b L T w g M){Q:Xw->Prop}(hQ:∀r r',XQ r r'->Q r->Q r')(h:Mn Q ((w t).Zb L)):Mn Q ((w (t+1)).Zb L):=by
 rcases (tr.Wl tr.hL (FW (A:=fun _=>False) (G:=fun _=>False) hQ (fun n l _ _ _ h=>h.elim)) (.inl h)).1 with (q|q|⟨_,_,q⟩)|⟨_,_,q⟩
 .exact q
 .exact q.elim
 .exact q.elim
 .exact q.elim
theorem Yk.ZmG(tr:Yk S C b L T w g M)(h0:Un b L (w 0)):∀t,t<=T->Ct w t 4->(∀X,X<5->((w t).Zb X).Zq.p=b)/\∀X:Nat,X<5->X≠L->Mn (fun r=>Has r.ZI X) ((w t).Zb L):=by
 refine tr.Wk (k:=3) (tr.Zfg h0) (fun t ht h=>⟨fun X hX=>tr.Ox hX (h.1 X hX) ht,fun X hX VG=>tr.KN (fun r r' k q=>k.ZI _ q) (h.2 X hX VG)⟩) (fun t ht hc h=>⟨fun X hX=>tr.Ox hX (h.1 X hX) ht,fun X hX VG=>?_⟩);rcases (tr.Wl tr.hL (KH (X:=X) (G:=fun _=>False)) (h.2 X hX VG)).2 (hc L tr.hL) with q|⟨_,_,q⟩
 .exact q
 .exact q.elim
end
def D9(b:Yw)(L:Nat)(u:Int)(y:Cm)(X:Nat)(w:Wd):Prop:=
 Has (w.Zb L).Zi u\/Src (fun l=>l.Z7=2/\l.v=QB u b y/\l.Jq=L) Full (fun n=>∃a,n.Zs=B (.TC a L (QB u b y))) (w.Zb X) \/
 Src (fun m=>m.Z7=3/\m.v=QB u b y/\m.Jq=X/\m.to=L) (Mn fun r=>mU r u X) (fun _=>False) (w.Zb L)
def ZhL(b:Yw)(L:Nat)(u:Int)(y:Cm)(X:Nat)(w:Wd):Prop:=
 Src (fun m=>m.Z7=3/\m.v=QB u b y/\m.Jq=X/\m.to=L) (Mn fun r=>mU r u X) (fun _=>False) (w.Zb L)
def ZhM(x:Cm)(L:Nat)(n:Nd):Prop:=Src (fun m=>m.Z7=4/\m.v.cm=x/\m.to=L) (SD x) (fun _=>False) n
def Nx(x:Cm)(w:Wd):Prop:=∃X,X<5/\x∈(w.Zb X).ZB
def sI(L:Nat)(u:Nat)(w:Wd):Prop:=Mn (fun r=>Has r.ZW u) (w.Zb L)\/Has (w.Zb L).Zi u
theorem j2:∀(k:List YF) (n:Nd) (r':Xw),(ZA n k).n.Zh=B r'->∃r,n.Zh=B r/\r'.ZW=r.ZW:=by
 intro k
 induction k with
 | nil=>intro n r' h;unfold ZA at h;exact⟨r',h,rfl⟩
 | cons l k ih=>
  intro n r' h;unfold ZA at h;split at h
  .exact⟨r',h,rfl⟩
  .obtain⟨r1,h1,h2⟩:=ih _ r' h;rcases RW { n with Zg:=k } l with e|⟨r,hr,⟨_,_,e⟩|⟨_,_,e⟩⟩
   .rw[e]at h1;exact⟨r1,h1,h2⟩
   .rw[e]at h1;obtain rfl:=Option.some.inj h1;exact⟨r,hr,h2⟩
   .rw[e]at h1;obtain rfl:=Option.some.inj h1;exact⟨r,hr,h2⟩
theorem Ca(hu:n.up=true)(hf:¬VU n){r':Xw}(h:(step n).n.Zh=B r'):∃r,n.Zh=B r/\r'.ZW=r.ZW:=by
 cases hp:n.Zs with
 | some p=>
  have e:step n=YK (ZO n) p:=by unfold step;rw[if_pos hu,hp]
  rw[e]at h
  cases p with
  | VB a to b' vs=>exact⟨r',h,rfl⟩
  | TC a to v=>exact⟨r',h,rfl⟩
  | Zq a vs cur=>
   have h:(if cur=true then n.Zh.map (fun r=>{ r with ZI:=ins r.ZI n.me vs }) else n.Zh)=B r':=h;split at h
   .cases e:n.Zh with
    | none=>rw[e]at h;cases h
    | some r=>
     rw[e]at h;obtain rfl:=Option.some.inj h;exact⟨r,rfl,rfl⟩
   .exact⟨r',h,rfl⟩
 | none=>
  have e:step n=ZA n n.Zg:=by
   unfold step;rw[if_pos hu,hp];simp only;rw[if_pos]
   cases q:(ZA n n.Zg).n.Zs with
   | none=>exact absurd ⟨hp,q⟩ hf
   | some p=>rfl
  rw[e]at h;exact j2 _ _ r' h
section
variable {S:Cm->Prop} {C:List Cm} {b:Yw} {L T:Nat} {w:Nat->Wd} {g:Nat->Gh} {M:Nat->Nat->Yw}
theorem Yk.Zfh(tr:Yk S C b L T w g M){E:Nd->Prop}(e1:∀n k,E n->E { n with Zg:=k })(hX:X<5)(e2:∀n l,PN C b L X n->E n->E (Zw n l).n)(e3:∀n,PN C b L X n->n.Zs=aa->E n->E (Yp n).n)(e4:∀n p,PN C b L X n->n.Zs=B p->E n->E (YK (ZO n) p).n)(h:E ((w t).Zb X)):E ((w (t+1)).Zb X):=by
 have W:=(J8 (C:=C) (b:=b) (L:=L) (X:=X) hX tr.hC tr.hb).and (E:=E) e1 (fun n l h _ _ q=>e2 n l h q) e3 e4;have:=(V3 W ((tr.at t).nd X hX).up ⟨(tr.at t).nd X hX,h⟩ ((tr.at t).Wp X hX)).1.2;rw[tr.nx,QM _ X hX ((tr.at t).nd X hX).up];exact e1 _ _ this
theorem Yk.Wm(tr:Yk S C b L T w g M)(hX:X<5){j:Int}(h:Has ((w t).Zb X).Zi j):Has ((w (t+1)).Zb X).Zi j:=
 tr.Zfh (E:=fun n=>Has n.Zi j) (fun n k h=>h) hX (fun n l _ h=>KJ h l) (fun n hn hp h=>KK h hp hn) (fun n p _ _ h=>KL h p) h
theorem Yk.BO(tr:Yk S C b L T w g M)(hX:X<5)(h:SD x ((w t).Zb X)):SD x ((w (t+1)).Zb X):=
 tr.Zfh (E:=SD x) (fun n k h=>h) hX (fun n l _ h=>h.go (VV n l)) (fun n hn hp h=>h.mT (YY hp hn.Yr).1) (fun n p _ _ h=>h.go (VW n p)) h
theorem Yk.ZaE(tr:Yk S C b L T w g M)(hX:X<5):∃e,((w (t+1)).Zb X).ZB=((w t).Zb X).ZB++e:=by
 rw[tr.nx,QM _ X hX ((tr.at t).nd X hX).up];exact (KF ((w t).Zb X)).2.2
theorem Yk.Rs(tr:Yk S C b L T w g M)(h:Nx x (w t)):Nx x (w (t+1)):=by
 obtain⟨X,hX,h⟩:=h;obtain⟨e,he⟩:=tr.ZaE (t:=t) hX;exact⟨X,hX,by rw[he];exact U.2 (.inl h)⟩
theorem Yk.ZhN(tr:Yk S C b L T w g M)(h:ZhM x L ((w t).Zb L)):ZhM x L ((w (t+1)).Zb L):=by
 rcases (tr.Wl tr.hL (dy (x:=x) (G:=fun _=>False)) h).1 with q|⟨_,_,q⟩
 .exact q
 .exact q.elim
theorem Yk.ZvL(tr:Yk S C b L T w g M)(h0:Un b L (w 0)){X0:Nat}(j3:X0<5)(hx:SD x ((w 0).Zb X0)):∀t,t<=T->Ct w t 4->Nx x (w t)\/ZhM x L ((w t).Zb L):=by
 have ha:∀t,t<=T->SD x ((w t).Zb X0):=fun t ht=>tr.stays (Z:=fun t=>SD x ((w t).Zb X0)) (fun t _ h=>tr.BO j3 h) hx t (aw _) ht;refine tr.Wk (k:=3) (tr.Zfg h0) (fun t ht h=>?_) (fun t ht hc h=>?_)
 .rcases h with h|h
  .exact .inl (tr.Rs h)
  .exact .inr (tr.ZhN h)
 .by_cases e:X0=L
  .subst e;exact .inr (.inl (tr.BO j3 (ha t nc)))
  .obtain⟨d,hd,hp,K,hl,k,hk⟩:=tr.free j3 (hc X0 j3);rcases (ha t nc).go K.go with q|q
   .have:=jW hd e hp (by rw[K.Zq];exact h.1 X0 j3) tr.hb tr.hn q;exact .inr (tr.comes tr.hL ⟨_,hl _ this,rfl,rfl,rfl⟩ fun m h=>h.2.2)
   .refine .inl ⟨X0,j3,?_⟩;rw[hk];show x∈(Yp d).n.ZB;rw[(YY hp hd.Yr).1.ZB];exact q
theorem Yk.ZvM(tr:Yk S C b L T w g M)(h0:Un b L (w 0)){X0:Nat}(j3:X0<5)(hx:SD x ((w 0).Zb X0)):∀t,t<=T->Ct w t 5->Nx x (w t)\/SD x ((w t).Zb L):=by
 refine tr.Wk (k:=4) (tr.ZvL h0 j3 hx) (fun t ht h=>?_) (fun t ht hc h=>?_)
 .rcases h with h|h
  .exact .inl (tr.Rs h)
  .exact .inr (tr.BO tr.hL h)
 .rcases h with h|h
  .exact .inl (tr.Rs h)
  .rcases (tr.Wl tr.hL (dy (x:=x) (G:=fun _=>False)) h).2 (hc L tr.hL) with q|⟨_,_,q⟩
   .exact .inr q
   .exact q.elim
theorem Yk.ZaF(tr:Yk S C b L T w g M)(ht:t<=T){s:Int}(h:Mn (fun r=>Yh r.ZW s=B x) ((w t).Zb L)):(g t).P b s x:=by
 obtain⟨r,hr,hp⟩:=h;have R:=((tr.ti t ht).nd L tr.hL).Zh r hr;obtain⟨r0,h1,h2⟩:=((tr.at t).nd L tr.hL).Z4 rfl;rw[hr]at h1;obtain rfl:=Option.some.inj h1;have:=R.safe s x hp;rw[h2]at this;exact this
theorem Yk.dH(tr:Yk S C b L T w g M)(ht:t<=T){s:Nat}(hs:s<40)(h:Mn (fun r=>Yh r.ZW s=B x) ((w t).Zb L)):Ym (QB s b x):=by
 have hx:x.err=0:=by
  rcases (tr.ti t ht).gi.cmd _ _ _ (tr.ZaF ht h) with rfl|q
  .rfl
  .exact tr.hS x q
 exact⟨⟨by show (0:Int)<=(s:Int);omega,by show (s:Int)<=39;omega⟩,tr.hb,hx⟩
theorem Yk.ZaG(tr:Yk S C b L T w g M)(ht:t<=T){s:Int}{y:Cm}(h:Mn (fun r=>Yh r.ZW s=B x) ((w t).Zb L))(hc:Jk (g t) s y):x=y:=by
 have hP:=tr.ZaF ht h;have G:=(tr.ti t ht).gi;obtain⟨Q,b',hQ,hv⟩:=hc;obtain⟨i,hi,_⟩:=hQ.meet hQ;have Kj:=hQ.2.1 i hi;have DO:=hv i hi;have Lh:=G.Z4 _ _ _ _ DO;have N:=(tr.ti t ht).nd i Kj;have P:=(tr.at t).nd i Kj;have hm:=N.m;rw[JC P.up]at hm;rw[hm]at Lh;by_cases e:b'=b
 .subst e;exact G.one _ _ _ _ hP (G.vp _ _ _ _ DO)
 .have ZU:ZL b' b:=by
   by_cases q:ZL b' b
   .exact q
   .have:¬ZL b b':=X4 Lh P.Zq;exact absurd (RU q this) e
  exact VT G hQ hv _ b x (al _) hP ZU
theorem Yk.mX(tr:Yk S C b L T w g M){u:Nat}{y:Cm}(hv:Ym (QB u b y))(hX:X<5)(h:D9 b L u y X (w t)):D9 b L u y X (w (t+1)):=by
 rcases h with h|h|h
 .exact .inl (tr.Wm tr.hL h)
 .rcases (tr.Wl hX (D6 hv) h).1 with q|q
  .exact .inr (.inl q)
  .exact .inr (.inr (tr.comes tr.hL q fun m h=>h.2.2.2))
 .rcases (tr.Wl tr.hL (FX (X:=X) (s:=(u:Int)) (x:=y) (G:=fun _=>False)) h).1 with q|⟨_,_,q⟩
  .exact .inr (.inr q)
  .exact q.elim
theorem Yk.ZaH(tr:Yk S C b L T w g M){u:Nat}{y:Cm}(h:ZhL b L u y X (w t)):ZhL b L u y X (w (t+1)):=by
 rcases (tr.Wl tr.hL (FX (X:=X) (s:=(u:Int)) (x:=y) (G:=fun _=>False)) h).1 with q|⟨_,_,q⟩
 .exact q
 .exact q.elim
def mY(b:Yw)(L:Nat)(w:Wd):Prop:=∀(u:Nat) y,u<40->Mn (fun r=>Yh r.ZW u=B y) (w.Zb L)->∀X,X<5->D9 b L u y X w
theorem Yk.KO(tr:Yk S C b L T w g M)(ho:((w t).Zb L).Zq.p=b)(hm:∀X:Nat,X<5->X≠L->Mn (fun r=>Has r.ZI X) ((w t).Zb L))(hf:VU ((w t).Zb L)):mY b L (w (t+1)) /\
  ∃d r,PN C b L L d/\XD ((w t).Zb L) d/\((w (t+1)).Zb L).Zh=B (X2 d r)/\((w (t+1)).Zb L).Zi=d.Zi/\((w (t+1)).Zb L).ZB=d.ZB:=by
 obtain⟨d,hd,hp,K,hl,k,hk⟩:=tr.free tr.hL hf;obtain⟨r,hr,_⟩:=hd.Z4 rfl;have hdo:d.Zq.p=b:=by rw[K.Zq];exact ho
 have hq:5<2*r.ZI.length:=sH tr.hL fun X hX VG=>by
  obtain⟨r0,h1,h2⟩:=hm X hX VG;obtain⟨r1,h3,h4⟩:=K.on h1;rw[hr]at h3;obtain rfl:=Option.some.inj h3;exact h4.k.ZI _ h2
 obtain⟨h1,h2⟩:=ZaB hd hp hdo hr hq;have D:=(YY hp hd.Yr).1;have ek:((w (t+1)).Zb L).Zi=d.Zi:=by rw[hk];exact D.Zi
 have er:((w (t+1)).Zb L).Zh=B (X2 d r):=by rw[hk];exact h1
 have el:((w (t+1)).Zb L).ZB=d.ZB:=by rw[hk];exact D.ZB
 refine⟨fun u y hu ⟨r1,e1,e2⟩ X hX=>?_,d,r,hd,K,er,ek,el⟩;rw[er]at e1;obtain rfl:=Option.some.inj e1
 cases q:Yh d.Zi (u:Int) with
 | some z=>exact .inl (by rw[ek];unfold Has;rw[q];simp)
 | none=>
  by_cases v:mU r u X
  .exact .inr (.inr (.inl ⟨_,er,by show mU (X2 d r) u X;unfold mU;rw[(O0 d r).1];exact v⟩))
  .have:=h2 u y X hu e2 q hX v;have hb:(⟨2,L,X,Jj,QB u b y,[]⟩:YF)∈((w (t+1)).Zb X).Zg:=by
    rw[tr.nx];exact (OZ hX ((tr.at t).nd X hX).up).2 (.inr ⟨hl _ this,Hg⟩)
   exact .inr (.inl (.inr (.inr ⟨_,hb,rfl,rfl,rfl⟩)))
theorem Yk.ZaI(tr:Yk S C b L T w g M)(ht:t<=T)(ho:((w t).Zb L).Zq.p=b)(hm:∀X:Nat,X<5->X≠L->Mn (fun r=>Has r.ZI X) ((w t).Zb L))(h:mY b L (w t)):mY b L (w (t+1)):=by
 by_cases hf:VU ((w t).Zb L)
 .exact (tr.KO ho hm hf).1
 .intro u y hu ⟨r',e1,e2⟩ X hX;have hp:=(tr.at t).nd L tr.hL;rw[tr.nx,QM _ L tr.hL hp.up]at e1;obtain⟨r,h1,h2⟩:=Ca hp.up hf (show (step ((w t).Zb L)).n.Zh=B r' from e1);have HI:Mn (fun r=>Yh r.ZW (u:Int)=B y) ((w t).Zb L):=⟨r,h1,by show Yh r.ZW (u:Int)=B y;rw[<-h2];exact e2⟩
  exact tr.mX (tr.dH ht hu HI) hX (h u y hu HI X hX)
theorem Yk.ZaJ(tr:Yk S C b L T w g M)(h0:Un b L (w 0)):∀t,t<=T->Ct w t 5->((∀X,X<5->((w t).Zb X).Zq.p=b)/\∀X:Nat,X<5->X≠L->Mn (fun r=>Has r.ZI X) ((w t).Zb L))/\mY b L (w t):=by
 have up:∀t,t<T->((∀X,X<5->((w t).Zb X).Zq.p=b)/\∀X:Nat,X<5->X≠L->Mn (fun r=>Has r.ZI X) ((w t).Zb L))->((∀X,X<5->((w (t+1)).Zb X).Zq.p=b)/\∀X:Nat,X<5->X≠L->Mn (fun r=>Has r.ZI X) ((w (t+1)).Zb L)):=fun t ht h=>⟨fun X hX=>tr.Ox hX (h.1 X hX) ht,fun X hX VG=>tr.KN (fun r r' k q=>k.ZI _ q) (h.2 X hX VG)⟩
 refine tr.Wk (k:=4) (tr.ZmG h0) (fun t ht h=>⟨up t ht h.1,tr.ZaI nc (h.1.1 L tr.hL) h.1.2 h.2⟩) (fun t ht hc h=>⟨up t ht h,(tr.KO (h.1 L tr.hL) h.2 (hc L tr.hL)).1⟩)
def ZhO(L:Nat)(x:Cm)(g:Gh)(w:Wd):Prop:=Nx x w\/(∃s:Nat,s<40/\(∀u,u<=s->sI L u w)/\(Mn (fun r=>Yh r.ZW s=B x) (w.Zb L)\/Jk g s x))\/∀u,u<40->sI L u w
theorem Yk.ZaK(tr:Yk S C b L T w g M){u:Nat}(h:sI L u (w t)):sI L u (w (t+1)):=by
 rcases h with h|h
 .refine .inl (tr.KN (fun r r' k q=>?_) h);unfold Has at q ⊢
  cases e:Yh r.ZW (u:Int) with
  | none=>exact absurd e q
  | some x=>rw[k.ZW _ _ e];simp
 .exact .inr (tr.Wm tr.hL h)
theorem Yk.Cb(tr:Yk S C b L T w g M)(ht:t<T){s:Int}(h:Jk (g t) s x):Jk (g (t+1)) s x:=by
 obtain⟨Q,b',hQ,hv⟩:=h;exact⟨Q,b',hQ,fun i hi=>tr.mv t ht _ _ _ _ (hv i hi)⟩
theorem Yk.ZhP(tr:Yk S C b L T w g M)(ht:t<T)(h:ZhO L x (g t) (w t)):ZhO L x (g (t+1)) (w (t+1)):=by
 rcases h with h|⟨s,h1,h2,h3⟩|h
 .exact .inl (tr.Rs h)
 .refine .inr (.inl ⟨s,h1,fun u hu=>tr.ZaK (h2 u hu),?_⟩);rcases h3 with h3|h3
  .exact .inl (tr.KN (fun r r' k q=>k.ZW _ _ q) h3)
  .exact .inr (tr.Cb ht h3)
 .exact .inr (.inr fun u hu=>tr.ZaK (h u hu))
theorem Yk.ZvN(tr:Yk S C b L T w g M)(h0:Un b L (w 0)){X0:Nat}(j3:X0<5)(hx:SD x ((w 0).Zb X0)):∀t,t<=T->Ct w t 6->ZhO L x (g t) (w t):=by
 refine tr.Wk (Z:=fun t=>(Nx x (w t)\/SD x ((w t).Zb L))/\((∀X,X<5->((w t).Zb X).Zq.p=b)/\∀X:Nat,X<5->X≠L->Mn (fun r=>Has r.ZI X) ((w t).Zb L))) (k:=5) (fun t ht hc=>⟨tr.ZvM h0 j3 hx t ht hc,(tr.ZaJ h0 t ht hc).1⟩) (fun t ht h=>tr.ZhP ht h) (fun t ht hc ⟨h,h1,h2⟩=>?_);rcases h with h|h
 .exact .inl (tr.Rs h)
 .obtain⟨_,d,r,hd,K,er,ek,el⟩:=tr.KO (h1 L tr.hL) h2 (hc L tr.hL);rcases h.go K.go with q|q
  .have oc:∀u,jX d (X2 d r) u->sI L u (w (t+1)):=fun u q=>by
    rcases q with q|q
    .exact .inl ⟨_,er,q⟩
    .exact .inr (by rw[ek];exact q)
   rcases sE hd r q with⟨s,p1,p2,p3⟩|p
   .refine .inr (.inl ⟨s,p1,fun u hu=>oc u (p2 u hu),?_⟩);rcases p3 with p3|p3
    .exact .inl ⟨_,er,p3⟩
    .exact .inr (((tr.ti (t+1) nc).nd L tr.hL).Zi _ _ (by rw[ek];exact p3))
   .exact .inr (.inr fun u hu=>oc u (p u hu))
  .exact .inl ⟨L,tr.hL,by rw[el];exact q⟩
theorem Yk.ZmH(tr:Yk S C b L T w g M){u:Nat}{y:Cm}(hv:Ym (QB u b y))(h:∀X,X<5->D9 b L u y X (w 0)):∀t,t<=T->Ct w t 2->Has ((w t).Zb L).Zi u:=by
 have z0:∀t,t<=T->Ct w t 0->∀X,X<5->D9 b L u y X (w t):=fun t ht _ X hX=>tr.stays (Z:=fun t=>D9 b L u y X (w t)) (fun t _ h=>tr.mX hv hX h) (h X hX) t (aw _) ht;have z1:∀t,t<=T->Ct w t 1->Has ((w t).Zb L).Zi u\/∀X,X<5->ZhL b L u y X (w t):=by
  refine tr.Wk (k:=0) z0 (fun t ht h=>?_) (fun t ht hc h=>?_)
  .rcases h with h|h
   .exact .inl (tr.Wm tr.hL h)
   .exact .inr fun X hX=>tr.ZaH (h X hX)
  .by_cases q:Has ((w t).Zb L).Zi u
   .exact .inl (tr.Wm tr.hL q)
   .refine .inr fun X hX=>?_;rcases h X hX with e|e|e
    .exact absurd e q
    .rcases (tr.Wl hX (D6 hv) e).2 (hc X hX) with e|e
     .exact absurd e (tr.nf (t+1) nc X hX)
     .exact tr.comes tr.hL e fun m h=>h.2.2.2
    .exact tr.ZaH e
 refine tr.Wk (k:=1) z1 (fun t ht h=>tr.Wm tr.hL h) (fun t ht hc h=>?_);rcases h with h|h
 .exact tr.Wm tr.hL h
 .have hV:∀X:Nat,X<5->Mn (fun r=>mU r u X) ((w (t+1)).Zb L):=fun X hX=>by
   rcases (tr.Wl tr.hL (FX (X:=X) (s:=(u:Int)) (x:=y) (G:=fun _=>False)) (h X hX)).2 (hc L tr.hL) with q|⟨_,_,q⟩
   .exact q
   .exact q.elim
  have hP:=(tr.at (t+1)).nd L tr.hL;obtain⟨r,hr,_⟩:=hP.Z4 rfl;refine hP.vk r hr u (sF fun X hX _=>?_);obtain⟨r0,h1,h2⟩:=hV X hX;rw[hr]at h1;obtain rfl:=Option.some.inj h1;exact h2
theorem PN.BP(h:PN C b L X n){s:Nat}(hk:∀u,u<=s->Has n.Zi (u:Int)):s<n.ZB.length:=by
 by_cases q:n.ZB.length<=s
 .exact absurd h.mV (hk _ q)
 .omega
theorem Yk.done(tr:Yk S C b L T w g M)(h0:Un b L (w 0)){X0:Nat}(j3:X0<5)(hx:SD x ((w 0).Zb X0)):∀t,t<=T->Ct w t 8->Nx x (w t)\/40<=((w t).Zb L).ZB.length:=by
 intro t ht hc;obtain⟨a,ha,Wr,F9⟩:=Ct.split (w:=w) t 6 2 hc;have P:=tr.ZvN h0 j3 hx a nc Wr;have V:=(tr.ZaJ h0 a nc Wr.less).2;have tr2:=tr.sh (a:=a) nc;have ZaL:∀{Z:Nat->Prop},(∀t,t<T->Z t->Z (t+1))->Z a->Z t:=fun st h=>tr.stays st h t ha ht;have occ:∀u,u<40->sI L u (w a)->Has ((w t).Zb L).Zi u:=fun u hu h=>by
  rcases h with⟨r,h1,h2⟩|h
  .unfold Has at h2
   cases e:Yh r.ZW (u:Int) with
   | none=>exact absurd e h2
   | some y=>
    have HI:Mn (fun r=>Yh r.ZW (u:Int)=B y) ((w a).Zb L):=⟨r,h1,e⟩
    have:=tr2.ZmH (u:=u) (y:=y) (tr.dH nc hu HI) (fun X hX=>V u y hu HI X hX) (t-a) nc F9;have e2:Go.Proofs.YthlfaofofaphfaaGreatDoor.sh w a (t-a)=w t:=by show w (a+(t-a))=w t;rw[show a+(t-a)=t by omega]
    rw[e2]at this;exact this
  .exact ZaL (Z:=fun t=>Has ((w t).Zb L).Zi u) (fun t _ h=>tr.Wm tr.hL h) h
 rcases P with h|⟨s,h1,h2,h3⟩|h
 .exact .inl (ZaL (Z:=fun t=>Nx x (w t)) (fun t _ h=>tr.Rs h) h)
 .have hl:=((tr.at t).nd L tr.hL).BP (s:=s) fun u hu=>occ u nc (h2 u hu);refine .inl ⟨L,tr.hL,?_⟩;have hy:((w t).Zb L).ZB[s]? = B ((w t).Zb L).ZB[s]:=a6 hl;have hch:=((tr.ti t ht).nd L tr.hL).ZB s _ hy;have:x=((w t).Zb L).ZB[s]:=by
   rcases h3 with h3|h3
   .exact tr.ZaG ht (ZaL (Z:=fun t=>Mn (fun r=>Yh r.ZW (s:Int)=B x) ((w t).Zb L)) (fun t _ h=>tr.KN (fun r r' k q=>k.ZW _ _ q) h) h3) hch
   .exact Jk.one (tr.ti t ht).gi (ZaL (Z:=fun t=>Jk (g t) s x) (fun t ht h=>tr.Cb ht h) h3) hch
  rw[this];exact bo hl
 .refine .inr ?_;have:=((tr.at t).nd L tr.hL).BP (s:=39) fun u hu=>occ u nc (h u nc);omega
end
def CP(b:Yw)(Pb:Int->Cm->Prop)(n:Nd):LV->Prop
 | .VB a _ _ vs=>a=⟨b,n.Zq.l⟩/\n.Zq.p≠b/\vs=n.Zq.l
 | .Zq a vs _=>a=⟨b,n.Zq.l⟩/\n.Zq.p≠b/\vs=n.Zq.l
 | .TC a _ v=>a=⟨b,Jz n.Zq.l v⟩/\v.b=b/\Pb v.Zu v.cm/\∀u∈n.Zq.l,u.Zu=v.Zu->u.b≠b
def Lo(b:Yw)(e:Int)(l:List Vt):Prop:=∀v∈l,v.b=b\/v.Zu<e
structure CN(b:Yw)(Pb:Int->Cm->Prop)(e:Int)(L X:Nat)(n:Nd):Prop where
 SG:X≠L->n.Zh=aa
 Y5:∀v∈n.Zq.l,v.b=b->Pb v.Zu v.cm
 pnd:∀p,n.Zs=B p->CP b Pb n p
 LU:Lo b e n.Zq.l
 prm:∀r,n.Zh=B r->∀j vs,Yh r.ZI j=B vs->Lo b e vs
structure CJ(b:Yw)(e:Int)(l:YF):Prop where
 VB:l.Z7=0->l.b=b
 ask:l.Z7=2->l.v.b=b
 vs:l.Z7=1->Lo b e l.vs
def ZmI(Pb:Int->Cm->Prop):Prop:=∀s x y,Pb s x->Pb s y->x=y
theorem ZhQ{u v:Vt}(h1:u.Zu=v.Zu)(h2:u.b=v.b)(h3:u.cm=v.cm):u=v:=by
 obtain⟨s,b,k,c,q,n,x⟩:=u;obtain⟨s',b',k',c',q',n',x'⟩:=v;unfold Vt.cm at h3;simp only[J2.mk.injEq]at h3;simp only at h1 h2;obtain⟨rfl,rfl,rfl,rfl,rfl⟩:=h3;rw[h1,h2]
section
variable {C:List Cm} {b:Yw} {Pb:Int->Cm->Prop} {e:Int} {L X:Nat}
theorem sJ(n:Nd)(l:YF):∀m∈(Zw n l).ls,m.Z7=1->m.vs=n.Zq.l:=fun m hm hk=>by
 have no:∀(k:Int) (f t:Int) (b:Yw) (v:Vt) (vs:List Vt),k≠1->m∈[(⟨k,f,t,b,v,vs⟩:YF)]->False:=fun k f t b v vs h1 hm=>by
  rw[o.1 hm]at hk;exact h1 hk
 unfold Zw at hm;split at hm
 .unfold YB at hm;split at hm
  .exact (no _ _ _ _ _ _ aaa hm).elim
  .split at hm
   .rw[o.1 hm]
   .split at hm<;>cases hm
 split at hm
 .rw[(Ov n l).2]at hm;cases hm
 split at hm
 .unfold asked at hm;split at hm
  .exact (no _ _ _ _ _ _ aaa hm).elim
  .split at hm
   .exact (no _ _ _ _ _ _ aaa hm).elim
   .split at hm<;>cases hm
 split at hm
 .cases hm
 split at hm
 .unfold Qp at hm;split at hm
  .exact (no _ _ _ _ _ _ aaa hm).elim
  .cases hm
 split at hm
 .rw[(Ue n l.v.Zu l.v.cm).2.2]at hm;cases hm
 .cases hm
theorem Zd4:∀m∈(Yp n).ls,m.Z7≠1:=fun m hm=>by
 have Wz:∀n:Nd,∀m∈UI n,m.Z7≠1:=fun n m hm=>by
  unfold UI at hm;split at hm
  .rw[o.1 hm];exact (by decide:(5:Int)≠1)
  .cases hm
 have one:∀n:Nd,∀m∈(Z9 n).ls,m.Z7≠1:=fun n m hm=>by
  unfold Z9 at hm;split at hm
  .unfold JM at hm;split at hm
   .split at hm<;>cases hm
   .split at hm
    .unfold RN at hm;obtain⟨k,_,hk⟩:=aI.1 hm;split at hk
     .rw[o.1 hk];exact (by decide:(0:Int)≠1)
     .cases hk
    .have hm:m∈Tt n _:=hm;unfold Tt at hm;obtain⟨s,_,hs⟩:=aI.1 hm;unfold Vx at hs;split at hs
     .split at hs
      .obtain⟨k,_,hk⟩:=aI.1 hs;unfold Pk at hk;split at hk
       .rw[o.1 hk];exact (by decide:(2:Int)≠1)
       .cases hk
      .cases hs
     .cases hs
  .split at hm
   .unfold Wu at hm;obtain⟨x,_,rfl⟩:=bh.1 hm;exact (by decide:(4:Int)≠1)
   .cases hm
 unfold Yp at hm;split at hm
 .exact one _ m hm
 .rcases U.1 hm with hm|hm
  .exact one _ m hm
  .exact Wz _ m hm
theorem mZ(hX:X<5)(hC:(O C)<=100000)(hb:ZF b)(h1:ZmI Pb):Laws (fun n=>PN C b L X n/\CN b Pb e L X n) (fun l=>PJ C b l/\CJ b e l/\(l.Z7=2->Pb l.v.Zu l.v.cm)) (fun l=>PJ C b l/\CJ b e l):=by
 have W:=J8 (C:=C) (b:=b) (L:=L) (X:=X) hX hC hb;refine⟨fun n k h=>⟨W.box n k h.1,⟨h.2.SG,h.2.Y5,fun p hp=>by
  have:=h.2.pnd p hp
  cases p<;>exact this,h.2.LU,h.2.prm⟩⟩,fun n l h hp hl=>?_,fun n h hp=>?_,fun n p h hp=>?_⟩
 .obtain⟨a1,a2⟩:=W.mS n l h.1 hp hl.1;obtain⟨hk,hc⟩:=XR n l;have ZaN:∀r',(Zw n l).n.Zh=B r'->∀j vs,Yh r'.ZI j=B vs->Lo b e vs:=fun r' UZ j vs hv=>by
   rcases RW n l with q|⟨r,hr,⟨k1,_,q⟩|⟨_,_,q⟩⟩
   .rw[q]at UZ;exact h.2.prm r' UZ j vs hv
   .rw[q]at UZ;obtain rfl:=Option.some.inj UZ;have hv:Yh (ins r.ZI l.Jq l.vs) j=B vs:=hv;rw[Xf]at hv;split at hv
    .obtain rfl:=Option.some.inj hv;exact hl.2.1.vs k1
    .exact h.2.prm r hr j vs hv
   .rw[q]at UZ;obtain rfl:=Option.some.inj UZ;exact h.2.prm r hr j vs hv
  refine⟨⟨a1,?_⟩,fun m hm=>⟨a2 m hm,fun e=>absurd e (hk m hm).1,fun e=>absurd e (hk m hm).2,fun q=>by rw[sJ n l m hm q];exact h.2.LU⟩⟩;rcases hc with k|⟨c1,c2,c3,c4,q⟩|⟨c1,c2,c3,c4,q⟩
  .refine⟨fun VG=>?_,by rw[k.Zq];exact h.2.Y5,fun p q=>(by rw[k.Zs,hp]at q;cases q),by rw[k.Zq];exact h.2.LU,ZaN⟩;have:=k.SG;rw[h.2.SG VG]at this
   cases q:(Zw n l).n.Zh with
   | none=>rfl
   | some r=>rw[q]at this;exact this.elim
  .have eb:=hl.2.1.VB c1;rw[q]at ZaN ⊢;refine⟨h.2.SG,h.2.Y5,fun p q=>?_,h.2.LU,ZaN⟩;obtain rfl:=Option.some.inj q;exact⟨by rw[eb];rfl,by rw[<-eb];exact c3,rfl⟩
  .have eb:=hl.2.1.ask c1;have hP:=hl.2.2 c1;rw[q]at ZaN ⊢;refine⟨h.2.SG,h.2.Y5,fun p q=>?_,h.2.LU,ZaN⟩;obtain rfl:=Option.some.inj q;refine⟨by rw[eb];rfl,eb,hP,fun u hu hs hub=>c3 ?_⟩;have:=h.2.Y5 u hu hub;rw[hs]at this;rw[<-ZhQ hs (by rw[hub,eb]) (h1 _ _ _ this hP)];exact hu
 .obtain⟨a1,a2⟩:=W.mT n h.1 hp;obtain⟨D,hA⟩:=YY hp h.1.Yr;have Hd:∀r,n.Zh=B r->r.b=b:=fun r hr=>by
   by_cases e:X=L
   .obtain⟨r',h2,h3⟩:=h.1.Z4 e;rw[hr]at h2;obtain rfl:=Option.some.inj h2;exact h3
   .rw[h.2.SG e]at hr;cases hr
  refine⟨⟨a1,⟨fun VG=>?_,by rw[D.Zq];exact h.2.Y5,fun p q=>?_,by rw[D.Zq];exact h.2.LU,fun r' UZ j vs hv=>?_⟩⟩,fun m hm=>⟨a2 m hm,fun e=>?_,fun e=>?_,fun q=>absurd q (Zd4 m hm)⟩⟩
  .rcases D.SG with⟨_,e⟩|⟨_,_,_,e⟩|⟨r,_,hr,_⟩
   .exact e
   .exact e
   .rw[h.2.SG VG]at hr;cases hr
  .rcases D.Zs with⟨e,_⟩|⟨r,hr,c1,_,_,e⟩
   .rw[e]at q;cases q
   .rw[e]at q;obtain rfl:=Option.some.inj q;have e0:=h.1.pr0 (h.1.may r hr) (LF c1);show (if YG n.Zq.p n.Zq.l r.b=0 then (⟨r.b,n.Zq.l⟩:UC) else JE)=⟨b,(Yp n).n.Zq.l⟩/\(Yp n).n.Zq.p≠b/\(if YG n.Zq.p n.Zq.l r.b=0 then n.Zq.l else [])=(Yp n).n.Zq.l;rw[if_pos e0,if_pos e0,D.Zq,Hd r hr];refine⟨rfl,?_,rfl⟩;rw[<-Hd r hr];exact dE c1
  .rcases D.SG with⟨_,e⟩|⟨_,_,_,e⟩|⟨r,r2,hr,_,e,_,_,_,k⟩
   .rw[e]at UZ;cases UZ
   .rw[e]at UZ;cases UZ
   .rw[e]at UZ;obtain rfl:=Option.some.inj UZ;rw[k]at hv;exact h.2.prm r hr j vs hv
  .obtain⟨r,hr,_,_,e2,_⟩:=hA m hm (.inl e);rw[e2 e];exact Hd r hr
  .obtain⟨r,hr,_,_,_,e2,_⟩:=hA m hm (.inr e);rw[e2 e];exact Hd r hr
 .obtain⟨a1,a2⟩:=W.fin n p h.1 hp;have hP:=h.2.pnd p hp;have nop:∀q,(YK (ZO n) p).n.Zs=B q->False:=fun q hq=>by
   have:(YK (ZO n) p).n.Zs=aa:=by cases p<;>rfl
   rw[this]at hq;cases hq
  refine⟨⟨a1,⟨fun VG=>?_,fun v hv hvb=>?_,fun q hq=>(nop q hq).elim,?_,fun r' UZ j vs hv=>?_⟩⟩,fun m hm=>⟨a2 m hm,fun e=>absurd e (KM _ p m hm).1,fun e=>absurd e (KM _ p m hm).2,fun q=>?_⟩⟩
  .have hr:=h.2.SG VG
   cases p with
   | VB a to b' vs=>exact hr
   | TC a to v=>exact hr
   | Zq a vs cur=>
    show (if cur=true then n.Zh.map (fun r=>{ r with ZI:=ins r.ZI n.me vs }) else n.Zh)=aa;rw[hr];split<;>rfl
  .rw[O1 h.1 hp]at hv
   cases p with
   | VB a to b' vs=>obtain⟨rfl,_⟩:=hP;exact h.2.Y5 v hv hvb
   | Zq a vs cur=>obtain⟨rfl,_⟩:=hP;exact h.2.Y5 v hv hvb
   | TC a to u=>
    obtain⟨rfl,_,q3,_⟩:=hP;have hv:v∈Jz n.Zq.l u:=hv;unfold Jz at hv;rcases U.1 hv with hv|hv
    .exact h.2.Y5 v (aU.1 hv).1 hvb
    .rcases ba.1 hv with rfl|hv
     .exact q3
     .exact h.2.Y5 v (aU.1 hv).1 hvb
  .rw[O1 h.1 hp]
   cases p with
   | VB a to b' vs=>obtain⟨rfl,_⟩:=hP;exact h.2.LU
   | Zq a vs cur=>obtain⟨rfl,_⟩:=hP;exact h.2.LU
   | TC a to u=>
    obtain⟨rfl,q2,_,_⟩:=hP;intro v hv;have hv:v∈Jz n.Zq.l u:=hv;unfold Jz at hv;rcases U.1 hv with hv|hv
    .exact h.2.LU v (aU.1 hv).1
    .rcases ba.1 hv with rfl|hv
     .exact .inl q2
     .exact h.2.LU v (aU.1 hv).1
  .cases p with
   | VB a to b' ws=>exact h.2.prm r' UZ j vs hv
   | TC a to v=>exact h.2.prm r' UZ j vs hv
   | Zq a ws cur=>
    have UZ:(if cur=true then n.Zh.map (fun r=>{ r with ZI:=ins r.ZI n.me ws }) else n.Zh)=B r':=UZ;split at UZ
    .cases q:n.Zh with
     | none=>rw[q]at UZ;cases UZ
     | some r=>
      rw[q]at UZ;obtain rfl:=Option.some.inj UZ;have hv:Yh (ins r.ZI n.me ws) j=B vs:=hv;rw[Xf]at hv;split at hv
      .obtain rfl:=Option.some.inj hv;obtain⟨_,_,rfl⟩:=hP;exact h.2.LU
      .exact h.2.prm r q j vs hv
    .exact h.2.prm r' UZ j vs hv
  .cases p with
   | VB a to b' vs=>
    obtain⟨_,_,rfl⟩:=hP;rw[o.1 hm];exact h.2.LU
   | TC a to v=>rw[o.1 hm]at q;cases q
   | Zq a vs cur=>cases hm
def Wb(b:Yw)(n:Nd):Nat:=2*((if n.Zq.p=b then 1 else 0)+(n.Zq.l.filter (fun v=>decide (v.b=b))).length)+(if n.Zs.isSome=true then 1 else 0)
theorem j4{l:List Vt}{v:Vt}(hv:v.b=b)(h:∀u∈l,u.Zu=v.Zu->u.b≠b):((Jz l v).filter (fun v=>decide (v.b=b))).length=(l.filter (fun v=>decide (v.b=b))).length+1:=by
 have e:∀l:List Vt,(∀u∈l,u.Zu=v.Zu->u.b≠b)->((l.filter (fun x=>decide (x.Zu<v.Zu))).filter (fun v=>decide (v.b=b))).length+((l.filter (fun x=>decide (v.Zu<x.Zu))).filter (fun v=>decide (v.b=b))).length=(l.filter (fun v=>decide (v.b=b))).length:=by
  intro l
  induction l with
  | nil=>intro _;rfl
  | cons u l ih=>
   intro h;have q:=ih (fun x hx=>h x (by simp[hx]));have hu:=h u Hg;by_cases c1:u.b=b
   .rcases Int.lt_trichotomy u.Zu v.Zu with c2|c2|c2
    .have c3:¬v.Zu<u.Zu:=nc;simp only[a9,c1,c2,c3,decide_true,decide_false,if_true,if_false,a5,au];omega
    .exact absurd c1 (hu c2)
    .have c3:¬u.Zu<v.Zu:=nc;simp only[a9,c1,c2,c3,decide_true,decide_false,if_true,if_false,a5,au];omega
   .by_cases c2:u.Zu<v.Zu<;>by_cases c3:v.Zu<u.Zu <;>
     simp only[a9,c1,c2,c3,decide_true,decide_false,if_true,if_false,au]<;>exact q
 have:=e l h;unfold Jz;rw[List.filter_append,am,a9,if_pos (by simp[hv]),a5];omega
theorem ZhR(hp:n.Zs=aa)(l:YF):Wb b n<=Wb b (Zw n l).n/\((Zw n l).n.Zs≠aa->Wb b n+1<=Wb b (Zw n l).n):=by
 unfold Wb;rcases (XR n l).2 with k|⟨_,_,_,_,e⟩|⟨_,_,_,_,e⟩
 .rw[k.Zq,k.Zs,hp];exact⟨al _,fun q=>absurd rfl q⟩
 .rw[e,hp];refine⟨?_,fun _=>?_⟩
  .show 2*((if n.Zq.p=b then 1 else 0)+(n.Zq.l.filter (fun v=>decide (v.b=b))).length)+0<=2*((if n.Zq.p=b then 1 else 0)+(n.Zq.l.filter (fun v=>decide (v.b=b))).length)+1;omega
  .show 2*((if n.Zq.p=b then 1 else 0)+(n.Zq.l.filter (fun v=>decide (v.b=b))).length)+0+1<=2*((if n.Zq.p=b then 1 else 0)+(n.Zq.l.filter (fun v=>decide (v.b=b))).length)+1;omega
 .rw[e,hp];refine⟨?_,fun _=>?_⟩
  .show 2*((if n.Zq.p=b then 1 else 0)+(n.Zq.l.filter (fun v=>decide (v.b=b))).length)+0<=2*((if n.Zq.p=b then 1 else 0)+(n.Zq.l.filter (fun v=>decide (v.b=b))).length)+1;omega
  .show 2*((if n.Zq.p=b then 1 else 0)+(n.Zq.l.filter (fun v=>decide (v.b=b))).length)+0+1<=2*((if n.Zq.p=b then 1 else 0)+(n.Zq.l.filter (fun v=>decide (v.b=b))).length)+1;omega
theorem ZaO:∀(k:List YF) (n:Nd),n.Zs=aa->Wb b n<=Wb b (ZA n k).n/\((ZA n k).n.Zs≠aa->Wb b n+1<=Wb b (ZA n k).n):=by
 intro k
 induction k with
 | nil=>intro n hp;unfold ZA;exact⟨al _,fun q=>absurd hp q⟩
 | cons l k ih=>
  intro n hp;have ub:({ n with Zg:=k }:Nd).Zs=aa:=hp;obtain⟨h1,h2⟩:=ZhR (b:=b) ub l;have e0:Wb b ({ n with Zg:=k }:Nd)=Wb b n:=rfl;rw[e0]at h1 h2;unfold ZA;rw[if_neg (by rw[hp];decide)];show Wb b n<=Wb b (ZA (Zw { n with Zg:=k } l).n k).n/\((ZA (Zw { n with Zg:=k } l).n k).n.Zs≠aa->Wb b n+1<=Wb b (ZA (Zw { n with Zg:=k } l).n k).n)
  by_cases hq:(Zw { n with Zg:=k } l).n.Zs=aa
  .obtain⟨h3,h4⟩:=ih _ hq;exact⟨nc,fun q=>by have:=h4 q;omega⟩
  .have hs:(Zw { n with Zg:=k } l).n.Zs.isSome=true:=by
    cases q:(Zw { n with Zg:=k } l).n.Zs with
    | none=>exact absurd q hq
    | some p=>rfl
   have e:Wb b (ZA (Zw { n with Zg:=k } l).n k).n=Wb b (Zw { n with Zg:=k } l).n:=by
    cases k with
    | nil=>unfold ZA;rfl
    | cons a k=>unfold ZA;rw[if_pos hs];rfl
   rw[e];have:=h2 hq;exact⟨nc,fun _=>by omega⟩
theorem Zd5(h:PN C b L X n)(c:CN b Pb e L X n)(hd:(ZA n n.Zg).n.Zs=aa->PN C b L X (ZA n n.Zg).n):Wb b n<=Wb b (step n).n/\(¬VU n->Wb b n+1<=Wb b (step n).n):=by
 cases hp:n.Zs with
 | some p=>
  have e:step n=YK (ZO n) p:=by unfold step;rw[if_pos h.up,hp]
  have hP:=c.pnd p hp;have eo:=O1 h hp;have ep:(YK (ZO n) p).n.Zs=aa:=by cases p<;>rfl
  have main:Wb b n+1<=Wb b (YK (ZO n) p).n:=by
   unfold Wb;rw[eo,ep,hp]
   cases p with
   | VB a to b' vs=>
    obtain⟨rfl,q,_⟩:=hP;simp only[WM,if_neg q,if_true,bd,a8,au,if_false];omega
   | Zq a vs cur=>
    obtain⟨rfl,q,_⟩:=hP;simp only[WM,if_neg q,if_true,bd,a8,au,if_false];omega
   | TC a to v=>
    obtain⟨rfl,q1,_,q2⟩:=hP;simp only[WM,if_true,bd,a8,au,if_false];rw[j4 q1 q2];split<;>omega
  rw[e];exact⟨nc,fun _=>main⟩
 | none=>
  obtain⟨h1,h2⟩:=ZaO (b:=b) n.Zg n hp;by_cases hq:(ZA n n.Zg).n.Zs=aa
  .rw[WO h.up ⟨hp,hq⟩];refine⟨?_,fun q=>absurd ⟨hp,hq⟩ q⟩;have D:=(YY hq (hd hq).Yr).1;have:Wb b (ZA n n.Zg).n<=Wb b (Yp (ZA n n.Zg).n).n:=by
    unfold Wb;rw[D.Zq,hq];simp only[a8,au,if_false];omega
   show Wb b n<=Wb b (Yp (ZA n n.Zg).n).n;omega
  .have e:step n=ZA n n.Zg:=by
    unfold step;rw[if_pos h.up,hp];simp only;rw[if_pos]
    cases q:(ZA n n.Zg).n.Zs with
    | none=>exact absurd q hq
    | some p=>rfl
   rw[e];exact⟨h1,fun _=>h2 hq⟩
end
structure Clean(S:Cm->Prop)(C:List Cm)(b:Yw)(L T:Nat)(w:Nat->Wd)(g:Nat->Gh)(M:Nat->Nat->Yw)(e:Nat)(Q:List Cm):Prop where
 tr:Yk S C b L T w g M
 c0:∀X,X<5->CN b (fun s x=>Mn (fun r=>Yh r.ZW s=B x) ((w T).Zb L)) e L X ((w 0).Zb X)
 j0:∀X,X<5->∀l∈((w 0).Zb X).Zg,CJ b e l
 f0:∀l∈(w 0).Zp,CJ b e l
 ZB:e=((w 0).Zb L).ZB.length
 Zx:∀x∈((w 0).Zb L).Zx,x ∉ ((w 0).Zb L).ZB
 ZW:∀r,((w 0).Zb L).Zh=B r->∀s,Yh r.ZW s=aa
 ZvO:∀x,S x->x∈Q\/x∈((w 0).Zb L).ZB
def NQ(n:Nd):Prop:=∀x∈n.Zx,x ∉ n.ZB
theorem sK(h:NQ n)(x:Cm):NQ (JU n x):=fun y hy hl=>by
 have hy:y∈n.Zx.filter (fun y=>decide (y≠x)):=hy;obtain⟨h1,h2⟩:=aU.1 hy;have hl:y∈n.ZB++[x]:=hl;rcases U.1 hl with q|q
 .exact h y h1 q
 .simp only[decide_eq_true_eq]at h2;exact h2 (o.1 q)
theorem dI(h:NQ n)(s:Int)(x:Cm):NQ (Jg n s x).n:=by
 have:∀(k:Nat) (n:Nd),NQ n->NQ (Yg k n).1:=by
  intro k
  induction k with
  | zero=>intro n h;exact h
  | succ k ih=>
   intro n h;unfold Yg;split
   .exact h
   .exact ih _ (sK h _)
 exact this _ _ h
theorem sL(h:NQ n)(l:YF):NQ (Zw n l).n:=by
 have hn:NQ (Xs n l):=by unfold Xs;split<;>exact h
 unfold Zw;split
 .unfold YB
  repeat' split
  all_goals exact h
 split
 .unfold Yl;split
  .exact h
  .split
   .split<;>exact h
   .split
    .exact h
    .rename_i r _ _ _;split
     .have:NQ (Tq n r l):=h;exact dI this _ _
     .exact h
 split
 .unfold asked
  repeat' split
  all_goals exact h
 split
 .unfold add;split
  .exact h
  .rename_i q;intro y hy hl;have hy:y∈n.Zx++[l.v.cm]:=hy;rcases U.1 hy with p|p
   .exact h y p hl
   .rw[o.1 p]at hl;exact q (.inr hl)
 split
 .unfold Qp;split<;>exact hn
 split
 .exact dI h _ _
 .exact hn
theorem dJ:∀(k:List YF) (n:Nd),NQ n->NQ (ZA n k).n:=by
 intro k
 induction k with
 | nil=>intro n h;unfold ZA;exact h
 | cons l k ih=>
  intro n h;unfold ZA;split
  .exact h
  .exact ih _ (sL (n:={ n with Zg:=k }) h l)
theorem sO:∀(k s t:Nat),Qe n r x k s=B t->∀u:Nat,s<=u->u<t->Yh r.ZW u≠B x:=by
 intro k
 induction k with
 | zero=>intro s t h;cases h
 | succ k ih=>
  intro s t h u h1 h2;unfold Qe at h;by_cases q1:Yh r.ZW (s:Int)=B x\/Yh n.Zi (s:Int)=B x
  .rw[if_pos q1]at h;cases h
  .rw[if_neg q1]at h;by_cases q2:Yh r.ZW (s:Int)=aa/\Yh n.Zi (s:Int)=aa
   .rw[if_pos q2]at h;obtain rfl:=Option.some.inj h;omega
   .rw[if_neg q2]at h;by_cases e:u=s
    .rw[e];exact fun q=>q1 (.inl q)
    .exact ih _ _ h u nc h2
structure JI(e:Nat)(Q:List Cm)(r:Xw):Prop where
 of:∀s x,Yh r.ZW s=B x->∃u:Nat,s=u/\e<=u/\x∈Q
 inj:∀s s' x,Yh r.ZW s=B x->Yh r.ZW s'=B x->s=s'
 mV:∀s u:Nat,Has r.ZW s->e<=u->u<s->Has r.ZW u
theorem JI.few{e:Nat}{Q:List Cm}(h:JI e Q r){s:Nat}(hs:Has r.ZW s):s<e+(O Q):=by
 obtain⟨v,hv⟩:∃v:Nat->Cm,∀i,v i=(Yh r.ZW ((e+i:Nat):Int)).getD IB:=⟨_,fun _=>rfl⟩
 have hat:∀i,e+i<=s->Yh r.ZW ((e+i:Nat):Int)=B (v i):=fun i hi=>by
  have:Has r.ZW ((e+i:Nat):Int):=by
   by_cases q:e+i=s
   .rw[q];exact hs
   .exact h.mV s (e+i) hs nc nc
  unfold Has at this;rw[hv]
  cases q:Yh r.ZW ((e+i:Nat):Int) with
  | none=>exact absurd q this
  | some x=>rfl
 have:=Oq (l:=(List.range (s+1-e)).map v) (C:=Q) ?_ (fun x hx=>?_)
 .rw[a7,List.length_range]at this;by_cases q:s+1<=e
  .omega
  .omega
 .rw[bf,List.pairwise_map];refine List.Pairwise.imp_of_mem ?_ (bf.1 List.nodup_range);intro i j hi hj Y4 hvv;have hi:=a0.1 hi;have hj:=a0.1 hj;have h1:=hat i nc;have h2:=hat j nc;rw[<-hvv]at h2;have:=h.inj _ _ _ h1 h2;omega
 .obtain⟨i,hi,rfl⟩:=bh.1 hx;have hi:=a0.1 hi;obtain⟨_,_,_,q⟩:=h.of _ _ (hat i nc);exact q
theorem ZaP{e:Nat}{Q:List Cm}(h:JI e Q r)(he:e<=n.ZB.length)(ha:∀u:Nat,e<=u->Has n.Zi u->Has r.ZW u)(h0:∀t:Nat,t<n.ZB.length->Has n.Zi t)(hx:x∈Q)(hc:∀u:Nat,u<n.ZB.length->Yh r.ZW u≠B x):
  JI e Q (J4 n r x)/\(∀u:Nat,u<n.ZB.length->Yh (J4 n r x).ZW u=Yh r.ZW u):=by
 unfold J4
 cases hf:free n r x with
 | none=>exact⟨h,fun _ _=>rfl⟩
 | some s=>
  simp only;obtain⟨q1,q2,q3,q4⟩:=OY _ _ _ hf;have occ:=IW _ _ _ (fun u hu=>.inr (h0 u hu)) hf;have Y4:=sO _ _ _ hf;have nw:∀s':Int,Yh r.ZW s'=B x->False:=fun s' Px=>by
   obtain⟨u,rfl,hu,_⟩:=h.of s' x Px;by_cases c1:u<n.ZB.length
   .exact hc u c1 Px
   .by_cases c2:u<s
    .exact Y4 u nc c2 Px
    .by_cases c3:u=s
     .rw[c3,q3]at Px;cases Px
     .have:=h.mV u s (by unfold Has;rw[Px];simp) nc nc;exact this q3
  refine⟨⟨fun t y ht=>?_,fun t t' y ht tL=>?_,fun t u ht hu ZU=>?_⟩,fun u hu=>?_⟩
  .have ht:Yh (ins r.ZW (s:Int) x) t=B y:=ht;rw[Xf]at ht;split at ht
   .rename_i c;obtain rfl:=Option.some.inj ht;exact⟨s,c.symm,nc,hx⟩
   .exact h.of t y ht
  .have ht:Yh (ins r.ZW (s:Int) x) t=B y:=ht;have tL:Yh (ins r.ZW (s:Int) x) t'=B y:=tL;rw[Xf]at ht tL;split at ht
   .rename_i c;obtain rfl:=Option.some.inj ht;split at tL
    .rename_i c';rw[<-c,<-c']
    .exact (nw t' tL).elim
   .split at tL
    .obtain rfl:=Option.some.inj tL;exact (nw t ht).elim
    .exact h.inj t t' y ht tL
  .show Has (ins r.ZW (s:Int) x) u;by_cases c:t=s
   .subst c;rcases occ u ZU with q|q
    .exact Has.ins q _ _
    .exact Has.ins (ha u hu q) _ _
   .have ht:Has (ins r.ZW (s:Int) x) t:=ht;rcases BN ht with q|q
    .omega
    .exact Has.ins (h.mV t u q hu ZU) _ _
  .show Yh (ins r.ZW (s:Int) x) u=Yh r.ZW u;rw[Xf,if_neg nc]
theorem FY{e:Nat}{Q:List Cm}(he:e<=n.ZB.length)(h0:∀t:Nat,t<n.ZB.length->Has n.Zi t):∀(l:List Cm) (r:Xw),JI e Q r->(∀u:Nat,e<=u->Has n.Zi u->Has r.ZW u)->(∀x∈l,x∈Q/\∀u:Nat,u<n.ZB.length->Yh r.ZW u≠B x)->JI e Q (Jd n r l):=by
 intro l
 induction l with
 | nil=>intro r h _ _;exact h
 | cons x l ih=>
  intro r h ha hc;obtain⟨h1,h2⟩:=ZaP h he ha h0 (hc x Hg).1 (hc x Hg).2;refine ih (J4 n r x) h1 (fun u hu hk=>?_) (fun y hy=>⟨(hc y (by simp[hy])).1,fun u hu=>by rw[h2 u hu];exact (hc y (by simp[hy])).2 u hu⟩);have:=ha u hu hk;unfold Has at this ⊢
  cases q:Yh r.ZW (u:Int) with
  | none=>exact absurd q this
  | some z=>rw[(IT n r x).ZW _ _ q];simp
theorem EO{S:Cm->Prop}{g:Gh}{M:Nat->Yw}(G:GI S g M){b:Yw}(hM:∀i,i<5->¬ZL b (M i)){s:Int}{y:Cm}(hP:g.P b s x)(hc:Jk g s y):x=y:=by
 obtain⟨Q,b',hQ,hv⟩:=hc;obtain⟨i,hi,_⟩:=hQ.meet hQ;have Kj:=hQ.2.1 i hi;have DO:=hv i hi;have Lh:=G.Z4 _ _ _ _ DO;by_cases e:b'=b
 .subst e;exact G.one _ _ _ _ hP (G.vp _ _ _ _ DO)
 .have ZU:ZL b' b:=by
   by_cases q:ZL b' b
   .exact q
   .have:¬ZL b b':=X4 Lh (hM i Kj);exact absurd (RU q this) e
  exact VT G hQ hv _ b x (al _) hP ZU
theorem j5{C:List Cm}{b:Yw}{L:Nat}(h:PN C b L L n)(hp:n.Zs=aa)(hr:n.Zh=B r):(Yp n).n.Zh=B r\/((Yp n).n.Zh=B (X2 n r)/\5<2*r.ZI.length):=by
 obtain⟨_,e⟩:=Rq h hp hr;rw[Rr.1,e];unfold JM;split
 .split
  .exact .inl hr
  .exact .inl hr
 .split
  .exact .inl hr
  .rename_i q;exact .inr ⟨rfl,nc⟩
theorem j6{e:Nat}(he:e<=n.ZB.length)(hv:∀v∈(Yo r).flatten,v.Zu<e):(Wa n r).ZW=r.ZW:=by
 have ht:RM (Yo r).flatten<e\/RM (Yo r).flatten = -1:=by
  unfold RM;rcases (Mi (Yo r).flatten (-1)).2.2 with q|⟨v,h1,q⟩
  .exact .inr q
  .rw[q];exact .inl (hv v h1)
 have h0:(RM (Yo r).flatten+1).toNat-n.ZB.length=0:=nc;unfold Wa;rw[h0];rfl
section
variable {S:Cm->Prop} {C:List Cm} {b:Yw} {L T:Nat} {w:Nat->Wd} {g:Nat->Gh} {M:Nat->Nat->Yw} {e:Nat} {Q:List Cm}
def PbT(L T:Nat)(w:Nat->Wd)(s:Int)(x:Cm):Prop:=Mn (fun r=>Yh r.ZW s=B x) ((w T).Zb L)
theorem PbT.one:ZmI (PbT L T w):=fun s x y ⟨r,h1,h2⟩ ⟨r',h3,h4⟩=>by
 rw[h1]at h3;obtain rfl:=Option.some.inj h3;rw[h2]at h4;exact Option.some.inj h4
theorem Yk.ZhS(tr:Yk S C b L T w g M)(ht:t<=T){s:Int}(h:(g t).P b s x):Mn (fun r=>Yh r.ZW s=B x) ((w t).Zb L):=by
 obtain⟨r,h1,h2⟩:=((tr.at t).nd L tr.hL).Z4 rfl;have R:=((tr.ti t ht).nd L tr.hL).Zh r h1;exact⟨r,h1,R.pr s x (by rw[h2];exact h)⟩
theorem Yk.Zfj(tr:Yk S C b L T w g M)(ht:t<=T){s:Int}(h:(g t).P b s x):PbT L T w s x:=
 tr.stays (Z:=fun t=>Mn (fun r=>Yh r.ZW s=B x) ((w t).Zb L)) (fun t _ h=>tr.KN (fun r r' k q=>k.ZW _ _ q) h) (tr.ZhS ht h) T ht (al _)
theorem Clean.at(c:Clean S C b L T w g M e Q):∀t,t<=T->(∀X,X<5->CN b (PbT L T w) e L X ((w t).Zb X))/\(∀X,X<5->∀l∈((w t).Zb X).Zg,CJ b e l)/\∀l∈(w t).Zp,CJ b e l:=by
 intro t
 induction t with
 | zero=>intro _;exact⟨c.c0,c.j0,c.f0⟩
 | succ t ih=>
  intro ht;obtain⟨h1,h2,h3⟩:=ih nc;have TT:=c.tr.ti t nc;have Ap:∀X,X<5->CN b (PbT L T w) e L X (step ((w t).Zb X)).n/\(∀m∈(step ((w t).Zb X)).ls,CJ b e m)/\∀l∈(step ((w t).Zb X)).n.Zg,l∈((w t).Zb X).Zg:=fun X hX=>by
   have q:=V3 (mZ (C:=C) (b:=b) (Pb:=PbT L T w) (e:=e) (L:=L) hX c.tr.hC c.tr.hb PbT.one) ((c.tr.at t).nd X hX).up ⟨(c.tr.at t).nd X hX,h1 X hX⟩ (fun l hl=>⟨(c.tr.at t).Wp X hX l hl,h2 X hX l hl,fun k2=>c.tr.Zfj (t:=t) nc (by
    have:=(TT.Wp X hX l hl).ask k2;rw[(h2 X hX l hl).ask k2]at this;exact this)⟩)
   exact⟨q.1.2,fun m hm=>(q.2.1 m hm).2,q.2.2⟩
  have hm:∀l∈Ro (w t),CJ b e l:=fun l hl=>by
   rcases Vm.1 hl with q|⟨i,hi,q⟩
   .exact h3 l q
   .exact (Ap i hi).2.1 l q
  refine⟨fun X hX=>?_,fun X hX l hl=>?_,fun l hl=>by rw[c.tr.nx,BJ]at hl;cases hl⟩
  .rw[c.tr.nx,QM _ X hX ((c.tr.at t).nd X hX).up];have q:=(Ap X hX).1;exact⟨q.SG,q.Y5,fun p hp=>by
    have:=q.pnd p hp
    cases p<;>exact this,q.LU,q.prm⟩
  .rw[c.tr.nx]at hl;rcases (OZ hX ((c.tr.at t).nd X hX).up).1 hl with q|⟨q,_⟩
   .exact h2 X hX l ((Ap X hX).2.2 l q)
   .exact hm l q
theorem Clean.nq(c:Clean S C b L T w g M e Q):∀t,NQ ((w t).Zb L):=by
 intro t
 induction t with
 | zero=>exact c.Zx
 | succ t ih=>
  have hp:=(c.tr.at t).nd L c.tr.hL;rw[c.tr.nx,QM _ L c.tr.hL hp.up];show NQ (step ((w t).Zb L)).n;unfold step;rw[if_pos hp.up]
  cases q:((w t).Zb L).Zs with
  | some p=>cases p<;>exact ih
  | none=>
   simp only;have hd:=dJ ((w t).Zb L).Zg _ ih;split
   .exact hd
   .rename_i q2;have q0:(ZA ((w t).Zb L) ((w t).Zb L).Zg).n.Zs=aa:=by
     cases e:(ZA ((w t).Zb L) ((w t).Zb L).Zg).n.Zs with
     | none=>rfl
     | some p=>rw[e]at q2;exact absurd rfl q2
    have hb:=(JY (J8 (C:=C) (b:=b) (L:=L) c.tr.hL c.tr.hC c.tr.hb) _ _ hp ((c.tr.at t).Wp L c.tr.hL)).1.Yr;have D:=(YY q0 hb).1;intro x hx hl;have hx:x∈(Yp (ZA ((w t).Zb L) ((w t).Zb L).Zg).n).n.Zx:=hx;have hl:x∈(Yp (ZA ((w t).Zb L) ((w t).Zb L).Zg).n).n.ZB:=hl;rw[D.Zx]at hx;rw[D.ZB]at hl;exact hd x hx hl
theorem Yk.ZmJ(tr:Yk S C b L T w g M)(hX:X<5):∀t,∃f,((w t).Zb X).ZB=((w 0).Zb X).ZB++f:=by
 intro t
 induction t with
 | zero=>exact⟨[],Hg⟩
 | succ t ih=>
  obtain⟨f,h1⟩:=ih;obtain⟨f',h2⟩:=tr.ZaE (t:=t) hX;exact⟨f++f',by rw[h2,h1,bl]⟩
theorem Clean.ji(c:Clean S C b L T w g M e Q):∀t,t<=T->∀r,((w t).Zb L).Zh=B r->JI e Q r:=by
 intro t
 induction t with
 | zero=>
  intro _ r hr;have h0:=c.ZW r hr;exact⟨fun s x h=>(by rw[h0]at h;cases h),fun s s' x h=>(by rw[h0]at h;cases h),fun s u h=>absurd (h0 _) h⟩
 | succ t ih=>
  intro ht r1 Eb;have hp:=(c.tr.at t).nd L c.tr.hL;by_cases hf:VU ((w t).Zb L)
  .obtain⟨K0,_,_⟩:=c.at t nc;have TT:=c.tr.ti t nc;have W:=mZ (C:=C) (b:=b) (Pb:=PbT L T w) (e:=e) (L:=L) c.tr.hL c.tr.hC c.tr.hb PbT.one;have dl:=JY W ((w t).Zb L).Zg ((w t).Zb L) ⟨hp,K0 L c.tr.hL⟩ (fun l hl=>⟨(c.tr.at t).Wp L c.tr.hL l hl,(c.at t nc).2.1 L c.tr.hL l hl,fun k2=>c.tr.Zfj (t:=t) nc (by
    have:=(TT.Wp L c.tr.hL l hl).ask k2;rw[((c.at t nc).2.1 L c.tr.hL l hl).ask k2]at this;exact this)⟩)
   obtain⟨HRd,_,_⟩:=mP c.tr.hL TT.gi ((w t).Zb L).Zg ((w t).Zb L) (TT.nd L c.tr.hL) hp.up hf.1 hp.ni (fun l hl=>⟨((c.tr.at t).Wp L c.tr.hL l hl).li,TT.Wp L c.tr.hL l hl⟩);have hs:=WO hp.up hf;have K:=Vo _ _ hf.2;have nqd:=dJ ((w t).Zb L).Zg _ (c.nq t);obtain⟨d,hd0⟩:=ZQ ((ZA ((w t).Zb L) ((w t).Zb L).Zg).n);have hdp:d.Zs=aa:=by rw[hd0];exact hf.2
   rw[<-hd0]at dl K nqd;have Nd:=HRd.n;rw[<-hd0]at Nd;obtain⟨hd,hcd⟩:=dl.1;obtain⟨r,hr,Hd⟩:=hd.Z4 rfl;obtain⟨r0,h1,h2⟩:=K.back hr;have J0:=ih nc r0 h1;have J:JI e Q r:=⟨by rw[h2.p];exact J0.of,by rw[h2.p];exact J0.inj,by rw[h2.p];exact J0.mV⟩
   have Eb:(Yp d).n.Zh=B r1:=by
    rw[c.tr.nx,QM _ L c.tr.hL hp.up,hs,<-hd0]at Eb;exact Eb
   rcases j5 hd hdp hr with q|⟨q,ZIJ⟩
   .rw[q]at Eb;obtain rfl:=Option.some.inj Eb;exact J
   .rw[q]at Eb;obtain rfl:=Option.some.inj Eb;have Rd:=Nd.Zh r hr;have hM:∀i,i<5->¬ZL b (M t i):=fun i hi=>by
     rw[(TT.nd i hi).m,JC ((c.tr.at t).nd i hi).up];exact ((c.tr.at t).nd i hi).Zq
    obtain⟨f0,hf0⟩:=c.tr.ZmJ c.tr.hL t;obtain⟨f1,hf1⟩:=K.go.ZB;have he:e<=d.ZB.length:=by
     rw[hf1,hf0,am,am,c.ZB];omega
    have hk0:∀t:Nat,t<d.ZB.length->Has d.Zi t:=fun t ht=>by
     have:=hd.ni.ZB t ht;unfold Has;intro q;rw[q]at this
     cases this
    -- ZvJ is Zi of ZAV from there on was cO
    have ha:∀u:Nat,e<=u->Has d.Zi u->Has r.ZW u:=fun u hu hk=>by
     unfold Has at hk
     cases q:Yh d.Zi (u:Int) with
     | none=>exact absurd q hk
     | some y=>
      obtain⟨Qm,b',hQm,hv⟩:=Nd.Zi _ _ q;obtain⟨i,hi,_⟩:=hQm.meet hQm;have Kj:=hQm.2.1 i hi;have A:=(TT.nd i Kj).acc;rw[JC ((c.tr.at t).nd i Kj).up]at A;obtain⟨v,DO,iE,_⟩:=A.all _ _ _ (hv i hi);have hvb:v.b=b:=by
       rcases (K0 i Kj).LU v DO with q|q
       .exact q
       .omega
      have hP:=TT.gi.vp _ _ _ _ (A.has v DO);rw[hvb,iE,<-Hd]at hP;have:=Rd.pr _ _ hP;unfold Has;rw[this];simp
    have hc:∀x∈d.Zx,x∈Q/\∀u:Nat,u<d.ZB.length->Yh r.ZW u≠B x:=fun x hx=>by
     refine⟨?_,fun u hu hpu=>?_⟩
     .rcases c.ZvO x (Nd.cV x hx) with q|q
      .exact q
      .exact absurd (by rw[hf1,hf0];exact U.2 (.inl (U.2 (.inl q)))) (nqd x hx)
     .have h1:=Rd.safe _ _ hpu;rw[Hd]at h1;have h2:=Nd.ZB u _ (a6 hu);have:=EO TT.gi hM h1 h2;refine nqd x hx ?_;rw[this];exact bo hu
    have base:∀r':Xw,r'.ZW=r.ZW->JI e Q r'/\(∀u:Nat,e<=u->Has d.Zi u->Has r'.ZW u)/\∀x∈d.Zx,x∈Q/\∀u:Nat,u<d.ZB.length->Yh r'.ZW u≠B x:=fun r' hq=>by
     refine⟨⟨by rw[hq];exact J.of,by rw[hq];exact J.inj,by rw[hq];exact J.mV⟩,by rw[hq];exact ha,by rw[hq];exact hc⟩
    unfold X2;by_cases iJ:r.XM=true
    .rw[if_pos iJ];obtain⟨b1,b2,b3⟩:=base r rfl;exact FY he hk0 _ _ b1 b2 b3
    .rw[if_neg iJ];have ZvR:r.XM=false:=by simpa using iJ
     obtain⟨b1,b2,b3⟩:=base (Wa d r) (j6 he fun v hv=>by
      obtain⟨m,hm,vs,h1,h2⟩:=KC hv;rcases hcd.prm r hr m vs h1 v h2 with q|q
      .have hV:=((Rd.ZI m vs h1).has v h2).1;have:=TT.gi.vp _ _ _ _ hV;rw[q,<-Hd]at this;exact absurd this (Rd.pn ZvR _ _)
      .exact q)
     exact FY he hk0 _ _ b1 b2 b3
  .rw[c.tr.nx,QM _ L c.tr.hL hp.up]at Eb;obtain⟨r,h1,h2⟩:=Ca hp.up hf (show (step ((w t).Zb L)).n.Zh=B r1 from Eb);have J:=ih nc r h1;exact⟨by rw[h2];exact J.of,by rw[h2];exact J.inj,by rw[h2];exact J.mV⟩
theorem sQ:∀(l:List Vt) (a:Int) (d:Nat),l.Pairwise (fun a b=>a.Zu<b.Zu)->(∀x∈l,a<=x.Zu/\x.Zu<a+d)->(O l)<=d:=by
 intro l
 induction l with
 | nil=>intro a d _ _;exact aw _
 | cons x l ih=>
  intro a d hp hx;rw[List.pairwise_cons]at hp;have h1:=hx x Hg
  cases d with
  | zero=>omega
  | succ d=>
   have:=ih (a+1) d hp.2 (fun y hy=>by
    have h2:=hp.1 y hy;have h3:=hx y (by simp[hy]);omega)
   simp only[a5];omega
theorem Clean.wb(c:Clean S C b L T w g M e Q)(ht:t<=T)(hX:X<5):Wb b ((w t).Zb X)<=2*(1+(O Q))+1:=by
 have CX:=(c.at t ht).1 X hX;have P:=(c.tr.at t).nd X hX;have hl:(((w t).Zb X).Zq.l.filter (fun v=>decide (v.b=b))).length<=(O Q):=by
  refine sQ _ (e:Int) (O Q) (List.Pairwise.filter _ P.ni.Zq.Y5.2) (fun v hv=>?_);obtain⟨h1,h2⟩:=aU.1 hv;obtain⟨r,hr,hp⟩:=CX.Y5 v h1 (by simpa using h2);have J:=c.ji T (al _) r hr;obtain⟨u,hu,he,_⟩:=J.of _ _ hp;have:=J.few (s:=u) (by rw[<-hu];unfold Has;rw[hp];simp);omega
 unfold Wb;split<;>split<;>omega
theorem Clean.count(c:Clean S C b L T w g M e Q):∀t,t<=T->∃k,Ct w t k/\t<=k+(Wb b ((w t).Zb 0)+Wb b ((w t).Zb 1)+Wb b ((w t).Zb 2)+Wb b ((w t).Zb 3)+Wb b ((w t).Zb 4)):=by
 intro t
 induction t with
 | zero=>intro _;exact⟨0,Ct.zero _ _,aw _⟩
 | succ t ih=>
  intro ht;obtain⟨k,h1,h2⟩:=ih nc;have st:∀X,X<5->Wb b ((w t).Zb X)<=Wb b ((w (t+1)).Zb X)/\(¬VU ((w t).Zb X)->Wb b ((w t).Zb X)+1<=Wb b ((w (t+1)).Zb X)):=fun X hX=>by
   have P:=(c.tr.at t).nd X hX;have:=Zd5 P ((c.at t nc).1 X hX) (fun _=>(JY (J8 (C:=C) (b:=b) (L:=L) hX c.tr.hC c.tr.hb) _ _ P ((c.tr.at t).Wp X hX)).1);rw[c.tr.nx,QM _ X hX P.up];exact this
  have s0:=st 0 nc;have s1:=st 1 nc;have s2:=st 2 nc;have s3:=st 3 nc;have s4:=st 4 nc;by_cases hc:Clear (w t)
  .exact⟨k+1,.inr ⟨hc,h1⟩,nc⟩
  .refine⟨k,h1.mono,?_⟩;have:∃X,X<5/\¬VU ((w t).Zb X):=bg fun q=>hc fun X hX=>bg fun q2=>q ⟨X,hX,q2⟩;obtain⟨X,hX,q⟩:=this
   match X,hX,q with
   | 0,_,q=>have:=s0.2 q;omega
   | 1,_,q=>have:=s1.2 q;omega
   | 2,_,q=>have:=s2.2 q;omega
   | 3,_,q=>have:=s3.2 q;omega
   | 4,_,q=>have:=s4.2 q;omega
theorem Ct.down{w:Nat->Wd}:∀{k j:Nat},Ct w t k->j<=k->Ct w t j:=by
 intro k
 induction k with
 | zero=>intro j h hj;rw[show j=0 by omega];exact h
 | succ k ih=>
  intro j h hj;by_cases e:j=k+1
  .rw[e];exact h
  .exact ih h.less nc
theorem Clean.clear(c:Clean S C b L T w g M e Q){k:Nat}(h:k+5*(2*(1+(O Q))+1)<=T):Ct w T k:=by
 obtain⟨k',h1,h2⟩:=c.count T (al _);have b0:=c.wb (t:=T) (al _) (X:=0) nc;have b1:=c.wb (t:=T) (al _) (X:=1) nc;have b2:=c.wb (t:=T) (al _) (X:=2) nc;have b3:=c.wb (t:=T) (al _) (X:=3) nc;have b4:=c.wb (t:=T) (al _) (X:=4) nc;exact h1.down nc
end
theorem dK(n:Nd)(l:YF):(Zw n l).n.data.length<=(O n.data)+38/\((Zw n l).n.Zs=aa->(Zw n l).n.data.length<=(O n.data)):=by
 rcases (XR n l).2 with k|⟨_,_,_,_,e⟩|⟨_,_,_,_,e⟩
 .rw[k.data];exact⟨nc,fun _=>al _⟩
 .rw[e];refine⟨?_,fun q=>by cases q⟩;show (n.data++YS (JL l.b)).length<=_;rw[am,OV];omega
 .rw[e];refine⟨?_,fun q=>by cases q⟩;show (n.data++YS (Up l.v)).length<=_;rw[am,BC];omega
theorem j7:∀(k:List YF) (n:Nd),(ZA n k).n.data.length<=(O n.data)+38/\((ZA n k).n.Zs=aa->(ZA n k).n.data.length<=(O n.data)):=by
 intro k
 induction k with
 | nil=>intro n;unfold ZA;exact⟨by simp only;omega,fun _=>al _⟩
 | cons l k ih=>
  intro n;unfold ZA;split
  .exact⟨by simp only;omega,fun _=>al _⟩
  .obtain⟨h1,h2⟩:=dK { n with Zg:=k } l;have h1:(Zw { n with Zg:=k } l).n.data.length<=(O n.data)+38:=h1;have h2:(Zw { n with Zg:=k } l).n.Zs=aa->(Zw { n with Zg:=k } l).n.data.length<=(O n.data):=h2;obtain⟨h3,h4⟩:=ih (Zw { n with Zg:=k } l).n;show (ZA (Zw { n with Zg:=k } l).n k).n.data.length<=_/\((ZA (Zw { n with Zg:=k } l).n k).n.Zs=aa->(ZA (Zw { n with Zg:=k } l).n k).n.data.length<=_)
   by_cases q:(Zw { n with Zg:=k } l).n.Zs=aa
   .have:=h2 q;exact⟨nc,fun q2=>by have:=h4 q2;omega⟩
   .have hs:(Zw { n with Zg:=k } l).n.Zs.isSome=true:=by
     cases e:(Zw { n with Zg:=k } l).n.Zs with
     | none=>exact absurd e q
     | some p=>rfl
    have e:(ZA (Zw { n with Zg:=k } l).n k).n = { (Zw { n with Zg:=k } l).n with Zg:=(ZA (Zw { n with Zg:=k } l).n k).n.Zg }:=by
     cases k with
     | nil=>unfold ZA;rfl
     | cons a k=>unfold ZA;rw[if_pos hs]
    rw[e];exact⟨h1,fun q2=>absurd q2 q⟩
theorem sR(n:Nd)(hb:Blank n.Zh/\((ZA n n.Zg).n.Zs=aa->Blank (ZA n n.Zg).n.Zh)):(step n).n.data.length<=(O n.data)+38:=by
 unfold step;split
 .cases hp:n.Zs with
  | some p=>
   simp only;have:(YK (ZO n) p).n.data.length<=(O n.data):=by
    have e:(YK (ZO n) p).n.data=(ZO n).data:=by cases p<;>rfl
    rw[e];show (if YW n.data n.YZ then n.data else []).length<=_;split
    .exact al _
    .exact aw _
   omega
  | none=>
   simp only;obtain⟨h1,h2⟩:=j7 n.Zg n;split
   .exact h1
   .rename_i q;have q0:(ZA n n.Zg).n.Zs=aa:=by
     cases e:(ZA n n.Zg).n.Zs with
     | none=>rfl
     | some p=>rw[e]at q;exact absurd rfl q
    have:=h2 q0;show (Yp (ZA n n.Zg).n).n.data.length<=_;rcases (YY q0 (hb.2 q0)).1.Zs with⟨_,e⟩|⟨_,_,_,_,e,_⟩
    .rw[e];omega
    .rw[e,am,OV];omega
 .exact Nat.le_add_right _ _
section
variable {S:Cm->Prop} {C:List Cm} {b:Yw} {L:Nat} {w0:Wd}
theorem ZaQ(hC:(O C)<=100000)(hb:ZF b)(pw:PW C b L w0):∀t,PW C b L (Ud t w0):=by
 intro t
 induction t with
 | zero=>exact pw
 | succ t ih=>exact Zax ih hC hb
theorem j8(hC:(O C)<=100000)(hb:ZF b)(pw:PW C b L w0)(hX:X<5){d:Nat}(hd:(w0.Zb X).data.length<=d):∀t,((Ud t w0).Zb X).data.length<=d+38*t:=by
 intro t
 induction t with
 | zero=>exact hd
 | succ t ih=>
  have P:=ZaQ hC hb pw t;have PX:=P.nd X hX;show ((jQ (Ud t w0)).Zb X).data.length<=_;rw[QM _ X hX PX.up];have:=sR ((Ud t w0).Zb X) ⟨PX.Yr,fun _=>(JY (J8 (C:=C) (b:=b) (L:=L) hX hC hb) _ _ PX (P.Wp X hX)).1.Yr⟩;show (step ((Ud t w0).Zb X)).n.data.length<=_;omega
theorem ZaR(hc:Wg []∈C):∀a∈SC.map Raw.ac,cX S C a:=fun a ha=>by
 obtain⟨x,hx,rfl⟩:=bh.1 ha;have step:∀n,n<5->cX S C (Wi n).ac:=fun n hn=>⟨⟨by show ((n:Nat):Int).toNat<5;omega,hc⟩,by show (0:Int)<=0;omega,fun now h=>by cases h⟩
 unfold SC at hx;rcases U.1 hx with hx|hx
 .obtain⟨n,hn,rfl⟩:=D3 hx;exact step n hn
 .rw[o.1 hx];exact⟨⟨aaa,hc⟩,by show (0:Int)<=0;omega,fun now h=>by cases h⟩
theorem ZaS(w:Wd):jQ w=(SC.map Raw.ac).foldl act w:=by
 show _=act (act (act (act (act (act w (Wi 0).ac) (Wi 1).ac) (Wi 2).ac) (Wi 3).ac) (Wi 4).ac) cN.ac;rw[UB,UB,UB,UB,UB,mR];rfl
theorem ZhU(hC:(O C)<=100000)(hc:Wg []∈C){k:Nat}{g0:Gh}{M0:Nat->Yw}(W:WI C k w0)(T0:TI S g0 M0 w0):∀T,∃(g:Nat->Gh) (M:Nat->Nat->Yw),g 0=g0/\(∀t,t<=T->TI S (g t) (M t) (Ud t w0))/\(∀t,t<T->∀j b s x,(g t).V j b s x->(g (t+1)).V j b s x)/\∃k,WI C k (Ud T w0):=by
 intro T
 induction T with
 | zero=>exact⟨fun _=>g0,fun _=>M0,rfl,fun t ht=>by rw[show t=0 by omega];exact T0,fun t ht=>by omega,k,W⟩
 | succ T ih=>
  obtain⟨g,M,h0,h1,h2,k,hW⟩:=ih;obtain⟨g',M',v,TT,WW⟩:=cY hC (SC.map Raw.ac) k (Ud T w0) (g T) (M T) hW (h1 T (al _)) (ZaR hc);rw[<-ZaS]at TT WW;refine⟨fun t=>if t<=T then g t else g',fun t=>if t<=T then M t else M',by simp only[aw,if_true];exact h0,fun t ht=>?_,fun t ht=>?_,_,WW⟩
  .by_cases e:t<=T
   .simp only[if_pos e];exact h1 t e
   .simp only[if_neg e];rw[show t=T+1 by omega];exact TT
  .by_cases e:t+1<=T
   .simp only[if_pos e,if_pos (show t<=T by omega)];exact h2 t nc
   .have:t=T:=nc;subst this;simp only[al,if_true,if_neg e];exact v
theorem Zd7(hC:(O C)<=100000)(hc:Wg []∈C)(hb:ZF b)(hL:L<5)(hn:b.n=L)(hS:∀x,S x->x.err=0){k:Nat}{g0:Gh}{M0:Nat->Yw}(W:WI C k w0)(T0:TI S g0 M0 w0)(pw:PW C b L w0){T:Nat}(hd:∀X,X<5->(w0.Zb X).data.length+38*T<=99900):
  ∃g M,g 0=g0/\Yk S C b L T (fun t=>Ud t w0) g M:=by
 obtain⟨g,M,h0,h1,h2,_⟩:=ZhU hC hc W T0 T;refine⟨g,M,h0,hC,hb,hL,hn,fun t=>rfl,pw,fun t ht X hX hf=>?_,h1,h2,hS⟩;have:=j8 hC hb pw hX (al _) t;have:=hd X hX;unfold Full at hf;have h4:38*t<=38*T:=Nat.mul_le_mul_left _ ht;omega
end
structure ZaT(X:Nat)(n:Nd):Prop where
 me:n.me=X
 up:n.up=true
 data:n.data=[]
 YZ:n.YZ=0
 Zq:n.Zq=JE
 YX:n.YX=Jj
 Zh:n.Zh=aa
 Zi:n.Zi=[]
 ZB:n.ZB=[]
 Zg:n.Zg=[]
 Zs:n.Zs=aa
structure RX(w:Wd):Prop where
 nd:∀X,ZaT X (w.Zb X)
 Nw:w.Zp=[]
theorem ZhV:RX QL:=⟨fun X=>⟨rfl,rfl,rfl,rfl,rfl,rfl,rfl,rfl,rfl,rfl,rfl⟩,rfl⟩
theorem LO{w:Wd}(h:RX w)(i:Nat)(d:List Nat):RX (JN w i d)/\(∀X x,x∈(w.Zb X).Zx->x∈((JN w i d).Zb X).Zx)/\(YP d 0=0->Xo d 0∈((JN w i d).Zb i).Zx):=by
 have hl:(w.Zb i).ZB.length=0:=by rw[(h.nd i).ZB];rfl
 have h0:((w.Zb i).ZB.length:Int)=0:=nc;unfold JN;rw[if_pos (h.nd i).up,h0];by_cases q:YP d 0=0
 .rw[if_neg (by simp[q]),if_neg (by rw[(h.nd i).ZB];simp)];have hq:ZaT i (Rc (add (w.Zb i) (Xo d 0)) (Xo d 0))/\(∀x∈(w.Zb i).Zx,x∈(Rc (add (w.Zb i) (Xo d 0)) (Xo d 0)).Zx)/\Xo d 0∈(Rc (add (w.Zb i) (Xo d 0)) (Xo d 0)).Zx:=by
   have F:=h.nd i;have ha:ZaT i (add (w.Zb i) (Xo d 0))/\(∀x∈(w.Zb i).Zx,x∈(add (w.Zb i) (Xo d 0)).Zx)/\Xo d 0∈(add (w.Zb i) (Xo d 0)).Zx:=by
    unfold add;split
    .rename_i c;refine⟨F,fun x hx=>hx,?_⟩;rcases c with c|c
     .exact c
     .rw[F.ZB]at c;cases c
    .exact⟨⟨F.me,F.up,F.data,F.YZ,F.Zq,F.YX,F.Zh,F.Zi,F.ZB,F.Zg,F.Zs⟩,fun x hx=>U.2 (.inl hx),U.2 (.inr Hg)⟩
   obtain⟨A,a2,a3⟩:=ha;unfold Rc;split
   .exact⟨A,a2,a3⟩
   .exact⟨⟨A.me,A.up,A.data,A.YZ,A.Zq,A.YX,A.Zh,A.Zi,A.ZB,A.Zg,A.Zs⟩,a2,a3⟩
  refine⟨⟨fun X=>?_,h.Nw⟩,fun X x hx=>?_,fun _=>?_⟩
  .rw[Uc];by_cases e:X=i
   .rw[if_pos e,e];exact hq.1
   .rw[if_neg e];exact h.nd X
  .rw[Uc];by_cases e:X=i
   .rw[if_pos e];rw[e]at hx;exact hq.2.1 x hx
   .rw[if_neg e];exact hx
  .rw[Uc,if_pos rfl];exact hq.2.2
 .rw[if_pos (by simp[q])];exact⟨⟨h.nd,h.Nw⟩,fun X x hx=>hx,fun e=>absurd e q⟩
section
variable {S:Cm->Prop} {C:List Cm} {b:Yw} {L T:Nat} {w:Nat->Wd} {g:Nat->Gh} {M:Nat->Nat->Yw} {e:Nat} {Q:List Cm}
theorem Clean.short(c:Clean S C b L T w g M e Q)(ht:t<=T)(hX:X<5):((w t).Zb X).ZB.length<=e+(O Q):=by
 by_cases q:((w t).Zb X).ZB.length<=e+(O Q)
 .exact q
 .have hl:e+(O Q)<((w t).Zb X).ZB.length:=nc;have TT:=c.tr.ti t ht;obtain⟨Qm,b',hQm,hv⟩:=(TT.nd X hX).ZB (e+(O Q)) _ (a6 hl);obtain⟨i,hi,_⟩:=hQm.meet hQm;have Kj:=hQm.2.1 i hi;have A:=(TT.nd i Kj).acc;rw[JC ((c.tr.at t).nd i Kj).up]at A;obtain⟨v,DO,iE,_⟩:=A.all _ _ _ (hv i hi);have K:=(c.at t ht).1 i Kj;have hvb:v.b=b:=by
   rcases K.LU v DO with q|q
   .exact q
   .omega
  obtain⟨r,hr,hp⟩:=K.Y5 v DO hvb;rw[iE]at hp;have:=(c.ji T (al _) r hr).few (s:=e+(O Q)) (by unfold Has;rw[hp];simp);omega
end
def Oy(L:Nat):Yw:=⟨1,L⟩
theorem Mo{w:Wd}(h:RX w)(L:Nat):(act w (JX L).ac).Zp=[]/\(act w (JX L).ac).ZE=w.ZE/\∀X,(act w (JX L).ac).Zb X=if X=L then { w.Zb L with Zh:=B ⟨Oy L,[],false,[],[]⟩ } else w.Zb X:=by
 have e:act w (JX L).ac=w.set L (lead (w.Zb L)):=by
  unfold act JX Raw.ac;simp
 have F:=h.nd L;have el:lead (w.Zb L) = { w.Zb L with Zh:=B ⟨Oy L,[],false,[],[]⟩ }:=by
  have eb:Jp (w.Zb L)=Oy L:=by
   unfold Jp Oy;rw[F.Zh,F.Zq,F.YX,F.me];rfl
  unfold lead;rw[if_neg (by
   rw[F.up,eb];unfold Oy;simp only;intro q;rcases q with q|q
   .cases q
   .omega),eb,show X3 (w.Zb L).Zs=(w.Zb L).Zs by rw[F.Zs];rfl]
 rw[e,el];refine⟨h.Nw,rfl,fun X=>rfl⟩
section
variable {C:List Cm} {L:Nat} {w:Wd}
theorem dL(hL:L<5):ZF (Oy L):=⟨⟨by show (1:Int)<=1;omega,by show (1:Int)<=65536;omega⟩,by show (0:Int)<=(L:Int);omega,by show (L:Int)<=4;omega⟩
theorem ZaU(h:RX w)(hL:L<5){k:Nat}(W:WI C k (act w (JX L).ac)):PW C (Oy L) L (act w (JX L).ac)/\Un (Oy L) L (act w (JX L).ac):=by
 obtain⟨h1,_,h2⟩:=Mo h L;have hb:=dL hL;have nb0:¬ZL (Oy L) Jj:=by unfold ZL Oy Jj;simp only;omega
 have ne0:Jj≠Oy L:=fun q=>by
  have:=congrArg Yw.r q;unfold Jj Oy at this;simp only at this;omega
 have HI:∀X,((act w (JX L).ac).Zb X).Zg=[]:=fun X=>by
  rw[h2 X];split
  .exact (h.nd L).Zg
  .exact (h.nd X).Zg
 refine⟨⟨fun X hX=>?_,fun l hl=>(by rw[h1]at hl;cases hl),fun X hX l hl=>(by rw[HI]at hl;cases hl)⟩,⟨fun X hX VG=>?_,fun X hX l hl=>(by rw[HI]at hl;cases hl),fun l hl=>(by rw[h1]at hl;cases hl)⟩⟩
 .have ni:=W.nd X hX;have e:=h2 X;by_cases q:X=L
  .subst q;rw[if_pos rfl]at e;rw[e]at ni ⊢;have F:=h.nd X;refine⟨ni,F.up,?_,?_,?_,?_,fun q=>absurd rfl q,fun _=>⟨_,rfl,rfl⟩,fun r hr _ s=>?_,fun r hr=>?_,fun r hr s hs=>?_,?_⟩
   .show ¬ZL (Oy X) (w.Zb X).Zq.p;rw[F.Zq];exact nb0
   .show ∀v∈(w.Zb X).Zq.l,¬ZL (w.Zb X).Zq.p v.b;rw[F.Zq];intro v hv;cases hv
   .intro p hp;have hp:(w.Zb X).Zs=B p:=hp;rw[F.Zs]at hp;cases hp
   .show 0<=(w.Zb X).YZ/\(w.Zb X).YZ<=(w.Zb X).data.length;rw[F.YZ,F.data];simp
   .obtain rfl:=Option.some.inj hr;rfl
   .obtain rfl:=Option.some.inj hr;exact hb
   .obtain rfl:=Option.some.inj hr;cases hs
   .show Yh (w.Zb X).Zi ((w.Zb X).ZB.length:Int)=aa;rw[F.Zi];rfl
  .rw[if_neg q]at e;rw[e]at ni ⊢;have F:=h.nd X;refine⟨ni,F.up,by rw[F.Zq];exact nb0,(by rw[F.Zq];intro v hv;cases hv),fun p hp=>(by rw[F.Zs]at hp;cases hp),by rw[F.YZ,F.data];simp,fun _ r hr=>(by rw[F.Zh]at hr;cases hr),fun p=>absurd p q,fun r hr=>(by rw[F.Zh]at hr;cases hr),fun r hr=>(by rw[F.Zh]at hr;cases hr),fun r hr=>(by rw[F.Zh]at hr;cases hr),by rw[F.Zi];rfl⟩
 .rw[h2 X,if_neg VG];have F:=h.nd X;exact⟨by rw[F.Zq];exact ne0,fun p hp=>(by rw[F.Zs]at hp;cases hp)⟩
theorem ZaV(h:RX w)(Pb:Int->Cm->Prop)(X:Nat):CN (Oy L) Pb (0:Nat) L X ((act w (JX L).ac).Zb X):=by
 obtain⟨_,_,h2⟩:=Mo h L;rw[h2 X];by_cases q:X=L
 .rw[if_pos q];have F:=h.nd L;refine⟨fun p=>absurd q p,?_,?_,?_,fun r hr j vs hv=>?_⟩
  .show ∀v∈(w.Zb L).Zq.l,_;rw[F.Zq];intro v hv;cases hv
  .intro p hp;have hp:(w.Zb L).Zs=B p:=hp;rw[F.Zs]at hp;cases hp
  .show Lo _ _ (w.Zb L).Zq.l;rw[F.Zq];intro v hv;cases hv
  .obtain rfl:=Option.some.inj hr;cases hv
 .rw[if_neg q];have F:=h.nd X;exact⟨fun _=>F.Zh,(by rw[F.Zq];intro v hv;cases hv),fun p hp=>(by rw[F.Zs]at hp;cases hp),(by rw[F.Zq];intro v hv;cases hv),fun r hr=>(by rw[F.Zh]at hr;cases hr)⟩
end
def EP(A:List Raw)(x:Cm):Prop:=∃a∈A,a.k=1/\YP a.data 0=0/\x=Xo a.data 0
theorem Zd8{A:List Raw}(hA:∀x∈A,x.err=0)(hl:(O A)<=90000):∃(g:Gh) (M:Nat->Yw) (k:Nat),TI (EP A) g M (Js A)/\WI (Wg [] :: A.map fun x=>Wg x.data) k (Js A):=by
 have hC:(Wg [] :: A.map fun x=>Wg x.data).length<=100000:=by rw[a5,a7];omega
 have ok:∀a∈A.map Raw.ac,cX (EP A) (Wg [] :: A.map fun x=>Wg x.data) a:=fun a ha=>by
  obtain⟨h1,h2,h3⟩:=Zap hA (S:=EP A) (fun z hz hk now h=>by
   obtain⟨q1,q2⟩:=IN h (now:=0) nc nc;exact⟨z,hz,hk,q1,q2.symm⟩) a ha
  exact⟨⟨h1.1,List.mem_cons_of_mem _ h1.2⟩,h2,h3⟩
 obtain⟨g,M,_,T0,W⟩:=cY hC (A.map Raw.ac) 0 QL gh0 (fun _=>Jj) (Oo _) FF ok;exact⟨g,M,_,T0,W⟩
theorem j9(A:List Raw)(L many:Nat)(hu:∀i,i<5->((Js A).Zb i).up=true)(hu2:∀i,i<5->((act (Js A) (JX L).ac).Zb i).up=true):Js (Wj A L many)=Ud many (act (Js A) (JX L).ac):=by
 have e1:Js (QQ A 0)=Js A:=by
  unfold QQ;rw[show UA 0=[] from rfl,bc,FS A hu]
 have e2:Js (QQ A 0++[JX L])=act (Js A) (JX L).ac:=by
  rw[LM,e1];rfl
 unfold Wj;show Js ((QQ A 0++[JX L])++Je 5++UA many)=_;rw[Zau,FS _ (fun i hi=>by rw[e2];exact hu2 i hi),e2]
theorem dM(n:Nd)(l:YF):(Zw n l).n.Ys=n.Ys:=by
 have hg:∀(k:Nat) (n:Nd),(Yg k n).1.Ys=n.Ys:=by
  intro k
  induction k with
  | zero=>intro n;rfl
  | succ k ih=>
   intro n;unfold Yg;split
   .rfl
   .exact ih _
 have hl:∀(n:Nd) s x,(Jg n s x).n.Ys=n.Ys:=fun n s x=>hg _ _;have hn:(Xs n l).Ys=n.Ys:=by unfold Xs;split<;>rfl
 unfold Zw;split
 .unfold YB
  repeat' split
  all_goals rfl
 split
 .unfold Yl
  cases hr:n.Zh with
  | none=>rfl
  | some r=>
   simp only;split
   .split<;>rfl
   .split
    .rfl
    .split
     .rw[hl];rfl
     .rfl
 split
 .unfold asked
  repeat' split
  all_goals rfl
 split
 .show (add n l.v.cm).Ys=_;unfold add;split<;>rfl
 split
 .unfold Qp;split<;>exact hn
 split
 .exact hl _ _ _
 .exact hn
theorem FZ:∀(k:List YF) (n:Nd),(ZA n k).n.Ys=n.Ys:=by
 intro k
 induction k with
 | nil=>intro n;rfl
 | cons l k ih=>
  intro n;unfold ZA;split
  .rfl
  .show (ZA _ k).n.Ys=_;rw[ih,dM]
theorem dN(hu:n.up=true):(step n).n.Ys=n.Ys/\¬VU n\/((step n).n.Zs=aa/\(step n).n.Ys=(n.Ys+1)%5 /\
  ((step n).n.Ys≠(step n).n.me->(step n).n.ZB.length<40->∃bb,(⟨5,(step n).n.me,(step n).n.Ys,bb,QB (step n).n.ZB.length Jj IB,[]⟩:YF)∈(step n).ls)) \/
  ∃p,(Yp (ZA n n.Zg).n).n.Zs=B p/\(step n).n.Ys=n.Ys:=by
 by_cases hf:VU n
 .rw[WO hu hf];have ht:=FZ n.Zg n
  cases hq:(Yp (ZA n n.Zg).n).n.Zs with
  | some p=>
   refine .inr (.inr ⟨p,rfl,?_⟩);show (Yp (ZA n n.Zg).n).n.Ys=_;have:Yp (ZA n n.Zg).n=Z9 (Zo (ZA n n.Zg).n):=by
    rw[Rr.2.1]at hq;unfold Yp;rw[if_pos (by rw[hq];rfl)]
   rw[this,(WP _).1,ht]
  | none=>
   obtain⟨e1,e2⟩:=sz hq;have hm:(Yp (ZA n n.Zg).n).n.me=(ZA n n.Zg).n.me/\(Yp (ZA n n.Zg).n).n.ZB=(ZA n n.Zg).n.ZB:=by
    unfold Yp;split
    .exact⟨(WP _).2.2,(WP _).2.1⟩
    .exact⟨(WP _).2.2,(WP _).2.1⟩
   refine .inr (.inl ⟨rfl,by show (Yp (ZA n n.Zg).n).n.Ys=_;rw[e1,ht],fun h1 h2=>?_⟩);have h1:(Yp (ZA n n.Zg).n).n.Ys≠(Yp (ZA n n.Zg).n).n.me:=h1;have h2:(Yp (ZA n n.Zg).n).n.ZB.length<40:=h2;rw[hm.1]at h1;rw[hm.2]at h2;obtain⟨bb,hb⟩:=e2 h1 h2;refine⟨bb,U.2 (.inr ?_)⟩;show (⟨5,(Yp (ZA n n.Zg).n).n.me,(Yp (ZA n n.Zg).n).n.Ys,bb,QB (Yp (ZA n n.Zg).n).n.ZB.length Jj IB,[]⟩:YF)∈_;rw[hm.1,hm.2];exact hb
 .refine .inl ⟨?_,hf⟩;unfold step;rw[if_pos hu]
  cases hp:n.Zs with
  | some p=>cases p<;>rfl
  | none=>
   simp only;rw[if_pos ?_]
   .exact FZ _ _
   .cases q:(ZA n n.Zg).n.Zs with
    | none=>exact absurd ⟨hp,q⟩ hf
    | some p=>rfl
section
variable {S:Cm->Prop} {C:List Cm} {b:Yw} {L T:Nat} {w:Nat->Wd} {g:Nat->Gh} {M:Nat->Nat->Yw}
theorem kf{C:List Cm}{b:Yw}{L:Nat}(h:PN C b L X n)(hp:n.Zs=aa)(hb:n.Zq.p=b):(Yp n).n.Zs=aa:=by
 rw[Rr.2.1];rcases Vn n with⟨e,e2⟩|⟨r,e,_,e2⟩|⟨r,e,q,e2⟩
 .rw[e2];unfold Z9;rw[e];simp only;split<;>exact hp
 .rw[e2];unfold Z9;simp only;split<;>exact hp
 .by_cases hX:X=L
  .subst hX;obtain⟨r',e',hr⟩:=h.Z4 rfl;obtain⟨e1,e3⟩:=Rq h hp e;rw[e3];unfold JM;rw[if_neg (by rw[hb,e1];unfold ZL;omega)];split
   .exact hp
   .exact hp
  .rw[hb]at q;exact absurd (h.SG hX r e) q
def Zd9(s:Nat)(X Y:Nat)(w:Wd):Prop:=Src (fun m=>m.Z7=5/\m.v.Zu=(s:Int)/\m.Jq=X/\m.to=Y) (fun _=>False) (fun _=>False) (w.Zb Y)
def kh(s:Nat)(X:Nat)(w:Wd):Prop:=Src (fun m=>m.Z7=6/\m.v.Zu=(s:Int)/\m.to=X) (fun n=>Has n.Zi (s:Int)) (fun _=>False) (w.Zb X)
def Lrn(s:Nat)(X Y:Nat)(w:Wd):Prop:=s<(w.Zb X).ZB.length\/Zd9 s X Y w\/kh s X w
def Far(k:Nat)(Y:Nat)(n:Nd):Prop:=∃j:Nat,j<=k/\(n.Ys+1+j)%5=Y
theorem Yk.ZmK(tr:Yk S C b L T w g M)(ho:∀X,X<5->((w 0).Zb X).Zq.p=b)(hX:X<5):∀t,t<=T->((w t).Zb X).Zq.p=b:=fun t ht=>
 tr.stays (Z:=fun t=>((w t).Zb X).Zq.p=b) (fun t ht h=>tr.Ox hX h ht) (ho X hX) t (aw _) ht
theorem Yk.more(tr:Yk S C b L T w g M){s:Nat}(hX:X<5)(h:s<((w t).Zb X).ZB.length):s<((w (t+1)).Zb X).ZB.length:=by
 have hs:s<(step ((w t).Zb X)).n.ZB.length:=by
  have W:Laws (fun n=>PN C b L X n/\s<n.ZB.length) (PJ C b) (PJ C b):=(J8 (C:=C) (b:=b) (L:=L) (X:=X) hX tr.hC tr.hb).and (E:=fun n=>s<n.ZB.length) (fun n k h=>h) (fun n l h _ _ q=>by
    obtain⟨e,he⟩:=(VV n l).ZB;rw[he,am];omega) (fun n h hp q=>by rw[(YY hp h.Yr).1.ZB];exact q) (fun n p h hp q=>by
    obtain⟨e,he⟩:=(VW n p).ZB;rw[he,am];omega)
  exact (V3 W ((tr.at t).nd X hX).up ⟨(tr.at t).nd X hX,h⟩ ((tr.at t).Wp X hX)).1.2
 rw[tr.nx,QM _ X hX ((tr.at t).nd X hX).up];exact hs
theorem Yk.BQ(tr:Yk S C b L T w g M){Y s k:Nat}(hX:X<5)(hY:Y<5)(Y4:X≠Y)(hs:s<40)(ho:∀t,t<=T->((w t).Zb X).Zq.p=b)(ht:t<T)(hl:s<=((w t).Zb X).ZB.length)(h:Far k Y ((w t).Zb X)):
  (Far k Y ((w (t+1)).Zb X)/\¬VU ((w t).Zb X))\/(0<k/\Far (k-1) Y ((w (t+1)).Zb X))\/s<((w (t+1)).Zb X).ZB.length\/Zd9 s X Y (w (t+1)):=by
 have P:=(tr.at t).nd X hX;have e:(w (t+1)).Zb X = { (step ((w t).Zb X)).n with Zg:=(step ((w t).Zb X)).n.Zg++(Ro (w t)).filter (fun l=>decide (l.to.toNat=X)) }:=by rw[tr.nx];exact QM _ X hX P.up
 have el:((w (t+1)).Zb X).ZB=(step ((w t).Zb X)).n.ZB:=by rw[e]
 have et:((w (t+1)).Zb X).Ys=(step ((w t).Zb X)).n.Ys:=by rw[e]
 have em:(step ((w t).Zb X)).n.me=(X:Nat):=by
  have:=((tr.at (t+1)).nd X hX).ni.me;rw[e]at this;exact this
 obtain⟨j,hj,hf⟩:=h;rcases dN P.up with⟨q1,q2⟩|⟨q0,q1,q2⟩|⟨p,q1,_⟩
 .exact .inl ⟨⟨j,hj,by rw[et,q1];exact hf⟩,q2⟩
 .by_cases j0:j=0
  .subst j0;refine .inr (.inr ?_);by_cases ZU:s<((w (t+1)).Zb X).ZB.length
   .exact .inl ZU
   have hle:((w (t+1)).Zb X).ZB.length=s:=by
    have:s<=((w (t+1)).Zb X).ZB.length:=by
     cases s with
     | zero=>exact aw _
     | succ s=>exact tr.more hX (t:=t) (s:=s) hl
    omega
   have tY:(step ((w t).Zb X)).n.Ys=Y:=by rw[q1];simpa using hf
   rw[el]at hle;rw[tY,em,hle]at q2;obtain⟨bb,hm⟩:=q2 nc hs;exact .inr (tr.comes hY ⟨_,Vm.2 (.inr ⟨X,hX,hm⟩),rfl,rfl,rfl,rfl⟩ fun m h=>h.2.2.2)
  .refine .inr (.inl ⟨nc,j-1,nc,?_⟩);rw[et,q1];omega
 ·-- a record of its Zq: there is aa
  by_cases hf2:VU ((w t).Zb X)
  .exfalso;have hd:=(JY (J8 (C:=C) (b:=b) (L:=L) hX tr.hC tr.hb) ((w t).Zb X).Zg ((w t).Zb X) P ((tr.at t).Wp X hX)).1;have tP:(ZA ((w t).Zb X) ((w t).Zb X).Zg).n.Zq=((w t).Zb X).Zq:=(Vo _ _ hf2.2).Zq;rw[kf hd hf2.2 (by rw[tP];exact ho t nc)]at q1
   cases q1
  .rcases dN P.up with⟨r1,r2⟩|⟨_,_,_⟩|⟨_,_,r1⟩
   .exact .inl ⟨⟨j,hj,by rw[et,r1];exact hf⟩,r2⟩
   .exact .inl ⟨⟨j,hj,by rw[et];rename_i r _;rw[‹(step ((w t).Zb X)).n.Ys=((w t).Zb X).Ys›];exact hf⟩,hf2⟩
   .exact .inl ⟨⟨j,hj,by rw[et,r1];exact hf⟩,hf2⟩
theorem Yk.BR(tr:Yk S C b L T w g M){s:Nat}(hX:X<5)(h:kh s X (w t)):kh s X (w (t+1)):=by
 rcases (tr.Wl hX (D7 (G:=fun _=>False)) h).1 with q|⟨_,_,q⟩
 .exact q
 .exact q.elim
theorem Yk.dO(tr:Yk S C b L T w g M){Y s:Nat}(hX:X<5)(hY:Y<5)(hk:Has ((w t).Zb Y).Zi (s:Int))(h:Zd9 s X Y (w t)):(Zd9 s X Y (w (t+1))\/kh s X (w (t+1)))/\(VU ((w t).Zb Y)->kh s X (w (t+1))):=by
 have P:=(tr.at t).nd Y hY;obtain⟨h1,h2⟩:=di (jV hY tr.hC tr.hb (s:Int)) (sq (X:=X)) P.up ⟨P,hk⟩ ((tr.at t).Wp Y hY) h;have hm:(∃m∈(step ((w t).Zb Y)).ls,m.Z7=6/\m.v.Zu=(s:Int)/\m.to=X)->kh s X (w (t+1)):=fun⟨m,q1,q2⟩=>
  tr.comes hX ⟨m,Vm.2 (.inr ⟨Y,hY,q1⟩),q2⟩ fun m h=>h.2.2
 refine⟨?_,fun hf=>?_⟩
 .rcases h1 with (q|q|⟨l,hl,q⟩)|q
  .exact q.elim
  .exact q.elim
  .refine .inl (.inr (.inr ⟨l,?_,q⟩));rw[tr.nx,QM _ Y hY P.up];exact U.2 (.inl hl)
  .exact .inr (hm q)
 .rcases h2 hf with q|q
  .exact q.elim
  .exact hm q
theorem Yk.BS(tr:Yk S C b L T w g M){Y s:Nat}(hX:X<5)(hY:Y<5)(hk:Has ((w t).Zb Y).Zi (s:Int))(h:Lrn s X Y (w t)):Lrn s X Y (w (t+1)):=by
 rcases h with h|h|h
 .exact .inl (tr.more hX h)
 .rcases (tr.dO hX hY hk h).1 with q|q
  .exact .inr (.inl q)
  .exact .inr (.inr q)
 .exact .inr (.inr (tr.BR hX h))
theorem Yk.Jg(tr:Yk S C b L T w g M){Y s:Nat}(hX:X<5)(hY:Y<5)(hs:s<40)(ho:∀X,X<5->((w 0).Zb X).Zq.p=b)(hk:Has ((w 0).Zb Y).Zi (s:Int))(hl:s<=((w 0).Zb X).ZB.length):∀t,t<=T->Ct w t 7->s<((w t).Zb X).ZB.length:=by
 have hlX:∀t,t<=T->s<=((w t).Zb X).ZB.length:=fun t ht=>tr.stays (Z:=fun t=>s<=((w t).Zb X).ZB.length) (fun t _ h=>by
  cases s with
  | zero=>exact aw _
  | succ s=>exact tr.more hX (s:=s) h) hl t (aw _) ht
 have hkY:∀t,t<=T->Has ((w t).Zb Y).Zi (s:Int):=fun t ht=>tr.stays (Z:=fun t=>Has ((w t).Zb Y).Zi (s:Int)) (fun t _ h=>tr.Wm hY h) hk t (aw _) ht;have hoX:=tr.ZmK ho hX
 -- where both are one,nothing is to be ZpP
 have self:Has ((w 0).Zb X).Zi (s:Int)->s<((w 0).Zb X).ZB.length:=fun h=>by
  have P:=(tr.at 0).nd X hX;refine P.BP (s:=s) fun u hu=>?_;by_cases e:u=s
  .rw[e];exact h
  .have:=P.ni.ZB u nc;intro q;rw[q]at this
   cases this
 by_cases Y4:X=Y
 .subst Y4;intro t ht _;exact tr.stays (Z:=fun t=>s<((w t).Zb X).ZB.length) (fun t _ h=>tr.more hX h) (self hk) t (aw _) ht
 have far:∀k,k<=4->∀t,t<=T->Ct w t (4-k)->Lrn s X Y (w t)\/Far k Y ((w t).Zb X):=by
  intro k
  induction hk4:4-k generalizing k with
  | zero=>
   intro hk t ht _;obtain rfl:k=4:=nc;have tn:=((tr.at t).nd X hX).ni.Ys;refine .inr ⟨((Y+5-1-((w t).Zb X).Ys)%5).toNat,nc,nc⟩
  | succ d ih=>
   intro hk;have z:=ih (k+1) nc nc;refine tr.Wk (k:=d) z (fun t ht h=>?_) (fun t ht hc h=>?_)
   .rcases h with h|h
    .exact .inl (tr.BS hX hY (hkY t nc) h)
    .rcases tr.BQ hX hY Y4 hs hoX ht (hlX t nc) h with⟨q,_⟩|⟨q0,q⟩|q|q
     .exact .inr q
     .obtain⟨j,hj,q⟩:=q;exact .inr ⟨j,nc,q⟩
     .exact .inl (.inl q)
     .exact .inl (.inr (.inl q))
   .rcases h with h|h
    .exact .inl (tr.BS hX hY (hkY t nc) h)
    .rcases tr.BQ hX hY Y4 hs hoX ht (hlX t nc) h with⟨_,q⟩|⟨_,q⟩|q|q
     .exact absurd (hc X hX) q
     .exact .inr (by simpa using q)
     .exact .inl (.inl q)
     .exact .inl (.inr (.inl q))
 have z5:∀t,t<=T->Ct w t 5->Lrn s X Y (w t):=by
  refine tr.Wk (k:=4) (far 0 nc) (fun t ht h=>tr.BS hX hY (hkY t nc) h) (fun t ht hc h=>?_);rcases h with h|h
  .exact tr.BS hX hY (hkY t nc) h
  .rcases tr.BQ hX hY Y4 hs hoX ht (hlX t nc) h with⟨_,q⟩|⟨q,_⟩|q|q
   .exact absurd (hc X hX) q
   .omega
   .exact .inl q
   .exact .inr (.inl q)
 have z6:∀t,t<=T->Ct w t 6->s<((w t).Zb X).ZB.length\/kh s X (w t):=by
  refine tr.Wk (k:=5) z5 (fun t ht h=>?_) (fun t ht hc h=>?_)
  .rcases h with h|h
   .exact .inl (tr.more hX h)
   .exact .inr (tr.BR hX h)
  .rcases h with h|h|h
   .exact .inl (tr.more hX h)
   .exact .inr ((tr.dO hX hY (hkY t nc) h).2 (hc Y hY))
   .exact .inr (tr.BR hX h)
 refine tr.Wk (k:=6) z6 (fun t ht h=>tr.more hX h) (fun t ht hc h=>?_);rcases h with h|h
 .exact tr.more hX h
 .have hq:Has ((w (t+1)).Zb X).Zi (s:Int):=by
   rcases (tr.Wl hX (D7 (G:=fun _=>False)) h).2 (hc X hX) with q|⟨_,_,q⟩
   .exact q
   .exact q.elim
  have P:=(tr.at (t+1)).nd X hX;have I0:=hlX (t+1) nc;refine P.BP (s:=s) fun u hu=>?_;by_cases e:u=s
  .rw[e];exact hq
  .have:=P.ni.ZB u nc;intro q;rw[q]at this
   cases this
end
def EQ(l:List Cm):List Value:=l.foldl Fe Y1
def ZaW(i:Nat)(st:List Value)(x:Cm):Ps:=⟨i,x.c,x.s,Oi st x,IC st x⟩
def NWt(n:Nd):Prop:=n.Zj.Nodup/\∀x∈n.Zj,x ∉ n.ZB
structure Wt(n m:Nd)(ts:List Ps):Prop where
 me:m.me=n.me
 ZB:∃e,m.ZB=n.ZB++e
 len:(O ts)+m.Zj.length=n.Zj.length
 sub:∀x∈m.Zj,x∈n.Zj
 nw:NWt n->NWt m
 st:n.store=EQ n.ZB->m.store=EQ m.ZB
 ZE:n.store=EQ n.ZB->∀t∈ts,∃x pre e,m.ZB=pre++x :: e/\x∈n.Zj/\t=ZaW n.me (EQ pre) x
theorem Wt.same{m:Nd}(h0:m.me=n.me)(h1:m.ZB=n.ZB)(h2:m.Zj=n.Zj)(h3:m.store=n.store):Wt n m []:=
 ⟨h0,⟨[],by rw[h1,bc]⟩,by rw[h2];exact Nat.zero_add _,fun x h=>by rw[<-h2];exact h,fun h=>by unfold NWt;rw[h1,h2];exact h,fun h=>by rw[h1,h3];exact h,fun _ t ht=>by cases ht⟩
theorem Wt.refl(n:Nd):Wt n n []:=.same rfl rfl rfl rfl
theorem Wt.trans{m p:Nd}{ts us:List Ps}(h:Wt n m ts)(k:Wt m p us):Wt n p (ts++us):=by
 obtain⟨e1,g1⟩:=h.ZB;obtain⟨e2,g2⟩:=k.ZB;refine⟨by rw[k.me,h.me],⟨e1++e2,by rw[g2,g1,bl]⟩,?_,fun x hx=>h.sub x (k.sub x hx),fun q=>k.nw (h.nw q),fun q=>k.st (h.st q),fun q t ht=>?_⟩
 .have:=h.len;have:=k.len;rw[am];omega
 .rcases U.1 ht with ht|ht
  .obtain⟨x,pre,e,a1,a2,a3⟩:=h.ZE q t ht;exact⟨x,pre,e++e2,by rw[g2,a1];simp,a2,a3⟩
  .obtain⟨x,pre,e,a1,a2,a3⟩:=k.ZE (h.st q) t ht;exact⟨x,pre,e,a1,h.sub x a2,by rw[a3,h.me]⟩
theorem sU(n:Nd)(x:Cm):Wt n (JU n x) (WJ n x):=by
 have st:n.store=EQ n.ZB->(JU n x).store=EQ (JU n x).ZB:=fun q=>by
  show Fe n.store x=EQ (n.ZB++[x]);unfold EQ at *;rw[List.foldl_append,<-q];rfl
 refine⟨rfl,⟨[x],rfl⟩,?_,fun y hy=>bk hy,fun q=>⟨List.Nodup.erase _ q.1,fun y hy hl=>?_⟩,st,fun q t ht=>?_⟩
 .show (WJ n x).length+(n.Zj.erase x).length=n.Zj.length;unfold WJ;by_cases c:x∈n.Zj
  .rw[if_pos c,List.length_erase_of_mem c];have:=List.length_pos_of_mem c;simp only[List.length_singleton];omega
  .rw[if_neg c,List.erase_of_not_mem c];exact Nat.zero_add _
 .have hl:y∈n.ZB++[x]:=hl;have hy:y∈n.Zj.erase x:=hy;rcases U.1 hl with hl|hl
  .exact q.2 y (bk hy) hl
  .rw[o.1 hl]at hy;exact (List.Nodup.mem_erase_iff q.1).1 hy |>.1 rfl
 .unfold WJ at ht;by_cases c:x∈n.Zj
  .rw[if_pos c]at ht;rw[o.1 ht];exact⟨x,n.ZB,[],rfl,c,by unfold ZaW;rw[<-q]⟩
  .rw[if_neg c]at ht;cases ht
theorem ki:∀(k:Nat) (n:Nd),Wt n (Yg k n).1 (Yg k n).2:=by
 intro k
 induction k with
 | zero=>intro n;exact .refl n
 | succ k ih=>
  intro n;unfold Yg;split
  .exact .refl n
  .exact (sU n _).trans (ih _)
theorem dP(n:Nd)(s:Int)(x:Cm):Wt n (Jg n s x).n (Jg n s x).ts:=
 (Wt.same (n:=n) (m:=Jf n s x) rfl rfl rfl rfl).trans (ki _ _)
theorem sV(n:Nd)(l:YF):Wt n (Zw n l).n (Zw n l).ts:=by
 have hn:Wt n (Xs n l) []:=by unfold Xs;split<;>exact .same rfl rfl rfl rfl
 unfold Zw;split
 .unfold YB
  repeat' split
  all_goals exact .same rfl rfl rfl rfl
 split
 .unfold Yl
  cases hr:n.Zh with
  | none=>exact .refl n
  | some r=>
   simp only;split
   .split<;>exact .same rfl rfl rfl rfl
   .split
    .exact .refl n
    .split
     .exact (Wt.same (n:=n) (m:=Tq n r l) rfl rfl rfl rfl).trans (dP _ _ _)
     .exact .same rfl rfl rfl rfl
 split
 .unfold asked
  repeat' split
  all_goals exact .same rfl rfl rfl rfl
 split
 .show Wt n (add n l.v.cm) [];unfold add;split<;>exact .same rfl rfl rfl rfl
 split
 .unfold Qp;split<;>exact hn
 split
 .exact dP _ _ _
 .exact hn
theorem dQ:∀(k:List YF) (n:Nd),Wt n (ZA n k).n (ZA n k).ts:=by
 intro k
 induction k with
 | nil=>intro n;exact .same rfl rfl rfl rfl
 | cons l k ih=>
  intro n;unfold ZA;split
  .exact .same rfl rfl rfl rfl
  .exact ((Wt.same (n:=n) (m:={ n with Zg:=k }) rfl rfl rfl rfl).trans (sV _ l)).trans (ih _)
theorem Zea(n:Nd):Wt n (Yp n).n []:=by
 have hs:(Zo n).me=n.me/\(Zo n).ZB=n.ZB/\(Zo n).Zj=n.Zj/\(Zo n).store=n.store:=by
  unfold Zo;split
  .split<;>exact⟨rfl,rfl,rfl,rfl⟩
  .exact⟨rfl,rfl,rfl,rfl⟩
 have hd:∀m:Nd,(Z9 m).n.me=m.me/\(Z9 m).n.ZB=m.ZB/\(Z9 m).n.Zj=m.Zj/\(Z9 m).n.store=m.store:=fun m=>by
  unfold Z9;split
  .unfold JM
   repeat' split
   all_goals exact⟨rfl,rfl,rfl,rfl⟩
  .split<;>exact⟨rfl,rfl,rfl,rfl⟩
 obtain⟨a1,a2,a3,a4⟩:=hd (Zo n);obtain⟨b1,b2,b3,b4⟩:=hs;unfold Yp;split
 .exact .same (by rw[a1,b1]) (by rw[a2,b2]) (by rw[a3,b3]) (by rw[a4,b4])
 .exact .same (by show (Z9 (Zo n)).n.me=_;rw[a1,b1]) (by show (Z9 (Zo n)).n.ZB=_;rw[a2,b2]) (by show (Z9 (Zo n)).n.Zj=_;rw[a3,b3]) (by show (Z9 (Zo n)).n.store=_;rw[a4,b4])
theorem Zeb(n:Nd):Wt n (step n).n (step n).ts:=by
 unfold step;split
 .cases hp:n.Zs with
  | some p=>cases p<;>exact .same rfl rfl rfl rfl
  | none=>
   simp only;split
   .exact dQ _ _
   .have:=(dQ n.Zg n).trans (Zea (ZA n n.Zg).n);rw[bc]at this;have e:(Yp (ZA n n.Zg).n).ts=[]:=by
     have hd:∀m:Nd,(Z9 m).ts=[]:=fun m=>by
      unfold Z9;split
      .unfold JM
       repeat' split
       all_goals rfl
      .split<;>rfl
     unfold Yp;split
     .exact hd _
     .rfl
    show Wt n (Yp (ZA n n.Zg).n).n ((ZA n n.Zg).ts++(Yp (ZA n n.Zg).n).ts);rw[e,bc];exact this
 .exact .refl n
end Go.Proofs.YthlfaofofaphfaaGreatDoor
