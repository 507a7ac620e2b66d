import Derived.Test.YtdapjaalaomghaaGreatDoorTyd
open List renaming mem_singleton→o,length→O,mem_append→U,length_append→ae,mem_flatMap→ao,mem_filter→aq,mem_range→aw,length_cons→aU,getElem?_eq_getElem→a0,length_map→a5,filter_cons→a7,mem_cons→a8,append_nil→a9,nodup_iff_pairwise_ne→bc,mem_map→bf,mem_of_mem_erase→bg,append_assoc→bh,not_mem_nil→bk,getElem_mem→bl
open Nat renaming le_refl→ab,zero_le→am
open Option renaming isSome_none→a6,isSome_some→ba,some→B,none→aa
open Bool renaming false_eq_true→al
open Classical renaming byContradiction→bd
namespace Go.Proofs.YtdapjaalaomghaaGreatDoor
open Go Go.V
set_option linter.all false
variable{X t:Nat}{n:Nd}{r:Xw}{x:Cm}
structure PW(C:List Cm)(b:Yn)(L:Nat)(w:Wd):Prop where
 nd:∀X,X<5->PN C b L X (w.Zb X)
 PI:∀l∈w.Zo,PJ C b l
 Ub:∀X,X<5->∀l∈(w.Zb X).Zf,PJ C b l
def Clear(w:Wd):Prop:=∀X,X<5->VI (w.Zb X)
section
variable {C:List Cm} {b:Yn} {L:Nat} {w:Wd}
theorem Kb(h:PW C b L w)(hC:(O C)<=100000)(hb:ZD b)(hX:X<5):PN C b L X (step (w.Zb X)).n/\(∀m∈(step (w.Zb X)).ls,PJ C b m)/\∀l∈(step (w.Zb X)).n.Zf,l∈(w.Zb X).Zf:=
 Va (JH hX hC hb) (h.nd X hX).up (h.nd X hX) (h.Ub X hX)
theorem Zey(h:PW C b L w)(hC:(O C)<=100000)(hb:ZD b):∀l∈T8 w,PJ C b l:=fun l hl=>by
 rcases UG.1 hl with q|⟨i,hi,q⟩
 .exact h.PI l q
 .exact (Kb h hC hb hi).2.1 l q
theorem ZaY(h:PW C b L w)(hC:(O C)<=100000)(hb:ZD b):PW C b L (kq w):=by
 refine⟨fun X hX=>?_,fun l hl=>(by rw[Ka]at hl;cases hl),fun X hX l hl=>?_⟩
 .rw[Qf w X hX (h.nd X hX).up];exact (JH hX hC hb).box _ _ (Kb h hC hb hX).1
 .rcases (Sy hX (h.nd X hX).up).1 hl with q|⟨q,_⟩
  .exact h.Ub X hX l ((Kb h hC hb hX).2.2 l q)
  .exact Zey h hC hb l q
theorem ZaZ(h:PW C b L w)(hC:(O C)<=100000)(hb:ZD b)(hX:X<5){A G:YF->Prop}{E F:Nd->Prop}(H:ME (PN C b L X) (PJ C b) A G E F)(hs:Src A E F (w.Zb X)):
  (Src A E F ((kq w).Zb X)\/∃m∈T8 w,G m)/\(VI (w.Zb X)->E ((kq w).Zb X)\/∃m∈T8 w,G m):=by
 have hu:=(h.nd X hX).up;obtain⟨h1,h2⟩:=dP (JH hX hC hb) H hu (h.nd X hX) (h.Ub X hX) hs;have hm:(∃m∈(step (w.Zb X)).ls,G m)->∃m∈T8 w,G m:=fun⟨m,q1,q2⟩=>⟨m,UG.2 (.inr ⟨X,hX,q1⟩),q2⟩
 rw[Qf w X hX hu];refine⟨?_,fun hf=>?_⟩
 .rcases h1 with (q|q|⟨l,hl,q⟩)|q
  .exact .inl (.inl (H.th _ _ q))
  .exact .inl (.inr (.inl (H.Zil _ _ q)))
  .exact .inl (.inr (.inr ⟨l,U.2 (.inl hl),q⟩))
  .exact .inr (hm q)
 .rcases h2 hf with q|q
  .exact .inl (H.th _ _ q)
  .exact .inr (hm q)
theorem kC{A:YF->Prop}{E F:Nd->Prop}{Y:Nat}(hY:Y<5)(hu:(w.Zb Y).up=true)(h:∃m∈T8 w,A m)(ht:∀m,A m->m.to.toNat=Y):Src A E F ((kq w).Zb Y):=by
 obtain⟨m,q1,q2⟩:=h;exact .inr (.inr ⟨m,(Sy hY hu).2 (.inr ⟨q1,ht m q2⟩),q2⟩)
end
def Full(n:Nd):Prop:=99900<(O n.data)
section
variable {C:List Cm} {b:Yn} {L X:Nat}
theorem dU(h:PN C b L X n):(ZM n).data=n.data/\(ZM n).YS=(O n.data):=by
 have ht:YX n.data n.YS:=⟨h.ni.data,h.tape.1,h.tape.2⟩
 refine⟨?_,?_⟩
 .show (if YX n.data n.YS then n.data else [])=n.data;rw[if_pos ht]
 .show (if YX n.data n.YS then ((O n.data):Int) else 0)=(O n.data);rw[if_pos ht]
theorem dV(h:PN C b L X n)(p:Kf):(YL (ZM n) p).n.data=n.data:=by
 cases p<;>exact (dU h).1
theorem Full.ku(h:Full n)(l:YF):Full (Zu n l).n:=by
 rcases (Xu n l).2 with k|⟨_,_,_,_,e⟩|⟨_,_,_,_,e⟩
 .unfold Full;rw[k.data];exact h
 .rw[e];unfold Full Znr;simp only[ae];unfold Full at h;omega
 .rw[e];unfold Full Zns;simp only[ae];unfold Full at h;omega
theorem Full.kv(h:Full n)(D:Ec n (Yi n).n):Full (Yi n).n:=by
 unfold Full at h ⊢;rcases D.Zp with⟨_,e⟩|⟨_,_,_,_,e,_⟩
 .rw[e];exact h
 .rw[e,ae];omega
theorem Full.fin(hf:Full n)(h:PN C b L X n)(p:Kf):Full (YL (ZM n) p).n:=by
 unfold Full;rw[dV h];exact hf
theorem dW(h:PN C b L X n){k:Nat}(hk:k<=33)(hq:Qs n.data n.YS k≠0):Full n:=by
 have ht:YX n.data n.YS:=⟨h.ni.data,h.tape.1,h.tape.2⟩
 unfold Qs at hq;rw[if_neg (fun q=>q ht)]at hq;unfold Full;split at hq
 .omega
 .exact absurd rfl hq
theorem Ed(h:PN C b L X n){c:Yn}(hc:ZD c)(hq:Jj n.data n.YS c≠0):Full n:=by
 have ht:YX n.data n.YS:=⟨h.ni.data,h.tape.1,h.tape.2⟩
 unfold Jj at hq;rw[if_neg (fun q=>q ht),if_neg (fun q=>q hc)]at hq;exact dW h nT hq
theorem Za0(h:PN C b L X n){v:Vt}(hv:Yo v)(hq:QW n.data n.YS v≠0):Full n:=by
 have ht:YX n.data n.YS:=⟨h.ni.data,h.tape.1,h.tape.2⟩
 unfold QW at hq;rw[if_neg (fun q=>q ht),if_neg (fun q=>q hv)]at hq;exact dW h nT hq
theorem dX(hb:ZD b):ME (PN C b L X) (PJ C b) (fun l=>l.ZR=0/\l.b=b/\l.Jp=L) (fun m=>m.ZR=1/\m.b=b/\m.Jp=X/\m.to=L) Full (fun n=>∃a vs,n.Zp=B (.Vy a L b vs)):=by
 refine⟨fun n k h=>h,fun n l _ _ _ h=>h.ku l,fun n h hp hf=>hf.kv (Yr hp h.Yl).1,fun n p h hp hf=>hf.fin h p,fun n k h=>h,fun n ⟨a,vs,h⟩ e=>(by rw[e]at h;cases h),fun n p h hp ⟨a,vs,hq⟩=>?_,fun n l h hp hl ⟨k0,k1,k2⟩=>?_⟩
 .rw[hq]at hp;obtain rfl:=Option.some.inj hp;exact .inr ⟨_,o.2 rfl,rfl,rfl,by show ((ZM n).me:Int)=X;rw[show (ZM n).me=n.me from rfl,h.ni.me],rfl⟩
 .have e:Zu n l=YA n l:=by unfold Zu;rw[if_pos k0]
  rw[e];unfold YA;rw[k1,k2,if_neg (by rw[h.pr0 hb h.Zm];simp)];by_cases q1:n.Zm.p=b
  .rw[if_pos q1];exact .inr (.inr ⟨_,o.2 rfl,rfl,rfl,by show (n.me:Int)=X;rw[h.ni.me],rfl⟩)
  .rw[if_neg q1];by_cases q2:Jj n.data n.YS b=0
   .rw[if_neg (by simp[q2])];exact .inr (.inl ⟨_,_,rfl⟩)
   .rw[if_pos q2];exact .inl (Ed h hb q2)
theorem Zez(hr:n.Zg=B r)(l:YF):∃r',(Zu n l).n.Zg=B r'/\VO r r':=by
 rcases (Xu n l).2 with k|⟨_,_,_,_,e⟩|⟨_,_,_,_,e⟩
 .exact k.on hr
 .rw[e];exact⟨r,hr,VO.refl r⟩
 .rw[e];exact⟨r,hr,VO.refl r⟩
theorem ZeA(h:PN C b L L n)(hp:n.Zp=aa)(hr:n.Zg=B r):∃r',(Yi n).n.Zg=B r'/\XQ r r':=by
 obtain⟨r0,h1,h2⟩:=h.Z1 rfl;rw[hr]at h1;obtain rfl:=Option.some.inj h1;rcases (Yr hp h.Yl).1.VN with⟨e,_⟩|⟨r2,e,q,_⟩|⟨r2,r3,e,_,e3,k,_,_,_⟩
 .rw[e]at hr;cases hr
 .rw[e]at hr;obtain rfl:=Option.some.inj hr;rw[h2]at q;exact absurd q h.Zm
 .rw[e]at hr;obtain rfl:=Option.some.inj hr;exact⟨r3,e3,k⟩
theorem ZeB(hr:n.Zg=B r)(p:Kf):∃r',(YL (ZM n) p).n.Zg=B r'/\XQ r r':=by
 cases p with
 | Vy a to b' vs=>exact⟨r,hr,XQ.refl r⟩
 | TC a to v=>exact⟨r,hr,XQ.refl r⟩
 | Zm a vs cur=>
  show ∃r',(if cur=true then n.Zg.map (fun r=>{ r with ZF:=ins r.ZF n.me vs }) else n.Zg)=B r'/\XQ r r';rw[hr];split
  .exact⟨_,rfl,⟨rfl,fun _ _ h=>h,fun h=>h,fun k h=>Has.ins h _ _,fun _ _ h=>h⟩⟩
  .exact⟨r,rfl,XQ.refl r⟩
def PU(Q:Xw->Prop)(n:Nd):Prop:=∃r,n.Zg=B r/\Q r
theorem Ee{Q:Xw->Prop}(hQ:∀r r',XQ r r'->Q r->Q r'){A G:YF->Prop}(hit:∀n l,PN C b L L n->n.Zp=aa->PJ C b l->A l->PU Q (Zu n l).n):ME (PN C b L L) (PJ C b) A G (PU Q) (fun _=>False):=by
 refine⟨fun n k h=>h,fun n l _ _ _ ⟨r,h1,h2⟩=>?_,fun n h hp ⟨r,h1,h2⟩=>?_,fun n p h hp ⟨r,h1,h2⟩=>?_,fun n k h=>h,fun n h=>h.elim,fun n p _ _ h=>h.elim,fun n l h hp hl hA=>.inl (hit n l h hp hl hA)⟩
 .obtain⟨r',e,k⟩:=Zez h1 l;exact⟨r',e,hQ r r' k.k h2⟩
 .obtain⟨r',e,k⟩:=ZeA h hp h1;exact⟨r',e,hQ r r' k h2⟩
 .obtain⟨r',e,k⟩:=ZeB h1 p;exact⟨r',e,hQ r r' k h2⟩
theorem KX{G:YF->Prop}:ME (PN C b L L) (PJ C b) (fun m=>m.ZR=1/\m.b=b/\m.Jp=X/\m.to=L) G (PU fun r=>Has r.ZF X) (fun _=>False):=by
 refine Ee (fun r r' k h=>k.ZF _ h) (fun n l h hp hl ⟨k0,k1,k2,_⟩=>?_);obtain⟨r,h1,h2⟩:=h.Z1 rfl;have e:Zu n l=Ym n l:=by unfold Zu;rw[if_neg nT,if_pos (.inl k0)]
 rw[e];unfold Ym;rw[h1];simp only;rw[if_pos k0,if_pos (by rw[k1,h2])];refine⟨_,rfl,?_⟩;show Has (ins r.ZF l.Jp l.vs) X;rw[k2];exact Has.now _ _ _
end
theorem PN.ac0{C:List Cm}{b:Yn}{L:Nat}(h:PN C b L X n){v:Vt}(hv:Yo v)(hle:¬ZE v.b n.Zm.p):Xi n.Zm.p n.Zm.l v=0:=by
 unfold Xi;rw[if_neg (by rw[KV h.ni.Zm h.YZ];simp),if_neg (fun q=>q hv),if_neg hle]
theorem Laws.and{I:Nd->Prop}{J K:YF->Prop}{E:Nd->Prop}(W:Laws I J K)(e1:∀n k,E n->E { n with Zf:=k })(e2:∀n l,I n->n.Zp=aa->J l->E n->E (Zu n l).n)(e3:∀n,I n->n.Zp=aa->E n->E (Yi n).n)(e4:∀n p,I n->n.Zp=B p->E n->E (YL (ZM n) p).n):Laws (fun n=>I n/\E n) J K:=
 ⟨fun n k h=>⟨W.box n k h.1,e1 n k h.2⟩,fun n l h hp hl=>⟨⟨(W.ku n l h.1 hp hl).1,e2 n l h.1 hp hl h.2⟩,(W.ku n l h.1 hp hl).2⟩,fun n h hp=>⟨⟨(W.kv n h.1 hp).1,e3 n h.1 hp h.2⟩,(W.kv n h.1 hp).2⟩,fun n p h hp=>⟨⟨(W.fin n p h.1 hp).1,e4 n p h.1 hp h.2⟩,(W.fin n p h.1 hp).2⟩⟩
theorem Ta(n:Nd)(l:YF):VP n (Zu n l).n:=by
 rcases (Xu n l).2 with k|⟨_,_,_,_,e⟩|⟨_,_,_,_,e⟩
 .exact k.go
 .rw[e];exact .same rfl rfl rfl rfl rfl
 .rw[e];exact .same rfl rfl rfl rfl rfl
theorem Tb(n:Nd)(p:Kf):VP n (YL (ZM n) p).n:=by
 cases p<;>exact .same rfl rfl rfl rfl rfl
section
variable {C:List Cm} {b:Yn} {L X Y:Nat} {G:YF->Prop}
theorem Cn{s:Int}(hv:Yo (QC s b x)):ME (PN C b L X) (PJ C b) (fun l=>l.ZR=2/\l.v=QC s b x/\l.Jp=L) (fun m=>m.ZR=3/\m.v=QC s b x/\m.Jp=X/\m.to=L) Full (fun n=>∃a,n.Zp=B (.TC a L (QC s b x))):=by
 refine⟨fun n k h=>h,fun n l _ _ _ h=>h.ku l,fun n h hp hf=>hf.kv (Yr hp h.Yl).1,fun n p h hp hf=>hf.fin h p,fun n k h=>h,fun n ⟨a,h⟩ e=>(by rw[e]at h;cases h),fun n p h hp ⟨a,hq⟩=>?_,fun n l h hp hl ⟨k0,k1,k2⟩=>?_⟩
 .rw[hq]at hp;obtain rfl:=Option.some.inj hp;exact .inr ⟨_,o.2 rfl,rfl,rfl,by show ((ZM n).me:Int)=X;rw[show (ZM n).me=n.me from rfl,h.ni.me],rfl⟩
 .have e:Zu n l=asked n l:=by
   unfold Zu;rw[if_neg nT,if_neg nT,if_pos k0]
  rw[e];unfold asked;rw[k1,k2,if_neg (by rw[h.ac0 hv h.Zm];simp)];by_cases q1:QC s b x∈n.Zm.l
  .rw[if_pos q1];exact .inr (.inr ⟨_,o.2 rfl,rfl,rfl,by show (n.me:Int)=X;rw[h.ni.me],rfl⟩)
  .rw[if_neg q1];by_cases q2:QW n.data n.YS (QC s b x)=0
   .rw[if_neg (by simp[q2])];exact .inr (.inl ⟨_,rfl⟩)
   .rw[if_pos q2];exact .inl (Za0 h hv q2)
theorem Ef{s:Int}:ME (PN C b L L) (PJ C b) (fun m=>m.ZR=3/\m.v=QC s b x/\m.Jp=X/\m.to=L) G (PU fun r=>nH r s X) (fun _=>False):=by
 refine Ee (fun r r' k h=>k.YZ _ _ h) (fun n l h hp hl ⟨k0,k1,k2,_⟩=>?_);obtain⟨r,h1,h2⟩:=h.Z1 rfl;have e:Zu n l=Ym n l:=by unfold Zu;rw[if_neg nT,if_pos (.inr k0)]
 rw[e];unfold Ym;rw[h1];simp only;have hb:l.v.b=b:=by rw[k1];rfl
 have hs:l.v.Zt=s:=by rw[k1];rfl
 rw[if_neg nT,if_neg (by rw[hb,h2];simp)];have hV:nH { r with YZ:=ins r.YZ l.v.Zt (QY r l) } s X:=by
  show Has ((Yg (ins r.YZ l.v.Zt (QY r l)) s).getD []) X;rw[Xb,if_pos hs];show Has (QY r l) X;unfold QY;rw[k2];exact Has.now _ _ _
 split
 .obtain⟨k,_,_⟩:=Uc (TD n r l) l.v.Zt l.v.cm;obtain⟨r',e1,e2⟩:=k.on (r:={ r with YZ:=ins r.YZ l.v.Zt (QY r l) }) rfl;exact⟨r',e1,e2.k.YZ _ _ hV⟩
 .exact⟨_,rfl,hV⟩
theorem KY{j:Int}(h:Has n.Zh j)(l:YF):Has (Zu n l).n.Zh j:=(Ta n l).Zh j h
theorem KZ{j:Int}(h:Has n.Zh j)(hp:n.Zp=aa)(hn:PN C b L X n):Has (Yi n).n.Zh j:=by rw[(Yr hp hn.Yl).1.Zh];exact h
theorem Ia{j:Int}(h:Has n.Zh j)(p:Kf):Has (YL (ZM n) p).n.Zh j:=(Tb n p).Zh j h
theorem kD(hX:X<5)(hC:(O C)<=100000)(hb:ZD b)(j:Int):Laws (fun n=>PN C b L X n/\Has n.Zh j) (PJ C b) (PJ C b):=
 (JH hX hC hb).and (fun n k h=>h) (fun n l _ _ _ h=>KY h l) (fun n hn hp h=>KZ h hp hn) (fun n p _ _ h=>Ia h p)
theorem tq{j:Int}:ME (fun n=>PN C b L Y n/\Has n.Zh j) (PJ C b) (fun m=>m.ZR=5/\m.v.Zt=j/\m.Jp=X/\m.to=Y) (fun m=>m.ZR=6/\m.v.Zt=j/\m.to=X) (fun _=>False) (fun _=>False):=by
 refine⟨fun n k h=>h,fun n l _ _ _ h=>h,fun n _ _ h=>h,fun n p _ _ h=>h,fun n k h=>h,fun n h=>h.elim,fun n p _ _ h=>h.elim,fun n l h hp hl ⟨k0,k1,k2,_⟩=>.inr (.inr ?_)⟩;have e:Zu n l=Qd n l:=by
  unfold Zu;rw[if_neg nT,if_neg nT,if_neg nT,if_neg nT,if_pos k0]
 rw[e];unfold Qd;rw[k1]
 cases q:Yg n.Zh j with
 | none=>exact absurd q h.2
 | some x=>exact⟨_,o.2 rfl,rfl,rfl,k2⟩
theorem Co{j:Int}:ME (PN C b L X) (PJ C b) (fun m=>m.ZR=6/\m.v.Zt=j/\m.to=X) G (fun n=>Has n.Zh j) (fun _=>False):=by
 refine⟨fun n k h=>h,fun n l _ _ _ h=>KY h l,fun n hn hp h=>KZ h hp hn,fun n p _ _ h=>Ia h p,fun n k h=>h,fun n h=>h.elim,fun n p _ _ h=>h.elim,fun n l h hp hl ⟨k0,k1,_⟩=>.inl ?_⟩;have e:Zu n l=X8 n l.v.Zt l.v.cm:=by
  unfold Zu;rw[if_neg nT,if_neg nT,if_neg nT,if_neg nT,if_neg nT,if_pos k0]
 rw[e,k1];exact (Uc n j l.v.cm).2.1
def TM(x:Cm)(n:Nd):Prop:=x∈n.Zr\/x∈n.Zw
theorem TM.go{x:Cm}{n m:Nd}(h:TM x n)(g:VP n m):TM x m:=by
 rcases h with h|h
 .exact g.Zr x h
 .obtain⟨e,he⟩:=g.Zw;exact .inr (by rw[he];exact U.2 (.inl h))
theorem TM.kv(h:TM x n)(D:Ec n (Yi n).n):TM x (Yi n).n:=by
 unfold TM;rw[D.Zr,D.Zw];exact h
theorem dY:ME (PN C b L X) (PJ C b) (fun m=>m.ZR=4/\m.v.cm=x/\m.to=X) G (TM x) (fun _=>False):=by
 refine⟨fun n k h=>h,fun n l _ _ _ h=>h.go (Ta n l),fun n hn hp h=>h.kv (Yr hp hn.Yl).1,fun n p _ _ h=>h.go (Tb n p),fun n k h=>h,fun n h=>h.elim,fun n p _ _ h=>h.elim,fun n l h hp hl ⟨k0,k1,_⟩=>.inl ?_⟩;have e:Zu n l=⟨add n l.v.cm,[],[]⟩:=by
  unfold Zu;rw[if_neg nT,if_neg nT,if_neg nT,if_pos k0]
 rw[e,k1];exact (Ck n x).2
theorem Nq(h:PN C b L X n){p:Kf}(hp:n.Zp=B p):(YL (ZM n) p).n.Zm=WY p:=by
 cases p<;>rfl
theorem RH:(∀n l,PN C b L X n->n.Zm.p=b->(Zu n l).n.Zm.p=b)/\(∀n,PN C b L X n->n.Zp=aa->n.Zm.p=b->(Yi n).n.Zm.p=b)/\∀n p,PN C b L X n->n.Zp=B p->n.Zm.p=b->(YL (ZM n) p).n.Zm.p=b:=by
 refine⟨fun n l h e=>?_,fun n h hp e=>by rw[(Yr hp h.Yl).1.Zm];exact e,fun n p h hp e=>?_⟩
 .rcases (Xu n l).2 with k|⟨_,_,_,_,q⟩|⟨_,_,_,_,q⟩
  .rw[k.Zm];exact e
  .rw[q];exact e
  .rw[q];exact e
 .rw[Nq h hp];obtain⟨h1,h2,_⟩:=h.AC p hp;rw[e]at h2;exact Pj h2 h1
theorem dZ{A:YF->Prop}(hit:∀n l,PN C b L X n->n.Zp=aa->PJ C b l->A l->(n.Zm.p=b\/Full n)\/∃p,(Zu n l).n.Zp=B p/\(WY p).p=b):ME (PN C b L X) (PJ C b) A G (fun n=>n.Zm.p=b\/Full n) (fun n=>∃p,n.Zp=B p/\(WY p).p=b):=by
 obtain⟨o1,o2,o3⟩:=RH (C:=C) (b:=b) (L:=L) (X:=X);have stay:∀n l,PN C b L X n->n.Zm.p=b\/Full n->(Zu n l).n.Zm.p=b\/Full (Zu n l).n:=fun n l h q=>by
  rcases q with q|q
  .exact .inl (o1 n l h q)
  .exact .inr (q.ku l)
 refine⟨fun n k h=>h,fun n l h _ _ q=>stay n l h q,fun n h hp q=>?_,fun n p h hp q=>?_,fun n k h=>h,fun n ⟨p,h,_⟩ e=>(by rw[e]at h;cases h),fun n p h hp ⟨p',hq,e⟩=>?_,fun n l h hp hl hA=>?_⟩
 .rcases q with q|q
  .exact .inl (o2 n h hp q)
  .exact .inr (q.kv (Yr hp h.Yl).1)
 .rcases q with q|q
  .exact .inl (o3 n p h hp q)
  .exact .inr (q.fin h p)
 .rw[hq]at hp;obtain rfl:=Option.some.inj hp;exact .inl (.inl (by rw[Nq h hq];exact e))
 .rcases hit n l h hp hl hA with q|q
  .exact .inl (stay n l h q)
  .exact .inr (.inl q)
theorem I4(hb:ZD b):ME (PN C b L X) (PJ C b) (fun l=>l.ZR=0/\l.b=b) G (fun n=>n.Zm.p=b\/Full n) (fun n=>∃p,n.Zp=B p/\(WY p).p=b):=by
 refine dZ fun n l h hp hl ⟨k0,k1⟩=>?_;have e:Zu n l=YA n l:=by unfold Zu;rw[if_pos k0]
 rw[e];unfold YA;rw[k1,if_neg (by rw[h.pr0 hb h.Zm];simp)];by_cases q1:n.Zm.p=b
 .exact .inl (.inl q1)
 .rw[if_neg q1];by_cases q2:Jj n.data n.YS b=0
  .rw[if_neg (by simp[q2])];exact .inr ⟨_,rfl,rfl⟩
  .exact .inl (.inr (Ed h hb q2))
theorem Wa:∀(k:List YF) (n:Nd),(Zy n k).n.Zp=aa->Xs n (Zy n k).n:=by
 intro k
 induction k with
 | nil=>intro n _;unfold Zy;exact⟨.same rfl rfl rfl rfl rfl,rfl,rfl,rfl,rfl,UR.refl _⟩
 | cons l k ih=>
  intro n h;unfold Zy at h ⊢;by_cases hp:n.Zp.isSome=true
  .rw[if_pos hp]at h ⊢;exact⟨.same rfl rfl rfl rfl rfl,rfl,rfl,rfl,rfl,UR.refl _⟩
  .rw[if_neg hp]at h ⊢;have h:(Zy (Zu { n with Zf:=k } l).n k).n.Zp=aa:=h;have K:=ih _ h;have hq:(Zu { n with Zf:=k } l).n.Zp=aa:=by rw[<-K.Zp];exact h
   have hn:Xs n { n with Zf:=k }:=⟨.same rfl rfl rfl rfl rfl,rfl,rfl,rfl,rfl,UR.refl _⟩
   rcases (Xu { n with Zf:=k } l).2 with q|⟨_,_,_,_,e⟩|⟨_,_,_,_,e⟩
   .exact (hn.trans q).trans K
   .rw[e]at hq;cases hq
   .rw[e]at hq;cases hq
theorem Ti(h:PN C b L L n)(hp:n.Zp=aa)(hr:n.Zg=B r):r.b=b/\Z2 (Zn n)=Js n r:=by
 obtain⟨r0,h1,h2⟩:=h.Z1 rfl;rw[hr]at h1;obtain rfl:=Option.some.inj h1;refine⟨h2,?_⟩;rcases U9 n with⟨e,_⟩|⟨r1,e,q,_⟩|⟨r1,e,q,e2⟩
 .rw[e]at hr;cases hr
 .rw[e]at hr;obtain rfl:=Option.some.inj hr;rw[h2]at q;exact absurd q h.Zm
 .rw[e2];unfold Z2;rw[hr]
theorem Ak{l:YF}(h:l∈(Z2 (Zn n)).ls):l∈(Yi n).ls:=by
 unfold Yi;split
 .exact h
 .exact U.2 (.inl h)
theorem TN:(Yi n).n.Zg=(Z2 (Zn n)).n.Zg/\(Yi n).n.Zp=(Z2 (Zn n)).n.Zp/\(Yi n).n.data=(Z2 (Zn n)).n.data:=by
 unfold Yi;split
 .exact⟨rfl,rfl,rfl⟩
 .exact⟨rfl,rfl,rfl⟩
theorem Za1(h:PN C b L L n)(hp:n.Zp=aa)(hb:n.Zm.p≠b):Full n\/∃p,(Yi n).n.Zp=B p/\(WY p).p=b:=by
 obtain⟨r,hr,_⟩:=h.Z1 rfl;obtain⟨h2,e⟩:=Ti h hp hr;have ZS:ZE n.Zm.p r.b:=by
  rw[h2];by_cases q:ZE n.Zm.p b
  .exact q
  .exact absurd (Pj q h.Zm) hb
 have hm:=h.may r hr;rw[TN.2.1,e];unfold Js;rw[if_pos ZS];by_cases q:Jj n.data n.YS r.b=0
 .rw[if_neg (by simp[q])];refine .inr ⟨_,rfl,?_⟩;show (if YG n.Zm.p n.Zm.l r.b=0 then (⟨r.b,n.Zm.l⟩:UH) else JJ).p=b;rw[if_pos (h.pr0 hm (L0 ZS)),<-h2]
 .exact .inl (Ed h hm q)
theorem tC(h:PN C b L L n)(hp:n.Zp=aa)(hb:n.Zm.p=b)(hr:n.Zg=B r)(hq:¬5<2*r.ZF.length){m:Nat}(hm:m<5)(hn:¬Has r.ZF m):(⟨0,L,m,b,SM,[]⟩:YF)∈(Yi n).ls:=by
 obtain⟨h2,e⟩:=Ti h hp hr;refine Ak ?_;rw[e];unfold Js;rw[if_neg (by rw[hb,h2];exact JW _),if_pos hq];unfold SP;refine ao.2 ⟨m,aw.2 hm,?_⟩;rw[if_pos (by unfold Has at hn;simpa using hn),h2,h.ni.me];exact o.2 rfl
theorem d7(h:PN C b L L n)(hp:n.Zp=aa)(hb:n.Zm.p=b)(hr:n.Zg=B r)(hq:5<2*r.ZF.length):(Yi n).n.Zg=B (XJ n r) /\
  ∀(s:Nat) x (m:Nat),s<40->Yg (XJ n r).ZT s=B x->Yg n.Zh s=aa->m<5->¬nH r s m->(⟨2,L,m,Jg,QC s b x,[]⟩:YF)∈(Yi n).ls:=by
 obtain⟨h2,e⟩:=Ti h hp hr;have er:Js n r=⟨{ n with Zg:=B (XJ n r) },Wr n (XJ n r),[]⟩:=by
  unfold Js;rw[if_neg (by rw[hb,h2];exact JW _),if_neg nT]
 refine⟨by rw[TN.1,e,er],fun s x m hs hx hk hm hv=>Ak ?_⟩;rw[e,er];show _∈Wr n (XJ n r);unfold Wr;refine ao.2 ⟨s,aw.2 hs,?_⟩;unfold WU;rw[hx];simp only;rw[if_pos hk];refine ao.2 ⟨m,aw.2 hm,?_⟩;unfold Pe;have hbk:(XJ n r).b=b:=by rw[(OQ n r (h.Yl r hr)).1.b,h2]
 rw[(Np n r).1,if_pos (by unfold nH Has at hv;simpa using hv),hbk,h.ni.me];exact o.2 rfl
theorem kE(h:PN C b L X n)(hX:X≠L)(hp:n.Zp=aa)(hb:n.Zm.p=b)(hm:ZD b)(hL:b.n=L)(hx:x∈n.Zr):(⟨4,X,L,Jg,QC 0 Jg x,[]⟩:YF)∈(Yi n).ls:=by
 refine Ak ?_;have hs:∃m:Nd,Zn n=m/\m.Zg=aa/\m.Zm=n.Zm/\m.me=n.me/\m.Zr=n.Zr:=by
  rcases U9 n with⟨e,e2⟩|⟨r,e,_,e2⟩|⟨r,e,q,_⟩
  .exact⟨_,e2,e,rfl,rfl,rfl⟩
  .exact⟨_,e2,rfl,rfl,rfl,rfl⟩
  .rw[hb]at q;exact absurd (h.VN hX r e) q
 obtain⟨m,e,e1,e2,e3,e4⟩:=hs;rw[e];unfold Z2;rw[e1];simp only;rw[e2,e3,hb,hL,h.ni.me];rw[if_pos ⟨by have:=hm.1;omega,fun q=>hX nT⟩];unfold U3;rw[e4,e3,e2,hb,hL,h.ni.me];exact bf.2 ⟨x,hx,rfl⟩
theorem Vb(n:Nd):(Z2 (Zn n)).n.Yt=n.Yt/\(Z2 (Zn n)).n.Zw=n.Zw/\(Z2 (Zn n)).n.me=n.me:=by
 have hs:(Zn n).Yt=n.Yt/\(Zn n).Zw=n.Zw/\(Zn n).me=n.me:=by
  rcases U9 n with⟨_,e⟩|⟨_,_,_,e⟩|⟨_,_,_,e⟩<;>rw[e]<;>exact⟨rfl,rfl,rfl⟩
 have hd:(Z2 (Zn n)).n.Yt=(Zn n).Yt/\(Z2 (Zn n)).n.Zw=(Zn n).Zw/\(Z2 (Zn n)).n.me=(Zn n).me:=by
  unfold Z2;split
  .unfold Js
   repeat' split
   all_goals exact⟨rfl,rfl,rfl⟩
  .split<;>exact⟨rfl,rfl,rfl⟩
 exact⟨by rw[hd.1,hs.1],by rw[hd.2.1,hs.2.1],by rw[hd.2.2,hs.2.2]⟩
theorem tD(hq:(Yi n).n.Zp=aa):(Yi n).n.Yt=(n.Yt+1)%5/\((Yi n).n.Yt≠n.me->n.Zw.length<40->∃bb,(⟨5,n.me,(Yi n).n.Yt,bb,QC n.Zw.length Jg Nv,[]⟩:YF)∈(Yi n).ls):=by
 obtain⟨t1,t2,t3⟩:=Vb n;have hp:(Z2 (Zn n)).n.Zp=aa:=by rw[<-TN.2.1];exact hq
 have e:Yi n=⟨JD (Z2 (Zn n)).n,(Z2 (Zn n)).ls++QZ (JD (Z2 (Zn n)).n),[]⟩:=by
  unfold Yi;rw[if_neg (by rw[hp];decide)]
 have et:(Yi n).n.Yt=(n.Yt+1)%5:=by
  rw[e];show ((Z2 (Zn n)).n.Yt+1)%5=_;rw[t1]
 refine⟨et,fun h1 h2=>?_⟩;rw[et]at h1 ⊢;rw[e];refine⟨Ws (JD (Z2 (Zn n)).n),U.2 (.inr ?_)⟩;unfold QZ;have q1:(JD (Z2 (Zn n)).n).Yt=(n.Yt+1)%5:=by
  show ((Z2 (Zn n)).n.Yt+1)%5=_;rw[t1]
 have q2:(JD (Z2 (Zn n)).n).Zw=n.Zw:=t2;have q3:(JD (Z2 (Zn n)).n).me=n.me:=t3;rw[q1,q2,q3,if_pos ⟨h1,h2⟩];exact o.2 rfl
end
def kF(n:Nd)(r:Xw)(t:Nat):Prop:=Has r.ZT t\/Has n.Zh t
theorem d8:∀(k s:Nat),(∀t,t<s->kF n r t)->Qe n r x k s=aa ->
  (∃t,s<=t/\t<s+k/\(∀u,u<=t->kF n r u)/\(Yg r.ZT t=B x\/Yg n.Zh t=B x))\/∀t,t<s+k->kF n r t:=by
 intro k
 induction k with
 | zero=>intro s h _;exact .inr fun t ht=>h t nT
 | succ k ih=>
  intro s h hn;unfold Qe at hn;by_cases q1:Yg r.ZT (s:Int)=B x\/Yg n.Zh (s:Int)=B x
  .refine .inl ⟨s,ab _,nT,fun u hu=>?_,q1⟩;by_cases e:u=s
   .subst e;rcases q1 with q|q
    .exact .inl (by unfold Has;rw[q];simp)
    .exact .inr (by unfold Has;rw[q];simp)
   .exact h u nT
  .rw[if_neg q1]at hn;by_cases q2:Yg r.ZT (s:Int)=aa/\Yg n.Zh (s:Int)=aa
   .rw[if_pos q2]at hn;cases hn
   .rw[if_neg q2]at hn;have ho:kF n r s:=by
     unfold kF Has;by_cases q:Yg r.ZT (s:Int)=aa
     .exact .inr fun e=>q2 ⟨q,e⟩
     .exact .inl q
    rcases ih (s+1) (fun t ht=>by
     by_cases e:t=s
     .rw[e];exact ho
     .exact h t nT) hn with⟨t,h1,h2,h3,h4⟩|h1
    .exact .inl ⟨t,nT,nT,h3,h4⟩
    .exact .inr fun t ht=>h1 t nT
theorem I5:∀(k s t:Nat),(∀u,u<s->kF n r u)->Qe n r x k s=B t->∀u,u<t->kF n r u:=by
 intro k
 induction k with
 | zero=>intro s t _ hn;cases hn
 | succ k ih=>
  intro s t h hn;unfold Qe at hn;by_cases q1:Yg r.ZT (s:Int)=B x\/Yg n.Zh (s:Int)=B x
  .rw[if_pos q1]at hn;cases hn
  .rw[if_neg q1]at hn;by_cases q2:Yg r.ZT (s:Int)=aa/\Yg n.Zh (s:Int)=aa
   .rw[if_pos q2]at hn;obtain rfl:=Option.some.inj hn;exact h
   .rw[if_neg q2]at hn;refine ih (s+1) t (fun u hu=>?_) hn;by_cases e:u=s
    .rw[e];unfold kF Has;by_cases q:Yg r.ZT (s:Int)=aa
     .exact .inr fun e=>q2 ⟨q,e⟩
     .exact .inl q
    .exact h u nT
def Put(n:Nd)(r:Xw)(x:Cm):Prop:=(∃s:Nat,s<40/\(∀u,u<=s->kF n r u)/\(Yg r.ZT s=B x\/Yg n.Zh s=B x))\/∀t,t<40->kF n r t
theorem kF.Ze{r':Xw}(h:kF n r t)(k:XQ r r'):kF n r' t:=by
 rcases h with h|h
 .unfold Has at h
  cases e:Yg r.ZT (t:Int) with
  | none=>exact absurd e h
  | some x=>exact .inl (by unfold Has;rw[k.ZT _ _ e];simp)
 .exact .inr h
theorem Put.Ze{r':Xw}(h:Put n r x)(k:XQ r r'):Put n r' x:=by
 rcases h with⟨s,h1,h2,h3⟩|h
 .refine .inl ⟨s,h1,fun u hu=>(h2 u hu).Ze k,?_⟩;rcases h3 with h3|h3
  .exact .inl (k.ZT _ _ h3)
  .exact .inr h3
 .exact .inr fun t ht=>(h t ht).Ze k
theorem tE(hl:n.Zw.length<=40)(h0:∀t,t<n.Zw.length->Has n.Zh (t:Int)):Put n (J4 n r x) x:=by
 have hb:∀u,u<n.Zw.length->kF n r u:=fun u hu=>.inr (h0 u hu);unfold J4
 cases hf:free n r x with
 | none=>
  simp only;rcases d8 _ _ hb hf with⟨t,h1,h2,h3,h4⟩|h
  .exact .inl ⟨t,nT,h3,h4⟩
  .exact .inr fun t ht=>h t nT
 | some s=>
  simp only;obtain⟨q1,q2,_,_⟩:=No _ _ _ hf;have q3:=I5 _ _ _ hb hf;have hs:Yg (ins r.ZT (s:Int) x) (s:Int)=B x:=by rw[Xb,if_pos rfl]
  refine .inl ⟨s,nT,fun u hu=>?_,.inl hs⟩;by_cases e:u=s
  .subst e;exact .inl (by unfold Has;rw[hs];simp)
  .rcases q3 u nT with q|q
   .exact .inl (Has.ins q _ _)
   .exact .inr q
theorem eh(hl:n.Zw.length<=40)(h0:∀t,t<n.Zw.length->Has n.Zh (t:Int)):∀(l:List Cm) (r:Xw),∀x∈l,Put n (Jb n r l) x:=by
 intro l
 induction l with
 | nil=>intro r x hx;cases hx
 | cons y l ih=>
  intro r x hx;show Put n (Jb n (J4 n r y) l) x;rcases a8.1 hx with rfl|hx
  .exact (tE hl h0).Ze (Vd n l _)
  .exact ih _ x hx
theorem tF{C:List Cm}{b:Yn}{L:Nat}(h:PN C b L L n)(r:Xw)(hx:x∈n.Zr):Put n (XJ n r) x:=by
 unfold XJ;refine eh h.ni.KQ (fun t ht=>?_) _ _ x hx;have:=h.ni.Zw t ht;unfold Has;intro e;rw[e]at this
 cases this
theorem tH{β:Type}{l:List (Int × β)}(h:∀X:Nat,X<5->X≠9->Has l X):5<2*(O l):=by
 have:=OM (l:=[(0:Int),1,2,3,4]) (C:=l.map (·.1)) Iw (fun x hx=>by
  have:∃X:Nat,X<5/\x=X:=by
   simp only[a8,bk,or_false]at hx;rcases hx with rfl|rfl|rfl|rfl|rfl
   .exact⟨0,nT,rfl⟩
   .exact⟨1,nT,rfl⟩
   .exact⟨2,nT,rfl⟩
   .exact⟨3,nT,rfl⟩
   .exact⟨4,nT,rfl⟩
  obtain⟨X,hX,rfl⟩:=this;have:=h X hX nT;unfold Has at this
  cases e:Yg l (X:Int) with
  | none=>exact absurd e this
  | some v=>exact ny e)
 rw[a5]at this;simp at this;omega
theorem Ib{β:Type}{l:List (Int × β)}{L:Nat}(hL:L<5)(h:∀X:Nat,X<5->X≠L->Has l X):5<2*(O l):=by
 have hm:∀X:Nat,X<5->X≠L->(X:Int)∈l.map (·.1):=fun X hX hn=>by
  have:=h X hX hn;unfold Has at this
  cases e:Yg l (X:Int) with
  | none=>exact absurd e this
  | some v=>exact ny e
 have:∃a b c:Nat,a<5/\b<5/\c<5/\a≠L/\b≠L/\c≠L/\a≠b/\a≠c/\b≠c:=by
  match L,hL with
  | 0,_=>exact⟨1,2,3,Iw⟩
  | 1,_=>exact⟨0,2,3,Iw⟩
  | 2,_=>exact⟨0,1,3,Iw⟩
  | 3,_=>exact⟨0,1,2,Iw⟩
  | 4,_=>exact⟨0,1,2,Iw⟩
 obtain⟨a,c,d,h1,h2,h3,h4,h5,h6,h7,h8,h9⟩:=this;have:=OM (l:=[(a:Int),(c:Int),(d:Int)]) (C:=l.map (·.1)) Ig (fun x hx=>by
  simp only[a8,bk,or_false]at hx;rcases hx with rfl|rfl|rfl
  .exact hm a h1 h4
  .exact hm c h2 h5
  .exact hm d h3 h6)
 rw[a5]at this;simp at this;omega
section
variable {C:List Cm} {b:Yn} {L X:Nat} {w:Wd}
theorem kG(h:PW C b L w)(hC:(O C)<=100000)(hb:ZD b)(hX:X<5)(hf:VI (w.Zb X)):∃d:Nd,PN C b L X d/\d.Zp=aa/\Xs (w.Zb X) d/\(∀l∈(Yi d).ls,l∈T8 w) /\
  ∃k,(kq w).Zb X = { (Yi d).n with Zf:=k }:=by
 have hu:=(h.nd X hX).up;have hd:=JF (JH (C:=C) (b:=b) (L:=L) hX hC hb) (w.Zb X).Zf (w.Zb X) (h.nd X hX) (h.Ub X hX);have hs:=Ui hu hf;refine⟨(Zy (w.Zb X) (w.Zb X).Zf).n,hd.1,hf.2,Wa _ _ hf.2,fun l hl=>UG.2 (.inr ⟨X,hX,by rw[hs];exact U.2 (.inr hl)⟩),?_⟩;rw[Qf w X hX hu,hs];exact⟨_,rfl⟩
end
def Ct(w:Nat->Wd):Nat->Nat->Prop
 | _,0=>True
 | 0,_+1=>False
 | t+1,k+1=>Ct w t (k+1)\/(Clear (w t)/\Ct w t k)
def sh{α:Type}(w:Nat->α)(a:Nat):Nat->α:=fun t=>w (a+t)
theorem Ct.zero(w:Nat->Wd)(t:Nat):Ct w t 0:=by cases t<;>exact trivial
theorem Ct.mono{w:Nat->Wd}{k:Nat}(h:Ct w t k):Ct w (t+1) k:=by
 cases k with
 | zero=>exact Ct.zero _ _
 | succ k=>exact .inl h
theorem Ct.less{w:Nat->Wd}:∀{t k:Nat},Ct w t (k+1)->Ct w t k:=by
 intro t
 induction t with
 | zero=>intro k h;exact h.elim
 | succ t ih=>
  intro k h;rcases h with h|⟨_,h⟩
  .exact (ih h).mono
  .exact h.mono
theorem Ct.split{w:Nat->Wd}:∀(t j k:Nat),Ct w t (j+k)->∃a,a<=t/\Ct w a j/\Ct (sh w a) (t-a) k:=by
 intro t
 induction t with
 | zero=>
  intro j k h
  cases k with
  | zero=>exact⟨0,ab _,h,Ct.zero _ _⟩
  | succ k=>exact h.elim
 | succ t ih=>
  intro j k h
  cases k with
  | zero=>exact⟨t+1,ab _,h,Ct.zero _ _⟩
  | succ k=>
   rcases h with h|⟨hc,h⟩
   .obtain⟨a,h1,h2,h3⟩:=ih j (k+1) h;exact⟨a,nT,h2,by rw[show t+1-a=t-a+1 by omega];exact h3.mono⟩
   .obtain⟨a,h1,h2,h3⟩:=ih j k h;refine⟨a,nT,h2,?_⟩;rw[show t+1-a=t-a+1 by omega];refine .inr ⟨?_,h3⟩;show Clear (w (a+(t-a)));rw[show a+(t-a)=t by omega];exact hc
structure Yj(S:Cm->Prop)(C:List Cm)(b:Yn)(L T:Nat)(w:Nat->Wd)(g:Nat->Gh)(M:Nat->Nat->Yn):Prop where
 hC:(O C)<=100000
 hb:ZD b
 hL:L<5
 hn:b.n=L
 nx:∀t,w (t+1)=kq (w t)
 pw:PW C b L (w 0)
 nf:∀t,t<=T->∀X,X<5->¬Full ((w t).Zb X)
 ti:∀t,t<=T->TI S (g t) (M t) (w t)
 mv:∀t,t<T->∀j b s x,(g t).V j b s x->(g (t+1)).V j b s x
 hS:∀x,S x->x.err=0
section
variable {S:Cm->Prop} {C:List Cm} {b:Yn} {L T:Nat} {w:Nat->Wd} {g:Nat->Gh} {M:Nat->Nat->Yn}
theorem Yj.at(tr:Yj S C b L T w g M):∀t,PW C b L (w t):=by
 intro t
 induction t with
 | zero=>exact tr.pw
 | succ t ih=>rw[tr.nx];exact ZaY ih tr.hC tr.hb
theorem Yj.sh(tr:Yj S C b L T w g M){a:Nat}(ha:a<=T):Yj S C b L (T-a) (sh w a) (Go.Proofs.YtdapjaalaomghaaGreatDoor.sh g a) (Go.Proofs.YtdapjaalaomghaaGreatDoor.sh M a):=
 ⟨tr.hC,tr.hb,tr.hL,tr.hn,fun t=>tr.nx (a+t),tr.at a,fun t ht=>tr.nf (a+t) nT,fun t ht=>tr.ti (a+t) nT,fun t ht=>tr.mv (a+t) nT,tr.hS⟩
theorem Yj.US(tr:Yj S C b L T w g M){Z Z':Nat->Prop}{k:Nat}(hZ:∀t,t<=T->Ct w t k->Z t)(st:∀t,t<T->Z' t->Z' (t+1))(go:∀t,t<T->Clear (w t)->Z t->Z' (t+1)):∀t,t<=T->Ct w t (k+1)->Z' t:=by
 intro t
 induction t with
 | zero=>intro _ h;exact h.elim
 | succ t ih=>
  intro ht h;rcases h with h|⟨hc,h⟩
  .exact st t nT (ih nT h)
  .exact go t nT hc (hZ t nT h)
theorem Yj.stays(tr:Yj S C b L T w g M){Z:Nat->Prop}(st:∀t,t<T->Z t->Z (t+1)){a:Nat}(h:Z a):∀t,a<=t->t<=T->Z t:=by
 intro t
 induction t with
 | zero=>intro h1 _;rw[show (0:Nat)=a by omega];exact h
 | succ t ih=>
  intro h1 h2;by_cases e:a=t+1
  .rw[<-e];exact h
  .exact st t nT (ih nT nT)
theorem Yj.Wy(tr:Yj S C b L T w g M)(hX:X<5){A G:YF->Prop}{E F:Nd->Prop}(H:ME (PN C b L X) (PJ C b) A G E F)(hs:Src A E F ((w t).Zb X)):
  (Src A E F ((w (t+1)).Zb X)\/∃m∈T8 (w t),G m)/\(VI ((w t).Zb X)->E ((w (t+1)).Zb X)\/∃m∈T8 (w t),G m):=by
 rw[tr.nx];exact ZaZ (tr.at t) tr.hC tr.hb hX H hs
theorem Yj.comes(tr:Yj S C b L T w g M){Y:Nat}(hY:Y<5){A:YF->Prop}{E F:Nd->Prop}(h:∃m∈T8 (w t),A m)(ht:∀m,A m->m.to=Y):Src A E F ((w (t+1)).Zb Y):=by
 rw[tr.nx];exact kC hY ((tr.at t).nd Y hY).up h (fun m q=>by have:=ht m q;omega)
theorem Yj.free(tr:Yj S C b L T w g M)(hX:X<5)(hf:VI ((w t).Zb X)):∃d:Nd,PN C b L X d/\d.Zp=aa/\Xs ((w t).Zb X) d/\(∀l∈(Yi d).ls,l∈T8 (w t)) /\
  ∃k,(w (t+1)).Zb X = { (Yi d).n with Zf:=k }:=by
 rw[tr.nx];exact kG (tr.at t) tr.hC tr.hb hX hf
def Zin(b:Yn)(n:Nd):Prop:=Src (fun _=>False) (fun n=>n.Zm.p=b\/Full n) (fun n=>∃p,n.Zp=B p/\(WY p).p=b) n
theorem Cp:ME (PN C b L X) (PJ C b) (fun _=>False) (fun _=>False) (fun n=>n.Zm.p=b\/Full n) (fun n=>∃p,n.Zp=B p/\(WY p).p=b):=
 dZ fun n l _ _ _ h=>h.elim
theorem Yj.Zio(tr:Yj S C b L T w g M)(hX:X<5)(h:Zin b ((w t).Zb X)):Zin b ((w (t+1)).Zb X):=by
 rcases (tr.Wy hX Cp h).1 with q|⟨_,_,q⟩
 .exact q
 .exact q.elim
theorem Yj.Pq(tr:Yj S C b L T w g M)(hX:X<5)(h:((w t).Zb X).Zm.p=b)(ht:t<T):((w (t+1)).Zb X).Zm.p=b:=by
 rcases (tr.Wy hX Cp (.inl (.inl h))).1 with (q|⟨p,q,e⟩|⟨_,_,q⟩)|⟨_,_,q⟩
 .rcases q with q|q
  .exact q
  .exact absurd q (tr.nf (t+1) nT X hX)
 ·-- Zip is Znt ZJg not go back
  have hs:=Kb (tr.at t) tr.hC tr.hb hX;have e2:((w (t+1)).Zb X).Zm=(step ((w t).Zb X)).n.Zm:=by
   rw[tr.nx,Qf _ X hX ((tr.at t).nd X hX).up]
  have:(step ((w t).Zb X)).n.Zm.p=b:=by
   have W:=(JH (C:=C) (b:=b) (L:=L) (X:=X) hX tr.hC tr.hb).and (E:=fun n=>n.Zm.p=b) (fun n k h=>h) (fun n l h _ _ q=>RH.1 n l h q) (fun n h hp q=>RH.2.1 n h hp q) (fun n p h hp q=>RH.2.2 n p h hp q);exact (Va W ((tr.at t).nd X hX).up ⟨(tr.at t).nd X hX,h⟩ ((tr.at t).Ub X hX)).1.2
  rw[e2];exact this
 .exact q.elim
 .exact q.elim
theorem Yj.Znu(tr:Yj S C b L T w g M):∀t,t<=T->Ct w t 1->Zin b ((w t).Zb L):=by
 refine tr.US (Z:=fun _=>True) (k:=0) (fun _ _ _=>trivial) (fun t _ h=>tr.Zio tr.hL h) (fun t ht hc _=>?_);obtain⟨d,hd,hp,_,_,k,e⟩:=tr.free tr.hL (hc L tr.hL);rw[e];by_cases q:d.Zm.p=b
 .exact .inl (.inl (RH.2.1 d hd hp q))
 .rcases Za1 hd hp q with q|q
  .exact .inl (.inr (q.kv (Yr hp hd.Yl).1))
  .exact .inr (.inl q)
def Za2(b:Yn)(n:Nd):Prop:=Src (fun l=>l.ZR=0/\l.b=b) (fun n=>n.Zm.p=b\/Full n) (fun n=>∃p,n.Zp=B p/\(WY p).p=b) n
def ej(b:Yn)(L X:Nat)(w:Wd):Prop:=
 Src (fun l=>l.ZR=0/\l.b=b/\l.Jp=L) Full (fun n=>∃a vs,n.Zp=B (.Vy a L b vs)) (w.Zb X) \/
 Src (fun m=>m.ZR=1/\m.b=b/\m.Jp=X/\m.to=L) (PU fun r=>Has r.ZF X) (fun _=>False) (w.Zb L)
theorem Yj.kH(tr:Yj S C b L T w g M)(hX:X<5)(h:Za2 b ((w t).Zb X)):Za2 b ((w (t+1)).Zb X):=by
 rcases (tr.Wy hX (I4 (G:=fun _=>False) tr.hb) h).1 with q|⟨_,_,q⟩
 .exact q
 .exact q.elim
theorem Yj.Al(tr:Yj S C b L T w g M)(hX:X<5)(h:ej b L X (w t)):ej b L X (w (t+1)):=by
 rcases h with h|h
 .rcases (tr.Wy hX (dX tr.hb) h).1 with q|q
  .exact .inl q
  .exact .inr (tr.comes tr.hL q fun m h=>h.2.2.2)
 .rcases (tr.Wy tr.hL (KX (X:=X) (G:=fun _=>False)) h).1 with q|⟨_,_,q⟩
  .exact .inr q
  .exact q.elim
def UJ(b:Yn)(l:YF):Prop:=(l.ZR=0->l.b≠b)/\(l.ZR=2->l.v.b≠b)
def UN(b:Yn)(n:Nd):Prop:=n.Zm.p≠b/\∀p,n.Zp=B p->(WY p).p≠b
structure Un(b:Yn)(L:Nat)(w:Wd):Prop where
 nd:∀X,X<5->X≠L->UN b (w.Zb X)
 Ub:∀X,X<5->∀l∈(w.Zb X).Zf,UJ b l
 PI:∀l∈w.Zo,UJ b l
theorem eu{a c:Yn}(h:ZE a c):a≠c:=fun e=>JW c (by rw[e]at h;exact h)
theorem ZeC(hX:X<5)(We:X≠L)(hC:(O C)<=100000)(hb:ZD b):Laws (fun n=>PN C b L X n/\UN b n) (fun l=>PJ C b l/\UJ b l) (fun l=>PJ C b l/\UJ b l):=by
 have W:=JH (C:=C) (b:=b) (L:=L) (X:=X) hX hC hb;refine⟨fun n k h=>⟨W.box n k h.1,h.2⟩,fun n l h hp hl=>?_,fun n h hp=>?_,fun n p h hp=>?_⟩
 .obtain⟨h1,h2⟩:=W.ku n l h.1 hp hl.1;obtain⟨hk,hc⟩:=Xu n l;refine⟨⟨h1,?_⟩,fun m hm=>⟨h2 m hm,fun e=>absurd e (hk m hm).1,fun e=>absurd e (hk m hm).2⟩⟩;rcases hc with k|⟨c1,_,_,_,e⟩|⟨c1,_,_,_,e⟩
  .exact⟨by rw[k.Zm];exact h.2.1,fun p q=>h.2.2 p (by rw[<-k.Zp];exact q)⟩
  .rw[e];refine⟨h.2.1,fun p q=>?_⟩;obtain rfl:=Option.some.inj q;exact hl.2.1 c1
  .rw[e];refine⟨h.2.1,fun p q=>?_⟩;obtain rfl:=Option.some.inj q;exact hl.2.2 c1
 .obtain⟨h1,h2⟩:=W.kv n h.1 hp;obtain⟨D,hA⟩:=Yr hp h.1.Yl;have Y4:∀r,n.Zg=B r->r.b≠b:=fun r hr=>eu (h.1.VN We r hr);refine⟨⟨h1,by rw[D.Zm];exact h.2.1,fun p q=>?_⟩,fun m hm=>⟨h2 m hm,fun e=>?_,fun e=>?_⟩⟩
  .rcases D.Zp with⟨e,_⟩|⟨r,hr,c1,_,_,e⟩
   .rw[e]at q;cases q
   .rw[e]at q;obtain rfl:=Option.some.inj q;show (if YG n.Zm.p n.Zm.l r.b=0 then (⟨r.b,n.Zm.l⟩:UH) else JJ).p≠b;rw[if_pos (h.1.pr0 (h.1.may r hr) (L0 c1))];exact Y4 r hr
  .obtain⟨r,hr,_,_,e2,_⟩:=hA m hm (.inl e);rw[e2 e];exact Y4 r hr
  .obtain⟨r,hr,_,_,_,e2,_⟩:=hA m hm (.inr e);rw[e2 e];exact Y4 r hr
 .obtain⟨h1,h2⟩:=W.fin n p h.1 hp;refine⟨⟨h1,by rw[Nq h.1 hp];exact h.2.2 p hp,fun q hq=>?_⟩,fun m hm=>⟨h2 m hm,fun e=>?_,fun e=>?_⟩⟩
  .have:(YL (ZM n) p).n.Zp=aa:=by cases p<;>rfl
   rw[this]at hq;cases hq
  .cases p with
   | Vy a to b' vs=>rw[o.1 hm]at e;cases e
   | TC a to v=>rw[o.1 hm]at e;cases e
   | Zm a vs cur=>cases hm
  .cases p with
   | Vy a to b' vs=>rw[o.1 hm]at e;cases e
   | TC a to v=>rw[o.1 hm]at e;cases e
   | Zm a vs cur=>cases hm
end
theorem I6(n:Nd)(s:Int)(x:Cm):(X8 n s x).n.Zg=n.Zg:=by
 have:∀(k:Nat) (n:Nd),(Ye k n).1.Zg=n.Zg:=by
  intro k
  induction k with
  | zero=>intro n;rfl
  | succ k ih=>
   intro n;unfold Ye;split
   .rfl
   .exact ih _
 exact this _ _
theorem Ps(n:Nd)(l:YF):(Zu n l).n.Zg=n.Zg\/∃r,n.Zg=B r /\
  ((l.ZR=1/\l.b=r.b/\(Zu n l).n.Zg=B { r with ZF:=ins r.ZF l.Jp l.vs }) \/
   (l.ZR=3/\l.v.b=r.b/\(Zu n l).n.Zg=B { r with YZ:=ins r.YZ l.v.Zt (QY r l) })):=by
 have hn:(Xk n l).Zg=n.Zg:=by unfold Xk;split<;>rfl
 unfold Zu;split
 .unfold YA
  repeat' split
  all_goals exact .inl rfl
 split
 .rename_i hk;unfold Ym
  cases hr:n.Zg with
  | none=>exact .inl hr
  | some r=>
   simp only;split
   .rename_i k1;split
    .rename_i q;exact .inr ⟨r,rfl,.inl ⟨k1,q,rfl⟩⟩
    .exact .inl hr
   .rename_i k1;have k3:l.ZR=3:=by
     rcases hk with hk|hk
     .exact absurd hk k1
     .exact hk
    split
    .exact .inl hr
    .rename_i q;have q:l.v.b=r.b:=by simpa using q
     split
     .exact .inr ⟨r,rfl,.inr ⟨k3,q,by rw[I6];rfl⟩⟩
     .exact .inr ⟨r,rfl,.inr ⟨k3,q,rfl⟩⟩
 split
 .unfold asked
  repeat' split
  all_goals exact .inl rfl
 split
 .unfold add;split<;>exact .inl rfl
 split
 .unfold Qd;split<;>exact .inl hn
 split
 .exact .inl (I6 _ _ _)
 .exact .inl hn
theorem Eg:∀(k:List YF) (n:Nd),∀m∈(Zy n k).ls,m.ZR≠0/\m.ZR≠2:=by
 intro k
 induction k with
 | nil=>intro n m hm;unfold Zy at hm;cases hm
 | cons l k ih=>
  intro n m hm;unfold Zy at hm;split at hm
  .cases hm
  .rcases U.1 hm with hm|hm
   .exact (Xu _ l).1 m hm
   .exact ih _ m hm
theorem Ic(n:Nd)(p:Kf):∀m∈(YL n p).ls,m.ZR≠0/\m.ZR≠2:=fun m hm=>by
 cases p with
 | Vy a to b' vs=>rw[o.1 hm];exact⟨(by decide:(1:Int)≠0),(by decide:(1:Int)≠2)⟩
 | TC a to v=>rw[o.1 hm];exact⟨(by decide:(3:Int)≠0),(by decide:(3:Int)≠2)⟩
 | Zm a vs cur=>cases hm
theorem kI{C:List Cm}{b:Yn}{L:Nat}(h:PN C b L L n)(hd:VI n->PN C b L L (Zy n n.Zf).n)(hq:¬(VI n/\n.Zm.p=b)):∀m∈(step n).ls,UJ b m:=fun m hm=>by
 have ok:m.ZR≠0/\m.ZR≠2->UJ b m:=fun q=>⟨fun e=>absurd e q.1,fun e=>absurd e q.2⟩
 cases hp:n.Zp with
 | some p=>
  have e:step n=YL (ZM n) p:=by unfold step;rw[if_pos h.up,hp]
  rw[e]at hm;exact ok (Ic _ p m hm)
 | none=>
  by_cases hf:VI n
  .rw[Ui h.up hf]at hm;rcases U.1 hm with hm|hm
   .exact ok (Eg _ _ m hm)
   .have D:=hd hf;have K:=Wa _ _ hf.2;have hA:=(Yr hf.2 D.Yl).2 m hm;have AG:¬(m.ZR=0\/m.ZR=2):=fun e=>by
     obtain⟨r,hr,c1,c2,_⟩:=hA e;obtain⟨r',UQ,e2⟩:=D.Z1 rfl;rw[hr]at UQ;obtain rfl:=Option.some.inj UQ;refine hq ⟨hf,?_⟩;rw[<-K.Zm,<-e2];exact Pj c2 c1
    exact ok ⟨fun e=>AG (.inl e),fun e=>AG (.inr e)⟩
  .have e:step n=Zy n n.Zf:=by
    unfold step;rw[if_pos h.up,hp];simp only;rw[if_pos]
    cases q:(Zy n n.Zf).n.Zp with
    | none=>exact absurd ⟨hp,q⟩ hf
    | some p=>rfl
   rw[e]at hm;exact ok (Eg _ _ m hm)
def NP(L:Nat)(n:Nd):Prop:=∀r,n.Zg=B r->∀X:Nat,X<5->X≠L->¬Has r.ZF X
theorem Am{β:Type}{l:List (Int × β)}{k j:Int}{v:β}(h:Has (ins l k v) j):j=k\/Has l j:=by
 unfold Has at h;rw[Xb]at h;by_cases e:k=j
 .exact .inl e.symm
 .rw[if_neg e]at h;exact .inr h
section
variable {S:Cm->Prop} {C:List Cm} {b:Yn} {L T:Nat} {w:Nat->Wd} {g:Nat->Gh} {M:Nat->Nat->Yn}
theorem ZeD(hL:L<5)(hC:(O C)<=100000)(hb:ZD b):Laws (fun n=>PN C b L L n/\NP L n) (fun l=>PJ C b l/\(l.ZR=1->l.b=b->l.Jp=L)) (PJ C b):=by
 have W:=JH (C:=C) (b:=b) (L:=L) (X:=L) hL hC hb;refine⟨fun n k h=>⟨W.box n k h.1,h.2⟩,fun n l h hp hl=>?_,fun n h hp=>?_,fun n p h hp=>?_⟩
 .obtain⟨h1,h2⟩:=W.ku n l h.1 hp hl.1;refine⟨⟨h1,fun r' UQ X hX We hH=>?_⟩,h2⟩;rcases Ps n l with e|⟨r,hr,⟨k1,k2,e⟩|⟨_,_,e⟩⟩
  .rw[e]at UQ;exact h.2 r' UQ X hX We hH
  .rw[e]at UQ;obtain rfl:=Option.some.inj UQ;rcases Am hH with q|q
   .obtain⟨r0,h3,h4⟩:=h.1.Z1 rfl;rw[hr]at h3;obtain rfl:=Option.some.inj h3;have:=hl.2 k1 (by rw[k2,h4]);omega
   .exact h.2 r hr X hX We q
  .rw[e]at UQ;obtain rfl:=Option.some.inj UQ;exact h.2 r hr X hX We hH
 .obtain⟨h1,h2⟩:=W.kv n h.1 hp;refine⟨⟨h1,fun r' UQ X hX We hH=>?_⟩,h2⟩;rcases (Yr hp h.1.Yl).1.VN with⟨_,e⟩|⟨_,_,_,e⟩|⟨r,r2,hr,_,e,_,_,_,k⟩
  .rw[e]at UQ;cases UQ
  .rw[e]at UQ;cases UQ
  .rw[e]at UQ;obtain rfl:=Option.some.inj UQ;rw[k]at hH;exact h.2 r hr X hX We hH
 .obtain⟨h1,h2⟩:=W.fin n p h.1 hp;refine⟨⟨h1,fun r' UQ X hX We hH=>?_⟩,h2⟩
  cases p with
  | Vy a to b' vs=>exact h.2 r' UQ X hX We hH
  | TC a to v=>exact h.2 r' UQ X hX We hH
  | Zm a vs cur=>
   have UQ:(if cur=true then n.Zg.map (fun r=>{ r with ZF:=ins r.ZF n.me vs }) else n.Zg)=B r':=UQ;split at UQ
   .cases e:n.Zg with
    | none=>rw[e]at UQ;cases UQ
    | some r=>
     rw[e]at UQ;obtain rfl:=Option.some.inj UQ;rcases Am hH with q|q
     .have:=h.1.ni.me;omega
     .exact h.2 r e X hX We q
   .exact h.2 r' UQ X hX We hH
theorem Yj.nI(tr:Yj S C b L T w g M)(ht:t<=T)(hX:X<5){vs:List Vt}(h:PF (g t) (M t) X b vs):((w t).Zb X).Zm.p=b:=by
 have N:=(tr.ti t ht).nd X hX;have P:=(tr.at t).nd X hX;have hm:=N.m;rw[Jn P.up]at hm;have:=h.Z1;rw[hm]at this;exact Pj this P.Zm
theorem Yj.ZZ(tr:Yj S C b L T w g M)(ht:t<T)(hu:Un b L (w t))(hf:VI ((w t).Zb L))(ho:((w t).Zb L).Zm.p=b):∀X,X<5->X≠L->Za2 b ((w (t+1)).Zb X)/\ej b L X (w (t+1)):=by
 have hN:=(tr.at t).nd L tr.hL;have TT:=tr.ti t nT;have hnp:NP L ((w t).Zb L):=fun r hr X hX We hH=>by
  unfold Has at hH
  cases e:Yg r.ZF (X:Int) with
  | none=>exact hH e
  | some vs=>
   have R:=(TT.nd L tr.hL).Zg r hr;obtain⟨r0,h1,h2⟩:=hN.Z1 rfl;rw[hr]at h1;obtain rfl:=Option.some.inj h1;have P:=R.ZF X vs e;rw[h2]at P;exact (hu.nd X hX We).1 (tr.nI nT hX P)
 have H5:∀l∈((w t).Zb L).Zf,PJ C b l/\(l.ZR=1->l.b=b->l.Jp=L):=fun l hl=>by
  refine⟨(tr.at t).Ub L tr.hL l hl,fun k1 k2=>?_⟩;have P:=(TT.Ub L tr.hL l hl).Vy k1;rw[k2]at P;have q:=tr.nI nT P.lt P;have lf:=((tr.at t).Ub L tr.hL l hl).li.Jp;by_cases e:l.Jp.toNat=L
  .omega
  .exact absurd q (hu.nd _ P.lt e).1
 have dl:=JF (ZeD (C:=C) (b:=b) (L:=L) tr.hL tr.hC tr.hb) ((w t).Zb L).Zf ((w t).Zb L) ⟨hN,hnp⟩ H5;obtain⟨d,hd0⟩:=ZN ((Zy ((w t).Zb L) ((w t).Zb L).Zf).n);rw[<-hd0]at dl;have hp:d.Zp=aa:=by rw[hd0];exact hf.2
 have K:=Wa _ _ hf.2;rw[<-hd0]at K;obtain⟨hd,ku⟩:=dl.1;have hdo:d.Zm.p=b:=by rw[K.Zm];exact ho
 obtain⟨r,hr,LN⟩:=hd.Z1 rfl;have hq:¬5<2*r.ZF.length:=by
  have kk:=(hd.ni.Zg r hr).ZF;have:=OM (l:=r.ZF.map (·.1)) (C:=[(L:Int)]) kk.1 (fun x hx=>by
   have h5:=kk.2 x hx;rw[o];by_cases e:x.toNat=L
   .omega
   .obtain⟨v,hv⟩:=nu hx;have:=ku r hr x.toNat nT e;rw[show ((x.toNat:Nat):Int)=x by omega]at this;exact absurd (by unfold Has;rw[hv];simp) this)
  rw[a5]at this;simp at this;omega
 intro X hX We;have hl:=tC hd hp hdo hr hq hX (ku r hr X hX We);have hm:(⟨0,L,X,b,SM,[]⟩:YF)∈T8 (w t):=UG.2 (.inr ⟨L,tr.hL,by
  rw[Ui hN.up hf];refine U.2 (.inr ?_);rw[<-hd0];exact hl⟩)
 have hb:(⟨0,L,X,b,SM,[]⟩:YF)∈((w (t+1)).Zb X).Zf:=by
  rw[tr.nx];exact (Sy hX ((tr.at t).nd X hX).up).2 (.inr ⟨hm,uK⟩)
 exact⟨.inr (.inr ⟨_,hb,rfl,rfl⟩),.inl (.inr (.inr ⟨_,hb,rfl,rfl,rfl⟩))⟩
theorem Yj.asked(tr:Yj S C b L T w g M)(h0:Un b L (w 0)):∀t,t<=T->Un b L (w t)\/∀X,X<5->X≠L->Za2 b ((w t).Zb X)/\ej b L X (w t):=by
 intro t
 induction t with
 | zero=>intro _;exact .inl h0
 | succ t ih=>
  intro ht;rcases ih nT with hu|h
  .by_cases hq:VI ((w t).Zb L)/\((w t).Zb L).Zm.p=b
   .exact .inr (tr.ZZ nT hu hq.1 hq.2)
   .have hX:∀X,X<5->X≠L->UN b (step ((w t).Zb X)).n/\∀m∈(step ((w t).Zb X)).ls,UJ b m:=fun X hX We=>by
     have q:=Va (ZeC (C:=C) (b:=b) (L:=L) hX We tr.hC tr.hb) ((tr.at t).nd X hX).up ⟨(tr.at t).nd X hX,hu.nd X hX We⟩ (fun l hl=>⟨(tr.at t).Ub X hX l hl,hu.Ub X hX l hl⟩);exact⟨q.1.2,fun m hm=>(q.2.1 m hm).2⟩
    have fI:∀l∈T8 (w t),UJ b l:=fun l hl=>by
     rcases UG.1 hl with q|⟨i,hi,q⟩
     .exact hu.PI l q
     .by_cases e:i=L
      .subst e;refine kI ((tr.at t).nd i hi) (fun hf=>?_) hq l q;exact (JF (JH (C:=C) (b:=b) (L:=i) hi tr.hC tr.hb) _ _ ((tr.at t).nd i hi) ((tr.at t).Ub i hi)).1
      .exact (hX i hi e).2 l q
    refine .inl ⟨fun X hX5 We=>?_,fun X hX5 l hl=>?_,fun l hl=>?_⟩
    .rw[tr.nx,Qf _ X hX5 ((tr.at t).nd X hX5).up];exact (hX X hX5 We).1
    .rw[tr.nx]at hl;rcases (Sy hX5 ((tr.at t).nd X hX5).up).1 hl with q|⟨q,_⟩
     .exact hu.Ub X hX5 l ((Kb (tr.at t) tr.hC tr.hb hX5).2.2 l q)
     .exact fI l q
    .rw[tr.nx,Ka]at hl;cases hl
  .exact .inr fun X hX We=>⟨tr.kH hX (h X hX We).1,tr.Al hX (h X hX We).2⟩
theorem Yj.Znv(tr:Yj S C b L T w g M)(h0:Un b L (w 0)):∀t,t<=T->Ct w t 2->((w t).Zb L).Zm.p=b/\∀X,X<5->X≠L->Za2 b ((w t).Zb X)/\ej b L X (w t):=by
 refine tr.US (k:=1) tr.Znu (fun t ht h=>⟨tr.Pq tr.hL h.1 ht,fun X hX We=>⟨tr.kH hX (h.2 X hX We).1,tr.Al hX (h.2 X hX We).2⟩⟩) (fun t ht hc h=>?_);have hf:=hc L tr.hL;have ho:((w t).Zb L).Zm.p=b:=by
  rcases h with q|⟨p,q,_⟩|⟨_,_,q⟩
  .rcases q with q|q
   .exact q
   .exact absurd q (tr.nf t nT L tr.hL)
  .rw[hf.1]at q;cases q
  .exact q.elim
 refine⟨tr.Pq tr.hL ho ht,?_⟩;rcases tr.asked h0 t nT with hu|h
 .exact tr.ZZ ht hu hf ho
 .exact fun X hX We=>⟨tr.kH hX (h X hX We).1,tr.Al hX (h X hX We).2⟩
def Za3(b:Yn)(L X:Nat)(w:Wd):Prop:=Src (fun m=>m.ZR=1/\m.b=b/\m.Jp=X/\m.to=L) (PU fun r=>Has r.ZF X) (fun _=>False) (w.Zb L)
theorem Yj.eG(tr:Yj S C b L T w g M)(h:Za3 b L X (w t)):Za3 b L X (w (t+1)):=by
 rcases (tr.Wy tr.hL (KX (X:=X) (G:=fun _=>False)) h).1 with q|⟨_,_,q⟩
 .exact q
 .exact q.elim
theorem Yj.ZfS(tr:Yj S C b L T w g M)(h0:Un b L (w 0)):∀t,t<=T->Ct w t 3->(∀X,X<5->((w t).Zb X).Zm.p=b)/\∀X,X<5->X≠L->Za3 b L X (w t):=by
 refine tr.US (k:=2) (tr.Znv h0) (fun t ht h=>⟨fun X hX=>tr.Pq hX (h.1 X hX) ht,fun X hX We=>tr.eG (h.2 X hX We)⟩) (fun t ht hc h=>⟨fun X hX=>?_,fun X hX We=>?_⟩)
 .by_cases e:X=L
  .rw[e];exact tr.Pq tr.hL h.1 ht
  .rcases (tr.Wy hX (I4 (G:=fun _=>False) tr.hb) (h.2 X hX e).1).2 (hc X hX) with q|⟨_,_,q⟩
   .rcases q with q|q
    .exact q
    .exact absurd q (tr.nf (t+1) nT X hX)
   .exact q.elim
 .rcases (h.2 X hX We).2 with q|q
  .rcases (tr.Wy hX (dX tr.hb) q).2 (hc X hX) with q|q
   .exact absurd q (tr.nf (t+1) nT X hX)
   .exact tr.comes tr.hL q fun m h=>h.2.2.2
  .exact tr.eG q
theorem Yj.S3(tr:Yj S C b L T w g M){Q:Xw->Prop}(hQ:∀r r',XQ r r'->Q r->Q r')(h:PU Q ((w t).Zb L)):PU Q ((w (t+1)).Zb L):=by
 rcases (tr.Wy tr.hL (Ee (A:=fun _=>False) (G:=fun _=>False) hQ (fun n l _ _ _ h=>h.elim)) (.inl h)).1 with (q|q|⟨_,_,q⟩)|⟨_,_,q⟩
 .exact q
 .exact q.elim
 .exact q.elim
 .exact q.elim
theorem Yj.Za4(tr:Yj S C b L T w g M)(h0:Un b L (w 0)):∀t,t<=T->Ct w t 4->(∀X,X<5->((w t).Zb X).Zm.p=b)/\∀X:Nat,X<5->X≠L->PU (fun r=>Has r.ZF X) ((w t).Zb L):=by
 refine tr.US (k:=3) (tr.ZfS h0) (fun t ht h=>⟨fun X hX=>tr.Pq hX (h.1 X hX) ht,fun X hX We=>tr.S3 (fun r r' k q=>k.ZF _ q) (h.2 X hX We)⟩) (fun t ht hc h=>⟨fun X hX=>tr.Pq hX (h.1 X hX) ht,fun X hX We=>?_⟩);rcases (tr.Wy tr.hL (KX (X:=X) (G:=fun _=>False)) (h.2 X hX We)).2 (hc L tr.hL) with q|⟨_,_,q⟩
 .exact q
 .exact q.elim
end
def Cq(b:Yn)(L:Nat)(u:Int)(y:Cm)(X:Nat)(w:Wd):Prop:=
 Has (w.Zb L).Zh u\/Src (fun l=>l.ZR=2/\l.v=QC u b y/\l.Jp=L) Full (fun n=>∃a,n.Zp=B (.TC a L (QC u b y))) (w.Zb X) \/
 Src (fun m=>m.ZR=3/\m.v=QC u b y/\m.Jp=X/\m.to=L) (PU fun r=>nH r u X) (fun _=>False) (w.Zb L)
def Ziq(b:Yn)(L:Nat)(u:Int)(y:Cm)(X:Nat)(w:Wd):Prop:=
 Src (fun m=>m.ZR=3/\m.v=QC u b y/\m.Jp=X/\m.to=L) (PU fun r=>nH r u X) (fun _=>False) (w.Zb L)
def Zir(x:Cm)(L:Nat)(n:Nd):Prop:=Src (fun m=>m.ZR=4/\m.v.cm=x/\m.to=L) (TM x) (fun _=>False) n
def Kc(x:Cm)(w:Wd):Prop:=∃X,X<5/\x∈(w.Zb X).Zw
def tI(L:Nat)(u:Nat)(w:Wd):Prop:=PU (fun r=>Has r.ZT u) (w.Zb L)\/Has (w.Zb L).Zh u
theorem kJ:∀(k:List YF) (n:Nd) (r':Xw),(Zy n k).n.Zg=B r'->∃r,n.Zg=B r/\r'.ZT=r.ZT:=by
 intro k
 induction k with
 | nil=>intro n r' h;unfold Zy at h;exact⟨r',h,rfl⟩
 | cons l k ih=>
  intro n r' h;unfold Zy at h;split at h
  .exact⟨r',h,rfl⟩
  .obtain⟨r1,h1,h2⟩:=ih _ r' h;rcases Ps { n with Zf:=k } l with e|⟨r,hr,⟨_,_,e⟩|⟨_,_,e⟩⟩
   .rw[e]at h1;exact⟨r1,h1,h2⟩
   .rw[e]at h1;obtain rfl:=Option.some.inj h1;exact⟨r,hr,h2⟩
   .rw[e]at h1;obtain rfl:=Option.some.inj h1;exact⟨r,hr,h2⟩
theorem Cr(hu:n.up=true)(hf:¬VI n){r':Xw}(h:(step n).n.Zg=B r'):∃r,n.Zg=B r/\r'.ZT=r.ZT:=by
 cases hp:n.Zp with
 | some p=>
  have e:step n=YL (ZM n) p:=by unfold step;rw[if_pos hu,hp]
  rw[e]at h
  cases p with
  | Vy a to b' vs=>exact⟨r',h,rfl⟩
  | TC a to v=>exact⟨r',h,rfl⟩
  | Zm a vs cur=>
   have h:(if cur=true then n.Zg.map (fun r=>{ r with ZF:=ins r.ZF n.me vs }) else n.Zg)=B r':=h;split at h
   .cases e:n.Zg with
    | none=>rw[e]at h;cases h
    | some r=>
     rw[e]at h;obtain rfl:=Option.some.inj h;exact⟨r,rfl,rfl⟩
   .exact⟨r',h,rfl⟩
 | none=>
  have e:step n=Zy n n.Zf:=by
   unfold step;rw[if_pos hu,hp];simp only;rw[if_pos]
   cases q:(Zy n n.Zf).n.Zp with
   | none=>exact absurd ⟨hp,q⟩ hf
   | some p=>rfl
  rw[e]at h;exact kJ _ _ r' h
section
variable {S:Cm->Prop} {C:List Cm} {b:Yn} {L T:Nat} {w:Nat->Wd} {g:Nat->Gh} {M:Nat->Nat->Yn}
theorem Yj.ZfT(tr:Yj S C b L T w g M){E:Nd->Prop}(e1:∀n k,E n->E { n with Zf:=k })(hX:X<5)(e2:∀n l,PN C b L X n->E n->E (Zu n l).n)(e3:∀n,PN C b L X n->n.Zp=aa->E n->E (Yi n).n)(e4:∀n p,PN C b L X n->n.Zp=B p->E n->E (YL (ZM n) p).n)(h:E ((w t).Zb X)):E ((w (t+1)).Zb X):=by
 have W:=(JH (C:=C) (b:=b) (L:=L) (X:=X) hX tr.hC tr.hb).and (E:=E) e1 (fun n l h _ _ q=>e2 n l h q) e3 e4;have:=(Va W ((tr.at t).nd X hX).up ⟨(tr.at t).nd X hX,h⟩ ((tr.at t).Ub X hX)).1.2;rw[tr.nx,Qf _ X hX ((tr.at t).nd X hX).up];exact e1 _ _ this
theorem Yj.Wz(tr:Yj S C b L T w g M)(hX:X<5){j:Int}(h:Has ((w t).Zb X).Zh j):Has ((w (t+1)).Zb X).Zh j:=
 tr.ZfT (E:=fun n=>Has n.Zh j) (fun n k h=>h) hX (fun n l _ h=>KY h l) (fun n hn hp h=>KZ h hp hn) (fun n p _ _ h=>Ia h p) h
theorem Yj.An(tr:Yj S C b L T w g M)(hX:X<5)(h:TM x ((w t).Zb X)):TM x ((w (t+1)).Zb X):=
 tr.ZfT (E:=TM x) (fun n k h=>h) hX (fun n l _ h=>h.go (Ta n l)) (fun n hn hp h=>h.kv (Yr hp hn.Yl).1) (fun n p _ _ h=>h.go (Tb n p)) h
theorem Yj.Za5(tr:Yj S C b L T w g M)(hX:X<5):∃e,((w (t+1)).Zb X).Zw=((w t).Zb X).Zw++e:=by
 rw[tr.nx,Qf _ X hX ((tr.at t).nd X hX).up];exact (KW ((w t).Zb X)).2.2
theorem Yj.RJ(tr:Yj S C b L T w g M)(h:Kc x (w t)):Kc x (w (t+1)):=by
 obtain⟨X,hX,h⟩:=h;obtain⟨e,he⟩:=tr.Za5 (t:=t) hX;exact⟨X,hX,by rw[he];exact U.2 (.inl h)⟩
theorem Yj.Zis(tr:Yj S C b L T w g M)(h:Zir x L ((w t).Zb L)):Zir x L ((w (t+1)).Zb L):=by
 rcases (tr.Wy tr.hL (dY (x:=x) (G:=fun _=>False)) h).1 with q|⟨_,_,q⟩
 .exact q
 .exact q.elim
theorem Yj.ZwA(tr:Yj S C b L T w g M)(h0:Un b L (w 0)){X0:Nat}(kK:X0<5)(hx:TM x ((w 0).Zb X0)):∀t,t<=T->Ct w t 4->Kc x (w t)\/Zir x L ((w t).Zb L):=by
 have ha:∀t,t<=T->TM x ((w t).Zb X0):=fun t ht=>tr.stays (Z:=fun t=>TM x ((w t).Zb X0)) (fun t _ h=>tr.An kK h) hx t (am _) ht;refine tr.US (k:=3) (tr.ZfS h0) (fun t ht h=>?_) (fun t ht hc h=>?_)
 .rcases h with h|h
  .exact .inl (tr.RJ h)
  .exact .inr (tr.Zis h)
 .by_cases e:X0=L
  .subst e;exact .inr (.inl (tr.An kK (ha t nT)))
  .obtain⟨d,hd,hp,K,hl,k,hk⟩:=tr.free kK (hc X0 kK);rcases (ha t nT).go K.go with q|q
   .have:=kE hd e hp (by rw[K.Zm];exact h.1 X0 kK) tr.hb tr.hn q;exact .inr (tr.comes tr.hL ⟨_,hl _ this,rfl,rfl,rfl⟩ fun m h=>h.2.2)
   .refine .inl ⟨X0,kK,?_⟩;rw[hk];show x∈(Yi d).n.Zw;rw[(Yr hp hd.Yl).1.Zw];exact q
theorem Yj.ZwB(tr:Yj S C b L T w g M)(h0:Un b L (w 0)){X0:Nat}(kK:X0<5)(hx:TM x ((w 0).Zb X0)):∀t,t<=T->Ct w t 5->Kc x (w t)\/TM x ((w t).Zb L):=by
 refine tr.US (k:=4) (tr.ZwA h0 kK hx) (fun t ht h=>?_) (fun t ht hc h=>?_)
 .rcases h with h|h
  .exact .inl (tr.RJ h)
  .exact .inr (tr.An tr.hL h)
 .rcases h with h|h
  .exact .inl (tr.RJ h)
  .rcases (tr.Wy tr.hL (dY (x:=x) (G:=fun _=>False)) h).2 (hc L tr.hL) with q|⟨_,_,q⟩
   .exact .inr q
   .exact q.elim
theorem Yj.Za6(tr:Yj S C b L T w g M)(ht:t<=T){s:Int}(h:PU (fun r=>Yg r.ZT s=B x) ((w t).Zb L)):(g t).P b s x:=by
 obtain⟨r,hr,hp⟩:=h;have R:=((tr.ti t ht).nd L tr.hL).Zg r hr;obtain⟨r0,h1,h2⟩:=((tr.at t).nd L tr.hL).Z1 rfl;rw[hr]at h1;obtain rfl:=Option.some.inj h1;have:=R.safe s x hp;rw[h2]at this;exact this
theorem Yj.eH(tr:Yj S C b L T w g M)(ht:t<=T){s:Nat}(hs:s<40)(h:PU (fun r=>Yg r.ZT s=B x) ((w t).Zb L)):Yo (QC s b x):=by
 have hx:x.err=0:=by
  rcases (tr.ti t ht).gi.cmd _ _ _ (tr.Za6 ht h) with rfl|q
  .rfl
  .exact tr.hS x q
 exact⟨⟨by show (0:Int)<=(s:Int);omega,by show (s:Int)<=39;omega⟩,tr.hb,hx⟩
theorem Yj.eI(tr:Yj S C b L T w g M)(ht:t<=T){s:Int}{y:Cm}(h:PU (fun r=>Yg r.ZT s=B x) ((w t).Zb L))(hc:Jf (g t) s y):x=y:=by
 have hP:=tr.Za6 ht h;have G:=(tr.ti t ht).gi;obtain⟨Q,b',hQ,hv⟩:=hc;obtain⟨i,hi,_⟩:=hQ.meet hQ;have Kz:=hQ.2.1 i hi;have FG:=hv i hi;have Lx:=G.Z1 _ _ _ _ FG;have N:=(tr.ti t ht).nd i Kz;have P:=(tr.at t).nd i Kz;have hm:=N.m;rw[Jn P.up]at hm;rw[hm]at Lx;by_cases e:b'=b
 .subst e;exact G.one _ _ _ _ hP (G.vp _ _ _ _ FG)
 .have ZS:ZE b' b:=by
   by_cases q:ZE b' b
   .exact q
   .have:¬ZE b b':=X2 Lx P.Zm;exact absurd (Pj q this) e
  exact V7 G hQ hv _ b x (ab _) hP ZS
theorem Yj.nJ(tr:Yj S C b L T w g M){u:Nat}{y:Cm}(hv:Yo (QC u b y))(hX:X<5)(h:Cq b L u y X (w t)):Cq b L u y X (w (t+1)):=by
 rcases h with h|h|h
 .exact .inl (tr.Wz tr.hL h)
 .rcases (tr.Wy hX (Cn hv) h).1 with q|q
  .exact .inr (.inl q)
  .exact .inr (.inr (tr.comes tr.hL q fun m h=>h.2.2.2))
 .rcases (tr.Wy tr.hL (Ef (X:=X) (s:=(u:Int)) (x:=y) (G:=fun _=>False)) h).1 with q|⟨_,_,q⟩
  .exact .inr (.inr q)
  .exact q.elim
theorem Yj.Za7(tr:Yj S C b L T w g M){u:Nat}{y:Cm}(h:Ziq b L u y X (w t)):Ziq b L u y X (w (t+1)):=by
 rcases (tr.Wy tr.hL (Ef (X:=X) (s:=(u:Int)) (x:=y) (G:=fun _=>False)) h).1 with q|⟨_,_,q⟩
 .exact q
 .exact q.elim
def nK(b:Yn)(L:Nat)(w:Wd):Prop:=∀(u:Nat) y,u<40->PU (fun r=>Yg r.ZT u=B y) (w.Zb L)->∀X,X<5->Cq b L u y X w
theorem Yj.Ie(tr:Yj S C b L T w g M)(ho:((w t).Zb L).Zm.p=b)(hm:∀X:Nat,X<5->X≠L->PU (fun r=>Has r.ZF X) ((w t).Zb L))(hf:VI ((w t).Zb L)):nK b L (w (t+1)) /\
  ∃d r,PN C b L L d/\Xs ((w t).Zb L) d/\((w (t+1)).Zb L).Zg=B (XJ d r)/\((w (t+1)).Zb L).Zh=d.Zh/\((w (t+1)).Zb L).Zw=d.Zw:=by
 obtain⟨d,hd,hp,K,hl,k,hk⟩:=tr.free tr.hL hf;obtain⟨r,hr,_⟩:=hd.Z1 rfl;have hdo:d.Zm.p=b:=by rw[K.Zm];exact ho
 have hq:5<2*r.ZF.length:=Ib tr.hL fun X hX We=>by
  obtain⟨r0,h1,h2⟩:=hm X hX We;obtain⟨r1,h3,h4⟩:=K.on h1;rw[hr]at h3;obtain rfl:=Option.some.inj h3;exact h4.k.ZF _ h2
 obtain⟨h1,h2⟩:=d7 hd hp hdo hr hq;have D:=(Yr hp hd.Yl).1;have ek:((w (t+1)).Zb L).Zh=d.Zh:=by rw[hk];exact D.Zh
 have er:((w (t+1)).Zb L).Zg=B (XJ d r):=by rw[hk];exact h1
 have el:((w (t+1)).Zb L).Zw=d.Zw:=by rw[hk];exact D.Zw
 refine⟨fun u y hu ⟨r1,e1,e2⟩ X hX=>?_,d,r,hd,K,er,ek,el⟩;rw[er]at e1;obtain rfl:=Option.some.inj e1
 cases q:Yg d.Zh (u:Int) with
 | some z=>exact .inl (by rw[ek];unfold Has;rw[q];simp)
 | none=>
  by_cases v:nH r u X
  .exact .inr (.inr (.inl ⟨_,er,by show nH (XJ d r) u X;unfold nH;rw[(Np d r).1];exact v⟩))
  .have:=h2 u y X hu e2 q hX v;have hb:(⟨2,L,X,Jg,QC u b y,[]⟩:YF)∈((w (t+1)).Zb X).Zf:=by
    rw[tr.nx];exact (Sy hX ((tr.at t).nd X hX).up).2 (.inr ⟨hl _ this,uK⟩)
   exact .inr (.inl (.inr (.inr ⟨_,hb,rfl,rfl,rfl⟩)))
theorem Yj.Za8(tr:Yj S C b L T w g M)(ht:t<=T)(ho:((w t).Zb L).Zm.p=b)(hm:∀X:Nat,X<5->X≠L->PU (fun r=>Has r.ZF X) ((w t).Zb L))(h:nK b L (w t)):nK b L (w (t+1)):=by
 by_cases hf:VI ((w t).Zb L)
 .exact (tr.Ie ho hm hf).1
 .intro u y hu ⟨r',e1,e2⟩ X hX;have hp:=(tr.at t).nd L tr.hL;rw[tr.nx,Qf _ L tr.hL hp.up]at e1;obtain⟨r,h1,h2⟩:=Cr hp.up hf (show (step ((w t).Zb L)).n.Zg=B r' from e1);have H5:PU (fun r=>Yg r.ZT (u:Int)=B y) ((w t).Zb L):=⟨r,h1,by show Yg r.ZT (u:Int)=B y;rw[<-h2];exact e2⟩
  exact tr.nJ (tr.eH ht hu H5) hX (h u y hu H5 X hX)
theorem Yj.Za9(tr:Yj S C b L T w g M)(h0:Un b L (w 0)):∀t,t<=T->Ct w t 5->((∀X,X<5->((w t).Zb X).Zm.p=b)/\∀X:Nat,X<5->X≠L->PU (fun r=>Has r.ZF X) ((w t).Zb L))/\nK b L (w t):=by
 have up:∀t,t<T->((∀X,X<5->((w t).Zb X).Zm.p=b)/\∀X:Nat,X<5->X≠L->PU (fun r=>Has r.ZF X) ((w t).Zb L))->((∀X,X<5->((w (t+1)).Zb X).Zm.p=b)/\∀X:Nat,X<5->X≠L->PU (fun r=>Has r.ZF X) ((w (t+1)).Zb L)):=fun t ht h=>⟨fun X hX=>tr.Pq hX (h.1 X hX) ht,fun X hX We=>tr.S3 (fun r r' k q=>k.ZF _ q) (h.2 X hX We)⟩
 refine tr.US (k:=4) (tr.Za4 h0) (fun t ht h=>⟨up t ht h.1,tr.Za8 nT (h.1.1 L tr.hL) h.1.2 h.2⟩) (fun t ht hc h=>⟨up t ht h,(tr.Ie (h.1 L tr.hL) h.2 (hc L tr.hL)).1⟩)
def Zit(L:Nat)(x:Cm)(g:Gh)(w:Wd):Prop:=Kc x w\/(∃s:Nat,s<40/\(∀u,u<=s->tI L u w)/\(PU (fun r=>Yg r.ZT s=B x) (w.Zb L)\/Jf g s x))\/∀u,u<40->tI L u w
theorem Yj.Zba(tr:Yj S C b L T w g M){u:Nat}(h:tI L u (w t)):tI L u (w (t+1)):=by
 rcases h with h|h
 .refine .inl (tr.S3 (fun r r' k q=>?_) h);unfold Has at q ⊢
  cases e:Yg r.ZT (u:Int) with
  | none=>exact absurd e q
  | some x=>rw[k.ZT _ _ e];simp
 .exact .inr (tr.Wz tr.hL h)
theorem Yj.If(tr:Yj S C b L T w g M)(ht:t<T){s:Int}(h:Jf (g t) s x):Jf (g (t+1)) s x:=by
 obtain⟨Q,b',hQ,hv⟩:=h;exact⟨Q,b',hQ,fun i hi=>tr.mv t ht _ _ _ _ (hv i hi)⟩
theorem Yj.Ziu(tr:Yj S C b L T w g M)(ht:t<T)(h:Zit L x (g t) (w t)):Zit L x (g (t+1)) (w (t+1)):=by
 rcases h with h|⟨s,h1,h2,h3⟩|h
 .exact .inl (tr.RJ h)
 .refine .inr (.inl ⟨s,h1,fun u hu=>tr.Zba (h2 u hu),?_⟩);rcases h3 with h3|h3
  .exact .inl (tr.S3 (fun r r' k q=>k.ZT _ _ q) h3)
  .exact .inr (tr.If ht h3)
 .exact .inr (.inr fun u hu=>tr.Zba (h u hu))
theorem Yj.ZwC(tr:Yj S C b L T w g M)(h0:Un b L (w 0)){X0:Nat}(kK:X0<5)(hx:TM x ((w 0).Zb X0)):∀t,t<=T->Ct w t 6->Zit L x (g t) (w t):=by
 refine tr.US (Z:=fun t=>(Kc x (w t)\/TM x ((w t).Zb L))/\((∀X,X<5->((w t).Zb X).Zm.p=b)/\∀X:Nat,X<5->X≠L->PU (fun r=>Has r.ZF X) ((w t).Zb L))) (k:=5) (fun t ht hc=>⟨tr.ZwB h0 kK hx t ht hc,(tr.Za9 h0 t ht hc).1⟩) (fun t ht h=>tr.Ziu ht h) (fun t ht hc ⟨h,h1,h2⟩=>?_);rcases h with h|h
 .exact .inl (tr.RJ h)
 .obtain⟨_,d,r,hd,K,er,ek,el⟩:=tr.Ie (h1 L tr.hL) h2 (hc L tr.hL);rcases h.go K.go with q|q
  .have oc:∀u,kF d (XJ d r) u->tI L u (w (t+1)):=fun u q=>by
    rcases q with q|q
    .exact .inl ⟨_,er,q⟩
    .exact .inr (by rw[ek];exact q)
   rcases tF hd r q with⟨s,p1,p2,p3⟩|p
   .refine .inr (.inl ⟨s,p1,fun u hu=>oc u (p2 u hu),?_⟩);rcases p3 with p3|p3
    .exact .inl ⟨_,er,p3⟩
    .exact .inr (((tr.ti (t+1) nT).nd L tr.hL).Zh _ _ (by rw[ek];exact p3))
   .exact .inr (.inr fun u hu=>oc u (p u hu))
  .exact .inl ⟨L,tr.hL,by rw[el];exact q⟩
theorem Yj.Znw(tr:Yj S C b L T w g M){u:Nat}{y:Cm}(hv:Yo (QC u b y))(h:∀X,X<5->Cq b L u y X (w 0)):∀t,t<=T->Ct w t 2->Has ((w t).Zb L).Zh u:=by
 have z0:∀t,t<=T->Ct w t 0->∀X,X<5->Cq b L u y X (w t):=fun t ht _ X hX=>tr.stays (Z:=fun t=>Cq b L u y X (w t)) (fun t _ h=>tr.nJ hv hX h) (h X hX) t (am _) ht;have z1:∀t,t<=T->Ct w t 1->Has ((w t).Zb L).Zh u\/∀X,X<5->Ziq b L u y X (w t):=by
  refine tr.US (k:=0) z0 (fun t ht h=>?_) (fun t ht hc h=>?_)
  .rcases h with h|h
   .exact .inl (tr.Wz tr.hL h)
   .exact .inr fun X hX=>tr.Za7 (h X hX)
  .by_cases q:Has ((w t).Zb L).Zh u
   .exact .inl (tr.Wz tr.hL q)
   .refine .inr fun X hX=>?_;rcases h X hX with e|e|e
    .exact absurd e q
    .rcases (tr.Wy hX (Cn hv) e).2 (hc X hX) with e|e
     .exact absurd e (tr.nf (t+1) nT X hX)
     .exact tr.comes tr.hL e fun m h=>h.2.2.2
    .exact tr.Za7 e
 refine tr.US (k:=1) z1 (fun t ht h=>tr.Wz tr.hL h) (fun t ht hc h=>?_);rcases h with h|h
 .exact tr.Wz tr.hL h
 .have hV:∀X:Nat,X<5->PU (fun r=>nH r u X) ((w (t+1)).Zb L):=fun X hX=>by
   rcases (tr.Wy tr.hL (Ef (X:=X) (s:=(u:Int)) (x:=y) (G:=fun _=>False)) (h X hX)).2 (hc L tr.hL) with q|⟨_,_,q⟩
   .exact q
   .exact q.elim
  have hP:=(tr.at (t+1)).nd L tr.hL;obtain⟨r,hr,_⟩:=hP.Z1 rfl;refine hP.vk r hr u (tH fun X hX _=>?_);obtain⟨r0,h1,h2⟩:=hV X hX;rw[hr]at h1;obtain rfl:=Option.some.inj h1;exact h2
theorem PN.Eh(h:PN C b L X n){s:Nat}(hk:∀u,u<=s->Has n.Zh (u:Int)):s<n.Zw.length:=by
 by_cases q:n.Zw.length<=s
 .exact absurd h.Aj (hk _ q)
 .omega
theorem Yj.done(tr:Yj S C b L T w g M)(h0:Un b L (w 0)){X0:Nat}(kK:X0<5)(hx:TM x ((w 0).Zb X0)):∀t,t<=T->Ct w t 8->Kc x (w t)\/40<=((w t).Zb L).Zw.length:=by
 intro t ht hc;obtain⟨a,ha,WE,Es⟩:=Ct.split (w:=w) t 6 2 hc;have P:=tr.ZwC h0 kK hx a nT WE;have V:=(tr.Za9 h0 a nT WE.less).2;have tr2:=tr.sh (a:=a) nT;have Zbb:∀{Z:Nat->Prop},(∀t,t<T->Z t->Z (t+1))->Z a->Z t:=fun st h=>tr.stays st h t ha ht;have occ:∀u,u<40->tI L u (w a)->Has ((w t).Zb L).Zh u:=fun u hu h=>by
  rcases h with⟨r,h1,h2⟩|h
  .unfold Has at h2
   cases e:Yg r.ZT (u:Int) with
   | none=>exact absurd e h2
   | some y=>
    have H5:PU (fun r=>Yg r.ZT (u:Int)=B y) ((w a).Zb L):=⟨r,h1,e⟩
    have:=tr2.Znw (u:=u) (y:=y) (tr.eH nT hu H5) (fun X hX=>V u y hu H5 X hX) (t-a) nT Es;have e2:Go.Proofs.YtdapjaalaomghaaGreatDoor.sh w a (t-a)=w t:=by show w (a+(t-a))=w t;rw[show a+(t-a)=t by omega]
    rw[e2]at this;exact this
  .exact Zbb (Z:=fun t=>Has ((w t).Zb L).Zh u) (fun t _ h=>tr.Wz tr.hL h) h
 rcases P with h|⟨s,h1,h2,h3⟩|h
 .exact .inl (Zbb (Z:=fun t=>Kc x (w t)) (fun t _ h=>tr.RJ h) h)
 .have hl:=((tr.at t).nd L tr.hL).Eh (s:=s) fun u hu=>occ u nT (h2 u hu);refine .inl ⟨L,tr.hL,?_⟩;have hy:((w t).Zb L).Zw[s]? = B ((w t).Zb L).Zw[s]:=a0 hl;have hch:=((tr.ti t ht).nd L tr.hL).Zw s _ hy;have:x=((w t).Zb L).Zw[s]:=by
   rcases h3 with h3|h3
   .exact tr.eI ht (Zbb (Z:=fun t=>PU (fun r=>Yg r.ZT (s:Int)=B x) ((w t).Zb L)) (fun t _ h=>tr.S3 (fun r r' k q=>k.ZT _ _ q) h) h3) hch
   .exact Jf.one (tr.ti t ht).gi (Zbb (Z:=fun t=>Jf (g t) s x) (fun t ht h=>tr.If ht h) h3) hch
  rw[this];exact bl hl
 .refine .inr ?_;have:=((tr.at t).nd L tr.hL).Eh (s:=39) fun u hu=>occ u nT (h u nT);omega
end
def CP(b:Yn)(Pb:Int->Cm->Prop)(n:Nd):Kf->Prop
 | .Vy a _ _ vs=>a=⟨b,n.Zm.l⟩/\n.Zm.p≠b/\vs=n.Zm.l
 | .Zm a vs _=>a=⟨b,n.Zm.l⟩/\n.Zm.p≠b/\vs=n.Zm.l
 | .TC a _ v=>a=⟨b,JA n.Zm.l v⟩/\v.b=b/\Pb v.Zt v.cm/\∀u∈n.Zm.l,u.Zt=v.Zt->u.b≠b
def Lo(b:Yn)(e:Int)(l:List Vt):Prop:=∀v∈l,v.b=b\/v.Zt<e
structure CN(b:Yn)(Pb:Int->Cm->Prop)(e:Int)(L X:Nat)(n:Nd):Prop where
 VN:X≠L->n.Zg=aa
 YZ:∀v∈n.Zm.l,v.b=b->Pb v.Zt v.cm
 AC:∀p,n.Zp=B p->CP b Pb n p
 MH:Lo b e n.Zm.l
 prm:∀r,n.Zg=B r->∀j vs,Yg r.ZF j=B vs->Lo b e vs
structure CJ(b:Yn)(e:Int)(l:YF):Prop where
 Vy:l.ZR=0->l.b=b
 ask:l.ZR=2->l.v.b=b
 vs:l.ZR=1->Lo b e l.vs
def Znx(Pb:Int->Cm->Prop):Prop:=∀s x y,Pb s x->Pb s y->x=y
theorem Ziv{u v:Vt}(h1:u.Zt=v.Zt)(h2:u.b=v.b)(h3:u.cm=v.cm):u=v:=by
 obtain⟨s,b,k,c,q,n,x⟩:=u;obtain⟨s',b',k',c',q',n',x'⟩:=v;unfold Vt.cm at h3;simp only[Qo.mk.injEq]at h3;simp only at h1 h2;obtain⟨rfl,rfl,rfl,rfl,rfl⟩:=h3;rw[h1,h2]
section
variable {C:List Cm} {b:Yn} {Pb:Int->Cm->Prop} {e:Int} {L X:Nat}
theorem tJ(n:Nd)(l:YF):∀m∈(Zu n l).ls,m.ZR=1->m.vs=n.Zm.l:=fun m hm hk=>by
 have no:∀(k:Int) (f t:Int) (b:Yn) (v:Vt) (vs:List Vt),k≠1->m∈[(⟨k,f,t,b,v,vs⟩:YF)]->False:=fun k f t b v vs h1 hm=>by
  rw[o.1 hm]at hk;exact h1 hk
 unfold Zu at hm;split at hm
 .unfold YA at hm;split at hm
  .exact (no _ _ _ _ _ _ Iw hm).elim
  .split at hm
   .rw[o.1 hm]
   .split at hm<;>cases hm
 split at hm
 .rw[(OP n l).2]at hm;cases hm
 split at hm
 .unfold asked at hm;split at hm
  .exact (no _ _ _ _ _ _ Iw hm).elim
  .split at hm
   .exact (no _ _ _ _ _ _ Iw hm).elim
   .split at hm<;>cases hm
 split at hm
 .cases hm
 split at hm
 .unfold Qd at hm;split at hm
  .exact (no _ _ _ _ _ _ Iw hm).elim
  .cases hm
 split at hm
 .rw[(Uc n l.v.Zt l.v.cm).2.2]at hm;cases hm
 .cases hm
theorem ZeF:∀m∈(Yi n).ls,m.ZR≠1:=fun m hm=>by
 have WM:∀n:Nd,∀m∈QZ n,m.ZR≠1:=fun n m hm=>by
  unfold QZ at hm;split at hm
  .rw[o.1 hm];exact (by decide:(5:Int)≠1)
  .cases hm
 have one:∀n:Nd,∀m∈(Z2 n).ls,m.ZR≠1:=fun n m hm=>by
  unfold Z2 at hm;split at hm
  .unfold Js at hm;split at hm
   .split at hm<;>cases hm
   .split at hm
    .unfold SP at hm;obtain⟨k,_,hk⟩:=ao.1 hm;split at hk
     .rw[o.1 hk];exact (by decide:(0:Int)≠1)
     .cases hk
    .have hm:m∈Wr n _:=hm;unfold Wr at hm;obtain⟨s,_,hs⟩:=ao.1 hm;unfold WU at hs;split at hs
     .split at hs
      .obtain⟨k,_,hk⟩:=ao.1 hs;unfold Pe at hk;split at hk
       .rw[o.1 hk];exact (by decide:(2:Int)≠1)
       .cases hk
      .cases hs
     .cases hs
  .split at hm
   .unfold U3 at hm;obtain⟨x,_,rfl⟩:=bf.1 hm;exact (by decide:(4:Int)≠1)
   .cases hm
 unfold Yi at hm;split at hm
 .exact one _ m hm
 .rcases U.1 hm with hm|hm
  .exact one _ m hm
  .exact WM _ m hm
theorem nL(hX:X<5)(hC:(O C)<=100000)(hb:ZD b)(h1:Znx Pb):Laws (fun n=>PN C b L X n/\CN b Pb e L X n) (fun l=>PJ C b l/\CJ b e l/\(l.ZR=2->Pb l.v.Zt l.v.cm)) (fun l=>PJ C b l/\CJ b e l):=by
 have W:=JH (C:=C) (b:=b) (L:=L) (X:=X) hX hC hb;refine⟨fun n k h=>⟨W.box n k h.1,⟨h.2.VN,h.2.YZ,fun p hp=>by
  have:=h.2.AC p hp
  cases p<;>exact this,h.2.MH,h.2.prm⟩⟩,fun n l h hp hl=>?_,fun n h hp=>?_,fun n p h hp=>?_⟩
 .obtain⟨a1,a2⟩:=W.ku n l h.1 hp hl.1;obtain⟨hk,hc⟩:=Xu n l;have Zbd:∀r',(Zu n l).n.Zg=B r'->∀j vs,Yg r'.ZF j=B vs->Lo b e vs:=fun r' UQ j vs hv=>by
   rcases Ps n l with q|⟨r,hr,⟨k1,_,q⟩|⟨_,_,q⟩⟩
   .rw[q]at UQ;exact h.2.prm r' UQ j vs hv
   .rw[q]at UQ;obtain rfl:=Option.some.inj UQ;have hv:Yg (ins r.ZF l.Jp l.vs) j=B vs:=hv;rw[Xb]at hv;split at hv
    .obtain rfl:=Option.some.inj hv;exact hl.2.1.vs k1
    .exact h.2.prm r hr j vs hv
   .rw[q]at UQ;obtain rfl:=Option.some.inj UQ;exact h.2.prm r hr j vs hv
  refine⟨⟨a1,?_⟩,fun m hm=>⟨a2 m hm,fun e=>absurd e (hk m hm).1,fun e=>absurd e (hk m hm).2,fun q=>by rw[tJ n l m hm q];exact h.2.MH⟩⟩;rcases hc with k|⟨c1,c2,c3,c4,q⟩|⟨c1,c2,c3,c4,q⟩
  .refine⟨fun We=>?_,by rw[k.Zm];exact h.2.YZ,fun p q=>(by rw[k.Zp,hp]at q;cases q),by rw[k.Zm];exact h.2.MH,Zbd⟩;have:=k.VN;rw[h.2.VN We]at this
   cases q:(Zu n l).n.Zg with
   | none=>rfl
   | some r=>rw[q]at this;exact this.elim
  .have eb:=hl.2.1.Vy c1;rw[q]at Zbd ⊢;refine⟨h.2.VN,h.2.YZ,fun p q=>?_,h.2.MH,Zbd⟩;obtain rfl:=Option.some.inj q;exact⟨by rw[eb];rfl,by rw[<-eb];exact c3,rfl⟩
  .have eb:=hl.2.1.ask c1;have hP:=hl.2.2 c1;rw[q]at Zbd ⊢;refine⟨h.2.VN,h.2.YZ,fun p q=>?_,h.2.MH,Zbd⟩;obtain rfl:=Option.some.inj q;refine⟨by rw[eb];rfl,eb,hP,fun u hu hs hub=>c3 ?_⟩;have:=h.2.YZ u hu hub;rw[hs]at this;rw[<-Ziv hs (by rw[hub,eb]) (h1 _ _ _ this hP)];exact hu
 .obtain⟨a1,a2⟩:=W.kv n h.1 hp;obtain⟨D,hA⟩:=Yr hp h.1.Yl;have LN:∀r,n.Zg=B r->r.b=b:=fun r hr=>by
   by_cases e:X=L
   .obtain⟨r',h2,h3⟩:=h.1.Z1 e;rw[hr]at h2;obtain rfl:=Option.some.inj h2;exact h3
   .rw[h.2.VN e]at hr;cases hr
  refine⟨⟨a1,⟨fun We=>?_,by rw[D.Zm];exact h.2.YZ,fun p q=>?_,by rw[D.Zm];exact h.2.MH,fun r' UQ j vs hv=>?_⟩⟩,fun m hm=>⟨a2 m hm,fun e=>?_,fun e=>?_,fun q=>absurd q (ZeF m hm)⟩⟩
  .rcases D.VN with⟨_,e⟩|⟨_,_,_,e⟩|⟨r,_,hr,_⟩
   .exact e
   .exact e
   .rw[h.2.VN We]at hr;cases hr
  .rcases D.Zp with⟨e,_⟩|⟨r,hr,c1,_,_,e⟩
   .rw[e]at q;cases q
   .rw[e]at q;obtain rfl:=Option.some.inj q;have e0:=h.1.pr0 (h.1.may r hr) (L0 c1);show (if YG n.Zm.p n.Zm.l r.b=0 then (⟨r.b,n.Zm.l⟩:UH) else JJ)=⟨b,(Yi n).n.Zm.l⟩/\(Yi n).n.Zm.p≠b/\(if YG n.Zm.p n.Zm.l r.b=0 then n.Zm.l else [])=(Yi n).n.Zm.l;rw[if_pos e0,if_pos e0,D.Zm,LN r hr];refine⟨rfl,?_,rfl⟩;rw[<-LN r hr];exact eu c1
  .rcases D.VN with⟨_,e⟩|⟨_,_,_,e⟩|⟨r,r2,hr,_,e,_,_,_,k⟩
   .rw[e]at UQ;cases UQ
   .rw[e]at UQ;cases UQ
   .rw[e]at UQ;obtain rfl:=Option.some.inj UQ;rw[k]at hv;exact h.2.prm r hr j vs hv
  .obtain⟨r,hr,_,_,e2,_⟩:=hA m hm (.inl e);rw[e2 e];exact LN r hr
  .obtain⟨r,hr,_,_,_,e2,_⟩:=hA m hm (.inr e);rw[e2 e];exact LN r hr
 .obtain⟨a1,a2⟩:=W.fin n p h.1 hp;have hP:=h.2.AC p hp;have nop:∀q,(YL (ZM n) p).n.Zp=B q->False:=fun q hq=>by
   have:(YL (ZM n) p).n.Zp=aa:=by cases p<;>rfl
   rw[this]at hq;cases hq
  refine⟨⟨a1,⟨fun We=>?_,fun v hv hvb=>?_,fun q hq=>(nop q hq).elim,?_,fun r' UQ j vs hv=>?_⟩⟩,fun m hm=>⟨a2 m hm,fun e=>absurd e (Ic _ p m hm).1,fun e=>absurd e (Ic _ p m hm).2,fun q=>?_⟩⟩
  .have hr:=h.2.VN We
   cases p with
   | Vy a to b' vs=>exact hr
   | TC a to v=>exact hr
   | Zm a vs cur=>
    show (if cur=true then n.Zg.map (fun r=>{ r with ZF:=ins r.ZF n.me vs }) else n.Zg)=aa;rw[hr];split<;>rfl
  .rw[Nq h.1 hp]at hv
   cases p with
   | Vy a to b' vs=>obtain⟨rfl,_⟩:=hP;exact h.2.YZ v hv hvb
   | Zm a vs cur=>obtain⟨rfl,_⟩:=hP;exact h.2.YZ v hv hvb
   | TC a to u=>
    obtain⟨rfl,_,q3,_⟩:=hP;have hv:v∈JA n.Zm.l u:=hv;unfold JA at hv;rcases U.1 hv with hv|hv
    .exact h.2.YZ v (aq.1 hv).1 hvb
    .rcases a8.1 hv with rfl|hv
     .exact q3
     .exact h.2.YZ v (aq.1 hv).1 hvb
  .rw[Nq h.1 hp]
   cases p with
   | Vy a to b' vs=>obtain⟨rfl,_⟩:=hP;exact h.2.MH
   | Zm a vs cur=>obtain⟨rfl,_⟩:=hP;exact h.2.MH
   | TC a to u=>
    obtain⟨rfl,q2,_,_⟩:=hP;intro v hv;have hv:v∈JA n.Zm.l u:=hv;unfold JA at hv;rcases U.1 hv with hv|hv
    .exact h.2.MH v (aq.1 hv).1
    .rcases a8.1 hv with rfl|hv
     .exact .inl q2
     .exact h.2.MH v (aq.1 hv).1
  .cases p with
   | Vy a to b' ws=>exact h.2.prm r' UQ j vs hv
   | TC a to v=>exact h.2.prm r' UQ j vs hv
   | Zm a ws cur=>
    have UQ:(if cur=true then n.Zg.map (fun r=>{ r with ZF:=ins r.ZF n.me ws }) else n.Zg)=B r':=UQ;split at UQ
    .cases q:n.Zg with
     | none=>rw[q]at UQ;cases UQ
     | some r=>
      rw[q]at UQ;obtain rfl:=Option.some.inj UQ;have hv:Yg (ins r.ZF n.me ws) j=B vs:=hv;rw[Xb]at hv;split at hv
      .obtain rfl:=Option.some.inj hv;obtain⟨_,_,rfl⟩:=hP;exact h.2.MH
      .exact h.2.prm r q j vs hv
    .exact h.2.prm r' UQ j vs hv
  .cases p with
   | Vy a to b' vs=>
    obtain⟨_,_,rfl⟩:=hP;rw[o.1 hm];exact h.2.MH
   | TC a to v=>rw[o.1 hm]at q;cases q
   | Zm a vs cur=>cases hm
def Wb(b:Yn)(n:Nd):Nat:=2*((if n.Zm.p=b then 1 else 0)+(n.Zm.l.filter (fun v=>decide (v.b=b))).length)+(if n.Zp.isSome=true then 1 else 0)
theorem kL{l:List Vt}{v:Vt}(hv:v.b=b)(h:∀u∈l,u.Zt=v.Zt->u.b≠b):((JA l v).filter (fun v=>decide (v.b=b))).length=(l.filter (fun v=>decide (v.b=b))).length+1:=by
 have e:∀l:List Vt,(∀u∈l,u.Zt=v.Zt->u.b≠b)->((l.filter (fun x=>decide (x.Zt<v.Zt))).filter (fun v=>decide (v.b=b))).length+((l.filter (fun x=>decide (v.Zt<x.Zt))).filter (fun v=>decide (v.b=b))).length=(l.filter (fun v=>decide (v.b=b))).length:=by
  intro l
  induction l with
  | nil=>intro _;rfl
  | cons u l ih=>
   intro h;have q:=ih (fun x hx=>h x (by simp[hx]));have hu:=h u uK;by_cases c1:u.b=b
   .rcases Int.lt_trichotomy u.Zt v.Zt with c2|c2|c2
    .have c3:¬v.Zt<u.Zt:=nT;simp only[a7,c1,c2,c3,decide_true,decide_false,if_true,if_false,aU,al];omega
    .exact absurd c1 (hu c2)
    .have c3:¬u.Zt<v.Zt:=nT;simp only[a7,c1,c2,c3,decide_true,decide_false,if_true,if_false,aU,al];omega
   .by_cases c2:u.Zt<v.Zt<;>by_cases c3:v.Zt<u.Zt <;>
     simp only[a7,c1,c2,c3,decide_true,decide_false,if_true,if_false,al]<;>exact q
 have:=e l h;unfold JA;rw[List.filter_append,ae,a7,if_pos (by simp[hv]),aU];omega
theorem Ziw(hp:n.Zp=aa)(l:YF):Wb b n<=Wb b (Zu n l).n/\((Zu n l).n.Zp≠aa->Wb b n+1<=Wb b (Zu n l).n):=by
 unfold Wb;rcases (Xu n l).2 with k|⟨_,_,_,_,e⟩|⟨_,_,_,_,e⟩
 .rw[k.Zm,k.Zp,hp];exact⟨ab _,fun q=>absurd rfl q⟩
 .rw[e,hp];refine⟨?_,fun _=>?_⟩
  .show 2*((if n.Zm.p=b then 1 else 0)+(n.Zm.l.filter (fun v=>decide (v.b=b))).length)+0<=2*((if n.Zm.p=b then 1 else 0)+(n.Zm.l.filter (fun v=>decide (v.b=b))).length)+1;omega
  .show 2*((if n.Zm.p=b then 1 else 0)+(n.Zm.l.filter (fun v=>decide (v.b=b))).length)+0+1<=2*((if n.Zm.p=b then 1 else 0)+(n.Zm.l.filter (fun v=>decide (v.b=b))).length)+1;omega
 .rw[e,hp];refine⟨?_,fun _=>?_⟩
  .show 2*((if n.Zm.p=b then 1 else 0)+(n.Zm.l.filter (fun v=>decide (v.b=b))).length)+0<=2*((if n.Zm.p=b then 1 else 0)+(n.Zm.l.filter (fun v=>decide (v.b=b))).length)+1;omega
  .show 2*((if n.Zm.p=b then 1 else 0)+(n.Zm.l.filter (fun v=>decide (v.b=b))).length)+0+1<=2*((if n.Zm.p=b then 1 else 0)+(n.Zm.l.filter (fun v=>decide (v.b=b))).length)+1;omega
theorem Zbe:∀(k:List YF) (n:Nd),n.Zp=aa->Wb b n<=Wb b (Zy n k).n/\((Zy n k).n.Zp≠aa->Wb b n+1<=Wb b (Zy n k).n):=by
 intro k
 induction k with
 | nil=>intro n hp;unfold Zy;exact⟨ab _,fun q=>absurd hp q⟩
 | cons l k ih=>
  intro n hp;have uF:({ n with Zf:=k }:Nd).Zp=aa:=hp;obtain⟨h1,h2⟩:=Ziw (b:=b) uF l;have e0:Wb b ({ n with Zf:=k }:Nd)=Wb b n:=rfl;rw[e0]at h1 h2;unfold Zy;rw[if_neg (by rw[hp];decide)];show Wb b n<=Wb b (Zy (Zu { n with Zf:=k } l).n k).n/\((Zy (Zu { n with Zf:=k } l).n k).n.Zp≠aa->Wb b n+1<=Wb b (Zy (Zu { n with Zf:=k } l).n k).n)
  by_cases hq:(Zu { n with Zf:=k } l).n.Zp=aa
  .obtain⟨h3,h4⟩:=ih _ hq;exact⟨nT,fun q=>by have:=h4 q;omega⟩
  .have hs:(Zu { n with Zf:=k } l).n.Zp.isSome=true:=by
    cases q:(Zu { n with Zf:=k } l).n.Zp with
    | none=>exact absurd q hq
    | some p=>rfl
   have e:Wb b (Zy (Zu { n with Zf:=k } l).n k).n=Wb b (Zu { n with Zf:=k } l).n:=by
    cases k with
    | nil=>unfold Zy;rfl
    | cons a k=>unfold Zy;rw[if_pos hs];rfl
   rw[e];have:=h2 hq;exact⟨nT,fun _=>by omega⟩
theorem ZeG(h:PN C b L X n)(c:CN b Pb e L X n)(hd:(Zy n n.Zf).n.Zp=aa->PN C b L X (Zy n n.Zf).n):Wb b n<=Wb b (step n).n/\(¬VI n->Wb b n+1<=Wb b (step n).n):=by
 cases hp:n.Zp with
 | some p=>
  have e:step n=YL (ZM n) p:=by unfold step;rw[if_pos h.up,hp]
  have hP:=c.AC p hp;have eo:=Nq h hp;have ep:(YL (ZM n) p).n.Zp=aa:=by cases p<;>rfl
  have main:Wb b n+1<=Wb b (YL (ZM n) p).n:=by
   unfold Wb;rw[eo,ep,hp]
   cases p with
   | Vy a to b' vs=>
    obtain⟨rfl,q,_⟩:=hP;simp only[WY,if_neg q,if_true,ba,a6,al,if_false];omega
   | Zm a vs cur=>
    obtain⟨rfl,q,_⟩:=hP;simp only[WY,if_neg q,if_true,ba,a6,al,if_false];omega
   | TC a to v=>
    obtain⟨rfl,q1,_,q2⟩:=hP;simp only[WY,if_true,ba,a6,al,if_false];rw[kL q1 q2];split<;>omega
  rw[e];exact⟨nT,fun _=>main⟩
 | none=>
  obtain⟨h1,h2⟩:=Zbe (b:=b) n.Zf n hp;by_cases hq:(Zy n n.Zf).n.Zp=aa
  .rw[Ui h.up ⟨hp,hq⟩];refine⟨?_,fun q=>absurd ⟨hp,hq⟩ q⟩;have D:=(Yr hq (hd hq).Yl).1;have:Wb b (Zy n n.Zf).n<=Wb b (Yi (Zy n n.Zf).n).n:=by
    unfold Wb;rw[D.Zm,hq];simp only[a6,al,if_false];omega
   show Wb b n<=Wb b (Yi (Zy n n.Zf).n).n;omega
  .have e:step n=Zy n n.Zf:=by
    unfold step;rw[if_pos h.up,hp];simp only;rw[if_pos]
    cases q:(Zy n n.Zf).n.Zp with
    | none=>exact absurd q hq
    | some p=>rfl
   rw[e];exact⟨h1,fun _=>h2 hq⟩
end
structure Clean(S:Cm->Prop)(C:List Cm)(b:Yn)(L T:Nat)(w:Nat->Wd)(g:Nat->Gh)(M:Nat->Nat->Yn)(e:Nat)(Q:List Cm):Prop where
 tr:Yj S C b L T w g M
 c0:∀X,X<5->CN b (fun s x=>PU (fun r=>Yg r.ZT s=B x) ((w T).Zb L)) e L X ((w 0).Zb X)
 j0:∀X,X<5->∀l∈((w 0).Zb X).Zf,CJ b e l
 f0:∀l∈(w 0).Zo,CJ b e l
 Zw:e=((w 0).Zb L).Zw.length
 Zr:∀x∈((w 0).Zb L).Zr,x ∉ ((w 0).Zb L).Zw
 ZT:∀r,((w 0).Zb L).Zg=B r->∀s,Yg r.ZT s=aa
 Zny:∀x,S x->x∈Q\/x∈((w 0).Zb L).Zw
def NQ(n:Nd):Prop:=∀x∈n.Zr,x ∉ n.Zw
theorem tL(h:NQ n)(x:Cm):NQ (JZ n x):=fun y hy hl=>by
 have hy:y∈n.Zr.filter (fun y=>decide (y≠x)):=hy;obtain⟨h1,h2⟩:=aq.1 hy;have hl:y∈n.Zw++[x]:=hl;rcases U.1 hl with q|q
 .exact h y h1 q
 .simp only[decide_eq_true_eq]at h2;exact h2 (o.1 q)
theorem eJ(h:NQ n)(s:Int)(x:Cm):NQ (X8 n s x).n:=by
 have:∀(k:Nat) (n:Nd),NQ n->NQ (Ye k n).1:=by
  intro k
  induction k with
  | zero=>intro n h;exact h
  | succ k ih=>
   intro n h;unfold Ye;split
   .exact h
   .exact ih _ (tL h _)
 exact this _ _ h
theorem tM(h:NQ n)(l:YF):NQ (Zu n l).n:=by
 have hn:NQ (Xk n l):=by unfold Xk;split<;>exact h
 unfold Zu;split
 .unfold YA
  repeat' split
  all_goals exact h
 split
 .unfold Ym;split
  .exact h
  .split
   .split<;>exact h
   .split
    .exact h
    .rename_i r _ _ _;split
     .have:NQ (TD n r l):=h;exact eJ this _ _
     .exact h
 split
 .unfold asked
  repeat' split
  all_goals exact h
 split
 .unfold add;split
  .exact h
  .rename_i q;intro y hy hl;have hy:y∈n.Zr++[l.v.cm]:=hy;rcases U.1 hy with p|p
   .exact h y p hl
   .rw[o.1 p]at hl;exact q (.inr hl)
 split
 .unfold Qd;split<;>exact hn
 split
 .exact eJ h _ _
 .exact hn
theorem eK:∀(k:List YF) (n:Nd),NQ n->NQ (Zy n k).n:=by
 intro k
 induction k with
 | nil=>intro n h;unfold Zy;exact h
 | cons l k ih=>
  intro n h;unfold Zy;split
  .exact h
  .exact ih _ (tM (n:={ n with Zf:=k }) h l)
theorem tO:∀(k s t:Nat),Qe n r x k s=B t->∀u:Nat,s<=u->u<t->Yg r.ZT u≠B x:=by
 intro k
 induction k with
 | zero=>intro s t h;cases h
 | succ k ih=>
  intro s t h u h1 h2;unfold Qe at h;by_cases q1:Yg r.ZT (s:Int)=B x\/Yg n.Zh (s:Int)=B x
  .rw[if_pos q1]at h;cases h
  .rw[if_neg q1]at h;by_cases q2:Yg r.ZT (s:Int)=aa/\Yg n.Zh (s:Int)=aa
   .rw[if_pos q2]at h;obtain rfl:=Option.some.inj h;omega
   .rw[if_neg q2]at h;by_cases e:u=s
    .rw[e];exact fun q=>q1 (.inl q)
    .exact ih _ _ h u nT h2
structure JI(e:Nat)(Q:List Cm)(r:Xw):Prop where
 of:∀s x,Yg r.ZT s=B x->∃u:Nat,s=u/\e<=u/\x∈Q
 inj:∀s s' x,Yg r.ZT s=B x->Yg r.ZT s'=B x->s=s'
 Aj:∀s u:Nat,Has r.ZT s->e<=u->u<s->Has r.ZT u
theorem JI.few{e:Nat}{Q:List Cm}(h:JI e Q r){s:Nat}(hs:Has r.ZT s):s<e+(O Q):=by
 obtain⟨v,hv⟩:∃v:Nat->Cm,∀i,v i=(Yg r.ZT ((e+i:Nat):Int)).getD Nv:=⟨_,fun _=>rfl⟩
 have hat:∀i,e+i<=s->Yg r.ZT ((e+i:Nat):Int)=B (v i):=fun i hi=>by
  have:Has r.ZT ((e+i:Nat):Int):=by
   by_cases q:e+i=s
   .rw[q];exact hs
   .exact h.Aj s (e+i) hs nT nT
  unfold Has at this;rw[hv]
  cases q:Yg r.ZT ((e+i:Nat):Int) with
  | none=>exact absurd q this
  | some x=>rfl
 have:=OM (l:=(List.range (s+1-e)).map v) (C:=Q) ?_ (fun x hx=>?_)
 .rw[a5,List.length_range]at this;by_cases q:s+1<=e
  .omega
  .omega
 .rw[bc,List.pairwise_map];refine List.Pairwise.imp_of_mem ?_ (bc.1 List.nodup_range);intro i j hi hj Y4 hvv;have hi:=aw.1 hi;have hj:=aw.1 hj;have h1:=hat i nT;have h2:=hat j nT;rw[<-hvv]at h2;have:=h.inj _ _ _ h1 h2;omega
 .obtain⟨i,hi,rfl⟩:=bf.1 hx;have hi:=aw.1 hi;obtain⟨_,_,_,q⟩:=h.of _ _ (hat i nT);exact q
theorem Zbf{e:Nat}{Q:List Cm}(h:JI e Q r)(he:e<=n.Zw.length)(ha:∀u:Nat,e<=u->Has n.Zh u->Has r.ZT u)(h0:∀t:Nat,t<n.Zw.length->Has n.Zh t)(hx:x∈Q)(hc:∀u:Nat,u<n.Zw.length->Yg r.ZT u≠B x):
  JI e Q (J4 n r x)/\(∀u:Nat,u<n.Zw.length->Yg (J4 n r x).ZT u=Yg r.ZT u):=by
 unfold J4
 cases hf:free n r x with
 | none=>exact⟨h,fun _ _=>rfl⟩
 | some s=>
  simp only;obtain⟨q1,q2,q3,q4⟩:=No _ _ _ hf;have occ:=I5 _ _ _ (fun u hu=>.inr (h0 u hu)) hf;have Y4:=tO _ _ _ hf;have nw:∀s':Int,Yg r.ZT s'=B x->False:=fun s' P9=>by
   obtain⟨u,rfl,hu,_⟩:=h.of s' x P9;by_cases c1:u<n.Zw.length
   .exact hc u c1 P9
   .by_cases c2:u<s
    .exact Y4 u nT c2 P9
    .by_cases c3:u=s
     .rw[c3,q3]at P9;cases P9
     .have:=h.Aj u s (by unfold Has;rw[P9];simp) nT nT;exact this q3
  refine⟨⟨fun t y ht=>?_,fun t t' y ht uq=>?_,fun t u ht hu ZS=>?_⟩,fun u hu=>?_⟩
  .have ht:Yg (ins r.ZT (s:Int) x) t=B y:=ht;rw[Xb]at ht;split at ht
   .rename_i c;obtain rfl:=Option.some.inj ht;exact⟨s,c.symm,nT,hx⟩
   .exact h.of t y ht
  .have ht:Yg (ins r.ZT (s:Int) x) t=B y:=ht;have uq:Yg (ins r.ZT (s:Int) x) t'=B y:=uq;rw[Xb]at ht uq;split at ht
   .rename_i c;obtain rfl:=Option.some.inj ht;split at uq
    .rename_i c';rw[<-c,<-c']
    .exact (nw t' uq).elim
   .split at uq
    .obtain rfl:=Option.some.inj uq;exact (nw t ht).elim
    .exact h.inj t t' y ht uq
  .show Has (ins r.ZT (s:Int) x) u;by_cases c:t=s
   .subst c;rcases occ u ZS with q|q
    .exact Has.ins q _ _
    .exact Has.ins (ha u hu q) _ _
   .have ht:Has (ins r.ZT (s:Int) x) t:=ht;rcases Am ht with q|q
    .omega
    .exact Has.ins (h.Aj t u q hu ZS) _ _
  .show Yg (ins r.ZT (s:Int) x) u=Yg r.ZT u;rw[Xb,if_neg nT]
theorem Ei{e:Nat}{Q:List Cm}(he:e<=n.Zw.length)(h0:∀t:Nat,t<n.Zw.length->Has n.Zh t):∀(l:List Cm) (r:Xw),JI e Q r->(∀u:Nat,e<=u->Has n.Zh u->Has r.ZT u)->(∀x∈l,x∈Q/\∀u:Nat,u<n.Zw.length->Yg r.ZT u≠B x)->JI e Q (Jb n r l):=by
 intro l
 induction l with
 | nil=>intro r h _ _;exact h
 | cons x l ih=>
  intro r h ha hc;obtain⟨h1,h2⟩:=Zbf h he ha h0 (hc x uK).1 (hc x uK).2;refine ih (J4 n r x) h1 (fun u hu hk=>?_) (fun y hy=>⟨(hc y (by simp[hy])).1,fun u hu=>by rw[h2 u hu];exact (hc y (by simp[hy])).2 u hu⟩);have:=ha u hu hk;unfold Has at this ⊢
  cases q:Yg r.ZT (u:Int) with
  | none=>exact absurd q this
  | some z=>rw[(I3 n r x).ZT _ _ q];simp
theorem De{S:Cm->Prop}{g:Gh}{M:Nat->Yn}(G:GI S g M){b:Yn}(hM:∀i,i<5->¬ZE b (M i)){s:Int}{y:Cm}(hP:g.P b s x)(hc:Jf g s y):x=y:=by
 obtain⟨Q,b',hQ,hv⟩:=hc;obtain⟨i,hi,_⟩:=hQ.meet hQ;have Kz:=hQ.2.1 i hi;have FG:=hv i hi;have Lx:=G.Z1 _ _ _ _ FG;by_cases e:b'=b
 .subst e;exact G.one _ _ _ _ hP (G.vp _ _ _ _ FG)
 .have ZS:ZE b' b:=by
   by_cases q:ZE b' b
   .exact q
   .have:¬ZE b b':=X2 Lx (hM i Kz);exact absurd (Pj q this) e
  exact V7 G hQ hv _ b x (ab _) hP ZS
theorem kM{C:List Cm}{b:Yn}{L:Nat}(h:PN C b L L n)(hp:n.Zp=aa)(hr:n.Zg=B r):(Yi n).n.Zg=B r\/((Yi n).n.Zg=B (XJ n r)/\5<2*r.ZF.length):=by
 obtain⟨_,e⟩:=Ti h hp hr;rw[TN.1,e];unfold Js;split
 .split
  .exact .inl hr
  .exact .inl hr
 .split
  .exact .inl hr
  .rename_i q;exact .inr ⟨rfl,nT⟩
theorem kO{e:Nat}(he:e<=n.Zw.length)(hv:∀v∈(Yq r).flatten,v.Zt<e):(Wq n r).ZT=r.ZT:=by
 have ht:Pd (Yq r).flatten<e\/Pd (Yq r).flatten = -1:=by
  unfold Pd;rcases (MB (Yq r).flatten (-1)).2.2 with q|⟨v,h1,q⟩
  .exact .inr q
  .rw[q];exact .inl (hv v h1)
 have h0:(Pd (Yq r).flatten+1).toNat-n.Zw.length=0:=nT;unfold Wq;rw[h0];rfl
section
variable {S:Cm->Prop} {C:List Cm} {b:Yn} {L T:Nat} {w:Nat->Wd} {g:Nat->Gh} {M:Nat->Nat->Yn} {e:Nat} {Q:List Cm}
def PbT(L T:Nat)(w:Nat->Wd)(s:Int)(x:Cm):Prop:=PU (fun r=>Yg r.ZT s=B x) ((w T).Zb L)
theorem PbT.one:Znx (PbT L T w):=fun s x y ⟨r,h1,h2⟩ ⟨r',h3,h4⟩=>by
 rw[h1]at h3;obtain rfl:=Option.some.inj h3;rw[h2]at h4;exact Option.some.inj h4
theorem Yj.Zix(tr:Yj S C b L T w g M)(ht:t<=T){s:Int}(h:(g t).P b s x):PU (fun r=>Yg r.ZT s=B x) ((w t).Zb L):=by
 obtain⟨r,h1,h2⟩:=((tr.at t).nd L tr.hL).Z1 rfl;have R:=((tr.ti t ht).nd L tr.hL).Zg r h1;exact⟨r,h1,R.pr s x (by rw[h2];exact h)⟩
theorem Yj.Zbg(tr:Yj S C b L T w g M)(ht:t<=T){s:Int}(h:(g t).P b s x):PbT L T w s x:=
 tr.stays (Z:=fun t=>PU (fun r=>Yg r.ZT s=B x) ((w t).Zb L)) (fun t _ h=>tr.S3 (fun r r' k q=>k.ZT _ _ q) h) (tr.Zix ht h) T ht (ab _)
theorem Clean.at(c:Clean S C b L T w g M e Q):∀t,t<=T->(∀X,X<5->CN b (PbT L T w) e L X ((w t).Zb X))/\(∀X,X<5->∀l∈((w t).Zb X).Zf,CJ b e l)/\∀l∈(w t).Zo,CJ b e l:=by
 intro t
 induction t with
 | zero=>intro _;exact⟨c.c0,c.j0,c.f0⟩
 | succ t ih=>
  intro ht;obtain⟨h1,h2,h3⟩:=ih nT;have TT:=c.tr.ti t nT;have EB:∀X,X<5->CN b (PbT L T w) e L X (step ((w t).Zb X)).n/\(∀m∈(step ((w t).Zb X)).ls,CJ b e m)/\∀l∈(step ((w t).Zb X)).n.Zf,l∈((w t).Zb X).Zf:=fun X hX=>by
   have q:=Va (nL (C:=C) (b:=b) (Pb:=PbT L T w) (e:=e) (L:=L) hX c.tr.hC c.tr.hb PbT.one) ((c.tr.at t).nd X hX).up ⟨(c.tr.at t).nd X hX,h1 X hX⟩ (fun l hl=>⟨(c.tr.at t).Ub X hX l hl,h2 X hX l hl,fun k2=>c.tr.Zbg (t:=t) nT (by
    have:=(TT.Ub X hX l hl).ask k2;rw[(h2 X hX l hl).ask k2]at this;exact this)⟩)
   exact⟨q.1.2,fun m hm=>(q.2.1 m hm).2,q.2.2⟩
  have hm:∀l∈T8 (w t),CJ b e l:=fun l hl=>by
   rcases UG.1 hl with q|⟨i,hi,q⟩
   .exact h3 l q
   .exact (EB i hi).2.1 l q
  refine⟨fun X hX=>?_,fun X hX l hl=>?_,fun l hl=>by rw[c.tr.nx,Ka]at hl;cases hl⟩
  .rw[c.tr.nx,Qf _ X hX ((c.tr.at t).nd X hX).up];have q:=(EB X hX).1;exact⟨q.VN,q.YZ,fun p hp=>by
    have:=q.AC p hp
    cases p<;>exact this,q.MH,q.prm⟩
  .rw[c.tr.nx]at hl;rcases (Sy hX ((c.tr.at t).nd X hX).up).1 hl with q|⟨q,_⟩
   .exact h2 X hX l ((EB X hX).2.2 l q)
   .exact hm l q
theorem Clean.nq(c:Clean S C b L T w g M e Q):∀t,NQ ((w t).Zb L):=by
 intro t
 induction t with
 | zero=>exact c.Zr
 | succ t ih=>
  have hp:=(c.tr.at t).nd L c.tr.hL;rw[c.tr.nx,Qf _ L c.tr.hL hp.up];show NQ (step ((w t).Zb L)).n;unfold step;rw[if_pos hp.up]
  cases q:((w t).Zb L).Zp with
  | some p=>cases p<;>exact ih
  | none=>
   simp only;have hd:=eK ((w t).Zb L).Zf _ ih;split
   .exact hd
   .rename_i q2;have q0:(Zy ((w t).Zb L) ((w t).Zb L).Zf).n.Zp=aa:=by
     cases e:(Zy ((w t).Zb L) ((w t).Zb L).Zf).n.Zp with
     | none=>rfl
     | some p=>rw[e]at q2;exact absurd rfl q2
    have hb:=(JF (JH (C:=C) (b:=b) (L:=L) c.tr.hL c.tr.hC c.tr.hb) _ _ hp ((c.tr.at t).Ub L c.tr.hL)).1.Yl;have D:=(Yr q0 hb).1;intro x hx hl;have hx:x∈(Yi (Zy ((w t).Zb L) ((w t).Zb L).Zf).n).n.Zr:=hx;have hl:x∈(Yi (Zy ((w t).Zb L) ((w t).Zb L).Zf).n).n.Zw:=hl;rw[D.Zr]at hx;rw[D.Zw]at hl;exact hd x hx hl
theorem Yj.Zbh(tr:Yj S C b L T w g M)(hX:X<5):∀t,∃f,((w t).Zb X).Zw=((w 0).Zb X).Zw++f:=by
 intro t
 induction t with
 | zero=>exact⟨[],uK⟩
 | succ t ih=>
  obtain⟨f,h1⟩:=ih;obtain⟨f',h2⟩:=tr.Za5 (t:=t) hX;exact⟨f++f',by rw[h2,h1,bh]⟩
theorem Clean.ji(c:Clean S C b L T w g M e Q):∀t,t<=T->∀r,((w t).Zb L).Zg=B r->JI e Q r:=by
 intro t
 induction t with
 | zero=>
  intro _ r hr;have h0:=c.ZT r hr;exact⟨fun s x h=>(by rw[h0]at h;cases h),fun s s' x h=>(by rw[h0]at h;cases h),fun s u h=>absurd (h0 _) h⟩
 | succ t ih=>
  intro ht r1 HU;have hp:=(c.tr.at t).nd L c.tr.hL;by_cases hf:VI ((w t).Zb L)
  .obtain⟨K0,_,_⟩:=c.at t nT;have TT:=c.tr.ti t nT;have W:=nL (C:=C) (b:=b) (Pb:=PbT L T w) (e:=e) (L:=L) c.tr.hL c.tr.hC c.tr.hb PbT.one;have dl:=JF W ((w t).Zb L).Zf ((w t).Zb L) ⟨hp,K0 L c.tr.hL⟩ (fun l hl=>⟨(c.tr.at t).Ub L c.tr.hL l hl,(c.at t nT).2.1 L c.tr.hL l hl,fun k2=>c.tr.Zbg (t:=t) nT (by
    have:=(TT.Ub L c.tr.hL l hl).ask k2;rw[((c.at t nT).2.1 L c.tr.hL l hl).ask k2]at this;exact this)⟩)
   obtain⟨HRd,_,_⟩:=nC c.tr.hL TT.gi ((w t).Zb L).Zf ((w t).Zb L) (TT.nd L c.tr.hL) hp.up hf.1 hp.ni (fun l hl=>⟨((c.tr.at t).Ub L c.tr.hL l hl).li,TT.Ub L c.tr.hL l hl⟩);have hs:=Ui hp.up hf;have K:=Wa _ _ hf.2;have nqd:=eK ((w t).Zb L).Zf _ (c.nq t);obtain⟨d,hd0⟩:=ZN ((Zy ((w t).Zb L) ((w t).Zb L).Zf).n);have hdp:d.Zp=aa:=by rw[hd0];exact hf.2
   rw[<-hd0]at dl K nqd;have Nd:=HRd.n;rw[<-hd0]at Nd;obtain⟨hd,hcd⟩:=dl.1;obtain⟨r,hr,LN⟩:=hd.Z1 rfl;obtain⟨r0,h1,h2⟩:=K.back hr;have J0:=ih nT r0 h1;have J:JI e Q r:=⟨by rw[h2.p];exact J0.of,by rw[h2.p];exact J0.inj,by rw[h2.p];exact J0.Aj⟩
   have HU:(Yi d).n.Zg=B r1:=by
    rw[c.tr.nx,Qf _ L c.tr.hL hp.up,hs,<-hd0]at HU;exact HU
   rcases kM hd hdp hr with q|⟨q,ZJm⟩
   .rw[q]at HU;obtain rfl:=Option.some.inj HU;exact J
   .rw[q]at HU;obtain rfl:=Option.some.inj HU;have Rd:=Nd.Zg r hr;have hM:∀i,i<5->¬ZE b (M t i):=fun i hi=>by
     rw[(TT.nd i hi).m,Jn ((c.tr.at t).nd i hi).up];exact ((c.tr.at t).nd i hi).Zm
    obtain⟨f0,hf0⟩:=c.tr.Zbh c.tr.hL t;obtain⟨f1,hf1⟩:=K.go.Zw;have he:e<=d.Zw.length:=by
     rw[hf1,hf0,ae,ae,c.Zw];omega
    have hk0:∀t:Nat,t<d.Zw.length->Has d.Zh t:=fun t ht=>by
     have:=hd.ni.Zw t ht;unfold Has;intro q;rw[q]at this
     cases this
    -- Zip is Zh of ZBw from there on was dE
    have ha:∀u:Nat,e<=u->Has d.Zh u->Has r.ZT u:=fun u hu hk=>by
     unfold Has at hk
     cases q:Yg d.Zh (u:Int) with
     | none=>exact absurd q hk
     | some y=>
      obtain⟨Qm,b',hQm,hv⟩:=Nd.Zh _ _ q;obtain⟨i,hi,_⟩:=hQm.meet hQm;have Kz:=hQm.2.1 i hi;have A:=(TT.nd i Kz).acc;rw[Jn ((c.tr.at t).nd i Kz).up]at A;obtain⟨v,FG,bP,_⟩:=A.all _ _ _ (hv i hi);have hvb:v.b=b:=by
       rcases (K0 i Kz).MH v FG with q|q
       .exact q
       .omega
      have hP:=TT.gi.vp _ _ _ _ (A.has v FG);rw[hvb,bP,<-LN]at hP;have:=Rd.pr _ _ hP;unfold Has;rw[this];simp
    have hc:∀x∈d.Zr,x∈Q/\∀u:Nat,u<d.Zw.length->Yg r.ZT u≠B x:=fun x hx=>by
     refine⟨?_,fun u hu hpu=>?_⟩
     .rcases c.Zny x (Nd.AB x hx) with q|q
      .exact q
      .exact absurd (by rw[hf1,hf0];exact U.2 (.inl (U.2 (.inl q)))) (nqd x hx)
     .have h1:=Rd.safe _ _ hpu;rw[LN]at h1;have h2:=Nd.Zw u _ (a0 hu);have:=De TT.gi hM h1 h2;refine nqd x hx ?_;rw[this];exact bl hu
    have base:∀r':Xw,r'.ZT=r.ZT->JI e Q r'/\(∀u:Nat,e<=u->Has d.Zh u->Has r'.ZT u)/\∀x∈d.Zr,x∈Q/\∀u:Nat,u<d.Zw.length->Yg r'.ZT u≠B x:=fun r' hq=>by
     refine⟨⟨by rw[hq];exact J.of,by rw[hq];exact J.inj,by rw[hq];exact J.Aj⟩,by rw[hq];exact ha,by rw[hq];exact hc⟩
    unfold XJ;by_cases DQ:r.Xg=true
    .rw[if_pos DQ];obtain⟨b1,b2,b3⟩:=base r rfl;exact Ei he hk0 _ _ b1 b2 b3
    .rw[if_neg DQ];have ZwE:r.Xg=false:=by simpa using DQ
     obtain⟨b1,b2,b3⟩:=base (Wq d r) (kO he fun v hv=>by
      obtain⟨m,hm,vs,h1,h2⟩:=KU hv;rcases hcd.prm r hr m vs h1 v h2 with q|q
      .have hV:=((Rd.ZF m vs h1).has v h2).1;have:=TT.gi.vp _ _ _ _ hV;rw[q,<-LN]at this;exact absurd this (Rd.pn ZwE _ _)
      .exact q)
     exact Ei he hk0 _ _ b1 b2 b3
  .rw[c.tr.nx,Qf _ L c.tr.hL hp.up]at HU;obtain⟨r,h1,h2⟩:=Cr hp.up hf (show (step ((w t).Zb L)).n.Zg=B r1 from HU);have J:=ih nT r h1;exact⟨by rw[h2];exact J.of,by rw[h2];exact J.inj,by rw[h2];exact J.Aj⟩
theorem tP:∀(l:List Vt) (a:Int) (d:Nat),l.Pairwise (fun a b=>a.Zt<b.Zt)->(∀x∈l,a<=x.Zt/\x.Zt<a+d)->(O l)<=d:=by
 intro l
 induction l with
 | nil=>intro a d _ _;exact am _
 | cons x l ih=>
  intro a d hp hx;rw[List.pairwise_cons]at hp;have h1:=hx x uK
  cases d with
  | zero=>omega
  | succ d=>
   have:=ih (a+1) d hp.2 (fun y hy=>by
    have h2:=hp.1 y hy;have h3:=hx y (by simp[hy]);omega)
   simp only[aU];omega
theorem Clean.wb(c:Clean S C b L T w g M e Q)(ht:t<=T)(hX:X<5):Wb b ((w t).Zb X)<=2*(1+(O Q))+1:=by
 have CX:=(c.at t ht).1 X hX;have P:=(c.tr.at t).nd X hX;have hl:(((w t).Zb X).Zm.l.filter (fun v=>decide (v.b=b))).length<=(O Q):=by
  refine tP _ (e:Int) (O Q) (List.Pairwise.filter _ P.ni.Zm.YZ.2) (fun v hv=>?_);obtain⟨h1,h2⟩:=aq.1 hv;obtain⟨r,hr,hp⟩:=CX.YZ v h1 (by simpa using h2);have J:=c.ji T (ab _) r hr;obtain⟨u,hu,he,_⟩:=J.of _ _ hp;have:=J.few (s:=u) (by rw[<-hu];unfold Has;rw[hp];simp);omega
 unfold Wb;split<;>split<;>omega
theorem Clean.count(c:Clean S C b L T w g M e Q):∀t,t<=T->∃k,Ct w t k/\t<=k+(Wb b ((w t).Zb 0)+Wb b ((w t).Zb 1)+Wb b ((w t).Zb 2)+Wb b ((w t).Zb 3)+Wb b ((w t).Zb 4)):=by
 intro t
 induction t with
 | zero=>intro _;exact⟨0,Ct.zero _ _,am _⟩
 | succ t ih=>
  intro ht;obtain⟨k,h1,h2⟩:=ih nT;have st:∀X,X<5->Wb b ((w t).Zb X)<=Wb b ((w (t+1)).Zb X)/\(¬VI ((w t).Zb X)->Wb b ((w t).Zb X)+1<=Wb b ((w (t+1)).Zb X)):=fun X hX=>by
   have P:=(c.tr.at t).nd X hX;have:=ZeG P ((c.at t nT).1 X hX) (fun _=>(JF (JH (C:=C) (b:=b) (L:=L) hX c.tr.hC c.tr.hb) _ _ P ((c.tr.at t).Ub X hX)).1);rw[c.tr.nx,Qf _ X hX P.up];exact this
  have s0:=st 0 nT;have s1:=st 1 nT;have s2:=st 2 nT;have s3:=st 3 nT;have s4:=st 4 nT;by_cases hc:Clear (w t)
  .exact⟨k+1,.inr ⟨hc,h1⟩,nT⟩
  .refine⟨k,h1.mono,?_⟩;have:∃X,X<5/\¬VI ((w t).Zb X):=bd fun q=>hc fun X hX=>bd fun q2=>q ⟨X,hX,q2⟩;obtain⟨X,hX,q⟩:=this
   match X,hX,q with
   | 0,_,q=>have:=s0.2 q;omega
   | 1,_,q=>have:=s1.2 q;omega
   | 2,_,q=>have:=s2.2 q;omega
   | 3,_,q=>have:=s3.2 q;omega
   | 4,_,q=>have:=s4.2 q;omega
theorem Ct.down{w:Nat->Wd}:∀{k j:Nat},Ct w t k->j<=k->Ct w t j:=by
 intro k
 induction k with
 | zero=>intro j h hj;rw[show j=0 by omega];exact h
 | succ k ih=>
  intro j h hj;by_cases e:j=k+1
  .rw[e];exact h
  .exact ih h.less nT
theorem Clean.clear(c:Clean S C b L T w g M e Q){k:Nat}(h:k+5*(2*(1+(O Q))+1)<=T):Ct w T k:=by
 obtain⟨k',h1,h2⟩:=c.count T (ab _);have b0:=c.wb (t:=T) (ab _) (X:=0) nT;have b1:=c.wb (t:=T) (ab _) (X:=1) nT;have b2:=c.wb (t:=T) (ab _) (X:=2) nT;have b3:=c.wb (t:=T) (ab _) (X:=3) nT;have b4:=c.wb (t:=T) (ab _) (X:=4) nT;exact h1.down nT
end
theorem eQ(n:Nd)(l:YF):(Zu n l).n.data.length<=(O n.data)+38/\((Zu n l).n.Zp=aa->(Zu n l).n.data.length<=(O n.data)):=by
 rcases (Xu n l).2 with k|⟨_,_,_,_,e⟩|⟨_,_,_,_,e⟩
 .rw[k.data];exact⟨nT,fun _=>ab _⟩
 .rw[e];refine⟨?_,fun q=>by cases q⟩;show (n.data++YR (JQ l.b)).length<=_;rw[ae,Nl];omega
 .rw[e];refine⟨?_,fun q=>by cases q⟩;show (n.data++YR (Uq l.v)).length<=_;rw[ae,BX];omega
theorem kP:∀(k:List YF) (n:Nd),(Zy n k).n.data.length<=(O n.data)+38/\((Zy n k).n.Zp=aa->(Zy n k).n.data.length<=(O n.data)):=by
 intro k
 induction k with
 | nil=>intro n;unfold Zy;exact⟨by simp only;omega,fun _=>ab _⟩
 | cons l k ih=>
  intro n;unfold Zy;split
  .exact⟨by simp only;omega,fun _=>ab _⟩
  .obtain⟨h1,h2⟩:=eQ { n with Zf:=k } l;have h1:(Zu { n with Zf:=k } l).n.data.length<=(O n.data)+38:=h1;have h2:(Zu { n with Zf:=k } l).n.Zp=aa->(Zu { n with Zf:=k } l).n.data.length<=(O n.data):=h2;obtain⟨h3,h4⟩:=ih (Zu { n with Zf:=k } l).n;show (Zy (Zu { n with Zf:=k } l).n k).n.data.length<=_/\((Zy (Zu { n with Zf:=k } l).n k).n.Zp=aa->(Zy (Zu { n with Zf:=k } l).n k).n.data.length<=_)
   by_cases q:(Zu { n with Zf:=k } l).n.Zp=aa
   .have:=h2 q;exact⟨nT,fun q2=>by have:=h4 q2;omega⟩
   .have hs:(Zu { n with Zf:=k } l).n.Zp.isSome=true:=by
     cases e:(Zu { n with Zf:=k } l).n.Zp with
     | none=>exact absurd e q
     | some p=>rfl
    have e:(Zy (Zu { n with Zf:=k } l).n k).n = { (Zu { n with Zf:=k } l).n with Zf:=(Zy (Zu { n with Zf:=k } l).n k).n.Zf }:=by
     cases k with
     | nil=>unfold Zy;rfl
     | cons a k=>unfold Zy;rw[if_pos hs]
    rw[e];exact⟨h1,fun q2=>absurd q2 q⟩
theorem tU(n:Nd)(hb:Blank n.Zg/\((Zy n n.Zf).n.Zp=aa->Blank (Zy n n.Zf).n.Zg)):(step n).n.data.length<=(O n.data)+38:=by
 unfold step;split
 .cases hp:n.Zp with
  | some p=>
   simp only;have:(YL (ZM n) p).n.data.length<=(O n.data):=by
    have e:(YL (ZM n) p).n.data=(ZM n).data:=by cases p<;>rfl
    rw[e];show (if YX n.data n.YS then n.data else []).length<=_;split
    .exact ab _
    .exact am _
   omega
  | none=>
   simp only;obtain⟨h1,h2⟩:=kP n.Zf n;split
   .exact h1
   .rename_i q;have q0:(Zy n n.Zf).n.Zp=aa:=by
     cases e:(Zy n n.Zf).n.Zp with
     | none=>rfl
     | some p=>rw[e]at q;exact absurd rfl q
    have:=h2 q0;show (Yi (Zy n n.Zf).n).n.data.length<=_;rcases (Yr q0 (hb.2 q0)).1.Zp with⟨_,e⟩|⟨_,_,_,_,e,_⟩
    .rw[e];omega
    .rw[e,ae,Nl];omega
 .exact Nat.le_add_right _ _
section
variable {S:Cm->Prop} {C:List Cm} {b:Yn} {L:Nat} {w0:Wd}
theorem Zbj(hC:(O C)<=100000)(hb:ZD b)(pw:PW C b L w0):∀t,PW C b L (QM t w0):=by
 intro t
 induction t with
 | zero=>exact pw
 | succ t ih=>exact ZaY ih hC hb
theorem MF(hC:(O C)<=100000)(hb:ZD b)(pw:PW C b L w0)(hX:X<5){d:Nat}(hd:(w0.Zb X).data.length<=d):∀t,((QM t w0).Zb X).data.length<=d+38*t:=by
 intro t
 induction t with
 | zero=>exact hd
 | succ t ih=>
  have P:=Zbj hC hb pw t;have PX:=P.nd X hX;show ((kq (QM t w0)).Zb X).data.length<=_;rw[Qf _ X hX PX.up];have:=tU ((QM t w0).Zb X) ⟨PX.Yl,fun _=>(JF (JH (C:=C) (b:=b) (L:=L) hX hC hb) _ _ PX (P.Ub X hX)).1.Yl⟩;show (step ((QM t w0).Zb X)).n.data.length<=_;omega
theorem Zbk(hc:UE []∈C):∀a∈SZ.map Raw.ac,sJ S C a:=fun a ha=>by
 obtain⟨x,hx,rfl⟩:=bf.1 ha;have step:∀n,n<5->sJ S C (Wx n).ac:=fun n hn=>⟨⟨by show ((n:Nat):Int).toNat<5;omega,hc⟩,by show (0:Int)<=0;omega,fun now h=>by cases h⟩
 unfold SZ at hx;rcases U.1 hx with hx|hx
 .obtain⟨n,hn,rfl⟩:=Cj hx;exact step n hn
 .rw[o.1 hx];exact⟨⟨Iw,hc⟩,by show (0:Int)<=0;omega,fun now h=>by cases h⟩
theorem Zbl(w:Wd):kq w=(SZ.map Raw.ac).foldl act w:=by
 show _=act (act (act (act (act (act w (Wx 0).ac) (Wx 1).ac) (Wx 2).ac) (Wx 3).ac) (Wx 4).ac) dD.ac;rw[UF,UF,UF,UF,UF,nG];rfl
theorem Ziy(hC:(O C)<=100000)(hc:UE []∈C){k:Nat}{g0:Gh}{M0:Nat->Yn}(W:WI C k w0)(T0:TI S g0 M0 w0):∀T,∃(g:Nat->Gh) (M:Nat->Nat->Yn),g 0=g0/\(∀t,t<=T->TI S (g t) (M t) (QM t w0))/\(∀t,t<T->∀j b s x,(g t).V j b s x->(g (t+1)).V j b s x)/\∃k,WI C k (QM T w0):=by
 intro T
 induction T with
 | zero=>exact⟨fun _=>g0,fun _=>M0,rfl,fun t ht=>by rw[show t=0 by omega];exact T0,fun t ht=>by omega,k,W⟩
 | succ T ih=>
  obtain⟨g,M,h0,h1,h2,k,hW⟩:=ih;obtain⟨g',M',v,TT,WW⟩:=ZaK hC (SZ.map Raw.ac) k (QM T w0) (g T) (M T) hW (h1 T (ab _)) (Zbk hc);rw[<-Zbl]at TT WW;refine⟨fun t=>if t<=T then g t else g',fun t=>if t<=T then M t else M',by simp only[am,if_true];exact h0,fun t ht=>?_,fun t ht=>?_,_,WW⟩
  .by_cases e:t<=T
   .simp only[if_pos e];exact h1 t e
   .simp only[if_neg e];rw[show t=T+1 by omega];exact TT
  .by_cases e:t+1<=T
   .simp only[if_pos e,if_pos (show t<=T by omega)];exact h2 t nT
   .have:t=T:=nT;subst this;simp only[ab,if_true,if_neg e];exact v
theorem nM(hC:(O C)<=100000)(hc:UE []∈C)(hb:ZD b)(hL:L<5)(hn:b.n=L)(hS:∀x,S x->x.err=0){k:Nat}{g0:Gh}{M0:Nat->Yn}(W:WI C k w0)(T0:TI S g0 M0 w0)(pw:PW C b L w0){T:Nat}(hd:∀X,X<5->(w0.Zb X).data.length+38*T<=99900):
  ∃g M,g 0=g0/\Yj S C b L T (fun t=>QM t w0) g M:=by
 obtain⟨g,M,h0,h1,h2,_⟩:=Ziy hC hc W T0 T;refine⟨g,M,h0,hC,hb,hL,hn,fun t=>rfl,pw,fun t ht X hX hf=>?_,h1,h2,hS⟩;have:=MF hC hb pw hX (ab _) t;have:=hd X hX;unfold Full at hf;have h4:38*t<=38*T:=Nat.mul_le_mul_left _ ht;omega
end
structure Zbm(X:Nat)(n:Nd):Prop where
 me:n.me=X
 up:n.up=true
 data:n.data=[]
 YS:n.YS=0
 Zm:n.Zm=JJ
 Z8:n.Z8=Jg
 Zg:n.Zg=aa
 Zh:n.Zh=[]
 Zw:n.Zw=[]
 Zf:n.Zf=[]
 Zp:n.Zp=aa
structure Pv(w:Wd):Prop where
 nd:∀X,Zbm X (w.Zb X)
 PI:w.Zo=[]
theorem Ziz:Pv Ur:=⟨fun X=>⟨rfl,rfl,rfl,rfl,rfl,rfl,rfl,rfl,rfl,rfl,rfl⟩,rfl⟩
theorem Ao{w:Wd}(h:Pv w)(i:Nat)(d:List Nat):Pv (Jk w i d)/\(∀X x,x∈(w.Zb X).Zr->x∈((Jk w i d).Zb X).Zr)/\(YK d 0=0->Xl d 0∈((Jk w i d).Zb i).Zr):=by
 have hl:(w.Zb i).Zw.length=0:=by rw[(h.nd i).Zw];rfl
 have h0:((w.Zb i).Zw.length:Int)=0:=nT;unfold Jk;rw[if_pos (h.nd i).up,h0];by_cases q:YK d 0=0
 .rw[if_neg (by simp[q]),if_neg (by rw[(h.nd i).Zw];simp)];have hq:Zbm i (TF (add (w.Zb i) (Xl d 0)) (Xl d 0))/\(∀x∈(w.Zb i).Zr,x∈(TF (add (w.Zb i) (Xl d 0)) (Xl d 0)).Zr)/\Xl d 0∈(TF (add (w.Zb i) (Xl d 0)) (Xl d 0)).Zr:=by
   have F:=h.nd i;have ha:Zbm i (add (w.Zb i) (Xl d 0))/\(∀x∈(w.Zb i).Zr,x∈(add (w.Zb i) (Xl d 0)).Zr)/\Xl d 0∈(add (w.Zb i) (Xl d 0)).Zr:=by
    unfold add;split
    .rename_i c;refine⟨F,fun x hx=>hx,?_⟩;rcases c with c|c
     .exact c
     .rw[F.Zw]at c;cases c
    .exact⟨⟨F.me,F.up,F.data,F.YS,F.Zm,F.Z8,F.Zg,F.Zh,F.Zw,F.Zf,F.Zp⟩,fun x hx=>U.2 (.inl hx),U.2 (.inr uK)⟩
   obtain⟨A,a2,a3⟩:=ha;unfold TF;split
   .exact⟨A,a2,a3⟩
   .exact⟨⟨A.me,A.up,A.data,A.YS,A.Zm,A.Z8,A.Zg,A.Zh,A.Zw,A.Zf,A.Zp⟩,a2,a3⟩
  refine⟨⟨fun X=>?_,h.PI⟩,fun X x hx=>?_,fun _=>?_⟩
  .rw[JX];by_cases e:X=i
   .rw[if_pos e,e];exact hq.1
   .rw[if_neg e];exact h.nd X
  .rw[JX];by_cases e:X=i
   .rw[if_pos e];rw[e]at hx;exact hq.2.1 x hx
   .rw[if_neg e];exact hx
  .rw[JX,if_pos rfl];exact hq.2.2
 .rw[if_pos (by simp[q])];exact⟨⟨h.nd,h.PI⟩,fun X x hx=>hx,fun e=>absurd e q⟩
section
variable {S:Cm->Prop} {C:List Cm} {b:Yn} {L T:Nat} {w:Nat->Wd} {g:Nat->Gh} {M:Nat->Nat->Yn} {e:Nat} {Q:List Cm}
theorem Clean.short(c:Clean S C b L T w g M e Q)(ht:t<=T)(hX:X<5):((w t).Zb X).Zw.length<=e+(O Q):=by
 by_cases q:((w t).Zb X).Zw.length<=e+(O Q)
 .exact q
 .have hl:e+(O Q)<((w t).Zb X).Zw.length:=nT;have TT:=c.tr.ti t ht;obtain⟨Qm,b',hQm,hv⟩:=(TT.nd X hX).Zw (e+(O Q)) _ (a0 hl);obtain⟨i,hi,_⟩:=hQm.meet hQm;have Kz:=hQm.2.1 i hi;have A:=(TT.nd i Kz).acc;rw[Jn ((c.tr.at t).nd i Kz).up]at A;obtain⟨v,FG,bP,_⟩:=A.all _ _ _ (hv i hi);have K:=(c.at t ht).1 i Kz;have hvb:v.b=b:=by
   rcases K.MH v FG with q|q
   .exact q
   .omega
  obtain⟨r,hr,hp⟩:=K.YZ v FG hvb;rw[bP]at hp;have:=(c.ji T (ab _) r hr).few (s:=e+(O Q)) (by unfold Has;rw[hp];simp);omega
end
def RK(L:Nat):Yn:=⟨1,L⟩
theorem Pw{w:Wd}(h:Pv w)(L:Nat):(act w (Xf L).ac).Zo=[]/\(act w (Xf L).ac).ZA=w.ZA/\∀X,(act w (Xf L).ac).Zb X=if X=L then { w.Zb L with Zg:=B ⟨RK L,[],false,[],[]⟩ } else w.Zb X:=by
 have e:act w (Xf L).ac=w.set L (lead (w.Zb L)):=by
  unfold act Xf Raw.ac;simp
 have F:=h.nd L;have el:lead (w.Zb L) = { w.Zb L with Zg:=B ⟨RK L,[],false,[],[]⟩ }:=by
  have eb:Je (w.Zb L)=RK L:=by
   unfold Je RK;rw[F.Zg,F.Zm,F.Z8,F.me];rfl
  unfold lead;rw[if_neg (by
   rw[F.up,eb];unfold RK;simp only;intro q;rcases q with q|q
   .cases q
   .omega),eb,show XV (w.Zb L).Zp=(w.Zb L).Zp by rw[F.Zp];rfl]
 rw[e,el];refine⟨h.PI,rfl,fun X=>rfl⟩
section
variable {C:List Cm} {L:Nat} {w:Wd}
theorem eW(hL:L<5):ZD (RK L):=⟨⟨by show (1:Int)<=1;omega,by show (1:Int)<=65536;omega⟩,by show (0:Int)<=(L:Int);omega,by show (L:Int)<=4;omega⟩
theorem Zbn(h:Pv w)(hL:L<5){k:Nat}(W:WI C k (act w (Xf L).ac)):PW C (RK L) L (act w (Xf L).ac)/\Un (RK L) L (act w (Xf L).ac):=by
 obtain⟨h1,_,h2⟩:=Pw h L;have hb:=eW hL;have nb0:¬ZE (RK L) Jg:=by unfold ZE RK Jg;simp only;omega
 have ne0:Jg≠RK L:=fun q=>by
  have:=congrArg Yn.r q;unfold Jg RK at this;simp only at this;omega
 have H5:∀X,((act w (Xf L).ac).Zb X).Zf=[]:=fun X=>by
  rw[h2 X];split
  .exact (h.nd L).Zf
  .exact (h.nd X).Zf
 refine⟨⟨fun X hX=>?_,fun l hl=>(by rw[h1]at hl;cases hl),fun X hX l hl=>(by rw[H5]at hl;cases hl)⟩,⟨fun X hX We=>?_,fun X hX l hl=>(by rw[H5]at hl;cases hl),fun l hl=>(by rw[h1]at hl;cases hl)⟩⟩
 .have ni:=W.nd X hX;have e:=h2 X;by_cases q:X=L
  .subst q;rw[if_pos rfl]at e;rw[e]at ni ⊢;have F:=h.nd X;refine⟨ni,F.up,?_,?_,?_,?_,fun q=>absurd rfl q,fun _=>⟨_,rfl,rfl⟩,fun r hr _ s=>?_,fun r hr=>?_,fun r hr s hs=>?_,?_⟩
   .show ¬ZE (RK X) (w.Zb X).Zm.p;rw[F.Zm];exact nb0
   .show ∀v∈(w.Zb X).Zm.l,¬ZE (w.Zb X).Zm.p v.b;rw[F.Zm];intro v hv;cases hv
   .intro p hp;have hp:(w.Zb X).Zp=B p:=hp;rw[F.Zp]at hp;cases hp
   .show 0<=(w.Zb X).YS/\(w.Zb X).YS<=(w.Zb X).data.length;rw[F.YS,F.data];simp
   .obtain rfl:=Option.some.inj hr;rfl
   .obtain rfl:=Option.some.inj hr;exact hb
   .obtain rfl:=Option.some.inj hr;cases hs
   .show Yg (w.Zb X).Zh ((w.Zb X).Zw.length:Int)=aa;rw[F.Zh];rfl
  .rw[if_neg q]at e;rw[e]at ni ⊢;have F:=h.nd X;refine⟨ni,F.up,by rw[F.Zm];exact nb0,(by rw[F.Zm];intro v hv;cases hv),fun p hp=>(by rw[F.Zp]at hp;cases hp),by rw[F.YS,F.data];simp,fun _ r hr=>(by rw[F.Zg]at hr;cases hr),fun p=>absurd p q,fun r hr=>(by rw[F.Zg]at hr;cases hr),fun r hr=>(by rw[F.Zg]at hr;cases hr),fun r hr=>(by rw[F.Zg]at hr;cases hr),by rw[F.Zh];rfl⟩
 .rw[h2 X,if_neg We];have F:=h.nd X;exact⟨by rw[F.Zm];exact ne0,fun p hp=>(by rw[F.Zp]at hp;cases hp)⟩
theorem Zbo(h:Pv w)(Pb:Int->Cm->Prop)(X:Nat):CN (RK L) Pb (0:Nat) L X ((act w (Xf L).ac).Zb X):=by
 obtain⟨_,_,h2⟩:=Pw h L;rw[h2 X];by_cases q:X=L
 .rw[if_pos q];have F:=h.nd L;refine⟨fun p=>absurd q p,?_,?_,?_,fun r hr j vs hv=>?_⟩
  .show ∀v∈(w.Zb L).Zm.l,_;rw[F.Zm];intro v hv;cases hv
  .intro p hp;have hp:(w.Zb L).Zp=B p:=hp;rw[F.Zp]at hp;cases hp
  .show Lo _ _ (w.Zb L).Zm.l;rw[F.Zm];intro v hv;cases hv
  .obtain rfl:=Option.some.inj hr;cases hv
 .rw[if_neg q];have F:=h.nd X;exact⟨fun _=>F.Zg,(by rw[F.Zm];intro v hv;cases hv),fun p hp=>(by rw[F.Zp]at hp;cases hp),(by rw[F.Zm];intro v hv;cases hv),fun r hr=>(by rw[F.Zg]at hr;cases hr)⟩
end
def Px(A:List Raw)(x:Cm):Prop:=∃a∈A,a.k=1/\YK a.data 0=0/\x=Xl a.data 0
theorem Ap{A:List Raw}(hA:∀x∈A,x.err=0)(hl:(O A)<=90000):∃(g:Gh) (M:Nat->Yn) (k:Nat),TI (Px A) g M (Xc A)/\WI (UE [] :: A.map fun x=>UE x.data) k (Xc A):=by
 have hC:(UE [] :: A.map fun x=>UE x.data).length<=100000:=by rw[aU,a5];omega
 have ok:∀a∈A.map Raw.ac,sJ (Px A) (UE [] :: A.map fun x=>UE x.data) a:=fun a ha=>by
  obtain⟨h1,h2,h3⟩:=ZaQ hA (S:=Px A) (fun z hz hk now h=>by
   obtain⟨q1,q2⟩:=IZ h (now:=0) nT nT;exact⟨z,hz,hk,q1,q2.symm⟩) a ha
  exact⟨⟨h1.1,List.mem_cons_of_mem _ h1.2⟩,h2,h3⟩
 obtain⟨g,M,_,T0,W⟩:=ZaK hC (A.map Raw.ac) 0 Ur gh0 (fun _=>Jg) (LZ _) dI ok;exact⟨g,M,_,T0,W⟩
theorem Ej(A:List Raw)(L many:Nat)(hu:∀i,i<5->((Xc A).Zb i).up=true)(hu2:∀i,i<5->((act (Xc A) (Xf L).ac).Zb i).up=true):Xc (Jw A L many)=QM many (act (Xc A) (Xf L).ac):=by
 have e1:Xc (Qt A 0)=Xc A:=by
  unfold Qt;rw[show Ul 0=[] from rfl,a9,Ea A hu]
 have e2:Xc (Qt A 0++[Xf L])=act (Xc A) (Xf L).ac:=by
  rw[Pm,e1];rfl
 unfold Jw;show Xc ((Qt A 0++[Xf L])++XZ 5++Ul many)=_;rw[ZaV,Ea _ (fun i hi=>by rw[e2];exact hu2 i hi),e2]
theorem eY(n:Nd)(l:YF):(Zu n l).n.Yt=n.Yt:=by
 have hg:∀(k:Nat) (n:Nd),(Ye k n).1.Yt=n.Yt:=by
  intro k
  induction k with
  | zero=>intro n;rfl
  | succ k ih=>
   intro n;unfold Ye;split
   .rfl
   .exact ih _
 have hl:∀(n:Nd) s x,(X8 n s x).n.Yt=n.Yt:=fun n s x=>hg _ _;have hn:(Xk n l).Yt=n.Yt:=by unfold Xk;split<;>rfl
 unfold Zu;split
 .unfold YA
  repeat' split
  all_goals rfl
 split
 .unfold Ym
  cases hr:n.Zg with
  | none=>rfl
  | some r=>
   simp only;split
   .split<;>rfl
   .split
    .rfl
    .split
     .rw[hl];rfl
     .rfl
 split
 .unfold asked
  repeat' split
  all_goals rfl
 split
 .show (add n l.v.cm).Yt=_;unfold add;split<;>rfl
 split
 .unfold Qd;split<;>exact hn
 split
 .exact hl _ _ _
 .exact hn
theorem Ek:∀(k:List YF) (n:Nd),(Zy n k).n.Yt=n.Yt:=by
 intro k
 induction k with
 | nil=>intro n;rfl
 | cons l k ih=>
  intro n;unfold Zy;split
  .rfl
  .show (Zy _ k).n.Yt=_;rw[ih,eY]
theorem fa(hu:n.up=true):(step n).n.Yt=n.Yt/\¬VI n\/((step n).n.Zp=aa/\(step n).n.Yt=(n.Yt+1)%5 /\
  ((step n).n.Yt≠(step n).n.me->(step n).n.Zw.length<40->∃bb,(⟨5,(step n).n.me,(step n).n.Yt,bb,QC (step n).n.Zw.length Jg Nv,[]⟩:YF)∈(step n).ls)) \/
  ∃p,(Yi (Zy n n.Zf).n).n.Zp=B p/\(step n).n.Yt=n.Yt:=by
 by_cases hf:VI n
 .rw[Ui hu hf];have ht:=Ek n.Zf n
  cases hq:(Yi (Zy n n.Zf).n).n.Zp with
  | some p=>
   refine .inr (.inr ⟨p,rfl,?_⟩);show (Yi (Zy n n.Zf).n).n.Yt=_;have:Yi (Zy n n.Zf).n=Z2 (Zn (Zy n n.Zf).n):=by
    rw[TN.2.1]at hq;unfold Yi;rw[if_pos (by rw[hq];rfl)]
   rw[this,(Vb _).1,ht]
  | none=>
   obtain⟨e1,e2⟩:=tD hq;have hm:(Yi (Zy n n.Zf).n).n.me=(Zy n n.Zf).n.me/\(Yi (Zy n n.Zf).n).n.Zw=(Zy n n.Zf).n.Zw:=by
    unfold Yi;split
    .exact⟨(Vb _).2.2,(Vb _).2.1⟩
    .exact⟨(Vb _).2.2,(Vb _).2.1⟩
   refine .inr (.inl ⟨rfl,by show (Yi (Zy n n.Zf).n).n.Yt=_;rw[e1,ht],fun h1 h2=>?_⟩);have h1:(Yi (Zy n n.Zf).n).n.Yt≠(Yi (Zy n n.Zf).n).n.me:=h1;have h2:(Yi (Zy n n.Zf).n).n.Zw.length<40:=h2;rw[hm.1]at h1;rw[hm.2]at h2;obtain⟨bb,hb⟩:=e2 h1 h2;refine⟨bb,U.2 (.inr ?_)⟩;show (⟨5,(Yi (Zy n n.Zf).n).n.me,(Yi (Zy n n.Zf).n).n.Yt,bb,QC (Yi (Zy n n.Zf).n).n.Zw.length Jg Nv,[]⟩:YF)∈_;rw[hm.1,hm.2];exact hb
 .refine .inl ⟨?_,hf⟩;unfold step;rw[if_pos hu]
  cases hp:n.Zp with
  | some p=>cases p<;>rfl
  | none=>
   simp only;rw[if_pos ?_]
   .exact Ek _ _
   .cases q:(Zy n n.Zf).n.Zp with
    | none=>exact absurd ⟨hp,q⟩ hf
    | some p=>rfl
section
variable {S:Cm->Prop} {C:List Cm} {b:Yn} {L T:Nat} {w:Nat->Wd} {g:Nat->Gh} {M:Nat->Nat->Yn}
theorem El{C:List Cm}{b:Yn}{L:Nat}(h:PN C b L X n)(hp:n.Zp=aa)(hb:n.Zm.p=b):(Yi n).n.Zp=aa:=by
 rw[TN.2.1];rcases U9 n with⟨e,e2⟩|⟨r,e,_,e2⟩|⟨r,e,q,e2⟩
 .rw[e2];unfold Z2;rw[e];simp only;split<;>exact hp
 .rw[e2];unfold Z2;simp only;split<;>exact hp
 .by_cases hX:X=L
  .subst hX;obtain⟨r',e',hr⟩:=h.Z1 rfl;obtain⟨e1,e3⟩:=Ti h hp e;rw[e3];unfold Js;rw[if_neg (by rw[hb,e1];unfold ZE;omega)];split
   .exact hp
   .exact hp
  .rw[hb]at q;exact absurd (h.VN hX r e) q
def ZeH(s:Nat)(X Y:Nat)(w:Wd):Prop:=Src (fun m=>m.ZR=5/\m.v.Zt=(s:Int)/\m.Jp=X/\m.to=Y) (fun _=>False) (fun _=>False) (w.Zb Y)
def kQ(s:Nat)(X:Nat)(w:Wd):Prop:=Src (fun m=>m.ZR=6/\m.v.Zt=(s:Int)/\m.to=X) (fun n=>Has n.Zh (s:Int)) (fun _=>False) (w.Zb X)
def Lrn(s:Nat)(X Y:Nat)(w:Wd):Prop:=s<(w.Zb X).Zw.length\/ZeH s X Y w\/kQ s X w
def Far(k:Nat)(Y:Nat)(n:Nd):Prop:=∃j:Nat,j<=k/\(n.Yt+1+j)%5=Y
theorem Yj.Znz(tr:Yj S C b L T w g M)(ho:∀X,X<5->((w 0).Zb X).Zm.p=b)(hX:X<5):∀t,t<=T->((w t).Zb X).Zm.p=b:=fun t ht=>
 tr.stays (Z:=fun t=>((w t).Zb X).Zm.p=b) (fun t ht h=>tr.Pq hX h ht) (ho X hX) t (am _) ht
theorem Yj.more(tr:Yj S C b L T w g M){s:Nat}(hX:X<5)(h:s<((w t).Zb X).Zw.length):s<((w (t+1)).Zb X).Zw.length:=by
 have hs:s<(step ((w t).Zb X)).n.Zw.length:=by
  have W:Laws (fun n=>PN C b L X n/\s<n.Zw.length) (PJ C b) (PJ C b):=(JH (C:=C) (b:=b) (L:=L) (X:=X) hX tr.hC tr.hb).and (E:=fun n=>s<n.Zw.length) (fun n k h=>h) (fun n l h _ _ q=>by
    obtain⟨e,he⟩:=(Ta n l).Zw;rw[he,ae];omega) (fun n h hp q=>by rw[(Yr hp h.Yl).1.Zw];exact q) (fun n p h hp q=>by
    obtain⟨e,he⟩:=(Tb n p).Zw;rw[he,ae];omega)
  exact (Va W ((tr.at t).nd X hX).up ⟨(tr.at t).nd X hX,h⟩ ((tr.at t).Ub X hX)).1.2
 rw[tr.nx,Qf _ X hX ((tr.at t).nd X hX).up];exact hs
theorem Yj.Aq(tr:Yj S C b L T w g M){Y s k:Nat}(hX:X<5)(hY:Y<5)(Y4:X≠Y)(hs:s<40)(ho:∀t,t<=T->((w t).Zb X).Zm.p=b)(ht:t<T)(hl:s<=((w t).Zb X).Zw.length)(h:Far k Y ((w t).Zb X)):
  (Far k Y ((w (t+1)).Zb X)/\¬VI ((w t).Zb X))\/(0<k/\Far (k-1) Y ((w (t+1)).Zb X))\/s<((w (t+1)).Zb X).Zw.length\/ZeH s X Y (w (t+1)):=by
 have P:=(tr.at t).nd X hX;have e:(w (t+1)).Zb X = { (step ((w t).Zb X)).n with Zf:=(step ((w t).Zb X)).n.Zf++(T8 (w t)).filter (fun l=>decide (l.to.toNat=X)) }:=by rw[tr.nx];exact Qf _ X hX P.up
 have el:((w (t+1)).Zb X).Zw=(step ((w t).Zb X)).n.Zw:=by rw[e]
 have et:((w (t+1)).Zb X).Yt=(step ((w t).Zb X)).n.Yt:=by rw[e]
 have em:(step ((w t).Zb X)).n.me=(X:Nat):=by
  have:=((tr.at (t+1)).nd X hX).ni.me;rw[e]at this;exact this
 obtain⟨j,hj,hf⟩:=h;rcases fa P.up with⟨q1,q2⟩|⟨q0,q1,q2⟩|⟨p,q1,_⟩
 .exact .inl ⟨⟨j,hj,by rw[et,q1];exact hf⟩,q2⟩
 .by_cases j0:j=0
  .subst j0;refine .inr (.inr ?_);by_cases ZS:s<((w (t+1)).Zb X).Zw.length
   .exact .inl ZS
   have hle:((w (t+1)).Zb X).Zw.length=s:=by
    have:s<=((w (t+1)).Zb X).Zw.length:=by
     cases s with
     | zero=>exact am _
     | succ s=>exact tr.more hX (t:=t) (s:=s) hl
    omega
   have tY:(step ((w t).Zb X)).n.Yt=Y:=by rw[q1];simpa using hf
   rw[el]at hle;rw[tY,em,hle]at q2;obtain⟨bb,hm⟩:=q2 nT hs;exact .inr (tr.comes hY ⟨_,UG.2 (.inr ⟨X,hX,hm⟩),rfl,rfl,rfl,rfl⟩ fun m h=>h.2.2.2)
  .refine .inr (.inl ⟨nT,j-1,nT,?_⟩);rw[et,q1];omega
 ·-- a record of its Zm: there is aa
  by_cases hf2:VI ((w t).Zb X)
  .exfalso;have hd:=(JF (JH (C:=C) (b:=b) (L:=L) hX tr.hC tr.hb) ((w t).Zb X).Zf ((w t).Zb X) P ((tr.at t).Ub X hX)).1;have uw:(Zy ((w t).Zb X) ((w t).Zb X).Zf).n.Zm=((w t).Zb X).Zm:=(Wa _ _ hf2.2).Zm;rw[El hd hf2.2 (by rw[uw];exact ho t nT)]at q1
   cases q1
  .rcases fa P.up with⟨r1,r2⟩|⟨_,_,_⟩|⟨_,_,r1⟩
   .exact .inl ⟨⟨j,hj,by rw[et,r1];exact hf⟩,r2⟩
   .exact .inl ⟨⟨j,hj,by rw[et];rename_i r _;rw[‹(step ((w t).Zb X)).n.Yt=((w t).Zb X).Yt›];exact hf⟩,hf2⟩
   .exact .inl ⟨⟨j,hj,by rw[et,r1];exact hf⟩,hf2⟩
theorem Yj.Ar(tr:Yj S C b L T w g M){s:Nat}(hX:X<5)(h:kQ s X (w t)):kQ s X (w (t+1)):=by
 rcases (tr.Wy hX (Co (G:=fun _=>False)) h).1 with q|⟨_,_,q⟩
 .exact q
 .exact q.elim
theorem Yj.fb(tr:Yj S C b L T w g M){Y s:Nat}(hX:X<5)(hY:Y<5)(hk:Has ((w t).Zb Y).Zh (s:Int))(h:ZeH s X Y (w t)):(ZeH s X Y (w (t+1))\/kQ s X (w (t+1)))/\(VI ((w t).Zb Y)->kQ s X (w (t+1))):=by
 have P:=(tr.at t).nd Y hY;obtain⟨h1,h2⟩:=dP (kD hY tr.hC tr.hb (s:Int)) (tq (X:=X)) P.up ⟨P,hk⟩ ((tr.at t).Ub Y hY) h;have hm:(∃m∈(step ((w t).Zb Y)).ls,m.ZR=6/\m.v.Zt=(s:Int)/\m.to=X)->kQ s X (w (t+1)):=fun⟨m,q1,q2⟩=>
  tr.comes hX ⟨m,UG.2 (.inr ⟨Y,hY,q1⟩),q2⟩ fun m h=>h.2.2
 refine⟨?_,fun hf=>?_⟩
 .rcases h1 with (q|q|⟨l,hl,q⟩)|q
  .exact q.elim
  .exact q.elim
  .refine .inl (.inr (.inr ⟨l,?_,q⟩));rw[tr.nx,Qf _ Y hY P.up];exact U.2 (.inl hl)
  .exact .inr (hm q)
 .rcases h2 hf with q|q
  .exact q.elim
  .exact hm q
theorem Yj.As(tr:Yj S C b L T w g M){Y s:Nat}(hX:X<5)(hY:Y<5)(hk:Has ((w t).Zb Y).Zh (s:Int))(h:Lrn s X Y (w t)):Lrn s X Y (w (t+1)):=by
 rcases h with h|h|h
 .exact .inl (tr.more hX h)
 .rcases (tr.fb hX hY hk h).1 with q|q
  .exact .inr (.inl q)
  .exact .inr (.inr q)
 .exact .inr (.inr (tr.Ar hX h))
theorem Yj.X8(tr:Yj S C b L T w g M){Y s:Nat}(hX:X<5)(hY:Y<5)(hs:s<40)(ho:∀X,X<5->((w 0).Zb X).Zm.p=b)(hk:Has ((w 0).Zb Y).Zh (s:Int))(hl:s<=((w 0).Zb X).Zw.length):∀t,t<=T->Ct w t 7->s<((w t).Zb X).Zw.length:=by
 have hlX:∀t,t<=T->s<=((w t).Zb X).Zw.length:=fun t ht=>tr.stays (Z:=fun t=>s<=((w t).Zb X).Zw.length) (fun t _ h=>by
  cases s with
  | zero=>exact am _
  | succ s=>exact tr.more hX (s:=s) h) hl t (am _) ht
 have hkY:∀t,t<=T->Has ((w t).Zb Y).Zh (s:Int):=fun t ht=>tr.stays (Z:=fun t=>Has ((w t).Zb Y).Zh (s:Int)) (fun t _ h=>tr.Wz hY h) hk t (am _) ht;have hoX:=tr.Znz ho hX
 -- where both are one,nothing is to be Zqz
 have self:Has ((w 0).Zb X).Zh (s:Int)->s<((w 0).Zb X).Zw.length:=fun h=>by
  have P:=(tr.at 0).nd X hX;refine P.Eh (s:=s) fun u hu=>?_;by_cases e:u=s
  .rw[e];exact h
  .have:=P.ni.Zw u nT;intro q;rw[q]at this
   cases this
 by_cases Y4:X=Y
 .subst Y4;intro t ht _;exact tr.stays (Z:=fun t=>s<((w t).Zb X).Zw.length) (fun t _ h=>tr.more hX h) (self hk) t (am _) ht
 have far:∀k,k<=4->∀t,t<=T->Ct w t (4-k)->Lrn s X Y (w t)\/Far k Y ((w t).Zb X):=by
  intro k
  induction hk4:4-k generalizing k with
  | zero=>
   intro hk t ht _;obtain rfl:k=4:=nT;have tn:=((tr.at t).nd X hX).ni.Yt;refine .inr ⟨((Y+5-1-((w t).Zb X).Yt)%5).toNat,nT,nT⟩
  | succ d ih=>
   intro hk;have z:=ih (k+1) nT nT;refine tr.US (k:=d) z (fun t ht h=>?_) (fun t ht hc h=>?_)
   .rcases h with h|h
    .exact .inl (tr.As hX hY (hkY t nT) h)
    .rcases tr.Aq hX hY Y4 hs hoX ht (hlX t nT) h with⟨q,_⟩|⟨q0,q⟩|q|q
     .exact .inr q
     .obtain⟨j,hj,q⟩:=q;exact .inr ⟨j,nT,q⟩
     .exact .inl (.inl q)
     .exact .inl (.inr (.inl q))
   .rcases h with h|h
    .exact .inl (tr.As hX hY (hkY t nT) h)
    .rcases tr.Aq hX hY Y4 hs hoX ht (hlX t nT) h with⟨_,q⟩|⟨_,q⟩|q|q
     .exact absurd (hc X hX) q
     .exact .inr (by simpa using q)
     .exact .inl (.inl q)
     .exact .inl (.inr (.inl q))
 have z5:∀t,t<=T->Ct w t 5->Lrn s X Y (w t):=by
  refine tr.US (k:=4) (far 0 nT) (fun t ht h=>tr.As hX hY (hkY t nT) h) (fun t ht hc h=>?_);rcases h with h|h
  .exact tr.As hX hY (hkY t nT) h
  .rcases tr.Aq hX hY Y4 hs hoX ht (hlX t nT) h with⟨_,q⟩|⟨q,_⟩|q|q
   .exact absurd (hc X hX) q
   .omega
   .exact .inl q
   .exact .inr (.inl q)
 have z6:∀t,t<=T->Ct w t 6->s<((w t).Zb X).Zw.length\/kQ s X (w t):=by
  refine tr.US (k:=5) z5 (fun t ht h=>?_) (fun t ht hc h=>?_)
  .rcases h with h|h
   .exact .inl (tr.more hX h)
   .exact .inr (tr.Ar hX h)
  .rcases h with h|h|h
   .exact .inl (tr.more hX h)
   .exact .inr ((tr.fb hX hY (hkY t nT) h).2 (hc Y hY))
   .exact .inr (tr.Ar hX h)
 refine tr.US (k:=6) z6 (fun t ht h=>tr.more hX h) (fun t ht hc h=>?_);rcases h with h|h
 .exact tr.more hX h
 .have hq:Has ((w (t+1)).Zb X).Zh (s:Int):=by
   rcases (tr.Wy hX (Co (G:=fun _=>False)) h).2 (hc X hX) with q|⟨_,_,q⟩
   .exact q
   .exact q.elim
  have P:=(tr.at (t+1)).nd X hX;have Hd:=hlX (t+1) nT;refine P.Eh (s:=s) fun u hu=>?_;by_cases e:u=s
  .rw[e];exact hq
  .have:=P.ni.Zw u nT;intro q;rw[q]at this
   cases this
end
def T9(l:List Cm):List Value:=l.foldl Wh Yy
def Zbp(i:Nat)(st:List Value)(x:Cm):PS:=⟨i,x.c,x.s,Wp st x,Ru st x⟩
def NWt(n:Nd):Prop:=n.Zi.Nodup/\∀x∈n.Zi,x ∉ n.Zw
structure Wt(n m:Nd)(ts:List PS):Prop where
 me:m.me=n.me
 Zw:∃e,m.Zw=n.Zw++e
 len:(O ts)+m.Zi.length=n.Zi.length
 sub:∀x∈m.Zi,x∈n.Zi
 nw:NWt n->NWt m
 st:n.store=T9 n.Zw->m.store=T9 m.Zw
 ZA:n.store=T9 n.Zw->∀t∈ts,∃x pre e,m.Zw=pre++x :: e/\x∈n.Zi/\t=Zbp n.me (T9 pre) x
theorem Wt.same{m:Nd}(h0:m.me=n.me)(h1:m.Zw=n.Zw)(h2:m.Zi=n.Zi)(h3:m.store=n.store):Wt n m []:=
 ⟨h0,⟨[],by rw[h1,a9]⟩,by rw[h2];exact Nat.zero_add _,fun x h=>by rw[<-h2];exact h,fun h=>by unfold NWt;rw[h1,h2];exact h,fun h=>by rw[h1,h3];exact h,fun _ t ht=>by cases ht⟩
theorem Wt.refl(n:Nd):Wt n n []:=.same rfl rfl rfl rfl
theorem Wt.trans{m p:Nd}{ts us:List PS}(h:Wt n m ts)(k:Wt m p us):Wt n p (ts++us):=by
 obtain⟨e1,g1⟩:=h.Zw;obtain⟨e2,g2⟩:=k.Zw;refine⟨by rw[k.me,h.me],⟨e1++e2,by rw[g2,g1,bh]⟩,?_,fun x hx=>h.sub x (k.sub x hx),fun q=>k.nw (h.nw q),fun q=>k.st (h.st q),fun q t ht=>?_⟩
 .have:=h.len;have:=k.len;rw[ae];omega
 .rcases U.1 ht with ht|ht
  .obtain⟨x,pre,e,a1,a2,a3⟩:=h.ZA q t ht;exact⟨x,pre,e++e2,by rw[g2,a1];simp,a2,a3⟩
  .obtain⟨x,pre,e,a1,a2,a3⟩:=k.ZA (h.st q) t ht;exact⟨x,pre,e,a1,h.sub x a2,by rw[a3,h.me]⟩
theorem tV(n:Nd)(x:Cm):Wt n (JZ n x) (WT n x):=by
 have st:n.store=T9 n.Zw->(JZ n x).store=T9 (JZ n x).Zw:=fun q=>by
  show Wh n.store x=T9 (n.Zw++[x]);unfold T9 at *;rw[List.foldl_append,<-q];rfl
 refine⟨rfl,⟨[x],rfl⟩,?_,fun y hy=>bg hy,fun q=>⟨List.Nodup.erase _ q.1,fun y hy hl=>?_⟩,st,fun q t ht=>?_⟩
 .show (WT n x).length+(n.Zi.erase x).length=n.Zi.length;unfold WT;by_cases c:x∈n.Zi
  .rw[if_pos c,List.length_erase_of_mem c];have:=List.length_pos_of_mem c;simp only[List.length_singleton];omega
  .rw[if_neg c,List.erase_of_not_mem c];exact Nat.zero_add _
 .have hl:y∈n.Zw++[x]:=hl;have hy:y∈n.Zi.erase x:=hy;rcases U.1 hl with hl|hl
  .exact q.2 y (bg hy) hl
  .rw[o.1 hl]at hy;exact (List.Nodup.mem_erase_iff q.1).1 hy |>.1 rfl
 .unfold WT at ht;by_cases c:x∈n.Zi
  .rw[if_pos c]at ht;rw[o.1 ht];exact⟨x,n.Zw,[],rfl,c,by unfold Zbp;rw[<-q]⟩
  .rw[if_neg c]at ht;cases ht
theorem kR:∀(k:Nat) (n:Nd),Wt n (Ye k n).1 (Ye k n).2:=by
 intro k
 induction k with
 | zero=>intro n;exact .refl n
 | succ k ih=>
  intro n;unfold Ye;split
  .exact .refl n
  .exact (tV n _).trans (ih _)
theorem fc(n:Nd)(s:Int)(x:Cm):Wt n (X8 n s x).n (X8 n s x).ts:=
 (Wt.same (n:=n) (m:=Jd n s x) rfl rfl rfl rfl).trans (kR _ _)
theorem tW(n:Nd)(l:YF):Wt n (Zu n l).n (Zu n l).ts:=by
 have hn:Wt n (Xk n l) []:=by unfold Xk;split<;>exact .same rfl rfl rfl rfl
 unfold Zu;split
 .unfold YA
  repeat' split
  all_goals exact .same rfl rfl rfl rfl
 split
 .unfold Ym
  cases hr:n.Zg with
  | none=>exact .refl n
  | some r=>
   simp only;split
   .split<;>exact .same rfl rfl rfl rfl
   .split
    .exact .refl n
    .split
     .exact (Wt.same (n:=n) (m:=TD n r l) rfl rfl rfl rfl).trans (fc _ _ _)
     .exact .same rfl rfl rfl rfl
 split
 .unfold asked
  repeat' split
  all_goals exact .same rfl rfl rfl rfl
 split
 .show Wt n (add n l.v.cm) [];unfold add;split<;>exact .same rfl rfl rfl rfl
 split
 .unfold Qd;split<;>exact hn
 split
 .exact fc _ _ _
 .exact hn
theorem fe:∀(k:List YF) (n:Nd),Wt n (Zy n k).n (Zy n k).ts:=by
 intro k
 induction k with
 | nil=>intro n;exact .same rfl rfl rfl rfl
 | cons l k ih=>
  intro n;unfold Zy;split
  .exact .same rfl rfl rfl rfl
  .exact ((Wt.same (n:=n) (m:={ n with Zf:=k }) rfl rfl rfl rfl).trans (tW _ l)).trans (ih _)
theorem ZeI(n:Nd):Wt n (Yi n).n []:=by
 have hs:(Zn n).me=n.me/\(Zn n).Zw=n.Zw/\(Zn n).Zi=n.Zi/\(Zn n).store=n.store:=by
  unfold Zn;split
  .split<;>exact⟨rfl,rfl,rfl,rfl⟩
  .exact⟨rfl,rfl,rfl,rfl⟩
 have hd:∀m:Nd,(Z2 m).n.me=m.me/\(Z2 m).n.Zw=m.Zw/\(Z2 m).n.Zi=m.Zi/\(Z2 m).n.store=m.store:=fun m=>by
  unfold Z2;split
  .unfold Js
   repeat' split
   all_goals exact⟨rfl,rfl,rfl,rfl⟩
  .split<;>exact⟨rfl,rfl,rfl,rfl⟩
 obtain⟨a1,a2,a3,a4⟩:=hd (Zn n);obtain⟨b1,b2,b3,b4⟩:=hs;unfold Yi;split
 .exact .same (by rw[a1,b1]) (by rw[a2,b2]) (by rw[a3,b3]) (by rw[a4,b4])
 .exact .same (by show (Z2 (Zn n)).n.me=_;rw[a1,b1]) (by show (Z2 (Zn n)).n.Zw=_;rw[a2,b2]) (by show (Z2 (Zn n)).n.Zi=_;rw[a3,b3]) (by show (Z2 (Zn n)).n.store=_;rw[a4,b4])
theorem ZeJ(n:Nd):Wt n (step n).n (step n).ts:=by
 unfold step;split
 .cases hp:n.Zp with
  | some p=>cases p<;>exact .same rfl rfl rfl rfl
  | none=>
   simp only;split
   .exact fe _ _
   .have:=(fe n.Zf n).trans (ZeI (Zy n n.Zf).n);rw[a9]at this;have e:(Yi (Zy n n.Zf).n).ts=[]:=by
     have hd:∀m:Nd,(Z2 m).ts=[]:=fun m=>by
      unfold Z2;split
      .unfold Js
       repeat' split
       all_goals rfl
      .split<;>rfl
     unfold Yi;split
     .exact hd _
     .rfl
    show Wt n (Yi (Zy n n.Zf).n).n ((Zy n n.Zf).ts++(Yi (Zy n n.Zf).n).ts);rw[e,a9];exact this
 .exact .refl n
