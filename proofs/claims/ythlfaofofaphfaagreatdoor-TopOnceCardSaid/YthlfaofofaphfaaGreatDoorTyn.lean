/- Part Tyn. -/
import Derived.Test.YthlfaofofaphfaaGreatDoorTyc
open List renaming mem_singleton→U,length→aa,mem_append→ae,length_append→am,mem_flatMap→aw,mem_filter→aN,mem_range→aO,mem_cons→a0,mem_map→a5,filter_cons→a6,length_cons→a7,length_map→a9,nodup_iff_pairwise_ne→bc,getElem?_eq_getElem→be,not_mem_nil→bf,getElem_mem→bg
open Nat renaming le_refl→al,zero_le→a8
open Option renaming isSome_none→a4,isSome_some→ba,some→B,none→ab
open Bool renaming false_eq_true→aD
open Classical renaming byContradiction→bd
namespace Go.Proofs.YthlfaofofaphfaaGreatDoor
open Go Go.V
set_option linter.unusedSimpArgs false
set_option linter.unusedVariables false
variable{X t:Nat}{n:Nd}{r:XE}{x:Cm}
theorem Hx(n:Nd)(r:XE)(x:Cm):XZ r (Qc n r x):=by
 unfold Qc;split
 .rename_i s hs;refine⟨rfl,fun t y h=>?_,fun h=>h,fun _ h=>h,fun _ _ h=>h⟩;show Yh (ins r.ZY (s:Int) x) t=B y;rw[Xk];split
  .rename_i e;have:=(Ny _ _ _ hs).2.2.1;rw[<-e,this]at h
   cases h
  .exact h
 .exact XZ.refl r
theorem Vc(n:Nd):∀(l:List Cm) (r:XE),XZ r (Jj n r l):=by
 intro l
 induction l with
 | nil=>intro r;exact XZ.refl r
 | cons x l ih=>intro r;exact (Hx n r x).trans (ih _)
def Blank(o:Option XE):Prop:=∀r,o=B r->r.XU=false->∀s,Yh r.ZY s=ab
theorem Hy(n:Nd)(r:XE)(hb:r.XU=false->∀s,Yh r.ZY s=ab):XZ r (X9 n r)/\(X9 n r).XU=true:=by
 have hp:∀(l:List Cm) (r:XE),r.XU=true->(Jj n r l).XU=true:=fun l r h=>(Vc n l r).XU h;unfold X9;by_cases q:r.XU=true
 .rw[if_pos q];exact⟨Vc n _ r,hp _ _ q⟩
 .rw[if_neg q];have q0:r.XU=false:=by simpa using q
  refine⟨XZ.trans (b:=Wn n r) ⟨rfl,fun s x h=>?_,fun h=>absurd h q,fun _ h=>h,fun _ _ h=>h⟩ (Vc n _ _),hp _ _ rfl⟩;rw[hb q0 s]at h
  cases h
theorem NC(n:Nd)(r:XE):(X9 n r).Xb=r.Xb/\(X9 n r).ZI=r.ZI:=by
 have hp:∀(l:List Cm) (r:XE),(Jj n r l).Xb=r.Xb/\(Jj n r l).ZI=r.ZI:=by
  intro l
  induction l with
  | nil=>intro r;exact⟨rfl,rfl⟩
  | cons x l ih=>
   intro r;have e:(Qc n r x).Xb=r.Xb/\(Qc n r x).ZI=r.ZI:=by unfold Qc;split<;>exact⟨rfl,rfl⟩
   obtain⟨h1,h2⟩:=ih (Qc n r x);exact⟨by rw[<-e.1];exact h1,by rw[<-e.2];exact h2⟩
 unfold X9;obtain⟨h1,h2⟩:=hp n.Zx (if r.XU=true then r else Wn n r);rw[h1,h2];split<;>exact⟨rfl,rfl⟩
structure Ev(n m:Nd):Prop where
 up:m.up=n.up
 me:m.me=n.me
 ZA:m.ZA=n.ZA
 Zi:m.Zi=n.Zi
 Zx:m.Zx=n.Zx
 Zk:m.Zk=n.Zk
 Zq:m.Zq=n.Zq
 Y4:m.Y4=n.Y4
 S9:(n.Zh=ab/\m.Zh=ab)\/(∃r,n.Zh=B r/\ZM r.b n.Zq.p/\m.Zh=ab)\/∃r r',n.Zh=B r/\¬ZM r.b n.Zq.p/\m.Zh=B r'/\XZ r r'/\(r'=r\/r'.XU=true)/\r'.Xb=r.Xb/\r'.ZI=r.ZI
 Zs:(m.Zs=ab/\m.data=n.data)\/∃r,n.Zh=B r/\ZM n.Zq.p r.b/\Jp n.data n.Y4 r.b=0/\m.data=n.data++YV (JT r.b) /\
  m.Zs=B (.Zq (if YI n.Zq.p n.Zq.l r.b=0 then ⟨r.b,n.Zq.l⟩ else JN) (if YI n.Zq.p n.Zq.l r.b=0 then n.Zq.l else []) true)
theorem Vx(n:Nd):(n.Zh=ab/\Zo n=n)\/(∃r,n.Zh=B r/\ZM r.b n.Zq.p/\Zo n = { n with Zh:=ab })\/∃r,n.Zh=B r/\¬ZM r.b n.Zq.p/\Zo n=n:=by
 unfold Zo
 cases hr:n.Zh with
 | none=>exact .inl ⟨rfl,rfl⟩
 | some r=>
  simp only;by_cases q:ZM r.b n.Zq.p
  .rw[if_pos q];exact .inr (.inl ⟨r,rfl,q,rfl⟩)
  .rw[if_neg q];exact .inr (.inr ⟨r,rfl,q,rfl⟩)
theorem Ev.Yv{m:Nd}(h:Ev n m):Ev n (J7 m):=⟨h.up,h.me,h.ZA,h.Zi,h.Zx,h.Zk,h.Zq,h.Y4,h.S9,h.Zs⟩
def ZeS(n:Nd)(l:YH):Prop:=l.Z3=0\/l.Z3=2->∃r,n.Zh=B r/\¬ZM r.b n.Zq.p/\¬ZM n.Zq.p r.b/\(l.Z3=0->l.b=r.b)/\(l.Z3=2->l.v.b=r.b)/\l.Jw=n.me
theorem lq(hp:n.Zs=ab)(hr:n.Zh=B r)(hq:¬ZM r.b n.Zq.p)(hb:r.XU=false->∀s,Yh r.ZY s=ab):Ev n (JU n r).n/\∀l∈(JU n r).ls,ZeS n l:=by
 have same:∀m:Nd,m.up=n.up->m.me=n.me->m.ZA=n.ZA->m.Zi=n.Zi->m.Zx=n.Zx->m.Zk=n.Zk->m.Zq=n.Zq->m.Y4=n.Y4->(∃r',m.Zh=B r'/\XZ r r'/\(r'=r\/r'.XU=true)/\r'.Xb=r.Xb/\r'.ZI=r.ZI)->((m.Zs=ab/\m.data=n.data)\/∃r,n.Zh=B r/\ZM n.Zq.p r.b/\Jp n.data n.Y4 r.b=0/\m.data=n.data++YV (JT r.b) /\
  m.Zs=B (.Zq (if YI n.Zq.p n.Zq.l r.b=0 then ⟨r.b,n.Zq.l⟩ else JN) (if YI n.Zq.p n.Zq.l r.b=0 then n.Zq.l else []) true))->Ev n m:=fun m h1 h2 h3 h4 h5 h6 h7 h8 ⟨r',h9,h10⟩ h11=>
  ⟨h1,h2,h3,h4,h5,h6,h7,h8,.inr (.inr ⟨r,r',hr,hq,h9,h10⟩),h11⟩
 unfold JU;by_cases c1:ZM n.Zq.p r.b
 .rw[if_pos c1];by_cases c2:Jp n.data n.Y4 r.b=0
  .rw[if_neg (by simp[c2])];exact⟨same _ rfl rfl rfl rfl rfl rfl rfl rfl ⟨r,hr,XZ.refl r,.inl rfl,rfl,rfl⟩ (.inr ⟨r,hr,c1,c2,rfl,rfl⟩),fun l hl=>by cases hl⟩
  .rw[if_pos c2];exact⟨same _ rfl rfl rfl rfl rfl rfl rfl rfl ⟨r,hr,XZ.refl r,.inl rfl,rfl,rfl⟩ (.inl ⟨hp,rfl⟩),fun l hl=>by cases hl⟩
 .rw[if_neg c1];by_cases c3:¬5<2*r.ZI.length
  .rw[if_pos c3];refine⟨same _ rfl rfl rfl rfl rfl rfl rfl rfl ⟨r,hr,XZ.refl r,.inl rfl,rfl,rfl⟩ (.inl ⟨hp,rfl⟩),fun l hl=>?_⟩;unfold Pq at hl;obtain⟨m,_,hm⟩:=aw.1 hl;split at hm
   .rw[U.1 hm];exact fun _=>⟨r,hr,hq,c1,fun _=>rfl,(fun h=>by cases h),rfl⟩
   .cases hm
  .rw[if_neg c3];obtain⟨h1,ZwX⟩:=Hy n r hb;refine⟨same _ rfl rfl rfl rfl rfl rfl rfl rfl ⟨_,rfl,h1,.inr ZwX,(NC n r).1,(NC n r).2⟩ (.inl ⟨hp,rfl⟩),fun l hl=>?_⟩;unfold TH at hl;obtain⟨s,_,hs⟩:=aw.1 hl;unfold VG at hs;split at hs
   .split at hs
    .obtain⟨m,_,hm⟩:=aw.1 hs;unfold PU at hm;split at hm
     .rw[U.1 hm];exact fun _=>⟨r,hr,hq,c1,(fun h=>by cases h),fun _=>h1.b,rfl⟩
     .cases hm
    .cases hs
   .cases hs
theorem fb(hp:n.Zs=ab)(hb:Blank n.Zh):Ev n (Z9 (Zo n)).n/\∀l∈(Z9 (Zo n)).ls,ZeS n l:=by
 have fwd:∀n:Nd,∀l∈WD n,ZeS n l:=fun n l hl=>by
  unfold WD at hl;obtain⟨x,_,rfl⟩:=a5.1 hl;exact fun h=>by rcases h with h|h<;>cases h
 rcases Vx n with⟨hr,e⟩|⟨r,hr,hq,e⟩|⟨r,hr,hq,e⟩
 .rw[e];unfold Z9;rw[hr];simp only;have D:Ev n n:=⟨rfl,rfl,rfl,rfl,rfl,rfl,rfl,rfl,.inl ⟨hr,hr⟩,.inl ⟨hp,rfl⟩⟩
  split
  .exact⟨D,fwd n⟩
  .exact⟨D,fun l hl=>by cases hl⟩
 .rw[e];unfold Z9;simp only;have D:Ev n { n with Zh:=ab }:=⟨rfl,rfl,rfl,rfl,rfl,rfl,rfl,rfl,.inr (.inl ⟨r,hr,hq,rfl⟩),.inl ⟨hp,rfl⟩⟩
  split
  .refine⟨D,fun l hl h=>?_⟩;unfold WD at hl;obtain⟨x,_,rfl⟩:=a5.1 hl;rcases h with h|h<;>cases h
  .exact⟨D,fun l hl=>by cases hl⟩
 .rw[e];unfold Z9;rw[hr];simp only;exact lq hp hr hq (hb r hr)
theorem Y3(hp:n.Zs=ab)(hb:Blank n.Zh):Ev n (Yq n).n/\∀l∈(Yq n).ls,ZeS n l:=by
 obtain⟨D,h⟩:=fb hp hb;unfold Yq;split
 .exact⟨D,h⟩
 .refine⟨D.Yv,fun l hl=>?_⟩;rcases ae.1 hl with hl|hl
  .exact h l hl
  .unfold UV at hl;split at hl
   .rw[U.1 hl];exact fun h=>by rcases h with h|h<;>cases h
   .cases hl
def VK(n:Nd):Prop:=∀r,n.Zh=B r->∀s,5<2*((Yh r.Xb s).getD []).length->Has n.Zi s
theorem fc:∀(k:Nat) (n:Nd),Yh (Yg k n).1.Zi ((Yg k n).1.ZA.length:Int)=ab\/((Yg k n).1.ZA.length=n.ZA.length+k/\∀j,j<k->(Yh n.Zi ((n.ZA.length:Int)+j)).isSome=true):=by
 intro k
 induction k with
 | zero=>intro n;exact .inr ⟨rfl,fun j hj=>by omega⟩
 | succ k ih=>
  intro n;unfold Yg
  cases h:Yh n.Zi (n.ZA.length:Int) with
  | none=>exact .inl h
  | some x=>
   simp only;rcases ih (J4 n x) with q|⟨q1,q2⟩
   .exact .inl q
   .have e:(J4 n x).ZA.length=n.ZA.length+1:=by unfold J4;simp
    rw[e]at q1 q2;refine .inr ⟨pA,fun j hj=>?_⟩
    cases j with
    | zero=>simp[h]
    | succ j=>
     have:=q2 j pA;rw[show (n.ZA.length:Int)+((j+1:Nat):Int)=((n.ZA.length+1:Nat):Int)+(j:Int) by omega];exact this
theorem CI(n:Nd)(s:Int)(x:Cm):Yh (Jl n s x).n.Zi ((Jl n s x).n.ZA.length:Int)=ab:=by
 unfold Jl;rcases fc ((Jk n s x).Zi.length+1) (Jk n s x) with q|⟨_,q⟩
 .exact q
 .have:=FV (Jk n s x).Zi (Jk n s x).ZA.length ((Jk n s x).Zi.length+1) q;omega
theorem ZbB(h:VK n)(s:Int)(x:Cm):VK (Jl n s x).n:=by
 have k:=(Ul n s x).1;have hr:(Jl n s x).n.Zh=n.Zh:=by
  have:∀(k:Nat) (n:Nd),(Yg k n).1.Zh=n.Zh:=by
   intro k
   induction k with
   | zero=>intro n;rfl
   | succ k ih=>
    intro n;unfold Yg;split
    .rfl
    .exact ih _
  exact this _ _
 intro r e t ht;rw[hr]at e;exact k.go.Zi t (h r e t ht)
theorem VK.same{m:Nd}(h:VK n)(h1:m.Zh=n.Zh)(h2:m.Zi=n.Zi):VK m:=fun r e t ht=>by
 rw[h1]at e;rw[h2];exact h r e t ht
theorem uD(h:VK n)(hg:Yh n.Zi (n.ZA.length:Int)=ab)(l:YH):VK (Zw n l).n/\Yh (Zw n l).n.Zi ((Zw n l).n.ZA.length:Int)=ab:=by
 have hn:VK (Xz n l)/\Yh (Xz n l).Zi ((Xz n l).ZA.length:Int)=ab:=by
  unfold Xz;split
  .exact⟨h.same rfl rfl,hg⟩
  .exact⟨h,hg⟩
 unfold Zw;split
 .unfold YG
  repeat' split
  all_goals exact⟨h.same rfl rfl,hg⟩
 split
 .unfold Ym
  cases hr:n.Zh with
  | none=>exact⟨h,hg⟩
  | some r=>
   simp only;split
   .split
    .refine⟨fun r' e t ht=>?_,hg⟩;obtain rfl:=Option.some.inj e;exact h r hr t ht
    .exact⟨h,hg⟩
   .split
    .exact⟨h,hg⟩
    .have hV:∀r',(TG n r l).Zh=B r'->∀t,t≠l.v.Zu->5<2*((Yh r'.Xb t).getD []).length->Has n.Zi t:=fun r' e t ht hl=>by
      obtain rfl:=Option.some.inj e;have hl:5<2*((Yh (ins r.Xb l.v.Zu (Ug r l)) t).getD []).length:=hl;rw[Xk,if_neg (fun q=>ht q.symm)]at hl;exact h r hr t hl
     have hS:∀r',(TG n r l).Zh=B r'->(Yh r'.Xb l.v.Zu).getD []=Ug r l:=fun r' e=>by
      obtain rfl:=Option.some.inj e;show (Yh (ins r.Xb l.v.Zu (Ug r l)) l.v.Zu).getD []=_;rw[Xk,if_pos rfl];rfl
     split
     .refine⟨?_,CI _ _ _⟩;have hre:(Jl (TG n r l) l.v.Zu l.v.cm).n.Zh=(TG n r l).Zh:=by
       have:∀(k:Nat) (n:Nd),(Yg k n).1.Zh=n.Zh:=by
        intro k
        induction k with
        | zero=>intro n;rfl
        | succ k ih=>
         intro n;unfold Yg;split
         .rfl
         .exact ih _
       exact this _ _
      obtain⟨k1,k2,_⟩:=Ul (TG n r l) l.v.Zu l.v.cm;intro r' e t ht;rw[hre]at e;by_cases q:t=l.v.Zu
      .rw[q];exact k2
      .exact k1.go.Zi t (hV r' e t q ht)
     .rename_i q5;refine⟨fun r' e t ht=>?_,hg⟩;by_cases q:t=l.v.Zu
      .rw[q,hS r' e]at ht;exact absurd ht q5
      .exact hV r' e t q ht
 split
 .unfold asked
  repeat' split
  all_goals exact⟨h.same rfl rfl,hg⟩
 split
 .unfold add;split
  .exact⟨h,hg⟩
  .exact⟨h.same rfl rfl,hg⟩
 split
 .unfold Qy;split
  .exact hn
  .exact hn
 split
 .exact⟨ZbB h _ _,CI _ _ _⟩
 .exact hn
structure PN(C:List Cm)(b:YA)(L X:Nat)(n:Nd):Prop where
 ni:Uj C X n
 up:n.up=true
 Zq:¬ZM b n.Zq.p
 Xb:∀v∈n.Zq.l,¬ZM n.Zq.p v.b
 pnd:∀p,n.Zs=B p->¬ZM b (WV p).p/\¬ZM (WV p).p n.Zq.p/\∀v∈(WV p).l,¬ZM (WV p).p v.b
 tape:0<=n.Y4/\n.Y4<=(aa n.data)
 S9:X≠L->∀r,n.Zh=B r->ZM r.b b
 Z5:X=L->∃r,n.Zh=B r/\r.b=b
 Yu:Blank n.Zh
 may:∀r,n.Zh=B r->ZF r.b
 vk:VK n
 oV:Yh n.Zi (n.ZA.length:Int)=ab
structure PJ(C:List Cm)(b:YA)(l:YH):Prop where
 li:Ui C l
 VN:l.Z3=0->¬ZM b l.b
 ask:l.Z3=2->¬ZM b l.v.b
theorem PN.le{C:List Cm}{b:YA}{L:Nat}(h:PN C b L X n)(hr:n.Zh=B r):¬ZM b r.b:=by
 by_cases e:X=L
 .obtain⟨r',h1,h2⟩:=h.Z5 e;rw[hr]at h1;rw[Option.some.inj h1,h2];exact QE b
 .exact Ki (h.S9 e r hr)
theorem XK.back{m:Nd}(k:XK n m){r':XE}(hr:m.Zh=B r'):∃r,n.Zh=B r/\VQ r r':=by
 have q:=k.S9;rw[hr]at q
 cases e:n.Zh with
 | none=>rw[e]at q;exact q.elim
 | some r=>rw[e]at q;exact⟨r,rfl,q⟩
theorem XK.on{m:Nd}(k:XK n m)(hr:n.Zh=B r):∃r',m.Zh=B r'/\VQ r r':=by
 have q:=k.S9;rw[hr]at q
 cases e:m.Zh with
 | none=>rw[e]at q;exact q.elim
 | some r'=>rw[e]at q;exact⟨r',rfl,q⟩
theorem PN.pr0{C:List Cm}{b:YA}{L:Nat}(h:PN C b L X n){c:YA}(hc:ZF c)(hle:¬ZM c n.Zq.p):YI n.Zq.p n.Zq.l c=0:=by
 unfold YI;rw[if_neg (by rw[Io h.ni.Zq h.Xb];simp),if_neg (fun q=>q hc),if_neg hle]
theorem XK.pn{C:List Cm}{b:YA}{L:Nat}{m:Nd}(h:PN C b L X n)(hm:Uj C X m)(k:XK n m)(hv:VK m)(hg:Yh m.Zi (m.ZA.length:Int)=ab):PN C b L X m:=by
 refine⟨hm,by rw[k.go.up];exact h.up,by rw[k.Zq];exact h.Zq,by rw[k.Zq];exact h.Xb,fun p hp=>by rw[k.Zq];exact h.pnd p (by rw[<-k.Zs];exact hp),by rw[k.Y4,k.data];exact h.tape,fun hx r' hr=>?_,fun hx=>?_,fun r' hr hb s=>?_,fun r' hr=>?_,hv,hg⟩
 .obtain⟨r,h1,h2⟩:=k.back hr;rw[h2.k.b];exact h.S9 hx r h1
 .obtain⟨r,h1,h2⟩:=h.Z5 hx;obtain⟨r',h3,h4⟩:=k.on h1;exact⟨r',h3,by rw[h4.k.b,h2]⟩
 .obtain⟨r,h1,h2⟩:=k.back hr;rw[h2.p];exact h.Yu r h1 (by rw[<-h2.g];exact hb) s
 .obtain⟨r,h1,h2⟩:=k.back hr;rw[h2.k.b];exact h.may r h1
section
variable {C:List Cm} {b:YA} {L X:Nat}
theorem Qg(hX:X<5)(hC:(aa C)<=100000)(hb:ZF b):Laws (PN C b L X) (PJ C b) (PJ C b):=by
 refine⟨fun n k h=>⟨h.ni.Zg k,h.up,h.Zq,h.Xb,h.pnd,h.tape,h.S9,h.Z5,h.Yu,h.may,h.vk.same rfl rfl,h.oV⟩,fun n l h hp hl=>?_,fun n h hp=>?_,fun n p h hp=>?_⟩
 .have O:=Kf hX h.ni hl.li;obtain⟨hk,hc⟩:=X1 n l;obtain⟨hv,AS⟩:=uD h.vk h.oV l;refine⟨?_,fun m hm=>⟨O.ls m hm,fun e=>absurd e (hk m hm).1,fun e=>absurd e (hk m hm).2⟩⟩;rcases hc with k|⟨c1,c2,c3,c4,e⟩|⟨c1,c2,c3,c4,e⟩
  .exact k.pn h O.nd hv AS
  .have hN:=O.nd;rw[e]at hN hv AS ⊢;refine⟨hN,h.up,h.Zq,h.Xb,fun p hq=>?_,?_,h.S9,h.Z5,h.Yu,h.may,hv,AS⟩
   .obtain rfl:Kv.VN ⟨l.b,n.Zq.l⟩ l.Jw l.b n.Zq.l=p:=Option.some.inj hq;exact⟨hl.VN c1,Kj c2,fun v hv=>Jb (h.Xb v hv) (Kj c2)⟩
   .have:=h.tape;show 0<=n.Y4/\n.Y4<=((n.data++YV (JT l.b)).length:Nat)
    rw[am];omega
  .have hN:=O.nd;rw[e]at hN hv AS ⊢;refine⟨hN,h.up,h.Zq,h.Xb,fun p hq=>?_,?_,h.S9,h.Z5,h.Yu,h.may,hv,AS⟩
   .obtain rfl:Kv.TX ⟨l.v.b,JH n.Zq.l l.v⟩ l.Jw l.v=p:=Option.some.inj hq;refine⟨hl.ask c1,Kk c2,fun v hv=>?_⟩;have hv:v∈JH n.Zq.l l.v:=hv;show ¬ZM l.v.b v.b;unfold JH at hv;rcases ae.1 hv with hv|hv
    .exact Jb (h.Xb v (aN.1 hv).1) (Kk c2)
    .rcases a0.1 hv with rfl|hv
     .exact QE _
     .exact Jb (h.Xb v (aN.1 hv).1) (Kk c2)
   .have:=h.tape;show 0<=n.Y4/\n.Y4<=((n.data++YV (Uy l.v)).length:Nat)
    rw[am];omega
 .obtain⟨d1,d2,_⟩:=kv hX hC h.ni;obtain⟨D,hA⟩:=Y3 hp h.Yu;refine⟨⟨d1,by rw[D.up];exact h.up,by rw[D.Zq];exact h.Zq,by rw[D.Zq];exact h.Xb,fun p hq=>?_,?_,fun hx r' hr=>?_,fun hx=>?_,fun r' hr jL s=>?_,fun r' hr=>?_,fun r' hr t ht=>?_,by rw[D.Zi,D.ZA];exact h.oV⟩,fun l hl=>⟨d2 l hl,fun e=>?_,fun e=>?_⟩⟩
  .rcases D.Zs with⟨e,_⟩|⟨r,hr,c1,c2,_,e⟩
   .rw[e]at hq;cases hq
   .rw[e]at hq;obtain rfl:=Option.some.inj hq;rw[D.Zq];rw[if_pos (h.pr0 (h.may r hr) (Ki c1))];exact⟨h.le hr,Ki c1,fun v hv=>Jb (h.Xb v hv) (Ki c1)⟩
  .rw[D.Y4];have:=h.tape;rcases D.Zs with⟨_,e⟩|⟨r,_,_,_,e,_⟩
   .rw[e];exact this
   .rw[e,am];omega
  .rcases D.S9 with⟨_,e⟩|⟨_,_,_,e⟩|⟨r,r2,h1,_,e,k,_,_,_⟩
   .rw[e]at hr;cases hr
   .rw[e]at hr;cases hr
   .rw[e]at hr;obtain rfl:=Option.some.inj hr;rw[k.b];exact h.S9 hx r h1
  .obtain⟨r,h1,h2⟩:=h.Z5 hx;rcases D.S9 with⟨e,_⟩|⟨r2,e,q,_⟩|⟨r2,r3,e,q,e3,k,_,_,_⟩
   .rw[e]at h1;cases h1
   .rw[e]at h1;obtain rfl:=Option.some.inj h1;rw[h2]at q;exact absurd q h.Zq
   .rw[e]at h1;obtain rfl:=Option.some.inj h1;exact⟨r3,e3,by rw[k.b,h2]⟩
  .rcases D.S9 with⟨_,e⟩|⟨_,_,_,e⟩|⟨r,r2,h1,_,e,_,k,_,_⟩
   .rw[e]at hr;cases hr
   .rw[e]at hr;cases hr
   .rw[e]at hr;obtain rfl:=Option.some.inj hr;rcases k with rfl|k
    .exact h.Yu _ h1 jL s
    .rw[k]at jL;cases jL
  .rcases D.S9 with⟨_,e⟩|⟨_,_,_,e⟩|⟨r,r2,h1,_,e,k,_,_,_⟩
   .rw[e]at hr;cases hr
   .rw[e]at hr;cases hr
   .rw[e]at hr;obtain rfl:=Option.some.inj hr;rw[k.b];exact h.may r h1
  .rcases D.S9 with⟨_,e⟩|⟨_,_,_,e⟩|⟨r,r2,h1,_,e,_,_,k,_⟩
   .rw[e]at hr;cases hr
   .rw[e]at hr;cases hr
   .rw[e]at hr;obtain rfl:=Option.some.inj hr;rw[k]at ht;rw[D.Zi];exact h.vk r h1 t ht
  .obtain⟨r,h1,_,_,h2,_⟩:=hA l hl (.inl e);rw[h2 e];exact h.le h1
  .obtain⟨r,h1,_,_,_,h2,_⟩:=hA l hl (.inr e);rw[h2 e];exact h.le h1
 .obtain⟨f1,f2,f3,f4,_⟩:=Ed hX (Ec h.ni) (h.ni.Zs p hp);have Oc:=h.pnd p hp;refine⟨?_,fun m hm=>⟨f2 m hm,fun e=>?_,fun e=>?_⟩⟩
  .have ht:0<=(ZQ n).Y4/\(ZQ n).Y4<=(ZQ n).data.length:=by
    show 0<=(if Y0 n.data n.Y4 then ((aa n.data):Int) else 0)/\(if Y0 n.data n.Y4 then ((aa n.data):Int) else 0)<=((if Y0 n.data n.Y4 then n.data else []).length:Nat)
    split<;>simp
   cases p with
   | VN a to b' vs=>exact⟨f1,h.up,Oc.1,Oc.2.2,(fun q hq=>by cases hq),ht,h.S9,h.Z5,h.Yu,h.may,h.vk.same rfl rfl,h.oV⟩
   | TX a to v=>exact⟨f1,h.up,Oc.1,Oc.2.2,(fun q hq=>by cases hq),ht,h.S9,h.Z5,h.Yu,h.may,h.vk.same rfl rfl,h.oV⟩
   | Zq a vs cur=>
    have hre:∀r',(YM (ZQ n) (.Zq a vs cur)).n.Zh=B r'->∃r,n.Zh=B r/\VQ r r'/\r'.Xb=r.Xb:=fun r' hr=>by
     have hr:(if cur=true then n.Zh.map (fun r=>{ r with ZI:=ins r.ZI n.me vs }) else n.Zh)=B r':=hr;split at hr
     .cases e:n.Zh with
      | none=>rw[e]at hr;cases hr
      | some r=>
       rw[e]at hr;obtain rfl:=Option.some.inj hr;exact⟨r,rfl,⟨⟨rfl,fun _ _ h=>h,fun h=>h,fun k h=>Has.ins h _ _,fun _ _ h=>h⟩,rfl,rfl⟩,rfl⟩
     .exact⟨r',hr,VQ.refl r',rfl⟩
    refine⟨f1,h.up,Oc.1,Oc.2.2,(fun q hq=>by cases hq),ht,fun hx r' hr=>?_,fun hx=>?_,fun r' hr jL s=>?_,fun r' hr=>?_,fun r' hr t ht=>?_,h.oV⟩
    .obtain⟨r,h1,h2,_⟩:=hre r' hr;rw[h2.k.b];exact h.S9 hx r h1
    .obtain⟨r,h1,h2⟩:=h.Z5 hx;show ∃r,(if cur=true then n.Zh.map (fun r=>{ r with ZI:=ins r.ZI n.me vs }) else n.Zh)=B r/\r.b=b;rw[h1];split
     .exact⟨_,rfl,h2⟩
     .exact⟨r,rfl,h2⟩
    .obtain⟨r,h1,h2,_⟩:=hre r' hr;rw[h2.p];exact h.Yu r h1 (by rw[<-h2.g];exact jL) s
    .obtain⟨r,h1,h2,_⟩:=hre r' hr;rw[h2.k.b];exact h.may r h1
    .obtain⟨r,h1,_,h3⟩:=hre r' hr;rw[h3]at ht;exact h.vk r h1 t ht
  .cases p with
   | VN a to b' vs=>rw[U.1 hm]at e;cases e
   | TX a to v=>rw[U.1 hm]at e;cases e
   | Zq a vs cur=>cases hm
  .cases p with
   | VN a to b' vs=>rw[U.1 hm]at e;cases e
   | TX a to v=>rw[U.1 hm]at e;cases e
   | Zq a vs cur=>cases hm
end
structure PW(C:List Cm)(b:YA)(L:Nat)(w:Wd):Prop where
 nd:∀X,X<5->PN C b L X (w.Zb X)
 Mf:∀l∈w.Zp,PJ C b l
 Wz:∀X,X<5->∀l∈(w.Zb X).Zg,PJ C b l
def Clear(w:Wd):Prop:=∀X,X<5->Ta (w.Zb X)
section
variable {C:List Cm} {b:YA} {L:Nat} {w:Wd}
theorem Kr(h:PW C b L w)(hC:(aa C)<=100000)(hb:ZF b)(hX:X<5):PN C b L X (step (w.Zb X)).n/\(∀m∈(step (w.Zb X)).ls,PJ C b m)/\∀l∈(step (w.Zb X)).n.Zg,l∈(w.Zb X).Zg:=
 Tm (Qg hX hC hb) (h.nd X hX).up (h.nd X hX) (h.Wz X hX)
theorem ZeU(h:PW C b L w)(hC:(aa C)<=100000)(hb:ZF b):∀l∈RL w,PJ C b l:=fun l hl=>by
 rcases Vw.1 hl with q|⟨i,hi,q⟩
 .exact h.Mf l q
 .exact (Kr h hC hb hi).2.1 l q
theorem ZbC(h:PW C b L w)(hC:(aa C)<=100000)(hb:ZF b):PW C b L (kZ w):=by
 refine⟨fun X hX=>?_,fun l hl=>(by rw[AA]at hl;cases hl),fun X hX l hl=>?_⟩
 .rw[QU w X hX (h.nd X hX).up];exact (Qg hX hC hb).box _ _ (Kr h hC hb hX).1
 .rcases (NB hX (h.nd X hX).up).1 hl with q|⟨q,_⟩
  .exact h.Wz X hX l ((Kr h hC hb hX).2.2 l q)
  .exact ZeU h hC hb l q
theorem ZbD(h:PW C b L w)(hC:(aa C)<=100000)(hb:ZF b)(hX:X<5){A G:YH->Prop}{E F:Nd->Prop}(H:MR (PN C b L X) (PJ C b) A G E F)(hs:Src A E F (w.Zb X)):
  (Src A E F ((kZ w).Zb X)\/∃m∈RL w,G m)/\(Ta (w.Zb X)->E ((kZ w).Zb X)\/∃m∈RL w,G m):=by
 have hu:=(h.nd X hX).up;obtain⟨h1,h2⟩:=eY (Qg hX hC hb) H hu (h.nd X hX) (h.Wz X hX) hs;have hm:(∃m∈(step (w.Zb X)).ls,G m)->∃m∈RL w,G m:=fun⟨m,q1,q2⟩=>⟨m,Vw.2 (.inr ⟨X,hX,q1⟩),q2⟩
 rw[QU w X hX hu];refine⟨?_,fun hf=>?_⟩
 .rcases h1 with (q|q|⟨l,hl,q⟩)|q
  .exact .inl (.inl (H.uB _ _ q))
  .exact .inl (.inr (.inl (H.ZiL _ _ q)))
  .exact .inl (.inr (.inr ⟨l,ae.2 (.inl hl),q⟩))
  .exact .inr (hm q)
 .rcases h2 hf with q|q
  .exact .inl (H.uB _ _ q)
  .exact .inr (hm q)
theorem lu{A:YH->Prop}{E F:Nd->Prop}{Y:Nat}(hY:Y<5)(hu:(w.Zb Y).up=true)(h:∃m∈RL w,A m)(ht:∀m,A m->m.to.toNat=Y):Src A E F ((kZ w).Zb Y):=by
 obtain⟨m,q1,q2⟩:=h;exact .inr (.inr ⟨m,(NB hY hu).2 (.inr ⟨q1,ht m q2⟩),q2⟩)
end
def Full(n:Nd):Prop:=99900<(aa n.data)
section
variable {C:List Cm} {b:YA} {L X:Nat}
theorem fe(h:PN C b L X n):(ZQ n).data=n.data/\(ZQ n).Y4=(aa n.data):=by
 have ht:Y0 n.data n.Y4:=⟨h.ni.data,h.tape.1,h.tape.2⟩
 refine⟨?_,?_⟩
 .show (if Y0 n.data n.Y4 then n.data else [])=n.data;rw[if_pos ht]
 .show (if Y0 n.data n.Y4 then ((aa n.data):Int) else 0)=(aa n.data);rw[if_pos ht]
theorem ff(h:PN C b L X n)(p:Kv):(YM (ZQ n) p).n.data=n.data:=by
 cases p<;>exact (fe h).1
theorem Full.oR(h:Full n)(l:YH):Full (Zw n l).n:=by
 rcases (X1 n l).2 with k|⟨_,_,_,_,e⟩|⟨_,_,_,_,e⟩
 .unfold Full;rw[k.data];exact h
 .rw[e];unfold Full ZnO;simp only[am];unfold Full at h;omega
 .rw[e];unfold Full ZnP;simp only[am];unfold Full at h;omega
theorem Full.oS(h:Full n)(D:Ev n (Yq n).n):Full (Yq n).n:=by
 unfold Full at h ⊢;rcases D.Zs with⟨_,e⟩|⟨_,_,_,_,e,_⟩
 .rw[e];exact h
 .rw[e,am];omega
theorem Full.fin(hf:Full n)(h:PN C b L X n)(p:Kv):Full (YM (ZQ n) p).n:=by
 unfold Full;rw[ff h];exact hf
theorem fg(h:PN C b L X n){k:Nat}(hk:k<=33)(hq:QC n.data n.Y4 k≠0):Full n:=by
 have ht:Y0 n.data n.Y4:=⟨h.ni.data,h.tape.1,h.tape.2⟩
 unfold QC at hq;rw[if_neg (fun q=>q ht)]at hq;unfold Full;split at hq
 .omega
 .exact absurd rfl hq
theorem Ew(h:PN C b L X n){c:YA}(hc:ZF c)(hq:Jp n.data n.Y4 c≠0):Full n:=by
 have ht:Y0 n.data n.Y4:=⟨h.ni.data,h.tape.1,h.tape.2⟩
 unfold Jp at hq;rw[if_neg (fun q=>q ht),if_neg (fun q=>q hc)]at hq;exact fg h pA hq
theorem ZbE(h:PN C b L X n){v:Vt}(hv:Yo v)(hq:Ue n.data n.Y4 v≠0):Full n:=by
 have ht:Y0 n.data n.Y4:=⟨h.ni.data,h.tape.1,h.tape.2⟩
 unfold Ue at hq;rw[if_neg (fun q=>q ht),if_neg (fun q=>q hv)]at hq;exact fg h pA hq
theorem fh(hb:ZF b):MR (PN C b L X) (PJ C b) (fun l=>l.Z3=0/\l.b=b/\l.Jw=L) (fun m=>m.Z3=1/\m.b=b/\m.Jw=X/\m.to=L) Full (fun n=>∃a vs,n.Zs=B (.VN a L b vs)):=by
 refine⟨fun n k h=>h,fun n l _ _ _ h=>h.oR l,fun n h hp hf=>hf.oS (Y3 hp h.Yu).1,fun n p h hp hf=>hf.fin h p,fun n k h=>h,fun n ⟨a,vs,h⟩ e=>(by rw[e]at h;cases h),fun n p h hp ⟨a,vs,hq⟩=>?_,fun n l h hp hl ⟨k0,k1,k2⟩=>?_⟩
 .rw[hq]at hp;obtain rfl:=Option.some.inj hp;exact .inr ⟨_,U.2 rfl,rfl,rfl,by show ((ZQ n).me:Int)=X;rw[show (ZQ n).me=n.me from rfl,h.ni.me],rfl⟩
 .have e:Zw n l=YG n l:=by unfold Zw;rw[if_pos k0]
  rw[e];unfold YG;rw[k1,k2,if_neg (by rw[h.pr0 hb h.Zq];simp)];by_cases q1:n.Zq.p=b
  .rw[if_pos q1];exact .inr (.inr ⟨_,U.2 rfl,rfl,rfl,by show (n.me:Int)=X;rw[h.ni.me],rfl⟩)
  .rw[if_neg q1];by_cases q2:Jp n.data n.Y4 b=0
   .rw[if_neg (by simp[q2])];exact .inr (.inl ⟨_,_,rfl⟩)
   .rw[if_pos q2];exact .inl (Ew h hb q2)
theorem ZeV(hr:n.Zh=B r)(l:YH):∃r',(Zw n l).n.Zh=B r'/\VQ r r':=by
 rcases (X1 n l).2 with k|⟨_,_,_,_,e⟩|⟨_,_,_,_,e⟩
 .exact k.on hr
 .rw[e];exact⟨r,hr,VQ.refl r⟩
 .rw[e];exact⟨r,hr,VQ.refl r⟩
theorem ZeW(h:PN C b L L n)(hp:n.Zs=ab)(hr:n.Zh=B r):∃r',(Yq n).n.Zh=B r'/\XZ r r':=by
 obtain⟨r0,h1,h2⟩:=h.Z5 rfl;rw[hr]at h1;obtain rfl:=Option.some.inj h1;rcases (Y3 hp h.Yu).1.S9 with⟨e,_⟩|⟨r2,e,q,_⟩|⟨r2,r3,e,_,e3,k,_,_,_⟩
 .rw[e]at hr;cases hr
 .rw[e]at hr;obtain rfl:=Option.some.inj hr;rw[h2]at q;exact absurd q h.Zq
 .rw[e]at hr;obtain rfl:=Option.some.inj hr;exact⟨r3,e3,k⟩
theorem ZeX(hr:n.Zh=B r)(p:Kv):∃r',(YM (ZQ n) p).n.Zh=B r'/\XZ r r':=by
 cases p with
 | VN a to b' vs=>exact⟨r,hr,XZ.refl r⟩
 | TX a to v=>exact⟨r,hr,XZ.refl r⟩
 | Zq a vs cur=>
  show ∃r',(if cur=true then n.Zh.map (fun r=>{ r with ZI:=ins r.ZI n.me vs }) else n.Zh)=B r'/\XZ r r';rw[hr];split
  .exact⟨_,rfl,⟨rfl,fun _ _ h=>h,fun h=>h,fun k h=>Has.ins h _ _,fun _ _ h=>h⟩⟩
  .exact⟨r,rfl,XZ.refl r⟩
def MS(Q:XE->Prop)(n:Nd):Prop:=∃r,n.Zh=B r/\Q r
theorem Ex{Q:XE->Prop}(hQ:∀r r',XZ r r'->Q r->Q r'){A G:YH->Prop}(hit:∀n l,PN C b L L n->n.Zs=ab->PJ C b l->A l->MS Q (Zw n l).n):MR (PN C b L L) (PJ C b) A G (MS Q) (fun _=>False):=by
 refine⟨fun n k h=>h,fun n l _ _ _ ⟨r,h1,h2⟩=>?_,fun n h hp ⟨r,h1,h2⟩=>?_,fun n p h hp ⟨r,h1,h2⟩=>?_,fun n k h=>h,fun n h=>h.elim,fun n p _ _ h=>h.elim,fun n l h hp hl hA=>.inl (hit n l h hp hl hA)⟩
 .obtain⟨r',e,k⟩:=ZeV h1 l;exact⟨r',e,hQ r r' k.k h2⟩
 .obtain⟨r',e,k⟩:=ZeW h hp h1;exact⟨r',e,hQ r r' k h2⟩
 .obtain⟨r',e,k⟩:=ZeX h1 p;exact⟨r',e,hQ r r' k h2⟩
theorem Iq{G:YH->Prop}:MR (PN C b L L) (PJ C b) (fun m=>m.Z3=1/\m.b=b/\m.Jw=X/\m.to=L) G (MS fun r=>Has r.ZI X) (fun _=>False):=by
 refine Ex (fun r r' k h=>k.ZI _ h) (fun n l h hp hl ⟨k0,k1,k2,_⟩=>?_);obtain⟨r,h1,h2⟩:=h.Z5 rfl;have e:Zw n l=Ym n l:=by unfold Zw;rw[if_neg pA,if_pos (.inl k0)]
 rw[e];unfold Ym;rw[h1];simp only;rw[if_pos k0,if_pos (by rw[k1,h2])];refine⟨_,rfl,?_⟩;show Has (ins r.ZI l.Jw l.vs) X;rw[k2];exact Has.now _ _ _
end
theorem PN.ac0{C:List Cm}{b:YA}{L:Nat}(h:PN C b L X n){v:Vt}(hv:Yo v)(hle:¬ZM v.b n.Zq.p):Xn n.Zq.p n.Zq.l v=0:=by
 unfold Xn;rw[if_neg (by rw[Io h.ni.Zq h.Xb];simp),if_neg (fun q=>q hv),if_neg hle]
theorem Laws.and{I:Nd->Prop}{J K:YH->Prop}{E:Nd->Prop}(W:Laws I J K)(e1:∀n k,E n->E { n with Zg:=k })(e2:∀n l,I n->n.Zs=ab->J l->E n->E (Zw n l).n)(e3:∀n,I n->n.Zs=ab->E n->E (Yq n).n)(e4:∀n p,I n->n.Zs=B p->E n->E (YM (ZQ n) p).n):Laws (fun n=>I n/\E n) J K:=
 ⟨fun n k h=>⟨W.box n k h.1,e1 n k h.2⟩,fun n l h hp hl=>⟨⟨(W.oR n l h.1 hp hl).1,e2 n l h.1 hp hl h.2⟩,(W.oR n l h.1 hp hl).2⟩,fun n h hp=>⟨⟨(W.oS n h.1 hp).1,e3 n h.1 hp h.2⟩,(W.oS n h.1 hp).2⟩,fun n p h hp=>⟨⟨(W.fin n p h.1 hp).1,e4 n p h.1 hp h.2⟩,(W.fin n p h.1 hp).2⟩⟩
theorem Tb(n:Nd)(l:YH):VR n (Zw n l).n:=by
 rcases (X1 n l).2 with k|⟨_,_,_,_,e⟩|⟨_,_,_,_,e⟩
 .exact k.go
 .rw[e];exact .same rfl rfl rfl rfl rfl
 .rw[e];exact .same rfl rfl rfl rfl rfl
theorem Tc(n:Nd)(p:Kv):VR n (YM (ZQ n) p).n:=by
 cases p<;>exact .same rfl rfl rfl rfl rfl
section
variable {C:List Cm} {b:YA} {L X Y:Nat} {G:YH->Prop}
theorem CK{s:Int}(hv:Yo (QK s b x)):MR (PN C b L X) (PJ C b) (fun l=>l.Z3=2/\l.v=QK s b x/\l.Jw=L) (fun m=>m.Z3=3/\m.v=QK s b x/\m.Jw=X/\m.to=L) Full (fun n=>∃a,n.Zs=B (.TX a L (QK s b x))):=by
 refine⟨fun n k h=>h,fun n l _ _ _ h=>h.oR l,fun n h hp hf=>hf.oS (Y3 hp h.Yu).1,fun n p h hp hf=>hf.fin h p,fun n k h=>h,fun n ⟨a,h⟩ e=>(by rw[e]at h;cases h),fun n p h hp ⟨a,hq⟩=>?_,fun n l h hp hl ⟨k0,k1,k2⟩=>?_⟩
 .rw[hq]at hp;obtain rfl:=Option.some.inj hp;exact .inr ⟨_,U.2 rfl,rfl,rfl,by show ((ZQ n).me:Int)=X;rw[show (ZQ n).me=n.me from rfl,h.ni.me],rfl⟩
 .have e:Zw n l=asked n l:=by
   unfold Zw;rw[if_neg pA,if_neg pA,if_pos k0]
  rw[e];unfold asked;rw[k1,k2,if_neg (by rw[h.ac0 hv h.Zq];simp)];by_cases q1:QK s b x∈n.Zq.l
  .rw[if_pos q1];exact .inr (.inr ⟨_,U.2 rfl,rfl,rfl,by show (n.me:Int)=X;rw[h.ni.me],rfl⟩)
  .rw[if_neg q1];by_cases q2:Ue n.data n.Y4 (QK s b x)=0
   .rw[if_neg (by simp[q2])];exact .inr (.inl ⟨_,rfl⟩)
   .rw[if_pos q2];exact .inl (ZbE h hv q2)
theorem Ey{s:Int}:MR (PN C b L L) (PJ C b) (fun m=>m.Z3=3/\m.v=QK s b x/\m.Jw=X/\m.to=L) G (MS fun r=>oU r s X) (fun _=>False):=by
 refine Ex (fun r r' k h=>k.Xb _ _ h) (fun n l h hp hl ⟨k0,k1,k2,_⟩=>?_);obtain⟨r,h1,h2⟩:=h.Z5 rfl;have e:Zw n l=Ym n l:=by unfold Zw;rw[if_neg pA,if_pos (.inr k0)]
 rw[e];unfold Ym;rw[h1];simp only;have hb:l.v.b=b:=by rw[k1];rfl
 have hs:l.v.Zu=s:=by rw[k1];rfl
 rw[if_neg pA,if_neg (by rw[hb,h2];simp)];have hV:oU { r with Xb:=ins r.Xb l.v.Zu (Ug r l) } s X:=by
  show Has ((Yh (ins r.Xb l.v.Zu (Ug r l)) s).getD []) X;rw[Xk,if_pos hs];show Has (Ug r l) X;unfold Ug;rw[k2];exact Has.now _ _ _
 split
 .obtain⟨k,_,_⟩:=Ul (TG n r l) l.v.Zu l.v.cm;obtain⟨r',e1,e2⟩:=k.on (r:={ r with Xb:=ins r.Xb l.v.Zu (Ug r l) }) rfl;exact⟨r',e1,e2.k.Xb _ _ hV⟩
 .exact⟨_,rfl,hV⟩
theorem Ir{j:Int}(h:Has n.Zi j)(l:YH):Has (Zw n l).n.Zi j:=(Tb n l).Zi j h
theorem Is{j:Int}(h:Has n.Zi j)(hp:n.Zs=ab)(hn:PN C b L X n):Has (Yq n).n.Zi j:=by rw[(Y3 hp hn.Yu).1.Zi];exact h
theorem It{j:Int}(h:Has n.Zi j)(p:Kv):Has (YM (ZQ n) p).n.Zi j:=(Tc n p).Zi j h
theorem lw(hX:X<5)(hC:(aa C)<=100000)(hb:ZF b)(j:Int):Laws (fun n=>PN C b L X n/\Has n.Zi j) (PJ C b) (PJ C b):=
 (Qg hX hC hb).and (fun n k h=>h) (fun n l _ _ _ h=>Ir h l) (fun n hn hp h=>Is h hp hn) (fun n p _ _ h=>It h p)
theorem uE{j:Int}:MR (fun n=>PN C b L Y n/\Has n.Zi j) (PJ C b) (fun m=>m.Z3=5/\m.v.Zu=j/\m.Jw=X/\m.to=Y) (fun m=>m.Z3=6/\m.v.Zu=j/\m.to=X) (fun _=>False) (fun _=>False):=by
 refine⟨fun n k h=>h,fun n l _ _ _ h=>h,fun n _ _ h=>h,fun n p _ _ h=>h,fun n k h=>h,fun n h=>h.elim,fun n p _ _ h=>h.elim,fun n l h hp hl ⟨k0,k1,k2,_⟩=>.inr (.inr ?_)⟩;have e:Zw n l=Qy n l:=by
  unfold Zw;rw[if_neg pA,if_neg pA,if_neg pA,if_neg pA,if_pos k0]
 rw[e];unfold Qy;rw[k1]
 cases q:Yh n.Zi j with
 | none=>exact absurd q h.2
 | some x=>exact⟨_,U.2 rfl,rfl,rfl,k2⟩
theorem CL{j:Int}:MR (PN C b L X) (PJ C b) (fun m=>m.Z3=6/\m.v.Zu=j/\m.to=X) G (fun n=>Has n.Zi j) (fun _=>False):=by
 refine⟨fun n k h=>h,fun n l _ _ _ h=>Ir h l,fun n hn hp h=>Is h hp hn,fun n p _ _ h=>It h p,fun n k h=>h,fun n h=>h.elim,fun n p _ _ h=>h.elim,fun n l h hp hl ⟨k0,k1,_⟩=>.inl ?_⟩;have e:Zw n l=Jl n l.v.Zu l.v.cm:=by
  unfold Zw;rw[if_neg pA,if_neg pA,if_neg pA,if_neg pA,if_neg pA,if_pos k0]
 rw[e,k1];exact (Ul n j l.v.cm).2.1
def Sc(x:Cm)(n:Nd):Prop:=x∈n.Zx\/x∈n.ZA
theorem Sc.go{x:Cm}{n m:Nd}(h:Sc x n)(g:VR n m):Sc x m:=by
 rcases h with h|h
 .exact g.Zx x h
 .obtain⟨e,he⟩:=g.ZA;exact .inr (by rw[he];exact ae.2 (.inl h))
theorem Sc.oS(h:Sc x n)(D:Ev n (Yq n).n):Sc x (Yq n).n:=by
 unfold Sc;rw[D.Zx,D.ZA];exact h
theorem fi:MR (PN C b L X) (PJ C b) (fun m=>m.Z3=4/\m.v.cm=x/\m.to=X) G (Sc x) (fun _=>False):=by
 refine⟨fun n k h=>h,fun n l _ _ _ h=>h.go (Tb n l),fun n hn hp h=>h.oS (Y3 hp hn.Yu).1,fun n p _ _ h=>h.go (Tc n p),fun n k h=>h,fun n h=>h.elim,fun n p _ _ h=>h.elim,fun n l h hp hl ⟨k0,k1,_⟩=>.inl ?_⟩;have e:Zw n l=⟨add n l.v.cm,[],[]⟩:=by
  unfold Zw;rw[if_neg pA,if_neg pA,if_neg pA,if_pos k0]
 rw[e,k1];exact (CG n x).2
theorem NE(h:PN C b L X n){p:Kv}(hp:n.Zs=B p):(YM (ZQ n) p).n.Zq=WV p:=by
 cases p<;>rfl
theorem RM:(∀n l,PN C b L X n->n.Zq.p=b->(Zw n l).n.Zq.p=b)/\(∀n,PN C b L X n->n.Zs=ab->n.Zq.p=b->(Yq n).n.Zq.p=b)/\∀n p,PN C b L X n->n.Zs=B p->n.Zq.p=b->(YM (ZQ n) p).n.Zq.p=b:=by
 refine⟨fun n l h e=>?_,fun n h hp e=>by rw[(Y3 hp h.Yu).1.Zq];exact e,fun n p h hp e=>?_⟩
 .rcases (X1 n l).2 with k|⟨_,_,_,_,q⟩|⟨_,_,_,_,q⟩
  .rw[k.Zq];exact e
  .rw[q];exact e
  .rw[q];exact e
 .rw[NE h hp];obtain⟨h1,h2,_⟩:=h.pnd p hp;rw[e]at h2;exact Py h2 h1
theorem fj{A:YH->Prop}(hit:∀n l,PN C b L X n->n.Zs=ab->PJ C b l->A l->(n.Zq.p=b\/Full n)\/∃p,(Zw n l).n.Zs=B p/\(WV p).p=b):MR (PN C b L X) (PJ C b) A G (fun n=>n.Zq.p=b\/Full n) (fun n=>∃p,n.Zs=B p/\(WV p).p=b):=by
 obtain⟨o1,o2,o3⟩:=RM (C:=C) (b:=b) (L:=L) (X:=X);have stay:∀n l,PN C b L X n->n.Zq.p=b\/Full n->(Zw n l).n.Zq.p=b\/Full (Zw n l).n:=fun n l h q=>by
  rcases q with q|q
  .exact .inl (o1 n l h q)
  .exact .inr (q.oR l)
 refine⟨fun n k h=>h,fun n l h _ _ q=>stay n l h q,fun n h hp q=>?_,fun n p h hp q=>?_,fun n k h=>h,fun n ⟨p,h,_⟩ e=>(by rw[e]at h;cases h),fun n p h hp ⟨p',hq,e⟩=>?_,fun n l h hp hl hA=>?_⟩
 .rcases q with q|q
  .exact .inl (o2 n h hp q)
  .exact .inr (q.oS (Y3 hp h.Yu).1)
 .rcases q with q|q
  .exact .inl (o3 n p h hp q)
  .exact .inr (q.fin h p)
 .rw[hq]at hp;obtain rfl:=Option.some.inj hp;exact .inl (.inl (by rw[NE h hq];exact e))
 .rcases hit n l h hp hl hA with q|q
  .exact .inl (stay n l h q)
  .exact .inr (.inl q)
theorem Hz(hb:ZF b):MR (PN C b L X) (PJ C b) (fun l=>l.Z3=0/\l.b=b) G (fun n=>n.Zq.p=b\/Full n) (fun n=>∃p,n.Zs=B p/\(WV p).p=b):=by
 refine fj fun n l h hp hl ⟨k0,k1⟩=>?_;have e:Zw n l=YG n l:=by unfold Zw;rw[if_pos k0]
 rw[e];unfold YG;rw[k1,if_neg (by rw[h.pr0 hb h.Zq];simp)];by_cases q1:n.Zq.p=b
 .exact .inl (.inl q1)
 .rw[if_neg q1];by_cases q2:Jp n.data n.Y4 b=0
  .rw[if_neg (by simp[q2])];exact .inr ⟨_,rfl,rfl⟩
  .exact .inl (.inr (Ew h hb q2))
theorem Vy:∀(k:List YH) (n:Nd),(ZB n k).n.Zs=ab->XK n (ZB n k).n:=by
 intro k
 induction k with
 | nil=>intro n _;unfold ZB;exact⟨.same rfl rfl rfl rfl rfl,rfl,rfl,rfl,rfl,UY.refl _⟩
 | cons l k ih=>
  intro n h;unfold ZB at h ⊢;by_cases hp:n.Zs.isSome=true
  .rw[if_pos hp]at h ⊢;exact⟨.same rfl rfl rfl rfl rfl,rfl,rfl,rfl,rfl,UY.refl _⟩
  .rw[if_neg hp]at h ⊢;have h:(ZB (Zw { n with Zg:=k } l).n k).n.Zs=ab:=h;have K:=ih _ h;have hq:(Zw { n with Zg:=k } l).n.Zs=ab:=by rw[<-K.Zs];exact h
   have hn:XK n { n with Zg:=k }:=⟨.same rfl rfl rfl rfl rfl,rfl,rfl,rfl,rfl,UY.refl _⟩
   rcases (X1 { n with Zg:=k } l).2 with q|⟨_,_,_,_,e⟩|⟨_,_,_,_,e⟩
   .exact (hn.trans q).trans K
   .rw[e]at hq;cases hq
   .rw[e]at hq;cases hq
theorem RN(h:PN C b L L n)(hp:n.Zs=ab)(hr:n.Zh=B r):r.b=b/\Z9 (Zo n)=JU n r:=by
 obtain⟨r0,h1,h2⟩:=h.Z5 rfl;rw[hr]at h1;obtain rfl:=Option.some.inj h1;refine⟨h2,?_⟩;rcases Vx n with⟨e,_⟩|⟨r1,e,q,_⟩|⟨r1,e,q,e2⟩
 .rw[e]at hr;cases hr
 .rw[e]at hr;obtain rfl:=Option.some.inj hr;rw[h2]at q;exact absurd q h.Zq
 .rw[e2];unfold Z9;rw[hr]
theorem AC{l:YH}(h:l∈(Z9 (Zo n)).ls):l∈(Yq n).ls:=by
 unfold Yq;split
 .exact h
 .exact ae.2 (.inl h)
theorem RO:(Yq n).n.Zh=(Z9 (Zo n)).n.Zh/\(Yq n).n.Zs=(Z9 (Zo n)).n.Zs/\(Yq n).n.data=(Z9 (Zo n)).n.data:=by
 unfold Yq;split
 .exact⟨rfl,rfl,rfl⟩
 .exact⟨rfl,rfl,rfl⟩
theorem ZbF(h:PN C b L L n)(hp:n.Zs=ab)(hb:n.Zq.p≠b):Full n\/∃p,(Yq n).n.Zs=B p/\(WV p).p=b:=by
 obtain⟨r,hr,_⟩:=h.Z5 rfl;obtain⟨h2,e⟩:=RN h hp hr;have ZT:ZM n.Zq.p r.b:=by
  rw[h2];by_cases q:ZM n.Zq.p b
  .exact q
  .exact absurd (Py q h.Zq) hb
 have hm:=h.may r hr;rw[RO.2.1,e];unfold JU;rw[if_pos ZT];by_cases q:Jp n.data n.Y4 r.b=0
 .rw[if_neg (by simp[q])];refine .inr ⟨_,rfl,?_⟩;show (if YI n.Zq.p n.Zq.l r.b=0 then (⟨r.b,n.Zq.l⟩:UP) else JN).p=b;rw[if_pos (h.pr0 hm (Ki ZT)),<-h2]
 .exact .inl (Ew h hm q)
theorem uF(h:PN C b L L n)(hp:n.Zs=ab)(hb:n.Zq.p=b)(hr:n.Zh=B r)(hq:¬5<2*r.ZI.length){m:Nat}(hm:m<5)(hn:¬Has r.ZI m):(⟨0,L,m,b,SU,[]⟩:YH)∈(Yq n).ls:=by
 obtain⟨h2,e⟩:=RN h hp hr;refine AC ?_;rw[e];unfold JU;rw[if_neg (by rw[hb,h2];exact QE _),if_pos hq];unfold Pq;refine aw.2 ⟨m,aO.2 hm,?_⟩;rw[if_pos (by unfold Has at hn;simpa using hn),h2,h.ni.me];exact U.2 rfl
theorem ZbG(h:PN C b L L n)(hp:n.Zs=ab)(hb:n.Zq.p=b)(hr:n.Zh=B r)(hq:5<2*r.ZI.length):(Yq n).n.Zh=B (X9 n r) /\
  ∀(s:Nat) x (m:Nat),s<40->Yh (X9 n r).ZY s=B x->Yh n.Zi s=ab->m<5->¬oU r s m->(⟨2,L,m,Jq,QK s b x,[]⟩:YH)∈(Yq n).ls:=by
 obtain⟨h2,e⟩:=RN h hp hr;have er:JU n r=⟨{ n with Zh:=B (X9 n r) },TH n (X9 n r),[]⟩:=by
  unfold JU;rw[if_neg (by rw[hb,h2];exact QE _),if_neg pA]
 refine⟨by rw[RO.1,e,er],fun s x m hs hx hk hm hv=>AC ?_⟩;rw[e,er];show _∈TH n (X9 n r);unfold TH;refine aw.2 ⟨s,aO.2 hs,?_⟩;unfold VG;rw[hx];simp only;rw[if_pos hk];refine aw.2 ⟨m,aO.2 hm,?_⟩;unfold PU;have hbk:(X9 n r).b=b:=by rw[(Hy n r (h.Yu r hr)).1.b,h2]
 rw[(NC n r).1,if_pos (by unfold oU Has at hv;simpa using hv),hbk,h.ni.me];exact U.2 rfl
theorem lF(h:PN C b L X n)(hX:X≠L)(hp:n.Zs=ab)(hb:n.Zq.p=b)(hm:ZF b)(hL:b.n=L)(hx:x∈n.Zx):(⟨4,X,L,Jq,QK 0 Jq x,[]⟩:YH)∈(Yq n).ls:=by
 refine AC ?_;have hs:∃m:Nd,Zo n=m/\m.Zh=ab/\m.Zq=n.Zq/\m.me=n.me/\m.Zx=n.Zx:=by
  rcases Vx n with⟨e,e2⟩|⟨r,e,_,e2⟩|⟨r,e,q,_⟩
  .exact⟨_,e2,e,rfl,rfl,rfl⟩
  .exact⟨_,e2,rfl,rfl,rfl,rfl⟩
  .rw[hb]at q;exact absurd (h.S9 hX r e) q
 obtain⟨m,e,e1,e2,e3,e4⟩:=hs;rw[e];unfold Z9;rw[e1];simp only;rw[e2,e3,hb,hL,h.ni.me];rw[if_pos ⟨by have:=hm.1;omega,fun q=>hX pA⟩];unfold WD;rw[e4,e3,e2,hb,hL,h.ni.me];exact a5.2 ⟨x,hx,rfl⟩
theorem WZ(n:Nd):(Z9 (Zo n)).n.Yv=n.Yv/\(Z9 (Zo n)).n.ZA=n.ZA/\(Z9 (Zo n)).n.me=n.me:=by
 have hs:(Zo n).Yv=n.Yv/\(Zo n).ZA=n.ZA/\(Zo n).me=n.me:=by
  rcases Vx n with⟨_,e⟩|⟨_,_,_,e⟩|⟨_,_,_,e⟩<;>rw[e]<;>exact⟨rfl,rfl,rfl⟩
 have hd:(Z9 (Zo n)).n.Yv=(Zo n).Yv/\(Z9 (Zo n)).n.ZA=(Zo n).ZA/\(Z9 (Zo n)).n.me=(Zo n).me:=by
  unfold Z9;split
  .unfold JU
   repeat' split
   all_goals exact⟨rfl,rfl,rfl⟩
  .split<;>exact⟨rfl,rfl,rfl⟩
 exact⟨by rw[hd.1,hs.1],by rw[hd.2.1,hs.2.1],by rw[hd.2.2,hs.2.2]⟩
theorem uG(hq:(Yq n).n.Zs=ab):(Yq n).n.Yv=(n.Yv+1)%5/\((Yq n).n.Yv≠n.me->n.ZA.length<40->∃bb,(⟨5,n.me,(Yq n).n.Yv,bb,QK n.ZA.length Jq Oa,[]⟩:YH)∈(Yq n).ls):=by
 obtain⟨t1,t2,t3⟩:=WZ n;have hp:(Z9 (Zo n)).n.Zs=ab:=by rw[<-RO.2.1];exact hq
 have e:Yq n=⟨J7 (Z9 (Zo n)).n,(Z9 (Zo n)).ls++UV (J7 (Z9 (Zo n)).n),[]⟩:=by
  unfold Yq;rw[if_neg (by rw[hp];decide)]
 have et:(Yq n).n.Yv=(n.Yv+1)%5:=by
  rw[e];show ((Z9 (Zo n)).n.Yv+1)%5=_;rw[t1]
 refine⟨et,fun h1 h2=>?_⟩;rw[et]at h1 ⊢;rw[e];refine⟨Vs (J7 (Z9 (Zo n)).n),ae.2 (.inr ?_)⟩;unfold UV;have q1:(J7 (Z9 (Zo n)).n).Yv=(n.Yv+1)%5:=by
  show ((Z9 (Zo n)).n.Yv+1)%5=_;rw[t1]
 have q2:(J7 (Z9 (Zo n)).n).ZA=n.ZA:=t2;have q3:(J7 (Z9 (Zo n)).n).me=n.me:=t3;rw[q1,q2,q3,if_pos ⟨h1,h2⟩];exact U.2 rfl
end
def lG(n:Nd)(r:XE)(t:Nat):Prop:=Has r.ZY t\/Has n.Zi t
theorem fm:∀(k s:Nat),(∀t,t<s->lG n r t)->Qo n r x k s=ab ->
  (∃t,s<=t/\t<s+k/\(∀u,u<=t->lG n r u)/\(Yh r.ZY t=B x\/Yh n.Zi t=B x))\/∀t,t<s+k->lG n r t:=by
 intro k
 induction k with
 | zero=>intro s h _;exact .inr fun t ht=>h t pA
 | succ k ih=>
  intro s h hn;unfold Qo at hn;by_cases q1:Yh r.ZY (s:Int)=B x\/Yh n.Zi (s:Int)=B x
  .refine .inl ⟨s,al _,pA,fun u hu=>?_,q1⟩;by_cases e:u=s
   .subst e;rcases q1 with q|q
    .exact .inl (by unfold Has;rw[q];simp)
    .exact .inr (by unfold Has;rw[q];simp)
   .exact h u pA
  .rw[if_neg q1]at hn;by_cases q2:Yh r.ZY (s:Int)=ab/\Yh n.Zi (s:Int)=ab
   .rw[if_pos q2]at hn;cases hn
   .rw[if_neg q2]at hn;have ho:lG n r s:=by
     unfold lG Has;by_cases q:Yh r.ZY (s:Int)=ab
     .exact .inr fun e=>q2 ⟨q,e⟩
     .exact .inl q
    rcases ih (s+1) (fun t ht=>by
     by_cases e:t=s
     .rw[e];exact ho
     .exact h t pA) hn with⟨t,h1,h2,h3,h4⟩|h1
    .exact .inl ⟨t,pA,pA,h3,h4⟩
    .exact .inr fun t ht=>h1 t pA
theorem HC:∀(k s t:Nat),(∀u,u<s->lG n r u)->Qo n r x k s=B t->∀u,u<t->lG n r u:=by
 intro k
 induction k with
 | zero=>intro s t _ hn;cases hn
 | succ k ih=>
  intro s t h hn;unfold Qo at hn;by_cases q1:Yh r.ZY (s:Int)=B x\/Yh n.Zi (s:Int)=B x
  .rw[if_pos q1]at hn;cases hn
  .rw[if_neg q1]at hn;by_cases q2:Yh r.ZY (s:Int)=ab/\Yh n.Zi (s:Int)=ab
   .rw[if_pos q2]at hn;obtain rfl:=Option.some.inj hn;exact h
   .rw[if_neg q2]at hn;refine ih (s+1) t (fun u hu=>?_) hn;by_cases e:u=s
    .rw[e];unfold lG Has;by_cases q:Yh r.ZY (s:Int)=ab
     .exact .inr fun e=>q2 ⟨q,e⟩
     .exact .inl q
    .exact h u pA
def Put(n:Nd)(r:XE)(x:Cm):Prop:=(∃s:Nat,s<40/\(∀u,u<=s->lG n r u)/\(Yh r.ZY s=B x\/Yh n.Zi s=B x))\/∀t,t<40->lG n r t
theorem lG.Zf{r':XE}(h:lG n r t)(k:XZ r r'):lG n r' t:=by
 rcases h with h|h
 .unfold Has at h
  cases e:Yh r.ZY (t:Int) with
  | none=>exact absurd e h
  | some x=>exact .inl (by unfold Has;rw[k.ZY _ _ e];simp)
 .exact .inr h
theorem Put.Zf{r':XE}(h:Put n r x)(k:XZ r r'):Put n r' x:=by
 rcases h with⟨s,h1,h2,h3⟩|h
 .refine .inl ⟨s,h1,fun u hu=>(h2 u hu).Zf k,?_⟩;rcases h3 with h3|h3
  .exact .inl (k.ZY _ _ h3)
  .exact .inr h3
 .exact .inr fun t ht=>(h t ht).Zf k
theorem uH(hl:n.ZA.length<=40)(h0:∀t,t<n.ZA.length->Has n.Zi (t:Int)):Put n (Qc n r x) x:=by
 have hb:∀u,u<n.ZA.length->lG n r u:=fun u hu=>.inr (h0 u hu);unfold Qc
 cases hf:free n r x with
 | none=>
  simp only;rcases fm _ _ hb hf with⟨t,h1,h2,h3,h4⟩|h
  .exact .inl ⟨t,pA,h3,h4⟩
  .exact .inr fun t ht=>h t pA
 | some s=>
  simp only;obtain⟨q1,q2,_,_⟩:=Ny _ _ _ hf;have q3:=HC _ _ _ hb hf;have hs:Yh (ins r.ZY (s:Int) x) (s:Int)=B x:=by rw[Xk,if_pos rfl]
  refine .inl ⟨s,pA,fun u hu=>?_,.inl hs⟩;by_cases e:u=s
  .subst e;exact .inl (by unfold Has;rw[hs];simp)
  .rcases q3 u pA with q|q
   .exact .inl (Has.ins q _ _)
   .exact .inr q
theorem fo(hl:n.ZA.length<=40)(h0:∀t,t<n.ZA.length->Has n.Zi (t:Int)):∀(l:List Cm) (r:XE),∀x∈l,Put n (Jj n r l) x:=by
 intro l
 induction l with
 | nil=>intro r x hx;cases hx
 | cons y l ih=>
  intro r x hx;show Put n (Jj n (Qc n r y) l) x;rcases a0.1 hx with rfl|hx
  .exact (uH hl h0).Zf (Vc n l _)
  .exact ih _ x hx
theorem uI{C:List Cm}{b:YA}{L:Nat}(h:PN C b L L n)(r:XE)(hx:x∈n.Zx):Put n (X9 n r) x:=by
 unfold X9;refine fo h.ni.Ii (fun t ht=>?_) _ _ x hx;have:=h.ni.ZA t ht;unfold Has;intro e;rw[e]at this
 cases this
theorem uJ{β:Type}{l:List (Int × β)}(h:∀X:Nat,X<5->X≠9->Has l X):5<2*(aa l):=by
 have:=OT (l:=[(0:Int),1,2,3,4]) (C:=l.map (·.1)) aaa (fun x hx=>by
  have:∃X:Nat,X<5/\x=X:=by
   simp only[a0,bf,or_false]at hx;rcases hx with rfl|rfl|rfl|rfl|rfl
   .exact⟨0,pA,rfl⟩
   .exact⟨1,pA,rfl⟩
   .exact⟨2,pA,rfl⟩
   .exact⟨3,pA,rfl⟩
   .exact⟨4,pA,rfl⟩
  obtain⟨X,hX,rfl⟩:=this;have:=h X hX pA;unfold Has at this
  cases e:Yh l (X:Int) with
  | none=>exact absurd e this
  | some v=>exact oJ e)
 rw[a9]at this;simp at this;omega
theorem uK{β:Type}{l:List (Int × β)}{L:Nat}(hL:L<5)(h:∀X:Nat,X<5->X≠L->Has l X):5<2*(aa l):=by
 have hm:∀X:Nat,X<5->X≠L->(X:Int)∈l.map (·.1):=fun X hX hn=>by
  have:=h X hX hn;unfold Has at this
  cases e:Yh l (X:Int) with
  | none=>exact absurd e this
  | some v=>exact oJ e
 have:∃a b c:Nat,a<5/\b<5/\c<5/\a≠L/\b≠L/\c≠L/\a≠b/\a≠c/\b≠c:=by
  match L,hL with
  | 0,_=>exact⟨1,2,3,aaa⟩
  | 1,_=>exact⟨0,2,3,aaa⟩
  | 2,_=>exact⟨0,1,3,aaa⟩
  | 3,_=>exact⟨0,1,2,aaa⟩
  | 4,_=>exact⟨0,1,2,aaa⟩
 obtain⟨a,c,d,h1,h2,h3,h4,h5,h6,h7,h8,h9⟩:=this;have:=OT (l:=[(a:Int),(c:Int),(d:Int)]) (C:=l.map (·.1)) VL (fun x hx=>by
  simp only[a0,bf,or_false]at hx;rcases hx with rfl|rfl|rfl
  .exact hm a h1 h4
  .exact hm c h2 h5
  .exact hm d h3 h6)
 rw[a9]at this;simp at this;omega
section
variable {C:List Cm} {b:YA} {L X:Nat} {w:Wd}
theorem lH(h:PW C b L w)(hC:(aa C)<=100000)(hb:ZF b)(hX:X<5)(hf:Ta (w.Zb X)):∃d:Nd,PN C b L X d/\d.Zs=ab/\XK (w.Zb X) d/\(∀l∈(Yq d).ls,l∈RL w) /\
  ∃k,(kZ w).Zb X = { (Yq d).n with Zg:=k }:=by
 have hu:=(h.nd X hX).up;have hd:=J8 (Qg (C:=C) (b:=b) (L:=L) hX hC hb) (w.Zb X).Zg (w.Zb X) (h.nd X hX) (h.Wz X hX);have hs:=WY hu hf;refine⟨(ZB (w.Zb X) (w.Zb X).Zg).n,hd.1,hf.2,Vy _ _ hf.2,fun l hl=>Vw.2 (.inr ⟨X,hX,by rw[hs];exact ae.2 (.inr hl)⟩),?_⟩;rw[QU w X hX hu,hs];exact⟨_,rfl⟩
end
def Ct(w:Nat->Wd):Nat->Nat->Prop
 | _,0=>True
 | 0,_+1=>False
 | t+1,k+1=>Ct w t (k+1)\/(Clear (w t)/\Ct w t k)
def sh{α:Type}(w:Nat->α)(a:Nat):Nat->α:=fun t=>w (a+t)
theorem Ct.zero(w:Nat->Wd)(t:Nat):Ct w t 0:=by cases t<;>exact trivial
theorem Ct.mono{w:Nat->Wd}{k:Nat}(h:Ct w t k):Ct w (t+1) k:=by
 cases k with
 | zero=>exact Ct.zero _ _
 | succ k=>exact .inl h
theorem Ct.less{w:Nat->Wd}:∀{t k:Nat},Ct w t (k+1)->Ct w t k:=by
 intro t
 induction t with
 | zero=>intro k h;exact h.elim
 | succ t ih=>
  intro k h;rcases h with h|⟨_,h⟩
  .exact (ih h).mono
  .exact h.mono
theorem Ct.split{w:Nat->Wd}:∀(t j k:Nat),Ct w t (j+k)->∃a,a<=t/\Ct w a j/\Ct (sh w a) (t-a) k:=by
 intro t
 induction t with
 | zero=>
  intro j k h
  cases k with
  | zero=>exact⟨0,al _,h,Ct.zero _ _⟩
  | succ k=>exact h.elim
 | succ t ih=>
  intro j k h
  cases k with
  | zero=>exact⟨t+1,al _,h,Ct.zero _ _⟩
  | succ k=>
   rcases h with h|⟨hc,h⟩
   .obtain⟨a,h1,h2,h3⟩:=ih j (k+1) h;exact⟨a,pA,h2,by rw[show t+1-a=t-a+1 by omega];exact h3.mono⟩
   .obtain⟨a,h1,h2,h3⟩:=ih j k h;refine⟨a,pA,h2,?_⟩;rw[show t+1-a=t-a+1 by omega];refine .inr ⟨?_,h3⟩;show Clear (w (a+(t-a)));rw[show a+(t-a)=t by omega];exact hc
structure Yl(S:Cm->Prop)(C:List Cm)(b:YA)(L T:Nat)(w:Nat->Wd)(g:Nat->Gh)(M:Nat->Nat->YA):Prop where
 hC:(aa C)<=100000
 hb:ZF b
 hL:L<5
 hn:b.n=L
 nx:∀t,w (t+1)=kZ (w t)
 pw:PW C b L (w 0)
 nf:∀t,t<=T->∀X,X<5->¬Full ((w t).Zb X)
 ti:∀t,t<=T->TI S (g t) (M t) (w t)
 mv:∀t,t<T->∀j b s x,(g t).V j b s x->(g (t+1)).V j b s x
 hS:∀x,S x->x.err=0
section
variable {S:Cm->Prop} {C:List Cm} {b:YA} {L T:Nat} {w:Nat->Wd} {g:Nat->Gh} {M:Nat->Nat->YA}
theorem Yl.at(tr:Yl S C b L T w g M):∀t,PW C b L (w t):=by
 intro t
 induction t with
 | zero=>exact tr.pw
 | succ t ih=>rw[tr.nx];exact ZbC ih tr.hC tr.hb
theorem Yl.sh(tr:Yl S C b L T w g M){a:Nat}(ha:a<=T):Yl S C b L (T-a) (sh w a) (Go.Proofs.YthlfaofofaphfaaGreatDoor.sh g a) (Go.Proofs.YthlfaofofaphfaaGreatDoor.sh M a):=
 ⟨tr.hC,tr.hb,tr.hL,tr.hn,fun t=>tr.nx (a+t),tr.at a,fun t ht=>tr.nf (a+t) pA,fun t ht=>tr.ti (a+t) pA,fun t ht=>tr.mv (a+t) pA,tr.hS⟩
theorem Yl.Wr(tr:Yl S C b L T w g M){Z Z':Nat->Prop}{k:Nat}(hZ:∀t,t<=T->Ct w t k->Z t)(st:∀t,t<T->Z' t->Z' (t+1))(go:∀t,t<T->Clear (w t)->Z t->Z' (t+1)):∀t,t<=T->Ct w t (k+1)->Z' t:=by
 intro t
 induction t with
 | zero=>intro _ h;exact h.elim
 | succ t ih=>
  intro ht h;rcases h with h|⟨hc,h⟩
  .exact st t pA (ih pA h)
  .exact go t pA hc (hZ t pA h)
theorem Yl.stays(tr:Yl S C b L T w g M){Z:Nat->Prop}(st:∀t,t<T->Z t->Z (t+1)){a:Nat}(h:Z a):∀t,a<=t->t<=T->Z t:=by
 intro t
 induction t with
 | zero=>intro h1 _;rw[show (0:Nat)=a by omega];exact h
 | succ t ih=>
  intro h1 h2;by_cases e:a=t+1
  .rw[<-e];exact h
  .exact st t pA (ih pA pA)
theorem Yl.Ws(tr:Yl S C b L T w g M)(hX:X<5){A G:YH->Prop}{E F:Nd->Prop}(H:MR (PN C b L X) (PJ C b) A G E F)(hs:Src A E F ((w t).Zb X)):
  (Src A E F ((w (t+1)).Zb X)\/∃m∈RL (w t),G m)/\(Ta ((w t).Zb X)->E ((w (t+1)).Zb X)\/∃m∈RL (w t),G m):=by
 rw[tr.nx];exact ZbD (tr.at t) tr.hC tr.hb hX H hs
theorem Yl.comes(tr:Yl S C b L T w g M){Y:Nat}(hY:Y<5){A:YH->Prop}{E F:Nd->Prop}(h:∃m∈RL (w t),A m)(ht:∀m,A m->m.to=Y):Src A E F ((w (t+1)).Zb Y):=by
 rw[tr.nx];exact lu hY ((tr.at t).nd Y hY).up h (fun m q=>by have:=ht m q;omega)
theorem Yl.free(tr:Yl S C b L T w g M)(hX:X<5)(hf:Ta ((w t).Zb X)):∃d:Nd,PN C b L X d/\d.Zs=ab/\XK ((w t).Zb X) d/\(∀l∈(Yq d).ls,l∈RL (w t)) /\
  ∃k,(w (t+1)).Zb X = { (Yq d).n with Zg:=k }:=by
 rw[tr.nx];exact lH (tr.at t) tr.hC tr.hb hX hf
def ZiN(b:YA)(n:Nd):Prop:=Src (fun _=>False) (fun n=>n.Zq.p=b\/Full n) (fun n=>∃p,n.Zs=B p/\(WV p).p=b) n
theorem CM:MR (PN C b L X) (PJ C b) (fun _=>False) (fun _=>False) (fun n=>n.Zq.p=b\/Full n) (fun n=>∃p,n.Zs=B p/\(WV p).p=b):=
 fj fun n l _ _ _ h=>h.elim
theorem Yl.ZiO(tr:Yl S C b L T w g M)(hX:X<5)(h:ZiN b ((w t).Zb X)):ZiN b ((w (t+1)).Zb X):=by
 rcases (tr.Ws hX CM h).1 with q|⟨_,_,q⟩
 .exact q
 .exact q.elim
theorem Yl.OX(tr:Yl S C b L T w g M)(hX:X<5)(h:((w t).Zb X).Zq.p=b)(ht:t<T):((w (t+1)).Zb X).Zq.p=b:=by
 rcases (tr.Ws hX CM (.inl (.inl h))).1 with (q|⟨p,q,e⟩|⟨_,_,q⟩)|⟨_,_,q⟩
 .rcases q with q|q
  .exact q
  .exact absurd q (tr.nf (t+1) pA X hX)
 ·-- ZnQ is ZnR ZKd not go back
  have hs:=Kr (tr.at t) tr.hC tr.hb hX;have e2:((w (t+1)).Zb X).Zq=(step ((w t).Zb X)).n.Zq:=by
   rw[tr.nx,QU _ X hX ((tr.at t).nd X hX).up]
  have:(step ((w t).Zb X)).n.Zq.p=b:=by
   have W:=(Qg (C:=C) (b:=b) (L:=L) (X:=X) hX tr.hC tr.hb).and (E:=fun n=>n.Zq.p=b) (fun n k h=>h) (fun n l h _ _ q=>RM.1 n l h q) (fun n h hp q=>RM.2.1 n h hp q) (fun n p h hp q=>RM.2.2 n p h hp q);exact (Tm W ((tr.at t).nd X hX).up ⟨(tr.at t).nd X hX,h⟩ ((tr.at t).Wz X hX)).1.2
  rw[e2];exact this
 .exact q.elim
 .exact q.elim
theorem Yl.ZnS(tr:Yl S C b L T w g M):∀t,t<=T->Ct w t 1->ZiN b ((w t).Zb L):=by
 refine tr.Wr (Z:=fun _=>True) (k:=0) (fun _ _ _=>trivial) (fun t _ h=>tr.ZiO tr.hL h) (fun t ht hc _=>?_);obtain⟨d,hd,hp,_,_,k,e⟩:=tr.free tr.hL (hc L tr.hL);rw[e];by_cases q:d.Zq.p=b
 .exact .inl (.inl (RM.2.1 d hd hp q))
 .rcases ZbF hd hp q with q|q
  .exact .inl (.inr (q.oS (Y3 hp hd.Yu).1))
  .exact .inr (.inl q)
def ZbH(b:YA)(n:Nd):Prop:=Src (fun l=>l.Z3=0/\l.b=b) (fun n=>n.Zq.p=b\/Full n) (fun n=>∃p,n.Zs=B p/\(WV p).p=b) n
def fp(b:YA)(L X:Nat)(w:Wd):Prop:=
 Src (fun l=>l.Z3=0/\l.b=b/\l.Jw=L) Full (fun n=>∃a vs,n.Zs=B (.VN a L b vs)) (w.Zb X) \/
 Src (fun m=>m.Z3=1/\m.b=b/\m.Jw=X/\m.to=L) (MS fun r=>Has r.ZI X) (fun _=>False) (w.Zb L)
theorem Yl.lI(tr:Yl S C b L T w g M)(hX:X<5)(h:ZbH b ((w t).Zb X)):ZbH b ((w (t+1)).Zb X):=by
 rcases (tr.Ws hX (Hz (G:=fun _=>False) tr.hb) h).1 with q|⟨_,_,q⟩
 .exact q
 .exact q.elim
theorem Yl.AD(tr:Yl S C b L T w g M)(hX:X<5)(h:fp b L X (w t)):fp b L X (w (t+1)):=by
 rcases h with h|h
 .rcases (tr.Ws hX (fh tr.hb) h).1 with q|q
  .exact .inl q
  .exact .inr (tr.comes tr.hL q fun m h=>h.2.2.2)
 .rcases (tr.Ws tr.hL (Iq (X:=X) (G:=fun _=>False)) h).1 with q|⟨_,_,q⟩
  .exact .inr q
  .exact q.elim
def UJ(b:YA)(l:YH):Prop:=(l.Z3=0->l.b≠b)/\(l.Z3=2->l.v.b≠b)
def UN(b:YA)(n:Nd):Prop:=n.Zq.p≠b/\∀p,n.Zs=B p->(WV p).p≠b
structure Un(b:YA)(L:Nat)(w:Wd):Prop where
 nd:∀X,X<5->X≠L->UN b (w.Zb X)
 Wz:∀X,X<5->∀l∈(w.Zb X).Zg,UJ b l
 Mf:∀l∈w.Zp,UJ b l
theorem fq{a c:YA}(h:ZM a c):a≠c:=fun e=>QE c (by rw[e]at h;exact h)
theorem ZeY(hX:X<5)(VT:X≠L)(hC:(aa C)<=100000)(hb:ZF b):Laws (fun n=>PN C b L X n/\UN b n) (fun l=>PJ C b l/\UJ b l) (fun l=>PJ C b l/\UJ b l):=by
 have W:=Qg (C:=C) (b:=b) (L:=L) (X:=X) hX hC hb;refine⟨fun n k h=>⟨W.box n k h.1,h.2⟩,fun n l h hp hl=>?_,fun n h hp=>?_,fun n p h hp=>?_⟩
 .obtain⟨h1,h2⟩:=W.oR n l h.1 hp hl.1;obtain⟨hk,hc⟩:=X1 n l;refine⟨⟨h1,?_⟩,fun m hm=>⟨h2 m hm,fun e=>absurd e (hk m hm).1,fun e=>absurd e (hk m hm).2⟩⟩;rcases hc with k|⟨c1,_,_,_,e⟩|⟨c1,_,_,_,e⟩
  .exact⟨by rw[k.Zq];exact h.2.1,fun p q=>h.2.2 p (by rw[<-k.Zs];exact q)⟩
  .rw[e];refine⟨h.2.1,fun p q=>?_⟩;obtain rfl:=Option.some.inj q;exact hl.2.1 c1
  .rw[e];refine⟨h.2.1,fun p q=>?_⟩;obtain rfl:=Option.some.inj q;exact hl.2.2 c1
 .obtain⟨h1,h2⟩:=W.oS n h.1 hp;obtain⟨D,hA⟩:=Y3 hp h.1.Yu;have Y7:∀r,n.Zh=B r->r.b≠b:=fun r hr=>fq (h.1.S9 VT r hr);refine⟨⟨h1,by rw[D.Zq];exact h.2.1,fun p q=>?_⟩,fun m hm=>⟨h2 m hm,fun e=>?_,fun e=>?_⟩⟩
  .rcases D.Zs with⟨e,_⟩|⟨r,hr,c1,_,_,e⟩
   .rw[e]at q;cases q
   .rw[e]at q;obtain rfl:=Option.some.inj q;show (if YI n.Zq.p n.Zq.l r.b=0 then (⟨r.b,n.Zq.l⟩:UP) else JN).p≠b;rw[if_pos (h.1.pr0 (h.1.may r hr) (Ki c1))];exact Y7 r hr
  .obtain⟨r,hr,_,_,e2,_⟩:=hA m hm (.inl e);rw[e2 e];exact Y7 r hr
  .obtain⟨r,hr,_,_,_,e2,_⟩:=hA m hm (.inr e);rw[e2 e];exact Y7 r hr
 .obtain⟨h1,h2⟩:=W.fin n p h.1 hp;refine⟨⟨h1,by rw[NE h.1 hp];exact h.2.2 p hp,fun q hq=>?_⟩,fun m hm=>⟨h2 m hm,fun e=>?_,fun e=>?_⟩⟩
  .have:(YM (ZQ n) p).n.Zs=ab:=by cases p<;>rfl
   rw[this]at hq;cases hq
  .cases p with
   | VN a to b' vs=>rw[U.1 hm]at e;cases e
   | TX a to v=>rw[U.1 hm]at e;cases e
   | Zq a vs cur=>cases hm
  .cases p with
   | VN a to b' vs=>rw[U.1 hm]at e;cases e
   | TX a to v=>rw[U.1 hm]at e;cases e
   | Zq a vs cur=>cases hm
end
theorem HD(n:Nd)(s:Int)(x:Cm):(Jl n s x).n.Zh=n.Zh:=by
 have:∀(k:Nat) (n:Nd),(Yg k n).1.Zh=n.Zh:=by
  intro k
  induction k with
  | zero=>intro n;rfl
  | succ k ih=>
   intro n;unfold Yg;split
   .rfl
   .exact ih _
 exact this _ _
theorem PA(n:Nd)(l:YH):(Zw n l).n.Zh=n.Zh\/∃r,n.Zh=B r /\
  ((l.Z3=1/\l.b=r.b/\(Zw n l).n.Zh=B { r with ZI:=ins r.ZI l.Jw l.vs }) \/
   (l.Z3=3/\l.v.b=r.b/\(Zw n l).n.Zh=B { r with Xb:=ins r.Xb l.v.Zu (Ug r l) })):=by
 have hn:(Xz n l).Zh=n.Zh:=by unfold Xz;split<;>rfl
 unfold Zw;split
 .unfold YG
  repeat' split
  all_goals exact .inl rfl
 split
 .rename_i hk;unfold Ym
  cases hr:n.Zh with
  | none=>exact .inl hr
  | some r=>
   simp only;split
   .rename_i k1;split
    .rename_i q;exact .inr ⟨r,rfl,.inl ⟨k1,q,rfl⟩⟩
    .exact .inl hr
   .rename_i k1;have k3:l.Z3=3:=by
     rcases hk with hk|hk
     .exact absurd hk k1
     .exact hk
    split
    .exact .inl hr
    .rename_i q;have q:l.v.b=r.b:=by simpa using q
     split
     .exact .inr ⟨r,rfl,.inr ⟨k3,q,by rw[HD];rfl⟩⟩
     .exact .inr ⟨r,rfl,.inr ⟨k3,q,rfl⟩⟩
 split
 .unfold asked
  repeat' split
  all_goals exact .inl rfl
 split
 .unfold add;split<;>exact .inl rfl
 split
 .unfold Qy;split<;>exact .inl hn
 split
 .exact .inl (HD _ _ _)
 .exact .inl hn
theorem fu:∀(k:List YH) (n:Nd),∀m∈(ZB n k).ls,m.Z3≠0/\m.Z3≠2:=by
 intro k
 induction k with
 | nil=>intro n m hm;unfold ZB at hm;cases hm
 | cons l k ih=>
  intro n m hm;unfold ZB at hm;split at hm
  .cases hm
  .rcases ae.1 hm with hm|hm
   .exact (X1 _ l).1 m hm
   .exact ih _ m hm
theorem Iu(n:Nd)(p:Kv):∀m∈(YM n p).ls,m.Z3≠0/\m.Z3≠2:=fun m hm=>by
 cases p with
 | VN a to b' vs=>rw[U.1 hm];exact⟨(by decide:(1:Int)≠0),(by decide:(1:Int)≠2)⟩
 | TX a to v=>rw[U.1 hm];exact⟨(by decide:(3:Int)≠0),(by decide:(3:Int)≠2)⟩
 | Zq a vs cur=>cases hm
theorem lJ{C:List Cm}{b:YA}{L:Nat}(h:PN C b L L n)(hd:Ta n->PN C b L L (ZB n n.Zg).n)(hq:¬(Ta n/\n.Zq.p=b)):∀m∈(step n).ls,UJ b m:=fun m hm=>by
 have ok:m.Z3≠0/\m.Z3≠2->UJ b m:=fun q=>⟨fun e=>absurd e q.1,fun e=>absurd e q.2⟩
 cases hp:n.Zs with
 | some p=>
  have e:step n=YM (ZQ n) p:=by unfold step;rw[if_pos h.up,hp]
  rw[e]at hm;exact ok (Iu _ p m hm)
 | none=>
  by_cases hf:Ta n
  .rw[WY h.up hf]at hm;rcases ae.1 hm with hm|hm
   .exact ok (fu _ _ m hm)
   .have D:=hd hf;have K:=Vy _ _ hf.2;have hA:=(Y3 hf.2 D.Yu).2 m hm;have mj:¬(m.Z3=0\/m.Z3=2):=fun e=>by
     obtain⟨r,hr,c1,c2,_⟩:=hA e;obtain⟨r',Wg,e2⟩:=D.Z5 rfl;rw[hr]at Wg;obtain rfl:=Option.some.inj Wg;refine hq ⟨hf,?_⟩;rw[<-K.Zq,<-e2];exact Py c2 c1
    exact ok ⟨fun e=>mj (.inl e),fun e=>mj (.inr e)⟩
  .have e:step n=ZB n n.Zg:=by
    unfold step;rw[if_pos h.up,hp];simp only;rw[if_pos]
    cases q:(ZB n n.Zg).n.Zs with
    | none=>exact absurd ⟨hp,q⟩ hf
    | some p=>rfl
   rw[e]at hm;exact ok (fu _ _ m hm)
def NP(L:Nat)(n:Nd):Prop:=∀r,n.Zh=B r->∀X:Nat,X<5->X≠L->¬Has r.ZI X
theorem AE{β:Type}{l:List (Int × β)}{k j:Int}{v:β}(h:Has (ins l k v) j):j=k\/Has l j:=by
 unfold Has at h;rw[Xk]at h;by_cases e:k=j
 .exact .inl e.symm
 .rw[if_neg e]at h;exact .inr h
section
variable {S:Cm->Prop} {C:List Cm} {b:YA} {L T:Nat} {w:Nat->Wd} {g:Nat->Gh} {M:Nat->Nat->YA}
theorem ZeZ(hL:L<5)(hC:(aa C)<=100000)(hb:ZF b):Laws (fun n=>PN C b L L n/\NP L n) (fun l=>PJ C b l/\(l.Z3=1->l.b=b->l.Jw=L)) (PJ C b):=by
 have W:=Qg (C:=C) (b:=b) (L:=L) (X:=L) hL hC hb;refine⟨fun n k h=>⟨W.box n k h.1,h.2⟩,fun n l h hp hl=>?_,fun n h hp=>?_,fun n p h hp=>?_⟩
 .obtain⟨h1,h2⟩:=W.oR n l h.1 hp hl.1;refine⟨⟨h1,fun r' Wg X hX VT hH=>?_⟩,h2⟩;rcases PA n l with e|⟨r,hr,⟨k1,k2,e⟩|⟨_,_,e⟩⟩
  .rw[e]at Wg;exact h.2 r' Wg X hX VT hH
  .rw[e]at Wg;obtain rfl:=Option.some.inj Wg;rcases AE hH with q|q
   .obtain⟨r0,h3,h4⟩:=h.1.Z5 rfl;rw[hr]at h3;obtain rfl:=Option.some.inj h3;have:=hl.2 k1 (by rw[k2,h4]);omega
   .exact h.2 r hr X hX VT q
  .rw[e]at Wg;obtain rfl:=Option.some.inj Wg;exact h.2 r hr X hX VT hH
 .obtain⟨h1,h2⟩:=W.oS n h.1 hp;refine⟨⟨h1,fun r' Wg X hX VT hH=>?_⟩,h2⟩;rcases (Y3 hp h.1.Yu).1.S9 with⟨_,e⟩|⟨_,_,_,e⟩|⟨r,r2,hr,_,e,_,_,_,k⟩
  .rw[e]at Wg;cases Wg
  .rw[e]at Wg;cases Wg
  .rw[e]at Wg;obtain rfl:=Option.some.inj Wg;rw[k]at hH;exact h.2 r hr X hX VT hH
 .obtain⟨h1,h2⟩:=W.fin n p h.1 hp;refine⟨⟨h1,fun r' Wg X hX VT hH=>?_⟩,h2⟩
  cases p with
  | VN a to b' vs=>exact h.2 r' Wg X hX VT hH
  | TX a to v=>exact h.2 r' Wg X hX VT hH
  | Zq a vs cur=>
   have Wg:(if cur=true then n.Zh.map (fun r=>{ r with ZI:=ins r.ZI n.me vs }) else n.Zh)=B r':=Wg;split at Wg
   .cases e:n.Zh with
    | none=>rw[e]at Wg;cases Wg
    | some r=>
     rw[e]at Wg;obtain rfl:=Option.some.inj Wg;rcases AE hH with q|q
     .have:=h.1.ni.me;omega
     .exact h.2 r e X hX VT q
   .exact h.2 r' Wg X hX VT hH
theorem Yl.oW(tr:Yl S C b L T w g M)(ht:t<=T)(hX:X<5){vs:List Vt}(h:PF (g t) (M t) X b vs):((w t).Zb X).Zq.p=b:=by
 have N:=(tr.ti t ht).nd X hX;have P:=(tr.at t).nd X hX;have hm:=N.m;rw[JL P.up]at hm;have:=h.Z5;rw[hm]at this;exact Py this P.Zq
theorem Yl.Z2(tr:Yl S C b L T w g M)(ht:t<T)(hu:Un b L (w t))(hf:Ta ((w t).Zb L))(ho:((w t).Zb L).Zq.p=b):∀X,X<5->X≠L->ZbH b ((w (t+1)).Zb X)/\fp b L X (w (t+1)):=by
 have hN:=(tr.at t).nd L tr.hL;have TT:=tr.ti t pA;have hnp:NP L ((w t).Zb L):=fun r hr X hX VT hH=>by
  unfold Has at hH
  cases e:Yh r.ZI (X:Int) with
  | none=>exact hH e
  | some vs=>
   have R:=(TT.nd L tr.hL).Zh r hr;obtain⟨r0,h1,h2⟩:=hN.Z5 rfl;rw[hr]at h1;obtain rfl:=Option.some.inj h1;have P:=R.ZI X vs e;rw[h2]at P;exact (hu.nd X hX VT).1 (tr.oW pA hX P)
 have Ha:∀l∈((w t).Zb L).Zg,PJ C b l/\(l.Z3=1->l.b=b->l.Jw=L):=fun l hl=>by
  refine⟨(tr.at t).Wz L tr.hL l hl,fun k1 k2=>?_⟩;have P:=(TT.Wz L tr.hL l hl).VN k1;rw[k2]at P;have q:=tr.oW pA P.lt P;have lf:=((tr.at t).Wz L tr.hL l hl).li.Jw;by_cases e:l.Jw.toNat=L
  .omega
  .exact absurd q (hu.nd _ P.lt e).1
 have dl:=J8 (ZeZ (C:=C) (b:=b) (L:=L) tr.hL tr.hC tr.hb) ((w t).Zb L).Zg ((w t).Zb L) ⟨hN,hnp⟩ Ha;obtain⟨d,hd0⟩:=ZL ((ZB ((w t).Zb L) ((w t).Zb L).Zg).n);rw[<-hd0]at dl;have hp:d.Zs=ab:=by rw[hd0];exact hf.2
 have K:=Vy _ _ hf.2;rw[<-hd0]at K;obtain⟨hd,oR⟩:=dl.1;have hdo:d.Zq.p=b:=by rw[K.Zq];exact ho
 obtain⟨r,hr,HU⟩:=hd.Z5 rfl;have hq:¬5<2*r.ZI.length:=by
  have kk:=(hd.ni.Zh r hr).ZI;have:=OT (l:=r.ZI.map (·.1)) (C:=[(L:Int)]) kk.1 (fun x hx=>by
   have h5:=kk.2 x hx;rw[U];by_cases e:x.toNat=L
   .omega
   .obtain⟨v,hv⟩:=oI hx;have:=oR r hr x.toNat pA e;rw[show ((x.toNat:Nat):Int)=x by omega]at this;exact absurd (by unfold Has;rw[hv];simp) this)
  rw[a9]at this;simp at this;omega
 intro X hX VT;have hl:=uF hd hp hdo hr hq hX (oR r hr X hX VT);have hm:(⟨0,L,X,b,SU,[]⟩:YH)∈RL (w t):=Vw.2 (.inr ⟨L,tr.hL,by
  rw[WY hN.up hf];refine ae.2 (.inr ?_);rw[<-hd0];exact hl⟩)
 have hb:(⟨0,L,X,b,SU,[]⟩:YH)∈((w (t+1)).Zb X).Zg:=by
  rw[tr.nx];exact (NB hX ((tr.at t).nd X hX).up).2 (.inr ⟨hm,IQ⟩)
 exact⟨.inr (.inr ⟨_,hb,rfl,rfl⟩),.inl (.inr (.inr ⟨_,hb,rfl,rfl,rfl⟩))⟩
theorem Yl.asked(tr:Yl S C b L T w g M)(h0:Un b L (w 0)):∀t,t<=T->Un b L (w t)\/∀X,X<5->X≠L->ZbH b ((w t).Zb X)/\fp b L X (w t):=by
 intro t
 induction t with
 | zero=>intro _;exact .inl h0
 | succ t ih=>
  intro ht;rcases ih pA with hu|h
  .by_cases hq:Ta ((w t).Zb L)/\((w t).Zb L).Zq.p=b
   .exact .inr (tr.Z2 pA hu hq.1 hq.2)
   .have hX:∀X,X<5->X≠L->UN b (step ((w t).Zb X)).n/\∀m∈(step ((w t).Zb X)).ls,UJ b m:=fun X hX VT=>by
     have q:=Tm (ZeY (C:=C) (b:=b) (L:=L) hX VT tr.hC tr.hb) ((tr.at t).nd X hX).up ⟨(tr.at t).nd X hX,hu.nd X hX VT⟩ (fun l hl=>⟨(tr.at t).Wz X hX l hl,hu.Wz X hX l hl⟩);exact⟨q.1.2,fun m hm=>(q.2.1 m hm).2⟩
    have gh:∀l∈RL (w t),UJ b l:=fun l hl=>by
     rcases Vw.1 hl with q|⟨i,hi,q⟩
     .exact hu.Mf l q
     .by_cases e:i=L
      .subst e;refine lJ ((tr.at t).nd i hi) (fun hf=>?_) hq l q;exact (J8 (Qg (C:=C) (b:=b) (L:=i) hi tr.hC tr.hb) _ _ ((tr.at t).nd i hi) ((tr.at t).Wz i hi)).1
      .exact (hX i hi e).2 l q
    refine .inl ⟨fun X hX5 VT=>?_,fun X hX5 l hl=>?_,fun l hl=>?_⟩
    .rw[tr.nx,QU _ X hX5 ((tr.at t).nd X hX5).up];exact (hX X hX5 VT).1
    .rw[tr.nx]at hl;rcases (NB hX5 ((tr.at t).nd X hX5).up).1 hl with q|⟨q,_⟩
     .exact hu.Wz X hX5 l ((Kr (tr.at t) tr.hC tr.hb hX5).2.2 l q)
     .exact gh l q
    .rw[tr.nx,AA]at hl;cases hl
  .exact .inr fun X hX VT=>⟨tr.lI hX (h X hX VT).1,tr.AD hX (h X hX VT).2⟩
theorem Yl.ZnT(tr:Yl S C b L T w g M)(h0:Un b L (w 0)):∀t,t<=T->Ct w t 2->((w t).Zb L).Zq.p=b/\∀X,X<5->X≠L->ZbH b ((w t).Zb X)/\fp b L X (w t):=by
 refine tr.Wr (k:=1) tr.ZnS (fun t ht h=>⟨tr.OX tr.hL h.1 ht,fun X hX VT=>⟨tr.lI hX (h.2 X hX VT).1,tr.AD hX (h.2 X hX VT).2⟩⟩) (fun t ht hc h=>?_);have hf:=hc L tr.hL;have ho:((w t).Zb L).Zq.p=b:=by
  rcases h with q|⟨p,q,_⟩|⟨_,_,q⟩
  .rcases q with q|q
   .exact q
   .exact absurd q (tr.nf t pA L tr.hL)
  .rw[hf.1]at q;cases q
  .exact q.elim
 refine⟨tr.OX tr.hL ho ht,?_⟩;rcases tr.asked h0 t pA with hu|h
 .exact tr.Z2 ht hu hf ho
 .exact fun X hX VT=>⟨tr.lI hX (h X hX VT).1,tr.AD hX (h X hX VT).2⟩
def ZbI(b:YA)(L X:Nat)(w:Wd):Prop:=Src (fun m=>m.Z3=1/\m.b=b/\m.Jw=X/\m.to=L) (MS fun r=>Has r.ZI X) (fun _=>False) (w.Zb L)
theorem Yl.fv(tr:Yl S C b L T w g M)(h:ZbI b L X (w t)):ZbI b L X (w (t+1)):=by
 rcases (tr.Ws tr.hL (Iq (X:=X) (G:=fun _=>False)) h).1 with q|⟨_,_,q⟩
 .exact q
 .exact q.elim
theorem Yl.Zgf(tr:Yl S C b L T w g M)(h0:Un b L (w 0)):∀t,t<=T->Ct w t 3->(∀X,X<5->((w t).Zb X).Zq.p=b)/\∀X,X<5->X≠L->ZbI b L X (w t):=by
 refine tr.Wr (k:=2) (tr.ZnT h0) (fun t ht h=>⟨fun X hX=>tr.OX hX (h.1 X hX) ht,fun X hX VT=>tr.fv (h.2 X hX VT)⟩) (fun t ht hc h=>⟨fun X hX=>?_,fun X hX VT=>?_⟩)
 .by_cases e:X=L
  .rw[e];exact tr.OX tr.hL h.1 ht
  .rcases (tr.Ws hX (Hz (G:=fun _=>False) tr.hb) (h.2 X hX e).1).2 (hc X hX) with q|⟨_,_,q⟩
   .rcases q with q|q
    .exact q
    .exact absurd q (tr.nf (t+1) pA X hX)
   .exact q.elim
 .rcases (h.2 X hX VT).2 with q|q
  .rcases (tr.Ws hX (fh tr.hb) q).2 (hc X hX) with q|q
   .exact absurd q (tr.nf (t+1) pA X hX)
   .exact tr.comes tr.hL q fun m h=>h.2.2.2
  .exact tr.fv q
theorem Yl.Iv(tr:Yl S C b L T w g M){Q:XE->Prop}(hQ:∀r r',XZ r r'->Q r->Q r')(h:MS Q ((w t).Zb L)):MS Q ((w (t+1)).Zb L):=by
 rcases (tr.Ws tr.hL (Ex (A:=fun _=>False) (G:=fun _=>False) hQ (fun n l _ _ _ h=>h.elim)) (.inl h)).1 with (q|q|⟨_,_,q⟩)|⟨_,_,q⟩
 .exact q
 .exact q.elim
 .exact q.elim
 .exact q.elim
theorem Yl.ZnU(tr:Yl S C b L T w g M)(h0:Un b L (w 0)):∀t,t<=T->Ct w t 4->(∀X,X<5->((w t).Zb X).Zq.p=b)/\∀X:Nat,X<5->X≠L->MS (fun r=>Has r.ZI X) ((w t).Zb L):=by
 refine tr.Wr (k:=3) (tr.Zgf h0) (fun t ht h=>⟨fun X hX=>tr.OX hX (h.1 X hX) ht,fun X hX VT=>tr.Iv (fun r r' k q=>k.ZI _ q) (h.2 X hX VT)⟩) (fun t ht hc h=>⟨fun X hX=>tr.OX hX (h.1 X hX) ht,fun X hX VT=>?_⟩);rcases (tr.Ws tr.hL (Iq (X:=X) (G:=fun _=>False)) (h.2 X hX VT)).2 (hc L tr.hL) with q|⟨_,_,q⟩
 .exact q
 .exact q.elim
end
def CO(b:YA)(L:Nat)(u:Int)(y:Cm)(X:Nat)(w:Wd):Prop:=
 Has (w.Zb L).Zi u\/Src (fun l=>l.Z3=2/\l.v=QK u b y/\l.Jw=L) Full (fun n=>∃a,n.Zs=B (.TX a L (QK u b y))) (w.Zb X) \/
 Src (fun m=>m.Z3=3/\m.v=QK u b y/\m.Jw=X/\m.to=L) (MS fun r=>oU r u X) (fun _=>False) (w.Zb L)
def ZiP(b:YA)(L:Nat)(u:Int)(y:Cm)(X:Nat)(w:Wd):Prop:=
 Src (fun m=>m.Z3=3/\m.v=QK u b y/\m.Jw=X/\m.to=L) (MS fun r=>oU r u X) (fun _=>False) (w.Zb L)
def ZiQ(x:Cm)(L:Nat)(n:Nd):Prop:=Src (fun m=>m.Z3=4/\m.v.cm=x/\m.to=L) (Sc x) (fun _=>False) n
def RP(x:Cm)(w:Wd):Prop:=∃X,X<5/\x∈(w.Zb X).ZA
def uL(L:Nat)(u:Nat)(w:Wd):Prop:=MS (fun r=>Has r.ZY u) (w.Zb L)\/Has (w.Zb L).Zi u
theorem lK:∀(k:List YH) (n:Nd) (r':XE),(ZB n k).n.Zh=B r'->∃r,n.Zh=B r/\r'.ZY=r.ZY:=by
 intro k
 induction k with
 | nil=>intro n r' h;unfold ZB at h;exact⟨r',h,rfl⟩
 | cons l k ih=>
  intro n r' h;unfold ZB at h;split at h
  .exact⟨r',h,rfl⟩
  .obtain⟨r1,h1,h2⟩:=ih _ r' h;rcases PA { n with Zg:=k } l with e|⟨r,hr,⟨_,_,e⟩|⟨_,_,e⟩⟩
   .rw[e]at h1;exact⟨r1,h1,h2⟩
   .rw[e]at h1;obtain rfl:=Option.some.inj h1;exact⟨r,hr,h2⟩
   .rw[e]at h1;obtain rfl:=Option.some.inj h1;exact⟨r,hr,h2⟩
theorem CQ(hu:n.up=true)(hf:¬Ta n){r':XE}(h:(step n).n.Zh=B r'):∃r,n.Zh=B r/\r'.ZY=r.ZY:=by
 cases hp:n.Zs with
 | some p=>
  have e:step n=YM (ZQ n) p:=by unfold step;rw[if_pos hu,hp]
  rw[e]at h
  cases p with
  | VN a to b' vs=>exact⟨r',h,rfl⟩
  | TX a to v=>exact⟨r',h,rfl⟩
  | Zq a vs cur=>
   have h:(if cur=true then n.Zh.map (fun r=>{ r with ZI:=ins r.ZI n.me vs }) else n.Zh)=B r':=h;split at h
   .cases e:n.Zh with
    | none=>rw[e]at h;cases h
    | some r=>
     rw[e]at h;obtain rfl:=Option.some.inj h;exact⟨r,rfl,rfl⟩
   .exact⟨r',h,rfl⟩
 | none=>
  have e:step n=ZB n n.Zg:=by
   unfold step;rw[if_pos hu,hp];simp only;rw[if_pos]
   cases q:(ZB n n.Zg).n.Zs with
   | none=>exact absurd ⟨hp,q⟩ hf
   | some p=>rfl
  rw[e]at h;exact lK _ _ r' h
section
variable {S:Cm->Prop} {C:List Cm} {b:YA} {L T:Nat} {w:Nat->Wd} {g:Nat->Gh} {M:Nat->Nat->YA}
theorem Yl.Zgg(tr:Yl S C b L T w g M){E:Nd->Prop}(e1:∀n k,E n->E { n with Zg:=k })(hX:X<5)(e2:∀n l,PN C b L X n->E n->E (Zw n l).n)(e3:∀n,PN C b L X n->n.Zs=ab->E n->E (Yq n).n)(e4:∀n p,PN C b L X n->n.Zs=B p->E n->E (YM (ZQ n) p).n)(h:E ((w t).Zb X)):E ((w (t+1)).Zb X):=by
 have W:=(Qg (C:=C) (b:=b) (L:=L) (X:=X) hX tr.hC tr.hb).and (E:=E) e1 (fun n l h _ _ q=>e2 n l h q) e3 e4;have:=(Tm W ((tr.at t).nd X hX).up ⟨(tr.at t).nd X hX,h⟩ ((tr.at t).Wz X hX)).1.2;rw[tr.nx,QU _ X hX ((tr.at t).nd X hX).up];exact e1 _ _ this
theorem Yl.Wu(tr:Yl S C b L T w g M)(hX:X<5){j:Int}(h:Has ((w t).Zb X).Zi j):Has ((w (t+1)).Zb X).Zi j:=
 tr.Zgg (E:=fun n=>Has n.Zi j) (fun n k h=>h) hX (fun n l _ h=>Ir h l) (fun n hn hp h=>Is h hp hn) (fun n p _ _ h=>It h p) h
theorem Yl.AF(tr:Yl S C b L T w g M)(hX:X<5)(h:Sc x ((w t).Zb X)):Sc x ((w (t+1)).Zb X):=
 tr.Zgg (E:=Sc x) (fun n k h=>h) hX (fun n l _ h=>h.go (Tb n l)) (fun n hn hp h=>h.oS (Y3 hp hn.Yu).1) (fun n p _ _ h=>h.go (Tc n p)) h
theorem Yl.ZbJ(tr:Yl S C b L T w g M)(hX:X<5):∃e,((w (t+1)).Zb X).ZA=((w t).Zb X).ZA++e:=by
 rw[tr.nx,QU _ X hX ((tr.at t).nd X hX).up];exact (Nz ((w t).Zb X)).2.2
theorem Yl.RQ(tr:Yl S C b L T w g M)(h:RP x (w t)):RP x (w (t+1)):=by
 obtain⟨X,hX,h⟩:=h;obtain⟨e,he⟩:=tr.ZbJ (t:=t) hX;exact⟨X,hX,by rw[he];exact ae.2 (.inl h)⟩
theorem Yl.ZiR(tr:Yl S C b L T w g M)(h:ZiQ x L ((w t).Zb L)):ZiQ x L ((w (t+1)).Zb L):=by
 rcases (tr.Ws tr.hL (fi (x:=x) (G:=fun _=>False)) h).1 with q|⟨_,_,q⟩
 .exact q
 .exact q.elim
theorem Yl.ZwZ(tr:Yl S C b L T w g M)(h0:Un b L (w 0)){X0:Nat}(lL:X0<5)(hx:Sc x ((w 0).Zb X0)):∀t,t<=T->Ct w t 4->RP x (w t)\/ZiQ x L ((w t).Zb L):=by
 have ha:∀t,t<=T->Sc x ((w t).Zb X0):=fun t ht=>tr.stays (Z:=fun t=>Sc x ((w t).Zb X0)) (fun t _ h=>tr.AF lL h) hx t (a8 _) ht;refine tr.Wr (k:=3) (tr.Zgf h0) (fun t ht h=>?_) (fun t ht hc h=>?_)
 .rcases h with h|h
  .exact .inl (tr.RQ h)
  .exact .inr (tr.ZiR h)
 .by_cases e:X0=L
  .subst e;exact .inr (.inl (tr.AF lL (ha t pA)))
  .obtain⟨d,hd,hp,K,hl,k,hk⟩:=tr.free lL (hc X0 lL);rcases (ha t pA).go K.go with q|q
   .have:=lF hd e hp (by rw[K.Zq];exact h.1 X0 lL) tr.hb tr.hn q;exact .inr (tr.comes tr.hL ⟨_,hl _ this,rfl,rfl,rfl⟩ fun m h=>h.2.2)
   .refine .inl ⟨X0,lL,?_⟩;rw[hk];show x∈(Yq d).n.ZA;rw[(Y3 hp hd.Yu).1.ZA];exact q
theorem Yl.Zw0(tr:Yl S C b L T w g M)(h0:Un b L (w 0)){X0:Nat}(lL:X0<5)(hx:Sc x ((w 0).Zb X0)):∀t,t<=T->Ct w t 5->RP x (w t)\/Sc x ((w t).Zb L):=by
 refine tr.Wr (k:=4) (tr.ZwZ h0 lL hx) (fun t ht h=>?_) (fun t ht hc h=>?_)
 .rcases h with h|h
  .exact .inl (tr.RQ h)
  .exact .inr (tr.AF tr.hL h)
 .rcases h with h|h
  .exact .inl (tr.RQ h)
  .rcases (tr.Ws tr.hL (fi (x:=x) (G:=fun _=>False)) h).2 (hc L tr.hL) with q|⟨_,_,q⟩
   .exact .inr q
   .exact q.elim
theorem Yl.ZbK(tr:Yl S C b L T w g M)(ht:t<=T){s:Int}(h:MS (fun r=>Yh r.ZY s=B x) ((w t).Zb L)):(g t).P b s x:=by
 obtain⟨r,hr,hp⟩:=h;have R:=((tr.ti t ht).nd L tr.hL).Zh r hr;obtain⟨r0,h1,h2⟩:=((tr.at t).nd L tr.hL).Z5 rfl;rw[hr]at h1;obtain rfl:=Option.some.inj h1;have:=R.safe s x hp;rw[h2]at this;exact this
theorem Yl.fw(tr:Yl S C b L T w g M)(ht:t<=T){s:Nat}(hs:s<40)(h:MS (fun r=>Yh r.ZY s=B x) ((w t).Zb L)):Yo (QK s b x):=by
 have hx:x.err=0:=by
  rcases (tr.ti t ht).gi.cmd _ _ _ (tr.ZbK ht h) with rfl|q
  .rfl
  .exact tr.hS x q
 exact⟨⟨by show (0:Int)<=(s:Int);omega,by show (s:Int)<=39;omega⟩,tr.hb,hx⟩
theorem Yl.ZbL(tr:Yl S C b L T w g M)(ht:t<=T){s:Int}{y:Cm}(h:MS (fun r=>Yh r.ZY s=B x) ((w t).Zb L))(hc:Jr (g t) s y):x=y:=by
 have hP:=tr.ZbK ht h;have G:=(tr.ti t ht).gi;obtain⟨Q,b',hQ,hv⟩:=hc;obtain⟨i,hi,_⟩:=hQ.meet hQ;have KT:=hQ.2.1 i hi;have Cq:=hv i hi;have LP:=G.Z5 _ _ _ _ Cq;have N:=(tr.ti t ht).nd i KT;have P:=(tr.at t).nd i KT;have hm:=N.m;rw[JL P.up]at hm;rw[hm]at LP;by_cases e:b'=b
 .subst e;exact G.one _ _ _ _ hP (G.vp _ _ _ _ Cq)
 .have ZT:ZM b' b:=by
   by_cases q:ZM b' b
   .exact q
   .have:¬ZM b b':=Jb LP P.Zq;exact absurd (Py q this) e
  exact V7 G hQ hv _ b x (al _) hP ZT
theorem Yl.oX(tr:Yl S C b L T w g M){u:Nat}{y:Cm}(hv:Yo (QK u b y))(hX:X<5)(h:CO b L u y X (w t)):CO b L u y X (w (t+1)):=by
 rcases h with h|h|h
 .exact .inl (tr.Wu tr.hL h)
 .rcases (tr.Ws hX (CK hv) h).1 with q|q
  .exact .inr (.inl q)
  .exact .inr (.inr (tr.comes tr.hL q fun m h=>h.2.2.2))
 .rcases (tr.Ws tr.hL (Ey (X:=X) (s:=(u:Int)) (x:=y) (G:=fun _=>False)) h).1 with q|⟨_,_,q⟩
  .exact .inr (.inr q)
  .exact q.elim
theorem Yl.ZbM(tr:Yl S C b L T w g M){u:Nat}{y:Cm}(h:ZiP b L u y X (w t)):ZiP b L u y X (w (t+1)):=by
 rcases (tr.Ws tr.hL (Ey (X:=X) (s:=(u:Int)) (x:=y) (G:=fun _=>False)) h).1 with q|⟨_,_,q⟩
 .exact q
 .exact q.elim
def oY(b:YA)(L:Nat)(w:Wd):Prop:=∀(u:Nat) y,u<40->MS (fun r=>Yh r.ZY u=B y) (w.Zb L)->∀X,X<5->CO b L u y X w
theorem Yl.Iw(tr:Yl S C b L T w g M)(ho:((w t).Zb L).Zq.p=b)(hm:∀X:Nat,X<5->X≠L->MS (fun r=>Has r.ZI X) ((w t).Zb L))(hf:Ta ((w t).Zb L)):oY b L (w (t+1)) /\
  ∃d r,PN C b L L d/\XK ((w t).Zb L) d/\((w (t+1)).Zb L).Zh=B (X9 d r)/\((w (t+1)).Zb L).Zi=d.Zi/\((w (t+1)).Zb L).ZA=d.ZA:=by
 obtain⟨d,hd,hp,K,hl,k,hk⟩:=tr.free tr.hL hf;obtain⟨r,hr,_⟩:=hd.Z5 rfl;have hdo:d.Zq.p=b:=by rw[K.Zq];exact ho
 have hq:5<2*r.ZI.length:=uK tr.hL fun X hX VT=>by
  obtain⟨r0,h1,h2⟩:=hm X hX VT;obtain⟨r1,h3,h4⟩:=K.on h1;rw[hr]at h3;obtain rfl:=Option.some.inj h3;exact h4.k.ZI _ h2
 obtain⟨h1,h2⟩:=ZbG hd hp hdo hr hq;have D:=(Y3 hp hd.Yu).1;have ek:((w (t+1)).Zb L).Zi=d.Zi:=by rw[hk];exact D.Zi
 have er:((w (t+1)).Zb L).Zh=B (X9 d r):=by rw[hk];exact h1
 have el:((w (t+1)).Zb L).ZA=d.ZA:=by rw[hk];exact D.ZA
 refine⟨fun u y hu ⟨r1,e1,e2⟩ X hX=>?_,d,r,hd,K,er,ek,el⟩;rw[er]at e1;obtain rfl:=Option.some.inj e1
 cases q:Yh d.Zi (u:Int) with
 | some z=>exact .inl (by rw[ek];unfold Has;rw[q];simp)
 | none=>
  by_cases v:oU r u X
  .exact .inr (.inr (.inl ⟨_,er,by show oU (X9 d r) u X;unfold oU;rw[(NC d r).1];exact v⟩))
  .have:=h2 u y X hu e2 q hX v;have hb:(⟨2,L,X,Jq,QK u b y,[]⟩:YH)∈((w (t+1)).Zb X).Zg:=by
    rw[tr.nx];exact (NB hX ((tr.at t).nd X hX).up).2 (.inr ⟨hl _ this,IQ⟩)
   exact .inr (.inl (.inr (.inr ⟨_,hb,rfl,rfl,rfl⟩)))
theorem Yl.ZbN(tr:Yl S C b L T w g M)(ht:t<=T)(ho:((w t).Zb L).Zq.p=b)(hm:∀X:Nat,X<5->X≠L->MS (fun r=>Has r.ZI X) ((w t).Zb L))(h:oY b L (w t)):oY b L (w (t+1)):=by
 by_cases hf:Ta ((w t).Zb L)
 .exact (tr.Iw ho hm hf).1
 .intro u y hu ⟨r',e1,e2⟩ X hX;have hp:=(tr.at t).nd L tr.hL;rw[tr.nx,QU _ L tr.hL hp.up]at e1;obtain⟨r,h1,h2⟩:=CQ hp.up hf (show (step ((w t).Zb L)).n.Zh=B r' from e1);have Ha:MS (fun r=>Yh r.ZY (u:Int)=B y) ((w t).Zb L):=⟨r,h1,by show Yh r.ZY (u:Int)=B y;rw[<-h2];exact e2⟩
  exact tr.oX (tr.fw ht hu Ha) hX (h u y hu Ha X hX)
theorem Yl.ZbO(tr:Yl S C b L T w g M)(h0:Un b L (w 0)):∀t,t<=T->Ct w t 5->((∀X,X<5->((w t).Zb X).Zq.p=b)/\∀X:Nat,X<5->X≠L->MS (fun r=>Has r.ZI X) ((w t).Zb L))/\oY b L (w t):=by
 have up:∀t,t<T->((∀X,X<5->((w t).Zb X).Zq.p=b)/\∀X:Nat,X<5->X≠L->MS (fun r=>Has r.ZI X) ((w t).Zb L))->((∀X,X<5->((w (t+1)).Zb X).Zq.p=b)/\∀X:Nat,X<5->X≠L->MS (fun r=>Has r.ZI X) ((w (t+1)).Zb L)):=fun t ht h=>⟨fun X hX=>tr.OX hX (h.1 X hX) ht,fun X hX VT=>tr.Iv (fun r r' k q=>k.ZI _ q) (h.2 X hX VT)⟩
 refine tr.Wr (k:=4) (tr.ZnU h0) (fun t ht h=>⟨up t ht h.1,tr.ZbN pA (h.1.1 L tr.hL) h.1.2 h.2⟩) (fun t ht hc h=>⟨up t ht h,(tr.Iw (h.1 L tr.hL) h.2 (hc L tr.hL)).1⟩)
def ZiS(L:Nat)(x:Cm)(g:Gh)(w:Wd):Prop:=RP x w\/(∃s:Nat,s<40/\(∀u,u<=s->uL L u w)/\(MS (fun r=>Yh r.ZY s=B x) (w.Zb L)\/Jr g s x))\/∀u,u<40->uL L u w
theorem Yl.ZbP(tr:Yl S C b L T w g M){u:Nat}(h:uL L u (w t)):uL L u (w (t+1)):=by
 rcases h with h|h
 .refine .inl (tr.Iv (fun r r' k q=>?_) h);unfold Has at q ⊢
  cases e:Yh r.ZY (u:Int) with
  | none=>exact absurd e q
  | some x=>rw[k.ZY _ _ e];simp
 .exact .inr (tr.Wu tr.hL h)
theorem Yl.CR(tr:Yl S C b L T w g M)(ht:t<T){s:Int}(h:Jr (g t) s x):Jr (g (t+1)) s x:=by
 obtain⟨Q,b',hQ,hv⟩:=h;exact⟨Q,b',hQ,fun i hi=>tr.mv t ht _ _ _ _ (hv i hi)⟩
theorem Yl.ZiT(tr:Yl S C b L T w g M)(ht:t<T)(h:ZiS L x (g t) (w t)):ZiS L x (g (t+1)) (w (t+1)):=by
 rcases h with h|⟨s,h1,h2,h3⟩|h
 .exact .inl (tr.RQ h)
 .refine .inr (.inl ⟨s,h1,fun u hu=>tr.ZbP (h2 u hu),?_⟩);rcases h3 with h3|h3
  .exact .inl (tr.Iv (fun r r' k q=>k.ZY _ _ q) h3)
  .exact .inr (tr.CR ht h3)
 .exact .inr (.inr fun u hu=>tr.ZbP (h u hu))
theorem Yl.Zw1(tr:Yl S C b L T w g M)(h0:Un b L (w 0)){X0:Nat}(lL:X0<5)(hx:Sc x ((w 0).Zb X0)):∀t,t<=T->Ct w t 6->ZiS L x (g t) (w t):=by
 refine tr.Wr (Z:=fun t=>(RP x (w t)\/Sc x ((w t).Zb L))/\((∀X,X<5->((w t).Zb X).Zq.p=b)/\∀X:Nat,X<5->X≠L->MS (fun r=>Has r.ZI X) ((w t).Zb L))) (k:=5) (fun t ht hc=>⟨tr.Zw0 h0 lL hx t ht hc,(tr.ZbO h0 t ht hc).1⟩) (fun t ht h=>tr.ZiT ht h) (fun t ht hc ⟨h,h1,h2⟩=>?_);rcases h with h|h
 .exact .inl (tr.RQ h)
 .obtain⟨_,d,r,hd,K,er,ek,el⟩:=tr.Iw (h1 L tr.hL) h2 (hc L tr.hL);rcases h.go K.go with q|q
  .have oc:∀u,lG d (X9 d r) u->uL L u (w (t+1)):=fun u q=>by
    rcases q with q|q
    .exact .inl ⟨_,er,q⟩
    .exact .inr (by rw[ek];exact q)
   rcases uI hd r q with⟨s,p1,p2,p3⟩|p
   .refine .inr (.inl ⟨s,p1,fun u hu=>oc u (p2 u hu),?_⟩);rcases p3 with p3|p3
    .exact .inl ⟨_,er,p3⟩
    .exact .inr (((tr.ti (t+1) pA).nd L tr.hL).Zi _ _ (by rw[ek];exact p3))
   .exact .inr (.inr fun u hu=>oc u (p u hu))
  .exact .inl ⟨L,tr.hL,by rw[el];exact q⟩
theorem Yl.ZnV(tr:Yl S C b L T w g M){u:Nat}{y:Cm}(hv:Yo (QK u b y))(h:∀X,X<5->CO b L u y X (w 0)):∀t,t<=T->Ct w t 2->Has ((w t).Zb L).Zi u:=by
 have z0:∀t,t<=T->Ct w t 0->∀X,X<5->CO b L u y X (w t):=fun t ht _ X hX=>tr.stays (Z:=fun t=>CO b L u y X (w t)) (fun t _ h=>tr.oX hv hX h) (h X hX) t (a8 _) ht;have z1:∀t,t<=T->Ct w t 1->Has ((w t).Zb L).Zi u\/∀X,X<5->ZiP b L u y X (w t):=by
  refine tr.Wr (k:=0) z0 (fun t ht h=>?_) (fun t ht hc h=>?_)
  .rcases h with h|h
   .exact .inl (tr.Wu tr.hL h)
   .exact .inr fun X hX=>tr.ZbM (h X hX)
  .by_cases q:Has ((w t).Zb L).Zi u
   .exact .inl (tr.Wu tr.hL q)
   .refine .inr fun X hX=>?_;rcases h X hX with e|e|e
    .exact absurd e q
    .rcases (tr.Ws hX (CK hv) e).2 (hc X hX) with e|e
     .exact absurd e (tr.nf (t+1) pA X hX)
     .exact tr.comes tr.hL e fun m h=>h.2.2.2
    .exact tr.ZbM e
 refine tr.Wr (k:=1) z1 (fun t ht h=>tr.Wu tr.hL h) (fun t ht hc h=>?_);rcases h with h|h
 .exact tr.Wu tr.hL h
 .have hV:∀X:Nat,X<5->MS (fun r=>oU r u X) ((w (t+1)).Zb L):=fun X hX=>by
   rcases (tr.Ws tr.hL (Ey (X:=X) (s:=(u:Int)) (x:=y) (G:=fun _=>False)) (h X hX)).2 (hc L tr.hL) with q|⟨_,_,q⟩
   .exact q
   .exact q.elim
  have hP:=(tr.at (t+1)).nd L tr.hL;obtain⟨r,hr,_⟩:=hP.Z5 rfl;refine hP.vk r hr u (uJ fun X hX _=>?_);obtain⟨r0,h1,h2⟩:=hV X hX;rw[hr]at h1;obtain rfl:=Option.some.inj h1;exact h2
theorem PN.AG(h:PN C b L X n){s:Nat}(hk:∀u,u<=s->Has n.Zi (u:Int)):s<n.ZA.length:=by
 by_cases q:n.ZA.length<=s
 .exact absurd h.oV (hk _ q)
 .omega
theorem Yl.done(tr:Yl S C b L T w g M)(h0:Un b L (w 0)){X0:Nat}(lL:X0<5)(hx:Sc x ((w 0).Zb X0)):∀t,t<=T->Ct w t 8->RP x (w t)\/40<=((w t).Zb L).ZA.length:=by
 intro t ht hc;obtain⟨a,ha,WB,EJ⟩:=Ct.split (w:=w) t 6 2 hc;have P:=tr.Zw1 h0 lL hx a pA WB;have V:=(tr.ZbO h0 a pA WB.less).2;have tr2:=tr.sh (a:=a) pA;have ZbQ:∀{Z:Nat->Prop},(∀t,t<T->Z t->Z (t+1))->Z a->Z t:=fun st h=>tr.stays st h t ha ht;have occ:∀u,u<40->uL L u (w a)->Has ((w t).Zb L).Zi u:=fun u hu h=>by
  rcases h with⟨r,h1,h2⟩|h
  .unfold Has at h2
   cases e:Yh r.ZY (u:Int) with
   | none=>exact absurd e h2
   | some y=>
    have Ha:MS (fun r=>Yh r.ZY (u:Int)=B y) ((w a).Zb L):=⟨r,h1,e⟩
    have:=tr2.ZnV (u:=u) (y:=y) (tr.fw pA hu Ha) (fun X hX=>V u y hu Ha X hX) (t-a) pA EJ;have e2:Go.Proofs.YthlfaofofaphfaaGreatDoor.sh w a (t-a)=w t:=by show w (a+(t-a))=w t;rw[show a+(t-a)=t by omega]
    rw[e2]at this;exact this
  .exact ZbQ (Z:=fun t=>Has ((w t).Zb L).Zi u) (fun t _ h=>tr.Wu tr.hL h) h
 rcases P with h|⟨s,h1,h2,h3⟩|h
 .exact .inl (ZbQ (Z:=fun t=>RP x (w t)) (fun t _ h=>tr.RQ h) h)
 .have hl:=((tr.at t).nd L tr.hL).AG (s:=s) fun u hu=>occ u pA (h2 u hu);refine .inl ⟨L,tr.hL,?_⟩;have hy:((w t).Zb L).ZA[s]? = B ((w t).Zb L).ZA[s]:=be hl;have hch:=((tr.ti t ht).nd L tr.hL).ZA s _ hy;have:x=((w t).Zb L).ZA[s]:=by
   rcases h3 with h3|h3
   .exact tr.ZbL ht (ZbQ (Z:=fun t=>MS (fun r=>Yh r.ZY (s:Int)=B x) ((w t).Zb L)) (fun t _ h=>tr.Iv (fun r r' k q=>k.ZY _ _ q) h) h3) hch
   .exact Jr.one (tr.ti t ht).gi (ZbQ (Z:=fun t=>Jr (g t) s x) (fun t ht h=>tr.CR ht h) h3) hch
  rw[this];exact bg hl
 .refine .inr ?_;have:=((tr.at t).nd L tr.hL).AG (s:=39) fun u hu=>occ u pA (h u pA);omega
end
def CP(b:YA)(Pb:Int->Cm->Prop)(n:Nd):Kv->Prop
 | .VN a _ _ vs=>a=⟨b,n.Zq.l⟩/\n.Zq.p≠b/\vs=n.Zq.l
 | .Zq a vs _=>a=⟨b,n.Zq.l⟩/\n.Zq.p≠b/\vs=n.Zq.l
 | .TX a _ v=>a=⟨b,JH n.Zq.l v⟩/\v.b=b/\Pb v.Zu v.cm/\∀u∈n.Zq.l,u.Zu=v.Zu->u.b≠b
def Lo(b:YA)(e:Int)(l:List Vt):Prop:=∀v∈l,v.b=b\/v.Zu<e
structure CN(b:YA)(Pb:Int->Cm->Prop)(e:Int)(L X:Nat)(n:Nd):Prop where
 S9:X≠L->n.Zh=ab
 Xb:∀v∈n.Zq.l,v.b=b->Pb v.Zu v.cm
 pnd:∀p,n.Zs=B p->CP b Pb n p
 Ku:Lo b e n.Zq.l
 prm:∀r,n.Zh=B r->∀j vs,Yh r.ZI j=B vs->Lo b e vs
structure CJ(b:YA)(e:Int)(l:YH):Prop where
 VN:l.Z3=0->l.b=b
 ask:l.Z3=2->l.v.b=b
 vs:l.Z3=1->Lo b e l.vs
def ZnW(Pb:Int->Cm->Prop):Prop:=∀s x y,Pb s x->Pb s y->x=y
theorem ZiU{u v:Vt}(h1:u.Zu=v.Zu)(h2:u.b=v.b)(h3:u.cm=v.cm):u=v:=by
 obtain⟨s,b,k,c,q,n,x⟩:=u;obtain⟨s',b',k',c',q',n',x'⟩:=v;unfold Vt.cm at h3;simp only[JZ.mk.injEq]at h3;simp only at h1 h2;obtain⟨rfl,rfl,rfl,rfl,rfl⟩:=h3;rw[h1,h2]
section
variable {C:List Cm} {b:YA} {Pb:Int->Cm->Prop} {e:Int} {L X:Nat}
theorem uM(n:Nd)(l:YH):∀m∈(Zw n l).ls,m.Z3=1->m.vs=n.Zq.l:=fun m hm hk=>by
 have no:∀(k:Int) (f t:Int) (b:YA) (v:Vt) (vs:List Vt),k≠1->m∈[(⟨k,f,t,b,v,vs⟩:YH)]->False:=fun k f t b v vs h1 hm=>by
  rw[U.1 hm]at hk;exact h1 hk
 unfold Zw at hm;split at hm
 .unfold YG at hm;split at hm
  .exact (no _ _ _ _ _ _ aaa hm).elim
  .split at hm
   .rw[U.1 hm]
   .split at hm<;>cases hm
 split at hm
 .rw[(OW n l).2]at hm;cases hm
 split at hm
 .unfold asked at hm;split at hm
  .exact (no _ _ _ _ _ _ aaa hm).elim
  .split at hm
   .exact (no _ _ _ _ _ _ aaa hm).elim
   .split at hm<;>cases hm
 split at hm
 .cases hm
 split at hm
 .unfold Qy at hm;split at hm
  .exact (no _ _ _ _ _ _ aaa hm).elim
  .cases hm
 split at hm
 .rw[(Ul n l.v.Zu l.v.cm).2.2]at hm;cases hm
 .cases hm
theorem Ze1:∀m∈(Yq n).ls,m.Z3≠1:=fun m hm=>by
 have WJ:∀n:Nd,∀m∈UV n,m.Z3≠1:=fun n m hm=>by
  unfold UV at hm;split at hm
  .rw[U.1 hm];exact (by decide:(5:Int)≠1)
  .cases hm
 have one:∀n:Nd,∀m∈(Z9 n).ls,m.Z3≠1:=fun n m hm=>by
  unfold Z9 at hm;split at hm
  .unfold JU at hm;split at hm
   .split at hm<;>cases hm
   .split at hm
    .unfold Pq at hm;obtain⟨k,_,hk⟩:=aw.1 hm;split at hk
     .rw[U.1 hk];exact (by decide:(0:Int)≠1)
     .cases hk
    .have hm:m∈TH n _:=hm;unfold TH at hm;obtain⟨s,_,hs⟩:=aw.1 hm;unfold VG at hs;split at hs
     .split at hs
      .obtain⟨k,_,hk⟩:=aw.1 hs;unfold PU at hk;split at hk
       .rw[U.1 hk];exact (by decide:(2:Int)≠1)
       .cases hk
      .cases hs
     .cases hs
  .split at hm
   .unfold WD at hm;obtain⟨x,_,rfl⟩:=a5.1 hm;exact (by decide:(4:Int)≠1)
   .cases hm
 unfold Yq at hm;split at hm
 .exact one _ m hm
 .rcases ae.1 hm with hm|hm
  .exact one _ m hm
  .exact WJ _ m hm
theorem oZ(hX:X<5)(hC:(aa C)<=100000)(hb:ZF b)(h1:ZnW Pb):Laws (fun n=>PN C b L X n/\CN b Pb e L X n) (fun l=>PJ C b l/\CJ b e l/\(l.Z3=2->Pb l.v.Zu l.v.cm)) (fun l=>PJ C b l/\CJ b e l):=by
 have W:=Qg (C:=C) (b:=b) (L:=L) (X:=X) hX hC hb;refine⟨fun n k h=>⟨W.box n k h.1,⟨h.2.S9,h.2.Xb,fun p hp=>by
  have:=h.2.pnd p hp
  cases p<;>exact this,h.2.Ku,h.2.prm⟩⟩,fun n l h hp hl=>?_,fun n h hp=>?_,fun n p h hp=>?_⟩
 .obtain⟨a1,a2⟩:=W.oR n l h.1 hp hl.1;obtain⟨hk,hc⟩:=X1 n l;have ZbS:∀r',(Zw n l).n.Zh=B r'->∀j vs,Yh r'.ZI j=B vs->Lo b e vs:=fun r' Wg j vs hv=>by
   rcases PA n l with q|⟨r,hr,⟨k1,_,q⟩|⟨_,_,q⟩⟩
   .rw[q]at Wg;exact h.2.prm r' Wg j vs hv
   .rw[q]at Wg;obtain rfl:=Option.some.inj Wg;have hv:Yh (ins r.ZI l.Jw l.vs) j=B vs:=hv;rw[Xk]at hv;split at hv
    .obtain rfl:=Option.some.inj hv;exact hl.2.1.vs k1
    .exact h.2.prm r hr j vs hv
   .rw[q]at Wg;obtain rfl:=Option.some.inj Wg;exact h.2.prm r hr j vs hv
  refine⟨⟨a1,?_⟩,fun m hm=>⟨a2 m hm,fun e=>absurd e (hk m hm).1,fun e=>absurd e (hk m hm).2,fun q=>by rw[uM n l m hm q];exact h.2.Ku⟩⟩;rcases hc with k|⟨c1,c2,c3,c4,q⟩|⟨c1,c2,c3,c4,q⟩
  .refine⟨fun VT=>?_,by rw[k.Zq];exact h.2.Xb,fun p q=>(by rw[k.Zs,hp]at q;cases q),by rw[k.Zq];exact h.2.Ku,ZbS⟩;have:=k.S9;rw[h.2.S9 VT]at this
   cases q:(Zw n l).n.Zh with
   | none=>rfl
   | some r=>rw[q]at this;exact this.elim
  .have eb:=hl.2.1.VN c1;rw[q]at ZbS ⊢;refine⟨h.2.S9,h.2.Xb,fun p q=>?_,h.2.Ku,ZbS⟩;obtain rfl:=Option.some.inj q;exact⟨by rw[eb];rfl,by rw[<-eb];exact c3,rfl⟩
  .have eb:=hl.2.1.ask c1;have hP:=hl.2.2 c1;rw[q]at ZbS ⊢;refine⟨h.2.S9,h.2.Xb,fun p q=>?_,h.2.Ku,ZbS⟩;obtain rfl:=Option.some.inj q;refine⟨by rw[eb];rfl,eb,hP,fun u hu hs hub=>c3 ?_⟩;have:=h.2.Xb u hu hub;rw[hs]at this;rw[<-ZiU hs (by rw[hub,eb]) (h1 _ _ _ this hP)];exact hu
 .obtain⟨a1,a2⟩:=W.oS n h.1 hp;obtain⟨D,hA⟩:=Y3 hp h.1.Yu;have HU:∀r,n.Zh=B r->r.b=b:=fun r hr=>by
   by_cases e:X=L
   .obtain⟨r',h2,h3⟩:=h.1.Z5 e;rw[hr]at h2;obtain rfl:=Option.some.inj h2;exact h3
   .rw[h.2.S9 e]at hr;cases hr
  refine⟨⟨a1,⟨fun VT=>?_,by rw[D.Zq];exact h.2.Xb,fun p q=>?_,by rw[D.Zq];exact h.2.Ku,fun r' Wg j vs hv=>?_⟩⟩,fun m hm=>⟨a2 m hm,fun e=>?_,fun e=>?_,fun q=>absurd q (Ze1 m hm)⟩⟩
  .rcases D.S9 with⟨_,e⟩|⟨_,_,_,e⟩|⟨r,_,hr,_⟩
   .exact e
   .exact e
   .rw[h.2.S9 VT]at hr;cases hr
  .rcases D.Zs with⟨e,_⟩|⟨r,hr,c1,_,_,e⟩
   .rw[e]at q;cases q
   .rw[e]at q;obtain rfl:=Option.some.inj q;have e0:=h.1.pr0 (h.1.may r hr) (Ki c1);show (if YI n.Zq.p n.Zq.l r.b=0 then (⟨r.b,n.Zq.l⟩:UP) else JN)=⟨b,(Yq n).n.Zq.l⟩/\(Yq n).n.Zq.p≠b/\(if YI n.Zq.p n.Zq.l r.b=0 then n.Zq.l else [])=(Yq n).n.Zq.l;rw[if_pos e0,if_pos e0,D.Zq,HU r hr];refine⟨rfl,?_,rfl⟩;rw[<-HU r hr];exact fq c1
  .rcases D.S9 with⟨_,e⟩|⟨_,_,_,e⟩|⟨r,r2,hr,_,e,_,_,_,k⟩
   .rw[e]at Wg;cases Wg
   .rw[e]at Wg;cases Wg
   .rw[e]at Wg;obtain rfl:=Option.some.inj Wg;rw[k]at hv;exact h.2.prm r hr j vs hv
  .obtain⟨r,hr,_,_,e2,_⟩:=hA m hm (.inl e);rw[e2 e];exact HU r hr
  .obtain⟨r,hr,_,_,_,e2,_⟩:=hA m hm (.inr e);rw[e2 e];exact HU r hr
 .obtain⟨a1,a2⟩:=W.fin n p h.1 hp;have hP:=h.2.pnd p hp;have nop:∀q,(YM (ZQ n) p).n.Zs=B q->False:=fun q hq=>by
   have:(YM (ZQ n) p).n.Zs=ab:=by cases p<;>rfl
   rw[this]at hq;cases hq
  refine⟨⟨a1,⟨fun VT=>?_,fun v hv hvb=>?_,fun q hq=>(nop q hq).elim,?_,fun r' Wg j vs hv=>?_⟩⟩,fun m hm=>⟨a2 m hm,fun e=>absurd e (Iu _ p m hm).1,fun e=>absurd e (Iu _ p m hm).2,fun q=>?_⟩⟩
  .have hr:=h.2.S9 VT
   cases p with
   | VN a to b' vs=>exact hr
   | TX a to v=>exact hr
   | Zq a vs cur=>
    show (if cur=true then n.Zh.map (fun r=>{ r with ZI:=ins r.ZI n.me vs }) else n.Zh)=ab;rw[hr];split<;>rfl
  .rw[NE h.1 hp]at hv
   cases p with
   | VN a to b' vs=>obtain⟨rfl,_⟩:=hP;exact h.2.Xb v hv hvb
   | Zq a vs cur=>obtain⟨rfl,_⟩:=hP;exact h.2.Xb v hv hvb
   | TX a to u=>
    obtain⟨rfl,_,q3,_⟩:=hP;have hv:v∈JH n.Zq.l u:=hv;unfold JH at hv;rcases ae.1 hv with hv|hv
    .exact h.2.Xb v (aN.1 hv).1 hvb
    .rcases a0.1 hv with rfl|hv
     .exact q3
     .exact h.2.Xb v (aN.1 hv).1 hvb
  .rw[NE h.1 hp]
   cases p with
   | VN a to b' vs=>obtain⟨rfl,_⟩:=hP;exact h.2.Ku
   | Zq a vs cur=>obtain⟨rfl,_⟩:=hP;exact h.2.Ku
   | TX a to u=>
    obtain⟨rfl,q2,_,_⟩:=hP;intro v hv;have hv:v∈JH n.Zq.l u:=hv;unfold JH at hv;rcases ae.1 hv with hv|hv
    .exact h.2.Ku v (aN.1 hv).1
    .rcases a0.1 hv with rfl|hv
     .exact .inl q2
     .exact h.2.Ku v (aN.1 hv).1
  .cases p with
   | VN a to b' ws=>exact h.2.prm r' Wg j vs hv
   | TX a to v=>exact h.2.prm r' Wg j vs hv
   | Zq a ws cur=>
    have Wg:(if cur=true then n.Zh.map (fun r=>{ r with ZI:=ins r.ZI n.me ws }) else n.Zh)=B r':=Wg;split at Wg
    .cases q:n.Zh with
     | none=>rw[q]at Wg;cases Wg
     | some r=>
      rw[q]at Wg;obtain rfl:=Option.some.inj Wg;have hv:Yh (ins r.ZI n.me ws) j=B vs:=hv;rw[Xk]at hv;split at hv
      .obtain rfl:=Option.some.inj hv;obtain⟨_,_,rfl⟩:=hP;exact h.2.Ku
      .exact h.2.prm r q j vs hv
    .exact h.2.prm r' Wg j vs hv
  .cases p with
   | VN a to b' vs=>
    obtain⟨_,_,rfl⟩:=hP;rw[U.1 hm];exact h.2.Ku
   | TX a to v=>rw[U.1 hm]at q;cases q
   | Zq a vs cur=>cases hm
def Wb(b:YA)(n:Nd):Nat:=2*((if n.Zq.p=b then 1 else 0)+(n.Zq.l.filter (fun v=>decide (v.b=b))).length)+(if n.Zs.isSome=true then 1 else 0)
theorem lP{l:List Vt}{v:Vt}(hv:v.b=b)(h:∀u∈l,u.Zu=v.Zu->u.b≠b):((JH l v).filter (fun v=>decide (v.b=b))).length=(l.filter (fun v=>decide (v.b=b))).length+1:=by
 have e:∀l:List Vt,(∀u∈l,u.Zu=v.Zu->u.b≠b)->((l.filter (fun x=>decide (x.Zu<v.Zu))).filter (fun v=>decide (v.b=b))).length+((l.filter (fun x=>decide (v.Zu<x.Zu))).filter (fun v=>decide (v.b=b))).length=(l.filter (fun v=>decide (v.b=b))).length:=by
  intro l
  induction l with
  | nil=>intro _;rfl
  | cons u l ih=>
   intro h;have q:=ih (fun x hx=>h x (by simp[hx]));have hu:=h u IQ;by_cases c1:u.b=b
   .rcases Int.lt_trichotomy u.Zu v.Zu with c2|c2|c2
    .have c3:¬v.Zu<u.Zu:=pA;simp only[a6,c1,c2,c3,decide_true,decide_false,if_true,if_false,a7,aD];omega
    .exact absurd c1 (hu c2)
    .have c3:¬u.Zu<v.Zu:=pA;simp only[a6,c1,c2,c3,decide_true,decide_false,if_true,if_false,a7,aD];omega
   .by_cases c2:u.Zu<v.Zu<;>by_cases c3:v.Zu<u.Zu <;>
     simp only[a6,c1,c2,c3,decide_true,decide_false,if_true,if_false,aD]<;>exact q
 have:=e l h;unfold JH;rw[List.filter_append,am,a6,if_pos (by simp[hv]),a7];omega
theorem ZiV(hp:n.Zs=ab)(l:YH):Wb b n<=Wb b (Zw n l).n/\((Zw n l).n.Zs≠ab->Wb b n+1<=Wb b (Zw n l).n):=by
 unfold Wb;rcases (X1 n l).2 with k|⟨_,_,_,_,e⟩|⟨_,_,_,_,e⟩
 .rw[k.Zq,k.Zs,hp];exact⟨al _,fun q=>absurd rfl q⟩
 .rw[e,hp];refine⟨?_,fun _=>?_⟩
  .show 2*((if n.Zq.p=b then 1 else 0)+(n.Zq.l.filter (fun v=>decide (v.b=b))).length)+0<=2*((if n.Zq.p=b then 1 else 0)+(n.Zq.l.filter (fun v=>decide (v.b=b))).length)+1;omega
  .show 2*((if n.Zq.p=b then 1 else 0)+(n.Zq.l.filter (fun v=>decide (v.b=b))).length)+0+1<=2*((if n.Zq.p=b then 1 else 0)+(n.Zq.l.filter (fun v=>decide (v.b=b))).length)+1;omega
 .rw[e,hp];refine⟨?_,fun _=>?_⟩
  .show 2*((if n.Zq.p=b then 1 else 0)+(n.Zq.l.filter (fun v=>decide (v.b=b))).length)+0<=2*((if n.Zq.p=b then 1 else 0)+(n.Zq.l.filter (fun v=>decide (v.b=b))).length)+1;omega
  .show 2*((if n.Zq.p=b then 1 else 0)+(n.Zq.l.filter (fun v=>decide (v.b=b))).length)+0+1<=2*((if n.Zq.p=b then 1 else 0)+(n.Zq.l.filter (fun v=>decide (v.b=b))).length)+1;omega
theorem ZbT:∀(k:List YH) (n:Nd),n.Zs=ab->Wb b n<=Wb b (ZB n k).n/\((ZB n k).n.Zs≠ab->Wb b n+1<=Wb b (ZB n k).n):=by
 intro k
 induction k with
 | nil=>intro n hp;unfold ZB;exact⟨al _,fun q=>absurd hp q⟩
 | cons l k ih=>
  intro n hp;have vI:({ n with Zg:=k }:Nd).Zs=ab:=hp;obtain⟨h1,h2⟩:=ZiV (b:=b) vI l;have e0:Wb b ({ n with Zg:=k }:Nd)=Wb b n:=rfl;rw[e0]at h1 h2;unfold ZB;rw[if_neg (by rw[hp];decide)];show Wb b n<=Wb b (ZB (Zw { n with Zg:=k } l).n k).n/\((ZB (Zw { n with Zg:=k } l).n k).n.Zs≠ab->Wb b n+1<=Wb b (ZB (Zw { n with Zg:=k } l).n k).n)
  by_cases hq:(Zw { n with Zg:=k } l).n.Zs=ab
  .obtain⟨h3,h4⟩:=ih _ hq;exact⟨pA,fun q=>by have:=h4 q;omega⟩
  .have hs:(Zw { n with Zg:=k } l).n.Zs.isSome=true:=by
    cases q:(Zw { n with Zg:=k } l).n.Zs with
    | none=>exact absurd q hq
    | some p=>rfl
   have e:Wb b (ZB (Zw { n with Zg:=k } l).n k).n=Wb b (Zw { n with Zg:=k } l).n:=by
    cases k with
    | nil=>unfold ZB;rfl
    | cons a k=>unfold ZB;rw[if_pos hs];rfl
   rw[e];have:=h2 hq;exact⟨pA,fun _=>by omega⟩
theorem Ze2(h:PN C b L X n)(c:CN b Pb e L X n)(hd:(ZB n n.Zg).n.Zs=ab->PN C b L X (ZB n n.Zg).n):Wb b n<=Wb b (step n).n/\(¬Ta n->Wb b n+1<=Wb b (step n).n):=by
 cases hp:n.Zs with
 | some p=>
  have e:step n=YM (ZQ n) p:=by unfold step;rw[if_pos h.up,hp]
  have hP:=c.pnd p hp;have eo:=NE h hp;have ep:(YM (ZQ n) p).n.Zs=ab:=by cases p<;>rfl
  have main:Wb b n+1<=Wb b (YM (ZQ n) p).n:=by
   unfold Wb;rw[eo,ep,hp]
   cases p with
   | VN a to b' vs=>
    obtain⟨rfl,q,_⟩:=hP;simp only[WV,if_neg q,if_true,ba,a4,aD,if_false];omega
   | Zq a vs cur=>
    obtain⟨rfl,q,_⟩:=hP;simp only[WV,if_neg q,if_true,ba,a4,aD,if_false];omega
   | TX a to v=>
    obtain⟨rfl,q1,_,q2⟩:=hP;simp only[WV,if_true,ba,a4,aD,if_false];rw[lP q1 q2];split<;>omega
  rw[e];exact⟨pA,fun _=>main⟩
 | none=>
  obtain⟨h1,h2⟩:=ZbT (b:=b) n.Zg n hp;by_cases hq:(ZB n n.Zg).n.Zs=ab
  .rw[WY h.up ⟨hp,hq⟩];refine⟨?_,fun q=>absurd ⟨hp,hq⟩ q⟩;have D:=(Y3 hq (hd hq).Yu).1;have:Wb b (ZB n n.Zg).n<=Wb b (Yq (ZB n n.Zg).n).n:=by
    unfold Wb;rw[D.Zq,hq];simp only[a4,aD,if_false];omega
   show Wb b n<=Wb b (Yq (ZB n n.Zg).n).n;omega
  .have e:step n=ZB n n.Zg:=by
    unfold step;rw[if_pos h.up,hp];simp only;rw[if_pos]
    cases q:(ZB n n.Zg).n.Zs with
    | none=>exact absurd q hq
    | some p=>rfl
   rw[e];exact⟨h1,fun _=>h2 hq⟩
end
structure Clean(S:Cm->Prop)(C:List Cm)(b:YA)(L T:Nat)(w:Nat->Wd)(g:Nat->Gh)(M:Nat->Nat->YA)(e:Nat)(Q:List Cm):Prop where
 tr:Yl S C b L T w g M
 c0:∀X,X<5->CN b (fun s x=>MS (fun r=>Yh r.ZY s=B x) ((w T).Zb L)) e L X ((w 0).Zb X)
 j0:∀X,X<5->∀l∈((w 0).Zb X).Zg,CJ b e l
 f0:∀l∈(w 0).Zp,CJ b e l
 ZA:e=((w 0).Zb L).ZA.length
 Zx:∀x∈((w 0).Zb L).Zx,x ∉ ((w 0).Zb L).ZA
 ZY:∀r,((w 0).Zb L).Zh=B r->∀s,Yh r.ZY s=ab
 Zw2:∀x,S x->x∈Q\/x∈((w 0).Zb L).ZA
def NQ(n:Nd):Prop:=∀x∈n.Zx,x ∉ n.ZA
theorem uN(h:NQ n)(x:Cm):NQ (J4 n x):=fun y hy hl=>by
 have hy:y∈n.Zx.filter (fun y=>decide (y≠x)):=hy;obtain⟨h1,h2⟩:=aN.1 hy;have hl:y∈n.ZA++[x]:=hl;rcases ae.1 hl with q|q
 .exact h y h1 q
 .simp only[decide_eq_true_eq]at h2;exact h2 (U.1 q)
theorem fy(h:NQ n)(s:Int)(x:Cm):NQ (Jl n s x).n:=by
 have:∀(k:Nat) (n:Nd),NQ n->NQ (Yg k n).1:=by
  intro k
  induction k with
  | zero=>intro n h;exact h
  | succ k ih=>
   intro n h;unfold Yg;split
   .exact h
   .exact ih _ (uN h _)
 exact this _ _ h
theorem uO(h:NQ n)(l:YH):NQ (Zw n l).n:=by
 have hn:NQ (Xz n l):=by unfold Xz;split<;>exact h
 unfold Zw;split
 .unfold YG
  repeat' split
  all_goals exact h
 split
 .unfold Ym;split
  .exact h
  .split
   .split<;>exact h
   .split
    .exact h
    .rename_i r _ _ _;split
     .have:NQ (TG n r l):=h;exact fy this _ _
     .exact h
 split
 .unfold asked
  repeat' split
  all_goals exact h
 split
 .unfold add;split
  .exact h
  .rename_i q;intro y hy hl;have hy:y∈n.Zx++[l.v.cm]:=hy;rcases ae.1 hy with p|p
   .exact h y p hl
   .rw[U.1 p]at hl;exact q (.inr hl)
 split
 .unfold Qy;split<;>exact hn
 split
 .exact fy h _ _
 .exact hn
theorem fB:∀(k:List YH) (n:Nd),NQ n->NQ (ZB n k).n:=by
 intro k
 induction k with
 | nil=>intro n h;unfold ZB;exact h
 | cons l k ih=>
  intro n h;unfold ZB;split
  .exact h
  .exact ih _ (uO (n:={ n with Zg:=k }) h l)
theorem uP:∀(k s t:Nat),Qo n r x k s=B t->∀u:Nat,s<=u->u<t->Yh r.ZY u≠B x:=by
 intro k
 induction k with
 | zero=>intro s t h;cases h
 | succ k ih=>
  intro s t h u h1 h2;unfold Qo at h;by_cases q1:Yh r.ZY (s:Int)=B x\/Yh n.Zi (s:Int)=B x
  .rw[if_pos q1]at h;cases h
  .rw[if_neg q1]at h;by_cases q2:Yh r.ZY (s:Int)=ab/\Yh n.Zi (s:Int)=ab
   .rw[if_pos q2]at h;obtain rfl:=Option.some.inj h;omega
   .rw[if_neg q2]at h;by_cases e:u=s
    .rw[e];exact fun q=>q1 (.inl q)
    .exact ih _ _ h u pA h2
structure JI(e:Nat)(Q:List Cm)(r:XE):Prop where
 of:∀s x,Yh r.ZY s=B x->∃u:Nat,s=u/\e<=u/\x∈Q
 inj:∀s s' x,Yh r.ZY s=B x->Yh r.ZY s'=B x->s=s'
 oV:∀s u:Nat,Has r.ZY s->e<=u->u<s->Has r.ZY u
theorem JI.few{e:Nat}{Q:List Cm}(h:JI e Q r){s:Nat}(hs:Has r.ZY s):s<e+(aa Q):=by
 obtain⟨v,hv⟩:∃v:Nat->Cm,∀i,v i=(Yh r.ZY ((e+i:Nat):Int)).getD Oa:=⟨_,fun _=>rfl⟩
 have hat:∀i,e+i<=s->Yh r.ZY ((e+i:Nat):Int)=B (v i):=fun i hi=>by
  have:Has r.ZY ((e+i:Nat):Int):=by
   by_cases q:e+i=s
   .rw[q];exact hs
   .exact h.oV s (e+i) hs pA pA
  unfold Has at this;rw[hv]
  cases q:Yh r.ZY ((e+i:Nat):Int) with
  | none=>exact absurd q this
  | some x=>rfl
 have:=OT (l:=(List.range (s+1-e)).map v) (C:=Q) ?_ (fun x hx=>?_)
 .rw[a9,List.length_range]at this;by_cases q:s+1<=e
  .omega
  .omega
 .rw[bc,List.pairwise_map];refine List.Pairwise.imp_of_mem ?_ (bc.1 List.nodup_range);intro i j hi hj Y7 hvv;have hi:=aO.1 hi;have hj:=aO.1 hj;have h1:=hat i pA;have h2:=hat j pA;rw[<-hvv]at h2;have:=h.inj _ _ _ h1 h2;omega
 .obtain⟨i,hi,rfl⟩:=a5.1 hx;have hi:=aO.1 hi;obtain⟨_,_,_,q⟩:=h.of _ _ (hat i pA);exact q
theorem ZbU{e:Nat}{Q:List Cm}(h:JI e Q r)(he:e<=n.ZA.length)(ha:∀u:Nat,e<=u->Has n.Zi u->Has r.ZY u)(h0:∀t:Nat,t<n.ZA.length->Has n.Zi t)(hx:x∈Q)(hc:∀u:Nat,u<n.ZA.length->Yh r.ZY u≠B x):
  JI e Q (Qc n r x)/\(∀u:Nat,u<n.ZA.length->Yh (Qc n r x).ZY u=Yh r.ZY u):=by
 unfold Qc
 cases hf:free n r x with
 | none=>exact⟨h,fun _ _=>rfl⟩
 | some s=>
  simp only;obtain⟨q1,q2,q3,q4⟩:=Ny _ _ _ hf;have occ:=HC _ _ _ (fun u hu=>.inr (h0 u hu)) hf;have Y7:=uP _ _ _ hf;have nw:∀s':Int,Yh r.ZY s'=B x->False:=fun s' Od=>by
   obtain⟨u,rfl,hu,_⟩:=h.of s' x Od;by_cases c1:u<n.ZA.length
   .exact hc u c1 Od
   .by_cases c2:u<s
    .exact Y7 u pA c2 Od
    .by_cases c3:u=s
     .rw[c3,q3]at Od;cases Od
     .have:=h.oV u s (by unfold Has;rw[Od];simp) pA pA;exact this q3
  refine⟨⟨fun t y ht=>?_,fun t t' y ht vw=>?_,fun t u ht hu ZT=>?_⟩,fun u hu=>?_⟩
  .have ht:Yh (ins r.ZY (s:Int) x) t=B y:=ht;rw[Xk]at ht;split at ht
   .rename_i c;obtain rfl:=Option.some.inj ht;exact⟨s,c.symm,pA,hx⟩
   .exact h.of t y ht
  .have ht:Yh (ins r.ZY (s:Int) x) t=B y:=ht;have vw:Yh (ins r.ZY (s:Int) x) t'=B y:=vw;rw[Xk]at ht vw;split at ht
   .rename_i c;obtain rfl:=Option.some.inj ht;split at vw
    .rename_i c';rw[<-c,<-c']
    .exact (nw t' vw).elim
   .split at vw
    .obtain rfl:=Option.some.inj vw;exact (nw t ht).elim
    .exact h.inj t t' y ht vw
  .show Has (ins r.ZY (s:Int) x) u;by_cases c:t=s
   .subst c;rcases occ u ZT with q|q
    .exact Has.ins q _ _
    .exact Has.ins (ha u hu q) _ _
   .have ht:Has (ins r.ZY (s:Int) x) t:=ht;rcases AE ht with q|q
    .omega
    .exact Has.ins (h.oV t u q hu ZT) _ _
  .show Yh (ins r.ZY (s:Int) x) u=Yh r.ZY u;rw[Xk,if_neg pA]
theorem Ez{e:Nat}{Q:List Cm}(he:e<=n.ZA.length)(h0:∀t:Nat,t<n.ZA.length->Has n.Zi t):∀(l:List Cm) (r:XE),JI e Q r->(∀u:Nat,e<=u->Has n.Zi u->Has r.ZY u)->(∀x∈l,x∈Q/\∀u:Nat,u<n.ZA.length->Yh r.ZY u≠B x)->JI e Q (Jj n r l):=by
 intro l
 induction l with
 | nil=>intro r h _ _;exact h
 | cons x l ih=>
  intro r h ha hc;obtain⟨h1,h2⟩:=ZbU h he ha h0 (hc x IQ).1 (hc x IQ).2;refine ih (Qc n r x) h1 (fun u hu hk=>?_) (fun y hy=>⟨(hc y (by simp[hy])).1,fun u hu=>by rw[h2 u hu];exact (hc y (by simp[hy])).2 u hu⟩);have:=ha u hu hk;unfold Has at this ⊢
  cases q:Yh r.ZY (u:Int) with
  | none=>exact absurd q this
  | some z=>rw[(Hx n r x).ZY _ _ q];simp
theorem Du{S:Cm->Prop}{g:Gh}{M:Nat->YA}(G:GI S g M){b:YA}(hM:∀i,i<5->¬ZM b (M i)){s:Int}{y:Cm}(hP:g.P b s x)(hc:Jr g s y):x=y:=by
 obtain⟨Q,b',hQ,hv⟩:=hc;obtain⟨i,hi,_⟩:=hQ.meet hQ;have KT:=hQ.2.1 i hi;have Cq:=hv i hi;have LP:=G.Z5 _ _ _ _ Cq;by_cases e:b'=b
 .subst e;exact G.one _ _ _ _ hP (G.vp _ _ _ _ Cq)
 .have ZT:ZM b' b:=by
   by_cases q:ZM b' b
   .exact q
   .have:¬ZM b b':=Jb LP (hM i KT);exact absurd (Py q this) e
  exact V7 G hQ hv _ b x (al _) hP ZT
theorem lQ{C:List Cm}{b:YA}{L:Nat}(h:PN C b L L n)(hp:n.Zs=ab)(hr:n.Zh=B r):(Yq n).n.Zh=B r\/((Yq n).n.Zh=B (X9 n r)/\5<2*r.ZI.length):=by
 obtain⟨_,e⟩:=RN h hp hr;rw[RO.1,e];unfold JU;split
 .split
  .exact .inl hr
  .exact .inl hr
 .split
  .exact .inl hr
  .rename_i q;exact .inr ⟨rfl,pA⟩
theorem lT{e:Nat}(he:e<=n.ZA.length)(hv:∀v∈(Yp r).flatten,v.Zu<e):(Wn n r).ZY=r.ZY:=by
 have ht:Pm (Yp r).flatten<e\/Pm (Yp r).flatten = -1:=by
  unfold Pm;rcases (MN (Yp r).flatten (-1)).2.2 with q|⟨v,h1,q⟩
  .exact .inr q
  .rw[q];exact .inl (hv v h1)
 have h0:(Pm (Yp r).flatten+1).toNat-n.ZA.length=0:=pA;unfold Wn;rw[h0];rfl
section
variable {S:Cm->Prop} {C:List Cm} {b:YA} {L T:Nat} {w:Nat->Wd} {g:Nat->Gh} {M:Nat->Nat->YA} {e:Nat} {Q:List Cm}
def PbT(L T:Nat)(w:Nat->Wd)(s:Int)(x:Cm):Prop:=MS (fun r=>Yh r.ZY s=B x) ((w T).Zb L)
theorem PbT.one:ZnW (PbT L T w):=fun s x y ⟨r,h1,h2⟩ ⟨r',h3,h4⟩=>by
 rw[h1]at h3;obtain rfl:=Option.some.inj h3;rw[h2]at h4;exact Option.some.inj h4
theorem Yl.ZiW(tr:Yl S C b L T w g M)(ht:t<=T){s:Int}(h:(g t).P b s x):MS (fun r=>Yh r.ZY s=B x) ((w t).Zb L):=by
 obtain⟨r,h1,h2⟩:=((tr.at t).nd L tr.hL).Z5 rfl;have R:=((tr.ti t ht).nd L tr.hL).Zh r h1;exact⟨r,h1,R.pr s x (by rw[h2];exact h)⟩
theorem Yl.Zgi(tr:Yl S C b L T w g M)(ht:t<=T){s:Int}(h:(g t).P b s x):PbT L T w s x:=
 tr.stays (Z:=fun t=>MS (fun r=>Yh r.ZY s=B x) ((w t).Zb L)) (fun t _ h=>tr.Iv (fun r r' k q=>k.ZY _ _ q) h) (tr.ZiW ht h) T ht (al _)
theorem Clean.at(c:Clean S C b L T w g M e Q):∀t,t<=T->(∀X,X<5->CN b (PbT L T w) e L X ((w t).Zb X))/\(∀X,X<5->∀l∈((w t).Zb X).Zg,CJ b e l)/\∀l∈(w t).Zp,CJ b e l:=by
 intro t
 induction t with
 | zero=>intro _;exact⟨c.c0,c.j0,c.f0⟩
 | succ t ih=>
  intro ht;obtain⟨h1,h2,h3⟩:=ih pA;have TT:=c.tr.ti t pA;have ag:∀X,X<5->CN b (PbT L T w) e L X (step ((w t).Zb X)).n/\(∀m∈(step ((w t).Zb X)).ls,CJ b e m)/\∀l∈(step ((w t).Zb X)).n.Zg,l∈((w t).Zb X).Zg:=fun X hX=>by
   have q:=Tm (oZ (C:=C) (b:=b) (Pb:=PbT L T w) (e:=e) (L:=L) hX c.tr.hC c.tr.hb PbT.one) ((c.tr.at t).nd X hX).up ⟨(c.tr.at t).nd X hX,h1 X hX⟩ (fun l hl=>⟨(c.tr.at t).Wz X hX l hl,h2 X hX l hl,fun k2=>c.tr.Zgi (t:=t) pA (by
    have:=(TT.Wz X hX l hl).ask k2;rw[(h2 X hX l hl).ask k2]at this;exact this)⟩)
   exact⟨q.1.2,fun m hm=>(q.2.1 m hm).2,q.2.2⟩
  have hm:∀l∈RL (w t),CJ b e l:=fun l hl=>by
   rcases Vw.1 hl with q|⟨i,hi,q⟩
   .exact h3 l q
   .exact (ag i hi).2.1 l q
  refine⟨fun X hX=>?_,fun X hX l hl=>?_,fun l hl=>by rw[c.tr.nx,AA]at hl;cases hl⟩
  .rw[c.tr.nx,QU _ X hX ((c.tr.at t).nd X hX).up];have q:=(ag X hX).1;exact⟨q.S9,q.Xb,fun p hp=>by
    have:=q.pnd p hp
    cases p<;>exact this,q.Ku,q.prm⟩
  .rw[c.tr.nx]at hl;rcases (NB hX ((c.tr.at t).nd X hX).up).1 hl with q|⟨q,_⟩
   .exact h2 X hX l ((ag X hX).2.2 l q)
   .exact hm l q
theorem Clean.nq(c:Clean S C b L T w g M e Q):∀t,NQ ((w t).Zb L):=by
 intro t
 induction t with
 | zero=>exact c.Zx
 | succ t ih=>
  have hp:=(c.tr.at t).nd L c.tr.hL;rw[c.tr.nx,QU _ L c.tr.hL hp.up];show NQ (step ((w t).Zb L)).n;unfold step;rw[if_pos hp.up]
  cases q:((w t).Zb L).Zs with
  | some p=>cases p<;>exact ih
  | none=>
   simp only;have hd:=fB ((w t).Zb L).Zg _ ih;split
   .exact hd
   .rename_i q2;have q0:(ZB ((w t).Zb L) ((w t).Zb L).Zg).n.Zs=ab:=by
     cases e:(ZB ((w t).Zb L) ((w t).Zb L).Zg).n.Zs with
     | none=>rfl
     | some p=>rw[e]at q2;exact absurd rfl q2
    have hb:=(J8 (Qg (C:=C) (b:=b) (L:=L) c.tr.hL c.tr.hC c.tr.hb) _ _ hp ((c.tr.at t).Wz L c.tr.hL)).1.Yu;have D:=(Y3 q0 hb).1;intro x hx hl;have hx:x∈(Yq (ZB ((w t).Zb L) ((w t).Zb L).Zg).n).n.Zx:=hx;have hl:x∈(Yq (ZB ((w t).Zb L) ((w t).Zb L).Zg).n).n.ZA:=hl;rw[D.Zx]at hx;rw[D.ZA]at hl;exact hd x hx hl
theorem Yl.ZnX(tr:Yl S C b L T w g M)(hX:X<5):∀t,∃f,((w t).Zb X).ZA=((w 0).Zb X).ZA++f:=by
 intro t
 induction t with
 | zero=>exact⟨[],IQ⟩
 | succ t ih=>
  obtain⟨f,h1⟩:=ih;obtain⟨f',h2⟩:=tr.ZbJ (t:=t) hX;exact⟨f++f',by rw[h2,h1,List.append_assoc]⟩
theorem Clean.ji(c:Clean S C b L T w g M e Q):∀t,t<=T->∀r,((w t).Zb L).Zh=B r->JI e Q r:=by
 intro t
 induction t with
 | zero=>
  intro _ r hr;have h0:=c.ZY r hr;exact⟨fun s x h=>(by rw[h0]at h;cases h),fun s s' x h=>(by rw[h0]at h;cases h),fun s u h=>absurd (h0 _) h⟩
 | succ t ih=>
  intro ht r1 HP;have hp:=(c.tr.at t).nd L c.tr.hL;by_cases hf:Ta ((w t).Zb L)
  .obtain⟨K0,_,_⟩:=c.at t pA;have TT:=c.tr.ti t pA;have W:=oZ (C:=C) (b:=b) (Pb:=PbT L T w) (e:=e) (L:=L) c.tr.hL c.tr.hC c.tr.hb PbT.one;have dl:=J8 W ((w t).Zb L).Zg ((w t).Zb L) ⟨hp,K0 L c.tr.hL⟩ (fun l hl=>⟨(c.tr.at t).Wz L c.tr.hL l hl,(c.at t pA).2.1 L c.tr.hL l hl,fun k2=>c.tr.Zgi (t:=t) pA (by
    have:=(TT.Wz L c.tr.hL l hl).ask k2;rw[((c.at t pA).2.1 L c.tr.hL l hl).ask k2]at this;exact this)⟩)
   obtain⟨HRd,_,_⟩:=oM c.tr.hL TT.gi ((w t).Zb L).Zg ((w t).Zb L) (TT.nd L c.tr.hL) hp.up hf.1 hp.ni (fun l hl=>⟨((c.tr.at t).Wz L c.tr.hL l hl).li,TT.Wz L c.tr.hL l hl⟩);have hs:=WY hp.up hf;have K:=Vy _ _ hf.2;have nqd:=fB ((w t).Zb L).Zg _ (c.nq t);obtain⟨d,hd0⟩:=ZL ((ZB ((w t).Zb L) ((w t).Zb L).Zg).n);have hdp:d.Zs=ab:=by rw[hd0];exact hf.2
   rw[<-hd0]at dl K nqd;have Nd:=HRd.n;rw[<-hd0]at Nd;obtain⟨hd,hcd⟩:=dl.1;obtain⟨r,hr,HU⟩:=hd.Z5 rfl;obtain⟨r0,h1,h2⟩:=K.back hr;have J0:=ih pA r0 h1;have J:JI e Q r:=⟨by rw[h2.p];exact J0.of,by rw[h2.p];exact J0.inj,by rw[h2.p];exact J0.oV⟩
   have HP:(Yq d).n.Zh=B r1:=by
    rw[c.tr.nx,QU _ L c.tr.hL hp.up,hs,<-hd0]at HP;exact HP
   rcases lQ hd hdp hr with q|⟨q,ZKj⟩
   .rw[q]at HP;obtain rfl:=Option.some.inj HP;exact J
   .rw[q]at HP;obtain rfl:=Option.some.inj HP;have Rd:=Nd.Zh r hr;have hM:∀i,i<5->¬ZM b (M t i):=fun i hi=>by
     rw[(TT.nd i hi).m,JL ((c.tr.at t).nd i hi).up];exact ((c.tr.at t).nd i hi).Zq
    obtain⟨f0,hf0⟩:=c.tr.ZnX c.tr.hL t;obtain⟨f1,hf1⟩:=K.go.ZA;have he:e<=d.ZA.length:=by
     rw[hf1,hf0,am,am,c.ZA];omega
    have hk0:∀t:Nat,t<d.ZA.length->Has d.Zi t:=fun t ht=>by
     have:=hd.ni.ZA t ht;unfold Has;intro q;rw[q]at this
     cases this
    -- ZnQ is Zi of ZCk from there on was dZ
    have ha:∀u:Nat,e<=u->Has d.Zi u->Has r.ZY u:=fun u hu hk=>by
     unfold Has at hk
     cases q:Yh d.Zi (u:Int) with
     | none=>exact absurd q hk
     | some y=>
      obtain⟨Qm,b',hQm,hv⟩:=Nd.Zi _ _ q;obtain⟨i,hi,_⟩:=hQm.meet hQm;have KT:=hQm.2.1 i hi;have A:=(TT.nd i KT).acc;rw[JL ((c.tr.at t).nd i KT).up]at A;obtain⟨v,Cq,jG,_⟩:=A.all _ _ _ (hv i hi);have hvb:v.b=b:=by
       rcases (K0 i KT).Ku v Cq with q|q
       .exact q
       .omega
      have hP:=TT.gi.vp _ _ _ _ (A.has v Cq);rw[hvb,jG,<-HU]at hP;have:=Rd.pr _ _ hP;unfold Has;rw[this];simp
    have hc:∀x∈d.Zx,x∈Q/\∀u:Nat,u<d.ZA.length->Yh r.ZY u≠B x:=fun x hx=>by
     refine⟨?_,fun u hu hpu=>?_⟩
     .rcases c.Zw2 x (Nd.eh x hx) with q|q
      .exact q
      .exact absurd (by rw[hf1,hf0];exact ae.2 (.inl (ae.2 (.inl q)))) (nqd x hx)
     .have h1:=Rd.safe _ _ hpu;rw[HU]at h1;have h2:=Nd.ZA u _ (be hu);have:=Du TT.gi hM h1 h2;refine nqd x hx ?_;rw[this];exact bg hu
    have base:∀r':XE,r'.ZY=r.ZY->JI e Q r'/\(∀u:Nat,e<=u->Has d.Zi u->Has r'.ZY u)/\∀x∈d.Zx,x∈Q/\∀u:Nat,u<d.ZA.length->Yh r'.ZY u≠B x:=fun r' hq=>by
     refine⟨⟨by rw[hq];exact J.of,by rw[hq];exact J.inj,by rw[hq];exact J.oV⟩,by rw[hq];exact ha,by rw[hq];exact hc⟩
    unfold X9;by_cases jL:r.XU=true
    .rw[if_pos jL];obtain⟨b1,b2,b3⟩:=base r rfl;exact Ez he hk0 _ _ b1 b2 b3
    .rw[if_neg jL];have Zw5:r.XU=false:=by simpa using jL
     obtain⟨b1,b2,b3⟩:=base (Wn d r) (lT he fun v hv=>by
      obtain⟨m,hm,vs,h1,h2⟩:=In hv;rcases hcd.prm r hr m vs h1 v h2 with q|q
      .have hV:=((Rd.ZI m vs h1).has v h2).1;have:=TT.gi.vp _ _ _ _ hV;rw[q,<-HU]at this;exact absurd this (Rd.pn Zw5 _ _)
      .exact q)
     exact Ez he hk0 _ _ b1 b2 b3
  .rw[c.tr.nx,QU _ L c.tr.hL hp.up]at HP;obtain⟨r,h1,h2⟩:=CQ hp.up hf (show (step ((w t).Zb L)).n.Zh=B r1 from HP);have J:=ih pA r h1;exact⟨by rw[h2];exact J.of,by rw[h2];exact J.inj,by rw[h2];exact J.oV⟩
theorem uQ:∀(l:List Vt) (a:Int) (d:Nat),l.Pairwise (fun a b=>a.Zu<b.Zu)->(∀x∈l,a<=x.Zu/\x.Zu<a+d)->(aa l)<=d:=by
 intro l
 induction l with
 | nil=>intro a d _ _;exact a8 _
 | cons x l ih=>
  intro a d hp hx;rw[List.pairwise_cons]at hp;have h1:=hx x IQ
  cases d with
  | zero=>omega
  | succ d=>
   have:=ih (a+1) d hp.2 (fun y hy=>by
    have h2:=hp.1 y hy;have h3:=hx y (by simp[hy]);omega)
   simp only[a7];omega
theorem Clean.wb(c:Clean S C b L T w g M e Q)(ht:t<=T)(hX:X<5):Wb b ((w t).Zb X)<=2*(1+(aa Q))+1:=by
 have CX:=(c.at t ht).1 X hX;have P:=(c.tr.at t).nd X hX;have hl:(((w t).Zb X).Zq.l.filter (fun v=>decide (v.b=b))).length<=(aa Q):=by
  refine uQ _ (e:Int) (aa Q) (List.Pairwise.filter _ P.ni.Zq.Xb.2) (fun v hv=>?_);obtain⟨h1,h2⟩:=aN.1 hv;obtain⟨r,hr,hp⟩:=CX.Xb v h1 (by simpa using h2);have J:=c.ji T (al _) r hr;obtain⟨u,hu,he,_⟩:=J.of _ _ hp;have:=J.few (s:=u) (by rw[<-hu];unfold Has;rw[hp];simp);omega
 unfold Wb;split<;>split<;>omega
theorem Clean.count(c:Clean S C b L T w g M e Q):∀t,t<=T->∃k,Ct w t k/\t<=k+(Wb b ((w t).Zb 0)+Wb b ((w t).Zb 1)+Wb b ((w t).Zb 2)+Wb b ((w t).Zb 3)+Wb b ((w t).Zb 4)):=by
 intro t
 induction t with
 | zero=>intro _;exact⟨0,Ct.zero _ _,a8 _⟩
 | succ t ih=>
  intro ht;obtain⟨k,h1,h2⟩:=ih pA;have st:∀X,X<5->Wb b ((w t).Zb X)<=Wb b ((w (t+1)).Zb X)/\(¬Ta ((w t).Zb X)->Wb b ((w t).Zb X)+1<=Wb b ((w (t+1)).Zb X)):=fun X hX=>by
   have P:=(c.tr.at t).nd X hX;have:=Ze2 P ((c.at t pA).1 X hX) (fun _=>(J8 (Qg (C:=C) (b:=b) (L:=L) hX c.tr.hC c.tr.hb) _ _ P ((c.tr.at t).Wz X hX)).1);rw[c.tr.nx,QU _ X hX P.up];exact this
  have s0:=st 0 pA;have s1:=st 1 pA;have s2:=st 2 pA;have s3:=st 3 pA;have s4:=st 4 pA;by_cases hc:Clear (w t)
  .exact⟨k+1,.inr ⟨hc,h1⟩,pA⟩
  .refine⟨k,h1.mono,?_⟩;have:∃X,X<5/\¬Ta ((w t).Zb X):=bd fun q=>hc fun X hX=>bd fun q2=>q ⟨X,hX,q2⟩;obtain⟨X,hX,q⟩:=this
   match X,hX,q with
   | 0,_,q=>have:=s0.2 q;omega
   | 1,_,q=>have:=s1.2 q;omega
   | 2,_,q=>have:=s2.2 q;omega
   | 3,_,q=>have:=s3.2 q;omega
   | 4,_,q=>have:=s4.2 q;omega
theorem Ct.down{w:Nat->Wd}:∀{k j:Nat},Ct w t k->j<=k->Ct w t j:=by
 intro k
 induction k with
 | zero=>intro j h hj;rw[show j=0 by omega];exact h
 | succ k ih=>
  intro j h hj;by_cases e:j=k+1
  .rw[e];exact h
  .exact ih h.less pA
theorem Clean.clear(c:Clean S C b L T w g M e Q){k:Nat}(h:k+5*(2*(1+(aa Q))+1)<=T):Ct w T k:=by
 obtain⟨k',h1,h2⟩:=c.count T (al _);have b0:=c.wb (t:=T) (al _) (X:=0) pA;have b1:=c.wb (t:=T) (al _) (X:=1) pA;have b2:=c.wb (t:=T) (al _) (X:=2) pA;have b3:=c.wb (t:=T) (al _) (X:=3) pA;have b4:=c.wb (t:=T) (al _) (X:=4) pA;exact h1.down pA
end
theorem fE(n:Nd)(l:YH):(Zw n l).n.data.length<=(aa n.data)+38/\((Zw n l).n.Zs=ab->(Zw n l).n.data.length<=(aa n.data)):=by
 rcases (X1 n l).2 with k|⟨_,_,_,_,e⟩|⟨_,_,_,_,e⟩
 .rw[k.data];exact⟨pA,fun _=>al _⟩
 .rw[e];refine⟨?_,fun q=>by cases q⟩;show (n.data++YV (JT l.b)).length<=_;rw[am,Nv];omega
 .rw[e];refine⟨?_,fun q=>by cases q⟩;show (n.data++YV (Uy l.v)).length<=_;rw[am,Ar];omega
theorem lU:∀(k:List YH) (n:Nd),(ZB n k).n.data.length<=(aa n.data)+38/\((ZB n k).n.Zs=ab->(ZB n k).n.data.length<=(aa n.data)):=by
 intro k
 induction k with
 | nil=>intro n;unfold ZB;exact⟨by simp only;omega,fun _=>al _⟩
 | cons l k ih=>
  intro n;unfold ZB;split
  .exact⟨by simp only;omega,fun _=>al _⟩
  .obtain⟨h1,h2⟩:=fE { n with Zg:=k } l;have h1:(Zw { n with Zg:=k } l).n.data.length<=(aa n.data)+38:=h1;have h2:(Zw { n with Zg:=k } l).n.Zs=ab->(Zw { n with Zg:=k } l).n.data.length<=(aa n.data):=h2;obtain⟨h3,h4⟩:=ih (Zw { n with Zg:=k } l).n;show (ZB (Zw { n with Zg:=k } l).n k).n.data.length<=_/\((ZB (Zw { n with Zg:=k } l).n k).n.Zs=ab->(ZB (Zw { n with Zg:=k } l).n k).n.data.length<=_)
   by_cases q:(Zw { n with Zg:=k } l).n.Zs=ab
   .have:=h2 q;exact⟨pA,fun q2=>by have:=h4 q2;omega⟩
   .have hs:(Zw { n with Zg:=k } l).n.Zs.isSome=true:=by
     cases e:(Zw { n with Zg:=k } l).n.Zs with
     | none=>exact absurd e q
     | some p=>rfl
    have e:(ZB (Zw { n with Zg:=k } l).n k).n = { (Zw { n with Zg:=k } l).n with Zg:=(ZB (Zw { n with Zg:=k } l).n k).n.Zg }:=by
     cases k with
     | nil=>unfold ZB;rfl
     | cons a k=>unfold ZB;rw[if_pos hs]
    rw[e];exact⟨h1,fun q2=>absurd q2 q⟩
theorem uR(n:Nd)(hb:Blank n.Zh/\((ZB n n.Zg).n.Zs=ab->Blank (ZB n n.Zg).n.Zh)):(step n).n.data.length<=(aa n.data)+38:=by
 unfold step;split
 .cases hp:n.Zs with
  | some p=>
   simp only;have:(YM (ZQ n) p).n.data.length<=(aa n.data):=by
    have e:(YM (ZQ n) p).n.data=(ZQ n).data:=by cases p<;>rfl
    rw[e];show (if Y0 n.data n.Y4 then n.data else []).length<=_;split
    .exact al _
    .exact a8 _
   omega
  | none=>
   simp only;obtain⟨h1,h2⟩:=lU n.Zg n;split
   .exact h1
   .rename_i q;have q0:(ZB n n.Zg).n.Zs=ab:=by
     cases e:(ZB n n.Zg).n.Zs with
     | none=>rfl
     | some p=>rw[e]at q;exact absurd rfl q
    have:=h2 q0;show (Yq (ZB n n.Zg).n).n.data.length<=_;rcases (Y3 q0 (hb.2 q0)).1.Zs with⟨_,e⟩|⟨_,_,_,_,e,_⟩
    .rw[e];omega
    .rw[e,am,Nv];omega
 .exact Nat.le_add_right _ _
section
variable {S:Cm->Prop} {C:List Cm} {b:YA} {L:Nat} {w0:Wd}
theorem ZbV(hC:(aa C)<=100000)(hb:ZF b)(pw:PW C b L w0):∀t,PW C b L (Qq t w0):=by
 intro t
 induction t with
 | zero=>exact pw
 | succ t ih=>exact ZbC ih hC hb
theorem lV(hC:(aa C)<=100000)(hb:ZF b)(pw:PW C b L w0)(hX:X<5){d:Nat}(hd:(w0.Zb X).data.length<=d):∀t,((Qq t w0).Zb X).data.length<=d+38*t:=by
 intro t
 induction t with
 | zero=>exact hd
 | succ t ih=>
  have P:=ZbV hC hb pw t;have PX:=P.nd X hX;show ((kZ (Qq t w0)).Zb X).data.length<=_;rw[QU _ X hX PX.up];have:=uR ((Qq t w0).Zb X) ⟨PX.Yu,fun _=>(J8 (Qg (C:=C) (b:=b) (L:=L) hX hC hb) _ _ PX (P.Wz X hX)).1.Yu⟩;show (step ((Qq t w0).Zb X)).n.data.length<=_;omega
theorem ZbW(hc:Uz []∈C):∀a∈S7.map Raw.ac,eu S C a:=fun a ha=>by
 obtain⟨x,hx,rfl⟩:=a5.1 ha;have step:∀n,n<5->eu S C (Wq n).ac:=fun n hn=>⟨⟨by show ((n:Nat):Int).toNat<5;omega,hc⟩,by show (0:Int)<=0;omega,fun now h=>by cases h⟩
 unfold S7 at hx;rcases ae.1 hx with hx|hx
 .obtain⟨n,hn,rfl⟩:=CD hx;exact step n hn
 .rw[U.1 hx];exact⟨⟨aaa,hc⟩,by show (0:Int)<=0;omega,fun now h=>by cases h⟩
theorem ZbX(w:Wd):kZ w=(S7.map Raw.ac).foldl act w:=by
 show _=act (act (act (act (act (act w (Wq 0).ac) (Wq 1).ac) (Wq 2).ac) (Wq 3).ac) (Wq 4).ac) dY.ac;rw[UM,UM,UM,UM,UM,oQ];rfl
theorem ZiY(hC:(aa C)<=100000)(hc:Uz []∈C){k:Nat}{g0:Gh}{M0:Nat->YA}(W:WI C k w0)(T0:TI S g0 M0 w0):∀T,∃(g:Nat->Gh) (M:Nat->Nat->YA),g 0=g0/\(∀t,t<=T->TI S (g t) (M t) (Qq t w0))/\(∀t,t<T->∀j b s x,(g t).V j b s x->(g (t+1)).V j b s x)/\∃k,WI C k (Qq T w0):=by
 intro T
 induction T with
 | zero=>exact⟨fun _=>g0,fun _=>M0,rfl,fun t ht=>by rw[show t=0 by omega];exact T0,fun t ht=>by omega,k,W⟩
 | succ T ih=>
  obtain⟨g,M,h0,h1,h2,k,hW⟩:=ih;obtain⟨g',M',v,TT,WW⟩:=eG hC (S7.map Raw.ac) k (Qq T w0) (g T) (M T) hW (h1 T (al _)) (ZbW hc);rw[<-ZbX]at TT WW;refine⟨fun t=>if t<=T then g t else g',fun t=>if t<=T then M t else M',by simp only[a8,if_true];exact h0,fun t ht=>?_,fun t ht=>?_,_,WW⟩
  .by_cases e:t<=T
   .simp only[if_pos e];exact h1 t e
   .simp only[if_neg e];rw[show t=T+1 by omega];exact TT
  .by_cases e:t+1<=T
   .simp only[if_pos e,if_pos (show t<=T by omega)];exact h2 t pA
   .have:t=T:=pA;subst this;simp only[al,if_true,if_neg e];exact v
theorem ph(hC:(aa C)<=100000)(hc:Uz []∈C)(hb:ZF b)(hL:L<5)(hn:b.n=L)(hS:∀x,S x->x.err=0){k:Nat}{g0:Gh}{M0:Nat->YA}(W:WI C k w0)(T0:TI S g0 M0 w0)(pw:PW C b L w0){T:Nat}(hd:∀X,X<5->(w0.Zb X).data.length+38*T<=99900):
  ∃g M,g 0=g0/\Yl S C b L T (fun t=>Qq t w0) g M:=by
 obtain⟨g,M,h0,h1,h2,_⟩:=ZiY hC hc W T0 T;refine⟨g,M,h0,hC,hb,hL,hn,fun t=>rfl,pw,fun t ht X hX hf=>?_,h1,h2,hS⟩;have:=lV hC hb pw hX (al _) t;have:=hd X hX;unfold Full at hf;have h4:38*t<=38*T:=Nat.mul_le_mul_left _ ht;omega
end
structure ZbY(X:Nat)(n:Nd):Prop where
 me:n.me=X
 up:n.up=true
 data:n.data=[]
 Y4:n.Y4=0
 Zq:n.Zq=JN
 Y1:n.Y1=Jq
 Zh:n.Zh=ab
 Zi:n.Zi=[]
 ZA:n.ZA=[]
 Zg:n.Zg=[]
 Zs:n.Zs=ab
structure TU(w:Wd):Prop where
 nd:∀X,ZbY X (w.Zb X)
 Mf:w.Zp=[]
theorem ZbZ:TU QT:=⟨fun X=>⟨rfl,rfl,rfl,rfl,rfl,rfl,rfl,rfl,rfl,rfl,rfl⟩,rfl⟩
theorem PB{w:Wd}(h:TU w)(i:Nat)(d:List Nat):TU (Jz w i d)/\(∀X x,x∈(w.Zb X).Zx->x∈((Jz w i d).Zb X).Zx)/\(YR d 0=0->Xu d 0∈((Jz w i d).Zb i).Zx):=by
 have hl:(w.Zb i).ZA.length=0:=by rw[(h.nd i).ZA];rfl
 have h0:((w.Zb i).ZA.length:Int)=0:=pA;unfold Jz;rw[if_pos (h.nd i).up,h0];by_cases q:YR d 0=0
 .rw[if_neg (by simp[q]),if_neg (by rw[(h.nd i).ZA];simp)];have hq:ZbY i (SW (add (w.Zb i) (Xu d 0)) (Xu d 0))/\(∀x∈(w.Zb i).Zx,x∈(SW (add (w.Zb i) (Xu d 0)) (Xu d 0)).Zx)/\Xu d 0∈(SW (add (w.Zb i) (Xu d 0)) (Xu d 0)).Zx:=by
   have F:=h.nd i;have ha:ZbY i (add (w.Zb i) (Xu d 0))/\(∀x∈(w.Zb i).Zx,x∈(add (w.Zb i) (Xu d 0)).Zx)/\Xu d 0∈(add (w.Zb i) (Xu d 0)).Zx:=by
    unfold add;split
    .rename_i c;refine⟨F,fun x hx=>hx,?_⟩;rcases c with c|c
     .exact c
     .rw[F.ZA]at c;cases c
    .exact⟨⟨F.me,F.up,F.data,F.Y4,F.Zq,F.Y1,F.Zh,F.Zi,F.ZA,F.Zg,F.Zs⟩,fun x hx=>ae.2 (.inl hx),ae.2 (.inr IQ)⟩
   obtain⟨A,a2,a3⟩:=ha;unfold SW;split
   .exact⟨A,a2,a3⟩
   .exact⟨⟨A.me,A.up,A.data,A.Y4,A.Zq,A.Y1,A.Zh,A.Zi,A.ZA,A.Zg,A.Zs⟩,a2,a3⟩
  refine⟨⟨fun X=>?_,h.Mf⟩,fun X x hx=>?_,fun _=>?_⟩
  .rw[Jv];by_cases e:X=i
   .rw[if_pos e,e];exact hq.1
   .rw[if_neg e];exact h.nd X
  .rw[Jv];by_cases e:X=i
   .rw[if_pos e];rw[e]at hx;exact hq.2.1 x hx
   .rw[if_neg e];exact hx
  .rw[Jv,if_pos rfl];exact hq.2.2
 .rw[if_pos (by simp[q])];exact⟨⟨h.nd,h.Mf⟩,fun X x hx=>hx,fun e=>absurd e q⟩
end Go.Proofs.YthlfaofofaphfaaGreatDoor
