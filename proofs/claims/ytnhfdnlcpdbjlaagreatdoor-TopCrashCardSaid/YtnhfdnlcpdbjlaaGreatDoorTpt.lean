/- Part Tpt. -/
import Derived.Test.YtnhfdnlcpdbjlaaGreatDoorTco
import Derived.Test.YtnhfdnlcpdbjlaaGreatDoorTyb
import Derived.Test.YtnhfdnlcpdbjlaaGreatDoorTpc
import Derived.Test.YtnhfdnlcpdbjlaaGreatDoorTab
import Derived.LaidSub
open Go.Value renaming slice→j
open Go.IntKind renaming i64→w
open Go.Obj renaming cells→B
open Go.Proofs.Tryz renaming underlying3→D,prog→H
open List renaming length→p,length_append→K,append_assoc→M,mem_append→O,map_append→Q
open Nat renaming zero_le→N
open Option renaming some→E,none→J
namespace Go.Proofs.YtnhfdnlcpdbjlaaGreatDoor
open Go Go.V
set_option linter.all false
set_option maxRecDepth 100000
def ZhY(g:Gr)(cr:Bool):(Up g cr).k=4\/(Up g cr).k=5\/(Up g cr).k=6->(Up g cr).a.toNat<20:=by
 have h2:=Q6 g.c (m:=20) mD;unfold Up;intro h
 repeat' split at h
 all_goals simp only at h
 all_goals first
  | omega
  | skip
 all_goals
  repeat' split
  all_goals simp only
  all_goals omega
def ZaU(gs:List Gr)(Jt:Nat)(cr:Bool):(∀x∈scr gs Jt cr,x.k=4\/x.k=5\/x.k=6->x.a.toNat<20)/\RW ((scr gs Jt cr).map Raw.ac)<=6:=by
 have key:∀(l:List Gr) (st:Nat × List Raw),((∀x∈st.2,x.k=4\/x.k=5\/x.k=6->x.a.toNat<20)/\RW (st.2.map Raw.ac)<=st.1/\RW (st.2.map Raw.ac)<=6)->(∀x∈(l.foldl (UU cr) st).2,x.k=4\/x.k=5\/x.k=6->x.a.toNat<20)/\RW ((l.foldl (UU cr) st).2.map Raw.ac)<=(l.foldl (UU cr) st).1/\RW ((l.foldl (UU cr) st).2.map Raw.ac)<=6:=by
  intro l
  induction l with
  | nil=>intro st h;exact h
  | cons g l ih=>
   intro st h;obtain⟨h1,h2,h3⟩:=h;refine ih _ ⟨fun x hx=>?_,?_⟩
   .rcases O.1 hx with hx|hx
    .exact h1 x hx
    .rw[List.mem_singleton.1 hx];unfold VG;split
     .intro q;exact absurd q KC
     .exact ZhY g cr
   .have e:∀x:Raw,RW ((st.2++[x]).map Raw.ac)=RW (st.2.map Raw.ac)+if x.k=1 then 1 else 0:=fun x=>by
     unfold RW;rw[Q,List.countP_append,List.map_singleton,List.countP_singleton];show _+(if decide (x.k=1)=true then 1 else 0)=_;by_cases q:x.k=1
     .rw[if_pos q,if_pos (by simpa using q)]
     .rw[if_neg q,if_neg (by simpa using q)]
    unfold UU;simp only;rw[e];by_cases q:(Up g cr).k=1
    .by_cases q2:6<st.1+1
     .have ex:VG st.1 (Up g cr)=Kv:=by unfold VG;rw[if_pos ⟨q,q2⟩]
      rw[ex,if_pos q,if_neg (show ¬Kv.k=1 by decide)];omega
     .have ex:VG st.1 (Up g cr)=Up g cr:=by unfold VG;rw[if_neg fun z=>q2 z.2]
      rw[ex,if_pos q,if_pos q];omega
    .have ex:VG st.1 (Up g cr)=Up g cr:=by unfold VG;rw[if_neg fun z=>q z.1]
     rw[ex,if_neg q,if_neg q];omega
 obtain⟨k1,_,k3⟩:=key (gs.take Jt) (0,[]) ⟨(fun x hx=>by cases hx),Nat.le_refl _,N _⟩;exact⟨k1,k3⟩
def dF{A:List Raw}(hA:∀x∈A,x.err=0)(hl:(p A)<=100)(vX:∀x∈A,x.k=4\/x.k=5\/x.k=6->x.a.toNat<20)(h6:RW (A.map Raw.ac)<=6){keep:Int}(hk:0<=keep/\keep<=100000){L:Nat}(hL:L<5):
  (∀x∈A++Z8 keep 5,x.err=0)/\rD (JC (A++Z8 keep 5))=[]/\(rD (JC A)).length<=(rD (JC (X3 (A++Z8 keep 5) L))).length/\alk (rD (JC (X3 (A++Z8 keep 5) L))) (rD (JC A))=true:=by
 have hce:∀n,n<5->(Vm keep n).err=0:=fun n hn=>by
  unfold Vm Raw.err Us Xx Qs;simp only[List.length_nil];rw[if_neg mD,if_neg mD,if_neg mD,if_neg sW]
 have hAA:∀x∈A++Z8 keep 5,x.err=0:=fun x hx=>by
  rcases O.1 hx with hx|hx
  .exact hA x hx
  .obtain⟨n,hn,rfl⟩:=List.mem_map.1 hx;exact hce n (List.mem_range.1 hn)
 have hSe:=Iy hAA hL;have hSl:(X3 (A++Z8 keep 5) L).length<=100000:=by
  have:=Iz (l:=A++Z8 keep 5) (n:=L) (b:=105) (by rw[K];simp[Z8];omega);omega
 refine⟨hAA,?_,?_,zX fun i x y hx hy=>?_⟩
 .rcases LD (JC (A++Z8 keep 5)) with q|⟨i,hi,q⟩
  .exact q
  .rw[q,Ox,(FQ _ _).2 i hi]
   cases hu:((JC A).Zc i).up with
   | true=>
    obtain⟨d,z,e⟩:=Wz i ((JC A).Zc i) keep hu;rw[e];rfl
   | false=>
    unfold Yo;rw[if_neg (by rw[hu];decide)];exact Zai (A.map Raw.ac) i hu
 .rcases LD (JC A) with q|⟨i,hi,q⟩
  .rw[q];exact N _
  .rw[q];obtain⟨Z,hZ,h⟩:=sF hA hl vX h6 hce hL hi;exact Nat.le_trans h (Zaj _ 5 Z hZ)
 .have e:∃k,X3 (A++Z8 keep 5) L=A++k:=by
   rw[IG];obtain⟨k1,e1,_⟩:=FO (l:=To (A++Z8 keep 5) L (100+20*Pq (A++Z8 keep 5))) (n:=L) (many:=100+20*Pq (A++Z8 keep 5));obtain⟨k2,e2,_⟩:=FO (l:=A++Z8 keep 5) (n:=L) (many:=100+20*Pq (A++Z8 keep 5));rw[e1,e2];exact⟨Z8 keep 5++(k2++k1),by simp only[M]⟩
  obtain⟨k,ek⟩:=e;rcases LD (JC (X3 (A++Z8 keep 5) L)) with q|⟨i1,hi1,q⟩
  .rw[q]at hx;cases hx
  rcases LD (JC A) with q2|⟨i2,hi2,q2⟩
  .rw[q2]at hy;cases hy
  rw[q]at hx;rw[q2]at hy;refine jH hSe hSl (X3 (A++Z8 keep 5) L).length (p A) i1 i2 hi1 hi2 i x y (by rw[List.take_length];exact hx) ?_;rw[ek,List.take_left];exact hy
def Ez(keep:Int)(k:Nat):Z8 keep (k+1)=Z8 keep k++[Vm keep k]:=by unfold Z8;rw[List.range_succ,Q];rfl
set_option maxHeartbeats 4000000 in
def sH(T:World)(h:Hp)(v:Value)(gs:List Gr)(kp ld:Int)(hv:Ts Gr.C 5 h v gs)(hg:∀g∈gs,g.ok)(hkp:i64 kp)(hl:i64 ld)(tb:dS Nh h):
  Zg H T 3 #[v,.int w kp,.int w ld] h fun v' h'=>v'=.bool true/\Zk h.size h h':=by
 have tk:Tk h:=tb.tk;have pa:=Q6 ld (m:=5) mD;have pk:=Q6 kp (m:=100) mD;obtain⟨L,hL⟩:∃L:Nat,Ue ld 5=L:=⟨(Ue ld 5).toNat,mD⟩
 have L5:L<5:=mD;obtain⟨kv,hkv⟩:=ZP (Ue kp 100);rw[<-hkv]at pk;refine Zg.XK [_,_,_] Tryz.func3 ?_;simp only[go_sem];refine (jA T h v gs 100 true hv hg mD tk).use ?_;rintro v1 h1 ⟨o1,xs1,BG,K1,O1,I1,_,_⟩;obtain⟨A,hA⟩:=ZP (scr gs 100 true);rw[<-hA]at BG;have Ae:∀x∈A,x.err=0:=by rw[hA];exact ZdM _ _ _
 have Al:(p A)<=100:=by rw[hA];exact ZdN _ _ _
 obtain⟨sa1,sa2⟩:(∀x∈A,x.k=4\/x.k=5\/x.k=6->x.a.toNat<20)/\RW (A.map Raw.ac)<=6:=by rw[hA];exact ZaU gs 100 true
 obtain⟨pl1,pl2,pl3,pl4⟩:=dF Ae Al sa1 sa2 (keep:=kv) mD L5;have A1:XQ h o1 h1 v1 A:=⟨K1,xs1,BG,O1,I1⟩
 obtain⟨b1,_,xs,hr,t1,i1⟩:=A1.done;obtain⟨p1,c1,ev1,_⟩:=A1.ZN;have xl:(p xs)=(p A):=by rw[<-hr];unfold Y9;simp
 have tb1:=tb.keep (ZU (RS h) b1);subst ev1;simp only[go_sem];refine (jB T h1 _ xs t1 i1 tb1 mD (by rw[hr];exact Oq Ae mD)).use ?_;rw[hr];rintro _ h2 ⟨⟨lv,tv,vs,rfl,rf⟩,b2⟩;have B2:Zk h.size h h2:=b1.trans (b2.mono b1.size);obtain⟨Wa,hWa⟩:=ZP (JC A);rw[<-hWa]at rf pl3 pl4 ⊢;obtain⟨ro,⟨pl,ol,cl,rfl⟩,pt,ct,rfl⟩:=rf.at.ok;obtain⟨R,hR⟩:=ZP (bW Wa (j (E ⟨pl,ol,J⟩) 5 cl) (j pt Wa.ZG.length ct));rw[<-hR]at ro ⊢;have hRl:=ro.len;have tH:=ro.one;have hRp:=ro.put;have ZdF:=ro.le;have et:=ro.take;obtain⟨h3,kW⟩:=ZP (h2.push (B R.toArray 30):Hp);have e3:=kW.symm;have b3:Zk h2.size h2 h3:=by rw[kW];exact (Zk.refl _ _).add _
 have y3:h3[h2.size]? = E (B R.toArray 30):=by rw[kW];exact Zd
 have B3:Zk h.size h h3:=B2.trans (b3.mono B2.size);have A3:XQ h o1 h3 (j p1 (p A) c1) A:=(A1.Zo b2).Zo b3;have K3:Kp Td o1 h3 o1 h3:=Kp.refl A3.1.Yt _;simp only[go_sem,hRl,tH,hRp,ZdF,e3];refine VS.Yq (fun F g=>(F 1=.int w kp/\F 2=.int w ld/\F 8=.pointer (E ⟨h2.size,0,J⟩)/\F 9=.bool true)/\∃(n:Nat) (o:Ow),n<=5/\F 10=.int w n/\XQ h o g (F 7) (A++Z8 kv n)/\Kp Td o1 h3 o g)
  (fun F _=>5-(vi (F 10)).toNat) rfl ⟨⟨rfl,rfl,rfl,rfl⟩,0,o1,mD,rfl,by
   rw[show Z8 kv 0=[] from rfl,List.append_nil];exact A3,K3⟩ ?_
 rintro F2 g2 ⟨⟨f1,f2,f8,f9⟩,n,o2,hn,f10,A2,K2⟩;obtain⟨p2,c2,f7,_⟩:=A2.ZN;have ol2:(A++Z8 kv n).length<=200:=by rw[K];simp[Z8];omega
 by_cases ZV:n<5
 .have Z4:(n:Int)<5:=mD;rw[f7]at A2;simp only[go_sem,f1,f2,f7,f8,f9,f10,Z4];refine (Jz T g2 kp 100 hkp mD mD).pure ?_;rw[<-hkv];simp only[go_sem];refine A2.Pk mD ⟨8,n,0,kv,[]⟩ J 0 ⟨Im.nil _ 1 _ J,fun x hx=>by cases hx⟩ ?_;intro v3 o3 g3 A3' K3';simp only[go_sem,f10];unfold XI;refine⟨⟨⟨f1,f2,f8,f9⟩,n+1,o3,ZV,rfl,?_,K2.trans K3'⟩,?_⟩
  .rw[Ez,<-M];exact A3'
  .simp only[vi,Zt,↓reduceIte,f10];omega
 have Xw:¬(n:Int)<5:=mD;obtain rfl:n=5:=mD;obtain⟨nU,_,ys,hry,t2,i2⟩:=A2.done;obtain⟨AA,hAA⟩:=ZP (A++Z8 kv 5);rw[<-hAA]at pl1 pl2 pl3 pl4 hry f7 ol2;have yl:(p ys)=(p AA):=by rw[<-hry];unfold Y9;simp
 have AG:=tb.keep (ZU (RS h) nU);rw[f7]at t2
 -- ZdX iY first outcome holds
 have Zfi:∀b x,h1.size<=b->h3[b]? = E x->g2[b]? = E x:=fun b x hb hx=>(K2.free hx (A1.1.Yt b hb)).1;have y2:g2[h2.size]? = E (B R.toArray 30):=Zfi _ _ b2.size y3;have rfA:∀G,Zk g2.size g2 G->bX G R Wa (j (E ⟨pl,ol,J⟩) 5 cl) (j pt Wa.ZG.length ct) vs:=fun G bG=>by
  rw[hR];refine rf G fun b h1b h2b=>?_;obtain⟨x,hx⟩:∃x,h2[b]? = E x:=⟨_,Array.getElem?_eq_getElem h2b⟩
  have q1:=Zfi b x mD (b3.get h2b hx);rw[hx];exact bG.get (Za q1) q1
 simp only[go_sem,f1,f2,f7,f8,f9,f10];refine (jB T g2 _ ys t2 i2 AG mD (by rw[hry];exact Oq pl1 mD)).use ?_;rw[hry];rintro _ h5 ⟨⟨lv5,tv5,vs5,rfl,rf5⟩,b5⟩;have B5:Zk h.size h h5:=nU.trans (b5.mono nU.size);obtain⟨Wb,hWb⟩:=ZP (JC AA);rw[<-hWb]at rf5 pl2 ⊢;obtain⟨ro5,⟨pl5,ol5,cl5,rfl⟩,pt5,ct5,rfl⟩:=rf5.at.ok;obtain⟨R5,hR5⟩:=ZP (bW Wb (j (E ⟨pl5,ol5,J⟩) 5 cl5) (j pt5 Wb.ZG.length ct5));rw[<-hR5]at ro5 ⊢;have ZmU:=ro5.len;have Zwf:=ro5.one;have Zwg:=ro5.put;have ZmV:=ro5.le;obtain⟨h6,iL⟩:=ZP (h5.push (B R5.toArray 30):Hp);have e6:=iL.symm;have b6:Zk h5.size h5 h6:=by rw[iL];exact (Zk.refl _ _).add _
 have y6:h6[h5.size]? = E (B R5.toArray 30):=by rw[iL];exact Zd
 have b26:Zk g2.size g2 h6:=b5.trans (b6.mono b5.size);have B6:Zk h.size h h6:=B5.trans (b6.mono B5.size);have t6:=t2.YJ b26;have i6:∀y∈ys,S9 Nh h6 y.2 y.1.data:=fun y hy=>(i2 y hy).keep (ZU (RS g2) b26);simp only[go_sem,f2,f7,ZmU,Zwf,Zwg,ZmV,e6];refine (Jz T h6 ld 5 hl mD mD).pure ?_;rw[hL];simp only[go_sem];refine (cY T h6 _ ys L L5 t6 i6 mD).use ?_;rintro v7 h7 ⟨b7,_,zs,hrz,t7,i7⟩;rw[hry]at hrz;have B7:Zk h.size h h7:=B6.trans (b7.mono B6.size);have Ze:=Iy pl1 L5;have Zl:(X3 AA L).length<=60000:=by have:=Iz (n:=L) (b:=200) ol2;omega
 have zl:(p zs)<=60000:=by
  have:=congrArg p hrz;unfold Y9 at this;rw[List.length_map]at this;omega
 have tb7:=tb.keep (ZU (RS h) B7);simp only[go_sem];refine (jB T h7 v7 zs t7 i7 tb7 mD (by rw[hrz];exact Oq Ze mD)).use ?_;rw[hrz];rintro _ h8 ⟨⟨lv8,tv8,vs8,rfl,rf8⟩,b8⟩;have B8:Zk h.size h h8:=B7.trans (b8.mono B7.size);obtain⟨Wc,hWc⟩:=ZP (JC (X3 AA L));rw[<-hWc]at rf8 pl3 pl4 ⊢;obtain⟨ro8,⟨pl8,ol8,cl8,rfl⟩,pt8,ct8,rfl⟩:=rf8.at.ok;obtain⟨R8,hR8⟩:=ZP (bW Wc (j (E ⟨pl8,ol8,J⟩) 5 cl8) (j pt8 Wc.ZG.length ct8));rw[<-hR8]at ro8 ⊢;have ZmW:=ro8.len;have Zwi:=ro8.one;have Zwj:=ro8.put;have ZmX:=ro8.le;obtain⟨h9,hh9⟩:=ZP (h8.push (B R8.toArray 30):Hp);have e9:=hh9.symm;have b9:Zk h8.size h8 h9:=by rw[hh9];exact (Zk.refl _ _).add _
 have y9:h9[h8.size]? = E (B R8.toArray 30):=by rw[hh9];exact Zd
 have B9:Zk h.size h h9:=B8.trans (b9.mono B8.size);have b69:Zk h6.size h6 h9:=b7.trans ((b8.trans (b9.mono b8.size)).mono b7.size);have b29:Zk g2.size g2 h9:=b26.trans (b69.mono b26.size);have r69:rd h9 ⟨h5.size,0,J⟩ 13=E R5:=ZA (b69.get (Za y6) y6) ZmU;have b59:Zk h5.size h5 h9:=b6.trans (b69.mono b6.size);have ZmY:=Mo T h9 Wb _ _ vs5 (rf5.YJ b59).at;rw[<-hR5]at ZmY;have et5:=ro5.take;have l59:=Za (b69.get (Za y6) y6);simp only[go_sem,f8,f9,ZmW,Zwi,Zwj,ZmX,e9,r69,et5,l59];refine ZmY.use ?_;rintro v10 h10 ⟨t10,b10⟩;rw[pl2]at t10;obtain⟨p10,c10,rfl,_⟩:=Jy t10;have B10:Zk h.size h h10:=B9.trans (b10.mono B9.size);have ZmZ:Zk g2.size g2 h10:=b29.trans (b10.mono b29.size);have yA:=ZmZ.get (Za y2) y2;have rA:rd h10 ⟨h2.size,0,J⟩ 13=E R:=ZA yA hRl;have lA:=Za yA;have BH:=Mo T h10 Wa _ _ vs (by have:=rfA h10 ZmZ;rw[hR]at this;exact this);rw[<-hR]at BH;have nl:(([]:List Cm).length:Int)=0:=rfl;simp only[go_sem,f8,nl,rA,et,lA];refine BH.use ?_;rintro v11 h11 ⟨t11,b11⟩;have B11:Zk h.size h h11:=B10.trans (b11.mono B10.size);have Zm0:Zk h9.size h9 h11:=b10.trans (b11.mono b10.size);have yC:=Zm0.get (Za y9) y9;have rC:rd h11 ⟨h8.size,0,J⟩ 13=E R8:=ZA yC ZmW;have lC:=Za yC;have et8:=ro8.take;have clC:=Mo T h11 Wc _ _ vs8 (rf8.YJ (b9.trans (Zm0.mono b9.size))).at;rw[<-hR8]at clC;obtain⟨pA,cA,rfl,_⟩:=Jy t11;simp only[go_sem,rC,et8,lC];refine clC.use ?_;rintro v12 h12 ⟨t12,b12⟩;have B12:Zk h.size h h12:=B11.trans (b12.mono B11.size);have tA:=t11.YJ b12;obtain⟨pC,cC,rfl,_⟩:=Jy t12;have hlen:(rD Wc).length<=40:=by
  rcases LD Wc with q|⟨i,hi,q⟩
  .rw[q];exact N _
  .rw[q,hWc];exact ZdO Ze mD i hi
 have ak:=zY T h12 _ _ (rD Wc) (rD Wa) t12 tA mD;rw[pl4]at ak;have Zcd:((rD Wa).length:Int)<=(rD Wc).length:=mD;simp only[go_sem,Zcd];refine ak.pure ?_;simp only[go_sem];exact B12
def ZaV{n:Int}(h:(Lit.int w n).wf=true):i64 n:=by
 have h:(decide (IntKind.i64.min<=n)&&decide (n<=IntKind.i64.max))=true:=h;rw[Bool.and_eq_true,decide_eq_true_eq,decide_eq_true_eq,show IntKind.i64.min = -9223372036854775808 from rfl,show IntKind.i64.max=9223372036854775807 from rfl]at h;exact⟨h.1,mD⟩
def TkM(h:Hp):Prop:=Tk h/\BE 0 niv Pg h
def TkM.tbs{h:Hp}(t:TkM h):dS Nh h:=⟨t.1,t.2,rfl,rfl⟩
def ZaW{W:World}(h:laidMetH H [("conclave/sha.numbers", Rows.laid_conclave_sha_numbers),("conclave/order.need", Rows.laid_conclave_order_need)] W):TkM W.heap:=by
 constructor
 .have h1:=h.filter (fun x=>x.1 == "conclave/sha.numbers")
  exact ZgC h1
 .have h1:=h.filter (fun x=>x.1 == "conclave/order.need")
  exact Zcy h1
def sI(os:Os)(args:Array Value):laidMetH H [("conclave/sha.numbers", Rows.laid_conclave_sha_numbers),("conclave/order.need", Rows.laid_conclave_order_need)] ((World.doorLaid H 87 os).forCall (fun _ _=>0) ⟨#[],args,[]⟩).memory:=
 laidMetH_of_parts3 (fuel:=8) (laidMet_of_run' 8 sV sV) sV sV
def sJ{h:Hp}{k:Nat}{v:Value}(hv:fit H h k 22 [v]):∃gs,Ts Gr.C 5 h v gs/\∀g∈gs,g.ok:=by
 obtain⟨gs,s,QZ,_⟩:=nJ (α:=Gr) (enc:=Gr.C) (n:=5) (ok:=fun g=>g.ok) Tryz.underlying22 sV KC (fun _=>rfl) (fun k ds hfe=>by
  have hlen:(p ds)=5:=by
   cases k with
   | zero=>exact hfe.elim
   | succ k=>unfold fit at hfe;rw[Tryz.underlying44]at hfe;exact hfe.1
  have hL:=vu (P:=H) (h:=h) 8 k 44 ds (rep 5 [3]) sV (by rw[hlen];decide) hfe;obtain⟨a0,_,rfl,q0,p0,hL⟩:=PD D hL;obtain⟨a1,_,rfl,q1,p1,hL⟩:=PD D hL;obtain⟨a2,_,rfl,q2,p2,hL⟩:=PD D hL;obtain⟨a3,_,rfl,q3,p3,hL⟩:=PD D hL;obtain⟨a4,_,rfl,q4,p4,hL⟩:=PD D hL;obtain rfl:=vw hL;have mk:∀n:Int,-9223372036854775808<=n->n<=9223372036854775807->i64 n:=fun n h1 h2=>⟨h1,mD⟩
  exact⟨⟨a0,a1,a2,a3,a4⟩,⟨⟨mk _ q0 p0,mk _ q1 p1⟩,mk _ q2 p2,mk _ q3 p3,mk _ q4 p4⟩,rfl⟩) hv
 exact⟨gs,⟨s⟩,QZ⟩
end Go.Proofs.YtnhfdnlcpdbjlaaGreatDoor
