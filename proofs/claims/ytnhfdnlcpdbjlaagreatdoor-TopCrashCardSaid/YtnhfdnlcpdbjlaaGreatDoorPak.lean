/- Part Pak. -/
import Derived.Test.YtnhfdnlcpdbjlaaGreatDoorChw
import Derived.Test.YtnhfdnlcpdbjlaaGreatDoorW19
import Derived.Test.YtnhfdnlcpdbjlaaGreatDoorTakf
import Derived.Test.YtnhfdnlcpdbjlaaGreatDoorLchks
open Go.Value renaming int→j,bool→t,slice→J
open Go.IntKind renaming i64→d
open Go.Obj renaming cells→A
open Go.Proofs.Tryz renaming underlying34→K,prog→M,underlying5→Q
open List renaming length_append→G,length→H,mem_singleton→O
open Nat renaming le_refl→D,le_trans→R
open Int renaming toNat_natCast→L
open Option renaming some→F
open Array renaming getElem?_push→N
namespace Go.Proofs.YtnhfdnlcpdbjlaaGreatDoor
open Go Go.V
set_option linter.all false
set_option maxRecDepth 100000
def iH:List Nat:=[99,108,105,101,110,116]
def iI:List Nat:=[105,115,115,117,101,114]
def WO(c:Nat):List Nat:=Gp [c] iH [] 32
def Sr:List Nat:=Gp [255] iI [] 32
theorem Il(c:Nat):(WO c).length=32:=MV _ _ _ KC
theorem In:(H Sr)=32:=MV _ _ _ KC
def Qm(c:Int):Int:=if c<0\/7<c then 2 else 0
def xY(B:Nat)(h':Hp)(v':Value)(c:Int):Prop:=∃w,v'=.tuple [w,j d (Qm c)].toArray/\Pj w/\Bs h' w (if Qm c=0 then WO c.toNat else [])/\∀b,Ya w=F b->B<=b
theorem CW{h:Hp}{b:Nat}{l:List Nat}{E:TypeId}{fr:Nat × Nat}(hx:h[b]? = F (A (l.map bv).toArray E fr))(hl:∀x∈l,x<256)(c:Nat):Bs h (J (F ⟨b,0,none⟩) (H l) c) l:=by
 refine⟨⟨_,c,rfl,sW,fun _=>⟨b,0,rfl,fun i hi=>?_⟩⟩,hl⟩;rw[SG hx,Nat.zero_add];simp;exact⟨_,List.getElem?_eq_getElem (by simpa using hi),rfl⟩
theorem GJ(T:World)(h:Hp)(c:Int)(tk:Tk h):
  Zg M T 34 #[j d c] h fun v' h'=>xY h.size h' v' c/\Zk h.size h h':=by
 refine Zg.XK [_] Tryz.func34 ?_;unfold xY;by_cases e1:c<0
 .have ee:Qm c=2:=by unfold Qm;rw[if_pos (.inl e1)]
  rw[ee];simp -implicitDefEqProofs only[go_sem,e1];exact⟨_,rfl,D _,(YB.nil 0 5 _).bs,fun b hb=>by simp[Ya]at hb⟩
 by_cases e2:7<c
 .have ee:Qm c=2:=by unfold Qm;rw[if_pos (.inr e2)]
  rw[ee];simp -implicitDefEqProofs only[go_sem,e1,e2];exact⟨_,rfl,D _,(YB.nil 0 5 _).bs,fun b hb=>by simp[Ya]at hb⟩
 have ee:Qm c=0:=by unfold Qm;rw[if_neg mD]
 rw[ee];obtain⟨n,rfl⟩:∃n:Nat,c=n:=⟨c.toNat,mD⟩
 have ec:(n:Int)%256=(n:Int):=mD;rw[L];simp -implicitDefEqProofs only[go_sem,e1,e2,ec];have D6:∀x∈[n],x<256:=by intro x hx;rw[O.1 hx];omega
 have EF:∀x∈iH,x<256:=KC;obtain⟨h1,Xp⟩:=ZP (h.push (A (([n]:List Nat).map bv).toArray 5):Hp);have b1:Zk h.size h h1:=by rw[Xp];exact Zk.push (D _) _
 have s1:h1.size=h.size+1:=by rw[Xp];simp
 have x1:h1[h.size]? = F (A (([n]:List Nat).map bv).toArray 5):=by rw[Xp];exact Zd
 change MB _ _ _ _ _ ((h.push (A (([n]:List Nat).map bv).toArray 5)).push (A (iH.map bv).toArray 5));rw[<-Xp];have x2:(h1.push (A (iH.map bv).toArray 5))[h.size+1]? = F (A (iH.map bv).toArray 5):=by rw[<-s1];exact Zd
 refine ES K Q x2 ?_;intro h3 fr' x3 NQ;have B3:Zk (h.size+1) h1 h3:=(Zk.push mD _).trans (NQ.YJ vI (fun b e=>by have:=Option.some.inj e;omega));have x13:h3[h.size]? = F (A (([n]:List Nat).map bv).toArray 5):=B3.get mD x1;have Bh:Zk h.size h h3:=b1.trans (B3.mono mD);simp -implicitDefEqProofs only[go_sem];refine (GH T h3 _ _ _ [n] iH [] 32 (CW x13 D6 1) (CW x3 EF 6) (YB.nil 0 5 _).bs (tk.QH Bh)).use ?_;rintro _ h4 ⟨⟨w4,rfl,hc4,o4,k4⟩,b4⟩;have B4:=Bh.trans (b4.mono Bh.size);have e0:JS ([n]:List Nat).length (H iH) ([]:List Nat).length 32=0:=rfl;rw[e0,if_pos rfl,show (32:Int).toNat=32 from rfl]at o4;rw[e0];have o5:Bs h4 w4 (WO n):=by unfold WO;exact o4
 clear o4;generalize WO n=KS at *;simp -implicitDefEqProofs only[go_sem,B4];exact⟨_,rfl,hc4,o5,fun b hb=>R Bh.size (k4 b hb)⟩
theorem Kh(T:World)(h:Hp)(tk:Tk h):
  Zg M T 32 #[] h fun v' h'=>(Pj v'/\Bs h' v' Sr)/\Zk h.size h h':=by
 refine Zg.XK [] Tryz.func32 ?_;simp -implicitDefEqProofs only[go_sem];have D6:∀x∈[255],x<256:=KC;have EF:∀x∈iI,x<256:=KC;obtain⟨h1,Xp⟩:=ZP (h.push (A (([255]:List Nat).map bv).toArray 5):Hp);have b1:Zk h.size h h1:=by rw[Xp];exact Zk.push (D _) _
 have s1:h1.size=h.size+1:=by rw[Xp];simp
 have x1:h1[h.size]? = F (A (([255]:List Nat).map bv).toArray 5):=by rw[Xp];exact Zd
 have x2:(h1.push (A (iI.map bv).toArray 5))[h.size+1]? = F (A (iI.map bv).toArray 5):=by rw[<-s1];exact Zd
 change MB _ _ _ _ _ ((h.push (A (([255]:List Nat).map bv).toArray 5)).push (A (iI.map bv).toArray 5));rw[<-Xp];refine ES K Q x2 ?_;intro h3 fr' x3 NQ;have B3:Zk (h.size+1) h1 h3:=(Zk.push mD _).trans (NQ.YJ vI (fun b e=>by have:=Option.some.inj e;omega));have x13:h3[h.size]? = F (A (([255]:List Nat).map bv).toArray 5):=B3.get mD x1;have Bh:Zk h.size h h3:=b1.trans (B3.mono mD);simp -implicitDefEqProofs only[go_sem];refine (GH T h3 _ _ _ [255] iI [] 32 (CW x13 D6 1) (CW x3 EF 6) (YB.nil 0 5 _).bs (tk.QH Bh)).use ?_;rintro _ h4 ⟨⟨w4,rfl,hc4,o4,k4⟩,b4⟩;have B4:=Bh.trans (b4.mono Bh.size);have e0:JS ([255]:List Nat).length (H iI) ([]:List Nat).length 32=0:=rfl;rw[e0,if_pos rfl,show (32:Int).toNat=32 from rfl]at o4;rw[e0];have o5:Bs h4 w4 Sr:=by unfold Sr;exact o4
 clear o4;generalize Sr=KS at *;simp -implicitDefEqProofs only[go_sem,B4];exact⟨hc4,o5⟩
theorem ZgN{x:Option Nat}{h h':Hp}{v:Value}{l:List Nat}(s:Bs h v l)(hc:Pj v)(a:Rs x h h')(hx:∀b,Ya v=F b->x≠F b):Bs h' v l:=by
 obtain⟨⟨p,cap,rfl,hl,XH⟩,hb⟩:=s;refine⟨⟨p,cap,rfl,hl,fun Xb=>?_⟩,hb⟩;obtain⟨b,o,rfl,MN⟩:=XH Xb;refine⟨b,o,rfl,fun i hi=>?_⟩;have h1:=MN i hi;have hc':(H l)<=cap:=hc;have HE:0<(H l):=by
  cases l with
  | nil=>exact (Xb rfl).elim
  | cons x l=>simp
 have vf:h'[b]? = h[b]?:=a.block b (WF h1) (hx b (by simp only[Ya];rw[if_neg mD]));unfold V.hc at h1 ⊢;rw[vf];exact h1
def Ss(n c r u k cl s nm v:Int):Int:=if ¬(0<=n/\n<=1073741823) then 2 else if V7 32 c r u≠0 then V7 32 c r u else XB k cl s nm v
def ya(c r u k cl s nm v:Int):List Nat:=aN Sr c.toNat r.toNat u.toNat++ZK [k.toNat,cl.toNat,s.toNat,nm.toNat,v.toNat]
def pN(n c r u k cl s nm v:Int):List Nat:=cl.toNat :: ix (WO cl.toNat) n.toNat (ya c r u k cl s nm v)
theorem aR{n:Int}(h0:0<=n)(h1:n<=1073741823){m:Nat}(hm:m<=2000):Sa 32 n 0 Ql m=0:=by
 have e:Jg 32 n 0 Ql=0:=by
  unfold Jg;rw[show early 0 Ql 8=false from rfl];simp;omega
 unfold Sa;rw[e,if_neg sW,if_neg mD,if_neg mD]
theorem Eu{k c s n v:Int}(h:XB k c s n v=0):0<=c/\c<=7:=by
 unfold XB at h
 repeat' split at h
 all_goals omega
theorem yc(kl:List Nat)(n:Nat)(plain:List Nat):(ix kl n plain).length<=(H plain)+20:=by
 unfold ix Dh;have l1:=T6 kl 1 (Qk (XJ n)) plain;have l2:(UR kl (Qk (XJ n)) (XJ n) (MW kl 1 (Qk (XJ n)) plain)).length<=16:=Hg _ _;rw[G,G,l1];have l3:(XJ n).length=4:=rfl;omega
def Zlm(B:Nat)(h':Hp)(v':Value)(n c r u k cl s nm v:Int):Prop:=∃w,v'=.tuple [w,j d (Ss n c r u k cl s nm v)].toArray/\YB B 5 h' w (if Ss n c r u k cl s nm v=0 then pN n c r u k cl s nm v else [])
theorem ZcL(T:World)(h:Hp)(n c r u k cl s nm v:Int)(tk:Tk h):
  Zg M T 20 #[j d n,.agg (Rx c r u).toArray,.agg (UL k cl s nm v).toArray] h fun v' h'=>Zlm h.size h' v' n c r u k cl s nm v/\Zk h.size h h':=by
 refine Zg.XK [_,_,_] Tryz.func20 ?_;unfold Zlm Rx UL;by_cases q:0<=n/\n<=1073741823
 case neg=>
  have ee:Ss n c r u k cl s nm v=2:=by unfold Ss;rw[if_pos q]
  rw[ee];by_cases q0:n<0
  .simp -implicitDefEqProofs only[go_sem,q0];exact⟨_,rfl,YB.nil _ 5 _⟩
  .have q1:1073741824<=n:=by omega
   simp -implicitDefEqProofs only[go_sem,q0,q1];exact⟨_,rfl,YB.nil _ 5 _⟩
 obtain⟨q0,q1⟩:=q;have qn0:¬n<0:=by omega
 have qn1:¬(1073741824:Int)<=n:=by omega
 obtain⟨h0,J9⟩:=ZP ((h.push (A [j d c,j d r,j d u].toArray 82)).push (A [j d k,j d cl,j d s,j d nm,j d v].toArray 49):Hp);have b0:Zk h.size h h0:=by rw[J9];exact ((Zk.refl _ _).add _).add _
 have s0:h0.size=h.size+2:=by rw[J9];simp
 have t0:h0[h.size]? = F (A [j d c,j d r,j d u].toArray 82):=by
  rw[J9,N,if_neg (by simp),Zd]
 have c0:h0[h.size+1]? = F (A [j d k,j d cl,j d s,j d nm,j d v].toArray 49):=by
  rw[J9,N,if_pos (by simp)]
 have e0:(h.push (A #[Value.int d c,j d r,j d u] 82)).push (A #[Value.int d k,j d cl,j d s,j d nm,j d v] 49)=h0:=J9.symm;have e0':(h.push (A [Value.int d c,j d r,j d u].toArray 82)).push (A [Value.int d k,j d cl,j d s,j d nm,j d v].toArray 49)=h0:=J9.symm;simp -implicitDefEqProofs only[go_sem,qn0,qn1]
 first|rw[e0]|rw[e0']
 clear e0 e0' J9;have r0:rd h0 ⟨h.size,0,none⟩ 3=F [j d c,j d r,j d u]:=ZA t0 rfl;have k0:h.size<h0.size:=by omega
 refine VS.z (h0.size) [] (.q 1 (.s 0 (.s 2 (.p 3 (.p 4 (.p 5 (.p 6 (.p 7 .nil)))))))) mixed (by kernel_rfl) ?_;simp -implicitDefEqProofs only[go_sem,r0,k0];refine (Kh T h0 (tk.QH b0)).use ?_;rintro wi h1 ⟨⟨ci,si⟩,b1⟩;have B1:=b0.trans (b1.mono b0.size);have s1:=b1.size;simp -implicitDefEqProofs only[go_sem,b1];have ht:Zg M T 31 #[wi,.agg #[j d c,j d r,j d u]] h1 fun v' h'=>iF h1.size h' v' Sr c r u/\Zk h1.size h1 h':=xV T h1 wi Sr c r u si (tk.QH B1);refine ht.use ?_;rintro _ h2 ⟨⟨w2,rfl,o2⟩,b2⟩;have B2:=B1.trans (b2.mono B1.size);have s2:=b2.size;have b02:Zk h0.size h0 h2:=b1.trans (b2.mono s1);rw[In]at o2;rw[In];by_cases g:V7 32 c r u=0
 case neg=>
  have ee:Ss n c r u k cl s nm v=V7 32 c r u:=by unfold Ss;rw[if_neg (fun hn=>hn ⟨q0,q1⟩),if_pos g]
  rw[ee,if_neg g];obtain⟨E,hE⟩:=ZP (V7 32 c r u);rw[<-hE]at g ⊢;simp -implicitDefEqProofs only[go_sem,b02,g];exact⟨⟨_,rfl,YB.nil _ 5 _⟩,B2⟩
 rw[g,if_pos rfl]at o2;rw[g];have ee:Ss n c r u k cl s nm v=XB k cl s nm v:=by unfold Ss;rw[if_neg (fun hn=>hn ⟨q0,q1⟩),if_neg (fun hn=>hn g)]
 rw[ee];have c2:=b02.get (by omega) c0;have r2:rd h2 ⟨h.size+1,0,none⟩ 5=F [j d k,j d cl,j d s,j d nm,j d v]:=ZA c2 rfl;simp -implicitDefEqProofs only[go_sem,b02,r2];have he:Zg M T 33 #[.agg #[j d k,j d cl,j d s,j d nm,j d v]] h2 fun v' h'=>gC h' v' k cl s nm v/\Zk h2.size h2 h':=EX T h2 k cl s nm v;refine he.use ?_;rintro _ h3 ⟨⟨w3,rfl,o3⟩,b3⟩;have B3:=B2.trans (b3.mono B2.size);have s3:=b3.size;by_cases e:XB k cl s nm v=0
 case neg=>
  rw[if_neg e];obtain⟨E,hE⟩:=ZP (XB k cl s nm v);rw[<-hE]at e ⊢;simp -implicitDefEqProofs only[go_sem,e];exact⟨⟨_,rfl,YB.nil _ 5 _⟩,B3⟩
 rw[e,if_pos rfl]at o3;rw[e];obtain⟨cl0,cl7⟩:=Eu e;have ke:Qm cl=0:=by unfold Qm;rw[if_neg (by omega)]
 have c3:=b3.get (by omega) c2;have rc3:V.hc h3 ⟨h.size+1,1,none⟩=F (j d cl):=by rw[Zn c3];rfl
 simp -implicitDefEqProofs only[go_sem,rc3];refine (GJ T h3 cl (tk.QH B3)).use ?_;rintro _ h4 ⟨⟨w4,rfl,k4,o4,f4⟩,b4⟩;rw[ke,if_pos rfl]at o4;rw[ke];obtain⟨p4,c4,rfl,hc4⟩:=o4.open;have B4:=B3.trans (b4.mono B3.size);have s4:=b4.size;have o24:=(o2.YJ b3 (D _)).YJ b4 (D _);have o34:=o3.YJ b4;have l2:(aN Sr c.toNat r.toNat u.toNat).length=22:=Ik _ _ _ _;have l3:(ZK [k.toNat,cl.toNat,s.toNat,nm.toNat,v.toNat]).length=20:=by rw[ZW];rfl
 have ep:ya c r u k cl s nm v=aN Sr c.toNat r.toNat u.toNat++ZK [k.toNat,cl.toNat,s.toNat,nm.toNat,v.toNat]:=rfl;have ZtF:=o2.Zr.lt;generalize aN Sr c.toNat r.toNat u.toNat=PR at *;generalize ZK [k.toNat,cl.toNat,s.toNat,nm.toNat,v.toNat]=CB at *;simp -implicitDefEqProofs only[go_sem];refine Uj (E:=5) (B:=h1.size) Xn K TX SN SM o24 (by omega) o34 (by omega) ?_;intro w5 h5 o5 b5 bt5 _;have s5:=b5.size;have B5:Zk h.size h h5:=B4.trans (b5.mono (by omega));have o4':Bs h5 (J p4 (WO cl.toNat).length c4) (WO cl.toNat):=ZgN o4 k4 bt5 (fun b hb e=>by
  have q1:=f4 b hb;have q2:=ZtF b e;omega)
 have lk:=Il cl.toNat;have eS:pN n c r u k cl s nm v=cl.toNat :: ix (WO cl.toNat) n.toNat (PR++CB):=by unfold pN;rw[ep]
 have se:Sa (WO cl.toNat).length n 0 Ql (PR++CB).length=0:=by rw[lk];exact aR q0 q1 (by rw[G];omega)
 simp -implicitDefEqProofs only[go_sem];have ZtG:Zg M T 35 #[.agg #[J p4 (WO cl.toNat).length c4,j d n,j d 0,t false,t false,t false,t false,t false,t false,t false,t false],w5] h5 fun v' h'=>CR h5.size h' v' (WO cl.toNat) n 0 Ql (PR++CB)/\Zk h5.size h5 h':=aC T h5 _ w5 (WO cl.toNat) (PR++CB) n 0 Ql rfl o4' o5.bs k4;refine ZtG.use ?_;rintro _ h6 ⟨⟨cw,w6,rfl,⟨w7,rfl,o7⟩,o6⟩,b6⟩;rw[se,if_pos rfl]at o6;rw[se,if_pos rfl]at o7;rw[se];have s6:=b6.size;have B6:Zk h.size h h6:=B5.trans (b6.mono (by omega));have c6:=b6.get (by omega) ((b5.mono (B':=h0.size) (by omega)).get (by omega) (b4.get (by omega) c3));have rc6:V.hc h6 ⟨h.size+1,1,none⟩=F (j d cl):=by rw[Zn c6];rfl
 obtain⟨p7,c7,rfl,_⟩:=o7.open;obtain⟨x,rfl⟩:∃x:Nat,cl=x:=⟨cl.toNat,by omega⟩
 have ec:(x:Int)%256=(x:Int):=by omega
 have ZtH:¬h.size+1=h6.size:=by omega
 have eN:Ql.map Value.bool=[t false,t false,t false,t false,t false,t false,t false,t false]:=rfl;have ez:((0:Int)=0)=True:=eq_self 0;simp only[ez,if_true];unfold Yc;rw[eN];rw[L]at eS o6;have UO:∀y∈[x],y<256:=by intro y hy;rw[O.1 hy];omega
 rw[show ((x:Nat):Int).toNat=x from L x]at *;simp -implicitDefEqProofs only[go_sem,rc6,ZtH,ec];obtain⟨h7,hh7⟩:=ZP (h6.push (A [J p7 (WO x).length c7,j d (n+1),j d 0,t false,t false,t false,t false,t false,t false,t false,t false].toArray 111):Hp);have e7:h6.push (A #[Value.slice p7 (WO x).length c7,j d (n+1),j d 0,t false,t false,t false,t false,t false,t false,t false,t false] 111)=h7:=hh7.symm;rw[e7];have b7:Zk h6.size h6 h7:=by rw[hh7];exact Zk.push (D _) _
 have s7:h7.size=h6.size+1:=by rw[hh7];simp
 have q7:h6.size+1=h7.size:=s7.symm;clear e7 hh7;have B7:=B6.trans (b7.mono (by omega));have o1:YB h7.size 5 (h7.push (A (([x]:List Nat).map bv).toArray 5)) (J (F ⟨h7.size,0,none⟩) 1 1) [x]:=YB.made UO (D _);have bp:Zk h7.size h7 (h7.push (A (([x]:List Nat).map bv).toArray 5)):=Zk.push (D _) _;have lr:(ix (WO x) n.toNat (PR++CB)).length<=1000000:=R (yc _ _ _) (by rw[G];omega)
 try rw[q7]
 refine ZR (E:=5) (B:=h7.size) Xn K TX SN SM o1 (by simp) ((o6.bs.YJ b7).YJ bp) (by simp;omega) ?_;intro w8 h8 o8 b8 _;simp -implicitDefEqProofs only[go_sem];rw[eS];exact⟨⟨_,rfl,o8.mono B7.size⟩,B7.trans (((bp.trans b8)).mono (by omega))⟩
end Go.Proofs.YtnhfdnlcpdbjlaaGreatDoor
