/- Part Pak. -/
import Derived.Test.YthlfaofofaphfaaGreatDoorChw
import Derived.Test.YthlfaofofaphfaaGreatDoorW19
import Derived.Test.YthlfaofofaphfaaGreatDoorTakf
import Derived.Test.YthlfaofofaphfaaGreatDoorTape
open Go.Value renaming int→j,bool→t,slice→J
open Go.IntKind renaming i64→d
open Go.Obj renaming cells→A
open Go.Proofs.Tryz renaming underlying28→K,prog→M,underlying5→Q
open List renaming length_append→G,length→H,mem_singleton→O
open Nat renaming le_refl→D,le_trans→R
open Int renaming toNat_natCast→L
open Option renaming some→F
open Array renaming getElem?_push→N
namespace Go.Proofs.YthlfaofofaphfaaGreatDoor
open Go Go.V
set_option linter.unusedSimpArgs false
set_option linter.unusedVariables false
set_option maxRecDepth 100000
def iK:List Nat:=[99,108,105,101,110,116]
def iL:List Nat:=[105,115,115,117,101,114]
def Uz(c:Nat):List Nat:=GG [c] iK [] 32
def U9:List Nat:=GG [255] iL [] 32
theorem Of(c:Nat):(Uz c).length=32:=M7 _ _ _ aaa
theorem Og:(H U9)=32:=M7 _ _ _ aaa
def Qd(c:Int):Int:=if c<0\/7<c then 2 else 0
def yu(B:Nat)(h':Hp)(v':Value)(c:Int):Prop:=∃w,v'=.tuple [w,j d (Qd c)].toArray/\Ph w/\Bs h' w (if Qd c=0 then Uz c.toNat else [])/\∀b,Yf w=F b->B<=b
theorem Bp{h:Hp}{b:Nat}{l:List Nat}{E:TypeId}{fr:Nat × Nat}(hx:h[b]? = F (A (l.map bv).toArray E fr))(hl:∀x∈l,x<256)(c:Nat):Bs h (J (F ⟨b,0,none⟩) (H l) c) l:=by
 refine⟨⟨_,c,rfl,Hg,fun _=>⟨b,0,rfl,fun i hi=>?_⟩⟩,hl⟩;rw[SM hx,Nat.zero_add];simp;exact⟨_,List.getElem?_eq_getElem (by simpa using hi),rfl⟩
theorem G9(T:World)(h:Hp)(c:Int)(tk:Tk h):
  Zd M T 17 #[j d c] h fun v' h'=>yu h.size h' v' c/\Zk h.size h h':=by
 refine Zd.XS [_] Tryz.func17 ?_;unfold yu;by_cases e1:c<0
 .have ee:Qd c=2:=by unfold Qd;rw[if_pos (.inl e1)]
  rw[ee];simp -implicitDefEqProofs only[go_sem,e1];exact⟨_,rfl,D _,(Yx.nil 0 5 _).bs,fun b hb=>by simp[Yf]at hb⟩
 by_cases e2:7<c
 .have ee:Qd c=2:=by unfold Qd;rw[if_pos (.inr e2)]
  rw[ee];simp -implicitDefEqProofs only[go_sem,e1,e2];exact⟨_,rfl,D _,(Yx.nil 0 5 _).bs,fun b hb=>by simp[Yf]at hb⟩
 have ee:Qd c=0:=by unfold Qd;rw[if_neg nc]
 rw[ee];obtain⟨n,rfl⟩:∃n:Nat,c=n:=⟨c.toNat,nc⟩
 have ec:(n:Int)%256=(n:Int):=nc;rw[L];simp -implicitDefEqProofs only[go_sem,e1,e2,ec];have Gf:∀x∈[n],x<256:=by intro x hx;rw[O.1 hx];omega
 have Hr:∀x∈iK,x<256:=aaa;obtain⟨h1,Xk⟩:=ZQ (h.push (A (([n]:List Nat).map bv).toArray 5):Hp);have b1:Zk h.size h h1:=by rw[Xk];exact Zk.push (D _) _
 have s1:h1.size=h.size+1:=by rw[Xk];simp
 have x1:h1[h.size]? = F (A (([n]:List Nat).map bv).toArray 5):=by rw[Xk];exact Zc
 change Mx _ _ _ _ _ ((h.push (A (([n]:List Nat).map bv).toArray 5)).push (A (iK.map bv).toArray 5));rw[<-Xk];have x2:(h1.push (A (iK.map bv).toArray 5))[h.size+1]? = F (A (iK.map bv).toArray 5):=by rw[<-s1];exact Zc
 refine Da K Q x2 ?_;intro h3 fr' x3 NN;have B3:Zk (h.size+1) h1 h3:=(Zk.push nc _).trans (NN.Yy KQ (fun b e=>by have:=Option.some.inj e;omega));have x13:h3[h.size]? = F (A (([n]:List Nat).map bv).toArray 5):=B3.get nc x1;have Bh:Zk h.size h h3:=b1.trans (B3.mono nc);simp -implicitDefEqProofs only[go_sem];refine (G6 T h3 _ _ _ [n] iK [] 32 (Bp x13 Gf 1) (Bp x3 Hr 6) (Yx.nil 0 5 _).bs (tk.Qx Bh)).use ?_;rintro _ h4 ⟨⟨w4,rfl,hc4,o4,k4⟩,b4⟩;have B4:=Bh.trans (b4.mono Bh.size);have e0:J7 ([n]:List Nat).length (H iK) ([]:List Nat).length 32=0:=rfl;rw[e0,if_pos rfl,show (32:Int).toNat=32 from rfl]at o4;rw[e0];have o5:Bs h4 w4 (Uz n):=by unfold Uz;exact o4
 clear o4;generalize Uz n=KS at *;simp -implicitDefEqProofs only[go_sem,B4];exact⟨_,rfl,hc4,o5,fun b hb=>R Bh.size (k4 b hb)⟩
theorem Kr(T:World)(h:Hp)(tk:Tk h):
  Zd M T 15 #[] h fun v' h'=>(Ph v'/\Bs h' v' U9)/\Zk h.size h h':=by
 refine Zd.XS [] Tryz.func15 ?_;simp -implicitDefEqProofs only[go_sem];have Gf:∀x∈[255],x<256:=aaa;have Hr:∀x∈iL,x<256:=aaa;obtain⟨h1,Xk⟩:=ZQ (h.push (A (([255]:List Nat).map bv).toArray 5):Hp);have b1:Zk h.size h h1:=by rw[Xk];exact Zk.push (D _) _
 have s1:h1.size=h.size+1:=by rw[Xk];simp
 have x1:h1[h.size]? = F (A (([255]:List Nat).map bv).toArray 5):=by rw[Xk];exact Zc
 have x2:(h1.push (A (iL.map bv).toArray 5))[h.size+1]? = F (A (iL.map bv).toArray 5):=by rw[<-s1];exact Zc
 change Mx _ _ _ _ _ ((h.push (A (([255]:List Nat).map bv).toArray 5)).push (A (iL.map bv).toArray 5));rw[<-Xk];refine Da K Q x2 ?_;intro h3 fr' x3 NN;have B3:Zk (h.size+1) h1 h3:=(Zk.push nc _).trans (NN.Yy KQ (fun b e=>by have:=Option.some.inj e;omega));have x13:h3[h.size]? = F (A (([255]:List Nat).map bv).toArray 5):=B3.get nc x1;have Bh:Zk h.size h h3:=b1.trans (B3.mono nc);simp -implicitDefEqProofs only[go_sem];refine (G6 T h3 _ _ _ [255] iL [] 32 (Bp x13 Gf 1) (Bp x3 Hr 6) (Yx.nil 0 5 _).bs (tk.Qx Bh)).use ?_;rintro _ h4 ⟨⟨w4,rfl,hc4,o4,k4⟩,b4⟩;have B4:=Bh.trans (b4.mono Bh.size);have e0:J7 ([255]:List Nat).length (H iL) ([]:List Nat).length 32=0:=rfl;rw[e0,if_pos rfl,show (32:Int).toNat=32 from rfl]at o4;rw[e0];have o5:Bs h4 w4 U9:=by unfold U9;exact o4
 clear o4;generalize U9=KS at *;simp -implicitDefEqProofs only[go_sem,B4];exact⟨hc4,o5⟩
theorem ZgO{x:Option Nat}{h h':Hp}{v:Value}{l:List Nat}(s:Bs h v l)(hc:Ph v)(a:Rt x h h')(hx:∀b,Yf v=F b->x≠F b):Bs h' v l:=by
 obtain⟨⟨p,cap,rfl,hl,XE⟩,hb⟩:=s;refine⟨⟨p,cap,rfl,hl,fun Y4=>?_⟩,hb⟩;obtain⟨b,o,rfl,MM⟩:=XE Y4;refine⟨b,o,rfl,fun i hi=>?_⟩;have h1:=MM i hi;have hc':(H l)<=cap:=hc;have H5:0<(H l):=by
  cases l with
  | nil=>exact (Y4 rfl).elim
  | cons x l=>simp
 have vA:h'[b]? = h[b]?:=a.block b (WZ h1) (hx b (by simp only[Yf];rw[if_neg nc]));unfold V.hc at h1 ⊢;rw[vA];exact h1
def QK(n c r u k cl s nm v:Int):Int:=if ¬(0<=n/\n<=1073741823) then 2 else if Vw 32 c r u≠0 then Vw 32 c r u else YE k cl s nm v
def bm(c r u k cl s nm v:Int):List Nat:=Ra U9 c.toNat r.toNat u.toNat++ZC [k.toNat,cl.toNat,s.toNat,nm.toNat,v.toNat]
def Hb(n c r u k cl s nm v:Int):List Nat:=cl.toNat :: Tp (Uz cl.toNat) n.toNat (bm c r u k cl s nm v)
theorem bq{n:Int}(h0:0<=n)(h1:n<=1073741823){m:Nat}(hm:m<=2000):Sd 32 n 0 JK m=0:=by
 have e:Jc 32 n 0 JK=0:=by
  unfold Jc;rw[show early 0 JK 8=false from rfl];simp;omega
 unfold Sd;rw[e,if_neg Hg,if_neg nc,if_neg nc]
theorem EH{k c s n v:Int}(h:YE k c s n v=0):0<=c/\c<=7:=by
 unfold YE at h
 repeat' split at h
 all_goals omega
theorem ZgP(kl:List Nat)(n:Nat)(plain:List Nat):(Tp kl n plain).length<=(H plain)+20:=by
 unfold Tp S6;have l1:=Ju kl 1 (XL (YH n)) plain;have l2:(QA kl (XL (YH n)) (YH n) (U3 kl 1 (XL (YH n)) plain)).length<=16:=HF _ _;rw[G,G,l1];have l3:(YH n).length=4:=rfl;omega
def ZcO(B:Nat)(h':Hp)(v':Value)(n c r u k cl s nm v:Int):Prop:=∃w,v'=.tuple [w,j d (QK n c r u k cl s nm v)].toArray/\Yx B 5 h' w (if QK n c r u k cl s nm v=0 then Hb n c r u k cl s nm v else [])
theorem lX(T:World)(h:Hp)(n c r u k cl s nm v:Int)(tk:Tk h):
  Zd M T 6 #[j d n,.agg (Pj c r u).toArray,.agg (QW k cl s nm v).toArray] h fun v' h'=>ZcO h.size h' v' n c r u k cl s nm v/\Zk h.size h h':=by
 refine Zd.XS [_,_,_] Tryz.func6 ?_;unfold ZcO Pj QW;by_cases q:0<=n/\n<=1073741823
 case neg=>
  have ee:QK n c r u k cl s nm v=2:=by unfold QK;rw[if_pos q]
  rw[ee];by_cases q0:n<0
  .simp -implicitDefEqProofs only[go_sem,q0];exact⟨_,rfl,Yx.nil _ 5 _⟩
  .have q1:1073741824<=n:=by omega
   simp -implicitDefEqProofs only[go_sem,q0,q1];exact⟨_,rfl,Yx.nil _ 5 _⟩
 obtain⟨q0,q1⟩:=q;have qn0:¬n<0:=by omega
 have qn1:¬(1073741824:Int)<=n:=by omega
 obtain⟨h0,Qn⟩:=ZQ ((h.push (A [j d c,j d r,j d u].toArray 33)).push (A [j d k,j d cl,j d s,j d nm,j d v].toArray 25):Hp);have b0:Zk h.size h h0:=by rw[Qn];exact ((Zk.refl _ _).add _).add _
 have s0:h0.size=h.size+2:=by rw[Qn];simp
 have t0:h0[h.size]? = F (A [j d c,j d r,j d u].toArray 33):=by
  rw[Qn,N,if_neg (by simp),Zc]
 have c0:h0[h.size+1]? = F (A [j d k,j d cl,j d s,j d nm,j d v].toArray 25):=by
  rw[Qn,N,if_pos (by simp)]
 have e0:(h.push (A #[Value.int d c,j d r,j d u] 33)).push (A #[Value.int d k,j d cl,j d s,j d nm,j d v] 25)=h0:=Qn.symm;have e0':(h.push (A [Value.int d c,j d r,j d u].toArray 33)).push (A [Value.int d k,j d cl,j d s,j d nm,j d v].toArray 25)=h0:=Qn.symm;simp -implicitDefEqProofs only[go_sem,qn0,qn1]
 first|rw[e0]|rw[e0']
 clear e0 e0' Qn;have r0:rd h0 ⟨h.size,0,none⟩ 3=F [j d c,j d r,j d u]:=Zy t0 rfl;have k0:h.size<h0.size:=by omega
 refine VS.w (h0.size) [] (.q 1 (.s 0 (.s 2 (.q 3 (.q 4 (.q 5 (.q 6 (.q 7 .nil)))))))) mixed (by kernel_rfl) ?_;simp -implicitDefEqProofs only[go_sem,r0,k0];refine (Kr T h0 (tk.Qx b0)).use ?_;rintro wi h1 ⟨⟨ci,si⟩,b1⟩;have B1:=b0.trans (b1.mono b0.size);have s1:=b1.size;simp -implicitDefEqProofs only[go_sem,b1];have ht:Zd M T 14 #[wi,.agg #[j d c,j d r,j d u]] h1 fun v' h'=>iI h1.size h' v' U9 c r u/\Zk h1.size h1 h':=yh T h1 wi U9 c r u si (tk.Qx B1);refine ht.use ?_;rintro _ h2 ⟨⟨w2,rfl,o2⟩,b2⟩;have B2:=B1.trans (b2.mono B1.size);have s2:=b2.size;have b02:Zk h0.size h0 h2:=b1.trans (b2.mono s1);rw[Og]at o2;rw[Og];by_cases g:Vw 32 c r u=0
 case neg=>
  have ee:QK n c r u k cl s nm v=Vw 32 c r u:=by unfold QK;rw[if_neg (fun hn=>hn ⟨q0,q1⟩),if_pos g]
  rw[ee,if_neg g];obtain⟨E,hE⟩:=ZQ (Vw 32 c r u);rw[<-hE]at g ⊢;simp -implicitDefEqProofs only[go_sem,b02,g];exact⟨⟨_,rfl,Yx.nil _ 5 _⟩,B2⟩
 rw[g,if_pos rfl]at o2;rw[g];have ee:QK n c r u k cl s nm v=YE k cl s nm v:=by unfold QK;rw[if_neg (fun hn=>hn ⟨q0,q1⟩),if_neg (fun hn=>hn g)]
 rw[ee];have c2:=b02.get (by omega) c0;have r2:rd h2 ⟨h.size+1,0,none⟩ 5=F [j d k,j d cl,j d s,j d nm,j d v]:=Zy c2 rfl;simp -implicitDefEqProofs only[go_sem,b02,r2];have he:Zd M T 16 #[.agg #[j d k,j d cl,j d s,j d nm,j d v]] h2 fun v' h'=>gD h' v' k cl s nm v/\Zk h2.size h2 h':=Kc T h2 k cl s nm v;refine he.use ?_;rintro _ h3 ⟨⟨w3,rfl,o3⟩,b3⟩;have B3:=B2.trans (b3.mono B2.size);have s3:=b3.size;by_cases e:YE k cl s nm v=0
 case neg=>
  rw[if_neg e];obtain⟨E,hE⟩:=ZQ (YE k cl s nm v);rw[<-hE]at e ⊢;simp -implicitDefEqProofs only[go_sem,e];exact⟨⟨_,rfl,Yx.nil _ 5 _⟩,B3⟩
 rw[e,if_pos rfl]at o3;rw[e];obtain⟨cl0,cl7⟩:=EH e;have ke:Qd cl=0:=by unfold Qd;rw[if_neg (by omega)]
 have c3:=b3.get (by omega) c2;have rc3:V.hc h3 ⟨h.size+1,1,none⟩=F (j d cl):=by rw[Zn c3];rfl
 simp -implicitDefEqProofs only[go_sem,rc3];refine (G9 T h3 cl (tk.Qx B3)).use ?_;rintro _ h4 ⟨⟨w4,rfl,k4,o4,f4⟩,b4⟩;rw[ke,if_pos rfl]at o4;rw[ke];obtain⟨p4,c4,rfl,hc4⟩:=o4.open;have B4:=B3.trans (b4.mono B3.size);have s4:=b4.size;have o24:=(o2.Yy b3 (D _)).Yy b4 (D _);have o34:=o3.Yy b4;have l2:(Ra U9 c.toNat r.toNat u.toNat).length=22:=Qo _ _ _ _;have l3:(ZC [k.toNat,cl.toNat,s.toNat,nm.toNat,v.toNat]).length=20:=by rw[ZM];rfl
 have ep:bm c r u k cl s nm v=Ra U9 c.toNat r.toNat u.toNat++ZC [k.toNat,cl.toNat,s.toNat,nm.toNat,v.toNat]:=rfl;have ZtF:=o2.Zq.lt;generalize Ra U9 c.toNat r.toNat u.toNat=PR at *;generalize ZC [k.toNat,cl.toNat,s.toNat,nm.toNat,v.toNat]=CB at *;simp -implicitDefEqProofs only[go_sem];refine Uu (E:=5) (B:=h1.size) Xg K Ti T4 T3 o24 (by omega) o34 (by omega) ?_;intro w5 h5 o5 b5 bt5 _;have s5:=b5.size;have B5:Zk h.size h h5:=B4.trans (b5.mono (by omega));have o4':Bs h5 (J p4 (Uz cl.toNat).length c4) (Uz cl.toNat):=ZgO o4 k4 bt5 (fun b hb e=>by
  have q1:=f4 b hb;have q2:=ZtF b e;omega)
 have lk:=Of cl.toNat;have eS:Hb n c r u k cl s nm v=cl.toNat :: Tp (Uz cl.toNat) n.toNat (PR++CB):=by unfold Hb;rw[ep]
 have se:Sd (Uz cl.toNat).length n 0 JK (PR++CB).length=0:=by rw[lk];exact bq q0 q1 (by rw[G];omega)
 simp -implicitDefEqProofs only[go_sem];have ZtG:Zd M T 18 #[.agg #[J p4 (Uz cl.toNat).length c4,j d n,j d 0,t false,t false,t false,t false,t false,t false,t false,t false],w5] h5 fun v' h'=>Be h5.size h' v' (Uz cl.toNat) n 0 JK (PR++CB)/\Zk h5.size h5 h':=aP T h5 _ w5 (Uz cl.toNat) (PR++CB) n 0 JK rfl o4' o5.bs k4;refine ZtG.use ?_;rintro _ h6 ⟨⟨cw,w6,rfl,⟨w7,rfl,o7⟩,o6⟩,b6⟩;rw[se,if_pos rfl]at o6;rw[se,if_pos rfl]at o7;rw[se];have s6:=b6.size;have B6:Zk h.size h h6:=B5.trans (b6.mono (by omega));have c6:=b6.get (by omega) ((b5.mono (B':=h0.size) (by omega)).get (by omega) (b4.get (by omega) c3));have rc6:V.hc h6 ⟨h.size+1,1,none⟩=F (j d cl):=by rw[Zn c6];rfl
 obtain⟨p7,c7,rfl,_⟩:=o7.open;obtain⟨x,rfl⟩:∃x:Nat,cl=x:=⟨cl.toNat,by omega⟩
 have ec:(x:Int)%256=(x:Int):=by omega
 have ZtH:¬h.size+1=h6.size:=by omega
 have eN:JK.map Value.bool=[t false,t false,t false,t false,t false,t false,t false,t false]:=rfl;have ez:((0:Int)=0)=True:=eq_self 0;simp only[ez,if_true];unfold Yc;rw[eN];rw[L]at eS o6;have UY:∀y∈[x],y<256:=by intro y hy;rw[O.1 hy];omega
 rw[show ((x:Nat):Int).toNat=x from L x]at *;simp -implicitDefEqProofs only[go_sem,rc6,ZtH,ec];obtain⟨h7,hh7⟩:=ZQ (h6.push (A [J p7 (Uz x).length c7,j d (n+1),j d 0,t false,t false,t false,t false,t false,t false,t false,t false].toArray 66):Hp);have e7:h6.push (A #[Value.slice p7 (Uz x).length c7,j d (n+1),j d 0,t false,t false,t false,t false,t false,t false,t false,t false] 66)=h7:=hh7.symm;rw[e7];have b7:Zk h6.size h6 h7:=by rw[hh7];exact Zk.push (D _) _
 have s7:h7.size=h6.size+1:=by rw[hh7];simp
 have q7:h6.size+1=h7.size:=s7.symm;clear e7 hh7;have B7:=B6.trans (b7.mono (by omega));have o1:Yx h7.size 5 (h7.push (A (([x]:List Nat).map bv).toArray 5)) (J (F ⟨h7.size,0,none⟩) 1 1) [x]:=Yx.made UY (D _);have bp:Zk h7.size h7 (h7.push (A (([x]:List Nat).map bv).toArray 5)):=Zk.push (D _) _;have lr:(Tp (Uz x) n.toNat (PR++CB)).length<=1000000:=R (ZgP _ _ _) (by rw[G];omega)
 try rw[q7]
 refine ZK (E:=5) (B:=h7.size) Xg K Ti T4 T3 o1 (by simp) ((o6.bs.Yy b7).Yy bp) (by simp;omega) ?_;intro w8 h8 o8 b8 _;simp -implicitDefEqProofs only[go_sem];rw[eS];exact⟨⟨_,rfl,o8.mono B7.size⟩,B7.trans (((bp.trans b8)).mono (by omega))⟩
end Go.Proofs.YthlfaofofaphfaaGreatDoor
