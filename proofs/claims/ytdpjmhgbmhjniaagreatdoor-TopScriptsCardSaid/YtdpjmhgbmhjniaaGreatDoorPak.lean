/- Part Pak. -/
import Derived.Test.YtdpjmhgbmhjniaaGreatDoorChw
import Derived.Test.YtdpjmhgbmhjniaaGreatDoorW19
import Derived.Test.YtdpjmhgbmhjniaaGreatDoorTakf
import Derived.Test.YtdpjmhgbmhjniaaGreatDoorTape
open Go.Value renaming int→j,bool→t,slice→J
open Go.IntKind renaming i64→d
open Go.Obj renaming cells→A
open Go.Proofs.Tryz renaming underlying39→K,prog→M,underlying5→Q
open List renaming length_append→G,length→H,mem_singleton→O
open Nat renaming le_refl→D,le_trans→R
open Int renaming toNat_natCast→L
open Option renaming some→F
open Array renaming getElem?_push→N
namespace Go.Proofs.YtdpjmhgbmhjniaaGreatDoor
open Go Go.V
set_option linter.all false
set_option maxRecDepth 100000
def cQ:List Nat:=[99,108,105,101,110,116]
def cR:List Nat:=[105,115,115,117,101,114]
def Wk(c:Nat):List Nat:=IA [c] cQ [] 32
def T2:List Nat:=IA [255] cR [] 32
theorem Lq(c:Nat):(Wk c).length=32:=Na _ _ _ MZ
theorem Lr:(H T2)=32:=Na _ _ _ MZ
def J8(c:Int):Int:=if c<0\/7<c then 2 else 0
def qZ(B:Nat)(h':Hp)(v':Value)(c:Int):Prop:=∃w,v'=.tuple [w,j d (J8 c)].toArray/\Sn w/\Bs h' w (if J8 c=0 then Wk c.toNat else [])/\∀b,ZJ w=F b->B<=b
theorem EQ{h:Hp}{b:Nat}{l:List Nat}{E:TypeId}{fr:Nat × Nat}(hx:h[b]? = F (A (l.map bv).toArray E fr))(hl:∀x∈l,x<256)(c:Nat):Bs h (J (F ⟨b,0,none⟩) (H l) c) l:=by
 refine⟨⟨_,c,rfl,Dq,fun _=>⟨b,0,rfl,fun i hi=>?_⟩⟩,hl⟩;rw[Qd hx,Nat.zero_add];simp;exact⟨_,List.getElem?_eq_getElem (by simpa using hi),rfl⟩
theorem IT(T:World)(h:Hp)(c:Int)(tk:Tk h):
  Zc M T 23 #[j d c] h fun v' h'=>qZ h.size h' v' c/\Zf h.size h h':=by
 refine Zc.Y8 [_] Tryz.func23 ?_;unfold qZ;by_cases e1:c<0
 .have ee:J8 c=2:=by unfold J8;rw[if_pos (.inl e1)]
  rw[ee];simp -implicitDefEqProofs only[go_sem,e1];exact⟨_,rfl,D _,(Yd.nil 0 5 _).bs,fun b hb=>by simp[ZJ]at hb⟩
 by_cases e2:7<c
 .have ee:J8 c=2:=by unfold J8;rw[if_pos (.inr e2)]
  rw[ee];simp -implicitDefEqProofs only[go_sem,e1,e2];exact⟨_,rfl,D _,(Yd.nil 0 5 _).bs,fun b hb=>by simp[ZJ]at hb⟩
 have ee:J8 c=0:=by unfold J8;rw[if_neg gX]
 rw[ee];obtain⟨n,rfl⟩:∃n:Nat,c=n:=⟨c.toNat,gX⟩
 have ec:(n:Int)%256=(n:Int):=gX;rw[L];simp -implicitDefEqProofs only[go_sem,e1,e2,ec];have KP:∀x∈[n],x<256:=by intro x hx;rw[O.1 hx];omega
 have KA:∀x∈cQ,x<256:=MZ;obtain⟨h1,YX⟩:=ZD (h.push (A (([n]:List Nat).map bv).toArray 5):Hp);have b1:Zf h.size h h1:=by rw[YX];exact Zf.push (D _) _
 have s1:h1.size=h.size+1:=by rw[YX];simp
 have x1:h1[h.size]? = F (A (([n]:List Nat).map bv).toArray 5):=by rw[YX];exact Zb
 change V7 _ _ _ _ _ ((h.push (A (([n]:List Nat).map bv).toArray 5)).push (A (cQ.map bv).toArray 5));rw[<-YX];have x2:(h1.push (A (cQ.map bv).toArray 5))[h.size+1]? = F (A (cQ.map bv).toArray 5):=by rw[<-s1];exact Zb
 refine GO K Q x2 ?_;intro h3 fr' x3 PY;have B3:Zf (h.size+1) h1 h3:=(Zf.push gX _).trans (PY.Yb L6 (fun b e=>by have:=Option.some.inj e;omega));have x13:h3[h.size]? = F (A (([n]:List Nat).map bv).toArray 5):=B3.get gX x1;have Bh:Zf h.size h h3:=b1.trans (B3.mono gX);simp -implicitDefEqProofs only[go_sem];refine (IS T h3 _ _ _ [n] cQ [] 32 (EQ x13 KP 1) (EQ x3 KA 6) (Yd.nil 0 5 _).bs (tk.JT Bh)).use ?_;rintro _ h4 ⟨⟨w4,rfl,hc4,o4,k4⟩,b4⟩;have B4:=Bh.trans (b4.mono Bh.size);have e0:Jd ([n]:List Nat).length (H cQ) ([]:List Nat).length 32=0:=rfl;rw[e0,if_pos rfl,show (32:Int).toNat=32 from rfl]at o4;rw[e0];have o5:Bs h4 w4 (Wk n):=by unfold Wk;exact o4
 clear o4;generalize Wk n=KS at *;simp -implicitDefEqProofs only[go_sem,B4];exact⟨_,rfl,hc4,o5,fun b hb=>R Bh.size (k4 b hb)⟩
theorem Mr(T:World)(h:Hp)(tk:Tk h):
  Zc M T 26 #[] h fun v' h'=>(Sn v'/\Bs h' v' T2)/\Zf h.size h h':=by
 refine Zc.Y8 [] Tryz.func26 ?_;simp -implicitDefEqProofs only[go_sem];have KP:∀x∈[255],x<256:=MZ;have KA:∀x∈cR,x<256:=MZ;obtain⟨h1,YX⟩:=ZD (h.push (A (([255]:List Nat).map bv).toArray 5):Hp);have b1:Zf h.size h h1:=by rw[YX];exact Zf.push (D _) _
 have s1:h1.size=h.size+1:=by rw[YX];simp
 have x1:h1[h.size]? = F (A (([255]:List Nat).map bv).toArray 5):=by rw[YX];exact Zb
 have x2:(h1.push (A (cR.map bv).toArray 5))[h.size+1]? = F (A (cR.map bv).toArray 5):=by rw[<-s1];exact Zb
 change V7 _ _ _ _ _ ((h.push (A (([255]:List Nat).map bv).toArray 5)).push (A (cR.map bv).toArray 5));rw[<-YX];refine GO K Q x2 ?_;intro h3 fr' x3 PY;have B3:Zf (h.size+1) h1 h3:=(Zf.push gX _).trans (PY.Yb L6 (fun b e=>by have:=Option.some.inj e;omega));have x13:h3[h.size]? = F (A (([255]:List Nat).map bv).toArray 5):=B3.get gX x1;have Bh:Zf h.size h h3:=b1.trans (B3.mono gX);simp -implicitDefEqProofs only[go_sem];refine (IS T h3 _ _ _ [255] cR [] 32 (EQ x13 KP 1) (EQ x3 KA 6) (Yd.nil 0 5 _).bs (tk.JT Bh)).use ?_;rintro _ h4 ⟨⟨w4,rfl,hc4,o4,k4⟩,b4⟩;have B4:=Bh.trans (b4.mono Bh.size);have e0:Jd ([255]:List Nat).length (H cR) ([]:List Nat).length 32=0:=rfl;rw[e0,if_pos rfl,show (32:Int).toNat=32 from rfl]at o4;rw[e0];have o5:Bs h4 w4 T2:=by unfold T2;exact o4
 clear o4;generalize T2=KS at *;simp -implicitDefEqProofs only[go_sem,B4];exact⟨hc4,o5⟩
theorem Zds{x:Option Nat}{h h':Hp}{v:Value}{l:List Nat}(s:Bs h v l)(hc:Sn v)(a:Ue x h h')(hx:∀b,ZJ v=F b->x≠F b):Bs h' v l:=by
 obtain⟨⟨p,cap,rfl,hl,YR⟩,hb⟩:=s;refine⟨⟨p,cap,rfl,hl,fun Ys=>?_⟩,hb⟩;obtain⟨b,o,rfl,OP⟩:=YR Ys;refine⟨b,o,rfl,fun i hi=>?_⟩;have h1:=OP i hi;have yo:(H l)<=cap:=hc;have KC:0<(H l):=by
  cases l with
  | nil=>exact (Ys rfl).elim
  | cons x l=>simp
 have OH:h'[b]? = h[b]?:=a.block b (UJ h1) (hx b (by simp only[ZJ];rw[if_neg gX]));unfold V.hc at h1 ⊢;rw[OH];exact h1
def VM(n c r u k cl s nm v:Int):Int:=if ¬(0<=n/\n<=1073741823) then 2 else if WF 32 c r u≠0 then WF 32 c r u else Y9 k cl s nm v
def rh(c r u k cl s nm v:Int):List Nat:=C4 T2 c.toNat r.toNat u.toNat++ZG [k.toNat,cl.toNat,s.toNat,nm.toNat,v.toNat]
def j4(n c r u k cl s nm v:Int):List Nat:=cl.toNat :: cH (Wk cl.toNat) n.toNat (rh c r u k cl s nm v)
theorem C9{n:Int}(h0:0<=n)(h1:n<=1073741823){m:Nat}(hm:m<=2000):Vr 32 n 0 J6 m=0:=by
 have e:XE 32 n 0 J6=0:=by
  unfold XE;rw[show early 0 J6 8=false from rfl];simp;omega
 unfold Vr;rw[e,if_neg Dq,if_neg gX,if_neg gX]
theorem Gm{k c s n v:Int}(h:Y9 k c s n v=0):0<=c/\c<=7:=by
 unfold Y9 at h
 repeat' split at h
 all_goals omega
theorem rn(kl:List Nat)(n:Nat)(plain:List Nat):(cH kl n plain).length<=(H plain)+20:=by
 unfold cH Fe;have l1:=Vo kl 1 (Jz (Xa n)) plain;have l2:(Q4 kl (Jz (Xa n)) (Xa n) (Nb kl 1 (Jz (Xa n)) plain)).length<=16:=Kn _ _;rw[G,G,l1];have l3:(Xa n).length=4:=rfl;omega
def Zif(B:Nat)(h':Hp)(v':Value)(n c r u k cl s nm v:Int):Prop:=∃w,v'=.tuple [w,j d (VM n c r u k cl s nm v)].toArray/\Yd B 5 h' w (if VM n c r u k cl s nm v=0 then j4 n c r u k cl s nm v else [])
theorem yK(T:World)(h:Hp)(n c r u k cl s nm v:Int)(tk:Tk h):
  Zc M T 66 #[j d n,.agg (TQ c r u).toArray,.agg (QR k cl s nm v).toArray] h fun v' h'=>Zif h.size h' v' n c r u k cl s nm v/\Zf h.size h h':=by
 refine Zc.Y8 [_,_,_] Tryz.func66 ?_;unfold Zif TQ QR;by_cases q:0<=n/\n<=1073741823
 case neg=>
  have ee:VM n c r u k cl s nm v=2:=by unfold VM;rw[if_pos q]
  rw[ee];by_cases q0:n<0
  .simp -implicitDefEqProofs only[go_sem,q0];exact⟨_,rfl,Yd.nil _ 5 _⟩
  .have q1:1073741824<=n:=by omega
   simp -implicitDefEqProofs only[go_sem,q0,q1];exact⟨_,rfl,Yd.nil _ 5 _⟩
 obtain⟨q0,q1⟩:=q;have qn0:¬n<0:=by omega
 have qn1:¬(1073741824:Int)<=n:=by omega
 obtain⟨h0,Jk⟩:=ZD ((h.push (A [j d c,j d r,j d u].toArray 80)).push (A [j d k,j d cl,j d s,j d nm,j d v].toArray 43):Hp);have b0:Zf h.size h h0:=by rw[Jk];exact ((Zf.refl _ _).add _).add _
 have s0:h0.size=h.size+2:=by rw[Jk];simp
 have t0:h0[h.size]? = F (A [j d c,j d r,j d u].toArray 80):=by
  rw[Jk,N,if_neg (by simp),Zb]
 have c0:h0[h.size+1]? = F (A [j d k,j d cl,j d s,j d nm,j d v].toArray 43):=by
  rw[Jk,N,if_pos (by simp)]
 have e0:(h.push (A #[Value.int d c,j d r,j d u] 80)).push (A #[Value.int d k,j d cl,j d s,j d nm,j d v] 43)=h0:=Jk.symm;have uU:(h.push (A [Value.int d c,j d r,j d u].toArray 80)).push (A [Value.int d k,j d cl,j d s,j d nm,j d v].toArray 43)=h0:=Jk.symm;simp -implicitDefEqProofs only[go_sem,qn0,qn1]
 first|rw[e0]|rw[uU]
 clear e0 uU Jk;have r0:rd h0 ⟨h.size,0,none⟩ 3=F [j d c,j d r,j d u]:=Zs t0 rfl;have k0:h.size<h0.size:=by omega
 refine VS.w (h0.size) [] (.q 1 (.s 0 (.s 2 (.q 3 (.q 4 (.q 5 (.q 6 (.q 7 .nil)))))))) mixed (by kernel_rfl) ?_;simp -implicitDefEqProofs only[go_sem,r0,k0];refine (Mr T h0 (tk.JT b0)).use ?_;rintro wi h1 ⟨⟨ci,si⟩,b1⟩;have B1:=b0.trans (b1.mono b0.size);have s1:=b1.size;simp -implicitDefEqProofs only[go_sem,b1];have ht:Zc M T 92 #[wi,.agg #[j d c,j d r,j d u]] h1 fun v' h'=>cN h1.size h' v' T2 c r u/\Zf h1.size h1 h':=qW T h1 wi T2 c r u si (tk.JT B1);refine ht.use ?_;rintro _ h2 ⟨⟨w2,rfl,o2⟩,b2⟩;have B2:=B1.trans (b2.mono B1.size);have s2:=b2.size;have b02:Zf h0.size h0 h2:=b1.trans (b2.mono s1);rw[Lr]at o2;rw[Lr];by_cases g:WF 32 c r u=0
 case neg=>
  have ee:VM n c r u k cl s nm v=WF 32 c r u:=by unfold VM;rw[if_neg (fun hn=>hn ⟨q0,q1⟩),if_pos g]
  rw[ee,if_neg g];obtain⟨E,hE⟩:=ZD (WF 32 c r u);rw[<-hE]at g ⊢;simp -implicitDefEqProofs only[go_sem,b02,g];exact⟨⟨_,rfl,Yd.nil _ 5 _⟩,B2⟩
 rw[g,if_pos rfl]at o2;rw[g];have ee:VM n c r u k cl s nm v=Y9 k cl s nm v:=by unfold VM;rw[if_neg (fun hn=>hn ⟨q0,q1⟩),if_neg (fun hn=>hn g)]
 rw[ee];have c2:=b02.get (by omega) c0;have r2:rd h2 ⟨h.size+1,0,none⟩ 5=F [j d k,j d cl,j d s,j d nm,j d v]:=Zs c2 rfl;simp -implicitDefEqProofs only[go_sem,b02,r2];have he:Zc M T 55 #[.agg #[j d k,j d cl,j d s,j d nm,j d v]] h2 fun v' h'=>aY h' v' k cl s nm v/\Zf h2.size h2 h':=GV T h2 k cl s nm v;refine he.use ?_;rintro _ h3 ⟨⟨w3,rfl,o3⟩,b3⟩;have B3:=B2.trans (b3.mono B2.size);have s3:=b3.size;by_cases e:Y9 k cl s nm v=0
 case neg=>
  rw[if_neg e];obtain⟨E,hE⟩:=ZD (Y9 k cl s nm v);rw[<-hE]at e ⊢;simp -implicitDefEqProofs only[go_sem,e];exact⟨⟨_,rfl,Yd.nil _ 5 _⟩,B3⟩
 rw[e,if_pos rfl]at o3;rw[e];obtain⟨cl0,cl7⟩:=Gm e;have ke:J8 cl=0:=by unfold J8;rw[if_neg (by omega)]
 have c3:=b3.get (by omega) c2;have rc3:V.hc h3 ⟨h.size+1,1,none⟩=F (j d cl):=by rw[Zg c3];rfl
 simp -implicitDefEqProofs only[go_sem,rc3];refine (IT T h3 cl (tk.JT B3)).use ?_;rintro _ h4 ⟨⟨w4,rfl,k4,o4,f4⟩,b4⟩;rw[ke,if_pos rfl]at o4;rw[ke];obtain⟨p4,c4,rfl,hc4⟩:=o4.open;have B4:=B3.trans (b4.mono B3.size);have s4:=b4.size;have o24:=(o2.Yb b3 (D _)).Yb b4 (D _);have o34:=o3.Yb b4;have l2:(C4 T2 c.toNat r.toNat u.toNat).length=22:=Lp _ _ _ _;have l3:(ZG [k.toNat,cl.toNat,s.toNat,nm.toNat,v.toNat]).length=20:=by rw[ZO];rfl
 have ep:rh c r u k cl s nm v=C4 T2 c.toNat r.toNat u.toNat++ZG [k.toNat,cl.toNat,s.toNat,nm.toNat,v.toNat]:=rfl;have Zqt:=o2.Zy.lt;generalize C4 T2 c.toNat r.toNat u.toNat=PR at *;generalize ZG [k.toNat,cl.toNat,s.toNat,nm.toNat,v.toNat]=CB at *;simp -implicitDefEqProofs only[go_sem];refine JJ (E:=5) (B:=h1.size) YN K WS VC VB o24 (by omega) o34 (by omega) ?_;intro w5 h5 o5 b5 bt5 _;have s5:=b5.size;have B5:Zf h.size h h5:=B4.trans (b5.mono (by omega));have o4':Bs h5 (J p4 (Wk cl.toNat).length c4) (Wk cl.toNat):=Zds o4 k4 bt5 (fun b hb e=>by
  have q1:=f4 b hb;have q2:=Zqt b e;omega)
 have lk:=Lq cl.toNat;have eS:j4 n c r u k cl s nm v=cl.toNat :: cH (Wk cl.toNat) n.toNat (PR++CB):=by unfold j4;rw[ep]
 have se:Vr (Wk cl.toNat).length n 0 J6 (PR++CB).length=0:=by rw[lk];exact C9 q0 q1 (by rw[G];omega)
 simp -implicitDefEqProofs only[go_sem];have Zqu:Zc M T 93 #[.agg #[J p4 (Wk cl.toNat).length c4,j d n,j d 0,t false,t false,t false,t false,t false,t false,t false,t false],w5] h5 fun v' h'=>EK h5.size h' v' (Wk cl.toNat) n 0 J6 (PR++CB)/\Zf h5.size h5 h':=CV T h5 _ w5 (Wk cl.toNat) (PR++CB) n 0 J6 rfl o4' o5.bs k4;refine Zqu.use ?_;rintro _ h6 ⟨⟨cw,w6,rfl,⟨w7,rfl,o7⟩,o6⟩,b6⟩;rw[se,if_pos rfl]at o6;rw[se,if_pos rfl]at o7;rw[se];have s6:=b6.size;have B6:Zf h.size h h6:=B5.trans (b6.mono (by omega));have c6:=b6.get (by omega) ((b5.mono (B':=h0.size) (by omega)).get (by omega) (b4.get (by omega) c3));have rc6:V.hc h6 ⟨h.size+1,1,none⟩=F (j d cl):=by rw[Zg c6];rfl
 obtain⟨p7,c7,rfl,_⟩:=o7.open;obtain⟨x,rfl⟩:∃x:Nat,cl=x:=⟨cl.toNat,by omega⟩
 have ec:(x:Int)%256=(x:Int):=by omega
 have Zqv:¬h.size+1=h6.size:=by omega
 have eN:J6.map Value.bool=[t false,t false,t false,t false,t false,t false,t false,t false]:=rfl;have ez:((0:Int)=0)=True:=eq_self 0;simp only[ez,if_true];unfold Z0;rw[eN];rw[L]at eS o6;have QH:∀y∈[x],y<256:=by intro y hy;rw[O.1 hy];omega
 rw[show ((x:Nat):Int).toNat=x from L x]at *;simp -implicitDefEqProofs only[go_sem,rc6,Zqv,ec];obtain⟨h7,yF⟩:=ZD (h6.push (A [J p7 (Wk x).length c7,j d (n+1),j d 0,t false,t false,t false,t false,t false,t false,t false,t false].toArray 76):Hp);have e7:h6.push (A #[Value.slice p7 (Wk x).length c7,j d (n+1),j d 0,t false,t false,t false,t false,t false,t false,t false,t false] 76)=h7:=yF.symm;rw[e7];have b7:Zf h6.size h6 h7:=by rw[yF];exact Zf.push (D _) _
 have s7:h7.size=h6.size+1:=by rw[yF];simp
 have q7:h6.size+1=h7.size:=s7.symm;clear e7 yF;have B7:=B6.trans (b7.mono (by omega));have o1:Yd h7.size 5 (h7.push (A (([x]:List Nat).map bv).toArray 5)) (J (F ⟨h7.size,0,none⟩) 1 1) [x]:=Yd.made QH (D _);have bp:Zf h7.size h7 (h7.push (A (([x]:List Nat).map bv).toArray 5)):=Zf.push (D _) _;have lr:(cH (Wk x) n.toNat (PR++CB)).length<=1000000:=R (rn _ _ _) (by rw[G];omega)
 try rw[q7]
 refine ZF (E:=5) (B:=h7.size) YN K WS VC VB o1 (by simp) ((o6.bs.Yb b7).Yb bp) (by simp;omega) ?_;intro w8 h8 o8 b8 _;simp -implicitDefEqProofs only[go_sem];rw[eS];exact⟨⟨_,rfl,o8.mono B7.size⟩,B7.trans (((bp.trans b8)).mono (by omega))⟩
end Go.Proofs.YtdpjmhgbmhjniaaGreatDoor
