/- Part Pak. -/
import Derived.Test.YthlfaofofaphfaaGreatDoorChw
import Derived.Test.YthlfaofofaphfaaGreatDoorW19
import Derived.Test.YthlfaofofaphfaaGreatDoorTakf
import Derived.Test.YthlfaofofaphfaaGreatDoorTape
open Go.Value renaming int→j,bool→t,slice→J
open Go.IntKind renaming i64→d
open Go.Obj renaming cells→A
open Go.Proofs.Tryz renaming underlying28→K,prog→M,underlying5→Q
open List renaming length_append→G,length→H,mem_singleton→O
open Nat renaming le_refl→D,le_trans→R
open Int renaming toNat_natCast→L
open Option renaming some→F
open Array renaming getElem?_push→N
namespace Go.Proofs.YthlfaofofaphfaaGreatDoor
open Go Go.V
set_option linter.unusedSimpArgs false
set_option linter.unusedVariables false
set_option maxRecDepth 100000
def jN:List Nat:=[99,108,105,101,110,116]
def jO:List Nat:=[105,115,115,117,101,114]
def UL(c:Nat):List Nat:=Fl [c] jN [] 32
def Wm:List Nat:=Fl [255] jO [] 32
theorem OJ(c:Nat):(UL c).length=32:=LF _ _ _ aaa
theorem OK:(H Wm)=32:=LF _ _ _ aaa
def Qn(c:Int):Int:=if c<0\/7<c then 2 else 0
def Zad(B:Nat)(h':Hp)(v':Value)(c:Int):Prop:=∃w,v'=.tuple [w,j d (Qn c)].toArray/\RY w/\Bs h' w (if Qn c=0 then UL c.toNat else [])/\∀b,Yf w=F b->B<=b
theorem Ad{h:Hp}{b:Nat}{l:List Nat}{E:TypeId}{fr:Nat × Nat}(hx:h[b]? = F (A (l.map bv).toArray E fr))(hl:∀x∈l,x<256)(c:Nat):Bs h (J (F ⟨b,0,none⟩) (H l) c) l:=by
 refine⟨⟨_,c,rfl,IQ,fun _=>⟨b,0,rfl,fun i hi=>?_⟩⟩,hl⟩;rw[Re hx,Nat.zero_add];simp;exact⟨_,List.getElem?_eq_getElem (by simpa using hi),rfl⟩
theorem FI(T:World)(h:Hp)(c:Int)(tk:Tk h):
  Zd M T 17 #[j d c] h fun v' h'=>Zad h.size h' v' c/\Zj h.size h h':=by
 refine Zd.XS [_] Tryz.func17 ?_;unfold Zad;by_cases e1:c<0
 .have ee:Qn c=2:=by unfold Qn;rw[if_pos (.inl e1)]
  rw[ee];simp -implicitDefEqProofs only[go_sem,e1];exact⟨_,rfl,D _,(YB.nil 0 5 _).bs,fun b hb=>by simp[Yf]at hb⟩
 by_cases e2:7<c
 .have ee:Qn c=2:=by unfold Qn;rw[if_pos (.inr e2)]
  rw[ee];simp -implicitDefEqProofs only[go_sem,e1,e2];exact⟨_,rfl,D _,(YB.nil 0 5 _).bs,fun b hb=>by simp[Yf]at hb⟩
 have ee:Qn c=0:=by unfold Qn;rw[if_neg pA]
 rw[ee];obtain⟨n,rfl⟩:∃n:Nat,c=n:=⟨c.toNat,pA⟩
 have ec:(n:Int)%256=(n:Int):=pA;rw[L];simp -implicitDefEqProofs only[go_sem,e1,e2,ec];have GO:∀x∈[n],x<256:=by intro x hx;rw[O.1 hx];omega
 have Ga:∀x∈jN,x<256:=aaa;obtain⟨h1,Xp⟩:=ZL (h.push (A (([n]:List Nat).map bv).toArray 5):Hp);have b1:Zj h.size h h1:=by rw[Xp];exact Zj.push (D _) _
 have s1:h1.size=h.size+1:=by rw[Xp];simp
 have x1:h1[h.size]? = F (A (([n]:List Nat).map bv).toArray 5):=by rw[Xp];exact Zc
 change Lb _ _ _ _ _ ((h.push (A (([n]:List Nat).map bv).toArray 5)).push (A (jN.map bv).toArray 5));rw[<-Xp];have x2:(h1.push (A (jN.map bv).toArray 5))[h.size+1]? = F (A (jN.map bv).toArray 5):=by rw[<-s1];exact Zc
 refine DO K Q x2 ?_;intro h3 fr' x3 Ms;have B3:Zj (h.size+1) h1 h3:=(Zj.push pA _).trans (Ms.Yz VL (fun b e=>by have:=Option.some.inj e;omega));have x13:h3[h.size]? = F (A (([n]:List Nat).map bv).toArray 5):=B3.get pA x1;have Bh:Zj h.size h h3:=b1.trans (B3.mono pA);simp -implicitDefEqProofs only[go_sem];refine (FF T h3 _ _ _ [n] jN [] 32 (Ad x13 GO 1) (Ad x3 Ga 6) (YB.nil 0 5 _).bs (tk.Qj Bh)).use ?_;rintro _ h4 ⟨⟨w4,rfl,hc4,o4,k4⟩,b4⟩;have B4:=Bh.trans (b4.mono Bh.size);have e0:Qf ([n]:List Nat).length (H jN) ([]:List Nat).length 32=0:=rfl;rw[e0,if_pos rfl,show (32:Int).toNat=32 from rfl]at o4;rw[e0];have o5:Bs h4 w4 (UL n):=by unfold UL;exact o4
 clear o4;generalize UL n=KS at *;simp -implicitDefEqProofs only[go_sem,B4];exact⟨_,rfl,hc4,o5,fun b hb=>R Bh.size (k4 b hb)⟩
theorem Ib(T:World)(h:Hp)(tk:Tk h):
  Zd M T 15 #[] h fun v' h'=>(RY v'/\Bs h' v' Wm)/\Zj h.size h h':=by
 refine Zd.XS [] Tryz.func15 ?_;simp -implicitDefEqProofs only[go_sem];have GO:∀x∈[255],x<256:=aaa;have Ga:∀x∈jO,x<256:=aaa;obtain⟨h1,Xp⟩:=ZL (h.push (A (([255]:List Nat).map bv).toArray 5):Hp);have b1:Zj h.size h h1:=by rw[Xp];exact Zj.push (D _) _
 have s1:h1.size=h.size+1:=by rw[Xp];simp
 have x1:h1[h.size]? = F (A (([255]:List Nat).map bv).toArray 5):=by rw[Xp];exact Zc
 have x2:(h1.push (A (jO.map bv).toArray 5))[h.size+1]? = F (A (jO.map bv).toArray 5):=by rw[<-s1];exact Zc
 change Lb _ _ _ _ _ ((h.push (A (([255]:List Nat).map bv).toArray 5)).push (A (jO.map bv).toArray 5));rw[<-Xp];refine DO K Q x2 ?_;intro h3 fr' x3 Ms;have B3:Zj (h.size+1) h1 h3:=(Zj.push pA _).trans (Ms.Yz VL (fun b e=>by have:=Option.some.inj e;omega));have x13:h3[h.size]? = F (A (([255]:List Nat).map bv).toArray 5):=B3.get pA x1;have Bh:Zj h.size h h3:=b1.trans (B3.mono pA);simp -implicitDefEqProofs only[go_sem];refine (FF T h3 _ _ _ [255] jO [] 32 (Ad x13 GO 1) (Ad x3 Ga 6) (YB.nil 0 5 _).bs (tk.Qj Bh)).use ?_;rintro _ h4 ⟨⟨w4,rfl,hc4,o4,k4⟩,b4⟩;have B4:=Bh.trans (b4.mono Bh.size);have e0:Qf ([255]:List Nat).length (H jO) ([]:List Nat).length 32=0:=rfl;rw[e0,if_pos rfl,show (32:Int).toNat=32 from rfl]at o4;rw[e0];have o5:Bs h4 w4 Wm:=by unfold Wm;exact o4
 clear o4;generalize Wm=KS at *;simp -implicitDefEqProofs only[go_sem,B4];exact⟨hc4,o5⟩
theorem ZhQ{x:Option Nat}{h h':Hp}{v:Value}{l:List Nat}(s:Bs h v l)(hc:RY v)(a:RT x h h')(hx:∀b,Yf v=F b->x≠F b):Bs h' v l:=by
 obtain⟨⟨p,cap,rfl,hl,XL⟩,hb⟩:=s;refine⟨⟨p,cap,rfl,hl,fun Y7=>?_⟩,hb⟩;obtain⟨b,o,rfl,Lp⟩:=XL Y7;refine⟨b,o,rfl,fun i hi=>?_⟩;have h1:=Lp i hi;have hc':(H l)<=cap:=hc;have GC:0<(H l):=by
  cases l with
  | nil=>exact (Y7 rfl).elim
  | cons x l=>simp
 have xO:h'[b]? = h[b]?:=a.block b (Vj h1) (hx b (by simp only[Yf];rw[if_neg pA]));unfold V.hc at h1 ⊢;rw[xO];exact h1
def QD(n c r u k cl s nm v:Int):Int:=if ¬(0<=n/\n<=1073741823) then 2 else if VE 32 c r u≠0 then VE 32 c r u else YC k cl s nm v
def da(c r u k cl s nm v:Int):List Nat:=Ry Wm c.toNat r.toNat u.toNat++ZC [k.toNat,cl.toNat,s.toNat,nm.toNat,v.toNat]
def Ic(n c r u k cl s nm v:Int):List Nat:=cl.toNat :: TF (UL cl.toNat) n.toNat (da c r u k cl s nm v)
theorem db{n:Int}(h0:0<=n)(h1:n<=1073741823){m:Nat}(hm:m<=2000):Sw 32 n 0 JS m=0:=by
 have e:Ji 32 n 0 JS=0:=by
  unfold Ji;rw[show early 0 JS 8=false from rfl];simp;omega
 unfold Sw;rw[e,if_neg IQ,if_neg pA,if_neg pA]
theorem Dn{k c s n v:Int}(h:YC k c s n v=0):0<=c/\c<=7:=by
 unfold YC at h
 repeat' split at h
 all_goals omega
theorem ZhR(kl:List Nat)(n:Nat)(plain:List Nat):(TF kl n plain).length<=(H plain)+20:=by
 unfold TF Ru;have l1:=JC kl 1 (XT (YJ n)) plain;have l2:(QJ kl (XT (YJ n)) (YJ n) (Wk kl 1 (XT (YJ n)) plain)).length<=16:=Gl _ _;rw[G,G,l1];have l3:(YJ n).length=4:=rfl;omega
def Zae(B:Nat)(h':Hp)(v':Value)(n c r u k cl s nm v:Int):Prop:=∃w,v'=.tuple [w,j d (QD n c r u k cl s nm v)].toArray/\YB B 5 h' w (if QD n c r u k cl s nm v=0 then Ic n c r u k cl s nm v else [])
theorem Af(T:World)(h:Hp)(n c r u k cl s nm v:Int)(tk:Tk h):
  Zd M T 6 #[j d n,.agg (PS c r u).toArray,.agg (Ua k cl s nm v).toArray] h fun v' h'=>Zae h.size h' v' n c r u k cl s nm v/\Zj h.size h h':=by
 refine Zd.XS [_,_,_] Tryz.func6 ?_;unfold Zae PS Ua;by_cases q:0<=n/\n<=1073741823
 case neg=>
  have ee:QD n c r u k cl s nm v=2:=by unfold QD;rw[if_pos q]
  rw[ee];by_cases q0:n<0
  .simp -implicitDefEqProofs only[go_sem,q0];exact⟨_,rfl,YB.nil _ 5 _⟩
  .have q1:1073741824<=n:=by omega
   simp -implicitDefEqProofs only[go_sem,q0,q1];exact⟨_,rfl,YB.nil _ 5 _⟩
 obtain⟨q0,q1⟩:=q;have qn0:¬n<0:=by omega
 have qn1:¬(1073741824:Int)<=n:=by omega
 obtain⟨h0,Qe⟩:=ZL ((h.push (A [j d c,j d r,j d u].toArray 33)).push (A [j d k,j d cl,j d s,j d nm,j d v].toArray 25):Hp);have b0:Zj h.size h h0:=by rw[Qe];exact ((Zj.refl _ _).add _).add _
 have s0:h0.size=h.size+2:=by rw[Qe];simp
 have t0:h0[h.size]? = F (A [j d c,j d r,j d u].toArray 33):=by
  rw[Qe,N,if_neg (by simp),Zc]
 have c0:h0[h.size+1]? = F (A [j d k,j d cl,j d s,j d nm,j d v].toArray 25):=by
  rw[Qe,N,if_pos (by simp)]
 have e0:(h.push (A #[Value.int d c,j d r,j d u] 33)).push (A #[Value.int d k,j d cl,j d s,j d nm,j d v] 25)=h0:=Qe.symm;have e0':(h.push (A [Value.int d c,j d r,j d u].toArray 33)).push (A [Value.int d k,j d cl,j d s,j d nm,j d v].toArray 25)=h0:=Qe.symm;simp -implicitDefEqProofs only[go_sem,qn0,qn1]
 first|rw[e0]|rw[e0']
 clear e0 e0' Qe;have r0:rd h0 ⟨h.size,0,none⟩ 3=F [j d c,j d r,j d u]:=Zy t0 rfl;have k0:h.size<h0.size:=by omega
 refine VS.w (h0.size) [] (.q 1 (.s 0 (.s 2 (.q 3 (.q 4 (.q 5 (.q 6 (.q 7 .nil)))))))) mixed (by kernel_rfl) ?_;simp -implicitDefEqProofs only[go_sem,r0,k0];refine (Ib T h0 (tk.Qj b0)).use ?_;rintro wi h1 ⟨⟨ci,si⟩,b1⟩;have B1:=b0.trans (b1.mono b0.size);have s1:=b1.size;simp -implicitDefEqProofs only[go_sem,b1];have ht:Zd M T 14 #[wi,.agg #[j d c,j d r,j d u]] h1 fun v' h'=>jK h1.size h' v' Wm c r u/\Zj h1.size h1 h':=zT T h1 wi Wm c r u si (tk.Qj B1);refine ht.use ?_;rintro _ h2 ⟨⟨w2,rfl,o2⟩,b2⟩;have B2:=B1.trans (b2.mono B1.size);have s2:=b2.size;have b02:Zj h0.size h0 h2:=b1.trans (b2.mono s1);rw[OK]at o2;rw[OK];by_cases g:VE 32 c r u=0
 case neg=>
  have ee:QD n c r u k cl s nm v=VE 32 c r u:=by unfold QD;rw[if_neg (fun hn=>hn ⟨q0,q1⟩),if_pos g]
  rw[ee,if_neg g];obtain⟨E,hE⟩:=ZL (VE 32 c r u);rw[<-hE]at g ⊢;simp -implicitDefEqProofs only[go_sem,b02,g];exact⟨⟨_,rfl,YB.nil _ 5 _⟩,B2⟩
 rw[g,if_pos rfl]at o2;rw[g];have ee:QD n c r u k cl s nm v=YC k cl s nm v:=by unfold QD;rw[if_neg (fun hn=>hn ⟨q0,q1⟩),if_neg (fun hn=>hn g)]
 rw[ee];have c2:=b02.get (by omega) c0;have r2:rd h2 ⟨h.size+1,0,none⟩ 5=F [j d k,j d cl,j d s,j d nm,j d v]:=Zy c2 rfl;simp -implicitDefEqProofs only[go_sem,b02,r2];have he:Zd M T 16 #[.agg #[j d k,j d cl,j d s,j d nm,j d v]] h2 fun v' h'=>iQ h' v' k cl s nm v/\Zj h2.size h2 h':=KL T h2 k cl s nm v;refine he.use ?_;rintro _ h3 ⟨⟨w3,rfl,o3⟩,b3⟩;have B3:=B2.trans (b3.mono B2.size);have s3:=b3.size;by_cases e:YC k cl s nm v=0
 case neg=>
  rw[if_neg e];obtain⟨E,hE⟩:=ZL (YC k cl s nm v);rw[<-hE]at e ⊢;simp -implicitDefEqProofs only[go_sem,e];exact⟨⟨_,rfl,YB.nil _ 5 _⟩,B3⟩
 rw[e,if_pos rfl]at o3;rw[e];obtain⟨cl0,cl7⟩:=Dn e;have ke:Qn cl=0:=by unfold Qn;rw[if_neg (by omega)]
 have c3:=b3.get (by omega) c2;have rc3:V.hc h3 ⟨h.size+1,1,none⟩=F (j d cl):=by rw[Zn c3];rfl
 simp -implicitDefEqProofs only[go_sem,rc3];refine (FI T h3 cl (tk.Qj B3)).use ?_;rintro _ h4 ⟨⟨w4,rfl,k4,o4,f4⟩,b4⟩;rw[ke,if_pos rfl]at o4;rw[ke];obtain⟨p4,c4,rfl,hc4⟩:=o4.open;have B4:=B3.trans (b4.mono B3.size);have s4:=b4.size;have o24:=(o2.Yz b3 (D _)).Yz b4 (D _);have o34:=o3.Yz b4;have l2:(Ry Wm c.toNat r.toNat u.toNat).length=22:=Qx _ _ _ _;have l3:(ZC [k.toNat,cl.toNat,s.toNat,nm.toNat,v.toNat]).length=20:=by rw[ZN];rfl
 have ep:da c r u k cl s nm v=Ry Wm c.toNat r.toNat u.toNat++ZC [k.toNat,cl.toNat,s.toNat,nm.toNat,v.toNat]:=rfl;have ZuW:=o2.Zq.lt;generalize Ry Wm c.toNat r.toNat u.toNat=PR at *;generalize ZC [k.toNat,cl.toNat,s.toNat,nm.toNat,v.toNat]=CB at *;simp -implicitDefEqProofs only[go_sem];refine UF (E:=5) (B:=h1.size) Xl K TA Sn Sm o24 (by omega) o34 (by omega) ?_;intro w5 h5 o5 b5 bt5 _;have s5:=b5.size;have B5:Zj h.size h h5:=B4.trans (b5.mono (by omega));have o4':Bs h5 (J p4 (UL cl.toNat).length c4) (UL cl.toNat):=ZhQ o4 k4 bt5 (fun b hb e=>by
  have q1:=f4 b hb;have q2:=ZuW b e;omega)
 have lk:=OJ cl.toNat;have eS:Ic n c r u k cl s nm v=cl.toNat :: TF (UL cl.toNat) n.toNat (PR++CB):=by unfold Ic;rw[ep]
 have se:Sw (UL cl.toNat).length n 0 JS (PR++CB).length=0:=by rw[lk];exact db q0 q1 (by rw[G];omega)
 simp -implicitDefEqProofs only[go_sem];have ZuX:Zd M T 18 #[.agg #[J p4 (UL cl.toNat).length c4,j d n,j d 0,t false,t false,t false,t false,t false,t false,t false,t false],w5] h5 fun v' h'=>BU h5.size h' v' (UL cl.toNat) n 0 JS (PR++CB)/\Zj h5.size h5 h':=cJ T h5 _ w5 (UL cl.toNat) (PR++CB) n 0 JS rfl o4' o5.bs k4;refine ZuX.use ?_;rintro _ h6 ⟨⟨cw,w6,rfl,⟨w7,rfl,o7⟩,o6⟩,b6⟩;rw[se,if_pos rfl]at o6;rw[se,if_pos rfl]at o7;rw[se];have s6:=b6.size;have B6:Zj h.size h h6:=B5.trans (b6.mono (by omega));have c6:=b6.get (by omega) ((b5.mono (B':=h0.size) (by omega)).get (by omega) (b4.get (by omega) c3));have rc6:V.hc h6 ⟨h.size+1,1,none⟩=F (j d cl):=by rw[Zn c6];rfl
 obtain⟨p7,c7,rfl,_⟩:=o7.open;obtain⟨x,rfl⟩:∃x:Nat,cl=x:=⟨cl.toNat,by omega⟩
 have ec:(x:Int)%256=(x:Int):=by omega
 have ZuY:¬h.size+1=h6.size:=by omega
 have eN:JS.map Value.bool=[t false,t false,t false,t false,t false,t false,t false,t false]:=rfl;have ez:((0:Int)=0)=True:=eq_self 0;simp only[ez,if_true];unfold Yc;rw[eN];rw[L]at eS o6;have Wf:∀y∈[x],y<256:=by intro y hy;rw[O.1 hy];omega
 rw[show ((x:Nat):Int).toNat=x from L x]at *;simp -implicitDefEqProofs only[go_sem,rc6,ZuY,ec];obtain⟨h7,hh7⟩:=ZL (h6.push (A [J p7 (UL x).length c7,j d (n+1),j d 0,t false,t false,t false,t false,t false,t false,t false,t false].toArray 66):Hp);have e7:h6.push (A #[Value.slice p7 (UL x).length c7,j d (n+1),j d 0,t false,t false,t false,t false,t false,t false,t false,t false] 66)=h7:=hh7.symm;rw[e7];have b7:Zj h6.size h6 h7:=by rw[hh7];exact Zj.push (D _) _
 have s7:h7.size=h6.size+1:=by rw[hh7];simp
 have q7:h6.size+1=h7.size:=s7.symm;clear e7 hh7;have B7:=B6.trans (b7.mono (by omega));have o1:YB h7.size 5 (h7.push (A (([x]:List Nat).map bv).toArray 5)) (J (F ⟨h7.size,0,none⟩) 1 1) [x]:=YB.made Wf (D _);have bp:Zj h7.size h7 (h7.push (A (([x]:List Nat).map bv).toArray 5)):=Zj.push (D _) _;have lr:(TF (UL x) n.toNat (PR++CB)).length<=1000000:=R (ZhR _ _ _) (by rw[G];omega)
 try rw[q7]
 refine ZK (E:=5) (B:=h7.size) Xl K TA Sn Sm o1 (by simp) ((o6.bs.Yz b7).Yz bp) (by simp;omega) ?_;intro w8 h8 o8 b8 _;simp -implicitDefEqProofs only[go_sem];rw[eS];exact⟨⟨_,rfl,o8.mono B7.size⟩,B7.trans (((bp.trans b8)).mono (by omega))⟩
end Go.Proofs.YthlfaofofaphfaaGreatDoor
