/- Part Pak. -/
import Derived.Test.YtdapjaalaomghaaGreatDoorChw
import Derived.Test.YtdapjaalaomghaaGreatDoorW19
import Derived.Test.YtdapjaalaomghaaGreatDoorTakf
import Derived.Test.YtdapjaalaomghaaGreatDoorTape
open Go.Value renaming int→j,bool→t,slice→J
open Go.IntKind renaming i64→d
open Go.Obj renaming cells→A
open Go.Proofs.Tryz renaming underlying26→K,prog→M,underlying5→Q
open List renaming length_append→G,length→H,mem_singleton→O
open Nat renaming le_refl→D,le_trans→R
open Int renaming toNat_natCast→L
open Option renaming some→F
open Array renaming getElem?_push→N
namespace Go.Proofs.YtdapjaalaomghaaGreatDoor
open Go Go.V
set_option linter.all false
set_option maxRecDepth 100000
def jn:List Nat:=[99,108,105,101,110,116]
def jo:List Nat:=[105,115,115,117,101,114]
def UD(c:Nat):List Nat:=GY [c] jn [] 32
def Wo:List Nat:=GY [255] jo [] 32
theorem OE(c:Nat):(UD c).length=32:=Lq _ _ _ Iw
theorem OF:(H Wo)=32:=Lq _ _ _ Iw
def Qc(c:Int):Int:=if c<0\/7<c then 2 else 0
def zc(B:Nat)(h':Hp)(v':Value)(c:Int):Prop:=∃w,v'=.tuple [w,j d (Qc c)].toArray/\PM w/\Bs h' w (if Qc c=0 then UD c.toNat else [])/\∀b,Yf w=F b->B<=b
theorem BM{h:Hp}{b:Nat}{l:List Nat}{E:TypeId}{fr:Nat × Nat}(hx:h[b]? = F (A (l.map bv).toArray E fr))(hl:∀x∈l,x<256)(c:Nat):Bs h (J (F ⟨b,0,none⟩) (H l) c) l:=by
 refine⟨⟨_,c,rfl,uK,fun _=>⟨b,0,rfl,fun i hi=>?_⟩⟩,hl⟩;rw[S8 hx,Nat.zero_add];simp;exact⟨_,List.getElem?_eq_getElem (by simpa using hi),rfl⟩
theorem Fr(T:World)(h:Hp)(c:Int)(tk:Tk h):
  Zd M T 15 #[j d c] h fun v' h'=>zc h.size h' v' c/\Zj h.size h h':=by
 refine Zd.XT [_] Tryz.func15 ?_;unfold zc;by_cases e1:c<0
 .have ee:Qc c=2:=by unfold Qc;rw[if_pos (.inl e1)]
  rw[ee];simp -implicitDefEqProofs only[go_sem,e1];exact⟨_,rfl,D _,(Yx.nil 0 5 _).bs,fun b hb=>by simp[Yf]at hb⟩
 by_cases e2:7<c
 .have ee:Qc c=2:=by unfold Qc;rw[if_pos (.inr e2)]
  rw[ee];simp -implicitDefEqProofs only[go_sem,e1,e2];exact⟨_,rfl,D _,(Yx.nil 0 5 _).bs,fun b hb=>by simp[Yf]at hb⟩
 have ee:Qc c=0:=by unfold Qc;rw[if_neg nT]
 rw[ee];obtain⟨n,rfl⟩:∃n:Nat,c=n:=⟨c.toNat,nT⟩
 have ec:(n:Int)%256=(n:Int):=nT;rw[L];simp -implicitDefEqProofs only[go_sem,e1,e2,ec];have Gy:∀x∈[n],x<256:=by intro x hx;rw[O.1 hx];omega
 have HI:∀x∈jn,x<256:=Iw;obtain⟨h1,Xm⟩:=ZN (h.push (A (([n]:List Nat).map bv).toArray 5):Hp);have b1:Zj h.size h h1:=by rw[Xm];exact Zj.push (D _) _
 have s1:h1.size=h.size+1:=by rw[Xm];simp
 have x1:h1[h.size]? = F (A (([n]:List Nat).map bv).toArray 5):=by rw[Xm];exact Zc
 change MQ _ _ _ _ _ ((h.push (A (([n]:List Nat).map bv).toArray 5)).push (A (jn.map bv).toArray 5));rw[<-Xm];have x2:(h1.push (A (jn.map bv).toArray 5))[h.size+1]? = F (A (jn.map bv).toArray 5):=by rw[<-s1];exact Zc
 refine Dt K Q x2 ?_;intro h3 fr' x3 Mf;have B3:Zj (h.size+1) h1 h3:=(Zj.push nT _).trans (Mf.Yz Ig (fun b e=>by have:=Option.some.inj e;omega));have x13:h3[h.size]? = F (A (([n]:List Nat).map bv).toArray 5):=B3.get nT x1;have Bh:Zj h.size h h3:=b1.trans (B3.mono nT);simp -implicitDefEqProofs only[go_sem];refine (Fm T h3 _ _ _ [n] jn [] 32 (BM x13 Gy 1) (BM x3 HI 6) (Yx.nil 0 5 _).bs (tk.Qx Bh)).use ?_;rintro _ h4 ⟨⟨w4,rfl,hc4,o4,k4⟩,b4⟩;have B4:=Bh.trans (b4.mono Bh.size);have e0:J7 ([n]:List Nat).length (H jn) ([]:List Nat).length 32=0:=rfl;rw[e0,if_pos rfl,show (32:Int).toNat=32 from rfl]at o4;rw[e0];have o5:Bs h4 w4 (UD n):=by unfold UD;exact o4
 clear o4;generalize UD n=KS at *;simp -implicitDefEqProofs only[go_sem,B4];exact⟨_,rfl,hc4,o5,fun b hb=>R Bh.size (k4 b hb)⟩
theorem KJ(T:World)(h:Hp)(tk:Tk h):
  Zd M T 13 #[] h fun v' h'=>(PM v'/\Bs h' v' Wo)/\Zj h.size h h':=by
 refine Zd.XT [] Tryz.func13 ?_;simp -implicitDefEqProofs only[go_sem];have Gy:∀x∈[255],x<256:=Iw;have HI:∀x∈jo,x<256:=Iw;obtain⟨h1,Xm⟩:=ZN (h.push (A (([255]:List Nat).map bv).toArray 5):Hp);have b1:Zj h.size h h1:=by rw[Xm];exact Zj.push (D _) _
 have s1:h1.size=h.size+1:=by rw[Xm];simp
 have x1:h1[h.size]? = F (A (([255]:List Nat).map bv).toArray 5):=by rw[Xm];exact Zc
 have x2:(h1.push (A (jo.map bv).toArray 5))[h.size+1]? = F (A (jo.map bv).toArray 5):=by rw[<-s1];exact Zc
 change MQ _ _ _ _ _ ((h.push (A (([255]:List Nat).map bv).toArray 5)).push (A (jo.map bv).toArray 5));rw[<-Xm];refine Dt K Q x2 ?_;intro h3 fr' x3 Mf;have B3:Zj (h.size+1) h1 h3:=(Zj.push nT _).trans (Mf.Yz Ig (fun b e=>by have:=Option.some.inj e;omega));have x13:h3[h.size]? = F (A (([255]:List Nat).map bv).toArray 5):=B3.get nT x1;have Bh:Zj h.size h h3:=b1.trans (B3.mono nT);simp -implicitDefEqProofs only[go_sem];refine (Fm T h3 _ _ _ [255] jo [] 32 (BM x13 Gy 1) (BM x3 HI 6) (Yx.nil 0 5 _).bs (tk.Qx Bh)).use ?_;rintro _ h4 ⟨⟨w4,rfl,hc4,o4,k4⟩,b4⟩;have B4:=Bh.trans (b4.mono Bh.size);have e0:J7 ([255]:List Nat).length (H jo) ([]:List Nat).length 32=0:=rfl;rw[e0,if_pos rfl,show (32:Int).toNat=32 from rfl]at o4;rw[e0];have o5:Bs h4 w4 Wo:=by unfold Wo;exact o4
 clear o4;generalize Wo=KS at *;simp -implicitDefEqProofs only[go_sem,B4];exact⟨hc4,o5⟩
theorem Zht{x:Option Nat}{h h':Hp}{v:Value}{l:List Nat}(s:Bs h v l)(hc:PM v)(a:RM x h h')(hx:∀b,Yf v=F b->x≠F b):Bs h' v l:=by
 obtain⟨⟨p,cap,rfl,hl,XI⟩,hb⟩:=s;refine⟨⟨p,cap,rfl,hl,fun Y4=>?_⟩,hb⟩;obtain⟨b,o,rfl,M7⟩:=XI Y4;refine⟨b,o,rfl,fun i hi=>?_⟩;have h1:=M7 i hi;have hc':(H l)<=cap:=hc;have Gm:0<(H l):=by
  cases l with
  | nil=>exact (Y4 rfl).elim
  | cons x l=>simp
 have vZ:h'[b]? = h[b]?:=a.block b (Vj h1) (hx b (by simp only[Yf];rw[if_neg nT]));unfold V.hc at h1 ⊢;rw[vZ];exact h1
def QL(n c r u k cl s nm v:Int):Int:=if ¬(0<=n/\n<=1073741823) then 2 else if VE 32 c r u≠0 then VE 32 c r u else Y0 k cl s nm v
def ce(c r u k cl s nm v:Int):List Nat:=Rt Wo c.toNat r.toNat u.toNat++ZB [k.toNat,cl.toNat,s.toNat,nm.toNat,v.toNat]
def Hr(n c r u k cl s nm v:Int):List Nat:=cl.toNat :: TB (UD cl.toNat) n.toNat (ce c r u k cl s nm v)
theorem cC{n:Int}(h0:0<=n)(h1:n<=1073741823){m:Nat}(hm:m<=2000):Ss 32 n 0 JP m=0:=by
 have e:Ja 32 n 0 JP=0:=by
  unfold Ja;rw[show early 0 JP 8=false from rfl];simp;omega
 unfold Ss;rw[e,if_neg uK,if_neg nT,if_neg nT]
theorem E6{k c s n v:Int}(h:Y0 k c s n v=0):0<=c/\c<=7:=by
 unfold Y0 at h
 repeat' split at h
 all_goals omega
theorem Zhu(kl:List Nat)(n:Nat)(plain:List Nat):(TB kl n plain).length<=(H plain)+20:=by
 unfold TB Rp;have l1:=Ju kl 1 (XM (YH n)) plain;have l2:(QB kl (XM (YH n)) (YH n) (Wm kl 1 (XM (YH n)) plain)).length<=16:=HX _ _;rw[G,G,l1];have l3:(YH n).length=4:=rfl;omega
def Zdn(B:Nat)(h':Hp)(v':Value)(n c r u k cl s nm v:Int):Prop:=∃w,v'=.tuple [w,j d (QL n c r u k cl s nm v)].toArray/\Yx B 5 h' w (if QL n c r u k cl s nm v=0 then Hr n c r u k cl s nm v else [])
theorem mI(T:World)(h:Hp)(n c r u k cl s nm v:Int)(tk:Tk h):
  Zd M T 5 #[j d n,.agg (PO c r u).toArray,.agg (Uy k cl s nm v).toArray] h fun v' h'=>Zdn h.size h' v' n c r u k cl s nm v/\Zj h.size h h':=by
 refine Zd.XT [_,_,_] Tryz.func5 ?_;unfold Zdn PO Uy;by_cases q:0<=n/\n<=1073741823
 case neg=>
  have ee:QL n c r u k cl s nm v=2:=by unfold QL;rw[if_pos q]
  rw[ee];by_cases q0:n<0
  .simp -implicitDefEqProofs only[go_sem,q0];exact⟨_,rfl,Yx.nil _ 5 _⟩
  .have q1:1073741824<=n:=by omega
   simp -implicitDefEqProofs only[go_sem,q0,q1];exact⟨_,rfl,Yx.nil _ 5 _⟩
 obtain⟨q0,q1⟩:=q;have qn0:¬n<0:=by omega
 have qn1:¬(1073741824:Int)<=n:=by omega
 obtain⟨h0,Ql⟩:=ZN ((h.push (A [j d c,j d r,j d u].toArray 31)).push (A [j d k,j d cl,j d s,j d nm,j d v].toArray 24):Hp);have b0:Zj h.size h h0:=by rw[Ql];exact ((Zj.refl _ _).add _).add _
 have s0:h0.size=h.size+2:=by rw[Ql];simp
 have t0:h0[h.size]? = F (A [j d c,j d r,j d u].toArray 31):=by
  rw[Ql,N,if_neg (by simp),Zc]
 have c0:h0[h.size+1]? = F (A [j d k,j d cl,j d s,j d nm,j d v].toArray 24):=by
  rw[Ql,N,if_pos (by simp)]
 have e0:(h.push (A #[Value.int d c,j d r,j d u] 31)).push (A #[Value.int d k,j d cl,j d s,j d nm,j d v] 24)=h0:=Ql.symm;have e0':(h.push (A [Value.int d c,j d r,j d u].toArray 31)).push (A [Value.int d k,j d cl,j d s,j d nm,j d v].toArray 24)=h0:=Ql.symm;simp -implicitDefEqProofs only[go_sem,qn0,qn1]
 first|rw[e0]|rw[e0']
 clear e0 e0' Ql;have r0:rd h0 ⟨h.size,0,none⟩ 3=F [j d c,j d r,j d u]:=Zz t0 rfl;have k0:h.size<h0.size:=by omega
 refine VS.w (h0.size) [] (.q 1 (.s 0 (.s 2 (.q 3 (.q 4 (.q 5 (.q 6 (.q 7 .nil)))))))) mixed (by kernel_rfl) ?_;simp -implicitDefEqProofs only[go_sem,r0,k0];refine (KJ T h0 (tk.Qx b0)).use ?_;rintro wi h1 ⟨⟨ci,si⟩,b1⟩;have B1:=b0.trans (b1.mono b0.size);have s1:=b1.size;simp -implicitDefEqProofs only[go_sem,b1];have ht:Zd M T 12 #[wi,.agg #[j d c,j d r,j d u]] h1 fun v' h'=>jm h1.size h' v' Wo c r u/\Zj h1.size h1 h':=yP T h1 wi Wo c r u si (tk.Qx B1);refine ht.use ?_;rintro _ h2 ⟨⟨w2,rfl,o2⟩,b2⟩;have B2:=B1.trans (b2.mono B1.size);have s2:=b2.size;have b02:Zj h0.size h0 h2:=b1.trans (b2.mono s1);rw[OF]at o2;rw[OF];by_cases g:VE 32 c r u=0
 case neg=>
  have ee:QL n c r u k cl s nm v=VE 32 c r u:=by unfold QL;rw[if_neg (fun hn=>hn ⟨q0,q1⟩),if_pos g]
  rw[ee,if_neg g];obtain⟨E,hE⟩:=ZN (VE 32 c r u);rw[<-hE]at g ⊢;simp -implicitDefEqProofs only[go_sem,b02,g];exact⟨⟨_,rfl,Yx.nil _ 5 _⟩,B2⟩
 rw[g,if_pos rfl]at o2;rw[g];have ee:QL n c r u k cl s nm v=Y0 k cl s nm v:=by unfold QL;rw[if_neg (fun hn=>hn ⟨q0,q1⟩),if_neg (fun hn=>hn g)]
 rw[ee];have c2:=b02.get (by omega) c0;have r2:rd h2 ⟨h.size+1,0,none⟩ 5=F [j d k,j d cl,j d s,j d nm,j d v]:=Zz c2 rfl;simp -implicitDefEqProofs only[go_sem,b02,r2];have he:Zd M T 14 #[.agg #[j d k,j d cl,j d s,j d nm,j d v]] h2 fun v' h'=>ir h' v' k cl s nm v/\Zj h2.size h2 h':=Ks T h2 k cl s nm v;refine he.use ?_;rintro _ h3 ⟨⟨w3,rfl,o3⟩,b3⟩;have B3:=B2.trans (b3.mono B2.size);have s3:=b3.size;by_cases e:Y0 k cl s nm v=0
 case neg=>
  rw[if_neg e];obtain⟨E,hE⟩:=ZN (Y0 k cl s nm v);rw[<-hE]at e ⊢;simp -implicitDefEqProofs only[go_sem,e];exact⟨⟨_,rfl,Yx.nil _ 5 _⟩,B3⟩
 rw[e,if_pos rfl]at o3;rw[e];obtain⟨cl0,cl7⟩:=E6 e;have ke:Qc cl=0:=by unfold Qc;rw[if_neg (by omega)]
 have c3:=b3.get (by omega) c2;have rc3:V.hc h3 ⟨h.size+1,1,none⟩=F (j d cl):=by rw[Zl c3];rfl
 simp -implicitDefEqProofs only[go_sem,rc3];refine (Fr T h3 cl (tk.Qx B3)).use ?_;rintro _ h4 ⟨⟨w4,rfl,k4,o4,f4⟩,b4⟩;rw[ke,if_pos rfl]at o4;rw[ke];obtain⟨p4,c4,rfl,hc4⟩:=o4.open;have B4:=B3.trans (b4.mono B3.size);have s4:=b4.size;have o24:=(o2.Yz b3 (D _)).Yz b4 (D _);have o34:=o3.Yz b4;have l2:(Rt Wo c.toNat r.toNat u.toNat).length=22:=Qn _ _ _ _;have l3:(ZB [k.toNat,cl.toNat,s.toNat,nm.toNat,v.toNat]).length=20:=by rw[ZK];rfl
 have ep:ce c r u k cl s nm v=Rt Wo c.toNat r.toNat u.toNat++ZB [k.toNat,cl.toNat,s.toNat,nm.toNat,v.toNat]:=rfl;have Zut:=o2.Zm.lt;generalize Rt Wo c.toNat r.toNat u.toNat=PR at *;generalize ZB [k.toNat,cl.toNat,s.toNat,nm.toNat,v.toNat]=CB at *;simp -implicitDefEqProofs only[go_sem];refine Ux (E:=5) (B:=h1.size) Xd K Tv Si Sh o24 (by omega) o34 (by omega) ?_;intro w5 h5 o5 b5 bt5 _;have s5:=b5.size;have B5:Zj h.size h h5:=B4.trans (b5.mono (by omega));have o4':Bs h5 (J p4 (UD cl.toNat).length c4) (UD cl.toNat):=Zht o4 k4 bt5 (fun b hb e=>by
  have q1:=f4 b hb;have q2:=Zut b e;omega)
 have lk:=OE cl.toNat;have eS:Hr n c r u k cl s nm v=cl.toNat :: TB (UD cl.toNat) n.toNat (PR++CB):=by unfold Hr;rw[ep]
 have se:Ss (UD cl.toNat).length n 0 JP (PR++CB).length=0:=by rw[lk];exact cC q0 q1 (by rw[G];omega)
 simp -implicitDefEqProofs only[go_sem];have Zuu:Zd M T 16 #[.agg #[J p4 (UD cl.toNat).length c4,j d n,j d 0,t false,t false,t false,t false,t false,t false,t false,t false],w5] h5 fun v' h'=>BE h5.size h' v' (UD cl.toNat) n 0 JP (PR++CB)/\Zj h5.size h5 h':=bK T h5 _ w5 (UD cl.toNat) (PR++CB) n 0 JP rfl o4' o5.bs k4;refine Zuu.use ?_;rintro _ h6 ⟨⟨cw,w6,rfl,⟨w7,rfl,o7⟩,o6⟩,b6⟩;rw[se,if_pos rfl]at o6;rw[se,if_pos rfl]at o7;rw[se];have s6:=b6.size;have B6:Zj h.size h h6:=B5.trans (b6.mono (by omega));have c6:=b6.get (by omega) ((b5.mono (B':=h0.size) (by omega)).get (by omega) (b4.get (by omega) c3));have rc6:V.hc h6 ⟨h.size+1,1,none⟩=F (j d cl):=by rw[Zl c6];rfl
 obtain⟨p7,c7,rfl,_⟩:=o7.open;obtain⟨x,rfl⟩:∃x:Nat,cl=x:=⟨cl.toNat,by omega⟩
 have ec:(x:Int)%256=(x:Int):=by omega
 have Zuv:¬h.size+1=h6.size:=by omega
 have eN:JP.map Value.bool=[t false,t false,t false,t false,t false,t false,t false,t false]:=rfl;have ez:((0:Int)=0)=True:=eq_self 0;simp only[ez,if_true];unfold Yb;rw[eN];rw[L]at eS o6;have Wi:∀y∈[x],y<256:=by intro y hy;rw[O.1 hy];omega
 rw[show ((x:Nat):Int).toNat=x from L x]at *;simp -implicitDefEqProofs only[go_sem,rc6,Zuv,ec];obtain⟨h7,hh7⟩:=ZN (h6.push (A [J p7 (UD x).length c7,j d (n+1),j d 0,t false,t false,t false,t false,t false,t false,t false,t false].toArray 65):Hp);have e7:h6.push (A #[Value.slice p7 (UD x).length c7,j d (n+1),j d 0,t false,t false,t false,t false,t false,t false,t false,t false] 65)=h7:=hh7.symm;rw[e7];have b7:Zj h6.size h6 h7:=by rw[hh7];exact Zj.push (D _) _
 have s7:h7.size=h6.size+1:=by rw[hh7];simp
 have q7:h6.size+1=h7.size:=s7.symm;clear e7 hh7;have B7:=B6.trans (b7.mono (by omega));have o1:Yx h7.size 5 (h7.push (A (([x]:List Nat).map bv).toArray 5)) (J (F ⟨h7.size,0,none⟩) 1 1) [x]:=Yx.made Wi (D _);have bp:Zj h7.size h7 (h7.push (A (([x]:List Nat).map bv).toArray 5)):=Zj.push (D _) _;have lr:(TB (UD x) n.toNat (PR++CB)).length<=1000000:=R (Zhu _ _ _) (by rw[G];omega)
 try rw[q7]
 refine ZJ (E:=5) (B:=h7.size) Xd K Tv Si Sh o1 (by simp) ((o6.bs.Yz b7).Yz bp) (by simp;omega) ?_;intro w8 h8 o8 b8 _;simp -implicitDefEqProofs only[go_sem];rw[eS];exact⟨⟨_,rfl,o8.mono B7.size⟩,B7.trans (((bp.trans b8)).mono (by omega))⟩
end Go.Proofs.YtdapjaalaomghaaGreatDoor
