/- Part Pak. -/
import Derived.Test.YtkhkmpfenaipaaaGreatDoorChw
import Derived.Test.YtkhkmpfenaipaaaGreatDoorW19
import Derived.Test.YtkhkmpfenaipaaaGreatDoorTakf
import Derived.Test.YtkhkmpfenaipaaaGreatDoorLchks
open Go.Value renaming int→j,bool→t,slice→G
open Go.IntKind renaming i64→d
open Go.Obj renaming cells→A
open Go.Proofs.Tryz renaming underlying39→H,prog→L,underlying5→O
open List renaming length→J,mem_singleton→N
open Nat renaming le_refl→D
open Int renaming toNat_natCast→K
open Option renaming some→F
open Array renaming getElem?_push→M
namespace Go.Proofs.YtkhkmpfenaipaaaGreatDoor
open Go Go.V
set_option linter.all false
set_option maxRecDepth 100000
def nC:List Nat:=[99,108,105,101,110,116]
def nE:List Nat:=[105,115,115,117,101,114]
def VQ(c:Nat):List Nat:=Ez [c] nC [] 32
def PB:List Nat:=Ez [255] nE [] 32
theorem Gm(c:Nat):(VQ c).length=32:=KF _ _ _ HE
theorem Gp:(J PB)=32:=KF _ _ _ HE
def QR(c:Int):Int:=if c<0\/7<c then 2 else 0
def Zcx(B:Nat)(h':Hp)(a:Value)(c:Int):Prop:=∃w,a=.tuple [w,j d (QR c)].toArray/\RT w/\Bs h' w (if QR c=0 then VQ c.toNat else [])/\∀b,Yq w=F b->B<=b
theorem bO{h:Hp}{b:Nat}{l:List Nat}{E:TypeId}{e:Nat × Nat}(f:h[b]? = F (A (l.map bv).toArray E e))(a:∀x∈l,x<256)(c:Nat):Bs h (G (F ⟨b,0,none⟩) (J l) c) l:=by
 refine⟨⟨_,c,rfl,zX,fun _=>⟨b,0,rfl,fun i hi=>?_⟩⟩,a⟩
 grind [hc]
theorem EW(T:World)(h:Hp)(c:Int)(tk:Tk h):
  Zg L T 19 #[j d c] h fun y h'=>Zcx h.size h' y c/\Zm h.size h h':=by
 refine Zg.X8 [_] Tryz.func19 ?_;unfold Zcx;by_cases i:c<0
 .have f:QR c=2:=by unfold QR;rw[if_pos (.inl i)]
  rw[f];simp -implicitDefEqProofs only[go_sem,i];exact⟨_,rfl,D _,(YL.nil 0 5 _).bs,fun b hb=>by simp[Yq]at hb⟩
 by_cases o:7<c
 .have f:QR c=2:=by unfold QR;rw[if_pos (.inr o)]
  rw[f];simp -implicitDefEqProofs only[go_sem,i,o];exact⟨_,rfl,D _,(YL.nil 0 5 _).bs,fun b hb=>by simp[Yq]at hb⟩
 have f:QR c=0:=by unfold QR;rw[if_neg uh]
 rw[f];obtain⟨n,rfl⟩:∃n:Nat,c=n:=⟨c.toNat,uh⟩
 have P:(n:Int)%256=(n:Int):=uh;rw[K];simp -implicitDefEqProofs only[go_sem,i,o,P];have V:∀x∈[n],x<256:=by intro x B;rw[N.1 B];omega
 have U:∀x∈nC,x<256:=HE;let⟨a,k⟩:=ZO (h.push (A (([n]:List Nat).map bv).toArray 5):Hp);have R:Zm h.size h a:=by rw[k];exact Zm.push (D _) _
 have z:a.size=h.size+1:=by rw[k];simp
 have v:a[h.size]? = F (A (([n]:List Nat).map bv).toArray 5):=by rw[k];exact Zf
 change L9 _ _ _ _ _ ((h.push (A (([n]:List Nat).map bv).toArray 5)).push (A (nC.map bv).toArray 5));rw[<-k];have u:(a.push (A (nC.map bv).toArray 5))[h.size+1]? = F (A (nC.map bv).toArray 5):=by rw[<-z];exact Zf
 refine BF H O u ?_;intro g I s S;have r:Zm (h.size+1) a g:=(Zm.push uh _).trans (S.YQ Fo (fun b e=>by grind));have l:g[h.size]? = F (A (([n]:List Nat).map bv).toArray 5):=r.get uh v;have p:Zm h.size h g:=R.trans (r.mono uh);simp -implicitDefEqProofs only[go_sem];refine (ES T g _ _ _ [n] nC [] 32 (bO l V 1) (bO s U 6) (YL.nil 0 5 _).bs (tk.QL p)).use ?_;rintro _ E ⟨⟨w,rfl,C,m,Y⟩,Q⟩;have W:=p.trans (Q.mono p.size);have q:Qx ([n]:List Nat).length (J nC) ([]:List Nat).length 32=0:=rfl;rw[q,if_pos rfl,show (32:Int).toNat=32 from rfl]at m;rw[q];have X:Bs E w (VQ n):=by unfold VQ;exact m
 clear m;generalize VQ n=KS at *;simp -implicitDefEqProofs only[go_sem,W]
 grind
theorem Ha(T:World)(h:Hp)(tk:Tk h):
  Zg L T 22 #[] h fun l h'=>(RT l/\Bs h' l PB)/\Zm h.size h h':=by
 refine Zg.X8 [] Tryz.func22 ?_;simp -implicitDefEqProofs only[go_sem];have E:∀x∈[255],x<256:=HE;have C:∀x∈nE,x<256:=HE;let⟨a,f⟩:=ZO (h.push (A (([255]:List Nat).map bv).toArray 5):Hp);have z:Zm h.size h a:=by rw[f];exact Zm.push (D _) _
 have s:a.size=h.size+1:=by rw[f];simp
 have q:a[h.size]? = F (A (([255]:List Nat).map bv).toArray 5):=by rw[f];exact Zf
 have p:(a.push (A (nE.map bv).toArray 5))[h.size+1]? = F (A (nE.map bv).toArray 5):=by rw[<-s];exact Zf
 change L9 _ _ _ _ _ ((h.push (A (([255]:List Nat).map bv).toArray 5)).push (A (nE.map bv).toArray 5));rw[<-f];refine BF H O p ?_;intro c w o B;have n:Zm (h.size+1) a c:=(Zm.push uh _).trans (B.YQ Fo (fun b e=>by grind));have g:c[h.size]? = F (A (([255]:List Nat).map bv).toArray 5):=n.get uh q;have k:Zm h.size h c:=z.trans (n.mono uh);simp -implicitDefEqProofs only[go_sem];refine (ES T c _ _ _ [255] nE [] 32 (bO g E 1) (bO o C 6) (YL.nil 0 5 _).bs (tk.QL k)).use ?_;rintro _ v ⟨⟨r,rfl,u,i,Q⟩,y⟩;have I:=k.trans (y.mono k.size);have m:Qx ([255]:List Nat).length (J nE) ([]:List Nat).length 32=0:=rfl;rw[m,if_pos rfl,show (32:Int).toNat=32 from rfl]at i;rw[m];have P:Bs v r PB:=by unfold PB;exact i
 clear i;generalize PB=KS at *;simp -implicitDefEqProofs only[go_sem,I]
 grind
theorem Zk9{x:Option Nat}{h h':Hp}{v:Value}{l:List Nat}(s:Bs h v l)(hc:RT v)(a:SK x h h')(g:∀b,Yq v=F b->x≠F b):Bs h' v l:=by
 obtain⟨⟨p,cap,rfl,c,f⟩,hb⟩:=s;refine⟨⟨p,cap,rfl,c,fun e=>?_⟩,hb⟩;obtain⟨b,o,rfl,k⟩:=f e;refine⟨b,o,rfl,fun i hi=>?_⟩
 grind [hc,YU,RT,Yq,SK.block]
def RF(n c r u k cl s nm v:Int):Int:=if ¬(0<=n/\n<=1073741823) then 2 else if Se 32 c r u≠0 then Se 32 c r u else Xy k cl s nm v
def ZgS(c r u k cl s nm v:Int):List Nat:=gN PB c.toNat r.toNat u.toNat++ZI [k.toNat,cl.toNat,s.toNat,nm.toNat,v.toNat]
def xm(n c r u k cl s nm v:Int):List Nat:=cl.toNat :: nc (VQ cl.toNat) n.toNat (ZgS c r u k cl s nm v)
theorem gX{n:Int}(c:0<=n)(b:n<=1073741823){m:Nat}(a:m<=2000):S8 32 n 0 QQ m=0:=by
 have e:JJ 32 n 0 QQ=0:=by
  unfold JJ;rw[show early 0 QQ 8=false from rfl];simp;omega
 grind [S8]
theorem CY{k c s n v:Int}(h:Xy k c s n v=0):0<=c/\c<=7:=by
 unfold Xy at h
 grind
theorem Zcy(kl:List Nat)(n:Nat)(plain:List Nat):(nc kl n plain).length<=(J plain)+20:=by
 grind [nc,Jz,BW,S4,WR,FE]
def ZpW(B:Nat)(h':Hp)(a:Value)(n c r u k cl s nm v:Int):Prop:=∃w,a=.tuple [w,j d (RF n c r u k cl s nm v)].toArray/\YL B 5 h' w (if RF n c r u k cl s nm v=0 then xm n c r u k cl s nm v else [])
theorem ZgT(T:World)(h:Hp)(n c r u k cl s nm v:Int)(tk:Tk h):
  Zg L T 49 #[j d n,.agg (Oi c r u).toArray,.agg (Wg k cl s nm v).toArray] h fun m h'=>ZpW h.size h' m n c r u k cl s nm v/\Zm h.size h h':=by
 refine Zg.X8 [_,_,_] Tryz.func49 ?_;unfold ZpW Oi Wg;by_cases q:0<=n/\n<=1073741823
 case neg=>
  have R:RF n c r u k cl s nm v=2:=by unfold RF;rw[if_pos q]
  rw[R];by_cases z:n<0
  .simp -implicitDefEqProofs only[go_sem,z];exact⟨_,rfl,YL.nil _ 5 _⟩
  .have P:1073741824<=n:=by omega
   simp -implicitDefEqProofs only[go_sem,z,P];exact⟨_,rfl,YL.nil _ 5 _⟩
 let⟨z,P⟩:=q;have a3:¬n<0:=by omega
 have a2:¬(1073741824:Int)<=n:=by omega
 let⟨a,w⟩:=ZO ((h.push (A [j d c,j d r,j d u].toArray 74)).push (A [j d k,j d cl,j d s,j d nm,j d v].toArray 43):Hp);have b0:Zm h.size h a:=by rw[w];exact ((Zm.refl _ _).add _).add _
 have s0:a.size=h.size+2:=by rw[w];simp
 have t0:a[h.size]? = F (A [j d c,j d r,j d u].toArray 74):=by
  rw[w,M,if_neg (by simp),Zf]
 have c0:a[h.size+1]? = F (A [j d k,j d cl,j d s,j d nm,j d v].toArray 43):=by
  rw[w,M,if_pos (by simp)]
 have e0:(h.push (A #[Value.int d c,j d r,j d u] 74)).push (A #[Value.int d k,j d cl,j d s,j d nm,j d v] 43)=a:=w.symm;have S:(h.push (A [Value.int d c,j d r,j d u].toArray 74)).push (A [Value.int d k,j d cl,j d s,j d nm,j d v].toArray 43)=a:=w.symm;simp -implicitDefEqProofs only[go_sem,a3,a2]
 first|rw[e0]|rw[S]
 clear e0 S w;have r0:rd a ⟨h.size,0,none⟩ 3=F [j d c,j d r,j d u]:=ZB t0 rfl;have k0:h.size<a.size:=by omega
 refine VS.z (a.size) [] (.q 1 (.s 0 (.s 2 (.p 3 (.p 4 (.p 5 (.p 6 (.p 7 .nil)))))))) mixed (by kernel_rfl) ?_;simp -implicitDefEqProofs only[go_sem,r0,k0];refine (Ha T a (tk.QL b0)).use ?_;rintro wi I ⟨⟨ci,si⟩,Y⟩;have B1:=b0.trans (Y.mono b0.size);have s1:=Y.size;simp -implicitDefEqProofs only[go_sem,Y];have ht:Zg L T 69 #[wi,.agg #[j d c,j d r,j d u]] I fun m h'=>ny I.size h' m PB c r u/\Zm I.size I h':=Zcq T I wi PB c r u si (tk.QL B1);refine ht.use ?_;rintro _ C ⟨⟨w2,rfl,W⟩,b2⟩;have B2:=B1.trans (b2.mono B1.size);have s2:=b2.size;have p:Zm a.size a C:=Y.trans (b2.mono s1);rw[Gp]at W;rw[Gp];by_cases g:Se 32 c r u=0
 case neg=>
  have R:RF n c r u k cl s nm v=Se 32 c r u:=by unfold RF;rw[if_neg (fun Q=>Q ⟨z,P⟩),if_pos g]
  rw[R,if_neg g];let⟨E,hE⟩:=ZO (Se 32 c r u);rw[<-hE]at g ⊢;simp -implicitDefEqProofs only[go_sem,p,g];exact⟨⟨_,rfl,YL.nil _ 5 _⟩,B2⟩
 rw[g,if_pos rfl]at W;rw[g];have R:RF n c r u k cl s nm v=Xy k cl s nm v:=by unfold RF;rw[if_neg (fun Q=>Q ⟨z,P⟩),if_neg (fun Q=>Q g)]
 rw[R];have c2:=p.get (by omega) c0;have r2:rd C ⟨h.size+1,0,none⟩ 5=F [j d k,j d cl,j d s,j d nm,j d v]:=ZB c2 rfl;simp -implicitDefEqProofs only[go_sem,p,r2];have he:Zg L T 46 #[.agg #[j d k,j d cl,j d s,j d nm,j d v]] C fun m h'=>mm h' m k cl s nm v/\Zm C.size C h':=IT T C k cl s nm v;refine he.use ?_;rintro _ h3 ⟨⟨w3,rfl,o3⟩,X⟩;have Z:=B2.trans (X.mono B2.size);have s3:=X.size;by_cases e:Xy k cl s nm v=0
 case neg=>
  rw[if_neg e];let⟨E,hE⟩:=ZO (Xy k cl s nm v);rw[<-hE]at e ⊢;simp -implicitDefEqProofs only[go_sem,e];exact⟨⟨_,rfl,YL.nil _ 5 _⟩,Z⟩
 rw[e,if_pos rfl]at o3;rw[e];let⟨aq,ao⟩:=CY e;have ke:QR cl=0:=by unfold QR;rw[if_neg (by omega)]
 have c3:=X.get (by omega) c2;have a1:V.hc h3 ⟨h.size+1,1,none⟩=F (j d cl):=by rw[Zr c3];rfl
 simp -implicitDefEqProofs only[go_sem,a1];refine (EW T h3 cl (tk.QL Z)).use ?_;rintro _ h4 ⟨⟨w4,rfl,k4,o4,f4⟩,U⟩;rw[ke,if_pos rfl]at o4;rw[ke];obtain⟨p4,c4,rfl,ae⟩:=o4.open;have B4:=Z.trans (U.mono Z.size);have s4:=U.size;have a6:=(W.YQ X (D _)).YQ U (D _);have a5:=o3.YQ U;have l2:(gN PB c.toNat r.toNat u.toNat).length=22:=Gk _ _ _ _;have l3:(ZI [k.toNat,cl.toNat,s.toNat,nm.toNat,v.toNat]).length=20:=by rw[ZV];rfl
 have ep:ZgS c r u k cl s nm v=gN PB c.toNat r.toNat u.toNat++ZI [k.toNat,cl.toNat,s.toNat,nm.toNat,v.toNat]:=rfl;have aw:=W.Zn.lt;generalize gN PB c.toNat r.toNat u.toNat=PR at *;generalize ZI [k.toNat,cl.toNat,s.toNat,nm.toNat,v.toNat]=CB at *;simp -implicitDefEqProofs only[go_sem];refine U8 (E:=5) (B:=I.size) XD H T8 SU SQ a6 (by omega) a5 (by omega) ?_;intro w5 o o5 b5 a7 _;have s5:=b5.size;have B5:Zm h.size h o:=B4.trans (b5.mono (by omega));have a4:Bs o (G p4 (VQ cl.toNat).length c4) (VQ cl.toNat):=Zk9 o4 k4 a7 (fun b hb e=>by
  grind)
 have lk:=Gm cl.toNat;have eS:xm n c r u k cl s nm v=cl.toNat :: nc (VQ cl.toNat) n.toNat (PR++CB):=by unfold xm;rw[ep]
 have se:S8 (VQ cl.toNat).length n 0 QQ (PR++CB).length=0:=by rw[lk];exact gX z P (by grind)
 simp -implicitDefEqProofs only[go_sem];have a9:Zg L T 70 #[.agg #[G p4 (VQ cl.toNat).length c4,j d n,j d 0,t false,t false,t false,t false,t false,t false,t false,t false],w5] o fun m h'=>bH o.size h' m (VQ cl.toNat) n 0 QQ (PR++CB)/\Zm o.size o h':=gE T o _ w5 (VQ cl.toNat) (PR++CB) n 0 QQ rfl a4 o5.bs k4;refine a9.use ?_;rintro _ l ⟨⟨cw,w6,rfl,⟨w7,rfl,o7⟩,o6⟩,b6⟩;rw[se,if_pos rfl]at o6;rw[se,if_pos rfl]at o7;rw[se];have s6:=b6.size;have B6:Zm h.size h l:=B5.trans (b6.mono (by omega));have c6:=b6.get (by omega) ((b5.mono (B':=a.size) (by omega)).get (by omega) (U.get (by omega) c3));have a0:V.hc l ⟨h.size+1,1,none⟩=F (j d cl):=by rw[Zr c6];rfl
 obtain⟨p7,c7,rfl,_⟩:=o7.open;obtain⟨x,rfl⟩:∃x:Nat,cl=x:=⟨cl.toNat,by omega⟩
 have ec:(x:Int)%256=(x:Int):=by omega
 have a8:¬h.size+1=l.size:=by omega
 have eN:QQ.map Value.bool=[t false,t false,t false,t false,t false,t false,t false,t false]:=rfl;have ez:((0:Int)=0)=True:=eq_self 0;simp only[ez,if_true];unfold Ys;rw[eN];rw[K]at eS o6;have WH:∀y∈[x],y<256:=by intro y hy;rw[N.1 hy];omega
 rw[show ((x:Nat):Int).toNat=x from K x]at *;simp -implicitDefEqProofs only[go_sem,a0,a8,ec];let⟨f,i⟩:=ZO (l.push (A [G p7 (VQ x).length c7,j d (n+1),j d 0,t false,t false,t false,t false,t false,t false,t false,t false].toArray 70):Hp);have e7:l.push (A #[Value.slice p7 (VQ x).length c7,j d (n+1),j d 0,t false,t false,t false,t false,t false,t false,t false,t false] 70)=f:=i.symm;rw[e7];have b7:Zm l.size l f:=by rw[i];exact Zm.push (D _) _
 have s7:f.size=l.size+1:=by rw[i];simp
 have q7:l.size+1=f.size:=s7.symm;clear e7 i;have B7:=B6.trans (b7.mono (by omega));have o1:YL f.size 5 (f.push (A (([x]:List Nat).map bv).toArray 5)) (G (F ⟨f.size,0,none⟩) 1 1) [x]:=YL.made WH (D _);have bp:Zm f.size f (f.push (A (([x]:List Nat).map bv).toArray 5)):=Zm.push (D _) _;have lr:(nc (VQ x) n.toNat (PR++CB)).length<=1000000:=Nat.le_trans (Zcy _ _ _) (by grind)
 try rw[q7]
 refine ZP (E:=5) (B:=f.size) XD H T8 SU SQ o1 (by simp) ((o6.bs.YQ b7).YQ bp) (by simp;omega) ?_;intro w8 h8 o8 b8 _;simp -implicitDefEqProofs only[go_sem];rw[eS];exact⟨⟨_,rfl,o8.mono B7.size⟩,B7.trans (((bp.trans b8)).mono (by omega))⟩
end Go.Proofs.YtkhkmpfenaipaaaGreatDoor
