/- Keys that are drawn: what the program and the document compute; no condition but those in the statements. -/
import Derived.Test.YtboeoomhjbcecaaGreatDoorChw
import Derived.Test.YtboeoomhjbcecaaGreatDoorW19
import Derived.Test.YtboeoomhjbcecaaGreatDoorTakf
import Derived.Test.YtboeoomhjbcecaaGreatDoorTape
namespace Go.Proofs.YtboeoomhjbcecaaGreatDoor
open Go Go.V
set_option linter.unusedSimpArgs false
set_option linter.unusedVariables false
set_option maxRecDepth 100000
def aU:List Nat:=[99,108,105,101,110,116]
def aV:List Nat:=[105,115,115,117,101,114]
def UA (c:Nat):List Nat:=KJ [c] aU [] 32
def Vx:List Nat:=KJ [255] aV [] 32
theorem MM (c:Nat):(UA c).length=32:=Oy _ _ _ (by decide)
theorem MN:Vx.length=32:=Oy _ _ _ (by decide)
def Jm (c:Int):Int:=if c<0∨7<c then 2 else 0
def pZ (B:Nat) (h':Hp) (v':Value) (c:Int):Prop:=∃w,v'=.tuple [w,.int .i64 (Jm c)].toArray∧VR w∧Bs h' w (if Jm c=0 then UA c.toNat else [])∧∀b,ZO w=some b→B≤b
theorem F0 {h:Hp} {b:Nat} {l:List Nat} {E:TypeId} {fr:Nat × Nat} (hx:h[b]? = some (.cells (l.map bv).toArray E fr)) (hl:∀x∈l,x<256) (c:Nat):Bs h (.slice (some ⟨b,0,none⟩) l.length c) l:=by
 refine⟨⟨_,c,rfl,by simp,fun _=>⟨b,0,rfl,fun i hi=>?_⟩⟩,hl⟩;rw[VO hx,Nat.zero_add];simp;exact⟨_,List.getElem?_eq_getElem (by simpa using hi),rfl⟩
theorem Ib (T:World) (h:Hp) (c:Int) (tk:Tk h) :
  Zc Tryz.prog T 57 #[.int .i64 c] h fun v' h'=>pZ h.size h' v' c∧Zf h.size h h':=by
 refine Zc.Zk (args:=[_]) Tryz.func57 rfl rfl rfl rfl ?_;unfold pZ;by_cases e1:c<0
 ·have ee:Jm c=2:=by unfold Jm;rw[if_pos (.inl e1)]
  rw[ee];simp -implicitDefEqProofs only[go_sem,↓reduceIte,e1];exact⟨_,rfl,Nat.le_refl _,(Z0.nil 0 5 _).bs,fun b hb=>by simp[ZO]at hb⟩
 by_cases e2:7<c
 ·have ee:Jm c=2:=by unfold Jm;rw[if_pos (.inr e2)]
  rw[ee];simp -implicitDefEqProofs only[go_sem,↓reduceIte,e1,e2];exact⟨_,rfl,Nat.le_refl _,(Z0.nil 0 5 _).bs,fun b hb=>by simp[ZO]at hb⟩
 have ee:Jm c=0:=by unfold Jm;rw[if_neg (by omega)]
 rw[ee];obtain⟨n,rfl⟩:∃n:Nat,c=n:=⟨c.toNat,by omega⟩
 have ec:(n:Int)%256=(n:Int):=by omega
 rw[Int.toNat_natCast];simp -implicitDefEqProofs only[go_sem,↓reduceIte,e1,e2,ec];have Kf:∀x∈[n],x<256:=by intro x hx;rw[List.mem_singleton.1 hx];omega
 have Lr:∀x∈aU,x<256:=by decide
 obtain⟨h1,YK⟩:=Zx (h.push (.cells (([n]:List Nat).map bv).toArray 5):Hp);have b1:Zf h.size h h1:=by rw[YK];exact Zf.push (Nat.le_refl _) _
 have s1:h1.size=h.size+1:=by rw[YK];simp
 have x1:h1[h.size]? = some (.cells (([n]:List Nat).map bv).toArray 5):=by rw[YK];exact Zb
 change PW _ _ _ _ _ ((h.push (.cells (([n]:List Nat).map bv).toArray 5)).push (.cells (aU.map bv).toArray 5));rw[←YK];have x2:(h1.push (.cells (aU.map bv).toArray 5))[h.size+1]? = some (.cells (aU.map bv).toArray 5):=by rw[←s1];exact Zb
 refine HX Tryz.underlying48 Tryz.underlying5 x2 ?_;intro h3 fr' x3 Pa;have B3:Zf (h.size+1) h1 h3:=(Zf.push (by omega) _).trans (Pa.Z2 (by simp;omega) (fun b e=>by have:=Option.some.inj e;omega));have zR:h3[h.size]? = some (.cells (([n]:List Nat).map bv).toArray 5):=B3.get (by omega) x1;have Bh:Zf h.size h h3:=b1.trans (B3.mono (by omega));simp -implicitDefEqProofs only[go_sem,↓reduceIte];refine (K0 T h3 _ _ _ [n] aU [] 32 (F0 zR Kf 1) (F0 x3 Lr 6) (Z0.nil 0 5 _).bs (tk.Je Bh)).use ?_;rintro _ h4 ⟨⟨w4,rfl,hc4,o4,k4⟩,b4⟩;have B4:=Bh.trans (b4.mono Bh.size);have e0:XX ([n]:List Nat).length aU.length ([]:List Nat).length 32=0:=rfl;rw[e0,if_pos rfl,show (32:Int).toNat=32 from rfl]at o4;rw[e0];have o5:Bs h4 w4 (UA n):=by unfold UA;exact o4
 clear o4;generalize UA n=KS at *;simp -implicitDefEqProofs only[go_sem,↓reduceIte,B4];exact⟨_,rfl,hc4,o5,fun b hb=>Nat.le_trans Bh.size (k4 b hb)⟩
theorem NQ (T:World) (h:Hp) (tk:Tk h) :
  Zc Tryz.prog T 56 #[] h fun v' h'=>(VR v'∧Bs h' v' Vx)∧Zf h.size h h':=by
 refine Zc.Zk (args:=[]) Tryz.func56 rfl rfl rfl rfl ?_;simp -implicitDefEqProofs only[go_sem,↓reduceIte];have Kf:∀x∈[255],x<256:=by decide
 have Lr:∀x∈aV,x<256:=by decide
 obtain⟨h1,YK⟩:=Zx (h.push (.cells (([255]:List Nat).map bv).toArray 5):Hp);have b1:Zf h.size h h1:=by rw[YK];exact Zf.push (Nat.le_refl _) _
 have s1:h1.size=h.size+1:=by rw[YK];simp
 have x1:h1[h.size]? = some (.cells (([255]:List Nat).map bv).toArray 5):=by rw[YK];exact Zb
 have x2:(h1.push (.cells (aV.map bv).toArray 5))[h.size+1]? = some (.cells (aV.map bv).toArray 5):=by rw[←s1];exact Zb
 change PW _ _ _ _ _ ((h.push (.cells (([255]:List Nat).map bv).toArray 5)).push (.cells (aV.map bv).toArray 5));rw[←YK];refine HX Tryz.underlying48 Tryz.underlying5 x2 ?_;intro h3 fr' x3 Pa;have B3:Zf (h.size+1) h1 h3:=(Zf.push (by omega) _).trans (Pa.Z2 (by simp;omega) (fun b e=>by have:=Option.some.inj e;omega));have zR:h3[h.size]? = some (.cells (([255]:List Nat).map bv).toArray 5):=B3.get (by omega) x1;have Bh:Zf h.size h h3:=b1.trans (B3.mono (by omega));simp -implicitDefEqProofs only[go_sem,↓reduceIte];refine (K0 T h3 _ _ _ [255] aV [] 32 (F0 zR Kf 1) (F0 x3 Lr 6) (Z0.nil 0 5 _).bs (tk.Je Bh)).use ?_;rintro _ h4 ⟨⟨w4,rfl,hc4,o4,k4⟩,b4⟩;have B4:=Bh.trans (b4.mono Bh.size);have e0:XX ([255]:List Nat).length aV.length ([]:List Nat).length 32=0:=rfl;rw[e0,if_pos rfl,show (32:Int).toNat=32 from rfl]at o4;rw[e0];have o5:Bs h4 w4 Vx:=by unfold Vx;exact o4
 clear o4;generalize Vx=KS at *;simp -implicitDefEqProofs only[go_sem,↓reduceIte,B4];exact⟨hc4,o5⟩
theorem Zb9 {x:Option Nat} {h h':Hp} {v:Value} {l:List Nat} (s:Bs h v l) (hc:VR v) (a:Tv x h h') (hx:∀b,ZO v=some b→x≠some b):Bs h' v l:=by
 obtain⟨⟨p,cap,rfl,hl,YS⟩,hb⟩:=s;refine⟨⟨p,cap,rfl,hl,fun YA=>?_⟩,hb⟩;obtain⟨b,o,rfl,Sg⟩:=YS YA;refine⟨b,o,rfl,fun i hi=>?_⟩;have h1:=Sg i hi;have zN:l.length≤cap:=hc;have L1:0<l.length:=by
  cases l with
  | nil=>exact (YA rfl).elim
  | cons x l=>simp
 have Kg:h'[b]? = h[b]?:=a.block b (Uq h1) (hx b (by simp only[ZO];rw[if_neg (by omega)]));unfold V.hc at h1 ⊢;rw[Kg];exact h1
def Vy (n c r u k cl s nm v:Int):Int:=if ¬(0≤n∧n≤1073741823) then 2 else if Wm 32 c r u≠0 then Wm 32 c r u else Yx k cl s nm v
def qc (c r u k cl s nm v:Int):List Nat:=Cc Vx c.toNat r.toNat u.toNat++Zr [k.toNat,cl.toNat,s.toNat,nm.toNat,v.toNat]
def jm (n c r u k cl s nm v:Int):List Nat:=cl.toNat :: aM (UA cl.toNat) n.toNat (qc c r u k cl s nm v)
theorem Ci {n:Int} (h0:0≤n) (h1:n≤1073741823) {m:Nat} (hm:m≤2000):Vg 32 n 0 Jl m=0:=by
 have e:Xs 32 n 0 Jl=0:=by
  unfold Xs;rw[show early 0 Jl 8=false from rfl];simp;omega
 unfold Vg;rw[e,if_neg (by simp),if_neg (by omega),if_neg (by omega)]
theorem Hy {k c s n v:Int} (h:Yx k c s n v=0):0≤c∧c≤7:=by
 unfold Yx at h
 repeat' split at h
 all_goals omega
theorem qd (kl:List Nat) (n:Nat) (plain:List Nat):(aM kl n plain).length≤plain.length+20:=by
 unfold aM Gm;have l1:=Vc kl 1 (Jk (Y2 n)) plain;have l2:(QR kl (Jk (Y2 n)) (Y2 n) (Oz kl 1 (Jk (Y2 n)) plain)).length≤16:=LB _ _;rw[List.length_append,List.length_append,l1];have l3:(Y2 n).length=4:=rfl;omega
def ZgE (B:Nat) (h':Hp) (v':Value) (n c r u k cl s nm v:Int):Prop:=∃w,v'=.tuple [w,.int .i64 (Vy n c r u k cl s nm v)].toArray∧Z0 B 5 h' w (if Vy n c r u k cl s nm v=0 then jm n c r u k cl s nm v else [])
theorem wI (T:World) (h:Hp) (n c r u k cl s nm v:Int) (tk:Tk h) :
  Zc Tryz.prog T 39 #[.int .i64 n,.agg (TC c r u).toArray,.agg (Qp k cl s nm v).toArray] h fun v' h'=>ZgE h.size h' v' n c r u k cl s nm v∧Zf h.size h h':=by
 refine Zc.Zk (args:=[_,_,_]) Tryz.func39 rfl rfl rfl rfl ?_;unfold ZgE TC Qp;by_cases q:0≤n∧n≤1073741823
 case neg=>
  have ee:Vy n c r u k cl s nm v=2:=by unfold Vy;rw[if_pos q]
  rw[ee];by_cases q0:n<0
  ·simp -implicitDefEqProofs only[go_sem,↓reduceIte,q0];exact⟨_,rfl,Z0.nil _ 5 _⟩
  ·have q1:1073741824≤n:=by omega
   simp -implicitDefEqProofs only[go_sem,↓reduceIte,q0,q1];exact⟨_,rfl,Z0.nil _ 5 _⟩
 obtain⟨q0,q1⟩:=q;have qn0:¬n<0:=by omega
 have qn1:¬(1073741824:Int)≤n:=by omega
 obtain⟨h0,XR⟩:=Zx ((h.push (.cells [.int .i64 c,.int .i64 r,.int .i64 u].toArray 121)).push (.cells [.int .i64 k,.int .i64 cl,.int .i64 s,.int .i64 nm,.int .i64 v].toArray 47):Hp);have b0:Zf h.size h h0:=by rw[XR];exact ((Zf.refl _ _).add _).add _
 have s0:h0.size=h.size+2:=by rw[XR];simp
 have t0:h0[h.size]? = some (.cells [.int .i64 c,.int .i64 r,.int .i64 u].toArray 121):=by
  rw[XR,Array.getElem?_push,if_neg (by simp),Zb]
 have c0:h0[h.size+1]? = some (.cells [.int .i64 k,.int .i64 cl,.int .i64 s,.int .i64 nm,.int .i64 v].toArray 47):=by
  rw[XR,Array.getElem?_push,if_pos (by simp)]
 have e0:(h.push (.cells #[Value.int .i64 c,.int .i64 r,.int .i64 u] 121)).push (.cells #[Value.int .i64 k,.int .i64 cl,.int .i64 s,.int .i64 nm,.int .i64 v] 47)=h0:=XR.symm;have tH:(h.push (.cells [Value.int .i64 c,.int .i64 r,.int .i64 u].toArray 121)).push (.cells [Value.int .i64 k,.int .i64 cl,.int .i64 s,.int .i64 nm,.int .i64 v].toArray 47)=h0:=XR.symm;simp -implicitDefEqProofs only[go_sem,↓reduceIte,qn0,qn1]
 first|rw[e0]|rw[tH]
 clear e0 tH XR;have r0:rd h0 ⟨h.size,0,none⟩ 3=some [.int .i64 c,.int .i64 r,.int .i64 u]:=Zq t0 rfl;have k0:h.size<h0.size:=by omega
 refine VS.w (h0.size) [] (.q 1 (.s 0 (.s 2 (.q 3 (.q 4 (.q 5 (.q 6 (.q 7 .nil)))))))) mixed (by kernel_rfl) ?_;simp -implicitDefEqProofs only[go_sem,↓reduceIte,r0,k0];refine (NQ T h0 (tk.Je b0)).use ?_;rintro wi h1 ⟨⟨ci,si⟩,b1⟩;have B1:=b0.trans (b1.mono b0.size);have s1:=b1.size;simp -implicitDefEqProofs only[go_sem,↓reduceIte,b1];have ht:Zc Tryz.prog T 55 #[wi,.agg #[.int .i64 c,.int .i64 r,.int .i64 u]] h1 fun v' h'=>aT h1.size h' v' Vx c r u∧Zf h1.size h1 h':=pR T h1 wi Vx c r u si (tk.Je B1);refine ht.use ?_;rintro _ h2 ⟨⟨w2,rfl,o2⟩,b2⟩;have B2:=B1.trans (b2.mono B1.size);have s2:=b2.size;have b02:Zf h0.size h0 h2:=b1.trans (b2.mono s1);rw[MN]at o2;rw[MN];by_cases g:Wm 32 c r u=0
 case neg=>
  have ee:Vy n c r u k cl s nm v=Wm 32 c r u:=by unfold Vy;rw[if_neg (fun hn=>hn ⟨q0,q1⟩),if_pos g]
  rw[ee,if_neg g];obtain⟨E,hE⟩:=Zx (Wm 32 c r u);rw[←hE]at g ⊢;simp -implicitDefEqProofs only[go_sem,↓reduceIte,b02,g];exact⟨⟨_,rfl,Z0.nil _ 5 _⟩,B2⟩
 rw[g,if_pos rfl]at o2;rw[g];have ee:Vy n c r u k cl s nm v=Yx k cl s nm v:=by unfold Vy;rw[if_neg (fun hn=>hn ⟨q0,q1⟩),if_neg (fun hn=>hn g)]
 rw[ee];have c2:=b02.get (by omega) c0;have r2:rd h2 ⟨h.size+1,0,none⟩ 5=some [.int .i64 k,.int .i64 cl,.int .i64 s,.int .i64 nm,.int .i64 v]:=Zq c2 rfl;simp -implicitDefEqProofs only[go_sem,↓reduceIte,b02,r2];have he:Zc Tryz.prog T 26 #[.agg #[.int .i64 k,.int .i64 cl,.int .i64 s,.int .i64 nm,.int .i64 v]] h2 fun v' h'=>AU h' v' k cl s nm v∧Zf h2.size h2 h':=Nv T h2 k cl s nm v;refine he.use ?_;rintro _ h3 ⟨⟨w3,rfl,o3⟩,b3⟩;have B3:=B2.trans (b3.mono B2.size);have s3:=b3.size;by_cases e:Yx k cl s nm v=0
 case neg=>
  rw[if_neg e];obtain⟨E,hE⟩:=Zx (Yx k cl s nm v);rw[←hE]at e ⊢;simp -implicitDefEqProofs only[go_sem,↓reduceIte,e];exact⟨⟨_,rfl,Z0.nil _ 5 _⟩,B3⟩
 rw[e,if_pos rfl]at o3;rw[e];obtain⟨cl0,cl7⟩:=Hy e;have ke:Jm cl=0:=by unfold Jm;rw[if_neg (by omega)]
 have c3:=b3.get (by omega) c2;have rc3:V.hc h3 ⟨h.size+1,1,none⟩=some (.int .i64 cl):=by rw[Zh c3];rfl
 simp -implicitDefEqProofs only[go_sem,↓reduceIte,rc3];refine (Ib T h3 cl (tk.Je B3)).use ?_;rintro _ h4 ⟨⟨w4,rfl,k4,o4,f4⟩,b4⟩;rw[ke,if_pos rfl]at o4;rw[ke];obtain⟨p4,c4,rfl,hc4⟩:=o4.open;have B4:=B3.trans (b4.mono B3.size);have s4:=b4.size;have o24:=(o2.Z2 b3 (Nat.le_refl _)).Z2 b4 (Nat.le_refl _);have o34:=o3.Z2 b4;have l2:(Cc Vx c.toNat r.toNat u.toNat).length=22:=MI _ _ _ _;have l3:(Zr [k.toNat,cl.toNat,s.toNat,nm.toNat,v.toNat]).length=20:=by rw[ZC];rfl
 have ep:qc c r u k cl s nm v=Cc Vx c.toNat r.toNat u.toNat++Zr [k.toNat,cl.toNat,s.toNat,nm.toNat,v.toNat]:=rfl;have Zpc:=o2.own.lt;generalize Cc Vx c.toNat r.toNat u.toNat=PR at *;generalize Zr [k.toNat,cl.toNat,s.toNat,nm.toNat,v.toNat]=CB at *;simp -implicitDefEqProofs only[go_sem,↓reduceIte];refine Qo (E:=5) (B:=h1.size) YD Tryz.underlying48 Wg WY WX o24 (by omega) o34 (by omega) ?_;intro w5 h5 o5 b5 bt5 _;have s5:=b5.size;have B5:Zf h.size h h5:=B4.trans (b5.mono (by omega));have o4':Bs h5 (.slice p4 (UA cl.toNat).length c4) (UA cl.toNat):=Zb9 o4 k4 bt5 (fun b hb e=>by
  have q1:=f4 b hb;have q2:=Zpc b e;omega)
 have lk:=MM cl.toNat;have eS:jm n c r u k cl s nm v=cl.toNat :: aM (UA cl.toNat) n.toNat (PR++CB):=by unfold jm;rw[ep]
 have se:Vg (UA cl.toNat).length n 0 Jl (PR++CB).length=0:=by rw[lk];exact Ci q0 q1 (by rw[List.length_append];omega)
 simp -implicitDefEqProofs only[go_sem,↓reduceIte];have Zpd:Zc Tryz.prog T 58 #[.agg #[.slice p4 (UA cl.toNat).length c4,.int .i64 n,.int .i64 0,.bool false,.bool false,.bool false,.bool false,.bool false,.bool false,.bool false,.bool false],w5] h5 fun v' h'=>FT h5.size h' v' (UA cl.toNat) n 0 Jl (PR++CB)∧Zf h5.size h5 h':=D4 T h5 _ w5 (UA cl.toNat) (PR++CB) n 0 Jl rfl o4' o5.bs k4;refine Zpd.use ?_;rintro _ h6 ⟨⟨cw,w6,rfl,⟨w7,rfl,o7⟩,o6⟩,b6⟩;rw[se,if_pos rfl]at o6;rw[se,if_pos rfl]at o7;rw[se];have s6:=b6.size;have B6:Zf h.size h h6:=B5.trans (b6.mono (by omega));have c6:=b6.get (by omega) ((b5.mono (B':=h0.size) (by omega)).get (by omega) (b4.get (by omega) c3));have rc6:V.hc h6 ⟨h.size+1,1,none⟩=some (.int .i64 cl):=by rw[Zh c6];rfl
 obtain⟨p7,c7,rfl,_⟩:=o7.open;obtain⟨x,rfl⟩:∃x:Nat,cl=x:=⟨cl.toNat,by omega⟩
 have ec:(x:Int)%256=(x:Int):=by omega
 have Zpe:¬h.size+1=h6.size:=by omega
 have eN:Jl.map Value.bool=[.bool false,.bool false,.bool false,.bool false,.bool false,.bool false,.bool false,.bool false]:=rfl;have ez:((0:Int)=0)=True:=eq_self 0;simp only[ez,if_true];unfold ZS;rw[eN];rw[Int.toNat_natCast]at eS o6;have QL:∀y∈[x],y<256:=by intro y hy;rw[List.mem_singleton.1 hy];omega
 rw[show ((x:Nat):Int).toNat=x from Int.toNat_natCast x]at *;simp -implicitDefEqProofs only[go_sem,↓reduceIte,rc6,Zpe,ec];obtain⟨h7,wu⟩:=Zx (h6.push (.cells [.slice p7 (UA x).length c7,.int .i64 (n+1),.int .i64 0,.bool false,.bool false,.bool false,.bool false,.bool false,.bool false,.bool false,.bool false].toArray 150):Hp);have e7:h6.push (.cells #[Value.slice p7 (UA x).length c7,.int .i64 (n+1),.int .i64 0,.bool false,.bool false,.bool false,.bool false,.bool false,.bool false,.bool false,.bool false] 150)=h7:=wu.symm;rw[e7];have b7:Zf h6.size h6 h7:=by rw[wu];exact Zf.push (Nat.le_refl _) _
 have s7:h7.size=h6.size+1:=by rw[wu];simp
 have q7:h6.size+1=h7.size:=s7.symm;clear e7 wu;have B7:=B6.trans (b7.mono (by omega));have o1:Z0 h7.size 5 (h7.push (.cells (([x]:List Nat).map bv).toArray 5)) (.slice (some ⟨h7.size,0,none⟩) 1 1) [x]:=Z0.made QL (Nat.le_refl _);have bp:Zf h7.size h7 (h7.push (.cells (([x]:List Nat).map bv).toArray 5)):=Zf.push (Nat.le_refl _) _;have lr:(aM (UA x) n.toNat (PR++CB)).length≤1000000:=Nat.le_trans (qd _ _ _) (by rw[List.length_append];omega)
 try rw[q7]
 refine Zv (E:=5) (B:=h7.size) YD Tryz.underlying48 Wg WY WX o1 (by simp) ((o6.bs.Z2 b7).Z2 bp) (by simp;omega) ?_;intro w8 h8 o8 b8 _;simp -implicitDefEqProofs only[go_sem,↓reduceIte];rw[eS];exact⟨⟨_,rfl,o8.mono B7.size⟩,B7.trans (((bp.trans b8)).mono (by omega))⟩
end Go.Proofs.YtboeoomhjbcecaaGreatDoor
