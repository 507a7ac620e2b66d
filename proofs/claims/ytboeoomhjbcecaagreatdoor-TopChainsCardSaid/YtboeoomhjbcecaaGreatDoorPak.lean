/- Keys that are drawn: what the program and the document compute; no condition but those in the statements. -/
import Derived.Test.YtboeoomhjbcecaaGreatDoorChw
import Derived.Test.YtboeoomhjbcecaaGreatDoorW19
import Derived.Test.YtboeoomhjbcecaaGreatDoorTakf
import Derived.Test.YtboeoomhjbcecaaGreatDoorTape
namespace Go.Proofs.YtboeoomhjbcecaaGreatDoor
open Go Go.V
set_option linter.unusedSimpArgs false
set_option linter.unusedVariables false
set_option maxRecDepth 100000
def aV:List Nat:=[99,108,105,101,110,116]
def aW:List Nat:=[105,115,115,117,101,114]
def UA (c:Nat):List Nat:=KA [c] aV [] 32
def Vy:List Nat:=KA [255] aW [] 32
theorem ME (c:Nat):(UA c).length=32:=Om _ _ _ (by decide)
theorem MF:Vy.length=32:=Om _ _ _ (by decide)
def Jh (c:Int):Int:=if c<0∨7<c then 2 else 0
def qj (B:Nat) (h':Hp) (v':Value) (c:Int):Prop:=∃w,v'=.tuple [w,.int .i64 (Jh c)].toArray∧Tu w∧Bs h' w (if Jh c=0 then UA c.toNat else [])∧∀b,ZO w=some b→B≤b
theorem F0 {h:Hp} {b:Nat} {l:List Nat} {E:TypeId} {fr:Nat × Nat} (hx:h[b]? = some (.cells (l.map bv).toArray E fr)) (hl:∀x∈l,x<256) (c:Nat):Bs h (.slice (some ⟨b,0,none⟩) l.length c) l:=by
 refine⟨⟨_,c,rfl,by simp,fun _=>⟨b,0,rfl,fun i hi=>?_⟩⟩,hl⟩;rw[VM hx,Nat.zero_add];simp;exact⟨_,List.getElem?_eq_getElem (by simpa using hi),rfl⟩
theorem KX (T:World) (h:Hp) (c:Int) (tk:Tk h) :
  Zc Tryz.prog T 57 #[.int .i64 c] h fun v' h'=>qj h.size h' v' c∧Zg h.size h h':=by
 refine Zc.Zj (args:=[_]) Tryz.func57 rfl rfl rfl rfl ?_;unfold qj;by_cases e1:c<0
 ·have ee:Jh c=2:=by unfold Jh;rw[if_pos (.inl e1)]
  rw[ee];simp -implicitDefEqProofs only[go_sem,↓reduceIte,e1];exact⟨_,rfl,Nat.le_refl _,(Z0.nil 0 5 _).bs,fun b hb=>by simp[ZO]at hb⟩
 by_cases e2:7<c
 ·have ee:Jh c=2:=by unfold Jh;rw[if_pos (.inr e2)]
  rw[ee];simp -implicitDefEqProofs only[go_sem,↓reduceIte,e1,e2];exact⟨_,rfl,Nat.le_refl _,(Z0.nil 0 5 _).bs,fun b hb=>by simp[ZO]at hb⟩
 have ee:Jh c=0:=by unfold Jh;rw[if_neg (by omega)]
 rw[ee];obtain⟨n,rfl⟩:∃n:Nat,c=n:=⟨c.toNat,by omega⟩
 have ec:(n:Int)%256=(n:Int):=by omega
 rw[Int.toNat_natCast];simp -implicitDefEqProofs only[go_sem,↓reduceIte,e1,e2,ec];have Ka:∀x∈[n],x<256:=by intro x hx;rw[List.mem_singleton.1 hx];omega
 have Lo:∀x∈aV,x<256:=by decide
 obtain⟨h1,YN⟩:=Zy (h.push (.cells (([n]:List Nat).map bv).toArray 5):Hp);have b1:Zg h.size h h1:=by rw[YN];exact Zg.push (Nat.le_refl _) _
 have s1:h1.size=h.size+1:=by rw[YN];simp
 have x1:h1[h.size]? = some (.cells (([n]:List Nat).map bv).toArray 5):=by rw[YN];exact Zb
 change VJ _ _ _ _ _ ((h.push (.cells (([n]:List Nat).map bv).toArray 5)).push (.cells (aV.map bv).toArray 5));rw[←YN];have x2:(h1.push (.cells (aV.map bv).toArray 5))[h.size+1]? = some (.cells (aV.map bv).toArray 5):=by rw[←s1];exact Zb
 refine HU Tryz.underlying48 Tryz.underlying5 x2 ?_;intro h3 fr' x3 RT;have B3:Zg (h.size+1) h1 h3:=(Zg.push (by omega) _).trans (RT.Z3 (by simp;omega) (fun b e=>by have:=Option.some.inj e;omega));have zS:h3[h.size]? = some (.cells (([n]:List Nat).map bv).toArray 5):=B3.get (by omega) x1;have Bh:Zg h.size h h3:=b1.trans (B3.mono (by omega));simp -implicitDefEqProofs only[go_sem,↓reduceIte];refine (KU T h3 _ _ _ [n] aV [] 32 (F0 zS Ka 1) (F0 x3 Lo 6) (Z0.nil 0 5 _).bs (tk.X0 Bh)).use ?_;rintro _ h4 ⟨⟨w4,rfl,hc4,o4,k4⟩,b4⟩;have B4:=Bh.trans (b4.mono Bh.size);have e0:XS ([n]:List Nat).length aV.length ([]:List Nat).length 32=0:=rfl;rw[e0,if_pos rfl,show (32:Int).toNat=32 from rfl]at o4;rw[e0];have o5:Bs h4 w4 (UA n):=by unfold UA;exact o4
 clear o4;generalize UA n=KS at *;simp -implicitDefEqProofs only[go_sem,↓reduceIte,B4];exact⟨_,rfl,hc4,o5,fun b hb=>Nat.le_trans Bh.size (k4 b hb)⟩
theorem NB (T:World) (h:Hp) (tk:Tk h) :
  Zc Tryz.prog T 56 #[] h fun v' h'=>(Tu v'∧Bs h' v' Vy)∧Zg h.size h h':=by
 refine Zc.Zj (args:=[]) Tryz.func56 rfl rfl rfl rfl ?_;simp -implicitDefEqProofs only[go_sem,↓reduceIte];have Ka:∀x∈[255],x<256:=by decide
 have Lo:∀x∈aW,x<256:=by decide
 obtain⟨h1,YN⟩:=Zy (h.push (.cells (([255]:List Nat).map bv).toArray 5):Hp);have b1:Zg h.size h h1:=by rw[YN];exact Zg.push (Nat.le_refl _) _
 have s1:h1.size=h.size+1:=by rw[YN];simp
 have x1:h1[h.size]? = some (.cells (([255]:List Nat).map bv).toArray 5):=by rw[YN];exact Zb
 have x2:(h1.push (.cells (aW.map bv).toArray 5))[h.size+1]? = some (.cells (aW.map bv).toArray 5):=by rw[←s1];exact Zb
 change VJ _ _ _ _ _ ((h.push (.cells (([255]:List Nat).map bv).toArray 5)).push (.cells (aW.map bv).toArray 5));rw[←YN];refine HU Tryz.underlying48 Tryz.underlying5 x2 ?_;intro h3 fr' x3 RT;have B3:Zg (h.size+1) h1 h3:=(Zg.push (by omega) _).trans (RT.Z3 (by simp;omega) (fun b e=>by have:=Option.some.inj e;omega));have zS:h3[h.size]? = some (.cells (([255]:List Nat).map bv).toArray 5):=B3.get (by omega) x1;have Bh:Zg h.size h h3:=b1.trans (B3.mono (by omega));simp -implicitDefEqProofs only[go_sem,↓reduceIte];refine (KU T h3 _ _ _ [255] aW [] 32 (F0 zS Ka 1) (F0 x3 Lo 6) (Z0.nil 0 5 _).bs (tk.X0 Bh)).use ?_;rintro _ h4 ⟨⟨w4,rfl,hc4,o4,k4⟩,b4⟩;have B4:=Bh.trans (b4.mono Bh.size);have e0:XS ([255]:List Nat).length aW.length ([]:List Nat).length 32=0:=rfl;rw[e0,if_pos rfl,show (32:Int).toNat=32 from rfl]at o4;rw[e0];have o5:Bs h4 w4 Vy:=by unfold Vy;exact o4
 clear o4;generalize Vy=KS at *;simp -implicitDefEqProofs only[go_sem,↓reduceIte,B4];exact⟨hc4,o5⟩
theorem Zcb {x:Option Nat} {h h':Hp} {v:Value} {l:List Nat} (s:Bs h v l) (hc:Tu v) (a:Tm x h h') (hx:∀b,ZO v=some b→x≠some b):Bs h' v l:=by
 obtain⟨⟨p,cap,rfl,hl,YQ⟩,hb⟩:=s;refine⟨⟨p,cap,rfl,hl,fun Yv=>?_⟩,hb⟩;obtain⟨b,o,rfl,P9⟩:=YQ Yv;refine⟨b,o,rfl,fun i hi=>?_⟩;have h1:=P9 i hi;have hc':l.length≤cap:=hc;have LW:0<l.length:=by
  cases l with
  | nil=>exact (Yv rfl).elim
  | cons x l=>simp
 have nk:h'[b]? = h[b]?:=a.block b (Up h1) (hx b (by simp only[ZO];rw[if_neg (by omega)]));unfold V.hc at h1 ⊢;rw[nk];exact h1
def Vz (n c r u k cl s nm v:Int):Int:=if ¬(0≤n∧n≤1073741823) then 2 else if Wn 32 c r u≠0 then Wn 32 c r u else YH k cl s nm v
def qk (c r u k cl s nm v:Int):List Nat:=Cf Vy c.toNat r.toNat u.toNat++Zr [k.toNat,cl.toNat,s.toNat,nm.toNat,v.toNat]
def jj (n c r u k cl s nm v:Int):List Nat:=cl.toNat :: aN (UA cl.toNat) n.toNat (qk c r u k cl s nm v)
theorem Ck {n:Int} (h0:0≤n) (h1:n≤1073741823) {m:Nat} (hm:m≤2000):Vg 32 n 0 Jg m=0:=by
 have e:Xq 32 n 0 Jg=0:=by
  unfold Xq;rw[show early 0 Jg 8=false from rfl];simp;omega
 unfold Vg;rw[e,if_neg (by simp),if_neg (by omega),if_neg (by omega)]
theorem Hx {k c s n v:Int} (h:YH k c s n v=0):0≤c∧c≤7:=by
 unfold YH at h
 repeat' split at h
 all_goals omega
theorem qo (kl:List Nat) (n:Nat) (plain:List Nat):(aN kl n plain).length≤plain.length+20:=by
 unfold aN Gk;have l1:=Vc kl 1 (Jf (YZ n)) plain;have l2:(QR kl (Jf (YZ n)) (YZ n) (On kl 1 (Jf (YZ n)) plain)).length≤16:=Ly _ _;rw[List.length_append,List.length_append,l1];have l3:(YZ n).length=4:=rfl;omega
def ZgD (B:Nat) (h':Hp) (v':Value) (n c r u k cl s nm v:Int):Prop:=∃w,v'=.tuple [w,.int .i64 (Vz n c r u k cl s nm v)].toArray∧Z0 B 5 h' w (if Vz n c r u k cl s nm v=0 then jj n c r u k cl s nm v else [])
theorem wZ (T:World) (h:Hp) (n c r u k cl s nm v:Int) (tk:Tk h) :
  Zc Tryz.prog T 39 #[.int .i64 n,.agg (Tw c r u).toArray,.agg (Qk k cl s nm v).toArray] h fun v' h'=>ZgD h.size h' v' n c r u k cl s nm v∧Zg h.size h h':=by
 refine Zc.Zj (args:=[_,_,_]) Tryz.func39 rfl rfl rfl rfl ?_;unfold ZgD Tw Qk;by_cases q:0≤n∧n≤1073741823
 case neg=>
  have ee:Vz n c r u k cl s nm v=2:=by unfold Vz;rw[if_pos q]
  rw[ee];by_cases q0:n<0
  ·simp -implicitDefEqProofs only[go_sem,↓reduceIte,q0];exact⟨_,rfl,Z0.nil _ 5 _⟩
  ·have q1:1073741824≤n:=by omega
   simp -implicitDefEqProofs only[go_sem,↓reduceIte,q0,q1];exact⟨_,rfl,Z0.nil _ 5 _⟩
 obtain⟨q0,q1⟩:=q;have qn0:¬n<0:=by omega
 have qn1:¬(1073741824:Int)≤n:=by omega
 obtain⟨h0,XO⟩:=Zy ((h.push (.cells [.int .i64 c,.int .i64 r,.int .i64 u].toArray 121)).push (.cells [.int .i64 k,.int .i64 cl,.int .i64 s,.int .i64 nm,.int .i64 v].toArray 47):Hp);have b0:Zg h.size h h0:=by rw[XO];exact ((Zg.refl _ _).add _).add _
 have s0:h0.size=h.size+2:=by rw[XO];simp
 have t0:h0[h.size]? = some (.cells [.int .i64 c,.int .i64 r,.int .i64 u].toArray 121):=by
  rw[XO,Array.getElem?_push,if_neg (by simp),Zb]
 have c0:h0[h.size+1]? = some (.cells [.int .i64 k,.int .i64 cl,.int .i64 s,.int .i64 nm,.int .i64 v].toArray 47):=by
  rw[XO,Array.getElem?_push,if_pos (by simp)]
 have e0:(h.push (.cells #[Value.int .i64 c,.int .i64 r,.int .i64 u] 121)).push (.cells #[Value.int .i64 k,.int .i64 cl,.int .i64 s,.int .i64 nm,.int .i64 v] 47)=h0:=XO.symm;have tL:(h.push (.cells [Value.int .i64 c,.int .i64 r,.int .i64 u].toArray 121)).push (.cells [Value.int .i64 k,.int .i64 cl,.int .i64 s,.int .i64 nm,.int .i64 v].toArray 47)=h0:=XO.symm;simp -implicitDefEqProofs only[go_sem,↓reduceIte,qn0,qn1]
 first|rw[e0]|rw[tL]
 clear e0 tL XO;have r0:rd h0 ⟨h.size,0,none⟩ 3=some [.int .i64 c,.int .i64 r,.int .i64 u]:=Zq t0 rfl;have k0:h.size<h0.size:=by omega
 refine VS.w (h0.size) [] (.q 1 (.s 0 (.s 2 (.q 3 (.q 4 (.q 5 (.q 6 (.q 7 .nil)))))))) mixed (by kernel_rfl) ?_;simp -implicitDefEqProofs only[go_sem,↓reduceIte,r0,k0];refine (NB T h0 (tk.X0 b0)).use ?_;rintro wi h1 ⟨⟨ci,si⟩,b1⟩;have B1:=b0.trans (b1.mono b0.size);have s1:=b1.size;simp -implicitDefEqProofs only[go_sem,↓reduceIte,b1];have ht:Zc Tryz.prog T 55 #[wi,.agg #[.int .i64 c,.int .i64 r,.int .i64 u]] h1 fun v' h'=>aU h1.size h' v' Vy c r u∧Zg h1.size h1 h':=pY T h1 wi Vy c r u si (tk.X0 B1);refine ht.use ?_;rintro _ h2 ⟨⟨w2,rfl,o2⟩,b2⟩;have B2:=B1.trans (b2.mono B1.size);have s2:=b2.size;have b02:Zg h0.size h0 h2:=b1.trans (b2.mono s1);rw[MF]at o2;rw[MF];by_cases g:Wn 32 c r u=0
 case neg=>
  have ee:Vz n c r u k cl s nm v=Wn 32 c r u:=by unfold Vz;rw[if_neg (fun hn=>hn ⟨q0,q1⟩),if_pos g]
  rw[ee,if_neg g];obtain⟨E,hE⟩:=Zy (Wn 32 c r u);rw[←hE]at g ⊢;simp -implicitDefEqProofs only[go_sem,↓reduceIte,b02,g];exact⟨⟨_,rfl,Z0.nil _ 5 _⟩,B2⟩
 rw[g,if_pos rfl]at o2;rw[g];have ee:Vz n c r u k cl s nm v=YH k cl s nm v:=by unfold Vz;rw[if_neg (fun hn=>hn ⟨q0,q1⟩),if_neg (fun hn=>hn g)]
 rw[ee];have c2:=b02.get (by omega) c0;have r2:rd h2 ⟨h.size+1,0,none⟩ 5=some [.int .i64 k,.int .i64 cl,.int .i64 s,.int .i64 nm,.int .i64 v]:=Zq c2 rfl;simp -implicitDefEqProofs only[go_sem,↓reduceIte,b02,r2];have he:Zc Tryz.prog T 26 #[.agg #[.int .i64 k,.int .i64 cl,.int .i64 s,.int .i64 nm,.int .i64 v]] h2 fun v' h'=>AW h' v' k cl s nm v∧Zg h2.size h2 h':=Nk T h2 k cl s nm v;refine he.use ?_;rintro _ h3 ⟨⟨w3,rfl,o3⟩,b3⟩;have B3:=B2.trans (b3.mono B2.size);have s3:=b3.size;by_cases e:YH k cl s nm v=0
 case neg=>
  rw[if_neg e];obtain⟨E,hE⟩:=Zy (YH k cl s nm v);rw[←hE]at e ⊢;simp -implicitDefEqProofs only[go_sem,↓reduceIte,e];exact⟨⟨_,rfl,Z0.nil _ 5 _⟩,B3⟩
 rw[e,if_pos rfl]at o3;rw[e];obtain⟨cl0,cl7⟩:=Hx e;have ke:Jh cl=0:=by unfold Jh;rw[if_neg (by omega)]
 have c3:=b3.get (by omega) c2;have rc3:V.hc h3 ⟨h.size+1,1,none⟩=some (.int .i64 cl):=by rw[Zh c3];rfl
 simp -implicitDefEqProofs only[go_sem,↓reduceIte,rc3];refine (KX T h3 cl (tk.X0 B3)).use ?_;rintro _ h4 ⟨⟨w4,rfl,k4,o4,f4⟩,b4⟩;rw[ke,if_pos rfl]at o4;rw[ke];obtain⟨p4,c4,rfl,hc4⟩:=o4.open;have B4:=B3.trans (b4.mono B3.size);have s4:=b4.size;have o24:=(o2.Z3 b3 (Nat.le_refl _)).Z3 b4 (Nat.le_refl _);have o34:=o3.Z3 b4;have l2:(Cf Vy c.toNat r.toNat u.toNat).length=22:=MB _ _ _ _;have l3:(Zr [k.toNat,cl.toNat,s.toNat,nm.toNat,v.toNat]).length=20:=by rw[ZC];rfl
 have ep:qk c r u k cl s nm v=Cf Vy c.toNat r.toNat u.toNat++Zr [k.toNat,cl.toNat,s.toNat,nm.toNat,v.toNat]:=rfl;have Zo7:=o2.own.lt;generalize Cf Vy c.toNat r.toNat u.toNat=PR at *;generalize Zr [k.toNat,cl.toNat,s.toNat,nm.toNat,v.toNat]=CB at *;simp -implicitDefEqProofs only[go_sem,↓reduceIte];refine Qj (E:=5) (B:=h1.size) YA Tryz.underlying48 Wi WY WX o24 (by omega) o34 (by omega) ?_;intro w5 h5 o5 b5 bt5 _;have s5:=b5.size;have B5:Zg h.size h h5:=B4.trans (b5.mono (by omega));have o4':Bs h5 (.slice p4 (UA cl.toNat).length c4) (UA cl.toNat):=Zcb o4 k4 bt5 (fun b hb e=>by
  have q1:=f4 b hb;have q2:=Zo7 b e;omega)
 have lk:=ME cl.toNat;have eS:jj n c r u k cl s nm v=cl.toNat :: aN (UA cl.toNat) n.toNat (PR++CB):=by unfold jj;rw[ep]
 have se:Vg (UA cl.toNat).length n 0 Jg (PR++CB).length=0:=by rw[lk];exact Ck q0 q1 (by rw[List.length_append];omega)
 simp -implicitDefEqProofs only[go_sem,↓reduceIte];have Zo8:Zc Tryz.prog T 58 #[.agg #[.slice p4 (UA cl.toNat).length c4,.int .i64 n,.int .i64 0,.bool false,.bool false,.bool false,.bool false,.bool false,.bool false,.bool false,.bool false],w5] h5 fun v' h'=>FO h5.size h' v' (UA cl.toNat) n 0 Jg (PR++CB)∧Zg h5.size h5 h':=D7 T h5 _ w5 (UA cl.toNat) (PR++CB) n 0 Jg rfl o4' o5.bs k4;refine Zo8.use ?_;rintro _ h6 ⟨⟨cw,w6,rfl,⟨w7,rfl,o7⟩,o6⟩,b6⟩;rw[se,if_pos rfl]at o6;rw[se,if_pos rfl]at o7;rw[se];have s6:=b6.size;have B6:Zg h.size h h6:=B5.trans (b6.mono (by omega));have c6:=b6.get (by omega) ((b5.mono (B':=h0.size) (by omega)).get (by omega) (b4.get (by omega) c3));have rc6:V.hc h6 ⟨h.size+1,1,none⟩=some (.int .i64 cl):=by rw[Zh c6];rfl
 obtain⟨p7,c7,rfl,_⟩:=o7.open;obtain⟨x,rfl⟩:∃x:Nat,cl=x:=⟨cl.toNat,by omega⟩
 have ec:(x:Int)%256=(x:Int):=by omega
 have Zo9:¬h.size+1=h6.size:=by omega
 have eN:Jg.map Value.bool=[.bool false,.bool false,.bool false,.bool false,.bool false,.bool false,.bool false,.bool false]:=rfl;have ez:((0:Int)=0)=True:=eq_self 0;simp only[ez,if_true];unfold ZS;rw[eN];rw[Int.toNat_natCast]at eS o6;have QK:∀y∈[x],y<256:=by intro y hy;rw[List.mem_singleton.1 hy];omega
 rw[show ((x:Nat):Int).toNat=x from Int.toNat_natCast x]at *;simp -implicitDefEqProofs only[go_sem,↓reduceIte,rc6,Zo9,ec];obtain⟨h7,wI⟩:=Zy (h6.push (.cells [.slice p7 (UA x).length c7,.int .i64 (n+1),.int .i64 0,.bool false,.bool false,.bool false,.bool false,.bool false,.bool false,.bool false,.bool false].toArray 150):Hp);have e7:h6.push (.cells #[Value.slice p7 (UA x).length c7,.int .i64 (n+1),.int .i64 0,.bool false,.bool false,.bool false,.bool false,.bool false,.bool false,.bool false,.bool false] 150)=h7:=wI.symm;rw[e7];have b7:Zg h6.size h6 h7:=by rw[wI];exact Zg.push (Nat.le_refl _) _
 have s7:h7.size=h6.size+1:=by rw[wI];simp
 have q7:h6.size+1=h7.size:=s7.symm;clear e7 wI;have B7:=B6.trans (b7.mono (by omega));have o1:Z0 h7.size 5 (h7.push (.cells (([x]:List Nat).map bv).toArray 5)) (.slice (some ⟨h7.size,0,none⟩) 1 1) [x]:=Z0.made QK (Nat.le_refl _);have bp:Zg h7.size h7 (h7.push (.cells (([x]:List Nat).map bv).toArray 5)):=Zg.push (Nat.le_refl _) _;have lr:(aN (UA x) n.toNat (PR++CB)).length≤1000000:=Nat.le_trans (qo _ _ _) (by rw[List.length_append];omega)
 try rw[q7]
 refine Zv (E:=5) (B:=h7.size) YA Tryz.underlying48 Wi WY WX o1 (by simp) ((o6.bs.Z3 b7).Z3 bp) (by simp;omega) ?_;intro w8 h8 o8 b8 _;simp -implicitDefEqProofs only[go_sem,↓reduceIte];rw[eS];exact⟨⟨_,rfl,o8.mono B7.size⟩,B7.trans (((bp.trans b8)).mono (by omega))⟩
end Go.Proofs.YtboeoomhjbcecaaGreatDoor
