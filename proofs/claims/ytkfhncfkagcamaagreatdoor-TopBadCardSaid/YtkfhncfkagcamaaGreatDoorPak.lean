/- Keys that are drawn: what the program and the document compute; no condition but those in the statements. -/
import Derived.Test.YtkfhncfkagcamaaGreatDoorChw
import Derived.Test.YtkfhncfkagcamaaGreatDoorW19
import Derived.Test.YtkfhncfkagcamaaGreatDoorTakf
import Derived.Test.YtkfhncfkagcamaaGreatDoorTape
namespace Go.Proofs.YtkfhncfkagcamaaGreatDoor
open Go Go.V
set_option linter.unusedSimpArgs false
set_option linter.unusedVariables false
set_option maxRecDepth 100000
def AS:List Nat:=[99,108,105,101,110,116]
def AT:List Nat:=[105,115,115,117,101,114]
def QT (c:Nat):List Nat:=LP [c] AS [] 32
def WY:List Nat:=LP [255] AT [] 32
theorem NV (c:Nat):(QT c).length=32:=PJ _ _ _ (by decide)
theorem NW:WY.length=32:=PJ _ _ _ (by decide)
def X2 (c:Int):Int:=if c<0∨7<c then 2 else 0
def nu (B:Nat) (h':Hp) (v':Value) (c:Int):Prop:=∃w,v'=.tuple [w,.int .i64 (X2 c)].toArray∧WO w∧Bs h' w (if X2 c=0 then QT c.toNat else [])∧∀b,ZM w=some b→B≤b
theorem G0 {h:Hp} {b:Nat} {l:List Nat} {E:TypeId} {fr:Nat × Nat} (hx:h[b]? = some (.cells (l.map bv).toArray E fr)) (hl:∀x∈l,x<256) (c:Nat):Bs h (.slice (some ⟨b,0,none⟩) l.length c) l:=by
 refine⟨⟨_,c,rfl,by simp,fun _=>⟨b,0,rfl,fun i hi=>?_⟩⟩,hl⟩
 rw[Vn hx,Nat.zero_add]
 simp
 exact⟨_,List.getElem?_eq_getElem (by simpa using hi),rfl⟩
theorem Kf (T:World) (h:Hp) (c:Int) (tk:Tk h) :
  Zd Tryz.prog T 31 #[.int .i64 c] h fun v' h'=>nu h.size h' v' c∧Ze h.size h h':=by
 refine Zd.Zi (args:=[_]) Tryz.func31 rfl rfl rfl rfl ?_
 unfold nu
 by_cases e1:c<0
 ·have ee:X2 c=2:=by unfold X2;rw[if_pos (.inl e1)]
  rw[ee]
  simp -implicitDefEqProofs only[go_sem,↓reduceIte,e1]
  exact⟨_,rfl,Nat.le_refl _,(Z1.nil 0 5 _).bs,fun b hb=>by simp[ZM]at hb⟩
 by_cases e2:7<c
 ·have ee:X2 c=2:=by unfold X2;rw[if_pos (.inr e2)]
  rw[ee]
  simp -implicitDefEqProofs only[go_sem,↓reduceIte,e1,e2]
  exact⟨_,rfl,Nat.le_refl _,(Z1.nil 0 5 _).bs,fun b hb=>by simp[ZM]at hb⟩
 have ee:X2 c=0:=by unfold X2;rw[if_neg (by omega)]
 rw[ee]
 obtain⟨n,rfl⟩:∃n:Nat,c=n:=⟨c.toNat,by omega⟩
 have ec:(n:Int)%256=(n:Int):=by omega
 rw[Int.toNat_natCast]
 simp -implicitDefEqProofs only[go_sem,↓reduceIte,e1,e2,ec]
 have Iq:∀x∈[n],x<256:=by intro x hx;rw[List.mem_singleton.1 hx];omega
 have Ie:∀x∈AS,x<256:=by decide
 obtain⟨h1,YF⟩:=Zu (h.push (.cells (([n]:List Nat).map bv).toArray 5):Hp)
 have b1:Ze h.size h h1:=by rw[YF];exact Ze.push (Nat.le_refl _) _
 have s1:h1.size=h.size+1:=by rw[YF];simp
 have x1:h1[h.size]? = some (.cells (([n]:List Nat).map bv).toArray 5):=by rw[YF];exact Zb
 change Pb _ _ _ _ _ ((h.push (.cells (([n]:List Nat).map bv).toArray 5)).push (.cells (AS.map bv).toArray 5))
 rw[←YF]
 have x2:(h1.push (.cells (AS.map bv).toArray 5))[h.size+1]? = some (.cells (AS.map bv).toArray 5):=by rw[←s1];exact Zb
 refine I6 Tryz.underlying34 Tryz.underlying5 x2 ?_
 intro h3 zi x3 Ru
 have B3:Ze (h.size+1) h1 h3:=(Ze.push (by omega) _).trans (Ru.Z4 (by simp;omega) (fun b e=>by have:=Option.some.inj e;omega))
 have x13:h3[h.size]? = some (.cells (([n]:List Nat).map bv).toArray 5):=B3.get (by omega) x1
 have Bh:Ze h.size h h3:=b1.trans (B3.mono (by omega))
 simp -implicitDefEqProofs only[go_sem,↓reduceIte]
 refine (Ke T h3 _ _ _ [n] AS [] 32 (G0 x13 Iq 1) (G0 x3 Ie 6) (Z1.nil 0 5 _).bs (tk.Js Bh)).use ?_
 rintro _ h4 ⟨⟨w4,rfl,hc4,o4,k4⟩,b4⟩
 have B4:=Bh.trans (b4.mono Bh.size)
 have e0:XK ([n]:List Nat).length AS.length ([]:List Nat).length 32=0:=rfl
 rw[e0,if_pos rfl,show (32:Int).toNat=32 from rfl]at o4
 rw[e0]
 have o5:Bs h4 w4 (QT n):=by unfold QT;exact o4
 clear o4
 generalize QT n=KS at *
 simp -implicitDefEqProofs only[go_sem,↓reduceIte,B4]
 exact⟨_,rfl,hc4,o5,fun b hb=>Nat.le_trans Bh.size (k4 b hb)⟩
theorem OO (T:World) (h:Hp) (tk:Tk h) :
  Zd Tryz.prog T 34 #[] h fun v' h'=>(WO v'∧Bs h' v' WY)∧Ze h.size h h':=by
 refine Zd.Zi (args:=[]) Tryz.func34 rfl rfl rfl rfl ?_
 simp -implicitDefEqProofs only[go_sem,↓reduceIte]
 have Iq:∀x∈[255],x<256:=by decide
 have Ie:∀x∈AT,x<256:=by decide
 obtain⟨h1,YF⟩:=Zu (h.push (.cells (([255]:List Nat).map bv).toArray 5):Hp)
 have b1:Ze h.size h h1:=by rw[YF];exact Ze.push (Nat.le_refl _) _
 have s1:h1.size=h.size+1:=by rw[YF];simp
 have x1:h1[h.size]? = some (.cells (([255]:List Nat).map bv).toArray 5):=by rw[YF];exact Zb
 have x2:(h1.push (.cells (AT.map bv).toArray 5))[h.size+1]? = some (.cells (AT.map bv).toArray 5):=by rw[←s1];exact Zb
 change Pb _ _ _ _ _ ((h.push (.cells (([255]:List Nat).map bv).toArray 5)).push (.cells (AT.map bv).toArray 5))
 rw[←YF]
 refine I6 Tryz.underlying34 Tryz.underlying5 x2 ?_
 intro h3 zi x3 Ru
 have B3:Ze (h.size+1) h1 h3:=(Ze.push (by omega) _).trans (Ru.Z4 (by simp;omega) (fun b e=>by have:=Option.some.inj e;omega))
 have x13:h3[h.size]? = some (.cells (([255]:List Nat).map bv).toArray 5):=B3.get (by omega) x1
 have Bh:Ze h.size h h3:=b1.trans (B3.mono (by omega))
 simp -implicitDefEqProofs only[go_sem,↓reduceIte]
 refine (Ke T h3 _ _ _ [255] AT [] 32 (G0 x13 Iq 1) (G0 x3 Ie 6) (Z1.nil 0 5 _).bs (tk.Js Bh)).use ?_
 rintro _ h4 ⟨⟨w4,rfl,hc4,o4,k4⟩,b4⟩
 have B4:=Bh.trans (b4.mono Bh.size)
 have e0:XK ([255]:List Nat).length AT.length ([]:List Nat).length 32=0:=rfl
 rw[e0,if_pos rfl,show (32:Int).toNat=32 from rfl]at o4
 rw[e0]
 have o5:Bs h4 w4 WY:=by unfold WY;exact o4
 clear o4
 generalize WY=KS at *
 simp -implicitDefEqProofs only[go_sem,↓reduceIte,B4]
 exact⟨hc4,o5⟩
theorem Zaw {x:Option Nat} {h h':Hp} {v:Value} {l:List Nat} (s:Bs h v l) (hc:WO v) (a:VT x h h') (hx:∀b,ZM v=some b→x≠some b):Bs h' v l:=by
 obtain⟨⟨p,cap,rfl,hl,Yx⟩,hb⟩:=s
 refine⟨⟨p,cap,rfl,hl,fun Yr=>?_⟩,hb⟩
 obtain⟨b,o,rfl,Vq⟩:=Yx Yr
 refine⟨b,o,rfl,fun i hi=>?_⟩
 have h1:=Vq i hi
 have hc':l.length≤cap:=hc
 have M3:0<l.length:=by
  cases l with
  | nil=>exact (Yr rfl).elim
  | cons x l=>simp
 have Eb:h'[b]? = h[b]?:=a.block b (Q9 h1) (hx b (by simp only[ZM];rw[if_neg (by omega)]))
 unfold V.hc at h1 ⊢
 rw[Eb];exact h1
def WZ (n c r u k cl s nm v:Int):Int:=if ¬(0≤n∧n≤1073741823) then 2 else if U3 32 c r u≠0 then U3 32 c r u else YI k cl s nm v
def AU (c r u k cl s nm v:Int):List Nat:=Kc WY c.toNat r.toNat u.toNat++Zx [k.toNat,cl.toNat,s.toNat,nm.toNat,v.toNat]
def Dy (n c r u k cl s nm v:Int):List Nat:=cl.toNat :: L6 (QT cl.toNat) n.toNat (AU c r u k cl s nm v)
theorem Dz {n:Int} (h0:0≤n) (h1:n≤1073741823) {m:Nat} (hm:m≤2000):WC 32 n 0 X1 m=0:=by
 have e:Xf 32 n 0 X1=0:=by
  unfold Xf
  rw[show early 0 X1 8=false from rfl]
  simp;omega
 unfold WC
 rw[e,if_neg (by simp),if_neg (by omega),if_neg (by omega)]
theorem IJ {k c s n v:Int} (h:YI k c s n v=0):0≤c∧c≤7:=by
 unfold YI at h
 repeat' split at h
 all_goals omega
theorem nw (kl:List Nat) (n:Nat) (plain:List Nat):(L6 kl n plain).length≤plain.length+20:=by
 unfold L6 NL
 have l1:=Jz kl 1 (Xv (Yo n)) plain
 have l2:(J2 kl (Xv (Yo n)) (Yo n) (QQ kl 1 (Xv (Yo n)) plain)).length≤16:=MN _ _
 rw[List.length_append,List.length_append,l1]
 have l3:(Yo n).length=4:=rfl
 omega
def Ze8 (B:Nat) (h':Hp) (v':Value) (n c r u k cl s nm v:Int):Prop:=∃w,v'=.tuple [w,.int .i64 (WZ n c r u k cl s nm v)].toArray∧Z1 B 5 h' w (if WZ n c r u k cl s nm v=0 then Dy n c r u k cl s nm v else [])
theorem um (T:World) (h:Hp) (n c r u k cl s nm v:Int) (tk:Tk h) :
  Zd Tryz.prog T 28 #[.int .i64 n,.agg (VY c r u).toArray,.agg (Qi k cl s nm v).toArray] h fun v' h'=>Ze8 h.size h' v' n c r u k cl s nm v∧Ze h.size h h':=by
 refine Zd.Zi (args:=[_,_,_]) Tryz.func28 rfl rfl rfl rfl ?_
 unfold Ze8 VY Qi
 by_cases q:0≤n∧n≤1073741823
 case neg=>
  have ee:WZ n c r u k cl s nm v=2:=by unfold WZ;rw[if_pos q]
  rw[ee]
  by_cases q0:n<0
  ·simp -implicitDefEqProofs only[go_sem,↓reduceIte,q0]
   exact⟨_,rfl,Z1.nil _ 5 _⟩
  ·have q1:1073741824≤n:=by omega
   simp -implicitDefEqProofs only[go_sem,↓reduceIte,q0,q1]
   exact⟨_,rfl,Z1.nil _ 5 _⟩
 obtain⟨q0,q1⟩:=q
 have qn0:¬n<0:=by omega
 have qn1:¬(1073741824:Int)≤n:=by omega
 obtain⟨h0,XR⟩:=Zu ((h.push (.cells [.int .i64 c,.int .i64 r,.int .i64 u].toArray 75)).push (.cells [.int .i64 k,.int .i64 cl,.int .i64 s,.int .i64 nm,.int .i64 v].toArray 47):Hp)
 have b0:Ze h.size h h0:=by rw[XR];exact ((Ze.refl _ _).add _).add _
 have s0:h0.size=h.size+2:=by rw[XR];simp
 have t0:h0[h.size]? = some (.cells [.int .i64 c,.int .i64 r,.int .i64 u].toArray 75):=by
  rw[XR,Array.getElem?_push,if_neg (by simp),Zb]
 have c0:h0[h.size+1]? = some (.cells [.int .i64 k,.int .i64 cl,.int .i64 s,.int .i64 nm,.int .i64 v].toArray 47):=by
  rw[XR,Array.getElem?_push,if_pos (by simp)]
 have e0:(h.push (.cells #[Value.int .i64 c,.int .i64 r,.int .i64 u] 75)).push (.cells #[Value.int .i64 k,.int .i64 cl,.int .i64 s,.int .i64 nm,.int .i64 v] 47)=h0:=XR.symm
 have qs:(h.push (.cells [Value.int .i64 c,.int .i64 r,.int .i64 u].toArray 75)).push (.cells [Value.int .i64 k,.int .i64 cl,.int .i64 s,.int .i64 nm,.int .i64 v].toArray 47)=h0:=XR.symm
 simp -implicitDefEqProofs only[go_sem,↓reduceIte,qn0,qn1]
 first|rw[e0]|rw[qs]
 clear e0 qs XR
 have r0:rd h0 ⟨h.size,0,none⟩ 3=some [.int .i64 c,.int .i64 r,.int .i64 u]:=Zo t0 rfl
 have k0:h.size<h0.size:=by omega
 refine VS.w (h0.size) [] (.q 1 (.s 0 (.s 2 (.q 3 (.q 4 (.q 5 (.q 6 (.q 7 .nil)))))))) mixed (by kernel_rfl) ?_
 simp -implicitDefEqProofs only[go_sem,↓reduceIte,r0,k0]
 refine (OO T h0 (tk.Js b0)).use ?_
 rintro wi h1 ⟨⟨ci,si⟩,b1⟩
 have B1:=b0.trans (b1.mono b0.size)
 have s1:=b1.size
 simp -implicitDefEqProofs only[go_sem,↓reduceIte,b1]
 have ht:Zd Tryz.prog T 41 #[wi,.agg #[.int .i64 c,.int .i64 r,.int .i64 u]] h1 fun v' h'=>AP h1.size h' v' WY c r u∧Ze h1.size h1 h':=nq T h1 wi WY c r u si (tk.Js B1)
 refine ht.use ?_
 rintro _ h2 ⟨⟨w2,rfl,o2⟩,b2⟩
 have B2:=B1.trans (b2.mono B1.size)
 have s2:=b2.size
 have b02:Ze h0.size h0 h2:=b1.trans (b2.mono s1)
 rw[NW]at o2
 rw[NW]
 by_cases g:U3 32 c r u=0
 case neg=>
  have ee:WZ n c r u k cl s nm v=U3 32 c r u:=by unfold WZ;rw[if_neg (fun hn=>hn ⟨q0,q1⟩),if_pos g]
  rw[ee,if_neg g]
  obtain⟨E,hE⟩:=Zu (U3 32 c r u)
  rw[←hE]at g ⊢
  simp -implicitDefEqProofs only[go_sem,↓reduceIte,b02,g]
  exact⟨⟨_,rfl,Z1.nil _ 5 _⟩,B2⟩
 rw[g,if_pos rfl]at o2
 rw[g]
 have ee:WZ n c r u k cl s nm v=YI k cl s nm v:=by unfold WZ;rw[if_neg (fun hn=>hn ⟨q0,q1⟩),if_neg (fun hn=>hn g)]
 rw[ee]
 have c2:=b02.get (by omega) c0
 have r2:rd h2 ⟨h.size+1,0,none⟩ 5=some [.int .i64 k,.int .i64 cl,.int .i64 s,.int .i64 nm,.int .i64 v]:=Zo c2 rfl
 simp -implicitDefEqProofs only[go_sem,↓reduceIte,b02,r2]
 have he:Zd Tryz.prog T 42 #[.agg #[.int .i64 k,.int .i64 cl,.int .i64 s,.int .i64 nm,.int .i64 v]] h2 fun v' h'=>BT h' v' k cl s nm v∧Ze h2.size h2 h':=Hc T h2 k cl s nm v
 refine he.use ?_
 rintro _ h3 ⟨⟨w3,rfl,o3⟩,b3⟩
 have B3:=B2.trans (b3.mono B2.size)
 have s3:=b3.size
 by_cases e:YI k cl s nm v=0
 case neg=>
  rw[if_neg e]
  obtain⟨E,hE⟩:=Zu (YI k cl s nm v)
  rw[←hE]at e ⊢
  simp -implicitDefEqProofs only[go_sem,↓reduceIte,e]
  exact⟨⟨_,rfl,Z1.nil _ 5 _⟩,B3⟩
 rw[e,if_pos rfl]at o3
 rw[e]
 obtain⟨cl0,cl7⟩:=IJ e
 have ke:X2 cl=0:=by unfold X2;rw[if_neg (by omega)]
 have c3:=b3.get (by omega) c2
 have rc3:V.hc h3 ⟨h.size+1,1,none⟩=some (.int .i64 cl):=by rw[Zg c3];rfl
 simp -implicitDefEqProofs only[go_sem,↓reduceIte,rc3]
 refine (Kf T h3 cl (tk.Js B3)).use ?_
 rintro _ h4 ⟨⟨w4,rfl,k4,o4,f4⟩,b4⟩
 rw[ke,if_pos rfl]at o4
 rw[ke]
 obtain⟨p4,c4,rfl,hc4⟩:=o4.open
 have B4:=B3.trans (b4.mono B3.size)
 have s4:=b4.size
 have o24:=(o2.Z4 b3 (Nat.le_refl _)).Z4 b4 (Nat.le_refl _)
 have o34:=o3.Z4 b4
 have l2:(Kc WY c.toNat r.toNat u.toNat).length=22:=WE _ _ _ _
 have l3:(Zx [k.toNat,cl.toNat,s.toNat,nm.toNat,v.toNat]).length=20:=by rw[ZB];rfl
 have ep:AU c r u k cl s nm v=Kc WY c.toNat r.toNat u.toNat++Zx [k.toNat,cl.toNat,s.toNat,nm.toNat,v.toNat]:=rfl
 have Znv:=o2.own.lt
 generalize Kc WY c.toNat r.toNat u.toNat=PR at *
 generalize Zx [k.toNat,cl.toNat,s.toNat,nm.toNat,v.toNat]=CB at *
 simp -implicitDefEqProofs only[go_sem,↓reduceIte]
 refine JW (E:=5) (B:=h1.size) Yt Tryz.underlying34 Wf Vh Vg o24 (by omega) o34 (by omega) ?_
 intro w5 h5 o5 b5 bt5 _
 have s5:=b5.size
 have B5:Ze h.size h h5:=B4.trans (b5.mono (by omega))
 have o4':Bs h5 (.slice p4 (QT cl.toNat).length c4) (QT cl.toNat):=Zaw o4 k4 bt5 (fun b hb e=>by
  have q1:=f4 b hb
  have q2:=Znv b e
  omega)
 have lk:=NV cl.toNat
 have eS:Dy n c r u k cl s nm v=cl.toNat :: L6 (QT cl.toNat) n.toNat (PR++CB):=by unfold Dy;rw[ep]
 have se:WC (QT cl.toNat).length n 0 X1 (PR++CB).length=0:=by rw[lk];exact Dz q0 q1 (by rw[List.length_append];omega)
 simp -implicitDefEqProofs only[go_sem,↓reduceIte]
 have Znw:Zd Tryz.prog T 43 #[.agg #[.slice p4 (QT cl.toNat).length c4,.int .i64 n,.int .i64 0,.bool false,.bool false,.bool false,.bool false,.bool false,.bool false,.bool false,.bool false],w5] h5 fun v' h'=>GV h5.size h' v' (QT cl.toNat) n 0 X1 (PR++CB)∧Ze h5.size h5 h':=Dl T h5 _ w5 (QT cl.toNat) (PR++CB) n 0 X1 rfl o4' o5.bs k4
 refine Znw.use ?_
 rintro _ h6 ⟨⟨cw,w6,rfl,⟨w7,rfl,o7⟩,o6⟩,b6⟩
 rw[se,if_pos rfl]at o6
 rw[se,if_pos rfl]at o7
 rw[se]
 have s6:=b6.size
 have B6:Ze h.size h h6:=B5.trans (b6.mono (by omega))
 have c6:=b6.get (by omega) ((b5.mono (B':=h0.size) (by omega)).get (by omega) (b4.get (by omega) c3))
 have rc6:V.hc h6 ⟨h.size+1,1,none⟩=some (.int .i64 cl):=by rw[Zg c6];rfl
 obtain⟨p7,c7,rfl,_⟩:=o7.open
 obtain⟨x,rfl⟩:∃x:Nat,cl=x:=⟨cl.toNat,by omega⟩
 have ec:(x:Int)%256=(x:Int):=by omega
 have Znx:¬h.size+1=h6.size:=by omega
 have eN:X1.map Value.bool=[.bool false,.bool false,.bool false,.bool false,.bool false,.bool false,.bool false,.bool false]:=rfl
 have ez:((0:Int)=0)=True:=eq_self 0
 simp only[ez,if_true]
 unfold ZN
 rw[eN]
 rw[Int.toNat_natCast]at eS o6
 have Qm:∀y∈[x],y<256:=by intro y hy;rw[List.mem_singleton.1 hy];omega
 rw[show ((x:Nat):Int).toNat=x from Int.toNat_natCast x]at *
 simp -implicitDefEqProofs only[go_sem,↓reduceIte,rc6,Znx,ec]
 obtain⟨h7,ug⟩:=Zu (h6.push (.cells [.slice p7 (QT x).length c7,.int .i64 (n+1),.int .i64 0,.bool false,.bool false,.bool false,.bool false,.bool false,.bool false,.bool false,.bool false].toArray 84):Hp)
 have e7:h6.push (.cells #[Value.slice p7 (QT x).length c7,.int .i64 (n+1),.int .i64 0,.bool false,.bool false,.bool false,.bool false,.bool false,.bool false,.bool false,.bool false] 84)=h7:=ug.symm
 rw[e7]
 have b7:Ze h6.size h6 h7:=by rw[ug];exact Ze.push (Nat.le_refl _) _
 have s7:h7.size=h6.size+1:=by rw[ug];simp
 have q7:h6.size+1=h7.size:=s7.symm
 clear e7 ug
 have B7:=B6.trans (b7.mono (by omega))
 have o1:Z1 h7.size 5 (h7.push (.cells (([x]:List Nat).map bv).toArray 5)) (.slice (some ⟨h7.size,0,none⟩) 1 1) [x]:=Z1.made Qm (Nat.le_refl _)
 have bp:Ze h7.size h7 (h7.push (.cells (([x]:List Nat).map bv).toArray 5)):=Ze.push (Nat.le_refl _) _
 have lr:(L6 (QT x) n.toNat (PR++CB)).length≤1000000:=Nat.le_trans (nw _ _ _) (by rw[List.length_append];omega)
 try rw[q7]
 refine Zv (E:=5) (B:=h7.size) Yt Tryz.underlying34 Wf Vh Vg o1 (by simp) ((o6.bs.Z4 b7).Z4 bp) (by simp;omega) ?_
 intro w8 h8 o8 b8 _
 simp -implicitDefEqProofs only[go_sem,↓reduceIte]
 rw[eS]
 exact⟨⟨_,rfl,o8.mono B7.size⟩,B7.trans (((bp.trans b8)).mono (by omega))⟩
end Go.Proofs.YtkfhncfkagcamaaGreatDoor
