/- Keys that are drawn: what the program and the document compute; no condition but those in the statements. -/
import Derived.Test.YtnhbpmoeaodmnaaGreatDoorChw
import Derived.Test.YtnhbpmoeaodmnaaGreatDoorW19
import Derived.Test.YtnhbpmoeaodmnaaGreatDoorTakf
import Derived.Test.YtnhbpmoeaodmnaaGreatDoorTape
namespace Go.Proofs.YtnhbpmoeaodmnaaGreatDoor
open Go Go.V
set_option linter.unusedSimpArgs false
set_option linter.unusedVariables false
set_option maxRecDepth 100000
def Znu:List Nat:=[99,108,105,101,110,116]
def Znv:List Nat:=[105,115,115,117,101,114]
def Uz (c:Nat):List Nat:=ZgA [c] Znu [] 32
def Zbw:List Nat:=ZgA [255] Znv [] 32
theorem Zfe (c:Nat):(Uz c).length=32:=ZdL _ _ _ (by decide)
theorem Zff:Zbw.length=32:=ZdL _ _ _ (by decide)
def JC (c:Int):Int:=if c<0∨7<c then 2 else 0
def Ztj (B:Nat) (h':Hp) (v':Value) (c:Int):Prop:=∃w,v'=.tuple [w,.int .i64 (JC c)].toArray∧Cap w∧Bs h' w (if JC c=0 then Uz c.toNat else [])∧∀b,ZT w=some b→B≤b
theorem Zjy {h:Hp} {b:Nat} {l:List Nat} {E:TypeId} {fr:Nat × Nat} (hx:h[b]? = some (.cells (l.map bv).toArray E fr)) (hl:∀x∈l,x<256) (c:Nat):Bs h (.slice (some ⟨b,0,none⟩) l.length c) l:=by
 refine⟨⟨_,c,rfl,by simp,fun _=>⟨b,0,rfl,fun i hi=>?_⟩⟩,hl⟩
 rw[ZaR hx,Nat.zero_add]
 simp
 exact⟨_,List.getElem?_eq_getElem (by simpa using hi),rfl⟩
theorem ZgR (T:World) (h:Hp) (c:Int) (tk:Tk h) :
  Zd Tryz.prog T 52 #[.int .i64 c] h fun v' h'=>Ztj h.size h' v' c∧Zf h.size h h':=by
 refine Zd.Zi (args:=[_]) Tryz.func52 rfl rfl rfl rfl ?_
 unfold Ztj
 by_cases e1:c<0
 ·have ee:JC c=2:=by unfold JC;rw[if_pos (.inl e1)]
  rw[ee]
  simp -implicitDefEqProofs only[go_sem,↓reduceIte,e1]
  exact⟨_,rfl,Nat.le_refl _,(ZZ.nil 0 5 _).bs,fun b hb=>by simp[ZT]at hb⟩
 by_cases e2:7<c
 ·have ee:JC c=2:=by unfold JC;rw[if_pos (.inr e2)]
  rw[ee]
  simp -implicitDefEqProofs only[go_sem,↓reduceIte,e1,e2]
  exact⟨_,rfl,Nat.le_refl _,(ZZ.nil 0 5 _).bs,fun b hb=>by simp[ZT]at hb⟩
 have ee:JC c=0:=by unfold JC;rw[if_neg (by omega)]
 rw[ee]
 obtain⟨n,rfl⟩:∃n:Nat,c=n:=⟨c.toNat,by omega⟩
 have ec:(n:Int)%256=(n:Int):=by omega
 rw[Int.toNat_natCast]
 simp -implicitDefEqProofs only[go_sem,↓reduceIte,e1,e2,ec]
 have hb1:∀x∈[n],x<256:=by intro x hx;rw[List.mem_singleton.1 hx];omega
 have hb2:∀x∈Znu,x<256:=by decide
 obtain⟨h1,YF⟩:=Zx (h.push (.cells (([n]:List Nat).map bv).toArray 5):Hp)
 have b1:Zf h.size h h1:=by rw[YF];exact Zf.push (Nat.le_refl _) _
 have s1:h1.size=h.size+1:=by rw[YF];simp
 have x1:h1[h.size]? = some (.cells (([n]:List Nat).map bv).toArray 5):=by rw[YF];exact Zb
 change Zdq _ _ _ _ _ ((h.push (.cells (([n]:List Nat).map bv).toArray 5)).push (.cells (Znu.map bv).toArray 5))
 rw[←YF]
 have x2:(h1.push (.cells (Znu.map bv).toArray 5))[h.size+1]? = some (.cells (Znu.map bv).toArray 5):=by rw[←s1];exact Zb
 refine Zh3 Tryz.underlying44 Tryz.underlying5 x2 ?_
 intro h3 fr' x3 ZcV
 have B3:Zf (h.size+1) h1 h3:=(Zf.push (by omega) _).trans (ZcV.Z9 (by simp;omega) (fun b e=>by have:=Option.some.inj e;omega))
 have x13:h3[h.size]? = some (.cells (([n]:List Nat).map bv).toArray 5):=B3.get (by omega) x1
 have Bh:Zf h.size h h3:=b1.trans (B3.mono (by omega))
 simp -implicitDefEqProofs only[go_sem,↓reduceIte]
 refine (ZgQ T h3 _ _ _ [n] Znu [] 32 (Zjy x13 hb1 1) (Zjy x3 hb2 6) (ZZ.nil 0 5 _).bs (tk.Jq Bh)).use ?_
 rintro _ h4 ⟨⟨w4,rfl,hc4,o4,k4⟩,b4⟩
 have B4:=Bh.trans (b4.mono Bh.size)
 have e0:XJ ([n]:List Nat).length Znu.length ([]:List Nat).length 32=0:=rfl
 rw[e0,if_pos rfl,show (32:Int).toNat=32 from rfl]at o4
 rw[e0]
 have o5:Bs h4 w4 (Uz n):=by unfold Uz;exact o4
 clear o4
 generalize Uz n=KS at *
 simp -implicitDefEqProofs only[go_sem,↓reduceIte,B4]
 exact⟨_,rfl,hc4,o5,fun b hb=>Nat.le_trans Bh.size (k4 b hb)⟩
theorem Zey (T:World) (h:Hp) (tk:Tk h) :
  Zd Tryz.prog T 55 #[] h fun v' h'=>(Cap v'∧Bs h' v' Zbw)∧Zf h.size h h':=by
 refine Zd.Zi (args:=[]) Tryz.func55 rfl rfl rfl rfl ?_
 simp -implicitDefEqProofs only[go_sem,↓reduceIte]
 have hb1:∀x∈[255],x<256:=by decide
 have hb2:∀x∈Znv,x<256:=by decide
 obtain⟨h1,YF⟩:=Zx (h.push (.cells (([255]:List Nat).map bv).toArray 5):Hp)
 have b1:Zf h.size h h1:=by rw[YF];exact Zf.push (Nat.le_refl _) _
 have s1:h1.size=h.size+1:=by rw[YF];simp
 have x1:h1[h.size]? = some (.cells (([255]:List Nat).map bv).toArray 5):=by rw[YF];exact Zb
 have x2:(h1.push (.cells (Znv.map bv).toArray 5))[h.size+1]? = some (.cells (Znv.map bv).toArray 5):=by rw[←s1];exact Zb
 change Zdq _ _ _ _ _ ((h.push (.cells (([255]:List Nat).map bv).toArray 5)).push (.cells (Znv.map bv).toArray 5))
 rw[←YF]
 refine Zh3 Tryz.underlying44 Tryz.underlying5 x2 ?_
 intro h3 fr' x3 ZcV
 have B3:Zf (h.size+1) h1 h3:=(Zf.push (by omega) _).trans (ZcV.Z9 (by simp;omega) (fun b e=>by have:=Option.some.inj e;omega))
 have x13:h3[h.size]? = some (.cells (([255]:List Nat).map bv).toArray 5):=B3.get (by omega) x1
 have Bh:Zf h.size h h3:=b1.trans (B3.mono (by omega))
 simp -implicitDefEqProofs only[go_sem,↓reduceIte]
 refine (ZgQ T h3 _ _ _ [255] Znv [] 32 (Zjy x13 hb1 1) (Zjy x3 hb2 6) (ZZ.nil 0 5 _).bs (tk.Jq Bh)).use ?_
 rintro _ h4 ⟨⟨w4,rfl,hc4,o4,k4⟩,b4⟩
 have B4:=Bh.trans (b4.mono Bh.size)
 have e0:XJ ([255]:List Nat).length Znv.length ([]:List Nat).length 32=0:=rfl
 rw[e0,if_pos rfl,show (32:Int).toNat=32 from rfl]at o4
 rw[e0]
 have o5:Bs h4 w4 Zbw:=by unfold Zbw;exact o4
 clear o4
 generalize Zbw=KS at *
 simp -implicitDefEqProofs only[go_sem,↓reduceIte,B4]
 exact⟨hc4,o5⟩
theorem Zyr {x:Option Nat} {h h':Hp} {v:Value} {l:List Nat} (s:Bs h v l) (hc:Cap v) (a:But x h h') (hx:∀b,ZT v=some b→x≠some b):Bs h' v l:=by
 obtain⟨⟨p,cap,rfl,hl,YR⟩,hb⟩:=s
 refine⟨⟨p,cap,rfl,hl,fun Ys=>?_⟩,hb⟩
 obtain⟨b,o,rfl,ZbE⟩:=YR Ys
 refine⟨b,o,rfl,fun i hi=>?_⟩
 have h1:=ZbE i hi
 have hc':l.length≤cap:=hc
 have Zf0:0<l.length:=by
  cases l with
  | nil=>exact (Ys rfl).elim
  | cons x l=>simp
 have Zr8:h'[b]? = h[b]?:=a.block b (Q8 h1) (hx b (by simp only[ZT];rw[if_neg (by omega)]))
 unfold V.hc at h1 ⊢
 rw[Zr8];exact h1
def ZaG (n c r u k cl s nm v:Int):Int:=if ¬(0≤n∧n≤1073741823) then 2 else if UU 32 c r u≠0 then UU 32 c r u else YQ k cl s nm v
def Ztk (c r u k cl s nm v:Int):List Nat:=Zk9 Zbw c.toNat r.toNat u.toNat++Zr [k.toNat,cl.toNat,s.toNat,nm.toNat,v.toNat]
def Zqt (n c r u k cl s nm v:Int):List Nat:=cl.toNat :: Znl (Uz cl.toNat) n.toNat (Ztk c r u k cl s nm v)
theorem Zld {n:Int} (h0:0≤n) (h1:n≤1073741823) {m:Nat} (hm:m≤2000):Zar 32 n 0 Jz m=0:=by
 have e:Xh 32 n 0 Jz=0:=by
  unfold Xh
  rw[show early 0 Jz 8=false from rfl]
  simp;omega
 unfold Zar
 rw[e,if_neg (by simp),if_neg (by omega),if_neg (by omega)]
theorem ZhN {k c s n v:Int} (h:YQ k c s n v=0):0≤c∧c≤7:=by
 unfold YQ at h
 repeat' split at h
 all_goals omega
theorem Ztl (kl:List Nat) (n:Nat) (plain:List Nat):(Znl kl n plain).length≤plain.length+20:=by
 unfold Znl Zim
 have l1:=Zan kl 1 (X1 (YS n)) plain
 have l2:(Qz kl (X1 (YS n)) (YS n) (ZdM kl 1 (X1 (YS n)) plain)).length≤16:=ZfM _ _
 rw[List.length_append,List.length_append,l1]
 have l3:(YS n).length=4:=rfl
 omega
def ZBj (B:Nat) (h':Hp) (v':Value) (n c r u k cl s nm v:Int):Prop:=∃w,v'=.tuple [w,.int .i64 (ZaG n c r u k cl s nm v)].toArray∧ZZ B 5 h' w (if ZaG n c r u k cl s nm v=0 then Zqt n c r u k cl s nm v else [])
theorem ZvV (T:World) (h:Hp) (n c r u k cl s nm v:Int) (tk:Tk h) :
  Zd Tryz.prog T 51 #[.int .i64 n,.agg (Zbl c r u).toArray,.agg (Qr k cl s nm v).toArray] h fun v' h'=>ZBj h.size h' v' n c r u k cl s nm v∧Zf h.size h h':=by
 refine Zd.Zi (args:=[_,_,_]) Tryz.func51 rfl rfl rfl rfl ?_
 unfold ZBj Zbl Qr
 by_cases q:0≤n∧n≤1073741823
 case neg=>
  have ee:ZaG n c r u k cl s nm v=2:=by unfold ZaG;rw[if_pos q]
  rw[ee]
  by_cases q0:n<0
  ·simp -implicitDefEqProofs only[go_sem,↓reduceIte,q0]
   exact⟨_,rfl,ZZ.nil _ 5 _⟩
  ·have q1:1073741824≤n:=by omega
   simp -implicitDefEqProofs only[go_sem,↓reduceIte,q0,q1]
   exact⟨_,rfl,ZZ.nil _ 5 _⟩
 obtain⟨q0,q1⟩:=q
 have qn0:¬n<0:=by omega
 have qn1:¬(1073741824:Int)≤n:=by omega
 obtain⟨h0,XO⟩:=Zx ((h.push (.cells [.int .i64 c,.int .i64 r,.int .i64 u].toArray 134)).push (.cells [.int .i64 k,.int .i64 cl,.int .i64 s,.int .i64 nm,.int .i64 v].toArray 77):Hp)
 have b0:Zf h.size h h0:=by rw[XO];exact ((Zf.refl _ _).add _).add _
 have s0:h0.size=h.size+2:=by rw[XO];simp
 have t0:h0[h.size]? = some (.cells [.int .i64 c,.int .i64 r,.int .i64 u].toArray 134):=by
  rw[XO,Array.getElem?_push,if_neg (by simp),Zb]
 have c0:h0[h.size+1]? = some (.cells [.int .i64 k,.int .i64 cl,.int .i64 s,.int .i64 nm,.int .i64 v].toArray 77):=by
  rw[XO,Array.getElem?_push,if_pos (by simp)]
 have e0:(h.push (.cells #[Value.int .i64 c,.int .i64 r,.int .i64 u] 134)).push (.cells #[Value.int .i64 k,.int .i64 cl,.int .i64 s,.int .i64 nm,.int .i64 v] 77)=h0:=XO.symm
 have e0':(h.push (.cells [Value.int .i64 c,.int .i64 r,.int .i64 u].toArray 134)).push (.cells [Value.int .i64 k,.int .i64 cl,.int .i64 s,.int .i64 nm,.int .i64 v].toArray 77)=h0:=XO.symm
 simp -implicitDefEqProofs only[go_sem,↓reduceIte,qn0,qn1]
 first|rw[e0]|rw[e0']
 clear e0 e0' XO
 have r0:rd h0 ⟨h.size,0,none⟩ 3=some [.int .i64 c,.int .i64 r,.int .i64 u]:=Zo t0 rfl
 have k0:h.size<h0.size:=by omega
 refine VS.w (h0.size) [] (.q 1 (.s 0 (.s 2 (.q 3 (.q 4 (.q 5 (.q 6 (.q 7 .nil)))))))) mixed (by kernel_rfl) ?_
 simp -implicitDefEqProofs only[go_sem,↓reduceIte,r0,k0]
 refine (Zey T h0 (tk.Jq b0)).use ?_
 rintro wi h1 ⟨⟨ci,si⟩,b1⟩
 have B1:=b0.trans (b1.mono b0.size)
 have s1:=b1.size
 simp -implicitDefEqProofs only[go_sem,↓reduceIte,b1]
 have ht:Zd Tryz.prog T 75 #[wi,.agg #[.int .i64 c,.int .i64 r,.int .i64 u]] h1 fun v' h'=>Zns h1.size h' v' Zbw c r u∧Zf h1.size h1 h':=Ztg T h1 wi Zbw c r u si (tk.Jq B1)
 refine ht.use ?_
 rintro _ h2 ⟨⟨w2,rfl,o2⟩,b2⟩
 have B2:=B1.trans (b2.mono B1.size)
 have s2:=b2.size
 have b02:Zf h0.size h0 h2:=b1.trans (b2.mono s1)
 rw[Zff]at o2
 rw[Zff]
 by_cases g:UU 32 c r u=0
 case neg=>
  have ee:ZaG n c r u k cl s nm v=UU 32 c r u:=by unfold ZaG;rw[if_neg (fun hn=>hn ⟨q0,q1⟩),if_pos g]
  rw[ee,if_neg g]
  obtain⟨E,hE⟩:=Zx (UU 32 c r u)
  rw[←hE]at g ⊢
  simp -implicitDefEqProofs only[go_sem,↓reduceIte,b02,g]
  exact⟨⟨_,rfl,ZZ.nil _ 5 _⟩,B2⟩
 rw[g,if_pos rfl]at o2
 rw[g]
 have ee:ZaG n c r u k cl s nm v=YQ k cl s nm v:=by unfold ZaG;rw[if_neg (fun hn=>hn ⟨q0,q1⟩),if_neg (fun hn=>hn g)]
 rw[ee]
 have c2:=b02.get (by omega) c0
 have r2:rd h2 ⟨h.size+1,0,none⟩ 5=some [.int .i64 k,.int .i64 cl,.int .i64 s,.int .i64 nm,.int .i64 v]:=Zo c2 rfl
 simp -implicitDefEqProofs only[go_sem,↓reduceIte,b02,r2]
 have he:Zd Tryz.prog T 76 #[.agg #[.int .i64 k,.int .i64 cl,.int .i64 s,.int .i64 nm,.int .i64 v]] h2 fun v' h'=>ZmQ h' v' k cl s nm v∧Zf h2.size h2 h':=Zh9 T h2 k cl s nm v
 refine he.use ?_
 rintro _ h3 ⟨⟨w3,rfl,o3⟩,b3⟩
 have B3:=B2.trans (b3.mono B2.size)
 have s3:=b3.size
 by_cases e:YQ k cl s nm v=0
 case neg=>
  rw[if_neg e]
  obtain⟨E,hE⟩:=Zx (YQ k cl s nm v)
  rw[←hE]at e ⊢
  simp -implicitDefEqProofs only[go_sem,↓reduceIte,e]
  exact⟨⟨_,rfl,ZZ.nil _ 5 _⟩,B3⟩
 rw[e,if_pos rfl]at o3
 rw[e]
 obtain⟨cl0,cl7⟩:=ZhN e
 have ke:JC cl=0:=by unfold JC;rw[if_neg (by omega)]
 have c3:=b3.get (by omega) c2
 have rc3:V.hc h3 ⟨h.size+1,1,none⟩=some (.int .i64 cl):=by rw[Zg c3];rfl
 simp -implicitDefEqProofs only[go_sem,↓reduceIte,rc3]
 refine (ZgR T h3 cl (tk.Jq B3)).use ?_
 rintro _ h4 ⟨⟨w4,rfl,k4,o4,f4⟩,b4⟩
 rw[ke,if_pos rfl]at o4
 rw[ke]
 obtain⟨p4,c4,rfl,hc4⟩:=o4.open
 have B4:=B3.trans (b4.mono B3.size)
 have s4:=b4.size
 have o24:=(o2.Z9 b3 (Nat.le_refl _)).Z9 b4 (Nat.le_refl _)
 have o34:=o3.Z9 b4
 have l2:(Zk9 Zbw c.toNat r.toNat u.toNat).length=22:=Zfd _ _ _ _
 have l3:(Zr [k.toNat,cl.toNat,s.toNat,nm.toNat,v.toNat]).length=20:=by rw[ZA];rfl
 have ep:Ztk c r u k cl s nm v=Zk9 Zbw c.toNat r.toNat u.toNat++Zr [k.toNat,cl.toNat,s.toNat,nm.toNat,v.toNat]:=rfl
 have ZGl:=o2.own.lt
 generalize Zk9 Zbw c.toNat r.toNat u.toNat=PR at *
 generalize Zr [k.toNat,cl.toNat,s.toNat,nm.toNat,v.toNat]=CB at *
 simp -implicitDefEqProofs only[go_sem,↓reduceIte]
 refine JY (E:=5) (B:=h1.size) Yx Tryz.underlying44 tn5 tz5 tb5 o24 (by omega) o34 (by omega) ?_
 intro w5 h5 o5 b5 bt5 _
 have s5:=b5.size
 have B5:Zf h.size h h5:=B4.trans (b5.mono (by omega))
 have o4':Bs h5 (.slice p4 (Uz cl.toNat).length c4) (Uz cl.toNat):=Zyr o4 k4 bt5 (fun b hb e=>by
  have q1:=f4 b hb
  have q2:=ZGl b e
  omega)
 have lk:=Zfe cl.toNat
 have eS:Zqt n c r u k cl s nm v=cl.toNat :: Znl (Uz cl.toNat) n.toNat (PR++CB):=by unfold Zqt;rw[ep]
 have se:Zar (Uz cl.toNat).length n 0 Jz (PR++CB).length=0:=by rw[lk];exact Zld q0 q1 (by rw[List.length_append];omega)
 simp -implicitDefEqProofs only[go_sem,↓reduceIte]
 have ZGm:Zd Tryz.prog T 77 #[.agg #[.slice p4 (Uz cl.toNat).length c4,.int .i64 n,.int .i64 0,.bool false,.bool false,.bool false,.bool false,.bool false,.bool false,.bool false,.bool false],w5] h5 fun v' h'=>Zjs h5.size h' v' (Uz cl.toNat) n 0 Jz (PR++CB)∧Zf h5.size h5 h':=Zk0 T h5 _ w5 (Uz cl.toNat) (PR++CB) n 0 Jz rfl o4' o5.bs k4
 refine ZGm.use ?_
 rintro _ h6 ⟨⟨cw,w6,rfl,⟨w7,rfl,o7⟩,o6⟩,b6⟩
 rw[se,if_pos rfl]at o6
 rw[se,if_pos rfl]at o7
 rw[se]
 have s6:=b6.size
 have B6:Zf h.size h h6:=B5.trans (b6.mono (by omega))
 have c6:=b6.get (by omega) ((b5.mono (B':=h0.size) (by omega)).get (by omega) (b4.get (by omega) c3))
 have rc6:V.hc h6 ⟨h.size+1,1,none⟩=some (.int .i64 cl):=by rw[Zg c6];rfl
 obtain⟨p7,c7,rfl,_⟩:=o7.open
 obtain⟨x,rfl⟩:∃x:Nat,cl=x:=⟨cl.toNat,by omega⟩
 have ec:(x:Int)%256=(x:Int):=by omega
 have ZGn:¬h.size+1=h6.size:=by omega
 have eN:Jz.map Value.bool=[.bool false,.bool false,.bool false,.bool false,.bool false,.bool false,.bool false,.bool false]:=rfl
 have ez:((0:Int)=0)=True:=eq_self 0
 simp only[ez,if_true]
 unfold ZO
 rw[eN]
 rw[Int.toNat_natCast]at eS o6
 have Qu:∀y∈[x],y<256:=by intro y hy;rw[List.mem_singleton.1 hy];omega
 rw[show ((x:Nat):Int).toNat=x from Int.toNat_natCast x]at *
 simp -implicitDefEqProofs only[go_sem,↓reduceIte,rc6,ZGn,ec]
 obtain⟨h7,hh7⟩:=Zx (h6.push (.cells [.slice p7 (Uz x).length c7,.int .i64 (n+1),.int .i64 0,.bool false,.bool false,.bool false,.bool false,.bool false,.bool false,.bool false,.bool false].toArray 138):Hp)
 have e7:h6.push (.cells #[Value.slice p7 (Uz x).length c7,.int .i64 (n+1),.int .i64 0,.bool false,.bool false,.bool false,.bool false,.bool false,.bool false,.bool false,.bool false] 138)=h7:=hh7.symm
 rw[e7]
 have b7:Zf h6.size h6 h7:=by rw[hh7];exact Zf.push (Nat.le_refl _) _
 have s7:h7.size=h6.size+1:=by rw[hh7];simp
 have q7:h6.size+1=h7.size:=s7.symm
 clear e7 hh7
 have B7:=B6.trans (b7.mono (by omega))
 have o1:ZZ h7.size 5 (h7.push (.cells (([x]:List Nat).map bv).toArray 5)) (.slice (some ⟨h7.size,0,none⟩) 1 1) [x]:=ZZ.made Qu (Nat.le_refl _)
 have bp:Zf h7.size h7 (h7.push (.cells (([x]:List Nat).map bv).toArray 5)):=Zf.push (Nat.le_refl _) _
 have lr:(Znl (Uz x) n.toNat (PR++CB)).length≤1000000:=Nat.le_trans (Ztl _ _ _) (by rw[List.length_append];omega)
 try rw[q7]
 refine Zv (E:=5) (B:=h7.size) Yx Tryz.underlying44 tn5 tz5 tb5 o1 (by simp) ((o6.bs.Z9 b7).Z9 bp) (by simp;omega) ?_
 intro w8 h8 o8 b8 _
 simp -implicitDefEqProofs only[go_sem,↓reduceIte]
 rw[eS]
 exact⟨⟨_,rfl,o8.mono B7.size⟩,B7.trans (((bp.trans b8)).mono (by omega))⟩
end Go.Proofs.YtnhbpmoeaodmnaaGreatDoor
