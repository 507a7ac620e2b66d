/- Keys that are drawn: what the program and the document compute; no condition but those in the statements. -/
import Derived.Test.YtpomedigibbeeaaGreatDoorChw
import Derived.Test.YtpomedigibbeeaaGreatDoorW19
import Derived.Test.YtpomedigibbeeaaGreatDoorTakf
import Derived.Test.YtpomedigibbeeaaGreatDoorTape
namespace Go.Proofs.YtpomedigibbeeaaGreatDoor
open Go Go.V
set_option linter.unusedSimpArgs false
set_option linter.unusedVariables false
set_option maxRecDepth 100000
def AQ:List Nat:=[99,108,105,101,110,116]
def AS:List Nat:=[105,115,115,117,101,114]
def Ul (c:Nat):List Nat:=L5 [c] AQ [] 32
def Vg:List Nat:=L5 [255] AS [] 32
theorem Mg (c:Nat):(Ul c).length=32:=Oe _ _ _ (by decide)
theorem Mh:Vg.length=32:=Oe _ _ _ (by decide)
def X8 (c:Int):Int:=if c<0∨7<c then 2 else 0
def nK (B:Nat) (h':Hp) (v':Value) (c:Int):Prop:=∃w,v'=.tuple [w,.int .i64 (X8 c)].toArray∧Ta w∧Bs h' w (if X8 c=0 then Ul c.toNat else [])∧∀b,ZO w=some b→B≤b
theorem Fl {h:Hp} {b:Nat} {l:List Nat} {E:TypeId} {fr:Nat × Nat} (hx:h[b]? = some (.cells (l.map bv).toArray E fr)) (hl:∀x∈l,x<256) (c:Nat):Bs h (.slice (some ⟨b,0,none⟩) l.length c) l:=by
 refine⟨⟨_,c,rfl,by simp,fun _=>⟨b,0,rfl,fun i hi=>?_⟩⟩,hl⟩
 rw[Vv hx,Nat.zero_add]
 simp
 exact⟨_,List.getElem?_eq_getElem (by simpa using hi),rfl⟩
theorem Kn (T:World) (h:Hp) (c:Int) (tk:Tk h) :
  Zd Tryz.prog T 21 #[.int .i64 c] h fun v' h'=>nK h.size h' v' c∧Zg h.size h h':=by
 refine Zd.Zj (args:=[_]) Tryz.func21 rfl rfl rfl rfl ?_
 unfold nK
 by_cases e1:c<0
 ·have ee:X8 c=2:=by unfold X8;rw[if_pos (.inl e1)]
  rw[ee]
  simp -implicitDefEqProofs only[go_sem,↓reduceIte,e1]
  exact⟨_,rfl,Nat.le_refl _,(Z0.nil 0 5 _).bs,fun b hb=>by simp[ZO]at hb⟩
 by_cases e2:7<c
 ·have ee:X8 c=2:=by unfold X8;rw[if_pos (.inr e2)]
  rw[ee]
  simp -implicitDefEqProofs only[go_sem,↓reduceIte,e1,e2]
  exact⟨_,rfl,Nat.le_refl _,(Z0.nil 0 5 _).bs,fun b hb=>by simp[ZO]at hb⟩
 have ee:X8 c=0:=by unfold X8;rw[if_neg (by omega)]
 rw[ee]
 obtain⟨n,rfl⟩:∃n:Nat,c=n:=⟨c.toNat,by omega⟩
 have ec:(n:Int)%256=(n:Int):=by omega
 rw[Int.toNat_natCast]
 simp -implicitDefEqProofs only[go_sem,↓reduceIte,e1,e2,ec]
 have Gt:∀x∈[n],x<256:=by intro x hx;rw[List.mem_singleton.1 hx];omega
 have I0:∀x∈AQ,x<256:=by decide
 obtain⟨h1,YD⟩:=Zy (h.push (.cells (([n]:List Nat).map bv).toArray 5):Hp)
 have b1:Zg h.size h h1:=by rw[YD];exact Zg.push (Nat.le_refl _) _
 have s1:h1.size=h.size+1:=by rw[YD];simp
 have x1:h1[h.size]? = some (.cells (([n]:List Nat).map bv).toArray 5):=by rw[YD];exact Zb
 change PC _ _ _ _ _ ((h.push (.cells (([n]:List Nat).map bv).toArray 5)).push (.cells (AQ.map bv).toArray 5))
 rw[←YD]
 have x2:(h1.push (.cells (AQ.map bv).toArray 5))[h.size+1]? = some (.cells (AQ.map bv).toArray 5):=by rw[←s1];exact Zb
 refine Hc Tryz.underlying34 Tryz.underlying5 x2 ?_
 intro h3 zo x3 RJ
 have B3:Zg (h.size+1) h1 h3:=(Zg.push (by omega) _).trans (RJ.Ya (by simp;omega) (fun b e=>by have:=Option.some.inj e;omega))
 have x13:h3[h.size]? = some (.cells (([n]:List Nat).map bv).toArray 5):=B3.get (by omega) x1
 have Bh:Zg h.size h h3:=b1.trans (B3.mono (by omega))
 simp -implicitDefEqProofs only[go_sem,↓reduceIte]
 refine (Km T h3 _ _ _ [n] AQ [] 32 (Fl x13 Gt 1) (Fl x3 I0 6) (Z0.nil 0 5 _).bs (tk.Jy Bh)).use ?_
 rintro _ h4 ⟨⟨w4,rfl,hc4,o4,k4⟩,b4⟩
 have B4:=Bh.trans (b4.mono Bh.size)
 have e0:XL ([n]:List Nat).length AQ.length ([]:List Nat).length 32=0:=rfl
 rw[e0,if_pos rfl,show (32:Int).toNat=32 from rfl]at o4
 rw[e0]
 have o5:Bs h4 w4 (Ul n):=by unfold Ul;exact o4
 clear o4
 generalize Ul n=KS at *
 simp -implicitDefEqProofs only[go_sem,↓reduceIte,B4]
 exact⟨_,rfl,hc4,o5,fun b hb=>Nat.le_trans Bh.size (k4 b hb)⟩
theorem Ni (T:World) (h:Hp) (tk:Tk h) :
  Zd Tryz.prog T 24 #[] h fun v' h'=>(Ta v'∧Bs h' v' Vg)∧Zg h.size h h':=by
 refine Zd.Zj (args:=[]) Tryz.func24 rfl rfl rfl rfl ?_
 simp -implicitDefEqProofs only[go_sem,↓reduceIte]
 have Gt:∀x∈[255],x<256:=by decide
 have I0:∀x∈AS,x<256:=by decide
 obtain⟨h1,YD⟩:=Zy (h.push (.cells (([255]:List Nat).map bv).toArray 5):Hp)
 have b1:Zg h.size h h1:=by rw[YD];exact Zg.push (Nat.le_refl _) _
 have s1:h1.size=h.size+1:=by rw[YD];simp
 have x1:h1[h.size]? = some (.cells (([255]:List Nat).map bv).toArray 5):=by rw[YD];exact Zb
 have x2:(h1.push (.cells (AS.map bv).toArray 5))[h.size+1]? = some (.cells (AS.map bv).toArray 5):=by rw[←s1];exact Zb
 change PC _ _ _ _ _ ((h.push (.cells (([255]:List Nat).map bv).toArray 5)).push (.cells (AS.map bv).toArray 5))
 rw[←YD]
 refine Hc Tryz.underlying34 Tryz.underlying5 x2 ?_
 intro h3 zo x3 RJ
 have B3:Zg (h.size+1) h1 h3:=(Zg.push (by omega) _).trans (RJ.Ya (by simp;omega) (fun b e=>by have:=Option.some.inj e;omega))
 have x13:h3[h.size]? = some (.cells (([255]:List Nat).map bv).toArray 5):=B3.get (by omega) x1
 have Bh:Zg h.size h h3:=b1.trans (B3.mono (by omega))
 simp -implicitDefEqProofs only[go_sem,↓reduceIte]
 refine (Km T h3 _ _ _ [255] AS [] 32 (Fl x13 Gt 1) (Fl x3 I0 6) (Z0.nil 0 5 _).bs (tk.Jy Bh)).use ?_
 rintro _ h4 ⟨⟨w4,rfl,hc4,o4,k4⟩,b4⟩
 have B4:=Bh.trans (b4.mono Bh.size)
 have e0:XL ([255]:List Nat).length AS.length ([]:List Nat).length 32=0:=rfl
 rw[e0,if_pos rfl,show (32:Int).toNat=32 from rfl]at o4
 rw[e0]
 have o5:Bs h4 w4 Vg:=by unfold Vg;exact o4
 clear o4
 generalize Vg=KS at *
 simp -implicitDefEqProofs only[go_sem,↓reduceIte,B4]
 exact⟨hc4,o5⟩
theorem ZaI {x:Option Nat} {h h':Hp} {v:Value} {l:List Nat} (s:Bs h v l) (hc:Ta v) (a:VZ x h h') (hx:∀b,ZO v=some b→x≠some b):Bs h' v l:=by
 obtain⟨⟨p,cap,rfl,hl,YV⟩,hb⟩:=s
 refine⟨⟨p,cap,rfl,hl,fun Yw=>?_⟩,hb⟩
 obtain⟨b,o,rfl,PT⟩:=YV Yw
 refine⟨b,o,rfl,fun i hi=>?_⟩
 have h1:=PT i hi
 have hc':l.length≤cap:=hc
 have Lm:0<l.length:=by
  cases l with
  | nil=>exact (Yw rfl).elim
  | cons x l=>simp
 have kX:h'[b]? = h[b]?:=a.block b (Uc h1) (hx b (by simp only[ZO];rw[if_neg (by omega)]))
 unfold V.hc at h1 ⊢
 rw[kX];exact h1
def Vh (n c r u k cl s nm v:Int):Int:=if ¬(0≤n∧n≤1073741823) then 2 else if Wa 32 c r u≠0 then Wa 32 c r u else YM k cl s nm v
def nL (c r u k cl s nm v:Int):List Nat:=Dx Vg c.toNat r.toNat u.toNat++Zs [k.toNat,cl.toNat,s.toNat,nm.toNat,v.toNat]
def gI (n c r u k cl s nm v:Int):List Nat:=cl.toNat :: AH (Ul cl.toNat) n.toNat (nL c r u k cl s nm v)
theorem DB {n:Int} (h0:0≤n) (h1:n≤1073741823) {m:Nat} (hm:m≤2000):WS 32 n 0 X7 m=0:=by
 have e:Xl 32 n 0 X7=0:=by
  unfold Xl
  rw[show early 0 X7 8=false from rfl]
  simp;omega
 unfold WS
 rw[e,if_neg (by simp),if_neg (by omega),if_neg (by omega)]
theorem IP {k c s n v:Int} (h:YM k c s n v=0):0≤c∧c≤7:=by
 unfold YM at h
 repeat' split at h
 all_goals omega
theorem nM (kl:List Nat) (n:Nat) (plain:List Nat):(AH kl n plain).length≤plain.length+20:=by
 unfold AH HC
 have l1:=WN kl 1 (X6 (YU n)) plain
 have l2:(QF kl (X6 (YU n)) (YU n) (Of kl 1 (X6 (YU n)) plain)).length≤16:=MY _ _
 rw[List.length_append,List.length_append,l1]
 have l3:(YU n).length=4:=rfl
 omega
def Zfg (B:Nat) (h':Hp) (v':Value) (n c r u k cl s nm v:Int):Prop:=∃w,v'=.tuple [w,.int .i64 (Vh n c r u k cl s nm v)].toArray∧Z0 B 5 h' w (if Vh n c r u k cl s nm v=0 then gI n c r u k cl s nm v else [])
theorem ur (T:World) (h:Hp) (n c r u k cl s nm v:Int) (tk:Tk h) :
  Zd Tryz.prog T 52 #[.int .i64 n,.agg (Tc c r u).toArray,.agg (Qt k cl s nm v).toArray] h fun v' h'=>Zfg h.size h' v' n c r u k cl s nm v∧Zg h.size h h':=by
 refine Zd.Zj (args:=[_,_,_]) Tryz.func52 rfl rfl rfl rfl ?_
 unfold Zfg Tc Qt
 by_cases q:0≤n∧n≤1073741823
 case neg=>
  have ee:Vh n c r u k cl s nm v=2:=by unfold Vh;rw[if_pos q]
  rw[ee]
  by_cases q0:n<0
  ·simp -implicitDefEqProofs only[go_sem,↓reduceIte,q0]
   exact⟨_,rfl,Z0.nil _ 5 _⟩
  ·have q1:1073741824≤n:=by omega
   simp -implicitDefEqProofs only[go_sem,↓reduceIte,q0,q1]
   exact⟨_,rfl,Z0.nil _ 5 _⟩
 obtain⟨q0,q1⟩:=q
 have qn0:¬n<0:=by omega
 have qn1:¬(1073741824:Int)≤n:=by omega
 obtain⟨h0,XR⟩:=Zy ((h.push (.cells [.int .i64 c,.int .i64 r,.int .i64 u].toArray 79)).push (.cells [.int .i64 k,.int .i64 cl,.int .i64 s,.int .i64 nm,.int .i64 v].toArray 49):Hp)
 have b0:Zg h.size h h0:=by rw[XR];exact ((Zg.refl _ _).add _).add _
 have s0:h0.size=h.size+2:=by rw[XR];simp
 have t0:h0[h.size]? = some (.cells [.int .i64 c,.int .i64 r,.int .i64 u].toArray 79):=by
  rw[XR,Array.getElem?_push,if_neg (by simp),Zb]
 have c0:h0[h.size+1]? = some (.cells [.int .i64 k,.int .i64 cl,.int .i64 s,.int .i64 nm,.int .i64 v].toArray 49):=by
  rw[XR,Array.getElem?_push,if_pos (by simp)]
 have e0:(h.push (.cells #[Value.int .i64 c,.int .i64 r,.int .i64 u] 79)).push (.cells #[Value.int .i64 k,.int .i64 cl,.int .i64 s,.int .i64 nm,.int .i64 v] 49)=h0:=XR.symm
 have qD:(h.push (.cells [Value.int .i64 c,.int .i64 r,.int .i64 u].toArray 79)).push (.cells [Value.int .i64 k,.int .i64 cl,.int .i64 s,.int .i64 nm,.int .i64 v].toArray 49)=h0:=XR.symm
 simp -implicitDefEqProofs only[go_sem,↓reduceIte,qn0,qn1]
 first|rw[e0]|rw[qD]
 clear e0 qD XR
 have r0:rd h0 ⟨h.size,0,none⟩ 3=some [.int .i64 c,.int .i64 r,.int .i64 u]:=Zp t0 rfl
 have k0:h.size<h0.size:=by omega
 refine VS.w (h0.size) [] (.q 1 (.s 0 (.s 2 (.q 3 (.q 4 (.q 5 (.q 6 (.q 7 .nil)))))))) mixed (by kernel_rfl) ?_
 simp -implicitDefEqProofs only[go_sem,↓reduceIte,r0,k0]
 refine (Ni T h0 (tk.Jy b0)).use ?_
 rintro wi h1 ⟨⟨ci,si⟩,b1⟩
 have B1:=b0.trans (b1.mono b0.size)
 have s1:=b1.size
 simp -implicitDefEqProofs only[go_sem,↓reduceIte,b1]
 have ht:Zd Tryz.prog T 72 #[wi,.agg #[.int .i64 c,.int .i64 r,.int .i64 u]] h1 fun v' h'=>AO h1.size h' v' Vg c r u∧Zg h1.size h1 h':=nH T h1 wi Vg c r u si (tk.Jy B1)
 refine ht.use ?_
 rintro _ h2 ⟨⟨w2,rfl,o2⟩,b2⟩
 have B2:=B1.trans (b2.mono B1.size)
 have s2:=b2.size
 have b02:Zg h0.size h0 h2:=b1.trans (b2.mono s1)
 rw[Mh]at o2
 rw[Mh]
 by_cases g:Wa 32 c r u=0
 case neg=>
  have ee:Vh n c r u k cl s nm v=Wa 32 c r u:=by unfold Vh;rw[if_neg (fun hn=>hn ⟨q0,q1⟩),if_pos g]
  rw[ee,if_neg g]
  obtain⟨E,hE⟩:=Zy (Wa 32 c r u)
  rw[←hE]at g ⊢
  simp -implicitDefEqProofs only[go_sem,↓reduceIte,b02,g]
  exact⟨⟨_,rfl,Z0.nil _ 5 _⟩,B2⟩
 rw[g,if_pos rfl]at o2
 rw[g]
 have ee:Vh n c r u k cl s nm v=YM k cl s nm v:=by unfold Vh;rw[if_neg (fun hn=>hn ⟨q0,q1⟩),if_neg (fun hn=>hn g)]
 rw[ee]
 have c2:=b02.get (by omega) c0
 have r2:rd h2 ⟨h.size+1,0,none⟩ 5=some [.int .i64 k,.int .i64 cl,.int .i64 s,.int .i64 nm,.int .i64 v]:=Zp c2 rfl
 simp -implicitDefEqProofs only[go_sem,↓reduceIte,b02,r2]
 have he:Zd Tryz.prog T 49 #[.agg #[.int .i64 k,.int .i64 cl,.int .i64 s,.int .i64 nm,.int .i64 v]] h2 fun v' h'=>BR h' v' k cl s nm v∧Zg h2.size h2 h':=Hj T h2 k cl s nm v
 refine he.use ?_
 rintro _ h3 ⟨⟨w3,rfl,o3⟩,b3⟩
 have B3:=B2.trans (b3.mono B2.size)
 have s3:=b3.size
 by_cases e:YM k cl s nm v=0
 case neg=>
  rw[if_neg e]
  obtain⟨E,hE⟩:=Zy (YM k cl s nm v)
  rw[←hE]at e ⊢
  simp -implicitDefEqProofs only[go_sem,↓reduceIte,e]
  exact⟨⟨_,rfl,Z0.nil _ 5 _⟩,B3⟩
 rw[e,if_pos rfl]at o3
 rw[e]
 obtain⟨cl0,cl7⟩:=IP e
 have ke:X8 cl=0:=by unfold X8;rw[if_neg (by omega)]
 have c3:=b3.get (by omega) c2
 have rc3:V.hc h3 ⟨h.size+1,1,none⟩=some (.int .i64 cl):=by rw[Zh c3];rfl
 simp -implicitDefEqProofs only[go_sem,↓reduceIte,rc3]
 refine (Kn T h3 cl (tk.Jy B3)).use ?_
 rintro _ h4 ⟨⟨w4,rfl,k4,o4,f4⟩,b4⟩
 rw[ke,if_pos rfl]at o4
 rw[ke]
 obtain⟨p4,c4,rfl,hc4⟩:=o4.open
 have B4:=B3.trans (b4.mono B3.size)
 have s4:=b4.size
 have o24:=(o2.Ya b3 (Nat.le_refl _)).Ya b4 (Nat.le_refl _)
 have o34:=o3.Ya b4
 have l2:(Dx Vg c.toNat r.toNat u.toNat).length=22:=Mf _ _ _ _
 have l3:(Zs [k.toNat,cl.toNat,s.toNat,nm.toNat,v.toNat]).length=20:=by rw[ZB];rfl
 have ep:nL c r u k cl s nm v=Dx Vg c.toNat r.toNat u.toNat++Zs [k.toNat,cl.toNat,s.toNat,nm.toNat,v.toNat]:=rfl
 have Znp:=o2.own.lt
 generalize Dx Vg c.toNat r.toNat u.toNat=PR at *
 generalize Zs [k.toNat,cl.toNat,s.toNat,nm.toNat,v.toNat]=CB at *
 simp -implicitDefEqProofs only[go_sem,↓reduceIte]
 refine Qa (E:=5) (B:=h1.size) YC Tryz.underlying34 WH VA Vz o24 (by omega) o34 (by omega) ?_
 intro w5 h5 o5 b5 bt5 _
 have s5:=b5.size
 have B5:Zg h.size h h5:=B4.trans (b5.mono (by omega))
 have o4':Bs h5 (.slice p4 (Ul cl.toNat).length c4) (Ul cl.toNat):=ZaI o4 k4 bt5 (fun b hb e=>by
  have q1:=f4 b hb
  have q2:=Znp b e
  omega)
 have lk:=Mg cl.toNat
 have eS:gI n c r u k cl s nm v=cl.toNat :: AH (Ul cl.toNat) n.toNat (PR++CB):=by unfold gI;rw[ep]
 have se:WS (Ul cl.toNat).length n 0 X7 (PR++CB).length=0:=by rw[lk];exact DB q0 q1 (by rw[List.length_append];omega)
 simp -implicitDefEqProofs only[go_sem,↓reduceIte]
 have Znq:Zd Tryz.prog T 73 #[.agg #[.slice p4 (Ul cl.toNat).length c4,.int .i64 n,.int .i64 0,.bool false,.bool false,.bool false,.bool false,.bool false,.bool false,.bool false,.bool false],w5] h5 fun v' h'=>Fg h5.size h' v' (Ul cl.toNat) n 0 X7 (PR++CB)∧Zg h5.size h5 h':=Dm T h5 _ w5 (Ul cl.toNat) (PR++CB) n 0 X7 rfl o4' o5.bs k4
 refine Znq.use ?_
 rintro _ h6 ⟨⟨cw,w6,rfl,⟨w7,rfl,o7⟩,o6⟩,b6⟩
 rw[se,if_pos rfl]at o6
 rw[se,if_pos rfl]at o7
 rw[se]
 have s6:=b6.size
 have B6:Zg h.size h h6:=B5.trans (b6.mono (by omega))
 have c6:=b6.get (by omega) ((b5.mono (B':=h0.size) (by omega)).get (by omega) (b4.get (by omega) c3))
 have rc6:V.hc h6 ⟨h.size+1,1,none⟩=some (.int .i64 cl):=by rw[Zh c6];rfl
 obtain⟨p7,c7,rfl,_⟩:=o7.open
 obtain⟨x,rfl⟩:∃x:Nat,cl=x:=⟨cl.toNat,by omega⟩
 have ec:(x:Int)%256=(x:Int):=by omega
 have Znr:¬h.size+1=h6.size:=by omega
 have eN:X7.map Value.bool=[.bool false,.bool false,.bool false,.bool false,.bool false,.bool false,.bool false,.bool false]:=rfl
 have ez:((0:Int)=0)=True:=eq_self 0
 simp only[ez,if_true]
 unfold ZQ
 rw[eN]
 rw[Int.toNat_natCast]at eS o6
 have Qy:∀y∈[x],y<256:=by intro y hy;rw[List.mem_singleton.1 hy];omega
 rw[show ((x:Nat):Int).toNat=x from Int.toNat_natCast x]at *
 simp -implicitDefEqProofs only[go_sem,↓reduceIte,rc6,Znr,ec]
 obtain⟨h7,uj⟩:=Zy (h6.push (.cells [.slice p7 (Ul x).length c7,.int .i64 (n+1),.int .i64 0,.bool false,.bool false,.bool false,.bool false,.bool false,.bool false,.bool false,.bool false].toArray 75):Hp)
 have e7:h6.push (.cells #[Value.slice p7 (Ul x).length c7,.int .i64 (n+1),.int .i64 0,.bool false,.bool false,.bool false,.bool false,.bool false,.bool false,.bool false,.bool false] 75)=h7:=uj.symm
 rw[e7]
 have b7:Zg h6.size h6 h7:=by rw[uj];exact Zg.push (Nat.le_refl _) _
 have s7:h7.size=h6.size+1:=by rw[uj];simp
 have q7:h6.size+1=h7.size:=s7.symm
 clear e7 uj
 have B7:=B6.trans (b7.mono (by omega))
 have o1:Z0 h7.size 5 (h7.push (.cells (([x]:List Nat).map bv).toArray 5)) (.slice (some ⟨h7.size,0,none⟩) 1 1) [x]:=Z0.made Qy (Nat.le_refl _)
 have bp:Zg h7.size h7 (h7.push (.cells (([x]:List Nat).map bv).toArray 5)):=Zg.push (Nat.le_refl _) _
 have lr:(AH (Ul x) n.toNat (PR++CB)).length≤1000000:=Nat.le_trans (nM _ _ _) (by rw[List.length_append];omega)
 try rw[q7]
 refine Zw (E:=5) (B:=h7.size) YC Tryz.underlying34 WH VA Vz o1 (by simp) ((o6.bs.Ya b7).Ya bp) (by simp;omega) ?_
 intro w8 h8 o8 b8 _
 simp -implicitDefEqProofs only[go_sem,↓reduceIte]
 rw[eS]
 exact⟨⟨_,rfl,o8.mono B7.size⟩,B7.trans (((bp.trans b8)).mono (by omega))⟩
end Go.Proofs.YtpomedigibbeeaaGreatDoor
