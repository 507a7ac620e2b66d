/- Keys that are drawn: what the program and the document compute; no condition but those in the statements. -/
import Derived.Test.YtpomedigibbeeaaGreatDoorChw
import Derived.Test.YtpomedigibbeeaaGreatDoorW19
import Derived.Test.YtpomedigibbeeaaGreatDoorTakf
import Derived.Test.YtpomedigibbeeaaGreatDoorTape
namespace Go.Proofs.YtpomedigibbeeaaGreatDoor
open Go Go.V
set_option linter.unusedSimpArgs false
set_option linter.unusedVariables false
set_option maxRecDepth 100000
def BS:List Nat:=[99,108,105,101,110,116]
def BT:List Nat:=[105,115,115,117,101,114]
def Uu (c:Nat):List Nat:=Lu [c] BS [] 32
def VN:List Nat:=Lu [255] BT [] 32
theorem Nu (c:Nat):(Uu c).length=32:=Pc _ _ _ (by decide)
theorem Nv:VN.length=32:=Pc _ _ _ (by decide)
def Jt (c:Int):Int:=if c<0∨7<c then 2 else 0
def lQ (B:Nat) (h':Hp) (v':Value) (c:Int):Prop:=∃w,v'=.tuple [w,.int .i64 (Jt c)].toArray∧Td w∧Bs h' w (if Jt c=0 then Uu c.toNat else [])∧∀b,ZL w=some b→B≤b
theorem Gz {h:Hp} {b:Nat} {l:List Nat} {E:TypeId} {fr:Nat × Nat} (hx:h[b]? = some (.cells (l.map bv).toArray E fr)) (hl:∀x∈l,x<256) (c:Nat):Bs h (.slice (some ⟨b,0,none⟩) l.length c) l:=by
 refine⟨⟨_,c,rfl,by simp,fun _=>⟨b,0,rfl,fun i hi=>?_⟩⟩,hl⟩
 rw[WX hx,Nat.zero_add]
 simp
 exact⟨_,List.getElem?_eq_getElem (by simpa using hi),rfl⟩
theorem LO (T:World) (h:Hp) (c:Int) (tk:Tk h) :
  Zc Tryz.prog T 21 #[.int .i64 c] h fun v' h'=>lQ h.size h' v' c∧Zf h.size h h':=by
 refine Zc.Zh (args:=[_]) Tryz.func21 rfl rfl rfl rfl ?_
 unfold lQ
 by_cases e1:c<0
 ·have ee:Jt c=2:=by unfold Jt;rw[if_pos (.inl e1)]
  rw[ee]
  simp -implicitDefEqProofs only[go_sem,↓reduceIte,e1]
  exact⟨_,rfl,Nat.le_refl _,(ZZ.nil 0 5 _).bs,fun b hb=>by simp[ZL]at hb⟩
 by_cases e2:7<c
 ·have ee:Jt c=2:=by unfold Jt;rw[if_pos (.inr e2)]
  rw[ee]
  simp -implicitDefEqProofs only[go_sem,↓reduceIte,e1,e2]
  exact⟨_,rfl,Nat.le_refl _,(ZZ.nil 0 5 _).bs,fun b hb=>by simp[ZL]at hb⟩
 have ee:Jt c=0:=by unfold Jt;rw[if_neg (by omega)]
 rw[ee]
 obtain⟨n,rfl⟩:∃n:Nat,c=n:=⟨c.toNat,by omega⟩
 have ec:(n:Int)%256=(n:Int):=by omega
 rw[Int.toNat_natCast]
 simp -implicitDefEqProofs only[go_sem,↓reduceIte,e1,e2,ec]
 have HE:∀x∈[n],x<256:=by intro x hx;rw[List.mem_singleton.1 hx];omega
 have Io:∀x∈BS,x<256:=by decide
 obtain⟨h1,Yv⟩:=Zy (h.push (.cells (([n]:List Nat).map bv).toArray 5):Hp)
 have b1:Zf h.size h h1:=by rw[Yv];exact Zf.push (Nat.le_refl _) _
 have s1:h1.size=h.size+1:=by rw[Yv];simp
 have x1:h1[h.size]? = some (.cells (([n]:List Nat).map bv).toArray 5):=by rw[Yv];exact Zb
 change RD _ _ _ _ _ ((h.push (.cells (([n]:List Nat).map bv).toArray 5)).push (.cells (BS.map bv).toArray 5))
 rw[←Yv]
 have x2:(h1.push (.cells (BS.map bv).toArray 5))[h.size+1]? = some (.cells (BS.map bv).toArray 5):=by rw[←s1];exact Zb
 refine Iz Tryz.underlying34 Tryz.underlying5 x2 ?_
 intro h3 wP x3 S5
 have B3:Zf (h.size+1) h1 h3:=(Zf.push (by omega) _).trans (S5.Z7 (by simp;omega) (fun b e=>by have:=Option.some.inj e;omega))
 have x13:h3[h.size]? = some (.cells (([n]:List Nat).map bv).toArray 5):=B3.get (by omega) x1
 have Bh:Zf h.size h h3:=b1.trans (B3.mono (by omega))
 simp -implicitDefEqProofs only[go_sem,↓reduceIte]
 refine (LN T h3 _ _ _ [n] BS [] 32 (Gz x13 HE 1) (Gz x3 Io 6) (ZZ.nil 0 5 _).bs (tk.X9 Bh)).use ?_
 rintro _ h4 ⟨⟨w4,rfl,hc4,o4,k4⟩,b4⟩
 have B4:=Bh.trans (b4.mono Bh.size)
 have e0:XF ([n]:List Nat).length BS.length ([]:List Nat).length 32=0:=rfl
 rw[e0,if_pos rfl,show (32:Int).toNat=32 from rfl]at o4
 rw[e0]
 have o5:Bs h4 w4 (Uu n):=by unfold Uu;exact o4
 clear o4
 generalize Uu n=KS at *
 simp -implicitDefEqProofs only[go_sem,↓reduceIte,B4]
 exact⟨_,rfl,hc4,o5,fun b hb=>Nat.le_trans Bh.size (k4 b hb)⟩
theorem OB (T:World) (h:Hp) (tk:Tk h) :
  Zc Tryz.prog T 24 #[] h fun v' h'=>(Td v'∧Bs h' v' VN)∧Zf h.size h h':=by
 refine Zc.Zh (args:=[]) Tryz.func24 rfl rfl rfl rfl ?_
 simp -implicitDefEqProofs only[go_sem,↓reduceIte]
 have HE:∀x∈[255],x<256:=by decide
 have Io:∀x∈BT,x<256:=by decide
 obtain⟨h1,Yv⟩:=Zy (h.push (.cells (([255]:List Nat).map bv).toArray 5):Hp)
 have b1:Zf h.size h h1:=by rw[Yv];exact Zf.push (Nat.le_refl _) _
 have s1:h1.size=h.size+1:=by rw[Yv];simp
 have x1:h1[h.size]? = some (.cells (([255]:List Nat).map bv).toArray 5):=by rw[Yv];exact Zb
 have x2:(h1.push (.cells (BT.map bv).toArray 5))[h.size+1]? = some (.cells (BT.map bv).toArray 5):=by rw[←s1];exact Zb
 change RD _ _ _ _ _ ((h.push (.cells (([255]:List Nat).map bv).toArray 5)).push (.cells (BT.map bv).toArray 5))
 rw[←Yv]
 refine Iz Tryz.underlying34 Tryz.underlying5 x2 ?_
 intro h3 wP x3 S5
 have B3:Zf (h.size+1) h1 h3:=(Zf.push (by omega) _).trans (S5.Z7 (by simp;omega) (fun b e=>by have:=Option.some.inj e;omega))
 have x13:h3[h.size]? = some (.cells (([255]:List Nat).map bv).toArray 5):=B3.get (by omega) x1
 have Bh:Zf h.size h h3:=b1.trans (B3.mono (by omega))
 simp -implicitDefEqProofs only[go_sem,↓reduceIte]
 refine (LN T h3 _ _ _ [255] BT [] 32 (Gz x13 HE 1) (Gz x3 Io 6) (ZZ.nil 0 5 _).bs (tk.X9 Bh)).use ?_
 rintro _ h4 ⟨⟨w4,rfl,hc4,o4,k4⟩,b4⟩
 have B4:=Bh.trans (b4.mono Bh.size)
 have e0:XF ([255]:List Nat).length BT.length ([]:List Nat).length 32=0:=rfl
 rw[e0,if_pos rfl,show (32:Int).toNat=32 from rfl]at o4
 rw[e0]
 have o5:Bs h4 w4 VN:=by unfold VN;exact o4
 clear o4
 generalize VN=KS at *
 simp -implicitDefEqProofs only[go_sem,↓reduceIte,B4]
 exact⟨hc4,o5⟩
theorem yK {x:Option Nat} {h h':Hp} {v:Value} {l:List Nat} (s:Bs h v l) (hc:Td v) (a:Vy x h h') (hx:∀b,ZL v=some b→x≠some b):Bs h' v l:=by
 obtain⟨⟨p,cap,rfl,hl,YL⟩,hb⟩:=s
 refine⟨⟨p,cap,rfl,hl,fun Yq=>?_⟩,hb⟩
 obtain⟨b,o,rfl,RQ⟩:=YL Yq
 refine⟨b,o,rfl,fun i hi=>?_⟩
 have h1:=RQ i hi
 have hc':l.length≤cap:=hc
 have MF:0<l.length:=by
  cases l with
  | nil=>exact (Yq rfl).elim
  | cons x l=>simp
 have jz:h'[b]? = h[b]?:=a.block b (QT h1) (hx b (by simp only[ZL];rw[if_neg (by omega)]))
 unfold V.hc at h1 ⊢
 rw[jz];exact h1
def WH (n c r u k cl s nm v:Int):Int:=if ¬(0≤n∧n≤1073741823) then 2 else if UP 32 c r u≠0 then UP 32 c r u else YJ k cl s nm v
def lT (c r u k cl s nm v:Int):List Nat:=EJ VN c.toNat r.toNat u.toNat++Zw [k.toNat,cl.toNat,s.toNat,nm.toNat,v.toNat]
def fh (n c r u k cl s nm v:Int):List Nat:=cl.toNat :: BJ (Uu cl.toNat) n.toNat (lT c r u k cl s nm v)
theorem EN {n:Int} (h0:0≤n) (h1:n≤1073741823) {m:Nat} (hm:m≤2000):Wp 32 n 0 Jr m=0:=by
 have e:Xa 32 n 0 Jr=0:=by
  unfold Xa
  rw[show early 0 Jr 8=false from rfl]
  simp;omega
 unfold Wp
 rw[e,if_neg (by simp),if_neg (by omega),if_neg (by omega)]
theorem Ie {k c s n v:Int} (h:YJ k c s n v=0):0≤c∧c≤7:=by
 unfold YJ at h
 repeat' split at h
 all_goals omega
theorem lU (kl:List Nat) (n:Nat) (plain:List Nat):(BJ kl n plain).length≤plain.length+20:=by
 unfold BJ IU
 have l1:=Wm kl 1 (XW (YK n)) plain
 have l2:(Qm kl (XW (YK n)) (YK n) (Pd kl 1 (XW (YK n)) plain)).length≤16:=Mq _ _
 rw[List.length_append,List.length_append,l1]
 have l3:(YK n).length=4:=rfl
 omega
def ZdP (B:Nat) (h':Hp) (v':Value) (n c r u k cl s nm v:Int):Prop:=∃w,v'=.tuple [w,.int .i64 (WH n c r u k cl s nm v)].toArray∧ZZ B 5 h' w (if WH n c r u k cl s nm v=0 then fh n c r u k cl s nm v else [])
theorem rI (T:World) (h:Hp) (n c r u k cl s nm v:Int) (tk:Tk h) :
  Zc Tryz.prog T 52 #[.int .i64 n,.agg (VD c r u).toArray,.agg (Qb k cl s nm v).toArray] h fun v' h'=>ZdP h.size h' v' n c r u k cl s nm v∧Zf h.size h h':=by
 refine Zc.Zh (args:=[_,_,_]) Tryz.func52 rfl rfl rfl rfl ?_
 unfold ZdP VD Qb
 by_cases q:0≤n∧n≤1073741823
 case neg=>
  have ee:WH n c r u k cl s nm v=2:=by unfold WH;rw[if_pos q]
  rw[ee]
  by_cases q0:n<0
  ·simp -implicitDefEqProofs only[go_sem,↓reduceIte,q0]
   exact⟨_,rfl,ZZ.nil _ 5 _⟩
  ·have q1:1073741824≤n:=by omega
   simp -implicitDefEqProofs only[go_sem,↓reduceIte,q0,q1]
   exact⟨_,rfl,ZZ.nil _ 5 _⟩
 obtain⟨q0,q1⟩:=q
 have qn0:¬n<0:=by omega
 have qn1:¬(1073741824:Int)≤n:=by omega
 obtain⟨h0,XM⟩:=Zy ((h.push (.cells [.int .i64 c,.int .i64 r,.int .i64 u].toArray 79)).push (.cells [.int .i64 k,.int .i64 cl,.int .i64 s,.int .i64 nm,.int .i64 v].toArray 49):Hp)
 have b0:Zf h.size h h0:=by rw[XM];exact ((Zf.refl _ _).add _).add _
 have s0:h0.size=h.size+2:=by rw[XM];simp
 have t0:h0[h.size]? = some (.cells [.int .i64 c,.int .i64 r,.int .i64 u].toArray 79):=by
  rw[XM,Array.getElem?_push,if_neg (by simp),Zb]
 have c0:h0[h.size+1]? = some (.cells [.int .i64 k,.int .i64 cl,.int .i64 s,.int .i64 nm,.int .i64 v].toArray 49):=by
  rw[XM,Array.getElem?_push,if_pos (by simp)]
 have e0:(h.push (.cells #[Value.int .i64 c,.int .i64 r,.int .i64 u] 79)).push (.cells #[Value.int .i64 k,.int .i64 cl,.int .i64 s,.int .i64 nm,.int .i64 v] 49)=h0:=XM.symm
 have oe:(h.push (.cells [Value.int .i64 c,.int .i64 r,.int .i64 u].toArray 79)).push (.cells [Value.int .i64 k,.int .i64 cl,.int .i64 s,.int .i64 nm,.int .i64 v].toArray 49)=h0:=XM.symm
 simp -implicitDefEqProofs only[go_sem,↓reduceIte,qn0,qn1]
 first|rw[e0]|rw[oe]
 clear e0 oe XM
 have r0:rd h0 ⟨h.size,0,none⟩ 3=some [.int .i64 c,.int .i64 r,.int .i64 u]:=Zo t0 rfl
 have k0:h.size<h0.size:=by omega
 refine VS.w (h0.size) [] (.q 1 (.s 0 (.s 2 (.q 3 (.q 4 (.q 5 (.q 6 (.q 7 .nil)))))))) mixed (by kernel_rfl) ?_
 simp -implicitDefEqProofs only[go_sem,↓reduceIte,r0,k0]
 refine (OB T h0 (tk.X9 b0)).use ?_
 rintro wi h1 ⟨⟨ci,si⟩,b1⟩
 have B1:=b0.trans (b1.mono b0.size)
 have s1:=b1.size
 simp -implicitDefEqProofs only[go_sem,↓reduceIte,b1]
 have ht:Zc Tryz.prog T 72 #[wi,.agg #[.int .i64 c,.int .i64 r,.int .i64 u]] h1 fun v' h'=>BQ h1.size h' v' VN c r u∧Zf h1.size h1 h':=lK T h1 wi VN c r u si (tk.X9 B1)
 refine ht.use ?_
 rintro _ h2 ⟨⟨w2,rfl,o2⟩,b2⟩
 have B2:=B1.trans (b2.mono B1.size)
 have s2:=b2.size
 have b02:Zf h0.size h0 h2:=b1.trans (b2.mono s1)
 rw[Nv]at o2
 rw[Nv]
 by_cases g:UP 32 c r u=0
 case neg=>
  have ee:WH n c r u k cl s nm v=UP 32 c r u:=by unfold WH;rw[if_neg (fun hn=>hn ⟨q0,q1⟩),if_pos g]
  rw[ee,if_neg g]
  obtain⟨E,hE⟩:=Zy (UP 32 c r u)
  rw[←hE]at g ⊢
  simp -implicitDefEqProofs only[go_sem,↓reduceIte,b02,g]
  exact⟨⟨_,rfl,ZZ.nil _ 5 _⟩,B2⟩
 rw[g,if_pos rfl]at o2
 rw[g]
 have ee:WH n c r u k cl s nm v=YJ k cl s nm v:=by unfold WH;rw[if_neg (fun hn=>hn ⟨q0,q1⟩),if_neg (fun hn=>hn g)]
 rw[ee]
 have c2:=b02.get (by omega) c0
 have r2:rd h2 ⟨h.size+1,0,none⟩ 5=some [.int .i64 k,.int .i64 cl,.int .i64 s,.int .i64 nm,.int .i64 v]:=Zo c2 rfl
 simp -implicitDefEqProofs only[go_sem,↓reduceIte,b02,r2]
 have he:Zc Tryz.prog T 49 #[.agg #[.int .i64 k,.int .i64 cl,.int .i64 s,.int .i64 nm,.int .i64 v]] h2 fun v' h'=>C1 h' v' k cl s nm v∧Zf h2.size h2 h':=IF T h2 k cl s nm v
 refine he.use ?_
 rintro _ h3 ⟨⟨w3,rfl,o3⟩,b3⟩
 have B3:=B2.trans (b3.mono B2.size)
 have s3:=b3.size
 by_cases e:YJ k cl s nm v=0
 case neg=>
  rw[if_neg e]
  obtain⟨E,hE⟩:=Zy (YJ k cl s nm v)
  rw[←hE]at e ⊢
  simp -implicitDefEqProofs only[go_sem,↓reduceIte,e]
  exact⟨⟨_,rfl,ZZ.nil _ 5 _⟩,B3⟩
 rw[e,if_pos rfl]at o3
 rw[e]
 obtain⟨cl0,cl7⟩:=Ie e
 have ke:Jt cl=0:=by unfold Jt;rw[if_neg (by omega)]
 have c3:=b3.get (by omega) c2
 have rc3:V.hc h3 ⟨h.size+1,1,none⟩=some (.int .i64 cl):=by rw[Zg c3];rfl
 simp -implicitDefEqProofs only[go_sem,↓reduceIte,rc3]
 refine (LO T h3 cl (tk.X9 B3)).use ?_
 rintro _ h4 ⟨⟨w4,rfl,k4,o4,f4⟩,b4⟩
 rw[ke,if_pos rfl]at o4
 rw[ke]
 obtain⟨p4,c4,rfl,hc4⟩:=o4.open
 have B4:=B3.trans (b4.mono B3.size)
 have s4:=b4.size
 have o24:=(o2.Z7 b3 (Nat.le_refl _)).Z7 b4 (Nat.le_refl _)
 have o34:=o3.Z7 b4
 have l2:(EJ VN c.toNat r.toNat u.toNat).length=22:=Nt _ _ _ _
 have l3:(Zw [k.toNat,cl.toNat,s.toNat,nm.toNat,v.toNat]).length=20:=by rw[Zz];rfl
 have ep:lT c r u k cl s nm v=EJ VN c.toNat r.toNat u.toNat++Zw [k.toNat,cl.toNat,s.toNat,nm.toNat,v.toNat]:=rfl
 have ZlV:=o2.own.lt
 generalize EJ VN c.toNat r.toNat u.toNat=PR at *
 generalize Zw [k.toNat,cl.toNat,s.toNat,nm.toNat,v.toNat]=CB at *
 simp -implicitDefEqProofs only[go_sem,↓reduceIte]
 refine JN (E:=5) (B:=h1.size) Yt Tryz.underlying34 Wh Vb Va o24 (by omega) o34 (by omega) ?_
 intro w5 h5 o5 b5 bt5 _
 have s5:=b5.size
 have B5:Zf h.size h h5:=B4.trans (b5.mono (by omega))
 have o4':Bs h5 (.slice p4 (Uu cl.toNat).length c4) (Uu cl.toNat):=yK o4 k4 bt5 (fun b hb e=>by
  have q1:=f4 b hb
  have q2:=ZlV b e
  omega)
 have lk:=Nu cl.toNat
 have eS:fh n c r u k cl s nm v=cl.toNat :: BJ (Uu cl.toNat) n.toNat (PR++CB):=by unfold fh;rw[ep]
 have se:Wp (Uu cl.toNat).length n 0 Jr (PR++CB).length=0:=by rw[lk];exact EN q0 q1 (by rw[List.length_append];omega)
 simp -implicitDefEqProofs only[go_sem,↓reduceIte]
 have ZlW:Zc Tryz.prog T 73 #[.agg #[.slice p4 (Uu cl.toNat).length c4,.int .i64 n,.int .i64 0,.bool false,.bool false,.bool false,.bool false,.bool false,.bool false,.bool false,.bool false],w5] h5 fun v' h'=>Gt h5.size h' v' (Uu cl.toNat) n 0 Jr (PR++CB)∧Zf h5.size h5 h':=EA T h5 _ w5 (Uu cl.toNat) (PR++CB) n 0 Jr rfl o4' o5.bs k4
 refine ZlW.use ?_
 rintro _ h6 ⟨⟨cw,w6,rfl,⟨w7,rfl,o7⟩,o6⟩,b6⟩
 rw[se,if_pos rfl]at o6
 rw[se,if_pos rfl]at o7
 rw[se]
 have s6:=b6.size
 have B6:Zf h.size h h6:=B5.trans (b6.mono (by omega))
 have c6:=b6.get (by omega) ((b5.mono (B':=h0.size) (by omega)).get (by omega) (b4.get (by omega) c3))
 have rc6:V.hc h6 ⟨h.size+1,1,none⟩=some (.int .i64 cl):=by rw[Zg c6];rfl
 obtain⟨p7,c7,rfl,_⟩:=o7.open
 obtain⟨x,rfl⟩:∃x:Nat,cl=x:=⟨cl.toNat,by omega⟩
 have ec:(x:Int)%256=(x:Int):=by omega
 have ZlX:¬h.size+1=h6.size:=by omega
 have eN:Jr.map Value.bool=[.bool false,.bool false,.bool false,.bool false,.bool false,.bool false,.bool false,.bool false]:=rfl
 have ez:((0:Int)=0)=True:=eq_self 0
 simp only[ez,if_true]
 unfold ZN
 rw[eN]
 rw[Int.toNat_natCast]at eS o6
 have Qg:∀y∈[x],y<256:=by intro y hy;rw[List.mem_singleton.1 hy];omega
 rw[show ((x:Nat):Int).toNat=x from Int.toNat_natCast x]at *
 simp -implicitDefEqProofs only[go_sem,↓reduceIte,rc6,ZlX,ec]
 obtain⟨h7,rD⟩:=Zy (h6.push (.cells [.slice p7 (Uu x).length c7,.int .i64 (n+1),.int .i64 0,.bool false,.bool false,.bool false,.bool false,.bool false,.bool false,.bool false,.bool false].toArray 75):Hp)
 have e7:h6.push (.cells #[Value.slice p7 (Uu x).length c7,.int .i64 (n+1),.int .i64 0,.bool false,.bool false,.bool false,.bool false,.bool false,.bool false,.bool false,.bool false] 75)=h7:=rD.symm
 rw[e7]
 have b7:Zf h6.size h6 h7:=by rw[rD];exact Zf.push (Nat.le_refl _) _
 have s7:h7.size=h6.size+1:=by rw[rD];simp
 have q7:h6.size+1=h7.size:=s7.symm
 clear e7 rD
 have B7:=B6.trans (b7.mono (by omega))
 have o1:ZZ h7.size 5 (h7.push (.cells (([x]:List Nat).map bv).toArray 5)) (.slice (some ⟨h7.size,0,none⟩) 1 1) [x]:=ZZ.made Qg (Nat.le_refl _)
 have bp:Zf h7.size h7 (h7.push (.cells (([x]:List Nat).map bv).toArray 5)):=Zf.push (Nat.le_refl _) _
 have lr:(BJ (Uu x) n.toNat (PR++CB)).length≤1000000:=Nat.le_trans (lU _ _ _) (by rw[List.length_append];omega)
 try rw[q7]
 refine Zv (E:=5) (B:=h7.size) Yt Tryz.underlying34 Wh Vb Va o1 (by simp) ((o6.bs.Z7 b7).Z7 bp) (by simp;omega) ?_
 intro w8 h8 o8 b8 _
 simp -implicitDefEqProofs only[go_sem,↓reduceIte]
 rw[eS]
 exact⟨⟨_,rfl,o8.mono B7.size⟩,B7.trans (((bp.trans b8)).mono (by omega))⟩
end Go.Proofs.YtpomedigibbeeaaGreatDoor
