/- The outcome of a script, and logs compared: what the small functions compute; no condition but those in the statements. -/
import Derived.Test.YtpomedigibbeeaaGreatDoorTpb
import Derived.Test.YtpomedigibbeeaaGreatDoorMop
import Derived.Test.YtpomedigibbeeaaGreatDoorTab
import Derived.LaidSub
namespace Go.Proofs.YtpomedigibbeeaaGreatDoor
open Go Go.V
set_option linter.unusedSimpArgs false
set_option linter.unusedVariables false
set_option maxRecDepth 100000
def bN (l:List Raw):Wd:=WK (l.map Raw.ac)
theorem Dz {h:Hp} {v:Value} {l:List (Raw × Value)} (s:Ts X3 5 h v l):∃p c,v=.slice p l.length c:=by
 obtain⟨p,c,h,_⟩:=Hl s;exact⟨p,c,h⟩
theorem bO {α β:Type} {R:α→β→Prop} {l:List α} {k:List β} (h:DN R l k):l.length=k.length:=by
 induction h with
 | nil=>rfl
 | cons _ _ ih=>rw[List.length_cons,List.length_cons,ih]
set_option maxHeartbeats 4000000 in
theorem zZ (T:World) (h:Hp) (v:Value) (xs:List (Raw × Value)) (hv:Ts X3 5 h v xs) (hx:∀x∈xs,VT Rt h x.2 x.1.data) (tb:DT Rt h) (BH:xs.length≤4611686018427387904) (hz:WR (Xd xs)=0) :
  Zc Tryz.prog T 12 #[v] h fun v' h'=>(∃lv tv vs,v'=.tuple #[.agg (AF (bN (Xd xs)) lv tv).toArray,.bool true]∧Ug (h.size+1) h' (AF (bN (Xd xs)) lv tv) (bN (Xd xs)) lv tv vs)∧Zf h.size h h':=by
 obtain⟨p,c,hU⟩:=Dz hv
 subst hU
 refine Zc.Zh (args:=[_]) Tryz.func12 rfl rfl rfl rfl ?_
 obtain⟨h0,XM⟩:=Zy (h.push (.cells ij.toArray 33):Hp)
 have e0:=XM.symm
 have b0:Zf h.size h h0:=by rw[XM];exact (Zf.refl _ _).add _
 have z0:h0[h.size]? = some (.cells ij.toArray 33):=by rw[XM];exact Zb
 have k0:Kp Qe Rt h Rt h0:=ZB (OI h) b0
 unfold ij at e0
 simp -implicitDefEqProofs only[go_sem,↓reduceIte,e0]
 refine (tQ T h0 _ xs (hv.Z7 b0) (fun x vy=>(hx x vy).Zd k0) (tb.Zd k0) BH).use ?_
 rintro v1 h1 ⟨b1,r1⟩
 have B1:=b0.trans (b1.mono b0.size)
 unfold Hk at r1
 rw[if_pos hz]at r1
 obtain⟨R,lv,tv,vs,rfl,rf⟩:=r1
 have ra:=rf.at
 obtain⟨pl,cl,hl,_⟩:=ra.zQ.open (n:=1) (enc:=fun v=>[v]) (fun _=>rfl) (show (1:Nat)≠0 by decide)
 have vl:vs.length=5:=bO ra.each
 subst hl
 rw[vl]at *
 have rc:=ra.cells
 subst rc
 obtain⟨R,hR⟩:=Zy (AF (bN (Xd xs)) (.slice pl 5 cl) tv)
 have hR':AF (WK (List.map Raw.ac (Xd xs))) (.slice pl 5 cl) tv=R:=by rw[hR];rfl
 rw[hR']
 rw[hR']at ra rf
 obtain⟨pt,ct,ht,_⟩:=ra.told.open (n:=5) (enc:=LZ) (fun _=>rfl) (show (5:Nat)≠0 by decide)
 have oN:R.length=13:=by rw[hR];rfl
 have ib:R.all Z6=true:=by rw[hR,ht];rfl
 have hRp:Ym [Value.int .i64 0,.bool false,.bool false,.bool false,.bool false,.bool false,.slice none 0 0,.int .i64 0,.int .i64 0,.int .i64 0,.int .i64 0,.int .i64 0,.slice none 0 0] 0 R=R:=ZM (by rw[oN];rfl)
 have tT:R.length≤13:=by omega
 have hR6:nth R 6=some (.slice pl 5 cl):=by rw[hR];rfl
 obtain⟨h2,UY⟩:=Zy (h1.push (.cells R.toArray 33):Hp)
 have e2:=UY.symm
 have b2:Zf h1.size h1 h2:=by rw[UY];exact (Zf.refl _ _).add _
 have y2:h2[h1.size]? = some (.cells R.toArray 33):=by rw[UY];exact Zb
 have z2:=b2.get (Za (b1.get (Za z0) z0)) (b1.get (Za z0) z0)
 have lz:=Za z2
 have ly:=Za y2
 have r2:rd h2 ⟨h1.size,0,none⟩ 13=some R:=Zo y2 oN
 have r6:hc h2 ⟨h1.size,6,none⟩=some (.slice pl 5 cl):=by rw[Zg y2];exact hR6
 have w2:wr h2 ⟨h.size,0,none⟩ R=some (h2.setIfInBounds h.size (.cells R.toArray 33)):=by
  rw[ZP z2 0 _,if_pos ⟨by rw[oN];decide,ib⟩]
  have:Ym ij 0 R=R:=ZM (by rw[oN];rfl)
  rw[this]
 have z3:=Zt (o:=.cells R.toArray 33) z2
 have r3:=Zo z3 oN
 simp -implicitDefEqProofs only[go_sem,↓reduceIte,oN,ib,hRp,tT,e2]
 refine VS.z (h.size) [0,5,9] (.p 1 (.p 2 (.p 3 (.p 4 (.or 0 (.or 5 (.p 6 (.p 7 (.p 8 (.w 9 (.p 10 .nil))))) (.s 9 (.w 5 (.p 6 (.p 7 (.p 8 (.p 10 .nil))))))) (.s 5 (.p 6 (.p 7 (.p 8 (.w 0 (.w 9 (.p 10 .nil)))))))))))) mixed (by kernel_rfl) ?_
 have s0:h0.size=h.size+1:=by rw[XM];simp
 have Yq:¬h1.size=h.size:=by have:=b1.size;omega
 have e5:decide (((5:Nat):Int)=5)=true:=rfl
 have et:R.take 13=R:=List.take_of_length_le (by omega)
 have bs:Zf h.size h (h2.setIfInBounds h.size (.cells R.toArray 33)):=(B1.trans (b2.mono B1.size)).Zk (Nat.le_refl _) _
 have rf2:Ug (h.size+1) (h2.setIfInBounds h.size (.cells R.toArray 33)) R (WK (List.map Raw.ac (Xd xs))) (.slice pl 5 cl) tv vs:=by
  rw[s0]at rf
  exact (rf.Z7 b2).set (by omega) _
 have key:(∃lv tv vs,Value.tuple #[.agg R.toArray,.bool true]=.tuple #[.agg (AF (bN (Xd xs)) lv tv).toArray,.bool true]∧Ug (h.size+1) (h2.setIfInBounds h.size (.cells R.toArray 33)) (AF (bN (Xd xs)) lv tv) (bN (Xd xs)) lv tv vs)∧Zf h.size h (h2.setIfInBounds h.size (.cells R.toArray 33)):=
  ⟨⟨_,tv,vs,by rw[←hR],by rw[←hR];exact rf2⟩,bs⟩
 simp -implicitDefEqProofs only[go_sem,↓reduceIte,r2,r6,w2,oN,ib,tT,ly,lz,Yq,hR6,e5,et]
 exact⟨⟨key,key⟩,key⟩
theorem nG {α:Type} [DecidableEq α]:∀{l C:List α},l.Nodup→(∀x∈l,x∈C)→l.length≤C.length:=by
 intro l
 induction l with
 | nil=>intro C _ _;simp
 | cons x l ih=>
  intro C hn h
  rw[List.nodup_cons]at hn
  have h1:=ih (C:=C.erase x) hn.2 (fun y hy=>(List.mem_erase_of_ne (fun e=>hn.1 (by rw[←e];exact hy))).2 (h y (by simp[hy])))
  have h2:x∈C:=h x (by simp)
  have h3:=List.length_erase_of_mem h2
  have h4:0<C.length:=List.length_pos_of_mem h2
  simp only[List.length_cons]
  omega
def Maj (Q:List Nat):Prop:=Q.Nodup∧(∀i∈Q,i<5)∧3≤Q.length
structure Gh where
 V:Nat→XL→Int→Cm→Prop
 P:XL→Int→Cm→Prop
def ZeV (g:Gh) (M:Nat→XL) (b:XL) (s:Int):Prop:=∃Q,Maj Q∧(∀i∈Q,¬below (M i) b)∧∀i∈Q,∀b' y,below b' b→¬g.V i b' s y
def AK (g:Gh) (s:Int) (x:Cm):Prop:=∃Q b,Maj Q∧∀i∈Q,g.V i b s x
structure PF (g:Gh) (M:Nat→XL) (i:Nat) (b:XL) (vs:List Vt):Prop where
 lt:i<5
 top:¬below (M i) b
 has:∀v∈vs,g.V i v.b v.slot v.cm∧¬below b v.b
 all:∀b' s x,below b' b→g.V i b' s x→∃v∈vs,v.slot=s∧¬below v.b b'
section
variable {i:Nat} {g g':Gh} {M M':Nat→XL}
end
def Whole (d:List Nat) (a:WT):Prop:=Rec d Qp 0 a d.length
def ZnX:DS→WT
 | .Ig a _ _ _=>a
 | .Kx a _ _=>a
 | .own a _ _=>a
structure TR (n:Nd):Prop where
 idle:n.up=true→n.ZQ=none→Whole n.data n.own∧n.Xq=n.data.length
 busy:n.up=true→∀p,n.ZQ=some p→∃d f,n.data=d++Y0 f∧n.Xq=d.length∧Whole d n.own∧Je n.own f=some (ZnX p)
 down:n.up=false→n.ZQ=none∧n.Xq=n.data.length∧∃a j,Rec n.data Qp 0 a j
 len:n.data.length≤100000
def vC (n:Nd):WT:=if n.up=true then n.own else (TU n.data).1
structure AR (g:Gh) (i:Nat) (a:WT):Prop where
 has:∀v∈a.l,g.V i v.b v.slot v.cm
 all:∀b s x,g.V i b s x→∃v∈a.l,v.slot=s∧¬below v.b b
structure RR (g:Gh) (M:Nat→XL) (i:Nat) (n:Nd) (r:Qd):Prop where
 node:r.b.n=i
 may:ZS r.b
 prom:∀j vs,Y9 r.prom j=some vs→PF g M j.toNat r.b vs
 pn:r.begun=false→∀s x,¬g.P r.b s x
 pr:∀s x,g.P r.b s x→Y9 r.prop s=some x
 safe:∀s x,Y9 r.prop s=some x→g.P r.b s x
 free:r.begun=true→∀s:Int,(n.log.length:Int)≤s→Y9 r.prop s=none→Y9 n.known s=none→ZeV g M r.b s
 Jk:∀s K j,Y9 r.Jk s=some K→Y9 K j=some ()→∃x,g.V j.toNat r.b s x
def PR (g:Gh) (n:Nd):DS→Prop
 | .Ig a to b vs=>a=⟨b,n.own.l⟩∧vs=n.own.l∧Yu n.own.p n.own.l b=0
 | .Kx a to v=>a=⟨v.b,Qv n.own.l v⟩∧YT n.own.p n.own.l v=0∧g.P v.b v.slot v.cm
 | .own a vs cur=>∃b,a=⟨b,n.own.l⟩∧vs=n.own.l∧Yu n.own.p n.own.l b=0∧(cur=true→∃r,n.Zi=some r∧r.b=b)
structure LR (S:Cm→Prop) (g:Gh) (M:Nat→XL) (l:YY):Prop where
 Ig:l.kind=1→PF g M l.Jj.toNat l.b l.vs
 ask:l.kind=2→g.P l.v.b l.v.slot l.v.cm
 Kx:l.kind=3→g.V l.Jj.toNat l.v.b l.v.slot l.v.cm
 fwd:l.kind=4→S l.v.cm
 cho:l.kind=6→AK g l.v.slot l.v.cm
structure NR (S:Cm→Prop) (g:Gh) (M:Nat→XL) (i:Nat) (n:Nd):Prop where
 acc:AR g i (vC n)
 m:M i=(vC n).p
 tape:TR n
 ZQ:∀p,n.ZQ=some p→PR g n p
 known:∀s x,Y9 n.known s=some x→AK g s x
 log:∀(k:Nat) x,n.log[k]? = some x→AK g (k:Int) x
 que:∀x∈n.queue,S x
 Zi:∀r,n.Zi=some r→RR g M i n r
section
variable {i j:Nat} {g g':Gh} {M M':Nat→XL} {S:Cm→Prop}
end
structure HR (S:Cm→Prop) (g:Gh) (M:Nat→XL) (i:Nat) (o:Out):Prop where
 n:NR S g M i o.n
 up:o.n.up=true
 ls:∀l∈o.ls,LR S g M l
section
variable {S:Cm→Prop} {g:Gh} {M:Nat→XL} {i:Nat} {n:Nd}
end
section
variable {S:Cm→Prop} {g:Gh} {M:Nat→XL} {i:Nat} {n:Nd}
end
section
variable {S:Cm→Prop} {g:Gh} {M:Nat→XL} {i:Nat} {n:Nd}
end
section
variable {S:Cm→Prop} {g:Gh} {M:Nat→XL} {w:Wd}
end
theorem gv (g:Gr):(Vu g).length≤63:=by
 unfold Vu zX
 split
 ·unfold fh
  have:=lU (Uu (DX g).c.toNat) (JG g.a 1000).toNat (lT (gk g) (gm g) 60 (DX g).k (DX g).c (DX g).s (DX g).n (DX g).v)
  have e:(lT (gk g) (gm g) 60 (DX g).k (DX g).c (DX g).s (DX g).n (DX g).v).length=42:=by
   unfold lT
   rw[List.length_append,Nt,Zz];rfl
  rw[List.length_cons];omega
 ·simp
theorem gx (g:Gr):(T2 g).length≤63:=by
 have:=gv g
 unfold T2
 split
 ·rw[List.length_take];omega
 ·exact this
theorem nH (g:Gr) (cr:Bool):(UW g cr).err=0:=by
 have h1:=J8 g.a (m:=5) (by omega)
 have h2:=J8 g.c (m:=20) (by omega)
 have h3:=J8 g.c (m:=90) (by omega)
 have h4:=gx g
 have mk:∀(k n a b:Int) (len:Nat),(1≤k∧k≤9)→(YG k∧(0≤n∧n≤4)∨¬YG k∧n=0)→(Jd k∧(0≤a∧a≤1048576)∨¬Jd k∧a=0)→(k=8∧(0≤b∧b≤100000)∨k≠8∧b=0)→len≤2000→(k=1∨len=0)→Ql k n a b len=0:=fun k n a b len q1 q2 q3 q4 q5 q6=>by
  unfold YG at q2
  unfold Jd at q3
  unfold Ql YG Jd
  rw[if_neg (by omega),if_neg (by omega),if_neg (by omega),if_neg (by omega)]
 unfold UW
 repeat' split
 all_goals
  unfold Raw.err
  refine mk _ _ _ _ _ ?_ ?_ ?_ ?_ ?_ ?_
 all_goals simp[YG,Jd]
 all_goals omega
theorem nI (gs:List Gr) (cr:Bool):∀j,∀x∈(T3 gs cr j).2,x.err=0:=by
 have key:∀(l:List Gr) (st:Nat × List Raw),(∀x∈st.2,x.err=0)→∀x∈(l.foldl (Wt cr) st).2,x.err=0:=by
  intro l
  induction l with
  | nil=>intro st h;exact h
  | cons g l ih=>
   intro st h
   refine ih _ (fun x hx=>?_)
   unfold Wt at hx
   rcases List.mem_append.1 hx with hx|hx
   ·exact h x hx
   ·rw[List.mem_singleton.1 hx]
    unfold Ti
    split
    ·rfl
    ·exact nH g cr
 intro j
 exact key _ _ (fun x hx=>by cases hx)
theorem tU (gs:List Gr) (Xp:Nat) (cr:Bool):∀x∈vB gs Xp cr,x.err=0:=nI gs cr Xp
theorem tV (gs:List Gr) (Xp:Nat) (cr:Bool):(vB gs Xp cr).length≤Xp:=by
 unfold vB
 by_cases h:Xp≤gs.length
 ·rw[(PV gs cr Xp h).1];exact Nat.le_refl _
 ·rw[Dy gs cr Xp (by omega),(PV gs cr gs.length (Nat.le_refl _)).1];omega
theorem DA {l:List Raw} (h:∀x∈l,x.err=0) (hl:l.length≤100000):WR l=0:=by
 unfold WR
 rw[if_neg (by omega)]
 exact TZ h
def Xv (h0:Hp) (o:Ow) (g:Hp) (v:Value) (l:List Raw):Prop:=
 Kp (fun t=>t=.log 100) Rt h0 o g∧∃ys,Xd ys=l∧Ys o (.log 100) 36 5 g v ys.length (Zu X3 ys)∧∀y∈ys,VT o g y.2 y.1.data
theorem Xv.nil (h0:Hp):Xv h0 Rt h0 (.slice none 0 0) []:=⟨Kp.refl (OI h0) _,[],rfl,Ys.nil _ _ _ _ _,fun y hy=>by cases hy⟩
theorem Xv.isSlice {h0:Hp} {o:Ow} {g:Hp} {v:Value} {l:List Raw} (A:Xv h0 o g v l):∃p c,v=.slice p l.length c∧l.length≤c:=by
 obtain⟨_,ys,hr,O,_⟩:=A
 obtain⟨p,c,h,hc⟩:=O.isSlice
 have:ys.length=l.length:=by rw[←hr];unfold Xd;simp
 rw[this]at h hc
 exact⟨p,c,h,hc⟩
theorem Xv.still {h0:Hp} {o:Ow} {g g':Hp} {v:Value} {l:List Raw} (A:Xv h0 o g v l) (b:Zf g.size g g'):Xv h0 o g' v l:=by
 obtain⟨K,ys,hr,O,I⟩:=A
 have k:Kp Qe o g o g':=ZB K.ZU b
 exact⟨K.trans (ZC k),ys,hr,O.Zd k (fun q=>q),fun y hy=>(I y hy).Zd k⟩
theorem Xv.done {h0:Hp} {o:Ow} {g:Hp} {v:Value} {l:List Raw} (A:Xv h0 o g v l):Zf h0.size h0 g∧Td v∧∃ys,Xd ys=l∧Ts X3 5 g v ys∧∀y∈ys,VT Rt g y.2 y.1.data:=by
 obtain⟨p,c,hv,hc⟩:=A.isSlice
 obtain⟨K,ys,hr,O,I⟩:=A
 exact⟨T1 K,by rw[hv];exact hc,ys,hr,⟨O.sl⟩,fun y hy=>⟨⟨(I y hy).1.sl,(I y hy).1.fits,fun b hb=>⟨((I y hy).1.free b hb).1,rfl⟩⟩,(I y hy).2⟩⟩
theorem nJ:∀(xs:List (Raw × Value)),(∀x∈xs,∃p n c,x.2=.slice p n c)→(Zu X3 xs).all Z6=true:=by
 intro xs
 induction xs with
 | nil=>intro _;rfl
 | cons x xs ih=>
  intro h
  obtain⟨p,n,c,e⟩:=h x (by simp)
  have h2:=ih (fun y hy=>h y (by simp[hy]))
  rw[show Zu X3 (x :: xs)=X3 x++Zu X3 xs from rfl,List.all_append,h2]
  unfold X3
  rw[e]
  rfl
section
variable {T:World} {K:Value→Hp→Prop} {ty:TypeId} {cb:Array Bool}
theorem Xv.Te {h0:Hp} {o:Ow} {g:Hp} {v:Value} {l:List Raw} (A:Xv h0 o g v l) (hl:l.length≤1000000000) (X:Raw) (q:Option Addr) (cq:Nat) (im:VT o g (.slice q X.data.length cq) X.data)
  (H:∀v' o' g',Xv h0 o' g' v' (l++[X])→Kp WO o g o' g'→K v' g'):Tj Tryz.prog T .append #[23,23] ty cb [v,.slice (some ⟨g.size,0,none⟩) 1 1] K (g.push (.cells #[.int .i64 X.k,.int .i64 X.n,.int .i64 X.a,.int .i64 X.b,.slice q X.data.length cq] 36)):=by
 obtain⟨K1,ys,hr,O,I⟩:=A
 have yl:ys.length=l.length:=by rw[←hr];unfold Xd;simp
 obtain⟨g6,PQ⟩:=Zy (g.push (.cells (WQ X.k X.n X.a X.b (.slice q X.data.length cq)).toArray 36):Hp)
 have k6:Kp Qe o g o g6:=by rw[PQ];exact ZW K1.ZU _
 have x6:g6[g.size]? = some (.cells (WQ X.k X.n X.a X.b (.slice q X.data.length cq)).toArray 36):=by rw[PQ];exact Zb
 have src:Sl 5 g6 (.slice (some ⟨g.size,0,none⟩) 1 1) 1 (WQ X.k X.n X.a X.b (.slice q X.data.length cq)):=⟨_,1,rfl,rfl,fun _=>⟨g.size,0,rfl,fun i hi=>by
  rw[Zg x6,Yi,Nat.zero_add];exact List.getElem?_eq_getElem hi⟩⟩
 have O6:=O.Zd k6 (fun q=>q)
 show Tj Tryz.prog T .append #[23,23] ty cb [v,.slice (some ⟨g.size,0,none⟩) 1 1] K (g.push (.cells (WQ X.k X.n X.a X.b (.slice q X.data.length cq)).toArray 36))
 rw[←PQ]
 refine XQ (E:=36) (n:=5) (bytes:=56) (k:=1) jW Tryz.underlying23 xj xo rfl xm O6 k6.ZU src rfl (by omega) (by omega) ?_
 intro v7 o7 g7 O7 k7 _
 have k7:Kp (fun u=>u=.log 100) o g6 o7 g7:=k7
 refine H v7 o7 g7 ⟨(K1.trans (ZC k6)).trans k7,ys++[(X,.slice q X.data.length cq)],?_,?_,fun y hy=>?_⟩ (Ya ((ZC k6).trans k7))
 ·rw[←hr];unfold Xd;simp only[List.map_append,List.map_cons,List.map_nil]
 ·have e:Zu X3 (ys++[(X,Value.slice q X.data.length cq)])=Zu X3 ys++WQ X.k X.n X.a X.b (.slice q X.data.length cq):=by rw[Yc,QU];rfl
  rw[e,List.length_append]
  exact O7
 ·rcases List.mem_append.1 hy with hy|hy
  ·exact ((I y hy).Zd k6).Zd k7
  ·rw[List.mem_singleton.1 hy]
   exact (im.Zd k6).Zd k7
theorem Xv.add {h0:Hp} {o:Ow} {g:Hp} {v:Value} {l:List Raw} (A:Xv h0 o g v l) (hl:l.length≤1000000000) (k n a b:Int)
  (H:∀v' o' g',Xv h0 o' g' v' (l++[⟨k,n,a,b,[]⟩])→K v' g'):Tj Tryz.prog T .append #[23,23] ty cb [v,.slice (some ⟨g.size,0,none⟩) 1 1] K (g.push (.cells #[.int .i64 k,.int .i64 n,.int .i64 a,.int .i64 b,.slice none 0 0] 36)):=
 A.Te hl ⟨k,n,a,b,[]⟩ none 0 ⟨Im.nil _ 1 _ none,fun x hx=>by cases hx⟩ (fun v' o' g' A' _=>H v' o' g' A')
theorem Xv.Zaa {h0:Hp} {o:Ow} {g:Hp} {v:Value} {l:List Raw} (A:Xv h0 o g v l) (hl:l.length≤1000000000) {u:Value} {xs:List (Raw × Value)} (hu:Ts X3 5 g u xs) (hx:∀x∈xs,VT Rt h0 x.2 x.1.data) (BH:xs.length≤1000000000)
  (H:∀v' o' g',Xv h0 o' g' v' (l++Xd xs)→K v' g'):Tj Tryz.prog T .append #[23,23] ty cb [v,u] K g:=by
 obtain⟨K1,ys,hr,O,I⟩:=A
 have yl:ys.length=l.length:=by rw[←hr];unfold Xd;simp
 refine XQ (E:=36) (n:=5) (bytes:=56) (k:=xs.length) jW Tryz.underlying23 xj xo rfl xm O K1.ZU hu.sl ?_ (by omega) (by omega) ?_
 ·exact nJ xs (fun x vy=>by
   obtain⟨p,c,e⟩:=(hx x vy).1.isSlice
   exact⟨p,_,c,e⟩)
 intro v7 o7 g7 O7 k7 _
 have k7:Kp (fun u=>u=.log 100) o g o7 g7:=k7
 refine H v7 o7 g7 ⟨K1.trans k7,ys++xs,?_,?_,fun y hy=>?_⟩
 ·rw[←hr];unfold Xd;rw[List.map_append]
 ·rw[Yc,List.length_append];exact O7
 ·rcases List.mem_append.1 hy with hy|hy
  ·exact (I y hy).Zd k7
  ·exact (hx y hy).Zd (K1.trans k7)
end
def Qw (n m:Nd):Prop:=m.up=n.up∧m.me=n.me∧∃e,m.log=n.log++e
theorem Qw.refl (n:Nd):Qw n n:=⟨rfl,rfl,[],by simp⟩
theorem Qw.trans {a b c:Nd} (h1:Qw a b) (h2:Qw b c):Qw a c:=by
 obtain⟨u1,m1,e1,l1⟩:=h1
 obtain⟨u2,m2,e2,l2⟩:=h2
 exact⟨by rw[u2,u1],by rw[m2,m1],e1++e2,by rw[l2,l1,List.append_assoc]⟩
theorem Qw.same {n m:Nd} (h1:m.up=n.up) (h2:m.me=n.me) (h3:m.log=n.log):Qw n m:=⟨h1,h2,[],by rw[h3];simp⟩
theorem GQ:∀(k:Nat) (n:Nd),Qw n (YH k n).1:=by
 intro k
 induction k with
 | zero=>intro n;exact .refl n
 | succ k ih=>
  intro n
  unfold YH
  split
  ·exact .refl n
  ·rename_i x _
   exact Qw.trans (b:=UQ n x) ⟨rfl,rfl,[x],rfl⟩ (ih _)
theorem Km (n:Nd) (s:Int) (x:Cm):Qw n (Ui n s x).n:=by
 unfold Ui
 exact Qw.trans (b:=Ud n s x) (.same rfl rfl rfl) (GQ _ _)
theorem Rq (n:Nd) (l:YY):Qw n (notes n l):=by
 unfold notes
 split
 ·exact .same rfl rfl rfl
 ·exact .refl n
theorem nK (n:Nd) (x:Cm):Qw n (add n x):=by
 unfold add
 split
 ·exact .refl n
 ·exact .same rfl rfl rfl
theorem DB (n:Nd) (l:YY):Qw n (handle n l).n:=by
 unfold handle
 split
 ·unfold YO
  repeat' split
  all_goals exact .same rfl rfl rfl
 split
 ·unfold Yr
  split
  ·exact .refl n
  ·rename_i r _
   split
   ·split
    ·exact .same rfl rfl rfl
    ·exact .refl n
   ·split
    ·exact .refl n
    ·split
     ·exact Qw.trans (b:=NV n r l) (.same rfl rfl rfl) (Km _ _ _)
     ·exact .same rfl rfl rfl
 split
 ·unfold asked
  repeat' split
  all_goals exact .same rfl rfl rfl
 split
 ·exact nK n _
 split
 ·unfold UR
  split
  ·exact Rq n l
  ·exact Rq n l
 split
 ·exact Km n _ _
 ·exact Rq n l
theorem Kn:∀(k:List YY) (n:Nd),Qw n (drain n k).n:=by
 intro k
 induction k with
 | nil=>intro n;unfold drain;exact .same rfl rfl rfl
 | cons l k ih=>
  intro n
  unfold drain
  split
  ·exact .same rfl rfl rfl
  ·exact Qw.trans (b:={ n with inbox:=k }) (.same rfl rfl rfl) (Qw.trans (DB _ l) (ih _))
theorem gy (n:Nd) (r:Qd):Qw n (JU n r).n:=by
 unfold JU
 split
 ·split
  ·exact .refl n
  ·exact .same rfl rfl rfl
 ·split
  ·exact .refl n
  ·exact .same rfl rfl rfl
theorem AL (n:Nd):Qw n (still n):=by
 unfold still
 split
 ·split
  ·exact .same rfl rfl rfl
  ·exact .refl n
 ·exact .refl n
theorem AM (n:Nd):Qw n (Yl n).n:=by
 unfold Yl
 split
 ·exact gy _ _
 ·split
  ·exact .refl n
  ·exact .refl n
theorem gz (n:Nd):Qw n (Uf n).n:=by
 have h:=Qw.trans (AL n) (AM (still n))
 unfold Uf
 split
 ·exact h
 ·exact h.trans (.same rfl rfl rfl)
theorem DC (n:Nd) (p:DS):Qw n (finish (synced n) p).n:=by
 cases p<;>exact .same rfl rfl rfl
theorem Hn (n:Nd):Qw n (step n).n:=by
 unfold step
 split
 ·split
  ·exact DC n _
  ·split
   ·exact Kn _ n
   ·exact (Kn _ n).trans (gz _)
 ·exact .refl n
theorem gC (n:Nd):Qw n (lead n):=by
 unfold lead
 split
 ·exact .refl n
 ·exact .same rfl rfl rfl
def Ko (w:Wd):Prop:=∀i,(w.nodes i).up=false→(w.nodes i).log=[]
def Still (n m:Nd):Prop:=m.up=n.up∧m.me=n.me∧m.log=n.log
theorem Still.refl (n:Nd):Still n n:=⟨rfl,rfl,rfl⟩
theorem Still.trans {a b c:Nd} (h1:Still a b) (h2:Still b c):Still a c:=⟨by rw[h2.1,h1.1],by rw[h2.2.1,h1.2.1],by rw[h2.2.2,h1.2.2]⟩
theorem Rr (w:Wd) (l:YY) (i:Nat):Still (w.nodes i) ((QV w l).nodes i):=by
 unfold QV
 split
 ·unfold Wd.set
  by_cases e:i=l.to.toNat
  ·simp only[if_pos e];rw[e];exact⟨rfl,rfl,rfl⟩
  ·simp only[if_neg e];exact .refl _
 ·exact .refl _
theorem DD:∀(ls:List YY) (w:Wd) (i:Nat),Still (w.nodes i) ((ls.foldl QV w).nodes i):=by
 intro ls
 induction ls with
 | nil=>intro w i;exact .refl _
 | cons l ls ih=>intro w i;exact Still.trans (Rr w l i) (ih _ i)
theorem Qs (w:Wd) (k:Nat) (n:Nd) (i:Nat):((w.set k n).nodes i)=if i=k then n else w.nodes i:=rfl
theorem Kq (w:Wd) (k:Nat) (o:Out) (i:Nat):((w.out k o).nodes i)=if i=k then o.n else w.nodes i:=rfl
theorem GR (w:Wd) (k:Nat) (data:List Nat) (i:Nat):Still (w.nodes i) ((VQ w k data).nodes i):=by
 unfold VQ
 split
 ·split
  ·exact .refl _
  ·split
   ·exact .refl _
   ·rw[Qs]
    by_cases e:i=k
    ·rw[if_pos e,e]
     unfold PG add
     repeat' split
     all_goals exact⟨rfl,rfl,rfl⟩
    ·rw[if_neg e];exact .refl _
 ·exact .refl _
theorem AN (w:Wd) (k:Nat) (c s:Bool) (i:Nat):Still (w.nodes i) ((pick w k c s).nodes i):=by
 unfold pick
 split
 ·exact .refl _
 ·split
  ·split
   ·exact Rr _ _ _
   ·exact Rr { w with Zl:=_ } _ _
  ·split
   ·exact .refl _
   ·exact .refl _
theorem nL (w:Wd) (a:Ac) (i:Nat) :
  (a.kind=8∧a.node=i∧(act w a).nodes i=crashed i (w.nodes i) a.Zd) ∨
  (¬(1≤a.kind∧a.kind≤8)∧a.node=i∧(act w a).nodes i=started i (w.nodes i)) ∨
  (a.kind=3∧a.node=i∧(w.nodes i).up=true∧Qw (w.nodes i) ((act w a).nodes i)) ∨
  Still (w.nodes i) ((act w a).nodes i):=by
 unfold act
 split
 ·exact .inr (.inr (.inr (GR _ _ _ _)))
 split
 ·refine .inr (.inr (.inr ?_))
  rw[Qs]
  by_cases e:i=a.node
  ·rw[if_pos e,e]
   unfold lead
   split
   ·exact .refl _
   ·exact⟨rfl,rfl,rfl⟩
  ·rw[if_neg e];exact .refl _
 split
 ·rename_i k
  rw[Kq]
  by_cases e:i=a.node
  ·rw[if_pos e,e]
   cases hu:(w.nodes a.node).up with
   | true=>exact .inr (.inr (.inl ⟨k,rfl,rfl,Hn _⟩))
   | false=>
    have:(step (w.nodes a.node)).n=w.nodes a.node:=by unfold step;rw[if_neg (by rw[hu];decide)]
    rw[this];exact .inr (.inr (.inr (.refl _)))
  ·rw[if_neg e];exact .inr (.inr (.inr (.refl _)))
 split
 ·exact .inr (.inr (.inr (AN _ _ _ _ _)))
 split
 ·exact .inr (.inr (.inr (DD w.Zl { w with Zl:=[] } i)))
 split
 ·rename_i k
  rw[Qs]
  by_cases e:i=a.node
  ·rw[if_pos e,e];exact .inl ⟨k,rfl,rfl⟩
  ·rw[if_neg e];exact .inr (.inr (.inr (.refl _)))
 ·rename_i k1 k2 k3 k4 k5 k6
  rw[Qs]
  by_cases e:i=a.node
  ·rw[if_pos e,e];exact .inr (.inl ⟨by omega,rfl,rfl⟩)
  ·rw[if_neg e];exact .inr (.inr (.inr (.refl _)))
theorem NK (i:Nat) (n:Nd) (k:Int):(n.up=true∧(crashed i n k).up=false∧(crashed i n k).log=[])∨(n.up=false∧crashed i n k=n):=by
 unfold crashed
 cases hu:n.up with
 | true=>
  rw[if_pos rfl]
  refine .inl ⟨rfl,?_⟩
  split<;>exact⟨rfl,rfl⟩
 | false=>exact .inr ⟨rfl,by simp⟩
theorem DF (i:Nat) (n:Nd):(n.up=true∧started i n=n)∨(n.up=false∧(started i n).up=true∧(started i n).log=[]):=by
 unfold started
 cases hu:n.up with
 | true=>exact .inl ⟨rfl,by simp⟩
 | false=>exact .inr ⟨rfl,rfl,rfl⟩
theorem nM {w:Wd} (h:Ko w) (a:Ac):Ko (act w a):=fun i hi=>by
 rcases nL w a i with⟨_,_,e⟩|⟨_,_,e⟩|⟨_,_,q,e1,_⟩|⟨e1,_,e2⟩
 ·rw[e]at hi ⊢
  rcases NK i (w.nodes i) a.Zd with⟨_,_,q⟩|⟨q1,q⟩
  ·exact q
  ·rw[q];exact h i q1
 ·rw[e]at hi ⊢
  rcases DF i (w.nodes i) with⟨q1,q⟩|⟨_,q,_⟩
  ·rw[q]at hi;rw[q1]at hi;cases hi
  ·rw[q]at hi;cases hi
 ·rw[e1,q]at hi;cases hi
 ·rw[e2];exact h i (by rw[←e1];exact hi)
theorem DG:Ko QJ:=fun i hi=>by cases hi
theorem nN (l:List Ac):Ko (WK l):=by
 have:∀(l:List Ac) (w:Wd),Ko w→Ko (l.foldl act w):=by
  intro l
  induction l with
  | nil=>intro w h;exact h
  | cons a l ih=>intro w h;exact ih _ (nM h a)
 exact this l _ DG
def MP:DS→Prop
 | .Kx _ _ _=>False
 | _=>True
def Two (x y:Nat) (k:Int):Prop:=k=x∨k=y
structure MN (x y:Nat) (n:Nd):Prop where
 me:Two x y (n.me:Int)
 known:n.known=[]
 log:n.log=[]
 Zi:∀r,n.Zi=some r→r.begun=false∧(r.prom.map (·.1)).Nodup∧∀k∈r.prom.map (·.1),Two x y k
 ZQ:∀p,n.ZQ=some p→MP p
def ML (x y:Nat) (l:YY):Prop:=(l.kind=0∨l.kind=1∨l.kind=4∨l.kind=5∨l.kind=7)∧Two x y l.Jj
section
variable {x y:Nat} {n:Nd}
theorem MN.set (h:MN x y n) {m:Nd} (h1:m.me=n.me) (h2:m.known=n.known) (h3:m.log=n.log) (h4:m.Zi=n.Zi) (h5:m.ZQ=n.ZQ):MN x y m:=
 ⟨by rw[h1];exact h.me,by rw[h2];exact h.known,by rw[h3];exact h.log,by rw[h4];exact h.Zi,by rw[h5];exact h.ZQ⟩
theorem MN.nts (h:MN x y n) (l:YY):MN x y (notes n l):=by
 unfold notes
 split
 ·exact h.set rfl rfl rfl rfl rfl
 ·exact h
structure MO (x y:Nat) (o:Out):Prop where
 n:MN x y o.n
 ls:∀l∈o.ls,ML x y l
 ts:o.ts=[]
theorem MO.none (h:MN x y n):MO x y ⟨n,[],[]⟩:=⟨h,fun l hl=>(by cases hl),rfl⟩
theorem MO.one (h:MN x y n) {l:YY} (hl:ML x y l):MO x y ⟨n,[l],[]⟩:=⟨h,fun k hk=>by rw[List.mem_singleton.1 hk];exact hl,rfl⟩
theorem DH {p:List (Int × List Vt)} {k:Int} {vs:List Vt} (h1:(p.map (·.1)).Nodup) (h2:∀j∈p.map (·.1),Two x y j) (hk:Two x y k):((ins p k vs).map (·.1)).Nodup∧∀j∈(ins p k vs).map (·.1),Two x y j:=by
 obtain⟨q1,q2⟩:=Ka (k:=k) (v:=vs) h1
 refine⟨q1,fun j hj=>?_⟩
 rcases q2 j hj with rfl|q
 ·exact hk
 ·exact h2 j q
theorem MN.hnd (h:MN x y n) {l:YY} (hl:ML x y l):MO x y (handle n l):=by
 have fE:=h.me
 obtain⟨k,hf⟩:=hl
 unfold handle
 split
 ·unfold YO
  split
  ·exact .one h ⟨.inr (.inr (.inr (.inr rfl))),fE⟩
  split
  ·exact .one h ⟨.inr (.inl rfl),fE⟩
  split
  ·exact .none h
  ·exact .none ⟨h.me,h.known,h.log,h.Zi,fun p hp=>by cases hp;trivial⟩
 split
 ·rename_i k2
  unfold Yr
  split
  ·exact .none h
  ·rename_i r hr
   rw[if_pos (by omega)]
   split
   ·obtain⟨r1,r2,r3⟩:=h.Zi r hr
    obtain⟨q1,q2⟩:=DH (vs:=l.vs) r2 r3 hf
    exact .none ⟨h.me,h.known,h.log,fun r' e=>by
     obtain rfl:=Option.some.inj e
     exact⟨r1,q1,q2⟩,h.ZQ⟩
   ·exact .none h
 split
 ·omega
 split
 ·refine .none ?_
  unfold add
  split
  ·exact h
  ·exact h.set rfl rfl rfl rfl rfl
 split
 ·unfold UR
  rw[h.known]
  exact .none (h.nts l)
 split
 ·omega
 ·exact .none (h.nts l)
theorem MN.drn:∀(k:List YY) (n:Nd),MN x y n→(∀l∈k,ML x y l)→MO x y (drain n k)∧∀l∈(drain n k).n.inbox,ML x y l:=by
 intro k
 induction k with
 | nil=>intro n h _;unfold drain;exact⟨.none (h.set rfl rfl rfl rfl rfl),fun l hl=>by cases hl⟩
 | cons l k ih=>
  intro n h hk
  unfold drain
  split
  ·exact⟨.none (h.set rfl rfl rfl rfl rfl),fun x hx=>hk x hx⟩
  ·have H:=(MN.set (m:={ n with inbox:=k }) h rfl rfl rfl rfl rfl).hnd (hk l (by simp))
   obtain⟨I,J⟩:=ih _ H.n (fun x hx=>hk x (by simp[hx]))
   refine⟨⟨I.n,fun z hz=>?_,by rw[H.ts,I.ts];rfl⟩,J⟩
   rcases List.mem_append.1 hz with hz|hz
   ·exact H.ls z hz
   ·exact I.ls z hz
theorem MN.rul (h:MN x y n) {r:Qd} (hr:n.Zi=some r):MO x y (JU n r):=by
 obtain⟨r1,r2,r3⟩:=h.Zi r hr
 unfold JU
 split
 ·split
  ·exact .none h
  ·exact .none ⟨h.me,h.known,h.log,h.Zi,fun p hp=>by cases hp;trivial⟩
 ·rw[if_pos]
  ·refine⟨h,fun l hl=>?_,rfl⟩
   have hl:l∈Rj n r:=hl
   unfold Rj at hl
   obtain⟨m,_,hl⟩:=List.mem_flatMap.1 hl
   split at hl
   ·rw[List.mem_singleton.1 hl];exact⟨.inl rfl,h.me⟩
   ·cases hl
  ·have:=nG (C:=[(x:Int),(y:Int)]) r2 (fun k hk=>by
    rcases r3 k hk with q|q<;>simp[q])
   simp only[List.length_map,List.length_cons,List.length_nil]at this
   omega
theorem MN.stl (h:MN x y n):MN x y (still n):=by
 unfold still
 split
 ·split
  ·exact⟨h.me,h.known,h.log,fun r e=>(by cases e),h.ZQ⟩
  ·exact h
 ·exact h
theorem MN.dty (h:MN x y n):MO x y (Uf n):=by
 have h1:MO x y (Yl (still n)):=by
  have hs:=h.stl
  unfold Yl
  split
  ·rename_i r hr;exact hs.rul hr
  ·split
   ·refine⟨hs,fun l hl=>?_,rfl⟩
    have hl:l∈Vo (still n):=hl
    unfold Vo at hl
    obtain⟨c,_,rfl⟩:=List.mem_map.1 hl
    exact⟨.inr (.inr (.inl rfl)),hs.me⟩
   ·exact .none hs
 unfold Uf
 split
 ·exact h1
 ·have ht:MN x y (JR (Yl (still n)).n):=h1.n.set rfl rfl rfl rfl rfl
  refine⟨ht,fun l hl=>?_,rfl⟩
  rcases List.mem_append.1 hl with hl|hl
  ·exact h1.ls l hl
  ·unfold VP at hl
   split at hl
   ·rw[List.mem_singleton.1 hl];exact⟨.inr (.inr (.inr (.inl rfl))),ht.me⟩
   ·cases hl
theorem MN.fin (h:MN x y n) {p:DS} (hp:MP p):MO x y (finish (synced n) p):=by
 have hs:MN x y (synced n):=⟨h.me,h.known,h.log,h.Zi,fun p e=>by cases e⟩
 cases p with
 | Ig a to b vs=>
  show MO x y ⟨{ synced n with own:=a },[⟨1,n.me,to,b,Tm,vs⟩],[]⟩
  exact .one (MN.set (m:={ synced n with own:=a }) hs rfl rfl rfl rfl rfl) ⟨.inr (.inl rfl),h.me⟩
 | Kx a to v=>exact hp.elim
 | own a vs cur=>
  refine .none ⟨h.me,h.known,h.log,fun r e=>?_,fun p e=>by cases e⟩
  cases cur with
  | false=>exact h.Zi r e
  | true=>
   have e:(synced n).Zi.map (fun r=>{ r with prom:=ins r.prom (synced n).me vs })=some r:=e
   obtain⟨r0,q0,q1⟩:=Option.map_eq_some_iff.1 e
   obtain⟨r1,r2,r3⟩:=h.Zi r0 q0
   obtain⟨q2,q3⟩:=DH (vs:=vs) r2 r3 h.me
   rw[←q1]
   exact⟨r1,q2,q3⟩
theorem AO (n:Nd):(Uf n).n.inbox=n.inbox:=by
 have h1:(still n).inbox=n.inbox:=by
  unfold still
  repeat' split
  all_goals rfl
 have h2:∀m:Nd,(Yl m).n.inbox=m.inbox:=fun m=>by
  unfold Yl JU
  repeat' split
  all_goals rfl
 unfold Uf
 split
 ·rw[h2,h1]
 ·show (Yl (still n)).n.inbox=n.inbox
  rw[h2,h1]
theorem GS (n:Nd) (p:DS):(finish (synced n) p).n.inbox=n.inbox:=by cases p<;>rfl
theorem MN.stp (h:MN x y n) (hb:∀l∈n.inbox,ML x y l):MO x y (step n)∧∀l∈(step n).n.inbox,ML x y l:=by
 unfold step
 split
 ·split
  ·rename_i p hp
   exact⟨h.fin (h.ZQ p hp),by rw[GS];exact hb⟩
  ·obtain⟨H,I⟩:=MN.drn n.inbox n h hb
   split
   ·exact⟨H,I⟩
   ·have D:=H.n.dty
    refine⟨⟨D.n,fun l hl=>?_,by rw[H.ts,D.ts];rfl⟩,fun l hl=>?_⟩
    ·rcases List.mem_append.1 hl with hl|hl
     ·exact H.ls l hl
     ·exact D.ls l hl
    ·have hl:l∈(Uf (drain n n.inbox).n).n.inbox:=hl
     rw[AO]at hl
     exact I l hl
 ·exact⟨.none h,hb⟩
theorem MN.led (h:MN x y n):MN x y (lead n):=by
 unfold lead
 split
 ·exact h
 ·refine⟨h.me,h.known,h.log,fun r e=>?_,fun p e=>?_⟩
  ·obtain rfl:=Option.some.inj e
   exact⟨rfl,.nil,fun k hk=>by cases hk⟩
  ·have e:Xb n.ZQ=some p:=e
   cases hp:n.ZQ with
   | none=>rw[hp]at e;cases e
   | some q=>
    have:=h.ZQ q hp
    rw[hp]at e
    cases q with
    | Ig a to b vs=>cases e;trivial
    | Kx a to v=>exact this.elim
    | own a vs c=>cases e;trivial
end
structure MW (x y:Nat) (w:Wd):Prop where
 nd:∀i,i=x∨i=y→MN x y (w.nodes i)∧(w.nodes i).up=true∧∀l∈(w.nodes i).inbox,ML x y l
 off:∀i,i<5→¬(i=x∨i=y)→(w.nodes i).up=false
 Hj:∀l∈w.Zl,ML x y l
 told:w.told=[]
section
variable {x y:Nat} {w:Wd}
theorem MW.out (h:MW x y w) (i:Nat) (hi:i=x∨i=y) {o:Out} (h1:MO x y o) (h2:∀l∈o.n.inbox,ML x y l) (h3:o.n.up=true):MW x y (w.out i o):=by
 refine⟨fun j hj=>?_,fun j h5 hj=>?_,fun l hl=>?_,?_⟩
 ·rw[Kq]
  by_cases e:j=i
  ·rw[if_pos e];exact⟨h1.n,h3,h2⟩
  ·rw[if_neg e];exact h.nd j hj
 ·rw[Kq,if_neg (fun e=>hj (by rw[e];exact hi))];exact h.off j h5 hj
 ·have hl:l∈w.Zl++o.ls:=hl
  rcases List.mem_append.1 hl with hl|hl
  ·exact h.Hj l hl
  ·exact h1.ls l hl
 ·show w.told++o.ts=[]
  rw[h.told,h1.ts];rfl
theorem AP (h:MW x y w) {l:YY} (hl:ML x y l):MW x y (QV w l):=by
 unfold QV
 split
 ·rename_i hu
  by_cases hi:l.to.toNat=x∨l.to.toNat=y
  ·obtain⟨n1,n2,n3⟩:=h.nd _ hi
   rw[Ws]
   refine h.out _ hi (.none (n1.set rfl rfl rfl rfl rfl)) (fun z hz=>?_) n2
   rcases List.mem_append.1 hz with hz|hz
   ·exact n3 z hz
   ·rw[List.mem_singleton.1 hz];exact hl
  ·refine⟨fun j hj=>?_,fun j h5 hj=>?_,h.Hj,h.told⟩
   ·rw[Qs,if_neg (fun e=>hi (by rw[←e];exact hj))];exact h.nd j hj
   ·rw[Qs]
    by_cases e:j=l.to.toNat
    ·have:=h.off j h5 hj
     rw[e,hu]at this;cases this
    ·rw[if_neg e];exact h.off j h5 hj
 ·exact h
theorem tW:∀(ls:List YY) (w:Wd),MW x y w→(∀l∈ls,ML x y l)→MW x y (ls.foldl QV w):=by
 intro ls
 induction ls with
 | nil=>intro w h _;exact h
 | cons l ls ih=>intro w h hl;exact ih _ (AP h (hl l (by simp))) (fun x hx=>hl x (by simp[hx]))
theorem MW.vD (h:MW x y w) {fl:List YY} (hf:∀l∈fl,l∈w.Zl):MW x y { w with Zl:=fl }:=⟨h.nd,h.off,fun l hl=>h.Hj l (hf l hl),h.told⟩
theorem ZeW (h:MW x y w) {a:Ac} (h5:a.node<5) (hk:1≤a.kind∧a.kind≤7):MW x y (act w a):=by
 have same:¬(a.node=x∨a.node=y)→∀n,n=w.nodes a.node→w.set a.node n=w:=fun _ n e=>by rw[e,TY]
 unfold act
 split
 ·unfold VQ
  split
  ·rename_i hu
   have hi:a.node=x∨a.node=y:=Classical.byContradiction fun q=>by
    rw[h.off _ h5 q]at hu;cases hu
   obtain⟨n1,n2,n3⟩:=h.nd _ hi
   split
   ·exact⟨h.nd,h.off,h.Hj,h.told⟩
   ·split
    ·rename_i q
     rw[n1.log]at q;cases q
    ·rw[Ws]
     refine h.out a.node hi (.none ?_) (fun l hl=>n3 l ?_) ?_
     ·unfold PG add
      repeat' split
      all_goals exact n1.set rfl rfl rfl rfl rfl
     ·revert hl
      unfold PG add
      repeat' split
      all_goals exact fun hl=>hl
     ·unfold PG add
      repeat' split
      all_goals exact n2
  ·exact h
 split
 ·by_cases hi:a.node=x∨a.node=y
  ·obtain⟨n1,n2,n3⟩:=h.nd _ hi
   rw[Ws]
   refine h.out a.node hi (.none n1.led) (fun l hl=>n3 l ?_) ?_
   ·revert hl
    unfold lead
    split
    all_goals exact fun hl=>hl
   ·rw[(gC _).1];exact n2
  ·have:lead (w.nodes a.node)=w.nodes a.node:=by unfold lead;rw[if_pos (.inl (h.off _ h5 hi))]
   rw[this,TY];exact h
 split
 ·by_cases hi:a.node=x∨a.node=y
  ·obtain⟨n1,n2,n3⟩:=h.nd _ hi
   obtain⟨s1,s2⟩:=n1.stp n3
   exact h.out a.node hi s1 s2 (by rw[(Hn _).1];exact n2)
  ·have:step (w.nodes a.node)=⟨w.nodes a.node,[],[]⟩:=by unfold step;rw[if_neg (by rw[h.off _ h5 hi];decide)]
   rw[this,←Ws,TY];exact h
 split
 ·unfold pick
  split
  ·exact h
  ·rename_i l hl
   have ic:=h.Hj l (List.mem_of_getElem? hl)
   have h':=h.vD (fl:=w.Zl.eraseIdx (a.at'%w.Zl.length)) (fun x hx=>List.mem_of_mem_eraseIdx hx)
   split
   ·split
    ·exact AP h ic
    ·exact AP h' ic
   ·split
    ·exact h
    ·exact h'
 split
 ·exact tW _ _ (h.vD (fl:=[]) (fun l hl=>by cases hl)) h.Hj
 ·omega
theorem ZeX:∀(l:List Ac) (w:Wd),MW x y w→(∀a∈l,a.node<5∧1≤a.kind∧a.kind≤7)→MW x y (l.foldl act w):=by
 intro l
 induction l with
 | nil=>intro w h _;exact h
 | cons a l ih=>intro w h hl;exact ih _ (ZeW h (hl a (by simp)).1 (hl a (by simp)).2) (fun x hx=>hl x (by simp[hx]))
theorem gD:∀(l:List Ac) (w:Wd),(∀a∈l,a.kind=8) →
  (∀i,(∀a∈l,a.node≠i)→(l.foldl act w).nodes i=w.nodes i)∧(∀i,(w.nodes i).up=false∨(∃a∈l,a.node=i)→((l.foldl act w).nodes i).up=false)∧(l.foldl act w).Zl=w.Zl∧(l.foldl act w).told=w.told:=by
 intro l
 induction l with
 | nil=>
  intro w _
  refine⟨fun _ _=>rfl,fun i h=>?_,rfl,rfl⟩
  rcases h with h|⟨a,ha,_⟩
  ·exact h
  ·cases ha
 | cons a l ih=>
  intro w hl
  have hk:=hl a (by simp)
  have e:act w a=w.set a.node (crashed a.node (w.nodes a.node) a.Zd):=by
   unfold act
   rw[if_neg (by omega),if_neg (by omega),if_neg (by omega),if_neg (by omega),if_neg (by omega),if_pos hk]
  obtain⟨h1,h2,h3,h4⟩:=ih (act w a) (fun x hx=>hl x (by simp[hx]))
  have hc:(crashed a.node (w.nodes a.node) a.Zd).up=false:=by
   rcases NK a.node (w.nodes a.node) a.Zd with⟨_,q,_⟩|⟨q1,q⟩
   ·exact q
   ·rw[q];exact q1
  rw[List.foldl_cons]
  refine⟨fun i hi=>?_,fun i hi=>h2 i ?_,by rw[h3,e];rfl,by rw[h4,e];rfl⟩
  ·rw[h1 i (fun x hx=>hi x (by simp[hx])),e,Qs,if_neg (fun q=>hi a (by simp) q.symm)]
  ·by_cases q:i=a.node
   ·left;rw[e,Qs,if_pos q];exact hc
   ·rcases hi with hi|⟨b,hb,hbi⟩
    ·left;rw[e,Qs,if_neg q];exact hi
    ·rcases List.mem_cons.1 hb with rfl|hb
     ·exact (q hbi.symm).elim
     ·exact .inr ⟨b,hb,hbi⟩
end
theorem nO (x y:Nat) (uF:x<5) (hy5:y<5) (cr l:List Ac) (h8:∀a∈cr,a.kind=8) (vj:∀a∈cr,a.node≠x∧a.node≠y) (YU:∀i,i<5→¬(i=x∨i=y)→∃a∈cr,a.node=i) (hl:∀a∈l,a.node<5∧1≤a.kind∧a.kind≤7) :
  (∀i,i<5→((WK (cr++l)).nodes i).log=[])∧(WK (cr++l)).told=[]∧((WK (cr++l)).nodes x).up=true∧((WK (cr++l)).nodes y).up=true:=by
 obtain⟨c1,c2,c3,c4⟩:=gD cr QJ h8
 have fresh:∀i,i=x∨i=y→(cr.foldl act QJ).nodes i=blank i true [] 0 Qp:=fun i hi=>by
  rw[c1 i (fun a ha e=>by
   rcases hi with q|q
   ·exact (vj a ha).1 (by rw[e,q])
   ·exact (vj a ha).2 (by rw[e,q]))]
  rfl
 have M0:MW x y (cr.foldl act QJ):=by
  refine⟨fun i hi=>?_,fun i h5 hi=>c2 i (.inr (YU i h5 hi)),fun l hl=>?_,by rw[c4];rfl⟩
  ·rw[fresh i hi]
   refine⟨⟨?_,rfl,rfl,fun r e=>(by cases e),fun p e=>by cases e⟩,rfl,fun l hl=>by cases hl⟩
   rcases hi with rfl|rfl
   ·exact .inl rfl
   ·exact .inr rfl
  ·rw[c3]at hl;cases hl
 have M:=ZeX l _ M0 hl
 have e:WK (cr++l)=l.foldl act (cr.foldl act QJ):=by unfold WK;rw[List.foldl_append]
 rw[e]
 refine⟨fun i h5=>?_,M.told,(M.nd x (.inl rfl)).2.1,(M.nd y (.inr rfl)).2.1⟩
 by_cases hi:i=x∨i=y
 ·exact (M.nd i hi).1.log
 ·have hd:Ko (l.foldl act (cr.foldl act QJ)):=by rw[←e];exact nN _
  exact hd i (M.off i h5 hi)
def Zab (n:Nat):Raw:=⟨9,n,0,0,[]⟩
def Kr (n:Nat):Raw:=⟨3,n,0,0,[]⟩
theorem gE:(∀n,n<5→(Zab n).err=0)∧(∀n,n<5→(Kr n).err=0)∧gq.err=0:=by decide
theorem tX {α β:Type} {R:α→β→Prop} {l:List α} {k:List β} (s:DN R l k):∀(i:Nat) (h1:i<l.length) (h2:i<k.length),R l[i] k[i]:=by
 induction s with
 | nil=>intro i h1;cases h1
 | cons a _ ih=>
  intro i h1 h2
  cases i with
  | zero=>exact a
  | succ i=>exact ih i (by simpa using h1) (by simpa using h2)
def ZeY (w:Wd):List (List Cm):=[(w.nodes 0).log,(w.nodes 1).log,(w.nodes 2).log,(w.nodes 3).log,(w.nodes 4).log]
theorem gF (w:Wd) (i:Nat) (hi:i<5):(ZeY w)[i]'hi=(w.nodes i).log:=by
 match i,hi with
 | 0,_=>rfl
 | 1,_=>rfl
 | 2,_=>rfl
 | 3,_=>rfl
 | 4,_=>rfl
theorem AG.log {h:Hp} {R:List Value} {w:Wd} {lv tv:Value} {vs:List Value} (s:AG h R w lv tv vs):∃b o c,lv=.slice (some ⟨b,o,none⟩) 5 c∧b<h.size∧∀n,n<5→∃x,hc h ⟨b,o+n,none⟩=some x∧Ts Qc.C 5 h x (w.nodes n).log:=by
 have vl:vs.length=5:=bO s.each
 obtain⟨p,c,rfl,YL⟩:=s.zQ.open (n:=1) (enc:=fun v=>[v]) (fun _=>rfl) (show (1:Nat)≠0 by decide)
 obtain⟨b,o,rfl,hb,hh⟩:=YL (by intro e;rw[e]at vl;cases vl)
 refine⟨b,o,c,by rw[vl],hb,fun n hn=>⟨vs[n],?_,?_⟩⟩
 ·have:=hh n (by omega)
  have:=this.hc (i:=0) rfl
  rw[Nat.mul_one]at this
  exact this
 ·have:=tX s.each n (by omega) hn
  rw[show ([(w.nodes 0).log,(w.nodes 1).log,(w.nodes 2).log,(w.nodes 3).log,(w.nodes 4).log]:List (List Cm))[n]'hn=(w.nodes n).log from gF w n hn]at this
  exact this
def Vv (w:Wd):Nat→List Cm
 | 0=>[]
 | n+1=>if (Vv w n).length<(w.nodes n).log.length then (w.nodes n).log else Vv w n
def lng (w:Wd):List Cm:=Vv w 5
theorem gG (w:Wd):∀n,Vv w n=[]∨∃i,i<n∧Vv w n=(w.nodes i).log:=by
 intro n
 induction n with
 | zero=>exact .inl rfl
 | succ n ih=>
  unfold Vv
  split
  ·exact .inr ⟨n,by omega,rfl⟩
  ·rcases ih with h|⟨i,hi,h⟩
   ·exact .inl h
   ·exact .inr ⟨i,by omega,h⟩
theorem tY (w:Wd):lng w=[]∨∃i,i<5∧lng w=(w.nodes i).log:=gG w 5
structure ZnY (R:List Value):Prop where
 len:R.length=13
 one:R.all Z6=true
 put:Ym [Value.int .i64 0,.bool false,.bool false,.bool false,.bool false,.bool false,.slice none 0 0,.int .i64 0,.int .i64 0,.int .i64 0,.int .i64 0,.int .i64 0,.slice none 0 0] 0 R=R
 le:R.length≤13
 take:R.take 13=R
theorem AG.ok {h:Hp} {w:Wd} {lv tv:Value} {vs:List Value} (ra:AG h (AF w lv tv) w lv tv vs):ZnY (AF w lv tv)∧(∃b o c,lv=.slice (some ⟨b,o,none⟩) 5 c)∧∃p c,tv=.slice p w.told.length c:=by
 obtain⟨b,o,c,hl,_,_⟩:=ra.log
 obtain⟨pt,ct,ht,_⟩:=ra.told.open (n:=5) (enc:=LZ) (fun _=>rfl) (show (5:Nat)≠0 by decide)
 subst hl
 subst ht
 exact⟨⟨rfl,rfl,ZM rfl,Nat.le_refl 13,rfl⟩,⟨b,o,c,rfl⟩,pt,ct,rfl⟩
theorem AQ (T:World) (h:Hp) (w:Wd) (lv tv:Value) (vs:List Value) (ra:AG h (AF w lv tv) w lv tv vs) :
  Zc Tryz.prog T 14 #[.agg (AF w lv tv).toArray] h fun v' h'=>Ts Qc.C 5 h' v' (lng w)∧Zf h.size h h':=by
 obtain⟨b,o,c,rfl,hb,hx⟩:=ra.log
 obtain⟨R,hR⟩:=Zy (AF w (.slice (some ⟨b,o,none⟩) 5 c) tv)
 rw[←hR]
 refine Zc.Zh (args:=[_]) Tryz.func14 rfl rfl rfl rfl ?_
 obtain⟨h1,Yv⟩:=Zy (h.push (.cells R.toArray 33):Hp)
 have e1:=Yv.symm
 have b1:Zf h.size h h1:=by rw[Yv];exact (Zf.refl _ _).add _
 have y1:h1[h.size]? = some (.cells R.toArray 33):=by rw[Yv];exact Zb
 have r6:hc h1 ⟨h.size,6,none⟩=some (.slice (some ⟨b,o,none⟩) 5 c):=by rw[Zg y1,hR];rfl
 have ly:=Za y1
 simp -implicitDefEqProofs only[go_sem,↓reduceIte,e1]
 refine VS.ZV (fun F g=>g=h1∧F 1=.pointer (some ⟨h.size,0,none⟩)∧∃n:Nat,n≤5∧F 4=.int .i64 n∧Ts Qc.C 5 h1 (F 3) (Vv w n))
  (fun F _=>5-(vi (F 4)).toNat) rfl ⟨rfl,rfl,0,by omega,rfl,⟨(J9.nil 0 0 5 h1).sl⟩⟩ ?_
 rintro F2 g2 ⟨rfl,f1,n,hn,f4,t3⟩
 obtain⟨p3,c3,f3,_⟩:=Ju t3
 by_cases ZA:n<5
 ·have ZI:(n:Int)<5:=by omega
  obtain⟨x,rx,tx⟩:=hx n ZA
  obtain⟨px,cx,rfl,_⟩:=Ju tx
  have rx2:hc g2 ⟨b,o+n,none⟩=some (.slice px (w.nodes n).log.length cx):=by rw[b1.hc (by exact hb)];exact rx
  have tx2:=tx.Z7 b1
  by_cases yf:((w.nodes n).log.length:Int)>(Vv w n).length
  ·simp -implicitDefEqProofs only[go_sem,↓reduceIte,f1,f3,f4,r6,ZI,rx2,yf]
   unfold Y6
   refine⟨⟨rfl,f1,n+1,ZA,rfl,?_⟩,?_⟩
   ·have e:Vv w (n+1)=(w.nodes n).log:=by rw[Vv,if_pos (by omega)]
    rw[e];exact tx2
   ·simp only[vi,Zj,↓reduceIte,f4];omega
  ·simp -implicitDefEqProofs only[go_sem,↓reduceIte,f1,f3,f4,r6,ZI,rx2,yf]
   unfold Y6
   refine⟨⟨rfl,f1,n+1,ZA,rfl,?_⟩,?_⟩
   ·have e:Vv w (n+1)=Vv w n:=by rw[Vv,if_neg (by omega)]
    rw[e];exact t3
   ·simp only[vi,Zj,↓reduceIte,f4];omega
 ·have YF:¬(n:Int)<5:=by omega
  obtain rfl:n=5:=by omega
  rw[f3]at t3
  simp -implicitDefEqProofs only[go_sem,↓reduceIte,f1,f3,f4,r6]
  exact⟨t3,b1⟩
def OJ (n:Nat):Raw:=⟨8,n,0,0,[]⟩
def XA (x y:Nat) (k:Nat):List Raw:=((List.range k).filter fun n=>decide (n≠x∧n≠y)).map OJ
theorem PW (x y k:Nat):XA x y (k+1)=XA x y k++(if k≠x∧k≠y then [OJ k] else []):=by
 unfold XA
 rw[List.range_succ,List.filter_append,List.map_append]
 congr 1
 by_cases q:k≠x∧k≠y
 ·rw[if_pos q];simp[q]
 ·rw[if_neg q];simp only[List.filter_cons,List.filter_nil];rw[if_neg (by simpa using q)];rfl
def tZ (x y:Nat):List Raw:=[Kr x,Kr y,gq]
def Vw (x y k:Nat):List Raw:=(List.replicate k (tZ x y)).flatten
theorem Ks (x y k:Nat):Vw x y (k+1)=Vw x y k++tZ x y:=by
 unfold Vw
 rw[List.replicate_succ',List.flatten_append]
 simp
theorem Ho (x y k:Nat):(Vw x y k).length=3*k:=by
 induction k with
 | zero=>rfl
 | succ k ih=>rw[Ks,List.length_append,ih];rfl
theorem DI (x y k:Nat):(XA x y k).length≤k:=by
 unfold XA
 rw[List.length_map]
 have:=List.length_filter_le (fun n=>decide (n≠x∧n≠y)) (List.range k)
 rw[List.length_range]at this
 exact this
def Kt (n:Nat):Raw:=⟨2,n,0,0,[]⟩
def QM (x y:Nat) (S:List Raw):List Raw:=((XA x y 5++S)++[Kt x])++Vw x y 60
theorem gH (g:Gr):(UW g false).k≤7:=by
 unfold UW
 repeat' split
 all_goals (first|(simp only;omega)|(simp at *))
theorem nP (gs:List Gr) (Xp:Nat):∀x∈vB gs Xp false,x.k≤7:=by
 have key:∀(l:List Gr) (st:Nat × List Raw),(∀x∈st.2,x.k≤7)→∀x∈(l.foldl (Wt false) st).2,x.k≤7:=by
  intro l
  induction l with
  | nil=>intro st h;exact h
  | cons g l ih=>
   intro st h
   refine ih _ (fun x hx=>?_)
   unfold Wt at hx
   rcases List.mem_append.1 hx with hx|hx
   ·exact h x hx
   ·rw[List.mem_singleton.1 hx]
    unfold Ti
    split
    ·show (7:Int)≤7;omega
    ·exact gH g
 exact key _ _ (fun x hx=>by cases hx)
theorem nQ {x y k:Nat} {z:Raw} (h:z∈Vw x y k):z=Kr x∨z=Kr y∨z=gq:=by
 unfold Vw at h
 obtain⟨l,hl,hz⟩:=List.mem_flatten.1 h
 rw[(List.mem_replicate.1 hl).2]at hz
 unfold tZ at hz
 simpa using hz
theorem DJ {x y:Nat} (hx:x<5) (hy:y<5) {S:List Raw} (hS:∀z∈S,z.err=0∧z.k≤7) :
  (∀z∈QM x y S,z.err=0)∧(∀i,i<5→((bN (QM x y S)).nodes i).log=[])∧(bN (QM x y S)).told=[]∧((bN (QM x y S)).nodes x).up=true∧((bN (QM x y S)).nodes y).up=true:=by
 have e0:∀n,n<5→(OJ n).err=0∧(Kt n).err=0:=by decide
 obtain⟨e1,e2,e3⟩:=gE
 have SM:∀z∈(S++[Kt x])++Vw x y 60,z.err=0∧z.k≤7:=fun z hz=>by
  rcases List.mem_append.1 hz with hz|hz
  ·rcases List.mem_append.1 hz with hz|hz
   ·exact hS z hz
   ·rw[List.mem_singleton.1 hz];exact⟨(e0 x hx).2,by show (2:Int)≤7;omega⟩
  ·rcases nQ hz with rfl|rfl|rfl
   ·exact⟨e2 x hx,by show (3:Int)≤7;omega⟩
   ·exact⟨e2 y hy,by show (3:Int)≤7;omega⟩
   ·exact⟨e3,by show (7:Int)≤7;omega⟩
 have Zac:∀z∈XA x y 5,∃n,n<5∧n≠x∧n≠y∧z=OJ n:=fun z hz=>by
  unfold XA at hz
  obtain⟨n,hn,rfl⟩:=List.mem_map.1 hz
  obtain⟨q1,q2⟩:=List.mem_filter.1 hn
  exact⟨n,List.mem_range.1 q1,(of_decide_eq_true q2).1,(of_decide_eq_true q2).2,rfl⟩
 refine⟨fun z hz=>?_,?_⟩
 ·unfold QM at hz
  rw[List.append_assoc,List.append_assoc,←List.append_assoc S]at hz
  rcases List.mem_append.1 hz with hz|hz
  ·obtain⟨n,hn,_,_,rfl⟩:=Zac z hz;exact (e0 n hn).1
  ·exact (SM z hz).1
 ·have e:bN (QM x y S)=WK ((XA x y 5).map Raw.ac++((S++[Kt x])++Vw x y 60).map Raw.ac):=by
   unfold bN QM
   rw[List.append_assoc,List.append_assoc,←List.append_assoc S,List.map_append]
  rw[e]
  refine nO x y hx hy _ _ (fun a ha=>?_) (fun a ha=>?_) (fun i hi hn=>?_) (fun a ha=>?_)
  ·obtain⟨z,hz,rfl⟩:=List.mem_map.1 ha
   obtain⟨n,_,_,_,rfl⟩:=Zac z hz
   rfl
  ·obtain⟨z,hz,rfl⟩:=List.mem_map.1 ha
   obtain⟨n,_,q1,q2,rfl⟩:=Zac z hz
   show ((n:Nat):Int).toNat≠x∧((n:Nat):Int).toNat≠y
   rw[Int.toNat_natCast];exact⟨q1,q2⟩
  ·refine⟨(OJ i).ac,List.mem_map.2 ⟨OJ i,?_,rfl⟩,?_⟩
   ·unfold XA
    exact List.mem_map.2 ⟨i,List.mem_filter.2 ⟨List.mem_range.2 hi,decide_eq_true (by omega)⟩,rfl⟩
   ·show ((i:Nat):Int).toNat=i
    omega
  ·obtain⟨z,hz,rfl⟩:=List.mem_map.1 ha
   obtain⟨q1,q2⟩:=SM z hz
   obtain⟨r1,r2,_⟩:=AE q1
   refine⟨by unfold Raw.ac;simp only;omega,?_⟩
   show 1≤z.k∧z.k≤7
   omega
set_option maxHeartbeats 4000000 in
theorem nR (T:World) (h:Hp) (v:Value) (gs:List Gr) (a b:Int) (hv:Ts Gr.C 5 h v gs) (hg:∀g∈gs,g.ok) (ha:i64 a) (hb:i64 b) (tb:DT Rt h) :
  Zc Tryz.prog T 7 #[v,.int .i64 a,.int .i64 b] h fun v' h'=>v'=.bool true∧Zf h.size h h':=by
 have tk:Tk h:=tb.tk
 have pa:=J8 a (m:=5) (by omega)
 have pb:=J8 b (m:=4) (by omega)
 refine Zc.Zh (args:=[_,_,_]) Tryz.func7 rfl rfl rfl rfl ?_
 simp -implicitDefEqProofs only[go_sem,↓reduceIte]
 refine (Xo T h a 5 ha (by omega) (by omega)).pure ?_
 simp -implicitDefEqProofs only[go_sem,↓reduceIte]
 refine (Xo T h b 4 hb (by omega) (by omega)).pure ?_
 obtain⟨x,hx⟩:∃x:Nat,JG a 5=x:=⟨(JG a 5).toNat,by omega⟩
 obtain⟨z,hz⟩:∃z:Nat,JG b 4=z:=⟨(JG b 4).toNat,by omega⟩
 rw[hx]at pa ⊢
 rw[hz]at pb ⊢
 obtain⟨y,hy⟩:∃y:Nat,(((x:Int)+1)+z).tmod 5=y:=⟨(x+1+z)%5,by rw[Int.tmod_eq_emod_of_nonneg (by omega)];omega⟩
 have y5:y<5:=by rw[Int.tmod_eq_emod_of_nonneg (by omega)]at hy;omega
 have x5:x<5:=by omega
 have y5':(y:Int)<5:=by omega
 simp -implicitDefEqProofs only[go_sem,↓reduceIte,hy]
 refine VS.ZV (fun F g=>(F 0=v∧F 7=.int .i64 x∧F 8=.int .i64 y)∧∃(n:Nat) (o:Ow),n≤5∧F 10=.int .i64 n∧Xv h o g (F 9) (XA x y n))
  (fun F _=>5-(vi (F 10)).toNat) rfl ⟨⟨rfl,rfl,rfl⟩,0,Rt,by omega,rfl,Xv.nil h⟩ ?_
 rintro F2 g2 ⟨⟨f0,f7,f8⟩,n,o2,hn,f10,A2⟩
 obtain⟨p2,c2,f9,_⟩:=A2.isSlice
 have ol:=DI x y n
 by_cases ZA:n<5
 ·have ZI:(n:Int)<5:=by omega
  rw[f9]at A2
  by_cases q:n≠x∧n≠y
  ·have q1:¬(n:Int)=x:=by omega
   have q2:¬(n:Int)=y:=by omega
   simp -implicitDefEqProofs only[go_sem,↓reduceIte,f0,f7,f8,f9,f10,ZI,q1,q2]
   refine A2.add (by omega) 8 n 0 0 ?_
   intro v3 o3 g3 A3
   simp -implicitDefEqProofs only[go_sem,↓reduceIte,f10]
   unfold Y6
   refine⟨⟨⟨f0,f7,f8⟩,n+1,o3,ZA,rfl,?_⟩,?_⟩
   ·rw[PW,if_pos q];exact A3
   ·simp only[vi,Zj,↓reduceIte,f10];omega
  ·have e1:XA x y (n+1)=XA x y n:=by rw[PW,if_neg q,List.append_nil]
   rw[←f9]at A2
   rw[←e1]at A2
   by_cases q1:(n:Int)=x
   ·have q1':=eq_true q1
    simp -implicitDefEqProofs only[go_sem,↓reduceIte,f0,f7,f8,f10,ZI,q1']
    unfold Y6
    refine⟨⟨⟨f0,f7,f8⟩,n+1,o2,ZA,rfl,A2⟩,?_⟩
    simp only[vi,Zj,↓reduceIte,f10];omega
   ·have q2:(n:Int)=y:=by omega
    have xY:=eq_true q2
    simp -implicitDefEqProofs only[go_sem,↓reduceIte,f0,f7,f8,f10,ZI,q1,xY]
    unfold Y6
    refine⟨⟨⟨f0,f7,f8⟩,n+1,o2,ZA,rfl,A2⟩,?_⟩
    simp only[vi,Zj,↓reduceIte,f10];omega
 have YF:¬(n:Int)<5:=by omega
 obtain rfl:n=5:=by omega
 have bk2:=T1 A2.1
 simp -implicitDefEqProofs only[go_sem,↓reduceIte,f0,f7,f8,f10]
 refine (AJ T g2 v gs 80 false (hv.Z7 bk2) hg (by omega) (tk.X9 bk2)).use ?_
 rintro v3 g3 ⟨b3,Qa,xs,hr,t3,i3,n3,nv3⟩
 obtain⟨S,hS⟩:=Zy (vB gs 80 false)
 rw[←hS]at hr
 have Se:∀z∈S,z.err=0∧z.k≤7:=fun z hz=>by rw[hS]at hz;exact⟨tU _ _ _ z hz,nP _ _ z hz⟩
 have Sl:S.length≤80:=by rw[hS];exact tV _ _ _
 have xl:xs.length=S.length:=by rw[←hr];unfold Xd;simp
 obtain⟨p,c,hv3⟩:=Dz t3
 subst hv3
 have A3:=A2.still b3
 have imv:Im o2 5 g3 (.slice p xs.length c) xs.length (Zu X3 xs):=⟨t3.sl,⟨p,c,rfl,Qa⟩,fun b hb=>⟨(nv3 b hb).2,A2.1.ZU b (nv3 b hb).1⟩⟩
 have im3:∀u∈xs,VT o2 g3 u.2 u.1.data:=fun u hu=>by
  have q:=i3 u hu
  exact⟨⟨q.1.sl,q.1.fits,fun b hb=>⟨(q.1.free b hb).1,A2.1.ZU b (n3 u hu b hb)⟩⟩,q.2⟩
 simp -implicitDefEqProofs only[go_sem,↓reduceIte]
 refine VS.ZV (fun F g=>(F 7=.int .i64 x∧F 8=.int .i64 y∧F 11=.slice p xs.length c)∧∃(i:Nat) (o:Ow),i≤xs.length∧F 12=.int .i64 i∧Xv h o g (F 9) (XA x y 5++S.take i)∧(∀u∈xs,VT o g u.2 u.1.data)∧Im o 5 g (.slice p xs.length c) xs.length (Zu X3 xs))
  (fun F _=>xs.length-(vi (F 12)).toNat) rfl ⟨⟨f7,f8,rfl⟩,0,o2,Nat.zero_le _,rfl,by rw[List.take_zero,List.append_nil];exact A3,im3,imv⟩ ?_
 clear f0 f7 f8 f9 f10
 rintro F4 g4 ⟨⟨f7,f8,f11⟩,i,o4,hi,f12,A4,I4,V4⟩
 obtain⟨p4,c4,f9,_⟩:=A4.isSlice
 by_cases ZA:i<xs.length
 ·have ZI:(i:Int)<xs.length:=by omega
  rw[f9]at A4
  obtain⟨p',c',hpc,YL⟩:=(Ts.mk (enc:=X3) V4.sl).open Dt (by decide)
  simp only[Value.slice.injEq]at hpc
  obtain⟨rfl,_,rfl⟩:=hpc
  obtain⟨bb,oo,rfl,UX,PO⟩:=YL (by intro e;rw[e]at ZA;simp at ZA)
  obtain⟨u,hu0⟩:=Zy (xs[i])
  have hum:u∈xs:=by rw[hu0];exact List.getElem_mem ZA
  have im:=I4 u hum
  obtain⟨pd,cd,PZ⟩:=im.1.isSlice
  have r1:rd g4 ⟨bb,oo+i*5,none⟩ 5=some (X3 u):=by rw[hu0];exact (PO i ZA).rd (by simp[X3,WQ]) rfl
  unfold X3 WQ at r1
  rw[PZ]at r1 im
  have hSl:i<S.length:=by omega
  have hSx:S[i]=u.1:=by
   have:S[i]? = some u.1:=by rw[←hr];unfold Xd;rw[List.getElem?_map,List.getElem?_eq_getElem ZA,←hu0];rfl
   rw[List.getElem?_eq_getElem hSl]at this;exact Option.some.inj this
  simp -implicitDefEqProofs only[go_sem,↓reduceIte,f7,f8,f9,f11,f12,ZI,r1]
  refine A4.Te (by rw[List.length_append,List.length_take];omega) u.1 pd cd im ?_
  intro v5 o5 g5 A5 k5
  simp -implicitDefEqProofs only[go_sem,↓reduceIte,f12]
  unfold Y6
  refine⟨⟨⟨f7,f8,f11⟩,i+1,o5,ZA,rfl,?_,fun u hu=>(I4 u hu).Zd k5,V4.Zd k5⟩,?_⟩
  ·rw[Ye S i hSl,hSx,←List.append_assoc];exact A5
  ·simp only[vi,Zj,↓reduceIte,f12];omega
 have YF:¬(i:Int)<xs.length:=by omega
 obtain rfl:i=xs.length:=by omega
 rw[xl,List.take_of_length_le (Nat.le_refl _),f9]at A4
 simp -implicitDefEqProofs only[go_sem,↓reduceIte,f7,f8,f9,f11,f12,YF]
 refine A4.add (by rw[List.length_append];omega) 2 x 0 0 ?_
 intro v5 o5 g5 A5
 simp -implicitDefEqProofs only[go_sem,↓reduceIte]
 refine VS.ZV (fun F g=>(F 7=.int .i64 x∧F 8=.int .i64 y)∧∃(n:Nat) (o:Ow),n≤60∧F 13=.int .i64 n∧Xv h o g (F 9) (((XA x y 5++S)++[Kt x])++Vw x y n))
  (fun F _=>60-(vi (F 13)).toNat) rfl ⟨⟨f7,f8⟩,0,o5,by omega,rfl,by rw[show Vw x y 0=[] from rfl,List.append_nil];exact A5⟩ ?_
 clear f7 f8 f9 f11 f12 A4 A5
 rintro F6 g6 ⟨⟨f7,f8⟩,n,o6,hn,f13,A6⟩
 obtain⟨p6,c6,f9,_⟩:=A6.isSlice
 by_cases ZA:n<60
 ·have ZI:(n:Int)<60:=by omega
  rw[f9]at A6
  have zr:XI 3 [Value.int .i64 0,.int .i64 0,.int .i64 0,.int .i64 0,.slice none 0 0]=[Value.int .i64 0,.int .i64 0,.int .i64 0,.int .i64 0,.slice none 0 0,.int .i64 0,.int .i64 0,.int .i64 0,.int .i64 0,.slice none 0 0,.int .i64 0,.int .i64 0,.int .i64 0,.int .i64 0,.slice none 0 0]:=rfl
  simp -implicitDefEqProofs only[go_sem,↓reduceIte,f7,f8,f9,f13,ZI,zr]
  obtain⟨g8,PC⟩:=Zy (g6.push (.cells [Value.int .i64 3,.int .i64 x,.int .i64 0,.int .i64 0,.slice none 0 0,.int .i64 3,.int .i64 y,.int .i64 0,.int .i64 0,.slice none 0 0,.int .i64 7,.int .i64 0,.int .i64 0,.int .i64 0,.slice none 0 0].toArray 36):Hp)
  have e8:=PC.symm
  have x8:g8[g6.size]? = some (.cells [Value.int .i64 3,.int .i64 x,.int .i64 0,.int .i64 0,.slice none 0 0,.int .i64 3,.int .i64 y,.int .i64 0,.int .i64 0,.slice none 0 0,.int .i64 7,.int .i64 0,.int .i64 0,.int .i64 0,.slice none 0 0].toArray 36):=by rw[PC];exact Zb
  have b8:Zf g6.size g6 g8:=by rw[PC];exact (Zf.refl _ _).add _
  obtain⟨tr,htr⟩:∃tr:List (Raw × Value),tr=[(Kr x,.slice none 0 0),(Kr y,.slice none 0 0),(gq,.slice none 0 0)]:=⟨_,rfl⟩
  have et:Zu X3 tr=[Value.int .i64 3,.int .i64 x,.int .i64 0,.int .i64 0,.slice none 0 0,.int .i64 3,.int .i64 y,.int .i64 0,.int .i64 0,.slice none 0 0,.int .i64 7,.int .i64 0,.int .i64 0,.int .i64 0,.slice none 0 0]:=by rw[htr];rfl
  have ts:Ts X3 5 g8 (.slice (some ⟨g6.size,0,none⟩) 3 3) tr:=⟨by
   rw[et,show tr.length=3 by rw[htr];rfl]
   exact⟨_,3,rfl,rfl,fun _=>⟨g6.size,0,rfl,fun i hi=>by
    rw[Zg x8,Yi,Nat.zero_add];exact List.getElem?_eq_getElem hi⟩⟩⟩
  have it:∀u∈tr,VT Rt h u.2 u.1.data:=fun u hu=>by
   rw[htr]at hu
   have:u.2=.slice none 0 0∧u.1.data=[]:=by
    simp only[List.mem_cons,List.not_mem_nil,or_false]at hu
    rcases hu with rfl|rfl|rfl<;>exact⟨rfl,rfl⟩
   rw[this.1,this.2]
   exact⟨Im.nil _ 1 _ none,fun z hz=>by cases hz⟩
  first
  | rw[e8]
  | rw[show g6.push (.cells #[Value.int .i64 3,.int .i64 x,.int .i64 0,.int .i64 0,.slice none 0 0,.int .i64 3,.int .i64 y,.int .i64 0,.int .i64 0,.slice none 0 0,.int .i64 7,.int .i64 0,.int .i64 0,.int .i64 0,.slice none 0 0] 36)=g8 from e8]
  have hlen:((((XA x y 5++S)++[Kt x])++Vw x y n)).length≤100000:=by
   rw[List.length_append,List.length_append,List.length_append,Ho]
   simp only[List.length_singleton]
   omega
  refine (A6.still b8).Zaa (by omega) ts it (by rw[htr];simp) ?_
  intro v9 o9 g9 A9
  simp -implicitDefEqProofs only[go_sem,↓reduceIte,f13]
  unfold Y6
  refine⟨⟨⟨f7,f8⟩,n+1,o9,ZA,rfl,?_⟩,?_⟩
  ·rw[Ks,←List.append_assoc]
   rw[show Xd tr=tZ x y by rw[htr];rfl]at A9
   exact A9
  ·simp only[vi,Zj,↓reduceIte,f13];omega
 have YF:¬(n:Int)<60:=by omega
 obtain rfl:n=60:=by omega
 obtain⟨Me,Ze0,vE,Mx,My⟩:=DJ x5 y5 Se
 have hM:(((XA x y 5++S)++[Kt x])++Vw x y 60)=QM x y S:=rfl
 rw[hM]at A6 f9
 have Ml:(QM x y S).length≤1000:=by
  unfold QM
  rw[List.length_append,List.length_append,List.length_append,Ho]
  simp only[List.length_singleton]
  omega
 obtain⟨B6,_,zs,hrz,t6,i6⟩:=A6.done
 have zl:zs.length=(QM x y S).length:=by rw[←hrz];unfold Xd;simp
 have tb6:=tb.Zd (ZB (OI h) B6)
 rw[f9]at t6
 simp -implicitDefEqProofs only[go_sem,↓reduceIte,f7,f8,f9,f13]
 refine (zZ T g6 _ zs t6 i6 tb6 (by omega) (by rw[hrz];exact DA Me (by omega))).use ?_
 rw[hrz]
 rintro _ g7 ⟨⟨lv,tv,vs,rfl,rf⟩,b7⟩
 have B7:Zf h.size h g7:=B6.trans (b7.mono B6.size)
 obtain⟨W,hW⟩:=Zy (bN (QM x y S))
 rw[←hW]at rf Ze0 vE Mx My ⊢
 obtain⟨ro,⟨pl,ol,cl,rfl⟩,pt,ct,rfl⟩:=rf.at.ok
 have Zn1:lng W=[]:=by
  rcases tY W with q|⟨i,hi,q⟩
  ·exact q
  ·rw[q,Ze0 i hi]
 have cl6:=fun g (b:Zf g7.size g7 g)=>AQ T g W _ _ vs (rf.Z7 b).at
 rw[vE]at ro cl6 ⊢
 obtain⟨R,hR⟩:=Zy (AF W (.slice (some ⟨pl,ol,none⟩) 5 cl) (.slice pt ([]:List TS).length ct))
 rw[←hR]at ro cl6 ⊢
 have oN:=ro.len
 have ib:=ro.one
 have hRp:=ro.put
 have tT:=ro.le
 have et:=ro.take
 have hup:∀i,i<5→nth R (1+i)=some (.bool (W.nodes i).up):=fun i hi=>by
  rw[hR]
  match i,hi with
  | 0,_=>rfl
  | 1,_=>rfl
  | 2,_=>rfl
  | 3,_=>rfl
  | 4,_=>rfl
 obtain⟨g8,PC⟩:=Zy (g7.push (.cells R.toArray 33):Hp)
 have e8:=PC.symm
 have b8:Zf g7.size g7 g8:=by rw[PC];exact (Zf.refl _ _).add _
 have y8:g8[g7.size]? = some (.cells R.toArray 33):=by rw[PC];exact Zb
 have l8:=Za y8
 have ux:hc g8 ⟨g7.size,1+x,none⟩=some (.bool true):=by rw[Zg y8,hup x x5,Mx]
 have uy:hc g8 ⟨g7.size,1+y,none⟩=some (.bool true):=by rw[Zg y8,hup y y5,My]
 have r8:rd g8 ⟨g7.size,0,none⟩ 13=some R:=Zo y8 oN
 have B8:Zf h.size h g8:=B7.trans (b8.mono B7.size)
 have x5':(x:Int)<5:=by omega
 simp -implicitDefEqProofs only[go_sem,↓reduceIte,f7,f8,oN,ib,hRp,tT,e8,ux,uy,r8,et,l8,x5',y5']
 refine (cl6 g8 b8).use ?_
 rintro v9 g9 ⟨t9,b9⟩
 rw[Zn1]at t9
 obtain⟨p9,c9,rfl,_⟩:=Ju t9
 have y9:=b9.get l8 y8
 have m9:hc g9 ⟨g7.size,12,none⟩=some (.slice pt ([]:List TS).length ct):=by rw[Zg y9,hR];rfl
 simp -implicitDefEqProofs only[go_sem,↓reduceIte,m9]
 exact⟨rfl,B8.trans (b9.mono B8.size)⟩
def TkM (h:Hp):Prop:=Tk h∧FF 0 niv Ta h
theorem TkM.tbs {h:Hp} (t:TkM h):DT Rt h:=⟨t.1,t.2,rfl,rfl⟩
theorem nT {W:World} (h:laidMetH Tryz.prog [("conclave/sha.numbers", Rows.laid_conclave_sha_numbers),("conclave/order.need", Rows.laid_conclave_order_need)] W):TkM W.heap:=by
 constructor
 ·have h1:=h.filter (fun x=>x.1 == "conclave/sha.numbers")
  exact yu h1
 ·have h1:=h.filter (fun x=>x.1 == "conclave/order.need")
  exact qV h1
theorem gI (os:Os) (args:Array Value):laidMetH Tryz.prog [("conclave/sha.numbers", Rows.laid_conclave_sha_numbers),("conclave/order.need", Rows.laid_conclave_order_need)] ((World.doorLaid Tryz.prog 87 os).forCall (fun _ _=>0) ⟨#[],args,[]⟩).memory:=
 laidMetH_of_parts3 (fuel:=8) (laidMet_of_run' 8 (by kernel_rfl) (by kernel_rfl)) (by kernel_rfl) (by kernel_rfl)
theorem gJ {h:Hp} {k:Nat} {v:Value} (hv:fit Tryz.prog h k 22 [v]):∃gs,Ts Gr.C 5 h v gs∧∀g∈gs,g.ok:=by
 obtain⟨gs,s,JD,_⟩:=dm (α:=Gr) (enc:=Gr.C) (n:=5) (ok:=fun g=>g.ok) Tryz.underlying22 (by kernel_rfl) (by decide) (fun _=>rfl) (fun k ds wm=>by
  have hlen:ds.length=5:=by
   cases k with
   | zero=>exact wm.elim
   | succ k=>unfold fit at wm;rw[Tryz.underlying69]at wm;exact wm.1
  have hL:=jH (P:=Tryz.prog) (h:=h) 8 k 69 ds (rep 5 [3]) (by kernel_rfl) (by rw[hlen];decide) wm
  obtain⟨a0,_,rfl,q0,p0,hL⟩:=Tu Tryz.underlying3 hL
  obtain⟨a1,_,rfl,q1,p1,hL⟩:=Tu Tryz.underlying3 hL
  obtain⟨a2,_,rfl,q2,p2,hL⟩:=Tu Tryz.underlying3 hL
  obtain⟨a3,_,rfl,q3,p3,hL⟩:=Tu Tryz.underlying3 hL
  obtain⟨a4,_,rfl,q4,p4,hL⟩:=Tu Tryz.underlying3 hL
  obtain rfl:=jI hL
  have mk:∀n:Int,-9223372036854775808≤n→n≤9223372036854775807→i64 n:=fun n h1 h2=>⟨h1,by omega⟩
  exact⟨⟨a0,a1,a2,a3,a4⟩,⟨⟨mk _ q0 p0,mk _ q1 p1⟩,mk _ q2 p2,mk _ q3 p3,mk _ q4 p4⟩,rfl⟩) hv
 exact⟨gs,⟨s⟩,JD⟩
end Go.Proofs.YtpomedigibbeeaaGreatDoor
