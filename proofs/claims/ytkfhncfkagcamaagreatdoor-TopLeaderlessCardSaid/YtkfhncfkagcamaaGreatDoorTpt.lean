/- The outcome of a script, and logs compared: what the small functions compute; no condition but those in the statements. -/
import Derived.Test.YtkfhncfkagcamaaGreatDoorTpb
import Derived.Test.YtkfhncfkagcamaaGreatDoorMop
import Derived.Test.YtkfhncfkagcamaaGreatDoorTab
import Derived.LaidSub
namespace Go.Proofs.YtkfhncfkagcamaaGreatDoor
open Go Go.V
set_option linter.unusedSimpArgs false
set_option linter.unusedVariables false
set_option maxRecDepth 100000
def bH (l:List Raw):Wd:=SE (l.map Raw.ac)
theorem nH {h:Hp} {v:Value} {l:List (Raw × Value)} (s:Ts X6 5 h v l):∃p c,v=.slice p l.length c:=by
 obtain⟨p,c,h,_⟩:=Hg s;exact⟨p,c,h⟩
theorem bI {α β:Type} {R:α→β→Prop} {l:List α} {k:List β} (h:FJ R l k):l.length=k.length:=by
 induction h with
 | nil=>rfl
 | cons _ _ ih=>rw[List.length_cons,List.length_cons,ih]
set_option maxHeartbeats 4000000 in
theorem zM (T:World) (h:Hp) (v:Value) (xs:List (Raw × Value)) (hv:Ts X6 5 h v xs) (hx:∀x∈xs,Vz SI h x.2 x.1.data) (tb:DO SI h) (GV:xs.length≤4611686018427387904) (hz:WV (YM xs)=0) :
  Zc Tryz.prog T 20 #[v] h fun v' h'=>(∃lv tv vs,v'=.tuple #[.agg (gd (bH (YM xs)) lv tv).toArray,.bool true]∧Uj (h.size+1) h' (gd (bH (YM xs)) lv tv) (bH (YM xs)) lv tv vs)∧Zg h.size h h':=by
 obtain⟨p,c,hO⟩:=nH hv
 subst hO
 refine Zc.Zi (args:=[_]) Tryz.func20 rfl rfl rfl rfl ?_
 obtain⟨h0,XL⟩:=ZA (h.push (.cells ie.toArray 33):Hp)
 have e0:=XL.symm
 have b0:Zg h.size h h0:=by rw[XL];exact (Zg.refl _ _).add _
 have z0:h0[h.size]? = some (.cells ie.toArray 33):=by rw[XL];exact Zb
 have k0:Kp Qh SI h SI h0:=ZD (OM h) b0
 unfold ie at e0
 simp -implicitDefEqProofs only[go_sem,↓reduceIte,e0]
 refine (tL T h0 _ xs (hv.Z9 b0) (fun x oK=>(hx x oK).Zd k0) (tb.Zd k0) GV).use ?_
 rintro v1 h1 ⟨b1,r1⟩
 have B1:=b0.trans (b1.mono b0.size)
 unfold Hf at r1
 rw[if_pos hz]at r1
 obtain⟨R,lv,tv,vs,rfl,rf⟩:=r1
 have ra:=rf.at
 obtain⟨pl,cl,hl,_⟩:=ra.zC.open (n:=1) (enc:=fun v=>[v]) (fun _=>rfl) (show (1:Nat)≠0 by decide)
 have vl:vs.length=5:=bI ra.each
 subst hl
 rw[vl]at *
 have rc:=ra.cells
 subst rc
 obtain⟨R,hR⟩:=ZA (gd (bH (YM xs)) (.slice pl 5 cl) tv)
 have hR':gd (SE (List.map Raw.ac (YM xs))) (.slice pl 5 cl) tv=R:=by rw[hR];rfl
 rw[hR']
 rw[hR']at ra rf
 obtain⟨pt,ct,ht,_⟩:=ra.told.open (n:=5) (enc:=L0) (fun _=>rfl) (show (5:Nat)≠0 by decide)
 have nI:R.length=13:=by rw[hR];rfl
 have hQ:R.all Z8=true:=by rw[hR,ht];rfl
 have hRp:Yn [Value.int .i64 0,.bool false,.bool false,.bool false,.bool false,.bool false,.slice none 0 0,.int .i64 0,.int .i64 0,.int .i64 0,.int .i64 0,.int .i64 0,.slice none 0 0] 0 R=R:=ZO (by rw[nI];rfl)
 have tM:R.length≤13:=by omega
 have hR6:nth R 6=some (.slice pl 5 cl):=by rw[hR];rfl
 obtain⟨h2,U3⟩:=ZA (h1.push (.cells R.toArray 33):Hp)
 have e2:=U3.symm
 have b2:Zg h1.size h1 h2:=by rw[U3];exact (Zg.refl _ _).add _
 have y2:h2[h1.size]? = some (.cells R.toArray 33):=by rw[U3];exact Zb
 have z2:=b2.get (Za (b1.get (Za z0) z0)) (b1.get (Za z0) z0)
 have lz:=Za z2
 have ly:=Za y2
 have r2:rd h2 ⟨h1.size,0,none⟩ 13=some R:=Zq y2 nI
 have r6:hc h2 ⟨h1.size,6,none⟩=some (.slice pl 5 cl):=by rw[Zh y2];exact hR6
 have w2:wr h2 ⟨h.size,0,none⟩ R=some (h2.setIfInBounds h.size (.cells R.toArray 33)):=by
  rw[ZR z2 0 _,if_pos ⟨by rw[nI];decide,hQ⟩]
  have:Yn ie 0 R=R:=ZO (by rw[nI];rfl)
  rw[this]
 have z3:=Zv (o:=.cells R.toArray 33) z2
 have r3:=Zq z3 nI
 simp -implicitDefEqProofs only[go_sem,↓reduceIte,nI,hQ,hRp,tM,e2]
 refine VS.z (h.size) [0,5,9] (.p 1 (.p 2 (.p 3 (.p 4 (.or 0 (.or 5 (.p 6 (.p 7 (.p 8 (.w 9 (.p 10 .nil))))) (.s 9 (.w 5 (.p 6 (.p 7 (.p 8 (.p 10 .nil))))))) (.s 5 (.p 6 (.p 7 (.p 8 (.w 0 (.w 9 (.p 10 .nil)))))))))))) mixed (by kernel_rfl) ?_
 have s0:h0.size=h.size+1:=by rw[XL];simp
 have Ys:¬h1.size=h.size:=by have:=b1.size;omega
 have e5:decide (((5:Nat):Int)=5)=true:=rfl
 have et:R.take 13=R:=List.take_of_length_le (by omega)
 have bs:Zg h.size h (h2.setIfInBounds h.size (.cells R.toArray 33)):=(B1.trans (b2.mono B1.size)).Zm (Nat.le_refl _) _
 have rf2:Uj (h.size+1) (h2.setIfInBounds h.size (.cells R.toArray 33)) R (SE (List.map Raw.ac (YM xs))) (.slice pl 5 cl) tv vs:=by
  rw[s0]at rf
  exact (rf.Z9 b2).set (by omega) _
 have key:(∃lv tv vs,Value.tuple #[.agg R.toArray,.bool true]=.tuple #[.agg (gd (bH (YM xs)) lv tv).toArray,.bool true]∧Uj (h.size+1) (h2.setIfInBounds h.size (.cells R.toArray 33)) (gd (bH (YM xs)) lv tv) (bH (YM xs)) lv tv vs)∧Zg h.size h (h2.setIfInBounds h.size (.cells R.toArray 33)):=
  ⟨⟨_,tv,vs,by rw[←hR],by rw[←hR];exact rf2⟩,bs⟩
 simp -implicitDefEqProofs only[go_sem,↓reduceIte,r2,r6,w2,nI,hQ,tM,ly,lz,Ys,hR6,e5,et]
 exact⟨⟨key,key⟩,key⟩
def Maj (Q:List Nat):Prop:=Q.Nodup∧(∀i∈Q,i<5)∧3≤Q.length
structure Gh where
 V:Nat→XK→Int→Cm→Prop
 P:XK→Int→Cm→Prop
def ZeM (g:Gh) (M:Nat→XK) (b:XK) (s:Int):Prop:=∃Q,Maj Q∧(∀i∈Q,¬below (M i) b)∧∀i∈Q,∀b' y,below b' b→¬g.V i b' s y
def AF (g:Gh) (s:Int) (x:Cm):Prop:=∃Q b,Maj Q∧∀i∈Q,g.V i b s x
structure PF (g:Gh) (M:Nat→XK) (i:Nat) (b:XK) (vs:List Vt):Prop where
 lt:i<5
 top:¬below (M i) b
 has:∀v∈vs,g.V i v.b v.slot v.cm∧¬below b v.b
 all:∀b' s x,below b' b→g.V i b' s x→∃v∈vs,v.slot=s∧¬below v.b b'
section
variable {i:Nat} {g g':Gh} {M M':Nat→XK}
end
theorem step_end (l:List Nat) (a:Ww):Xn l a l.length=none:=by
 unfold Xn
 rw[if_neg (by omega)]
def Whole (d:List Nat) (a:Ww):Prop:=Rec d Jk 0 a d.length
theorem Whole.nil:Whole [] Jk:=.stop (step_end [] Jk)
theorem Whole.all {d:List Nat} {a:Ww} (h:Whole d a):UX d=(a,d.length):=Mz h
def ZnI:fp→Ww
 | .Gy a _ _ _=>a
 | .Gz a _ _=>a
 | .own a _ _=>a
structure TR (n:Nd):Prop where
 idle:n.up=true→n.ZS=none→Whole n.data n.own∧n.Xe=n.data.length
 busy:n.up=true→∀p,n.ZS=some p→∃d f,n.data=d++Y5 f∧n.Xe=d.length∧Whole d n.own∧Jf n.own f=some (ZnI p)
 down:n.up=false→n.ZS=none∧n.Xe=n.data.length∧∃a j,Rec n.data Jk 0 a j
 len:n.data.length≤100000
def vq (n:Nd):Ww:=if n.up=true then n.own else (UX n.data).1
structure AR (g:Gh) (i:Nat) (a:Ww):Prop where
 has:∀v∈a.l,g.V i v.b v.slot v.cm
 all:∀b s x,g.V i b s x→∃v∈a.l,v.slot=s∧¬below v.b b
structure RR (g:Gh) (M:Nat→XK) (i:Nat) (n:Nd) (r:Qg):Prop where
 node:r.b.n=i
 may:ZU r.b
 prom:∀j vs,Xc r.prom j=some vs→PF g M j.toNat r.b vs
 pn:r.begun=false→∀s x,¬g.P r.b s x
 pr:∀s x,g.P r.b s x→Xc r.prop s=some x
 safe:∀s x,Xc r.prop s=some x→g.P r.b s x
 free:r.begun=true→∀s:Int,(n.log.length:Int)≤s→Xc r.prop s=none→Xc n.known s=none→ZeM g M r.b s
 Jm:∀s K j,Xc r.Jm s=some K→Xc K j=some ()→∃x,g.V j.toNat r.b s x
def PR (g:Gh) (n:Nd):fp→Prop
 | .Gy a to b vs=>a=⟨b,n.own.l⟩∧vs=n.own.l∧Yv n.own.p n.own.l b=0
 | .Gz a to v=>a=⟨v.b,Qv n.own.l v⟩∧YV n.own.p n.own.l v=0∧g.P v.b v.slot v.cm
 | .own a vs cur=>∃b,a=⟨b,n.own.l⟩∧vs=n.own.l∧Yv n.own.p n.own.l b=0∧(cur=true→∃r,n.Zj=some r∧r.b=b)
structure LR (S:Cm→Prop) (g:Gh) (M:Nat→XK) (l:Y2):Prop where
 Gy:l.kind=1→PF g M l.Jl.toNat l.b l.vs
 ask:l.kind=2→g.P l.v.b l.v.slot l.v.cm
 Gz:l.kind=3→g.V l.Jl.toNat l.v.b l.v.slot l.v.cm
 fwd:l.kind=4→S l.v.cm
 cho:l.kind=6→AF g l.v.slot l.v.cm
structure NR (S:Cm→Prop) (g:Gh) (M:Nat→XK) (i:Nat) (n:Nd):Prop where
 acc:AR g i (vq n)
 m:M i=(vq n).p
 tape:TR n
 ZS:∀p,n.ZS=some p→PR g n p
 known:∀s x,Xc n.known s=some x→AF g s x
 log:∀(k:Nat) x,n.log[k]? = some x→AF g (k:Int) x
 que:∀x∈n.queue,S x
 Zj:∀r,n.Zj=some r→RR g M i n r
section
variable {i j:Nat} {g g':Gh} {M M':Nat→XK} {S:Cm→Prop}
end
structure HR (S:Cm→Prop) (g:Gh) (M:Nat→XK) (i:Nat) (o:Out):Prop where
 n:NR S g M i o.n
 up:o.n.up=true
 ls:∀l∈o.ls,LR S g M l
section
variable {S:Cm→Prop} {g:Gh} {M:Nat→XK} {i:Nat} {n:Nd}
end
section
variable {S:Cm→Prop} {g:Gh} {M:Nat→XK} {i:Nat} {n:Nd}
end
section
variable {S:Cm→Prop} {g:Gh} {M:Nat→XK} {i:Nat} {n:Nd}
end
section
variable {S:Cm→Prop} {g:Gh} {M:Nat→XK} {w:Wd}
end
theorem gn (g:Gr):(Vx g).length≤63:=by
 unfold Vx zK
 split
 ·unfold fa
  have:=lT (Ux (DR g).c.toNat) (JT g.a 1000).toNat (lQ (gg g) (gh g) 60 (DR g).k (DR g).c (DR g).s (DR g).n (DR g).v)
  have e:(lQ (gg g) (gh g) 60 (DR g).k (DR g).c (DR g).s (DR g).n (DR g).v).length=42:=by
   unfold lQ
   rw[List.length_append,Nx,ZB];rfl
  rw[List.length_cons];omega
 ·simp
theorem gq (g:Gr):(T5 g).length≤63:=by
 have:=gn g
 unfold T5
 split
 ·rw[List.length_take];omega
 ·exact this
theorem nJ (g:Gr) (cr:Bool):(WW g cr).err=0:=by
 have h1:=UD g.a (m:=5) (by omega)
 have h2:=UD g.c (m:=20) (by omega)
 have h3:=UD g.c (m:=90) (by omega)
 have h4:=gq g
 have mk:∀(k n a b:Int) (len:Nat),(1≤k∧k≤9)→(YI k∧(0≤n∧n≤4)∨¬YI k∧n=0)→(Je k∧(0≤a∧a≤1048576)∨¬Je k∧a=0)→(k=8∧(0≤b∧b≤100000)∨k≠8∧b=0)→len≤2000→(k=1∨len=0)→Qn k n a b len=0:=fun k n a b len q1 q2 q3 q4 q5 q6=>by
  unfold YI at q2
  unfold Je at q3
  unfold Qn YI Je
  rw[if_neg (by omega),if_neg (by omega),if_neg (by omega),if_neg (by omega)]
 unfold WW
 repeat' split
 all_goals
  unfold Raw.err
  refine mk _ _ _ _ _ ?_ ?_ ?_ ?_ ?_ ?_
 all_goals simp[YI,Je]
 all_goals omega
theorem nK (gs:List Gr) (cr:Bool):∀j,∀x∈(T7 gs cr j).2,x.err=0:=by
 have key:∀(l:List Gr) (st:Nat × List Raw),(∀x∈st.2,x.err=0)→∀x∈(l.foldl (Sv cr) st).2,x.err=0:=by
  intro l
  induction l with
  | nil=>intro st h;exact h
  | cons g l ih=>
   intro st h
   refine ih _ (fun x hx=>?_)
   unfold Sv at hx
   rcases List.mem_append.1 hx with hx|hx
   ·exact h x hx
   ·rw[List.mem_singleton.1 hx]
    unfold T6
    split
    ·rfl
    ·exact nJ g cr
 intro j
 exact key _ _ (fun x hx=>by cases hx)
theorem tO (gs:List Gr) (Xm:Nat) (cr:Bool):∀x∈vp gs Xm cr,x.err=0:=nK gs cr Xm
theorem tP (gs:List Gr) (Xm:Nat) (cr:Bool):(vp gs Xm cr).length≤Xm:=by
 unfold vp
 by_cases h:Xm≤gs.length
 ·rw[(P9 gs cr Xm h).1];exact Nat.le_refl _
 ·rw[Dz gs cr Xm (by omega),(P9 gs cr gs.length (Nat.le_refl _)).1];omega
theorem DA {l:List Raw} (h:∀x∈l,x.err=0) (hl:l.length≤100000):WV l=0:=by
 unfold WV
 rw[if_neg (by omega)]
 exact T3 h
def Xx (h0:Hp) (o:Ow) (g:Hp) (v:Value) (l:List Raw):Prop:=
 Kp (fun t=>t=.log 100) SI h0 o g∧∃ys,YM ys=l∧Yt o (.log 100) 36 5 g v ys.length (Zz X6 ys)∧∀y∈ys,Vz o g y.2 y.1.data
theorem Xx.nil (h0:Hp):Xx h0 SI h0 (.slice none 0 0) []:=⟨Kp.refl (OM h0) _,[],rfl,Yt.nil _ _ _ _ _,fun y hy=>by cases hy⟩
theorem Xx.isSlice {h0:Hp} {o:Ow} {g:Hp} {v:Value} {l:List Raw} (A:Xx h0 o g v l):∃p c,v=.slice p l.length c∧l.length≤c:=by
 obtain⟨_,ys,hr,O,_⟩:=A
 obtain⟨p,c,h,hc⟩:=O.isSlice
 have:ys.length=l.length:=by rw[←hr];unfold YM;simp
 rw[this]at h hc
 exact⟨p,c,h,hc⟩
theorem Xx.done {h0:Hp} {o:Ow} {g:Hp} {v:Value} {l:List Raw} (A:Xx h0 o g v l):Zg h0.size h0 g∧VF v∧∃ys,YM ys=l∧Ts X6 5 g v ys∧∀y∈ys,Vz SI g y.2 y.1.data:=by
 obtain⟨p,c,hv,hc⟩:=A.isSlice
 obtain⟨K,ys,hr,O,I⟩:=A
 exact⟨T4 K,by rw[hv];exact hc,ys,hr,⟨O.sl⟩,fun y hy=>⟨⟨(I y hy).1.sl,(I y hy).1.fits,fun b hb=>⟨((I y hy).1.free b hb).1,rfl⟩⟩,(I y hy).2⟩⟩
theorem nL:∀(xs:List (Raw × Value)),(∀x∈xs,∃p n c,x.2=.slice p n c)→(Zz X6 xs).all Z8=true:=by
 intro xs
 induction xs with
 | nil=>intro _;rfl
 | cons x xs ih=>
  intro h
  obtain⟨p,n,c,e⟩:=h x (by simp)
  have h2:=ih (fun y hy=>h y (by simp[hy]))
  rw[show Zz X6 (x :: xs)=X6 x++Zz X6 xs from rfl,List.all_append,h2]
  unfold X6
  rw[e]
  rfl
section
variable {T:World} {K:Value→Hp→Prop} {ty:TypeId} {cb:Array Bool}
theorem Xx.Ti {h0:Hp} {o:Ow} {g:Hp} {v:Value} {l:List Raw} (A:Xx h0 o g v l) (hl:l.length≤1000000000) (X:Raw) (q:Option Addr) (cq:Nat) (im:Vz o g (.slice q X.data.length cq) X.data)
  (H:∀v' o' g',Xx h0 o' g' v' (l++[X])→Kp WT o g o' g'→K v' g'):Tn Tryz.prog T .append #[23,23] ty cb [v,.slice (some ⟨g.size,0,none⟩) 1 1] K (g.push (.cells #[.int .i64 X.k,.int .i64 X.n,.int .i64 X.a,.int .i64 X.b,.slice q X.data.length cq] 36)):=by
 obtain⟨K1,ys,hr,O,I⟩:=A
 have yl:ys.length=l.length:=by rw[←hr];unfold YM;simp
 obtain⟨g6,SG⟩:=ZA (g.push (.cells (WU X.k X.n X.a X.b (.slice q X.data.length cq)).toArray 36):Hp)
 have k6:Kp Qh o g o g6:=by rw[SG];exact ZY K1.ZX _
 have x6:g6[g.size]? = some (.cells (WU X.k X.n X.a X.b (.slice q X.data.length cq)).toArray 36):=by rw[SG];exact Zb
 have src:Sl 5 g6 (.slice (some ⟨g.size,0,none⟩) 1 1) 1 (WU X.k X.n X.a X.b (.slice q X.data.length cq)):=⟨_,1,rfl,rfl,fun _=>⟨g.size,0,rfl,fun i hi=>by
  rw[Zh x6,Yk,Nat.zero_add];exact List.getElem?_eq_getElem hi⟩⟩
 have O6:=O.Zd k6 (fun q=>q)
 show Tn Tryz.prog T .append #[23,23] ty cb [v,.slice (some ⟨g.size,0,none⟩) 1 1] K (g.push (.cells (WU X.k X.n X.a X.b (.slice q X.data.length cq)).toArray 36))
 rw[←SG]
 refine XQ (E:=36) (n:=5) (bytes:=56) (k:=1) jV Tryz.underlying23 wK wP rfl wM O6 k6.ZX src rfl (by omega) (by omega) ?_
 intro v7 o7 g7 O7 k7 _
 have k7:Kp (fun u=>u=.log 100) o g6 o7 g7:=k7
 refine H v7 o7 g7 ⟨(K1.trans (ZF k6)).trans k7,ys++[(X,.slice q X.data.length cq)],?_,?_,fun y hy=>?_⟩ (Yc ((ZF k6).trans k7))
 ·rw[←hr];unfold YM;simp only[List.map_append,List.map_cons,List.map_nil]
 ·have e:Zz X6 (ys++[(X,Value.slice q X.data.length cq)])=Zz X6 ys++WU X.k X.n X.a X.b (.slice q X.data.length cq):=by rw[Yf,QV];rfl
  rw[e,List.length_append]
  exact O7
 ·rcases List.mem_append.1 hy with hy|hy
  ·exact ((I y hy).Zd k6).Zd k7
  ·rw[List.mem_singleton.1 hy]
   exact (im.Zd k6).Zd k7
theorem Xx.add {h0:Hp} {o:Ow} {g:Hp} {v:Value} {l:List Raw} (A:Xx h0 o g v l) (hl:l.length≤1000000000) (k n a b:Int)
  (H:∀v' o' g',Xx h0 o' g' v' (l++[⟨k,n,a,b,[]⟩])→K v' g'):Tn Tryz.prog T .append #[23,23] ty cb [v,.slice (some ⟨g.size,0,none⟩) 1 1] K (g.push (.cells #[.int .i64 k,.int .i64 n,.int .i64 a,.int .i64 b,.slice none 0 0] 36)):=
 A.Ti hl ⟨k,n,a,b,[]⟩ none 0 ⟨Im.nil _ 1 _ none,fun x hx=>by cases hx⟩ (fun v' o' g' A' _=>H v' o' g' A')
theorem Xx.zN {h0:Hp} {o:Ow} {g:Hp} {v:Value} {l:List Raw} (A:Xx h0 o g v l) (hl:l.length≤1000000000) {u:Value} {xs:List (Raw × Value)} (hu:Ts X6 5 g u xs) (hx:∀x∈xs,Vz SI h0 x.2 x.1.data) (GV:xs.length≤1000000000)
  (H:∀v' o' g',Xx h0 o' g' v' (l++YM xs)→K v' g'):Tn Tryz.prog T .append #[23,23] ty cb [v,u] K g:=by
 obtain⟨K1,ys,hr,O,I⟩:=A
 have yl:ys.length=l.length:=by rw[←hr];unfold YM;simp
 refine XQ (E:=36) (n:=5) (bytes:=56) (k:=xs.length) jV Tryz.underlying23 wK wP rfl wM O K1.ZX hu.sl ?_ (by omega) (by omega) ?_
 ·exact nL xs (fun x oK=>by
   obtain⟨p,c,e⟩:=(hx x oK).1.isSlice
   exact⟨p,_,c,e⟩)
 intro v7 o7 g7 O7 k7 _
 have k7:Kp (fun u=>u=.log 100) o g o7 g7:=k7
 refine H v7 o7 g7 ⟨K1.trans k7,ys++xs,?_,?_,fun y hy=>?_⟩
 ·rw[←hr];unfold YM;rw[List.map_append]
 ·rw[Yf,List.length_append];exact O7
 ·rcases List.mem_append.1 hy with hy|hy
  ·exact (I y hy).Zd k7
  ·exact (hx y hy).Zd (K1.trans k7)
end
def QM (n m:Nd):Prop:=m.up=n.up∧m.me=n.me∧∃e,m.log=n.log++e
theorem QM.refl (n:Nd):QM n n:=⟨rfl,rfl,[],by simp⟩
theorem QM.trans {a b c:Nd} (h1:QM a b) (h2:QM b c):QM a c:=by
 obtain⟨u1,m1,e1,l1⟩:=h1
 obtain⟨u2,m2,e2,l2⟩:=h2
 exact⟨by rw[u2,u1],by rw[m2,m1],e1++e2,by rw[l2,l1,List.append_assoc]⟩
theorem QM.same {n m:Nd} (h1:m.up=n.up) (h2:m.me=n.me) (h3:m.log=n.log):QM n m:=⟨h1,h2,[],by rw[h3];simp⟩
theorem GO:∀(k:Nat) (n:Nd),QM n (YJ k n).1:=by
 intro k
 induction k with
 | zero=>intro n;exact .refl n
 | succ k ih=>
  intro n
  unfold YJ
  split
  ·exact .refl n
  ·rename_i x _
   exact QM.trans (b:=UW n x) ⟨rfl,rfl,[x],rfl⟩ (ih _)
theorem Kk (n:Nd) (s:Int) (x:Cm):QM n (Ul n s x).n:=by
 unfold Ul
 exact QM.trans (b:=Uh n s x) (.same rfl rfl rfl) (GO _ _)
theorem Rx (n:Nd) (l:Y2):QM n (notes n l):=by
 unfold notes
 split
 ·exact .same rfl rfl rfl
 ·exact .refl n
theorem nM (n:Nd) (x:Cm):QM n (add n x):=by
 unfold add
 split
 ·exact .refl n
 ·exact .same rfl rfl rfl
theorem DB (n:Nd) (l:Y2):QM n (handle n l).n:=by
 unfold handle
 split
 ·unfold Y1
  repeat' split
  all_goals exact .same rfl rfl rfl
 split
 ·unfold Yz
  split
  ·exact .refl n
  ·rename_i r _
   split
   ·split
    ·exact .same rfl rfl rfl
    ·exact .refl n
   ·split
    ·exact .refl n
    ·split
     ·exact QM.trans (b:=N9 n r l) (.same rfl rfl rfl) (Kk _ _ _)
     ·exact .same rfl rfl rfl
 split
 ·unfold asked
  repeat' split
  all_goals exact .same rfl rfl rfl
 split
 ·exact nM n _
 split
 ·unfold Q4
  split
  ·exact Rx n l
  ·exact Rx n l
 split
 ·exact Kk n _ _
 ·exact Rx n l
theorem Kl:∀(k:List Y2) (n:Nd),QM n (drain n k).n:=by
 intro k
 induction k with
 | nil=>intro n;unfold drain;exact .same rfl rfl rfl
 | cons l k ih=>
  intro n
  unfold drain
  split
  ·exact .same rfl rfl rfl
  ·exact QM.trans (b:={ n with inbox:=k }) (.same rfl rfl rfl) (QM.trans (DB _ l) (ih _))
theorem gu (n:Nd) (r:Qg):QM n (Qw n r).n:=by
 unfold Qw
 split
 ·split
  ·exact .refl n
  ·exact .same rfl rfl rfl
 ·split
  ·exact .refl n
  ·exact .same rfl rfl rfl
theorem AG (n:Nd):QM n (still n):=by
 unfold still
 split
 ·split
  ·exact .same rfl rfl rfl
  ·exact .refl n
 ·exact .refl n
theorem AH (n:Nd):QM n (Yp n).n:=by
 unfold Yp
 split
 ·exact gu _ _
 ·split
  ·exact .refl n
  ·exact .refl n
theorem gv (n:Nd):QM n (Q6 n).n:=by
 have h:=QM.trans (AG n) (AH (still n))
 unfold Q6
 split
 ·exact h
 ·exact h.trans (.same rfl rfl rfl)
theorem DC (n:Nd) (p:fp):QM n (finish (synced n) p).n:=by
 cases p<;>exact .same rfl rfl rfl
theorem gx (n:Nd):QM n (step n).n:=by
 unfold step
 split
 ·split
  ·exact DC n _
  ·split
   ·exact Kl _ n
   ·exact (Kl _ n).trans (gv _)
 ·exact .refl n
def Still (n m:Nd):Prop:=m.up=n.up∧m.me=n.me∧m.log=n.log
theorem Still.refl (n:Nd):Still n n:=⟨rfl,rfl,rfl⟩
theorem Still.trans {a b c:Nd} (h1:Still a b) (h2:Still b c):Still a c:=⟨by rw[h2.1,h1.1],by rw[h2.2.1,h1.2.1],by rw[h2.2.2,h1.2.2]⟩
theorem Ry (w:Wd) (l:Y2) (i:Nat):Still (w.nodes i) ((QX w l).nodes i):=by
 unfold QX
 split
 ·unfold Wd.set
  by_cases e:i=l.to.toNat
  ·simp only[if_pos e];rw[e];exact⟨rfl,rfl,rfl⟩
  ·simp only[if_neg e];exact .refl _
 ·exact .refl _
theorem DD:∀(ls:List Y2) (w:Wd) (i:Nat),Still (w.nodes i) ((ls.foldl QX w).nodes i):=by
 intro ls
 induction ls with
 | nil=>intro w i;exact .refl _
 | cons l ls ih=>intro w i;exact Still.trans (Ry w l i) (ih _ i)
theorem U1 (w:Wd) (k:Nat) (n:Nd) (i:Nat):((w.set k n).nodes i)=if i=k then n else w.nodes i:=rfl
theorem Km (w:Wd) (k:Nat) (o:Out) (i:Nat):((w.out k o).nodes i)=if i=k then o.n else w.nodes i:=rfl
theorem GP (w:Wd) (k:Nat) (data:List Nat) (i:Nat):Still (w.nodes i) ((VU w k data).nodes i):=by
 unfold VU
 split
 ·split
  ·exact .refl _
  ·split
   ·exact .refl _
   ·rw[U1]
    by_cases e:i=k
    ·rw[if_pos e,e]
     unfold OF add
     repeat' split
     all_goals exact⟨rfl,rfl,rfl⟩
    ·rw[if_neg e];exact .refl _
 ·exact .refl _
theorem AI (w:Wd) (k:Nat) (c s:Bool) (i:Nat):Still (w.nodes i) ((pick w k c s).nodes i):=by
 unfold pick
 split
 ·exact .refl _
 ·split
  ·split
   ·exact Ry _ _ _
   ·exact Ry { w with Zn:=_ } _ _
  ·split
   ·exact .refl _
   ·exact .refl _
theorem nN (w:Wd) (a:Ac) (i:Nat) :
  (a.kind=8∧a.node=i∧(act w a).nodes i=crashed i (w.nodes i) a.Zd) ∨
  (¬(1≤a.kind∧a.kind≤8)∧a.node=i∧(act w a).nodes i=started i (w.nodes i)) ∨
  (a.kind=3∧a.node=i∧(w.nodes i).up=true∧QM (w.nodes i) ((act w a).nodes i)) ∨
  Still (w.nodes i) ((act w a).nodes i):=by
 unfold act
 split
 ·exact .inr (.inr (.inr (GP _ _ _ _)))
 split
 ·refine .inr (.inr (.inr ?_))
  rw[U1]
  by_cases e:i=a.node
  ·rw[if_pos e,e]
   unfold lead
   split
   ·exact .refl _
   ·exact⟨rfl,rfl,rfl⟩
  ·rw[if_neg e];exact .refl _
 split
 ·rename_i k
  rw[Km]
  by_cases e:i=a.node
  ·rw[if_pos e,e]
   cases hu:(w.nodes a.node).up with
   | true=>exact .inr (.inr (.inl ⟨k,rfl,rfl,gx _⟩))
   | false=>
    have:(step (w.nodes a.node)).n=w.nodes a.node:=by unfold step;rw[if_neg (by rw[hu];decide)]
    rw[this];exact .inr (.inr (.inr (.refl _)))
  ·rw[if_neg e];exact .inr (.inr (.inr (.refl _)))
 split
 ·exact .inr (.inr (.inr (AI _ _ _ _ _)))
 split
 ·exact .inr (.inr (.inr (DD w.Zn { w with Zn:=[] } i)))
 split
 ·rename_i k
  rw[U1]
  by_cases e:i=a.node
  ·rw[if_pos e,e];exact .inl ⟨k,rfl,rfl⟩
  ·rw[if_neg e];exact .inr (.inr (.inr (.refl _)))
 ·rename_i k1 k2 k3 k4 k5 k6
  rw[U1]
  by_cases e:i=a.node
  ·rw[if_pos e,e];exact .inr (.inl ⟨by omega,rfl,rfl⟩)
  ·rw[if_neg e];exact .inr (.inr (.inr (.refl _)))
theorem NO (i:Nat) (n:Nd):(n.up=true∧started i n=n)∨(n.up=false∧(started i n).up=true∧(started i n).log=[]):=by
 unfold started
 cases hu:n.up with
 | true=>exact .inl ⟨rfl,by simp⟩
 | false=>exact .inr ⟨rfl,rfl,rfl⟩
theorem zO (w:Wd) (a:Ac) (i:Nat) (h8:a.kind≠8):((w.nodes i).up=true→((act w a).nodes i).up=true)∧(a.kind=9→a.node=i→((act w a).nodes i).up=true):=by
 rcases nN w a i with⟨k,_,_⟩|⟨k,e,q⟩|⟨k,_,hu,q,_⟩|⟨q,_⟩
 ·exact (h8 k).elim
 ·rw[q]
  have:(started i (w.nodes i)).up=true:=by
   rcases NO i (w.nodes i) with⟨q1,q⟩|⟨_,q,_⟩
   ·rw[q];exact q1
   ·exact q
  exact⟨fun _=>this,fun _ _=>this⟩
 ·rw[q];exact⟨fun h=>h,fun h=>by omega⟩
 ·rw[q]
  refine⟨fun h=>h,fun h9 e=>?_⟩
  have:(act w a).nodes i=started i (w.nodes i):=by
   unfold act
   rw[if_neg (by omega),if_neg (by omega),if_neg (by omega),if_neg (by omega),if_neg (by omega),if_neg (by omega),U1,if_pos e.symm,e]
  rw[←q,this]
  rcases NO i (w.nodes i) with⟨q1,q⟩|⟨_,q,_⟩
  ·rw[q];exact q1
  ·exact q
theorem zQ (i:Nat):∀(l:List Ac) (w:Wd),(∀a∈l,a.kind≠8)→((w.nodes i).up=true∨∃a∈l,a.kind=9∧a.node=i)→((l.foldl act w).nodes i).up=true:=by
 intro l
 induction l with
 | nil=>
  intro w _ h
  rcases h with h|⟨a,ha,_⟩
  ·exact h
  ·cases ha
 | cons a l ih=>
  intro w hl h
  obtain⟨u1,u2⟩:=zO w a i (hl a (by simp))
  refine ih _ (fun x hx=>hl x (by simp[hx])) ?_
  rcases h with h|⟨b,hb,k,e⟩
  ·exact .inl (u1 h)
  ·rcases List.mem_cons.1 hb with rfl|hb
   ·exact .inl (u2 k e)
   ·exact .inr ⟨b,hb,k,e⟩
structure QN (n:Nd):Prop where
 own:n.own=Jk
 known:n.known=[]
 log:n.log=[]
 Zj:n.Zj=none
 ZS:n.ZS=none
 data:n.data=[]
 Xe:n.Xe=0
def QL (l:Y2):Prop:=l.kind=5
structure QW (w:Wd):Prop where
 nd:∀i,QN (w.nodes i)
 Mc:∀i,∀l∈(w.nodes i).inbox,QL l
 He:∀l∈w.Zn,QL l
 told:w.told=[]
theorem QN.nts {n:Nd} (h:QN n) (l:Y2):QN (notes n l):=by
 unfold notes
 split
 ·exact⟨h.own,h.known,h.log,h.Zj,h.ZS,h.data,h.Xe⟩
 ·exact h
theorem QN.hnd {n:Nd} (h:QN n) {l:Y2} (hl:QL l):QN (handle n l).n∧(handle n l).ls=[]∧(handle n l).ts=[]:=by
 unfold QL at hl
 have e:handle n l=Q4 n l:=by
  unfold handle
  rw[if_neg (by omega),if_neg (by omega),if_neg (by omega),if_neg (by omega),if_pos hl]
 rw[e]
 have e2:Q4 n l=⟨notes n l,[],[]⟩:=by
  unfold Q4
  rw[h.known]
  rfl
 rw[e2]
 exact⟨h.nts l,rfl,rfl⟩
theorem QN.box {n:Nd} (h:QN n) (k:List Y2):QN { n with inbox:=k }:=⟨h.own,h.known,h.log,h.Zj,h.ZS,h.data,h.Xe⟩
theorem QN.drn:∀(k:List Y2) (n:Nd),QN n→(∀l∈k,QL l)→QN (drain n k).n∧(drain n k).ls=[]∧(drain n k).ts=[]∧(drain n k).n.inbox=[]:=by
 intro k
 induction k with
 | nil=>intro n h _;unfold drain;exact⟨h.box [],rfl,rfl,rfl⟩
 | cons l k ih=>
  intro n h hk
  unfold drain
  rw[if_neg (by rw[h.ZS];decide)]
  obtain⟨h1,h2,h3⟩:=(h.box k).hnd (hk l (by simp))
  obtain⟨h4,h5,h6,h7⟩:=ih _ h1 (fun x hx=>hk x (by simp[hx]))
  exact⟨h4,by rw[h2,h5];rfl,by rw[h3,h6];rfl,h7⟩
theorem QN.dty {n:Nd} (h:QN n):QN (Q6 n).n∧(∀l∈(Q6 n).ls,QL l)∧(Q6 n).ts=[]∧(Q6 n).n.inbox=n.inbox:=by
 have e1:still n=n:=by unfold still;rw[h.Zj]
 have e2:Yp n=⟨n,[],[]⟩:=by
  unfold Yp
  rw[h.Zj]
  simp only
  rw[if_neg (by rw[h.own];simp[Jk])]
 unfold Q6
 rw[e1,e2,if_neg (by rw[h.ZS];decide)]
 refine⟨⟨h.own,h.known,h.log,h.Zj,h.ZS,h.data,h.Xe⟩,fun l hl=>?_,rfl,rfl⟩
 have hl:l∈WO (JV n):=by simpa using hl
 unfold WO at hl
 split at hl
 ·rw[List.mem_singleton.1 hl];rfl
 ·cases hl
theorem QN.stp {n:Nd} (h:QN n) (hb:∀l∈n.inbox,QL l):QN (step n).n∧(∀l∈(step n).ls,QL l)∧(step n).ts=[]∧∀l∈(step n).n.inbox,QL l:=by
 unfold step
 split
 ·rw[h.ZS]
  simp only
  obtain⟨h1,h2,h3,h4⟩:=QN.drn n.inbox n h hb
  rw[if_neg (by rw[h1.ZS];decide)]
  obtain⟨d1,d2,d3,d4⟩:=h1.dty
  refine⟨d1,fun l hl=>?_,by rw[h3,d3];rfl,fun l hl=>?_⟩
  ·rw[h2]at hl;exact d2 l (by simpa using hl)
  ·have hl:l∈(Q6 (drain n n.inbox).n).n.inbox:=hl
   rw[d4,h4]at hl;cases hl
 ·exact⟨h,fun l hl=>(by cases hl),rfl,hb⟩
theorem QN.ZE (i:Nat) (up:Bool):QN (blank i up [] 0 Jk):=⟨rfl,rfl,rfl,rfl,rfl,rfl,rfl⟩
theorem QN.crs {n:Nd} (h:QN n) (i:Nat) {k:Int} (hk:0≤k):QN (crashed i n k)∧((crashed i n k).inbox=[]∨crashed i n k=n):=by
 unfold crashed
 split
 ·have ec:Mx n.data n.Xe k=0:=by
   unfold Mx
   rw[h.data,h.Xe]
   simp only[List.length_nil]
   split<;>omega
  rw[ec,h.data]
  split
  ·exact⟨QN.ZE i false,.inl rfl⟩
  ·exact⟨QN.ZE i false,.inl rfl⟩
 ·exact⟨h,.inr rfl⟩
theorem QN.sta {n:Nd} (h:QN n) (i:Nat):QN (started i n)∧((started i n).inbox=[]∨started i n=n):=by
 unfold started
 split
 ·exact⟨h,.inr rfl⟩
 ·have e1:UX []=(Jk,0):=Whole.nil.all
  have e2:GB n.data n.Xe=[]:=by
   unfold GB
   rw[h.data]
   split<;>simp
  have e3:fq n.data n.Xe=0:=by
   unfold fq
   rw[h.data,h.Xe,e1]
   split
   ·rfl
   ·rfl
  rw[e2,e3]
  have e4:(if YX [] (0:Int) then (UX []).1 else Jk)=Jk:=by
   rw[e1];split<;>rfl
  rw[e4]
  exact⟨QN.ZE i true,.inl rfl⟩
theorem AJ {w:Wd} (h:QW w) {l:Y2} (hl:QL l):QW (QX w l):=by
 unfold QX
 split
 ·refine⟨fun i=>?_,fun i x hx=>?_,h.He,h.told⟩
  ·rw[U1]
   by_cases e:i=l.to.toNat
   ·rw[if_pos e];exact (h.nd _).box _
   ·rw[if_neg e];exact h.nd i
  ·rw[U1]at hx
   by_cases e:i=l.to.toNat
   ·rw[if_pos e]at hx
    rcases List.mem_append.1 hx with hx|hx
    ·exact h.Mc _ x hx
    ·rw[List.mem_singleton.1 hx];exact hl
   ·rw[if_neg e]at hx;exact h.Mc i x hx
 ·exact h
theorem tQ:∀(ls:List Y2) (w:Wd),QW w→(∀l∈ls,QL l)→QW (ls.foldl QX w):=by
 intro ls
 induction ls with
 | nil=>intro w h _;exact h
 | cons l ls ih=>intro w h hl;exact ih _ (AJ h (hl l (by simp))) (fun x hx=>hl x (by simp[hx]))
theorem QW.vr {w:Wd} (h:QW w) {fl:List Y2} (hf:∀l∈fl,l∈w.Zn):QW { w with Zn:=fl }:=⟨h.nd,h.Mc,fun l hl=>h.He l (hf l hl),h.told⟩
theorem QW.out {w:Wd} (h:QW w) (i:Nat) {o:Out} (h1:QN o.n) (h2:∀l∈o.ls,QL l) (h3:∀l∈o.n.inbox,QL l) (h4:o.ts=[]):QW (w.out i o):=by
 refine⟨fun j=>?_,fun j l hl=>?_,fun l hl=>?_,?_⟩
 ·rw[Km]
  by_cases e:j=i
  ·rw[if_pos e];exact h1
  ·rw[if_neg e];exact h.nd j
 ·rw[Km]at hl
  by_cases e:j=i
  ·rw[if_pos e]at hl;exact h3 l hl
  ·rw[if_neg e]at hl;exact h.Mc j l hl
 ·have hl:l∈w.Zn++o.ls:=hl
  rcases List.mem_append.1 hl with hl|hl
  ·exact h.He l hl
  ·exact h2 l hl
 ·show w.told++o.ts=[]
  rw[h.told,h4];rfl
theorem ZeN {w:Wd} (h:QW w) {a:Ac} (h2:a.kind≠2) (hk:0≤a.Zd):QW (act w a):=by
 unfold act
 split
 ·unfold VU
  split
  ·split
   ·exact⟨h.nd,h.Mc,h.He,h.told⟩
   ·split
    ·rename_i q
     rw[(h.nd a.node).log]at q
     cases q
    ·rw[VZ]
     have hn:=h.nd a.node
     refine h.out a.node ?_ (fun l hl=>by cases hl) (fun l hl=>h.Mc a.node l ?_) rfl
     ·unfold OF add
      repeat' split
      all_goals exact⟨hn.own,hn.known,hn.log,hn.Zj,hn.ZS,hn.data,hn.Xe⟩
     ·revert hl
      unfold OF add
      repeat' split
      all_goals exact fun hl=>hl
  ·exact h
 split
 ·obtain⟨s1,s2,s3,s4⟩:=(h.nd a.node).stp (h.Mc a.node)
  exact h.out a.node s1 s2 s4 s3
 split
 ·unfold pick
  split
  ·exact h
  ·rename_i l hl
   have hU:=h.He l (List.mem_of_getElem? hl)
   have h':=h.vr (fl:=w.Zn.eraseIdx (a.at'%w.Zn.length)) (fun x hx=>List.mem_of_mem_eraseIdx hx)
   split
   ·split
    ·exact AJ h hU
    ·exact AJ h' hU
   ·split
    ·exact h
    ·exact h'
 split
 ·exact tQ _ _ (h.vr (fl:=[]) (fun l hl=>by cases hl)) h.He
 split
 ·obtain⟨c1,c2⟩:=(h.nd a.node).crs a.node hk
  rw[VZ]
  refine h.out a.node c1 (fun l hl=>by cases hl) (fun l hl=>?_) rfl
  rcases c2 with c2|c2
  ·have hl:l∈(crashed a.node (w.nodes a.node) a.Zd).inbox:=hl
   rw[c2]at hl;cases hl
  ·have hl:l∈(crashed a.node (w.nodes a.node) a.Zd).inbox:=hl
   rw[c2]at hl;exact h.Mc _ l hl
 ·obtain⟨c1,c2⟩:=(h.nd a.node).sta a.node
  rw[VZ]
  refine h.out a.node c1 (fun l hl=>by cases hl) (fun l hl=>?_) rfl
  rcases c2 with c2|c2
  ·have hl:l∈(started a.node (w.nodes a.node)).inbox:=hl
   rw[c2]at hl;cases hl
  ·have hl:l∈(started a.node (w.nodes a.node)).inbox:=hl
   rw[c2]at hl;exact h.Mc _ l hl
theorem ZeO:∀(l:List Ac) (w:Wd),QW w→(∀a∈l,a.kind≠2∧0≤a.Zd)→QW (l.foldl act w):=by
 intro l
 induction l with
 | nil=>intro w h _;exact h
 | cons a l ih=>intro w h hl;exact ih _ (ZeN h (hl a (by simp)).1 (hl a (by simp)).2) (fun x hx=>hl x (by simp[hx]))
theorem AK (l:List Ac) (hl:∀a∈l,a.kind≠2∧0≤a.Zd):(∀i,((SE l).nodes i).log=[])∧(SE l).told=[]:=by
 have h:=ZeO l TY ⟨fun i=>QN.ZE i true,fun i l hl=>(by cases hl),fun l hl=>(by cases hl),rfl⟩ hl
 exact⟨fun i=>(h.nd i).log,h.told⟩
def Two (x y:Nat) (k:Int):Prop:=k=x∨k=y
section
variable {x y:Nat} {n:Nd}
end
section
variable {x y:Nat} {w:Wd}
end
def Rz (n:Nat):Raw:=⟨9,n,0,0,[]⟩
def Hj (n:Nat):Raw:=⟨3,n,0,0,[]⟩
def U2 (k:Nat):List Raw:=(List.range k).map Hj
def XY (k:Nat):List Raw:=(List.range k).map Rz
def Kn:List Raw:=U2 5++[gj]
def Tf (k:Nat):List Raw:=(List.replicate k Kn).flatten
def JU (l:List Raw) (many:Nat):List Raw:=(l++XY 5)++Tf many
theorem DF (k:Nat):U2 (k+1)=U2 k++[Hj k]:=by unfold U2;rw[List.range_succ,List.map_append];rfl
theorem GQ (k:Nat):XY (k+1)=XY k++[Rz k]:=by unfold XY;rw[List.range_succ,List.map_append];rfl
theorem Ko (k:Nat):Tf (k+1)=Tf k++Kn:=by
 unfold Tf
 rw[List.replicate_succ',List.flatten_append]
 simp
theorem Kq (k:Nat):(U2 k).length=k:=by unfold U2;simp
theorem T8 (k:Nat):(XY k).length=k:=by unfold XY;simp
theorem Hk (k:Nat):(Tf k).length=6*k:=by
 induction k with
 | zero=>rfl
 | succ k ih=>rw[Ko,List.length_append,ih];unfold Kn;rw[List.length_append,Kq];simp;omega
theorem NP (l:List Raw) (k:Nat):(JU l k).length=l.length+5+6*k:=by
 unfold JU
 rw[List.length_append,List.length_append,T8,Hk]
theorem Kr {k:Nat} {x:Raw} (h:x∈XY k):∃n,n<k∧x=Rz n:=by
 unfold XY at h
 obtain⟨n,hn,rfl⟩:=List.mem_map.1 h
 exact⟨n,List.mem_range.1 hn,rfl⟩
theorem gy {k:Nat} {x:Raw} (h:x∈U2 k):∃n,n<k∧x=Hj n:=by
 unfold U2 at h
 obtain⟨n,hn,rfl⟩:=List.mem_map.1 h
 exact⟨n,List.mem_range.1 hn,rfl⟩
theorem DG {k:Nat} {x:Raw} (h:x∈Tf k):(∃n,n<5∧x=Hj n)∨x=gj:=by
 unfold Tf at h
 obtain⟨l,hl,hx⟩:=List.mem_flatten.1 h
 rw[(List.mem_replicate.1 hl).2]at hx
 unfold Kn at hx
 rcases List.mem_append.1 hx with hx|hx
 ·exact .inl (gy hx)
 ·exact .inr (List.mem_singleton.1 hx)
theorem Ks {l:List Raw} {k:Nat} {x:Raw} (h:x∈JU l k):x∈l∨(∃n,n<5∧x=Rz n)∨(∃n,n<5∧x=Hj n)∨x=gj:=by
 unfold JU at h
 rcases List.mem_append.1 h with h|h
 ·rcases List.mem_append.1 h with h|h
  ·exact .inl h
  ·exact .inr (.inl (Kr h))
 ·exact .inr (.inr (DG h))
theorem gz:(∀n,n<5→(Rz n).err=0)∧(∀n,n<5→(Hj n).err=0)∧gj.err=0:=by decide
theorem AL {l:List Raw} (h:∀x∈l,x.err=0) (k:Nat):∀x∈JU l k,x.err=0:=fun x hx=>by
 obtain⟨e1,e2,e3⟩:=gz
 rcases Ks hx with hx|⟨n,hn,rfl⟩|⟨n,hn,rfl⟩|rfl
 ·exact h x hx
 ·exact e1 n hn
 ·exact e2 n hn
 ·exact e3
theorem gC (l:List Raw) (k i:Nat) (hi:i<5):((bH (JU l k)).nodes i).up=true:=by
 have e:bH (JU l k)=((XY 5++Tf k).map Raw.ac).foldl act (bH l):=by
  unfold bH SE JU
  rw[List.append_assoc,List.map_append,List.foldl_append]
 rw[e]
 refine zQ i _ _ (fun a ha=>?_) (.inr ⟨(Rz i).ac,List.mem_map.2 ⟨Rz i,List.mem_append.2 (.inl ?_),rfl⟩,rfl,?_⟩)
 ·obtain⟨x,hx,rfl⟩:=List.mem_map.1 ha
  rcases List.mem_append.1 hx with hx|hx
  ·obtain⟨n,_,rfl⟩:=Kr hx
   show (9:Int)≠8
   decide
  ·rcases DG hx with⟨n,_,rfl⟩|rfl
   ·show (3:Int)≠8
    decide
   ·show (7:Int)≠8
    decide
 ·unfold XY
  exact List.mem_map.2 ⟨i,List.mem_range.2 hi,rfl⟩
 ·show ((i:Nat):Int).toNat=i
  omega
theorem Me {A:List Raw} (hA:∀x∈A,x.err=0) (h2:∀x∈A,x.k≠2):(∀i,((bH A).nodes i).log=[])∧(bH A).told=[]:=by
 refine AK _ (fun a ha=>?_)
 obtain⟨z,hz,rfl⟩:=List.mem_map.1 ha
 obtain⟨_,_,_,q4,_⟩:=AA (hA z hz)
 exact⟨h2 z hz,q4.1⟩
theorem tT {α β:Type} {R:α→β→Prop} {l:List α} {k:List β} (s:FJ R l k):∀(i:Nat) (h1:i<l.length) (h2:i<k.length),R l[i] k[i]:=by
 induction s with
 | nil=>intro i h1;cases h1
 | cons a _ ih=>
  intro i h1 h2
  cases i with
  | zero=>exact a
  | succ i=>exact ih i (by simpa using h1) (by simpa using h2)
def ZeP (w:Wd):List (List Cm):=[(w.nodes 0).log,(w.nodes 1).log,(w.nodes 2).log,(w.nodes 3).log,(w.nodes 4).log]
theorem gD (w:Wd) (i:Nat) (hi:i<5):(ZeP w)[i]'hi=(w.nodes i).log:=by
 match i,hi with
 | 0,_=>rfl
 | 1,_=>rfl
 | 2,_=>rfl
 | 3,_=>rfl
 | 4,_=>rfl
theorem nz.log {h:Hp} {R:List Value} {w:Wd} {lv tv:Value} {vs:List Value} (s:nz h R w lv tv vs):∃b o c,lv=.slice (some ⟨b,o,none⟩) 5 c∧b<h.size∧∀n,n<5→∃x,hc h ⟨b,o+n,none⟩=some x∧Ts Qd.C 5 h x (w.nodes n).log:=by
 have vl:vs.length=5:=bI s.each
 obtain⟨p,c,rfl,YO⟩:=s.zC.open (n:=1) (enc:=fun v=>[v]) (fun _=>rfl) (show (1:Nat)≠0 by decide)
 obtain⟨b,o,rfl,hb,hh⟩:=YO (by intro e;rw[e]at vl;cases vl)
 refine⟨b,o,c,by rw[vl],hb,fun n hn=>⟨vs[n],?_,?_⟩⟩
 ·have:=hh n (by omega)
  have:=this.hc (i:=0) rfl
  rw[Nat.mul_one]at this
  exact this
 ·have:=tT s.each n (by omega) hn
  rw[show ([(w.nodes 0).log,(w.nodes 1).log,(w.nodes 2).log,(w.nodes 3).log,(w.nodes 4).log]:List (List Cm))[n]'hn=(w.nodes n).log from gD w n hn]at this
  exact this
theorem AM (T:World) (h:Hp) (v:Value) (xs:List (Raw × Value)) (many:Nat) (hv:Ts X6 5 h v xs) (hx:∀x∈xs,Vz SI h x.2 x.1.data) (GV:xs.length≤1000000) (hm:many≤1000000) :
  Zc Tryz.prog T 22 #[v,.int .i64 many] h fun v' h'=>∃o,Xx h o h' v' (JU (YM xs) many):=by
 have rl:(YM xs).length=xs.length:=by unfold YM;simp
 refine Zc.Zi (args:=[_,_]) Tryz.func22 rfl rfl rfl rfl ?_
 simp -implicitDefEqProofs only[go_sem,↓reduceIte]
 refine (Xx.nil h).zN (by simp) hv hx (by omega) ?_
 intro v1 o1 g1 A1
 rw[List.nil_append]at A1
 simp -implicitDefEqProofs only[go_sem,↓reduceIte]
 refine VS.ZW (fun F g=>F 1=.int .i64 many∧∃(n:Nat) (o:Ow),n≤5∧F 6=.int .i64 n∧Xx h o g (F 5) (YM xs++XY n))
  (fun F _=>5-(vi (F 6)).toNat) rfl ⟨rfl,0,o1,by omega,rfl,by rw[show XY 0=[] from rfl,List.append_nil];exact A1⟩ ?_
 rintro F2 g2 ⟨f1,n,o2,hn,f6,A2⟩
 obtain⟨p2,c2,f5,_⟩:=A2.isSlice
 by_cases ZC:n<5
 ·have ZL:(n:Int)<5:=by omega
  rw[f5]at A2
  simp -implicitDefEqProofs only[go_sem,↓reduceIte,f1,f5,f6,ZL]
  refine A2.add (by rw[List.length_append,T8];omega) 9 n 0 0 ?_
  intro v3 o3 g3 A3
  simp -implicitDefEqProofs only[go_sem,↓reduceIte,f6]
  unfold Y9
  refine⟨⟨f1,n+1,o3,ZC,rfl,?_⟩,?_⟩
  ·rw[GQ,←List.append_assoc];exact A3
  ·simp only[vi,Zl,↓reduceIte,f6];omega
 have YF:¬(n:Int)<5:=by omega
 obtain rfl:n=5:=by omega
 simp -implicitDefEqProofs only[go_sem,↓reduceIte,f1,f6]
 refine VS.ZW (fun F g=>F 1=.int .i64 many∧∃(i:Nat) (o:Ow),i≤many∧F 7=.int .i64 i∧Xx h o g (F 5) ((YM xs++XY 5)++Tf i))
  (fun F _=>many-(vi (F 7)).toNat) rfl ⟨f1,0,o2,by omega,rfl,by rw[show Tf 0=[] from rfl,List.append_nil];exact A2⟩ ?_
 clear f1 f5 f6 A2
 rintro F3 g3 ⟨f1,i,o3,hi,f7,A3⟩
 by_cases ZC:i<many
 ·have ZL:(i:Int)<many:=by omega
  simp -implicitDefEqProofs only[go_sem,↓reduceIte,f1,f7,ZL]
  refine VS.ZW (fun F g=>(F 1=.int .i64 many∧F 7=.int .i64 i)∧∃(n:Nat) (o:Ow),n≤5∧F 8=.int .i64 n∧Xx h o g (F 5) (((YM xs++XY 5)++Tf i)++U2 n))
   (fun F _=>5-(vi (F 8)).toNat) rfl ⟨⟨f1,f7⟩,0,o3,by omega,rfl,by rw[show U2 0=[] from rfl,List.append_nil];exact A3⟩ ?_
  clear f1 f7 A3
  rintro F4 g4 ⟨⟨f1,f7⟩,n,o4,hn,f8,A4⟩
  obtain⟨p4,c4,f5,_⟩:=A4.isSlice
  rw[f5]at A4
  have hlen:(((YM xs++XY 5)++Tf i)++U2 n).length≤100000000:=by
   rw[List.length_append,List.length_append,List.length_append,T8,Hk,Kq];omega
  by_cases hn5:n<5
  ·have ZeQ:(n:Int)<5:=by omega
   simp -implicitDefEqProofs only[go_sem,↓reduceIte,f1,f5,f7,f8,ZeQ]
   refine A4.add (by omega) 3 n 0 0 ?_
   intro v5 o5 g5 A5
   simp -implicitDefEqProofs only[go_sem,↓reduceIte,f8]
   unfold Y9
   refine⟨⟨⟨f1,f7⟩,n+1,o5,hn5,rfl,?_⟩,?_⟩
   ·rw[DF,←List.append_assoc];exact A5
   ·simp only[vi,Zl,↓reduceIte,f8];omega
  ·have ZeQ:¬(n:Int)<5:=by omega
   obtain rfl:n=5:=by omega
   simp -implicitDefEqProofs only[go_sem,↓reduceIte,f1,f5,f7,f8]
   refine A4.add (by omega) 7 0 0 0 ?_
   intro v5 o5 g5 A5
   simp -implicitDefEqProofs only[go_sem,↓reduceIte,f7]
   unfold Y9
   refine⟨⟨f1,i+1,o5,ZC,rfl,?_⟩,?_⟩
   ·rw[Ko]
    unfold Kn
    rw[←List.append_assoc,←List.append_assoc]
    exact A5
   ·simp only[vi,Zl,↓reduceIte,f7];omega
 ·have YF:¬(i:Int)<many:=by omega
  obtain rfl:i=many:=by omega
  obtain⟨p3,c3,f5,_⟩:=A3.isSlice
  simp -implicitDefEqProofs only[go_sem,↓reduceIte,f1,f5,f7,YF]
  rw[f5]at A3
  exact⟨_,A3⟩
theorem gE (T:World) (h:Hp) (v:Value) (xs:List (Raw × Value)) (many:Nat) (hv:Ts X6 5 h v xs) (hx:∀x∈xs,Vz SI h x.2 x.1.data) (GV:xs.length≤1000000) (hm:many≤1000000) :
  Zc Tryz.prog T 22 #[v,.int .i64 many] h fun v' h'=>Zg h.size h h'∧VF v'∧∃ys,YM ys=JU (YM xs) many∧Ts X6 5 h' v' ys∧∀y∈ys,Vz SI h' y.2 y.1.data:=
 (AM T h v xs many hv hx GV hm).mono fun v' h' ⟨_,A⟩=>A.done
def Vy (w:Wd):Nat→List Cm
 | 0=>[]
 | n+1=>if (Vy w n).length<(w.nodes n).log.length then (w.nodes n).log else Vy w n
def lng (w:Wd):List Cm:=Vy w 5
theorem gF (w:Wd):∀n,Vy w n=[]∨∃i,i<n∧Vy w n=(w.nodes i).log:=by
 intro n
 induction n with
 | zero=>exact .inl rfl
 | succ n ih=>
  unfold Vy
  split
  ·exact .inr ⟨n,by omega,rfl⟩
  ·rcases ih with h|⟨i,hi,h⟩
   ·exact .inl h
   ·exact .inr ⟨i,by omega,h⟩
theorem tU (w:Wd):lng w=[]∨∃i,i<5∧lng w=(w.nodes i).log:=gF w 5
theorem AN (T:World) (h:Hp) (w:Wd) (lv tv:Value) (vs:List Value) (ra:nz h (gd w lv tv) w lv tv vs) :
  Zc Tryz.prog T 23 #[.agg (gd w lv tv).toArray] h fun v' h'=>Ts Qd.C 5 h' v' (lng w)∧Zg h.size h h':=by
 obtain⟨b,o,c,rfl,hb,hx⟩:=ra.log
 obtain⟨R,hR⟩:=ZA (gd w (.slice (some ⟨b,o,none⟩) 5 c) tv)
 rw[←hR]
 refine Zc.Zi (args:=[_]) Tryz.func23 rfl rfl rfl rfl ?_
 obtain⟨h1,Yw⟩:=ZA (h.push (.cells R.toArray 33):Hp)
 have e1:=Yw.symm
 have b1:Zg h.size h h1:=by rw[Yw];exact (Zg.refl _ _).add _
 have y1:h1[h.size]? = some (.cells R.toArray 33):=by rw[Yw];exact Zb
 have r6:hc h1 ⟨h.size,6,none⟩=some (.slice (some ⟨b,o,none⟩) 5 c):=by rw[Zh y1,hR];rfl
 have ly:=Za y1
 simp -implicitDefEqProofs only[go_sem,↓reduceIte,e1]
 refine VS.ZW (fun F g=>g=h1∧F 1=.pointer (some ⟨h.size,0,none⟩)∧∃n:Nat,n≤5∧F 4=.int .i64 n∧Ts Qd.C 5 h1 (F 3) (Vy w n))
  (fun F _=>5-(vi (F 4)).toNat) rfl ⟨rfl,rfl,0,by omega,rfl,⟨(Qb.nil 0 0 5 h1).sl⟩⟩ ?_
 rintro F2 g2 ⟨rfl,f1,n,hn,f4,t3⟩
 obtain⟨p3,c3,f3,_⟩:=Jw t3
 by_cases ZC:n<5
 ·have ZL:(n:Int)<5:=by omega
  obtain⟨x,rx,tx⟩:=hx n ZC
  obtain⟨px,cx,rfl,_⟩:=Jw tx
  have rx2:hc g2 ⟨b,o+n,none⟩=some (.slice px (w.nodes n).log.length cx):=by rw[b1.hc (by exact hb)];exact rx
  have tx2:=tx.Z9 b1
  by_cases xR:((w.nodes n).log.length:Int)>(Vy w n).length
  ·simp -implicitDefEqProofs only[go_sem,↓reduceIte,f1,f3,f4,r6,ZL,rx2,xR]
   unfold Y9
   refine⟨⟨rfl,f1,n+1,ZC,rfl,?_⟩,?_⟩
   ·have e:Vy w (n+1)=(w.nodes n).log:=by rw[Vy,if_pos (by omega)]
    rw[e];exact tx2
   ·simp only[vi,Zl,↓reduceIte,f4];omega
  ·simp -implicitDefEqProofs only[go_sem,↓reduceIte,f1,f3,f4,r6,ZL,rx2,xR]
   unfold Y9
   refine⟨⟨rfl,f1,n+1,ZC,rfl,?_⟩,?_⟩
   ·have e:Vy w (n+1)=Vy w n:=by rw[Vy,if_neg (by omega)]
    rw[e];exact t3
   ·simp only[vi,Zl,↓reduceIte,f4];omega
 ·have YF:¬(n:Int)<5:=by omega
  obtain rfl:n=5:=by omega
  rw[f3]at t3
  simp -implicitDefEqProofs only[go_sem,↓reduceIte,f1,f3,f4,r6]
  exact⟨t3,b1⟩
theorem Ie (T:World) (h:Hp) (v:Value) (gs:List Gr) (hv:Ts Gr.C 5 h v gs) (hg:∀g∈gs,g.ok) (tb:DO SI h) :
  Zc Tryz.prog T 5 #[v] h fun v' h'=>v'=.bool true∧Zg h.size h h':=by
 have tk:Tk h:=tb.tk
 refine Zc.Zi (args:=[_]) Tryz.func5 rfl rfl rfl rfl ?_
 simp -implicitDefEqProofs only[go_sem,↓reduceIte]
 refine (gm T h v gs 80 true hv hg (by omega) tk).use ?_
 rintro v1 h1 ⟨b1,Qk,xs,hr,t1,i1⟩
 obtain⟨A,hA⟩:=ZA (vp gs 80 true)
 rw[←hA]at hr
 have Ae:∀x∈A,x.err=0:=by rw[hA];exact tO _ _ _
 have Al:A.length≤80:=by rw[hA];exact tP _ _ _
 have xl:xs.length=A.length:=by rw[←hr];unfold YM;simp
 obtain⟨p,c,rfl,YO⟩:=t1.open Du (by decide)
 simp -implicitDefEqProofs only[go_sem,↓reduceIte]
 refine VS.ZW (fun F g=>F 3=.slice p xs.length c∧∃(i:Nat) (o:Ow),i≤xs.length∧F 5=.int .i64 i∧Xx h1 o g (F 4) ((A.take i).filter fun x=>decide (x.k≠2)))
  (fun F _=>xs.length-(vi (F 5)).toNat) rfl ⟨rfl,0,SI,Nat.zero_le _,rfl,Xx.nil h1⟩ ?_
 rintro F2 g2 ⟨f3,i,o2,hi,f5,A2⟩
 obtain⟨p2,c2,f4,_⟩:=A2.isSlice
 rw[f4]at A2
 by_cases ZC:i<xs.length
 ·have ZL:(i:Int)<xs.length:=by omega
  obtain⟨bb,oo,rfl,UP,PV⟩:=YO (by intro e;rw[e]at ZC;simp at ZC)
  obtain⟨x,TJ⟩:=ZA (xs[i])
  have oK:x∈xs:=by rw[TJ];exact List.getElem_mem ZC
  have im:=(i1 x oK).Zd A2.1
  obtain⟨pd,cd,Ob⟩:=im.1.isSlice
  have ca:YY g2 bb (oo+i*5) (X6 x):=by rw[TJ];exact (PV i ZC).Z9 (T4 A2.1) UP
  have r0:hc g2 ⟨bb,oo+i*5,none⟩=some (.int .i64 x.1.k):=ca.hc (i:=0) rfl
  have r1:rd g2 ⟨bb,oo+i*5,none⟩ 5=some (X6 x):=ca.rd (by simp[X6,WU]) rfl
  unfold X6 WU at r1
  rw[Ob]at r1 im
  have hAl:i<A.length:=by omega
  have hAx:A[i]=x.1:=by
   have:A[i]? = some x.1:=by rw[←hr];unfold YM;rw[List.getElem?_map,List.getElem?_eq_getElem ZC,←TJ];rfl
   rw[List.getElem?_eq_getElem hAl]at this;exact Option.some.inj this
  by_cases q:x.1.k=2
  ·have q':=eq_true q
   simp -implicitDefEqProofs only[go_sem,↓reduceIte,f3,f4,f5,ZL,r0,q']
   unfold Y9
   refine⟨⟨f3,i+1,o2,ZC,rfl,?_⟩,?_⟩
   ·rw[Yd A i hAl,List.filter_append,hAx]
    have:[x.1].filter (fun x=>decide (x.k≠2))=[]:=by simp[q]
    rw[this,List.append_nil]
    rw[←f4]at A2
    exact A2
   ·simp only[vi,Zl,↓reduceIte,f5];omega
  ·simp -implicitDefEqProofs only[go_sem,↓reduceIte,f3,f4,f5,ZL,r0,q,r1]
   refine A2.Ti ?_ x.1 pd cd im ?_
   ·have:=List.length_filter_le (fun x=>decide (x.k≠2)) (A.take i)
    rw[List.length_take]at this
    omega
   intro v3 o3 g3 A3 _
   simp -implicitDefEqProofs only[go_sem,↓reduceIte,f5]
   unfold Y9
   refine⟨⟨f3,i+1,o3,ZC,rfl,?_⟩,?_⟩
   ·rw[Yd A i hAl,List.filter_append,hAx]
    have:[x.1].filter (fun x=>decide (x.k≠2))=[x.1]:=by simp[q]
    rw[this];exact A3
   ·simp only[vi,Zl,↓reduceIte,f5];omega
 have YF:¬(i:Int)<xs.length:=by omega
 obtain rfl:i=xs.length:=by omega
 rw[xl,List.take_of_length_le (Nat.le_refl _)]at A2 f4
 obtain⟨B,hB⟩:∃B,B=A.filter fun x=>decide (x.k≠2):=⟨_,rfl⟩
 rw[←hB]at A2 f4
 have Be:∀x∈B,x.err=0:=fun x hx=>by rw[hB]at hx;exact Ae x (List.mem_filter.1 hx).1
 have Bk:∀x∈B,x.k≠2:=fun x hx=>by rw[hB]at hx;simpa using (List.mem_filter.1 hx).2
 have Bl:B.length≤80:=by
  have:=List.length_filter_le (fun x=>decide (x.k≠2)) A
  rw[←hB]at this;omega
 obtain⟨b2,_,ys,hry,t2,i2⟩:=A2.done
 have yl:ys.length=B.length:=by rw[←hry];unfold YM;simp
 have B2:Zg h.size h g2:=b1.trans (b2.mono b1.size)
 rw[←yl]at t2 f4
 simp -implicitDefEqProofs only[go_sem,↓reduceIte,f3,f4,f5,YF]
 refine (gE T g2 _ ys 40 t2 i2 (by omega) (by omega)).use ?_
 rintro v4 g4 ⟨b4,_,zs,hrz,t4,i4⟩
 have B4:Zg h.size h g4:=B2.trans (b4.mono B2.size)
 rw[hry]at hrz
 have zl:zs.length≤1000:=by
  have:=congrArg List.length hrz
  rw[NP]at this
  unfold YM at this
  rw[List.length_map]at this
  omega
 have Ze:=AL Be 40
 have Zk:∀x∈JU B 40,x.k≠2:=fun x hx=>by
  rcases Ks hx with q|⟨n,_,rfl⟩|⟨n,_,rfl⟩|rfl
  ·exact Bk x q
  ·show (9:Int)≠2;decide
  ·show (3:Int)≠2;decide
  ·show (7:Int)≠2;decide
 have tb4:=tb.Zd (ZD (OM h) B4)
 simp -implicitDefEqProofs only[go_sem,↓reduceIte]
 refine (zM T g4 v4 zs t4 i4 tb4 (by omega) (by rw[hrz];exact DA Ze (by rw[NP];omega))).use ?_
 rw[hrz]
 rintro _ g5 ⟨⟨lv,tv,vs,rfl,rf⟩,b5⟩
 have B5:Zg h.size h g5:=B4.trans (b5.mono B4.size)
 obtain⟨OI,vu⟩:=Me Ze Zk
 have hup:=gC B 40 0 (by omega)
 obtain⟨W,hW⟩:=ZA (bH (JU B 40))
 rw[←hW]at rf OI vu hup ⊢
 have ra:=rf.at
 have ZnJ:lng W=[]:=by
  rcases tU W with q|⟨i,_,q⟩
  ·exact q
  ·rw[q,OI]
 obtain⟨pt,ct,ht,_⟩:=ra.told.open (n:=5) (enc:=L0) (fun _=>rfl) (show (5:Nat)≠0 by decide)
 rw[vu]at ht
 obtain⟨pl,ol,cl,hl,_,_⟩:=ra.log
 subst ht
 subst hl
 obtain⟨R,hR⟩:=ZA (gd W (.slice (some ⟨pl,ol,none⟩) 5 cl) (.slice pt ([]:List TV).length ct))
 rw[←hR]
 have nI:R.length=13:=by rw[hR];rfl
 have hQ:R.all Z8=true:=by rw[hR];rfl
 have hRp:Yn [Value.int .i64 0,.bool false,.bool false,.bool false,.bool false,.bool false,.slice none 0 0,.int .i64 0,.int .i64 0,.int .i64 0,.int .i64 0,.int .i64 0,.slice none 0 0] 0 R=R:=ZO (by rw[nI];rfl)
 have tM:R.length≤13:=by omega
 have et:R.take 13=R:=List.take_of_length_le (by omega)
 obtain⟨g6,SG⟩:=ZA (g5.push (.cells R.toArray 33):Hp)
 have e6:=SG.symm
 have b6:Zg g5.size g5 g6:=by rw[SG];exact (Zg.refl _ _).add _
 have y6:g6[g5.size]? = some (.cells R.toArray 33):=by rw[SG];exact Zb
 have l6:=Za y6
 have u6:hc g6 ⟨g5.size,1,none⟩=some (.bool true):=by rw[Zh y6,hR];show some (Value.bool (W.nodes 0).up)=_;rw[hup]
 have r6:rd g6 ⟨g5.size,0,none⟩ 13=some R:=Zq y6 nI
 have B6:Zg h.size h g6:=B5.trans (b6.mono B5.size)
 have cl6:=AN T g6 W _ _ vs (rf.Z9 b6).at
 rw[←hR]at cl6
 simp -implicitDefEqProofs only[go_sem,↓reduceIte,nI,hQ,hRp,tM,e6,u6,r6,et,l6]
 refine cl6.use ?_
 rintro v7 g7 ⟨t7,b7⟩
 rw[ZnJ]at t7
 obtain⟨p7,c7,rfl,_⟩:=Jw t7
 have y7:=b7.get l6 y6
 have m7:hc g7 ⟨g5.size,12,none⟩=some (.slice pt ([]:List TV).length ct):=by rw[Zh y7,hR];rfl
 simp -implicitDefEqProofs only[go_sem,↓reduceIte,m7]
 exact⟨rfl,B6.trans (b7.mono B6.size)⟩
def TkM (h:Hp):Prop:=Tk h∧FE 0 niv Td h
theorem TkM.tbs {h:Hp} (t:TkM h):DO SI h:=⟨t.1,t.2,rfl,rfl⟩
theorem nO {W:World} (h:laidMetH Tryz.prog [("conclave/sha.numbers", Rows.laid_conclave_sha_numbers),("conclave/order.need", Rows.laid_conclave_order_need)] W):TkM W.heap:=by
 constructor
 ·have h1:=h.filter (fun x=>x.1 == "conclave/sha.numbers")
  exact yh h1
 ·have h1:=h.filter (fun x=>x.1 == "conclave/order.need")
  exact qS h1
theorem gG (os:Os) (args:Array Value):laidMetH Tryz.prog [("conclave/sha.numbers", Rows.laid_conclave_sha_numbers),("conclave/order.need", Rows.laid_conclave_order_need)] ((World.doorLaid Tryz.prog 87 os).forCall (fun _ _=>0) ⟨#[],args,[]⟩).memory:=
 laidMetH_of_parts3 (fuel:=8) (laidMet_of_run' 8 (by kernel_rfl) (by kernel_rfl)) (by kernel_rfl) (by kernel_rfl)
theorem gH {h:Hp} {k:Nat} {v:Value} (hv:fit Tryz.prog h k 22 [v]):∃gs,Ts Gr.C 5 h v gs∧∀g∈gs,g.ok:=by
 obtain⟨gs,s,JF,_⟩:=df (α:=Gr) (enc:=Gr.C) (n:=5) (ok:=fun g=>g.ok) Tryz.underlying22 (by kernel_rfl) (by decide) (fun _=>rfl) (fun k ds vP=>by
  have hlen:ds.length=5:=by
   cases k with
   | zero=>exact vP.elim
   | succ k=>unfold fit at vP;rw[Tryz.underlying81]at vP;exact vP.1
  have hL:=jG (P:=Tryz.prog) (h:=h) 8 k 81 ds (rep 5 [3]) (by kernel_rfl) (by rw[hlen];decide) vP
  obtain⟨a0,_,rfl,q0,p0,hL⟩:=Tv Tryz.underlying3 hL
  obtain⟨a1,_,rfl,q1,p1,hL⟩:=Tv Tryz.underlying3 hL
  obtain⟨a2,_,rfl,q2,p2,hL⟩:=Tv Tryz.underlying3 hL
  obtain⟨a3,_,rfl,q3,p3,hL⟩:=Tv Tryz.underlying3 hL
  obtain⟨a4,_,rfl,q4,p4,hL⟩:=Tv Tryz.underlying3 hL
  obtain rfl:=jH hL
  have mk:∀n:Int,-9223372036854775808≤n→n≤9223372036854775807→i64 n:=fun n h1 h2=>⟨h1,by omega⟩
  exact⟨⟨a0,a1,a2,a3,a4⟩,⟨⟨mk _ q0 p0,mk _ q1 p1⟩,mk _ q2 p2,mk _ q3 p3,mk _ q4 p4⟩,rfl⟩) hv
 exact⟨gs,⟨s⟩,JF⟩
end Go.Proofs.YtkfhncfkagcamaaGreatDoor
