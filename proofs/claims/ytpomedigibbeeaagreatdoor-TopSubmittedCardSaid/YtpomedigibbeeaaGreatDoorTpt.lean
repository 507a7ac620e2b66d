/- The outcome of a script, and logs compared: what the small functions compute; no condition but those in the statements. -/
import Derived.Test.YtpomedigibbeeaaGreatDoorTpb
import Derived.Test.YtpomedigibbeeaaGreatDoorMop
import Derived.Test.YtpomedigibbeeaaGreatDoorTab
import Derived.LaidSub
namespace Go.Proofs.YtpomedigibbeeaaGreatDoor
open Go Go.V
set_option linter.unusedSimpArgs false
set_option linter.unusedVariables false
set_option maxRecDepth 100000
def FM (l:List Raw):Wd:=RY (l.map Raw.ac)
theorem pQ {h:Hp} {v:Value} {l:List (Raw × Value)} (s:Ts JU 5 h v l):∃p c,v=.slice p l.length c:=by
 obtain⟨p,c,h,_⟩:=H8 s;exact⟨p,c,h⟩
theorem dA {α β:Type} {R:α→β→Prop} {l:List α} {k:List β} (h:Cz R l k):l.length=k.length:=by
 induction h with
 | nil=>rfl
 | cons _ _ ih=>rw[List.length_cons,List.length_cons,ih]
set_option maxHeartbeats 4000000 in
theorem Zbw (T:World) (h:Hp) (v:Value) (xs:List (Raw × Value)) (hv:Ts JU 5 h v xs) (hx:∀x∈xs,Tv Pe h x.2 x.1.data) (tb:CI Pe h) (CD:xs.length≤4611686018427387904) (hz:Vp (Y0 xs)=0) :
  Zd Tryz.prog T 12 #[v] h fun v' h'=>(∃lv tv vs,v'=.tuple #[.agg (aH (FM (Y0 xs)) lv tv).toArray,.bool true]∧Uy (h.size+1) h' (aH (FM (Y0 xs)) lv tv) (FM (Y0 xs)) lv tv vs)∧Zg h.size h h':=by
 obtain⟨p,c,jJ⟩:=pQ hv
 subst jJ
 refine Zd.Zj (args:=[_]) Tryz.func12 rfl rfl rfl rfl ?_
 obtain⟨h0,XR⟩:=Zy (h.push (.cells jN.toArray 33):Hp)
 have e0:=XR.symm
 have b0:Zg h.size h h0:=by rw[XR];exact (Zg.refl _ _).add _
 have z0:h0[h.size]? = some (.cells jN.toArray 33):=by rw[XR];exact Zb
 have k0:Kp Qz Pe h Pe h0:=ZC (Ss h) b0
 unfold jN at e0
 simp -implicitDefEqProofs only[go_sem,↓reduceIte,e0]
 refine (vN T h0 _ xs (hv.Ya b0) (fun x qU=>(hx x qU).Zc k0) (tb.Zc k0) CD).use ?_
 rintro v1 h1 ⟨b1,r1⟩
 have B1:=b0.trans (b1.mono b0.size)
 unfold H7 at r1
 rw[if_pos hz]at r1
 obtain⟨R,lv,tv,vs,rfl,rf⟩:=r1
 have ra:=rf.at
 obtain⟨pl,cl,hl,_⟩:=ra.Zbp.open (n:=1) (enc:=fun v=>[v]) (fun _=>rfl) (show (1:Nat)≠0 by decide)
 have vl:vs.length=5:=dA ra.each
 subst hl
 rw[vl]at *
 have rc:=ra.cells
 subst rc
 obtain⟨R,hR⟩:=Zy (aH (FM (Y0 xs)) (.slice pl 5 cl) tv)
 have hR':aH (RY (List.map Raw.ac (Y0 xs))) (.slice pl 5 cl) tv=R:=by rw[hR];rfl
 rw[hR']
 rw[hR']at ra rf
 obtain⟨pt,ct,ht,_⟩:=ra.told.open (n:=5) (enc:=Kx) (fun _=>rfl) (show (5:Nat)≠0 by decide)
 have qV:R.length=13:=by rw[hR];rfl
 have jK:R.all Z7=true:=by rw[hR,ht];rfl
 have hRp:Ys [Value.int .i64 0,.bool false,.bool false,.bool false,.bool false,.bool false,.slice none 0 0,.int .i64 0,.int .i64 0,.int .i64 0,.int .i64 0,.int .i64 0,.slice none 0 0] 0 R=R:=ZP (by rw[qV];rfl)
 have vO:R.length≤13:=by omega
 have hR6:nth R 6=some (.slice pl 5 cl):=by rw[hR];rfl
 obtain⟨h2,Wl⟩:=Zy (h1.push (.cells R.toArray 33):Hp)
 have e2:=Wl.symm
 have b2:Zg h1.size h1 h2:=by rw[Wl];exact (Zg.refl _ _).add _
 have y2:h2[h1.size]? = some (.cells R.toArray 33):=by rw[Wl];exact Zb
 have z2:=b2.get (Za (b1.get (Za z0) z0)) (b1.get (Za z0) z0)
 have lz:=Za z2
 have ly:=Za y2
 have r2:rd h2 ⟨h1.size,0,none⟩ 13=some R:=Zp y2 qV
 have r6:hc h2 ⟨h1.size,6,none⟩=some (.slice pl 5 cl):=by rw[Zh y2];exact hR6
 have w2:wr h2 ⟨h.size,0,none⟩ R=some (h2.setIfInBounds h.size (.cells R.toArray 33)):=by
  rw[ZS z2 0 _,if_pos ⟨by rw[qV];decide,jK⟩]
  have:Ys jN 0 R=R:=ZP (by rw[qV];rfl)
  rw[this]
 have z3:=Zv (o:=.cells R.toArray 33) z2
 have r3:=Zp z3 qV
 simp -implicitDefEqProofs only[go_sem,↓reduceIte,qV,jK,hRp,vO,e2]
 refine VS.z (h.size) [0,5,9] (.p 1 (.p 2 (.p 3 (.p 4 (.or 0 (.or 5 (.p 6 (.p 7 (.p 8 (.w 9 (.p 10 .nil))))) (.s 9 (.w 5 (.p 6 (.p 7 (.p 8 (.p 10 .nil))))))) (.s 5 (.p 6 (.p 7 (.p 8 (.w 0 (.w 9 (.p 10 .nil)))))))))))) mixed (by kernel_rfl) ?_
 have s0:h0.size=h.size+1:=by rw[XR];simp
 have Yw:¬h1.size=h.size:=by have:=b1.size;omega
 have e5:decide (((5:Nat):Int)=5)=true:=rfl
 have et:R.take 13=R:=List.take_of_length_le (by omega)
 have bs:Zg h.size h (h2.setIfInBounds h.size (.cells R.toArray 33)):=(B1.trans (b2.mono B1.size)).Zl (Nat.le_refl _) _
 have rf2:Uy (h.size+1) (h2.setIfInBounds h.size (.cells R.toArray 33)) R (RY (List.map Raw.ac (Y0 xs))) (.slice pl 5 cl) tv vs:=by
  rw[s0]at rf
  exact (rf.Ya b2).set (by omega) _
 have key:(∃lv tv vs,Value.tuple #[.agg R.toArray,.bool true]=.tuple #[.agg (aH (FM (Y0 xs)) lv tv).toArray,.bool true]∧Uy (h.size+1) (h2.setIfInBounds h.size (.cells R.toArray 33)) (aH (FM (Y0 xs)) lv tv) (FM (Y0 xs)) lv tv vs)∧Zg h.size h (h2.setIfInBounds h.size (.cells R.toArray 33)):=
  ⟨⟨_,tv,vs,by rw[←hR],by rw[←hR];exact rf2⟩,bs⟩
 simp -implicitDefEqProofs only[go_sem,↓reduceIte,r2,r6,w2,qV,jK,vO,ly,lz,Yw,hR6,e5,et]
 exact⟨⟨key,key⟩,key⟩
theorem Q6 (a:YG):¬below a a:=by unfold below;omega
theorem Jg {a b c:YG} (h1:¬below b a) (h2:¬below c b):¬below c a:=by unfold below at *;omega
theorem yp {a b:YG} (h:below a b):¬below b a:=by unfold below at *;omega
theorem Zbx {a b:YG} (h1:¬below a b) (h2:¬below b a):a=b:=by
 obtain⟨r,n⟩:=a
 obtain⟨s,m⟩:=b
 unfold below at h1 h2
 simp only at h1 h2
 rw[YG.mk.injEq]
 omega
theorem pR {α:Type} [DecidableEq α]:∀{l C:List α},l.Nodup→(∀x∈l,x∈C)→l.length≤C.length:=by
 intro l
 induction l with
 | nil=>intro C _ _;simp
 | cons x l ih=>
  intro C hn h
  rw[List.nodup_cons]at hn
  have h1:=ih (C:=C.erase x) hn.2 (fun y hy=>(List.mem_erase_of_ne (fun e=>hn.1 (by rw[←e];exact hy))).2 (h y (by simp[hy])))
  have h2:x∈C:=h x (by simp)
  have h3:=List.length_erase_of_mem h2
  have h4:0<C.length:=List.length_pos_of_mem h2
  simp only[List.length_cons]
  omega
def Maj (Q:List Nat):Prop:=Q.Nodup∧(∀i∈Q,i<5)∧3≤Q.length
theorem Maj.meet {Q R:List Nat} (q:Maj Q) (r:Maj R):∃i,i∈Q∧i∈R:=by
 refine Classical.byContradiction fun h=>?_
 have hd:(Q++R).Nodup:=by
  rw[List.nodup_append]
  exact⟨q.1,r.1,fun a ha b hb e=>h ⟨a,ha,by rw[e];exact hb⟩⟩
 have:=pR (C:=List.range 5) hd (fun x hx=>by
  rw[List.mem_range]
  rcases List.mem_append.1 hx with hx|hx
  ·exact q.2.1 x hx
  ·exact r.2.1 x hx)
 have h1:=q.2.2
 have h2:=r.2.2
 simp only[List.length_append,List.length_range]at this
 omega
structure Gh where
 V:Nat→YG→Int→Cm→Prop
 P:YG→Int→Cm→Prop
def Ms (g:Gh) (M:Nat→YG) (b:YG) (s:Int):Prop:=∃Q,Maj Q∧(∀i∈Q,¬below (M i) b)∧∀i∈Q,∀b' y,below b' b→¬g.V i b' s y
def Safe (g:Gh) (M:Nat→YG) (b:YG) (s:Int) (x:Cm):Prop:=
 ∃Q,Maj Q∧(∀i∈Q,¬below (M i) b)∧((∀i∈Q,∀b' y,below b' b→¬g.V i b' s y)∨∃b0 j,below b0 b∧g.V j b0 s x∧∀i∈Q,∀b' y,below b' b→g.V i b' s y→¬below b0 b')
theorem Ms.safe {g:Gh} {M:Nat→YG} {b:YG} {s:Int} (h:Ms g M b s) (x:Cm):Safe g M b s x:=by
 obtain⟨Q,q,h1,h2⟩:=h
 exact⟨Q,q,h1,.inl h2⟩
structure GI (S:Cm→Prop) (g:Gh) (M:Nat→YG):Prop where
 vp:∀i b s x,g.V i b s x→g.P b s x
 one:∀b s x y,g.P b s x→g.P b s y→x=y
 top:∀i b s x,g.V i b s x→¬below (M i) b
 may:∀b s x,g.P b s x→ZM b
 safe:∀b s x,g.P b s x→Safe g M b s x
 own:∀b s x,g.P b s x→¬below (M b.n.toNat) b
 cmd:∀b s x,g.P b s x→x=Ks∨S x
def Q2 (g:Gh) (s:Int) (x:Cm):Prop:=∃Q b,Maj Q∧∀i∈Q,g.V i b s x
theorem Q2.prop {S:Cm→Prop} {g:Gh} {M:Nat→YG} (G:GI S g M) {s:Int} {x:Cm} (hx:Q2 g s x):∃b,g.P b s x:=by
 obtain⟨Q,b,q,h⟩:=hx
 obtain⟨i,h1,_⟩:=q.meet q
 exact⟨b,G.vp _ _ _ _ (h i h1)⟩
structure Ext (i:Nat) (g:Gh) (M:Nat→YG) (g':Gh) (M':Nat→YG):Prop where
 v:∀j b s x,g.V j b s x→g'.V j b s x
 p:∀b s x,g.P b s x→g'.P b s x
 m:∀j,¬below (M' j) (M j)
 fz:∀j b s x,g'.V j b s x→g.V j b s x∨¬below b (M j)
 oth:∀j,j≠i→M' j=M j∧∀b s x,g'.V j b s x→g.V j b s x
 own:∀b s x,g'.P b s x→g.P b s x∨b.n=i
theorem Ext.refl (i:Nat) (g:Gh) (M:Nat→YG):Ext i g M g M:=⟨fun _ _ _ _ h=>h,fun _ _ _ h=>h,fun _=>Q6 _,fun _ _ _ _ h=>.inl h,fun _ _=>⟨rfl,fun _ _ _ h=>h⟩,fun _ _ _ h=>.inl h⟩
structure PF (g:Gh) (M:Nat→YG) (i:Nat) (b:YG) (vs:List Vt):Prop where
 lt:i<5
 top:¬below (M i) b
 has:∀v∈vs,g.V i v.b v.slot v.cm∧¬below b v.b
 all:∀b' s x,below b' b→g.V i b' s x→∃v∈vs,v.slot=s∧¬below v.b b'
section
variable {i:Nat} {g g':Gh} {M M':Nat→YG}
theorem Ext.frozen (E:Ext i g M g' M') {j:Nat} {b b':YG} {s:Int} {x:Cm} (h:¬below (M j) b) (hb:below b' b) (hv:g'.V j b' s x):g.V j b' s x:=by
 rcases E.fz _ _ _ _ hv with q|q
 ·exact q
 ·exact (Jg h q hb).elim
theorem PF.ext (E:Ext i g M g' M') {j:Nat} {b:YG} {vs:List Vt} (h:PF g M j b vs):PF g' M' j b vs:=
 ⟨h.lt,Jg h.top (E.m j),fun v hv=>⟨E.v _ _ _ _ (h.has v hv).1,(h.has v hv).2⟩,fun b' s x hb hv=>h.all b' s x hb (E.frozen h.top hb hv)⟩
theorem Q2.ext (E:Ext i g M g' M') {s:Int} {x:Cm} (h:Q2 g s x):Q2 g' s x:=by
 obtain⟨Q,b,q,h⟩:=h
 exact⟨Q,b,q,fun i hi=>E.v _ _ _ _ (h i hi)⟩
theorem Ms.ext (E:Ext i g M g' M') {b:YG} {s:Int} (h:Ms g M b s):Ms g' M' b s:=by
 obtain⟨Q,q,h1,h2⟩:=h
 exact⟨Q,q,fun i hi=>Jg (h1 i hi) (E.m i),fun i hi b' y hb hv=>h2 i hi b' y hb (E.frozen (h1 i hi) hb hv)⟩
theorem Safe.ext (E:Ext i g M g' M') {b:YG} {s:Int} {x:Cm} (h:Safe g M b s x):Safe g' M' b s x:=by
 obtain⟨Q,q,h1,h2⟩:=h
 refine⟨Q,q,fun i hi=>Jg (h1 i hi) (E.m i),?_⟩
 rcases h2 with h2|⟨b0,j,h3,h4,h5⟩
 ·exact .inl fun i hi b' y hb hv=>h2 i hi b' y hb (E.frozen (h1 i hi) hb hv)
 ·exact .inr ⟨b0,j,h3,E.v _ _ _ _ h4,fun i hi b' y hb hv=>h5 i hi b' y hb (E.frozen (h1 i hi) hb hv)⟩
end
def Rc (M:Nat→YG) (i:Nat) (b:YG):Nat→YG:=fun j=>if j=i then b else M j
theorem raised {S:Cm→Prop} {i:Nat} {g:Gh} {M:Nat→YG} (G:GI S g M) {b:YG} (hb:¬below b (M i)):Ext i g M g (Rc M i b)∧GI S g (Rc M i b):=by
 have hm:∀j,¬below (Rc M i b j) (M j):=fun j=>by
  unfold Rc;split
  ·rename_i e;rw[e];exact hb
  ·exact Q6 _
 have E:Ext i g M g (Rc M i b):=⟨fun _ _ _ _ h=>h,fun _ _ _ h=>h,hm,fun _ _ _ _ h=>.inl h,fun j hj=>⟨by unfold Rc;rw[if_neg hj],fun _ _ _ h=>h⟩,fun _ _ _ h=>.inl h⟩
 exact⟨E,G.vp,G.one,fun j c s x h=>Jg (G.top j c s x h) (hm j),G.may,fun c s x h=>(G.safe c s x h).ext E,fun c s x h=>Jg (G.own c s x h) (hm _),G.cmd⟩
def aM (g:Gh) (i:Nat) (b:YG) (s:Int) (x:Cm):Gh:=⟨fun j c t y=>g.V j c t y∨(j=i∧c=b∧t=s∧y=x),g.P⟩
theorem Zgn {S:Cm→Prop} {i:Nat} {g:Gh} {M:Nat→YG} (G:GI S g M) {b:YG} {s:Int} {x:Cm} (hp:g.P b s x) (hb:¬below b (M i)):Ext i g M (aM g i b s x) (Rc M i b)∧GI S (aM g i b s x) (Rc M i b):=by
 have hm:∀j,¬below (Rc M i b j) (M j):=fun j=>by
  unfold Rc;split
  ·rename_i e;rw[e];exact hb
  ·exact Q6 _
 have E:Ext i g M (aM g i b s x) (Rc M i b):=by
  refine⟨fun _ _ _ _ h=>.inl h,fun _ _ _ h=>h,hm,fun j c t y h=>?_,fun j hj=>⟨by unfold Rc;rw[if_neg hj],fun c t y h=>?_⟩,fun _ _ _ h=>.inl h⟩
  ·rcases h with h|⟨rfl,rfl,rfl,rfl⟩
   ·exact .inl h
   ·exact .inr hb
  ·rcases h with h|⟨rfl,_⟩
   ·exact h
   ·exact (hj rfl).elim
 refine⟨E,fun j c t y h=>?_,G.one,fun j c t y h=>?_,G.may,fun c t y h=>(G.safe c t y h).ext E,fun c t y h=>Jg (G.own c t y h) (hm _),G.cmd⟩
 ·rcases h with h|⟨rfl,rfl,rfl,rfl⟩
  ·exact G.vp _ _ _ _ h
  ·exact hp
 ·rcases h with h|⟨rfl,rfl,rfl,rfl⟩
  ·exact Jg (G.top _ _ _ _ h) (hm j)
  ·unfold Rc;rw[if_pos rfl];exact Q6 _
def dB (g:Gh) (b:YG) (l:List (Int × Cm)):Gh:=⟨g.V,fun c t y=>g.P c t y∨(c=b∧Yr l t=some y)⟩
theorem pS {S:Cm→Prop} {i:Nat} {g:Gh} {M:Nat→YG} (G:GI S g M) {b:YG} {l:List (Int × Cm)} (hn:b.n=i) (hm:ZM b) (ht:¬below (M i) b) (h1:∀t y,g.P b t y→Yr l t=some y) (h2:∀t y,Yr l t=some y→Safe g M b t y) (h3:∀t y,Yr l t=some y→y=Ks∨S y) :
  Ext i g M (dB g b l) M∧GI S (dB g b l) M:=by
 have E:Ext i g M (dB g b l) M:=by
  refine⟨fun _ _ _ _ h=>h,fun _ _ _ h=>.inl h,fun _=>Q6 _,fun _ _ _ _ h=>.inl h,fun j hj=>⟨rfl,fun _ _ _ h=>h⟩,fun c t y h=>?_⟩
  rcases h with h|⟨rfl,_⟩
  ·exact .inl h
  ·exact .inr hn
 refine⟨E,fun j c t y h=>.inl (G.vp _ _ _ _ h),fun c t y z hy hz=>?_,G.top,fun c t y h=>?_,fun c t y h=>?_,fun c t y h=>?_,fun c t y h=>?_⟩
 ·rcases hy with hy|⟨rfl,hy⟩
  ·rcases hz with hz|⟨rfl,hz⟩
   ·exact G.one _ _ _ _ hy hz
   ·have:=h1 _ _ hy
    rw[hz]at this;exact (Option.some.inj this).symm
  ·rcases hz with hz|⟨_,hz⟩
   ·have:=h1 _ _ hz
    rw[hy]at this;exact Option.some.inj this
   ·rw[hy]at hz;exact Option.some.inj hz
 ·rcases h with h|⟨rfl,_⟩
  ·exact G.may _ _ _ h
  ·exact hm
 ·rcases h with h|⟨rfl,h⟩
  ·exact (G.safe _ _ _ h).ext E
  ·exact (h2 _ _ h).ext E
 ·rcases h with h|⟨rfl,h⟩
  ·exact G.own _ _ _ h
  ·rw[hn];exact ht
 ·rcases h with h|⟨rfl,h⟩
  ·exact G.cmd _ _ _ h
  ·exact h3 _ _ h
theorem Ns {n:Nat} (h:n<4294967296):n/16777216%256*16777216+n/65536%256*65536+n/256%256*256+n%256=n:=by omega
theorem Ck {a:Qw} {b:YG} (h:Yq a.p a.l b=0):Xy a (XT b)=some ⟨b,a.l⟩:=by
 have hb:=SY h
 obtain⟨r,m⟩:=b
 unfold ZM at hb
 simp only at hb
 have e1:Y8 (XT ⟨r,m⟩) 1=r.toNat:=by
  have:Y8 (XT ⟨r,m⟩) 1=r.toNat/16777216%256*16777216+r.toNat/65536%256*65536+r.toNat/256%256*256+r.toNat%256:=by simp[Y8,XT,Zs,XK]
  rw[this];exact Ns (by omega)
 have e2:Y8 (XT ⟨r,m⟩) 5=m.toNat:=by
  have:Y8 (XT ⟨r,m⟩) 5=m.toNat/16777216%256*16777216+m.toNat/65536%256*65536+m.toNat/256%256*256+m.toNat%256:=by simp[Y8,XT,Zs,XK]
  rw[this];exact Ns (by omega)
 have e3:(⟨((Y8 (XT ⟨r,m⟩) 1:Nat):Int),((Y8 (XT ⟨r,m⟩) 5:Nat):Int)⟩:YG)=⟨r,m⟩:=by
  rw[e1,e2,YG.mk.injEq];omega
 unfold Xy
 rw[if_pos ⟨rfl,rfl⟩,e3,if_pos h]
theorem pT {a:Qw} {v:Vt} (h:YK a.p a.l v=0):Xy a (Qv v)=some ⟨v.b,JA a.l v⟩:=by
 have hv:=Nr h
 obtain⟨s,⟨r,m⟩,k,c,q,nm,x⟩:=v
 obtain⟨h1,h2,h3⟩:=hv
 unfold ZM at h2
 simp only at h1 h2 h3
 obtain⟨k',c',q',n',x',rfl,rfl,rfl,rfl,rfl,b1,b2,b3,b4,b5⟩:=Tm h3
 have f:∀(i:Nat) (n:Nat),Y8 (Qv ⟨s,⟨r,m⟩,k',c',q',n',x'⟩) i=n/16777216%256*16777216+n/65536%256*65536+n/256%256*256+n%256→n<4294967296→Y8 (Qv ⟨s,⟨r,m⟩,k',c',q',n',x'⟩) i=n:=fun i n e hn=>by rw[e];exact Ns hn
 have e1:=f 1 s.toNat (by simp[Y8,Qv,Zs,XK]) (by omega)
 have e2:=f 5 r.toNat (by simp[Y8,Qv,Zs,XK]) (by omega)
 have e3:=f 9 m.toNat (by simp[Y8,Qv,Zs,XK]) (by omega)
 have e4:=f 13 k' (by simp[Y8,Qv,Zs,XK]) (by omega)
 have e5:=f 17 c' (by simp[Y8,Qv,Zs,XK]) (by omega)
 have e6:=f 21 q' (by simp[Y8,Qv,Zs,XK]) (by omega)
 have e7:=f 25 n' (by simp[Y8,Qv,Zs,XK]) (by omega)
 have e8:=f 29 x' (by simp[Y8,Qv,Zs,XK]) (by omega)
 have hl:(Qv ⟨s,⟨r,m⟩,k',c',q',n',x'⟩).length=33:=rfl
 obtain⟨L,hL⟩:=Zy (Qv ⟨s,⟨r,m⟩,k',c',q',n',x'⟩)
 have h0:L.getD 0 0=2:=by rw[hL];rfl
 rw[←hL]at e1 e2 e3 e4 e5 e6 e7 e8 hl ⊢
 have d4:JE (L.drop 13)=0:=by
  unfold JE
  rw[if_pos (by rw[List.length_drop];omega),JL,JL,JL,JL,JL,e4,e5,e6,e7,e8]
  exact h3
 have d5:DG (L.drop 13) ⟨((Y8 L 1:Nat):Int),⟨((Y8 L 5:Nat):Int),((Y8 L 9:Nat):Int)⟩,0,0,0,0,0⟩=⟨s,⟨r,m⟩,k',c',q',n',x'⟩:=by
  unfold DG
  dsimp only
  rw[JL,JL,JL,JL,JL,e1,e2,e3,e4,e5,e6,e7,e8,Vt.mk.injEq,YG.mk.injEq]
  refine⟨by omega,⟨by omega,by omega⟩,rfl,rfl,rfl,rfl,rfl⟩
 have d6:(⟨((Y8 L 5:Nat):Int),((Y8 L 9:Nat):Int)⟩:YG)=⟨r,m⟩:=by rw[e2,e3,YG.mk.injEq];omega
 unfold Xy
 rw[if_neg (by omega),if_pos ⟨hl,h0⟩,if_neg (by rw[d4];decide),d5,d6,if_pos h]
theorem Ga {d:List Nat} {a a':Qw} {k k':Nat} (h:Yl d a k=some (a',k')):k<k'∧k'≤d.length:=by
 unfold Yl at h
 split at h
 ·rename_i q
  rw[Option.map_eq_some_iff]at h
  obtain⟨x,_,e⟩:=h
  simp only[Prod.mk.injEq]at e
  omega
 ·cases h
theorem Cl {d e:List Nat} {k:Nat} (h:k<d.length):(d++e).getD k 0=d.getD k 0:=by
 rw[List.getD_eq_getElem?_getD,List.getD_eq_getElem?_getD,List.getElem?_append_left h]
theorem La {d e:List Nat} {k n:Nat} (h:k+n≤d.length):((d++e).drop k).take n=(d.drop k).take n:=by
 rw[List.drop_append_of_le_length (by omega),List.take_append_of_le_length (by rw[List.length_drop];omega)]
theorem pU {d:List Nat} {a a':Qw} {k k':Nat} (h:Yl d a k=some (a',k')) (e:List Nat):Yl (d++e) a k=some (a',k'):=by
 unfold Yl at h ⊢
 split at h
 ·rename_i q
  have q1:Um (d++e) k=Um d k:=by unfold Um;rw[Cl q.1]
  have h1:1≤Um d k:=by unfold Um;omega
  have q2:(Wq (((d++e).drop k).take (Um d k))).take 4=((d++e).drop (k+Um d k)).take 4:=by
   rw[La (by omega),La (by omega)];exact q.2.2
  rw[q1,if_pos ⟨by rw[List.length_append];omega,by rw[List.length_append];omega,q2⟩,La (by omega),h]
 ·cases h
theorem pV {d:List Nat} {a a':Qw} {k k':Nat} (h:Yl d a k=some (a',k')) {j:Nat} (hj:k'≤j):Yl (d.take j) a k=some (a',k'):=by
 unfold Yl at h ⊢
 split at h
 ·rename_i q
  rw[Option.map_eq_some_iff]at h
  obtain⟨x,hx,e⟩:=h
  simp only[Prod.mk.injEq]at e
  obtain⟨e1,e2⟩:=e
  have q0:d=d.take j++d.drop j:=(List.take_append_drop j d).symm
  have ql:(d.take j).length=min j d.length:=List.length_take
  have q1:Um d k=Um (d.take j) k:=by
   unfold Um
   conv=>lhs;rw[q0]
   rw[Cl (by omega)]
  have hN:1≤Um d k:=by unfold Um;omega
  have m1:∀a n,a+n≤j→a+n≤d.length→(d.drop a).take n=((d.take j).drop a).take n:=fun a n h1 h2=>by
   conv=>lhs;rw[q0]
   exact La (by omega)
  have q2:(Wq (((d.take j).drop k).take (Um d k))).take 4=((d.take j).drop (k+Um d k)).take 4:=by
   rw[←m1 _ _ (by omega) (by omega),←m1 _ _ (by omega) (by omega)];exact q.2.2
  rw[←q1,if_pos ⟨by omega,by omega,q2⟩,←m1 _ _ (by omega) (by omega),hx,←e1,←e2,Option.map_some]
 ·cases h
theorem Rec.fits {l:List Nat} {a r:Qw} {k j:Nat} (h:Rec l a k r j):k≤l.length→k≤j∧j≤l.length:=by
 induction h with
 | stop e=>intro h;omega
 | go e _ ih=>
  intro h
  have h1:=Ga e
  have h2:=ih h1.2
  omega
theorem Rec.app {l e:List Nat} {a r r':Qw} {k j j':Nat} (h:Rec l a k r j) (h2:Rec (l++e) r j r' j'):Rec (l++e) a k r' j':=by
 induction h with
 | stop _=>exact h2
 | go s _ ih=>exact .go (pU s e) (ih h2)
theorem step_end (l:List Nat) (a:Qw):Yl l a l.length=none:=by
 unfold Yl
 rw[if_neg (by omega)]
theorem Rec.cut {l:List Nat} {a r:Qw} {k j:Nat} (h:Rec l a k r j):k≤l.length→Rec (l.take j) a k r j:=by
 induction h with
 | stop e=>
  intro h
  rename_i k
  have:=step_end (l.take k) ‹Qw›
  rw[List.length_take,Nat.min_eq_left h]at this
  exact .stop this
 | go s h2 ih=>
  intro h
  have h1:=Ga s
  have h3:=h2.fits h1.2
  exact .go (pV s h3.1) (ih h1.2)
def Whole (d:List Nat) (a:Qw):Prop:=Rec d XU 0 a d.length
theorem Whole.nil:Whole [] XU:=.stop (step_end [] XU)
theorem Whole.all {d:List Nat} {a:Qw} (h:Whole d a):Wg d=(a,d.length):=SX h
theorem pW (d:List Nat) {a a':Qw} {f:List Nat} (hb:Xy a f=some a'):Yl (d++Yk f) a d.length=some (a',(d++Yk f).length):=by
 have hl:=Uk f
 have e0:Yk f=f.length :: (f++(Wq (Ox f)).take 4):=rfl
 have hN:Um (d++Yk f) d.length=1+f.length:=by
  unfold Um
  rw[List.getD_eq_getElem?_getD,List.getElem?_append_right (Nat.le_refl _),Nat.sub_self,e0]
  rfl
 have m1:((d++Yk f).drop d.length).take (1+f.length)=Ox f:=by
  rw[List.drop_left]
  unfold Yk
  rw[List.take_append_of_le_length (by rw[Qp];omega),List.take_of_length_le (by rw[Qp];omega)]
 have m2:((d++Yk f).drop (d.length+(1+f.length))).take 4=(Wq (Ox f)).take 4:=by
  rw[←List.drop_drop,List.drop_left]
  unfold Yk
  rw[List.drop_append_of_le_length (by rw[Qp];omega),List.drop_of_length_le (by rw[Qp];omega),List.nil_append,List.take_take]
  rfl
 have m3:((d++Yk f).drop (d.length+1)).take (1+f.length-1)=f:=by
  rw[←List.drop_drop,List.drop_left,e0,List.drop_succ_cons,List.drop_zero,Nat.add_sub_cancel_left,List.take_append_of_le_length (Nat.le_refl _),List.take_of_length_le (Nat.le_refl _)]
 unfold Yl
 rw[hN,if_pos ⟨by rw[List.length_append];omega,by rw[List.length_append];omega,by rw[m1,m2]⟩,m3,hb]
 simp only[Option.map_some,List.length_append,hl]
 congr 2
 omega
theorem iQ (d f:List Nat) (a:Qw) {m:Nat} (hm:m<(Yk f).length):Yl (d++(Yk f).take m) a d.length=none:=by
 have hl:=Uk f
 have e0:Yk f=f.length :: (f++(Wq (Ox f)).take 4):=rfl
 have ht:((Yk f).take m).length=m:=by rw[List.length_take];omega
 unfold Yl
 rw[if_neg]
 rintro⟨h1,h2,_⟩
 rw[List.length_append,ht]at h1 h2
 have hN:Um (d++(Yk f).take m) d.length=1+f.length:=by
  unfold Um
  rw[List.getD_eq_getElem?_getD,List.getElem?_append_right (Nat.le_refl _),Nat.sub_self,List.getElem?_take_of_lt (by omega),e0]
  rfl
 omega
theorem Whole.add {d f:List Nat} {a a':Qw} (h:Whole d a) (hb:Xy a f=some a'):Whole (d++Yk f) a':=
 Rec.app h (.go (pW d hb) (.stop (step_end _ _)))
theorem Whole.Zpo {d f:List Nat} {a:Qw} (h:Whole d a) {m:Nat} (hm:m<(Yk f).length):Rec (d++(Yk f).take m) XU 0 a d.length:=
 Rec.app h (.stop (iQ d f a hm))
def KW:DM→Qw
 | .MD a _ _ _=>a
 | .Mi a _ _=>a
 | .own a _ _=>a
structure TR (n:Nd):Prop where
 idle:n.up=true→n.ZA=none→Whole n.data n.own∧n.Y9=n.data.length
 busy:n.up=true→∀p,n.ZA=some p→∃d f,n.data=d++Yk f∧n.Y9=d.length∧Whole d n.own∧Xy n.own f=some (KW p)
 down:n.up=false→n.ZA=none∧n.Y9=n.data.length∧∃a j,Rec n.data XU 0 a j
 len:n.data.length≤100000
def QK (n:Nd):Qw:=if n.up=true then n.own else (Wg n.data).1
theorem pX (i:Nat):TR (blank i true [] 0 XU):=by
 refine⟨fun _ _=>⟨Whole.nil,rfl⟩,fun _ p hp=>(by cases hp),fun h=>(by cases h),by simp[blank]⟩
theorem aN {i:Nat} {n:Nd} (h:TR n) (hu:n.up=true) {Zc:Int} (hk:0≤Zc) :
  TR (crashed i n Zc)∧(crashed i n Zc).up=false∧(QK (crashed i n Zc)=n.own∨∃p,n.ZA=some p∧QK (crashed i n Zc)=KW p):=by
 have key:∀(d:List Nat) (z:Int) (a:Qw) (j:Nat),d.length≤100000→z=d.length→Rec d XU 0 a j→TR (blank i false d z XU)∧(blank i false d z XU).up=false∧QK (blank i false d z XU)=a:=fun d z a j h1 h2 h3=>by
  refine⟨⟨fun e=>(by cases e),fun e=>(by cases e),fun _=>⟨rfl,h2,a,j,h3⟩,h1⟩,rfl,?_⟩
  unfold QK
  rw[if_neg (by simp[blank])]
  show (Wg d).1=a
  rw[SX h3]
 cases hp:n.ZA with
 | none=>
  obtain⟨h1,h2⟩:=h.idle hu hp
  have hl:=h.len
  have ec:(Qf n.data n.Y9 Zc).toNat=n.data.length:=by unfold Qf;rw[h2];split<;>omega
  have ez:Qf n.data n.Y9 Zc=n.data.length:=by unfold Qf;rw[h2];split<;>omega
  have e:crashed i n Zc=blank i false n.data (Qf n.data n.Y9 Zc) XU:=by
   unfold crashed
   rw[if_pos hu,if_pos ⟨⟨hl,by omega,by omega⟩,hk⟩,ec,List.take_of_length_le (Nat.le_refl _)]
  rw[e]
  obtain⟨k1,k2,k3⟩:=key n.data _ n.own _ hl ez h1
  exact⟨k1,k2,.inl k3⟩
 | some p=>
  obtain⟨d,f,h1,h2,h3,h4⟩:=h.busy hu p hp
  have hl:=h.len
  have jB:n.data.length=d.length+(Yk f).length:=by rw[h1,List.length_append]
  have c1:(d.length:Int)≤Qf n.data n.Y9 Zc∧Qf n.data n.Y9 Zc≤n.data.length:=by unfold Qf;rw[h2];split<;>omega
  obtain⟨C,hC⟩:∃C:Nat,Qf n.data n.Y9 Zc=C:=⟨(Qf n.data n.Y9 Zc).toNat,by omega⟩
  have e:crashed i n Zc=blank i false (n.data.take C) C XU:=by
   unfold crashed
   rw[if_pos hu,if_pos ⟨⟨hl,by omega,by omega⟩,hk⟩,hC]
   rfl
  have htl:(n.data.take C).length=C:=by rw[List.length_take];omega
  rw[e]
  by_cases hw:C=n.data.length
  ·have et:n.data.take C=n.data:=List.take_of_length_le (by omega)
   rw[et]
   have:=h3.add h4
   rw[←h1]at this
   obtain⟨k1,k2,k3⟩:=key n.data C (KW p) _ hl (by omega) this
   exact⟨k1,k2,.inr ⟨p,rfl,k3⟩⟩
  ·have et:n.data.take C=d++(Yk f).take (C-d.length):=by
    rw[h1,List.take_append,List.take_of_length_le (by omega)]
   have:=h3.Zpo (f:=f) (m:=C-d.length) (by omega)
   rw[←et]at this
   obtain⟨k1,k2,k3⟩:=key (n.data.take C) C n.own _ (by omega) (by omega) this
   exact⟨k1,k2,.inl k3⟩
theorem aO {i:Nat} {n:Nd} (h:TR n) (hu:n.up=false) :
  TR (started i n)∧(started i n).up=true∧(started i n).own=QK n:=by
 obtain⟨h1,h2,a,j,h3⟩:=h.down hu
 have hl:=h.len
 have hj:=h3.fits (Nat.zero_le _)
 have ea:=SX h3
 have Zpp:=h3.cut (Nat.zero_le _)
 have XY:(n.data.take j).length=j:=by rw[List.length_take];omega
 have ok:YO n.data n.Y9:=⟨hl,by omega,by omega⟩
 have eD:Kv n.data n.Y9=n.data.take j:=by unfold Kv;rw[if_pos ok,ea]
 have eN:A0 n.data n.Y9=j:=by
  unfold A0;rw[if_pos ok,ea]
  simp only
  split<;>omega
 have ok2:YO (n.data.take j) (j:Int):=⟨by omega,by omega,by omega⟩
 have hw:Whole (n.data.take j) a:=by unfold Whole;rw[XY];exact Zpp
 have eo:(if YO (Kv n.data n.Y9) (A0 n.data n.Y9) then (Wg (Kv n.data n.Y9)).1 else XU)=a:=by
  rw[eD,eN,if_pos ok2,hw.all]
 have e:started i n=blank i true (n.data.take j) j a:=by
  unfold started
  rw[if_neg (by rw[hu];decide),eo,eD,eN]
 rw[e]
 refine⟨⟨fun _ _=>⟨hw,by show (j:Int)=((n.data.take j).length:Nat);omega⟩,fun _ p hp=>(by cases hp),fun h=>(by cases h),by show (n.data.take j).length≤100000;omega⟩,rfl,?_⟩
 show a=QK n
 unfold QK
 rw[if_neg (by rw[hu];decide),ea]
theorem vP {β:Type}:∀{l:List (Int × β)} {k:Int},k∈l.map (·.1)→∃v,Yr l k=some v:=by
 intro l k h
 cases e:Yr l k with
 | some v=>exact⟨v,rfl⟩
 | none=>
  obtain⟨x,hx,rfl⟩:=List.mem_map.1 h
  exact (lW e x hx rfl).elim
theorem Vo.maj {β:Type} {l:List (Int × β)} (h:Vo 5 l) (hm:5<2*l.length):Maj (l.map fun x=>x.1.toNat):=by
 refine⟨?_,fun i hi=>?_,by rw[List.length_map];omega⟩
 ·have:(l.map fun x=>x.1.toNat)=(l.map (·.1)).map Int.toNat:=by rw[List.map_map];rfl
  rw[this]
  refine List.pairwise_map.2 ?_
  have h2:=h.2
  have h1:=h.1
  rw[List.nodup_iff_pairwise_ne]at h1
  refine List.Pairwise.imp_of_mem ?_ h1
  intro a b ha hb Yw he
  have:=h2 a ha
  have:=h2 b hb
  omega
 ·obtain⟨x,hx,rfl⟩:=List.mem_map.1 hi
  have:=h.2 x.1 (List.mem_map.2 ⟨x,hx,rfl⟩)
  omega
theorem Vo.back {β:Type} {l:List (Int × β)} (h:Vo 5 l) {i:Nat} (hi:i∈l.map fun x=>x.1.toNat):∃v,Yr l (i:Int)=some v:=by
 obtain⟨x,hx,rfl⟩:=List.mem_map.1 hi
 have:=h.2 x.1 (List.mem_map.2 ⟨x,hx,rfl⟩)
 have e:((x.1.toNat:Nat):Int)=x.1:=by omega
 rw[e]
 exact vP (List.mem_map.2 ⟨x,hx,rfl⟩)
structure AR (g:Gh) (i:Nat) (a:Qw):Prop where
 has:∀v∈a.l,g.V i v.b v.slot v.cm
 all:∀b s x,g.V i b s x→∃v∈a.l,v.slot=s∧¬below v.b b
theorem AR.pf {S:Cm→Prop} {g:Gh} {M:Nat→YG} {i:Nat} {a:Qw} (G:GI S g M) (h:AR g i a) (hi:i<5) (hm:M i=a.p):PF g M i a.p a.l:=
 ⟨hi,by rw[hm];exact Q6 _,fun v hv=>⟨h.has v hv,by rw[←hm];exact G.top _ _ _ _ (h.has v hv)⟩,fun b' s x _ hv=>h.all b' s x hv⟩
structure RR (g:Gh) (M:Nat→YG) (i:Nat) (n:Nd) (r:Jj):Prop where
 node:r.b.n=i
 may:ZM r.b
 prom:∀j vs,Yr r.prom j=some vs→PF g M j.toNat r.b vs
 pn:r.begun=false→∀s x,¬g.P r.b s x
 pr:∀s x,g.P r.b s x→Yr r.prop s=some x
 safe:∀s x,Yr r.prop s=some x→g.P r.b s x
 free:r.begun=true→∀s:Int,(n.log.length:Int)≤s→Yr r.prop s=none→Yr n.known s=none→Ms g M r.b s
 Xt:∀s K j,Yr r.Xt s=some K→Yr K j=some ()→∃x,g.V j.toNat r.b s x
def PR (g:Gh) (n:Nd):DM→Prop
 | .MD a to b vs=>a=⟨b,n.own.l⟩∧vs=n.own.l∧Yq n.own.p n.own.l b=0
 | .Mi a to v=>a=⟨v.b,JA n.own.l v⟩∧YK n.own.p n.own.l v=0∧g.P v.b v.slot v.cm
 | .own a vs cur=>∃b,a=⟨b,n.own.l⟩∧vs=n.own.l∧Yq n.own.p n.own.l b=0∧(cur=true→∃r,n.Zi=some r∧r.b=b)
structure LR (S:Cm→Prop) (g:Gh) (M:Nat→YG) (l:Y3):Prop where
 MD:l.kind=1→PF g M l.Jt.toNat l.b l.vs
 ask:l.kind=2→g.P l.v.b l.v.slot l.v.cm
 Mi:l.kind=3→g.V l.Jt.toNat l.v.b l.v.slot l.v.cm
 fwd:l.kind=4→S l.v.cm
 cho:l.kind=6→Q2 g l.v.slot l.v.cm
theorem LR.plain {S:Cm→Prop} {g:Gh} {M:Nat→YG} {l:Y3} (h:l.kind=0∨l.kind=5∨l.kind=7):LR S g M l:=
 ⟨fun e=>by omega,fun e=>by omega,fun e=>by omega,fun e=>by omega,fun e=>by omega⟩
structure NR (S:Cm→Prop) (g:Gh) (M:Nat→YG) (i:Nat) (n:Nd):Prop where
 acc:AR g i (QK n)
 m:M i=(QK n).p
 tape:TR n
 ZA:∀p,n.ZA=some p→PR g n p
 known:∀s x,Yr n.known s=some x→Q2 g s x
 log:∀(k:Nat) x,n.log[k]? = some x→Q2 g (k:Int) x
 CM:∀x∈n.queue,S x
 Zi:∀r,n.Zi=some r→RR g M i n r
theorem Qe {n:Nd} (h:n.up=true):QK n=n.own:=by unfold QK;rw[if_pos h]
section
variable {i j:Nat} {g g':Gh} {M M':Nat→YG} {S:Cm→Prop}
theorem LR.ext (E:Ext i g M g' M') {l:Y3} (h:LR S g M l):LR S g' M' l:=
 ⟨fun e=>(h.MD e).ext E,fun e=>E.p _ _ _ (h.ask e),fun e=>E.v _ _ _ _ (h.Mi e),h.fwd,fun e=>(h.cho e).ext E⟩
theorem NR.ext (E:Ext i g M g' M') {n:Nd} (hj:j≠i) (h:NR S g M j n):NR S g' M' j n:=by
 have ho:=E.oth j hj
 refine⟨⟨fun v hv=>E.v _ _ _ _ (h.acc.has v hv),fun b s x hv=>h.acc.all b s x (ho.2 _ _ _ hv)⟩,by rw[ho.1];exact h.m,h.tape,fun p hp=>?_,fun s x e=>(h.known s x e).ext E,fun k x e=>(h.log k x e).ext E,h.CM,fun r hr=>?_⟩
 ·have:=h.ZA p hp
  cases p with
  | MD a to b vs=>exact this
  | Mi a to v=>exact⟨this.1,this.2.1,E.p _ _ _ this.2.2⟩
  | own a vs cur=>exact this
 ·have R:=h.Zi r hr
  have hP:∀s x,g'.P r.b s x→g.P r.b s x:=fun s x e=>by
   rcases E.own _ _ _ e with e|e
   ·exact e
   ·rw[R.node]at e;omega
  exact⟨R.node,R.may,fun k vs e=>(R.prom k vs e).ext E,fun e s x q=>R.pn e s x (hP s x q),fun s x q=>R.pr s x (hP s x q),fun s x q=>E.p _ _ _ (R.safe s x q),fun e s h1 h2 h3=>(R.free e s h1 h2 h3).ext E,fun s K k h1 h2=>by
   obtain⟨x,hx⟩:=R.Xt s K k h1 h2
   exact⟨x,E.v _ _ _ _ hx⟩⟩
end
structure HR (S:Cm→Prop) (g:Gh) (M:Nat→YG) (i:Nat) (o:Out):Prop where
 n:NR S g M i o.n
 up:o.n.up=true
 ls:∀l∈o.ls,LR S g M l
section
variable {S:Cm→Prop} {g:Gh} {M:Nat→YG} {i:Nat} {n:Nd}
theorem HR.same (N:NR S g M i n) (hu:n.up=true):HR S g M i ⟨n,[],[]⟩:=⟨N,hu,fun l hl=>by cases hl⟩
theorem HR.one (N:NR S g M i n) (hu:n.up=true) {l:Y3} (hl:LR S g M l):HR S g M i ⟨n,[l],[]⟩:=⟨N,hu,fun x hx=>by
 have:x=l:=by simpa using hx
 rw[this];exact hl⟩
theorem Cn {p b:YG} {l:List Vt} (h:Yq p l b=0):¬below b p:=by
 unfold Yq at h
 split at h
 ·omega
 ·split at h
  ·omega
  ·split at h
   ·omega
   ·assumption
theorem pY {p:YG} {l:List Vt} {v:Vt} (h:YK p l v=0):¬below v.b p:=by
 unfold YK at h
 split at h
 ·omega
 ·split at h
  ·omega
  ·split at h
   ·omega
   ·assumption
theorem NR.wait (N:NR S g M i n) (hu:n.up=true) (hp:n.ZA=none) {p:DM} {f:List Nat} (hb:Xy n.own f=some (KW p)) (hl:(n.data++Yk f).length≤100000) (hr:PR g n p):NR S g M i { n with data:=n.data++Yk f,ZA:=some p }:=by
 obtain⟨h1,h2⟩:=N.tape.idle hu hp
 have eA:QK { n with data:=n.data++Yk f,ZA:=some p } = QK n:=by rw[Qe hu,Qe (n:={ n with data:=n.data++Yk f,ZA:=some p }) hu]
 refine⟨by rw[eA];exact N.acc,by rw[eA];exact N.m,⟨fun _ e=>(by cases e),fun _ q hq=>?_,fun e=>?_,hl⟩,fun q hq=>?_,N.known,N.log,N.CM,fun r hr=>?_⟩
 ·cases hq
  exact⟨n.data,f,rfl,h2,h1,hb⟩
 ·rw[show ({ n with data:=n.data++Yk f,ZA:=some p }:Nd).up=n.up from rfl,hu]at e
  cases e
 ·cases hq
  cases p<;>exact hr
 ·have R:=N.Zi r hr
  exact⟨R.node,R.may,R.prom,R.pn,R.pr,R.safe,R.free,R.Xt⟩
theorem aP (hi:i<5) (G:GI S g M) (N:NR S g M i n) (hu:n.up=true) (hp:n.ZA=none) (IS:n.me=i) {l:Y3}:HR S g M i (YR n l):=by
 have eA:=Qe hu
 have JZ:=N.acc
 have hM:=N.m
 rw[eA]at JZ hM
 unfold YR
 split
 ·exact .one N hu (.plain (.inr (.inr rfl)))
 ·rename_i c1
  split
  ·rename_i c2
   refine .one N hu ⟨fun _=>?_,fun e=>(by cases e),fun e=>(by cases e),fun e=>(by cases e),fun e=>(by cases e)⟩
   have:=JZ.pf G hi hM
   rw[c2]at this
   show PF g M (((n.me:Nat):Int)).toNat l.b n.own.l
   rw[Int.toNat_natCast,IS];exact this
  ·split
   ·exact .same N hu
   ·rename_i c3
    have e1:Yq n.own.p n.own.l l.b=0:=by simpa using c1
    have e3:J2 n.data n.Y9 l.b=0:=by simpa using c3
    refine⟨N.wait hu hp (f:=XT l.b) (Ck e1) ?_ ⟨rfl,rfl,e1⟩,hu,fun l hl=>by cases hl⟩
    rw[List.length_append,M0]
    exact OL e3
theorem vQ (hi:i<5) (G:GI S g M) (N:NR S g M i n) (hu:n.up=true) (hp:n.ZA=none) (IS:n.me=i) {l:Y3} (L:g.P l.v.b l.v.slot l.v.cm):HR S g M i (asked n l):=by
 have eA:=Qe hu
 have JZ:=N.acc
 rw[eA]at JZ
 unfold asked
 split
 ·exact .one N hu (.plain (.inr (.inr rfl)))
 ·rename_i c1
  split
  ·rename_i c2
   refine .one N hu ⟨fun e=>(by cases e),fun e=>(by cases e),fun _=>?_,fun e=>(by cases e),fun e=>(by cases e)⟩
   show g.V (((n.me:Nat):Int)).toNat l.v.b l.v.slot l.v.cm
   rw[Int.toNat_natCast,IS]
   exact JZ.has _ c2
  ·split
   ·exact .same N hu
   ·rename_i c3
    have e1:YK n.own.p n.own.l l.v=0:=by simpa using c1
    have e3:QY n.data n.Y9 l.v=0:=by simpa using c3
    refine⟨N.wait hu hp (f:=Qv l.v) (pT e1) ?_ ⟨rfl,e1,L⟩,hu,fun l hl=>by cases hl⟩
    rw[List.length_append,dk]
    exact Cb e3
theorem NR.more (N:NR S g M i n) (hp:n.ZA=none) {m:Nd} (h1:m.up=n.up) (h2:m.data=n.data) (h3:m.Y9=n.Y9) (h4:m.own=n.own) (h5:m.Zi=n.Zi) (h6:m.ZA=n.ZA)
  (k1:∀s x,Yr m.known s=some x→Q2 g s x) (k2:∀s,Yr m.known s=none→Yr n.known s=none) (k3:∀(k:Nat) x,m.log[k]? = some x→Q2 g (k:Int) x) (k4:n.log.length≤m.log.length) (k5:∀x∈m.queue,S x):NR S g M i m:=by
 have eA:QK m=QK n:=by unfold QK;rw[h1,h2,h4]
 have T:=N.tape
 refine⟨by rw[eA];exact N.acc,by rw[eA];exact N.m,⟨fun e1 e2=>?_,fun _ p e=>?_,fun e=>?_,by rw[h2];exact T.len⟩,fun p e=>?_,k1,k3,k5,fun r e=>?_⟩
 ·rw[h2,h3,h4];exact T.idle (by rw[←h1];exact e1) hp
 ·rw[h6,hp]at e;cases e
 ·rw[h2,h3,h6];exact T.down (by rw[←h1];exact e)
 ·rw[h6,hp]at e;cases e
 ·have R:=N.Zi r (by rw[←h5];exact e)
  exact⟨R.node,R.may,R.prom,R.pn,R.pr,R.safe,fun q s q1 q2 q3=>R.free q s (by omega) q2 (k2 s q3),R.Xt⟩
theorem pZ (N:NR S g M i n) (hp:n.ZA=none) {x:Cm} (hx:Yr n.known (n.log.length:Int)=some x):NR S g M i (Ux n x):=by
 refine N.more hp rfl rfl rfl rfl rfl rfl N.known (fun s h=>h) (fun k y e=>?_) (by show n.log.length≤(n.log++[x]).length;simp) (fun y hy=>N.CM y (List.mem_filter.1 hy).1)
 have e:(n.log++[x])[k]? = some y:=e
 rw[List.getElem?_append]at e
 split at e
 ·exact N.log k y e
 ·rename_i q
  have:k=n.log.length:=by
   refine Classical.byContradiction fun Yw=>?_
   rw[List.getElem?_eq_none (by simp;omega)]at e
   cases e
  subst this
  rw[Nat.sub_self]at e
  cases e
  exact N.known _ _ hx
theorem iR:∀(k:Nat) (n:Nd),NR S g M i n→n.ZA=none→n.up=true→NR S g M i (Yu k n).1∧(Yu k n).1.ZA=none∧(Yu k n).1.up=true:=by
 intro k
 induction k with
 | zero=>intro n N hp hu;exact⟨N,hp,hu⟩
 | succ k ih=>
  intro n N hp hu
  unfold Yu
  split
  ·exact⟨N,hp,hu⟩
  ·rename_i x hx
   exact ih _ (pZ N hp hx) hp hu
theorem dC (N:NR S g M i n) (hp:n.ZA=none) (hu:n.up=true) {s:Int} {x:Cm} (hc:Q2 g s x):HR S g M i (Un n s x):=by
 have N1:NR S g M i (QG n s x):=by
  refine N.more hp rfl rfl rfl rfl rfl rfl (fun t y e=>?_) (fun t e=>?_) N.log (Nat.le_refl _) N.CM
  ·have e:Yr (ins n.known s x) t=some y:=e
   rw[Jr]at e
   split at e
   ·rename_i q;cases e;rw[←q];exact hc
   ·exact N.known t y e
  ·have e:Yr (ins n.known s x) t=none:=e
   rw[Jr]at e
   split at e
   ·cases e
   ·exact e
 obtain⟨h1,_,h3⟩:=iR ((QG n s x).known.length+1) _ N1 hp hu
 exact⟨h1,h3,fun l hl=>by cases hl⟩
theorem NR.Zgo (N:NR S g M i n) (hp:n.ZA=none) {r:Jj} (R:RR g M i n r):NR S g M i { n with Zi:=some r }:=
 ⟨N.acc,N.m,⟨N.tape.idle,N.tape.busy,N.tape.down,N.tape.len⟩,fun p e=>(by rw[show ({ n with Zi:=some r }:Nd).ZA=n.ZA from rfl,hp]at e;cases e),N.known,N.log,N.CM,fun r' e=>by
  obtain rfl:=Option.some.inj e
  exact⟨R.node,R.may,R.prom,R.pn,R.pr,R.safe,R.free,R.Xt⟩⟩
theorem aQ (G:GI S g M) (N:NR S g M i n) (hp:n.ZA=none) (hu:n.up=true) {C:List Cm} (NI:JT C i n) {l:Y3} (LI:JS C l) (L:LR S g M l) (hk:l.kind=1∨l.kind=3):HR S g M i (Yv n l):=by
 unfold Yv
 split
 ·exact .same N hu
 ·rename_i r hr
  have R:=N.Zi r hr
  have RI:=NI.Zi r hr
  split
  ·rename_i k1
   split
   ·rename_i k2
    refine .same ?_ hu
    refine N.Zgo hp ⟨R.node,R.may,fun j vs e=>?_,R.pn,R.pr,R.safe,R.free,R.Xt⟩
    have e:Yr (ins r.prom l.Jt l.vs) j=some vs:=e
    rw[Jr]at e
    split at e
    ·rename_i q;cases e;rw[←q]
     have:=L.MD k1
     rw[k2]at this
     exact this
    ·exact R.prom j vs e
   ·exact .same N hu
  ·rename_i k1
   have k3:l.kind=3:=by omega
   split
   ·exact .same N hu
   ·rename_i k2
    have eb:l.v.b=r.b:=Classical.byContradiction fun q=>k2 q
    have hv:=L.Mi k3
    rw[eb]at hv
    have T9:∀j,Yr (Wb r l) j=some ()→∃x,g.V j.toNat r.b l.v.slot x:=fun j e=>by
     unfold Wb at e
     rw[Jr]at e
     split at e
     ·rename_i q;rw[←q];exact⟨_,hv⟩
     ·cases q:Yr r.Xt l.v.slot with
      | none=>rw[q]at e;cases e
      | some K=>rw[q]at e;exact R.Xt _ K j q e
    have N1:NR S g M i (Nk n r l):=by
     refine N.Zgo hp ⟨R.node,R.may,R.prom,R.pn,R.pr,R.safe,R.free,fun s K j e1 e2=>?_⟩
     have e1:Yr (ins r.Xt l.v.slot (Wb r l)) s=some K:=e1
     rw[Jr]at e1
     split at e1
     ·rename_i q;cases e1;rw[←q];exact T9 j e2
     ·exact R.Xt s K j e1 e2
    split
    ·rename_i k4
     refine dC N1 hp hu ?_
     have KI:Vo 5 (Wb r l):=by
      unfold Wb
      refine Vo.ins ?_ LI.Jt ()
      cases q:Yr r.Xt l.v.slot with
      | none=>exact Vo.nil 5
      | some K=>exact RI.VO _ (SI q)
     refine⟨_,r.b,KI.maj k4,fun j hj=>?_⟩
     obtain⟨u,hu⟩:=KI.back hj
     obtain⟨x,hx⟩:=T9 j hu
     rw[Int.toNat_natCast]at hx
     have:=G.one _ _ _ _ (G.vp _ _ _ _ hx) (G.vp _ _ _ _ hv)
     rw[←this];exact hx
    ·exact .same N1 hu
theorem dD (N:NR S g M i n) (hp:n.ZA=none) (l:Y3):NR S g M i (notes n l)∧(notes n l).up=n.up:=by
 unfold notes
 split
 ·exact⟨N.more hp rfl rfl rfl rfl rfl rfl N.known (fun s h=>h) N.log (Nat.le_refl _) N.CM,rfl⟩
 ·exact⟨N,rfl⟩
theorem yq (N:NR S g M i n) {x:Cm} (hx:S x):NR S g M i (add n x)∧(add n x).up=n.up∧(add n x).ZA=n.ZA:=by
 unfold add
 split
 ·exact⟨N,rfl,rfl⟩
 ·refine⟨⟨N.acc,N.m,⟨N.tape.idle,N.tape.busy,N.tape.down,N.tape.len⟩,fun p e=>?_,N.known,N.log,fun y hy=>?_,fun r e=>?_⟩,rfl,rfl⟩
  ·have:=N.ZA p e
   cases p<;>exact this
  ·rcases List.mem_append.1 hy with hy|hy
   ·exact N.CM y hy
   ·have:y=x:=by simpa using hy
    rw[this];exact hx
  ·have R:=N.Zi r e
   exact⟨R.node,R.may,R.prom,R.pn,R.pr,R.safe,R.free,R.Xt⟩
theorem qa (hi:i<5) (G:GI S g M) (N:NR S g M i n) (hu:n.up=true) (hp:n.ZA=none) {C:List Cm} (NI:JT C i n) {l:Y3} (LI:JS C l) (L:LR S g M l):HR S g M i (handle n l):=by
 have IS:=NI.me
 unfold handle
 split
 ·exact aP hi G N hu hp IS
 split
 ·rename_i k;exact aQ G N hp hu NI LI L k
 split
 ·rename_i k;exact vQ hi G N hu hp IS (L.ask k)
 split
 ·rename_i k
  obtain⟨h1,h2,_⟩:=yq N (L.fwd k)
  exact .same h1 (by rw[h2];exact hu)
 split
 ·unfold Wc
  obtain⟨h1,h2⟩:=dD N hp l
  split
  ·rename_i x hx
   refine .one h1 (by rw[h2];exact hu) ⟨fun e=>(by cases e),fun e=>(by cases e),fun e=>(by cases e),fun e=>(by cases e),fun _=>?_⟩
   exact N.known _ _ hx
  ·exact .same h1 (by rw[h2];exact hu)
 split
 ·rename_i k;exact dC N hp hu (L.cho k)
 ·obtain⟨h1,h2⟩:=dD N hp l
  exact .same h1 (by rw[h2];exact hu)
theorem NR.box (N:NR S g M i n) (k:List Y3):NR S g M i { n with inbox:=k }:=
 ⟨N.acc,N.m,⟨N.tape.idle,N.tape.busy,N.tape.down,N.tape.len⟩,fun p e=>(by have:=N.ZA p e;cases p<;>exact this),N.known,N.log,N.CM,fun r e=>by
  have R:=N.Zi r e
  exact⟨R.node,R.may,R.prom,R.pn,R.pr,R.safe,R.free,R.Xt⟩⟩
end
theorem aR (s:Int):∀(l:List Vt) (b:Vt),(l.foldl (Qo s) b=b∨(l.foldl (Qo s) b∈l∧(l.foldl (Qo s) b).slot=s))∧¬below (l.foldl (Qo s) b).b b.b∧∀v∈l,v.slot=s→¬below (l.foldl (Qo s) b).b v.b:=by
 intro l
 induction l with
 | nil=>intro b;exact⟨.inl rfl,Q6 _,fun v hv=>by cases hv⟩
 | cons x l ih=>
  intro b
  obtain⟨h1,h2,h3⟩:=ih (Qo s b x)
  rw[List.foldl_cons]
  have hx:¬below (Qo s b x).b b.b∧(x.slot=s→¬below (Qo s b x).b x.b)∧(Qo s b x=b∨(Qo s b x=x∧x.slot=s)):=by
   unfold Qo
   split
   ·rename_i q;exact⟨yp q.2,fun _=>Q6 _,.inr ⟨rfl,q.1⟩⟩
   ·rename_i q;exact⟨Q6 _,fun e f=>q ⟨e,f⟩,.inl rfl⟩
  refine⟨?_,Jg hx.1 h2,fun v hv e=>?_⟩
  ·rcases h1 with h1|⟨h1,h4⟩
   ·rw[h1]
    rcases hx.2.2 with q|⟨q,q2⟩
    ·exact .inl q
    ·rw[q];exact .inr ⟨by simp,q2⟩
   ·exact .inr ⟨by simp[h1],h4⟩
  ·rcases List.mem_cons.1 hv with rfl|hv
   ·exact Jg (hx.2.1 e) h2
   ·exact h3 v hv e
theorem KX:∀(l:List Vt) (t:Int),t≤l.foldl (fun t v=>if t<v.slot then v.slot else t) t∧(∀v∈l,v.slot≤l.foldl (fun t v=>if t<v.slot then v.slot else t) t)∧(l.foldl (fun t v=>if t<v.slot then v.slot else t) t=t∨∃v∈l,l.foldl (fun t v=>if t<v.slot then v.slot else t) t=v.slot):=by
 intro l
 induction l with
 | nil=>intro t;exact⟨Int.le_refl _,fun v hv=>(by cases hv),.inl rfl⟩
 | cons x l ih=>
  intro t
  obtain⟨h1,h2,h3⟩:=ih (if t<x.slot then x.slot else t)
  rw[List.foldl_cons]
  have hx:t≤(if t<x.slot then x.slot else t)∧x.slot≤(if t<x.slot then x.slot else t)∧((if t<x.slot then x.slot else t)=t∨(if t<x.slot then x.slot else t)=x.slot):=by
   split
   ·exact⟨by omega,by omega,.inr rfl⟩
   ·exact⟨by omega,by omega,.inl rfl⟩
  refine⟨by omega,fun v hv=>?_,?_⟩
  ·rcases List.mem_cons.1 hv with rfl|hv
   ·omega
   ·exact h2 v hv
  ·rcases h3 with h3|⟨v,hv,h3⟩
   ·rcases hx.2.2 with q|q
    ·exact .inl (by rw[h3,q])
    ·exact .inr ⟨x,by simp,by rw[h3,q]⟩
   ·exact .inr ⟨v,by simp[hv],h3⟩
theorem Gb {r:Jj} {v:Vt} (h:v∈(Z3 r).flatten):∃m:Nat,m<5∧∃vs,Yr r.prom (m:Int)=some vs∧v∈vs:=by
 obtain⟨l,h1,h2⟩:=List.mem_flatten.1 h
 unfold Z3 at h1
 obtain⟨m,h3,rfl⟩:=List.mem_map.1 h1
 rw[List.mem_range]at h3
 cases e:Yr r.prom (m:Int) with
 | none=>rw[e]at h2;cases h2
 | some vs=>rw[e]at h2;exact⟨m,h3,vs,e,h2⟩
theorem VV {r:Jj} {v:Vt} {m:Nat} (hm:m<5) {vs:List Vt} (h:Yr r.prom (m:Int)=some vs) (hv:v∈vs):v∈(Z3 r).flatten:=by
 refine List.mem_flatten.2 ⟨vs,?_,hv⟩
 unfold Z3
 exact List.mem_map.2 ⟨m,List.mem_range.2 hm,by rw[h];rfl⟩
theorem iS {a:Qw} (h:IV a) (hb:∀v∈a.l,¬below a.p v.b):Xx a.p a.l=0:=by
 refine Sd ?_ (fun j hj=>?_)
 ·rintro⟨h1,h2⟩
  rcases h.bal with q|q
  ·exact h1 q
  ·exact h2 q
 ·rw[Oh hj]
  refine⟨h.Xt.1 _ (List.getElem_mem hj),hb _ (List.getElem_mem hj),?_⟩
  by_cases e:j=0
  ·exact .inl e
  ·rw[SN (j:=j-1) (by omega)]
   exact .inr (List.pairwise_iff_getElem.1 h.Xt.2 (j-1) j (by omega) hj (by omega))
section
variable {S:Cm→Prop} {g:Gh} {M:Nat→YG} {i:Nat} {n:Nd}
theorem Gc {r:Jj} (RI:Pc r):∀v∈(Z3 r).flatten,Z6 v:=fun v hv=>by
 obtain⟨m,_,vs,h1,h2⟩:=Gb hv
 exact (RI.vs _ (SI h1)).1 v h2
theorem vS {r:Jj} (RI:Pc r):RW (Z3 r).flatten≤39:=by
 obtain⟨_,_,h3⟩:=KX (Z3 r).flatten (-1)
 have e:RW (Z3 r).flatten=(Z3 r).flatten.foldl (fun t v=>if t<v.slot then v.slot else t) (-1):=rfl
 rcases h3 with h3|⟨v,hv,h3⟩
 ·omega
 ·have:=(Gc RI v hv).1
  omega
theorem iU (G:GI S g M) {r:Jj} (R:RR g M i n r) (RI:Pc r) (hb:r.begun=false) (hm:5<2*r.prom.length) (s:Nat) (hs:(s:Int)≤RW (Z3 r).flatten) :
  Safe g M r.b s (Sn (Z3 r) s)∧(Sn (Z3 r) s=Ks∨S (Sn (Z3 r) s)):=by
 have h39:=vS RI
 have Zgp:=Gc RI
 have mZ:WR (s:Int) (Z3 r).flatten=0:=by
  unfold WR QX
  rw[if_neg (by omega),if_pos (List.all_eq_true.2 fun v hv=>decide_eq_true (Zgp v hv))]
 have hpc:Sn (Z3 r) s=(QW (s:Int) (Z3 r).flatten).cm:=by unfold Sn;rw[if_pos mZ]
 obtain⟨h1,_,h3⟩:=aR (s:Int) (Z3 r).flatten VX
 obtain⟨B,hB⟩:=Zy (QW (s:Int) (Z3 r).flatten)
 rw[hpc,←hB]
 have eB:(Z3 r).flatten.foldl (Qo (s:Int)) VX=B:=hB.symm
 rw[eB]at h1 h3
 have hQ:=RI.prom.maj hm
 have hPF:∀i:Nat,i∈r.prom.map (fun x=>x.1.toNat)→∃vs,Yr r.prom (i:Int)=some vs∧PF g M i r.b vs:=fun i hi=>by
  obtain⟨vs,h⟩:=RI.prom.back hi
  have:=R.prom _ _ h
  rw[Int.toNat_natCast]at this
  exact⟨vs,h,this⟩
 have Ff:∀i∈r.prom.map (fun x=>x.1.toNat),¬below (M i) r.b:=fun i hi=>by
  obtain⟨vs,_,h⟩:=hPF i hi;exact h.top
 rcases h1 with h1|⟨h1,h4⟩
 ·subst h1
  refine⟨⟨_,hQ,Ff,.inl fun i hi b' y XN hv=>?_⟩,.inl rfl⟩
  obtain⟨vs,yc,h⟩:=hPF i hi
  obtain⟨v,v1,v2,_⟩:=h.all b' s y XN hv
  have:=h3 v (VV h.lt yc v1) v2
  have:=(h.has v v1).1
  have hvm:=Zgp v (VV h.lt yc v1)
  have:=hvm.2.1
  unfold ZM at this
  have h7:below VX.b v.b:=by unfold below VX;simp only;omega
  exact h3 v (VV h.lt yc v1) v2 h7
 ·obtain⟨m,hm5,vs,e1,e2⟩:=Gb h1
  have hp:=R.prom _ _ e1
  rw[Int.toNat_natCast]at hp
  obtain⟨p1,p2⟩:=hp.has B e2
  rw[h4]at p1
  have p3:below B.b r.b:=by
   refine Classical.byContradiction fun q=>?_
   have:=Zbx q p2
   exact R.pn hb _ _ (by rw[←this];exact G.vp _ _ _ _ p1)
  refine⟨⟨_,hQ,Ff,.inr ⟨B.b,m,p3,p1,fun i hi b' y XN hv=>?_⟩⟩,G.cmd _ _ _ (G.vp _ _ _ _ p1)⟩
  obtain⟨wG,yc,h⟩:=hPF i hi
  obtain⟨v,v1,v2,v3⟩:=h.all b' s y XN hv
  exact Jg v3 (h3 v (VV h.lt yc v1) v2)
theorem qc {r:Jj} (R:RR g M i n r) (RI:Pc r) (hm:5<2*r.prom.length) {s:Int} (hs:RW (Z3 r).flatten<s):Ms g M r.b s:=by
 have hQ:=RI.prom.maj hm
 obtain⟨_,h2,_⟩:=KX (Z3 r).flatten (-1)
 refine⟨_,hQ,fun i hi=>?_,fun i hi b' y XN hv=>?_⟩
 ·obtain⟨vs,h⟩:=RI.prom.back hi
  have:=R.prom _ _ h
  rw[Int.toNat_natCast]at this
  exact this.top
 ·obtain⟨vs,h⟩:=RI.prom.back hi
  have h:=R.prom _ _ h
  rw[Int.toNat_natCast]at h
  obtain⟨wG,h'⟩:=RI.prom.back hi
  have h:=R.prom _ _ h'
  rw[Int.toNat_natCast]at h
  obtain⟨v,v1,v2,_⟩:=h.all b' s y XN hv
  have:=h2 v (VV h.lt h' v1)
  have e:RW (Z3 r).flatten=(Z3 r).flatten.foldl (fun t v=>if t<v.slot then v.slot else t) (-1):=rfl
  omega
theorem aS (n:Nd) (LL:List (List Vt)):∀(yu L:Nat) (pr:List (Int × Cm)),
  (∀t y,Yr ((List.range' L yu).foldl (XJ n LL) pr) t=some y→Yr pr t=some y∨∃s:Nat,L≤s∧s<L+yu∧t=s∧y=Sn LL s) ∧
  (∀s:Nat,L≤s→s<L+yu→Yr n.known (s:Int)=none→Yr ((List.range' L yu).foldl (XJ n LL) pr) (s:Int)≠none) ∧
  (∀t,Yr pr t≠none→Yr ((List.range' L yu).foldl (XJ n LL) pr) t≠none):=by
 intro yu
 induction yu with
 | zero=>intro L pr;exact⟨fun t y h=>.inl h,fun s h1 h2=>(by omega),fun t h=>h⟩
 | succ yu ih=>
  intro L pr
  rw[List.range'_succ,List.foldl_cons]
  obtain⟨h1,h2,h3⟩:=ih (L+1) (XJ n LL pr L)
  have hb:∀t,Yr pr t≠none→Yr (XJ n LL pr L) t≠none:=fun t h=>by
   unfold XJ
   split
   ·rw[Jr]
    split
    ·simp
    ·exact h
   ·exact h
  refine⟨fun t y h=>?_,fun s hs1 hs2 hk=>?_,fun t h=>h3 t (hb t h)⟩
  ·rcases h1 t y h with h|⟨s,q1,q2,q3,q4⟩
   ·unfold XJ at h
    split at h
    ·rw[Jr]at h
     split at h
     ·rename_i e;cases h;exact .inr ⟨L,by omega,by omega,e.symm,rfl⟩
     ·exact .inl h
    ·exact .inl h
   ·exact .inr ⟨s,by omega,by omega,q3,q4⟩
  ·by_cases e:s=L
   ·subst e
    refine h3 _ ?_
    unfold XJ
    rw[if_pos hk,Jr,if_pos rfl]
    simp
   ·exact h2 s (by omega) (by omega) hk
theorem iW {n:Nd} {r:Jj} {x:Cm}:∀(k s t:Nat),QH n r x k s=some t→s≤t∧t<s+k∧Yr r.prop (t:Int)=none∧Yr n.known (t:Int)=none:=by
 intro k
 induction k with
 | zero=>intro s t h;cases h
 | succ k ih=>
  intro s t h
  unfold QH at h
  split at h
  ·cases h
  ·split at h
   ·rename_i q;cases h;exact⟨Nat.le_refl _,by omega,q.1,q.2⟩
   ·have:=ih _ _ h
    exact⟨by omega,by omega,this.2.2⟩
structure RB (S:Cm→Prop) (g:Gh) (M:Nat→YG) (n:Nd) (r r':Jj):Prop where
 b:r'.b=r.b
 prom:r'.prom=r.prom
 Xt:r'.Xt=r.Xt
 begun:r'.begun=true
 jw:∀t y,g.P r.b t y→Yr r'.prop t=some y
 safe:∀t y,Yr r'.prop t=some y→Safe g M r.b t y∧(y=Ks∨S y)
 free:∀s:Int,(n.log.length:Int)≤s→Yr r'.prop s=none→Yr n.known s=none→Ms g M r.b s
theorem RB.one {r r':Jj} (h:RB S g M n r r') {x:Cm} (hx:S x):RB S g M n r (We n r' x):=by
 unfold We
 split
 ·rename_i s hs
  obtain⟨h1,h2,h3,h4⟩:=iW _ _ _ hs
  have ho:=h.free s (by omega) h3 h4
  refine⟨h.b,h.prom,h.Xt,h.begun,fun t y e=>?_,fun t y e=>?_,fun t q1 q2 q3=>?_⟩
  ·have:=h.jw t y e
   show Yr (ins r'.prop (s:Int) x) t=some y
   rw[Jr,if_neg (fun e=>by rw[←e,h3]at this;cases this)]
   exact this
  ·have e:Yr (ins r'.prop (s:Int) x) t=some y:=e
   rw[Jr]at e
   split at e
   ·rename_i q;cases e;rw[←q];exact⟨ho.safe x,.inr hx⟩
   ·exact h.safe t y e
  ·have q2:Yr (ins r'.prop (s:Int) x) t=none:=q2
   rw[Jr]at q2
   split at q2
   ·cases q2
   ·exact h.free t q1 q2 q3
 ·exact h
theorem RB.all {r:Jj}:∀(l:List Cm) (r':Jj),RB S g M n r r'→(∀x∈l,S x)→RB S g M n r (Ju n r' l):=by
 intro l
 induction l with
 | nil=>intro r' h _;exact h
 | cons x l ih=>intro r' h hl;exact ih _ (h.one (hl x (by simp))) (fun y hy=>hl y (by simp[hy]))
theorem qd (G:GI S g M) {r:Jj} (R:RR g M i n r) (RI:Pc r) (hb:r.begun=false) (hm:5<2*r.prom.length):RB S g M n r (Tq n r):=by
 obtain⟨h1,h2,_⟩:=aS n (Z3 r) ((RW (Z3 r).flatten+1).toNat-n.log.length) n.log.length r.prop
 refine⟨rfl,rfl,rfl,rfl,fun t y e=>(R.pn hb _ _ e).elim,fun t y e=>?_,fun s q1 q2 q3=>?_⟩
 ·rcases h1 t y e with e|⟨s,s1,s2,rfl,rfl⟩
  ·exact (R.pn hb _ _ (R.safe _ _ e)).elim
  ·exact iU G R RI hb hm s (by omega)
 ·obtain⟨k,rfl⟩:∃k:Nat,s=k:=⟨s.toNat,by omega⟩
  by_cases hk:(k:Int)≤RW (Z3 r).flatten
  ·exact (h2 k (by omega) (by omega) q3 q2).elim
  ·exact qc R RI hm (by omega)
theorem RR.rb (G:GI S g M) {r:Jj} (R:RR g M i n r) (hb:r.begun=true):RB S g M n r r:=
 ⟨rfl,rfl,rfl,hb,R.pr,fun t y e=>⟨G.safe _ _ _ (R.safe _ _ e),G.cmd _ _ _ (R.safe _ _ e)⟩,R.free hb⟩
theorem qf (G:GI S g M) {r:Jj} (R:RR g M i n r) (RI:Pc r) (hm:5<2*r.prom.length) (hq:∀x∈n.queue,S x):RB S g M n r (Uo n r):=by
 unfold Uo
 refine RB.all _ _ ?_ hq
 split
 ·rename_i hb;exact R.rb G hb
 ·rename_i hb;exact qd G R RI (by simpa using hb) hm
structure SR (S:Cm→Prop) (g:Gh) (M:Nat→YG) (i:Nat) (o:Out) (g':Gh) (M':Nat→YG):Prop where
 e:Ext i g M g' M'
 gi:GI S g' M'
 h:HR S g' M' i o
theorem SR.same (G:GI S g M) {o:Out} (h:HR S g M i o):SR S g M i o g M:=⟨Ext.refl _ _ _,G,h⟩
theorem Zbz (hi:i<5) (G:GI S g M) (N:NR S g M i n) (hu:n.up=true) (hp:n.ZA=none) {C:List Cm} (NI:JT C i n) {r:Jj} (hr:n.Zi=some r):∃g' M',SR S g M i (Qx n r) g' M':=by
 have eA:=Qe hu
 have R:=N.Zi r hr
 have RI:=NI.Zi r hr
 have JZ:=N.acc
 have hM:=N.m
 rw[eA]at JZ hM
 unfold Qx
 split
 ·rename_i c1
  split
  ·exact⟨g,M,.same G (.same N hu)⟩
  ·rename_i c2
   have ea:Xx n.own.p n.own.l=0:=iS NI.own (fun v hv=>by rw[←hM];exact G.top _ _ _ _ (JZ.has v hv))
   have e1:Yq n.own.p n.own.l r.b=0:=by
    unfold Yq
    rw[if_neg (by rw[ea];decide),if_neg (fun h=>h R.may),if_neg (yp c1)]
   have e3:J2 n.data n.Y9 r.b=0:=by simpa using c2
   rw[if_pos e1,if_pos e1]
   refine⟨g,M,.same G ⟨N.wait hu hp (f:=XT r.b) (Ck e1) ?_ ⟨r.b,rfl,rfl,e1,fun _=>⟨r,hr,rfl⟩⟩,hu,fun l hl=>by cases hl⟩⟩
   rw[List.length_append,M0]
   exact OL e3
 ·rename_i c1
  split
  ·refine⟨g,M,.same G ⟨N,hu,fun l hl=>?_⟩⟩
   unfold Nl at hl
   obtain⟨m,_,hl⟩:=List.mem_flatMap.1 hl
   split at hl
   ·rw[List.mem_singleton.1 hl];exact .plain (.inl rfl)
   ·cases hl
  ·rename_i c2
   have B:=qf G R RI (by simpa using c2) N.CM
   have hP:=pS G (i:=i) (b:=r.b) (l:=(Uo n r).prop) R.node R.may (by rw[hM];exact c1) B.jw (fun t y e=>(B.safe t y e).1) (fun t y e=>(B.safe t y e).2)
   obtain⟨E,G'⟩:=hP
   obtain⟨g',Ih⟩:=Zy (dB g r.b (Uo n r).prop)
   have hV:g'.V=g.V:=by rw[Ih];rfl
   have hPn:∀s x,Yr (Uo n r).prop s=some x→g'.P r.b s x:=fun s x e=>by rw[Ih];exact .inr ⟨rfl,e⟩
   have hPo:∀s x,g'.P r.b s x→Yr (Uo n r).prop s=some x:=fun s x e=>by
    rw[Ih]at e
    rcases e with e|e
    ·exact B.jw s x e
    ·exact e.2
   rw[←Ih]at E G'
   have Nn:NR S g' M i { n with Zi:=some (Uo n r) }:=by
    refine⟨⟨fun v hv=>E.v _ _ _ _ (N.acc.has v hv),fun b s x hv=>N.acc.all b s x (by rw[←hV];exact hv)⟩,N.m,⟨N.tape.idle,N.tape.busy,N.tape.down,N.tape.len⟩,fun p e=>?_,fun s x e=>(N.known s x e).ext E,fun k x e=>(N.log k x e).ext E,N.CM,fun r' e=>?_⟩
    ·rw[show ({ n with Zi:=some (Uo n r) }:Nd).ZA=n.ZA from rfl,hp]at e;cases e
    ·obtain rfl:=Option.some.inj e
     refine⟨by rw[B.b];exact R.node,by rw[B.b];exact R.may,fun j vs q=>?_,fun q=>?_,?_,?_,?_,fun s K j q1 q2=>?_⟩
     ·rw[B.prom]at q;rw[B.b];exact (R.prom j vs q).ext E
     ·rw[B.begun]at q;cases q
     ·rw[B.b];exact hPo
     ·rw[B.b];exact hPn
     ·rw[B.b];exact fun _ s q1 q2 q3=>(B.free s q1 q2 q3).ext E
     ·rw[B.Xt]at q1;rw[B.b,hV];exact R.Xt s K j q1 q2
   refine⟨g',M,E,G',Nn,hu,fun l hl=>?_⟩
   have hl:l∈OB n (Uo n r):=hl
   unfold OB at hl
   obtain⟨s,_,hl⟩:=List.mem_flatMap.1 hl
   unfold Wt at hl
   split at hl
   ·rename_i x hx
    split at hl
    ·obtain⟨m,_,hl⟩:=List.mem_flatMap.1 hl
     unfold RX at hl
     split at hl
     ·obtain rfl:=List.mem_singleton.1 hl
      refine⟨fun e=>(by cases e),fun _=>?_,fun e=>(by cases e),fun e=>(by cases e),fun e=>(by cases e)⟩
      show g'.P (Uo n r).b _ _
      rw[B.b];exact hPn _ _ hx
     ·cases hl
    ·cases hl
   ·cases hl
theorem vU (N:NR S g M i n) (hp:n.ZA=none) (hu:n.up=true):NR S g M i (still n)∧(still n).ZA=none∧(still n).up=true:=by
 unfold still
 split
 ·rename_i r hr
  split
  ·refine⟨⟨N.acc,N.m,⟨N.tape.idle,N.tape.busy,N.tape.down,N.tape.len⟩,fun p e=>?_,N.known,N.log,N.CM,fun r' e=>by cases e⟩,hp,hu⟩
   have e:n.ZA=some p:=e
   rw[hp]at e;cases e
  ·exact⟨N,hp,hu⟩
 ·exact⟨N,hp,hu⟩
theorem vV (hi:i<5) (G:GI S g M) (N:NR S g M i n) (hu:n.up=true) (hp:n.ZA=none) {C:List Cm} (NI:JT C i n):∃g' M',SR S g M i (Yx n) g' M':=by
 unfold Yx
 split
 ·rename_i r hr;exact Zbz hi G N hu hp NI hr
 ·split
  ·refine⟨g,M,.same G ⟨N,hu,fun l hl=>?_⟩⟩
   have hl:l∈VM n:=hl
   unfold VM at hl
   obtain⟨x,hx,rfl⟩:=List.mem_map.1 hl
   exact⟨fun e=>(by cases e),fun e=>(by cases e),fun e=>(by cases e),fun _=>N.CM x hx,fun e=>(by cases e)⟩
  ·exact⟨g,M,.same G (.same N hu)⟩
theorem iX (n:Nd):∀l∈Vi n,LR S g M l:=fun l hl=>by
 unfold Vi at hl
 split at hl
 ·rw[List.mem_singleton.1 hl];exact .plain (.inr (.inl rfl))
 ·cases hl
theorem NR.Xk (N:NR S g M i n):NR S g M i (Qh n):=
 ⟨N.acc,N.m,⟨N.tape.idle,N.tape.busy,N.tape.down,N.tape.len⟩,fun p e=>(by have:=N.ZA p e;cases p<;>exact this),N.known,N.log,N.CM,fun r e=>by
  have R:=N.Zi r e
  exact⟨R.node,R.may,R.prom,R.pn,R.pr,R.safe,R.free,R.Xt⟩⟩
theorem ZbA (hi:i<5) (G:GI S g M) (N:NR S g M i n) (hu:n.up=true) (hp:n.ZA=none) {C:List Cm} (NI:JT C i n):∃g' M',SR S g M i (Wf n) g' M':=by
 obtain⟨N1,p1,u1⟩:=vU N hp hu
 obtain⟨g',M',E,G',H⟩:=vV hi G N1 u1 p1 (dq NI).1
 unfold Wf
 split
 ·exact⟨g',M',E,G',H⟩
 ·refine⟨g',M',E,G',H.n.Xk,H.up,fun l hl=>?_⟩
  rcases List.mem_append.1 hl with hl|hl
  ·exact H.ls l hl
  ·exact iX _ l hl
theorem qg (G:GI S g M) (N:NR S g M i n) (hu:n.up=true) {p:DM} (hp:n.ZA=some p):∃g' M',Ext i g M g' M'∧GI S g' M'∧AR g' i (KW p)∧M' i=(KW p).p∧(∀b s x,g'.P b s x↔g.P b s x)∧(∀a to v,p=.Mi a to v→g'.V i v.b v.slot v.cm):=by
 have eA:=Qe hu
 have JZ:=N.acc
 have hM:=N.m
 rw[eA]at JZ hM
 have hPR:=N.ZA p hp
 have same:∀b,¬below b (M i)→∃g' M',Ext i g M g' M'∧GI S g' M'∧AR g' i ⟨b,n.own.l⟩∧M' i=b∧(∀b s x,g'.P b s x↔g.P b s x):=fun b hb=>by
  obtain⟨E,G'⟩:=raised G hb
  exact⟨g,Rc M i b,E,G',⟨JZ.has,JZ.all⟩,by unfold Rc;rw[if_pos rfl],fun _ _ _=>Iff.rfl⟩
 cases p with
 | MD a to b vs=>
  obtain⟨rfl,rfl,h3⟩:=hPR
  obtain⟨g',M',h1,h2,h4,h5,h6⟩:=same b (by rw[hM];exact Cn h3)
  exact⟨g',M',h1,h2,h4,h5,h6,fun _ _ _ e=>by cases e⟩
 | own a vs cur=>
  obtain⟨b,rfl,rfl,h3,_⟩:=hPR
  obtain⟨g',M',h1,h2,h4,h5,h6⟩:=same b (by rw[hM];exact Cn h3)
  exact⟨g',M',h1,h2,h4,h5,h6,fun _ _ _ e=>by cases e⟩
 | Mi a to v=>
  obtain⟨rfl,h3,h4⟩:=hPR
  have YJ:=pY h3
  obtain⟨E,G'⟩:=Zgn G h4 (by rw[hM];exact YJ)
  refine⟨_,_,E,G',⟨fun u hu=>?_,fun b s x hv=>?_⟩,by unfold Rc;rw[if_pos rfl];rfl,fun _ _ _=>Iff.rfl,fun _ _ _ e=>by cases e;exact .inr ⟨rfl,rfl,rfl,rfl⟩⟩
  ·have hu:u∈n.own.l.filter (fun x=>decide (x.slot<v.slot))++v :: n.own.l.filter (fun x=>decide (v.slot<x.slot)):=hu
   rcases List.mem_append.1 hu with hu|hu
   ·exact .inl (JZ.has u (List.mem_filter.1 hu).1)
   ·rcases List.mem_cons.1 hu with rfl|hu
    ·exact .inr ⟨rfl,rfl,rfl,rfl⟩
    ·exact .inl (JZ.has u (List.mem_filter.1 hu).1)
  ·have yv:v∈JA n.own.l v:=by unfold JA;simp
   rcases hv with hv|⟨_,rfl,rfl,rfl⟩
   ·obtain⟨u,u1,u2,u3⟩:=JZ.all b s x hv
    by_cases e:u.slot=v.slot
    ·refine⟨v,yv,by rw[←e];exact u2,?_⟩
     have:=G.top _ _ _ _ hv
     rw[hM]at this
     exact Jg this YJ
    ·refine⟨u,?_,u2,u3⟩
     show u∈JA n.own.l v
     unfold JA
     rcases Int.lt_or_gt_of_ne e with q|q
     ·exact List.mem_append.2 (.inl (List.mem_filter.2 ⟨u1,by simpa using q⟩))
     ·exact List.mem_append.2 (.inr (List.mem_cons.2 (.inr (List.mem_filter.2 ⟨u1,by simpa using q⟩))))
   ·exact⟨v,yv,rfl,Q6 _⟩
theorem NR.rest (N:NR S g M i n) {g':Gh} {M':Nat→YG} (E:Ext i g M g' M') (hP:∀b s x,g'.P b s x↔g.P b s x):(∀s x,Yr n.known s=some x→Q2 g' s x)∧(∀(k:Nat) x,n.log[k]? = some x→Q2 g' (k:Int) x)∧∀r,n.Zi=some r→RR g' M' i n r:=by
 refine⟨fun s x e=>(N.known s x e).ext E,fun k x e=>(N.log k x e).ext E,fun r e=>?_⟩
 have R:=N.Zi r e
 exact⟨R.node,R.may,fun j vs q=>(R.prom j vs q).ext E,fun q s x h=>R.pn q s x ((hP _ _ _).1 h),fun s x h=>R.pr s x ((hP _ _ _).1 h),fun s x h=>(hP _ _ _).2 (R.safe s x h),fun q s q1 q2 q3=>(R.free q s q1 q2 q3).ext E,fun s K j q1 q2=>by
  obtain⟨x,hx⟩:=R.Xt s K j q1 q2
  exact⟨x,E.v _ _ _ _ hx⟩⟩
theorem Co (T:TR n) (hu:n.up=true) {p:DM} (hp:n.ZA=some p):(synced n).data=n.data∧(synced n).Y9=n.data.length∧Whole n.data (KW p):=by
 obtain⟨d,f,h1,h2,h3,h4⟩:=T.busy hu p hp
 have hl:=T.len
 have ok:YO n.data n.Y9:=⟨hl,by omega,by rw[h2,h1,List.length_append];omega⟩
 refine⟨by unfold synced;simp only[if_pos ok],by unfold synced;simp only[if_pos ok],?_⟩
 rw[h1];exact h3.add h4
theorem qh (hi:i<5) (G:GI S g M) (N:NR S g M i n) (hu:n.up=true) (IS:n.me=i) {p:DM} (hp:n.ZA=some p):∃g' M',SR S g M i (finish (synced n) p) g' M':=by
 obtain⟨g',M',E,G',A,m',hP,hvt⟩:=qg G N hu hp
 obtain⟨r1,r2,r3⟩:=N.rest E hP
 obtain⟨t1,t2,t3⟩:=Co N.tape hu hp
 have hPR:=N.ZA p hp
 have hl:=N.tape.len
 have base:∀(m:Nd),m.up=n.up→m.data=n.data→m.Y9=n.data.length→m.own=KW p→m.ZA=none→m.known=n.known→m.log=n.log→m.queue=n.queue→(∀r,m.Zi=some r→RR g' M' i m r)→NR S g' M' i m:=fun m e1 e2 e3 e4 e5 e6 e7 e8 e9=>by
  have eA:QK m=KW p:=by rw[Qe (by rw[e1];exact hu),e4]
  refine⟨by rw[eA];exact A,by rw[eA];exact m',⟨fun _ _=>⟨by rw[e2,e4];exact t3,by rw[e3,e2]⟩,fun _ q hq=>(by rw[e5]at hq;cases hq),fun h=>(by rw[e1,hu]at h;cases h),by rw[e2];exact hl⟩,fun q hq=>(by rw[e5]at hq;cases hq),by rw[e6];exact r1,by rw[e7];exact r2,by rw[e8];exact N.CM,e9⟩
 have rr:∀(m:Nd),m.known=n.known→m.log=n.log→∀r,RR g' M' i n r→RR g' M' i m r:=fun m e1 e2 r R=>⟨R.node,R.may,R.prom,R.pn,R.pr,R.safe,fun q s q1 q2 q3=>R.free q s (by rw[←e2];exact q1) q2 (by rw[←e1];exact q3),R.Xt⟩
 have pf:=A.pf G' hi m'
 refine⟨g',M',E,G',?_⟩
 cases p with
 | MD a to b vs=>
  obtain⟨rfl,rfl,h3⟩:=hPR
  show HR S g' M' i ⟨{ synced n with own:=⟨b,n.own.l⟩ },[⟨1,n.me,to,b,VX,n.own.l⟩],[]⟩
  refine .one (base { synced n with own:=⟨b,n.own.l⟩ } rfl t1 t2 rfl rfl rfl rfl rfl fun r e=>rr { synced n with own:=⟨b,n.own.l⟩ } rfl rfl r (r3 r e)) hu ⟨fun _=>?_,fun e=>(by cases e),fun e=>(by cases e),fun e=>(by cases e),fun e=>(by cases e)⟩
  show PF g' M' (((n.me:Nat):Int)).toNat b n.own.l
  rw[Int.toNat_natCast,IS];exact pf
 | Mi a to v=>
  obtain⟨rfl,h3,h4⟩:=hPR
  show HR S g' M' i ⟨{ synced n with own:=⟨v.b,JA n.own.l v⟩ },[⟨3,n.me,to,Jn,v,[]⟩],[]⟩
  refine .one (base { synced n with own:=⟨v.b,JA n.own.l v⟩ } rfl t1 t2 rfl rfl rfl rfl rfl fun r e=>rr { synced n with own:=⟨v.b,JA n.own.l v⟩ } rfl rfl r (r3 r e)) hu ⟨fun e=>(by cases e),fun e=>(by cases e),fun _=>?_,fun e=>(by cases e),fun e=>(by cases e)⟩
  show g'.V (((n.me:Nat):Int)).toNat v.b v.slot v.cm
  rw[Int.toNat_natCast,IS];exact hvt _ _ _ rfl
 | own a vs cur=>
  obtain⟨b,rfl,rfl,h3,h4⟩:=hPR
  show HR S g' M' i ⟨{ synced n with own:=⟨b,n.own.l⟩,Zi:=if cur=true then (synced n).Zi.map (fun r=>{ r with prom:=ins r.prom (synced n).me n.own.l }) else (synced n).Zi },[],[]⟩
  refine .same (base { synced n with own:=⟨b,n.own.l⟩,Zi:=if cur=true then (synced n).Zi.map (fun r=>{ r with prom:=ins r.prom (synced n).me n.own.l }) else (synced n).Zi } rfl t1 t2 rfl rfl rfl rfl rfl fun r e=>?_) hu
  cases hc:cur with
  | false=>
   have e:n.Zi=some r:=by
    have e:(if cur=true then (synced n).Zi.map (fun r=>{ r with prom:=ins r.prom (synced n).me n.own.l }) else (synced n).Zi)=some r:=e
    rw[hc]at e;exact e
   refine rr ?m ?a ?b r (r3 r e)
   ·rfl
   ·rfl
  | true=>
   obtain⟨r0,hr0,wZ⟩:=h4 hc
   have e:(if cur=true then (synced n).Zi.map (fun r=>{ r with prom:=ins r.prom (synced n).me n.own.l }) else (synced n).Zi)=some r:=e
   rw[hc,if_pos rfl,show (synced n).Zi=n.Zi from rfl,hr0]at e
   obtain rfl:=Option.some.inj e
   have R:=r3 r0 hr0
   have R2:RR g' M' i n { r0 with prom:=ins r0.prom ((n.me:Nat):Int) n.own.l }:=by
    refine⟨R.node,R.may,fun j vs q=>?_,R.pn,R.pr,R.safe,R.free,R.Xt⟩
    have q:Yr (ins r0.prom ((n.me:Nat):Int) n.own.l) j=some vs:=q
    rw[Jr]at q
    split at q
    ·rename_i qq
     cases q
     rw[←qq,Int.toNat_natCast,IS]
     have:PF g' M' i b n.own.l:=pf
     rw[←wZ]at this
     exact this
    ·exact R.prom j vs q
   exact⟨R2.node,R2.may,R2.prom,R2.pn,R2.pr,R2.safe,R2.free,R2.Xt⟩
theorem vW (hi:i<5) (G:GI S g M) {C:List Cm}:∀(k:List Y3) (n:Nd),NR S g M i n→n.up=true→n.ZA=none→JT C i n→(∀l∈k,JS C l∧LR S g M l) →
  HR S g M i (drain n k)∧JT C i (drain n k).n∧(∀l∈(drain n k).n.inbox,LR S g M l):=by
 intro k
 induction k with
 | nil=>
  intro n N hu hp NI _
  unfold drain
  exact⟨.same (N.box []) hu,{ NI with },fun l hl=>by cases hl⟩
 | cons l k ih=>
  intro n N hu hp NI hk
  unfold drain
  rw[if_neg (by rw[hp];decide)]
  have H:=qa hi G (N.box k) hu hp (NI.inbox k) (hk l (by simp)).1 (hk l (by simp)).2
  have I:=(KO hi (NI.inbox k) (hk l (by simp)).1).nd
  obtain⟨m,hm⟩:=Zy ((handle { n with inbox:=k } l).n)
  have Hn:=H.n
  have Hu:=H.up
  rw[←hm]at Hn Hu I
  rw[←hm]
  by_cases hpm:m.ZA=none
  ·obtain⟨h1,h2,h3⟩:=ih m Hn Hu hpm I (fun x hx=>hk x (by simp[hx]))
   refine⟨⟨h1.n,h1.up,fun x hx=>?_⟩,h2,h3⟩
   rcases List.mem_append.1 hx with hx|hx
   ·exact H.ls x hx
   ·exact h1.ls x hx
  ·have hs:m.ZA.isSome=true:=by
    cases q:m.ZA with
    | none=>exact (hpm q).elim
    | some _=>rfl
   have key:(drain m k).n = { m with inbox:=k }∧(drain m k).ls=[]:=by
    cases k with
    | nil=>unfold drain;exact⟨rfl,rfl⟩
    | cons a k=>unfold drain;rw[if_pos hs];exact⟨rfl,rfl⟩
   rw[key.1,key.2]
   refine⟨⟨Hn.box k,Hu,fun x hx=>?_⟩,I.inbox k,fun x hx=>(hk x (by
    have hx:x∈k:=hx
    simp[hx])).2⟩
   rcases List.mem_append.1 hx with hx|hx
   ·exact H.ls x hx
   ·cases hx
end
structure TS (S:Cm→Prop) (g:Gh) (M:Nat→YG) (i:Nat) (o:Out) (g':Gh) (M':Nat→YG):Prop where
 e:Ext i g M g' M'
 gi:GI S g' M'
 n:NR S g' M' i o.n
 ls:∀l∈o.ls,LR S g' M' l
 Pq:∀l∈o.n.inbox,LR S g' M' l
section
variable {S:Cm→Prop} {g:Gh} {M:Nat→YG} {i:Nat} {n:Nd}
theorem TS.still (G:GI S g M) (N:NR S g M i n) (hb:∀l∈n.inbox,LR S g M l):TS S g M i ⟨n,[],[]⟩ g M:=⟨Ext.refl _ _ _,G,N,(fun l hl=>by cases hl),hb⟩
theorem ZbC (hi:i<5) (G:GI S g M) (N:NR S g M i n) {C:List Cm} (hC:C.length≤100000) (NI:JT C i n) (hk:∀l∈n.inbox,JS C l∧LR S g M l):∃g' M',TS S g M i (step n) g' M':=by
 unfold step
 split
 ·rename_i hu
  split
  ·rename_i p hp
   obtain⟨g',M',E,G',H⟩:=qh hi G N hu NI.me hp
   have uw:=(Cd hi (Cc NI) (NI.ZA p hp)).2.2.1
   refine⟨g',M',E,G',H.n,H.ls,fun l hl=>?_⟩
   rw[uw]at hl
   exact (hk l hl).2.ext E
  ·rename_i hp
   obtain⟨H,I,B⟩:=vW hi G n.inbox n N hu hp NI hk
   split
   ·exact⟨g,M,Ext.refl _ _ _,G,H.n,H.ls,B⟩
   ·rename_i Rs
    have Zps:(drain n n.inbox).n.ZA=none:=by
     cases q:(drain n n.inbox).n.ZA with
     | none=>rfl
     | some _=>rw[q]at Rs;exact (Rs rfl).elim
    obtain⟨g',M',E,G',D⟩:=ZbA hi G H.n H.up Zps I
    have uw:=(pG hi hC I).2.2.1
    refine⟨g',M',E,G',D.n,fun l hl=>?_,fun l hl=>?_⟩
    ·rcases List.mem_append.1 hl with hl|hl
     ·exact (H.ls l hl).ext E
     ·exact D.ls l hl
    ·have hl:l∈(Wf (drain n n.inbox).n).n.inbox:=hl
     rw[uw]at hl
     exact (B l hl).ext E
 ·exact⟨g,M,.still G N fun l hl=>(hk l hl).2⟩
theorem ZbD (hi:i<5) (G:GI S g M) (N:NR S g M i n) {C:List Cm} (NI:JT C i n):NR S g M i (lead n):=by
 unfold lead
 split
 ·exact N
 ·rename_i q
  have hu:n.up=true:=by
   cases e:n.up with
   | true=>rfl
   | false=>exact (q (.inl e)).elim
  have eA:=Qe hu
  have hM:=N.m
  rw[eA]at hM
  have hr:¬65536<(Xz n).r:=fun e=>q (.inr e)
  have ZBo:=NI.own.iE.1
  have hrr:n.own.p.r<(Xz n).r∧1≤(Xz n).r:=by
   unfold Xz
   simp only
   split<;>omega
  have wy:∀s x,¬g.P (Xz n) s x:=fun s x h=>by
   have:=G.own _ _ _ h
   rw[show (Xz n).n=((n.me:Nat):Int) from rfl,Int.toNat_natCast,NI.me,hM]at this
   exact this (.inl hrr.1)
  have Wo:(Xz n).n=i:=by rw[show (Xz n).n=((n.me:Nat):Int) from rfl,NI.me]
  refine⟨N.acc,N.m,⟨fun h1 h2=>N.tape.idle h1 ?_,fun h1 p hp=>?_,fun h=>?_,N.tape.len⟩,fun p hp=>?_,N.known,N.log,N.CM,fun r e=>?_⟩
  ·have h2:Xf n.ZA=none:=h2
   cases e:n.ZA with
   | none=>rfl
   | some p=>rw[e]at h2;cases p<;>cases h2
  ·have hp:Xf n.ZA=some p:=hp
   cases e:n.ZA with
   | none=>rw[e]at hp;cases hp
   | some p0=>
    obtain⟨d,f,t1,t2,t3,t4⟩:=N.tape.busy hu p0 e
    refine⟨d,f,t1,t2,t3,?_⟩
    have:KW p=KW p0:=by
     rw[e]at hp
     cases p0<;>cases hp<;>rfl
    rw[this];exact t4
  ·have h:n.up=false:=h
   rw[hu]at h;cases h
  ·have hp:Xf n.ZA=some p:=hp
   cases e:n.ZA with
   | none=>rw[e]at hp;cases hp
   | some p0=>
    have P:=N.ZA p0 e
    rw[e]at hp
    cases p0 with
    | MD a to b vs=>cases hp;exact P
    | Mi a to v=>cases hp;exact P
    | own a vs cur=>
     cases hp
     obtain⟨b,h1,h2,h3,_⟩:=P
     exact⟨b,h1,h2,h3,fun h=>by cases h⟩
  ·obtain rfl:=Option.some.inj e
   exact⟨Wo,⟨⟨hrr.2,by show (Xz n).r≤65536;omega⟩,by show 0≤(Xz n).n∧(Xz n).n≤4;rw[Wo];omega⟩,fun j vs h=>(by cases h),fun _ s x=>wy s x,fun s x h=>(wy s x h).elim,fun s x h=>(by cases h),fun h=>(by cases h),fun s K j h=>by cases h⟩
theorem Lb {A:Qw} {up:Bool} {d:List Nat} {z:Int} (JZ:AR g i (QK (blank i up d z A))) (hm:M i=(QK (blank i up d z A)).p) (ht:TR (blank i up d z A)):NR S g M i (blank i up d z A):=
 ⟨JZ,hm,ht,fun p e=>(by cases e),fun s x e=>(by cases e),fun k x e=>(by simp[blank]at e),fun x e=>(by cases e),fun r e=>by cases e⟩
theorem IW (i:Nat) (n:Nd) (Zc:Int) (hu:n.up=true):∃d z,crashed i n Zc=blank i false d z XU:=by
 unfold crashed
 rw[if_pos hu]
 split
 ·exact⟨_,_,rfl⟩
 ·exact⟨_,_,rfl⟩
theorem iY (G:GI S g M) (N:NR S g M i n) (hb:∀l∈n.inbox,LR S g M l) {Zc:Int} (hk:0≤Zc):∃g' M',TS S g M i ⟨crashed i n Zc,[],[]⟩ g' M':=by
 cases hu:n.up with
 | false=>
  have:crashed i n Zc=n:=by unfold crashed;rw[if_neg (by rw[hu];decide)]
  rw[this]
  exact⟨g,M,.still G N hb⟩
 | true=>
  obtain⟨t1,t2,t3⟩:=aN N.tape hu hk (i:=i)
  obtain⟨d,z,e⟩:=IW i n Zc hu
  rw[e]at t1 t2 t3 ⊢
  have eA:=Qe hu
  rcases t3 with t3|⟨p,hp,t3⟩
  ·have JZ:=N.acc
   have hm:=N.m
   rw[eA,←t3]at JZ hm
   exact⟨g,M,.still G (Lb JZ hm t1) (fun l hl=>by cases hl)⟩
  ·obtain⟨g',M',E,G',A,m',_,_⟩:=qg G N hu hp
   rw[←t3]at A m'
   exact⟨g',M',E,G',Lb A m' t1,(fun l hl=>by cases hl),fun l hl=>by cases hl⟩
theorem iZ (N:NR S g M i n):NR S g M i (started i n):=by
 cases hu:n.up with
 | true=>
  have:started i n=n:=by unfold started;rw[if_pos hu]
  rw[this];exact N
 | false=>
  obtain⟨t1,t2,t3⟩:=aO N.tape hu (i:=i)
  have JZ:=N.acc
  have hm:=N.m
  have e2:=Qe t2
  rw[t3]at e2
  rw[←e2]at JZ hm
  have e:∃d z A,started i n=blank i true d z A:=by
   unfold started
   rw[if_neg (by rw[hu];decide)]
   exact⟨_,_,_,rfl⟩
  obtain⟨d,z,A,e⟩:=e
  rw[e]at t1 JZ hm ⊢
  exact Lb JZ hm t1
end
structure TI (S:Cm→Prop) (g:Gh) (M:Nat→YG) (w:Wd):Prop where
 gi:GI S g M
 nd:∀i,i<5→NR S g M i (w.nodes i)
 M7:∀l∈w.Zm,LR S g M l
 Pq:∀i,i<5→∀l∈(w.nodes i).inbox,LR S g M l
section
variable {S:Cm→Prop} {g:Gh} {M:Nat→YG} {w:Wd}
theorem TI.out (T:TI S g M w) {i:Nat} {o:Out} {g':Gh} {M':Nat→YG} (h:TS S g M i o g' M'):TI S g' M' (w.out i o):=by
 unfold Wd.out
 refine⟨h.gi,fun j hj=>?_,fun l hl=>?_,fun j hj l hl=>?_⟩
 ·by_cases e:j=i
  ·subst e;simpa using h.n
  ·simp only[if_neg e];exact (T.nd j hj).ext h.e e
 ·rcases List.mem_append.1 hl with hl|hl
  ·exact (T.M7 l hl).ext h.e
  ·exact h.ls l hl
 ·by_cases e:j=i
  ·subst e;simp only[if_true]at hl;exact h.Pq l hl
  ·simp only[if_neg e]at hl;exact (T.Pq j hj l hl).ext h.e
theorem aT (T:TI S g M w) {l:Y3} (hl:LR S g M l) (ht:0≤l.to∧l.to<5):TI S g M (Ue w l):=by
 unfold Ue
 split
 ·refine⟨T.gi,fun i hi=>?_,T.M7,fun i hi x hx=>?_⟩
  ·unfold Wd.set
   by_cases e:i=l.to.toNat
   ·simp only[if_pos e]
    rw[e]
    exact (T.nd _ (by omega)).box _
   ·simp only[if_neg e];exact T.nd i hi
  ·unfold Wd.set at hx
   by_cases e:i=l.to.toNat
   ·simp only[if_pos e]at hx
    rcases List.mem_append.1 hx with hx|hx
    ·exact T.Pq _ (by omega) x hx
    ·rw[List.mem_singleton.1 hx];exact hl
   ·simp only[if_neg e]at hx;exact T.Pq i hi x hx
 ·exact T
theorem vX:∀(ls:List Y3) (w:Wd),TI S g M w→(∀l∈ls,LR S g M l∧0≤l.to∧l.to<5)→TI S g M (ls.foldl Ue w):=by
 intro ls
 induction ls with
 | nil=>intro w T _;exact T
 | cons l ls ih=>intro w T h;exact ih _ (aT T (h l (by simp)).1 (h l (by simp)).2) (fun x hx=>h x (by simp[hx]))
theorem TI.yw (T:TI S g M w) {fl:List Y3} (h:∀l∈fl,l∈w.Zm):TI S g M { w with Zm:=fl }:=⟨T.gi,T.nd,fun l hl=>T.M7 l (h l hl),T.Pq⟩
theorem Zgq {C:List Cm} (hC:C.length≤100000) {k:Nat} (W:WI C k w) (T:TI S g M w) (a:Ac) (hi:a.node<5) (hk:0≤a.Zc) (hS:∀now:Nat,a.kind=1→Yo a.data now=0→S (XX a.data now)) :
  ∃g' M',(∀j b s x,g.V j b s x→g'.V j b s x)∧TI S g' M' (act w a):=by
 have same:∀{v:Wd},TI S g M v→∃g' M',(∀j b s x,g.V j b s x→g'.V j b s x)∧TI S g' M' v:=fun h=>⟨g,M,fun _ _ _ _ h=>h,h⟩
 have N:=T.nd a.node hi
 have NI:=W.nd a.node hi
 unfold act
 split
 ·rename_i hk1
  refine same ?_
  unfold Tt
  split
  ·split
   ·exact⟨T.gi,T.nd,T.M7,T.Pq⟩
   ·rename_i q
    split
    ·exact⟨T.gi,T.nd,T.M7,T.Pq⟩
    ·rw[WV]
     have hx:=hS _ hk1 (by simpa using q)
     obtain⟨A,_,_⟩:=yq N hx
     have s1:(add (w.nodes a.node) (XX a.data (w.nodes a.node).log.length)).inbox=(w.nodes a.node).inbox:=by unfold add;split<;>rfl
     refine T.out ⟨Ext.refl _ _ _,T.gi,?_,(fun l hl=>by cases hl),fun l hl=>?_⟩
     ·unfold OC
      simp only
      split
      ·exact A
      ·exact⟨A.acc,A.m,⟨A.tape.idle,A.tape.busy,A.tape.down,A.tape.len⟩,fun p e=>(by have:=A.ZA p e;cases p<;>exact this),A.known,A.log,A.CM,fun r e=>by
        have R:=A.Zi r e
        exact⟨R.node,R.may,R.prom,R.pn,R.pr,R.safe,R.free,R.Xt⟩⟩
     ·have s2:(OC (add (w.nodes a.node) (XX a.data (w.nodes a.node).log.length)) (XX a.data (w.nodes a.node).log.length)).inbox=(w.nodes a.node).inbox:=by
       unfold OC;split<;>exact s1
      exact T.Pq _ hi l (by rw[←s2];exact hl)
  ·exact T
 split
 ·refine same ?_
  rw[WV]
  refine T.out ⟨Ext.refl _ _ _,T.gi,ZbD hi T.gi N NI,(fun l hl=>by cases hl),fun l hl=>?_⟩
  have hl:l∈(lead (w.nodes a.node)).inbox:=hl
  rw[(pI NI).2.1]at hl
  exact T.Pq _ hi l hl
 split
 ·obtain⟨g',M',h⟩:=ZbC hi T.gi N hC NI (fun l hl=>⟨W.Pq _ hi l hl,T.Pq _ hi l hl⟩)
  exact⟨g',M',h.e.v,T.out h⟩
 split
 ·refine same ?_
  unfold pick
  split
  ·exact T
  ·rename_i l hl
   have iq:l∈w.Zm:=List.mem_of_getElem? hl
   have T2:=T.yw (fl:=w.Zm.eraseIdx (a.at'%w.Zm.length)) (fun x hx=>List.mem_of_mem_eraseIdx hx)
   have ht:=(W.M7 l iq).to
   split
   ·split
    ·exact aT T (T.M7 l iq) ht
    ·exact aT T2 (T.M7 l iq) ht
   ·split
    ·exact T
    ·exact T2
 split
 ·exact same (vX _ _ (T.yw (fl:=[]) (fun l hl=>by cases hl)) (fun l hl=>⟨T.M7 l hl,(W.M7 l hl).to⟩))
 split
 ·obtain⟨g',M',h⟩:=iY T.gi N (T.Pq _ hi) hk
  rw[WV]
  exact⟨g',M',h.e.v,T.out h⟩
 ·refine same ?_
  rw[WV]
  refine T.out ⟨Ext.refl _ _ _,T.gi,iZ N,(fun l hl=>by cases hl),fun l hl=>?_⟩
  rcases (H6 NI (i:=a.node)).2 with⟨q,_⟩|q
  ·have hl:l∈(started a.node (w.nodes a.node)).inbox:=hl
   rw[q]at hl;cases hl
  ·have hl:l∈(started a.node (w.nodes a.node)).inbox:=hl
   rw[q]at hl
   exact T.Pq _ hi l hl
def gh0:Gh:=⟨fun _ _ _ _=>False,fun _ _ _=>False⟩
theorem qi:TI S gh0 (fun _=>Jn) Vj:=by
 refine⟨⟨fun _ _ _ _ h=>h.elim,fun _ _ _ _ h=>h.elim,fun _ _ _ _ h=>h.elim,fun _ _ _ h=>h.elim,fun _ _ _ h=>h.elim,fun _ _ _ h=>h.elim,fun _ _ _ h=>h.elim⟩,fun i hi=>?_,(fun l hl=>by cases hl),fun i hi l hl=>by cases hl⟩
 exact Lb ⟨fun v hv=>(by cases hv),fun _ _ _ h=>h.elim⟩ rfl (pX i)
def ZbE (S:Cm→Prop) (C:List Cm) (a:Ac):Prop:=(a.node<5∧Pg a.data∈C)∧0≤a.Zc∧∀now:Nat,a.kind=1→Yo a.data now=0→S (XX a.data now)
theorem Zgr {C:List Cm} (hC:C.length≤100000):∀(l:List Ac) (k:Nat) (w:Wd) (g:Gh) (M:Nat→YG),WI C k w→TI S g M w→(∀a∈l,ZbE S C a) →
  ∃g' M',(∀j b s x,g.V j b s x→g'.V j b s x)∧TI S g' M' (l.foldl act w)∧WI C (k+l.length) (l.foldl act w):=by
 intro l
 induction l with
 | nil=>intro k w g M W T _;exact⟨g,M,fun _ _ _ _ h=>h,T,W⟩
 | cons a l ih=>
  intro k w g M W T hl
  obtain⟨h1,h2,h3⟩:=hl a (by simp)
  obtain⟨g1,M1,v1,T1⟩:=Zgq hC W T a h1.1 h2 h3
  obtain⟨g2,M2,v2,T2,W2⟩:=ih (k+1) (act w a) g1 M1 (ym hC W a h1.1 h1.2) T1 (fun x hx=>hl x (by simp[hx]))
  refine⟨g2,M2,fun _ _ _ _ h=>v2 _ _ _ _ (v1 _ _ _ _ h),T2,?_⟩
  rw[List.length_cons,show k+(l.length+1)=k+1+l.length by omega]
  exact W2
theorem qj {C:List Cm} (hC:C.length≤100000) (l:List Ac) (hl:∀a∈l,ZbE S C a) (i:Nat) (hi:i<5) (x:Cm) (hx:x∈((RY l).nodes i).log):x=Ks∨S x:=by
 obtain⟨g1,M1,_,T1,W1⟩:=Zgr hC l 0 Vj gh0 (fun _=>Jn) (KV C) qi hl
 obtain⟨s,hs,rfl⟩:=List.mem_iff_getElem.1 hx
 have c1:=(T1.nd i hi).log s _ (List.getElem?_eq_getElem hs)
 obtain⟨b,hb⟩:=c1.prop T1.gi
 exact T1.gi.cmd _ _ _ hb
end
theorem ja (g:Gr):(VU g).length≤63:=by
 unfold VU Zbu
 split
 ·unfold gI
  have:=nM (Ul (CL g).c.toNat) (Qg g.a 1000).toNat (nL (iK g) (iL g) 60 (CL g).k (CL g).c (CL g).s (CL g).n (CL g).v)
  have e:(nL (iK g) (iL g) 60 (CL g).k (CL g).c (CL g).s (CL g).n (CL g).v).length=42:=by
   unfold nL
   rw[List.length_append,Mf,ZB];rfl
  rw[List.length_cons];omega
 ·simp
theorem jc (g:Gr):(St g).length≤63:=by
 have:=ja g
 unfold St
 split
 ·rw[List.length_take];omega
 ·exact this
theorem qk (g:Gr) (cr:Bool):(Vq g cr).err=0:=by
 have h1:=UR g.a (m:=5) (by omega)
 have h2:=UR g.c (m:=20) (by omega)
 have h3:=UR g.c (m:=90) (by omega)
 have h4:=jc g
 have mk:∀(k n a b:Int) (len:Nat),(1≤k∧k≤9)→(YS k∧(0≤n∧n≤4)∨¬YS k∧n=0)→(Js k∧(0≤a∧a≤1048576)∨¬Js k∧a=0)→(k=8∧(0≤b∧b≤100000)∨k≠8∧b=0)→len≤2000→(k=1∨len=0)→QE k n a b len=0:=fun k n a b len q1 q2 q3 q4 q5 q6=>by
  unfold YS at q2
  unfold Js at q3
  unfold QE YS Js
  rw[if_neg (by omega),if_neg (by omega),if_neg (by omega),if_neg (by omega)]
 unfold Vq
 repeat' split
 all_goals
  unfold Raw.err
  refine mk _ _ _ _ _ ?_ ?_ ?_ ?_ ?_ ?_
 all_goals simp[YS,Js]
 all_goals omega
theorem qm (gs:List Gr) (cr:Bool):∀j,∀x∈(Sv gs cr j).2,x.err=0:=by
 have key:∀(l:List Gr) (st:Nat × List Raw),(∀x∈st.2,x.err=0)→∀x∈(l.foldl (S3 cr) st).2,x.err=0:=by
  intro l
  induction l with
  | nil=>intro st h;exact h
  | cons g l ih=>
   intro st h
   refine ih _ (fun x hx=>?_)
   unfold S3 at hx
   rcases List.mem_append.1 hx with hx|hx
   ·exact h x hx
   ·rw[List.mem_singleton.1 hx]
    unfold Su
    split
    ·rfl
    ·exact qk g cr
 intro j
 exact key _ _ (fun x hx=>by cases hx)
theorem vY (gs:List Gr) (Xr:Nat) (cr:Bool):∀x∈yo gs Xr cr,x.err=0:=qm gs cr Xr
theorem vZ (gs:List Gr) (Xr:Nat) (cr:Bool):(yo gs Xr cr).length≤Xr:=by
 unfold yo
 by_cases h:Xr≤gs.length
 ·rw[(ON gs cr Xr h).1];exact Nat.le_refl _
 ·rw[Cj gs cr Xr (by omega),(ON gs cr gs.length (Nat.le_refl _)).1];omega
theorem Cp {l:List Raw} (h:∀x∈l,x.err=0) (hl:l.length≤100000):Vp l=0:=by
 unfold Vp
 rw[if_neg (by omega)]
 exact Sr h
theorem wh {A:List Raw} (hA:∀x∈A,x.err=0) (hl:A.length≤100000) (i:Nat) (hi:i<5):((FM A).nodes i).log.length≤40:=by
 obtain⟨C,hC⟩:=Zy (A.map fun x=>Pg x.data)
 have uC:C.length≤100000:=by rw[hC,List.length_map];exact hl
 have:=pP uC (A.map Raw.ac) 0 Vj (KV C) (fun a ha=>by
  obtain⟨z,hz,rfl⟩:=List.mem_map.1 ha
  obtain⟨_,q2,_,_,_⟩:=KR (hA z hz)
  refine⟨by unfold Raw.ac;simp only;omega,?_⟩
  rw[hC]
  exact List.mem_map.2 ⟨z,hz,rfl⟩)
 exact (this.nd i hi).Fz
def Ja (h0:Hp) (o:Ow) (g:Hp) (v:Value) (l:List Raw):Prop:=
 Kp (fun t=>t=.log 100) Pe h0 o g∧∃ys,Y0 ys=l∧YB o (.log 100) 36 5 g v ys.length (Zz JU ys)∧∀y∈ys,Tv o g y.2 y.1.data
theorem Ja.nil (h0:Hp):Ja h0 Pe h0 (.slice none 0 0) []:=⟨Kp.refl (Ss h0) _,[],rfl,YB.nil _ _ _ _ _,fun y hy=>by cases hy⟩
theorem Ja.isSlice {h0:Hp} {o:Ow} {g:Hp} {v:Value} {l:List Raw} (A:Ja h0 o g v l):∃p c,v=.slice p l.length c∧l.length≤c:=by
 obtain⟨_,ys,hr,O,_⟩:=A
 obtain⟨p,c,h,hc⟩:=O.isSlice
 have:ys.length=l.length:=by rw[←hr];unfold Y0;simp
 rw[this]at h hc
 exact⟨p,c,h,hc⟩
theorem Ja.done {h0:Hp} {o:Ow} {g:Hp} {v:Value} {l:List Raw} (A:Ja h0 o g v l):Zg h0.size h0 g∧Ta v∧∃ys,Y0 ys=l∧Ts JU 5 g v ys∧∀y∈ys,Tv Pe g y.2 y.1.data:=by
 obtain⟨p,c,hv,hc⟩:=A.isSlice
 obtain⟨K,ys,hr,O,I⟩:=A
 exact⟨Pf K,by rw[hv];exact hc,ys,hr,⟨O.sl⟩,fun y hy=>⟨⟨(I y hy).1.sl,(I y hy).1.fits,fun b hb=>⟨((I y hy).1.free b hb).1,rfl⟩⟩,(I y hy).2⟩⟩
theorem qn:∀(xs:List (Raw × Value)),(∀x∈xs,∃p n c,x.2=.slice p n c)→(Zz JU xs).all Z7=true:=by
 intro xs
 induction xs with
 | nil=>intro _;rfl
 | cons x xs ih=>
  intro h
  obtain⟨p,n,c,e⟩:=h x (by simp)
  have h2:=ih (fun y hy=>h y (by simp[hy]))
  rw[show Zz JU (x :: xs)=JU x++Zz JU xs from rfl,List.all_append,h2]
  unfold JU
  rw[e]
  rfl
section
variable {T:World} {K:Value→Hp→Prop} {ty:TypeId} {cb:Array Bool}
theorem Ja.T5 {h0:Hp} {o:Ow} {g:Hp} {v:Value} {l:List Raw} (A:Ja h0 o g v l) (hl:l.length≤1000000000) (X:Raw) (q:Option Addr) (cq:Nat) (im:Tv o g (.slice q X.data.length cq) X.data)
  (H:∀v' o' g',Ja h0 o' g' v' (l++[X])→Kp Vn o g o' g'→K v' g'):TL Tryz.prog T .append #[23,23] ty cb [v,.slice (some ⟨g.size,0,none⟩) 1 1] K (g.push (.cells #[.int .i64 X.k,.int .i64 X.n,.int .i64 X.a,.int .i64 X.b,.slice q X.data.length cq] 36)):=by
 obtain⟨K1,ys,hr,O,I⟩:=A
 have yl:ys.length=l.length:=by rw[←hr];unfold Y0;simp
 obtain⟨g6,Rb⟩:=Zy (g.push (.cells (VT X.k X.n X.a X.b (.slice q X.data.length cq)).toArray 36):Hp)
 have k6:Kp Qz o g o g6:=by rw[Rb];exact ZX K1.ZW _
 have x6:g6[g.size]? = some (.cells (VT X.k X.n X.a X.b (.slice q X.data.length cq)).toArray 36):=by rw[Rb];exact Zb
 have src:Sl 5 g6 (.slice (some ⟨g.size,0,none⟩) 1 1) 1 (VT X.k X.n X.a X.b (.slice q X.data.length cq)):=⟨_,1,rfl,rfl,fun _=>⟨g.size,0,rfl,fun i hi=>by
  rw[Zh x6,Ym,Nat.zero_add];exact List.getElem?_eq_getElem hi⟩⟩
 have O6:=O.Zc k6 (fun q=>q)
 show TL Tryz.prog T .append #[23,23] ty cb [v,.slice (some ⟨g.size,0,none⟩) 1 1] K (g.push (.cells (VT X.k X.n X.a X.b (.slice q X.data.length cq)).toArray 36))
 rw[←Rb]
 refine X0 (E:=36) (n:=5) (bytes:=56) (k:=1) mf Tryz.underlying23 zC zE rfl zD O6 k6.ZW src rfl (by omega) (by omega) ?_
 intro v7 o7 g7 O7 k7 _
 have k7:Kp (fun u=>u=.log 100) o g6 o7 g7:=k7
 refine H v7 o7 g7 ⟨(K1.trans (ZE k6)).trans k7,ys++[(X,.slice q X.data.length cq)],?_,?_,fun y hy=>?_⟩ (Yc ((ZE k6).trans k7))
 ·rw[←hr];unfold Y0;simp only[List.map_append,List.map_cons,List.map_nil]
 ·have e:Zz JU (ys++[(X,Value.slice q X.data.length cq)])=Zz JU ys++VT X.k X.n X.a X.b (.slice q X.data.length cq):=by rw[Ye,Ud];rfl
  rw[e,List.length_append]
  exact O7
 ·rcases List.mem_append.1 hy with hy|hy
  ·exact ((I y hy).Zc k6).Zc k7
  ·rw[List.mem_singleton.1 hy]
   exact (im.Zc k6).Zc k7
theorem Ja.add {h0:Hp} {o:Ow} {g:Hp} {v:Value} {l:List Raw} (A:Ja h0 o g v l) (hl:l.length≤1000000000) (k n a b:Int)
  (H:∀v' o' g',Ja h0 o' g' v' (l++[⟨k,n,a,b,[]⟩])→K v' g'):TL Tryz.prog T .append #[23,23] ty cb [v,.slice (some ⟨g.size,0,none⟩) 1 1] K (g.push (.cells #[.int .i64 k,.int .i64 n,.int .i64 a,.int .i64 b,.slice none 0 0] 36)):=
 A.T5 hl ⟨k,n,a,b,[]⟩ none 0 ⟨Im.nil _ 1 _ none,fun x hx=>by cases hx⟩ (fun v' o' g' A' _=>H v' o' g' A')
theorem Ja.ZbF {h0:Hp} {o:Ow} {g:Hp} {v:Value} {l:List Raw} (A:Ja h0 o g v l) (hl:l.length≤1000000000) {u:Value} {xs:List (Raw × Value)} (hu:Ts JU 5 g u xs) (hx:∀x∈xs,Tv Pe h0 x.2 x.1.data) (CD:xs.length≤1000000000)
  (H:∀v' o' g',Ja h0 o' g' v' (l++Y0 xs)→K v' g'):TL Tryz.prog T .append #[23,23] ty cb [v,u] K g:=by
 obtain⟨K1,ys,hr,O,I⟩:=A
 have yl:ys.length=l.length:=by rw[←hr];unfold Y0;simp
 refine X0 (E:=36) (n:=5) (bytes:=56) (k:=xs.length) mf Tryz.underlying23 zC zE rfl zD O K1.ZW hu.sl ?_ (by omega) (by omega) ?_
 ·exact qn xs (fun x qU=>by
   obtain⟨p,c,e⟩:=(hx x qU).1.isSlice
   exact⟨p,_,c,e⟩)
 intro v7 o7 g7 O7 k7 _
 have k7:Kp (fun u=>u=.log 100) o g o7 g7:=k7
 refine H v7 o7 g7 ⟨K1.trans k7,ys++xs,?_,?_,fun y hy=>?_⟩
 ·rw[←hr];unfold Y0;rw[List.map_append]
 ·rw[Ye,List.length_append];exact O7
 ·rcases List.mem_append.1 hy with hy|hy
  ·exact (I y hy).Zc k7
  ·exact (hx y hy).Zc (K1.trans k7)
end
def Q3 (n m:Nd):Prop:=m.up=n.up∧m.me=n.me∧∃e,m.log=n.log++e
theorem Q3.refl (n:Nd):Q3 n n:=⟨rfl,rfl,[],by simp⟩
theorem Q3.trans {a b c:Nd} (h1:Q3 a b) (h2:Q3 b c):Q3 a c:=by
 obtain⟨u1,m1,e1,l1⟩:=h1
 obtain⟨u2,m2,e2,l2⟩:=h2
 exact⟨by rw[u2,u1],by rw[m2,m1],e1++e2,by rw[l2,l1,List.append_assoc]⟩
theorem Q3.same {n m:Nd} (h1:m.up=n.up) (h2:m.me=n.me) (h3:m.log=n.log):Q3 n m:=⟨h1,h2,[],by rw[h3];simp⟩
theorem FD:∀(k:Nat) (n:Nd),Q3 n (Yu k n).1:=by
 intro k
 induction k with
 | zero=>intro n;exact .refl n
 | succ k ih=>
  intro n
  unfold Yu
  split
  ·exact .refl n
  ·rename_i x _
   exact Q3.trans (b:=Ux n x) ⟨rfl,rfl,[x],rfl⟩ (ih _)
theorem KY (n:Nd) (s:Int) (x:Cm):Q3 n (Un n s x).n:=by
 unfold Un
 exact Q3.trans (b:=QG n s x) (.same rfl rfl rfl) (FD _ _)
theorem Ph (n:Nd) (l:Y3):Q3 n (notes n l):=by
 unfold notes
 split
 ·exact .same rfl rfl rfl
 ·exact .refl n
theorem qo (n:Nd) (x:Cm):Q3 n (add n x):=by
 unfold add
 split
 ·exact .refl n
 ·exact .same rfl rfl rfl
theorem Cq (n:Nd) (l:Y3):Q3 n (handle n l).n:=by
 unfold handle
 split
 ·unfold YR
  repeat' split
  all_goals exact .same rfl rfl rfl
 split
 ·unfold Yv
  split
  ·exact .refl n
  ·rename_i r _
   split
   ·split
    ·exact .same rfl rfl rfl
    ·exact .refl n
   ·split
    ·exact .refl n
    ·split
     ·exact Q3.trans (b:=Nk n r l) (.same rfl rfl rfl) (KY _ _ _)
     ·exact .same rfl rfl rfl
 split
 ·unfold asked
  repeat' split
  all_goals exact .same rfl rfl rfl
 split
 ·exact qo n _
 split
 ·unfold Wc
  split
  ·exact Ph n l
  ·exact Ph n l
 split
 ·exact KY n _ _
 ·exact Ph n l
theorem KZ:∀(k:List Y3) (n:Nd),Q3 n (drain n k).n:=by
 intro k
 induction k with
 | nil=>intro n;unfold drain;exact .same rfl rfl rfl
 | cons l k ih=>
  intro n
  unfold drain
  split
  ·exact .same rfl rfl rfl
  ·exact Q3.trans (b:={ n with inbox:=k }) (.same rfl rfl rfl) (Q3.trans (Cq _ l) (ih _))
theorem jd (n:Nd) (r:Jj):Q3 n (Qx n r).n:=by
 unfold Qx
 split
 ·split
  ·exact .refl n
  ·exact .same rfl rfl rfl
 ·split
  ·exact .refl n
  ·exact .same rfl rfl rfl
theorem aU (n:Nd):Q3 n (still n):=by
 unfold still
 split
 ·split
  ·exact .same rfl rfl rfl
  ·exact .refl n
 ·exact .refl n
theorem aV (n:Nd):Q3 n (Yx n).n:=by
 unfold Yx
 split
 ·exact jd _ _
 ·split
  ·exact .refl n
  ·exact .refl n
theorem je (n:Nd):Q3 n (Wf n).n:=by
 have h:=Q3.trans (aU n) (aV (still n))
 unfold Wf
 split
 ·exact h
 ·exact h.trans (.same rfl rfl rfl)
theorem Cr (n:Nd) (p:DM):Q3 n (finish (synced n) p).n:=by
 cases p<;>exact .same rfl rfl rfl
theorem jf (n:Nd):Q3 n (step n).n:=by
 unfold step
 split
 ·split
  ·exact Cr n _
  ·split
   ·exact KZ _ n
   ·exact (KZ _ n).trans (je _)
 ·exact .refl n
def Still (n m:Nd):Prop:=m.up=n.up∧m.me=n.me∧m.log=n.log
theorem Still.refl (n:Nd):Still n n:=⟨rfl,rfl,rfl⟩
theorem Still.trans {a b c:Nd} (h1:Still a b) (h2:Still b c):Still a c:=⟨by rw[h2.1,h1.1],by rw[h2.2.1,h1.2.1],by rw[h2.2.2,h1.2.2]⟩
theorem Pj (w:Wd) (l:Y3) (i:Nat):Still (w.nodes i) ((Ue w l).nodes i):=by
 unfold Ue
 split
 ·unfold Wd.set
  by_cases e:i=l.to.toNat
  ·simp only[if_pos e];rw[e];exact⟨rfl,rfl,rfl⟩
  ·simp only[if_neg e];exact .refl _
 ·exact .refl _
theorem Cs:∀(ls:List Y3) (w:Wd) (i:Nat),Still (w.nodes i) ((ls.foldl Ue w).nodes i):=by
 intro ls
 induction ls with
 | nil=>intro w i;exact .refl _
 | cons l ls ih=>intro w i;exact Still.trans (Pj w l i) (ih _ i)
theorem Sw (w:Wd) (k:Nat) (n:Nd) (i:Nat):((w.set k n).nodes i)=if i=k then n else w.nodes i:=rfl
theorem qp (w:Wd) (k:Nat) (o:Out) (i:Nat):((w.out k o).nodes i)=if i=k then o.n else w.nodes i:=rfl
theorem FE (w:Wd) (k:Nat) (data:List Nat) (i:Nat):Still (w.nodes i) ((Tt w k data).nodes i):=by
 unfold Tt
 split
 ·split
  ·exact .refl _
  ·split
   ·exact .refl _
   ·rw[Sw]
    by_cases e:i=k
    ·rw[if_pos e,e]
     unfold OC add
     repeat' split
     all_goals exact⟨rfl,rfl,rfl⟩
    ·rw[if_neg e];exact .refl _
 ·exact .refl _
theorem aW (w:Wd) (k:Nat) (c s:Bool) (i:Nat):Still (w.nodes i) ((pick w k c s).nodes i):=by
 unfold pick
 split
 ·exact .refl _
 ·split
  ·split
   ·exact Pj _ _ _
   ·exact Pj { w with Zm:=_ } _ _
  ·split
   ·exact .refl _
   ·exact .refl _
theorem qs (w:Wd) (a:Ac) (i:Nat) :
  (a.kind=8∧a.node=i∧(act w a).nodes i=crashed i (w.nodes i) a.Zc) ∨
  (¬(1≤a.kind∧a.kind≤8)∧a.node=i∧(act w a).nodes i=started i (w.nodes i)) ∨
  (a.kind=3∧a.node=i∧(w.nodes i).up=true∧Q3 (w.nodes i) ((act w a).nodes i)) ∨
  Still (w.nodes i) ((act w a).nodes i):=by
 unfold act
 split
 ·exact .inr (.inr (.inr (FE _ _ _ _)))
 split
 ·refine .inr (.inr (.inr ?_))
  rw[Sw]
  by_cases e:i=a.node
  ·rw[if_pos e,e]
   unfold lead
   split
   ·exact .refl _
   ·exact⟨rfl,rfl,rfl⟩
  ·rw[if_neg e];exact .refl _
 split
 ·rename_i k
  rw[qp]
  by_cases e:i=a.node
  ·rw[if_pos e,e]
   cases hu:(w.nodes a.node).up with
   | true=>exact .inr (.inr (.inl ⟨k,rfl,rfl,jf _⟩))
   | false=>
    have:(step (w.nodes a.node)).n=w.nodes a.node:=by unfold step;rw[if_neg (by rw[hu];decide)]
    rw[this];exact .inr (.inr (.inr (.refl _)))
  ·rw[if_neg e];exact .inr (.inr (.inr (.refl _)))
 split
 ·exact .inr (.inr (.inr (aW _ _ _ _ _)))
 split
 ·exact .inr (.inr (.inr (Cs w.Zm { w with Zm:=[] } i)))
 split
 ·rename_i k
  rw[Sw]
  by_cases e:i=a.node
  ·rw[if_pos e,e];exact .inl ⟨k,rfl,rfl⟩
  ·rw[if_neg e];exact .inr (.inr (.inr (.refl _)))
 ·rename_i k1 k2 k3 k4 k5 k6
  rw[Sw]
  by_cases e:i=a.node
  ·rw[if_pos e,e];exact .inr (.inl ⟨by omega,rfl,rfl⟩)
  ·rw[if_neg e];exact .inr (.inr (.inr (.refl _)))
theorem Mt (i:Nat) (n:Nd):(n.up=true∧started i n=n)∨(n.up=false∧(started i n).up=true∧(started i n).log=[]):=by
 unfold started
 cases hu:n.up with
 | true=>exact .inl ⟨rfl,by simp⟩
 | false=>exact .inr ⟨rfl,rfl,rfl⟩
theorem ZbG (w:Wd) (a:Ac) (i:Nat) (h8:a.kind≠8):((w.nodes i).up=true→((act w a).nodes i).up=true)∧(a.kind=9→a.node=i→((act w a).nodes i).up=true):=by
 rcases qs w a i with⟨k,_,_⟩|⟨k,e,q⟩|⟨k,_,hu,q,_⟩|⟨q,_⟩
 ·exact (h8 k).elim
 ·rw[q]
  have:(started i (w.nodes i)).up=true:=by
   rcases Mt i (w.nodes i) with⟨q1,q⟩|⟨_,q,_⟩
   ·rw[q];exact q1
   ·exact q
  exact⟨fun _=>this,fun _ _=>this⟩
 ·rw[q];exact⟨fun h=>h,fun h=>by omega⟩
 ·rw[q]
  refine⟨fun h=>h,fun h9 e=>?_⟩
  have:(act w a).nodes i=started i (w.nodes i):=by
   unfold act
   rw[if_neg (by omega),if_neg (by omega),if_neg (by omega),if_neg (by omega),if_neg (by omega),if_neg (by omega),Sw,if_pos e.symm,e]
  rw[←q,this]
  rcases Mt i (w.nodes i) with⟨q1,q⟩|⟨_,q,_⟩
  ·rw[q];exact q1
  ·exact q
theorem ZbH (i:Nat):∀(l:List Ac) (w:Wd),(∀a∈l,a.kind≠8)→((w.nodes i).up=true∨∃a∈l,a.kind=9∧a.node=i)→((l.foldl act w).nodes i).up=true:=by
 intro l
 induction l with
 | nil=>
  intro w _ h
  rcases h with h|⟨a,ha,_⟩
  ·exact h
  ·cases ha
 | cons a l ih=>
  intro w hl h
  obtain⟨u1,u2⟩:=ZbG w a i (hl a (by simp))
  refine ih _ (fun x hx=>hl x (by simp[hx])) ?_
  rcases h with h|⟨b,hb,k,e⟩
  ·exact .inl (u1 h)
  ·rcases List.mem_cons.1 hb with rfl|hb
   ·exact .inl (u2 k e)
   ·exact .inr ⟨b,hb,k,e⟩
def Two (x y:Nat) (k:Int):Prop:=k=x∨k=y
section
variable {x y:Nat} {n:Nd}
end
section
variable {x y:Nat} {w:Wd}
end
theorem aX {tc tr tu k c s n v now FF:Int} (h:TF tc tr tu k c s n v FF=0) (h0:0≤now) (hn:now≤FF):TF tc tr tu k c s n v now=0:=by
 unfold TF at *
 by_cases c1:XQ tc tr tu≠0
 ·rw[if_pos c1]at h;exact (c1 h).elim
 rw[if_neg c1]at h ⊢
 by_cases c2:YM k c s n v≠0
 ·rw[if_pos c2]at h;exact (c2 h).elim
 rw[if_neg c2]at h ⊢
 by_cases c3:¬IM k.toNat tr.toNat∨tc≠c
 ·rw[if_pos c3]at h;cases h
 rw[if_neg c3]at h ⊢
 by_cases c4:FF<0∨tu<FF
 ·rw[if_pos c4]at h;cases h
 rw[if_neg (by omega)]
structure Zpt (rc:List Nat):Prop where
 len:rc.length≠0
 key:X8 (rc.getD 0 0:Nat)=0
 take:UL (Ul (rc.getD 0 0)) 0 0 X7 (rc.drop 1)=0
 plain:(Xp rc).length=42
 prv:JK Vg ((Xp rc).take 22)=0
 dec:JE ((Xp rc).drop 22)=0
 own:¬(Xi ((Xp rc).drop 22) 0≠0∧Xi ((Xp rc).drop 22) 1≠(rc.getD 0 0:Nat))
theorem dE (rc:List Nat) (now:Int):Yo rc now=0↔Zpt rc∧AY (Xp rc) now=0:=by
 unfold Yo HJ DK DJ DI cR
 constructor
 ·intro h
  by_cases c1:rc.length=0
  ·rw[if_pos c1]at h;cases h
  rw[if_neg c1]at h
  by_cases c2:X8 (rc.getD 0 0:Nat)≠0
  ·rw[if_pos c2]at h;exact (c2 h).elim
  rw[if_neg c2]at h
  by_cases c3:UL (Ul (rc.getD 0 0)) 0 0 X7 (rc.drop 1)≠0
  ·rw[if_pos c3]at h;exact (c3 h).elim
  rw[if_neg c3]at h
  by_cases c4:(Xp rc).length≠42
  ·rw[if_pos c4]at h;cases h
  rw[if_neg c4]at h
  by_cases c5:JK Vg ((Xp rc).take 22)≠0
  ·rw[if_pos c5]at h;exact (c5 h).elim
  rw[if_neg c5]at h
  by_cases c6:JE ((Xp rc).drop 22)≠0
  ·rw[if_pos c6]at h;exact (c6 h).elim
  rw[if_neg c6]at h
  by_cases c7:Xi ((Xp rc).drop 22) 0≠0∧Xi ((Xp rc).drop 22) 1≠(rc.getD 0 0:Nat)
  ·rw[if_pos c7]at h;cases h
  rw[if_neg c7]at h
  exact⟨⟨c1,by omega,by omega,by omega,by omega,by omega,c7⟩,h⟩
 ·rintro⟨o,h⟩
  rw[if_neg o.len,if_neg (fun q=>q o.key),if_neg (fun q=>q o.take),if_neg (fun q=>q o.plain),if_neg (fun q=>q o.prv),if_neg (fun q=>q o.dec),if_neg o.own]
  exact h
theorem Ct {d:List Nat} {now FF:Int} (h:Yo d FF=0) (h0:0≤now) (hn:now≤FF):Yo d now=0∧XX d now=XX d FF:=by
 have h1:Yo d now=0:=by
  obtain⟨o,a⟩:=(dE d FF).1 h
  exact (dE d now).2 ⟨o,aX a h0 hn⟩
 refine⟨h1,?_⟩
 unfold XX
 rw[if_pos h,if_pos h1]
def Pk (n:Nat):Raw:=⟨9,n,0,0,[]⟩
def Gd (n:Nat):Raw:=⟨3,n,0,0,[]⟩
def Wk (k:Nat):List Raw:=(List.range k).map Gd
def Jb (k:Nat):List Raw:=(List.range k).map Pk
def K0:List Raw:=Wk 5++[iN]
def TH (k:Nat):List Raw:=(List.replicate k K0).flatten
def Jv (l:List Raw) (many:Nat):List Raw:=(l++Jb 5)++TH many
theorem Cu (k:Nat):Wk (k+1)=Wk k++[Gd k]:=by unfold Wk;rw[List.range_succ,List.map_append];rfl
theorem FG (k:Nat):Jb (k+1)=Jb k++[Pk k]:=by unfold Jb;rw[List.range_succ,List.map_append];rfl
theorem Ia (k:Nat):TH (k+1)=TH k++K0:=by
 unfold TH
 rw[List.replicate_succ',List.flatten_append]
 simp
theorem Ib (k:Nat):(Wk k).length=k:=by unfold Wk;simp
theorem Sx (k:Nat):(Jb k).length=k:=by unfold Jb;simp
theorem Ge (k:Nat):(TH k).length=6*k:=by
 induction k with
 | zero=>rfl
 | succ k ih=>rw[Ia,List.length_append,ih];unfold K0;rw[List.length_append,Ib];simp;omega
theorem WW (l:List Raw) (k:Nat):(Jv l k).length=l.length+5+6*k:=by
 unfold Jv
 rw[List.length_append,List.length_append,Sx,Ge]
theorem Ic {k:Nat} {x:Raw} (h:x∈Jb k):∃n,n<k∧x=Pk n:=by
 unfold Jb at h
 obtain⟨n,hn,rfl⟩:=List.mem_map.1 h
 exact⟨n,List.mem_range.1 hn,rfl⟩
theorem jg {k:Nat} {x:Raw} (h:x∈Wk k):∃n,n<k∧x=Gd n:=by
 unfold Wk at h
 obtain⟨n,hn,rfl⟩:=List.mem_map.1 h
 exact⟨n,List.mem_range.1 hn,rfl⟩
theorem Cv {k:Nat} {x:Raw} (h:x∈TH k):(∃n,n<5∧x=Gd n)∨x=iN:=by
 unfold TH at h
 obtain⟨l,hl,hx⟩:=List.mem_flatten.1 h
 rw[(List.mem_replicate.1 hl).2]at hx
 unfold K0 at hx
 rcases List.mem_append.1 hx with hx|hx
 ·exact .inl (jg hx)
 ·exact .inr (List.mem_singleton.1 hx)
theorem Ie {l:List Raw} {k:Nat} {x:Raw} (h:x∈Jv l k):x∈l∨(∃n,n<5∧x=Pk n)∨(∃n,n<5∧x=Gd n)∨x=iN:=by
 unfold Jv at h
 rcases List.mem_append.1 h with h|h
 ·rcases List.mem_append.1 h with h|h
  ·exact .inl h
  ·exact .inr (.inl (Ic h))
 ·exact .inr (.inr (Cv h))
theorem jh:(∀n,n<5→(Pk n).err=0)∧(∀n,n<5→(Gd n).err=0)∧iN.err=0:=by decide
theorem aY {l:List Raw} (h:∀x∈l,x.err=0) (k:Nat):∀x∈Jv l k,x.err=0:=fun x hx=>by
 obtain⟨e1,e2,e3⟩:=jh
 rcases Ie hx with hx|⟨n,hn,rfl⟩|⟨n,hn,rfl⟩|rfl
 ·exact h x hx
 ·exact e1 n hn
 ·exact e2 n hn
 ·exact e3
theorem ji (l:List Raw) (k i:Nat) (hi:i<5):((FM (Jv l k)).nodes i).up=true:=by
 have e:FM (Jv l k)=((Jb 5++TH k).map Raw.ac).foldl act (FM l):=by
  unfold FM RY Jv
  rw[List.append_assoc,List.map_append,List.foldl_append]
 rw[e]
 refine ZbH i _ _ (fun a ha=>?_) (.inr ⟨(Pk i).ac,List.mem_map.2 ⟨Pk i,List.mem_append.2 (.inl ?_),rfl⟩,rfl,?_⟩)
 ·obtain⟨x,hx,rfl⟩:=List.mem_map.1 ha
  rcases List.mem_append.1 hx with hx|hx
  ·obtain⟨n,_,rfl⟩:=Ic hx
   show (9:Int)≠8
   decide
  ·rcases Cv hx with⟨n,_,rfl⟩|rfl
   ·show (3:Int)≠8
    decide
   ·show (7:Int)≠8
    decide
 ·unfold Jb
  exact List.mem_map.2 ⟨i,List.mem_range.2 hi,rfl⟩
 ·show ((i:Nat):Int).toNat=i
  omega
theorem ZbI {A:List Raw} (hA:∀x∈A,x.err=0) {S:Cm→Prop} (hS:∀x∈A,x.k=1→∀now:Nat,Yo x.data now=0→S (XX x.data now)) :
  ∀a∈A.map Raw.ac,ZbE S (A.map fun x=>Pg x.data) a:=fun a ha=>by
 obtain⟨z,hz,rfl⟩:=List.mem_map.1 ha
 obtain⟨_,q2,_,q4,_⟩:=KR (hA z hz)
 exact⟨⟨by unfold Raw.ac;simp only;omega,List.mem_map.2 ⟨z,hz,rfl⟩⟩,q4.1,fun now hk h=>hS z hz hk now h⟩
theorem jj {A:List Raw} (hA:∀x∈A,x.err=0) (hl:A.length≤100000) {i:Nat} (hi:i<5) {x:Cm} (hx:x∈((FM A).nodes i).log):x=Ks∨∃a∈A,a.k=1∧Yo a.data 0=0∧x=XX a.data 0:=by
 have ok:=ZbI hA (S:=fun x=>∃a∈A,a.k=1∧Yo a.data 0=0∧x=XX a.data 0) (fun z hz hk now h=>by
  obtain⟨q1,q2⟩:=Ct h (now:=0) (by omega) (by omega)
  exact⟨z,hz,hk,q1,q2.symm⟩)
 exact qj (by rw[List.length_map];exact hl) (A.map Raw.ac) ok i hi x hx
theorem wm {α β:Type} {R:α→β→Prop} {l:List α} {k:List β} (s:Cz R l k):∀(i:Nat) (h1:i<l.length) (h2:i<k.length),R l[i] k[i]:=by
 induction s with
 | nil=>intro i h1;cases h1
 | cons a _ ih=>
  intro i h1 h2
  cases i with
  | zero=>exact a
  | succ i=>exact ih i (by simpa using h1) (by simpa using h2)
def Zgs (w:Wd):List (List Cm):=[(w.nodes 0).log,(w.nodes 1).log,(w.nodes 2).log,(w.nodes 3).log,(w.nodes 4).log]
theorem jk (w:Wd) (i:Nat) (hi:i<5):(Zgs w)[i]'hi=(w.nodes i).log:=by
 match i,hi with
 | 0,_=>rfl
 | 1,_=>rfl
 | 2,_=>rfl
 | 3,_=>rfl
 | 4,_=>rfl
theorem aI.log {h:Hp} {R:List Value} {w:Wd} {lv tv:Value} {vs:List Value} (s:aI h R w lv tv vs):∃b o c,lv=.slice (some ⟨b,o,none⟩) 5 c∧b<h.size∧∀n,n<5→∃x,hc h ⟨b,o+n,none⟩=some x∧Ts Qu.C 5 h x (w.nodes n).log:=by
 have vl:vs.length=5:=dA s.each
 obtain⟨p,c,rfl,YV⟩:=s.Zbp.open (n:=1) (enc:=fun v=>[v]) (fun _=>rfl) (show (1:Nat)≠0 by decide)
 obtain⟨b,o,rfl,hb,hh⟩:=YV (by intro e;rw[e]at vl;cases vl)
 refine⟨b,o,c,by rw[vl],hb,fun n hn=>⟨vs[n],?_,?_⟩⟩
 ·have:=hh n (by omega)
  have:=this.hc (i:=0) rfl
  rw[Nat.mul_one]at this
  exact this
 ·have:=wm s.each n (by omega) hn
  rw[show ([(w.nodes 0).log,(w.nodes 1).log,(w.nodes 2).log,(w.nodes 3).log,(w.nodes 4).log]:List (List Cm))[n]'hn=(w.nodes n).log from jk w n hn]at this
  exact this
theorem jl (T:World) (h:Hp) (v:Value) (xs:List (Raw × Value)) (many:Nat) (hv:Ts JU 5 h v xs) (hx:∀x∈xs,Tv Pe h x.2 x.1.data) (CD:xs.length≤1000000) (hm:many≤1000000) :
  Zd Tryz.prog T 13 #[v,.int .i64 many] h fun v' h'=>Zg h.size h h'∧Ta v'∧∃ys,Y0 ys=Jv (Y0 xs) many∧Ts JU 5 h' v' ys∧∀y∈ys,Tv Pe h' y.2 y.1.data:=by
 have rl:(Y0 xs).length=xs.length:=by unfold Y0;simp
 refine Zd.Zj (args:=[_,_]) Tryz.func13 rfl rfl rfl rfl ?_
 simp -implicitDefEqProofs only[go_sem,↓reduceIte]
 refine (Ja.nil h).ZbF (by simp) hv hx (by omega) ?_
 intro v1 o1 g1 A1
 rw[List.nil_append]at A1
 simp -implicitDefEqProofs only[go_sem,↓reduceIte]
 refine VS.ZV (fun F g=>F 1=.int .i64 many∧∃(n:Nat) (o:Ow),n≤5∧F 6=.int .i64 n∧Ja h o g (F 5) (Y0 xs++Jb n))
  (fun F _=>5-(vi (F 6)).toNat) rfl ⟨rfl,0,o1,by omega,rfl,by rw[show Jb 0=[] from rfl,List.append_nil];exact A1⟩ ?_
 rintro F2 g2 ⟨f1,n,o2,hn,f6,A2⟩
 obtain⟨p2,c2,f5,_⟩:=A2.isSlice
 by_cases ZD:n<5
 ·have ZL:(n:Int)<5:=by omega
  rw[f5]at A2
  simp -implicitDefEqProofs only[go_sem,↓reduceIte,f1,f5,f6,ZL]
  refine A2.add (by rw[List.length_append,Sx];omega) 9 n 0 0 ?_
  intro v3 o3 g3 A3
  simp -implicitDefEqProofs only[go_sem,↓reduceIte,f6]
  unfold Y4
  refine⟨⟨f1,n+1,o3,ZD,rfl,?_⟩,?_⟩
  ·rw[FG,←List.append_assoc];exact A3
  ·simp only[vi,Zk,↓reduceIte,f6];omega
 have YJ:¬(n:Int)<5:=by omega
 obtain rfl:n=5:=by omega
 simp -implicitDefEqProofs only[go_sem,↓reduceIte,f1,f6]
 refine VS.ZV (fun F g=>F 1=.int .i64 many∧∃(i:Nat) (o:Ow),i≤many∧F 7=.int .i64 i∧Ja h o g (F 5) ((Y0 xs++Jb 5)++TH i))
  (fun F _=>many-(vi (F 7)).toNat) rfl ⟨f1,0,o2,by omega,rfl,by rw[show TH 0=[] from rfl,List.append_nil];exact A2⟩ ?_
 clear f1 f5 f6 A2
 rintro F3 g3 ⟨f1,i,o3,hi,f7,A3⟩
 by_cases ZD:i<many
 ·have ZL:(i:Int)<many:=by omega
  simp -implicitDefEqProofs only[go_sem,↓reduceIte,f1,f7,ZL]
  refine VS.ZV (fun F g=>(F 1=.int .i64 many∧F 7=.int .i64 i)∧∃(n:Nat) (o:Ow),n≤5∧F 8=.int .i64 n∧Ja h o g (F 5) (((Y0 xs++Jb 5)++TH i)++Wk n))
   (fun F _=>5-(vi (F 8)).toNat) rfl ⟨⟨f1,f7⟩,0,o3,by omega,rfl,by rw[show Wk 0=[] from rfl,List.append_nil];exact A3⟩ ?_
  clear f1 f7 A3
  rintro F4 g4 ⟨⟨f1,f7⟩,n,o4,hn,f8,A4⟩
  obtain⟨p4,c4,f5,_⟩:=A4.isSlice
  rw[f5]at A4
  have hlen:(((Y0 xs++Jb 5)++TH i)++Wk n).length≤100000000:=by
   rw[List.length_append,List.length_append,List.length_append,Sx,Ge,Ib];omega
  by_cases hn5:n<5
  ·have Zgt:(n:Int)<5:=by omega
   simp -implicitDefEqProofs only[go_sem,↓reduceIte,f1,f5,f7,f8,Zgt]
   refine A4.add (by omega) 3 n 0 0 ?_
   intro v5 o5 g5 A5
   simp -implicitDefEqProofs only[go_sem,↓reduceIte,f8]
   unfold Y4
   refine⟨⟨⟨f1,f7⟩,n+1,o5,hn5,rfl,?_⟩,?_⟩
   ·rw[Cu,←List.append_assoc];exact A5
   ·simp only[vi,Zk,↓reduceIte,f8];omega
  ·have Zgt:¬(n:Int)<5:=by omega
   obtain rfl:n=5:=by omega
   simp -implicitDefEqProofs only[go_sem,↓reduceIte,f1,f5,f7,f8]
   refine A4.add (by omega) 7 0 0 0 ?_
   intro v5 o5 g5 A5
   simp -implicitDefEqProofs only[go_sem,↓reduceIte,f7]
   unfold Y4
   refine⟨⟨f1,i+1,o5,ZD,rfl,?_⟩,?_⟩
   ·rw[Ia]
    unfold K0
    rw[←List.append_assoc,←List.append_assoc]
    exact A5
   ·simp only[vi,Zk,↓reduceIte,f7];omega
 ·have YJ:¬(i:Int)<many:=by omega
  obtain rfl:i=many:=by omega
  obtain⟨p3,c3,f5,_⟩:=A3.isSlice
  simp -implicitDefEqProofs only[go_sem,↓reduceIte,f1,f5,f7,YJ]
  rw[f5]at A3
  exact A3.done
def VW (w:Wd):Nat→List Cm
 | 0=>[]
 | n+1=>if (VW w n).length<(w.nodes n).log.length then (w.nodes n).log else VW w n
def lng (w:Wd):List Cm:=VW w 5
theorem jm (w:Wd):∀n,VW w n=[]∨∃i,i<n∧VW w n=(w.nodes i).log:=by
 intro n
 induction n with
 | zero=>exact .inl rfl
 | succ n ih=>
  unfold VW
  split
  ·exact .inr ⟨n,by omega,rfl⟩
  ·rcases ih with h|⟨i,hi,h⟩
   ·exact .inl h
   ·exact .inr ⟨i,by omega,h⟩
theorem dF (w:Wd):lng w=[]∨∃i,i<5∧lng w=(w.nodes i).log:=jm w 5
structure Zpu (R:List Value):Prop where
 len:R.length=13
 one:R.all Z7=true
 put:Ys [Value.int .i64 0,.bool false,.bool false,.bool false,.bool false,.bool false,.slice none 0 0,.int .i64 0,.int .i64 0,.int .i64 0,.int .i64 0,.int .i64 0,.slice none 0 0] 0 R=R
 le:R.length≤13
 take:R.take 13=R
theorem aI.ok {h:Hp} {w:Wd} {lv tv:Value} {vs:List Value} (ra:aI h (aH w lv tv) w lv tv vs):Zpu (aH w lv tv)∧(∃b o c,lv=.slice (some ⟨b,o,none⟩) 5 c)∧∃p c,tv=.slice p w.told.length c:=by
 obtain⟨b,o,c,hl,_,_⟩:=ra.log
 obtain⟨pt,ct,ht,_⟩:=ra.told.open (n:=5) (enc:=Kx) (fun _=>rfl) (show (5:Nat)≠0 by decide)
 subst hl
 subst ht
 exact⟨⟨rfl,rfl,ZP rfl,Nat.le_refl 13,rfl⟩,⟨b,o,c,rfl⟩,pt,ct,rfl⟩
theorem aZ (T:World) (h:Hp) (w:Wd) (lv tv:Value) (vs:List Value) (ra:aI h (aH w lv tv) w lv tv vs) :
  Zd Tryz.prog T 14 #[.agg (aH w lv tv).toArray] h fun v' h'=>Ts Qu.C 5 h' v' (lng w)∧Zg h.size h h':=by
 obtain⟨b,o,c,rfl,hb,hx⟩:=ra.log
 obtain⟨R,hR⟩:=Zy (aH w (.slice (some ⟨b,o,none⟩) 5 c) tv)
 rw[←hR]
 refine Zd.Zj (args:=[_]) Tryz.func14 rfl rfl rfl rfl ?_
 obtain⟨h1,YD⟩:=Zy (h.push (.cells R.toArray 33):Hp)
 have e1:=YD.symm
 have b1:Zg h.size h h1:=by rw[YD];exact (Zg.refl _ _).add _
 have y1:h1[h.size]? = some (.cells R.toArray 33):=by rw[YD];exact Zb
 have r6:hc h1 ⟨h.size,6,none⟩=some (.slice (some ⟨b,o,none⟩) 5 c):=by rw[Zh y1,hR];rfl
 have ly:=Za y1
 simp -implicitDefEqProofs only[go_sem,↓reduceIte,e1]
 refine VS.ZV (fun F g=>g=h1∧F 1=.pointer (some ⟨h.size,0,none⟩)∧∃n:Nat,n≤5∧F 4=.int .i64 n∧Ts Qu.C 5 h1 (F 3) (VW w n))
  (fun F _=>5-(vi (F 4)).toNat) rfl ⟨rfl,rfl,0,by omega,rfl,⟨(Qs.nil 0 0 5 h1).sl⟩⟩ ?_
 rintro F2 g2 ⟨rfl,f1,n,hn,f4,t3⟩
 obtain⟨p3,c3,f3,_⟩:=JM t3
 by_cases ZD:n<5
 ·have ZL:(n:Int)<5:=by omega
  obtain⟨x,rx,tx⟩:=hx n ZD
  obtain⟨px,cx,rfl,_⟩:=JM tx
  have rx2:hc g2 ⟨b,o+n,none⟩=some (.slice px (w.nodes n).log.length cx):=by rw[b1.hc (by exact hb)];exact rx
  have tx2:=tx.Ya b1
  by_cases hgt:((w.nodes n).log.length:Int)>(VW w n).length
  ·simp -implicitDefEqProofs only[go_sem,↓reduceIte,f1,f3,f4,r6,ZL,rx2,hgt]
   unfold Y4
   refine⟨⟨rfl,f1,n+1,ZD,rfl,?_⟩,?_⟩
   ·have e:VW w (n+1)=(w.nodes n).log:=by rw[VW,if_pos (by omega)]
    rw[e];exact tx2
   ·simp only[vi,Zk,↓reduceIte,f4];omega
  ·simp -implicitDefEqProofs only[go_sem,↓reduceIte,f1,f3,f4,r6,ZL,rx2,hgt]
   unfold Y4
   refine⟨⟨rfl,f1,n+1,ZD,rfl,?_⟩,?_⟩
   ·have e:VW w (n+1)=VW w n:=by rw[VW,if_neg (by omega)]
    rw[e];exact t3
   ·simp only[vi,Zk,↓reduceIte,f4];omega
 ·have YJ:¬(n:Int)<5:=by omega
  obtain rfl:n=5:=by omega
  rw[f3]at t3
  simp -implicitDefEqProofs only[go_sem,↓reduceIte,f1,f3,f4,r6]
  exact⟨t3,b1⟩
def Lets (c:Cm) (x:Raw):Prop:=x.k=1∧Yo x.data 0=0∧c=XX x.data 0
instance (c:Cm) (x:Raw):Decidable (Lets c x):=by unfold Lets;infer_instance
set_option maxHeartbeats 4000000 in
theorem FH (T:World) (h:Hp) (v:Value) (gs:List Gr) (hv:Ts Gr.C 5 h v gs) (hg:∀g∈gs,g.ok) (tb:CI Pe h) :
  Zd Tryz.prog T 4 #[v] h fun v' h'=>v'=.bool true∧Zg h.size h h':=by
 have tk:Tk h:=tb.tk
 refine Zd.Zj (args:=[_]) Tryz.func4 rfl rfl rfl rfl ?_
 simp -implicitDefEqProofs only[go_sem,↓reduceIte]
 refine (iP T h v gs 100 true hv hg (by omega) tk).use ?_
 rintro v1 h1 ⟨b1,QB,xs,hr,t1,i1⟩
 obtain⟨A,hA⟩:=Zy (yo gs 100 true)
 rw[←hA]at hr
 have Ae:∀x∈A,x.err=0:=by rw[hA];exact vY _ _ _
 have Al:A.length≤100:=by rw[hA];exact vZ _ _ _
 have xl:xs.length=A.length:=by rw[←hr];unfold Y0;simp
 obtain⟨p,c,rfl,YV⟩:=t1.open Ce (by decide)
 simp -implicitDefEqProofs only[go_sem,↓reduceIte]
 refine (jl T h1 _ xs 60 t1 i1 (by omega) (by omega)).use ?_
 rintro v4 g4 ⟨b4,_,zs,hrz,t4,i4⟩
 have B4:Zg h.size h g4:=b1.trans (b4.mono b1.size)
 rw[hr]at hrz
 have zl:zs.length≤1000:=by
  have:=congrArg List.length hrz
  rw[WW]at this
  unfold Y0 at this
  rw[List.length_map]at this
  omega
 have Ze:=aY Ae 60
 have tb4:=tb.Zc (ZC (Ss h) B4)
 simp -implicitDefEqProofs only[go_sem,↓reduceIte]
 refine (Zbw T g4 v4 zs t4 i4 tb4 (by omega) (by rw[hrz];exact Cp Ze (by rw[WW];omega))).use ?_
 rw[hrz]
 rintro _ g5 ⟨⟨lv,tv,vs,rfl,rf⟩,b5⟩
 have B5:Zg h.size h g5:=B4.trans (b5.mono B4.size)
 have hup:=ji A 60 0 (by omega)
 have qt:∀x∈lng (FM (Jv A 60)),x=Ks∨∃a∈A,Lets x a:=fun x hx=>by
  rcases dF (FM (Jv A 60)) with q|⟨i,hi,q⟩
  ·rw[q]at hx;cases hx
  ·rw[q]at hx
   rcases jj Ze (by rw[WW];omega) hi hx with e|⟨a,ha,k1,k2,k3⟩
   ·exact .inl e
   ·rcases Ie ha with ha|⟨n,_,rfl⟩|⟨n,_,rfl⟩|rfl
    ·exact .inr ⟨a,ha,k1,k2,k3⟩
    ·cases k1
    ·cases k1
    ·cases k1
 have hlen:(lng (FM (Jv A 60))).length≤40:=by
  rcases dF (FM (Jv A 60)) with q|⟨i,hi,q⟩
  ·rw[q];simp
  ·rw[q];exact wh Ze (by rw[WW];omega) i hi
 obtain⟨W,hW⟩:=Zy (FM (Jv A 60))
 rw[←hW]at rf hup qt hlen ⊢
 obtain⟨ro,⟨pl,ol,cl,rfl⟩,pt,ct,rfl⟩:=rf.at.ok
 have cl6:=fun g (b:Zg g5.size g5 g)=>aZ T g W _ _ vs (rf.Ya b).at
 obtain⟨R,hR⟩:=Zy (aH W (.slice (some ⟨pl,ol,none⟩) 5 cl) (.slice pt W.told.length ct))
 rw[←hR]at ro cl6 ⊢
 have qV:=ro.len
 have jK:=ro.one
 have hRp:=ro.put
 have vO:=ro.le
 have et:=ro.take
 obtain⟨g6,Rb⟩:=Zy (g5.push (.cells R.toArray 33):Hp)
 have e6:=Rb.symm
 have b6:Zg g5.size g5 g6:=by rw[Rb];exact (Zg.refl _ _).add _
 have y6:g6[g5.size]? = some (.cells R.toArray 33):=by rw[Rb];exact Zb
 have l6:=Za y6
 have r6:rd g6 ⟨g5.size,0,none⟩ 13=some R:=Zp y6 qV
 have B6:Zg h.size h g6:=B5.trans (b6.mono B5.size)
 simp -implicitDefEqProofs only[go_sem,↓reduceIte,qV,jK,hRp,vO,e6,r6,et,l6]
 refine (cl6 g6 b6).use ?_
 rintro v7 g7 ⟨t7,b7⟩
 have B7:Zg h.size h g7:=B6.trans (b7.mono B6.size)
 have y7:=b7.get l6 y6
 have l7:=Za y7
 obtain⟨L,hL⟩:=Zy (lng W)
 rw[←hL]at t7 qt hlen
 obtain⟨p7,c7,rfl,hcm⟩:=JM t7
 have B17:Zg h1.size h1 g7:=(b4.trans ((b5.trans ((b6.trans (b7.mono b6.size)).mono b5.size)).mono b4.size))
 simp -implicitDefEqProofs only[go_sem,↓reduceIte]
 refine VS.ZV (fun F g=>Zg g7.size g7 g∧F 3=.slice p xs.length c∧F 4=.pointer (some ⟨g5.size,0,none⟩)∧F 5=.bool true∧F 6=.slice p7 L.length c7∧∃i:Nat,i≤L.length∧F 7=.int .i64 i)
  (fun F _=>L.length-(vi (F 7)).toNat) rfl ⟨Zg.refl _ _,rfl,rfl,rfl,rfl,0,Nat.zero_le _,rfl⟩ ?_
 rintro F2 g2 ⟨bl,f3,f4,f5,f6,i,hi,f7⟩
 by_cases ZD:i<L.length
 ·have ZL:(i:Int)<L.length:=by omega
  obtain⟨bb,oo,rfl,U6,Zpv⟩:=hcm (by intro e;rw[e]at ZD;simp at ZD)
  obtain⟨X,hX⟩:=Zy (L[i])
  have hXm:X∈L:=by rw[hX];exact List.getElem_mem ZD
  have rX:∀g,Zg g7.size g7 g→rd g ⟨bb,oo+i*5,none⟩ 5=some X.C:=fun g b=>by rw[JD b U6,hX];exact Zpv i ZD
  have rX2:=rX g2 bl
  have z0:leq X.C [Value.int .i64 0,.int .i64 0,.int .i64 0,.int .i64 0,.int .i64 0]=decide (X=Ks):=ZaT X Ks
  simp -implicitDefEqProofs only[go_sem,↓reduceIte,f3,f4,f5,f6,f7,ZL,rX2,z0]
  refine VS.ZV (fun F g=>Zg g7.size g7 g∧F 3=.slice p xs.length c∧F 4=.pointer (some ⟨g5.size,0,none⟩)∧F 5=.bool true∧F 6=.slice (some ⟨bb,oo,none⟩) L.length c7∧F 7=.int .i64 i∧∃(k:Nat) (fnd:Bool),k≤xs.length∧F 9=.int .i64 k∧F 8=.bool fnd∧(fnd=true∨¬X=Ks∧∀a∈A.take k,¬Lets X a))
   (fun F _=>xs.length-(vi (F 9)).toNat) rfl ⟨bl,f3,f4,f5,f6,f7,0,decide (X=Ks),Nat.zero_le _,rfl,rfl,?_⟩ ?_
  ·by_cases q:X=Ks
   ·exact .inl (decide_eq_true q)
   ·exact .inr ⟨q,fun a ha=>by simp at ha⟩
  clear f3 f4 f5 f6 f7 bl rX2
  rintro F3 g3 ⟨bl,f3,f4,f5,f6,f7,k,fnd,hk,f9,f8,hf⟩
  by_cases hgo:k<xs.length∧fnd=false
  ·obtain⟨Dv,rfl⟩:=hgo
   have av:(k:Int)<xs.length:=by omega
   have hf2:¬X=Ks∧∀a∈A.take k,¬Lets X a:=by
    rcases hf with q|q
    ·cases q
    ·exact q
   obtain⟨bs,os,rfl,fo,OJ⟩:=YV (by intro e;rw[e]at Dv;simp at Dv)
   obtain⟨x,Sc⟩:=Zy (xs[k])
   have qU:x∈xs:=by rw[Sc];exact List.getElem_mem Dv
   have jG:Zg h1.size h1 g3:=B17.trans (bl.mono B17.size)
   have im:=(i1 x qU).Zc (ZC (Ss h1) jG)
   obtain⟨pd,cd,Rs,hcd⟩:∃p c,x.2=.slice p x.1.data.length c∧x.1.data.length≤c:=im.1.fits
   have ca:Y6 g3 bs (os+k*5) (JU x):=by rw[Sc];exact (OJ k Dv).Ya jG fo
   have r0:hc g3 ⟨bs,os+k*5,none⟩=some (.int .i64 x.1.k):=ca.hc (i:=0) rfl
   have r4:hc g3 ⟨bs,os+k*5+4,none⟩=some (.slice pd x.1.data.length cd):=by rw[←Rs];exact ca.hc (i:=4) rfl
   have hAl:k<A.length:=by omega
   have hAx:A[k]=x.1:=by
    have:A[k]? = some x.1:=by rw[←hr];unfold Y0;rw[List.getElem?_map,List.getElem?_eq_getElem Dv,←Sc];rfl
    rw[List.getElem?_eq_getElem hAl]at this;exact Option.some.inj this
   have hxd:x.1.data.length≤2000:=(KR (Ae x.1 (by rw[←hAx];exact List.getElem_mem hAl))).2.2.2.2
   rw[Rs]at im
   have sR:=tb.Zc (ZC (Ss h) (b1.trans (jG.mono b1.size)))
   have YA:¬Lets X x.1→∀a∈A.take (k+1),¬Lets X a:=fun hn a ha=>by
    rw[Yg A k hAl,List.mem_append]at ha
    rcases ha with ha|ha
    ·exact hf2.2 a ha
    ·rw[List.mem_singleton.1 ha,hAx];exact hn
   by_cases q1:x.1.k=1
   ·have q1':=eq_true q1
    have oc:=DL T g3 (.slice pd x.1.data.length cd) x.1.data 0 im.bs hcd (by omega) sR.tk sR.tn
    by_cases qe:Yo x.1.data 0=0
    ·obtain⟨Y,hY⟩:=Zy (XX x.1.data 0)
     have eC:Fp x.1.data 0=Y.C:=by rw[HK qe,hY];unfold XX;rw[if_pos qe];rfl
     rw[eC,qe]at oc
     simp -implicitDefEqProofs only[go_sem,↓reduceIte,f3,f4,f5,f6,f7,f8,f9,av,r0,q1',r4]
     refine oc.use ?_
     rintro _ g4 ⟨rfl,b4⟩
     obtain⟨g9,hg9⟩:=Zy (g4.push (.cells Y.C.toArray 49):Hp)
     have e9:=hg9.symm
     have b9:Zg g4.size g4 g9:=by rw[hg9];exact (Zg.refl _ _).add _
     have y9:g9[g4.size]? = some (.cells Y.C.toArray 49):=by rw[hg9];exact Zb
     have r9:rd g9 ⟨g4.size,0,none⟩ 5=some Y.C:=Zp y9 rfl
     have bl9:Zg g7.size g7 g9:=bl.trans ((b4.trans (b9.mono b4.size)).mono bl.size)
     have rX9:=rX g9 bl9
     have hYp:Ys [Value.int .i64 0,.int .i64 0,.int .i64 0,.int .i64 0,.int .i64 0] 0 Y.C=Y.C:=rfl
     have hYl:Y.C.length=5:=rfl
     have hYo:Y.C.all Z7=true:=rfl
     simp -implicitDefEqProofs only[go_sem,↓reduceIte,hYp,hYl,hYo,e9]
     refine VS.q mixed (by kernel_rfl) ?_
     simp -implicitDefEqProofs only[go_sem,↓reduceIte,f6,f7,f9,r9,rX9]
     unfold Y4
     refine⟨⟨bl9,f3,f4,f5,f6,f7,k+1,decide (Y=X),Dv,rfl,rfl,?_⟩,?_⟩
     ·by_cases e:Y=X
      ·exact .inl (decide_eq_true e)
      ·exact .inr ⟨hf2.1,YA (fun q=>e (by rw[hY];exact q.2.2.symm))⟩
     ·simp only[vi,Zk,↓reduceIte,f9];omega
    ·obtain⟨E,hE⟩:=Zy (Yo x.1.data 0)
     rw[JQ qe,←hE]at oc
     have qe':¬E=0:=by rw[hE];exact qe
     simp -implicitDefEqProofs only[go_sem,↓reduceIte,f3,f4,f5,f6,f7,f8,f9,av,r0,q1',r4]
     refine oc.use ?_
     rintro _ g4 ⟨rfl,b4⟩
     obtain⟨g9,hg9⟩:=Zy (g4.push (.cells [Value.int .i64 0,.int .i64 0,.int .i64 0,.int .i64 0,.int .i64 0].toArray 49):Hp)
     have e9:=hg9.symm
     have b9:Zg g4.size g4 g9:=by rw[hg9];exact (Zg.refl _ _).add _
     have bl9:Zg g7.size g7 g9:=bl.trans ((b4.trans (b9.mono b4.size)).mono bl.size)
     have y9:g9[g4.size]? = some (.cells [Value.int .i64 0,.int .i64 0,.int .i64 0,.int .i64 0,.int .i64 0].toArray 49):=by rw[hg9];exact Zb
     have w9:wr g9 ⟨g4.size,0,none⟩ [Value.int .i64 0,.int .i64 0,.int .i64 0,.int .i64 0,.int .i64 0]=some g9:=by
      rw[ZS y9 0 _]
      exact congrArg some (Si y9)
     have l9:=Za y9
     simp -implicitDefEqProofs only[go_sem,↓reduceIte,e9,w9,l9]
     refine VS.q mixed (by kernel_rfl) ?_
     simp -implicitDefEqProofs only[go_sem,↓reduceIte,f6,f7,f9,qe']
     unfold Y4
     refine⟨⟨bl9,f3,f4,f5,f6,f7,k+1,false,Dv,rfl,rfl,.inr ⟨hf2.1,YA (fun q=>qe q.2.1)⟩⟩,?_⟩
     simp only[vi,Zk,↓reduceIte,f9];omega
   ·simp -implicitDefEqProofs only[go_sem,↓reduceIte,f3,f4,f5,f6,f7,f8,f9,av,r0,q1]
    unfold Y4
    refine⟨⟨bl,f3,f4,f5,f6,f7,k+1,false,Dv,rfl,f8,.inr ⟨hf2.1,YA (fun q=>q1 q.1)⟩⟩,?_⟩
    simp only[vi,Zk,↓reduceIte,f9];omega
  ·have Zpw:fnd=true:=by
    cases fnd with
    | true=>rfl
    | false=>
     have Oy:k=xs.length:=by
      refine Classical.byContradiction fun q=>hgo ⟨by omega,rfl⟩
     rcases hf with q|⟨q1,q2⟩
     ·cases q
     ·rw[Oy,xl,List.take_of_length_le (Nat.le_refl _)]at q2
      rcases qt X hXm with e|⟨a,ha,e⟩
      ·exact (q1 e).elim
      ·exact (q2 a ha e).elim
   subst Zpw
   by_cases Dv:(k:Int)<xs.length
   ·simp -implicitDefEqProofs only[go_sem,↓reduceIte,f3,f4,f5,f6,f7,f8,f9,Dv]
    unfold Y4
    refine⟨⟨bl,f3,f4,f5,f6,i+1,ZD,rfl⟩,?_⟩
    simp only[vi,Zk,↓reduceIte,f7];omega
   ·simp -implicitDefEqProofs only[go_sem,↓reduceIte,f3,f4,f5,f6,f7,f8,f9,Dv]
    unfold Y4
    refine⟨⟨bl,f3,f4,f5,f6,i+1,ZD,rfl⟩,?_⟩
    simp only[vi,Zk,↓reduceIte,f7];omega
 ·have YJ:¬(i:Int)<L.length:=by omega
  have y2:=bl.get l7 y7
  have u2:hc g2 ⟨g5.size,1,none⟩=some (.bool true):=by rw[Zh y2,hR];show some (Value.bool (W.nodes 0).up)=_;rw[hup]
  simp -implicitDefEqProofs only[go_sem,↓reduceIte,f4,f5,f6,f7,YJ,u2]
  exact B7.trans (bl.mono B7.size)
def TkM (h:Hp):Prop:=Tk h∧Ev 0 niv TG h
theorem TkM.tbs {h:Hp} (t:TkM h):CI Pe h:=⟨t.1,t.2,rfl,rfl⟩
theorem qu {W:World} (h:laidMetH Tryz.prog [("conclave/sha.numbers", Rows.laid_conclave_sha_numbers),("conclave/order.need", Rows.laid_conclave_order_need)] W):TkM W.heap:=by
 constructor
 ·have h1:=h.filter (fun x=>x.1 == "conclave/sha.numbers")
  exact Zax h1
 ·have h1:=h.filter (fun x=>x.1 == "conclave/order.need")
  exact ua h1
theorem jn (os:Os) (args:Array Value):laidMetH Tryz.prog [("conclave/sha.numbers", Rows.laid_conclave_sha_numbers),("conclave/order.need", Rows.laid_conclave_order_need)] ((World.doorLaid Tryz.prog 87 os).forCall (fun _ _=>0) ⟨#[],args,[]⟩).memory:=
 laidMetH_of_parts3 (fuel:=8) (laidMet_of_run' 8 (by kernel_rfl) (by kernel_rfl)) (by kernel_rfl) (by kernel_rfl)
theorem jo {h:Hp} {k:Nat} {v:Value} (hv:fit Tryz.prog h k 22 [v]):∃gs,Ts Gr.C 5 h v gs∧∀g∈gs,g.ok:=by
 obtain⟨gs,s,JW,_⟩:=fi (α:=Gr) (enc:=Gr.C) (n:=5) (ok:=fun g=>g.ok) Tryz.underlying22 (by kernel_rfl) (by decide) (fun _=>rfl) (fun k ds yX=>by
  have hlen:ds.length=5:=by
   cases k with
   | zero=>exact yX.elim
   | succ k=>unfold fit at yX;rw[Tryz.underlying69]at yX;exact yX.1
  have hL:=lG (P:=Tryz.prog) (h:=h) 8 k 69 ds (rep 5 [3]) (by kernel_rfl) (by rw[hlen];decide) yX
  obtain⟨a0,_,rfl,q0,p0,hL⟩:=TV Tryz.underlying3 hL
  obtain⟨a1,_,rfl,q1,p1,hL⟩:=TV Tryz.underlying3 hL
  obtain⟨a2,_,rfl,q2,p2,hL⟩:=TV Tryz.underlying3 hL
  obtain⟨a3,_,rfl,q3,p3,hL⟩:=TV Tryz.underlying3 hL
  obtain⟨a4,_,rfl,q4,p4,hL⟩:=TV Tryz.underlying3 hL
  obtain rfl:=lH hL
  have mk:∀n:Int,-9223372036854775808≤n→n≤9223372036854775807→i64 n:=fun n h1 h2=>⟨h1,by omega⟩
  exact⟨⟨a0,a1,a2,a3,a4⟩,⟨⟨mk _ q0 p0,mk _ q1 p1⟩,mk _ q2 p2,mk _ q3 p3,mk _ q4 p4⟩,rfl⟩) hv
 exact⟨gs,⟨s⟩,JW⟩
end Go.Proofs.YtpomedigibbeeaaGreatDoor
