/- Agreement in plain words: votes, proposals and promises; what is chosen in a slot is one. No program in sight. -/
import Derived.Test.YtboeoomhjbcecaaGreatDoorTpc
import Derived.Test.YtboeoomhjbcecaaGreatDoorMop
import Derived.Test.YtboeoomhjbcecaaGreatDoorChw
import Derived.Test.YtboeoomhjbcecaaGreatDoorTab
import Derived.LaidSub
namespace Go.Proofs.YtboeoomhjbcecaaGreatDoor
open Go Go.V
set_option linter.unusedSimpArgs false
set_option linter.unusedVariables false
theorem Ui (a:YE):¬below a a:=by unfold below;omega
theorem Js {a b c:YE} (h1:¬below b a) (h2:¬below c b):¬below c a:=by unfold below at *;omega
theorem Zar {a b:YE} (h:below a b):¬below b a:=by unfold below at *;omega
theorem cH {a b:YE} (h1:¬below a b) (h2:¬below b a):a=b:=by
 obtain⟨r,n⟩:=a;obtain⟨s,m⟩:=b;unfold below at h1 h2;simp only at h1 h2;rw[YE.mk.injEq];omega
def yI (b:YE):Nat:=(b.r*5+b.n).toNat
theorem fG {a b:YE} (ha:ZL a) (hb:ZL b) (h:below a b):yI a<yI b:=by
 unfold ZL at ha hb;unfold below at h;unfold yI;omega
theorem sz {α:Type} [DecidableEq α]:∀{l C:List α},l.Nodup→(∀x∈l,x∈C)→l.length≤C.length:=by
 intro l
 induction l with
 | nil=>intro C _ _;simp
 | cons x l ih=>
  intro C hn h;rw[List.nodup_cons]at hn;have h1:=ih (C:=C.erase x) hn.2 (fun y hy=>(List.mem_erase_of_ne (fun e=>hn.1 (by rw[←e];exact hy))).2 (h y (by simp[hy])));have h2:x∈C:=h x (by simp);have h3:=List.length_erase_of_mem h2;have h4:0<C.length:=List.length_pos_of_mem h2;simp only[List.length_cons];omega
def Maj (Q:List Nat):Prop:=Q.Nodup∧(∀i∈Q,i<5)∧3≤Q.length
theorem Maj.meet {Q R:List Nat} (q:Maj Q) (r:Maj R):∃i,i∈Q∧i∈R:=by
 refine Classical.byContradiction fun h=>?_;have hd:(Q++R).Nodup:=by
  rw[List.nodup_append];exact⟨q.1,r.1,fun a ha b hb e=>h ⟨a,ha,by rw[e];exact hb⟩⟩
 have:=sz (C:=List.range 5) hd (fun x hx=>by
  rw[List.mem_range];rcases List.mem_append.1 hx with hx|hx
  ·exact q.2.1 x hx
  ·exact r.2.1 x hx)
 have h1:=q.2.2;have h2:=r.2.2;simp only[List.length_append,List.length_range]at this;omega
structure Gh where
 V:Nat→YE→Int→Cm→Prop
 P:YE→Int→Cm→Prop
def MR (g:Gh) (M:Nat→YE) (b:YE) (s:Int):Prop:=∃Q,Maj Q∧(∀i∈Q,¬below (M i) b)∧∀i∈Q,∀b' y,below b' b→¬g.V i b' s y
def Safe (g:Gh) (M:Nat→YE) (b:YE) (s:Int) (x:Cm):Prop:=
 ∃Q,Maj Q∧(∀i∈Q,¬below (M i) b)∧((∀i∈Q,∀b' y,below b' b→¬g.V i b' s y)∨∃b0 j,below b0 b∧g.V j b0 s x∧∀i∈Q,∀b' y,below b' b→g.V i b' s y→¬below b0 b')
theorem MR.safe {g:Gh} {M:Nat→YE} {b:YE} {s:Int} (h:MR g M b s) (x:Cm):Safe g M b s x:=by
 obtain⟨Q,q,h1,h2⟩:=h;exact⟨Q,q,h1,.inl h2⟩
structure GI (S:Cm→Prop) (g:Gh) (M:Nat→YE):Prop where
 vp:∀i b s x,g.V i b s x→g.P b s x
 one:∀b s x y,g.P b s x→g.P b s y→x=y
 top:∀i b s x,g.V i b s x→¬below (M i) b
 may:∀b s x,g.P b s x→ZL b
 safe:∀b s x,g.P b s x→Safe g M b s x
 own:∀b s x,g.P b s x→¬below (M b.n.toNat) b
 cmd:∀b s x,g.P b s x→x=BD∨S x
def JV (g:Gh) (s:Int) (x:Cm):Prop:=∃Q b,Maj Q∧∀i∈Q,g.V i b s x
theorem OZ {S:Cm→Prop} {g:Gh} {M:Nat→YE} (G:GI S g M) {Q:List Nat} {b:YE} {s:Int} {x:Cm} (hQ:Maj Q) (hv:∀i∈Q,g.V i b s x):∀n b' y,yI b'≤n→g.P b' s y→below b b'→y=x:=by
 have hb:g.P b s x:=by
  obtain⟨i,h1,_⟩:=hQ.meet hQ;exact G.vp _ _ _ _ (hv i h1)
 intro n
 induction n with
 | zero=>
  intro b' y h1 h2 h3;have:=fG (G.may _ _ _ hb) (G.may _ _ _ h2) h3;omega
 | succ n ih=>
  intro b' y h1 h2 h3;obtain⟨R,hR,_,h5⟩:=G.safe _ _ _ h2;obtain⟨i,i1,i2⟩:=hQ.meet hR;rcases h5 with h5|⟨b0,j,h5,h6,h7⟩
  ·exact (h5 i i2 b x h3 (hv i i1)).elim
  ·have h8:=h7 i i2 b x h3 (hv i i1);have h9:=G.vp _ _ _ _ h6;by_cases e:below b b0
   ·have:=fG (G.may _ _ _ h9) (G.may _ _ _ h2) h5;exact ih b0 y (by omega) h9 e
   ·have:=cH e h8;subst this;exact G.one _ _ _ _ h9 hb
theorem JV.one {S:Cm→Prop} {g:Gh} {M:Nat→YE} (G:GI S g M) {s:Int} {x y:Cm} (hx:JV g s x) (hy:JV g s y):x=y:=by
 obtain⟨Q,b,q,h⟩:=hx;obtain⟨R,c,r,k⟩:=hy;have hb:g.P b s x:=by
  obtain⟨i,h1,_⟩:=q.meet q;exact G.vp _ _ _ _ (h i h1)
 have hc:g.P c s y:=by
  obtain⟨i,h1,_⟩:=r.meet r;exact G.vp _ _ _ _ (k i h1)
 by_cases e:below b c
 ·exact (OZ G q h _ c y (Nat.le_refl _) hc e).symm
 ·by_cases f:below c b
  ·exact OZ G r k _ b x (Nat.le_refl _) hb f
  ·have:=cH e f;subst this;exact G.one _ _ _ _ hb hc
theorem JV.prop {S:Cm→Prop} {g:Gh} {M:Nat→YE} (G:GI S g M) {s:Int} {x:Cm} (hx:JV g s x):∃b,g.P b s x:=by
 obtain⟨Q,b,q,h⟩:=hx;obtain⟨i,h1,_⟩:=q.meet q;exact⟨b,G.vp _ _ _ _ (h i h1)⟩
structure Ext (i:Nat) (g:Gh) (M:Nat→YE) (g':Gh) (M':Nat→YE):Prop where
 v:∀j b s x,g.V j b s x→g'.V j b s x
 p:∀b s x,g.P b s x→g'.P b s x
 m:∀j,¬below (M' j) (M j)
 fz:∀j b s x,g'.V j b s x→g.V j b s x∨¬below b (M j)
 oth:∀j,j≠i→M' j=M j∧∀b s x,g'.V j b s x→g.V j b s x
 own:∀b s x,g'.P b s x→g.P b s x∨b.n=i
theorem Ext.refl (i:Nat) (g:Gh) (M:Nat→YE):Ext i g M g M:=⟨fun _ _ _ _ h=>h,fun _ _ _ h=>h,fun _=>Ui _,fun _ _ _ _ h=>.inl h,fun _ _=>⟨rfl,fun _ _ _ h=>h⟩,fun _ _ _ h=>.inl h⟩
structure PF (g:Gh) (M:Nat→YE) (i:Nat) (b:YE) (vs:List Vt):Prop where
 lt:i<5
 top:¬below (M i) b
 has:∀v∈vs,g.V i v.b v.slot v.cm∧¬below b v.b
 all:∀b' s x,below b' b→g.V i b' s x→∃v∈vs,v.slot=s∧¬below v.b b'
section
variable {i:Nat} {g g':Gh} {M M':Nat→YE}
theorem Ext.frozen (E:Ext i g M g' M') {j:Nat} {b b':YE} {s:Int} {x:Cm} (h:¬below (M j) b) (hb:below b' b) (hv:g'.V j b' s x):g.V j b' s x:=by
 rcases E.fz _ _ _ _ hv with q|q
 ·exact q
 ·exact (Js h q hb).elim
theorem PF.ext (E:Ext i g M g' M') {j:Nat} {b:YE} {vs:List Vt} (h:PF g M j b vs):PF g' M' j b vs:=
 ⟨h.lt,Js h.top (E.m j),fun v hv=>⟨E.v _ _ _ _ (h.has v hv).1,(h.has v hv).2⟩,fun b' s x hb hv=>h.all b' s x hb (E.frozen h.top hb hv)⟩
theorem JV.ext (E:Ext i g M g' M') {s:Int} {x:Cm} (h:JV g s x):JV g' s x:=by
 obtain⟨Q,b,q,h⟩:=h;exact⟨Q,b,q,fun i hi=>E.v _ _ _ _ (h i hi)⟩
theorem MR.ext (E:Ext i g M g' M') {b:YE} {s:Int} (h:MR g M b s):MR g' M' b s:=by
 obtain⟨Q,q,h1,h2⟩:=h;exact⟨Q,q,fun i hi=>Js (h1 i hi) (E.m i),fun i hi b' y hb hv=>h2 i hi b' y hb (E.frozen (h1 i hi) hb hv)⟩
theorem Safe.ext (E:Ext i g M g' M') {b:YE} {s:Int} {x:Cm} (h:Safe g M b s x):Safe g' M' b s x:=by
 obtain⟨Q,q,h1,h2⟩:=h;refine⟨Q,q,fun i hi=>Js (h1 i hi) (E.m i),?_⟩;rcases h2 with h2|⟨b0,j,h3,h4,h5⟩
 ·exact .inl fun i hi b' y hb hv=>h2 i hi b' y hb (E.frozen (h1 i hi) hb hv)
 ·exact .inr ⟨b0,j,h3,E.v _ _ _ _ h4,fun i hi b' y hb hv=>h5 i hi b' y hb (E.frozen (h1 i hi) hb hv)⟩
end
def Rm (M:Nat→YE) (i:Nat) (b:YE):Nat→YE:=fun j=>if j=i then b else M j
theorem raised {S:Cm→Prop} {i:Nat} {g:Gh} {M:Nat→YE} (G:GI S g M) {b:YE} (hb:¬below b (M i)):Ext i g M g (Rm M i b)∧GI S g (Rm M i b):=by
 have hm:∀j,¬below (Rm M i b j) (M j):=fun j=>by
  unfold Rm;split
  ·rename_i e;rw[e];exact hb
  ·exact Ui _
 have E:Ext i g M g (Rm M i b):=⟨fun _ _ _ _ h=>h,fun _ _ _ h=>h,hm,fun _ _ _ _ h=>.inl h,fun j hj=>⟨by unfold Rm;rw[if_neg hj],fun _ _ _ h=>h⟩,fun _ _ _ h=>.inl h⟩
 exact⟨E,G.vp,G.one,fun j c s x h=>Js (G.top j c s x h) (hm j),G.may,fun c s x h=>(G.safe c s x h).ext E,fun c s x h=>Js (G.own c s x h) (hm _),G.cmd⟩
def cI (g:Gh) (i:Nat) (b:YE) (s:Int) (x:Cm):Gh:=⟨fun j c t y=>g.V j c t y∨(j=i∧c=b∧t=s∧y=x),g.P⟩
theorem ZhJ {S:Cm→Prop} {i:Nat} {g:Gh} {M:Nat→YE} (G:GI S g M) {b:YE} {s:Int} {x:Cm} (hp:g.P b s x) (hb:¬below b (M i)):Ext i g M (cI g i b s x) (Rm M i b)∧GI S (cI g i b s x) (Rm M i b):=by
 have hm:∀j,¬below (Rm M i b j) (M j):=fun j=>by
  unfold Rm;split
  ·rename_i e;rw[e];exact hb
  ·exact Ui _
 have E:Ext i g M (cI g i b s x) (Rm M i b):=by
  refine⟨fun _ _ _ _ h=>.inl h,fun _ _ _ h=>h,hm,fun j c t y h=>?_,fun j hj=>⟨by unfold Rm;rw[if_neg hj],fun c t y h=>?_⟩,fun _ _ _ h=>.inl h⟩
  ·rcases h with h|⟨rfl,rfl,rfl,rfl⟩
   ·exact .inl h
   ·exact .inr hb
  ·rcases h with h|⟨rfl,_⟩
   ·exact h
   ·exact (hj rfl).elim
 refine⟨E,fun j c t y h=>?_,G.one,fun j c t y h=>?_,G.may,fun c t y h=>(G.safe c t y h).ext E,fun c t y h=>Js (G.own c t y h) (hm _),G.cmd⟩
 ·rcases h with h|⟨rfl,rfl,rfl,rfl⟩
  ·exact G.vp _ _ _ _ h
  ·exact hp
 ·rcases h with h|⟨rfl,rfl,rfl,rfl⟩
  ·exact Js (G.top _ _ _ _ h) (hm j)
  ·unfold Rm;rw[if_pos rfl];exact Ui _
def fH (g:Gh) (b:YE) (l:List (Int × Cm)):Gh:=⟨g.V,fun c t y=>g.P c t y∨(c=b∧Yu l t=some y)⟩
theorem sA {S:Cm→Prop} {i:Nat} {g:Gh} {M:Nat→YE} (G:GI S g M) {b:YE} {l:List (Int × Cm)} (hn:b.n=i) (hm:ZL b) (ht:¬below (M i) b) (h1:∀t y,g.P b t y→Yu l t=some y) (h2:∀t y,Yu l t=some y→Safe g M b t y) (h3:∀t y,Yu l t=some y→y=BD∨S y) :
  Ext i g M (fH g b l) M∧GI S (fH g b l) M:=by
 have E:Ext i g M (fH g b l) M:=by
  refine⟨fun _ _ _ _ h=>h,fun _ _ _ h=>.inl h,fun _=>Ui _,fun _ _ _ _ h=>.inl h,fun j hj=>⟨rfl,fun _ _ _ h=>h⟩,fun c t y h=>?_⟩;rcases h with h|⟨rfl,_⟩
  ·exact .inl h
  ·exact .inr hn
 refine⟨E,fun j c t y h=>.inl (G.vp _ _ _ _ h),fun c t y z hy hz=>?_,G.top,fun c t y h=>?_,fun c t y h=>?_,fun c t y h=>?_,fun c t y h=>?_⟩
 ·rcases hy with hy|⟨rfl,hy⟩
  ·rcases hz with hz|⟨rfl,hz⟩
   ·exact G.one _ _ _ _ hy hz
   ·have:=h1 _ _ hy;rw[hz]at this;exact (Option.some.inj this).symm
  ·rcases hz with hz|⟨_,hz⟩
   ·have:=h1 _ _ hz;rw[hy]at this;exact Option.some.inj this
   ·rw[hy]at hz;exact Option.some.inj hz
 ·rcases h with h|⟨rfl,_⟩
  ·exact G.may _ _ _ h
  ·exact hm
 ·rcases h with h|⟨rfl,h⟩
  ·exact (G.safe _ _ _ h).ext E
  ·exact (h2 _ _ h).ext E
 ·rcases h with h|⟨rfl,h⟩
  ·exact G.own _ _ _ h
  ·rw[hn];exact ht
 ·rcases h with h|⟨rfl,h⟩
  ·exact G.cmd _ _ _ h
  ·exact h3 _ _ h
theorem NS {n:Nat} (h:n<4294967296):n/16777216%256*16777216+n/65536%256*65536+n/256%256*256+n%256=n:=by omega
theorem Bc {a:QI} {b:YE} (h:Ys a.p a.l b=0):XD a (X1 b)=some ⟨b,a.l⟩:=by
 have hb:=S8 h;obtain⟨r,m⟩:=b;unfold ZL at hb;simp only at hb;have e1:Xd (X1 ⟨r,m⟩) 1=r.toNat:=by
  have:Xd (X1 ⟨r,m⟩) 1=r.toNat/16777216%256*16777216+r.toNat/65536%256*65536+r.toNat/256%256*256+r.toNat%256:=by simp[Xd,X1,Zr,Y8]
  rw[this];exact NS (by omega)
 have e2:Xd (X1 ⟨r,m⟩) 5=m.toNat:=by
  have:Xd (X1 ⟨r,m⟩) 5=m.toNat/16777216%256*16777216+m.toNat/65536%256*65536+m.toNat/256%256*256+m.toNat%256:=by simp[Xd,X1,Zr,Y8]
  rw[this];exact NS (by omega)
 have e3:(⟨((Xd (X1 ⟨r,m⟩) 1:Nat):Int),((Xd (X1 ⟨r,m⟩) 5:Nat):Int)⟩:YE)=⟨r,m⟩:=by
  rw[e1,e2,YE.mk.injEq];omega
 unfold XD;rw[if_pos ⟨rfl,rfl⟩,e3,if_pos h]
theorem sE {a:QI} {v:Vt} (h:YO a.p a.l v=0):XD a (QH v)=some ⟨v.b,JM a.l v⟩:=by
 have hv:=NO h;obtain⟨s,⟨r,m⟩,k,c,q,nm,x⟩:=v;obtain⟨h1,h2,h3⟩:=hv;unfold ZL at h2;simp only at h1 h2 h3;obtain⟨k',c',q',n',x',rfl,rfl,rfl,rfl,rfl,b1,b2,b3,b4,b5⟩:=QQ h3;have f:∀(i:Nat) (n:Nat),Xd (QH ⟨s,⟨r,m⟩,k',c',q',n',x'⟩) i=n/16777216%256*16777216+n/65536%256*65536+n/256%256*256+n%256→n<4294967296→Xd (QH ⟨s,⟨r,m⟩,k',c',q',n',x'⟩) i=n:=fun i n e hn=>by rw[e];exact NS hn
 have e1:=f 1 s.toNat (by simp[Xd,QH,Zr,Y8]) (by omega);have e2:=f 5 r.toNat (by simp[Xd,QH,Zr,Y8]) (by omega);have e3:=f 9 m.toNat (by simp[Xd,QH,Zr,Y8]) (by omega);have e4:=f 13 k' (by simp[Xd,QH,Zr,Y8]) (by omega);have e5:=f 17 c' (by simp[Xd,QH,Zr,Y8]) (by omega);have e6:=f 21 q' (by simp[Xd,QH,Zr,Y8]) (by omega);have e7:=f 25 n' (by simp[Xd,QH,Zr,Y8]) (by omega);have e8:=f 29 x' (by simp[Xd,QH,Zr,Y8]) (by omega);have hl:(QH ⟨s,⟨r,m⟩,k',c',q',n',x'⟩).length=33:=rfl;obtain⟨L,hL⟩:=Zy (QH ⟨s,⟨r,m⟩,k',c',q',n',x'⟩);have h0:L.getD 0 0=2:=by rw[hL];rfl
 rw[←hL]at e1 e2 e3 e4 e5 e6 e7 e8 hl ⊢;have d4:Jy (L.drop 13)=0:=by
  unfold Jy;rw[if_pos (by rw[List.length_drop];omega),JT,JT,JT,JT,JT,e4,e5,e6,e7,e8];exact h3
 have d5:Cp (L.drop 13) ⟨((Xd L 1:Nat):Int),⟨((Xd L 5:Nat):Int),((Xd L 9:Nat):Int)⟩,0,0,0,0,0⟩=⟨s,⟨r,m⟩,k',c',q',n',x'⟩:=by
  unfold Cp
  dsimp only
  rw[JT,JT,JT,JT,JT,e1,e2,e3,e4,e5,e6,e7,e8,Vt.mk.injEq,YE.mk.injEq];refine⟨by omega,⟨by omega,by omega⟩,rfl,rfl,rfl,rfl,rfl⟩
 have d6:(⟨((Xd L 5:Nat):Int),((Xd L 9:Nat):Int)⟩:YE)=⟨r,m⟩:=by rw[e2,e3,YE.mk.injEq];omega
 unfold XD;rw[if_neg (by omega),if_pos ⟨hl,h0⟩,if_neg (by rw[d4];decide),d5,d6,if_pos h]
theorem GP {d:List Nat} {a a':QI} {k k':Nat} (h:Yo d a k=some (a',k')):k<k'∧k'≤d.length:=by
 unfold Yo at h;split at h
 ·rename_i q;rw[Option.map_eq_some_iff]at h;obtain⟨x,_,e⟩:=h;simp only[Prod.mk.injEq]at e;omega
 ·cases h
theorem Bd {d e:List Nat} {k:Nat} (h:k<d.length):(d++e).getD k 0=d.getD k 0:=by
 rw[List.getD_eq_getElem?_getD,List.getD_eq_getElem?_getD,List.getElem?_append_left h]
theorem LF {d e:List Nat} {k n:Nat} (h:k+n≤d.length):((d++e).drop k).take n=(d.drop k).take n:=by
 rw[List.drop_append_of_le_length (by omega),List.take_append_of_le_length (by rw[List.length_drop];omega)]
theorem sF {d:List Nat} {a a':QI} {k k':Nat} (h:Yo d a k=some (a',k')) (e:List Nat):Yo (d++e) a k=some (a',k'):=by
 unfold Yo at h ⊢;split at h
 ·rename_i q;have q1:UB (d++e) k=UB d k:=by unfold UB;rw[Bd q.1]
  have h1:1≤UB d k:=by unfold UB;omega
  have q2:(WE (((d++e).drop k).take (UB d k))).take 4=((d++e).drop (k+UB d k)).take 4:=by
   rw[LF (by omega),LF (by omega)];exact q.2.2
  rw[q1,if_pos ⟨by rw[List.length_append];omega,by rw[List.length_append];omega,q2⟩,LF (by omega),h]
 ·cases h
theorem sH {d:List Nat} {a a':QI} {k k':Nat} (h:Yo d a k=some (a',k')) {j:Nat} (hj:k'≤j):Yo (d.take j) a k=some (a',k'):=by
 unfold Yo at h ⊢;split at h
 ·rename_i q;rw[Option.map_eq_some_iff]at h;obtain⟨x,hx,e⟩:=h;simp only[Prod.mk.injEq]at e;obtain⟨e1,e2⟩:=e;have q0:d=d.take j++d.drop j:=(List.take_append_drop j d).symm;have ql:(d.take j).length=min j d.length:=List.length_take;have q1:UB d k=UB (d.take j) k:=by
   unfold UB
   conv=>lhs;rw[q0]
   rw[Bd (by omega)]
  have hN:1≤UB d k:=by unfold UB;omega
  have m1:∀a n,a+n≤j→a+n≤d.length→(d.drop a).take n=((d.take j).drop a).take n:=fun a n h1 h2=>by
   conv=>lhs;rw[q0]
   exact LF (by omega)
  have q2:(WE (((d.take j).drop k).take (UB d k))).take 4=((d.take j).drop (k+UB d k)).take 4:=by
   rw[←m1 _ _ (by omega) (by omega),←m1 _ _ (by omega) (by omega)];exact q.2.2
  rw[←q1,if_pos ⟨by omega,by omega,q2⟩,←m1 _ _ (by omega) (by omega),hx,←e1,←e2,Option.map_some]
 ·cases h
theorem Rec.fits {l:List Nat} {a r:QI} {k j:Nat} (h:Rec l a k r j):k≤l.length→k≤j∧j≤l.length:=by
 induction h with
 | stop e=>intro h;omega
 | go e _ ih=>
  intro h;have h1:=GP e;have h2:=ih h1.2;omega
theorem Rec.app {l e:List Nat} {a r r':QI} {k j j':Nat} (h:Rec l a k r j) (h2:Rec (l++e) r j r' j'):Rec (l++e) a k r' j':=by
 induction h with
 | stop _=>exact h2
 | go s _ ih=>exact .go (sF s e) (ih h2)
theorem step_end (l:List Nat) (a:QI):Yo l a l.length=none:=by
 unfold Yo;rw[if_neg (by omega)]
theorem Rec.cut {l:List Nat} {a r:QI} {k j:Nat} (h:Rec l a k r j):k≤l.length→Rec (l.take j) a k r j:=by
 induction h with
 | stop e=>
  intro h;rename_i k;have:=step_end (l.take k) ‹QI›;rw[List.length_take,Nat.min_eq_left h]at this;exact .stop this
 | go s h2 ih=>
  intro h;have h1:=GP s;have h3:=h2.fits h1.2;exact .go (sH s h3.1) (ih h1.2)
def Whole (d:List Nat) (a:QI):Prop:=Rec d X2 0 a d.length
theorem Whole.nil:Whole [] X2:=.stop (step_end [] X2)
theorem Whole.all {d:List Nat} {a:QI} (h:Whole d a):Wt d=(a,d.length):=S7 h
theorem sI (d:List Nat) {a a':QI} {f:List Nat} (hb:XD a f=some a'):Yo (d++Yn f) a d.length=some (a',(d++Yn f).length):=by
 have hl:=Uy f;have e0:Yn f=f.length :: (f++(WE (OI f)).take 4):=rfl;have hN:UB (d++Yn f) d.length=1+f.length:=by
  unfold UB;rw[List.getD_eq_getElem?_getD,List.getElem?_append_right (Nat.le_refl _),Nat.sub_self,e0];rfl
 have m1:((d++Yn f).drop d.length).take (1+f.length)=OI f:=by
  rw[List.drop_left];unfold Yn;rw[List.take_append_of_le_length (by rw[QC];omega),List.take_of_length_le (by rw[QC];omega)]
 have m2:((d++Yn f).drop (d.length+(1+f.length))).take 4=(WE (OI f)).take 4:=by
  rw[←List.drop_drop,List.drop_left];unfold Yn;rw[List.drop_append_of_le_length (by rw[QC];omega),List.drop_of_length_le (by rw[QC];omega),List.nil_append,List.take_take];rfl
 have m3:((d++Yn f).drop (d.length+1)).take (1+f.length-1)=f:=by
  rw[←List.drop_drop,List.drop_left,e0,List.drop_succ_cons,List.drop_zero,Nat.add_sub_cancel_left,List.take_append_of_le_length (Nat.le_refl _),List.take_of_length_le (Nat.le_refl _)]
 unfold Yo;rw[hN,if_pos ⟨by rw[List.length_append];omega,by rw[List.length_append];omega,by rw[m1,m2]⟩,m3,hb];simp only[Option.map_some,List.length_append,hl]
 congr 2
 omega
theorem j6 (d f:List Nat) (a:QI) {m:Nat} (hm:m<(Yn f).length):Yo (d++(Yn f).take m) a d.length=none:=by
 have hl:=Uy f;have e0:Yn f=f.length :: (f++(WE (OI f)).take 4):=rfl;have ht:((Yn f).take m).length=m:=by rw[List.length_take];omega
 unfold Yo;rw[if_neg];rintro⟨h1,h2,_⟩;rw[List.length_append,ht]at h1 h2;have hN:UB (d++(Yn f).take m) d.length=1+f.length:=by
  unfold UB;rw[List.getD_eq_getElem?_getD,List.getElem?_append_right (Nat.le_refl _),Nat.sub_self,List.getElem?_take_of_lt (by omega),e0];rfl
 omega
theorem Whole.add {d f:List Nat} {a a':QI} (h:Whole d a) (hb:XD a f=some a'):Whole (d++Yn f) a':=
 Rec.app h (.go (sI d hb) (.stop (step_end _ _)))
theorem Whole.Zq8 {d f:List Nat} {a:QI} (h:Whole d a) {m:Nat} (hm:m<(Yn f).length):Rec (d++(Yn f).take m) X2 0 a d.length:=
 Rec.app h (.stop (j6 d f a hm))
def IB:Cv→QI
 | .Lb a _ _ _=>a
 | .MG a _ _=>a
 | .own a _ _=>a
structure TR (n:Nd):Prop where
 idle:n.up=true→n.ZB=none→Whole n.data n.own∧n.Xe=n.data.length
 busy:n.up=true→∀p,n.ZB=some p→∃d f,n.data=d++Yn f∧n.Xe=d.length∧Whole d n.own∧XD n.own f=some (IB p)
 down:n.up=false→n.ZB=none∧n.Xe=n.data.length∧∃a j,Rec n.data X2 0 a j
 len:n.data.length≤100000
def QW (n:Nd):QI:=if n.up=true then n.own else (Wt n.data).1
theorem sJ (i:Nat):TR (blank i true [] 0 X2):=by
 refine⟨fun _ _=>⟨Whole.nil,rfl⟩,fun _ p hp=>(by cases hp),fun h=>(by cases h),by simp[blank]⟩
theorem cJ {i:Nat} {n:Nd} (h:TR n) (hu:n.up=true) {Zd:Int} (hk:0≤Zd) :
  TR (crashed i n Zd)∧(crashed i n Zd).up=false∧(QW (crashed i n Zd)=n.own∨∃p,n.ZB=some p∧QW (crashed i n Zd)=IB p):=by
 have key:∀(d:List Nat) (z:Int) (a:QI) (j:Nat),d.length≤100000→z=d.length→Rec d X2 0 a j→TR (blank i false d z X2)∧(blank i false d z X2).up=false∧QW (blank i false d z X2)=a:=fun d z a j h1 h2 h3=>by
  refine⟨⟨fun e=>(by cases e),fun e=>(by cases e),fun _=>⟨rfl,h2,a,j,h3⟩,h1⟩,rfl,?_⟩;unfold QW;rw[if_neg (by simp[blank])];show (Wt d).1=a;rw[S7 h3]
 cases hp:n.ZB with
 | none=>
  obtain⟨h1,h2⟩:=h.idle hu hp;have hl:=h.len;have ec:(Qq n.data n.Xe Zd).toNat=n.data.length:=by unfold Qq;rw[h2];split<;>omega
  have ez:Qq n.data n.Xe Zd=n.data.length:=by unfold Qq;rw[h2];split<;>omega
  have e:crashed i n Zd=blank i false n.data (Qq n.data n.Xe Zd) X2:=by
   unfold crashed;rw[if_pos hu,if_pos ⟨⟨hl,by omega,by omega⟩,hk⟩,ec,List.take_of_length_le (Nat.le_refl _)]
  rw[e];obtain⟨k1,k2,k3⟩:=key n.data _ n.own _ hl ez h1;exact⟨k1,k2,.inl k3⟩
 | some p=>
  obtain⟨d,f,h1,h2,h3,h4⟩:=h.busy hu p hp;have hl:=h.len;have kX:n.data.length=d.length+(Yn f).length:=by rw[h1,List.length_append]
  have c1:(d.length:Int)≤Qq n.data n.Xe Zd∧Qq n.data n.Xe Zd≤n.data.length:=by unfold Qq;rw[h2];split<;>omega
  obtain⟨C,hC⟩:∃C:Nat,Qq n.data n.Xe Zd=C:=⟨(Qq n.data n.Xe Zd).toNat,by omega⟩
  have e:crashed i n Zd=blank i false (n.data.take C) C X2:=by
   unfold crashed;rw[if_pos hu,if_pos ⟨⟨hl,by omega,by omega⟩,hk⟩,hC];rfl
  have htl:(n.data.take C).length=C:=by rw[List.length_take];omega
  rw[e];by_cases hw:C=n.data.length
  ·have et:n.data.take C=n.data:=List.take_of_length_le (by omega);rw[et];have:=h3.add h4;rw[←h1]at this;obtain⟨k1,k2,k3⟩:=key n.data C (IB p) _ hl (by omega) this;exact⟨k1,k2,.inr ⟨p,rfl,k3⟩⟩
  ·have et:n.data.take C=d++(Yn f).take (C-d.length):=by
    rw[h1,List.take_append,List.take_of_length_le (by omega)]
   have:=h3.Zq8 (f:=f) (m:=C-d.length) (by omega);rw[←et]at this;obtain⟨k1,k2,k3⟩:=key (n.data.take C) C n.own _ (by omega) (by omega) this;exact⟨k1,k2,.inl k3⟩
theorem cK {i:Nat} {n:Nd} (h:TR n) (hu:n.up=false) :
  TR (started i n)∧(started i n).up=true∧(started i n).own=QW n:=by
 obtain⟨h1,h2,a,j,h3⟩:=h.down hu;have hl:=h.len;have hj:=h3.fits (Nat.zero_le _);have ea:=S7 h3;have Zq9:=h3.cut (Nat.zero_le _);have XR:(n.data.take j).length=j:=by rw[List.length_take];omega
 have ok:YS n.data n.Xe:=⟨hl,by omega,by omega⟩
 have eD:Ic n.data n.Xe=n.data.take j:=by unfold Ic;rw[if_pos ok,ea]
 have eN:bz n.data n.Xe=j:=by
  unfold bz;rw[if_pos ok,ea];simp only;split<;>omega
 have ok2:YS (n.data.take j) (j:Int):=⟨by omega,by omega,by omega⟩
 have hw:Whole (n.data.take j) a:=by unfold Whole;rw[XR];exact Zq9
 have eo:(if YS (Ic n.data n.Xe) (bz n.data n.Xe) then (Wt (Ic n.data n.Xe)).1 else X2)=a:=by
  rw[eD,eN,if_pos ok2,hw.all]
 have e:started i n=blank i true (n.data.take j) j a:=by
  unfold started;rw[if_neg (by rw[hu];decide),eo,eD,eN]
 rw[e];refine⟨⟨fun _ _=>⟨hw,by show (j:Int)=((n.data.take j).length:Nat);omega⟩,fun _ p hp=>(by cases hp),fun h=>(by cases h),by show (n.data.take j).length≤100000;omega⟩,rfl,?_⟩;show a=QW n;unfold QW;rw[if_neg (by rw[hu];decide),ea]
theorem yJ {β:Type}:∀{l:List (Int × β)} {k:Int},k∈l.map (·.1)→∃v,Yu l k=some v:=by
 intro l k h
 cases e:Yu l k with
 | some v=>exact⟨v,rfl⟩
 | none=>
  obtain⟨x,hx,rfl⟩:=List.mem_map.1 h;exact (nP e x hx rfl).elim
theorem VF.maj {β:Type} {l:List (Int × β)} (h:VF 5 l) (hm:5<2*l.length):Maj (l.map fun x=>x.1.toNat):=by
 refine⟨?_,fun i hi=>?_,by rw[List.length_map];omega⟩
 ·have:(l.map fun x=>x.1.toNat)=(l.map (·.1)).map Int.toNat:=by rw[List.map_map];rfl
  rw[this];refine List.pairwise_map.2 ?_;have h2:=h.2;have h1:=h.1;rw[List.nodup_iff_pairwise_ne]at h1;refine List.Pairwise.imp_of_mem ?_ h1;intro a b ha hb Yv he;have:=h2 a ha;have:=h2 b hb;omega
 ·obtain⟨x,hx,rfl⟩:=List.mem_map.1 hi;have:=h.2 x.1 (List.mem_map.2 ⟨x,hx,rfl⟩);omega
theorem VF.back {β:Type} {l:List (Int × β)} (h:VF 5 l) {i:Nat} (hi:i∈l.map fun x=>x.1.toNat):∃v,Yu l (i:Int)=some v:=by
 obtain⟨x,hx,rfl⟩:=List.mem_map.1 hi;have:=h.2 x.1 (List.mem_map.2 ⟨x,hx,rfl⟩);have e:((x.1.toNat:Nat):Int)=x.1:=by omega
 rw[e];exact yJ (List.mem_map.2 ⟨x,hx,rfl⟩)
structure AR (g:Gh) (i:Nat) (a:QI):Prop where
 has:∀v∈a.l,g.V i v.b v.slot v.cm
 all:∀b s x,g.V i b s x→∃v∈a.l,v.slot=s∧¬below v.b b
theorem AR.pf {S:Cm→Prop} {g:Gh} {M:Nat→YE} {i:Nat} {a:QI} (G:GI S g M) (h:AR g i a) (hi:i<5) (hm:M i=a.p):PF g M i a.p a.l:=
 ⟨hi,by rw[hm];exact Ui _,fun v hv=>⟨h.has v hv,by rw[←hm];exact G.top _ _ _ _ (h.has v hv)⟩,fun b' s x _ hv=>h.all b' s x hv⟩
structure RR (g:Gh) (M:Nat→YE) (i:Nat) (n:Nd) (r:Jw):Prop where
 node:r.b.n=i
 may:ZL r.b
 prom:∀j vs,Yu r.prom j=some vs→PF g M j.toNat r.b vs
 pn:r.begun=false→∀s x,¬g.P r.b s x
 pr:∀s x,g.P r.b s x→Yu r.prop s=some x
 safe:∀s x,Yu r.prop s=some x→g.P r.b s x
 free:r.begun=true→∀s:Int,(n.log.length:Int)≤s→Yu r.prop s=none→Yu n.known s=none→MR g M r.b s
 Xy:∀s K j,Yu r.Xy s=some K→Yu K j=some ()→∃x,g.V j.toNat r.b s x
def PR (g:Gh) (n:Nd):Cv→Prop
 | .Lb a to b vs=>a=⟨b,n.own.l⟩∧vs=n.own.l∧Ys n.own.p n.own.l b=0
 | .MG a to v=>a=⟨v.b,JM n.own.l v⟩∧YO n.own.p n.own.l v=0∧g.P v.b v.slot v.cm
 | .own a vs cur=>∃b,a=⟨b,n.own.l⟩∧vs=n.own.l∧Ys n.own.p n.own.l b=0∧(cur=true→∃r,n.Zi=some r∧r.b=b)
structure LR (S:Cm→Prop) (g:Gh) (M:Nat→YE) (l:Y7):Prop where
 Lb:l.kind=1→PF g M l.JI.toNat l.b l.vs
 ask:l.kind=2→g.P l.v.b l.v.slot l.v.cm
 MG:l.kind=3→g.V l.JI.toNat l.v.b l.v.slot l.v.cm
 fwd:l.kind=4→S l.v.cm
 cho:l.kind=6→JV g l.v.slot l.v.cm
theorem LR.plain {S:Cm→Prop} {g:Gh} {M:Nat→YE} {l:Y7} (h:l.kind=0∨l.kind=5∨l.kind=7):LR S g M l:=
 ⟨fun e=>by omega,fun e=>by omega,fun e=>by omega,fun e=>by omega,fun e=>by omega⟩
structure NR (S:Cm→Prop) (g:Gh) (M:Nat→YE) (i:Nat) (n:Nd):Prop where
 acc:AR g i (QW n)
 m:M i=(QW n).p
 tape:TR n
 ZB:∀p,n.ZB=some p→PR g n p
 known:∀s x,Yu n.known s=some x→JV g s x
 log:∀(k:Nat) x,n.log[k]? = some x→JV g (k:Int) x
 BI:∀x∈n.queue,S x
 Zi:∀r,n.Zi=some r→RR g M i n r
theorem Qp {n:Nd} (h:n.up=true):QW n=n.own:=by unfold QW;rw[if_pos h]
section
variable {i j:Nat} {g g':Gh} {M M':Nat→YE} {S:Cm→Prop}
theorem LR.ext (E:Ext i g M g' M') {l:Y7} (h:LR S g M l):LR S g' M' l:=
 ⟨fun e=>(h.Lb e).ext E,fun e=>E.p _ _ _ (h.ask e),fun e=>E.v _ _ _ _ (h.MG e),h.fwd,fun e=>(h.cho e).ext E⟩
theorem NR.ext (E:Ext i g M g' M') {n:Nd} (hj:j≠i) (h:NR S g M j n):NR S g' M' j n:=by
 have ho:=E.oth j hj;refine⟨⟨fun v hv=>E.v _ _ _ _ (h.acc.has v hv),fun b s x hv=>h.acc.all b s x (ho.2 _ _ _ hv)⟩,by rw[ho.1];exact h.m,h.tape,fun p hp=>?_,fun s x e=>(h.known s x e).ext E,fun k x e=>(h.log k x e).ext E,h.BI,fun r hr=>?_⟩
 ·have:=h.ZB p hp
  cases p with
  | Lb a to b vs=>exact this
  | MG a to v=>exact⟨this.1,this.2.1,E.p _ _ _ this.2.2⟩
  | own a vs cur=>exact this
 ·have R:=h.Zi r hr;have hP:∀s x,g'.P r.b s x→g.P r.b s x:=fun s x e=>by
   rcases E.own _ _ _ e with e|e
   ·exact e
   ·rw[R.node]at e;omega
  exact⟨R.node,R.may,fun k vs e=>(R.prom k vs e).ext E,fun e s x q=>R.pn e s x (hP s x q),fun s x q=>R.pr s x (hP s x q),fun s x q=>E.p _ _ _ (R.safe s x q),fun e s h1 h2 h3=>(R.free e s h1 h2 h3).ext E,fun s K k h1 h2=>by
   obtain⟨x,hx⟩:=R.Xy s K k h1 h2;exact⟨x,E.v _ _ _ _ hx⟩⟩
end
structure HR (S:Cm→Prop) (g:Gh) (M:Nat→YE) (i:Nat) (o:Out):Prop where
 n:NR S g M i o.n
 up:o.n.up=true
 ls:∀l∈o.ls,LR S g M l
section
variable {S:Cm→Prop} {g:Gh} {M:Nat→YE} {i:Nat} {n:Nd}
theorem HR.same (N:NR S g M i n) (hu:n.up=true):HR S g M i ⟨n,[],[]⟩:=⟨N,hu,fun l hl=>by cases hl⟩
theorem HR.one (N:NR S g M i n) (hu:n.up=true) {l:Y7} (hl:LR S g M l):HR S g M i ⟨n,[l],[]⟩:=⟨N,hu,fun x hx=>by
 have:x=l:=by simpa using hx
 rw[this];exact hl⟩
theorem Be {p b:YE} {l:List Vt} (h:Ys p l b=0):¬below b p:=by
 unfold Ys at h;split at h
 ·omega
 ·split at h
  ·omega
  ·split at h
   ·omega
   ·assumption
theorem sK {p:YE} {l:List Vt} {v:Vt} (h:YO p l v=0):¬below v.b p:=by
 unfold YO at h;split at h
 ·omega
 ·split at h
  ·omega
  ·split at h
   ·omega
   ·assumption
theorem NR.wait (N:NR S g M i n) (hu:n.up=true) (hp:n.ZB=none) {p:Cv} {f:List Nat} (hb:XD n.own f=some (IB p)) (hl:(n.data++Yn f).length≤100000) (hr:PR g n p):NR S g M i { n with data:=n.data++Yn f,ZB:=some p }:=by
 obtain⟨h1,h2⟩:=N.tape.idle hu hp;have eA:QW { n with data:=n.data++Yn f,ZB:=some p } = QW n:=by rw[Qp hu,Qp (n:={ n with data:=n.data++Yn f,ZB:=some p }) hu]
 refine⟨by rw[eA];exact N.acc,by rw[eA];exact N.m,⟨fun _ e=>(by cases e),fun _ q hq=>?_,fun e=>?_,hl⟩,fun q hq=>?_,N.known,N.log,N.BI,fun r hr=>?_⟩
 ·cases hq
  exact⟨n.data,f,rfl,h2,h1,hb⟩
 ·rw[show ({ n with data:=n.data++Yn f,ZB:=some p }:Nd).up=n.up from rfl,hu]at e
  cases e
 ·cases hq
  cases p<;>exact hr
 ·have R:=N.Zi r hr;exact⟨R.node,R.may,R.prom,R.pn,R.pr,R.safe,R.free,R.Xy⟩
theorem cL (hi:i<5) (G:GI S g M) (N:NR S g M i n) (hu:n.up=true) (hp:n.ZB=none) (Hy:n.me=i) {l:Y7}:HR S g M i (YW n l):=by
 have eA:=Qp hu;have Qb:=N.acc;have hM:=N.m;rw[eA]at Qb hM;unfold YW;split
 ·exact .one N hu (.plain (.inr (.inr rfl)))
 ·rename_i c1;split
  ·rename_i c2;refine .one N hu ⟨fun _=>?_,fun e=>(by cases e),fun e=>(by cases e),fun e=>(by cases e),fun e=>(by cases e)⟩;have:=Qb.pf G hi hM;rw[c2]at this;show PF g M (((n.me:Nat):Int)).toNat l.b n.own.l;rw[Int.toNat_natCast,Hy];exact this
  ·split
   ·exact .same N hu
   ·rename_i c3;have e1:Ys n.own.p n.own.l l.b=0:=by simpa using c1
    have e3:Qc n.data n.Xe l.b=0:=by simpa using c3
    refine⟨N.wait hu hp (f:=X1 l.b) (Bc e1) ?_ ⟨rfl,rfl,e1⟩,hu,fun l hl=>by cases hl⟩;rw[List.length_append,LB];exact OU e3
theorem yK (hi:i<5) (G:GI S g M) (N:NR S g M i n) (hu:n.up=true) (hp:n.ZB=none) (Hy:n.me=i) {l:Y7} (L:g.P l.v.b l.v.slot l.v.cm):HR S g M i (asked n l):=by
 have eA:=Qp hu;have Qb:=N.acc;rw[eA]at Qb;unfold asked;split
 ·exact .one N hu (.plain (.inr (.inr rfl)))
 ·rename_i c1;split
  ·rename_i c2;refine .one N hu ⟨fun e=>(by cases e),fun e=>(by cases e),fun _=>?_,fun e=>(by cases e),fun e=>(by cases e)⟩;show g.V (((n.me:Nat):Int)).toNat l.v.b l.v.slot l.v.cm;rw[Int.toNat_natCast,Hy];exact Qb.has _ c2
  ·split
   ·exact .same N hu
   ·rename_i c3;have e1:YO n.own.p n.own.l l.v=0:=by simpa using c1
    have e3:Ud n.data n.Xe l.v=0:=by simpa using c3
    refine⟨N.wait hu hp (f:=QH l.v) (sE e1) ?_ ⟨rfl,e1,L⟩,hu,fun l hl=>by cases hl⟩;rw[List.length_append,fq];exact CW e3
theorem NR.more (N:NR S g M i n) (hp:n.ZB=none) {m:Nd} (h1:m.up=n.up) (h2:m.data=n.data) (h3:m.Xe=n.Xe) (h4:m.own=n.own) (h5:m.Zi=n.Zi) (h6:m.ZB=n.ZB)
  (k1:∀s x,Yu m.known s=some x→JV g s x) (k2:∀s,Yu m.known s=none→Yu n.known s=none) (k3:∀(k:Nat) x,m.log[k]? = some x→JV g (k:Int) x) (k4:n.log.length≤m.log.length) (k5:∀x∈m.queue,S x):NR S g M i m:=by
 have eA:QW m=QW n:=by unfold QW;rw[h1,h2,h4]
 have T:=N.tape;refine⟨by rw[eA];exact N.acc,by rw[eA];exact N.m,⟨fun e1 e2=>?_,fun _ p e=>?_,fun e=>?_,by rw[h2];exact T.len⟩,fun p e=>?_,k1,k3,k5,fun r e=>?_⟩
 ·rw[h2,h3,h4];exact T.idle (by rw[←h1];exact e1) hp
 ·rw[h6,hp]at e;cases e
 ·rw[h2,h3,h6];exact T.down (by rw[←h1];exact e)
 ·rw[h6,hp]at e;cases e
 ·have R:=N.Zi r (by rw[←h5];exact e);exact⟨R.node,R.may,R.prom,R.pn,R.pr,R.safe,fun q s q1 q2 q3=>R.free q s (by omega) q2 (k2 s q3),R.Xy⟩
theorem sL (N:NR S g M i n) (hp:n.ZB=none) {x:Cm} (hx:Yu n.known (n.log.length:Int)=some x):NR S g M i (UL n x):=by
 refine N.more hp rfl rfl rfl rfl rfl rfl N.known (fun s h=>h) (fun k y e=>?_) (by show n.log.length≤(n.log++[x]).length;simp) (fun y hy=>N.BI y (List.mem_filter.1 hy).1);have e:(n.log++[x])[k]? = some y:=e;rw[List.getElem?_append]at e;split at e
 ·exact N.log k y e
 ·rename_i q;have:k=n.log.length:=by
   refine Classical.byContradiction fun Yv=>?_;rw[List.getElem?_eq_none (by simp;omega)]at e
   cases e
  subst this;rw[Nat.sub_self]at e
  cases e
  exact N.known _ _ hx
theorem j7:∀(k:Nat) (n:Nd),NR S g M i n→n.ZB=none→n.up=true→NR S g M i (Yz k n).1∧(Yz k n).1.ZB=none∧(Yz k n).1.up=true:=by
 intro k
 induction k with
 | zero=>intro n N hp hu;exact⟨N,hp,hu⟩
 | succ k ih=>
  intro n N hp hu;unfold Yz;split
  ·exact⟨N,hp,hu⟩
  ·rename_i x hx;exact ih _ (sL N hp hx) hp hu
theorem fI (N:NR S g M i n) (hp:n.ZB=none) (hu:n.up=true) {s:Int} {x:Cm} (hc:JV g s x):HR S g M i (UC n s x):=by
 have N1:NR S g M i (QS n s x):=by
  refine N.more hp rfl rfl rfl rfl rfl rfl (fun t y e=>?_) (fun t e=>?_) N.log (Nat.le_refl _) N.BI
  ·have e:Yu (ins n.known s x) t=some y:=e;rw[JE]at e;split at e
   ·rename_i q;cases e;rw[←q];exact hc
   ·exact N.known t y e
  ·have e:Yu (ins n.known s x) t=none:=e;rw[JE]at e;split at e
   ·cases e
   ·exact e
 obtain⟨h1,_,h3⟩:=j7 ((QS n s x).known.length+1) _ N1 hp hu;exact⟨h1,h3,fun l hl=>by cases hl⟩
theorem NR.ZhK (N:NR S g M i n) (hp:n.ZB=none) {r:Jw} (R:RR g M i n r):NR S g M i { n with Zi:=some r }:=
 ⟨N.acc,N.m,⟨N.tape.idle,N.tape.busy,N.tape.down,N.tape.len⟩,fun p e=>(by rw[show ({ n with Zi:=some r }:Nd).ZB=n.ZB from rfl,hp]at e;cases e),N.known,N.log,N.BI,fun r' e=>by
  obtain rfl:=Option.some.inj e;exact⟨R.node,R.may,R.prom,R.pn,R.pr,R.safe,R.free,R.Xy⟩⟩
theorem cM (G:GI S g M) (N:NR S g M i n) (hp:n.ZB=none) (hu:n.up=true) {C:List Cm} (NI:J4 C i n) {l:Y7} (LI:J2 C l) (L:LR S g M l) (hk:l.kind=1∨l.kind=3):HR S g M i (YB n l):=by
 unfold YB;split
 ·exact .same N hu
 ·rename_i r hr;have R:=N.Zi r hr;have RI:=NI.Zi r hr;split
  ·rename_i k1;split
   ·rename_i k2;refine .same ?_ hu;refine N.ZhK hp ⟨R.node,R.may,fun j vs e=>?_,R.pn,R.pr,R.safe,R.free,R.Xy⟩;have e:Yu (ins r.prom l.JI l.vs) j=some vs:=e;rw[JE]at e;split at e
    ·rename_i q;cases e;rw[←q];have:=L.Lb k1;rw[k2]at this;exact this
    ·exact R.prom j vs e
   ·exact .same N hu
  ·rename_i k1;have k3:l.kind=3:=by omega
   split
   ·exact .same N hu
   ·rename_i k2;have eb:l.v.b=r.b:=Classical.byContradiction fun q=>k2 q;have hv:=L.MG k3;rw[eb]at hv;have So:∀j,Yu (Wp r l) j=some ()→∃x,g.V j.toNat r.b l.v.slot x:=fun j e=>by
     unfold Wp at e;rw[JE]at e;split at e
     ·rename_i q;rw[←q];exact⟨_,hv⟩
     ·cases q:Yu r.Xy l.v.slot with
      | none=>rw[q]at e;cases e
      | some K=>rw[q]at e;exact R.Xy _ K j q e
    have N1:NR S g M i (NF n r l):=by
     refine N.ZhK hp ⟨R.node,R.may,R.prom,R.pn,R.pr,R.safe,R.free,fun s K j e1 e2=>?_⟩;have e1:Yu (ins r.Xy l.v.slot (Wp r l)) s=some K:=e1;rw[JE]at e1;split at e1
     ·rename_i q;cases e1;rw[←q];exact So j e2
     ·exact R.Xy s K j e1 e2
    split
    ·rename_i k4;refine fI N1 hp hu ?_;have KI:VF 5 (Wp r l):=by
      unfold Wp;refine VF.ins ?_ LI.JI ()
      cases q:Yu r.Xy l.v.slot with
      | none=>exact VF.nil 5
      | some K=>exact RI.Tc _ (SQ q)
     refine⟨_,r.b,KI.maj k4,fun j hj=>?_⟩;obtain⟨u,hu⟩:=KI.back hj;obtain⟨x,hx⟩:=So j hu;rw[Int.toNat_natCast]at hx;have:=G.one _ _ _ _ (G.vp _ _ _ _ hx) (G.vp _ _ _ _ hv);rw[←this];exact hx
    ·exact .same N1 hu
theorem fJ (N:NR S g M i n) (hp:n.ZB=none) (l:Y7):NR S g M i (notes n l)∧(notes n l).up=n.up:=by
 unfold notes;split
 ·exact⟨N.more hp rfl rfl rfl rfl rfl rfl N.known (fun s h=>h) N.log (Nat.le_refl _) N.BI,rfl⟩
 ·exact⟨N,rfl⟩
theorem Zat (N:NR S g M i n) {x:Cm} (hx:S x):NR S g M i (add n x)∧(add n x).up=n.up∧(add n x).ZB=n.ZB:=by
 unfold add;split
 ·exact⟨N,rfl,rfl⟩
 ·refine⟨⟨N.acc,N.m,⟨N.tape.idle,N.tape.busy,N.tape.down,N.tape.len⟩,fun p e=>?_,N.known,N.log,fun y hy=>?_,fun r e=>?_⟩,rfl,rfl⟩
  ·have:=N.ZB p e
   cases p<;>exact this
  ·rcases List.mem_append.1 hy with hy|hy
   ·exact N.BI y hy
   ·have:y=x:=by simpa using hy
    rw[this];exact hx
  ·have R:=N.Zi r e;exact⟨R.node,R.may,R.prom,R.pn,R.pr,R.safe,R.free,R.Xy⟩
theorem sO (hi:i<5) (G:GI S g M) (N:NR S g M i n) (hu:n.up=true) (hp:n.ZB=none) {C:List Cm} (NI:J4 C i n) {l:Y7} (LI:J2 C l) (L:LR S g M l):HR S g M i (handle n l):=by
 have Hy:=NI.me;unfold handle;split
 ·exact cL hi G N hu hp Hy
 split
 ·rename_i k;exact cM G N hp hu NI LI L k
 split
 ·rename_i k;exact yK hi G N hu hp Hy (L.ask k)
 split
 ·rename_i k;obtain⟨h1,h2,_⟩:=Zat N (L.fwd k);exact .same h1 (by rw[h2];exact hu)
 split
 ·unfold Wq;obtain⟨h1,h2⟩:=fJ N hp l;split
  ·rename_i x hx;refine .one h1 (by rw[h2];exact hu) ⟨fun e=>(by cases e),fun e=>(by cases e),fun e=>(by cases e),fun e=>(by cases e),fun _=>?_⟩;exact N.known _ _ hx
  ·exact .same h1 (by rw[h2];exact hu)
 split
 ·rename_i k;exact fI N hp hu (L.cho k)
 ·obtain⟨h1,h2⟩:=fJ N hp l;exact .same h1 (by rw[h2];exact hu)
theorem NR.box (N:NR S g M i n) (k:List Y7):NR S g M i { n with inbox:=k }:=
 ⟨N.acc,N.m,⟨N.tape.idle,N.tape.busy,N.tape.down,N.tape.len⟩,fun p e=>(by have:=N.ZB p e;cases p<;>exact this),N.known,N.log,N.BI,fun r e=>by
  have R:=N.Zi r e;exact⟨R.node,R.may,R.prom,R.pn,R.pr,R.safe,R.free,R.Xy⟩⟩
end
theorem cN (s:Int):∀(l:List Vt) (b:Vt),(l.foldl (QB s) b=b∨(l.foldl (QB s) b∈l∧(l.foldl (QB s) b).slot=s))∧¬below (l.foldl (QB s) b).b b.b∧∀v∈l,v.slot=s→¬below (l.foldl (QB s) b).b v.b:=by
 intro l
 induction l with
 | nil=>intro b;exact⟨.inl rfl,Ui _,fun v hv=>by cases hv⟩
 | cons x l ih=>
  intro b;obtain⟨h1,h2,h3⟩:=ih (QB s b x);rw[List.foldl_cons];have hx:¬below (QB s b x).b b.b∧(x.slot=s→¬below (QB s b x).b x.b)∧(QB s b x=b∨(QB s b x=x∧x.slot=s)):=by
   unfold QB;split
   ·rename_i q;exact⟨Zar q.2,fun _=>Ui _,.inr ⟨rfl,q.1⟩⟩
   ·rename_i q;exact⟨Ui _,fun e f=>q ⟨e,f⟩,.inl rfl⟩
  refine⟨?_,Js hx.1 h2,fun v hv e=>?_⟩
  ·rcases h1 with h1|⟨h1,h4⟩
   ·rw[h1];rcases hx.2.2 with q|⟨q,q2⟩
    ·exact .inl q
    ·rw[q];exact .inr ⟨by simp,q2⟩
   ·exact .inr ⟨by simp[h1],h4⟩
  ·rcases List.mem_cons.1 hv with rfl|hv
   ·exact Js (hx.2.1 e) h2
   ·exact h3 v hv e
theorem IC:∀(l:List Vt) (t:Int),t≤l.foldl (fun t v=>if t<v.slot then v.slot else t) t∧(∀v∈l,v.slot≤l.foldl (fun t v=>if t<v.slot then v.slot else t) t)∧(l.foldl (fun t v=>if t<v.slot then v.slot else t) t=t∨∃v∈l,l.foldl (fun t v=>if t<v.slot then v.slot else t) t=v.slot):=by
 intro l
 induction l with
 | nil=>intro t;exact⟨Int.le_refl _,fun v hv=>(by cases hv),.inl rfl⟩
 | cons x l ih=>
  intro t;obtain⟨h1,h2,h3⟩:=ih (if t<x.slot then x.slot else t);rw[List.foldl_cons];have hx:t≤(if t<x.slot then x.slot else t)∧x.slot≤(if t<x.slot then x.slot else t)∧((if t<x.slot then x.slot else t)=t∨(if t<x.slot then x.slot else t)=x.slot):=by
   split
   ·exact⟨by omega,by omega,.inr rfl⟩
   ·exact⟨by omega,by omega,.inl rfl⟩
  refine⟨by omega,fun v hv=>?_,?_⟩
  ·rcases List.mem_cons.1 hv with rfl|hv
   ·omega
   ·exact h2 v hv
  ·rcases h3 with h3|⟨v,hv,h3⟩
   ·rcases hx.2.2 with q|q
    ·exact .inl (by rw[h3,q])
    ·exact .inr ⟨x,by simp,by rw[h3,q]⟩
   ·exact .inr ⟨v,by simp[hv],h3⟩
theorem GQ {r:Jw} {v:Vt} (h:v∈(Z5 r).flatten):∃m:Nat,m<5∧∃vs,Yu r.prom (m:Int)=some vs∧v∈vs:=by
 obtain⟨l,h1,h2⟩:=List.mem_flatten.1 h;unfold Z5 at h1;obtain⟨m,h3,rfl⟩:=List.mem_map.1 h1;rw[List.mem_range]at h3
 cases e:Yu r.prom (m:Int) with
 | none=>rw[e]at h2;cases h2
 | some vs=>rw[e]at h2;exact⟨m,h3,vs,e,h2⟩
theorem Tj {r:Jw} {v:Vt} {m:Nat} (hm:m<5) {vs:List Vt} (h:Yu r.prom (m:Int)=some vs) (hv:v∈vs):v∈(Z5 r).flatten:=by
 refine List.mem_flatten.2 ⟨vs,?_,hv⟩;unfold Z5;exact List.mem_map.2 ⟨m,List.mem_range.2 hm,by rw[h];rfl⟩
theorem j8 {a:QI} (h:HD a) (hb:∀v∈a.l,¬below a.p v.b):XC a.p a.l=0:=by
 refine Sr ?_ (fun j hj=>?_)
 ·rintro⟨h1,h2⟩;rcases h.bal with q|q
  ·exact h1 q
  ·exact h2 q
 ·rw[Oq hj];refine⟨h.Xy.1 _ (List.getElem_mem hj),hb _ (List.getElem_mem hj),?_⟩;by_cases e:j=0
  ·exact .inl e
  ·rw[SY (j:=j-1) (by omega)];exact .inr (List.pairwise_iff_getElem.1 h.Xy.2 (j-1) j (by omega) hj (by omega))
section
variable {S:Cm→Prop} {g:Gh} {M:Nat→YE} {i:Nat} {n:Nd}
theorem GR {r:Jw} (RI:Pv r):∀v∈(Z5 r).flatten,Z9 v:=fun v hv=>by
 obtain⟨m,_,vs,h1,h2⟩:=GQ hv;exact (RI.vs _ (SQ h1)).1 v h2
theorem yL {r:Jw} (RI:Pv r):Ph (Z5 r).flatten≤39:=by
 obtain⟨_,_,h3⟩:=IC (Z5 r).flatten (-1);have e:Ph (Z5 r).flatten=(Z5 r).flatten.foldl (fun t v=>if t<v.slot then v.slot else t) (-1):=rfl;rcases h3 with h3|⟨v,hv,h3⟩
 ·omega
 ·have:=(GR RI v hv).1;omega
theorem j9 (G:GI S g M) {r:Jw} (R:RR g M i n r) (RI:Pv r) (hb:r.begun=false) (hm:5<2*r.prom.length) (s:Nat) (hs:(s:Int)≤Ph (Z5 r).flatten) :
  Safe g M r.b s (Sy (Z5 r) s)∧(Sy (Z5 r) s=BD∨S (Sy (Z5 r) s)):=by
 have h39:=yL RI;have sQ:=GR RI;have pC:Vf (s:Int) (Z5 r).flatten=0:=by
  unfold Vf Ub;rw[if_neg (by omega),if_pos (List.all_eq_true.2 fun v hv=>decide_eq_true (sQ v hv))]
 have hpc:Sy (Z5 r) s=(Ua (s:Int) (Z5 r).flatten).cm:=by unfold Sy;rw[if_pos pC]
 obtain⟨h1,_,h3⟩:=cN (s:Int) (Z5 r).flatten Tn;obtain⟨B,hB⟩:=Zy (Ua (s:Int) (Z5 r).flatten);rw[hpc,←hB];have eB:(Z5 r).flatten.foldl (QB (s:Int)) Tn=B:=hB.symm;rw[eB]at h1 h3;have hQ:=RI.prom.maj hm;have hPF:∀i:Nat,i∈r.prom.map (fun x=>x.1.toNat)→∃vs,Yu r.prom (i:Int)=some vs∧PF g M i r.b vs:=fun i hi=>by
  obtain⟨vs,h⟩:=RI.prom.back hi;have:=R.prom _ _ h;rw[Int.toNat_natCast]at this;exact⟨vs,h,this⟩
 have FN:∀i∈r.prom.map (fun x=>x.1.toNat),¬below (M i) r.b:=fun i hi=>by
  obtain⟨vs,_,h⟩:=hPF i hi;exact h.top
 rcases h1 with h1|⟨h1,h4⟩
 ·subst h1;refine⟨⟨_,hQ,FN,.inl fun i hi b' y XU hv=>?_⟩,.inl rfl⟩;obtain⟨vs,hv1,h⟩:=hPF i hi;obtain⟨v,v1,v2,_⟩:=h.all b' s y XU hv;have:=h3 v (Tj h.lt hv1 v1) v2;have:=(h.has v v1).1;have hvm:=sQ v (Tj h.lt hv1 v1);have:=hvm.2.1;unfold ZL at this;have h7:below Tn.b v.b:=by unfold below Tn;simp only;omega
  exact h3 v (Tj h.lt hv1 v1) v2 h7
 ·obtain⟨m,hm5,vs,e1,e2⟩:=GQ h1;have hp:=R.prom _ _ e1;rw[Int.toNat_natCast]at hp;obtain⟨p1,p2⟩:=hp.has B e2;rw[h4]at p1;have p3:below B.b r.b:=by
   refine Classical.byContradiction fun q=>?_;have:=cH q p2;exact R.pn hb _ _ (by rw[←this];exact G.vp _ _ _ _ p1)
  refine⟨⟨_,hQ,FN,.inr ⟨B.b,m,p3,p1,fun i hi b' y XU hv=>?_⟩⟩,G.cmd _ _ _ (G.vp _ _ _ _ p1)⟩;obtain⟨zf,hv1,h⟩:=hPF i hi;obtain⟨v,v1,v2,v3⟩:=h.all b' s y XU hv;exact Js v3 (h3 v (Tj h.lt hv1 v1) v2)
theorem sR {r:Jw} (R:RR g M i n r) (RI:Pv r) (hm:5<2*r.prom.length) {s:Int} (hs:Ph (Z5 r).flatten<s):MR g M r.b s:=by
 have hQ:=RI.prom.maj hm;obtain⟨_,h2,_⟩:=IC (Z5 r).flatten (-1);refine⟨_,hQ,fun i hi=>?_,fun i hi b' y XU hv=>?_⟩
 ·obtain⟨vs,h⟩:=RI.prom.back hi;have:=R.prom _ _ h;rw[Int.toNat_natCast]at this;exact this.top
 ·obtain⟨vs,h⟩:=RI.prom.back hi;have h:=R.prom _ _ h;rw[Int.toNat_natCast]at h;obtain⟨zf,h'⟩:=RI.prom.back hi;have h:=R.prom _ _ h';rw[Int.toNat_natCast]at h;obtain⟨v,v1,v2,_⟩:=h.all b' s y XU hv;have:=h2 v (Tj h.lt h' v1);have e:Ph (Z5 r).flatten=(Z5 r).flatten.foldl (fun t v=>if t<v.slot then v.slot else t) (-1):=rfl;omega
theorem cO (n:Nd) (LL:List (List Vt)):∀(cnt L:Nat) (pr:List (Int × Cm)),
  (∀t y,Yu ((List.range' L cnt).foldl (XQ n LL) pr) t=some y→Yu pr t=some y∨∃s:Nat,L≤s∧s<L+cnt∧t=s∧y=Sy LL s) ∧
  (∀s:Nat,L≤s→s<L+cnt→Yu n.known (s:Int)=none→Yu ((List.range' L cnt).foldl (XQ n LL) pr) (s:Int)≠none) ∧
  (∀t,Yu pr t≠none→Yu ((List.range' L cnt).foldl (XQ n LL) pr) t≠none):=by
 intro cnt
 induction cnt with
 | zero=>intro L pr;exact⟨fun t y h=>.inl h,fun s h1 h2=>(by omega),fun t h=>h⟩
 | succ cnt ih=>
  intro L pr;rw[List.range'_succ,List.foldl_cons];obtain⟨h1,h2,h3⟩:=ih (L+1) (XQ n LL pr L);have hb:∀t,Yu pr t≠none→Yu (XQ n LL pr L) t≠none:=fun t h=>by
   unfold XQ;split
   ·rw[JE];split
    ·simp
    ·exact h
   ·exact h
  refine⟨fun t y h=>?_,fun s hs1 hs2 hk=>?_,fun t h=>h3 t (hb t h)⟩
  ·rcases h1 t y h with h|⟨s,q1,q2,q3,q4⟩
   ·unfold XQ at h;split at h
    ·rw[JE]at h;split at h
     ·rename_i e;cases h;exact .inr ⟨L,by omega,by omega,e.symm,rfl⟩
     ·exact .inl h
    ·exact .inl h
   ·exact .inr ⟨s,by omega,by omega,q3,q4⟩
  ·by_cases e:s=L
   ·subst e;refine h3 _ ?_;unfold XQ;rw[if_pos hk,JE,if_pos rfl];simp
   ·exact h2 s (by omega) (by omega) hk
theorem kf {n:Nd} {r:Jw} {x:Cm}:∀(k s t:Nat),QT n r x k s=some t→s≤t∧t<s+k∧Yu r.prop (t:Int)=none∧Yu n.known (t:Int)=none:=by
 intro k
 induction k with
 | zero=>intro s t h;cases h
 | succ k ih=>
  intro s t h;unfold QT at h;split at h
  ·cases h
  ·split at h
   ·rename_i q;cases h;exact⟨Nat.le_refl _,by omega,q.1,q.2⟩
   ·have:=ih _ _ h;exact⟨by omega,by omega,this.2.2⟩
structure RB (S:Cm→Prop) (g:Gh) (M:Nat→YE) (n:Nd) (r r':Jw):Prop where
 b:r'.b=r.b
 prom:r'.prom=r.prom
 Xy:r'.Xy=r.Xy
 begun:r'.begun=true
 kR:∀t y,g.P r.b t y→Yu r'.prop t=some y
 safe:∀t y,Yu r'.prop t=some y→Safe g M r.b t y∧(y=BD∨S y)
 free:∀s:Int,(n.log.length:Int)≤s→Yu r'.prop s=none→Yu n.known s=none→MR g M r.b s
theorem RB.one {r r':Jw} (h:RB S g M n r r') {x:Cm} (hx:S x):RB S g M n r (Wr n r' x):=by
 unfold Wr;split
 ·rename_i s hs;obtain⟨h1,h2,h3,h4⟩:=kf _ _ _ hs;have ho:=h.free s (by omega) h3 h4;refine⟨h.b,h.prom,h.Xy,h.begun,fun t y e=>?_,fun t y e=>?_,fun t q1 q2 q3=>?_⟩
  ·have:=h.kR t y e;show Yu (ins r'.prop (s:Int) x) t=some y;rw[JE,if_neg (fun e=>by rw[←e,h3]at this;cases this)];exact this
  ·have e:Yu (ins r'.prop (s:Int) x) t=some y:=e;rw[JE]at e;split at e
   ·rename_i q;cases e;rw[←q];exact⟨ho.safe x,.inr hx⟩
   ·exact h.safe t y e
  ·have q2:Yu (ins r'.prop (s:Int) x) t=none:=q2;rw[JE]at q2;split at q2
   ·cases q2
   ·exact h.free t q1 q2 q3
 ·exact h
theorem RB.all {r:Jw}:∀(l:List Cm) (r':Jw),RB S g M n r r'→(∀x∈l,S x)→RB S g M n r (JJ n r' l):=by
 intro l
 induction l with
 | nil=>intro r' h _;exact h
 | cons x l ih=>intro r' h hl;exact ih _ (h.one (hl x (by simp))) (fun y hy=>hl y (by simp[hy]))
theorem sU (G:GI S g M) {r:Jw} (R:RR g M i n r) (RI:Pv r) (hb:r.begun=false) (hm:5<2*r.prom.length):RB S g M n r (TJ n r):=by
 obtain⟨h1,h2,_⟩:=cO n (Z5 r) ((Ph (Z5 r).flatten+1).toNat-n.log.length) n.log.length r.prop;refine⟨rfl,rfl,rfl,rfl,fun t y e=>(R.pn hb _ _ e).elim,fun t y e=>?_,fun s q1 q2 q3=>?_⟩
 ·rcases h1 t y e with e|⟨s,s1,s2,rfl,rfl⟩
  ·exact (R.pn hb _ _ (R.safe _ _ e)).elim
  ·exact j9 G R RI hb hm s (by omega)
 ·obtain⟨k,rfl⟩:∃k:Nat,s=k:=⟨s.toNat,by omega⟩
  by_cases hk:(k:Int)≤Ph (Z5 r).flatten
  ·exact (h2 k (by omega) (by omega) q3 q2).elim
  ·exact sR R RI hm (by omega)
theorem RR.rb (G:GI S g M) {r:Jw} (R:RR g M i n r) (hb:r.begun=true):RB S g M n r r:=
 ⟨rfl,rfl,rfl,hb,R.pr,fun t y e=>⟨G.safe _ _ _ (R.safe _ _ e),G.cmd _ _ _ (R.safe _ _ e)⟩,R.free hb⟩
theorem sV (G:GI S g M) {r:Jw} (R:RR g M i n r) (RI:Pv r) (hm:5<2*r.prom.length) (hq:∀x∈n.queue,S x):RB S g M n r (UD n r):=by
 unfold UD;refine RB.all _ _ ?_ hq;split
 ·rename_i hb;exact R.rb G hb
 ·rename_i hb;exact sU G R RI (by simpa using hb) hm
structure SR (S:Cm→Prop) (g:Gh) (M:Nat→YE) (i:Nat) (o:Out) (g':Gh) (M':Nat→YE):Prop where
 e:Ext i g M g' M'
 gi:GI S g' M'
 h:HR S g' M' i o
theorem SR.same (G:GI S g M) {o:Out} (h:HR S g M i o):SR S g M i o g M:=⟨Ext.refl _ _ _,G,h⟩
theorem ZcZ (hi:i<5) (G:GI S g M) (N:NR S g M i n) (hu:n.up=true) (hp:n.ZB=none) {C:List Cm} (NI:J4 C i n) {r:Jw} (hr:n.Zi=some r):∃g' M',SR S g M i (QJ n r) g' M':=by
 have eA:=Qp hu;have R:=N.Zi r hr;have RI:=NI.Zi r hr;have Qb:=N.acc;have hM:=N.m;rw[eA]at Qb hM;unfold QJ;split
 ·rename_i c1;split
  ·exact⟨g,M,.same G (.same N hu)⟩
  ·rename_i c2;have ea:XC n.own.p n.own.l=0:=j8 NI.own (fun v hv=>by rw[←hM];exact G.top _ _ _ _ (Qb.has v hv));have e1:Ys n.own.p n.own.l r.b=0:=by
    unfold Ys;rw[if_neg (by rw[ea];decide),if_neg (fun h=>h R.may),if_neg (Zar c1)]
   have e3:Qc n.data n.Xe r.b=0:=by simpa using c2
   rw[if_pos e1,if_pos e1];refine⟨g,M,.same G ⟨N.wait hu hp (f:=X1 r.b) (Bc e1) ?_ ⟨r.b,rfl,rfl,e1,fun _=>⟨r,hr,rfl⟩⟩,hu,fun l hl=>by cases hl⟩⟩;rw[List.length_append,LB];exact OU e3
 ·rename_i c1;split
  ·refine⟨g,M,.same G ⟨N,hu,fun l hl=>?_⟩⟩;unfold NH at hl;obtain⟨m,_,hl⟩:=List.mem_flatMap.1 hl;split at hl
   ·rw[List.mem_singleton.1 hl];exact .plain (.inl rfl)
   ·cases hl
  ·rename_i c2;have B:=sV G R RI (by simpa using c2) N.BI;have hP:=sA G (i:=i) (b:=r.b) (l:=(UD n r).prop) R.node R.may (by rw[hM];exact c1) B.kR (fun t y e=>(B.safe t y e).1) (fun t y e=>(B.safe t y e).2);obtain⟨E,G'⟩:=hP;obtain⟨g',IM⟩:=Zy (fH g r.b (UD n r).prop);have hV:g'.V=g.V:=by rw[IM];rfl
   have hPn:∀s x,Yu (UD n r).prop s=some x→g'.P r.b s x:=fun s x e=>by rw[IM];exact .inr ⟨rfl,e⟩
   have hPo:∀s x,g'.P r.b s x→Yu (UD n r).prop s=some x:=fun s x e=>by
    rw[IM]at e;rcases e with e|e
    ·exact B.kR s x e
    ·exact e.2
   rw[←IM]at E G';have Nn:NR S g' M i { n with Zi:=some (UD n r) }:=by
    refine⟨⟨fun v hv=>E.v _ _ _ _ (N.acc.has v hv),fun b s x hv=>N.acc.all b s x (by rw[←hV];exact hv)⟩,N.m,⟨N.tape.idle,N.tape.busy,N.tape.down,N.tape.len⟩,fun p e=>?_,fun s x e=>(N.known s x e).ext E,fun k x e=>(N.log k x e).ext E,N.BI,fun r' e=>?_⟩
    ·rw[show ({ n with Zi:=some (UD n r) }:Nd).ZB=n.ZB from rfl,hp]at e;cases e
    ·obtain rfl:=Option.some.inj e;refine⟨by rw[B.b];exact R.node,by rw[B.b];exact R.may,fun j vs q=>?_,fun q=>?_,?_,?_,?_,fun s K j q1 q2=>?_⟩
     ·rw[B.prom]at q;rw[B.b];exact (R.prom j vs q).ext E
     ·rw[B.begun]at q;cases q
     ·rw[B.b];exact hPo
     ·rw[B.b];exact hPn
     ·rw[B.b];exact fun _ s q1 q2 q3=>(B.free s q1 q2 q3).ext E
     ·rw[B.Xy]at q1;rw[B.b,hV];exact R.Xy s K j q1 q2
   refine⟨g',M,E,G',Nn,hu,fun l hl=>?_⟩;have hl:l∈OK n (UD n r):=hl;unfold OK at hl;obtain⟨s,_,hl⟩:=List.mem_flatMap.1 hl;unfold WK at hl;split at hl
   ·rename_i x hx;split at hl
    ·obtain⟨m,_,hl⟩:=List.mem_flatMap.1 hl;unfold Pj at hl;split at hl
     ·obtain rfl:=List.mem_singleton.1 hl;refine⟨fun e=>(by cases e),fun _=>?_,fun e=>(by cases e),fun e=>(by cases e),fun e=>(by cases e)⟩;show g'.P (UD n r).b _ _;rw[B.b];exact hPn _ _ hx
     ·cases hl
    ·cases hl
   ·cases hl
theorem yM (N:NR S g M i n) (hp:n.ZB=none) (hu:n.up=true):NR S g M i (still n)∧(still n).ZB=none∧(still n).up=true:=by
 unfold still;split
 ·rename_i r hr;split
  ·refine⟨⟨N.acc,N.m,⟨N.tape.idle,N.tape.busy,N.tape.down,N.tape.len⟩,fun p e=>?_,N.known,N.log,N.BI,fun r' e=>by cases e⟩,hp,hu⟩;have e:n.ZB=some p:=e;rw[hp]at e;cases e
  ·exact⟨N,hp,hu⟩
 ·exact⟨N,hp,hu⟩
theorem yN (hi:i<5) (G:GI S g M) (N:NR S g M i n) (hu:n.up=true) (hp:n.ZB=none) {C:List Cm} (NI:J4 C i n):∃g' M',SR S g M i (YC n) g' M':=by
 unfold YC;split
 ·rename_i r hr;exact ZcZ hi G N hu hp NI hr
 ·split
  ·refine⟨g,M,.same G ⟨N,hu,fun l hl=>?_⟩⟩;have hl:l∈Ta n:=hl;unfold Ta at hl;obtain⟨x,hx,rfl⟩:=List.mem_map.1 hl;exact⟨fun e=>(by cases e),fun e=>(by cases e),fun e=>(by cases e),fun _=>N.BI x hx,fun e=>(by cases e)⟩
  ·exact⟨g,M,.same G (.same N hu)⟩
theorem kh (n:Nd):∀l∈VA n,LR S g M l:=fun l hl=>by
 unfold VA at hl;split at hl
 ·rw[List.mem_singleton.1 hl];exact .plain (.inr (.inl rfl))
 ·cases hl
theorem NR.Xo (N:NR S g M i n):NR S g M i (Qu n):=
 ⟨N.acc,N.m,⟨N.tape.idle,N.tape.busy,N.tape.down,N.tape.len⟩,fun p e=>(by have:=N.ZB p e;cases p<;>exact this),N.known,N.log,N.BI,fun r e=>by
  have R:=N.Zi r e;exact⟨R.node,R.may,R.prom,R.pn,R.pr,R.safe,R.free,R.Xy⟩⟩
theorem Zc0 (hi:i<5) (G:GI S g M) (N:NR S g M i n) (hu:n.up=true) (hp:n.ZB=none) {C:List Cm} (NI:J4 C i n):∃g' M',SR S g M i (Ws n) g' M':=by
 obtain⟨N1,p1,u1⟩:=yM N hp hu;obtain⟨g',M',E,G',H⟩:=yN hi G N1 u1 p1 (fy NI).1;unfold Ws;split
 ·exact⟨g',M',E,G',H⟩
 ·refine⟨g',M',E,G',H.n.Xo,H.up,fun l hl=>?_⟩;rcases List.mem_append.1 hl with hl|hl
  ·exact H.ls l hl
  ·exact kh _ l hl
theorem sW (G:GI S g M) (N:NR S g M i n) (hu:n.up=true) {p:Cv} (hp:n.ZB=some p):∃g' M',Ext i g M g' M'∧GI S g' M'∧AR g' i (IB p)∧M' i=(IB p).p∧(∀b s x,g'.P b s x↔g.P b s x)∧(∀a to v,p=.MG a to v→g'.V i v.b v.slot v.cm):=by
 have eA:=Qp hu;have Qb:=N.acc;have hM:=N.m;rw[eA]at Qb hM;have hPR:=N.ZB p hp;have same:∀b,¬below b (M i)→∃g' M',Ext i g M g' M'∧GI S g' M'∧AR g' i ⟨b,n.own.l⟩∧M' i=b∧(∀b s x,g'.P b s x↔g.P b s x):=fun b hb=>by
  obtain⟨E,G'⟩:=raised G hb;exact⟨g,Rm M i b,E,G',⟨Qb.has,Qb.all⟩,by unfold Rm;rw[if_pos rfl],fun _ _ _=>Iff.rfl⟩
 cases p with
 | Lb a to b vs=>
  obtain⟨rfl,rfl,h3⟩:=hPR;obtain⟨g',M',h1,h2,h4,h5,h6⟩:=same b (by rw[hM];exact Be h3);exact⟨g',M',h1,h2,h4,h5,h6,fun _ _ _ e=>by cases e⟩
 | own a vs cur=>
  obtain⟨b,rfl,rfl,h3,_⟩:=hPR;obtain⟨g',M',h1,h2,h4,h5,h6⟩:=same b (by rw[hM];exact Be h3);exact⟨g',M',h1,h2,h4,h5,h6,fun _ _ _ e=>by cases e⟩
 | MG a to v=>
  obtain⟨rfl,h3,h4⟩:=hPR;have YK:=sK h3;obtain⟨E,G'⟩:=ZhJ G h4 (by rw[hM];exact YK);refine⟨_,_,E,G',⟨fun u hu=>?_,fun b s x hv=>?_⟩,by unfold Rm;rw[if_pos rfl];rfl,fun _ _ _=>Iff.rfl,fun _ _ _ e=>by cases e;exact .inr ⟨rfl,rfl,rfl,rfl⟩⟩
  ·have hu:u∈n.own.l.filter (fun x=>decide (x.slot<v.slot))++v :: n.own.l.filter (fun x=>decide (v.slot<x.slot)):=hu;rcases List.mem_append.1 hu with hu|hu
   ·exact .inl (Qb.has u (List.mem_filter.1 hu).1)
   ·rcases List.mem_cons.1 hu with rfl|hu
    ·exact .inr ⟨rfl,rfl,rfl,rfl⟩
    ·exact .inl (Qb.has u (List.mem_filter.1 hu).1)
  ·have Zav:v∈JM n.own.l v:=by unfold JM;simp
   rcases hv with hv|⟨_,rfl,rfl,rfl⟩
   ·obtain⟨u,u1,u2,u3⟩:=Qb.all b s x hv;by_cases e:u.slot=v.slot
    ·refine⟨v,Zav,by rw[←e];exact u2,?_⟩;have:=G.top _ _ _ _ hv;rw[hM]at this;exact Js this YK
    ·refine⟨u,?_,u2,u3⟩;show u∈JM n.own.l v;unfold JM;rcases Int.lt_or_gt_of_ne e with q|q
     ·exact List.mem_append.2 (.inl (List.mem_filter.2 ⟨u1,by simpa using q⟩))
     ·exact List.mem_append.2 (.inr (List.mem_cons.2 (.inr (List.mem_filter.2 ⟨u1,by simpa using q⟩))))
   ·exact⟨v,Zav,rfl,Ui _⟩
theorem NR.rest (N:NR S g M i n) {g':Gh} {M':Nat→YE} (E:Ext i g M g' M') (hP:∀b s x,g'.P b s x↔g.P b s x):(∀s x,Yu n.known s=some x→JV g' s x)∧(∀(k:Nat) x,n.log[k]? = some x→JV g' (k:Int) x)∧∀r,n.Zi=some r→RR g' M' i n r:=by
 refine⟨fun s x e=>(N.known s x e).ext E,fun k x e=>(N.log k x e).ext E,fun r e=>?_⟩;have R:=N.Zi r e;exact⟨R.node,R.may,fun j vs q=>(R.prom j vs q).ext E,fun q s x h=>R.pn q s x ((hP _ _ _).1 h),fun s x h=>R.pr s x ((hP _ _ _).1 h),fun s x h=>(hP _ _ _).2 (R.safe s x h),fun q s q1 q2 q3=>(R.free q s q1 q2 q3).ext E,fun s K j q1 q2=>by
  obtain⟨x,hx⟩:=R.Xy s K j q1 q2;exact⟨x,E.v _ _ _ _ hx⟩⟩
theorem Bf (T:TR n) (hu:n.up=true) {p:Cv} (hp:n.ZB=some p):(synced n).data=n.data∧(synced n).Xe=n.data.length∧Whole n.data (IB p):=by
 obtain⟨d,f,h1,h2,h3,h4⟩:=T.busy hu p hp;have hl:=T.len;have ok:YS n.data n.Xe:=⟨hl,by omega,by rw[h2,h1,List.length_append];omega⟩
 refine⟨by unfold synced;simp only[if_pos ok],by unfold synced;simp only[if_pos ok],?_⟩;rw[h1];exact h3.add h4
theorem sX (hi:i<5) (G:GI S g M) (N:NR S g M i n) (hu:n.up=true) (Hy:n.me=i) {p:Cv} (hp:n.ZB=some p):∃g' M',SR S g M i (finish (synced n) p) g' M':=by
 obtain⟨g',M',E,G',A,m',hP,hvt⟩:=sW G N hu hp;obtain⟨r1,r2,r3⟩:=N.rest E hP;obtain⟨t1,t2,t3⟩:=Bf N.tape hu hp;have hPR:=N.ZB p hp;have hl:=N.tape.len;have base:∀(m:Nd),m.up=n.up→m.data=n.data→m.Xe=n.data.length→m.own=IB p→m.ZB=none→m.known=n.known→m.log=n.log→m.queue=n.queue→(∀r,m.Zi=some r→RR g' M' i m r)→NR S g' M' i m:=fun m e1 e2 e3 e4 e5 e6 e7 e8 e9=>by
  have eA:QW m=IB p:=by rw[Qp (by rw[e1];exact hu),e4]
  refine⟨by rw[eA];exact A,by rw[eA];exact m',⟨fun _ _=>⟨by rw[e2,e4];exact t3,by rw[e3,e2]⟩,fun _ q hq=>(by rw[e5]at hq;cases hq),fun h=>(by rw[e1,hu]at h;cases h),by rw[e2];exact hl⟩,fun q hq=>(by rw[e5]at hq;cases hq),by rw[e6];exact r1,by rw[e7];exact r2,by rw[e8];exact N.BI,e9⟩
 have rr:∀(m:Nd),m.known=n.known→m.log=n.log→∀r,RR g' M' i n r→RR g' M' i m r:=fun m e1 e2 r R=>⟨R.node,R.may,R.prom,R.pn,R.pr,R.safe,fun q s q1 q2 q3=>R.free q s (by rw[←e2];exact q1) q2 (by rw[←e1];exact q3),R.Xy⟩
 have pf:=A.pf G' hi m';refine⟨g',M',E,G',?_⟩
 cases p with
 | Lb a to b vs=>
  obtain⟨rfl,rfl,h3⟩:=hPR;show HR S g' M' i ⟨{ synced n with own:=⟨b,n.own.l⟩ },[⟨1,n.me,to,b,Tn,n.own.l⟩],[]⟩;refine .one (base { synced n with own:=⟨b,n.own.l⟩ } rfl t1 t2 rfl rfl rfl rfl rfl fun r e=>rr { synced n with own:=⟨b,n.own.l⟩ } rfl rfl r (r3 r e)) hu ⟨fun _=>?_,fun e=>(by cases e),fun e=>(by cases e),fun e=>(by cases e),fun e=>(by cases e)⟩;show PF g' M' (((n.me:Nat):Int)).toNat b n.own.l;rw[Int.toNat_natCast,Hy];exact pf
 | MG a to v=>
  obtain⟨rfl,h3,h4⟩:=hPR;show HR S g' M' i ⟨{ synced n with own:=⟨v.b,JM n.own.l v⟩ },[⟨3,n.me,to,Jp,v,[]⟩],[]⟩;refine .one (base { synced n with own:=⟨v.b,JM n.own.l v⟩ } rfl t1 t2 rfl rfl rfl rfl rfl fun r e=>rr { synced n with own:=⟨v.b,JM n.own.l v⟩ } rfl rfl r (r3 r e)) hu ⟨fun e=>(by cases e),fun e=>(by cases e),fun _=>?_,fun e=>(by cases e),fun e=>(by cases e)⟩;show g'.V (((n.me:Nat):Int)).toNat v.b v.slot v.cm;rw[Int.toNat_natCast,Hy];exact hvt _ _ _ rfl
 | own a vs cur=>
  obtain⟨b,rfl,rfl,h3,h4⟩:=hPR;show HR S g' M' i ⟨{ synced n with own:=⟨b,n.own.l⟩,Zi:=if cur=true then (synced n).Zi.map (fun r=>{ r with prom:=ins r.prom (synced n).me n.own.l }) else (synced n).Zi },[],[]⟩;refine .same (base { synced n with own:=⟨b,n.own.l⟩,Zi:=if cur=true then (synced n).Zi.map (fun r=>{ r with prom:=ins r.prom (synced n).me n.own.l }) else (synced n).Zi } rfl t1 t2 rfl rfl rfl rfl rfl fun r e=>?_) hu
  cases hc:cur with
  | false=>
   have e:n.Zi=some r:=by
    have e:(if cur=true then (synced n).Zi.map (fun r=>{ r with prom:=ins r.prom (synced n).me n.own.l }) else (synced n).Zi)=some r:=e;rw[hc]at e;exact e
   refine rr ?m ?a ?b r (r3 r e)
   ·rfl
   ·rfl
  | true=>
   obtain⟨r0,hr0,kQ⟩:=h4 hc;have e:(if cur=true then (synced n).Zi.map (fun r=>{ r with prom:=ins r.prom (synced n).me n.own.l }) else (synced n).Zi)=some r:=e;rw[hc,if_pos rfl,show (synced n).Zi=n.Zi from rfl,hr0]at e;obtain rfl:=Option.some.inj e;have R:=r3 r0 hr0;have R2:RR g' M' i n { r0 with prom:=ins r0.prom ((n.me:Nat):Int) n.own.l }:=by
    refine⟨R.node,R.may,fun j vs q=>?_,R.pn,R.pr,R.safe,R.free,R.Xy⟩;have q:Yu (ins r0.prom ((n.me:Nat):Int) n.own.l) j=some vs:=q;rw[JE]at q;split at q
    ·rename_i qq
     cases q
     rw[←qq,Int.toNat_natCast,Hy];have:PF g' M' i b n.own.l:=pf;rw[←kQ]at this;exact this
    ·exact R.prom j vs q
   exact⟨R2.node,R2.may,R2.prom,R2.pn,R2.pr,R2.safe,R2.free,R2.Xy⟩
theorem yO (hi:i<5) (G:GI S g M) {C:List Cm}:∀(k:List Y7) (n:Nd),NR S g M i n→n.up=true→n.ZB=none→J4 C i n→(∀l∈k,J2 C l∧LR S g M l) →
  HR S g M i (drain n k)∧J4 C i (drain n k).n∧(∀l∈(drain n k).n.inbox,LR S g M l):=by
 intro k
 induction k with
 | nil=>
  intro n N hu hp NI _;unfold drain;exact⟨.same (N.box []) hu,{ NI with },fun l hl=>by cases hl⟩
 | cons l k ih=>
  intro n N hu hp NI hk;unfold drain;rw[if_neg (by rw[hp];decide)];have H:=sO hi G (N.box k) hu hp (NI.inbox k) (hk l (by simp)).1 (hk l (by simp)).2;have I:=(Iw hi (NI.inbox k) (hk l (by simp)).1).nd;obtain⟨m,hm⟩:=Zy ((handle { n with inbox:=k } l).n);have Hn:=H.n;have Hu:=H.up;rw[←hm]at Hn Hu I;rw[←hm];by_cases hpm:m.ZB=none
  ·obtain⟨h1,h2,h3⟩:=ih m Hn Hu hpm I (fun x hx=>hk x (by simp[hx]));refine⟨⟨h1.n,h1.up,fun x hx=>?_⟩,h2,h3⟩;rcases List.mem_append.1 hx with hx|hx
   ·exact H.ls x hx
   ·exact h1.ls x hx
  ·have hs:m.ZB.isSome=true:=by
    cases q:m.ZB with
    | none=>exact (hpm q).elim
    | some _=>rfl
   have key:(drain m k).n = { m with inbox:=k }∧(drain m k).ls=[]:=by
    cases k with
    | nil=>unfold drain;exact⟨rfl,rfl⟩
    | cons a k=>unfold drain;rw[if_pos hs];exact⟨rfl,rfl⟩
   rw[key.1,key.2];refine⟨⟨Hn.box k,Hu,fun x hx=>?_⟩,I.inbox k,fun x hx=>(hk x (by
    have hx:x∈k:=hx;simp[hx])).2⟩
   rcases List.mem_append.1 hx with hx|hx
   ·exact H.ls x hx
   ·cases hx
end
structure TS (S:Cm→Prop) (g:Gh) (M:Nat→YE) (i:Nat) (o:Out) (g':Gh) (M':Nat→YE):Prop where
 e:Ext i g M g' M'
 gi:GI S g' M'
 n:NR S g' M' i o.n
 ls:∀l∈o.ls,LR S g' M' l
 PC:∀l∈o.n.inbox,LR S g' M' l
section
variable {S:Cm→Prop} {g:Gh} {M:Nat→YE} {i:Nat} {n:Nd}
theorem TS.still (G:GI S g M) (N:NR S g M i n) (hb:∀l∈n.inbox,LR S g M l):TS S g M i ⟨n,[],[]⟩ g M:=⟨Ext.refl _ _ _,G,N,(fun l hl=>by cases hl),hb⟩
theorem Zc2 (hi:i<5) (G:GI S g M) (N:NR S g M i n) {C:List Cm} (hC:C.length≤100000) (NI:J4 C i n) (hk:∀l∈n.inbox,J2 C l∧LR S g M l):∃g' M',TS S g M i (step n) g' M':=by
 unfold step;split
 ·rename_i hu;split
  ·rename_i p hp;obtain⟨g',M',E,G',H⟩:=sX hi G N hu NI.me hp;have xd:=(CY hi (CX NI) (NI.ZB p hp)).2.2.1;refine⟨g',M',E,G',H.n,H.ls,fun l hl=>?_⟩;rw[xd]at hl;exact (hk l hl).2.ext E
  ·rename_i hp;obtain⟨H,I,B⟩:=yO hi G n.inbox n N hu hp NI hk;split
   ·exact⟨g,M,Ext.refl _ _ _,G,H.n,H.ls,B⟩
   ·rename_i OS;have Zrc:(drain n n.inbox).n.ZB=none:=by
     cases q:(drain n n.inbox).n.ZB with
     | none=>rfl
     | some _=>rw[q]at OS;exact (OS rfl).elim
    obtain⟨g',M',E,G',D⟩:=Zc0 hi G H.n H.up Zrc I;have xd:=(rU hi hC I).2.2.1;refine⟨g',M',E,G',D.n,fun l hl=>?_,fun l hl=>?_⟩
    ·rcases List.mem_append.1 hl with hl|hl
     ·exact (H.ls l hl).ext E
     ·exact D.ls l hl
    ·have hl:l∈(Ws (drain n n.inbox).n).n.inbox:=hl;rw[xd]at hl;exact (B l hl).ext E
 ·exact⟨g,M,.still G N fun l hl=>(hk l hl).2⟩
theorem Zc3 (hi:i<5) (G:GI S g M) (N:NR S g M i n) {C:List Cm} (NI:J4 C i n):NR S g M i (lead n):=by
 unfold lead;split
 ·exact N
 ·rename_i q;have hu:n.up=true:=by
   cases e:n.up with
   | true=>rfl
   | false=>exact (q (.inl e)).elim
  have eA:=Qp hu;have hM:=N.m;rw[eA]at hM;have hr:¬65536<(XE n).r:=fun e=>q (.inr e);have ZDv:=NI.own.jT.1;have hrr:n.own.p.r<(XE n).r∧1≤(XE n).r:=by
   unfold XE;simp only;split<;>omega
  have yZ:∀s x,¬g.P (XE n) s x:=fun s x h=>by
   have:=G.own _ _ _ h;rw[show (XE n).n=((n.me:Nat):Int) from rfl,Int.toNat_natCast,NI.me,hM]at this;exact this (.inl hrr.1)
  have WC:(XE n).n=i:=by rw[show (XE n).n=((n.me:Nat):Int) from rfl,NI.me]
  refine⟨N.acc,N.m,⟨fun h1 h2=>N.tape.idle h1 ?_,fun h1 p hp=>?_,fun h=>?_,N.tape.len⟩,fun p hp=>?_,N.known,N.log,N.BI,fun r e=>?_⟩
  ·have h2:Xk n.ZB=none:=h2
   cases e:n.ZB with
   | none=>rfl
   | some p=>rw[e]at h2;cases p<;>cases h2
  ·have hp:Xk n.ZB=some p:=hp
   cases e:n.ZB with
   | none=>rw[e]at hp;cases hp
   | some p0=>
    obtain⟨d,f,t1,t2,t3,t4⟩:=N.tape.busy hu p0 e;refine⟨d,f,t1,t2,t3,?_⟩;have:IB p=IB p0:=by
     rw[e]at hp
     cases p0<;>cases hp<;>rfl
    rw[this];exact t4
  ·have h:n.up=false:=h;rw[hu]at h;cases h
  ·have hp:Xk n.ZB=some p:=hp
   cases e:n.ZB with
   | none=>rw[e]at hp;cases hp
   | some p0=>
    have P:=N.ZB p0 e;rw[e]at hp
    cases p0 with
    | Lb a to b vs=>cases hp;exact P
    | MG a to v=>cases hp;exact P
    | own a vs cur=>
     cases hp
     obtain⟨b,h1,h2,h3,_⟩:=P;exact⟨b,h1,h2,h3,fun h=>by cases h⟩
  ·obtain rfl:=Option.some.inj e;exact⟨WC,⟨⟨hrr.2,by show (XE n).r≤65536;omega⟩,by show 0≤(XE n).n∧(XE n).n≤4;rw[WC];omega⟩,fun j vs h=>(by cases h),fun _ s x=>yZ s x,fun s x h=>(yZ s x h).elim,fun s x h=>(by cases h),fun h=>(by cases h),fun s K j h=>by cases h⟩
theorem LG {A:QI} {up:Bool} {d:List Nat} {z:Int} (Qb:AR g i (QW (blank i up d z A))) (hm:M i=(QW (blank i up d z A)).p) (ht:TR (blank i up d z A)):NR S g M i (blank i up d z A):=
 ⟨Qb,hm,ht,fun p e=>(by cases e),fun s x e=>(by cases e),fun k x e=>(by simp[blank]at e),fun x e=>(by cases e),fun r e=>by cases e⟩
theorem HE (i:Nat) (n:Nd) (Zd:Int) (hu:n.up=true):∃d z,crashed i n Zd=blank i false d z X2:=by
 unfold crashed;rw[if_pos hu];split
 ·exact⟨_,_,rfl⟩
 ·exact⟨_,_,rfl⟩
theorem ki (G:GI S g M) (N:NR S g M i n) (hb:∀l∈n.inbox,LR S g M l) {Zd:Int} (hk:0≤Zd):∃g' M',TS S g M i ⟨crashed i n Zd,[],[]⟩ g' M':=by
 cases hu:n.up with
 | false=>
  have:crashed i n Zd=n:=by unfold crashed;rw[if_neg (by rw[hu];decide)]
  rw[this];exact⟨g,M,.still G N hb⟩
 | true=>
  obtain⟨t1,t2,t3⟩:=cJ N.tape hu hk (i:=i);obtain⟨d,z,e⟩:=HE i n Zd hu;rw[e]at t1 t2 t3 ⊢;have eA:=Qp hu;rcases t3 with t3|⟨p,hp,t3⟩
  ·have Qb:=N.acc;have hm:=N.m;rw[eA,←t3]at Qb hm;exact⟨g,M,.still G (LG Qb hm t1) (fun l hl=>by cases hl)⟩
  ·obtain⟨g',M',E,G',A,m',_,_⟩:=sW G N hu hp;rw[←t3]at A m';exact⟨g',M',E,G',LG A m' t1,(fun l hl=>by cases hl),fun l hl=>by cases hl⟩
theorem kj (N:NR S g M i n):NR S g M i (started i n):=by
 cases hu:n.up with
 | true=>
  have:started i n=n:=by unfold started;rw[if_pos hu]
  rw[this];exact N
 | false=>
  obtain⟨t1,t2,t3⟩:=cK N.tape hu (i:=i);have Qb:=N.acc;have hm:=N.m;have e2:=Qp t2;rw[t3]at e2;rw[←e2]at Qb hm;have e:∃d z A,started i n=blank i true d z A:=by
   unfold started;rw[if_neg (by rw[hu];decide)];exact⟨_,_,_,rfl⟩
  obtain⟨d,z,A,e⟩:=e;rw[e]at t1 Qb hm ⊢;exact LG Qb hm t1
end
structure TI (S:Cm→Prop) (g:Gh) (M:Nat→YE) (w:Wd):Prop where
 gi:GI S g M
 nd:∀i,i<5→NR S g M i (w.nodes i)
 LD:∀l∈w.Zn,LR S g M l
 PC:∀i,i<5→∀l∈(w.nodes i).inbox,LR S g M l
section
variable {S:Cm→Prop} {g:Gh} {M:Nat→YE} {w:Wd}
theorem TI.out (T:TI S g M w) {i:Nat} {o:Out} {g':Gh} {M':Nat→YE} (h:TS S g M i o g' M'):TI S g' M' (w.out i o):=by
 unfold Wd.out;refine⟨h.gi,fun j hj=>?_,fun l hl=>?_,fun j hj l hl=>?_⟩
 ·by_cases e:j=i
  ·subst e;simpa using h.n
  ·simp only[if_neg e];exact (T.nd j hj).ext h.e e
 ·rcases List.mem_append.1 hl with hl|hl
  ·exact (T.LD l hl).ext h.e
  ·exact h.ls l hl
 ·by_cases e:j=i
  ·subst e;simp only[if_true]at hl;exact h.PC l hl
  ·simp only[if_neg e]at hl;exact (T.PC j hj l hl).ext h.e
theorem cQ (T:TI S g M w) {l:Y7} (hl:LR S g M l) (ht:0≤l.to∧l.to<5):TI S g M (UJ w l):=by
 unfold UJ;split
 ·refine⟨T.gi,fun i hi=>?_,T.LD,fun i hi x hx=>?_⟩
  ·unfold Wd.set;by_cases e:i=l.to.toNat
   ·simp only[if_pos e];rw[e];exact (T.nd _ (by omega)).box _
   ·simp only[if_neg e];exact T.nd i hi
  ·unfold Wd.set at hx;by_cases e:i=l.to.toNat
   ·simp only[if_pos e]at hx;rcases List.mem_append.1 hx with hx|hx
    ·exact T.PC _ (by omega) x hx
    ·rw[List.mem_singleton.1 hx];exact hl
   ·simp only[if_neg e]at hx;exact T.PC i hi x hx
 ·exact T
theorem yP:∀(ls:List Y7) (w:Wd),TI S g M w→(∀l∈ls,LR S g M l∧0≤l.to∧l.to<5)→TI S g M (ls.foldl UJ w):=by
 intro ls
 induction ls with
 | nil=>intro w T _;exact T
 | cons l ls ih=>intro w T h;exact ih _ (cQ T (h l (by simp)).1 (h l (by simp)).2) (fun x hx=>h x (by simp[hx]))
theorem TI.Zaw (T:TI S g M w) {fl:List Y7} (h:∀l∈fl,l∈w.Zn):TI S g M { w with Zn:=fl }:=⟨T.gi,T.nd,fun l hl=>T.LD l (h l hl),T.PC⟩
theorem ZhL {C:List Cm} (hC:C.length≤100000) {k:Nat} (W:WI C k w) (T:TI S g M w) (a:Ac) (hi:a.node<5) (hk:0≤a.Zd) (hS:∀now:Nat,a.kind=1→Yx a.data now=0→S (Jq a.data now)) :
  ∃g' M',(∀j b s x,g.V j b s x→g'.V j b s x)∧TI S g' M' (act w a):=by
 have same:∀{v:Wd},TI S g M v→∃g' M',(∀j b s x,g.V j b s x→g'.V j b s x)∧TI S g' M' v:=fun h=>⟨g,M,fun _ _ _ _ h=>h,h⟩
 have N:=T.nd a.node hi;have NI:=W.nd a.node hi;unfold act;split
 ·rename_i hk1;refine same ?_;unfold TK;split
  ·split
   ·exact⟨T.gi,T.nd,T.LD,T.PC⟩
   ·rename_i q;split
    ·exact⟨T.gi,T.nd,T.LD,T.PC⟩
    ·rw[Vk];have hx:=hS _ hk1 (by simpa using q);obtain⟨A,_,_⟩:=Zat N hx;have s1:(add (w.nodes a.node) (Jq a.data (w.nodes a.node).log.length)).inbox=(w.nodes a.node).inbox:=by unfold add;split<;>rfl
     refine T.out ⟨Ext.refl _ _ _,T.gi,?_,(fun l hl=>by cases hl),fun l hl=>?_⟩
     ·unfold OL;simp only;split
      ·exact A
      ·exact⟨A.acc,A.m,⟨A.tape.idle,A.tape.busy,A.tape.down,A.tape.len⟩,fun p e=>(by have:=A.ZB p e;cases p<;>exact this),A.known,A.log,A.BI,fun r e=>by
        have R:=A.Zi r e;exact⟨R.node,R.may,R.prom,R.pn,R.pr,R.safe,R.free,R.Xy⟩⟩
     ·have s2:(OL (add (w.nodes a.node) (Jq a.data (w.nodes a.node).log.length)) (Jq a.data (w.nodes a.node).log.length)).inbox=(w.nodes a.node).inbox:=by
       unfold OL;split<;>exact s1
      exact T.PC _ hi l (by rw[←s2];exact hl)
  ·exact T
 split
 ·refine same ?_;rw[Vk];refine T.out ⟨Ext.refl _ _ _,T.gi,Zc3 hi T.gi N NI,(fun l hl=>by cases hl),fun l hl=>?_⟩;have hl:l∈(lead (w.nodes a.node)).inbox:=hl;rw[(rX NI).2.1]at hl;exact T.PC _ hi l hl
 split
 ·obtain⟨g',M',h⟩:=Zc2 hi T.gi N hC NI (fun l hl=>⟨W.PC _ hi l hl,T.PC _ hi l hl⟩);exact⟨g',M',h.e.v,T.out h⟩
 split
 ·refine same ?_;unfold pick;split
  ·exact T
  ·rename_i l hl;have eI:l∈w.Zn:=List.mem_of_getElem? hl;have T2:=T.Zaw (fl:=w.Zn.eraseIdx (a.at'%w.Zn.length)) (fun x hx=>List.mem_of_mem_eraseIdx hx);have ht:=(W.LD l eI).to;split
   ·split
    ·exact cQ T (T.LD l eI) ht
    ·exact cQ T2 (T.LD l eI) ht
   ·split
    ·exact T
    ·exact T2
 split
 ·exact same (yP _ _ (T.Zaw (fl:=[]) (fun l hl=>by cases hl)) (fun l hl=>⟨T.LD l hl,(W.LD l hl).to⟩))
 split
 ·obtain⟨g',M',h⟩:=ki T.gi N (T.PC _ hi) hk;rw[Vk];exact⟨g',M',h.e.v,T.out h⟩
 ·refine same ?_;rw[Vk];refine T.out ⟨Ext.refl _ _ _,T.gi,kj N,(fun l hl=>by cases hl),fun l hl=>?_⟩;rcases (GL NI (i:=a.node)).2 with⟨q,_⟩|q
  ·have hl:l∈(started a.node (w.nodes a.node)).inbox:=hl;rw[q]at hl;cases hl
  ·have hl:l∈(started a.node (w.nodes a.node)).inbox:=hl;rw[q]at hl;exact T.PC _ hi l hl
def gh0:Gh:=⟨fun _ _ _ _=>False,fun _ _ _=>False⟩
theorem Bi:TI S gh0 (fun _=>Jp) Wu:=by
 refine⟨⟨fun _ _ _ _ h=>h.elim,fun _ _ _ _ h=>h.elim,fun _ _ _ _ h=>h.elim,fun _ _ _ h=>h.elim,fun _ _ _ h=>h.elim,fun _ _ _ h=>h.elim,fun _ _ _ h=>h.elim⟩,fun i hi=>?_,(fun l hl=>by cases hl),fun i hi l hl=>by cases hl⟩;exact LG ⟨fun v hv=>(by cases hv),fun _ _ _ h=>h.elim⟩ rfl (sJ i)
def sY (S:Cm→Prop) (C:List Cm) (a:Ac):Prop:=(a.node<5∧Rl a.data∈C)∧0≤a.Zd∧∀now:Nat,a.kind=1→Yx a.data now=0→S (Jq a.data now)
theorem sZ {C:List Cm} (hC:C.length≤100000):∀(l:List Ac) (k:Nat) (w:Wd) (g:Gh) (M:Nat→YE),WI C k w→TI S g M w→(∀a∈l,sY S C a) →
  ∃g' M',(∀j b s x,g.V j b s x→g'.V j b s x)∧TI S g' M' (l.foldl act w)∧WI C (k+l.length) (l.foldl act w):=by
 intro l
 induction l with
 | nil=>intro k w g M W T _;exact⟨g,M,fun _ _ _ _ h=>h,T,W⟩
 | cons a l ih=>
  intro k w g M W T hl;obtain⟨h1,h2,h3⟩:=hl a (by simp);obtain⟨g1,M1,v1,T1⟩:=ZhL hC W T a h1.1 h2 h3;obtain⟨g2,M2,v2,T2,W2⟩:=ih (k+1) (act w a) g1 M1 (Zao hC W a h1.1 h1.2) T1 (fun x hx=>hl x (by simp[hx]));refine⟨g2,M2,fun _ _ _ _ h=>v2 _ _ _ _ (v1 _ _ _ _ h),T2,?_⟩;rw[List.length_cons,show k+(l.length+1)=k+1+l.length by omega];exact W2
theorem ID {C:List Cm} (hC:C.length≤100000) (l:List Ac) (hl:∀a∈l,sY S C a) (p q:Nat) (rI:p≤q) (i j:Nat) (hi:i<5) (hj:j<5) (s:Nat) (x y:Cm)
  (hx:((WL (l.take p)).nodes i).log[s]? = some x) (hy:((WL (l.take q)).nodes j).log[s]? = some y):x=y:=by
 obtain⟨g1,M1,_,T1,W1⟩:=sZ hC (l.take p) 0 Wu gh0 (fun _=>Jp) (OX C) Bi (fun a ha=>hl a (List.mem_of_mem_take ha));have e:l.take q=l.take p++(l.take q).drop p:=by
  have:=(List.take_append_drop p (l.take q)).symm
  rwa [List.take_take,Nat.min_eq_left rI]at this
 obtain⟨g2,M2,v2,T2,_⟩:=sZ hC ((l.take q).drop p) _ (WL (l.take p)) g1 M1 W1 T1 (fun a ha=>hl a (List.mem_of_mem_take (List.mem_of_mem_drop ha)));have e2:WL (l.take q)=((l.take q).drop p).foldl act (WL (l.take p)):=by
  conv=>lhs;rw[e]
  unfold WL;rw[List.foldl_append]
 rw[←e2]at T2;have c1:=(T1.nd i hi).log s x hx;have c2:=(T2.nd j hj).log s y hy;obtain⟨Q,b,hQ,hv⟩:=c1;exact JV.one T2.gi ⟨Q,b,hQ,fun k hk=>v2 _ _ _ _ (hv k hk)⟩ c2
theorem td {C:List Cm} (hC:C.length≤100000) (l:List Ac) (hl:∀a∈l,sY S C a) (i:Nat) (hi:i<5) (x:Cm) (hx:x∈((WL l).nodes i).log):x=BD∨S x:=by
 obtain⟨g1,M1,_,T1,W1⟩:=sZ hC l 0 Wu gh0 (fun _=>Jp) (OX C) Bi hl;obtain⟨s,hs,rfl⟩:=List.mem_iff_getElem.1 hx;have c1:=(T1.nd i hi).log s _ (List.getElem?_eq_getElem hs);obtain⟨b,hb⟩:=c1.prop T1.gi;exact T1.gi.cmd _ _ _ hb
end
set_option maxRecDepth 100000
theorem ko (g:Gr):(Ti g).length≤63:=by
 unfold Ti ZcW;split
 ·unfold jj;have:=qo (UA (BH g).c.toNat) (Qr g.a 1000).toNat (qk (j0 g) (j1 g) 60 (BH g).k (BH g).c (BH g).s (BH g).n (BH g).v);have e:(qk (j0 g) (j1 g) 60 (BH g).k (BH g).c (BH g).s (BH g).n (BH g).v).length=42:=by
   unfold qk;rw[List.length_append,MB,ZC];rfl
  rw[List.length_cons];omega
 ·simp
theorem kq (g:Gr):(SE g).length≤63:=by
 have:=ko g;unfold SE;split
 ·rw[List.length_take];omega
 ·exact this
theorem th (g:Gr) (cr:Bool):(VH g cr).err=0:=by
 have h1:=U8 g.a (m:=5) (by omega);have h2:=U8 g.c (m:=20) (by omega);have h3:=U8 g.c (m:=90) (by omega);have h4:=kq g;have mk:∀(k n a b:Int) (len:Nat),(1≤k∧k≤9)→(YX k∧(0≤n∧n≤4)∨¬YX k∧n=0)→(JF k∧(0≤a∧a≤1048576)∨¬JF k∧a=0)→(k=8∧(0≤b∧b≤100000)∨k≠8∧b=0)→len≤2000→(k=1∨len=0)→QP k n a b len=0:=fun k n a b len q1 q2 q3 q4 q5 q6=>by
  unfold YX at q2;unfold JF at q3;unfold QP YX JF;rw[if_neg (by omega),if_neg (by omega),if_neg (by omega),if_neg (by omega)]
 unfold VH
 repeat' split
 all_goals
  unfold Raw.err;refine mk _ _ _ _ _ ?_ ?_ ?_ ?_ ?_ ?_
 all_goals simp[YX,JF]
 all_goals omega
theorem ti (gs:List Gr) (cr:Bool):∀j,∀x∈(SG gs cr j).2,x.err=0:=by
 have key:∀(l:List Gr) (st:Nat × List Raw),(∀x∈st.2,x.err=0)→∀x∈(l.foldl (Ra cr) st).2,x.err=0:=by
  intro l
  induction l with
  | nil=>intro st h;exact h
  | cons g l ih=>
   intro st h;refine ih _ (fun x hx=>?_);unfold Ra at hx;rcases List.mem_append.1 hx with hx|hx
   ·exact h x hx
   ·rw[List.mem_singleton.1 hx];unfold SF;split
    ·rfl
    ·exact th g cr
 intro j;exact key _ _ (fun x hx=>by cases hx)
theorem yQ (gs:List Gr) (Xv:Nat) (cr:Bool):∀x∈scr gs Xv cr,x.err=0:=ti gs cr Xv
theorem yR (gs:List Gr) (Xv:Nat) (cr:Bool):(scr gs Xv cr).length≤Xv:=by
 unfold scr;by_cases h:Xv≤gs.length
 ·rw[(OY gs cr Xv h).1];exact Nat.le_refl _
 ·rw[Bb gs cr Xv (by omega),(OY gs cr gs.length (Nat.le_refl _)).1];omega
theorem Bj {l:List Raw} (h:∀x∈l,x.err=0) (hl:l.length≤100000):VG l=0:=by
 unfold VG;rw[if_neg (by omega)];exact SD h
theorem cR {A:List Raw} (hA:∀x∈A,x.err=0) (hl:A.length≤100000) (p q i j:Nat) (hi:i<5) (hj:j<5) (s:Nat) (x y:Cm) (hx:((IA (A.take p)).nodes i).log[s]? = some x) (hy:((IA (A.take q)).nodes j).log[s]? = some y):x=y:=by
 obtain⟨jZ,cE⟩:=Zy (A.map Raw.ac);obtain⟨C,hC⟩:∃C,C=A.map fun x=>Rl x.data:=⟨_,rfl⟩
 have BC:C.length≤100000:=by rw[hC,List.length_map];exact hl
 have ok:∀a∈jZ,sY (fun _=>True) C a:=fun a ha=>by
  rw[cE]at ha;obtain⟨z,hz,rfl⟩:=List.mem_map.1 ha;obtain⟨_,q2,_,q4,_⟩:=Iz (hA z hz);refine⟨⟨by unfold Raw.ac;simp only;omega,?_⟩,q4.1,fun _ _ _=>trivial⟩;rw[hC];exact List.mem_map.2 ⟨z,hz,rfl⟩
 have e:∀p,IA (A.take p)=WL (jZ.take p):=fun p=>by unfold IA;rw[List.map_take,cE]
 rw[e]at hx hy;rcases Nat.le_total p q with h|h
 ·exact ID BC jZ ok p q h i j hi hj s x y hx hy
 ·exact (ID BC jZ ok q p h j i hj hi s y x hy hx).symm
theorem yS {A:List Raw} (hA:∀x∈A,x.err=0) (hl:A.length≤100000) (i:Nat) (hi:i<5):((IA A).nodes i).log.length≤40:=by
 obtain⟨C,hC⟩:∃C,C=A.map fun x=>Rl x.data:=⟨_,rfl⟩
 have BC:C.length≤100000:=by rw[hC,List.length_map];exact hl
 have:=sr BC (A.map Raw.ac) 0 Wu (OX C) (fun a ha=>by
  obtain⟨z,hz,rfl⟩:=List.mem_map.1 ha;obtain⟨_,q2,_,_,_⟩:=Iz (hA z hz);refine⟨by unfold Raw.ac;simp only;omega,?_⟩;rw[hC];exact List.mem_map.2 ⟨z,hz,rfl⟩)
 exact (this.nd i hi).Eh
def XY (h0:Hp) (o:Ow) (g:Hp) (v:Value) (l:List Raw):Prop:=
 Kp (fun t=>t=.log 100) RD h0 o g∧∃ys,Y4 ys=l∧YG o (.log 100) 58 5 g v ys.length (Zz J6 ys)∧∀y∈ys,To o g y.2 y.1.data
theorem XY.nil (h0:Hp):XY h0 RD h0 (.slice none 0 0) []:=⟨Kp.refl (NP h0) _,[],rfl,YG.nil _ _ _ _ _,fun y hy=>by cases hy⟩
theorem XY.isSlice {h0:Hp} {o:Ow} {g:Hp} {v:Value} {l:List Raw} (A:XY h0 o g v l):∃p c,v=.slice p l.length c∧l.length≤c:=by
 obtain⟨_,ys,hr,O,_⟩:=A;obtain⟨p,c,h,hc⟩:=O.isSlice;have:ys.length=l.length:=by rw[←hr];unfold Y4;simp
 rw[this]at h hc;exact⟨p,c,h,hc⟩
theorem XY.done {h0:Hp} {o:Ow} {g:Hp} {v:Value} {l:List Raw} (A:XY h0 o g v l):Zg h0.size h0 g∧Tu v∧∃ys,Y4 ys=l∧Ts J6 5 g v ys∧∀y∈ys,To RD g y.2 y.1.data:=by
 obtain⟨p,c,hv,hc⟩:=A.isSlice;obtain⟨K,ys,hr,O,I⟩:=A;exact⟨Px K,by rw[hv];exact hc,ys,hr,⟨O.sl⟩,fun y hy=>⟨⟨(I y hy).1.sl,(I y hy).1.fits,fun b hb=>⟨((I y hy).1.free b hb).1,rfl⟩⟩,(I y hy).2⟩⟩
theorem tj:∀(xs:List (Raw × Value)),(∀x∈xs,∃p n c,x.2=.slice p n c)→(Zz J6 xs).all Z6=true:=by
 intro xs
 induction xs with
 | nil=>intro _;rfl
 | cons x xs ih=>
  intro h;obtain⟨p,n,c,e⟩:=h x (by simp);have h2:=ih (fun y hy=>h y (by simp[hy]));rw[show Zz J6 (x :: xs)=J6 x++Zz J6 xs from rfl,List.all_append,h2];unfold J6;rw[e];rfl
section
variable {T:World} {K:Value→Hp→Prop} {ty:TypeId} {cb:Array Bool}
theorem XY.Sj {h0:Hp} {o:Ow} {g:Hp} {v:Value} {l:List Raw} (A:XY h0 o g v l) (hl:l.length≤1000000000) (X:Raw) (q:Option Addr) (cq:Nat) (im:To o g (.slice q X.data.length cq) X.data)
  (H:∀v' o' g',XY h0 o' g' v' (l++[X])→Kp VE o g o' g'→K v' g'):T6 Tryz.prog T .append #[31,31] ty cb [v,.slice (some ⟨g.size,0,none⟩) 1 1] K (g.push (.cells #[.int .i64 X.k,.int .i64 X.n,.int .i64 X.a,.int .i64 X.b,.slice q X.data.length cq] 58)):=by
 obtain⟨K1,ys,hr,O,I⟩:=A;have yl:ys.length=l.length:=by rw[←hr];unfold Y4;simp
 obtain⟨g6,Rk⟩:=Zy (g.push (.cells (Th X.k X.n X.a X.b (.slice q X.data.length cq)).toArray 58):Hp);have k6:Kp QL o g o g6:=by rw[Rk];exact ZY K1.ZX _
 have x6:g6[g.size]? = some (.cells (Th X.k X.n X.a X.b (.slice q X.data.length cq)).toArray 58):=by rw[Rk];exact Zb
 have src:Sl 5 g6 (.slice (some ⟨g.size,0,none⟩) 1 1) 1 (Th X.k X.n X.a X.b (.slice q X.data.length cq)):=⟨_,1,rfl,rfl,fun _=>⟨g.size,0,rfl,fun i hi=>by
  rw[Zh x6,Yj,Nat.zero_add];exact List.getElem?_eq_getElem hi⟩⟩
 have O6:=O.Zd k6 (fun q=>q);show T6 Tryz.prog T .append #[31,31] ty cb [v,.slice (some ⟨g.size,0,none⟩) 1 1] K (g.push (.cells (Th X.k X.n X.a X.b (.slice q X.data.length cq)).toArray 58));rw[←Rk];refine Ja (E:=58) (n:=5) (bytes:=56) (k:=1) nU Tryz.underlying31 Zbf Zbh rfl Zbg O6 k6.ZX src rfl (by omega) (by omega) ?_;intro v7 o7 g7 O7 k7 _;have k7:Kp (fun u=>u=.log 100) o g6 o7 g7:=k7;refine H v7 o7 g7 ⟨(K1.trans (ZF k6)).trans k7,ys++[(X,.slice q X.data.length cq)],?_,?_,fun y hy=>?_⟩ (Ye ((ZF k6).trans k7))
 ·rw[←hr];unfold Y4;simp only[List.map_append,List.map_cons,List.map_nil]
 ·have e:Zz J6 (ys++[(X,Value.slice q X.data.length cq)])=Zz J6 ys++Th X.k X.n X.a X.b (.slice q X.data.length cq):=by rw[Yh,Ur];rfl
  rw[e,List.length_append];exact O7
 ·rcases List.mem_append.1 hy with hy|hy
  ·exact ((I y hy).Zd k6).Zd k7
  ·rw[List.mem_singleton.1 hy];exact (im.Zd k6).Zd k7
theorem XY.add {h0:Hp} {o:Ow} {g:Hp} {v:Value} {l:List Raw} (A:XY h0 o g v l) (hl:l.length≤1000000000) (k n a b:Int)
  (H:∀v' o' g',XY h0 o' g' v' (l++[⟨k,n,a,b,[]⟩])→K v' g'):T6 Tryz.prog T .append #[31,31] ty cb [v,.slice (some ⟨g.size,0,none⟩) 1 1] K (g.push (.cells #[.int .i64 k,.int .i64 n,.int .i64 a,.int .i64 b,.slice none 0 0] 58)):=
 A.Sj hl ⟨k,n,a,b,[]⟩ none 0 ⟨Im.nil _ 1 _ none,fun x hx=>by cases hx⟩ (fun v' o' g' A' _=>H v' o' g' A')
theorem XY.Zc4 {h0:Hp} {o:Ow} {g:Hp} {v:Value} {l:List Raw} (A:XY h0 o g v l) (hl:l.length≤1000000000) {u:Value} {xs:List (Raw × Value)} (hu:Ts J6 5 g u xs) (hx:∀x∈xs,To RD h0 x.2 x.1.data) (Ex:xs.length≤1000000000)
  (H:∀v' o' g',XY h0 o' g' v' (l++Y4 xs)→K v' g'):T6 Tryz.prog T .append #[31,31] ty cb [v,u] K g:=by
 obtain⟨K1,ys,hr,O,I⟩:=A;have yl:ys.length=l.length:=by rw[←hr];unfold Y4;simp
 refine Ja (E:=58) (n:=5) (bytes:=56) (k:=xs.length) nU Tryz.underlying31 Zbf Zbh rfl Zbg O K1.ZX hu.sl ?_ (by omega) (by omega) ?_
 ·exact tj xs (fun x hxm=>by
   obtain⟨p,c,e⟩:=(hx x hxm).1.isSlice;exact⟨p,_,c,e⟩)
 intro v7 o7 g7 O7 k7 _;have k7:Kp (fun u=>u=.log 100) o g o7 g7:=k7;refine H v7 o7 g7 ⟨K1.trans k7,ys++xs,?_,?_,fun y hy=>?_⟩
 ·rw[←hr];unfold Y4;rw[List.map_append]
 ·rw[Yh,List.length_append];exact O7
 ·rcases List.mem_append.1 hy with hy|hy
  ·exact (I y hy).Zd k7
  ·exact (hx y hy).Zd (K1.trans k7)
end
def Ug (n m:Nd):Prop:=m.up=n.up∧m.me=n.me∧∃e,m.log=n.log++e
theorem Ug.refl (n:Nd):Ug n n:=⟨rfl,rfl,[],by simp⟩
theorem Ug.trans {a b c:Nd} (h1:Ug a b) (h2:Ug b c):Ug a c:=by
 obtain⟨u1,m1,e1,l1⟩:=h1;obtain⟨u2,m2,e2,l2⟩:=h2;exact⟨by rw[u2,u1],by rw[m2,m1],e1++e2,by rw[l2,l1,List.append_assoc]⟩
theorem Ug.same {n m:Nd} (h1:m.up=n.up) (h2:m.me=n.me) (h3:m.log=n.log):Ug n m:=⟨h1,h2,[],by rw[h3];simp⟩
theorem Em:∀(k:Nat) (n:Nd),Ug n (Yz k n).1:=by
 intro k
 induction k with
 | zero=>intro n;exact .refl n
 | succ k ih=>
  intro n;unfold Yz;split
  ·exact .refl n
  ·rename_i x _;exact Ug.trans (b:=UL n x) ⟨rfl,rfl,[x],rfl⟩ (ih _)
theorem IE (n:Nd) (s:Int) (x:Cm):Ug n (UC n s x).n:=by
 unfold UC;exact Ug.trans (b:=QS n s x) (.same rfl rfl rfl) (Em _ _)
theorem Py (n:Nd) (l:Y7):Ug n (notes n l):=by
 unfold notes;split
 ·exact .same rfl rfl rfl
 ·exact .refl n
theorem tp (n:Nd) (x:Cm):Ug n (add n x):=by
 unfold add;split
 ·exact .refl n
 ·exact .same rfl rfl rfl
theorem Bk (n:Nd) (l:Y7):Ug n (handle n l).n:=by
 unfold handle;split
 ·unfold YW
  repeat' split
  all_goals exact .same rfl rfl rfl
 split
 ·unfold YB;split
  ·exact .refl n
  ·rename_i r _;split
   ·split
    ·exact .same rfl rfl rfl
    ·exact .refl n
   ·split
    ·exact .refl n
    ·split
     ·exact Ug.trans (b:=NF n r l) (.same rfl rfl rfl) (IE _ _ _)
     ·exact .same rfl rfl rfl
 split
 ·unfold asked
  repeat' split
  all_goals exact .same rfl rfl rfl
 split
 ·exact tp n _
 split
 ·unfold Wq;split
  ·exact Py n l
  ·exact Py n l
 split
 ·exact IE n _ _
 ·exact Py n l
theorem IF:∀(k:List Y7) (n:Nd),Ug n (drain n k).n:=by
 intro k
 induction k with
 | nil=>intro n;unfold drain;exact .same rfl rfl rfl
 | cons l k ih=>
  intro n;unfold drain;split
  ·exact .same rfl rfl rfl
  ·exact Ug.trans (b:={ n with inbox:=k }) (.same rfl rfl rfl) (Ug.trans (Bk _ l) (ih _))
theorem kr (n:Nd) (r:Jw):Ug n (QJ n r).n:=by
 unfold QJ;split
 ·split
  ·exact .refl n
  ·exact .same rfl rfl rfl
 ·split
  ·exact .refl n
  ·exact .same rfl rfl rfl
theorem cU (n:Nd):Ug n (still n):=by
 unfold still;split
 ·split
  ·exact .same rfl rfl rfl
  ·exact .refl n
 ·exact .refl n
theorem cV (n:Nd):Ug n (YC n).n:=by
 unfold YC;split
 ·exact kr _ _
 ·split
  ·exact .refl n
  ·exact .refl n
theorem ku (n:Nd):Ug n (Ws n).n:=by
 have h:=Ug.trans (cU n) (cV (still n));unfold Ws;split
 ·exact h
 ·exact h.trans (.same rfl rfl rfl)
theorem Bl (n:Nd) (p:Cv):Ug n (finish (synced n) p).n:=by
 cases p<;>exact .same rfl rfl rfl
theorem kv (n:Nd):Ug n (step n).n:=by
 unfold step;split
 ·split
  ·exact Bl n _
  ·split
   ·exact IF _ n
   ·exact (IF _ n).trans (ku _)
 ·exact .refl n
def Still (n m:Nd):Prop:=m.up=n.up∧m.me=n.me∧m.log=n.log
theorem Still.refl (n:Nd):Still n n:=⟨rfl,rfl,rfl⟩
theorem Still.trans {a b c:Nd} (h1:Still a b) (h2:Still b c):Still a c:=⟨by rw[h2.1,h1.1],by rw[h2.2.1,h1.2.1],by rw[h2.2.2,h1.2.2]⟩
theorem Pz (w:Wd) (l:Y7) (i:Nat):Still (w.nodes i) ((UJ w l).nodes i):=by
 unfold UJ;split
 ·unfold Wd.set;by_cases e:i=l.to.toNat
  ·simp only[if_pos e];rw[e];exact⟨rfl,rfl,rfl⟩
  ·simp only[if_neg e];exact .refl _
 ·exact .refl _
theorem Bm:∀(ls:List Y7) (w:Wd) (i:Nat),Still (w.nodes i) ((ls.foldl UJ w).nodes i):=by
 intro ls
 induction ls with
 | nil=>intro w i;exact .refl _
 | cons l ls ih=>intro w i;exact Still.trans (Pz w l i) (ih _ i)
theorem SI (w:Wd) (k:Nat) (n:Nd) (i:Nat):((w.set k n).nodes i)=if i=k then n else w.nodes i:=rfl
theorem tq (w:Wd) (k:Nat) (o:Out) (i:Nat):((w.out k o).nodes i)=if i=k then o.n else w.nodes i:=rfl
theorem En (w:Wd) (k:Nat) (data:List Nat) (i:Nat):Still (w.nodes i) ((TK w k data).nodes i):=by
 unfold TK;split
 ·split
  ·exact .refl _
  ·split
   ·exact .refl _
   ·rw[SI];by_cases e:i=k
    ·rw[if_pos e,e];unfold OL add
     repeat' split
     all_goals exact⟨rfl,rfl,rfl⟩
    ·rw[if_neg e];exact .refl _
 ·exact .refl _
theorem cW (w:Wd) (k:Nat) (c s:Bool) (i:Nat):Still (w.nodes i) ((pick w k c s).nodes i):=by
 unfold pick;split
 ·exact .refl _
 ·split
  ·split
   ·exact Pz _ _ _
   ·exact Pz { w with Zn:=_ } _ _
  ·split
   ·exact .refl _
   ·exact .refl _
theorem tC (w:Wd) (a:Ac) (i:Nat) :
  (a.kind=8∧a.node=i∧(act w a).nodes i=crashed i (w.nodes i) a.Zd) ∨
  (¬(1≤a.kind∧a.kind≤8)∧a.node=i∧(act w a).nodes i=started i (w.nodes i)) ∨
  (a.kind=3∧a.node=i∧(w.nodes i).up=true∧Ug (w.nodes i) ((act w a).nodes i)) ∨
  Still (w.nodes i) ((act w a).nodes i):=by
 unfold act;split
 ·exact .inr (.inr (.inr (En _ _ _ _)))
 split
 ·refine .inr (.inr (.inr ?_));rw[SI];by_cases e:i=a.node
  ·rw[if_pos e,e];unfold lead;split
   ·exact .refl _
   ·exact⟨rfl,rfl,rfl⟩
  ·rw[if_neg e];exact .refl _
 split
 ·rename_i k;rw[tq];by_cases e:i=a.node
  ·rw[if_pos e,e]
   cases hu:(w.nodes a.node).up with
   | true=>exact .inr (.inr (.inl ⟨k,rfl,rfl,kv _⟩))
   | false=>
    have:(step (w.nodes a.node)).n=w.nodes a.node:=by unfold step;rw[if_neg (by rw[hu];decide)]
    rw[this];exact .inr (.inr (.inr (.refl _)))
  ·rw[if_neg e];exact .inr (.inr (.inr (.refl _)))
 split
 ·exact .inr (.inr (.inr (cW _ _ _ _ _)))
 split
 ·exact .inr (.inr (.inr (Bm w.Zn { w with Zn:=[] } i)))
 split
 ·rename_i k;rw[SI];by_cases e:i=a.node
  ·rw[if_pos e,e];exact .inl ⟨k,rfl,rfl⟩
  ·rw[if_neg e];exact .inr (.inr (.inr (.refl _)))
 ·rename_i k1 k2 k3 k4 k5 k6;rw[SI];by_cases e:i=a.node
  ·rw[if_pos e,e];exact .inr (.inl ⟨by omega,rfl,rfl⟩)
  ·rw[if_neg e];exact .inr (.inr (.inr (.refl _)))
theorem MS (i:Nat) (n:Nd):(n.up=true∧started i n=n)∨(n.up=false∧(started i n).up=true∧(started i n).log=[]):=by
 unfold started
 cases hu:n.up with
 | true=>exact .inl ⟨rfl,by simp⟩
 | false=>exact .inr ⟨rfl,rfl,rfl⟩
theorem Zc5 (w:Wd) (a:Ac) (i:Nat) (h8:a.kind≠8):((w.nodes i).up=true→((act w a).nodes i).up=true)∧(a.kind=9→a.node=i→((act w a).nodes i).up=true):=by
 rcases tC w a i with⟨k,_,_⟩|⟨k,e,q⟩|⟨k,_,hu,q,_⟩|⟨q,_⟩
 ·exact (h8 k).elim
 ·rw[q];have:(started i (w.nodes i)).up=true:=by
   rcases MS i (w.nodes i) with⟨q1,q⟩|⟨_,q,_⟩
   ·rw[q];exact q1
   ·exact q
  exact⟨fun _=>this,fun _ _=>this⟩
 ·rw[q];exact⟨fun h=>h,fun h=>by omega⟩
 ·rw[q];refine⟨fun h=>h,fun h9 e=>?_⟩;have:(act w a).nodes i=started i (w.nodes i):=by
   unfold act;rw[if_neg (by omega),if_neg (by omega),if_neg (by omega),if_neg (by omega),if_neg (by omega),if_neg (by omega),SI,if_pos e.symm,e]
  rw[←q,this];rcases MS i (w.nodes i) with⟨q1,q⟩|⟨_,q,_⟩
  ·rw[q];exact q1
  ·exact q
theorem Zc6 (i:Nat):∀(l:List Ac) (w:Wd),(∀a∈l,a.kind≠8)→((w.nodes i).up=true∨∃a∈l,a.kind=9∧a.node=i)→((l.foldl act w).nodes i).up=true:=by
 intro l
 induction l with
 | nil=>
  intro w _ h;rcases h with h|⟨a,ha,_⟩
  ·exact h
  ·cases ha
 | cons a l ih=>
  intro w hl h;obtain⟨u1,u2⟩:=Zc5 w a i (hl a (by simp));refine ih _ (fun x hx=>hl x (by simp[hx])) ?_;rcases h with h|⟨b,hb,k,e⟩
  ·exact .inl (u1 h)
  ·rcases List.mem_cons.1 hb with rfl|hb
   ·exact .inl (u2 k e)
   ·exact .inr ⟨b,hb,k,e⟩
def Two (x y:Nat) (k:Int):Prop:=k=x∨k=y
section
variable {x y:Nat} {n:Nd}
end
section
variable {x y:Nat} {w:Wd}
end
theorem cX {tc tr tu k c s n v now Eo:Int} (h:TX tc tr tu k c s n v Eo=0) (h0:0≤now) (hn:now≤Eo):TX tc tr tu k c s n v now=0:=by
 unfold TX at *;by_cases c1:XW tc tr tu≠0
 ·rw[if_pos c1]at h;exact (c1 h).elim
 rw[if_neg c1]at h ⊢;by_cases c2:YH k c s n v≠0
 ·rw[if_pos c2]at h;exact (c2 h).elim
 rw[if_neg c2]at h ⊢;by_cases c3:¬Hm k.toNat tr.toNat∨tc≠c
 ·rw[if_pos c3]at h;cases h
 rw[if_neg c3]at h ⊢;by_cases c4:Eo<0∨tu<Eo
 ·rw[if_pos c4]at h;cases h
 rw[if_neg (by omega)]
structure Zre (rc:List Nat):Prop where
 len:rc.length≠0
 key:Jh (rc.getD 0 0:Nat)=0
 take:UZ (UA (rc.getD 0 0)) 0 0 Jg (rc.drop 1)=0
 plain:(Xt rc).length=42
 prv:JR Vy ((Xt rc).take 22)=0
 dec:Jy ((Xt rc).drop 22)=0
 own:¬(Xn ((Xt rc).drop 22) 0≠0∧Xn ((Xt rc).drop 22) 1≠(rc.getD 0 0:Nat))
theorem Ep (rc:List Nat) (now:Int):Yx rc now=0↔Zre rc∧bt (Xt rc) now=0:=by
 unfold Yx Gv Ct Cs Cr eQ
 constructor
 ·intro h;by_cases c1:rc.length=0
  ·rw[if_pos c1]at h;cases h
  rw[if_neg c1]at h;by_cases c2:Jh (rc.getD 0 0:Nat)≠0
  ·rw[if_pos c2]at h;exact (c2 h).elim
  rw[if_neg c2]at h;by_cases c3:UZ (UA (rc.getD 0 0)) 0 0 Jg (rc.drop 1)≠0
  ·rw[if_pos c3]at h;exact (c3 h).elim
  rw[if_neg c3]at h;by_cases c4:(Xt rc).length≠42
  ·rw[if_pos c4]at h;cases h
  rw[if_neg c4]at h;by_cases c5:JR Vy ((Xt rc).take 22)≠0
  ·rw[if_pos c5]at h;exact (c5 h).elim
  rw[if_neg c5]at h;by_cases c6:Jy ((Xt rc).drop 22)≠0
  ·rw[if_pos c6]at h;exact (c6 h).elim
  rw[if_neg c6]at h;by_cases c7:Xn ((Xt rc).drop 22) 0≠0∧Xn ((Xt rc).drop 22) 1≠(rc.getD 0 0:Nat)
  ·rw[if_pos c7]at h;cases h
  rw[if_neg c7]at h;exact⟨⟨c1,by omega,by omega,by omega,by omega,by omega,c7⟩,h⟩
 ·rintro⟨o,h⟩;rw[if_neg o.len,if_neg (fun q=>q o.key),if_neg (fun q=>q o.take),if_neg (fun q=>q o.plain),if_neg (fun q=>q o.prv),if_neg (fun q=>q o.dec),if_neg o.own];exact h
theorem Bn {d:List Nat} {now Eo:Int} (h:Yx d Eo=0) (h0:0≤now) (hn:now≤Eo):Yx d now=0∧Jq d now=Jq d Eo:=by
 have h1:Yx d now=0:=by
  obtain⟨o,a⟩:=(Ep d Eo).1 h;exact (Ep d now).2 ⟨o,cX a h0 hn⟩
 refine⟨h1,?_⟩;unfold Jq;rw[if_pos h,if_pos h1]
theorem Qd {cs:List Value} {j:Nat} (v:Value) (i:Nat) (h:i≠j):ci (cs.set j v) i=ci cs i:=by
 unfold ci;rw[Yj,Yj,List.getElem?_set_ne (fun e=>h e.symm)]
theorem yU {cs:List Value} (h:Xm cs=false):(∀i,i<8→RY cs i=false)∧∀i,i<8→RZ cs i=false:=by
 refine⟨fun i hi=>?_,fun i hi=>?_⟩
 ·cases e:RY cs i with
  | false=>rfl
  | true=>rw[X4 i hi (.inl e)]at h;cases h
 ·cases e:RZ cs i with
  | false=>rfl
  | true=>rw[X4 i hi (.inr e)]at h;cases h
theorem ky {cs:List Value} (hl:cs.length=40) (hb:Xm cs=false) (k c s n v:Nat) (hk:k≤3) (hc:c≤7) (hs:s≤1048576) (hn:n≤7) (hv:v≤1073741824):Xm (JG cs k c s n v).cells=false:=by
 obtain⟨h1,h2⟩:=yU hb;unfold JG;split
 ·exact hb
 split
 ·exact hb
 split
 ·exact hb
 split
 ·exact hb
 have hal:(QG cs k c n v).1.length=40:=by rw[MC,hl]
 have hai:∀j,8≤j→j<32→ci (QG cs k c n v).1 j=ci cs j:=fun j q1 q2=>FW cs k c n v hn j q1 q2;have hav:∀j,j<8→RY (QG cs k c n v).1 j=false:=fun j hj=>by
  unfold QG;split
  ·by_cases e:j=n
   ·unfold RY;rw[e,Vi (by omega)];simp;omega
   ·have:=h1 j hj;unfold RY at this ⊢;rw[Qd _ _ e];exact this
  ·split
   ·exact h1 j hj
   ·have:=h1 j hj;unfold RY at this ⊢;rw[Qd _ _ (by omega)];exact this
 obtain⟨A,hA⟩:=Zy ((QG cs k c n v).1);rw[←hA]at hal hai hav ⊢;refine Og (fun i hi=>?_) (fun i hi=>?_)
 ·have:=hav i hi;unfold RY at this ⊢;rw[Qd _ _ (by omega),Qd _ _ (by omega),Qd _ _ (by omega)];exact this
 ·have:=h2 i hi;unfold RZ at this ⊢;by_cases e:i=c
  ·subst e;have e1:ci ((((A.set (8+i) (.int .i64 ((s:Int)+1))).set (16+i*2) (.int .i64 0)).set (16+i*2+1) (.int .i64 (QG cs k i n v).2))) (8+i)=(s:Int)+1:=by
    rw[Qd _ _ (by omega),Qd _ _ (by omega),Vi (by omega)]
   rw[e1];refine decide_eq_false ?_;omega
  ·rw[Qd _ _ (by omega),Qd _ _ (by omega),Qd _ _ (by omega),Qd _ _ (by omega),Qd _ _ (by omega),Qd _ _ (by omega),Qd _ _ (by omega),Qd _ _ (by omega),Qd _ _ (by omega),hai _ (by omega) (by omega),hai _ (by omega) (by omega),hai _ (by omega) (by omega)];exact this
theorem cY:∀(l:List Cm) (st:Bz),Gq st→Xm st.cs=false→(∀x∈l,x.err=0)→(T4 st l).1=0:=by
 intro l
 induction l with
 | nil=>intro st _ _ _;rfl
 | cons x l ih=>
  intro st ok hb hl;have he:YH x.k x.c x.s x.n x.v=0:=hl x (by simp);have h0:Uc st.cs x=0:=by
   unfold Uc Oy;rw[hb,if_neg (by decide)];exact he
  rw[Lz h0];refine ih _ (FY ok h0).1 ?_ (fun y hy=>hl y (by simp[hy]));obtain⟨k,c,s,n,v,e1,e2,e3,e4,e5,y1,y2,y3,y4,y5⟩:=QQ he;show Xm (JH st.cs x).cells=false;unfold JH;rw[e1,e2,e3,e4,e5];exact ky (Yc ok.fit) hb _ _ _ _ _ y1 y2 y3 y4 y5
theorem Bo {l:List Cm} (h:∀x∈l,x.err=0):TG l=0:=cY l Hv FX rfl h
def PA (n:Nat):Raw:=⟨9,n,0,0,[]⟩
def GS (n:Nat):Raw:=⟨3,n,0,0,[]⟩
def Wy (k:Nat):List Raw:=(List.range k).map GS
def Jj (k:Nat):List Raw:=(List.range k).map PA
def IG:List Raw:=Wy 5++[j3]
def TZ (k:Nat):List Raw:=(List.replicate k IG).flatten
def Xw (l:List Raw) (many:Nat):List Raw:=(l++Jj 5)++TZ many
theorem Bp (k:Nat):Wy (k+1)=Wy k++[GS k]:=by unfold Wy;rw[List.range_succ,List.map_append];rfl
theorem Er (k:Nat):Jj (k+1)=Jj k++[PA k]:=by unfold Jj;rw[List.range_succ,List.map_append];rfl
theorem IH (k:Nat):TZ (k+1)=TZ k++IG:=by
 unfold TZ;rw[List.replicate_succ',List.flatten_append];simp
theorem II (k:Nat):(Wy k).length=k:=by unfold Wy;simp
theorem SJ (k:Nat):(Jj k).length=k:=by unfold Jj;simp
theorem GU (k:Nat):(TZ k).length=6*k:=by
 induction k with
 | zero=>rfl
 | succ k ih=>rw[IH,List.length_append,ih];unfold IG;rw[List.length_append,II];simp;omega
theorem MT (l:List Raw) (k:Nat):(Xw l k).length=l.length+5+6*k:=by
 unfold Xw;rw[List.length_append,List.length_append,SJ,GU]
theorem IJ {k:Nat} {x:Raw} (h:x∈Jj k):∃n,n<k∧x=PA n:=by
 unfold Jj at h;obtain⟨n,hn,rfl⟩:=List.mem_map.1 h;exact⟨n,List.mem_range.1 hn,rfl⟩
theorem kA {k:Nat} {x:Raw} (h:x∈Wy k):∃n,n<k∧x=GS n:=by
 unfold Wy at h;obtain⟨n,hn,rfl⟩:=List.mem_map.1 h;exact⟨n,List.mem_range.1 hn,rfl⟩
theorem Bq {k:Nat} {x:Raw} (h:x∈TZ k):(∃n,n<5∧x=GS n)∨x=j3:=by
 unfold TZ at h;obtain⟨l,hl,hx⟩:=List.mem_flatten.1 h;rw[(List.mem_replicate.1 hl).2]at hx;unfold IG at hx;rcases List.mem_append.1 hx with hx|hx
 ·exact .inl (kA hx)
 ·exact .inr (List.mem_singleton.1 hx)
theorem cZ {l:List Raw} {k:Nat} {x:Raw} (h:x∈Xw l k):x∈l∨(∃n,n<5∧x=PA n)∨(∃n,n<5∧x=GS n)∨x=j3:=by
 unfold Xw at h;rcases List.mem_append.1 h with h|h
 ·rcases List.mem_append.1 h with h|h
  ·exact .inl h
  ·exact .inr (.inl (IJ h))
 ·exact .inr (.inr (Bq h))
theorem kC:(∀n,n<5→(PA n).err=0)∧(∀n,n<5→(GS n).err=0)∧j3.err=0:=by decide
theorem da {l:List Raw} (h:∀x∈l,x.err=0) (k:Nat):∀x∈Xw l k,x.err=0:=fun x hx=>by
 obtain⟨e1,e2,e3⟩:=kC;rcases cZ hx with hx|⟨n,hn,rfl⟩|⟨n,hn,rfl⟩|rfl
 ·exact h x hx
 ·exact e1 n hn
 ·exact e2 n hn
 ·exact e3
theorem kD (l:List Raw) (k i:Nat) (hi:i<5):((IA (Xw l k)).nodes i).up=true:=by
 have e:IA (Xw l k)=((Jj 5++TZ k).map Raw.ac).foldl act (IA l):=by
  unfold IA WL Xw;rw[List.append_assoc,List.map_append,List.foldl_append]
 rw[e];refine Zc6 i _ _ (fun a ha=>?_) (.inr ⟨(PA i).ac,List.mem_map.2 ⟨PA i,List.mem_append.2 (.inl ?_),rfl⟩,rfl,?_⟩)
 ·obtain⟨x,hx,rfl⟩:=List.mem_map.1 ha;rcases List.mem_append.1 hx with hx|hx
  ·obtain⟨n,_,rfl⟩:=IJ hx;show (9:Int)≠8;decide
  ·rcases Bq hx with⟨n,_,rfl⟩|rfl
   ·show (3:Int)≠8;decide
   ·show (7:Int)≠8;decide
 ·unfold Jj;exact List.mem_map.2 ⟨i,List.mem_range.2 hi,rfl⟩
 ·show ((i:Nat):Int).toNat=i;omega
theorem Zc7 {A:List Raw} (hA:∀x∈A,x.err=0) {S:Cm→Prop} (hS:∀x∈A,x.k=1→∀now:Nat,Yx x.data now=0→S (Jq x.data now)) :
  ∀a∈A.map Raw.ac,sY S (A.map fun x=>Rl x.data) a:=fun a ha=>by
 obtain⟨z,hz,rfl⟩:=List.mem_map.1 ha;obtain⟨_,q2,_,q4,_⟩:=Iz (hA z hz);exact⟨⟨by unfold Raw.ac;simp only;omega,List.mem_map.2 ⟨z,hz,rfl⟩⟩,q4.1,fun now hk h=>hS z hz hk now h⟩
theorem kE {A:List Raw} (hA:∀x∈A,x.err=0) (hl:A.length≤100000) {i:Nat} (hi:i<5) {x:Cm} (hx:x∈((IA A).nodes i).log):x=BD∨∃a∈A,a.k=1∧Yx a.data 0=0∧x=Jq a.data 0:=by
 have ok:=Zc7 hA (S:=fun x=>∃a∈A,a.k=1∧Yx a.data 0=0∧x=Jq a.data 0) (fun z hz hk now h=>by
  obtain⟨q1,q2⟩:=Bn h (now:=0) (by omega) (by omega);exact⟨z,hz,hk,q1,q2.symm⟩)
 exact td (by rw[List.length_map];exact hl) (A.map Raw.ac) ok i hi x hx
theorem yV {rc:List Nat} {now:Int} (h:Yx rc now=0):(Jq rc now).err=0:=by
 obtain⟨o,_⟩:=(Ep rc now).1 h;have hd:=o.dec;unfold Jq;rw[if_pos h];unfold Jv.err;simp only;unfold Jy at hd;rw[if_pos (by rw[List.length_drop,o.plain])]at hd;exact hd
theorem tD {A:List Raw} (hA:∀x∈A,x.err=0) (hl:A.length≤100000) {i:Nat} (hi:i<5) {x:Cm} (hx:x∈((IA A).nodes i).log):x.err=0:=by
 rcases kE hA hl hi hx with rfl|⟨a,_,_,h,rfl⟩
 ·rfl
 ·exact yV h
theorem Es {α β:Type} {R:α→β→Prop} {l:List α} {k:List β} (s:Dq R l k):∀(i:Nat) (h1:i<l.length) (h2:i<k.length),R l[i] k[i]:=by
 induction s with
 | nil=>intro i h1;cases h1
 | cons a _ ih=>
  intro i h1 h2
  cases i with
  | zero=>exact a
  | succ i=>exact ih i (by simpa using h1) (by simpa using h2)
def ZhM (w:Wd):List (List Cm):=[(w.nodes 0).log,(w.nodes 1).log,(w.nodes 2).log,(w.nodes 3).log,(w.nodes 4).log]
theorem NU (w:Wd) (i:Nat) (hi:i<5):(ZhM w)[i]'hi=(w.nodes i).log:=by
 match i,hi with
 | 0,_=>rfl
 | 1,_=>rfl
 | 2,_=>rfl
 | 3,_=>rfl
 | 4,_=>rfl
theorem C0.log {h:Hp} {R:List Value} {w:Wd} {lv tv:Value} {vs:List Value} (s:C0 h R w lv tv vs):∃b o c,lv=.slice (some ⟨b,o,none⟩) 5 c∧b<h.size∧∀n,n<5→∃x,hc h ⟨b,o+n,none⟩=some x∧Ts Jv.C 5 h x (w.nodes n).log:=by
 have vl:vs.length=5:=El s.each;obtain⟨p,c,rfl,YQ⟩:=s.ZcR.open (n:=1) (enc:=fun v=>[v]) (fun _=>rfl) (show (1:Nat)≠0 by decide);obtain⟨b,o,rfl,hb,hh⟩:=YQ (by intro e;rw[e]at vl;cases vl);refine⟨b,o,c,by rw[vl],hb,fun n hn=>⟨vs[n],?_,?_⟩⟩
 ·have:=hh n (by omega);have:=this.hc (i:=0) rfl;rw[Nat.mul_one]at this;exact this
 ·have:=Es s.each n (by omega) hn;rw[show ([(w.nodes 0).log,(w.nodes 1).log,(w.nodes 2).log,(w.nodes 3).log,(w.nodes 4).log]:List (List Cm))[n]'hn=(w.nodes n).log from NU w n hn]at this;exact this
set_option maxHeartbeats 4000000 in
theorem db (T:World) (h:Hp) (v:Value) (xs:List (Raw × Value)) (many:Nat) (hv:Ts J6 5 h v xs) (hx:∀x∈xs,To RD h x.2 x.1.data) (Ex:xs.length≤1000000) (hm:many≤1000000) :
  Zc Tryz.prog T 6 #[v,.int .i64 many] h fun v' h'=>∃o,XY h o h' v' (Xw (Y4 xs) many):=by
 have rl:(Y4 xs).length=xs.length:=by unfold Y4;simp
 refine Zc.Zj (args:=[_,_]) Tryz.func6 rfl rfl rfl rfl ?_;simp -implicitDefEqProofs only[go_sem,↓reduceIte];refine (XY.nil h).Zc4 (by simp) hv hx (by omega) ?_;intro v1 o1 g1 A1;rw[List.nil_append]at A1;simp -implicitDefEqProofs only[go_sem,↓reduceIte];refine VS.ZW (fun F g=>F 1=.int .i64 many∧∃(n:Nat) (o:Ow),n≤5∧F 6=.int .i64 n∧XY h o g (F 5) (Y4 xs++Jj n))
  (fun F _=>5-(vi (F 6)).toNat) rfl ⟨rfl,0,o1,by omega,rfl,by rw[show Jj 0=[] from rfl,List.append_nil];exact A1⟩ ?_
 rintro F2 g2 ⟨f1,n,o2,hn,f6,A2⟩;obtain⟨p2,c2,f5,_⟩:=A2.isSlice;by_cases ZD:n<5
 ·have ZP:(n:Int)<5:=by omega
  rw[f5]at A2;simp -implicitDefEqProofs only[go_sem,↓reduceIte,f1,f5,f6,ZP];refine A2.add (by rw[List.length_append,SJ];omega) 9 n 0 0 ?_;intro v3 o3 g3 A3;simp -implicitDefEqProofs only[go_sem,↓reduceIte,f6];unfold Xp;refine⟨⟨f1,n+1,o3,ZD,rfl,?_⟩,?_⟩
  ·rw[Er,←List.append_assoc];exact A3
  ·simp only[vi,Zm,↓reduceIte,f6];omega
 have YK:¬(n:Int)<5:=by omega
 obtain rfl:n=5:=by omega
 simp -implicitDefEqProofs only[go_sem,↓reduceIte,f1,f6];refine VS.ZW (fun F g=>F 1=.int .i64 many∧∃(i:Nat) (o:Ow),i≤many∧F 7=.int .i64 i∧XY h o g (F 5) ((Y4 xs++Jj 5)++TZ i))
  (fun F _=>many-(vi (F 7)).toNat) rfl ⟨f1,0,o2,by omega,rfl,by rw[show TZ 0=[] from rfl,List.append_nil];exact A2⟩ ?_
 clear f1 f5 f6 A2;rintro F3 g3 ⟨f1,i,o3,hi,f7,A3⟩;by_cases ZD:i<many
 ·have ZP:(i:Int)<many:=by omega
  simp -implicitDefEqProofs only[go_sem,↓reduceIte,f1,f7,ZP];refine VS.ZW (fun F g=>(F 1=.int .i64 many∧F 7=.int .i64 i)∧∃(n:Nat) (o:Ow),n≤5∧F 8=.int .i64 n∧XY h o g (F 5) (((Y4 xs++Jj 5)++TZ i)++Wy n))
   (fun F _=>5-(vi (F 8)).toNat) rfl ⟨⟨f1,f7⟩,0,o3,by omega,rfl,by rw[show Wy 0=[] from rfl,List.append_nil];exact A3⟩ ?_
  clear f1 f7 A3;rintro F4 g4 ⟨⟨f1,f7⟩,n,o4,hn,f8,A4⟩;obtain⟨p4,c4,f5,_⟩:=A4.isSlice;rw[f5]at A4;have hlen:(((Y4 xs++Jj 5)++TZ i)++Wy n).length≤100000000:=by
   rw[List.length_append,List.length_append,List.length_append,SJ,GU,II];omega
  by_cases hn5:n<5
  ·have ZhN:(n:Int)<5:=by omega
   simp -implicitDefEqProofs only[go_sem,↓reduceIte,f1,f5,f7,f8,ZhN];refine A4.add (by omega) 3 n 0 0 ?_;intro v5 o5 g5 A5;simp -implicitDefEqProofs only[go_sem,↓reduceIte,f8];unfold Xp;refine⟨⟨⟨f1,f7⟩,n+1,o5,hn5,rfl,?_⟩,?_⟩
   ·rw[Bp,←List.append_assoc];exact A5
   ·simp only[vi,Zm,↓reduceIte,f8];omega
  ·have ZhN:¬(n:Int)<5:=by omega
   obtain rfl:n=5:=by omega
   simp -implicitDefEqProofs only[go_sem,↓reduceIte,f1,f5,f7,f8];refine A4.add (by omega) 7 0 0 0 ?_;intro v5 o5 g5 A5;simp -implicitDefEqProofs only[go_sem,↓reduceIte,f7];unfold Xp;refine⟨⟨f1,i+1,o5,ZD,rfl,?_⟩,?_⟩
   ·rw[IH];unfold IG;rw[←List.append_assoc,←List.append_assoc];exact A5
   ·simp only[vi,Zm,↓reduceIte,f7];omega
 ·have YK:¬(i:Int)<many:=by omega
  obtain rfl:i=many:=by omega
  obtain⟨p3,c3,f5,_⟩:=A3.isSlice;simp -implicitDefEqProofs only[go_sem,↓reduceIte,f1,f5,f7,YK];rw[f5]at A3;exact⟨_,A3⟩
theorem kF (T:World) (h:Hp) (v:Value) (xs:List (Raw × Value)) (many:Nat) (hv:Ts J6 5 h v xs) (hx:∀x∈xs,To RD h x.2 x.1.data) (Ex:xs.length≤1000000) (hm:many≤1000000) :
  Zc Tryz.prog T 6 #[v,.int .i64 many] h fun v' h'=>Zg h.size h h'∧Tu v'∧∃ys,Y4 ys=Xw (Y4 xs) many∧Ts J6 5 h' v' ys∧∀y∈ys,To RD h' y.2 y.1.data:=
 (db T h v xs many hv hx Ex hm).mono fun v' h' ⟨_,A⟩=>A.done
structure Zrf (R:List Value):Prop where
 len:R.length=13
 one:R.all Z6=true
 put:Yw [Value.int .i64 0,.bool false,.bool false,.bool false,.bool false,.bool false,.slice none 0 0,.int .i64 0,.int .i64 0,.int .i64 0,.int .i64 0,.int .i64 0,.slice none 0 0] 0 R=R
 le:R.length≤13
 take:R.take 13=R
theorem C0.ok {h:Hp} {w:Wd} {lv tv:Value} {vs:List Value} (ra:C0 h (lJ w lv tv) w lv tv vs):Zrf (lJ w lv tv)∧(∃b o c,lv=.slice (some ⟨b,o,none⟩) 5 c)∧∃p c,tv=.slice p w.told.length c:=by
 obtain⟨b,o,c,hl,_,_⟩:=ra.log;obtain⟨pt,ct,ht,_⟩:=ra.told.open (n:=5) (enc:=Ig) (fun _=>rfl) (show (5:Nat)≠0 by decide);subst hl;subst ht;exact⟨⟨rfl,rfl,ZH rfl,Nat.le_refl 13,rfl⟩,⟨b,o,c,rfl⟩,pt,ct,rfl⟩
theorem Br (x:Cm):(Hr x).length=5:=rfl
theorem C0.Zrg {h:Hp} {R:List Value} {w:Wd} {lv tv:Value} {vs:List Value} (s:C0 h R w lv tv vs):∃b o c,lv=.slice (some ⟨b,o,none⟩) 5 c∧b<h.size∧∀n,n<5→∃x,hc h ⟨b,o+n,none⟩=some x∧Ts Jv.C 5 h x (w.nodes n).log∧∃p c,x=.slice p (w.nodes n).log.length c∧(w.nodes n).log.length≤c:=by
 have vl:vs.length=5:=El s.each;obtain⟨p,c,rfl,YQ⟩:=s.ZcR.open (n:=1) (enc:=fun v=>[v]) (fun _=>rfl) (show (1:Nat)≠0 by decide);obtain⟨b,o,rfl,hb,hh⟩:=YQ (by intro e;rw[e]at vl;cases vl);refine⟨b,o,c,by rw[vl],hb,fun n hn=>⟨vs[n],?_,?_,?_⟩⟩
 ·have:=hh n (by omega);have:=this.hc (i:=0) rfl;rw[Nat.mul_one]at this;exact this
 ·have:=Es s.each n (by omega) hn;rw[show ([(w.nodes 0).log,(w.nodes 1).log,(w.nodes 2).log,(w.nodes 3).log,(w.nodes 4).log]:List (List Cm))[n]'hn=(w.nodes n).log from NU w n hn]at this;exact this
 ·have:=Es s.ZqQ n (by omega) hn;rw[show ([(w.nodes 0).log,(w.nodes 1).log,(w.nodes 2).log,(w.nodes 3).log,(w.nodes 4).log]:List (List Cm))[n]'hn=(w.nodes n).log from NU w n hn]at this;exact this
theorem kG:∀(l:List Cm) (st:Bz),Gq st→(T4 st l).1=0→Yq XI (T4 st l).2.cs=true:=by
 intro l
 induction l with
 | nil=>intro st ok _;exact ok.fit
 | cons x l ih=>
  intro st ok h;by_cases q:Uc st.cs x=0
  ·rw[Lz q]at h ⊢;exact ih _ (FY ok q).1 h
  ·rw[Nx q]at h;exact absurd h q
theorem dd {l:List Cm} (h:∀x∈l,x.err=0):TG l=0∧Yq XI (Wo l)=true∧(Vx l).length=l.length:=by
 have e:=Bo h;refine⟨e,?_,?_⟩
 ·unfold Wo;rw[if_pos e];exact kG l Hv FX e
 ·unfold Vx;rw[if_pos e,qd l Hv e];show 0+l.length=_;omega
theorem df {a b:List Cm} (h:∀(s:Nat) x y,a[s]? = some x→b[s]? = some y→x=y) (k:Nat) (h1:k≤a.length) (h2:k≤b.length):a.take k=b.take k:=by
 refine List.ext_getElem? fun s=>?_;by_cases q:s<k
 ·rw[List.getElem?_take_of_lt q,List.getElem?_take_of_lt q,List.getElem?_eq_getElem (by omega),List.getElem?_eq_getElem (by omega),h s _ _ (List.getElem?_eq_getElem (by omega)) (List.getElem?_eq_getElem (by omega))]
 ·rw[List.getElem?_eq_none (by rw[List.length_take];omega),List.getElem?_eq_none (by rw[List.length_take];omega)]
set_option maxHeartbeats 4000000 in
theorem kH (T:World) (h:Hp) (v:Value) (gs:List Gr) (hv:Ts Gr.C 5 h v gs) (hg:∀g∈gs,g.ok) (tb:BE RD h) :
  Zc Tryz.prog T 3 #[v] h fun v' h'=>v'=.bool true∧Zg h.size h h':=by
 have tk:Tk h:=tb.tk;refine Zc.Zj (args:=[_]) Tryz.func3 rfl rfl rfl rfl ?_;simp -implicitDefEqProofs only[go_sem,↓reduceIte];refine (j5 T h v gs 100 true hv hg (by omega) tk).use ?_;rintro v1 h1 ⟨b1,QN,xs,hr,t1,i1⟩;obtain⟨A,hA⟩:=Zy (scr gs 100 true);rw[←hA]at hr;have Ae:∀x∈A,x.err=0:=by rw[hA];exact yQ _ _ _
 have Al:A.length≤100:=by rw[hA];exact yR _ _ _
 have xl:xs.length=A.length:=by rw[←hr];unfold Y4;simp
 obtain⟨p,c,rfl,YQ⟩:=t1.open CZ (by decide);simp -implicitDefEqProofs only[go_sem,↓reduceIte];refine (kF T h1 _ xs 60 t1 i1 (by omega) (by omega)).use ?_;rintro v4 g4 ⟨b4,_,zs,hrz,t4,i4⟩;have B4:Zg h.size h g4:=b1.trans (b4.mono b1.size);rw[hr]at hrz;have zl:zs.length≤1000:=by
  have:=congrArg List.length hrz;rw[MT]at this;unfold Y4 at this;rw[List.length_map]at this;omega
 have Ze:=da Ae 60;have Zl:(Xw A 60).length≤1000:=by rw[MT];omega
 have tb4:=tb.Zd (ZE (NP h) B4);simp -implicitDefEqProofs only[go_sem,↓reduceIte];refine (ZcY T g4 v4 zs t4 i4 tb4 (by omega) (by rw[hrz];exact Bj Ze (by omega))).use ?_;rw[hrz];rintro _ g5 ⟨⟨lv,tv,vs,rfl,rf⟩,b5⟩;have B5:Zg h.size h g5:=B4.trans (b5.mono B4.size);have hup:=kD A 60 0 (by omega);have hag:∀n m,n<5→m<5→∀(s:Nat) x y,((IA (Xw A 60)).nodes n).log[s]? = some x→((IA (Xw A 60)).nodes m).log[s]? = some y→x=y:=fun n m hn hm s x y hx hy=>by
  have e:Xw A 60=(Xw A 60).take (Xw A 60).length:=(List.take_of_length_le (Nat.le_refl _)).symm;rw[e]at hx hy;exact cR Ze (by omega) _ _ n m hn hm s x y hx hy
 have sQ:∀n,n<5→∀x∈((IA (Xw A 60)).nodes n).log,x.err=0:=fun n hn x hx=>tD Ze (by omega) hn hx;have hlen:∀n,n<5→((IA (Xw A 60)).nodes n).log.length≤40:=fun n hn=>yS Ze (by omega) n hn;obtain⟨W,hW⟩:=Zy (IA (Xw A 60));rw[←hW]at rf hup hag sQ hlen ⊢;obtain⟨ro,_,pt,ct,rfl⟩:=rf.at.ok;obtain⟨bl,ol,cl,rfl,kZ,hx⟩:=rf.at.Zrg;obtain⟨R,hR⟩:=Zy (lJ W (.slice (some ⟨bl,ol,none⟩) 5 cl) (.slice pt W.told.length ct));rw[←hR]at ro ⊢;have yG:=ro.len;have lF:=ro.one;have hRp:=ro.put;have yH:=ro.le;have et:=ro.take;obtain⟨g6,Rk⟩:=Zy (g5.push (.cells R.toArray 28):Hp);have e6:=Rk.symm;have b6:Zg g5.size g5 g6:=by rw[Rk];exact (Zg.refl _ _).add _
 have y6:g6[g5.size]? = some (.cells R.toArray 28):=by rw[Rk];exact Zb
 have l6:=Za y6;have B6:Zg h.size h g6:=B5.trans (b6.mono B5.size);have u6:hc g6 ⟨g5.size,1,none⟩=some (.bool true):=by rw[Zh y6,hR];show some (Value.bool (W.nodes 0).up)=_;rw[hup]
 have r6:hc g6 ⟨g5.size,6,none⟩=some (.slice (some ⟨bl,ol,none⟩) 5 cl):=by rw[Zh y6,hR];rfl
 simp -implicitDefEqProofs only[go_sem,↓reduceIte,yG,lF,hRp,yH,e6,et,l6];refine VS.ZW (fun F g=>F 3=.pointer (some ⟨g5.size,0,none⟩)∧F 4=.bool true∧Zg g6.size g6 g∧∃n:Nat,n≤5∧F 5=.int .i64 n)
  (fun F _=>5-(vi (F 5)).toNat) rfl ⟨rfl,rfl,Zg.refl _ _,0,by omega,rfl⟩ ?_
 rintro F2 g2 ⟨f3,f4,zT,n,hn,f5⟩;by_cases Uq:n<5
 ·have Zc8:(n:Int)<5:=by omega
  simp -implicitDefEqProofs only[go_sem,↓reduceIte,f3,f4,f5,Zc8];refine VS.ZW (fun F g=>F 3=.pointer (some ⟨g5.size,0,none⟩)∧F 4=.bool true∧F 5=.int .i64 n∧Zg g6.size g6 g∧∃m:Nat,m≤n∧F 6=.int .i64 m)
   (fun F _=>n-(vi (F 6)).toNat) rfl ⟨f3,f4,f5,zT,0,by omega,rfl⟩ ?_
  clear f3 f4 f5 zT;rintro F3 g3 ⟨f3,f4,f5,bg3,m,hm,f6⟩;by_cases aY:m<n
  ·have jk:(m:Int)<n:=by omega
   have hm5:m<5:=by omega
   have Zc9:(m:Int)<5:=by omega
   have wX:Zg g5.size g5 g3:=b6.trans (bg3.mono b6.size);obtain⟨xn,rn,tn,qn⟩:=hx n Uq;obtain⟨xm,rm,tm,qm⟩:=hx m hm5;obtain⟨pn,cn,rfl,_⟩:=Qo tn;obtain⟨pm,cm,rfl,_⟩:=Qo tm;have ln:=hlen n Uq;have lm:=hlen m hm5;have can:(W.nodes n).log.length≤cn:=by
    obtain⟨p',c',e,hl⟩:=qn;simp only[Value.slice.injEq]at e;obtain⟨_,_,rfl⟩:=e;exact hl
   have cbm:(W.nodes m).log.length≤cm:=by
    obtain⟨p',c',e,hl⟩:=qm;simp only[Value.slice.injEq]at e;obtain⟨_,_,rfl⟩:=e;exact hl
   obtain⟨k,hk⟩:=Zy (min (W.nodes n).log.length (W.nodes m).log.length);have Zda:=df (hag n m Uq hm5) k (by omega) (by omega);obtain⟨L,hL⟩:=Zy ((W.nodes n).log.take k);have Le:∀x∈L,x.err=0:=fun x hx=>by rw[hL]at hx;exact sQ n Uq x (List.mem_of_mem_take hx)
   have Ll:L.length=k:=by rw[hL,List.length_take];omega
   obtain⟨C1,C2,C3⟩:=dd Le;have r36:hc g3 ⟨g5.size,6,none⟩=some (.slice (some ⟨bl,ol,none⟩) 5 cl):=by rw[bg3.hc (by exact l6)];exact r6
   have rn3:hc g3 ⟨bl,ol+n,none⟩=some (.slice pn (W.nodes n).log.length cn):=by rw[wX.hc (by exact kZ)];exact rn
   have rm3:hc g3 ⟨bl,ol+m,none⟩=some (.slice pm (W.nodes m).log.length cm):=by rw[wX.hc (by exact kZ)];exact rm
   simp -implicitDefEqProofs only[go_sem,↓reduceIte,f3,f4,f5,f6,jk,Zc8,Zc9];refine VS.q mixed (by kernel_rfl) ?_;obtain⟨a,ha⟩:=Zy ((W.nodes n).log);obtain⟨b,hb⟩:=Zy ((W.nodes m).log);rw[←ha]at tn hk Zda hL ln rn3 can;rw[←hb]at tm hk Zda lm rm3 cbm;have hki:(if (b.length:Int)<a.length then (b.length:Int) else a.length)=k:=by
    by_cases q:(b.length:Int)<a.length
    ·rw[if_pos q];omega
    ·rw[if_neg q];omega
   have kn:(k:Int)≤cn:=by omega
   have km:(k:Int)≤cm:=by omega
   have tn3:∀g,Zg g5.size g5 g→Ts Hr 5 g (.slice pn k k) L:=fun g bg=>⟨by
    have:=(tn.sl.Z3 bg).dC (m:=k) (by omega) k;rw[hL,List.length_take,Nat.min_eq_left (by omega),←U7 (enc:=Hr) Br a k (by omega)];exact this⟩
   have tm3:∀g,Zg g5.size g5 g→Ts Hr 5 g (.slice pm k k) L:=fun g bg=>⟨by
    have:=(tm.sl.Z3 bg).dC (m:=k) (by omega) k;rw[hL,Zda,List.length_take,Nat.min_eq_left (by omega),←U7 (enc:=Hr) Br b k (by omega)];exact this⟩
   have ch:=fun (g:Hp) (w:Value) (s:Ts Hr 5 g w L) (t:Tk g)=>qi T g w L s t;rw[if_neg (by omega),if_neg (by omega),C1]at ch;simp -implicitDefEqProofs only[go_sem,↓reduceIte,f3,f4,f5,f6,jk,Zc8,Zc9,r36,rn3,rm3,hki,kn];refine (ch g3 _ (tn3 g3 wX) (tk.X0 (B6.trans (bg3.mono B6.size)))).use ?_;rintro _ g7 ⟨⟨wv,E,D,rfl,hED,oe⟩,b7⟩;simp only[Prod.mk.injEq]at hED;obtain⟨rfl,rfl⟩:=hED;have tV:(Wo L).length=40:=Yc C2;have Vm:=VR C2;have dX:(Wo L).take 40=Wo L:=YU tV;obtain⟨D,hD⟩:=Zy (Wo L);rw[←hD]at C2 tV Vm dX ⊢;have te:=oe.ts;obtain⟨p7,c7,hwv⟩:=oe.open;subst hwv;obtain⟨g8,La⟩:=Zy (g7.push (.cells D.toArray 43):Hp);have e8:=La.symm;have b8:Zg g7.size g7 g8:=by rw[La];exact (Zg.refl _ _).add _
   have bg8:Zg g6.size g6 g8:=bg3.trans ((b7.trans (b8.mono b7.size)).mono bg3.size);have b58:Zg g5.size g5 g8:=b6.trans (bg8.mono b6.size);have r38:hc g8 ⟨g5.size,6,none⟩=some (.slice (some ⟨bl,ol,none⟩) 5 cl):=by rw[bg8.hc (by exact l6)];exact r6
   have rm8:hc g8 ⟨bl,ol+m,none⟩=some (.slice pm b.length cm):=by rw[(b7.trans (b8.mono b7.size)).hc (by exact Nat.lt_of_lt_of_le kZ wX.size)];exact rm3
   simp -implicitDefEqProofs only[go_sem,↓reduceIte,tV,Vm,ZH,dX,e8,f3,f4,f5,f6,jk,Zc9,r38,rm8,km];refine (ch g8 _ (tm3 g8 b58) (tk.X0 (B6.trans (bg8.mono B6.size)))).use ?_;rintro _ g9 ⟨⟨wu,E,D',rfl,hED,ou⟩,b9⟩;simp only[Prod.mk.injEq]at hED;obtain⟨rfl,rfl⟩:=hED;rw[←hD];have tu:=ou.ts;obtain⟨p9,c9,hwu⟩:=ou.open;subst hwu;obtain⟨bE,C9⟩:=Zy (g9.push (.cells D.toArray 43):Hp);have e10:=C9.symm;have b10:Zg g9.size g9 bE:=by rw[C9];exact (Zg.refl _ _).add _
   have y8:g8[g7.size]? = some (.cells D.toArray 43):=by rw[La];exact Zb
   have y10:=(b9.trans (b10.mono b9.size)).get (Za y8) y8;have z10:bE[g9.size]? = some (.cells D.toArray 43):=by rw[C9];exact Zb
   have rd1:rd bE ⟨g7.size,0,none⟩ 40=some D:=Zq y10 tV;have rd2:rd bE ⟨g9.size,0,none⟩ 40=some D:=Zq z10 tV;have hs:=nE C2;have C4:Yq [some .i64,some .i64,some .i64,some .i64,some .i64,some .i64,some .i64,some .i64,some .i64,some .i64,some .i64,some .i64,some .i64,some .i64,some .i64,some .i64,some .i64,some .i64,some .i64,some .i64,some .i64,some .i64,some .i64,some .i64,some .i64,some .i64,some .i64,some .i64,some .i64,some .i64,some .i64,some .i64,none,none,none,none,none,none,none,none] D=true:=C2;have BC:(Vx L).length=k:=by rw[C3,Ll]
   rw[BC];simp -implicitDefEqProofs only[go_sem,↓reduceIte,tV,Vm,ZH,dX,e10,rd1,rd2,hs,C4,f3,f4,f5,f6,jk];have Zri:=te.Z3 (b8.trans ((b9.trans (b10.mono b9.size)).mono b8.size));have Zrj:=tu.Z3 b10;have ZhQ:Zg g6.size g6 bE:=bg8.trans ((b9.trans (b10.mono b9.size)).mono bg8.size);by_cases hk0:(k:Int)>0
   ·obtain⟨j,hj⟩:∃j,k=j+1:=⟨k-1,by omega⟩
    have tW:(k:Int)-1=(j:Int):=by omega
    have ED:(j:Int)<k:=by omega
    have Yv:Vx L≠[]:=by intro e;rw[e]at BC;simp at BC;omega
    obtain⟨pa,ca,hva,hea⟩:=Zri.open;obtain⟨pb,cb,hvb,heb⟩:=Zrj.open;simp only[Value.slice.injEq]at hva hvb;obtain⟨rfl,_,rfl⟩:=hva;obtain⟨rfl,_,rfl⟩:=hvb;obtain⟨ba,oa,rfl,_,hca⟩:=hea Yv;obtain⟨bb2,ob,rfl,_,IY⟩:=heb Yv;obtain⟨qa,ma,xa,ca7,sa⟩:=hca j (by omega);obtain⟨qb,mb,xb,cb7,sb⟩:=IY j (by omega);obtain⟨S,hS⟩:=Zy ((Vx L)[j].sum);rw[←hS]at sa sb;have ra7:hc bE ⟨ba,oa+j*8+7,none⟩=some (.slice qa ma xa):=ca7.hc (i:=7) rfl;have rb7:hc bE ⟨bb2,ob+j*8+7,none⟩=some (.slice qb mb xb):=cb7.hc (i:=7) rfl;have hbe:=nr S S sa.byte sb.byte;rw[decide_eq_true rfl]at hbe;refine VS.q mixed (by kernel_rfl) ?_;simp -implicitDefEqProofs only[go_sem,↓reduceIte,hk0,tW,ED,ra7,rb7];refine Gp (EZ Tryz.underlying48 Tryz.underlying9 Tryz.underlying5 sa ⟨rfl,rfl⟩) ?_;simp -implicitDefEqProofs only[go_sem,↓reduceIte,hk0,tW,ED,ra7,rb7];refine Gp (EZ Tryz.underlying48 Tryz.underlying9 Tryz.underlying5 sb ⟨rfl,rfl⟩) ?_;simp -implicitDefEqProofs only[go_sem,↓reduceIte,hbe,f6];unfold Xp;refine⟨⟨f3,f4,f5,ZhQ,m+1,aY,rfl⟩,?_⟩;simp only[vi,Zm,↓reduceIte,f6];omega
   ·refine VS.q mixed (by kernel_rfl) ?_;simp -implicitDefEqProofs only[go_sem,↓reduceIte,hk0,f6];unfold Xp;refine⟨⟨f3,f4,f5,ZhQ,m+1,aY,rfl⟩,?_⟩;simp only[vi,Zm,↓reduceIte,f6];omega
  ·have YK:¬(m:Int)<n:=by omega
   simp -implicitDefEqProofs only[go_sem,↓reduceIte,f3,f4,f5,f6,YK];unfold Xp;refine⟨⟨f3,f4,bg3,n+1,Uq,rfl⟩,?_⟩;simp only[vi,Zm,↓reduceIte,f5];omega
 ·have YK:¬(n:Int)<5:=by omega
  have u2:hc g2 ⟨g5.size,1,none⟩=some (.bool true):=by rw[zT.hc (by exact l6)];exact u6
  simp -implicitDefEqProofs only[go_sem,↓reduceIte,f3,f4,f5,YK,u2];exact B6.trans (zT.mono B6.size)
def TkM (h:Hp):Prop:=Tk h∧Dk 1 niv TY h
theorem TkM.tbs {h:Hp} (t:TkM h):BE RD h:=⟨t.1,t.2,rfl,rfl⟩
theorem tE {W:World} (h:laidMetH Tryz.prog [("conclave/sha.numbers", Rows.laid_conclave_sha_numbers),("conclave/order.need", Rows.laid_conclave_order_need)] W):TkM W.heap:=by
 constructor
 ·have h1:=h.filter (fun x=>x.1 == "conclave/sha.numbers")
  exact ZbX h1
 ·have h1:=h.filter (fun x=>x.1 == "conclave/order.need")
  exact wm h1
theorem kI (os:Os) (args:Array Value):laidMetH Tryz.prog [("conclave/sha.numbers", Rows.laid_conclave_sha_numbers),("conclave/order.need", Rows.laid_conclave_order_need)] ((World.doorLaid Tryz.prog 87 os).forCall (fun _ _=>0) ⟨#[],args,[]⟩).memory:=
 laidMetH_of_parts3 (fuel:=8) (laidMet_of_run' 8 (by kernel_rfl) (by kernel_rfl)) (by kernel_rfl) (by kernel_rfl)
theorem kJ {h:Hp} {k:Nat} {v:Value} (hv:fit Tryz.prog h k 22 [v]):∃gs,Ts Gr.C 5 h v gs∧∀g∈gs,g.ok:=by
 obtain⟨gs,s,J8,_⟩:=gP (α:=Gr) (enc:=Gr.C) (n:=5) (ok:=fun g=>g.ok) Tryz.underlying22 (by kernel_rfl) (by decide) (fun _=>rfl) (fun k ds hfe=>by
  have hlen:ds.length=5:=by
   cases k with
   | zero=>exact hfe.elim
   | succ k=>unfold fit at hfe;rw[Tryz.underlying61]at hfe;exact hfe.1
  have hL:=nA (P:=Tryz.prog) (h:=h) 8 k 61 ds (rep 5 [3]) (by kernel_rfl) (by rw[hlen];decide) hfe;obtain⟨a0,_,rfl,q0,p0,hL⟩:=Sd Tryz.underlying3 hL;obtain⟨a1,_,rfl,q1,p1,hL⟩:=Sd Tryz.underlying3 hL;obtain⟨a2,_,rfl,q2,p2,hL⟩:=Sd Tryz.underlying3 hL;obtain⟨a3,_,rfl,q3,p3,hL⟩:=Sd Tryz.underlying3 hL;obtain⟨a4,_,rfl,q4,p4,hL⟩:=Sd Tryz.underlying3 hL;obtain rfl:=nC hL;have mk:∀n:Int,-9223372036854775808≤n→n≤9223372036854775807→i64 n:=fun n h1 h2=>⟨h1,by omega⟩
  exact⟨⟨a0,a1,a2,a3,a4⟩,⟨⟨mk _ q0 p0,mk _ q1 p1⟩,mk _ q2 p2,mk _ q3 p3,mk _ q4 p4⟩,rfl⟩) hv
 exact⟨gs,⟨s⟩,J8⟩
end Go.Proofs.YtboeoomhjbcecaaGreatDoor
