/- Agreement in plain words: votes, proposals and promises; what is chosen in a slot is one. No program in sight. -/
import Derived.Test.YtboeoomhjbcecaaGreatDoorTpc
import Derived.Test.YtboeoomhjbcecaaGreatDoorMop
import Derived.Test.YtboeoomhjbcecaaGreatDoorChw
namespace Go.Proofs.YtboeoomhjbcecaaGreatDoor
open Go Go.V
set_option linter.unusedSimpArgs false
set_option linter.unusedVariables false
theorem Uj (a:YN):¬below a a:=by unfold below;omega
theorem Jw {a b c:YN} (h1:¬below b a) (h2:¬below c b):¬below c a:=by unfold below at *;omega
theorem Zar {a b:YN} (h:below a b):¬below b a:=by unfold below at *;omega
theorem ZcW {a b:YN} (h1:¬below a b) (h2:¬below b a):a=b:=by
 obtain⟨r,n⟩:=a;obtain⟨s,m⟩:=b;unfold below at h1 h2;simp only at h1 h2;rw[YN.mk.injEq];omega
theorem rY {α:Type} [DecidableEq α]:∀{l C:List α},l.Nodup→(∀x∈l,x∈C)→l.length≤C.length:=by
 intro l
 induction l with
 | nil=>intro C _ _;simp
 | cons x l ih=>
  intro C hn h;rw[List.nodup_cons]at hn;have h1:=ih (C:=C.erase x) hn.2 (fun y hy=>(List.mem_erase_of_ne (fun e=>hn.1 (by rw[←e];exact hy))).2 (h y (by simp[hy])));have h2:x∈C:=h x (by simp);have h3:=List.length_erase_of_mem h2;have h4:0<C.length:=List.length_pos_of_mem h2;simp only[List.length_cons];omega
def Maj (Q:List Nat):Prop:=Q.Nodup∧(∀i∈Q,i<5)∧3≤Q.length
theorem Maj.meet {Q R:List Nat} (q:Maj Q) (r:Maj R):∃i,i∈Q∧i∈R:=by
 refine Classical.byContradiction fun h=>?_;have hd:(Q++R).Nodup:=by
  rw[List.nodup_append];exact⟨q.1,r.1,fun a ha b hb e=>h ⟨a,ha,by rw[e];exact hb⟩⟩
 have:=rY (C:=List.range 5) hd (fun x hx=>by
  rw[List.mem_range];rcases List.mem_append.1 hx with hx|hx
  ·exact q.2.1 x hx
  ·exact r.2.1 x hx)
 have h1:=q.2.2;have h2:=r.2.2;simp only[List.length_append,List.length_range]at this;omega
structure Gh where
 V:Nat→YN→Int→Cm→Prop
 P:YN→Int→Cm→Prop
def MY (g:Gh) (M:Nat→YN) (b:YN) (s:Int):Prop:=∃Q,Maj Q∧(∀i∈Q,¬below (M i) b)∧∀i∈Q,∀b' y,below b' b→¬g.V i b' s y
def Safe (g:Gh) (M:Nat→YN) (b:YN) (s:Int) (x:Cm):Prop:=
 ∃Q,Maj Q∧(∀i∈Q,¬below (M i) b)∧((∀i∈Q,∀b' y,below b' b→¬g.V i b' s y)∨∃b0 j,below b0 b∧g.V j b0 s x∧∀i∈Q,∀b' y,below b' b→g.V i b' s y→¬below b0 b')
theorem MY.safe {g:Gh} {M:Nat→YN} {b:YN} {s:Int} (h:MY g M b s) (x:Cm):Safe g M b s x:=by
 obtain⟨Q,q,h1,h2⟩:=h;exact⟨Q,q,h1,.inl h2⟩
structure GI (S:Cm→Prop) (g:Gh) (M:Nat→YN):Prop where
 vp:∀i b s x,g.V i b s x→g.P b s x
 one:∀b s x y,g.P b s x→g.P b s y→x=y
 top:∀i b s x,g.V i b s x→¬below (M i) b
 may:∀b s x,g.P b s x→ZQ b
 safe:∀b s x,g.P b s x→Safe g M b s x
 own:∀b s x,g.P b s x→¬below (M b.n.toNat) b
 cmd:∀b s x,g.P b s x→x=By∨S x
def Uh (g:Gh) (s:Int) (x:Cm):Prop:=∃Q b,Maj Q∧∀i∈Q,g.V i b s x
theorem Uh.prop {S:Cm→Prop} {g:Gh} {M:Nat→YN} (G:GI S g M) {s:Int} {x:Cm} (hx:Uh g s x):∃b,g.P b s x:=by
 obtain⟨Q,b,q,h⟩:=hx;obtain⟨i,h1,_⟩:=q.meet q;exact⟨b,G.vp _ _ _ _ (h i h1)⟩
structure Ext (i:Nat) (g:Gh) (M:Nat→YN) (g':Gh) (M':Nat→YN):Prop where
 v:∀j b s x,g.V j b s x→g'.V j b s x
 p:∀b s x,g.P b s x→g'.P b s x
 m:∀j,¬below (M' j) (M j)
 fz:∀j b s x,g'.V j b s x→g.V j b s x∨¬below b (M j)
 oth:∀j,j≠i→M' j=M j∧∀b s x,g'.V j b s x→g.V j b s x
 own:∀b s x,g'.P b s x→g.P b s x∨b.n=i
theorem Ext.refl (i:Nat) (g:Gh) (M:Nat→YN):Ext i g M g M:=⟨fun _ _ _ _ h=>h,fun _ _ _ h=>h,fun _=>Uj _,fun _ _ _ _ h=>.inl h,fun _ _=>⟨rfl,fun _ _ _ h=>h⟩,fun _ _ _ h=>.inl h⟩
structure PF (g:Gh) (M:Nat→YN) (i:Nat) (b:YN) (vs:List Vt):Prop where
 lt:i<5
 top:¬below (M i) b
 has:∀v∈vs,g.V i v.b v.slot v.cm∧¬below b v.b
 all:∀b' s x,below b' b→g.V i b' s x→∃v∈vs,v.slot=s∧¬below v.b b'
section
variable {i:Nat} {g g':Gh} {M M':Nat→YN}
theorem Ext.frozen (E:Ext i g M g' M') {j:Nat} {b b':YN} {s:Int} {x:Cm} (h:¬below (M j) b) (hb:below b' b) (hv:g'.V j b' s x):g.V j b' s x:=by
 rcases E.fz _ _ _ _ hv with q|q
 ·exact q
 ·exact (Jw h q hb).elim
theorem PF.ext (E:Ext i g M g' M') {j:Nat} {b:YN} {vs:List Vt} (h:PF g M j b vs):PF g' M' j b vs:=
 ⟨h.lt,Jw h.top (E.m j),fun v hv=>⟨E.v _ _ _ _ (h.has v hv).1,(h.has v hv).2⟩,fun b' s x hb hv=>h.all b' s x hb (E.frozen h.top hb hv)⟩
theorem Uh.ext (E:Ext i g M g' M') {s:Int} {x:Cm} (h:Uh g s x):Uh g' s x:=by
 obtain⟨Q,b,q,h⟩:=h;exact⟨Q,b,q,fun i hi=>E.v _ _ _ _ (h i hi)⟩
theorem MY.ext (E:Ext i g M g' M') {b:YN} {s:Int} (h:MY g M b s):MY g' M' b s:=by
 obtain⟨Q,q,h1,h2⟩:=h;exact⟨Q,q,fun i hi=>Jw (h1 i hi) (E.m i),fun i hi b' y hb hv=>h2 i hi b' y hb (E.frozen (h1 i hi) hb hv)⟩
theorem Safe.ext (E:Ext i g M g' M') {b:YN} {s:Int} {x:Cm} (h:Safe g M b s x):Safe g' M' b s x:=by
 obtain⟨Q,q,h1,h2⟩:=h;refine⟨Q,q,fun i hi=>Jw (h1 i hi) (E.m i),?_⟩;rcases h2 with h2|⟨b0,j,h3,h4,h5⟩
 ·exact .inl fun i hi b' y hb hv=>h2 i hi b' y hb (E.frozen (h1 i hi) hb hv)
 ·exact .inr ⟨b0,j,h3,E.v _ _ _ _ h4,fun i hi b' y hb hv=>h5 i hi b' y hb (E.frozen (h1 i hi) hb hv)⟩
end
def Ru (M:Nat→YN) (i:Nat) (b:YN):Nat→YN:=fun j=>if j=i then b else M j
theorem raised {S:Cm→Prop} {i:Nat} {g:Gh} {M:Nat→YN} (G:GI S g M) {b:YN} (hb:¬below b (M i)):Ext i g M g (Ru M i b)∧GI S g (Ru M i b):=by
 have hm:∀j,¬below (Ru M i b j) (M j):=fun j=>by
  unfold Ru;split
  ·rename_i e;rw[e];exact hb
  ·exact Uj _
 have E:Ext i g M g (Ru M i b):=⟨fun _ _ _ _ h=>h,fun _ _ _ h=>h,hm,fun _ _ _ _ h=>.inl h,fun j hj=>⟨by unfold Ru;rw[if_neg hj],fun _ _ _ h=>h⟩,fun _ _ _ h=>.inl h⟩
 exact⟨E,G.vp,G.one,fun j c s x h=>Jw (G.top j c s x h) (hm j),G.may,fun c s x h=>(G.safe c s x h).ext E,fun c s x h=>Jw (G.own c s x h) (hm _),G.cmd⟩
def cF (g:Gh) (i:Nat) (b:YN) (s:Int) (x:Cm):Gh:=⟨fun j c t y=>g.V j c t y∨(j=i∧c=b∧t=s∧y=x),g.P⟩
theorem ZhM {S:Cm→Prop} {i:Nat} {g:Gh} {M:Nat→YN} (G:GI S g M) {b:YN} {s:Int} {x:Cm} (hp:g.P b s x) (hb:¬below b (M i)):Ext i g M (cF g i b s x) (Ru M i b)∧GI S (cF g i b s x) (Ru M i b):=by
 have hm:∀j,¬below (Ru M i b j) (M j):=fun j=>by
  unfold Ru;split
  ·rename_i e;rw[e];exact hb
  ·exact Uj _
 have E:Ext i g M (cF g i b s x) (Ru M i b):=by
  refine⟨fun _ _ _ _ h=>.inl h,fun _ _ _ h=>h,hm,fun j c t y h=>?_,fun j hj=>⟨by unfold Ru;rw[if_neg hj],fun c t y h=>?_⟩,fun _ _ _ h=>.inl h⟩
  ·rcases h with h|⟨rfl,rfl,rfl,rfl⟩
   ·exact .inl h
   ·exact .inr hb
  ·rcases h with h|⟨rfl,_⟩
   ·exact h
   ·exact (hj rfl).elim
 refine⟨E,fun j c t y h=>?_,G.one,fun j c t y h=>?_,G.may,fun c t y h=>(G.safe c t y h).ext E,fun c t y h=>Jw (G.own c t y h) (hm _),G.cmd⟩
 ·rcases h with h|⟨rfl,rfl,rfl,rfl⟩
  ·exact G.vp _ _ _ _ h
  ·exact hp
 ·rcases h with h|⟨rfl,rfl,rfl,rfl⟩
  ·exact Jw (G.top _ _ _ _ h) (hm j)
  ·unfold Ru;rw[if_pos rfl];exact Uj _
def fG (g:Gh) (b:YN) (l:List (Int × Cm)):Gh:=⟨g.V,fun c t y=>g.P c t y∨(c=b∧Yv l t=some y)⟩
theorem rZ {S:Cm→Prop} {i:Nat} {g:Gh} {M:Nat→YN} (G:GI S g M) {b:YN} {l:List (Int × Cm)} (hn:b.n=i) (hm:ZQ b) (ht:¬below (M i) b) (h1:∀t y,g.P b t y→Yv l t=some y) (h2:∀t y,Yv l t=some y→Safe g M b t y) (h3:∀t y,Yv l t=some y→y=By∨S y) :
  Ext i g M (fG g b l) M∧GI S (fG g b l) M:=by
 have E:Ext i g M (fG g b l) M:=by
  refine⟨fun _ _ _ _ h=>h,fun _ _ _ h=>.inl h,fun _=>Uj _,fun _ _ _ _ h=>.inl h,fun j hj=>⟨rfl,fun _ _ _ h=>h⟩,fun c t y h=>?_⟩;rcases h with h|⟨rfl,_⟩
  ·exact .inl h
  ·exact .inr hn
 refine⟨E,fun j c t y h=>.inl (G.vp _ _ _ _ h),fun c t y z hy hz=>?_,G.top,fun c t y h=>?_,fun c t y h=>?_,fun c t y h=>?_,fun c t y h=>?_⟩
 ·rcases hy with hy|⟨rfl,hy⟩
  ·rcases hz with hz|⟨rfl,hz⟩
   ·exact G.one _ _ _ _ hy hz
   ·have:=h1 _ _ hy;rw[hz]at this;exact (Option.some.inj this).symm
  ·rcases hz with hz|⟨_,hz⟩
   ·have:=h1 _ _ hz;rw[hy]at this;exact Option.some.inj this
   ·rw[hy]at hz;exact Option.some.inj hz
 ·rcases h with h|⟨rfl,_⟩
  ·exact G.may _ _ _ h
  ·exact hm
 ·rcases h with h|⟨rfl,h⟩
  ·exact (G.safe _ _ _ h).ext E
  ·exact (h2 _ _ h).ext E
 ·rcases h with h|⟨rfl,h⟩
  ·exact G.own _ _ _ h
  ·rw[hn];exact ht
 ·rcases h with h|⟨rfl,h⟩
  ·exact G.cmd _ _ _ h
  ·exact h3 _ _ h
theorem Ma {n:Nat} (h:n<4294967296):n/16777216%256*16777216+n/65536%256*65536+n/256%256*256+n%256=n:=by omega
theorem C6 {a:QK} {b:YN} (h:Yu a.p a.l b=0):XE a (X3 b)=some ⟨b,a.l⟩:=by
 have hb:=Rg h;obtain⟨r,m⟩:=b;unfold ZQ at hb;simp only at hb;have e1:Xf (X3 ⟨r,m⟩) 1=r.toNat:=by
  have:Xf (X3 ⟨r,m⟩) 1=r.toNat/16777216%256*16777216+r.toNat/65536%256*65536+r.toNat/256%256*256+r.toNat%256:=by simp[Xf,X3,Zr,Xb]
  rw[this];exact Ma (by omega)
 have e2:Xf (X3 ⟨r,m⟩) 5=m.toNat:=by
  have:Xf (X3 ⟨r,m⟩) 5=m.toNat/16777216%256*16777216+m.toNat/65536%256*65536+m.toNat/256%256*256+m.toNat%256:=by simp[Xf,X3,Zr,Xb]
  rw[this];exact Ma (by omega)
 have e3:(⟨((Xf (X3 ⟨r,m⟩) 1:Nat):Int),((Xf (X3 ⟨r,m⟩) 5:Nat):Int)⟩:YN)=⟨r,m⟩:=by
  rw[e1,e2,YN.mk.injEq];omega
 unfold XE;rw[if_pos ⟨rfl,rfl⟩,e3,if_pos h]
theorem sc {a:QK} {v:Vt} (h:YQ a.p a.l v=0):XE a (QJ v)=some ⟨v.b,JP a.l v⟩:=by
 have hv:=NZ h;obtain⟨s,⟨r,m⟩,k,c,q,nm,x⟩:=v;obtain⟨h1,h2,h3⟩:=hv;unfold ZQ at h2;simp only at h1 h2 h3;obtain⟨k',c',q',n',x',rfl,rfl,rfl,rfl,rfl,b1,b2,b3,b4,b5⟩:=XO h3;have f:∀(i:Nat) (n:Nat),Xf (QJ ⟨s,⟨r,m⟩,k',c',q',n',x'⟩) i=n/16777216%256*16777216+n/65536%256*65536+n/256%256*256+n%256→n<4294967296→Xf (QJ ⟨s,⟨r,m⟩,k',c',q',n',x'⟩) i=n:=fun i n e hn=>by rw[e];exact Ma hn
 have e1:=f 1 s.toNat (by simp[Xf,QJ,Zr,Xb]) (by omega);have e2:=f 5 r.toNat (by simp[Xf,QJ,Zr,Xb]) (by omega);have e3:=f 9 m.toNat (by simp[Xf,QJ,Zr,Xb]) (by omega);have e4:=f 13 k' (by simp[Xf,QJ,Zr,Xb]) (by omega);have e5:=f 17 c' (by simp[Xf,QJ,Zr,Xb]) (by omega);have e6:=f 21 q' (by simp[Xf,QJ,Zr,Xb]) (by omega);have e7:=f 25 n' (by simp[Xf,QJ,Zr,Xb]) (by omega);have e8:=f 29 x' (by simp[Xf,QJ,Zr,Xb]) (by omega);have hl:(QJ ⟨s,⟨r,m⟩,k',c',q',n',x'⟩).length=33:=rfl;obtain⟨L,hL⟩:=Zx (QJ ⟨s,⟨r,m⟩,k',c',q',n',x'⟩);have h0:L.getD 0 0=2:=by rw[hL];rfl
 rw[←hL]at e1 e2 e3 e4 e5 e6 e7 e8 hl ⊢;have d4:JC (L.drop 13)=0:=by
  unfold JC;rw[if_pos (by rw[List.length_drop];omega),JX,JX,JX,JX,JX,e4,e5,e6,e7,e8];exact h3
 have d5:Cn (L.drop 13) ⟨((Xf L 1:Nat):Int),⟨((Xf L 5:Nat):Int),((Xf L 9:Nat):Int)⟩,0,0,0,0,0⟩=⟨s,⟨r,m⟩,k',c',q',n',x'⟩:=by
  unfold Cn
  dsimp only
  rw[JX,JX,JX,JX,JX,e1,e2,e3,e4,e5,e6,e7,e8,Vt.mk.injEq,YN.mk.injEq];refine⟨by omega,⟨by omega,by omega⟩,rfl,rfl,rfl,rfl,rfl⟩
 have d6:(⟨((Xf L 5:Nat):Int),((Xf L 9:Nat):Int)⟩:YN)=⟨r,m⟩:=by rw[e2,e3,YN.mk.injEq];omega
 unfold XE;rw[if_neg (by omega),if_pos ⟨hl,h0⟩,if_neg (by rw[d4];decide),d5,d6,if_pos h]
theorem GP {d:List Nat} {a a':QK} {k k':Nat} (h:Yp d a k=some (a',k')):k<k'∧k'≤d.length:=by
 unfold Yp at h;split at h
 ·rename_i q;rw[Option.map_eq_some_iff]at h;obtain⟨x,_,e⟩:=h;simp only[Prod.mk.injEq]at e;omega
 ·cases h
theorem C7 {d e:List Nat} {k:Nat} (h:k<d.length):(d++e).getD k 0=d.getD k 0:=by
 rw[List.getD_eq_getElem?_getD,List.getD_eq_getElem?_getD,List.getElem?_append_left h]
theorem LN {d e:List Nat} {k n:Nat} (h:k+n≤d.length):((d++e).drop k).take n=(d.drop k).take n:=by
 rw[List.drop_append_of_le_length (by omega),List.take_append_of_le_length (by rw[List.length_drop];omega)]
theorem sf {d:List Nat} {a a':QK} {k k':Nat} (h:Yp d a k=some (a',k')) (e:List Nat):Yp (d++e) a k=some (a',k'):=by
 unfold Yp at h ⊢;split at h
 ·rename_i q;have q1:UB (d++e) k=UB d k:=by unfold UB;rw[C7 q.1]
  have h1:1≤UB d k:=by unfold UB;omega
  have q2:(WH (((d++e).drop k).take (UB d k))).take 4=((d++e).drop (k+UB d k)).take 4:=by
   rw[LN (by omega),LN (by omega)];exact q.2.2
  rw[q1,if_pos ⟨by rw[List.length_append];omega,by rw[List.length_append];omega,q2⟩,LN (by omega),h]
 ·cases h
theorem sj {d:List Nat} {a a':QK} {k k':Nat} (h:Yp d a k=some (a',k')) {j:Nat} (hj:k'≤j):Yp (d.take j) a k=some (a',k'):=by
 unfold Yp at h ⊢;split at h
 ·rename_i q;rw[Option.map_eq_some_iff]at h;obtain⟨x,hx,e⟩:=h;simp only[Prod.mk.injEq]at e;obtain⟨e1,e2⟩:=e;have q0:d=d.take j++d.drop j:=(List.take_append_drop j d).symm;have ql:(d.take j).length=min j d.length:=List.length_take;have q1:UB d k=UB (d.take j) k:=by
   unfold UB
   conv=>lhs;rw[q0]
   rw[C7 (by omega)]
  have hN:1≤UB d k:=by unfold UB;omega
  have m1:∀a n,a+n≤j→a+n≤d.length→(d.drop a).take n=((d.take j).drop a).take n:=fun a n h1 h2=>by
   conv=>lhs;rw[q0]
   exact LN (by omega)
  have q2:(WH (((d.take j).drop k).take (UB d k))).take 4=((d.take j).drop (k+UB d k)).take 4:=by
   rw[←m1 _ _ (by omega) (by omega),←m1 _ _ (by omega) (by omega)];exact q.2.2
  rw[←q1,if_pos ⟨by omega,by omega,q2⟩,←m1 _ _ (by omega) (by omega),hx,←e1,←e2,Option.map_some]
 ·cases h
theorem Rec.fits {l:List Nat} {a r:QK} {k j:Nat} (h:Rec l a k r j):k≤l.length→k≤j∧j≤l.length:=by
 induction h with
 | stop e=>intro h;omega
 | go e _ ih=>
  intro h;have h1:=GP e;have h2:=ih h1.2;omega
theorem Rec.app {l e:List Nat} {a r r':QK} {k j j':Nat} (h:Rec l a k r j) (h2:Rec (l++e) r j r' j'):Rec (l++e) a k r' j':=by
 induction h with
 | stop _=>exact h2
 | go s _ ih=>exact .go (sf s e) (ih h2)
theorem step_end (l:List Nat) (a:QK):Yp l a l.length=none:=by
 unfold Yp;rw[if_neg (by omega)]
theorem Rec.cut {l:List Nat} {a r:QK} {k j:Nat} (h:Rec l a k r j):k≤l.length→Rec (l.take j) a k r j:=by
 induction h with
 | stop e=>
  intro h;rename_i k;have:=step_end (l.take k) ‹QK›;rw[List.length_take,Nat.min_eq_left h]at this;exact .stop this
 | go s h2 ih=>
  intro h;have h1:=GP s;have h3:=h2.fits h1.2;exact .go (sj s h3.1) (ih h1.2)
def Whole (d:List Nat) (a:QK):Prop:=Rec d X4 0 a d.length
theorem Whole.nil:Whole [] X4:=.stop (step_end [] X4)
theorem Whole.all {d:List Nat} {a:QK} (h:Whole d a):Wu d=(a,d.length):=Re h
theorem sq (d:List Nat) {a a':QK} {f:List Nat} (hb:XE a f=some a'):Yp (d++Yo f) a d.length=some (a',(d++Yo f).length):=by
 have hl:=Uy f;have e0:Yo f=f.length :: (f++(WH (OP f)).take 4):=rfl;have hN:UB (d++Yo f) d.length=1+f.length:=by
  unfold UB;rw[List.getD_eq_getElem?_getD,List.getElem?_append_right (Nat.le_refl _),Nat.sub_self,e0];rfl
 have m1:((d++Yo f).drop d.length).take (1+f.length)=OP f:=by
  rw[List.drop_left];unfold Yo;rw[List.take_append_of_le_length (by rw[QE];omega),List.take_of_length_le (by rw[QE];omega)]
 have m2:((d++Yo f).drop (d.length+(1+f.length))).take 4=(WH (OP f)).take 4:=by
  rw[←List.drop_drop,List.drop_left];unfold Yo;rw[List.drop_append_of_le_length (by rw[QE];omega),List.drop_of_length_le (by rw[QE];omega),List.nil_append,List.take_take];rfl
 have m3:((d++Yo f).drop (d.length+1)).take (1+f.length-1)=f:=by
  rw[←List.drop_drop,List.drop_left,e0,List.drop_succ_cons,List.drop_zero,Nat.add_sub_cancel_left,List.take_append_of_le_length (Nat.le_refl _),List.take_of_length_le (Nat.le_refl _)]
 unfold Yp;rw[hN,if_pos ⟨by rw[List.length_append];omega,by rw[List.length_append];omega,by rw[m1,m2]⟩,m3,hb];simp only[Option.map_some,List.length_append,hl]
 congr 2
 omega
theorem j7 (d f:List Nat) (a:QK) {m:Nat} (hm:m<(Yo f).length):Yp (d++(Yo f).take m) a d.length=none:=by
 have hl:=Uy f;have e0:Yo f=f.length :: (f++(WH (OP f)).take 4):=rfl;have ht:((Yo f).take m).length=m:=by rw[List.length_take];omega
 unfold Yp;rw[if_neg];rintro⟨h1,h2,_⟩;rw[List.length_append,ht]at h1 h2;have hN:UB (d++(Yo f).take m) d.length=1+f.length:=by
  unfold UB;rw[List.getD_eq_getElem?_getD,List.getElem?_append_right (Nat.le_refl _),Nat.sub_self,List.getElem?_take_of_lt (by omega),e0];rfl
 omega
theorem Whole.add {d f:List Nat} {a a':QK} (h:Whole d a) (hb:XE a f=some a'):Whole (d++Yo f) a':=
 Rec.app h (.go (sq d hb) (.stop (step_end _ _)))
theorem Whole.Zrd {d f:List Nat} {a:QK} (h:Whole d a) {m:Nat} (hm:m<(Yo f).length):Rec (d++(Yo f).take m) X4 0 a d.length:=
 Rec.app h (.stop (j7 d f a hm))
def IG:Bz→QK
 | .Lf a _ _ _=>a
 | .MO a _ _=>a
 | .own a _ _=>a
structure TR (n:Nd):Prop where
 idle:n.up=true→n.ZB=none→Whole n.data n.own∧n.Xg=n.data.length
 busy:n.up=true→∀p,n.ZB=some p→∃d f,n.data=d++Yo f∧n.Xg=d.length∧Whole d n.own∧XE n.own f=some (IG p)
 down:n.up=false→n.ZB=none∧n.Xg=n.data.length∧∃a j,Rec n.data X4 0 a j
 len:n.data.length≤100000
def QV (n:Nd):QK:=if n.up=true then n.own else (Wu n.data).1
theorem sr (i:Nat):TR (blank i true [] 0 X4):=by
 refine⟨fun _ _=>⟨Whole.nil,rfl⟩,fun _ p hp=>(by cases hp),fun h=>(by cases h),by simp[blank]⟩
theorem cG {i:Nat} {n:Nd} (h:TR n) (hu:n.up=true) {Zd:Int} (hk:0≤Zd) :
  TR (crashed i n Zd)∧(crashed i n Zd).up=false∧(QV (crashed i n Zd)=n.own∨∃p,n.ZB=some p∧QV (crashed i n Zd)=IG p):=by
 have key:∀(d:List Nat) (z:Int) (a:QK) (j:Nat),d.length≤100000→z=d.length→Rec d X4 0 a j→TR (blank i false d z X4)∧(blank i false d z X4).up=false∧QV (blank i false d z X4)=a:=fun d z a j h1 h2 h3=>by
  refine⟨⟨fun e=>(by cases e),fun e=>(by cases e),fun _=>⟨rfl,h2,a,j,h3⟩,h1⟩,rfl,?_⟩;unfold QV;rw[if_neg (by simp[blank])];show (Wu d).1=a;rw[Re h3]
 cases hp:n.ZB with
 | none=>
  obtain⟨h1,h2⟩:=h.idle hu hp;have hl:=h.len;have ec:(Qu n.data n.Xg Zd).toNat=n.data.length:=by unfold Qu;rw[h2];split<;>omega
  have ez:Qu n.data n.Xg Zd=n.data.length:=by unfold Qu;rw[h2];split<;>omega
  have e:crashed i n Zd=blank i false n.data (Qu n.data n.Xg Zd) X4:=by
   unfold crashed;rw[if_pos hu,if_pos ⟨⟨hl,by omega,by omega⟩,hk⟩,ec,List.take_of_length_le (Nat.le_refl _)]
  rw[e];obtain⟨k1,k2,k3⟩:=key n.data _ n.own _ hl ez h1;exact⟨k1,k2,.inl k3⟩
 | some p=>
  obtain⟨d,f,h1,h2,h3,h4⟩:=h.busy hu p hp;have hl:=h.len;have lj:n.data.length=d.length+(Yo f).length:=by rw[h1,List.length_append]
  have c1:(d.length:Int)≤Qu n.data n.Xg Zd∧Qu n.data n.Xg Zd≤n.data.length:=by unfold Qu;rw[h2];split<;>omega
  obtain⟨C,hC⟩:∃C:Nat,Qu n.data n.Xg Zd=C:=⟨(Qu n.data n.Xg Zd).toNat,by omega⟩
  have e:crashed i n Zd=blank i false (n.data.take C) C X4:=by
   unfold crashed;rw[if_pos hu,if_pos ⟨⟨hl,by omega,by omega⟩,hk⟩,hC];rfl
  have htl:(n.data.take C).length=C:=by rw[List.length_take];omega
  rw[e];by_cases hw:C=n.data.length
  ·have et:n.data.take C=n.data:=List.take_of_length_le (by omega);rw[et];have:=h3.add h4;rw[←h1]at this;obtain⟨k1,k2,k3⟩:=key n.data C (IG p) _ hl (by omega) this;exact⟨k1,k2,.inr ⟨p,rfl,k3⟩⟩
  ·have et:n.data.take C=d++(Yo f).take (C-d.length):=by
    rw[h1,List.take_append,List.take_of_length_le (by omega)]
   have:=h3.Zrd (f:=f) (m:=C-d.length) (by omega);rw[←et]at this;obtain⟨k1,k2,k3⟩:=key (n.data.take C) C n.own _ (by omega) (by omega) this;exact⟨k1,k2,.inl k3⟩
theorem cH {i:Nat} {n:Nd} (h:TR n) (hu:n.up=false) :
  TR (started i n)∧(started i n).up=true∧(started i n).own=QV n:=by
 obtain⟨h1,h2,a,j,h3⟩:=h.down hu;have hl:=h.len;have hj:=h3.fits (Nat.zero_le _);have ea:=Re h3;have Zre:=h3.cut (Nat.zero_le _);have XW:(n.data.take j).length=j:=by rw[List.length_take];omega
 have ok:YU n.data n.Xg:=⟨hl,by omega,by omega⟩
 have eD:Ij n.data n.Xg=n.data.take j:=by unfold Ij;rw[if_pos ok,ea]
 have eN:bq n.data n.Xg=j:=by
  unfold bq;rw[if_pos ok,ea];simp only;split<;>omega
 have ok2:YU (n.data.take j) (j:Int):=⟨by omega,by omega,by omega⟩
 have hw:Whole (n.data.take j) a:=by unfold Whole;rw[XW];exact Zre
 have eo:(if YU (Ij n.data n.Xg) (bq n.data n.Xg) then (Wu (Ij n.data n.Xg)).1 else X4)=a:=by
  rw[eD,eN,if_pos ok2,hw.all]
 have e:started i n=blank i true (n.data.take j) j a:=by
  unfold started;rw[if_neg (by rw[hu];decide),eo,eD,eN]
 rw[e];refine⟨⟨fun _ _=>⟨hw,by show (j:Int)=((n.data.take j).length:Nat);omega⟩,fun _ p hp=>(by cases hp),fun h=>(by cases h),by show (n.data.take j).length≤100000;omega⟩,rfl,?_⟩;show a=QV n;unfold QV;rw[if_neg (by rw[hu];decide),ea]
theorem yD {β:Type}:∀{l:List (Int × β)} {k:Int},k∈l.map (·.1)→∃v,Yv l k=some v:=by
 intro l k h
 cases e:Yv l k with
 | some v=>exact⟨v,rfl⟩
 | none=>
  obtain⟨x,hx,rfl⟩:=List.mem_map.1 h;exact (nI e x hx rfl).elim
theorem VH.maj {β:Type} {l:List (Int × β)} (h:VH 5 l) (hm:5<2*l.length):Maj (l.map fun x=>x.1.toNat):=by
 refine⟨?_,fun i hi=>?_,by rw[List.length_map];omega⟩
 ·have:(l.map fun x=>x.1.toNat)=(l.map (·.1)).map Int.toNat:=by rw[List.map_map];rfl
  rw[this];refine List.pairwise_map.2 ?_;have h2:=h.2;have h1:=h.1;rw[List.nodup_iff_pairwise_ne]at h1;refine List.Pairwise.imp_of_mem ?_ h1;intro a b ha hb YA he;have:=h2 a ha;have:=h2 b hb;omega
 ·obtain⟨x,hx,rfl⟩:=List.mem_map.1 hi;have:=h.2 x.1 (List.mem_map.2 ⟨x,hx,rfl⟩);omega
theorem VH.back {β:Type} {l:List (Int × β)} (h:VH 5 l) {i:Nat} (hi:i∈l.map fun x=>x.1.toNat):∃v,Yv l (i:Int)=some v:=by
 obtain⟨x,hx,rfl⟩:=List.mem_map.1 hi;have:=h.2 x.1 (List.mem_map.2 ⟨x,hx,rfl⟩);have e:((x.1.toNat:Nat):Int)=x.1:=by omega
 rw[e];exact yD (List.mem_map.2 ⟨x,hx,rfl⟩)
structure AR (g:Gh) (i:Nat) (a:QK):Prop where
 has:∀v∈a.l,g.V i v.b v.slot v.cm
 all:∀b s x,g.V i b s x→∃v∈a.l,v.slot=s∧¬below v.b b
theorem AR.pf {S:Cm→Prop} {g:Gh} {M:Nat→YN} {i:Nat} {a:QK} (G:GI S g M) (h:AR g i a) (hi:i<5) (hm:M i=a.p):PF g M i a.p a.l:=
 ⟨hi,by rw[hm];exact Uj _,fun v hv=>⟨h.has v hv,by rw[←hm];exact G.top _ _ _ _ (h.has v hv)⟩,fun b' s x _ hv=>h.all b' s x hv⟩
structure RR (g:Gh) (M:Nat→YN) (i:Nat) (n:Nd) (r:JF):Prop where
 node:r.b.n=i
 may:ZQ r.b
 prom:∀j vs,Yv r.prom j=some vs→PF g M j.toNat r.b vs
 pn:r.begun=false→∀s x,¬g.P r.b s x
 pr:∀s x,g.P r.b s x→Yv r.prop s=some x
 safe:∀s x,Yv r.prop s=some x→g.P r.b s x
 free:r.begun=true→∀s:Int,(n.log.length:Int)≤s→Yv r.prop s=none→Yv n.known s=none→MY g M r.b s
 Xz:∀s K j,Yv r.Xz s=some K→Yv K j=some ()→∃x,g.V j.toNat r.b s x
def PR (g:Gh) (n:Nd):Bz→Prop
 | .Lf a to b vs=>a=⟨b,n.own.l⟩∧vs=n.own.l∧Yu n.own.p n.own.l b=0
 | .MO a to v=>a=⟨v.b,JP n.own.l v⟩∧YQ n.own.p n.own.l v=0∧g.P v.b v.slot v.cm
 | .own a vs cur=>∃b,a=⟨b,n.own.l⟩∧vs=n.own.l∧Yu n.own.p n.own.l b=0∧(cur=true→∃r,n.Zj=some r∧r.b=b)
structure LR (S:Cm→Prop) (g:Gh) (M:Nat→YN) (l:Xj):Prop where
 Lf:l.kind=1→PF g M l.JM.toNat l.b l.vs
 ask:l.kind=2→g.P l.v.b l.v.slot l.v.cm
 MO:l.kind=3→g.V l.JM.toNat l.v.b l.v.slot l.v.cm
 fwd:l.kind=4→S l.v.cm
 cho:l.kind=6→Uh g l.v.slot l.v.cm
theorem LR.plain {S:Cm→Prop} {g:Gh} {M:Nat→YN} {l:Xj} (h:l.kind=0∨l.kind=5∨l.kind=7):LR S g M l:=
 ⟨fun e=>by omega,fun e=>by omega,fun e=>by omega,fun e=>by omega,fun e=>by omega⟩
structure NR (S:Cm→Prop) (g:Gh) (M:Nat→YN) (i:Nat) (n:Nd):Prop where
 acc:AR g i (QV n)
 m:M i=(QV n).p
 tape:TR n
 ZB:∀p,n.ZB=some p→PR g n p
 known:∀s x,Yv n.known s=some x→Uh g s x
 log:∀(k:Nat) x,n.log[k]? = some x→Uh g (k:Int) x
 BF:∀x∈n.queue,S x
 Zj:∀r,n.Zj=some r→RR g M i n r
theorem Qt {n:Nd} (h:n.up=true):QV n=n.own:=by unfold QV;rw[if_pos h]
section
variable {i j:Nat} {g g':Gh} {M M':Nat→YN} {S:Cm→Prop}
theorem LR.ext (E:Ext i g M g' M') {l:Xj} (h:LR S g M l):LR S g' M' l:=
 ⟨fun e=>(h.Lf e).ext E,fun e=>E.p _ _ _ (h.ask e),fun e=>E.v _ _ _ _ (h.MO e),h.fwd,fun e=>(h.cho e).ext E⟩
theorem NR.ext (E:Ext i g M g' M') {n:Nd} (hj:j≠i) (h:NR S g M j n):NR S g' M' j n:=by
 have ho:=E.oth j hj;refine⟨⟨fun v hv=>E.v _ _ _ _ (h.acc.has v hv),fun b s x hv=>h.acc.all b s x (ho.2 _ _ _ hv)⟩,by rw[ho.1];exact h.m,h.tape,fun p hp=>?_,fun s x e=>(h.known s x e).ext E,fun k x e=>(h.log k x e).ext E,h.BF,fun r hr=>?_⟩
 ·have:=h.ZB p hp
  cases p with
  | Lf a to b vs=>exact this
  | MO a to v=>exact⟨this.1,this.2.1,E.p _ _ _ this.2.2⟩
  | own a vs cur=>exact this
 ·have R:=h.Zj r hr;have hP:∀s x,g'.P r.b s x→g.P r.b s x:=fun s x e=>by
   rcases E.own _ _ _ e with e|e
   ·exact e
   ·rw[R.node]at e;omega
  exact⟨R.node,R.may,fun k vs e=>(R.prom k vs e).ext E,fun e s x q=>R.pn e s x (hP s x q),fun s x q=>R.pr s x (hP s x q),fun s x q=>E.p _ _ _ (R.safe s x q),fun e s h1 h2 h3=>(R.free e s h1 h2 h3).ext E,fun s K k h1 h2=>by
   obtain⟨x,hx⟩:=R.Xz s K k h1 h2;exact⟨x,E.v _ _ _ _ hx⟩⟩
end
structure HR (S:Cm→Prop) (g:Gh) (M:Nat→YN) (i:Nat) (o:Out):Prop where
 n:NR S g M i o.n
 up:o.n.up=true
 ls:∀l∈o.ls,LR S g M l
section
variable {S:Cm→Prop} {g:Gh} {M:Nat→YN} {i:Nat} {n:Nd}
theorem HR.same (N:NR S g M i n) (hu:n.up=true):HR S g M i ⟨n,[],[]⟩:=⟨N,hu,fun l hl=>by cases hl⟩
theorem HR.one (N:NR S g M i n) (hu:n.up=true) {l:Xj} (hl:LR S g M l):HR S g M i ⟨n,[l],[]⟩:=⟨N,hu,fun x hx=>by
 have:x=l:=by simpa using hx
 rw[this];exact hl⟩
theorem C8 {p b:YN} {l:List Vt} (h:Yu p l b=0):¬below b p:=by
 unfold Yu at h;split at h
 ·omega
 ·split at h
  ·omega
  ·split at h
   ·omega
   ·assumption
theorem sy {p:YN} {l:List Vt} {v:Vt} (h:YQ p l v=0):¬below v.b p:=by
 unfold YQ at h;split at h
 ·omega
 ·split at h
  ·omega
  ·split at h
   ·omega
   ·assumption
theorem NR.wait (N:NR S g M i n) (hu:n.up=true) (hp:n.ZB=none) {p:Bz} {f:List Nat} (hb:XE n.own f=some (IG p)) (hl:(n.data++Yo f).length≤100000) (hr:PR g n p):NR S g M i { n with data:=n.data++Yo f,ZB:=some p }:=by
 obtain⟨h1,h2⟩:=N.tape.idle hu hp;have eA:QV { n with data:=n.data++Yo f,ZB:=some p } = QV n:=by rw[Qt hu,Qt (n:={ n with data:=n.data++Yo f,ZB:=some p }) hu]
 refine⟨by rw[eA];exact N.acc,by rw[eA];exact N.m,⟨fun _ e=>(by cases e),fun _ q hq=>?_,fun e=>?_,hl⟩,fun q hq=>?_,N.known,N.log,N.BF,fun r hr=>?_⟩
 ·cases hq
  exact⟨n.data,f,rfl,h2,h1,hb⟩
 ·rw[show ({ n with data:=n.data++Yo f,ZB:=some p }:Nd).up=n.up from rfl,hu]at e
  cases e
 ·cases hq
  cases p<;>exact hr
 ·have R:=N.Zj r hr;exact⟨R.node,R.may,R.prom,R.pn,R.pr,R.safe,R.free,R.Xz⟩
theorem cI (hi:i<5) (G:GI S g M) (N:NR S g M i n) (hu:n.up=true) (hp:n.ZB=none) (Io:n.me=i) {l:Xj}:HR S g M i (Y6 n l):=by
 have eA:=Qt hu;have Qh:=N.acc;have hM:=N.m;rw[eA]at Qh hM;unfold Y6;split
 ·exact .one N hu (.plain (.inr (.inr rfl)))
 ·rename_i c1;split
  ·rename_i c2;refine .one N hu ⟨fun _=>?_,fun e=>(by cases e),fun e=>(by cases e),fun e=>(by cases e),fun e=>(by cases e)⟩;have:=Qh.pf G hi hM;rw[c2]at this;show PF g M (((n.me:Nat):Int)).toNat l.b n.own.l;rw[Int.toNat_natCast,Io];exact this
  ·split
   ·exact .same N hu
   ·rename_i c3;have e1:Yu n.own.p n.own.l l.b=0:=by simpa using c1
    have e3:Qi n.data n.Xg l.b=0:=by simpa using c3
    refine⟨N.wait hu hp (f:=X3 l.b) (C6 e1) ?_ ⟨rfl,rfl,e1⟩,hu,fun l hl=>by cases hl⟩;rw[List.length_append,LH];exact Na e3
theorem yE (hi:i<5) (G:GI S g M) (N:NR S g M i n) (hu:n.up=true) (hp:n.ZB=none) (Io:n.me=i) {l:Xj} (L:g.P l.v.b l.v.slot l.v.cm):HR S g M i (asked n l):=by
 have eA:=Qt hu;have Qh:=N.acc;rw[eA]at Qh;unfold asked;split
 ·exact .one N hu (.plain (.inr (.inr rfl)))
 ·rename_i c1;split
  ·rename_i c2;refine .one N hu ⟨fun e=>(by cases e),fun e=>(by cases e),fun _=>?_,fun e=>(by cases e),fun e=>(by cases e)⟩;show g.V (((n.me:Nat):Int)).toNat l.v.b l.v.slot l.v.cm;rw[Int.toNat_natCast,Io];exact Qh.has _ c2
  ·split
   ·exact .same N hu
   ·rename_i c3;have e1:YQ n.own.p n.own.l l.v=0:=by simpa using c1
    have e3:Uc n.data n.Xg l.v=0:=by simpa using c3
    refine⟨N.wait hu hp (f:=QJ l.v) (sc e1) ?_ ⟨rfl,e1,L⟩,hu,fun l hl=>by cases hl⟩;rw[List.length_append,fp];exact CT e3
theorem NR.more (N:NR S g M i n) (hp:n.ZB=none) {m:Nd} (h1:m.up=n.up) (h2:m.data=n.data) (h3:m.Xg=n.Xg) (h4:m.own=n.own) (h5:m.Zj=n.Zj) (h6:m.ZB=n.ZB)
  (k1:∀s x,Yv m.known s=some x→Uh g s x) (k2:∀s,Yv m.known s=none→Yv n.known s=none) (k3:∀(k:Nat) x,m.log[k]? = some x→Uh g (k:Int) x) (k4:n.log.length≤m.log.length) (k5:∀x∈m.queue,S x):NR S g M i m:=by
 have eA:QV m=QV n:=by unfold QV;rw[h1,h2,h4]
 have T:=N.tape;refine⟨by rw[eA];exact N.acc,by rw[eA];exact N.m,⟨fun e1 e2=>?_,fun _ p e=>?_,fun e=>?_,by rw[h2];exact T.len⟩,fun p e=>?_,k1,k3,k5,fun r e=>?_⟩
 ·rw[h2,h3,h4];exact T.idle (by rw[←h1];exact e1) hp
 ·rw[h6,hp]at e;cases e
 ·rw[h2,h3,h6];exact T.down (by rw[←h1];exact e)
 ·rw[h6,hp]at e;cases e
 ·have R:=N.Zj r (by rw[←h5];exact e);exact⟨R.node,R.may,R.prom,R.pn,R.pr,R.safe,fun q s q1 q2 q3=>R.free q s (by omega) q2 (k2 s q3),R.Xz⟩
theorem sz (N:NR S g M i n) (hp:n.ZB=none) {x:Cm} (hx:Yv n.known (n.log.length:Int)=some x):NR S g M i (Wp n x):=by
 refine N.more hp rfl rfl rfl rfl rfl rfl N.known (fun s h=>h) (fun k y e=>?_) (by show n.log.length≤(n.log++[x]).length;simp) (fun y hy=>N.BF y (List.mem_filter.1 hy).1);have e:(n.log++[x])[k]? = some y:=e;rw[List.getElem?_append]at e;split at e
 ·exact N.log k y e
 ·rename_i q;have:k=n.log.length:=by
   refine Classical.byContradiction fun YA=>?_;rw[List.getElem?_eq_none (by simp;omega)]at e
   cases e
  subst this;rw[Nat.sub_self]at e
  cases e
  exact N.known _ _ hx
theorem j8:∀(k:Nat) (n:Nd),NR S g M i n→n.ZB=none→n.up=true→NR S g M i (YH k n).1∧(YH k n).1.ZB=none∧(YH k n).1.up=true:=by
 intro k
 induction k with
 | zero=>intro n N hp hu;exact⟨N,hp,hu⟩
 | succ k ih=>
  intro n N hp hu;unfold YH;split
  ·exact⟨N,hp,hu⟩
  ·rename_i x hx;exact ih _ (sz N hp hx) hp hu
theorem fH (N:NR S g M i n) (hp:n.ZB=none) (hu:n.up=true) {s:Int} {x:Cm} (hc:Uh g s x):HR S g M i (Wq n s x):=by
 have N1:NR S g M i (Ud n s x):=by
  refine N.more hp rfl rfl rfl rfl rfl rfl (fun t y e=>?_) (fun t e=>?_) N.log (Nat.le_refl _) N.BF
  ·have e:Yv (ins n.known s x) t=some y:=e;rw[JK]at e;split at e
   ·rename_i q;cases e;rw[←q];exact hc
   ·exact N.known t y e
  ·have e:Yv (ins n.known s x) t=none:=e;rw[JK]at e;split at e
   ·cases e
   ·exact e
 obtain⟨h1,_,h3⟩:=j8 ((Ud n s x).known.length+1) _ N1 hp hu;exact⟨h1,h3,fun l hl=>by cases hl⟩
theorem NR.ZhN (N:NR S g M i n) (hp:n.ZB=none) {r:JF} (R:RR g M i n r):NR S g M i { n with Zj:=some r }:=
 ⟨N.acc,N.m,⟨N.tape.idle,N.tape.busy,N.tape.down,N.tape.len⟩,fun p e=>(by rw[show ({ n with Zj:=some r }:Nd).ZB=n.ZB from rfl,hp]at e;cases e),N.known,N.log,N.BF,fun r' e=>by
  obtain rfl:=Option.some.inj e;exact⟨R.node,R.may,R.prom,R.pn,R.pr,R.safe,R.free,R.Xz⟩⟩
theorem cJ (G:GI S g M) (N:NR S g M i n) (hp:n.ZB=none) (hu:n.up=true) {C:List Cm} (NI:Qb C i n) {l:Xj} (LI:Qa C l) (L:LR S g M l) (hk:l.kind=1∨l.kind=3):HR S g M i (YE n l):=by
 unfold YE;split
 ·exact .same N hu
 ·rename_i r hr;have R:=N.Zj r hr;have RI:=NI.Zj r hr;split
  ·rename_i k1;split
   ·rename_i k2;refine .same ?_ hu;refine N.ZhN hp ⟨R.node,R.may,fun j vs e=>?_,R.pn,R.pr,R.safe,R.free,R.Xz⟩;have e:Yv (ins r.prom l.JM l.vs) j=some vs:=e;rw[JK]at e;split at e
    ·rename_i q;cases e;rw[←q];have:=L.Lf k1;rw[k2]at this;exact this
    ·exact R.prom j vs e
   ·exact .same N hu
  ·rename_i k1;have k3:l.kind=3:=by omega
   split
   ·exact .same N hu
   ·rename_i k2;have eb:l.v.b=r.b:=Classical.byContradiction fun q=>k2 q;have hv:=L.MO k3;rw[eb]at hv;have T7:∀j,Yv (Wr r l) j=some ()→∃x,g.V j.toNat r.b l.v.slot x:=fun j e=>by
     unfold Wr at e;rw[JK]at e;split at e
     ·rename_i q;rw[←q];exact⟨_,hv⟩
     ·cases q:Yv r.Xz l.v.slot with
      | none=>rw[q]at e;cases e
      | some K=>rw[q]at e;exact R.Xz _ K j q e
    have N1:NR S g M i (Lg n r l):=by
     refine N.ZhN hp ⟨R.node,R.may,R.prom,R.pn,R.pr,R.safe,R.free,fun s K j e1 e2=>?_⟩;have e1:Yv (ins r.Xz l.v.slot (Wr r l)) s=some K:=e1;rw[JK]at e1;split at e1
     ·rename_i q;cases e1;rw[←q];exact T7 j e2
     ·exact R.Xz s K j e1 e2
    split
    ·rename_i k4;refine fH N1 hp hu ?_;have KI:VH 5 (Wr r l):=by
      unfold Wr;refine VH.ins ?_ LI.JM ()
      cases q:Yv r.Xz l.v.slot with
      | none=>exact VH.nil 5
      | some K=>exact RI.Ti _ (SY q)
     refine⟨_,r.b,KI.maj k4,fun j hj=>?_⟩;obtain⟨u,hu⟩:=KI.back hj;obtain⟨x,hx⟩:=T7 j hu;rw[Int.toNat_natCast]at hx;have:=G.one _ _ _ _ (G.vp _ _ _ _ hx) (G.vp _ _ _ _ hv);rw[←this];exact hx
    ·exact .same N1 hu
theorem fI (N:NR S g M i n) (hp:n.ZB=none) (l:Xj):NR S g M i (notes n l)∧(notes n l).up=n.up:=by
 unfold notes;split
 ·exact⟨N.more hp rfl rfl rfl rfl rfl rfl N.known (fun s h=>h) N.log (Nat.le_refl _) N.BF,rfl⟩
 ·exact⟨N,rfl⟩
theorem Zas (N:NR S g M i n) {x:Cm} (hx:S x):NR S g M i (add n x)∧(add n x).up=n.up∧(add n x).ZB=n.ZB:=by
 unfold add;split
 ·exact⟨N,rfl,rfl⟩
 ·refine⟨⟨N.acc,N.m,⟨N.tape.idle,N.tape.busy,N.tape.down,N.tape.len⟩,fun p e=>?_,N.known,N.log,fun y hy=>?_,fun r e=>?_⟩,rfl,rfl⟩
  ·have:=N.ZB p e
   cases p<;>exact this
  ·rcases List.mem_append.1 hy with hy|hy
   ·exact N.BF y hy
   ·have:y=x:=by simpa using hy
    rw[this];exact hx
  ·have R:=N.Zj r e;exact⟨R.node,R.may,R.prom,R.pn,R.pr,R.safe,R.free,R.Xz⟩
theorem sA (hi:i<5) (G:GI S g M) (N:NR S g M i n) (hu:n.up=true) (hp:n.ZB=none) {C:List Cm} (NI:Qb C i n) {l:Xj} (LI:Qa C l) (L:LR S g M l):HR S g M i (handle n l):=by
 have Io:=NI.me;unfold handle;split
 ·exact cI hi G N hu hp Io
 split
 ·rename_i k;exact cJ G N hp hu NI LI L k
 split
 ·rename_i k;exact yE hi G N hu hp Io (L.ask k)
 split
 ·rename_i k;obtain⟨h1,h2,_⟩:=Zas N (L.fwd k);exact .same h1 (by rw[h2];exact hu)
 split
 ·unfold Ws;obtain⟨h1,h2⟩:=fI N hp l;split
  ·rename_i x hx;refine .one h1 (by rw[h2];exact hu) ⟨fun e=>(by cases e),fun e=>(by cases e),fun e=>(by cases e),fun e=>(by cases e),fun _=>?_⟩;exact N.known _ _ hx
  ·exact .same h1 (by rw[h2];exact hu)
 split
 ·rename_i k;exact fH N hp hu (L.cho k)
 ·obtain⟨h1,h2⟩:=fI N hp l;exact .same h1 (by rw[h2];exact hu)
theorem NR.box (N:NR S g M i n) (k:List Xj):NR S g M i { n with inbox:=k }:=
 ⟨N.acc,N.m,⟨N.tape.idle,N.tape.busy,N.tape.down,N.tape.len⟩,fun p e=>(by have:=N.ZB p e;cases p<;>exact this),N.known,N.log,N.BF,fun r e=>by
  have R:=N.Zj r e;exact⟨R.node,R.may,R.prom,R.pn,R.pr,R.safe,R.free,R.Xz⟩⟩
end
theorem cK (s:Int):∀(l:List Vt) (b:Vt),(l.foldl (QD s) b=b∨(l.foldl (QD s) b∈l∧(l.foldl (QD s) b).slot=s))∧¬below (l.foldl (QD s) b).b b.b∧∀v∈l,v.slot=s→¬below (l.foldl (QD s) b).b v.b:=by
 intro l
 induction l with
 | nil=>intro b;exact⟨.inl rfl,Uj _,fun v hv=>by cases hv⟩
 | cons x l ih=>
  intro b;obtain⟨h1,h2,h3⟩:=ih (QD s b x);rw[List.foldl_cons];have hx:¬below (QD s b x).b b.b∧(x.slot=s→¬below (QD s b x).b x.b)∧(QD s b x=b∨(QD s b x=x∧x.slot=s)):=by
   unfold QD;split
   ·rename_i q;exact⟨Zar q.2,fun _=>Uj _,.inr ⟨rfl,q.1⟩⟩
   ·rename_i q;exact⟨Uj _,fun e f=>q ⟨e,f⟩,.inl rfl⟩
  refine⟨?_,Jw hx.1 h2,fun v hv e=>?_⟩
  ·rcases h1 with h1|⟨h1,h4⟩
   ·rw[h1];rcases hx.2.2 with q|⟨q,q2⟩
    ·exact .inl q
    ·rw[q];exact .inr ⟨by simp,q2⟩
   ·exact .inr ⟨by simp[h1],h4⟩
  ·rcases List.mem_cons.1 hv with rfl|hv
   ·exact Jw (hx.2.1 e) h2
   ·exact h3 v hv e
theorem IH:∀(l:List Vt) (t:Int),t≤l.foldl (fun t v=>if t<v.slot then v.slot else t) t∧(∀v∈l,v.slot≤l.foldl (fun t v=>if t<v.slot then v.slot else t) t)∧(l.foldl (fun t v=>if t<v.slot then v.slot else t) t=t∨∃v∈l,l.foldl (fun t v=>if t<v.slot then v.slot else t) t=v.slot):=by
 intro l
 induction l with
 | nil=>intro t;exact⟨Int.le_refl _,fun v hv=>(by cases hv),.inl rfl⟩
 | cons x l ih=>
  intro t;obtain⟨h1,h2,h3⟩:=ih (if t<x.slot then x.slot else t);rw[List.foldl_cons];have hx:t≤(if t<x.slot then x.slot else t)∧x.slot≤(if t<x.slot then x.slot else t)∧((if t<x.slot then x.slot else t)=t∨(if t<x.slot then x.slot else t)=x.slot):=by
   split
   ·exact⟨by omega,by omega,.inr rfl⟩
   ·exact⟨by omega,by omega,.inl rfl⟩
  refine⟨by omega,fun v hv=>?_,?_⟩
  ·rcases List.mem_cons.1 hv with rfl|hv
   ·omega
   ·exact h2 v hv
  ·rcases h3 with h3|⟨v,hv,h3⟩
   ·rcases hx.2.2 with q|q
    ·exact .inl (by rw[h3,q])
    ·exact .inr ⟨x,by simp,by rw[h3,q]⟩
   ·exact .inr ⟨v,by simp[hv],h3⟩
theorem GQ {r:JF} {v:Vt} (h:v∈(Z5 r).flatten):∃m:Nat,m<5∧∃vs,Yv r.prom (m:Int)=some vs∧v∈vs:=by
 obtain⟨l,h1,h2⟩:=List.mem_flatten.1 h;unfold Z5 at h1;obtain⟨m,h3,rfl⟩:=List.mem_map.1 h1;rw[List.mem_range]at h3
 cases e:Yv r.prom (m:Int) with
 | none=>rw[e]at h2;cases h2
 | some vs=>rw[e]at h2;exact⟨m,h3,vs,e,h2⟩
theorem Tq {r:JF} {v:Vt} {m:Nat} (hm:m<5) {vs:List Vt} (h:Yv r.prom (m:Int)=some vs) (hv:v∈vs):v∈(Z5 r).flatten:=by
 refine List.mem_flatten.2 ⟨vs,?_,hv⟩;unfold Z5;exact List.mem_map.2 ⟨m,List.mem_range.2 hm,by rw[h];rfl⟩
theorem j9 {a:QK} (h:HE a) (hb:∀v∈a.l,¬below a.p v.b):XD a.p a.l=0:=by
 refine St ?_ (fun j hj=>?_)
 ·rintro⟨h1,h2⟩;rcases h.bal with q|q
  ·exact h1 q
  ·exact h2 q
 ·rw[OC hj];refine⟨h.Xz.1 _ (List.getElem_mem hj),hb _ (List.getElem_mem hj),?_⟩;by_cases e:j=0
  ·exact .inl e
  ·rw[S7 (j:=j-1) (by omega)];exact .inr (List.pairwise_iff_getElem.1 h.Xz.2 (j-1) j (by omega) hj (by omega))
section
variable {S:Cm→Prop} {g:Gh} {M:Nat→YN} {i:Nat} {n:Nd}
theorem GR {r:JF} (RI:PD r):∀v∈(Z5 r).flatten,Ya v:=fun v hv=>by
 obtain⟨m,_,vs,h1,h2⟩:=GQ hv;exact (RI.vs _ (SY h1)).1 v h2
theorem yF {r:JF} (RI:PD r):Pw (Z5 r).flatten≤39:=by
 obtain⟨_,_,h3⟩:=IH (Z5 r).flatten (-1);have e:Pw (Z5 r).flatten=(Z5 r).flatten.foldl (fun t v=>if t<v.slot then v.slot else t) (-1):=rfl;rcases h3 with h3|⟨v,hv,h3⟩
 ·omega
 ·have:=(GR RI v hv).1;omega
theorem kf (G:GI S g M) {r:JF} (R:RR g M i n r) (RI:PD r) (hb:r.begun=false) (hm:5<2*r.prom.length) (s:Nat) (hs:(s:Int)≤Pw (Z5 r).flatten) :
  Safe g M r.b s (SC (Z5 r) s)∧(SC (Z5 r) s=By∨S (SC (Z5 r) s)):=by
 have h39:=yF RI;have cL:=GR RI;have dV:Vf (s:Int) (Z5 r).flatten=0:=by
  unfold Vf Ua;rw[if_neg (by omega),if_pos (List.all_eq_true.2 fun v hv=>decide_eq_true (cL v hv))]
 have hpc:SC (Z5 r) s=(Q9 (s:Int) (Z5 r).flatten).cm:=by unfold SC;rw[if_pos dV]
 obtain⟨h1,_,h3⟩:=cK (s:Int) (Z5 r).flatten Tw;obtain⟨B,hB⟩:=Zx (Q9 (s:Int) (Z5 r).flatten);rw[hpc,←hB];have eB:(Z5 r).flatten.foldl (QD (s:Int)) Tw=B:=hB.symm;rw[eB]at h1 h3;have hQ:=RI.prom.maj hm;have hPF:∀i:Nat,i∈r.prom.map (fun x=>x.1.toNat)→∃vs,Yv r.prom (i:Int)=some vs∧PF g M i r.b vs:=fun i hi=>by
  obtain⟨vs,h⟩:=RI.prom.back hi;have:=R.prom _ _ h;rw[Int.toNat_natCast]at this;exact⟨vs,h,this⟩
 have FP:∀i∈r.prom.map (fun x=>x.1.toNat),¬below (M i) r.b:=fun i hi=>by
  obtain⟨vs,_,h⟩:=hPF i hi;exact h.top
 rcases h1 with h1|⟨h1,h4⟩
 ·subst h1;refine⟨⟨_,hQ,FP,.inl fun i hi b' y XH hv=>?_⟩,.inl rfl⟩;obtain⟨vs,qY,h⟩:=hPF i hi;obtain⟨v,v1,v2,_⟩:=h.all b' s y XH hv;have:=h3 v (Tq h.lt qY v1) v2;have:=(h.has v v1).1;have hvm:=cL v (Tq h.lt qY v1);have:=hvm.2.1;unfold ZQ at this;have h7:below Tw.b v.b:=by unfold below Tw;simp only;omega
  exact h3 v (Tq h.lt qY v1) v2 h7
 ·obtain⟨m,hm5,vs,e1,e2⟩:=GQ h1;have hp:=R.prom _ _ e1;rw[Int.toNat_natCast]at hp;obtain⟨p1,p2⟩:=hp.has B e2;rw[h4]at p1;have p3:below B.b r.b:=by
   refine Classical.byContradiction fun q=>?_;have:=ZcW q p2;exact R.pn hb _ _ (by rw[←this];exact G.vp _ _ _ _ p1)
  refine⟨⟨_,hQ,FP,.inr ⟨B.b,m,p3,p1,fun i hi b' y XH hv=>?_⟩⟩,G.cmd _ _ _ (G.vp _ _ _ _ p1)⟩;obtain⟨yX,qY,h⟩:=hPF i hi;obtain⟨v,v1,v2,v3⟩:=h.all b' s y XH hv;exact Jw v3 (h3 v (Tq h.lt qY v1) v2)
theorem sE {r:JF} (R:RR g M i n r) (RI:PD r) (hm:5<2*r.prom.length) {s:Int} (hs:Pw (Z5 r).flatten<s):MY g M r.b s:=by
 have hQ:=RI.prom.maj hm;obtain⟨_,h2,_⟩:=IH (Z5 r).flatten (-1);refine⟨_,hQ,fun i hi=>?_,fun i hi b' y XH hv=>?_⟩
 ·obtain⟨vs,h⟩:=RI.prom.back hi;have:=R.prom _ _ h;rw[Int.toNat_natCast]at this;exact this.top
 ·obtain⟨vs,h⟩:=RI.prom.back hi;have h:=R.prom _ _ h;rw[Int.toNat_natCast]at h;obtain⟨yX,h'⟩:=RI.prom.back hi;have h:=R.prom _ _ h';rw[Int.toNat_natCast]at h;obtain⟨v,v1,v2,_⟩:=h.all b' s y XH hv;have:=h2 v (Tq h.lt h' v1);have e:Pw (Z5 r).flatten=(Z5 r).flatten.foldl (fun t v=>if t<v.slot then v.slot else t) (-1):=rfl;omega
theorem cM (n:Nd) (LL:List (List Vt)):∀(cnt L:Nat) (pr:List (Int × Cm)),
  (∀t y,Yv ((List.range' L cnt).foldl (XT n LL) pr) t=some y→Yv pr t=some y∨∃s:Nat,L≤s∧s<L+cnt∧t=s∧y=SC LL s) ∧
  (∀s:Nat,L≤s→s<L+cnt→Yv n.known (s:Int)=none→Yv ((List.range' L cnt).foldl (XT n LL) pr) (s:Int)≠none) ∧
  (∀t,Yv pr t≠none→Yv ((List.range' L cnt).foldl (XT n LL) pr) t≠none):=by
 intro cnt
 induction cnt with
 | zero=>intro L pr;exact⟨fun t y h=>.inl h,fun s h1 h2=>(by omega),fun t h=>h⟩
 | succ cnt ih=>
  intro L pr;rw[List.range'_succ,List.foldl_cons];obtain⟨h1,h2,h3⟩:=ih (L+1) (XT n LL pr L);have hb:∀t,Yv pr t≠none→Yv (XT n LL pr L) t≠none:=fun t h=>by
   unfold XT;split
   ·rw[JK];split
    ·simp
    ·exact h
   ·exact h
  refine⟨fun t y h=>?_,fun s hs1 hs2 hk=>?_,fun t h=>h3 t (hb t h)⟩
  ·rcases h1 t y h with h|⟨s,q1,q2,q3,q4⟩
   ·unfold XT at h;split at h
    ·rw[JK]at h;split at h
     ·rename_i e;cases h;exact .inr ⟨L,by omega,by omega,e.symm,rfl⟩
     ·exact .inl h
    ·exact .inl h
   ·exact .inr ⟨s,by omega,by omega,q3,q4⟩
  ·by_cases e:s=L
   ·subst e;refine h3 _ ?_;unfold XT;rw[if_pos hk,JK,if_pos rfl];simp
   ·exact h2 s (by omega) (by omega) hk
theorem kh {n:Nd} {r:JF} {x:Cm}:∀(k s t:Nat),QS n r x k s=some t→s≤t∧t<s+k∧Yv r.prop (t:Int)=none∧Yv n.known (t:Int)=none:=by
 intro k
 induction k with
 | zero=>intro s t h;cases h
 | succ k ih=>
  intro s t h;unfold QS at h;split at h
  ·cases h
  ·split at h
   ·rename_i q;cases h;exact⟨Nat.le_refl _,by omega,q.1,q.2⟩
   ·have:=ih _ _ h;exact⟨by omega,by omega,this.2.2⟩
structure RB (S:Cm→Prop) (g:Gh) (M:Nat→YN) (n:Nd) (r r':JF):Prop where
 b:r'.b=r.b
 prom:r'.prom=r.prom
 Xz:r'.Xz=r.Xz
 begun:r'.begun=true
 kV:∀t y,g.P r.b t y→Yv r'.prop t=some y
 safe:∀t y,Yv r'.prop t=some y→Safe g M r.b t y∧(y=By∨S y)
 free:∀s:Int,(n.log.length:Int)≤s→Yv r'.prop s=none→Yv n.known s=none→MY g M r.b s
theorem RB.one {r r':JF} (h:RB S g M n r r') {x:Cm} (hx:S x):RB S g M n r (Wt n r' x):=by
 unfold Wt;split
 ·rename_i s hs;obtain⟨h1,h2,h3,h4⟩:=kh _ _ _ hs;have ho:=h.free s (by omega) h3 h4;refine⟨h.b,h.prom,h.Xz,h.begun,fun t y e=>?_,fun t y e=>?_,fun t q1 q2 q3=>?_⟩
  ·have:=h.kV t y e;show Yv (ins r'.prop (s:Int) x) t=some y;rw[JK,if_neg (fun e=>by rw[←e,h3]at this;cases this)];exact this
  ·have e:Yv (ins r'.prop (s:Int) x) t=some y:=e;rw[JK]at e;split at e
   ·rename_i q;cases e;rw[←q];exact⟨ho.safe x,.inr hx⟩
   ·exact h.safe t y e
  ·have q2:Yv (ins r'.prop (s:Int) x) t=none:=q2;rw[JK]at q2;split at q2
   ·cases q2
   ·exact h.free t q1 q2 q3
 ·exact h
theorem RB.all {r:JF}:∀(l:List Cm) (r':JF),RB S g M n r r'→(∀x∈l,S x)→RB S g M n r (JN n r' l):=by
 intro l
 induction l with
 | nil=>intro r' h _;exact h
 | cons x l ih=>intro r' h hl;exact ih _ (h.one (hl x (by simp))) (fun y hy=>hl y (by simp[hy]))
theorem sF (G:GI S g M) {r:JF} (R:RR g M i n r) (RI:PD r) (hb:r.begun=false) (hm:5<2*r.prom.length):RB S g M n r (TM n r):=by
 obtain⟨h1,h2,_⟩:=cM n (Z5 r) ((Pw (Z5 r).flatten+1).toNat-n.log.length) n.log.length r.prop;refine⟨rfl,rfl,rfl,rfl,fun t y e=>(R.pn hb _ _ e).elim,fun t y e=>?_,fun s q1 q2 q3=>?_⟩
 ·rcases h1 t y e with e|⟨s,s1,s2,rfl,rfl⟩
  ·exact (R.pn hb _ _ (R.safe _ _ e)).elim
  ·exact kf G R RI hb hm s (by omega)
 ·obtain⟨k,rfl⟩:∃k:Nat,s=k:=⟨s.toNat,by omega⟩
  by_cases hk:(k:Int)≤Pw (Z5 r).flatten
  ·exact (h2 k (by omega) (by omega) q3 q2).elim
  ·exact sE R RI hm (by omega)
theorem RR.rb (G:GI S g M) {r:JF} (R:RR g M i n r) (hb:r.begun=true):RB S g M n r r:=
 ⟨rfl,rfl,rfl,hb,R.pr,fun t y e=>⟨G.safe _ _ _ (R.safe _ _ e),G.cmd _ _ _ (R.safe _ _ e)⟩,R.free hb⟩
theorem sH (G:GI S g M) {r:JF} (R:RR g M i n r) (RI:PD r) (hm:5<2*r.prom.length) (hq:∀x∈n.queue,S x):RB S g M n r (UC n r):=by
 unfold UC;refine RB.all _ _ ?_ hq;split
 ·rename_i hb;exact R.rb G hb
 ·rename_i hb;exact sF G R RI (by simpa using hb) hm
structure SR (S:Cm→Prop) (g:Gh) (M:Nat→YN) (i:Nat) (o:Out) (g':Gh) (M':Nat→YN):Prop where
 e:Ext i g M g' M'
 gi:GI S g' M'
 h:HR S g' M' i o
theorem SR.same (G:GI S g M) {o:Out} (h:HR S g M i o):SR S g M i o g M:=⟨Ext.refl _ _ _,G,h⟩
theorem ZcY (hi:i<5) (G:GI S g M) (N:NR S g M i n) (hu:n.up=true) (hp:n.ZB=none) {C:List Cm} (NI:Qb C i n) {r:JF} (hr:n.Zj=some r):∃g' M',SR S g M i (QY n r) g' M':=by
 have eA:=Qt hu;have R:=N.Zj r hr;have RI:=NI.Zj r hr;have Qh:=N.acc;have hM:=N.m;rw[eA]at Qh hM;unfold QY;split
 ·rename_i c1;split
  ·exact⟨g,M,.same G (.same N hu)⟩
  ·rename_i c2;have ea:XD n.own.p n.own.l=0:=j9 NI.own (fun v hv=>by rw[←hM];exact G.top _ _ _ _ (Qh.has v hv));have e1:Yu n.own.p n.own.l r.b=0:=by
    unfold Yu;rw[if_neg (by rw[ea];decide),if_neg (fun h=>h R.may),if_neg (Zar c1)]
   have e3:Qi n.data n.Xg r.b=0:=by simpa using c2
   rw[if_pos e1,if_pos e1];refine⟨g,M,.same G ⟨N.wait hu hp (f:=X3 r.b) (C6 e1) ?_ ⟨r.b,rfl,rfl,e1,fun _=>⟨r,hr,rfl⟩⟩,hu,fun l hl=>by cases hl⟩⟩;rw[List.length_append,LH];exact Na e3
 ·rename_i c1;split
  ·refine⟨g,M,.same G ⟨N,hu,fun l hl=>?_⟩⟩;unfold NU at hl;obtain⟨m,_,hl⟩:=List.mem_flatMap.1 hl;split at hl
   ·rw[List.mem_singleton.1 hl];exact .plain (.inl rfl)
   ·cases hl
  ·rename_i c2;have B:=sH G R RI (by simpa using c2) N.BF;have hP:=rZ G (i:=i) (b:=r.b) (l:=(UC n r).prop) R.node R.may (by rw[hM];exact c1) B.kV (fun t y e=>(B.safe t y e).1) (fun t y e=>(B.safe t y e).2);obtain⟨E,G'⟩:=hP;obtain⟨g',IU⟩:=Zx (fG g r.b (UC n r).prop);have hV:g'.V=g.V:=by rw[IU];rfl
   have hPn:∀s x,Yv (UC n r).prop s=some x→g'.P r.b s x:=fun s x e=>by rw[IU];exact .inr ⟨rfl,e⟩
   have hPo:∀s x,g'.P r.b s x→Yv (UC n r).prop s=some x:=fun s x e=>by
    rw[IU]at e;rcases e with e|e
    ·exact B.kV s x e
    ·exact e.2
   rw[←IU]at E G';have Nn:NR S g' M i { n with Zj:=some (UC n r) }:=by
    refine⟨⟨fun v hv=>E.v _ _ _ _ (N.acc.has v hv),fun b s x hv=>N.acc.all b s x (by rw[←hV];exact hv)⟩,N.m,⟨N.tape.idle,N.tape.busy,N.tape.down,N.tape.len⟩,fun p e=>?_,fun s x e=>(N.known s x e).ext E,fun k x e=>(N.log k x e).ext E,N.BF,fun r' e=>?_⟩
    ·rw[show ({ n with Zj:=some (UC n r) }:Nd).ZB=n.ZB from rfl,hp]at e;cases e
    ·obtain rfl:=Option.some.inj e;refine⟨by rw[B.b];exact R.node,by rw[B.b];exact R.may,fun j vs q=>?_,fun q=>?_,?_,?_,?_,fun s K j q1 q2=>?_⟩
     ·rw[B.prom]at q;rw[B.b];exact (R.prom j vs q).ext E
     ·rw[B.begun]at q;cases q
     ·rw[B.b];exact hPo
     ·rw[B.b];exact hPn
     ·rw[B.b];exact fun _ s q1 q2 q3=>(B.free s q1 q2 q3).ext E
     ·rw[B.Xz]at q1;rw[B.b,hV];exact R.Xz s K j q1 q2
   refine⟨g',M,E,G',Nn,hu,fun l hl=>?_⟩;have hl:l∈OS n (UC n r):=hl;unfold OS at hl;obtain⟨s,_,hl⟩:=List.mem_flatMap.1 hl;unfold WL at hl;split at hl
   ·rename_i x hx;split at hl
    ·obtain⟨m,_,hl⟩:=List.mem_flatMap.1 hl;unfold Px at hl;split at hl
     ·obtain rfl:=List.mem_singleton.1 hl;refine⟨fun e=>(by cases e),fun _=>?_,fun e=>(by cases e),fun e=>(by cases e),fun e=>(by cases e)⟩;show g'.P (UC n r).b _ _;rw[B.b];exact hPn _ _ hx
     ·cases hl
    ·cases hl
   ·cases hl
theorem yG (N:NR S g M i n) (hp:n.ZB=none) (hu:n.up=true):NR S g M i (still n)∧(still n).ZB=none∧(still n).up=true:=by
 unfold still;split
 ·rename_i r hr;split
  ·refine⟨⟨N.acc,N.m,⟨N.tape.idle,N.tape.busy,N.tape.down,N.tape.len⟩,fun p e=>?_,N.known,N.log,N.BF,fun r' e=>by cases e⟩,hp,hu⟩;have e:n.ZB=some p:=e;rw[hp]at e;cases e
  ·exact⟨N,hp,hu⟩
 ·exact⟨N,hp,hu⟩
theorem yH (hi:i<5) (G:GI S g M) (N:NR S g M i n) (hu:n.up=true) (hp:n.ZB=none) {C:List Cm} (NI:Qb C i n):∃g' M',SR S g M i (YI n) g' M':=by
 unfold YI;split
 ·rename_i r hr;exact ZcY hi G N hu hp NI hr
 ·split
  ·refine⟨g,M,.same G ⟨N,hu,fun l hl=>?_⟩⟩;have hl:l∈Tf n:=hl;unfold Tf at hl;obtain⟨x,hx,rfl⟩:=List.mem_map.1 hl;exact⟨fun e=>(by cases e),fun e=>(by cases e),fun e=>(by cases e),fun _=>N.BF x hx,fun e=>(by cases e)⟩
  ·exact⟨g,M,.same G (.same N hu)⟩
theorem ki (n:Nd):∀l∈Vz n,LR S g M l:=fun l hl=>by
 unfold Vz at hl;split at hl
 ·rw[List.mem_singleton.1 hl];exact .plain (.inr (.inl rfl))
 ·cases hl
theorem NR.Xr (N:NR S g M i n):NR S g M i (Qg n):=
 ⟨N.acc,N.m,⟨N.tape.idle,N.tape.busy,N.tape.down,N.tape.len⟩,fun p e=>(by have:=N.ZB p e;cases p<;>exact this),N.known,N.log,N.BF,fun r e=>by
  have R:=N.Zj r e;exact⟨R.node,R.may,R.prom,R.pn,R.pr,R.safe,R.free,R.Xz⟩⟩
theorem ZcZ (hi:i<5) (G:GI S g M) (N:NR S g M i n) (hu:n.up=true) (hp:n.ZB=none) {C:List Cm} (NI:Qb C i n):∃g' M',SR S g M i (VA n) g' M':=by
 obtain⟨N1,p1,u1⟩:=yG N hp hu;obtain⟨g',M',E,G',H⟩:=yH hi G N1 u1 p1 (fw NI).1;unfold VA;split
 ·exact⟨g',M',E,G',H⟩
 ·refine⟨g',M',E,G',H.n.Xr,H.up,fun l hl=>?_⟩;rcases List.mem_append.1 hl with hl|hl
  ·exact H.ls l hl
  ·exact ki _ l hl
theorem sI (G:GI S g M) (N:NR S g M i n) (hu:n.up=true) {p:Bz} (hp:n.ZB=some p):∃g' M',Ext i g M g' M'∧GI S g' M'∧AR g' i (IG p)∧M' i=(IG p).p∧(∀b s x,g'.P b s x↔g.P b s x)∧(∀a to v,p=.MO a to v→g'.V i v.b v.slot v.cm):=by
 have eA:=Qt hu;have Qh:=N.acc;have hM:=N.m;rw[eA]at Qh hM;have hPR:=N.ZB p hp;have same:∀b,¬below b (M i)→∃g' M',Ext i g M g' M'∧GI S g' M'∧AR g' i ⟨b,n.own.l⟩∧M' i=b∧(∀b s x,g'.P b s x↔g.P b s x):=fun b hb=>by
  obtain⟨E,G'⟩:=raised G hb;exact⟨g,Ru M i b,E,G',⟨Qh.has,Qh.all⟩,by unfold Ru;rw[if_pos rfl],fun _ _ _=>Iff.rfl⟩
 cases p with
 | Lf a to b vs=>
  obtain⟨rfl,rfl,h3⟩:=hPR;obtain⟨g',M',h1,h2,h4,h5,h6⟩:=same b (by rw[hM];exact C8 h3);exact⟨g',M',h1,h2,h4,h5,h6,fun _ _ _ e=>by cases e⟩
 | own a vs cur=>
  obtain⟨b,rfl,rfl,h3,_⟩:=hPR;obtain⟨g',M',h1,h2,h4,h5,h6⟩:=same b (by rw[hM];exact C8 h3);exact⟨g',M',h1,h2,h4,h5,h6,fun _ _ _ e=>by cases e⟩
 | MO a to v=>
  obtain⟨rfl,h3,h4⟩:=hPR;have YJ:=sy h3;obtain⟨E,G'⟩:=ZhM G h4 (by rw[hM];exact YJ);refine⟨_,_,E,G',⟨fun u hu=>?_,fun b s x hv=>?_⟩,by unfold Ru;rw[if_pos rfl];rfl,fun _ _ _=>Iff.rfl,fun _ _ _ e=>by cases e;exact .inr ⟨rfl,rfl,rfl,rfl⟩⟩
  ·have hu:u∈n.own.l.filter (fun x=>decide (x.slot<v.slot))++v :: n.own.l.filter (fun x=>decide (v.slot<x.slot)):=hu;rcases List.mem_append.1 hu with hu|hu
   ·exact .inl (Qh.has u (List.mem_filter.1 hu).1)
   ·rcases List.mem_cons.1 hu with rfl|hu
    ·exact .inr ⟨rfl,rfl,rfl,rfl⟩
    ·exact .inl (Qh.has u (List.mem_filter.1 hu).1)
  ·have Zau:v∈JP n.own.l v:=by unfold JP;simp
   rcases hv with hv|⟨_,rfl,rfl,rfl⟩
   ·obtain⟨u,u1,u2,u3⟩:=Qh.all b s x hv;by_cases e:u.slot=v.slot
    ·refine⟨v,Zau,by rw[←e];exact u2,?_⟩;have:=G.top _ _ _ _ hv;rw[hM]at this;exact Jw this YJ
    ·refine⟨u,?_,u2,u3⟩;show u∈JP n.own.l v;unfold JP;rcases Int.lt_or_gt_of_ne e with q|q
     ·exact List.mem_append.2 (.inl (List.mem_filter.2 ⟨u1,by simpa using q⟩))
     ·exact List.mem_append.2 (.inr (List.mem_cons.2 (.inr (List.mem_filter.2 ⟨u1,by simpa using q⟩))))
   ·exact⟨v,Zau,rfl,Uj _⟩
theorem NR.rest (N:NR S g M i n) {g':Gh} {M':Nat→YN} (E:Ext i g M g' M') (hP:∀b s x,g'.P b s x↔g.P b s x):(∀s x,Yv n.known s=some x→Uh g' s x)∧(∀(k:Nat) x,n.log[k]? = some x→Uh g' (k:Int) x)∧∀r,n.Zj=some r→RR g' M' i n r:=by
 refine⟨fun s x e=>(N.known s x e).ext E,fun k x e=>(N.log k x e).ext E,fun r e=>?_⟩;have R:=N.Zj r e;exact⟨R.node,R.may,fun j vs q=>(R.prom j vs q).ext E,fun q s x h=>R.pn q s x ((hP _ _ _).1 h),fun s x h=>R.pr s x ((hP _ _ _).1 h),fun s x h=>(hP _ _ _).2 (R.safe s x h),fun q s q1 q2 q3=>(R.free q s q1 q2 q3).ext E,fun s K j q1 q2=>by
  obtain⟨x,hx⟩:=R.Xz s K j q1 q2;exact⟨x,E.v _ _ _ _ hx⟩⟩
theorem C9 (T:TR n) (hu:n.up=true) {p:Bz} (hp:n.ZB=some p):(synced n).data=n.data∧(synced n).Xg=n.data.length∧Whole n.data (IG p):=by
 obtain⟨d,f,h1,h2,h3,h4⟩:=T.busy hu p hp;have hl:=T.len;have ok:YU n.data n.Xg:=⟨hl,by omega,by rw[h2,h1,List.length_append];omega⟩
 refine⟨by unfold synced;simp only[if_pos ok],by unfold synced;simp only[if_pos ok],?_⟩;rw[h1];exact h3.add h4
theorem sJ (hi:i<5) (G:GI S g M) (N:NR S g M i n) (hu:n.up=true) (Io:n.me=i) {p:Bz} (hp:n.ZB=some p):∃g' M',SR S g M i (finish (synced n) p) g' M':=by
 obtain⟨g',M',E,G',A,m',hP,hvt⟩:=sI G N hu hp;obtain⟨r1,r2,r3⟩:=N.rest E hP;obtain⟨t1,t2,t3⟩:=C9 N.tape hu hp;have hPR:=N.ZB p hp;have hl:=N.tape.len;have base:∀(m:Nd),m.up=n.up→m.data=n.data→m.Xg=n.data.length→m.own=IG p→m.ZB=none→m.known=n.known→m.log=n.log→m.queue=n.queue→(∀r,m.Zj=some r→RR g' M' i m r)→NR S g' M' i m:=fun m e1 e2 e3 e4 e5 e6 e7 e8 e9=>by
  have eA:QV m=IG p:=by rw[Qt (by rw[e1];exact hu),e4]
  refine⟨by rw[eA];exact A,by rw[eA];exact m',⟨fun _ _=>⟨by rw[e2,e4];exact t3,by rw[e3,e2]⟩,fun _ q hq=>(by rw[e5]at hq;cases hq),fun h=>(by rw[e1,hu]at h;cases h),by rw[e2];exact hl⟩,fun q hq=>(by rw[e5]at hq;cases hq),by rw[e6];exact r1,by rw[e7];exact r2,by rw[e8];exact N.BF,e9⟩
 have rr:∀(m:Nd),m.known=n.known→m.log=n.log→∀r,RR g' M' i n r→RR g' M' i m r:=fun m e1 e2 r R=>⟨R.node,R.may,R.prom,R.pn,R.pr,R.safe,fun q s q1 q2 q3=>R.free q s (by rw[←e2];exact q1) q2 (by rw[←e1];exact q3),R.Xz⟩
 have pf:=A.pf G' hi m';refine⟨g',M',E,G',?_⟩
 cases p with
 | Lf a to b vs=>
  obtain⟨rfl,rfl,h3⟩:=hPR;show HR S g' M' i ⟨{ synced n with own:=⟨b,n.own.l⟩ },[⟨1,n.me,to,b,Tw,n.own.l⟩],[]⟩;refine .one (base { synced n with own:=⟨b,n.own.l⟩ } rfl t1 t2 rfl rfl rfl rfl rfl fun r e=>rr { synced n with own:=⟨b,n.own.l⟩ } rfl rfl r (r3 r e)) hu ⟨fun _=>?_,fun e=>(by cases e),fun e=>(by cases e),fun e=>(by cases e),fun e=>(by cases e)⟩;show PF g' M' (((n.me:Nat):Int)).toNat b n.own.l;rw[Int.toNat_natCast,Io];exact pf
 | MO a to v=>
  obtain⟨rfl,h3,h4⟩:=hPR;show HR S g' M' i ⟨{ synced n with own:=⟨v.b,JP n.own.l v⟩ },[⟨3,n.me,to,JE,v,[]⟩],[]⟩;refine .one (base { synced n with own:=⟨v.b,JP n.own.l v⟩ } rfl t1 t2 rfl rfl rfl rfl rfl fun r e=>rr { synced n with own:=⟨v.b,JP n.own.l v⟩ } rfl rfl r (r3 r e)) hu ⟨fun e=>(by cases e),fun e=>(by cases e),fun _=>?_,fun e=>(by cases e),fun e=>(by cases e)⟩;show g'.V (((n.me:Nat):Int)).toNat v.b v.slot v.cm;rw[Int.toNat_natCast,Io];exact hvt _ _ _ rfl
 | own a vs cur=>
  obtain⟨b,rfl,rfl,h3,h4⟩:=hPR;show HR S g' M' i ⟨{ synced n with own:=⟨b,n.own.l⟩,Zj:=if cur=true then (synced n).Zj.map (fun r=>{ r with prom:=ins r.prom (synced n).me n.own.l }) else (synced n).Zj },[],[]⟩;refine .same (base { synced n with own:=⟨b,n.own.l⟩,Zj:=if cur=true then (synced n).Zj.map (fun r=>{ r with prom:=ins r.prom (synced n).me n.own.l }) else (synced n).Zj } rfl t1 t2 rfl rfl rfl rfl rfl fun r e=>?_) hu
  cases hc:cur with
  | false=>
   have e:n.Zj=some r:=by
    have e:(if cur=true then (synced n).Zj.map (fun r=>{ r with prom:=ins r.prom (synced n).me n.own.l }) else (synced n).Zj)=some r:=e;rw[hc]at e;exact e
   refine rr ?m ?a ?b r (r3 r e)
   ·rfl
   ·rfl
  | true=>
   obtain⟨r0,hr0,kU⟩:=h4 hc;have e:(if cur=true then (synced n).Zj.map (fun r=>{ r with prom:=ins r.prom (synced n).me n.own.l }) else (synced n).Zj)=some r:=e;rw[hc,if_pos rfl,show (synced n).Zj=n.Zj from rfl,hr0]at e;obtain rfl:=Option.some.inj e;have R:=r3 r0 hr0;have R2:RR g' M' i n { r0 with prom:=ins r0.prom ((n.me:Nat):Int) n.own.l }:=by
    refine⟨R.node,R.may,fun j vs q=>?_,R.pn,R.pr,R.safe,R.free,R.Xz⟩;have q:Yv (ins r0.prom ((n.me:Nat):Int) n.own.l) j=some vs:=q;rw[JK]at q;split at q
    ·rename_i qq
     cases q
     rw[←qq,Int.toNat_natCast,Io];have:PF g' M' i b n.own.l:=pf;rw[←kU]at this;exact this
    ·exact R.prom j vs q
   exact⟨R2.node,R2.may,R2.prom,R2.pn,R2.pr,R2.safe,R2.free,R2.Xz⟩
theorem yI (hi:i<5) (G:GI S g M) {C:List Cm}:∀(k:List Xj) (n:Nd),NR S g M i n→n.up=true→n.ZB=none→Qb C i n→(∀l∈k,Qa C l∧LR S g M l) →
  HR S g M i (drain n k)∧Qb C i (drain n k).n∧(∀l∈(drain n k).n.inbox,LR S g M l):=by
 intro k
 induction k with
 | nil=>
  intro n N hu hp NI _;unfold drain;exact⟨.same (N.box []) hu,{ NI with },fun l hl=>by cases hl⟩
 | cons l k ih=>
  intro n N hu hp NI hk;unfold drain;rw[if_neg (by rw[hp];decide)];have H:=sA hi G (N.box k) hu hp (NI.inbox k) (hk l (by simp)).1 (hk l (by simp)).2;have I:=(IC hi (NI.inbox k) (hk l (by simp)).1).nd;obtain⟨m,hm⟩:=Zx ((handle { n with inbox:=k } l).n);have Hn:=H.n;have Hu:=H.up;rw[←hm]at Hn Hu I;rw[←hm];by_cases hpm:m.ZB=none
  ·obtain⟨h1,h2,h3⟩:=ih m Hn Hu hpm I (fun x hx=>hk x (by simp[hx]));refine⟨⟨h1.n,h1.up,fun x hx=>?_⟩,h2,h3⟩;rcases List.mem_append.1 hx with hx|hx
   ·exact H.ls x hx
   ·exact h1.ls x hx
  ·have hs:m.ZB.isSome=true:=by
    cases q:m.ZB with
    | none=>exact (hpm q).elim
    | some _=>rfl
   have key:(drain m k).n = { m with inbox:=k }∧(drain m k).ls=[]:=by
    cases k with
    | nil=>unfold drain;exact⟨rfl,rfl⟩
    | cons a k=>unfold drain;rw[if_pos hs];exact⟨rfl,rfl⟩
   rw[key.1,key.2];refine⟨⟨Hn.box k,Hu,fun x hx=>?_⟩,I.inbox k,fun x hx=>(hk x (by
    have hx:x∈k:=hx;simp[hx])).2⟩
   rcases List.mem_append.1 hx with hx|hx
   ·exact H.ls x hx
   ·cases hx
end
structure TS (S:Cm→Prop) (g:Gh) (M:Nat→YN) (i:Nat) (o:Out) (g':Gh) (M':Nat→YN):Prop where
 e:Ext i g M g' M'
 gi:GI S g' M'
 n:NR S g' M' i o.n
 ls:∀l∈o.ls,LR S g' M' l
 PM:∀l∈o.n.inbox,LR S g' M' l
section
variable {S:Cm→Prop} {g:Gh} {M:Nat→YN} {i:Nat} {n:Nd}
theorem TS.still (G:GI S g M) (N:NR S g M i n) (hb:∀l∈n.inbox,LR S g M l):TS S g M i ⟨n,[],[]⟩ g M:=⟨Ext.refl _ _ _,G,N,(fun l hl=>by cases hl),hb⟩
theorem Zc1 (hi:i<5) (G:GI S g M) (N:NR S g M i n) {C:List Cm} (hC:C.length≤100000) (NI:Qb C i n) (hk:∀l∈n.inbox,Qa C l∧LR S g M l):∃g' M',TS S g M i (step n) g' M':=by
 unfold step;split
 ·rename_i hu;split
  ·rename_i p hp;obtain⟨g',M',E,G',H⟩:=sJ hi G N hu NI.me hp;have qg:=(CV hi (CU NI) (NI.ZB p hp)).2.2.1;refine⟨g',M',E,G',H.n,H.ls,fun l hl=>?_⟩;rw[qg]at hl;exact (hk l hl).2.ext E
  ·rename_i hp;obtain⟨H,I,B⟩:=yI hi G n.inbox n N hu hp NI hk;split
   ·exact⟨g,M,Ext.refl _ _ _,G,H.n,H.ls,B⟩
   ·rename_i O1;have Zrh:(drain n n.inbox).n.ZB=none:=by
     cases q:(drain n n.inbox).n.ZB with
     | none=>rfl
     | some _=>rw[q]at O1;exact (O1 rfl).elim
    obtain⟨g',M',E,G',D⟩:=ZcZ hi G H.n H.up Zrh I;have qg:=(rM hi hC I).2.2.1;refine⟨g',M',E,G',D.n,fun l hl=>?_,fun l hl=>?_⟩
    ·rcases List.mem_append.1 hl with hl|hl
     ·exact (H.ls l hl).ext E
     ·exact D.ls l hl
    ·have hl:l∈(VA (drain n n.inbox).n).n.inbox:=hl;rw[qg]at hl;exact (B l hl).ext E
 ·exact⟨g,M,.still G N fun l hl=>(hk l hl).2⟩
theorem Zc2 (hi:i<5) (G:GI S g M) (N:NR S g M i n) {C:List Cm} (NI:Qb C i n):NR S g M i (lead n):=by
 unfold lead;split
 ·exact N
 ·rename_i q;have hu:n.up=true:=by
   cases e:n.up with
   | true=>rfl
   | false=>exact (q (.inl e)).elim
  have eA:=Qt hu;have hM:=N.m;rw[eA]at hM;have hr:¬65536<(XF n).r:=fun e=>q (.inr e);have ZDP:=NI.own.jV.1;have hrr:n.own.p.r<(XF n).r∧1≤(XF n).r:=by
   unfold XF;simp only;split<;>omega
  have lT:∀s x,¬g.P (XF n) s x:=fun s x h=>by
   have:=G.own _ _ _ h;rw[show (XF n).n=((n.me:Nat):Int) from rfl,Int.toNat_natCast,NI.me,hM]at this;exact this (.inl hrr.1)
  have WD:(XF n).n=i:=by rw[show (XF n).n=((n.me:Nat):Int) from rfl,NI.me]
  refine⟨N.acc,N.m,⟨fun h1 h2=>N.tape.idle h1 ?_,fun h1 p hp=>?_,fun h=>?_,N.tape.len⟩,fun p hp=>?_,N.known,N.log,N.BF,fun r e=>?_⟩
  ·have h2:Xo n.ZB=none:=h2
   cases e:n.ZB with
   | none=>rfl
   | some p=>rw[e]at h2;cases p<;>cases h2
  ·have hp:Xo n.ZB=some p:=hp
   cases e:n.ZB with
   | none=>rw[e]at hp;cases hp
   | some p0=>
    obtain⟨d,f,t1,t2,t3,t4⟩:=N.tape.busy hu p0 e;refine⟨d,f,t1,t2,t3,?_⟩;have:IG p=IG p0:=by
     rw[e]at hp
     cases p0<;>cases hp<;>rfl
    rw[this];exact t4
  ·have h:n.up=false:=h;rw[hu]at h;cases h
  ·have hp:Xo n.ZB=some p:=hp
   cases e:n.ZB with
   | none=>rw[e]at hp;cases hp
   | some p0=>
    have P:=N.ZB p0 e;rw[e]at hp
    cases p0 with
    | Lf a to b vs=>cases hp;exact P
    | MO a to v=>cases hp;exact P
    | own a vs cur=>
     cases hp
     obtain⟨b,h1,h2,h3,_⟩:=P;exact⟨b,h1,h2,h3,fun h=>by cases h⟩
  ·obtain rfl:=Option.some.inj e;exact⟨WD,⟨⟨hrr.2,by show (XF n).r≤65536;omega⟩,by show 0≤(XF n).n∧(XF n).n≤4;rw[WD];omega⟩,fun j vs h=>(by cases h),fun _ s x=>lT s x,fun s x h=>(lT s x h).elim,fun s x h=>(by cases h),fun h=>(by cases h),fun s K j h=>by cases h⟩
theorem LO {A:QK} {up:Bool} {d:List Nat} {z:Int} (Qh:AR g i (QV (blank i up d z A))) (hm:M i=(QV (blank i up d z A)).p) (ht:TR (blank i up d z A)):NR S g M i (blank i up d z A):=
 ⟨Qh,hm,ht,fun p e=>(by cases e),fun s x e=>(by cases e),fun k x e=>(by simp[blank]at e),fun x e=>(by cases e),fun r e=>by cases e⟩
theorem HF (i:Nat) (n:Nd) (Zd:Int) (hu:n.up=true):∃d z,crashed i n Zd=blank i false d z X4:=by
 unfold crashed;rw[if_pos hu];split
 ·exact⟨_,_,rfl⟩
 ·exact⟨_,_,rfl⟩
theorem kj (G:GI S g M) (N:NR S g M i n) (hb:∀l∈n.inbox,LR S g M l) {Zd:Int} (hk:0≤Zd):∃g' M',TS S g M i ⟨crashed i n Zd,[],[]⟩ g' M':=by
 cases hu:n.up with
 | false=>
  have:crashed i n Zd=n:=by unfold crashed;rw[if_neg (by rw[hu];decide)]
  rw[this];exact⟨g,M,.still G N hb⟩
 | true=>
  obtain⟨t1,t2,t3⟩:=cG N.tape hu hk (i:=i);obtain⟨d,z,e⟩:=HF i n Zd hu;rw[e]at t1 t2 t3 ⊢;have eA:=Qt hu;rcases t3 with t3|⟨p,hp,t3⟩
  ·have Qh:=N.acc;have hm:=N.m;rw[eA,←t3]at Qh hm;exact⟨g,M,.still G (LO Qh hm t1) (fun l hl=>by cases hl)⟩
  ·obtain⟨g',M',E,G',A,m',_,_⟩:=sI G N hu hp;rw[←t3]at A m';exact⟨g',M',E,G',LO A m' t1,(fun l hl=>by cases hl),fun l hl=>by cases hl⟩
theorem ko (N:NR S g M i n):NR S g M i (started i n):=by
 cases hu:n.up with
 | true=>
  have:started i n=n:=by unfold started;rw[if_pos hu]
  rw[this];exact N
 | false=>
  obtain⟨t1,t2,t3⟩:=cH N.tape hu (i:=i);have Qh:=N.acc;have hm:=N.m;have e2:=Qt t2;rw[t3]at e2;rw[←e2]at Qh hm;have e:∃d z A,started i n=blank i true d z A:=by
   unfold started;rw[if_neg (by rw[hu];decide)];exact⟨_,_,_,rfl⟩
  obtain⟨d,z,A,e⟩:=e;rw[e]at t1 Qh hm ⊢;exact LO Qh hm t1
end
structure TI (S:Cm→Prop) (g:Gh) (M:Nat→YN) (w:Wd):Prop where
 gi:GI S g M
 nd:∀i,i<5→NR S g M i (w.nodes i)
 LM:∀l∈w.Zn,LR S g M l
 PM:∀i,i<5→∀l∈(w.nodes i).inbox,LR S g M l
section
variable {S:Cm→Prop} {g:Gh} {M:Nat→YN} {w:Wd}
theorem TI.out (T:TI S g M w) {i:Nat} {o:Out} {g':Gh} {M':Nat→YN} (h:TS S g M i o g' M'):TI S g' M' (w.out i o):=by
 unfold Wd.out;refine⟨h.gi,fun j hj=>?_,fun l hl=>?_,fun j hj l hl=>?_⟩
 ·by_cases e:j=i
  ·subst e;simpa using h.n
  ·simp only[if_neg e];exact (T.nd j hj).ext h.e e
 ·rcases List.mem_append.1 hl with hl|hl
  ·exact (T.LM l hl).ext h.e
  ·exact h.ls l hl
 ·by_cases e:j=i
  ·subst e;simp only[if_true]at hl;exact h.PM l hl
  ·simp only[if_neg e]at hl;exact (T.PM j hj l hl).ext h.e
theorem cN (T:TI S g M w) {l:Xj} (hl:LR S g M l) (ht:0≤l.to∧l.to<5):TI S g M (WC w l):=by
 unfold WC;split
 ·refine⟨T.gi,fun i hi=>?_,T.LM,fun i hi x hx=>?_⟩
  ·unfold Wd.set;by_cases e:i=l.to.toNat
   ·simp only[if_pos e];rw[e];exact (T.nd _ (by omega)).box _
   ·simp only[if_neg e];exact T.nd i hi
  ·unfold Wd.set at hx;by_cases e:i=l.to.toNat
   ·simp only[if_pos e]at hx;rcases List.mem_append.1 hx with hx|hx
    ·exact T.PM _ (by omega) x hx
    ·rw[List.mem_singleton.1 hx];exact hl
   ·simp only[if_neg e]at hx;exact T.PM i hi x hx
 ·exact T
theorem yJ:∀(ls:List Xj) (w:Wd),TI S g M w→(∀l∈ls,LR S g M l∧0≤l.to∧l.to<5)→TI S g M (ls.foldl WC w):=by
 intro ls
 induction ls with
 | nil=>intro w T _;exact T
 | cons l ls ih=>intro w T h;exact ih _ (cN T (h l (by simp)).1 (h l (by simp)).2) (fun x hx=>h x (by simp[hx]))
theorem TI.Zav (T:TI S g M w) {fl:List Xj} (h:∀l∈fl,l∈w.Zn):TI S g M { w with Zn:=fl }:=⟨T.gi,T.nd,fun l hl=>T.LM l (h l hl),T.PM⟩
theorem ZhO {C:List Cm} (hC:C.length≤100000) {k:Nat} (W:WI C k w) (T:TI S g M w) (a:Ac) (hi:a.node<5) (hk:0≤a.Zd) (hS:∀now:Nat,a.kind=1→Yy a.data now=0→S (Jt a.data now)) :
  ∃g' M',(∀j b s x,g.V j b s x→g'.V j b s x)∧TI S g' M' (act w a):=by
 have same:∀{v:Wd},TI S g M v→∃g' M',(∀j b s x,g.V j b s x→g'.V j b s x)∧TI S g' M' v:=fun h=>⟨g,M,fun _ _ _ _ h=>h,h⟩
 have N:=T.nd a.node hi;have NI:=W.nd a.node hi;unfold act;split
 ·rename_i hk1;refine same ?_;unfold Py;split
  ·split
   ·exact⟨T.gi,T.nd,T.LM,T.PM⟩
   ·rename_i q;split
    ·exact⟨T.gi,T.nd,T.LM,T.PM⟩
    ·rw[Vj];have hx:=hS _ hk1 (by simpa using q);obtain⟨A,_,_⟩:=Zas N hx;have s1:(add (w.nodes a.node) (Jt a.data (w.nodes a.node).log.length)).inbox=(w.nodes a.node).inbox:=by unfold add;split<;>rfl
     refine T.out ⟨Ext.refl _ _ _,T.gi,?_,(fun l hl=>by cases hl),fun l hl=>?_⟩
     ·unfold NV;simp only;split
      ·exact A
      ·exact⟨A.acc,A.m,⟨A.tape.idle,A.tape.busy,A.tape.down,A.tape.len⟩,fun p e=>(by have:=A.ZB p e;cases p<;>exact this),A.known,A.log,A.BF,fun r e=>by
        have R:=A.Zj r e;exact⟨R.node,R.may,R.prom,R.pn,R.pr,R.safe,R.free,R.Xz⟩⟩
     ·have s2:(NV (add (w.nodes a.node) (Jt a.data (w.nodes a.node).log.length)) (Jt a.data (w.nodes a.node).log.length)).inbox=(w.nodes a.node).inbox:=by
       unfold NV;split<;>exact s1
      exact T.PM _ hi l (by rw[←s2];exact hl)
  ·exact T
 split
 ·refine same ?_;rw[Vj];refine T.out ⟨Ext.refl _ _ _,T.gi,Zc2 hi T.gi N NI,(fun l hl=>by cases hl),fun l hl=>?_⟩;have hl:l∈(lead (w.nodes a.node)).inbox:=hl;rw[(rO NI).2.1]at hl;exact T.PM _ hi l hl
 split
 ·obtain⟨g',M',h⟩:=Zc1 hi T.gi N hC NI (fun l hl=>⟨W.PM _ hi l hl,T.PM _ hi l hl⟩);exact⟨g',M',h.e.v,T.out h⟩
 split
 ·refine same ?_;unfold pick;split
  ·exact T
  ·rename_i l hl;have eG:l∈w.Zn:=List.mem_of_getElem? hl;have T2:=T.Zav (fl:=w.Zn.eraseIdx (a.at'%w.Zn.length)) (fun x hx=>List.mem_of_mem_eraseIdx hx);have ht:=(W.LM l eG).to;split
   ·split
    ·exact cN T (T.LM l eG) ht
    ·exact cN T2 (T.LM l eG) ht
   ·split
    ·exact T
    ·exact T2
 split
 ·exact same (yJ _ _ (T.Zav (fl:=[]) (fun l hl=>by cases hl)) (fun l hl=>⟨T.LM l hl,(W.LM l hl).to⟩))
 split
 ·obtain⟨g',M',h⟩:=kj T.gi N (T.PM _ hi) hk;rw[Vj];exact⟨g',M',h.e.v,T.out h⟩
 ·refine same ?_;rw[Vj];refine T.out ⟨Ext.refl _ _ _,T.gi,ko N,(fun l hl=>by cases hl),fun l hl=>?_⟩;rcases (GL NI (i:=a.node)).2 with⟨q,_⟩|q
  ·have hl:l∈(started a.node (w.nodes a.node)).inbox:=hl;rw[q]at hl;cases hl
  ·have hl:l∈(started a.node (w.nodes a.node)).inbox:=hl;rw[q]at hl;exact T.PM _ hi l hl
def gh0:Gh:=⟨fun _ _ _ _=>False,fun _ _ _=>False⟩
theorem sK:TI S gh0 (fun _=>JE) VB:=by
 refine⟨⟨fun _ _ _ _ h=>h.elim,fun _ _ _ _ h=>h.elim,fun _ _ _ _ h=>h.elim,fun _ _ _ h=>h.elim,fun _ _ _ h=>h.elim,fun _ _ _ h=>h.elim,fun _ _ _ h=>h.elim⟩,fun i hi=>?_,(fun l hl=>by cases hl),fun i hi l hl=>by cases hl⟩;exact LO ⟨fun v hv=>(by cases hv),fun _ _ _ h=>h.elim⟩ rfl (sr i)
def Zc3 (S:Cm→Prop) (C:List Cm) (a:Ac):Prop:=(a.node<5∧PI a.data∈C)∧0≤a.Zd∧∀now:Nat,a.kind=1→Yy a.data now=0→S (Jt a.data now)
theorem ZhP {C:List Cm} (hC:C.length≤100000):∀(l:List Ac) (k:Nat) (w:Wd) (g:Gh) (M:Nat→YN),WI C k w→TI S g M w→(∀a∈l,Zc3 S C a) →
  ∃g' M',(∀j b s x,g.V j b s x→g'.V j b s x)∧TI S g' M' (l.foldl act w)∧WI C (k+l.length) (l.foldl act w):=by
 intro l
 induction l with
 | nil=>intro k w g M W T _;exact⟨g,M,fun _ _ _ _ h=>h,T,W⟩
 | cons a l ih=>
  intro k w g M W T hl;obtain⟨h1,h2,h3⟩:=hl a (by simp);obtain⟨g1,M1,v1,T1⟩:=ZhO hC W T a h1.1 h2 h3;obtain⟨g2,M2,v2,T2,W2⟩:=ih (k+1) (act w a) g1 M1 (Zao hC W a h1.1 h1.2) T1 (fun x hx=>hl x (by simp[hx]));refine⟨g2,M2,fun _ _ _ _ h=>v2 _ _ _ _ (v1 _ _ _ _ h),T2,?_⟩;rw[List.length_cons,show k+(l.length+1)=k+1+l.length by omega];exact W2
theorem sL {C:List Cm} (hC:C.length≤100000) (l:List Ac) (hl:∀a∈l,Zc3 S C a) (i:Nat) (hi:i<5) (x:Cm) (hx:x∈((OT l).nodes i).log):x=By∨S x:=by
 obtain⟨g1,M1,_,T1,W1⟩:=ZhP hC l 0 VB gh0 (fun _=>JE) (IF C) sK hl;obtain⟨s,hs,rfl⟩:=List.mem_iff_getElem.1 hx;have c1:=(T1.nd i hi).log s _ (List.getElem?_eq_getElem hs);obtain⟨b,hb⟩:=c1.prop T1.gi;exact T1.gi.cmd _ _ _ hb
end
set_option maxRecDepth 100000
theorem kq (g:Gr):(Tp g).length≤63:=by
 unfold Tp ZcT;split
 ·unfold jm;have:=qd (UA (BE g).c.toNat) (Qj g.a 1000).toNat (qc (j1 g) (j2 g) 60 (BE g).k (BE g).c (BE g).s (BE g).n (BE g).v);have e:(qc (j1 g) (j2 g) 60 (BE g).k (BE g).c (BE g).s (BE g).n (BE g).v).length=42:=by
   unfold qc;rw[List.length_append,MI,ZC];rfl
  rw[List.length_cons];omega
 ·simp
theorem kr (g:Gr):(SJ g).length≤63:=by
 have:=kq g;unfold SJ;split
 ·rw[List.length_take];omega
 ·exact this
theorem sO (g:Gr) (cr:Bool):(VJ g cr).err=0:=by
 have h1:=Ug g.a (m:=5) (by omega);have h2:=Ug g.c (m:=20) (by omega);have h3:=Ug g.c (m:=90) (by omega);have h4:=kr g;have mk:∀(k n a b:Int) (len:Nat),(1≤k∧k≤9)→(YZ k∧(0≤n∧n≤4)∨¬YZ k∧n=0)→(JL k∧(0≤a∧a≤1048576)∨¬JL k∧a=0)→(k=8∧(0≤b∧b≤100000)∨k≠8∧b=0)→len≤2000→(k=1∨len=0)→QQ k n a b len=0:=fun k n a b len q1 q2 q3 q4 q5 q6=>by
  unfold YZ at q2;unfold JL at q3;unfold QQ YZ JL;rw[if_neg (by omega),if_neg (by omega),if_neg (by omega),if_neg (by omega)]
 unfold VJ
 repeat' split
 all_goals
  unfold Raw.err;refine mk _ _ _ _ _ ?_ ?_ ?_ ?_ ?_ ?_
 all_goals simp[YZ,JL]
 all_goals omega
theorem sQ (gs:List Gr) (cr:Bool):∀j,∀x∈(SL gs cr j).2,x.err=0:=by
 have key:∀(l:List Gr) (st:Nat × List Raw),(∀x∈st.2,x.err=0)→∀x∈(l.foldl (Ri cr) st).2,x.err=0:=by
  intro l
  induction l with
  | nil=>intro st h;exact h
  | cons g l ih=>
   intro st h;refine ih _ (fun x hx=>?_);unfold Ri at hx;rcases List.mem_append.1 hx with hx|hx
   ·exact h x hx
   ·rw[List.mem_singleton.1 hx];unfold SK;split
    ·rfl
    ·exact sO g cr
 intro j;exact key _ _ (fun x hx=>by cases hx)
theorem yK (gs:List Gr) (Xx:Nat) (cr:Bool):∀x∈scr gs Xx cr,x.err=0:=sQ gs cr Xx
theorem yL (gs:List Gr) (Xx:Nat) (cr:Bool):(scr gs Xx cr).length≤Xx:=by
 unfold scr;by_cases h:Xx≤gs.length
 ·rw[(Ng gs cr Xx h).1];exact Nat.le_refl _
 ·rw[C0 gs cr Xx (by omega),(Ng gs cr gs.length (Nat.le_refl _)).1];omega
theorem Ba {l:List Raw} (h:∀x∈l,x.err=0) (hl:l.length≤100000):VI l=0:=by
 unfold VI;rw[if_neg (by omega)];exact SG h
theorem yM {A:List Raw} (hA:∀x∈A,x.err=0) (hl:A.length≤100000) (i:Nat) (hi:i<5):((cE A).nodes i).log.length≤40:=by
 obtain⟨C,hC⟩:∃C,C=A.map fun x=>PI x.data:=⟨_,rfl⟩
 have wU:C.length≤100000:=by rw[hC,List.length_map];exact hl
 have:=rW wU (A.map Raw.ac) 0 VB (IF C) (fun a ha=>by
  obtain⟨z,hz,rfl⟩:=List.mem_map.1 ha;obtain⟨_,q2,_,_,_⟩:=El (hA z hz);refine⟨by unfold Raw.ac;simp only;omega,?_⟩;rw[hC];exact List.mem_map.2 ⟨z,hz,rfl⟩)
 exact (this.nd i hi).Ej
def XV (h0:Hp) (o:Ow) (g:Hp) (v:Value) (l:List Raw):Prop:=
 Kp (fun t=>t=.log 100) SI h0 o g∧∃ys,Yq ys=l∧YG o (.log 100) 58 5 g v ys.length (Zz Jv ys)∧∀y∈ys,VC o g y.2 y.1.data
theorem XV.nil (h0:Hp):XV h0 SI h0 (.slice none 0 0) []:=⟨Kp.refl (N0 h0) _,[],rfl,YG.nil _ _ _ _ _,fun y hy=>by cases hy⟩
theorem XV.isSlice {h0:Hp} {o:Ow} {g:Hp} {v:Value} {l:List Raw} (A:XV h0 o g v l):∃p c,v=.slice p l.length c∧l.length≤c:=by
 obtain⟨_,ys,hr,O,_⟩:=A;obtain⟨p,c,h,hc⟩:=O.isSlice;have:ys.length=l.length:=by rw[←hr];unfold Yq;simp
 rw[this]at h hc;exact⟨p,c,h,hc⟩
theorem XV.done {h0:Hp} {o:Ow} {g:Hp} {v:Value} {l:List Raw} (A:XV h0 o g v l):Zf h0.size h0 g∧VR v∧∃ys,Yq ys=l∧Ts Jv 5 g v ys∧∀y∈ys,VC SI g y.2 y.1.data:=by
 obtain⟨p,c,hv,hc⟩:=A.isSlice;obtain⟨K,ys,hr,O,I⟩:=A;exact⟨PH K,by rw[hv];exact hc,ys,hr,⟨O.sl⟩,fun y hy=>⟨⟨(I y hy).1.sl,(I y hy).1.fits,fun b hb=>⟨((I y hy).1.free b hb).1,rfl⟩⟩,(I y hy).2⟩⟩
theorem sR:∀(xs:List (Raw × Value)),(∀x∈xs,∃p n c,x.2=.slice p n c)→(Zz Jv xs).all Z7=true:=by
 intro xs
 induction xs with
 | nil=>intro _;rfl
 | cons x xs ih=>
  intro h;obtain⟨p,n,c,e⟩:=h x (by simp);have h2:=ih (fun y hy=>h y (by simp[hy]));rw[show Zz Jv (x :: xs)=Jv x++Zz Jv xs from rfl,List.all_append,h2];unfold Jv;rw[e];rfl
section
variable {T:World} {K:Value→Hp→Prop} {ty:TypeId} {cb:Array Bool}
theorem XV.Sn {h0:Hp} {o:Ow} {g:Hp} {v:Value} {l:List Raw} (A:XV h0 o g v l) (hl:l.length≤1000000000) (X:Raw) (q:Option Addr) (cq:Nat) (im:VC o g (.slice q X.data.length cq) X.data)
  (H:∀v' o' g',XV h0 o' g' v' (l++[X])→Kp VG o g o' g'→K v' g'):T9 Tryz.prog T .append #[31,31] ty cb [v,.slice (some ⟨g.size,0,none⟩) 1 1] K (g.push (.cells #[.int .i64 X.k,.int .i64 X.n,.int .i64 X.a,.int .i64 X.b,.slice q X.data.length cq] 58)):=by
 obtain⟨K1,ys,hr,O,I⟩:=A;have yl:ys.length=l.length:=by rw[←hr];unfold Yq;simp
 obtain⟨g6,Rt⟩:=Zx (g.push (.cells (To X.k X.n X.a X.b (.slice q X.data.length cq)).toArray 58):Hp);have k6:Kp QM o g o g6:=by rw[Rt];exact ZY K1.ZX _
 have x6:g6[g.size]? = some (.cells (To X.k X.n X.a X.b (.slice q X.data.length cq)).toArray 58):=by rw[Rt];exact Zb
 have src:Sl 5 g6 (.slice (some ⟨g.size,0,none⟩) 1 1) 1 (To X.k X.n X.a X.b (.slice q X.data.length cq)):=⟨_,1,rfl,rfl,fun _=>⟨g.size,0,rfl,fun i hi=>by
  rw[Zh x6,Yh,Nat.zero_add];exact List.getElem?_eq_getElem hi⟩⟩
 have O6:=O.Zd k6 (fun q=>q);show T9 Tryz.prog T .append #[31,31] ty cb [v,.slice (some ⟨g.size,0,none⟩) 1 1] K (g.push (.cells (To X.k X.n X.a X.b (.slice q X.data.length cq)).toArray 58));rw[←Rt];refine Jf (E:=58) (n:=5) (bytes:=56) (k:=1) nM Tryz.underlying31 Zbe Zbg rfl Zbf O6 k6.ZX src rfl (by omega) (by omega) ?_;intro v7 o7 g7 O7 k7 _;have k7:Kp (fun u=>u=.log 100) o g6 o7 g7:=k7;refine H v7 o7 g7 ⟨(K1.trans (ZF k6)).trans k7,ys++[(X,.slice q X.data.length cq)],?_,?_,fun y hy=>?_⟩ (Ye ((ZF k6).trans k7))
 ·rw[←hr];unfold Yq;simp only[List.map_append,List.map_cons,List.map_nil]
 ·have e:Zz Jv (ys++[(X,Value.slice q X.data.length cq)])=Zz Jv ys++To X.k X.n X.a X.b (.slice q X.data.length cq):=by rw[Yj,Ur];rfl
  rw[e,List.length_append];exact O7
 ·rcases List.mem_append.1 hy with hy|hy
  ·exact ((I y hy).Zd k6).Zd k7
  ·rw[List.mem_singleton.1 hy];exact (im.Zd k6).Zd k7
theorem XV.add {h0:Hp} {o:Ow} {g:Hp} {v:Value} {l:List Raw} (A:XV h0 o g v l) (hl:l.length≤1000000000) (k n a b:Int)
  (H:∀v' o' g',XV h0 o' g' v' (l++[⟨k,n,a,b,[]⟩])→K v' g'):T9 Tryz.prog T .append #[31,31] ty cb [v,.slice (some ⟨g.size,0,none⟩) 1 1] K (g.push (.cells #[.int .i64 k,.int .i64 n,.int .i64 a,.int .i64 b,.slice none 0 0] 58)):=
 A.Sn hl ⟨k,n,a,b,[]⟩ none 0 ⟨Im.nil _ 1 _ none,fun x hx=>by cases hx⟩ (fun v' o' g' A' _=>H v' o' g' A')
theorem XV.sU {h0:Hp} {o:Ow} {g:Hp} {v:Value} {l:List Raw} (A:XV h0 o g v l) (hl:l.length≤1000000000) {u:Value} {xs:List (Raw × Value)} (hu:Ts Jv 5 g u xs) (hx:∀x∈xs,VC SI h0 x.2 x.1.data) (FQ:xs.length≤1000000000)
  (H:∀v' o' g',XV h0 o' g' v' (l++Yq xs)→K v' g'):T9 Tryz.prog T .append #[31,31] ty cb [v,u] K g:=by
 obtain⟨K1,ys,hr,O,I⟩:=A;have yl:ys.length=l.length:=by rw[←hr];unfold Yq;simp
 refine Jf (E:=58) (n:=5) (bytes:=56) (k:=xs.length) nM Tryz.underlying31 Zbe Zbg rfl Zbf O K1.ZX hu.sl ?_ (by omega) (by omega) ?_
 ·exact sR xs (fun x hxm=>by
   obtain⟨p,c,e⟩:=(hx x hxm).1.isSlice;exact⟨p,_,c,e⟩)
 intro v7 o7 g7 O7 k7 _;have k7:Kp (fun u=>u=.log 100) o g o7 g7:=k7;refine H v7 o7 g7 ⟨K1.trans k7,ys++xs,?_,?_,fun y hy=>?_⟩
 ·rw[←hr];unfold Yq;rw[List.map_append]
 ·rw[Yj,List.length_append];exact O7
 ·rcases List.mem_append.1 hy with hy|hy
  ·exact (I y hy).Zd k7
  ·exact (hx y hy).Zd (K1.trans k7)
end
def Still (n m:Nd):Prop:=m.up=n.up∧m.me=n.me∧m.log=n.log
def Two (x y:Nat) (k:Int):Prop:=k=x∨k=y
section
variable {x y:Nat} {n:Nd}
end
section
variable {x y:Nat} {w:Wd}
end
theorem cO {tc tr tu k c s n v now Eo:Int} (h:T4 tc tr tu k c s n v Eo=0) (h0:0≤now) (hn:now≤Eo):T4 tc tr tu k c s n v now=0:=by
 unfold T4 at *;by_cases c1:X0 tc tr tu≠0
 ·rw[if_pos c1]at h;exact (c1 h).elim
 rw[if_neg c1]at h ⊢;by_cases c2:Yx k c s n v≠0
 ·rw[if_pos c2]at h;exact (c2 h).elim
 rw[if_neg c2]at h ⊢;by_cases c3:¬Ht k.toNat tr.toNat∨tc≠c
 ·rw[if_pos c3]at h;cases h
 rw[if_neg c3]at h ⊢;by_cases c4:Eo<0∨tu<Eo
 ·rw[if_pos c4]at h;cases h
 rw[if_neg (by omega)]
structure Zri (rc:List Nat):Prop where
 len:rc.length≠0
 key:Jm (rc.getD 0 0:Nat)=0
 take:UX (UA (rc.getD 0 0)) 0 0 Jl (rc.drop 1)=0
 plain:(Xv rc).length=42
 prv:JV Vx ((Xv rc).take 22)=0
 dec:JC ((Xv rc).drop 22)=0
 own:¬(Xq ((Xv rc).drop 22) 0≠0∧Xq ((Xv rc).drop 22) 1≠(rc.getD 0 0:Nat))
theorem Ep (rc:List Nat) (now:Int):Yy rc now=0↔Zri rc∧bj (Xv rc) now=0:=by
 unfold Yy Gv Cr Cq Cp eK
 constructor
 ·intro h;by_cases c1:rc.length=0
  ·rw[if_pos c1]at h;cases h
  rw[if_neg c1]at h;by_cases c2:Jm (rc.getD 0 0:Nat)≠0
  ·rw[if_pos c2]at h;exact (c2 h).elim
  rw[if_neg c2]at h;by_cases c3:UX (UA (rc.getD 0 0)) 0 0 Jl (rc.drop 1)≠0
  ·rw[if_pos c3]at h;exact (c3 h).elim
  rw[if_neg c3]at h;by_cases c4:(Xv rc).length≠42
  ·rw[if_pos c4]at h;cases h
  rw[if_neg c4]at h;by_cases c5:JV Vx ((Xv rc).take 22)≠0
  ·rw[if_pos c5]at h;exact (c5 h).elim
  rw[if_neg c5]at h;by_cases c6:JC ((Xv rc).drop 22)≠0
  ·rw[if_pos c6]at h;exact (c6 h).elim
  rw[if_neg c6]at h;by_cases c7:Xq ((Xv rc).drop 22) 0≠0∧Xq ((Xv rc).drop 22) 1≠(rc.getD 0 0:Nat)
  ·rw[if_pos c7]at h;cases h
  rw[if_neg c7]at h;exact⟨⟨c1,by omega,by omega,by omega,by omega,by omega,c7⟩,h⟩
 ·rintro⟨o,h⟩;rw[if_neg o.len,if_neg (fun q=>q o.key),if_neg (fun q=>q o.take),if_neg (fun q=>q o.plain),if_neg (fun q=>q o.prv),if_neg (fun q=>q o.dec),if_neg o.own];exact h
theorem Bb {d:List Nat} {now Eo:Int} (h:Yy d Eo=0) (h0:0≤now) (hn:now≤Eo):Yy d now=0∧Jt d now=Jt d Eo:=by
 have h1:Yy d now=0:=by
  obtain⟨o,a⟩:=(Ep d Eo).1 h;exact (Ep d now).2 ⟨o,cO a h0 hn⟩
 refine⟨h1,?_⟩;unfold Jt;rw[if_pos h,if_pos h1]
theorem Y1 {cs:List Value} {j:Nat} (v:Value) (i:Nat) (h:i≠j):ci (cs.set j v) i=ci cs i:=by
 unfold ci;rw[Yh,Yh,List.getElem?_set_ne (fun e=>h e.symm)]
theorem yN {cs:List Value} (h:Xi cs=false):(∀i,i<8→Pf cs i=false)∧∀i,i<8→Pg cs i=false:=by
 refine⟨fun i hi=>?_,fun i hi=>?_⟩
 ·cases e:Pf cs i with
  | false=>rfl
  | true=>rw[X7 i hi (.inl e)]at h;cases h
 ·cases e:Pg cs i with
  | false=>rfl
  | true=>rw[X7 i hi (.inr e)]at h;cases h
theorem GS {cs:List Value} (hl:cs.length=40) (hb:Xi cs=false) (k c s n v:Nat) (hk:k≤3) (hc:c≤7) (hs:s≤1048576) (hn:n≤7) (hv:v≤1073741824):Xi (Jb cs k c s n v).cells=false:=by
 obtain⟨h1,h2⟩:=yN hb;unfold Jb;split
 ·exact hb
 split
 ·exact hb
 split
 ·exact hb
 split
 ·exact hb
 have zO:(JS cs k c n v).1.length=40:=by rw[Sz,hl]
 have hai:∀j,8≤j→j<32→ci (JS cs k c n v).1 j=ci cs j:=fun j q1 q2=>LC cs k c n v hn j q1 q2;have hav:∀j,j<8→Pf (JS cs k c n v).1 j=false:=fun j hj=>by
  unfold JS;split
  ·by_cases e:j=n
   ·unfold Pf;rw[e,Jc (by omega)];simp;omega
   ·have:=h1 j hj;unfold Pf at this ⊢;rw[Y1 _ _ e];exact this
  ·split
   ·exact h1 j hj
   ·have:=h1 j hj;unfold Pf at this ⊢;rw[Y1 _ _ (by omega)];exact this
 obtain⟨A,hA⟩:=Zx ((JS cs k c n v).1);rw[←hA]at zO hai hav ⊢;refine Oo (fun i hi=>?_) (fun i hi=>?_)
 ·have:=hav i hi;unfold Pf at this ⊢;rw[Y1 _ _ (by omega),Y1 _ _ (by omega),Y1 _ _ (by omega)];exact this
 ·have:=h2 i hi;unfold Pg at this ⊢;by_cases e:i=c
  ·subst e;have e1:ci ((((A.set (8+i) (.int .i64 ((s:Int)+1))).set (16+i*2) (.int .i64 0)).set (16+i*2+1) (.int .i64 (JS cs k i n v).2))) (8+i)=(s:Int)+1:=by
    rw[Y1 _ _ (by omega),Y1 _ _ (by omega),Jc (by omega)]
   rw[e1];refine decide_eq_false ?_;omega
  ·rw[Y1 _ _ (by omega),Y1 _ _ (by omega),Y1 _ _ (by omega),Y1 _ _ (by omega),Y1 _ _ (by omega),Y1 _ _ (by omega),Y1 _ _ (by omega),Y1 _ _ (by omega),Y1 _ _ (by omega),hai _ (by omega) (by omega),hai _ (by omega) (by omega),hai _ (by omega) (by omega)];exact this
theorem cQ:∀(l:List Cm) (st:FY),ML st→Xi st.cs=false→(∀x∈l,x.err=0)→(Vw st l).1=0:=by
 intro l
 induction l with
 | nil=>intro st _ _ _;rfl
 | cons x l ih=>
  intro st ok hb hl;have he:Yx x.k x.c x.s x.n x.v=0:=hl x (by simp);have h0:QI st.cs x=0:=by
   unfold QI RN;rw[hb,if_neg (by decide)];exact he
  rw[OR h0];refine ih _ (LF ok h0).1 ?_ (fun y hy=>hl y (by simp[hy]));obtain⟨k,c,s,n,v,e1,e2,e3,e4,e5,y1,y2,y3,y4,y5⟩:=XO he;show Xi (Y5 st.cs x).cells=false;unfold Y5;rw[e1,e2,e3,e4,e5];exact GS (Z6 ok.fit) hb _ _ _ _ _ y1 y2 y3 y4 y5
theorem Bc {l:List Cm} (h:∀x∈l,x.err=0):Wn l=0:=cQ l NM LD rfl h
def II (n:Nat):Raw:=⟨9,n,0,0,[]⟩
def GU (n:Nat):Raw:=⟨3,n,0,0,[]⟩
def Wy (k:Nat):List Raw:=(List.range k).map GU
def Qd (k:Nat):List Raw:=(List.range k).map II
def IJ:List Raw:=Wy 5++[j4]
def SM (k:Nat):List Raw:=(List.replicate k IJ).flatten
def UZ (l:List Raw) (many:Nat):List Raw:=(l++Qd 5)++SM many
theorem Bd (k:Nat):Wy (k+1)=Wy k++[GU k]:=by unfold Wy;rw[List.range_succ,List.map_append];rfl
theorem Er (k:Nat):Qd (k+1)=Qd k++[II k]:=by unfold Qd;rw[List.range_succ,List.map_append];rfl
theorem IK (k:Nat):SM (k+1)=SM k++IJ:=by
 unfold SM;rw[List.replicate_succ',List.flatten_append];simp
theorem IL (k:Nat):(Wy k).length=k:=by unfold Wy;simp
theorem SN (k:Nat):(Qd k).length=k:=by unfold Qd;simp
theorem GV (k:Nat):(SM k).length=6*k:=by
 induction k with
 | zero=>rfl
 | succ k ih=>rw[IK,List.length_append,ih];unfold IJ;rw[List.length_append,IL];simp;omega
theorem Vk (l:List Raw) (k:Nat):(UZ l k).length=l.length+5+6*k:=by
 unfold UZ;rw[List.length_append,List.length_append,SN,GV]
theorem cR {k:Nat} {x:Raw} (h:x∈Qd k):∃n,n<k∧x=II n:=by
 unfold Qd at h;obtain⟨n,hn,rfl⟩:=List.mem_map.1 h;exact⟨n,List.mem_range.1 hn,rfl⟩
theorem ku {k:Nat} {x:Raw} (h:x∈Wy k):∃n,n<k∧x=GU n:=by
 unfold Wy at h;obtain⟨n,hn,rfl⟩:=List.mem_map.1 h;exact⟨n,List.mem_range.1 hn,rfl⟩
theorem sV {k:Nat} {x:Raw} (h:x∈SM k):(∃n,n<5∧x=GU n)∨x=j4:=by
 unfold SM at h;obtain⟨l,hl,hx⟩:=List.mem_flatten.1 h;rw[(List.mem_replicate.1 hl).2]at hx;unfold IJ at hx;rcases List.mem_append.1 hx with hx|hx
 ·exact .inl (ku hx)
 ·exact .inr (List.mem_singleton.1 hx)
theorem cU {l:List Raw} {k:Nat} {x:Raw} (h:x∈UZ l k):x∈l∨(∃n,n<5∧x=II n)∨(∃n,n<5∧x=GU n)∨x=j4:=by
 unfold UZ at h;rcases List.mem_append.1 h with h|h
 ·rcases List.mem_append.1 h with h|h
  ·exact .inl h
  ·exact .inr (.inl (cR h))
 ·exact .inr (.inr (sV h))
theorem kv:(∀n,n<5→(II n).err=0)∧(∀n,n<5→(GU n).err=0)∧j4.err=0:=by decide
theorem IM {l:List Raw} (h:∀x∈l,x.err=0) (k:Nat):∀x∈UZ l k,x.err=0:=fun x hx=>by
 obtain⟨e1,e2,e3⟩:=kv;rcases cU hx with hx|⟨n,hn,rfl⟩|⟨n,hn,rfl⟩|rfl
 ·exact h x hx
 ·exact e1 n hn
 ·exact e2 n hn
 ·exact e3
theorem Zc5 {A:List Raw} (hA:∀x∈A,x.err=0) {S:Cm→Prop} (hS:∀x∈A,x.k=1→∀now:Nat,Yy x.data now=0→S (Jt x.data now)) :
  ∀a∈A.map Raw.ac,Zc3 S (A.map fun x=>PI x.data) a:=fun a ha=>by
 obtain⟨z,hz,rfl⟩:=List.mem_map.1 ha;obtain⟨_,q2,_,q4,_⟩:=El (hA z hz);exact⟨⟨by unfold Raw.ac;simp only;omega,List.mem_map.2 ⟨z,hz,rfl⟩⟩,q4.1,fun now hk h=>hS z hz hk now h⟩
theorem ky {A:List Raw} (hA:∀x∈A,x.err=0) (hl:A.length≤100000) {i:Nat} (hi:i<5) {x:Cm} (hx:x∈((cE A).nodes i).log):x=By∨∃a∈A,a.k=1∧Yy a.data 0=0∧x=Jt a.data 0:=by
 have ok:=Zc5 hA (S:=fun x=>∃a∈A,a.k=1∧Yy a.data 0=0∧x=Jt a.data 0) (fun z hz hk now h=>by
  obtain⟨q1,q2⟩:=Bb h (now:=0) (by omega) (by omega);exact⟨z,hz,hk,q1,q2.symm⟩)
 exact sL (by rw[List.length_map];exact hl) (A.map Raw.ac) ok i hi x hx
theorem yO {rc:List Nat} {now:Int} (h:Yy rc now=0):(Jt rc now).err=0:=by
 obtain⟨o,_⟩:=(Ep rc now).1 h;have hd:=o.dec;unfold Jt;rw[if_pos h];unfold Js.err;simp only;unfold JC at hd;rw[if_pos (by rw[List.length_drop,o.plain])]at hd;exact hd
theorem sW {A:List Raw} (hA:∀x∈A,x.err=0) (hl:A.length≤100000) {i:Nat} (hi:i<5) {x:Cm} (hx:x∈((cE A).nodes i).log):x.err=0:=by
 rcases ky hA hl hi hx with rfl|⟨a,_,_,h,rfl⟩
 ·rfl
 ·exact yO h
theorem yP {α β:Type} {R:α→β→Prop} {l:List α} {k:List β} (s:Dm R l k):∀(i:Nat) (h1:i<l.length) (h2:i<k.length),R l[i] k[i]:=by
 induction s with
 | nil=>intro i h1;cases h1
 | cons a _ ih=>
  intro i h1 h2
  cases i with
  | zero=>exact a
  | succ i=>exact ih i (by simpa using h1) (by simpa using h2)
def ZhQ (w:Wd):List (List Cm):=[(w.nodes 0).log,(w.nodes 1).log,(w.nodes 2).log,(w.nodes 3).log,(w.nodes 4).log]
theorem kA (w:Wd) (i:Nat) (hi:i<5):(ZhQ w)[i]'hi=(w.nodes i).log:=by
 match i,hi with
 | 0,_=>rfl
 | 1,_=>rfl
 | 2,_=>rfl
 | 3,_=>rfl
 | 4,_=>rfl
theorem cj.log {h:Hp} {R:List Value} {w:Wd} {lv tv:Value} {vs:List Value} (s:cj h R w lv tv vs):∃b o c,lv=.slice (some ⟨b,o,none⟩) 5 c∧b<h.size∧∀n,n<5→∃x,hc h ⟨b,o+n,none⟩=some x∧Ts Js.C 5 h x (w.nodes n).log:=by
 have vl:vs.length=5:=fF s.each;obtain⟨p,c,rfl,YS⟩:=s.ZhB.open (n:=1) (enc:=fun v=>[v]) (fun _=>rfl) (show (1:Nat)≠0 by decide);obtain⟨b,o,rfl,hb,hh⟩:=YS (by intro e;rw[e]at vl;cases vl);refine⟨b,o,c,by rw[vl],hb,fun n hn=>⟨vs[n],?_,?_⟩⟩
 ·have:=hh n (by omega);have:=this.hc (i:=0) rfl;rw[Nat.mul_one]at this;exact this
 ·have:=yP s.each n (by omega) hn;rw[show ([(w.nodes 0).log,(w.nodes 1).log,(w.nodes 2).log,(w.nodes 3).log,(w.nodes 4).log]:List (List Cm))[n]'hn=(w.nodes n).log from kA w n hn]at this;exact this
set_option maxHeartbeats 4000000 in
theorem IN (T:World) (h:Hp) (v:Value) (xs:List (Raw × Value)) (many:Nat) (hv:Ts Jv 5 h v xs) (hx:∀x∈xs,VC SI h x.2 x.1.data) (FQ:xs.length≤1000000) (hm:many≤1000000) :
  Zc Tryz.prog T 6 #[v,.int .i64 many] h fun v' h'=>∃o,XV h o h' v' (UZ (Yq xs) many):=by
 have rl:(Yq xs).length=xs.length:=by unfold Yq;simp
 refine Zc.Zk (args:=[_,_]) Tryz.func6 rfl rfl rfl rfl ?_;simp -implicitDefEqProofs only[go_sem,↓reduceIte];refine (XV.nil h).sU (by simp) hv hx (by omega) ?_;intro v1 o1 g1 A1;rw[List.nil_append]at A1;simp -implicitDefEqProofs only[go_sem,↓reduceIte];refine VS.ZW (fun F g=>F 1=.int .i64 many∧∃(n:Nat) (o:Ow),n≤5∧F 6=.int .i64 n∧XV h o g (F 5) (Yq xs++Qd n))
  (fun F _=>5-(vi (F 6)).toNat) rfl ⟨rfl,0,o1,by omega,rfl,by rw[show Qd 0=[] from rfl,List.append_nil];exact A1⟩ ?_
 rintro F2 g2 ⟨f1,n,o2,hn,f6,A2⟩;obtain⟨p2,c2,f5,_⟩:=A2.isSlice;by_cases ZD:n<5
 ·have ZL:(n:Int)<5:=by omega
  rw[f5]at A2;simp -implicitDefEqProofs only[go_sem,↓reduceIte,f1,f5,f6,ZL];refine A2.add (by rw[List.length_append,SN];omega) 9 n 0 0 ?_;intro v3 o3 g3 A3;simp -implicitDefEqProofs only[go_sem,↓reduceIte,f6];unfold Yt;refine⟨⟨f1,n+1,o3,ZD,rfl,?_⟩,?_⟩
  ·rw[Er,←List.append_assoc];exact A3
  ·simp only[vi,Zi,↓reduceIte,f6];omega
 have YJ:¬(n:Int)<5:=by omega
 obtain rfl:n=5:=by omega
 simp -implicitDefEqProofs only[go_sem,↓reduceIte,f1,f6];refine VS.ZW (fun F g=>F 1=.int .i64 many∧∃(i:Nat) (o:Ow),i≤many∧F 7=.int .i64 i∧XV h o g (F 5) ((Yq xs++Qd 5)++SM i))
  (fun F _=>many-(vi (F 7)).toNat) rfl ⟨f1,0,o2,by omega,rfl,by rw[show SM 0=[] from rfl,List.append_nil];exact A2⟩ ?_
 clear f1 f5 f6 A2;rintro F3 g3 ⟨f1,i,o3,hi,f7,A3⟩;by_cases ZD:i<many
 ·have ZL:(i:Int)<many:=by omega
  simp -implicitDefEqProofs only[go_sem,↓reduceIte,f1,f7,ZL];refine VS.ZW (fun F g=>(F 1=.int .i64 many∧F 7=.int .i64 i)∧∃(n:Nat) (o:Ow),n≤5∧F 8=.int .i64 n∧XV h o g (F 5) (((Yq xs++Qd 5)++SM i)++Wy n))
   (fun F _=>5-(vi (F 8)).toNat) rfl ⟨⟨f1,f7⟩,0,o3,by omega,rfl,by rw[show Wy 0=[] from rfl,List.append_nil];exact A3⟩ ?_
  clear f1 f7 A3;rintro F4 g4 ⟨⟨f1,f7⟩,n,o4,hn,f8,A4⟩;obtain⟨p4,c4,f5,_⟩:=A4.isSlice;rw[f5]at A4;have hlen:(((Yq xs++Qd 5)++SM i)++Wy n).length≤100000000:=by
   rw[List.length_append,List.length_append,List.length_append,SN,GV,IL];omega
  by_cases hn5:n<5
  ·have ZhR:(n:Int)<5:=by omega
   simp -implicitDefEqProofs only[go_sem,↓reduceIte,f1,f5,f7,f8,ZhR];refine A4.add (by omega) 3 n 0 0 ?_;intro v5 o5 g5 A5;simp -implicitDefEqProofs only[go_sem,↓reduceIte,f8];unfold Yt;refine⟨⟨⟨f1,f7⟩,n+1,o5,hn5,rfl,?_⟩,?_⟩
   ·rw[Bd,←List.append_assoc];exact A5
   ·simp only[vi,Zi,↓reduceIte,f8];omega
  ·have ZhR:¬(n:Int)<5:=by omega
   obtain rfl:n=5:=by omega
   simp -implicitDefEqProofs only[go_sem,↓reduceIte,f1,f5,f7,f8];refine A4.add (by omega) 7 0 0 0 ?_;intro v5 o5 g5 A5;simp -implicitDefEqProofs only[go_sem,↓reduceIte,f7];unfold Yt;refine⟨⟨f1,i+1,o5,ZD,rfl,?_⟩,?_⟩
   ·rw[IK];unfold IJ;rw[←List.append_assoc,←List.append_assoc];exact A5
   ·simp only[vi,Zi,↓reduceIte,f7];omega
 ·have YJ:¬(i:Int)<many:=by omega
  obtain rfl:i=many:=by omega
  obtain⟨p3,c3,f5,_⟩:=A3.isSlice;simp -implicitDefEqProofs only[go_sem,↓reduceIte,f1,f5,f7,YJ];rw[f5]at A3;exact⟨_,A3⟩
theorem kC (T:World) (h:Hp) (v:Value) (xs:List (Raw × Value)) (many:Nat) (hv:Ts Jv 5 h v xs) (hx:∀x∈xs,VC SI h x.2 x.1.data) (FQ:xs.length≤1000000) (hm:many≤1000000) :
  Zc Tryz.prog T 6 #[v,.int .i64 many] h fun v' h'=>Zf h.size h h'∧VR v'∧∃ys,Yq ys=UZ (Yq xs) many∧Ts Jv 5 h' v' ys∧∀y∈ys,VC SI h' y.2 y.1.data:=
 (IN T h v xs many hv hx FQ hm).mono fun v' h' ⟨_,A⟩=>A.done
def Tt (w:Wd):Nat→List Cm
 | 0=>[]
 | n+1=>if (Tt w n).length<(w.nodes n).log.length then (w.nodes n).log else Tt w n
def lng (w:Wd):List Cm:=Tt w 5
theorem kD (w:Wd):∀n,Tt w n=[]∨∃i,i<n∧Tt w n=(w.nodes i).log:=by
 intro n
 induction n with
 | zero=>exact .inl rfl
 | succ n ih=>
  unfold Tt;split
  ·exact .inr ⟨n,by omega,rfl⟩
  ·rcases ih with h|⟨i,hi,h⟩
   ·exact .inl h
   ·exact .inr ⟨i,by omega,h⟩
theorem fJ (w:Wd):lng w=[]∨∃i,i<5∧lng w=(w.nodes i).log:=kD w 5
structure Zrj (R:List Value):Prop where
 len:R.length=13
 one:R.all Z7=true
 put:Yw [Value.int .i64 0,.bool false,.bool false,.bool false,.bool false,.bool false,.slice none 0 0,.int .i64 0,.int .i64 0,.int .i64 0,.int .i64 0,.int .i64 0,.slice none 0 0] 0 R=R
 le:R.length≤13
 take:R.take 13=R
theorem cj.ok {h:Hp} {w:Wd} {lv tv:Value} {vs:List Value} (ra:cj h (bZ w lv tv) w lv tv vs):Zrj (bZ w lv tv)∧(∃b o c,lv=.slice (some ⟨b,o,none⟩) 5 c)∧∃p c,tv=.slice p w.told.length c:=by
 obtain⟨b,o,c,hl,_,_⟩:=ra.log;obtain⟨pt,ct,ht,_⟩:=ra.told.open (n:=5) (enc:=Il) (fun _=>rfl) (show (5:Nat)≠0 by decide);subst hl;subst ht;exact⟨⟨rfl,rfl,ZJ rfl,Nat.le_refl 13,rfl⟩,⟨b,o,c,rfl⟩,pt,ct,rfl⟩
theorem cV (T:World) (h:Hp) (w:Wd) (lv tv:Value) (vs:List Value) (ra:cj h (bZ w lv tv) w lv tv vs) :
  Zc Tryz.prog T 11 #[.agg (bZ w lv tv).toArray] h fun v' h'=>Ts Js.C 5 h' v' (lng w)∧Zf h.size h h':=by
 obtain⟨b,o,c,rfl,hb,hx⟩:=ra.log;obtain⟨R,hR⟩:=Zx (bZ w (.slice (some ⟨b,o,none⟩) 5 c) tv);rw[←hR];refine Zc.Zk (args:=[_]) Tryz.func11 rfl rfl rfl rfl ?_;obtain⟨h1,YK⟩:=Zx (h.push (.cells R.toArray 28):Hp);have e1:=YK.symm;have b1:Zf h.size h h1:=by rw[YK];exact (Zf.refl _ _).add _
 have y1:h1[h.size]? = some (.cells R.toArray 28):=by rw[YK];exact Zb
 have r6:hc h1 ⟨h.size,6,none⟩=some (.slice (some ⟨b,o,none⟩) 5 c):=by rw[Zh y1,hR];rfl
 have ly:=Za y1;simp -implicitDefEqProofs only[go_sem,↓reduceIte,e1];refine VS.ZW (fun F g=>g=h1∧F 1=.pointer (some ⟨h.size,0,none⟩)∧∃n:Nat,n≤5∧F 4=.int .i64 n∧Ts Js.C 5 h1 (F 3) (Tt w n))
  (fun F _=>5-(vi (F 4)).toNat) rfl ⟨rfl,rfl,0,by omega,rfl,⟨(Qv.nil 0 0 5 h1).sl⟩⟩ ?_
 rintro F2 g2 ⟨rfl,f1,n,hn,f4,t3⟩;obtain⟨p3,c3,f3,_⟩:=JY t3;by_cases ZD:n<5
 ·have ZL:(n:Int)<5:=by omega
  obtain⟨x,rx,tx⟩:=hx n ZD;obtain⟨px,cx,rfl,_⟩:=JY tx;have rx2:hc g2 ⟨b,o+n,none⟩=some (.slice px (w.nodes n).log.length cx):=by rw[b1.hc (by exact hb)];exact rx
  have tx2:=tx.Z2 b1;by_cases hgt:((w.nodes n).log.length:Int)>(Tt w n).length
  ·simp -implicitDefEqProofs only[go_sem,↓reduceIte,f1,f3,f4,r6,ZL,rx2,hgt];unfold Yt;refine⟨⟨rfl,f1,n+1,ZD,rfl,?_⟩,?_⟩
   ·have e:Tt w (n+1)=(w.nodes n).log:=by rw[Tt,if_pos (by omega)]
    rw[e];exact tx2
   ·simp only[vi,Zi,↓reduceIte,f4];omega
  ·simp -implicitDefEqProofs only[go_sem,↓reduceIte,f1,f3,f4,r6,ZL,rx2,hgt];unfold Yt;refine⟨⟨rfl,f1,n+1,ZD,rfl,?_⟩,?_⟩
   ·have e:Tt w (n+1)=Tt w n:=by rw[Tt,if_neg (by omega)]
    rw[e];exact t3
   ·simp only[vi,Zi,↓reduceIte,f4];omega
 ·have YJ:¬(n:Int)<5:=by omega
  obtain rfl:n=5:=by omega
  rw[f3]at t3;simp -implicitDefEqProofs only[go_sem,↓reduceIte,f1,f3,f4,r6];exact⟨t3,b1⟩
def Zc6 (n:Nat):Raw:=⟨2,n,0,0,[]⟩
def sX (k:Int):Prop:=k=1∨k=2∨k=6∨k=8
instance (k:Int):Decidable (sX k):=by unfold sX;infer_instance
def manyN (l:List Raw):Nat→Nat
 | 0=>100
 | i+1=>match l[i]? with
  | some x=>if sX x.k then manyN l i+20 else manyN l i
  | none=>manyN l i
theorem Be (l:List Raw):∀i,manyN l i≤100+20*i:=by
 intro i
 induction i with
 | zero=>exact Nat.le_refl _
 | succ i ih=>
  unfold manyN
  cases l[i]? with
  | none=>simp only;omega
  | some x=>simp only;split<;>omega
def fK (l:List Raw) (n many:Nat):List Raw:=UZ (UZ l 0++[Zc6 n]) many
def TT (l:List Raw) (n many:Nat):Nat→List Raw
 | 0=>l
 | k+1=>fK (TT l n many k) n many
def Jx (l:List Raw) (n:Nat):List Raw:=TT l n (manyN l l.length) 2
theorem kE (l:List Raw) (n many:Nat):(fK l n many).length=l.length+11+6*many:=by
 unfold fK;rw[Vk,List.length_append,Vk,List.length_singleton]
theorem IP (l:List Raw) (n many k:Nat):(TT l n many k).length=l.length+k*(11+6*many):=by
 induction k with
 | zero=>simp[TT]
 | succ k ih=>rw[TT,kE,ih,Nat.add_mul k 1 (11+6*many),Nat.one_mul];omega
theorem yQ {n:Nat} (h:n<5):(Zc6 n).err=0:=by
 have:∀n<5,(Zc6 n).err=0:=by decide
 exact this n h
theorem kF {l:List Raw} (h:∀x∈l,x.err=0) {n:Nat} (hn:n<5) (many k:Nat):∀x∈TT l n many k,x.err=0:=by
 induction k with
 | zero=>exact h
 | succ k ih=>
  unfold TT fK;refine IM (fun x hx=>?_) many;rcases List.mem_append.1 hx with hx|hx
  ·exact IM ih 0 x hx
  ·rw[List.mem_singleton.1 hx];exact yQ hn
theorem Bf {l:List Raw} (h:∀x∈l,x.err=0) {n:Nat} (hn:n<5):∀x∈Jx l n,x.err=0:=kF h hn _ 2
theorem Bi {l:List Raw} {n b:Nat} (h:l.length≤b):(Jx l n).length≤b+2*(11+6*(100+20*b)):=by
 unfold Jx;rw[IP];have:=Be l l.length;omega
set_option maxHeartbeats 4000000 in
theorem Bj (T:World) (h:Hp) (v:Value) (xs:List (Raw × Value)) (n:Nat) (hn:n<5) (hv:Ts Jv 5 h v xs) (hx:∀x∈xs,VC SI h x.2 x.1.data) (FQ:xs.length≤1000) :
  Zc Tryz.prog T 9 #[v,.int .i64 n] h fun v' h'=>Zf h.size h h'∧VR v'∧∃ys,Yq ys=Jx (Yq xs) n∧Ts Jv 5 h' v' ys∧∀y∈ys,VC SI h' y.2 y.1.data:=by
 have rl:(Yq xs).length=xs.length:=by unfold Yq;simp
 obtain⟨p,c,rfl,YS⟩:=hv.open Nc (by decide);refine Zc.Zk (args:=[_,_]) Tryz.func9 rfl rfl rfl rfl ?_;simp -implicitDefEqProofs only[go_sem,↓reduceIte];refine VS.ZW (fun F g=>g=h∧F 0=.slice p xs.length c∧F 1=.int .i64 n∧∃i:Nat,i≤xs.length∧F 6=.int .i64 i∧F 5=.int .i64 (manyN (Yq xs) i))
  (fun F _=>xs.length-(vi (F 6)).toNat) rfl ⟨rfl,rfl,rfl,0,Nat.zero_le _,rfl,rfl⟩ ?_
 rintro F g ⟨rfl,f0,f1,i,hi,f6,f5⟩;have eI:=Be (Yq xs) i;obtain⟨M,hM⟩:=Zx (manyN (Yq xs) i);rw[←hM]at f5 eI;by_cases ZD:i<xs.length
 ·have ZL:(i:Int)<xs.length:=by omega
  obtain⟨bs,os,rfl,dz,O3⟩:=YS (by intro e;rw[e]at ZD;simp at ZD);obtain⟨x,S6⟩:=Zx (xs[i]);have ca:YY g bs (os+i*5) (Jv x):=by rw[S6];exact O3 i ZD
  have r0:hc g ⟨bs,os+i*5,none⟩=some (.int .i64 x.1.k):=ca.hc (i:=0) rfl;have hxr:(Yq xs)[i]? = some x.1:=by unfold Yq;rw[List.getElem?_map,List.getElem?_eq_getElem ZD,←S6];rfl
  have sY:sX x.1.k→manyN (Yq xs) (i+1)=M+20:=fun q=>by rw[manyN,hxr];simp only;rw[if_pos q,hM]
  have lT:¬sX x.1.k→manyN (Yq xs) (i+1)=M:=fun q=>by rw[manyN,hxr];simp only;rw[if_neg q,hM]
  obtain⟨M',hM'⟩:=Zx (manyN (Yq xs) (i+1));rw[←hM']at sY lT;by_cases q1:x.1.k=1
  ·have hb:=sY (.inl q1);simp -implicitDefEqProofs only[go_sem,↓reduceIte,f0,f1,f5,f6,ZL,r0,q1];unfold Yt;refine⟨⟨rfl,f0,f1,i+1,ZD,rfl,?_⟩,?_⟩
   ·rw[←hM',hb];rfl
   ·simp only[vi,Zi,↓reduceIte,f6];omega
  by_cases q2:x.1.k=2
  ·have hb:=sY (.inr (.inl q2));simp -implicitDefEqProofs only[go_sem,↓reduceIte,f0,f1,f5,f6,ZL,r0,q2];unfold Yt;refine⟨⟨rfl,f0,f1,i+1,ZD,rfl,?_⟩,?_⟩
   ·rw[←hM',hb];rfl
   ·simp only[vi,Zi,↓reduceIte,f6];omega
  by_cases q3:x.1.k=6
  ·have hb:=sY (.inr (.inr (.inl q3)));simp -implicitDefEqProofs only[go_sem,↓reduceIte,f0,f1,f5,f6,ZL,r0,q3];unfold Yt;refine⟨⟨rfl,f0,f1,i+1,ZD,rfl,?_⟩,?_⟩
   ·rw[←hM',hb];rfl
   ·simp only[vi,Zi,↓reduceIte,f6];omega
  by_cases q4:x.1.k=8
  ·have hb:=sY (.inr (.inr (.inr q4)));simp -implicitDefEqProofs only[go_sem,↓reduceIte,f0,f1,f5,f6,ZL,r0,q4];unfold Yt;refine⟨⟨rfl,f0,f1,i+1,ZD,rfl,?_⟩,?_⟩
   ·rw[←hM',hb];rfl
   ·simp only[vi,Zi,↓reduceIte,f6];omega
  ·have hb:=lT (by rintro (q|q|q|q)<;>contradiction);simp -implicitDefEqProofs only[go_sem,↓reduceIte,f0,f1,f5,f6,ZL,r0,q1,q2,q3,q4];unfold Yt;refine⟨⟨rfl,f0,f1,i+1,ZD,rfl,?_⟩,?_⟩
   ·rw[←hM',hb];exact f5
   ·simp only[vi,Zi,↓reduceIte,f6];omega
 have YJ:¬(i:Int)<xs.length:=by omega
 obtain rfl:i=xs.length:=by omega
 have hMM:Jx (Yq xs) n=TT (Yq xs) n M 2:=by unfold Jx;rw[rl,hM]
 rw[hMM];clear hM;simp -implicitDefEqProofs only[go_sem,↓reduceIte,f0,f6,YJ];refine (XV.nil g).sU (by simp) hv hx (by omega) ?_;intro v1 o1 g1 A1;rw[List.nil_append]at A1;obtain⟨B1,C1,ys,ay,t1,i1⟩:=A1.done;simp -implicitDefEqProofs only[go_sem,↓reduceIte,f1,f5];refine VS.ZW (fun F2 g2=>F2 1=.int .i64 n∧F2 5=.int .i64 M∧∃k:Nat,k≤2∧F2 8=.int .i64 k∧Zf g.size g g2∧VR (F2 7)∧∃ys,Yq ys=TT (Yq xs) n M k∧Ts Jv 5 g2 (F2 7) ys∧∀y∈ys,VC SI g2 y.2 y.1.data)
  (fun F2 _=>2-(vi (F2 8)).toNat) rfl ⟨f1,f5,0,by omega,rfl,B1,C1,ys,ay,t1,i1⟩ ?_
 clear f0 f1 f5 f6 A1 B1 C1 ay t1 i1;rintro F2 g2 ⟨f1,f5,k,hk,f8,B2,C2,ys2,hr2,t2,i2⟩;have yl:ys2.length=xs.length+k*(11+6*M):=by
  have:=congrArg List.length hr2;rw[IP,rl]at this;rw[←this];unfold Yq;simp
 have zS:k*(11+6*M)≤2*(11+6*M):=Nat.mul_le_mul_right _ hk;obtain⟨p2,c2,f7,_⟩:=t2.open Nc (by decide);by_cases hk2:k<2
 ·have Zc7:(k:Int)<2:=by omega
  rw[f7]at t2;simp -implicitDefEqProofs only[go_sem,↓reduceIte,f1,f5,f7,f8,Zc7];refine (IN T g2 _ ys2 0 t2 i2 (by omega) (by omega)).use ?_;rintro v3 g3 ⟨o3,A3⟩;obtain⟨p3,c3,rfl,_⟩:=A3.isSlice;have B3:=A3.done.1;simp -implicitDefEqProofs only[go_sem,↓reduceIte,f1,f5,f8];refine A3.add (by rw[Vk];unfold Yq;rw[List.length_map];omega) 2 n 0 0 ?_;intro v4 o4 g4 A4;obtain⟨B4,C4,ys4,hr4,t4,i4⟩:=A4.done;have yl4:ys4.length=ys2.length+6:=by
   have:=congrArg List.length hr4;rw[List.length_append,Vk]at this;unfold Yq at this;simp only[List.length_map,List.length_singleton]at this;omega
  simp -implicitDefEqProofs only[go_sem,↓reduceIte,f1,f5,f8];refine (kC T g4 _ ys4 M t4 i4 (by omega) (by omega)).use ?_;rintro v5 g5 ⟨B5,C5,ys5,hr5,t5,i5⟩;simp -implicitDefEqProofs only[go_sem,↓reduceIte,f8];unfold Yt;refine⟨⟨f1,f5,k+1,hk2,rfl,?_,C5,ys5,?_,t5,i5⟩,?_⟩
  ·exact B2.trans ((B4.trans (B5.mono B4.size)).mono B2.size)
  ·rw[hr5,hr4,hr2];rfl
  ·simp only[vi,Zi,↓reduceIte,f8];omega
 ·have Zc7:¬(k:Int)<2:=by omega
  obtain rfl:k=2:=by omega
  simp -implicitDefEqProofs only[go_sem,↓reduceIte,f7,f8,Zc7];rw[f7]at t2 C2;exact⟨B2,C2,ys2,hr2,t2,i2⟩
def PJ (seen:List Td) (e:Td):Bool:=seen.all fun d=>decide (d.x.c≠e.x.c)||decide (d.x.s<e.x.s)||decide (d.x.k=0)||decide (d.a≠0)
def IQ (seen:List Td) (e:Td) (vs:List Int):List Int:=if e.a=0∧PJ seen e=true∧e.x.k=1 then vs.set e.x.n.toNat e.x.v else vs
def Rv (es:List Td):Nat→List Int
 | 0=>List.replicate 8 0
 | i+1=>match es[i]? with
  | some e=>IQ (es.take i) e (Rv es i)
  | none=>Rv es i
theorem Bk (es t:List Td):∀i,i≤es.length→Rv (es++t) i=Rv es i:=by
 intro i
 induction i with
 | zero=>intro _;rfl
 | succ i ih=>
  intro h;unfold Rv;rw[List.getElem?_append_left (by omega),List.take_append_of_le_length (by omega),ih (by omega)]
theorem sZ (es:List Td):∀i,(Rv es i).length=8:=by
 intro i
 induction i with
 | zero=>rfl
 | succ i ih=>
  unfold Rv
  cases es[i]? with
  | none=>exact ih
  | some e=>
   simp only;unfold IQ;split
   ·rw[List.length_set];exact ih
   ·exact ih
theorem Bl {seen:List Td} {e:Td}:PJ seen e=true↔∀d∈seen,d.x.c=e.x.c→d.x.k≠0→d.a=0→d.x.s<e.x.s:=by
 unfold PJ;rw[List.all_eq_true]
 constructor
 ·intro h d hd h1 h2 h3;have:=h d hd;simp only[Bool.or_eq_true,decide_eq_true_eq]at this;rcases this with ((h|h)|h)|h
  ·exact absurd h1 h
  ·exact h
  ·exact absurd h h2
  ·exact absurd h3 h
 ·intro h d hd;simp only[Bool.or_eq_true,decide_eq_true_eq];by_cases h1:d.x.c=e.x.c
  ·by_cases h2:d.x.k=0
   ·exact .inl (.inr h2)
   ·by_cases h3:d.a=0
    ·exact .inl (.inl (.inr (h d hd h1 h2 h3)))
    ·exact .inr h3
  ·exact .inl (.inl (.inl h1))
structure RdI (st:FY):Prop where
 ok:ML st
 Wj:Xi st.cs=false
 code:∀c,c<8→ci st.cs (16+c*2)=0
 le:∀d∈st.out,d.x.k≠0→d.a=0→d.x.s+1≤ci st.cs (8+d.x.c.toNat)
 has:∀c:Nat,c<8→0<ci st.cs (8+c)→∃d∈st.out,d.x.k≠0∧d.a=0∧d.x.c=c∧d.x.s+1=ci st.cs (8+c)
 may:∀d∈st.out,d.x.c≤7
theorem RdI.zero:RdI NM:=by
 have h1:∀i<8,ci Yn (16+i*2)=0:=by decide
 have h2:∀i<8,ci Yn (8+i)=0:=by decide
 refine⟨LD,rfl,h1,(fun d hd=>by cases hd),fun c hc h=>?_,(fun d hd=>by cases hd)⟩;have h:0<ci Yn (8+c):=h;rw[h2 c hc]at h;omega
def Rw (cs:List Value):List Int:=(List.range 8).map fun i=>ci cs i
theorem Nh (cs:List Value) (n:Nat) (hn:n<8):(Rw cs)[n]? = some (ci cs n):=by
 unfold Rw;rw[List.getElem?_map,List.getElem?_range hn];rfl
theorem kG {cs ds:List Value} (h:∀i,i<8→ci ds i=ci cs i):Rw ds=Rw cs:=by
 unfold Rw;exact List.map_congr_left fun i hi=>h i (List.mem_range.1 hi)
theorem td {cs ds:List Value} {n:Nat} {v:Int} (h1:ci ds n=v) (h:∀i,i<8→i≠n→ci ds i=ci cs i):Rw ds=(Rw cs).set n v:=by
 refine List.ext_getElem? fun i=>?_;rw[List.getElem?_set];by_cases hi:i<8
 ·by_cases e:n=i
  ·subst e;rw[if_pos rfl,if_pos (by unfold Rw;simp;exact hi),Nh _ _ hi,h1]
  ·rw[if_neg e,Nh _ _ hi,Nh _ _ hi,h i hi (fun q=>e q.symm)]
 ·have l1:(Rw ds).length=8:=by unfold Rw;simp
  have l2:(Rw cs).length=8:=by unfold Rw;simp
  rw[List.getElem?_eq_none (by omega)];by_cases e:n=i
  ·rw[if_pos e,if_neg (by omega)]
  ·rw[if_neg e,List.getElem?_eq_none (by omega)]
theorem cW {st:FY} (I:RdI st) {x:Cm} (hx:x.err=0):RdI (Te st x)∧QI st.cs x=0 ∧
  Rw (Te st x).cs=IQ st.out ⟨x,(Y5 st.cs x).code,(Y5 st.cs x).val,NL st.cs st.sum x⟩ (Rw st.cs) ∧
  ((Y5 st.cs x).code=0→PJ st.out ⟨x,(Y5 st.cs x).code,(Y5 st.cs x).val,NL st.cs st.sum x⟩=true→x.k=1∨x.k=2→ci (Te st x).cs x.n.toNat=(Y5 st.cs x).val):=by
 have he:Yx x.k x.c x.s x.n x.v=0:=hx;have h0:QI st.cs x=0:=by
  unfold QI RN;rw[I.Wj,if_neg (by decide)];exact he
 have so:=(LF I.ok h0).1;have hl:st.cs.length=40:=Z6 I.ok.fit;obtain⟨k,c,s,n,v,e1,e2,e3,e4,e5,y1,y2,y3,y4,y5⟩:=XO he;have hg:=GS hl I.Wj k c s n v y1 y2 y3 y4 y5;obtain⟨E,hE⟩:=Zx (NL st.cs st.sum x);have Bq:Te st x=⟨(Y5 st.cs x).cells,E,st.out++[⟨x,(Y5 st.cs x).code,(Y5 st.cs x).val,E⟩]⟩:=by rw[hE];rfl
 rw[Bq]at so ⊢;rw[←hE];have hD:Y5 st.cs x=Jb st.cs k c s n v:=by unfold Y5;rw[e1,e2,e3,e4,e5];simp only[Int.toNat_natCast]
 rw[hD]at so ⊢;clear hD Bq hE;have may:∀(a b:Int),∀d∈st.out++[⟨x,a,b,E⟩],d.x.c≤7:=fun a b d hd=>by
  rcases List.mem_append.1 hd with hd|hd
  ·exact I.may d hd
  ·rw[List.mem_singleton.1 hd];simp only;omega
 -- nothing Qg
 have same:∀(a b:Int),(a=0→x.k≠0→x.s+1≤ci st.cs (8+c))→ML ⟨st.cs,E,st.out++[⟨x,a,b,E⟩]⟩→RdI ⟨st.cs,E,st.out++[⟨x,a,b,E⟩]⟩:=fun a b ha J2=>by
  refine⟨J2,I.Wj,I.code,fun d hd h1 h2=>?_,fun c' zN h=>?_,may a b⟩
  ·rcases List.mem_append.1 hd with hd|hd
   ·exact I.le d hd h1 h2
   ·rw[List.mem_singleton.1 hd]at h1 h2 ⊢;have:=ha h2 h1;simp only at this ⊢;rw[e2,Int.toNat_natCast];exact this
  ·obtain⟨d,hd,q⟩:=I.has c' zN h;exact⟨d,List.mem_append.2 (.inl hd),q⟩
 unfold Jb at so hg ⊢;by_cases k0:k=0
 ·rw[if_pos k0]at so ⊢;refine⟨same 0 0 (fun _ h=>absurd (by rw[e1,k0];rfl) h) so,h0,?_,fun _ _ h=>?_⟩
  ·unfold IQ;rw[if_neg (fun h=>by have:=h.2.2;simp only at this;omega)]
  ·omega
 rw[if_neg k0]at so hg ⊢;by_cases q1:(s:Int)+1=ci st.cs (8+c)
 ·rw[if_pos q1]at so ⊢;obtain⟨d,hd,d1,d2,d3,d4⟩:=I.has c (by omega) (by omega);have hn:PJ st.out ⟨x,ci st.cs (16+c*2),ci st.cs (16+c*2+1),E⟩≠true:=fun h=>by
   have:=Bl.1 h d hd (by simp only;rw[d3,e2]) d1 d2;simp only at this;omega
  refine⟨same _ _ (fun _ _=>by omega) so,h0,?_,fun _ h=>absurd h hn⟩;unfold IQ;rw[if_neg (fun h=>hn h.2.1)]
 rw[if_neg q1]at so hg ⊢;by_cases q2:(s:Int)<ci st.cs (8+c)
 ·rw[if_pos q2]at so ⊢;refine⟨same 7 0 (fun h=>by omega) so,h0,?_,fun h=>by simp only at h;omega⟩;unfold IQ;rw[if_neg (fun h=>by have:=h.1;simp only at this;omega)]
 rw[if_neg q2]at so hg ⊢;by_cases q3:cb st.cs (32+c)=true
 ·rw[if_pos q3]at so ⊢;refine⟨same 11 0 (fun h=>by omega) so,h0,?_,fun h=>by simp only at h;omega⟩;unfold IQ;rw[if_neg (fun h=>by have:=h.1;simp only at this;omega)]
 rw[if_neg q3]at so hg ⊢;obtain⟨b,hb⟩:=Zx ((JS st.cs k c n v).2);obtain⟨A,hA⟩:=Zx ((JS st.cs k c n v).1);have zO:A.length=40:=by rw[hA,Sz,hl]
 have hai:∀j,8≤j→j<32→ci A j=ci st.cs j:=fun j h1 h2=>by rw[hA];exact LC _ _ _ _ _ (by omega) j h1 h2
 simp only[←hb,←hA]at so hg ⊢;obtain⟨D,hD⟩:=Zx (((A.set (8+c) (.int .i64 ((s:Int)+1))).set (16+c*2) (.int .i64 0)).set (16+c*2+1) (.int .i64 b));have d1:∀j,j<8→ci D j=ci A j:=fun j hj=>by rw[hD,Y1 _ _ (by omega),Y1 _ _ (by omega),Y1 _ _ (by omega)]
 have d2:ci D (8+c)=(s:Int)+1:=by rw[hD,Y1 _ _ (by omega),Y1 _ _ (by omega),Jc (by omega)]
 have d3:∀j,j<8→j≠c→ci D (8+j)=ci st.cs (8+j):=fun j hj hjc=>by rw[hD,Y1 _ _ (by omega),Y1 _ _ (by omega),Y1 _ _ (by omega),hai _ (by omega) (by omega)]
 have d4:∀j,j<8→ci D (16+j*2)=0:=fun j hj=>by
  by_cases e:j=c
  ·subst e;rw[hD,Y1 _ _ (by omega),Jc (by simp only[List.length_set];omega)]
  ·rw[hD,Y1 _ _ (by omega),Y1 _ _ (by omega),Y1 _ _ (by omega),hai _ (by omega) (by omega)];exact I.code j hj
 rw[←hD]at so hg ⊢;have F6:PJ st.out ⟨x,0,b,E⟩=true:=Bl.2 fun d hd h1 h2 h3=>by
  have:=I.le d hd h2 h3;simp only at h1 ⊢;rw[h1,e2,Int.toNat_natCast]at this;omega
 refine⟨⟨so,hg,d4,fun d hd h1 h2=>?_,fun c' zN h=>?_,may 0 b⟩,h0,?_,fun _ _ h=>?_⟩
 ·rcases List.mem_append.1 hd with hd|hd
  ·have:=I.le d hd h1 h2;by_cases e:d.x.c.toNat=c
   ·rw[e]at this ⊢;rw[d2];omega
   ·by_cases e8:d.x.c.toNat<8
    ·rw[d3 _ e8 e];exact this
    ·have e9:=I.may d hd;omega
  ·rw[List.mem_singleton.1 hd];simp only;rw[e2,Int.toNat_natCast,d2,e3];omega
 ·by_cases e:c'=c
  ·subst e;refine⟨_,List.mem_append.2 (.inr (List.mem_singleton.2 rfl)),by simp only;omega,rfl,e2,?_⟩;rw[d2];simp only;omega
  ·rw[d3 _ zN e]at h ⊢;obtain⟨d,hd,q⟩:=I.has c' zN h;exact⟨d,List.mem_append.2 (.inl hd),q⟩
 ·unfold IQ;by_cases k1:k=1
  ·have hAA:A=st.cs.set n (.int .i64 v):=by rw[hA];unfold JS;rw[if_pos k1]
   rw[if_pos ⟨rfl,F6,by simp only;omega⟩];simp only;rw[e4,e5,Int.toNat_natCast];refine td ?_ fun i hi qg=>?_
   ·rw[d1 n (by omega),hAA,Jc (by omega)]
   ·rw[d1 i hi,hAA,Y1 _ _ qg]
  ·rw[if_neg (fun h=>by have:=h.2.2;simp only at this;omega)];refine kG fun i hi=>?_;rw[d1 i hi,hA];unfold JS;rw[if_neg k1];split
   ·rfl
   ·exact Y1 _ _ (by omega)
 ·rw[e4,Int.toNat_natCast,d1 n (by omega),hA,hb];unfold JS;rcases h with h|h
  ·rw[if_pos (by omega)];simp only;rw[Jc (by omega)]
  ·rw[if_neg (by omega),if_pos (by omega)]
def Es (es:List Td) (i:Nat) (e:Td):Prop:=e.x.err=0∧(e.a=0→PJ (es.take i) e=true→e.x.k=1∨e.x.k=2→(Rv es (i+1))[e.x.n.toNat]? = some e.b)
theorem th:∀(l:List Cm) (st:FY),RdI st→(∀x∈l,x.err=0)→Rv st.out st.out.length=Rw st.cs→(∀i e,st.out[i]? = some e→Es st.out i e) →
  (Vw st l).1=0∧∀i e,(Vw st l).2.out[i]? = some e→Es (Vw st l).2.out i e:=by
 intro l
 induction l with
 | nil=>intro st _ _ _ h;exact⟨rfl,h⟩
 | cons x l ih=>
  intro st I hl hv h;have hx:=hl x (by simp);obtain⟨I',h0,hp,hr⟩:=cW I hx;rw[OR h0];obtain⟨e,he⟩:∃e:Td,e=⟨x,(Y5 st.cs x).code,(Y5 st.cs x).val,NL st.cs st.sum x⟩:=⟨_,rfl⟩
  have ho:(Te st x).out=st.out++[e]:=by rw[he];rfl
  rw[←he]at hp hr;have hvE:Rv (st.out++[e]) (st.out.length+1)=Rw (Te st x).cs:=by
   unfold Rv;rw[List.getElem?_append_right (Nat.le_refl _),Nat.sub_self];simp only[List.getElem?_cons_zero];rw[List.take_left',Bk _ _ _ (Nat.le_refl _),hv,hp];rfl
  refine ih _ I' (fun y hy=>hl y (by simp[hy])) ?_ ?_
  ·rw[ho,List.length_append,List.length_singleton];exact hvE
  ·rw[ho];intro i d hd;by_cases hi:i<st.out.length
   ·rw[List.getElem?_append_left hi]at hd;obtain⟨r1,r2⟩:=h i d hd;refine⟨r1,?_⟩;rw[List.take_append_of_le_length (by omega),Bk _ _ _ (by omega)];exact r2
   ·have hi2:i=st.out.length:=by
     have:=(List.getElem?_eq_some_iff.1 hd).1;rw[List.length_append,List.length_singleton]at this;omega
    subst hi2;rw[List.getElem?_append_right (Nat.le_refl _),Nat.sub_self]at hd;simp only[List.getElem?_cons_zero,Option.some.injEq]at hd;subst hd;have ex:e.x=x:=by rw[he]
    have ea:e.a=(Y5 st.cs x).code:=by rw[he]
    have eb:e.b=(Y5 st.cs x).val:=by rw[he]
    refine⟨by rw[ex];exact hx,fun h1 h2 h3=>?_⟩;rw[List.take_left']at h2
    ·rw[hvE,ex];rw[ex]at h3;rw[ea]at h1;have:=hr h1 h2 h3;rw[Nh _ _ ?_,this,eb];have he:Yx x.k x.c x.s x.n x.v=0:=hx;obtain⟨k,c,s,n,v,e1,e2,e3,e4,e5,y1,y2,y3,y4,y5⟩:=XO he;rw[e4];omega
    ·rfl
theorem Bm {l:List Cm} (h:∀x∈l,x.err=0):Wn l=0∧(Ub l).length=l.length∧∀i e,(Ub l)[i]? = some e→Es (Ub l) i e:=by
 obtain⟨h1,h2⟩:=th l NM RdI.zero h (by decide) (fun i e hd=>by cases hd);have e:Wn l=0:=h1;refine⟨e,?_,?_⟩
 ·unfold Ub;rw[if_pos e,Cf l NM e];show 0+l.length=_;omega
 ·unfold Ub;rw[if_pos e];exact h2
theorem kH:∀(l:List Cm) (st:FY),ML st→(Vw st l).1=0→YB XK (Vw st l).2.cs=true:=by
 intro l
 induction l with
 | nil=>intro st ok _;exact ok.fit
 | cons x l ih=>
  intro st ok h;by_cases q:QI st.cs x=0
  ·rw[OR q]at h ⊢;exact ih _ (LF ok q).1 h
  ·rw[NN q]at h;exact absurd h q
theorem cX {l:List Cm} (h:∀x∈l,x.err=0):Wn l=0∧YB XK (Wo l)=true∧(Ub l).length=l.length:=by
 have e:=Bc h;refine⟨e,?_,?_⟩
 ·unfold Wo;rw[if_pos e];exact kH l NM LD e
 ·unfold Ub;rw[if_pos e,Cf l NM e];show 0+l.length=_;omega
def Tu (es:List Td) (i:Nat):List Value:=(Rv es i).map (Value.int .i64)
theorem ti (es:List Td) (i:Nat):(Tu es i).length=8:=by unfold Tu;rw[List.length_map,sZ]
theorem kI (es:List Td):Tu es 0=[.int .i64 0,.int .i64 0,.int .i64 0,.int .i64 0,.int .i64 0,.int .i64 0,.int .i64 0,.int .i64 0]:=rfl
theorem Bn {es:List Td} {i n:Nat} {b:Int} (h:(Rv es i)[n]? = some b):nth (Tu es i) n=some (.int .i64 b):=by
 unfold Tu;rw[Yh,List.getElem?_map,h];rfl
theorem tj {es:List Td} {i:Nat} {e:Td} (h:es[i]? = some e):Rv es (i+1)=IQ (es.take i) e (Rv es i):=by rw[Rv,h]
theorem kJ {es:List Td} {k:Nat} {d e:Td} (h:es[k]? = some d):PJ (es.take (k+1)) e=(PJ (es.take k) e&&(decide (d.x.c≠e.x.c)||decide (d.x.s<e.x.s)||decide (d.x.k=0)||decide (d.a≠0))):=by
 have hk:=(List.getElem?_eq_some_iff.1 h)
 obtain⟨hk,hd⟩:=hk;rw[Yl es k hk,hd];unfold PJ;rw[List.all_append];simp
set_option maxHeartbeats 4000000 in
theorem kK (T:World) (h:Hp) (v:Value) (gs:List Gr) (ld:Int) (hv:Ts Gr.C 5 h v gs) (hg:∀g∈gs,g.ok) (hl:i64 ld) (tb:BA SI h) :
  Zc Tryz.prog T 4 #[v,.int .i64 ld] h fun v' h'=>v'=.bool true∧Zf h.size h h':=by
 have tk:Tk h:=tb.tk;have pa:=Ug ld (m:=5) (by omega);refine Zc.Zk (args:=[_,_]) Tryz.func4 rfl rfl rfl rfl ?_;simp -implicitDefEqProofs only[go_sem,↓reduceIte];refine (j6 T h v gs 100 true hv hg (by omega) tk).use ?_;rintro v1 h1 ⟨b1,QO,xs,hr,t1,i1⟩;obtain⟨A,hA⟩:=Zx (scr gs 100 true);rw[←hA]at hr;have Ae:∀x∈A,x.err=0:=by rw[hA];exact yK _ _ _
 have Al:A.length≤100:=by rw[hA];exact yL _ _ _
 have xl:xs.length=A.length:=by rw[←hr];unfold Yq;simp
 obtain⟨p,c,rfl,YS⟩:=t1.open Nc (by decide);simp -implicitDefEqProofs only[go_sem,↓reduceIte];refine (XU T h1 ld 5 hl (by omega) (by omega)).pure ?_;obtain⟨n,hn⟩:∃n:Nat,Qj ld 5=n:=⟨(Qj ld 5).toNat,by omega⟩
 rw[hn]at pa ⊢;have n5:n<5:=by omega
 refine (Bj T h1 _ xs n n5 t1 i1 (by omega)).use ?_;rintro v4 g4 ⟨b4,_,zs,hrz,t4,i4⟩;have B4:Zf h.size h g4:=b1.trans (b4.mono b1.size);rw[hr]at hrz;have Ze:=Bf Ae n5;have Zl:(Jx A n).length≤30000:=by have:=Bi (n:=n) (b:=100) Al;omega
 have zl:zs.length≤30000:=by
  have:=congrArg List.length hrz;unfold Yq at this;rw[List.length_map]at this;omega
 have tb4:=tb.Zd (ZE (N0 h) B4);refine (ZcV T g4 v4 zs t4 i4 tb4 (by omega) (by rw[hrz];exact Ba Ze (by omega))).use ?_;rw[hrz];rintro _ g5 ⟨⟨lv,tv,vs,rfl,rf⟩,b5⟩;have B5:Zf h.size h g5:=B4.trans (b5.mono B4.size);have cL:∀x∈lng (cE (Jx A n)),x.err=0:=fun x hx=>by
  rcases fJ (cE (Jx A n)) with q|⟨i,hi,q⟩
  ·rw[q]at hx;cases hx
  ·rw[q]at hx;exact sW Ze (by omega) hi hx
 have hlen:(lng (cE (Jx A n))).length≤40:=by
  rcases fJ (cE (Jx A n)) with q|⟨i,hi,q⟩
  ·rw[q];exact Nat.zero_le _
  ·rw[q];exact yM Ze (by omega) i hi
 obtain⟨W,hW⟩:=Zx (cE (Jx A n));rw[←hW]at rf cL hlen ⊢;obtain⟨ro,⟨pl,ol,cl,rfl⟩,pt,ct,rfl⟩:=rf.at.ok;obtain⟨R,hR⟩:=Zx (bZ W (.slice (some ⟨pl,ol,none⟩) 5 cl) (.slice pt W.told.length ct));rw[←hR]at ro ⊢;have tX:=ro.len;have lG:=ro.one;have hRp:=ro.put;have yw:=ro.le;have et:=ro.take;obtain⟨g6,Rt⟩:=Zx (g5.push (.cells R.toArray 28):Hp);have e6:=Rt.symm;have b6:Zf g5.size g5 g6:=by rw[Rt];exact (Zf.refl _ _).add _
 have y6:g6[g5.size]? = some (.cells R.toArray 28):=by rw[Rt];exact Zb
 have r6:rd g6 ⟨g5.size,0,none⟩ 13=some R:=Zq y6 tX;have B6:Zf h.size h g6:=B5.trans (b6.mono B5.size);have cl6:=cV T g6 W _ _ vs (rf.Z2 b6).at;rw[←hR]at cl6;simp -implicitDefEqProofs only[go_sem,↓reduceIte,tX,lG,hRp,yw,e6,r6,et];refine cl6.use ?_;rintro v7 g7 ⟨t7,b7⟩;have B7:Zf h.size h g7:=B6.trans (b7.mono B6.size);obtain⟨L,hL⟩:=Zx (lng W);rw[←hL]at t7 cL hlen;obtain⟨C1,C2,C3⟩:=cX cL;obtain⟨_,_,C4⟩:=Bm cL;obtain⟨p7,c7,rfl,_⟩:=JY t7;have ch:=pY T g7 _ L t7 (tk.Je B7);rw[if_neg (by omega),if_neg (by omega),C1]at ch;simp -implicitDefEqProofs only[go_sem,↓reduceIte];refine ch.use ?_;rintro _ g8 ⟨⟨wv,E,D,rfl,hED,oe⟩,b8⟩;simp only[Prod.mk.injEq]at hED;obtain⟨rfl,rfl⟩:=hED;have D40:(Wo L).length=40:=Z6 C2;have VK:=VV C2;have iI:(Wo L).take 40=Wo L:=YW D40;obtain⟨D,hD⟩:=Zx (Wo L);rw[←hD]at C2 D40 VK iI ⊢;have te:=oe.ts;obtain⟨p8,c8,hwv⟩:=oe.open;subst hwv;obtain⟨es,hes⟩:=Zx (Ub L);rw[←hes]at C3 C4 te;rw[←hes];obtain⟨g9,hg9⟩:=Zx (g8.push (.cells D.toArray 43):Hp);have e9:=hg9.symm;have b9:Zf g8.size g8 g9:=by rw[hg9];exact (Zf.refl _ _).add _
 have C3':(es.length:Int)=L.length:=by omega
 obtain⟨ga,hga⟩:=Zx (g9.push (.cells (Tu es 0).toArray 36):Hp);have ea:=hga.symm;rw[kI]at ea;have ba:Zf g9.size g9 ga:=by rw[hga];exact (Zf.refl _ _).add _
 have ya:ga[g9.size]? = some (.cells (Tu es 0).toArray 36):=by rw[hga];exact Zb
 have B9:Zf h.size h g9:=B7.trans ((b8.trans (b9.mono b8.size)).mono B7.size);have te9:=te.Z2 b9;obtain⟨_,_,he0,Zrl⟩:=te9.open;simp only[Value.slice.injEq]at he0;obtain⟨rfl,_,rfl⟩:=he0;simp -implicitDefEqProofs only[go_sem,↓reduceIte,D40,VK,ZJ,iI,e9,C3',ea];refine VS.ZW (fun F g=>F 9=.slice p8 es.length c8∧F 12=.pointer (some ⟨g9.size,0,none⟩)∧Zf g9.size g9 g∧∃i:Nat,i≤es.length∧F 13=.int .i64 i∧g[g9.size]? = some (.cells (Tu es i).toArray 36))
  (fun F _=>es.length-(vi (F 13)).toNat) rfl ⟨rfl,rfl,ba,0,Nat.zero_le _,rfl,ya⟩ ?_
 rintro F2 g2 ⟨f9,f12,b2,i,hi,f13,y2⟩;by_cases ZD:i<es.length
 ·have ZL:(i:Int)<es.length:=by omega
  obtain⟨bs,os,rfl,dz,Sg⟩:=Zrl (by intro e;rw[e]at ZD;simp at ZD);have r0:∀g,Zf g9.size g9 g→∀k (hk:k<es.length),∃q m cp,YY g bs (os+k*8) [.int .i64 es[k].x.k,.int .i64 es[k].x.c,.int .i64 es[k].x.s,.int .i64 es[k].x.n,.int .i64 es[k].x.v,.int .i64 es[k].a,.int .i64 es[k].b,.slice q m cp]:=fun g bg k hk=>by
   obtain⟨q,m,cp,ca,_⟩:=Sg k hk;exact⟨q,m,cp,ca.Z2 bg dz⟩
  obtain⟨e,he⟩:=Zx (es[i]);have hei:es[i]? = some e:=by rw[he];exact List.getElem?_eq_getElem ZD
  obtain⟨Io,O0⟩:=C4 i e hei;obtain⟨xk,xc,xs',xn,xv,n1,n2,n3,n4,n5',y1,yb,y3,y4,y5⟩:=XO (show Yx e.x.k e.x.c e.x.s e.x.n e.x.v=0 from Io);obtain⟨qx,mx,cx,cax⟩:=r0 g2 b2 i ZD;rw[←he]at cax;obtain⟨X,hX⟩:∃X:List Value,X=[.int .i64 e.x.k,.int .i64 e.x.c,.int .i64 e.x.s,.int .i64 e.x.n,.int .i64 e.x.v,.int .i64 e.a,.int .i64 e.b,.slice qx mx cx]:=⟨_,rfl⟩
  have rx:=cax.rd (by simp) (show [Value.int .i64 e.x.k,.int .i64 e.x.c,.int .i64 e.x.s,.int .i64 e.x.n,.int .i64 e.x.v,.int .i64 e.a,.int .i64 e.b,.slice qx mx cx].length=8 from rfl);obtain⟨g3,Ee⟩:=Zx (g2.push (.cells X.toArray 50):Hp);have e3:=Ee.symm;rw[hX]at e3;have b3:Zf g2.size g2 g3:=by rw[Ee];exact (Zf.refl _ _).add _
  have y3':g3[g2.size]? = some (.cells X.toArray 50):=by rw[Ee];exact Zb
  have b93:Zf g9.size g9 g3:=b2.trans (b3.mono b2.size);have yv3:g3[g9.size]? = some (.cells (Tu es i).toArray 36):=b3.get (Za y2) y2;have x0:hc g3 ⟨g2.size,0,none⟩=some (.int .i64 e.x.k):=by rw[Zh y3',hX];rfl
  have x1:hc g3 ⟨g2.size,1,none⟩=some (.int .i64 e.x.c):=by rw[Zh y3',hX];rfl
  have x2:hc g3 ⟨g2.size,2,none⟩=some (.int .i64 e.x.s):=by rw[Zh y3',hX];rfl
  have x3:hc g3 ⟨g2.size,3,none⟩=some (.int .i64 e.x.n):=by rw[Zh y3',hX];rfl
  have x4:hc g3 ⟨g2.size,4,none⟩=some (.int .i64 e.x.v):=by rw[Zh y3',hX];rfl
  have x5:hc g3 ⟨g2.size,5,none⟩=some (.int .i64 e.a):=by rw[Zh y3',hX];rfl
  have x6:hc g3 ⟨g2.size,6,none⟩=some (.int .i64 e.b):=by rw[Zh y3',hX];rfl
  simp -implicitDefEqProofs only[go_sem,↓reduceIte,f9,f13,ZL,rx,e3];refine VS.ZW (fun F g=>g=g3∧F 9=.slice (some ⟨bs,os,none⟩) es.length c8∧F 12=.pointer (some ⟨g9.size,0,none⟩)∧F 13=.int .i64 i∧F 14=.pointer (some ⟨g2.size,0,none⟩)∧∃k:Nat,k≤i∧F 16=.int .i64 k∧F 15=.bool (PJ (es.take k) e))
   (fun F _=>i-(vi (F 16)).toNat) rfl ⟨rfl,f9,f12,f13,rfl,0,Nat.zero_le _,rfl,rfl⟩ ?_
  clear f9 f12 f13;rintro F3 gg ⟨rfl,f9,f12,f13,f14,k,hk,f16,f15⟩;by_cases kP:k<i
  ·have Mb:(k:Int)<i:=by omega
   have hke:k<es.length:=by omega
   have cY:(k:Int)<es.length:=by omega
   obtain⟨qk,mk,ck,cak⟩:=r0 gg b93 k hke;obtain⟨d,hd⟩:=Zx (es[k]);have hdk:es[k]? = some d:=by rw[hd];exact List.getElem?_eq_getElem hke
   rw[←hd]at cak;have d0:hc gg ⟨bs,os+k*8,none⟩=some (.int .i64 d.x.k):=cak.hc (i:=0) rfl;have d1:hc gg ⟨bs,os+k*8+1,none⟩=some (.int .i64 d.x.c):=cak.hc (i:=1) rfl;have d2:hc gg ⟨bs,os+k*8+2,none⟩=some (.int .i64 d.x.s):=cak.hc (i:=2) rfl;have d5:hc gg ⟨bs,os+k*8+5,none⟩=some (.int .i64 d.a):=cak.hc (i:=5) rfl;have hs:=kJ (e:=e) hdk;obtain⟨b,hb⟩:=Zx (PJ (es.take k) e);rw[←hb]at f15 hs;obtain⟨b',XH⟩:=Zx (PJ (es.take (k+1)) e);rw[←XH]at hs;simp -implicitDefEqProofs only[go_sem,↓reduceIte,f9,f12,f13,f14,f15,f16,Mb,cY];refine VS.q mixed (by kernel_rfl) ?_
   cases b with
   | false=>
    have TU:b'=false:=by rw[hs];rfl
    simp -implicitDefEqProofs only[go_sem,↓reduceIte,f9,f12,f13,f14,f15,f16,Mb,cY];unfold Yt;refine⟨⟨rfl,f9,f12,f13,f14,k+1,kP,rfl,?_⟩,?_⟩
    ·rw[←XH,TU];rfl
    ·simp only[vi,Zi,↓reduceIte,f16];omega
   | true=>
    by_cases q1:d.x.c=e.x.c
    ·by_cases q2:d.x.s<e.x.s
     ·have TU:b'=true:=by rw[hs];simp[q2]
      simp -implicitDefEqProofs only[go_sem,↓reduceIte,f9,f12,f13,f14,f15,f16,Mb,cY,d0,d1,d2,d5,x1,x2,q1,q2];unfold Yt;refine⟨⟨rfl,f9,f12,f13,f14,k+1,kP,rfl,?_⟩,?_⟩
      ·rw[←XH,TU];rfl
      ·simp only[vi,Zi,↓reduceIte,f16];omega
     ·by_cases q3:d.x.k=0
      ·have TU:b'=true:=by rw[hs];simp[q3]
       simp -implicitDefEqProofs only[go_sem,↓reduceIte,f9,f12,f13,f14,f15,f16,Mb,cY,d0,d1,d2,d5,x1,x2,q1,q2,q3];unfold Yt;refine⟨⟨rfl,f9,f12,f13,f14,k+1,kP,rfl,?_⟩,?_⟩
       ·rw[←XH,TU];rfl
       ·simp only[vi,Zi,↓reduceIte,f16];omega
      ·by_cases q4:d.a=0
       ·have TU:b'=false:=by rw[hs];simp[q1,q2,q3,q4]
        simp -implicitDefEqProofs only[go_sem,↓reduceIte,f9,f12,f13,f14,f15,f16,Mb,cY,d0,d1,d2,d5,x1,x2,q1,q2,q3,q4];unfold Yt;refine⟨⟨rfl,f9,f12,f13,f14,k+1,kP,rfl,?_⟩,?_⟩
        ·rw[←XH,TU];rfl
        ·simp only[vi,Zi,↓reduceIte,f16];omega
       ·have TU:b'=true:=by rw[hs];simp[q4]
        simp -implicitDefEqProofs only[go_sem,↓reduceIte,f9,f12,f13,f14,f15,f16,Mb,cY,d0,d1,d2,d5,x1,x2,q1,q2,q3,q4];unfold Yt;refine⟨⟨rfl,f9,f12,f13,f14,k+1,kP,rfl,?_⟩,?_⟩
        ·rw[←XH,TU];rfl
        ·simp only[vi,Zi,↓reduceIte,f16];omega
    ·have TU:b'=true:=by rw[hs];simp[q1]
     simp -implicitDefEqProofs only[go_sem,↓reduceIte,f9,f12,f13,f14,f15,f16,Mb,cY,d0,d1,d2,d5,x1,x2,q1];unfold Yt;refine⟨⟨rfl,f9,f12,f13,f14,k+1,kP,rfl,?_⟩,?_⟩
     ·rw[←XH,TU];rfl
     ·simp only[vi,Zi,↓reduceIte,f16];omega
  ·have Mb:¬(k:Int)<i:=by omega
   obtain rfl:k=i:=by omega
   have h98:g9.size≠g2.size:=fun q=>by have:=Za y2;omega
   have hN:e.x.n.toNat<8:=by omega
   have hN0:0≤e.x.n:=by omega
   have hN8:e.x.n<8:=by omega
   have dV:=tj hei;have Kg:¬(e.a=0∧PJ (es.take k) e=true∧e.x.k=1)→Tu es (k+1)=Tu es k:=fun q=>by
    unfold Tu;rw[dV];unfold IQ;rw[if_neg q]
   by_cases qa:e.a=0
   ·cases hqn:PJ (es.take k) e with
    | false=>
     have dN:=Kg (fun q=>by rw[hqn]at q;exact absurd q.2.1 (by decide));rw[hqn]at f15;simp -implicitDefEqProofs only[go_sem,↓reduceIte,f13,f14,f15,f16,Mb,x5,qa];unfold Yt;refine⟨⟨f9,f12,b93,k+1,ZD,rfl,?_⟩,?_⟩
     ·rw[dN];exact yv3
     ·simp only[vi,Zi,↓reduceIte,f13];omega
    | true=>
     rw[hqn]at f15;have qY:=O0 qa hqn;by_cases k1:e.x.k=1
     ·have Zfx:(Tu es k).set e.x.n.toNat (.int .i64 e.x.v)=Tu es (k+1):=by
       unfold Tu;rw[dV];unfold IQ;rw[if_pos ⟨qa,hqn,k1⟩,List.map_set]
      have ww:JJ gg ⟨g9.size,e.x.n.toNat,none⟩ (.int .i64 e.x.v)=some (gg.setIfInBounds g9.size (.cells (Tu es (k+1)).toArray 36)):=by
       rw[YC yv3,if_pos ⟨by rw[ti];exact hN,rfl⟩,Zfx]
      have bgs:Zf g9.size g9 (gg.setIfInBounds g9.size (.cells (Tu es (k+1)).toArray 36)):=b93.Zm (Nat.le_refl _) _;have yvs:=Zy (o:=.cells (Tu es (k+1)).toArray 36) yv3;have y3s:(gg.setIfInBounds g9.size (.cells (Tu es (k+1)).toArray 36))[g2.size]? = some (.cells X.toArray 50):=by rw[Yf h98];exact y3'
      obtain⟨gs,T7⟩:=Zx (gg.setIfInBounds g9.size (.cells (Tu es (k+1)).toArray 36));rw[←T7]at ww bgs yvs y3s;have s0:hc gs ⟨g2.size,0,none⟩=some (.int .i64 e.x.k):=by rw[Zh y3s,hX];rfl
      have s3:hc gs ⟨g2.size,3,none⟩=some (.int .i64 e.x.n):=by rw[Zh y3s,hX];rfl
      have s6:hc gs ⟨g2.size,6,none⟩=some (.int .i64 e.b):=by rw[Zh y3s,hX];rfl
      have sv:hc gs ⟨g9.size,e.x.n.toNat,none⟩=some (.int .i64 e.b):=by rw[Zh yvs];exact Bn (qY (.inl k1))
      simp -implicitDefEqProofs only[go_sem,↓reduceIte,f12,f13,f14,f15,f16,Mb,x0,x3,x4,x5,qa,k1,ww,hN0,hN8];refine VS.q mixed (by kernel_rfl) ?_;simp -implicitDefEqProofs only[go_sem,↓reduceIte,f12,f13,f14,f15,f16,s0,s3,s6,sv,k1,hN0,hN8];unfold Yt;refine⟨⟨f9,f12,bgs,k+1,ZD,rfl,yvs⟩,?_⟩;simp only[vi,Zi,↓reduceIte,f13];omega
     ·have dN:=Kg (fun q=>k1 q.2.2);by_cases k2:e.x.k=2
      ·have sv:hc gg ⟨g9.size,e.x.n.toNat,none⟩=some (.int .i64 e.b):=by rw[Zh yv3,←dN];exact Bn (qY (.inr k2))
       simp -implicitDefEqProofs only[go_sem,↓reduceIte,f12,f13,f14,f15,f16,Mb,x0,x5,qa,k1,k2];refine VS.q mixed (by kernel_rfl) ?_;simp -implicitDefEqProofs only[go_sem,↓reduceIte,f12,f13,f14,f15,f16,x0,x3,x6,sv,k1,k2,hN0,hN8];unfold Yt;refine⟨⟨f9,f12,b93,k+1,ZD,rfl,?_⟩,?_⟩
       ·rw[dN];exact yv3
       ·simp only[vi,Zi,↓reduceIte,f13];omega
      ·simp -implicitDefEqProofs only[go_sem,↓reduceIte,f12,f13,f14,f15,f16,Mb,x0,x5,qa,k1,k2];refine VS.q mixed (by kernel_rfl) ?_;simp -implicitDefEqProofs only[go_sem,↓reduceIte,f12,f13,f14,f15,f16,x0,k1,k2];unfold Yt;refine⟨⟨f9,f12,b93,k+1,ZD,rfl,?_⟩,?_⟩
       ·rw[dN];exact yv3
       ·simp only[vi,Zi,↓reduceIte,f13];omega
   ·have dN:=Kg (fun q=>qa q.1);simp -implicitDefEqProofs only[go_sem,↓reduceIte,f13,f14,f15,f16,Mb,x5,qa];unfold Yt;refine⟨⟨f9,f12,b93,k+1,ZD,rfl,?_⟩,?_⟩
    ·rw[dN];exact yv3
    ·simp only[vi,Zi,↓reduceIte,f13];omega
 ·have YJ:¬(i:Int)<es.length:=by omega
  simp -implicitDefEqProofs only[go_sem,↓reduceIte,f9,f13,YJ];exact B9.trans (b2.mono B9.size)
theorem Zda {n:Int} (h:(Lit.int .i64 n).wf=true):i64 n:=by
 have h:(decide (IntKind.i64.min≤n)&&decide (n≤IntKind.i64.max))=true:=h;rw[Bool.and_eq_true,decide_eq_true_eq,decide_eq_true_eq,show IntKind.i64.min = -9223372036854775808 from rfl,show IntKind.i64.max=9223372036854775807 from rfl]at h;exact⟨h.1,by omega⟩
end Go.Proofs.YtboeoomhjbcecaaGreatDoor
