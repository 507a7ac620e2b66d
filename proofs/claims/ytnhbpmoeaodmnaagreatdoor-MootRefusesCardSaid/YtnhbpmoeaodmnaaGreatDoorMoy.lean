/- A node is asked for a promise. -/
import Derived.Test.YtnhbpmoeaodmnaaGreatDoorMop
import Derived.Test.YtnhbpmoeaodmnaaGreatDoorOpn
namespace Go.Proofs.YtnhbpmoeaodmnaaGreatDoor
open Go Go.V
set_option linter.unusedSimpArgs false
set_option linter.unusedVariables false
set_option maxRecDepth 100000
theorem gl2 (G:Hp) (X Y:Obj):((G.push X).push Y)[G.size]? = some X:=by rw [get_push_ne (by simp),get_push_last]
theorem gs2 (G:Hp) (k:Nat) (X Y:Obj):((G.setIfInBounds k X).push Y)[G.size]? = some Y:=by
 have:=get_push_last (h:=G.setIfInBounds k X) (o:=Y); rwa [Array.size_setIfInBounds] at this
theorem gr2 (G:Hp) (X Y:Obj):((G.push X).push Y)[G.size+1]? = some Y:=by
 have:=get_push_last (h:=G.push X) (o:=Y); rwa [Array.size_push] at this
def PrEnd (B:Nat) (g':Hp) (A C:Value) (p:Bal) (l:List Vt) (b:Bal):Prop:=
 ∃ ka kc w1 w2,A=ptrV ka∧C=ptrV kc∧B≤ka∧B≤kc∧g'[ka]? = some (.cells (accC (if prErr p l b=0 then b else ⟨0,0⟩) w1).toArray 63)∧g'[kc]? = some (.cells [w2].toArray 61) ∧
  Ots B 96 voteC 8 g' w1 (if prErr p l b=0 then l else [])∧Ots B 96 voteC 8 g' w2 (if prErr p l b=0 then l else [])
def WrEnd (B:Nat) (g':Hp) (A:Value) (l:List Nat) (n:Int) (E:Int) (add:List Nat):Prop:=
 ∃ ka w,A=.pointer (some ⟨ka,0,none⟩)∧B≤ka∧g'[ka]? = some (.cells [w,.int .i64 (if E=0 then n else 0)].toArray 58)∧OBs B 5 g' w (if E=0 then l++add else [])
set_option maxHeartbeats 1000000 in
theorem prepared_ok (T:World) (h:Hp) (o:Ow) (wb i nb:Nat) (nbs:Nat→Nat) (a:NA) (n:Nd) (WA0:WA) (fl:List Ltr) (bad:Nat→Int) (told:List Tld) (l:Ltr) (w:Value) (d:Dom o h)
  (N:NodeAt o h wb i nb a n) (W:WorldAt o h wb nbs WA0 fl bad told) (iv:ImV o h w l.vs) (hroom:fl.length≤1000000000000) (hvl:n.own.l.length≤1000000) (hdl:n.data.length≤1000000) (tb:Tbs o h) :
  CallsH Tryz.prog T 61 #[ptrV wb,ptrV nb,.agg (ltC l w).toArray] h fun v' h'=>∃ o' a' WA',Kp (fun t=>t=.world∨t=.flying∨t=.node i) o h o' h'∧NodeAt o' h' wb i nb a' (prepared n l).n∧WorldAt o' h' wb nbs WA' (fl++(prepared n l).ls) bad told:=by
 obtain ⟨pw,cw,rfl⟩:=iv.isSlice
 refine CallsH.of_code' (args:=[_,_,_]) Tryz.func61 rfl rfl rfl rfl ?_
 unfold ptrV ltC
 simp -implicitDefEqProofs (maxSteps:=2000000) only [go_sem,↓reduceIte]
 obtain ⟨h1,hh1⟩:∃ h1:Hp,h1=((h.push (.cells [ptrV wb].toArray 49)).push (.cells [ptrV nb].toArray 56)).push (.cells (ltC l (.slice pw l.vs.length cw)).toArray 98):=⟨_,rfl⟩
 have k1:Kp noT o h o h1:=by rw [hh1]; exact ((Kp.refl d _).push _ |>.push _).push _
 have s1:h1.size=h.size+3:=by rw [hh1]; simp
 have d1:∀ b,h.size≤b→o b=none:=d
 have x3:BoxAt o h1 h.size (.cells [ptrV wb].toArray 49):=⟨d _ (by omega),by rw [hh1,get_push_ne (by simp; omega),gl2]⟩
 have x4:BoxAt o h1 (h.size+1) (.cells [ptrV nb].toArray 56):=⟨d _ (by omega),by rw [hh1,get_push_ne (by simp),gr2]⟩
 have x5:BoxAt o h1 (h.size+2) (.cells (ltC l (.slice pw l.vs.length cw)).toArray 98):=⟨d _ (by omega),by
  have:=get_push_last (h:=(h.push (.cells [ptrV wb].toArray 49)).push (.cells [ptrV nb].toArray 56)) (o:=.cells (ltC l (.slice pw l.vs.length cw)).toArray 98)
  rw [hh1]; simpa using this⟩
 have e0:((h.push (.cells [ptrV wb].toArray 49)).push (.cells [ptrV nb].toArray 56)).push (.cells (ltC l (.slice pw l.vs.length cw)).toArray 98)=h1:=hh1.symm
 unfold ptrV ltC at e0
 rw [e0]
 clear e0 hh1
 have N1:=N.still k1
 have W1:=W.still k1
 have iv1:=iv.keep k1
 have R1:=node_rd N1.blk.2 N1.pt.store.len
 have hnb1:=lt_of_get N1.blk.2
 have l3:=lt_of_get x3.2
 have l4:=lt_of_get x4.2
 have l5:=lt_of_get x5.2
 have r3:hc h1 ⟨h.size,0,none⟩=some (ptrV wb):=hc_last x3.2
 have r4:hc h1 ⟨h.size+1,0,none⟩=some (ptrV nb):=hc_last x4.2
 have r53:rd h1 ⟨h.size+2,3,none⟩ 2=some [.int .i64 l.b.r,.int .i64 l.b.n]:=by rw [rd_part x5.2 (by simp [ltC])]; rfl
 have r51:hc h1 ⟨h.size+2,1,none⟩=some (.int .i64 l.frm):=hc_last x5.2
 unfold ptrV at r3 r4
 have R1own:=R1.own
 obtain ⟨pv,cv,hpv⟩:=N1.pt.votes.isSlice
 rw [hpv] at R1own
 have call:∀ G,Bel h1.size h1 G→CallsH Tryz.prog T 72 #[.agg #[.int .i64 n.own.p.r,.int .i64 n.own.p.n,.slice pv n.own.l.length cv],.agg #[.int .i64 l.b.r,.int .i64 l.b.n]] G fun v' h'=>PrRes G.size h' v' n.own.p n.own.l l.b∧Bel G.size G h':=fun G hG=>
  promise_ok T G n.own.p _ n.own.l l.b (by rw [← hpv]; exact N1.pt.votes.ts.bel hG) (by omega)
 obtain ⟨E,hE⟩:∃ E,E=prErr n.own.p n.own.l l.b:=⟨_,rfl⟩
 have wA:∀ (G:Hp) (k:Nat) (r m:Int) (p:Option Addr) (L c:Nat),G[k]? = some (.cells [.int .i64 0,.int .i64 0,.slice none 0 0].toArray 63)→wr G ⟨k,0,none⟩ [.int .i64 r,.int .i64 m,.slice p L c]=some (G.setIfInBounds k (.cells [.int .i64 r,.int .i64 m,.slice p L c].toArray 63)):=fun G k r m p L c hx=>by
  rw [wr_get hx 0 _]; rfl
 have wB:∀ (G:Hp) (k:Nat) (p:Option Addr) (L c:Nat),G[k]? = some (.cells [.slice none 0 0].toArray 61)→wr1 G ⟨k,0,none⟩ (.slice p L c)=some (G.setIfInBounds k (.cells [.slice p L c].toArray 61)):=fun G k p L c hx=>by
  rw [wr1_get hx 0 _]; rfl
 refine VS.mono (N:=fun F' g'=>Bel h1.size h1 g'∧F' 3=.pointer (some ⟨h.size,0,none⟩)∧F' 4=.pointer (some ⟨h.size+1,0,none⟩)∧F' 5=.pointer (some ⟨h.size+2,0,none⟩)∧F' 8=.int .i64 E∧PrEnd h1.size g' (F' 6) (F' 7) n.own.p n.own.l l.b) ?_ ?_ (fun _ _ _ h=>h) (fun _ _ h=>h)
 ·refine VS.z (h1.size) [6,13,14] (.q 0 (.p 1 (.p 2 (.q 3 (.p 4 (.q 5 (.or 6 (.p 7 (.p 8 (.p 9 (.p 10 (.or 11 (.s 12 (.w 13 (.w 14 (.p 15 .nil)))) (.s 12 (.s 11 (.w 13 (.w 14 (.p 15 .nil)))))))))) (.or 11 (.or 6 (.p 7 (.p 8 (.p 9 (.p 10 (.s 12 (.w 13 (.w 14 (.p 15 .nil)))))))) (.s 12 (.w 6 (.p 7 (.p 8 (.p 9 (.p 10 (.w 13 (.w 14 (.p 15 .nil)))))))))) (.s 12 (.or 6 (.p 7 (.p 8 (.p 9 (.p 10 (.s 11 (.w 13 (.w 14 (.p 15 .nil)))))))) (.s 11 (.w 6 (.p 7 (.p 8 (.p 9 (.p 10 (.w 13 (.w 14 (.p 15 .nil))))))))))))))))))) mixed (by kernel_rfl) ?_
  simp -implicitDefEqProofs (maxSteps:=2000000) only [go_sem,↓reduceIte,r4,R1own,r53,hnb1,l4,l5]
  unfold PrEnd ptrV accC
  repeat' (first | with_reducible exact Bel.refl _ _ | with_reducible exact Bel.push (by omega) _ | with_reducible refine And.intro ?_ ?_)
  all_goals first
   | (refine (call h1 (Bel.refl _ _)).use ?_
      rintro _ g5 ⟨⟨w1,w2,rfl,o1,o2⟩,b5⟩
      obtain ⟨p1,c1,rfl,_⟩:=o1.open
      obtain ⟨p2,c2,rfl,_⟩:=o2.open
      rw [← hE] at *
      have s5:=b5.size
      unfold accC
      simp -implicitDefEqProofs (maxSteps:=2000000) only [go_sem,↓reduceIte,b5]
      refine ⟨⟨_,_,_,_,rfl,rfl,s5,by omega,gl2 _ _ _,gr2 _ _ _,(o1.push _).push _,(o2.push _).push _⟩,⟨_,_,_,_,rfl,rfl,by omega,s5,gr2 _ _ _,gl2 _ _ _,(o1.push _).push _,(o2.push _).push _⟩⟩)
   | (refine (call (h1.push (.cells _ 63)) (Bel.push (Nat.le_refl _) _)).use ?_
      rintro _ g5 ⟨⟨w1,w2,rfl,o1,o2⟩,b5⟩
      obtain ⟨p1,c1,rfl,_⟩:=o1.open
      obtain ⟨p2,c2,rfl,_⟩:=o2.open
      rw [← hE] at *
      have s5:=b5.size
      rw [Array.size_push] at s5
      have B5:Bel h1.size h1 g5:=(Bel.push (Nat.le_refl _) _).trans (b5.mono (by simp))
      have xA:=b5.get (k:=h1.size) (by simp) get_push_last
      have wA5:=wA _ _ (if E=0 then l.b else ⟨0,0⟩).r (if E=0 then l.b else ⟨0,0⟩).n p1 (if E=0 then n.own.l else []).length c1 xA
      have zA:=lt_of_get xA
      unfold accC
      simp -implicitDefEqProofs (maxSteps:=2000000) only [go_sem,↓reduceIte,B5,wA5,zA]
      exact ⟨_,_,_,_,rfl,rfl,Nat.le_refl _,by omega,by rw [get_push_ne (by simpa using zA)]; exact get_set xA,gs2 _ _ _ _,((o1.setLow (by simp) _).push _).mono (by simp),((o2.setLow (by simp) _).push _).mono (by simp)⟩)
   | (refine (call (h1.push (.cells _ 61)) (Bel.push (Nat.le_refl _) _)).use ?_
      rintro _ g5 ⟨⟨w1,w2,rfl,o1,o2⟩,b5⟩
      obtain ⟨p1,c1,rfl,_⟩:=o1.open
      obtain ⟨p2,c2,rfl,_⟩:=o2.open
      rw [← hE] at *
      have s5:=b5.size
      rw [Array.size_push] at s5
      have B5:Bel h1.size h1 g5:=(Bel.push (Nat.le_refl _) _).trans (b5.mono (by simp))
      have xB:=b5.get (k:=h1.size) (by simp) get_push_last
      have wB5:=wB _ _ p2 (if E=0 then n.own.l else []).length c2 xB
      have zB:=lt_of_get xB
      unfold accC
      simp -implicitDefEqProofs (maxSteps:=2000000) only [go_sem,↓reduceIte,B5,wB5,zB]
      exact ⟨_,_,_,_,rfl,rfl,by omega,Nat.le_refl _,gs2 _ _ _ _,by rw [get_push_ne (by simpa using zB)]; exact get_set xB,((o1.setLow (by simp) _).push _).mono (by simp),((o2.setLow (by simp) _).push _).mono (by simp)⟩)
   | (refine (call ((h1.push (.cells _ 63)).push (.cells _ 61)) ((Bel.push (Nat.le_refl _) _).addP (by simp) _)).use ?_
      rintro _ g5 ⟨⟨w1,w2,rfl,o1,o2⟩,b5⟩
      obtain ⟨p1,c1,rfl,_⟩:=o1.open
      obtain ⟨p2,c2,rfl,_⟩:=o2.open
      rw [← hE] at *
      have s5:=b5.size
      rw [Array.size_push,Array.size_push] at s5
      have B5:Bel h1.size h1 g5:=((Bel.push (Nat.le_refl _) _).addP (by simp) _).trans (b5.mono (by simp; omega))
      have xA:=b5.get (k:=h1.size) (by simp; omega) (gl2 _ _ _)
      have xB:=b5.get (k:=h1.size+1) (by simp) (gr2 _ _ _)
      have wA5:=wA _ _ (if E=0 then l.b else ⟨0,0⟩).r (if E=0 then l.b else ⟨0,0⟩).n p1 (if E=0 then n.own.l else []).length c1 xA
      have zA:=lt_of_get xA
      have xB':=fun o:Obj=>(get_set_ne (o:=o) (show h1.size≠h1.size+1 by omega)).trans xB
      have wB5:=fun o:Obj=>wB _ _ p2 (if E=0 then n.own.l else []).length c2 (xB' o)
      have zB:h1.size+1<g5.size:=lt_of_get xB
      unfold accC
      simp -implicitDefEqProofs (maxSteps:=2000000) only [go_sem,↓reduceIte,B5,wA5,zA,wB5,zB]
      exact ⟨_,_,_,_,rfl,rfl,by omega,by omega,(get_set_ne (by omega)).trans (get_set xA),get_set (xB' _),((o1.setLow (by simp; omega) _).setLow (by simp) _).mono (by simp; omega),((o2.setLow (by simp; omega) _).setLow (by simp) _).mono (by simp; omega)⟩)
   | (refine (call ((h1.push (.cells _ 61)).push (.cells _ 63)) ((Bel.push (Nat.le_refl _) _).addP (by simp) _)).use ?_
      rintro _ g5 ⟨⟨w1,w2,rfl,o1,o2⟩,b5⟩
      obtain ⟨p1,c1,rfl,_⟩:=o1.open
      obtain ⟨p2,c2,rfl,_⟩:=o2.open
      rw [← hE] at *
      have s5:=b5.size
      rw [Array.size_push,Array.size_push] at s5
      have B5:Bel h1.size h1 g5:=((Bel.push (Nat.le_refl _) _).addP (by simp) _).trans (b5.mono (by simp; omega))
      have xB:=b5.get (k:=h1.size) (by simp; omega) (gl2 _ _ _)
      have xA:=b5.get (k:=h1.size+1) (by simp) (gr2 _ _ _)
      have wA5:=wA _ _ (if E=0 then l.b else ⟨0,0⟩).r (if E=0 then l.b else ⟨0,0⟩).n p1 (if E=0 then n.own.l else []).length c1 xA
      have zA:=lt_of_get xA
      have xB':=fun o:Obj=>(get_set_ne (o:=o) (show h1.size+1≠h1.size by omega)).trans xB
      have wB5:=fun o:Obj=>wB _ _ p2 (if E=0 then n.own.l else []).length c2 (xB' o)
      have zB:h1.size<g5.size:=lt_of_get xB
      unfold accC
      simp -implicitDefEqProofs (maxSteps:=2000000) only [go_sem,↓reduceIte,B5,wA5,zA,wB5,zB]
      exact ⟨_,_,_,_,rfl,rfl,by omega,by omega,(get_set_ne (by omega)).trans (get_set xA),get_set (xB' _),((o1.setLow (by simp) _).setLow (by simp; omega) _).mono (by simp; omega),((o2.setLow (by simp) _).setLow (by simp; omega) _).mono (by simp; omega)⟩)
 ·rintro F1 g1 ⟨b1,f3,f4,f5,f8,ka,kc,w1,w2,fA,fC,ge1,ge2,yA,yC,o1,o2⟩
  rw [← hE] at yA o1 o2
  have kb:=kp_still k1.dom b1
  have N2:=N1.still kb
  have W2:=W1.still kb
  have K2:Kp noT o h o g1:=k1.bel b1
  have y3:=x3.keep kb
  have y4:=x4.keep kb
  have y5:=x5.keep kb
  have iv2:=iv1.keep kb
  have tb2:=(tb.keep k1).keep kb
  have R2:=node_rd N2.blk.2 N2.pt.store.len
  have m3:=lt_of_get y3.2
  have m4:=lt_of_get y4.2
  have m5:=lt_of_get y5.2
  have hnb2:=lt_of_get N2.blk.2
  have q3:hc g1 ⟨h.size,0,none⟩=some (ptrV wb):=hc_last y3.2
  have q4:hc g1 ⟨h.size+1,0,none⟩=some (ptrV nb):=hc_last y4.2
  have q53:rd g1 ⟨h.size+2,3,none⟩ 2=some [.int .i64 l.b.r,.int .i64 l.b.n]:=by rw [rd_part y5.2 (by simp [ltC])]; rfl
  have q51:hc g1 ⟨h.size+2,1,none⟩=some (.int .i64 l.frm):=hc_last y5.2
  unfold ptrV at q3 q4
  have R2p:=R2.ownp
  by_cases e:E=0
  case neg=>
   have eP:prepared n l=⟨n,[⟨7,n.me,l.frm,n.own.p,vt0,[]⟩],[]⟩:=by unfold prepared; rw [← hE,if_pos e]
   rw [eP]
   simp -implicitDefEqProofs (maxSteps:=2000000) only [go_sem,↓reduceIte,f8,e]
   refine VS.z (g1.size) [10] (.q 0 (.q 1 (.p 2 (.q 3 (.q 4 (.p 5 (.p 6 (.p 7 (.q 8 (.p 9 (.w 10 .nil))))))))))) mixed (by kernel_rfl) ?_
   simp -implicitDefEqProofs (maxSteps:=2000000) only [go_sem,↓reduceIte,f3,f4,f5,q3,q4,q51,R2p,m3,m4,m5,hnb2]
   refine (send_ok T g1 o wb nb nbs n.me WA0 fl bad told l.frm ⟨7,0,0,n.own.p,vt0,[]⟩ (.slice none 0 0) K2.dom W2 R2.me hnb2 (Im.nil _ _ _ _) hroom).use ?_
   rintro v' h' ⟨o',WA',k,_,W'⟩
   simp -implicitDefEqProofs (maxSteps:=2000000) only [go_sem,↓reduceIte]
   exact ⟨o',a,WA',(kp_any K2).trans (k.mono fun t q=>q.elim .inl fun q=>.inr (.inl q)),N2.keep k (by rintro t (rfl | rfl) <;> simp [Tg.of]),W'⟩
  rw [if_pos e] at yA o1 o2
  have iv7:ImV o g1 w2 n.own.l:=Im.of_own o2.own (fun b hb=>k1.dom b hb)
  have iv6:ImV o g1 w1 n.own.l:=Im.of_own o1.own (fun b hb=>k1.dom b hb)
  unfold ptrV at fA fC
  simp -implicitDefEqProofs (maxSteps:=2000000) only [go_sem,↓reduceIte,f8,e,f3,f4,f5,fC]
  obtain ⟨g2,hg2⟩:∃ g2:Hp,g2=g1.push (.cells [fnV 88 [h.size,h.size+1,h.size+2,kc]].toArray 1):=⟨_,rfl⟩
  have k2:=kp_push K2.dom (.cells [fnV 88 [h.size,h.size+1,h.size+2,kc]].toArray 1)
  rw [← hg2] at k2
  have K3:Kp noT o h o g2:=K2.trans k2
  have x9:BoxAt o g2 g1.size (.cells [fnV 88 [h.size,h.size+1,h.size+2,kc]].toArray 1):=⟨K2.dom _ (Nat.le_refl _),by rw [hg2]; exact get_push_last⟩
  have e2:g1.push (.cells [fnV 88 [h.size,h.size+1,h.size+2,kc]].toArray 1)=g2:=hg2.symm
  unfold fnV at e2
  simp only [List.map] at e2
  unfold ptrV at e2
  rw [e2]
  clear e2 hg2
  have N3:=N2.still k2
  have W3:=W2.still k2
  have z3:=y3.keep k2
  have z4:=y4.keep k2
  have z5:=y5.keep k2
  have z6:=(show BoxAt o g1 ka _ from ⟨k1.dom ka ge1,yA⟩).keep k2
  have z7:=(show BoxAt o g1 kc _ from ⟨k1.dom kc ge2,yC⟩).keep k2
  have iw7:=iv7.keep k2
  have iw6:=iv6.keep k2
  have tb3:=tb2.keep k2
  clear R2 R2p m3 m4 m5 hnb2 q3 q4 q53 q51 R1 R1own hnb1 l3 l4 l5 r3 r4 r53 r51
  have R3:=node_rd N3.blk.2 N3.pt.store.len
  have m3:=lt_of_get z3.2
  have m4:=lt_of_get z4.2
  have m5:=lt_of_get z5.2
  have m9:=lt_of_get x9.2
  have hnb3:=lt_of_get N3.blk.2
  have q4:hc g2 ⟨h.size+1,0,none⟩=some (ptrV nb):=hc_last z4.2
  have q53:rd g2 ⟨h.size+2,3,none⟩ 2=some (balC l.b):=by rw [rd_part z5.2 (by simp [ltC])]; rfl
  have q9:hc g2 ⟨g1.size,0,none⟩=some (fnV 88 [h.size,h.size+1,h.size+2,kc]):=hc_last x9.2
  have R3p:rd g2 ⟨nb,4,none⟩ 2=some (balC n.own.p):=R3.ownp
  unfold ptrV at q4
  refine VS.q mixed (by kernel_rfl) ?_
  simp -implicitDefEqProofs (maxSteps:=2000000) only [go_sem,↓reduceIte,f4,f5,q4,q53,R3p]
  by_cases ep:n.own.p=l.b
  ·have eP:prepared n l=⟨n,[⟨1,n.me,l.frm,l.b,vt0,n.own.l⟩],[]⟩:=by unfold prepared; rw [← hE,if_neg (by omega),if_pos ep]
   rw [eP]
   unfold fnV at q9
   simp only [List.map] at q9
   unfold ptrV at q9
   simp -implicitDefEqProofs (maxSteps:=2000000) only [go_sem,↓reduceIte,ep,q9]
   refine (ansP_ok T g2 o wb nb nbs n.me WA0 fl bad told h.size (h.size+1) (h.size+2) kc l _ w2 n.own.l K3.dom W3 R3.me hnb3 hroom z3 z4 z5 z7 iw7).use ?_
   rintro v' h' ⟨o',WA',k,W'⟩
   simp -implicitDefEqProofs (maxSteps:=2000000) only [go_sem,↓reduceIte]
   exact ⟨o',a,WA',(kp_any K3).trans (k.mono fun t q=>q.elim .inl fun q=>.inr (.inl q)),N3.keep k (by rintro t (rfl | rfl) <;> simp [Tg.of]),W'⟩
  simp -implicitDefEqProofs (maxSteps:=2000000) only [go_sem,↓reduceIte,ep]
  have R3t:=R3.tape
  obtain ⟨pd,cd,hpd⟩:=N3.pt.data.1.isSlice
  rw [hpd] at R3t
  obtain ⟨E2,hE2⟩:∃ E2,E2=proErr n.data n.syn l.b:=⟨_,rfl⟩
  have call2:∀ G,Bel g2.size g2 G→CallsH Tryz.prog T 89 #[.agg #[.slice pd n.data.length cd,.int .i64 n.syn],.agg #[.int .i64 l.b.r,.int .i64 l.b.n]] G fun v' h'=>WrtRes G.size h' v' n.data n.syn E2 (frmS (proB l.b))∧Bel G.size G h':=fun G hG=>by
   rw [hE2]
   exact sPromise_ok T G _ n.syn n.data l.b (by rw [← hpd]; exact N3.pt.data.bs.bel hG) (by omega) (tb3.tk.bels hG)
  have wT:∀ (G:Hp) (k:Nat) (m:Int) (p:Option Addr) (L c:Nat),G[k]? = some (.cells [.slice none 0 0,.int .i64 0].toArray 58)→wr G ⟨k,0,none⟩ [.slice p L c,.int .i64 m]=some (G.setIfInBounds k (.cells [.slice p L c,.int .i64 m].toArray 58)):=fun G k m p L c hx=>by
   rw [wr_get hx 0 _]; rfl
  unfold balC at q53
  refine VS.mono (N:=fun F' g'=>Bel g2.size g2 g'∧F' 3=.pointer (some ⟨h.size,0,none⟩)∧F' 4=.pointer (some ⟨h.size+1,0,none⟩)∧F' 5=.pointer (some ⟨h.size+2,0,none⟩)∧F' 6=.pointer (some ⟨ka,0,none⟩)∧F' 9=.pointer (some ⟨g1.size,0,none⟩)∧F' 8=.int .i64 E2∧WrEnd g2.size g' (F' 10) n.data n.syn E2 (frmS (proB l.b))) ?_ ?_ (fun _ _ _ h=>h) (fun _ _ h=>h)
  ·refine VS.z (g2.size) [6,11] (.q 0 (.p 1 (.p 2 (.q 3 (.p 4 (.q 5 (.or 6 (.p 7 (.p 8 (.p 9 (.s 10 (.w 11 (.p 12 .nil)))))) (.s 10 (.w 6 (.p 7 (.p 8 (.p 9 (.w 11 (.p 12 .nil)))))))))))))) mixed (by kernel_rfl) ?_
   simp -implicitDefEqProofs (maxSteps:=2000000) only [go_sem,↓reduceIte,f3,f4,f5,fA,q4,R3t,q53,m4,m5,hnb3]
   unfold WrEnd
   repeat' (first | with_reducible exact Bel.refl _ _ | with_reducible exact Bel.push (by omega) _ | with_reducible refine And.intro ?_ ?_)
   all_goals first
    | (refine (call2 g2 (Bel.refl _ _)).use ?_
       rintro _ g5 ⟨⟨w,rfl,o1⟩,b5⟩
       obtain ⟨p1,c1,rfl,_⟩:=o1.bs.open
       have s5:=b5.size
       simp -implicitDefEqProofs (maxSteps:=2000000) only [go_sem,↓reduceIte,b5]
       exact ⟨f3,f4,f5,fA,_,_,rfl,s5,get_push_last,o1.push _⟩)
    | (refine (call2 (g2.push (.cells _ 58)) (Bel.push (Nat.le_refl _) _)).use ?_
       rintro _ g5 ⟨⟨w,rfl,o1⟩,b5⟩
       obtain ⟨p1,c1,rfl,_⟩:=o1.bs.open
       have B5:Bel g2.size g2 g5:=(Bel.push (Nat.le_refl _) _).trans (b5.mono (by simp))
       have xA:=b5.get (k:=g2.size) (by simp) get_push_last
       have wA5:=wT _ _ (if E2=0 then n.syn else 0) p1 (if E2=0 then n.data++frmS (proB l.b) else []).length c1 xA
       have zA:=lt_of_get xA
       simp -implicitDefEqProofs (maxSteps:=2000000) only [go_sem,↓reduceIte,B5,wA5,zA]
       exact ⟨f3,f4,f5,fA,_,_,rfl,Nat.le_refl _,get_set xA,(o1.setLow (by simp) _).mono (by simp)⟩)
  ·rintro F2 g3 ⟨b3,f3,f4,f5,f6,f9,f8,kt,wt,fT,ge3,yT,oT⟩
   have kb3:=kp_still K3.dom b3
   have N4:=N3.still kb3
   have W4:=W3.still kb3
   have K4:Kp noT o h o g3:=K3.bel b3
   by_cases e2:E2=0
   case neg=>
    have eP:prepared n l=⟨n,[],[]⟩:=by unfold prepared; rw [← hE,if_neg (by omega),if_neg ep,← hE2,if_pos e2]
    rw [eP,List.append_nil]
    simp -implicitDefEqProofs (maxSteps:=2000000) only [go_sem,↓reduceIte,f8,e2]
    exact ⟨o,a,WA0,kp_any K4,N4,W4⟩
   rw [if_pos e2] at yT oT
   have u3:=z3.keep kb3
   have u4:=z4.keep kb3
   have u5:=z5.keep kb3
   have u6:=z6.keep kb3
   have u7:=z7.keep kb3
   have u9:=x9.keep kb3
   have iu6:=iw6.keep kb3
   have iu7:=iw7.keep kb3
   have iT:ImB o g3 wt (n.data++frmS (proB l.b)):=⟨Im.of_own oT.own (fun b hb=>K3.dom b hb),oT.byte⟩
   have eP:prepared n l=⟨{ n with data:=n.data++frmS (proB l.b),pend:=some (.pro ⟨l.b,n.own.l⟩ l.frm l.b n.own.l) },[],[]⟩:=by unfold prepared; rw [← hE,if_neg (by omega),if_neg ep,← hE2,if_neg (by omega)]
   rw [eP,List.append_nil]
   clear R3 m3 m4 m5 m9 hnb3 q4 q53 q9 R3p R3t
   obtain ⟨pt,ct,rfl,_⟩:=oT.bs.open
   have q4:hc g3 ⟨h.size+1,0,none⟩=some (ptrV nb):=hc_last u4.2
   have qT:rd g3 ⟨kt,0,none⟩ 2=some [.slice pt (n.data++frmS (proB l.b)).length ct,.int .i64 n.syn]:=rd_last yT rfl
   have hnb4:=lt_of_get N4.blk.2
   obtain ⟨g4,w4,N5,k5⟩:=NodePt.write (a:={ a with data:=.slice pt (n.data++frmS (proB l.b)).length ct }) (n:={ n with data:=n.data++frmS (proB l.b) }) { N4.pt with data:=iT } K4.dom N4.blk ((node_wr N4.blk.2 N4.pt.store.len).tape (.slice pt (n.data++frmS (proB l.b)).length ct) n.syn rfl)
   have v4:=u4.keep k5
   have q4':hc g4 ⟨h.size+1,0,none⟩=some (ptrV nb):=hc_last v4.2
   have hnb5:=lt_of_get N5.blk.2
   have pn:PndAt o g4 wb i nb a.reign (fnV 90 [ka,h.size+1,g1.size]) (some (.pro ⟨l.b,n.own.l⟩ l.frm l.b n.own.l)):=
    ⟨ka,h.size+1,g1.size,_,rfl,⟨_,u6.keep k5,iu6.keep k5⟩,v4,u9.keep k5,h.size,h.size+1,h.size+2,kc,l,_,w2,rfl,u3.keep k5,v4,u5.keep k5,rfl,rfl,u7.keep k5,iu7.keep k5⟩
   obtain ⟨g6,w6,N6,k6⟩:=NodePt.write (a:={ a with data:=.slice pt (n.data++frmS (proB l.b)).length ct,pend:=fnV 90 [ka,h.size+1,g1.size] }) (n:={ n with data:=n.data++frmS (proB l.b),pend:=some (.pro ⟨l.b,n.own.l⟩ l.frm l.b n.own.l) }) { N5.pt with pend:=pn } k5.dom N5.blk ((node_wr N5.blk.2 N5.pt.store.len).pend (fnV 90 [ka,h.size+1,g1.size]) rfl)
   unfold fnV at w6
   simp only [List.map] at w6
   unfold ptrV at q4 q4' w6
   simp -implicitDefEqProofs (maxSteps:=2000000) only [go_sem,↓reduceIte,f8,e2,f4,f6,f9,fT,q4,qT,w4,hnb4,q4',w6,hnb5]
   have K6:Kp (fun t=>t=.world∨t=.flying∨t=.node i) o h o g6:=((kp_any K4).trans (k5.mono fun t q=>.inr (.inr q))).trans (k6.mono fun t q=>.inr (.inr q))
   exact ⟨o,_,WA0,K6,N6,(W4.keep k5 (by rintro t rfl; simp [Tg.of])).keep k6 (by rintro t rfl; simp [Tg.of])⟩
def AcEnd (B:Nat) (g':Hp) (A:Value) (p:Bal) (l:List Vt) (x:Vt):Prop:=
 ∃ ka w,A=.pointer (some ⟨ka,0,none⟩)∧B≤ka∧g'[ka]? = some (.cells (accC (if acErr p l x=0 then x.b else ⟨0,0⟩) w).toArray 63)∧Ots B 96 voteC 8 g' w (if acErr p l x=0 then insV l x else [])
set_option maxHeartbeats 1000000 in
theorem asked_ok (T:World) (h:Hp) (o:Ow) (wb i nb:Nat) (nbs:Nat→Nat) (a:NA) (n:Nd) (WA0:WA) (fl:List Ltr) (bad:Nat→Int) (told:List Tld) (l:Ltr) (w:Value) (d:Dom o h)
  (N:NodeAt o h wb i nb a n) (W:WorldAt o h wb nbs WA0 fl bad told) (iv:ImV o h w l.vs) (hroom:fl.length≤1000000000000) (hvl:n.own.l.length≤1000000) (hdl:n.data.length≤1000000) (tb:Tbs o h) :
  CallsH Tryz.prog T 63 #[ptrV wb,ptrV nb,.agg (ltC l w).toArray] h fun v' h'=>∃ o' a' WA',Kp (fun t=>t=.world∨t=.flying∨t=.node i) o h o' h'∧NodeAt o' h' wb i nb a' (asked n l).n∧WorldAt o' h' wb nbs WA' (fl++(asked n l).ls) bad told:=by
 obtain ⟨pw,cw,rfl⟩:=iv.isSlice
 refine CallsH.of_code' (args:=[_,_,_]) Tryz.func63 rfl rfl rfl rfl ?_
 unfold ptrV ltC
 simp -implicitDefEqProofs (maxSteps:=2000000) only [go_sem,↓reduceIte]
 obtain ⟨h1,hh1⟩:∃ h1:Hp,h1=((h.push (.cells [ptrV wb].toArray 49)).push (.cells [ptrV nb].toArray 56)).push (.cells (ltC l (.slice pw l.vs.length cw)).toArray 98):=⟨_,rfl⟩
 have k1:Kp noT o h o h1:=by rw [hh1]; exact ((Kp.refl d _).push _ |>.push _).push _
 have s1:h1.size=h.size+3:=by rw [hh1]; simp
 have d1:∀ b,h.size≤b→o b=none:=d
 have x3:BoxAt o h1 h.size (.cells [ptrV wb].toArray 49):=⟨d _ (by omega),by rw [hh1,get_push_ne (by simp; omega),gl2]⟩
 have x4:BoxAt o h1 (h.size+1) (.cells [ptrV nb].toArray 56):=⟨d _ (by omega),by rw [hh1,get_push_ne (by simp),gr2]⟩
 have x5:BoxAt o h1 (h.size+2) (.cells (ltC l (.slice pw l.vs.length cw)).toArray 98):=⟨d _ (by omega),by
  have:=get_push_last (h:=(h.push (.cells [ptrV wb].toArray 49)).push (.cells [ptrV nb].toArray 56)) (o:=.cells (ltC l (.slice pw l.vs.length cw)).toArray 98)
  rw [hh1]; simpa using this⟩
 have e0:((h.push (.cells [ptrV wb].toArray 49)).push (.cells [ptrV nb].toArray 56)).push (.cells (ltC l (.slice pw l.vs.length cw)).toArray 98)=h1:=hh1.symm
 unfold ptrV ltC at e0
 rw [e0]
 clear e0 hh1
 have N1:=N.still k1
 have W1:=W.still k1
 have iv1:=iv.keep k1
 have R1:=node_rd N1.blk.2 N1.pt.store.len
 have hnb1:=lt_of_get N1.blk.2
 have l3:=lt_of_get x3.2
 have l4:=lt_of_get x4.2
 have l5:=lt_of_get x5.2
 have r3:hc h1 ⟨h.size,0,none⟩=some (ptrV wb):=hc_last x3.2
 have r4:hc h1 ⟨h.size+1,0,none⟩=some (ptrV nb):=hc_last x4.2
 have r53:rd h1 ⟨h.size+2,5,none⟩ 8=some (voteC l.v):=by rw [rd_part x5.2 (by simp [ltC])]; rfl
 have r51:hc h1 ⟨h.size+2,1,none⟩=some (.int .i64 l.frm):=hc_last x5.2
 unfold ptrV at r3 r4
 have R1own:=R1.own
 obtain ⟨pv,cv,hpv⟩:=N1.pt.votes.isSlice
 rw [hpv] at R1own
 unfold voteC at r53
 have call:∀ G,Bel h1.size h1 G→CallsH Tryz.prog T 74 #[.agg #[.int .i64 n.own.p.r,.int .i64 n.own.p.n,.slice pv n.own.l.length cv],.agg (voteC l.v).toArray] G fun v' h'=>AcRes G.size h' v' n.own.p n.own.l l.v∧Bel G.size G h':=fun G hG=>
  accept_ok T G n.own.p _ n.own.l l.v (by rw [← hpv]; exact N1.pt.votes.ts.bel hG) (by omega)
 unfold voteC at call
 obtain ⟨E,hE⟩:∃ E,E=acErr n.own.p n.own.l l.v:=⟨_,rfl⟩
 have wA:∀ (G:Hp) (k:Nat) (r m:Int) (p:Option Addr) (L c:Nat),G[k]? = some (.cells [.int .i64 0,.int .i64 0,.slice none 0 0].toArray 63)→wr G ⟨k,0,none⟩ [.int .i64 r,.int .i64 m,.slice p L c]=some (G.setIfInBounds k (.cells [.int .i64 r,.int .i64 m,.slice p L c].toArray 63)):=fun G k r m p L c hx=>by
  rw [wr_get hx 0 _]; rfl
 refine VS.mono (N:=fun F' g'=>Bel h1.size h1 g'∧F' 3=.pointer (some ⟨h.size,0,none⟩)∧F' 4=.pointer (some ⟨h.size+1,0,none⟩)∧F' 5=.pointer (some ⟨h.size+2,0,none⟩)∧F' 7=.int .i64 E∧AcEnd h1.size g' (F' 6) n.own.p n.own.l l.v) ?_ ?_ (fun _ _ _ h=>h) (fun _ _ h=>h)
 ·refine VS.z (h1.size) [6,11] (.q 0 (.p 1 (.p 2 (.q 3 (.p 4 (.q 5 (.or 6 (.p 7 (.p 8 (.p 9 (.s 10 (.w 11 (.p 12 .nil)))))) (.s 10 (.w 6 (.p 7 (.p 8 (.p 9 (.w 11 (.p 12 .nil)))))))))))))) mixed (by kernel_rfl) ?_
  simp -implicitDefEqProofs (maxSteps:=2000000) only [go_sem,↓reduceIte,r4,R1own,r53,hnb1,l4,l5]
  unfold AcEnd accC
  repeat' (first | with_reducible exact Bel.refl _ _ | with_reducible exact Bel.push (by omega) _ | with_reducible refine And.intro ?_ ?_)
  all_goals first
   | (refine (call h1 (Bel.refl _ _)).use ?_
      rintro _ g5 ⟨⟨w1,rfl,o1⟩,b5⟩
      obtain ⟨p1,c1,rfl,_⟩:=o1.open
      rw [← hE] at *
      have s5:=b5.size
      unfold accC
      simp -implicitDefEqProofs (maxSteps:=2000000) only [go_sem,↓reduceIte,b5]
      exact ⟨_,_,rfl,s5,get_push_last,o1.push _⟩)
   | (refine (call (h1.push (.cells _ 63)) (Bel.push (Nat.le_refl _) _)).use ?_
      rintro _ g5 ⟨⟨w1,rfl,o1⟩,b5⟩
      obtain ⟨p1,c1,rfl,_⟩:=o1.open
      rw [← hE] at *
      have B5:Bel h1.size h1 g5:=(Bel.push (Nat.le_refl _) _).trans (b5.mono (by simp))
      have xA:=b5.get (k:=h1.size) (by simp) get_push_last
      have wA5:=wA _ _ (if E=0 then l.v.b else ⟨0,0⟩).r (if E=0 then l.v.b else ⟨0,0⟩).n p1 (if E=0 then insV n.own.l l.v else []).length c1 xA
      have zA:=lt_of_get xA
      unfold accC
      simp -implicitDefEqProofs (maxSteps:=2000000) only [go_sem,↓reduceIte,B5,wA5,zA]
      exact ⟨_,_,rfl,Nat.le_refl _,get_set xA,(o1.setLow (by simp) _).mono (by simp)⟩)
 ·rintro F1 g1 ⟨b1,f3,f4,f5,f8,ka,w1,fA,ge1,yA,o1⟩
  rw [← hE] at yA o1
  have kb:=kp_still k1.dom b1
  have N2:=N1.still kb
  have W2:=W1.still kb
  have K2:Kp noT o h o g1:=k1.bel b1
  have y3:=x3.keep kb
  have y4:=x4.keep kb
  have y5:=x5.keep kb
  have iv2:=iv1.keep kb
  have tb2:=(tb.keep k1).keep kb
  have R2:=node_rd N2.blk.2 N2.pt.store.len
  have m3:=lt_of_get y3.2
  have m4:=lt_of_get y4.2
  have m5:=lt_of_get y5.2
  have hnb2:=lt_of_get N2.blk.2
  have q3:hc g1 ⟨h.size,0,none⟩=some (ptrV wb):=hc_last y3.2
  have q4:hc g1 ⟨h.size+1,0,none⟩=some (ptrV nb):=hc_last y4.2
  have q51:hc g1 ⟨h.size+2,1,none⟩=some (.int .i64 l.frm):=hc_last y5.2
  unfold ptrV at q3 q4
  have R2p:=R2.ownp
  by_cases e:E=0
  case neg=>
   have eP:asked n l=⟨n,[⟨7,n.me,l.frm,n.own.p,vt0,[]⟩],[]⟩:=by unfold asked; rw [← hE,if_pos e]
   rw [eP]
   simp -implicitDefEqProofs (maxSteps:=2000000) only [go_sem,↓reduceIte,f8,e]
   refine VS.z (g1.size) [10] (.q 0 (.q 1 (.p 2 (.q 3 (.q 4 (.p 5 (.p 6 (.p 7 (.q 8 (.p 9 (.w 10 .nil))))))))))) mixed (by kernel_rfl) ?_
   simp -implicitDefEqProofs (maxSteps:=2000000) only [go_sem,↓reduceIte,f3,f4,f5,q3,q4,q51,R2p,m3,m4,m5,hnb2]
   refine (send_ok T g1 o wb nb nbs n.me WA0 fl bad told l.frm ⟨7,0,0,n.own.p,vt0,[]⟩ (.slice none 0 0) K2.dom W2 R2.me hnb2 (Im.nil _ _ _ _) hroom).use ?_
   rintro v' h' ⟨o',WA',k,_,W'⟩
   simp -implicitDefEqProofs (maxSteps:=2000000) only [go_sem,↓reduceIte]
   exact ⟨o',a,WA',(kp_any K2).trans (k.mono fun t q=>q.elim .inl fun q=>.inr (.inl q)),N2.keep k (by rintro t (rfl | rfl) <;> simp [Tg.of]),W'⟩
  rw [if_pos e] at yA o1
  have iv6:ImV o g1 w1 (insV n.own.l l.v):=Im.of_own o1.own (fun b hb=>k1.dom b hb)
  simp -implicitDefEqProofs (maxSteps:=2000000) only [go_sem,↓reduceIte,f8,e,f3,f4,f5]
  obtain ⟨g2,hg2⟩:∃ g2:Hp,g2=g1.push (.cells [fnV 93 [h.size,h.size+1,h.size+2]].toArray 1):=⟨_,rfl⟩
  have k2:=kp_push K2.dom (.cells [fnV 93 [h.size,h.size+1,h.size+2]].toArray 1)
  rw [← hg2] at k2
  have K3:Kp noT o h o g2:=K2.trans k2
  have x9:BoxAt o g2 g1.size (.cells [fnV 93 [h.size,h.size+1,h.size+2]].toArray 1):=⟨K2.dom _ (Nat.le_refl _),by rw [hg2]; exact get_push_last⟩
  have e2:g1.push (.cells [fnV 93 [h.size,h.size+1,h.size+2]].toArray 1)=g2:=hg2.symm
  unfold fnV at e2
  simp only [List.map] at e2
  unfold ptrV at e2
  rw [e2]
  clear e2 hg2
  have N3:=N2.still k2
  have W3:=W2.still k2
  have z3:=y3.keep k2
  have z4:=y4.keep k2
  have z5:=y5.keep k2
  have z6:=(show BoxAt o g1 ka _ from ⟨k1.dom ka ge1,yA⟩).keep k2
  have iw6:=iv6.keep k2
  have tb3:=tb2.keep k2
  clear R2 R2p m3 m4 m5 hnb2 q3 q4 q51 R1 R1own hnb1 l3 l4 l5 r3 r4 r53 r51
  have R3:=node_rd N3.blk.2 N3.pt.store.len
  have m3:=lt_of_get z3.2
  have m4:=lt_of_get z4.2
  have m5:=lt_of_get z5.2
  have m9:=lt_of_get x9.2
  have hnb3:=lt_of_get N3.blk.2
  have q4:hc g2 ⟨h.size+1,0,none⟩=some (ptrV nb):=hc_last z4.2
  have q53:rd g2 ⟨h.size+2,5,none⟩ 8=some (voteC l.v):=by rw [rd_part z5.2 (by simp [ltC])]; rfl
  have q9:hc g2 ⟨g1.size,0,none⟩=some (fnV 93 [h.size,h.size+1,h.size+2]):=hc_last x9.2
  have R3v:=R3.votes
  have N3v:=N3.pt.votes
  unfold ptrV at q4
  unfold voteC at q53
  refine VS.mono (N:=fun F' g'=>Bel g2.size g2 g'∧F' 3=.pointer (some ⟨h.size,0,none⟩)∧F' 4=.pointer (some ⟨h.size+1,0,none⟩)∧F' 5=.pointer (some ⟨h.size+2,0,none⟩)∧F' 6=.pointer (some ⟨ka,0,none⟩)∧F' 8=.pointer (some ⟨g1.size,0,none⟩)∧F' 41=.bool (decide (l.v∈n.own.l))) ?_ ?_ (fun _ _ _ h=>h) (fun _ _ h=>h)
  ·refine VS.z (g2.size) [7] (.q 0 (.p 1 (.p 2 (.p 3 (.q 4 (.p 5 (.q 6 (.w 7 .nil)))))))) mixed (by kernel_rfl) ?_
   simp -implicitDefEqProofs (maxSteps:=2000000) only [go_sem,↓reduceIte,f3,f4,f5,fA,q4,q53,R3v,m4,m5,hnb3]
   have cv:=containsVt_ok T g2 a.votes n.own.l l.v N3v.ts (by omega)
   unfold voteC at cv
   refine cv.use ?_
   rintro _ g5 ⟨rfl,b5⟩
   simp -implicitDefEqProofs (maxSteps:=2000000) only [go_sem,↓reduceIte,b5,f3,f4,f5,fA]
  rintro F1' g2' ⟨b2',f3,f4,f5,fA,f9,f41⟩
  have kb2:=kp_still K3.dom b2'
  replace N3:=N3.still kb2
  replace W3:=W3.still kb2
  replace K3:=K3.trans kb2
  replace z3:=z3.keep kb2
  replace z4:=z4.keep kb2
  replace z5:=z5.keep kb2
  replace z6:=z6.keep kb2
  replace iw6:=iw6.keep kb2
  replace tb3:=tb3.keep kb2
  replace x9:=x9.keep kb2
  clear R3 m3 m4 m5 m9 hnb3 q4 q53 q9 R3v N3v
  have R3:=node_rd N3.blk.2 N3.pt.store.len
  have m3:=lt_of_get z3.2
  have m4:=lt_of_get z4.2
  have m5:=lt_of_get z5.2
  have m9:=lt_of_get x9.2
  have hnb3:=lt_of_get N3.blk.2
  have q4:hc g2' ⟨h.size+1,0,none⟩=some (ptrV nb):=hc_last z4.2
  have q53:rd g2' ⟨h.size+2,5,none⟩ 8=some (voteC l.v):=by rw [rd_part z5.2 (by simp [ltC])]; rfl
  have q9:hc g2' ⟨g1.size,0,none⟩=some (fnV 93 [h.size,h.size+1,h.size+2]):=hc_last x9.2
  unfold ptrV at q4
  by_cases ep:l.v∈n.own.l
  ·have eP:asked n l=⟨n,[⟨3,n.me,l.frm,bal0,l.v,[]⟩],[]⟩:=by unfold asked; rw [← hE,if_neg (by omega),if_pos ep]
   rw [eP]
   unfold fnV at q9
   simp only [List.map] at q9
   unfold ptrV at q9
   simp -implicitDefEqProofs (maxSteps:=2000000) only [go_sem,↓reduceIte,f41,ep,f9,q9]
   refine (ansV_ok T g2' o wb nb nbs n.me WA0 fl bad told h.size (h.size+1) (h.size+2) l _ K3.dom W3 R3.me hnb3 hroom z3 z4 z5).use ?_
   rintro v' h' ⟨o',WA',k,W'⟩
   simp -implicitDefEqProofs (maxSteps:=2000000) only [go_sem,↓reduceIte]
   exact ⟨o',a,WA',(kp_any K3).trans (k.mono fun t q=>q.elim .inl fun q=>.inr (.inl q)),N3.keep k (by rintro t (rfl | rfl) <;> simp [Tg.of]),W'⟩
  simp -implicitDefEqProofs (maxSteps:=2000000) only [go_sem,↓reduceIte,f41,ep]
  have R3t:=R3.tape
  obtain ⟨pd,cd,hpd⟩:=N3.pt.data.1.isSlice
  rw [hpd] at R3t
  obtain ⟨E2,hE2⟩:∃ E2,E2=votErr n.data n.syn l.v:=⟨_,rfl⟩
  have call2:∀ G,Bel g2'.size g2' G→CallsH Tryz.prog T 95 #[.agg #[.slice pd n.data.length cd,.int .i64 n.syn],.agg (voteC l.v).toArray] G fun v' h'=>WrtRes G.size h' v' n.data n.syn E2 (frmS (votB l.v))∧Bel G.size G h':=fun G hG=>by
   rw [hE2]
   exact sVote_ok T G _ n.syn n.data l.v (by rw [← hpd]; exact N3.pt.data.bs.bel hG) (by omega) (tb3.tk.bels hG)
  have wT:∀ (G:Hp) (k:Nat) (m:Int) (p:Option Addr) (L c:Nat),G[k]? = some (.cells [.slice none 0 0,.int .i64 0].toArray 58)→wr G ⟨k,0,none⟩ [.slice p L c,.int .i64 m]=some (G.setIfInBounds k (.cells [.slice p L c,.int .i64 m].toArray 58)):=fun G k m p L c hx=>by
   rw [wr_get hx 0 _]; rfl
  unfold voteC at q53 call2
  refine VS.mono (N:=fun F' g'=>Bel g2'.size g2' g'∧F' 3=.pointer (some ⟨h.size,0,none⟩)∧F' 4=.pointer (some ⟨h.size+1,0,none⟩)∧F' 5=.pointer (some ⟨h.size+2,0,none⟩)∧F' 6=.pointer (some ⟨ka,0,none⟩)∧F' 8=.pointer (some ⟨g1.size,0,none⟩)∧F' 7=.int .i64 E2∧WrEnd g2'.size g' (F' 9) n.data n.syn E2 (frmS (votB l.v))) ?_ ?_ (fun _ _ _ h=>h) (fun _ _ h=>h)
  ·refine VS.z (g2'.size) [6,11] (.q 0 (.p 1 (.p 2 (.q 3 (.p 4 (.q 5 (.or 6 (.p 7 (.p 8 (.p 9 (.s 10 (.w 11 (.p 12 .nil)))))) (.s 10 (.w 6 (.p 7 (.p 8 (.p 9 (.w 11 (.p 12 .nil)))))))))))))) mixed (by kernel_rfl) ?_
   simp -implicitDefEqProofs (maxSteps:=2000000) only [go_sem,↓reduceIte,f3,f4,f5,fA,f9,q4,R3t,q53,m4,m5,hnb3]
   unfold WrEnd
   repeat' (first | with_reducible exact Bel.refl _ _ | with_reducible exact Bel.push (by omega) _ | with_reducible refine And.intro ?_ ?_)
   all_goals first
    | (refine (call2 g2' (Bel.refl _ _)).use ?_
       rintro _ g5 ⟨⟨w,rfl,o1⟩,b5⟩
       obtain ⟨p1,c1,rfl,_⟩:=o1.bs.open
       have s5:=b5.size
       simp -implicitDefEqProofs (maxSteps:=2000000) only [go_sem,↓reduceIte,b5]
       exact ⟨f3,f4,f5,fA,f9,_,_,rfl,s5,get_push_last,o1.push _⟩)
    | (refine (call2 (g2'.push (.cells _ 58)) (Bel.push (Nat.le_refl _) _)).use ?_
       rintro _ g5 ⟨⟨w,rfl,o1⟩,b5⟩
       obtain ⟨p1,c1,rfl,_⟩:=o1.bs.open
       have B5:Bel g2'.size g2' g5:=(Bel.push (Nat.le_refl _) _).trans (b5.mono (by simp))
       have xA:=b5.get (k:=g2'.size) (by simp) get_push_last
       have wA5:=wT _ _ (if E2=0 then n.syn else 0) p1 (if E2=0 then n.data++frmS (votB l.v) else []).length c1 xA
       have zA:=lt_of_get xA
       simp -implicitDefEqProofs (maxSteps:=2000000) only [go_sem,↓reduceIte,B5,wA5,zA]
       exact ⟨f3,f4,f5,fA,f9,_,_,rfl,Nat.le_refl _,get_set xA,(o1.setLow (by simp) _).mono (by simp)⟩)
  ·rintro F2 g3 ⟨b3,f3,f4,f5,f6,f9,f8,kt,wt,fT,ge3,yT,oT⟩
   have kb3:=kp_still K3.dom b3
   have N4:=N3.still kb3
   have W4:=W3.still kb3
   have K4:Kp noT o h o g3:=K3.bel b3
   by_cases e2:E2=0
   case neg=>
    have eP:asked n l=⟨n,[],[]⟩:=by unfold asked; rw [← hE,if_neg (by omega),if_neg ep,← hE2,if_pos e2]
    rw [eP,List.append_nil]
    simp -implicitDefEqProofs (maxSteps:=2000000) only [go_sem,↓reduceIte,f8,e2]
    exact ⟨o,a,WA0,kp_any K4,N4,W4⟩
   rw [if_pos e2] at yT oT
   have u3:=z3.keep kb3
   have u4:=z4.keep kb3
   have u5:=z5.keep kb3
   have u6:=z6.keep kb3
   have u9:=x9.keep kb3
   have iu6:=iw6.keep kb3
   have iT:ImB o g3 wt (n.data++frmS (votB l.v)):=⟨Im.of_own oT.own (fun b hb=>K3.dom b hb),oT.byte⟩
   have eP:asked n l=⟨{ n with data:=n.data++frmS (votB l.v),pend:=some (.vot ⟨l.v.b,insV n.own.l l.v⟩ l.frm l.v) },[],[]⟩:=by unfold asked; rw [← hE,if_neg (by omega),if_neg ep,← hE2,if_neg (by omega)]
   rw [eP,List.append_nil]
   clear R3 m3 m4 m5 m9 hnb3 q4 q53 q9 R3t
   obtain ⟨pt,ct,rfl,_⟩:=oT.bs.open
   have q4:hc g3 ⟨h.size+1,0,none⟩=some (ptrV nb):=hc_last u4.2
   have qT:rd g3 ⟨kt,0,none⟩ 2=some [.slice pt (n.data++frmS (votB l.v)).length ct,.int .i64 n.syn]:=rd_last yT rfl
   have hnb4:=lt_of_get N4.blk.2
   obtain ⟨g4,w4,N5,k5⟩:=NodePt.write (a:={ a with data:=.slice pt (n.data++frmS (votB l.v)).length ct }) (n:={ n with data:=n.data++frmS (votB l.v) }) { N4.pt with data:=iT } K4.dom N4.blk ((node_wr N4.blk.2 N4.pt.store.len).tape (.slice pt (n.data++frmS (votB l.v)).length ct) n.syn rfl)
   have v4:=u4.keep k5
   have q4':hc g4 ⟨h.size+1,0,none⟩=some (ptrV nb):=hc_last v4.2
   have hnb5:=lt_of_get N5.blk.2
   have pn:PndAt o g4 wb i nb a.reign (fnV 96 [ka,h.size+1,g1.size]) (some (.vot ⟨l.v.b,insV n.own.l l.v⟩ l.frm l.v)):=
    ⟨ka,h.size+1,g1.size,_,rfl,⟨_,u6.keep k5,iu6.keep k5⟩,v4,u9.keep k5,h.size,h.size+1,h.size+2,l,_,rfl,u3.keep k5,v4,u5.keep k5,rfl,rfl⟩
   obtain ⟨g6,w6,N6,k6⟩:=NodePt.write (a:={ a with data:=.slice pt (n.data++frmS (votB l.v)).length ct,pend:=fnV 96 [ka,h.size+1,g1.size] }) (n:={ n with data:=n.data++frmS (votB l.v),pend:=some (.vot ⟨l.v.b,insV n.own.l l.v⟩ l.frm l.v) }) { N5.pt with pend:=pn } k5.dom N5.blk ((node_wr N5.blk.2 N5.pt.store.len).pend (fnV 96 [ka,h.size+1,g1.size]) rfl)
   unfold fnV at w6
   simp only [List.map] at w6
   unfold ptrV at q4 q4' w6
   simp -implicitDefEqProofs (maxSteps:=2000000) only [go_sem,↓reduceIte,f8,e2,f4,f6,f9,fT,q4,qT,w4,hnb4,q4',w6,hnb5]
   have K6:Kp (fun t=>t=.world∨t=.flying∨t=.node i) o h o g6:=((kp_any K4).trans (k5.mono fun t q=>.inr (.inr q))).trans (k6.mono fun t q=>.inr (.inr q))
   exact ⟨o,_,WA0,K6,N6,(W4.keep k5 (by rintro t rfl; simp [Tg.of])).keep k6 (by rintro t rfl; simp [Tg.of])⟩
theorem VtsAt.lkp {o:Ow} {i:Nat} {h:Hp} {sv:List (Int × Nat)} {vt:List (Int × List (Int × Unit))} (s:VtsAt o i h sv vt) (k:Int):(Go.V.lkp sv k=none∧Go.V.lkp vt k=none)∨∃ b l,Go.V.lkp sv k=some b∧Go.V.lkp vt k=some l∧MapAt o (.vset i k) h b (unC l):=by
 induction s with
 | nil=>exact .inl ⟨rfl,rfl⟩
 | @cons a b l m hab _ ih=>
  obtain ⟨a1,a2⟩:=a
  obtain ⟨b1,b2⟩:=b
  obtain ⟨rfl,h2⟩:=hab
  unfold Go.V.lkp
  by_cases q:a1=k
  ·rw [if_pos q,if_pos q]; subst q; exact .inr ⟨_,_,rfl,rfl,h2⟩
  ·rw [if_neg q,if_neg q]; exact ih
theorem VtsAt.add {o:Ow} {i:Nat} {h:Hp} {k:Int} {b:Nat} {l:List (Int × Unit)} (hb:MapAt o (.vset i k) h b (unC l)):∀ {sv:List (Int × Nat)} {vt:List (Int × List (Int × Unit))},VtsAt o i h sv vt→Go.V.lkp sv k=none→VtsAt o i h (ins sv k b) (ins vt k l):=by
 intro sv vt s
 induction s with
 | nil=>intro _; exact .cons ⟨rfl,hb⟩ .nil
 | @cons a b l m hab _ ih=>
  intro hn
  obtain ⟨a1,a2⟩:=a
  obtain ⟨b1,b2⟩:=b
  obtain ⟨rfl,h2⟩:=hab
  unfold Go.V.lkp at hn
  split at hn
  ·cases hn
  ·rename_i q
   unfold ins
   rw [if_neg q,if_neg q]
   exact .cons ⟨rfl,h2⟩ (ih hn)
theorem VtsAt.put {o:Ow} {i:Nat} {h h':Hp} {k:Int} {b:Nat} {l':List (Int × Unit)} (kp:Kp (fun t=>t=.vset i k) o h o h') (hb:MapAt o (.vset i k) h' b (unC l')):∀ {sv:List (Int × Nat)} {vt:List (Int × List (Int × Unit))},VtsAt o i h sv vt→(sv.map (·.1)).Nodup→Go.V.lkp sv k=some b→VtsAt o i h' sv (ins vt k l'):=by
 intro sv vt s
 induction s with
 | nil=>intro _ h; cases h
 | @cons a c l m hab tl ih=>
  intro hn hl
  obtain ⟨a1,a2⟩:=a
  obtain ⟨b1,b2⟩:=c
  obtain ⟨h1,h2⟩:=hab
  simp only at h1 h2
  subst h1
  simp only [List.map_cons,List.nodup_cons] at hn
  unfold Go.V.lkp at hl
  unfold ins
  by_cases q:a1=k
  ·rw [if_pos q] at hl ⊢
   subst q
   obtain rfl:=Option.some.inj hl
   refine .cons ⟨rfl,hb⟩ ?_
   have key:∀ {l:List (Int × Nat)} {m:List (Int × List (Int × Unit))},VtsAt o i h l m→a1 ∉ l.map (·.1)→VtsAt o i h' l m:=by
    intro l m s
    induction s with
    | nil=>intro _; exact .nil
    | @cons x y l m hxy _ ih2=>
     intro hn
     simp only [List.map_cons,List.mem_cons,not_or] at hn
     exact .cons ⟨hxy.1,hxy.2.keep kp (by intro e; cases e; exact hn.1 hxy.1.symm)⟩ (ih2 hn.2)
   exact key tl hn.1
  ·rw [if_neg q] at hl ⊢
   exact .cons ⟨rfl,h2.keep kp (by intro e; cases e; exact q rfl)⟩ (ih hn.2 hl)
theorem ins_keys {β:Type}:∀ {l:List (Int × β)} {k:Int} {v:β},(l.map (·.1)).Nodup→((ins l k v).map (·.1)).Nodup∧∀ x,x∈(ins l k v).map (·.1)→x=k∨x∈l.map (·.1):=by
 intro l
 induction l with
 | nil=>intro k v _; exact ⟨by simp [ins],fun x hx=>by simp [ins] at hx; exact .inl hx⟩
 | cons a l ih=>
  intro k v hn
  obtain ⟨a1,a2⟩:=a
  simp only [List.map_cons,List.nodup_cons] at hn
  unfold ins
  by_cases q:a1=k
  ·rw [if_pos q]
   exact ⟨by simp only [List.map_cons,List.nodup_cons]; exact hn,fun x hx=>.inr hx⟩
  ·rw [if_neg q]
   obtain ⟨h1,h2⟩:=ih (k:=k) (v:=v) hn.2
   refine ⟨?_,fun x hx=>?_⟩
   ·simp only [List.map_cons,List.nodup_cons]
    exact ⟨fun hm=>(h2 _ hm).elim q hn.1,h1⟩
   ·simp only [List.map_cons,List.mem_cons] at hx ⊢
    rcases hx with hx | hx
    ·exact .inr (.inl hx)
    ·exact (h2 _ hx).elim .inl fun q=>.inr (.inr q)
theorem ins_ins {β:Type}:∀ (l:List (Int × β)) (k:Int) (u v:β),ins (ins l k u) k v=ins l k v:=by
 intro l
 induction l with
 | nil=>intro k u v; unfold ins; simp [ins]
 | cons a l ih=>
  intro k u v
  obtain ⟨a1,a2⟩:=a
  have h1:∀ (x:Int) (y z:β) (m:List (Int × β)),ins ((x,y) :: m) k z=if x=k then (x,z) :: m else (x,y) :: ins m k z:=fun _ _ _ _=>rfl
  rw [h1,h1]
  by_cases q:a1=k
  ·rw [if_pos q,if_pos q,h1,if_pos q]
  ·rw [if_neg q,if_neg q,h1,if_neg q,ih]
theorem RgnAt.putSet {o:Ow} {i:Nat} {h:Hp} {ra:RA} {r:Rgn} (s:RgnAt o i h ra r) (d:Dom o h) {k:Int} {b:Nat} {l l':List (Int × Unit)} (hl:lkp ra.sv k=some b) (hb:MapAt o (.vset i k) h b (unC l)) :
  Kp (fun t=>t=.vset i k) o h o (h.setIfInBounds b (mapO (unC l')))∧RgnAt o i (h.setIfInBounds b (mapO (unC l'))) ra { r with vts:=ins r.vts k l' }:=by
 have kk:Kp (fun t=>t=.vset i k) o h o (h.setIfInBounds b (mapO (unC l'))):=(Kp.refl d (fun t=>t=.vset i k)).set hb.1 rfl _
 exact ⟨kk,s.blk.keep kk (by intro e; cases e),s.prom.keep kk (by intro e; cases e),s.proms.keep kk,s.prop.keep kk (by intro e; cases e),s.vts.keep kk (by intro e; cases e),VtsAt.put kk ⟨hb.1,get_set hb.2⟩ s.sets s.keys hl,s.keys⟩
def gatT (i:Nat) (t:Tg):Prop:=learnT' i t∨rgnTags i t
set_option maxHeartbeats 1000000 in
theorem gathered_ok (T:World) (h:Hp) (o:Ow) (wb i nb:Nat) (nbs:Nat→Nat) (a:NA) (n:Nd) (WA0:WA) (fl:List Ltr) (bad:Nat→Int) (told:List Tld) (l:Ltr) (w:Value) (d:Dom o h)
  (N:NodeAt o h wb i nb a n) (W:WorldAt o h wb nbs WA0 fl bad told) (iv:ImV o h w l.vs) (hk:n.known.length≤100000000000) (hl:n.log.length≤100000000000) (ht:told.length≤100000000000) (hq:n.queue.length≤1000000000000) (hw:n.waiting.length≤1000000000000)
  (hv:∀ r s,n.reign=some r→((lkp r.vts s).getD []).length≤1000000) :
  CallsH Tryz.prog T 62 #[ptrV wb,ptrV nb,.agg (ltC l w).toArray] h fun v' h'=>∃ o' a' WA',Kp (gatT i) o h o' h'∧NodeAt o' h' wb i nb a' (gathered n l).n∧WorldAt o' h' wb nbs WA' fl bad (told++(gathered n l).ts):=by
 obtain ⟨pw,cw,rfl⟩:=iv.isSlice
 refine CallsH.of_code' (args:=[_,_,_]) Tryz.func62 rfl rfl rfl rfl ?_
 unfold ptrV ltC
 have hnb:=lt_of_get N.blk.2
 have R:=node_rd N.blk.2 N.pt.store.len
 obtain ⟨h1,hh1⟩:∃ h1:Hp,h1=h.push (.cells (ltC l (.slice pw l.vs.length cw)).toArray 98):=⟨_,rfl⟩
 have k1:Kp noT o h o h1:=by rw [hh1]; exact kp_push d _
 have x5:BoxAt o h1 h.size (.cells (ltC l (.slice pw l.vs.length cw)).toArray 98):=⟨d _ (Nat.le_refl _),by rw [hh1]; exact get_push_last⟩
 have e0:=hh1.symm
 unfold ltC at e0
 have N1:=N.still k1
 have W1:=W.still k1
 have iv1:=iv.keep k1
 have R1:=node_rd N1.blk.2 N1.pt.store.len
 have hnb1:=lt_of_get N1.blk.2
 have m5:=lt_of_get x5.2
 have q0:hc h1 ⟨h.size,0,none⟩=some (.int .i64 l.kind):=hc_last x5.2
 have q1:hc h1 ⟨h.size,1,none⟩=some (.int .i64 l.frm):=hc_last x5.2
 have q3:rd h1 ⟨h.size,3,none⟩ 2=some (balC l.b):=by rw [rd_part x5.2 (by simp [ltC])]; rfl
 have q5:hc h1 ⟨h.size,5,none⟩=some (.int .i64 l.v.slot):=hc_last x5.2
 have q6:rd h1 ⟨h.size,6,none⟩ 2=some (balC l.v.b):=by rw [rd_part x5.2 (by simp [ltC])]; rfl
 have q13:hc h1 ⟨h.size,13,none⟩=some (.slice pw l.vs.length cw):=hc_last x5.2
 have hRo:=N1.pt.reign
 have hR9:=R.reign
 cases hr:n.reign with
 | none=>
  cases har:a.reign with
  | some ra=>rw [hr,har] at hRo; exact hRo.elim
  | none=>
   have eP:gathered n l=⟨n,[],[]⟩:=by unfold gathered; rw [hr]
   rw [har] at hR9
   unfold rgnV at hR9
   rw [eP,List.append_nil]
   simp -implicitDefEqProofs (maxSteps:=2000000) only [go_sem,↓reduceIte,hR9]
   rw [e0]
   exact ⟨o,a,WA0,kp_any k1,N1,W1⟩
 | some r=>
  cases har:a.reign with
  | none=>rw [hr,har] at hRo; exact hRo.elim
  | some ra=>
   rw [hr,har] at hRo
   have RG:RgnAt o i h1 ra r:=hRo
   rw [har] at hR9
   unfold rgnV ptrV at hR9
   have mrb:=lt_of_get RG.blk.2
   have rr0:rd h1 ⟨ra.rb,0,none⟩ 2=some (balC r.b):=by rw [rd_part RG.blk.2 (by simp [rgnC])]; rfl
   have rr2:hc h1 ⟨ra.rb,2,none⟩=some (.map (some ra.pb)):=hc_last RG.blk.2
   have rr5:hc h1 ⟨ra.rb,5,none⟩=some (.map (some ra.vb)):=hc_last RG.blk.2
   by_cases c1:l.kind=1
   ·have c1b:=eq_true c1
    simp -implicitDefEqProofs (maxSteps:=2000000) only [go_sem,↓reduceIte,hR9,c1b]
    rw [e0]
    refine VS.q mixed (by kernel_rfl) ?_
    simp -implicitDefEqProofs (maxSteps:=2000000) only [go_sem,↓reduceIte,q3,rr0]
    by_cases c2:l.b=r.b
    ·have eP:gathered n l=⟨gotP n r l,[],[]⟩:=by unfold gathered; rw [hr]; simp only; rw [if_pos c1,if_pos c2]
     rw [eP,List.append_nil]
     have c2b:=eq_true c2
     simp -implicitDefEqProofs (maxSteps:=2000000) only [go_sem,↓reduceIte,c2b]
     refine VS.z (h1.size) [8] (.p 0 (.p 1 (.p 2 (.q 3 (.p 4 (.q 5 (.p 6 (.q 7 (.w 8 .nil))))))))) mixed (by kernel_rfl) ?_
     simp -implicitDefEqProofs (maxSteps:=2000000) only [go_sem,↓reduceIte,rr2,q1,q13,mrb,m5]
     rw [vMupd_int tmiVs RG.prom.2]
     simp -implicitDefEqProofs (maxSteps:=2000000) only [go_sem,↓reduceIte]
     obtain ⟨k2,R2⟩:=RG.putProm k1.dom (k:=l.frm) iv1
     refine ⟨o,{ a with reign:=some { ra with pv:=ins ra.pv l.frm (.slice pw l.vs.length cw) } },WA0,(kp_any k1).trans (k2.mono fun t q=>.inr (.inr (.inl q))),⟨?_,?_⟩,W1.keep k2 (by rintro t rfl; simp [Tg.of])⟩
     ·have:=N1.blk.keep k2 (by intro e; cases e)
      rw [← nodeO_reign (some { r with prom:=ins r.prom l.frm l.vs }) har (ra':={ ra with pv:=ins ra.pv l.frm (.slice pw l.vs.length cw) }) rfl] at this
      exact this
     ·exact NodePt.keepReign N1.pt (k2.mono fun t q=>.inr (.inl q)) har rfl R2
    ·have eP:gathered n l=⟨n,[],[]⟩:=by unfold gathered; rw [hr]; simp only; rw [if_pos c1,if_neg c2]
     rw [eP,List.append_nil]
     simp -implicitDefEqProofs (maxSteps:=2000000) only [go_sem,↓reduceIte,c2]
     exact ⟨o,a,WA0,kp_any k1,N1,W1⟩
   ·simp -implicitDefEqProofs (maxSteps:=2000000) only [go_sem,↓reduceIte,hR9,c1]
    rw [e0]
    refine VS.q mixed (by kernel_rfl) ?_
    simp -implicitDefEqProofs (maxSteps:=2000000) only [go_sem,↓reduceIte,q6,rr0]
    by_cases c2:l.v.b=r.b
    case neg=>
     have eP:gathered n l=⟨n,[],[]⟩:=by unfold gathered; rw [hr]; simp only; rw [if_neg c1,if_pos c2]
     rw [eP,List.append_nil]
     simp -implicitDefEqProofs (maxSteps:=2000000) only [go_sem,↓reduceIte,c2]
     exact ⟨o,a,WA0,kp_any k1,N1,W1⟩
    have eP:gathered n l=if 5<2*(gotS r l).length then learn (gotV n r l) l.v.slot l.v.cm else ⟨gotV n r l,[],[]⟩:=by unfold gathered; rw [hr]; simp only; rw [if_neg c1,if_neg (fun q=>q c2)]
    rw [eP]
    have hvr:=hv r l.v.slot hr
    have c2b:=eq_true c2
    have lk:=fun (K:Value→Hp→Prop)=>vLook_int (K:=K) (n:=l.v.slot) (c:=false) tmiMm tzvMm RG.vts.2
    rw [mapV_lkp] at lk
    obtain ⟨S,hS⟩:∃ S,S=(lkp r.vts l.v.slot).getD []:=⟨_,rfl⟩
    have hlen:S.length≤1000000:=by rw [hS]; exact hvr
    have NA1:NodeAt o h1 wb i nb { a with reign:=some ra } { n with reign:=some r }:=by
     have e1:({ a with reign:=some ra }:NA)=a:=by rw [← har]
     have e2:({ n with reign:=some r }:Nd)=n:=by rw [← hr]
     rw [e1,e2]; exact N1
    have KG:Kp (gatT i) o h o h1:=kp_any k1
    have hR9x:=hR9
    rcases RG.sets.lkp l.v.slot with ⟨e1,e2⟩ | ⟨sb,S',e1,e2,hsb⟩
    ·have hS0:S=[]:=by rw [hS,e2]; rfl
     rw [e1] at lk
     simp only [Option.map_none,Option.getD_none,Bool.false_eq_true,if_false] at lk
     -- the new set
     obtain ⟨h2,hh2⟩:∃ h2:Hp,h2=h1.push (mapO []):=⟨_,rfl⟩
     have eh2:h1.push (.map #[] 0)=h2:=hh2.symm
     have k2a:Kp (rgnTags i) o h1 (updT o h1.size (.vset i l.v.slot)) h2:=by
      rw [hh2]; exact ((Kp.refl k1.dom _).push _).adopt (Nat.le_refl _) (by simp) (.inr (.inr (.inr (.inr ⟨_,rfl⟩))))
     have kx:Kp noT o h1 o h2:=by rw [hh2]; exact kp_push k1.dom _
     have RGx:=RG.keep kx (fun _ _ q=>q)
     have lo:∀ b,b<h1.size→updT o h1.size (.vset i l.v.slot) b=o b:=fun b hb=>updT_ne (by omega)
     obtain ⟨o2,ho2⟩:∃ o2,o2=updT o h1.size (.vset i l.v.slot):=⟨_,rfl⟩
     rw [← ho2] at k2a lo
     have RGy:RgnAt o2 i h2 ra r:=by
      have lt:∀ {b:Nat} {x:Obj},h1[b]? = some x→b<h1.size:=lt_of_get
      refine ⟨⟨(lo _ (lt_of_get RG.blk.2)).trans RG.blk.1,RGx.blk.2⟩,⟨(lo _ (lt_of_get RG.prom.2)).trans RG.prom.1,RGx.prom.2⟩,RG.proms.keep k2a,⟨(lo _ (lt_of_get RG.prop.2)).trans RG.prop.1,RGx.prop.2⟩,⟨(lo _ (lt_of_get RG.vts.2)).trans RG.vts.1,RGx.vts.2⟩,?_,RG.keys⟩
      have key:∀ {sv:List (Int × Nat)} {vt:List (Int × List (Int × Unit))},VtsAt o i h1 sv vt→VtsAt o2 i h2 sv vt:=by
       intro sv vt s
       induction s with
       | nil=>exact .nil
       | cons x _ ih=>exact .cons ⟨x.1,⟨(lo _ (lt_of_get x.2.2)).trans x.2.1,(x.2.keep kx id).2⟩⟩ ih
      exact key RG.sets
     have ms:MapAt o2 (.vset i l.v.slot) h2 h1.size (unC []):=⟨by rw [ho2]; exact updT_same,by rw [hh2]; exact get_push_last⟩
     have mrb2:ra.rb<h2.size:=by have:=kx.size; omega
     simp -implicitDefEqProofs (maxSteps:=2000000) only [go_sem,↓reduceIte,hR9,c2b,q5,rr5,lk,mpV]
     rw [eh2,vMupd_int tmiMm RGy.vts.2]
     obtain ⟨G,hG⟩:∃ G,G=h2.setIfInBounds ra.vb (mapO (ins (mapV mpV ra.sv) l.v.slot (.map (some h1.size)))):=⟨_,rfl⟩
     rw [← hG]
     obtain ⟨ra2,hra2⟩:∃ ra2:RA,ra2 = { ra with sv:=ins ra.sv l.v.slot h1.size }:=⟨_,rfl⟩
     have kk:Kp (fun t=>t=.vts i) o2 h2 o2 G:=by rw [hG]; exact (Kp.refl k2a.dom (fun t=>t=.vts i)).set RGy.vts.1 rfl _
     have RGG:RgnAt o2 i G ra2 { r with vts:=ins r.vts l.v.slot [] }:=by
      rw [hra2]
      refine ⟨RGy.blk.keep kk (by intro e; cases e),RGy.prom.keep kk (by intro e; cases e),RGy.proms.keep kk,RGy.prop.keep kk (by intro e; cases e),⟨RGy.vts.1,?_⟩,(VtsAt.add ms RGy.sets e1).keep kk (fun _ e=>by cases e),(ins_keys RG.keys).1⟩
      show G[ra.vb]? = some (mapO (mapV mpV (ins ra.sv l.v.slot h1.size)))
      rw [hG,get_set RGy.vts.2,mapV_ins]; rfl
     have k2b:Kp (rgnTags i) o h1 o2 G:=k2a.trans (kk.mono fun t q=>.inr (.inr (.inr (.inl q))))
     have hrb2:ra2.rb=ra.rb:=by rw [hra2]
     have NG:NodeAt o2 G wb i nb { a with reign:=some ra2 } { n with reign:=some { r with vts:=ins r.vts l.v.slot [] } }:=by
      refine ⟨?_,NodePt.keepReign NA1.pt k2b rfl hrb2 RGG⟩
      have:=NA1.blk.keep k2b (by rintro (q | q | q | q | ⟨_,q⟩) <;> cases q)
      rw [show nodeO { n with reign:=some { r with vts:=ins r.vts l.v.slot [] } } { a with reign:=some ra2 } = nodeO { n with reign:=some r } { a with reign:=some ra } from by unfold nodeO nodeC rgnV; simp only [hrb2]]
      exact this
     have WG:=W1.keep k2b (by intro t q; rw [rgn_of q]; simp)
     have XG:=x5.keep k2b
     have KG2:Kp (gatT i) o h o2 G:=(kp_any k1).trans (k2b.mono fun t q=>.inr q)
     have LKS:lkp ra2.sv l.v.slot=some h1.size:=by rw [hra2]; simp [lkp_ins]
     have SB:MapAt o2 (.vset i l.v.slot) G h1.size (unC S):=by rw [hS0]; exact ms.keep kk (by intro e; cases e)
     have Q5:hc G ⟨h.size,5,none⟩=some (.int .i64 l.v.slot):=hc_last XG.2
     have Q1:hc G ⟨h.size,1,none⟩=some (.int .i64 l.frm):=hc_last XG.2
     have RR5:hc G ⟨ra.rb,5,none⟩=some (.map (some ra2.vb)):=by rw [← hrb2]; exact hc_last RGG.blk.2
     have MRB:ra.rb<G.size:=by rw [← hrb2]; exact lt_of_get RGG.blk.2
     have M5:=lt_of_get XG.2
     have LK:=fun (K:Value→Hp→Prop)=>vLook_int (K:=K) (n:=l.v.slot) (c:=false) tmiMm tzvMm RGG.vts.2
     rw [mapV_lkp] at LK
     simp only [LKS,Option.map_some,Option.getD_some,Bool.false_eq_true,if_false,mpV] at LK
     simp -implicitDefEqProofs (maxSteps:=2000000) only [go_sem,↓reduceIte]
     refine VS.z (G.size) [9] (.p 0 (.p 1 (.p 2 (.q 3 (.p 4 (.p 6 (.q 7 (.p 8 (.s 5 (.w 9 .nil)))))))))) mixed (by kernel_rfl) ?_
     simp -implicitDefEqProofs (maxSteps:=2000000) only [go_sem,↓reduceIte,hR9x,c2b,Q5,Q1,RR5,LK,MRB,M5]
     rw [vMupd_int tmiUn SB.2]
     obtain ⟨k2,RG2⟩:=RGG.putSet KG2.dom (l':=ins S l.frm ()) LKS SB
     rw [show mapO (ins (unC S) l.frm (.agg #[]))=mapO (unC (ins S l.frm ())) from by unfold unC; rw [mapV_ins]]
     obtain ⟨g2,hg2⟩:∃ g2,g2=G.setIfInBounds h1.size (mapO (unC (ins S l.frm ()))):=⟨_,rfl⟩
     rw [← hg2] at k2 RG2 ⊢
     have eV:({ r with vts:=ins r.vts l.v.slot (gotS r l) }:Rgn) = { ({ r with vts:=ins r.vts l.v.slot [] }:Rgn) with vts:=ins (ins r.vts l.v.slot []) l.v.slot (ins S l.frm ()) }:=by unfold gotS; rw [hS,ins_ins]
     have K2:Kp (gatT i) o2 G o2 g2:=k2.mono fun t q=>.inr (.inr (.inr (.inr (.inr ⟨_,q⟩))))
     have N2:NodeAt o2 g2 wb i nb { a with reign:=some ra2 } (gotV n r l):=by
      refine ⟨?_,?_⟩
      ·have:=NG.blk.keep k2 (by intro e; cases e)
       exact this
      ·have:=NodePt.keepReign NG.pt (k2.mono fun t q=>.inr (.inr (.inr (.inr ⟨_,q⟩)))) rfl rfl RG2
       unfold gotV
       rw [eV]
       exact this
     have W2:=WG.keep k2 (by rintro t rfl; simp [Tg.of])
     have x2:=XG.keep k2
     have p0:rd g2 ⟨h.size,8,none⟩ 5=some l.v.cm.C:=by rw [rd_part x2.2 (by simp [ltC])]; rfl
     have p5:hc g2 ⟨ra2.rb,5,none⟩=some (.map (some ra2.vb)):=hc_last RG2.blk.2
     rw [hrb2] at p5
     have p6:=fun (K:Value→Hp→Prop)=>vLook_int (K:=K) (n:=l.v.slot) (c:=false) tmiMm tzvMm RG2.vts.2
     rw [mapV_lkp] at p6
     simp only [LKS,Option.map_some,Option.getD_some,Bool.false_eq_true,if_false] at p6
     have SB2:MapAt o2 (.vset i l.v.slot) g2 h1.size (unC (ins S l.frm ())):=⟨SB.1,by rw [hg2]; exact get_set SB.2⟩
     have p7:=fun (K:Value→Hp→Prop) (cs:Array Bool) (ty:TypeId)=>vBi_lenMap (T:=T) (K:=K) (ty:=ty) (cs:=cs) tmiUn SB2.2
     have p8:(unC (ins S l.frm ())).length=(gotS r l).length:=by unfold unC gotS; rw [mapV_length,hS]
     rw [p8] at p7
     simp -implicitDefEqProofs (maxSteps:=2000000) only [go_sem,↓reduceIte,hR9x,c2b,p5,p6,p7,mpV]
     refine (most_ok T g2 (gotS r l).length (by unfold gotS; rw [← hS,ins_length]; split <;> omega)).use ?_
     rintro _ _ ⟨rfl,rfl⟩
     by_cases c3:5<2*(gotS r l).length
     ·rw [if_pos c3]
      simp -implicitDefEqProofs (maxSteps:=2000000) only [go_sem,↓reduceIte,c3,p0]
      refine (learn_ok T _ o2 wb i nb nbs _ _ WA0 fl bad told l.v.slot l.v.cm k2.dom N2 W2 hk hl ht hq hw).use ?_
      rintro v' h' ⟨o',a',WA',kl,N',W'⟩
      simp -implicitDefEqProofs (maxSteps:=2000000) only [go_sem,↓reduceIte]
      exact ⟨o',a',WA',(KG2.trans K2).trans (kl.mono fun t q=>.inl q),N',W'⟩
     ·rw [if_neg c3,List.append_nil]
      simp -implicitDefEqProofs (maxSteps:=2000000) only [go_sem,↓reduceIte,c3]
      exact ⟨o2,_,WA0,KG2.trans K2,N2,W2⟩
    ·have hS0:S=S':=by rw [hS,e2]; rfl
     subst hS0
     rw [e1] at lk
     simp only [Option.map_some,Option.getD_some,Bool.false_eq_true,if_false] at lk
     simp -implicitDefEqProofs (maxSteps:=2000000) only [go_sem,↓reduceIte,c2b,q5,rr5,lk,mpV,hR9]
     have lk2:=fun (K:Value→Hp→Prop)=>vLook_int (K:=K) (n:=l.v.slot) (c:=false) tmiMm tzvMm RG.vts.2
     rw [mapV_lkp] at lk2
     simp only [e1,Option.map_some,Option.getD_some,Bool.false_eq_true,if_false,mpV] at lk2
     refine VS.z (h1.size) [9] (.p 0 (.p 1 (.p 2 (.q 3 (.p 4 (.p 6 (.q 7 (.p 8 (.s 5 (.w 9 .nil)))))))))) mixed (by kernel_rfl) ?_
     simp -implicitDefEqProofs (maxSteps:=2000000) only [go_sem,↓reduceIte,hR9x,c2b,q5,q1,rr5,lk2,mrb,m5]
     rw [vMupd_int tmiUn hsb.2]
     obtain ⟨k2,RG2⟩:=RG.putSet KG.dom (l':=ins S l.frm ()) e1 hsb
     rw [show mapO (ins (unC S) l.frm (.agg #[]))=mapO (unC (ins S l.frm ())) from by unfold unC; rw [mapV_ins]]
     obtain ⟨g2,hg2⟩:∃ g2,g2=h1.setIfInBounds sb (mapO (unC (ins S l.frm ()))):=⟨_,rfl⟩
     rw [← hg2] at k2 RG2 ⊢
     have eV:({ r with vts:=ins r.vts l.v.slot (gotS r l) }:Rgn) = { r with vts:=ins r.vts l.v.slot (ins S l.frm ()) }:=by unfold gotS; rw [hS]
     have K2:Kp (gatT i) o h1 o g2:=k2.mono fun t q=>.inr (.inr (.inr (.inr (.inr ⟨_,q⟩))))
     have N2:NodeAt o g2 wb i nb { a with reign:=some ra } (gotV n r l):=by
      refine ⟨?_,?_⟩
      ·have:=NA1.blk.keep k2 (by intro e; cases e)
       exact this
      ·have:=NodePt.keepReign NA1.pt (k2.mono fun t q=>.inr (.inr (.inr (.inr ⟨_,q⟩)))) rfl rfl RG2
       unfold gotV
       rw [eV]
       exact this
     have W2:=W1.keep k2 (by rintro t rfl; simp [Tg.of])
     have x2:=x5.keep k2
     have p0:rd g2 ⟨h.size,8,none⟩ 5=some l.v.cm.C:=by rw [rd_part x2.2 (by simp [ltC])]; rfl
     have p5:hc g2 ⟨ra.rb,5,none⟩=some (.map (some ra.vb)):=hc_last RG2.blk.2
     have p6:=fun (K:Value→Hp→Prop)=>vLook_int (K:=K) (n:=l.v.slot) (c:=false) tmiMm tzvMm RG2.vts.2
     rw [mapV_lkp] at p6
     simp only [e1,Option.map_some,Option.getD_some,Bool.false_eq_true,if_false] at p6
     have SB2:MapAt o (.vset i l.v.slot) g2 sb (unC (ins S l.frm ())):=⟨hsb.1,by rw [hg2]; exact get_set hsb.2⟩
     have p7:=fun (K:Value→Hp→Prop) (cs:Array Bool) (ty:TypeId)=>vBi_lenMap (T:=T) (K:=K) (ty:=ty) (cs:=cs) tmiUn SB2.2
     have p8:(unC (ins S l.frm ())).length=(gotS r l).length:=by unfold unC gotS; rw [mapV_length,hS]
     rw [p8] at p7
     simp -implicitDefEqProofs (maxSteps:=2000000) only [go_sem,↓reduceIte,hR9x,c2b,p5,p6,p7,mpV]
     refine (most_ok T g2 (gotS r l).length (by unfold gotS; rw [← hS,ins_length]; split <;> omega)).use ?_
     rintro _ _ ⟨rfl,rfl⟩
     by_cases c3:5<2*(gotS r l).length
     ·rw [if_pos c3]
      simp -implicitDefEqProofs (maxSteps:=2000000) only [go_sem,↓reduceIte,c3,p0]
      refine (learn_ok T _ o wb i nb nbs _ _ WA0 fl bad told l.v.slot l.v.cm k2.dom N2 W2 hk hl ht hq hw).use ?_
      rintro v' h' ⟨o',a',WA',kl,N',W'⟩
      simp -implicitDefEqProofs (maxSteps:=2000000) only [go_sem,↓reduceIte]
      exact ⟨o',a',WA',(KG.trans K2).trans (kl.mono fun t q=>.inl q),N',W'⟩
     ·rw [if_neg c3,List.append_nil]
      simp -implicitDefEqProofs (maxSteps:=2000000) only [go_sem,↓reduceIte,c3]
      exact ⟨o,_,WA0,KG.trans K2,N2,W2⟩
def allT (i:Nat) (t:Tg):Prop:=t=.world∨t=.flying∨t=.told∨t.of=some i
theorem allT_learn {i:Nat} {t:Tg} (h:learnT' i t):allT i t:=by
 rcases h with rfl | rfl | rfl | rfl | rfl | rfl | rfl <;> simp [allT,Tg.of]
theorem allT_gat {i:Nat} {t:Tg} (h:gatT i t):allT i t:=h.elim allT_learn fun q=>.inr (.inr (.inr (rgn_of q)))
theorem notes_ok (T:World) (h:Hp) (o:Ow) (wb i nb:Nat) (a:NA) (n:Nd) (l:Ltr) (w:Value) (d:Dom o h) (N:NodeAt o h wb i nb a n) (iv:ImV o h w l.vs) :
  CallsH Tryz.prog T 67 #[ptrV wb,ptrV nb,.agg (ltC l w).toArray] h fun v' h'=>Kp (fun t=>t=.node i) o h o h'∧NodeAt o h' wb i nb a (notes n l):=by
 obtain ⟨pw,cw,rfl⟩:=iv.isSlice
 refine CallsH.of_code' (args:=[_,_,_]) Tryz.func67 rfl rfl rfl rfl ?_
 unfold ptrV ltC
 have e0:∃ h1:Hp,h1=h.push (.cells (ltC l (.slice pw l.vs.length cw)).toArray 98):=⟨_,rfl⟩
 obtain ⟨h1,hh1⟩:=e0
 have k1:Kp noT o h o h1:=by rw [hh1]; exact kp_push d _
 have x5:BoxAt o h1 h.size (.cells (ltC l (.slice pw l.vs.length cw)).toArray 98):=⟨d _ (Nat.le_refl _),by rw [hh1]; exact get_push_last⟩
 have e0:=hh1.symm
 unfold ltC at e0
 have N1:=N.still k1
 have R1:=node_rd N1.blk.2 N1.pt.store.len
 have hnb1:=lt_of_get N1.blk.2
 have m5:=lt_of_get x5.2
 have q3:rd h1 ⟨h.size,3,none⟩ 2=some (balC l.b):=by rw [rd_part x5.2 (by simp [ltC])]; rfl
 have r7:rd h1 ⟨nb,7,none⟩ 2=some (balC n.heard):=R1.heard
 simp -implicitDefEqProofs (maxSteps:=2000000) only [go_sem,↓reduceIte]
 rw [e0]
 refine VS.mono (N:=fun F' g'=>Bel h1.size h1 g'∧F' 1=.pointer (some ⟨nb,0,none⟩)∧F' 5=.pointer (some ⟨h.size,0,none⟩)∧F' 12=.bool (decide (below n.heard l.b))) ?_ ?_ (fun _ _ _ h=>h) (fun _ _ h=>h)
 ·refine VS.z (h1.size) [6] (.p 0 (.q 1 (.p 2 (.p 3 (.p 4 (.q 5 (.w 6 .nil))))))) mixed (by kernel_rfl) ?_
  simp -implicitDefEqProofs (maxSteps:=2000000) only [go_sem,↓reduceIte,q3,r7,hnb1,m5]
  refine (later_ok T h1 l.b n.heard).use ?_
  rintro _ g ⟨rfl,b⟩
  simp -implicitDefEqProofs (maxSteps:=2000000) only [go_sem,↓reduceIte,b]
 ·rintro F' g ⟨b,f1,f5,f12⟩
  have kb:=kp_still k1.dom b
  have N2:=N1.still kb
  have K2:=k1.trans kb
  by_cases c:below n.heard l.b
  ·have e:notes n l = { n with heard:=l.b }:=by unfold notes; rw [if_pos c]
   rw [e]
   obtain ⟨g2,w2,N3,k3⟩:=NodePt.write (n:={ n with heard:=l.b }) (a:=a) { N2.pt with } K2.dom N2.blk ((node_wr N2.blk.2 N2.pt.store.len).heard l.b.r l.b.n)
   have p3:rd g ⟨h.size,3,none⟩ 2=some [.int .i64 l.b.r,.int .i64 l.b.n]:=by rw [rd_part (x5.keep kb).2 (by simp [ltC])]; rfl
   have hnb2:=lt_of_get N2.blk.2
   simp -implicitDefEqProofs (maxSteps:=2000000) only [go_sem,↓reduceIte,f1,f5,f12,c,p3,w2,hnb2]
   exact ⟨(kp_any K2).trans k3,N3⟩
  ·have e:notes n l=n:=by unfold notes; rw [if_neg c]
   rw [e]
   simp -implicitDefEqProofs (maxSteps:=2000000) only [go_sem,↓reduceIte,f12,c]
   exact ⟨kp_any K2,N2⟩
theorem learns_ok (T:World) (h:Hp) (o:Ow) (wb i nb:Nat) (nbs:Nat→Nat) (a:NA) (n:Nd) (WA0:WA) (fl:List Ltr) (bad:Nat→Int) (told:List Tld) (l:Ltr) (w:Value) (d:Dom o h)
  (N:NodeAt o h wb i nb a n) (W:WorldAt o h wb nbs WA0 fl bad told) (iv:ImV o h w l.vs) (hk:n.known.length≤100000000000) (hl:n.log.length≤100000000000) (ht:told.length≤100000000000) (hq:n.queue.length≤1000000000000) (hw:n.waiting.length≤1000000000000) :
  CallsH Tryz.prog T 66 #[ptrV wb,ptrV nb,.agg (ltC l w).toArray] h fun v' h'=>∃ o' a' WA',Kp (learnT' i) o h o' h'∧NodeAt o' h' wb i nb a' (learn n l.v.slot l.v.cm).n∧WorldAt o' h' wb nbs WA' fl bad (told++(learn n l.v.slot l.v.cm).ts):=by
 obtain ⟨pw,cw,rfl⟩:=iv.isSlice
 refine CallsH.of_code' (args:=[_,_,_]) Tryz.func66 rfl rfl rfl rfl ?_
 unfold ptrV ltC
 obtain ⟨h1,hh1⟩:∃ h1:Hp,h1=h.push (.cells (ltC l (.slice pw l.vs.length cw)).toArray 98):=⟨_,rfl⟩
 have k1:Kp noT o h o h1:=by rw [hh1]; exact kp_push d _
 have e0:=hh1.symm
 unfold ltC at e0
 simp -implicitDefEqProofs (maxSteps:=2000000) only [go_sem,↓reduceIte]
 rw [e0]
 refine (learn_ok T h1 o wb i nb nbs a n WA0 fl bad told l.v.slot l.v.cm k1.dom (N.still k1) (W.still k1) hk hl ht hq hw).use ?_
 rintro v' h' ⟨o',a',WA',k,N',W'⟩
 simp -implicitDefEqProofs (maxSteps:=2000000) only [go_sem,↓reduceIte]
 exact ⟨o',a',WA',(kp_any k1).trans k,N',W'⟩
theorem hears_ok (T:World) (h:Hp) (o:Ow) (wb i nb:Nat) (a:NA) (n:Nd) (l:Ltr) (w:Value) (d:Dom o h) (N:NodeAt o h wb i nb a n) (iv:ImV o h w l.vs) (hq:n.queue.length≤1000000000000) (hl:n.log.length≤1000000000000) :
  CallsH Tryz.prog T 64 #[ptrV wb,ptrV nb,.agg (ltC l w).toArray] h fun v' h'=>∃ o' a',Kp (addT i) o h o' h'∧NodeAt o' h' wb i nb a' (add n l.v.cm):=by
 obtain ⟨pw,cw,rfl⟩:=iv.isSlice
 refine CallsH.of_code' (args:=[_,_,_]) Tryz.func64 rfl rfl rfl rfl ?_
 unfold ptrV ltC
 obtain ⟨h1,hh1⟩:∃ h1:Hp,h1=h.push (.cells (ltC l (.slice pw l.vs.length cw)).toArray 98):=⟨_,rfl⟩
 have k1:Kp noT o h o h1:=by rw [hh1]; exact kp_push d _
 have e0:=hh1.symm
 unfold ltC at e0
 simp -implicitDefEqProofs (maxSteps:=2000000) only [go_sem,↓reduceIte]
 rw [e0]
 refine (add_ok T h1 o wb i nb a n l.v.cm k1.dom (N.still k1) hq hl).use ?_
 rintro v' h' ⟨o',a',k,N'⟩
 simp -implicitDefEqProofs (maxSteps:=2000000) only [go_sem,↓reduceIte]
 exact ⟨o',a',(kp_any k1).trans k,N'⟩
theorem tells_ok (T:World) (h:Hp) (o:Ow) (wb i nb:Nat) (nbs:Nat→Nat) (a:NA) (n:Nd) (WA0:WA) (fl:List Ltr) (bad:Nat→Int) (told:List Tld) (l:Ltr) (w:Value) (d:Dom o h)
  (N:NodeAt o h wb i nb a n) (W:WorldAt o h wb nbs WA0 fl bad told) (iv:ImV o h w l.vs) (hroom:fl.length≤1000000000000) :
  CallsH Tryz.prog T 65 #[ptrV wb,ptrV nb,.agg (ltC l w).toArray] h fun v' h'=>∃ o' a' WA',Kp (fun t=>t=.world∨t=.flying∨t=.node i) o h o' h'∧NodeAt o' h' wb i nb a' (tells n l).n∧WorldAt o' h' wb nbs WA' (fl++(tells n l).ls) bad told:=by
 obtain ⟨pw,cw,rfl⟩:=iv.isSlice
 refine CallsH.of_code' (args:=[_,_,_]) Tryz.func65 rfl rfl rfl rfl ?_
 unfold ptrV ltC
 obtain ⟨h1,hh1⟩:∃ h1:Hp,h1=h.push (.cells (ltC l (.slice pw l.vs.length cw)).toArray 98):=⟨_,rfl⟩
 have k1:Kp noT o h o h1:=by rw [hh1]; exact kp_push d _
 have x5:BoxAt o h1 h.size (.cells (ltC l (.slice pw l.vs.length cw)).toArray 98):=⟨d _ (Nat.le_refl _),by rw [hh1]; exact get_push_last⟩
 have e0:=hh1.symm
 have cc:=notes_ok T h1 o wb i nb a n l (.slice pw l.vs.length cw) k1.dom (N.still k1) (iv.keep k1)
 unfold ltC at e0
 unfold ltC ptrV at cc
 simp -implicitDefEqProofs (maxSteps:=2000000) only [go_sem,↓reduceIte]
 rw [e0]
 refine cc.use ?_
 rintro _ g ⟨k2,N2⟩
 have W2:=(W.still k1).keep k2 (by rintro t rfl; simp [Tg.of])
 have y5:=x5.keep k2
 have R2:=node_rd N2.blk.2 N2.pt.store.len
 have hnb2:=lt_of_get N2.blk.2
 have m5:=lt_of_get y5.2
 have q5:hc g ⟨h.size,5,none⟩=some (.int .i64 l.v.slot):=hc_last y5.2
 have ek:(notes n l).known=n.known:=by unfold notes; split <;> rfl
 have eme:(notes n l).me=n.me:=by unfold notes; split <;> rfl
 have lk:=fun (K:Value→Hp→Prop)=>vLook_int (K:=K) (n:=l.v.slot) (c:=true) tmiCm tzvCm N2.pt.known.2
 have lk2:=fun (K:Value→Hp→Prop) (x:Obj)=>vLook_int (h:=g.push x) (K:=K) (n:=l.v.slot) (c:=true) tmiCm tzvCm ((get_push_ne (lt_of_get N2.pt.known.2)).trans N2.pt.known.2)
 rw [mapV_lkp,ek] at lk
 simp only [mapV_lkp,ek] at lk2
 have gp:∀ x:Obj,(g.push x)[g.size]? = some x:=fun x=>get_push_last
 simp -implicitDefEqProofs (maxSteps:=2000000) only [go_sem,↓reduceIte]
 cases hx:lkp n.known l.v.slot with
 | none=>
  have eP:tells n l=⟨notes n l,[],[]⟩:=by unfold tells; rw [hx]
  rw [eP,List.append_nil]
  rw [hx] at lk
  simp only [hx,Option.map_none,Option.getD_none,Option.isSome_none,↓reduceIte] at lk lk2
  refine VS.mono (N:=fun F' g'=>Bel g.size g g'∧F' 7=.bool false) ?_ ?_ (fun _ _ _ h=>h) (fun _ _ h=>h)
  ·refine VS.z (g.size) [7,12] (.p 0 (.p 1 (.p 2 (.q 3 (.p 4 (.p 5 (.q 6 (.or 7 (.p 8 (.p 9 (.p 10 (.s 11 (.w 12 (.p 13 .nil)))))) (.s 11 (.w 7 (.p 8 (.p 9 (.p 10 (.w 12 (.p 13 .nil))))))))))))))) mixed (by kernel_rfl) ?_
   simp -implicitDefEqProofs (maxSteps:=2000000) only [go_sem,↓reduceIte,R2.known,q5,hnb2,m5,lk,lk2]
   repeat' (first | exact Bel.refl _ _ | exact Bel.push (Nat.le_refl _) _ | refine And.intro ?_ ?_)
  ·rintro F' g' ⟨b,f7⟩
   simp -implicitDefEqProofs (maxSteps:=2000000) only [go_sem,↓reduceIte,f7]
   exact ⟨o,a,WA0,((kp_any k1).trans (k2.mono fun t q=>.inr (.inr q))).bel b,N2.still (kp_still k2.dom b),W2.still (kp_still k2.dom b)⟩
 | some y=>
  have eP:tells n l=⟨notes n l,[⟨6,n.me,l.frm,bal0,vtOf l.v.slot bal0 y,[]⟩],[]⟩:=by unfold tells; rw [hx]
  rw [eP]
  rw [hx] at lk
  simp only [hx,Option.map_some,Option.getD_some,Option.isSome_some,↓reduceIte] at lk lk2
  refine VS.mono (N:=fun F' g'=>Bel g.size g g'∧F' 0=.pointer (some ⟨wb,0,none⟩)∧F' 1=.pointer (some ⟨nb,0,none⟩)∧F' 5=.pointer (some ⟨h.size,0,none⟩)∧F' 7=.bool true∧F' 6=.pointer (some ⟨g.size,0,none⟩)∧g'[g.size]? = some (.cells y.C.toArray 77)) ?_ ?_ (fun _ _ _ h=>h) (fun _ _ h=>h)
  ·refine VS.z (g.size) [7,12] (.p 0 (.p 1 (.p 2 (.q 3 (.p 4 (.p 5 (.q 6 (.or 7 (.p 8 (.p 9 (.p 10 (.s 11 (.w 12 (.p 13 .nil)))))) (.s 11 (.w 7 (.p 8 (.p 9 (.p 10 (.w 12 (.p 13 .nil))))))))))))))) mixed (by kernel_rfl) ?_
   simp -implicitDefEqProofs (maxSteps:=2000000) only [go_sem,↓reduceIte,R2.known,q5,hnb2,m5,lk,lk2,cmA]
   repeat' (first | exact Bel.refl _ _ | exact Bel.push (Nat.le_refl _) _ | exact gp _ | refine And.intro ?_ ?_)
  ·rintro F' g' ⟨b,f0,f1,f5,f7,f6,yy⟩
   have kb:=kp_still k2.dom b
   have N3:=N2.still kb
   have W3:=W2.still kb
   have z5:=y5.keep kb
   have R3:=node_rd N3.blk.2 N3.pt.store.len
   have p1:hc g' ⟨h.size,1,none⟩=some (.int .i64 l.frm):=hc_last z5.2
   have p5:hc g' ⟨h.size,5,none⟩=some (.int .i64 l.v.slot):=hc_last z5.2
   have p6:rd g' ⟨g.size,0,none⟩ 5=some [.int .i64 y.k,.int .i64 y.c,.int .i64 y.s,.int .i64 y.n,.int .i64 y.v]:=rd_last yy rfl
   simp -implicitDefEqProofs (maxSteps:=2000000) only [go_sem,↓reduceIte,f0,f1,f5,f7,f6,p1,p5,p6]
   refine (send_ok T g' o wb nb nbs n.me WA0 fl bad told l.frm ⟨6,0,0,bal0,vtOf l.v.slot bal0 y,[]⟩ (.slice none 0 0) kb.dom W3 (by rw [← eme]; exact R3.me) (lt_of_get N3.blk.2) (Im.nil _ _ _ _) hroom).use ?_
   rintro v' h' ⟨o',WA',k,_,W'⟩
   simp -implicitDefEqProofs (maxSteps:=2000000) only [go_sem,↓reduceIte]
   exact ⟨o',a,WA',(((kp_any k1).trans (k2.mono fun t q=>.inr (.inr q))).trans (kp_any kb)).trans (k.mono fun t q=>q.elim .inl fun q=>.inr (.inl q)),N3.keep k (by rintro t (rfl | rfl) <;> simp [Tg.of]),W'⟩
section
variable {K:Value→Hp→Prop} {X:Hp}
theorem mupd_push {t e:TypeId} (ht:tmi Tryz.prog t=some e) {b:Nat} (hb:b=X.size) {l:List (Int × Value)} {n:Int} {x:Value} :
  vMupd Tryz.prog t (.map (some b)) (.int .i64 n) x K (X.push (mapO l))=K undef (X.push (mapO (ins l n x))):=by
 subst hb
 rw [vMupd_int ht get_push_last]
 congr 1
 apply Array.ext_getElem?
 intro j
 rw [Array.getElem?_setIfInBounds,Array.getElem?_push,Array.getElem?_push]
 by_cases hj:X.size=j
 ·subst hj; simp
 ·rw [if_neg hj,if_neg (fun e=>hj e.symm),if_neg (fun e=>hj e.symm)]
theorem mupd_push0 {t e:TypeId} (ht:tmi Tryz.prog t=some e) {b:Nat} (hb:b=X.size) {n:Int} {x:Value} :
  vMupd Tryz.prog t (.map (some b)) (.int .i64 n) x K (X.push (.map #[] 0))=K undef (X.push (mapO [(n,x)])):=mupd_push (l:=[]) ht hb
theorem mlook_push {t e:TypeId} {z:Value} (ht:tmi Tryz.prog t=some e) (hz:tzv Tryz.prog e=some z) {b:Nat} (hb:b=X.size) {l:List (Int × Value)} {n:Int} {x:Value} (hx:lkp l n=some x) :
  vLook Tryz.prog t (.map (some b)) (.int .i64 n) false K (X.push (mapO l))=K x (X.push (mapO l)):=by
 subst hb
 rw [vLook_int ht hz get_push_last,hx]; rfl
end
theorem prepared_ts (n:Nd) (l:Ltr):(prepared n l).ts=[]:=by
 unfold prepared
 repeat' split
 all_goals rfl
theorem asked_ts (n:Nd) (l:Ltr):(asked n l).ts=[]:=by
 unfold asked
 repeat' split
 all_goals rfl
theorem tells_ts (n:Nd) (l:Ltr):(tells n l).ts=[]:=by
 unfold tells
 split <;> rfl
theorem learn_ls (n:Nd) (s:Int) (x:Cm):(learn n s x).ls=[]:=rfl
theorem gathered_ls (n:Nd) (l:Ltr):(gathered n l).ls=[]:=by
 unfold gathered
 repeat' split
 all_goals rfl
set_option maxHeartbeats 1000000 in
theorem handle_ok (T:World) (h:Hp) (o:Ow) (wb i nb:Nat) (nbs:Nat→Nat) (a:NA) (n:Nd) (WA0:WA) (fl:List Ltr) (bad:Nat→Int) (told:List Tld) (l:Ltr) (w:Value) (d:Dom o h)
  (N:NodeAt o h wb i nb a n) (W:WorldAt o h wb nbs WA0 fl bad told) (iv:ImV o h w l.vs) (tb:Tbs o h) (hkind:0≤l.kind∧l.kind≤7) (hroom:fl.length≤1000000000000) (hvl:n.own.l.length≤1000000) (hdl:n.data.length≤1000000)
  (hk:n.known.length≤100000000000) (hl:n.log.length≤100000000000) (ht:told.length≤100000000000) (hq:n.queue.length≤1000000000000) (hw:n.waiting.length≤1000000000000)
  (hv:∀ r s,n.reign=some r→((lkp r.vts s).getD []).length≤1000000) :
  CallsH Tryz.prog T 41 #[ptrV wb,ptrV nb,.agg (ltC l w).toArray] h fun v' h'=>∃ o' a' WA',Kp (allT i) o h o' h'∧NodeAt o' h' wb i nb a' (handle n l).n∧WorldAt o' h' wb nbs WA' (fl++(handle n l).ls) bad (told++(handle n l).ts):=by
 obtain ⟨pw,cw,rfl⟩:=iv.isSlice
 refine CallsH.of_code' (args:=[_,_,_]) Tryz.func41 rfl rfl rfl rfl ?_
 obtain ⟨h1,hh1⟩:∃ h1:Hp,h1=h.push (.cells (ltC l (.slice pw l.vs.length cw)).toArray 98):=⟨_,rfl⟩
 have k1:Kp noT o h o h1:=by rw [hh1]; exact kp_push d _
 have x5:BoxAt o h1 h.size (.cells (ltC l (.slice pw l.vs.length cw)).toArray 98):=⟨d _ (Nat.le_refl _),by rw [hh1]; exact get_push_last⟩
 have e0:=hh1.symm
 have s1:h1.size=h.size+1:=by rw [hh1]; simp
 obtain ⟨M,hM⟩:∃ M:List (Int × Value),M=[(0,.func (.func 61) #[] #[]),(1,.func (.func 62) #[] #[]),(2,.func (.func 63) #[] #[]),(3,.func (.func 62) #[] #[]),(4,.func (.func 64) #[] #[]),(5,.func (.func 65) #[] #[]),(6,.func (.func 66) #[] #[]),(7,.func (.func 67) #[] #[])]:=⟨_,rfl⟩
 have k2:Kp noT o h o (h1.push (mapO M)):=k1.push _
 have N2:=N.still k2
 have W2:=W.still k2
 have iv2:=iv.keep k2
 have tb2:=tb.keep k2
 have x2:BoxAt o (h1.push (mapO M)) h.size (.cells (ltC l (.slice pw l.vs.length cw)).toArray 98):=x5.keep (kp_push k1.dom _)
 have d2:Dom o (h1.push (mapO M)):=k2.dom
 have q0:hc (h1.push (mapO M)) ⟨h.size,0,none⟩=some (.int .i64 l.kind):=hc_last x2.2
 have q14:rd (h1.push (mapO M)) ⟨h.size,0,none⟩ 14=some (ltC l (.slice pw l.vs.length cw)):=rd_last x2.2 rfl
 have eM:ins (ins (ins (ins (ins (ins (ins [((0:Int),Value.func (.func 61) #[] #[])] 1 (.func (.func 62) #[] #[])) 2 (.func (.func 63) #[] #[])) 3 (.func (.func 62) #[] #[])) 4 (.func (.func 64) #[] #[])) 5 (.func (.func 65) #[] #[])) 6 (.func (.func 66) #[] #[])) 7 (.func (.func 67) #[] #[])=M:=by rw [hM]; rfl
 have u0:=fun (K:Value→Hp→Prop) (n:Int) (x:Value)=>mupd_push0 (K:=K) (X:=h1) tmiFn (b:=h1.size) rfl (n:=n) (x:=x)
 have u1:=fun (K:Value→Hp→Prop) (l:List (Int × Value)) (n:Int) (x:Value)=>mupd_push (K:=K) (X:=h1) tmiFn (b:=h1.size) rfl (l:=l) (n:=n) (x:=x)
 have lk:=fun (K:Value→Hp→Prop) (x:Value) (hx:lkp M l.kind=some x)=>mlook_push (K:=K) (X:=h1) tmiFn tzvFn (b:=h1.size) rfl hx
 unfold ptrV ltC
 unfold ltC at e0 q14
 have hcase:l.kind=0∨l.kind=1∨l.kind=2∨l.kind=3∨l.kind=4∨l.kind=5∨l.kind=6∨l.kind=7:=by omega
 rcases hcase with hkk | hkk | hkk | hkk | hkk | hkk | hkk | hkk
 ·have hf:handle n l=prepared n l:=by unfold handle; simp [hkk]
  rw [hf]
  have lkx:=fun (K:Value→Hp→Prop)=>lk K (.func (.func 61) #[] #[]) (by rw [hkk,hM]; rfl)
  have cc:=prepared_ok T _ o wb i nb nbs a n WA0 fl bad told l _ d2 N2 W2 iv2 hroom hvl hdl tb2
  unfold ltC ptrV at cc
  simp -implicitDefEqProofs (maxSteps:=2000000) only [go_sem,↓reduceIte,e0,u0,u1,eM,q0,q14,lkx]
  refine cc.use ?_
  rintro v' h' ⟨o',a',WA',k,N',W'⟩
  simp -implicitDefEqProofs (maxSteps:=2000000) only [go_sem,↓reduceIte]
  exact ⟨o',a',WA',(kp_any k2).trans (k.mono fun t q=>by rcases q with rfl | rfl | rfl <;> simp [allT,Tg.of]),N',by rw [prepared_ts,List.append_nil]; exact W'⟩
 ·have hf:handle n l=gathered n l:=by unfold handle; simp [hkk]
  rw [hf]
  have lkx:=fun (K:Value→Hp→Prop)=>lk K (.func (.func 62) #[] #[]) (by rw [hkk,hM]; rfl)
  have cc:=gathered_ok T _ o wb i nb nbs a n WA0 fl bad told l _ d2 N2 W2 iv2 hk hl ht hq hw hv
  unfold ltC ptrV at cc
  simp -implicitDefEqProofs (maxSteps:=2000000) only [go_sem,↓reduceIte,e0,u0,u1,eM,q0,q14,lkx]
  refine cc.use ?_
  rintro v' h' ⟨o',a',WA',k,N',W'⟩
  simp -implicitDefEqProofs (maxSteps:=2000000) only [go_sem,↓reduceIte]
  exact ⟨o',a',WA',(kp_any k2).trans (k.mono fun t q=>allT_gat q),N',by rw [gathered_ls,List.append_nil]; exact W'⟩
 ·have hf:handle n l=asked n l:=by unfold handle; simp [hkk]
  rw [hf]
  have lkx:=fun (K:Value→Hp→Prop)=>lk K (.func (.func 63) #[] #[]) (by rw [hkk,hM]; rfl)
  have cc:=asked_ok T _ o wb i nb nbs a n WA0 fl bad told l _ d2 N2 W2 iv2 hroom hvl hdl tb2
  unfold ltC ptrV at cc
  simp -implicitDefEqProofs (maxSteps:=2000000) only [go_sem,↓reduceIte,e0,u0,u1,eM,q0,q14,lkx]
  refine cc.use ?_
  rintro v' h' ⟨o',a',WA',k,N',W'⟩
  simp -implicitDefEqProofs (maxSteps:=2000000) only [go_sem,↓reduceIte]
  exact ⟨o',a',WA',(kp_any k2).trans (k.mono fun t q=>by rcases q with rfl | rfl | rfl <;> simp [allT,Tg.of]),N',by rw [asked_ts,List.append_nil]; exact W'⟩
 ·have hf:handle n l=gathered n l:=by unfold handle; simp [hkk]
  rw [hf]
  have lkx:=fun (K:Value→Hp→Prop)=>lk K (.func (.func 62) #[] #[]) (by rw [hkk,hM]; rfl)
  have cc:=gathered_ok T _ o wb i nb nbs a n WA0 fl bad told l _ d2 N2 W2 iv2 hk hl ht hq hw hv
  unfold ltC ptrV at cc
  simp -implicitDefEqProofs (maxSteps:=2000000) only [go_sem,↓reduceIte,e0,u0,u1,eM,q0,q14,lkx]
  refine cc.use ?_
  rintro v' h' ⟨o',a',WA',k,N',W'⟩
  simp -implicitDefEqProofs (maxSteps:=2000000) only [go_sem,↓reduceIte]
  exact ⟨o',a',WA',(kp_any k2).trans (k.mono fun t q=>allT_gat q),N',by rw [gathered_ls,List.append_nil]; exact W'⟩
 ·have hf:handle n l=⟨add n l.v.cm,[],[]⟩:=by unfold handle; simp [hkk]
  rw [hf]
  have lkx:=fun (K:Value→Hp→Prop)=>lk K (.func (.func 64) #[] #[]) (by rw [hkk,hM]; rfl)
  have cc:=hears_ok T _ o wb i nb a n l _ d2 N2 iv2 hq (by omega)
  unfold ltC ptrV at cc
  simp -implicitDefEqProofs (maxSteps:=2000000) only [go_sem,↓reduceIte,e0,u0,u1,eM,q0,q14,lkx]
  refine cc.use ?_
  rintro v' h' ⟨o',a',k,N'⟩
  simp -implicitDefEqProofs (maxSteps:=2000000) only [go_sem,↓reduceIte]
  exact ⟨o',a',WA0,(kp_any k2).trans (k.mono fun t q=>by rcases q with rfl | rfl <;> simp [allT,Tg.of]),N',by rw [List.append_nil,List.append_nil]; exact W2.keep k (by rintro t (rfl | rfl) <;> simp [Tg.of])⟩
 ·have hf:handle n l=tells n l:=by unfold handle; simp [hkk]
  rw [hf]
  have lkx:=fun (K:Value→Hp→Prop)=>lk K (.func (.func 65) #[] #[]) (by rw [hkk,hM]; rfl)
  have cc:=tells_ok T _ o wb i nb nbs a n WA0 fl bad told l _ d2 N2 W2 iv2 hroom
  unfold ltC ptrV at cc
  simp -implicitDefEqProofs (maxSteps:=2000000) only [go_sem,↓reduceIte,e0,u0,u1,eM,q0,q14,lkx]
  refine cc.use ?_
  rintro v' h' ⟨o',a',WA',k,N',W'⟩
  simp -implicitDefEqProofs (maxSteps:=2000000) only [go_sem,↓reduceIte]
  exact ⟨o',a',WA',(kp_any k2).trans (k.mono fun t q=>by rcases q with rfl | rfl | rfl <;> simp [allT,Tg.of]),N',by rw [tells_ts,List.append_nil]; exact W'⟩
 ·have hf:handle n l=learn n l.v.slot l.v.cm:=by unfold handle; simp [hkk]
  rw [hf]
  have lkx:=fun (K:Value→Hp→Prop)=>lk K (.func (.func 66) #[] #[]) (by rw [hkk,hM]; rfl)
  have cc:=learns_ok T _ o wb i nb nbs a n WA0 fl bad told l _ d2 N2 W2 iv2 hk hl ht hq hw
  unfold ltC ptrV at cc
  simp -implicitDefEqProofs (maxSteps:=2000000) only [go_sem,↓reduceIte,e0,u0,u1,eM,q0,q14,lkx]
  refine cc.use ?_
  rintro v' h' ⟨o',a',WA',k,N',W'⟩
  simp -implicitDefEqProofs (maxSteps:=2000000) only [go_sem,↓reduceIte]
  exact ⟨o',a',WA',(kp_any k2).trans (k.mono fun t q=>allT_learn q),N',by rw [learn_ls,List.append_nil]; exact W'⟩
 ·have hf:handle n l=⟨notes n l,[],[]⟩:=by unfold handle; simp [hkk]
  rw [hf]
  have lkx:=fun (K:Value→Hp→Prop)=>lk K (.func (.func 67) #[] #[]) (by rw [hkk,hM]; rfl)
  have cc:=notes_ok T _ o wb i nb a n l _ d2 N2 iv2
  unfold ltC ptrV at cc
  simp -implicitDefEqProofs (maxSteps:=2000000) only [go_sem,↓reduceIte,e0,u0,u1,eM,q0,q14,lkx]
  refine cc.use ?_
  rintro v' h' ⟨k,N'⟩
  simp -implicitDefEqProofs (maxSteps:=2000000) only [go_sem,↓reduceIte]
  exact ⟨o,a,WA0,(kp_any k2).trans (k.mono fun t q=>by rw [q]; simp [allT,Tg.of]),N',by rw [List.append_nil,List.append_nil]; exact W2.keep k (by rintro t rfl; simp [Tg.of])⟩
@[go_sem] theorem take_C (x:Cm):List.take 5 x.C=x.C:=rfl
def freeI (n:Nd) (r:Rgn) (x:Cm):Int:=match free n r x with | some s=>(s:Int) | none=>0
theorem RgnAt.rr {o:Ow} {i:Nat} {h:Hp} {ra:RA} {r:Rgn} (s:RgnAt o i h ra r):rd h ⟨ra.rb,0,none⟩ 2=some (balC r.b)∧hc h ⟨ra.rb,2,none⟩=some (.map (some ra.pb))∧hc h ⟨ra.rb,3,none⟩=some (.bool r.begun)∧hc h ⟨ra.rb,4,none⟩=some (.map (some ra.qb))∧hc h ⟨ra.rb,5,none⟩=some (.map (some ra.vb)):=
 ⟨by rw [rd_part s.blk.2 (by simp [rgnC])]; rfl,hc_last s.blk.2,hc_last s.blk.2,hc_last s.blk.2,hc_last s.blk.2⟩
set_option maxHeartbeats 1000000 in
theorem free_ok (T:World) (h:Hp) (o:Ow) (wb i nb:Nat) (a:NA) (n:Nd) (ra:RA) (r:Rgn) (x:Cm) (d:Dom o h) (N:NodeAt o h wb i nb a n) (R:RgnAt o i h ra r) (hl:n.log.length≤1000000000000) :
  CallsH Tryz.prog T 99 #[ptrV nb,ptrV ra.rb,cmA x] h fun v' h'=>v'=.tuple #[.int .i64 (freeI n r x),.bool (free n r x).isSome]∧Bel h.size h h':=by
 have hnb:=lt_of_get N.blk.2
 have hrb:=lt_of_get R.blk.2
 refine CallsH.of_code2 (args:=[_,_,_]) Tryz.func99 rfl rfl rfl rfl ?_
 unfold ptrV cmA
 obtain ⟨h1,hh1⟩:∃ h1:Hp,h1=h.push (.cells x.C.toArray 77):=⟨_,rfl⟩
 have k1:Kp noT o h o h1:=by rw [hh1]; exact kp_push d _
 have b1:Bel h.size h h1:=by rw [hh1]; exact Bel.push (Nat.le_refl _) _
 have x1:BoxAt o h1 h.size (.cells x.C.toArray 77):=⟨d _ (Nat.le_refl _),by rw [hh1]; exact get_push_last⟩
 have e0:=hh1.symm
 have N1:=N.still k1
 have R1:=R.keep k1 (fun _ _ q=>q)
 have P1:=node_rd N1.blk.2 N1.pt.store.len
 have P0:=node_rd N.blk.2 N.pt.store.len
 obtain ⟨lp,lc,hlog,hlc⟩:=OwnT.isSlice N1.pt.log
 have P11:=P1.log
 rw [hlog] at P11
 have hnb1:=lt_of_get N1.blk.2
 have e3:((n.log.length:Nat):Int)=(n.log.length:Int):=rfl
 simp -implicitDefEqProofs (maxSteps:=2000000) only [go_sem,↓reduceIte,e0,P11]
 refine VS.loop' (fun F g=>Bel h1.size h1 g∧F 0=.pointer (some ⟨nb,0,none⟩)∧F 1=.pointer (some ⟨ra.rb,0,none⟩)∧F 5=.pointer (some ⟨h.size,0,none⟩)∧∃ s:Nat,F 8=.int .i64 s∧n.log.length≤s∧freeGo n r x (40 - n.log.length) n.log.length=freeGo n r x (40 - s) s)
  (fun F _=>40 - (vi (F 8)).toNat) rfl ⟨Bel.refl _ _,rfl,rfl,rfl,n.log.length,rfl,Nat.le_refl _,rfl⟩ ?_
 rintro F g ⟨hg,f0,f1,f5,s,f8,hs,he⟩
 have kg:=kp_still k1.dom hg
 have N2:=N1.still kg
 have R2:=R1.keep kg (fun _ _ q=>q)
 have y1:=x1.keep kg
 have P2:=node_rd N2.blk.2 N2.pt.store.len
 obtain ⟨_,_,_,q4,_⟩:=R2.rr
 have gs:=hg.size
 have hnb2:=lt_of_get N2.blk.2
 have hrb2:=lt_of_get R2.blk.2
 have bb:Bel h.size h g:=b1.trans (hg.mono b1.size)
 have eF:free n r x=freeGo n r x (40 - s) s:=he
 by_cases hlt:s<40
 ·have hlt':(s:Int)<40:=by omega
  obtain ⟨f,hf⟩:∃ f,40 - s=f+1:=⟨39 - s,by omega⟩
  have ef:f=40 - (s+1):=by omega
  rw [hf] at eF he
  have lk1:=fun (K:Value→Hp→Prop)=>vLook_int (K:=K) (n:=(s:Int)) (c:=true) tmiCm tzvCm R2.prop.2
  rw [mapV_lkp] at lk1
  have lk2:=fun (K:Value→Hp→Prop) (z:Obj)=>vLook_int (h:=g.push z) (K:=K) (n:=(s:Int)) (c:=true) tmiCm tzvCm ((get_push_ne (lt_of_get N2.pt.known.2)).trans N2.pt.known.2)
  simp only [mapV_lkp] at lk2
  have fz:∀ c:Cm,rd g ⟨h.size,0,none⟩ 5=some x.C:=fun _=>rd_last y1.2 rfl
  have fx:rd g ⟨h.size,0,none⟩ 5=some x.C:=rd_last y1.2 rfl
  have hx5:=lt_of_get y1.2
  have n1:¬ h.size=g.size:=by omega
  have n2:¬ h.size=g.size+1:=by omega
  have n3:¬ nb=g.size:=by omega
  unfold freeGo at eF
  cases c1:lkp r.prop (s:Int) with
  | none=>
   simp only [c1,Option.map_none,Option.getD_none,Option.isSome_none,↓reduceIte] at lk1
   cases c2:lkp n.known (s:Int) with
   | none=>
    simp only [c2,Option.map_none,Option.getD_none,Option.isSome_none,↓reduceIte] at lk2
    have e4:free n r x=some s:=by rw [eF,if_neg (by rw [c1,c2]; simp),if_pos ⟨c1,c2⟩]
    have e5:freeI n r x=s:=by unfold freeI; rw [e4]
    rw [e5,e4]
    simp -implicitDefEqProofs (maxSteps:=2000000) only [go_sem,↓reduceIte,f0,f1,f5,f8,hlt',q4,lk1,lk2,P2.known,n1,n2,n3,fx,cmA,Option.isSome_some]
    exact (bb.addP (by omega) _).addP (by simp; omega) _
   | some z=>
    simp only [c2,Option.map_some,Option.getD_some,Option.isSome_some,↓reduceIte] at lk2
    by_cases qz:z=x
    ·have e4:free n r x=none:=by rw [eF,if_pos (.inr (by rw [c2,qz]))]
     have e5:freeI n r x=0:=by unfold freeI; rw [e4]
     rw [e5,e4]
     simp -implicitDefEqProofs (maxSteps:=2000000) only [go_sem,↓reduceIte,f0,f1,f5,f8,hlt',q4,lk1,lk2,P2.known,n1,n2,n3,fx,cmA,qz,Option.isSome_none]
     exact (bb.addP (by omega) _).addP (by simp; omega) _
    ·have qz':¬ some z=some x:=fun e=>qz (Option.some.inj e)
     simp -implicitDefEqProofs (maxSteps:=2000000) only [go_sem,↓reduceIte,f0,f1,f5,f8,hlt',q4,lk1,lk2,P2.known,n1,n2,n3,fx,cmA,qz]
     unfold nLoop
     refine ⟨⟨(hg.addP (by omega) _).addP (by simp; omega) _,f0,f1,f5,s+1,rfl,by omega,?_⟩,?_⟩
     ·rw [he,← ef,freeGo,if_neg (by rw [c1,c2]; simp [qz]),if_neg (by rw [c2]; simp)]
     ·simp only [vi,updo_some,↓reduceIte,f8]; omega
  | some y=>
   simp only [c1,Option.map_some,Option.getD_some,Option.isSome_some,↓reduceIte] at lk1
   by_cases qy:y=x
   ·have e4:free n r x=none:=by rw [eF,if_pos (.inl (by rw [c1,qy]))]
    have e5:freeI n r x=0:=by unfold freeI; rw [e4]
    rw [e5,e4]
    cases c2:lkp n.known (s:Int) with
    | none=>
     simp only [c2,Option.map_none,Option.getD_none,Option.isSome_none,↓reduceIte] at lk2
     simp -implicitDefEqProofs (maxSteps:=2000000) only [go_sem,↓reduceIte,f0,f1,f5,f8,hlt',q4,lk1,lk2,P2.known,n1,n2,n3,fx,cmA,qy,Option.isSome_none]
     exact (bb.addP (by omega) _).addP (by simp; omega) _
    | some z=>
     simp only [c2,Option.map_some,Option.getD_some,Option.isSome_some,↓reduceIte] at lk2
     simp -implicitDefEqProofs (maxSteps:=2000000) only [go_sem,↓reduceIte,f0,f1,f5,f8,hlt',q4,lk1,lk2,P2.known,n1,n2,n3,fx,cmA,qy,Option.isSome_none]
     exact (bb.addP (by omega) _).addP (by simp; omega) _
   ·cases c2:lkp n.known (s:Int) with
    | none=>
     simp only [c2,Option.map_none,Option.getD_none,Option.isSome_none,↓reduceIte] at lk2
     simp -implicitDefEqProofs (maxSteps:=2000000) only [go_sem,↓reduceIte,f0,f1,f5,f8,hlt',q4,lk1,lk2,P2.known,n1,n2,n3,fx,cmA,qy]
     unfold nLoop
     refine ⟨⟨(hg.addP (by omega) _).addP (by simp; omega) _,f0,f1,f5,s+1,rfl,by omega,?_⟩,?_⟩
     ·rw [he,← ef,freeGo,if_neg (by rw [c1,c2]; simp [qy]),if_neg (by rw [c1]; simp)]
     ·simp only [vi,updo_some,↓reduceIte,f8]; omega
    | some z=>
     simp only [c2,Option.map_some,Option.getD_some,Option.isSome_some,↓reduceIte] at lk2
     by_cases qz:z=x
     ·have e4:free n r x=none:=by rw [eF,if_pos (.inr (by rw [c2,qz]))]
      have e5:freeI n r x=0:=by unfold freeI; rw [e4]
      rw [e5,e4]
      simp -implicitDefEqProofs (maxSteps:=2000000) only [go_sem,↓reduceIte,f0,f1,f5,f8,hlt',q4,lk1,lk2,P2.known,n1,n2,n3,fx,cmA,qy,qz,Option.isSome_none]
      exact (bb.addP (by omega) _).addP (by simp; omega) _
     ·
      simp -implicitDefEqProofs (maxSteps:=2000000) only [go_sem,↓reduceIte,f0,f1,f5,f8,hlt',q4,lk1,lk2,P2.known,n1,n2,n3,fx,cmA,qy,qz]
      unfold nLoop
      refine ⟨⟨(hg.addP (by omega) _).addP (by simp; omega) _,f0,f1,f5,s+1,rfl,by omega,?_⟩,?_⟩
      ·rw [he,← ef,freeGo,if_neg (by rw [c1,c2]; simp [qy,qz]),if_neg (by rw [c1]; simp)]
      ·simp only [vi,updo_some,↓reduceIte,f8]; omega
 ·have hge:¬ (s:Int)<40:=by omega
  have e4:free n r x=none:=by rw [eF,show 40 - s=0 by omega]; rfl
  have e5:freeI n r x=0:=by unfold freeI; rw [e4]
  rw [e5,e4]
  simp -implicitDefEqProofs (maxSteps:=2000000) only [go_sem,↓reduceIte,f8,hge,bb,Option.isSome_none]
def Gath (B:Nat) (o:Ow) (h0 h:Hp) (u:Value) (LL:List (List Vt)):Prop:=
 ∃ ws:List Value,Own B 61 1 h u LL.length ws∧Al2 (fun w l=>ImV o h0 w l∧l.length≤1000000) ws LL
def VssF (o:Ow) (h:Hp) (u:Value) (LL:List (List Vt)):Prop:=∃ p c,u=.slice p LL.length c∧(LL≠[]→∃ b off,p=some ⟨b,off,none⟩∧b<h.size∧o b=none∧∀ i (hi:i<LL.length),∃ w,hc h ⟨b,off+i,none⟩=some w∧ImV o h w LL[i]∧LL[i].length≤1000000)
theorem VssF.vss {o:Ow} {h:Hp} {u:Value} {LL:List (List Vt)} (s:VssF o h u LL):Vss h u LL:=by
 obtain ⟨p,c,hv,hh⟩:=s
 refine ⟨p,c,hv,fun hne=>?_⟩
 obtain ⟨b,off,h1,h2,h3,h4⟩:=hh hne
 refine ⟨b,off,h1,h2,fun i hi=>?_⟩
 obtain ⟨w,g1,g2,g3⟩:=h4 i hi
 exact ⟨w,g1,g2.ts,by omega⟩
theorem VssF.keep {S:Tg→Prop} {o o':Ow} {h h':Hp} {u:Value} {LL:List (List Vt)} (s:VssF o h u LL) (k:Kp S o h o' h'):VssF o' h' u LL:=by
 obtain ⟨p,c,hv,hh⟩:=s
 refine ⟨p,c,hv,fun hne=>?_⟩
 obtain ⟨b,off,h1,h2,h3,h4⟩:=hh hne
 obtain ⟨q1,q2⟩:=k.keep b h2 fun t ht=>by rw [h3] at ht; cases ht
 refine ⟨b,off,h1,Nat.lt_of_lt_of_le h2 k.size,q2.trans h3,fun i hi=>?_⟩
 obtain ⟨w,g1,g2,g3⟩:=h4 i hi
 refine ⟨w,?_,g2.keep k,g3⟩
 unfold hc at g1 ⊢
 rw [q1]; exact g1
theorem Gath.vssf {o:Ow} {h0 h:Hp} {u:Value} {LL:List (List Vt)} (s:Gath h0.size o h0 h u LL) (d:Dom o h0) (hb:Bel h0.size h0 h):VssF o h u LL:=by
 obtain ⟨ws,own,al⟩:=s
 have alen:ws.length=LL.length:=by
  clear own
  induction al with
  | nil=>rfl
  | cons _ _ ih=>simp [ih]
 have aget:∀ i (hi:i<LL.length),∃ w,ws[i]? = some w∧ImV o h0 w LL[i]∧LL[i].length≤1000000:=by
  clear own alen
  induction al with
  | nil=>intro i hi; simp at hi
  | cons hab _ ih=>
   intro i hi
   cases i with
   | zero=>exact ⟨_,rfl,hab⟩
   | succ i=>exact ih i (by simpa using hi)
 obtain ⟨p,c,hv,hl,hcs⟩:=own.sl
 refine ⟨p,c,hv,fun hne=>?_⟩
 have hpos:0<LL.length:=List.length_pos_iff.2 hne
 obtain ⟨b,off,rfl,hc2⟩:=hcs (by intro e; rw [e] at alen; simp at alen; omega)
 have hbB:h0.size≤b:=by
  refine own.blk b ?_
  rcases own with ⟨⟨q,h1⟩,h2,h3⟩ | ⟨b',cap,sp,_,h1,_,_,_,hm⟩
  ·subst h3; simp at alen; omega
  ·rw [hv] at h1
   simp only [Value.slice.injEq,Option.some.injEq,Addr.mk.injEq] at h1
   obtain ⟨⟨rfl,_,_⟩,h12,h13⟩:=h1
   rw [hv]
   have:c≠0:=by omega
   simp [blkOf,this]
 refine ⟨b,off,rfl,lt_of_hc (hc2 0 (by omega)),d b hbB,fun i hi=>?_⟩
 obtain ⟨w,h1,h2,h3⟩:=aget i hi
 have hi':i<ws.length:=by omega
 rw [List.getElem?_eq_getElem hi'] at h1
 exact ⟨w,by rw [hc2 i hi',Option.some.inj h1],h2.keep (kp_still d hb),h3⟩
theorem al2_snoc {α β:Type} {R:α→β→Prop} {l:List α} {k:List β} (s:Al2 R l k) {a:α} {b:β} (h:R a b):Al2 R (l++[a]) (k++[b]):=by
 induction s with
 | nil=>exact .cons h .nil
 | cons x _ ih=>exact .cons x ih
theorem topV_snoc (l:List Vt) (v:Vt):topV (l++[v])=if topV l<v.slot then v.slot else topV l:=by
 unfold topV; rw [List.foldl_append]; rfl
theorem RgnAt.putProp {o:Ow} {i:Nat} {h:Hp} {ra:RA} {r:Rgn} (s:RgnAt o i h ra r) (d:Dom o h) {k:Int} {x:Cm} :
  Kp (fun t=>t=.prop i) o h o (h.setIfInBounds ra.qb (mapO (ins (mapV cmA r.prop) k (.agg x.C.toArray))))∧RgnAt o i (h.setIfInBounds ra.qb (mapO (ins (mapV cmA r.prop) k (.agg x.C.toArray)))) ra { r with prop:=ins r.prop k x }:=by
 have kk:Kp (fun t=>t=.prop i) o h o (h.setIfInBounds ra.qb (mapO (ins (mapV cmA r.prop) k (.agg x.C.toArray)))):=(Kp.refl d (fun t=>t=.prop i)).set s.prop.1 rfl _
 exact ⟨kk,s.blk.keep kk (by intro e; cases e),s.prom.keep kk (by intro e; cases e),s.proms.keep kk,⟨s.prop.1,by rw [get_set s.prop.2,mapV_ins]; rfl⟩,s.vts.keep kk (by intro e; cases e),s.sets.keep kk (fun _ e=>by cases e),s.keys⟩
theorem lists5_len (r:Rgn):(lists5 r).length=5:=rfl
theorem lists5_at (r:Rgn) (m:Nat) (hm:m<(lists5 r).length):(lists5 r)[m]=(lkp r.prom (m:Int)).getD []:=by
 simp only [lists5,List.getElem_map,List.getElem_range]
theorem RgnAt.list {o:Ow} {i:Nat} {h:Hp} {ra:RA} {r:Rgn} (s:RgnAt o i h ra r) (hp:∀ x∈r.prom,x.2.length≤1000000) (m:Int):∃ p c vs,(lkp ra.pv m).getD (.slice none 0 0)=.slice p vs.length c∧(lkp r.prom m).getD []=vs∧ImV o h (.slice p vs.length c) vs∧vs.length≤1000000:=by
 rcases s.proms.lkp m with ⟨h1,h2⟩ | ⟨w,vs,h1,h2,iv⟩
 ·exact ⟨none,0,[],by rw [h1]; rfl,by rw [h2]; rfl,Im.nil _ _ _ _,by simp⟩
 ·obtain ⟨p,c,rfl⟩:=iv.isSlice
  exact ⟨p,c,vs,by rw [h1]; rfl,by rw [h2]; rfl,iv,hp _ (lkp_mem h2)⟩
set_option maxHeartbeats 1000000 in
theorem begin_ok (T:World) (h:Hp) (o:Ow) (wb i nb:Nat) (a:NA) (n:Nd) (ra:RA) (r:Rgn) (d:Dom o h) (N:NodeAt o h wb i nb { a with reign:=some ra } { n with reign:=some r }) (hp:∀ x∈r.prom,x.2.length≤1000000) (hs:∀ x∈r.prom,∀ v∈x.2,v.slot≤1000000) (hl:n.log.length≤1000000000000) :
  CallsH Tryz.prog T 98 #[ptrV nb,ptrV ra.rb] h fun v' h'=>∃ ra',ra'.rb=ra.rb∧Kp (rgnTags i) o h o h'∧NodeAt o h' wb i nb { a with reign:=some ra' } { n with reign:=some (beginR n r) }:=by
 have hnb:=lt_of_get N.blk.2
 have R:RgnAt o i h ra r:=N.pt.reign
 have hrb:=lt_of_get R.blk.2
 refine CallsH.of_code' (args:=[_,_]) Tryz.func98 rfl rfl rfl rfl ?_
 unfold ptrV
 simp -implicitDefEqProofs (maxSteps:=2000000) only [go_sem,↓reduceIte]
 refine VS.loop' (fun F g=>Bel h.size h g∧F 0=.pointer (some ⟨nb,0,none⟩)∧F 1=.pointer (some ⟨ra.rb,0,none⟩)∧∃ m:Nat,m≤5∧F 12=.int .i64 m∧Gath h.size o h g (F 4) ((lists5 r).take m)∧F 5=.int .i64 (topV ((lists5 r).take m).flatten))
  (fun F _=>5 - (vi (F 12)).toNat) rfl ⟨Bel.refl _ _,rfl,rfl,0,by omega,rfl,⟨[],Own.nil _ _ _ _,.nil⟩,rfl⟩ ?_
 rintro F g ⟨hg,f0,f1,m,hm,f12,hG,f5⟩
 have kg:=kp_still d hg
 have N1:=N.still kg
 have R1:=R.keep kg (fun _ _ q=>q)
 obtain ⟨_,q2,q3,q4,_⟩:=R1.rr
 have gs:=hg.size
 by_cases hlt:m<5
 ·have hlt':(m:Int)<5:=by omega
  obtain ⟨pm,cm,vs,e1,e2,iv,hvl⟩:=R1.list hp (m:Int)
  have hm5:m<(lists5 r).length:=by rw [lists5_len]; exact hlt
  have e3:(lists5 r)[m]=vs:=by rw [lists5_at,e2]
  have e4:(lists5 r).take (m+1)=(lists5 r).take m++[vs]:=by rw [take_snoc _ m hm5,e3]
  have lk:=fun (G:Hp) (hG:Bel g.size g G) (K:Value→Hp→Prop)=>vLook_int (h:=G) (K:=K) (n:=(m:Int)) (c:=false) tmiVs tzvVs (hG.get (lt_of_get R1.prom.2) R1.prom.2)
  simp only [e1,Bool.false_eq_true,if_false] at lk
  have lk0:=lk g (Bel.refl _ _)
  obtain ⟨ws,own,al⟩:=hG
  obtain ⟨p4,c4,hF4⟩:∃ p c,F 4=.slice p ((lists5 r).take m).length c:=by
   obtain ⟨p,c,h1,_⟩:=own.sl; exact ⟨p,c,h1⟩
  have ml:((lists5 r).take m).length=m:=by rw [List.length_take,lists5_len]; omega
  rw [ml] at hF4 own
  rw [hF4] at own
  simp -implicitDefEqProofs (maxSteps:=2000000) only [go_sem,↓reduceIte,f0,f1,f5,f12,hF4,hlt',q2,lk0]
  have src:Sl 1 (g.push (.cells [.slice pm vs.length cm].toArray 61)) (.slice (some ⟨g.size,0,none⟩) 1 1) 1 [.slice pm vs.length cm]:=Sl.made (by simp) 1
  refine append_own2 (E:=61) (n:=1) (B:=h.size) (bytes:=24) (m:=m) (k:=1) (cs:=ws) tsl213 Tryz.underlying213 tn61 tz61 rfl tb61 (own.push _) (by simp; omega) src rfl (by omega) (by omega) ?_
  intro u3 g3 own3 but3 _
  have hg3:Bel h.size h g3:=(hg.addP (by omega) _).trans (but3.bel (by simp; omega) (own.push (.cells [.slice pm vs.length cm].toArray 61)).blk)
  have kg3:=kp_still d hg3
  have R3:=R.keep kg3 (fun _ _ q=>q)
  obtain ⟨_,q23,_,_,_⟩:=R3.rr
  have lk3:=fun (K:Value→Hp→Prop)=>vLook_int (K:=K) (n:=(m:Int)) (c:=false) tmiVs tzvVs R3.prom.2
  simp only [e1,Bool.false_eq_true,if_false] at lk3
  obtain ⟨p5,c5,rfl⟩:∃ p c,u3=.slice p (m+1) c:=by obtain ⟨p,c,h1,_⟩:=own3.sl; exact ⟨p,c,h1⟩
  have iv0:ImV o h (.slice pm vs.length cm) vs:=by
   obtain ⟨pm',cm',vs',x1,x2,iv',_⟩:=R.list hp (m:Int)
   rw [e1] at x1
   rw [e2] at x2
   subst x2
   rw [← x1] at iv'
   exact iv'
  have al3:Al2 (fun w l=>ImV o h w l∧l.length≤1000000) (ws++[.slice pm vs.length cm]) ((lists5 r).take m++[vs]):=by
   exact al2_snoc al ⟨iv0,hvl⟩
  simp -implicitDefEqProofs (maxSteps:=2000000) only [go_sem,↓reduceIte,f0,f1,f5,f12,hlt',q23,lk3]
  obtain ⟨LL,hLL⟩:∃ LL,LL=((lists5 r).take m).flatten:=⟨_,rfl⟩
  have hfl:((lists5 r).take (m+1)).flatten=LL++vs:=by rw [e4,List.flatten_append,← hLL]; simp
  rw [← hLL] at f5
  have ivo:=fun g' (hb:Bel h.size h g')=>vts_open (iv0.keep (kp_still d hb)).ts
  refine VS.loop' (fun F' g'=>Bel h.size h g'∧F' 0=.pointer (some ⟨nb,0,none⟩)∧F' 1=.pointer (some ⟨ra.rb,0,none⟩)∧F' 12=.int .i64 m∧F' 29=.slice pm vs.length cm∧F' 30=.int .i64 vs.length∧F' 4=.slice p5 (m+1) c5∧Own h.size 61 1 g' (.slice p5 (m+1) c5) (m+1) (ws++[.slice pm vs.length cm])∧∃ j:Nat,j≤vs.length∧F' 31=.int .i64 j∧F' 5=.int .i64 (topV (LL++vs.take j)))
   (fun F' _=>vs.length - (vi (F' 31)).toNat) rfl ⟨hg3,f0,f1,f12,rfl,rfl,rfl,own3,0,by omega,rfl,by rw [List.take_zero,List.append_nil]; exact f5⟩ ?_
  rintro F2 g4 ⟨hg4,f0,f1,f12,f29,f30,f4,own4,j,hj,f31,f5⟩
  by_cases hjl:j<vs.length
  ·have hjl':(j:Int)<vs.length:=by omega
   obtain ⟨pp,cc,hv1,hv2⟩:=ivo g4 hg4
   obtain ⟨bb,oo,hpp,hbb,hrd⟩:=hv2 (by intro e; rw [e] at hjl; simp at hjl)
   simp only [Value.slice.injEq] at hv1
   obtain ⟨rfl,_,rfl⟩:=hv1
   subst hpp
   have r1:=hrd j hjl
   unfold voteC at r1
   simp -implicitDefEqProofs (maxSteps:=2000000) only [go_sem,↓reduceIte,f0,f1,f12,f29,f30,f4,f31,f5,hjl',r1]
   unfold nLoop
   refine ⟨⟨hg4.addP hg4.size _,f0,f1,f12,f29,f30,f4,own4.push _,j+1,hjl,rfl,?_⟩,?_⟩
   ·show Value.int .i64 _=_
    rw [take_snoc vs j hjl,← List.append_assoc,topV_snoc]
   ·simp only [vi,updo_some,↓reduceIte,f31]; omega
  ·have hge:¬ (j:Int)<vs.length:=by omega
   obtain rfl:j=vs.length:=by omega
   rw [List.take_length] at f5
   simp -implicitDefEqProofs (maxSteps:=2000000) only [go_sem,↓reduceIte,f30,f31,hge,f12]
   unfold nLoop
   refine ⟨⟨hg4,f0,f1,m+1,hlt,rfl,⟨_,?_,by rw [e4]; exact al3⟩,by rw [hfl]; exact f5⟩,?_⟩
   ·show Own _ _ _ _ (F2 4) _ _
    rw [f4,e4,List.length_append,ml]
    exact own4
   ·simp only [vi,updo_some,↓reduceIte,f12]; omega
 ·have hge:¬ (m:Int)<5:=by omega
  obtain rfl:m=5:=by omega
  have ht5:(lists5 r).take 5=lists5 r:=by rw [List.take_of_length_le]; exact Nat.le_of_eq (lists5_len r)
  rw [ht5] at hG f5
  have P1:=node_rd N1.blk.2 N1.pt.store.len
  have hnb1:=lt_of_get N1.blk.2
  obtain ⟨lp,lc,hlog,_⟩:=OwnT.isSlice N1.pt.log
  have P11:=P1.log
  rw [hlog] at P11
  have hvss:=hG.vssf d hg
  obtain ⟨u,hu⟩:∃ u,u=F 4:=⟨_,rfl⟩
  rw [← hu] at hvss hG
  obtain ⟨top,htop⟩:∃ top,top=topV (lists5 r).flatten:=⟨_,rfl⟩
  rw [← htop] at f5
  have htl:top≤1000000:=by
   rw [htop]
   have key:∀ (l:List Vt) (t:Int),t≤1000000→(∀ v∈l,v.slot≤1000000)→l.foldl (fun t v=>if t<v.slot then v.slot else t) t≤1000000:=by
    intro l
    induction l with
    | nil=>intro t ht _; exact ht
    | cons x l ih=>
     intro t ht hh
     refine ih _ ?_ (fun v hv=>hh v (List.mem_cons_of_mem _ hv))
     show (if t<x.slot then x.slot else t)≤1000000
     split
     ·exact hh x List.mem_cons_self
     ·exact ht
   refine key _ _ (by omega) ?_
   intro v hv
   simp only [List.mem_flatten] at hv
   obtain ⟨l,hl1,hl2⟩:=hv
   obtain ⟨k,hk,rfl⟩:=List.getElem_of_mem hl1
   rw [lists5_at] at hl2
   cases hx:lkp r.prom (k:Int) with
   | none=>rw [hx] at hl2; cases hl2
   | some y=>rw [hx] at hl2; exact hs _ (lkp_mem hx) v hl2
  clear hG
  obtain ⟨LL,hLL⟩:∃ LL,LL=lists5 r:=⟨_,rfl⟩
  rw [← hLL] at hvss htop
  obtain ⟨C,hC⟩:∃ C,C=(top+1).toNat - n.log.length:=⟨_,rfl⟩
  have hfin:beginR n r = { r with prop:=(List.range' n.log.length C).foldl (begin1 n LL) r.prop,begun:=true }:=by
   unfold beginR; rw [hC,htop,hLL]
  rw [hfin]
  have hu':=hu.symm
  simp -implicitDefEqProofs (maxSteps:=2000000) only [go_sem,↓reduceIte,f0,f1,f5,f12,hge,P11]
  refine VS.loop' (fun F' g'=>Kp (rgnTags i) o h o g'∧F' 0=.pointer (some ⟨nb,0,none⟩)∧F' 1=.pointer (some ⟨ra.rb,0,none⟩)∧F' 4=u∧F' 5=.int .i64 top∧VssF o g' u LL∧∃ k:Nat,k≤C∧F' 9=.int .i64 ((n.log.length+k:Nat):Int)∧NodeAt o g' wb i nb { a with reign:=some ra } { n with reign:=some { r with prop:=(List.range' n.log.length k).foldl (begin1 n LL) r.prop } })
   (fun F' _=>n.log.length+C - (vi (F' 9)).toNat) rfl ⟨kp_any kg,f0,f1,hu',f5,hvss,0,by omega,rfl,N1⟩ ?_
  rintro F2 g2 ⟨K2,f0,f1,f4,f5,hvss,k,hk,f9,N2⟩
  obtain ⟨pk,hpk⟩:∃ pk,pk=(List.range' n.log.length k).foldl (begin1 n LL) r.prop:=⟨_,rfl⟩
  rw [← hpk] at N2
  have R2:RgnAt o i g2 ra { r with prop:=pk }:=N2.pt.reign
  obtain ⟨_,_,_,q4,_⟩:=R2.rr
  have P2:=node_rd N2.blk.2 N2.pt.store.len
  have hnb2:=lt_of_get N2.blk.2
  have hrb2:=lt_of_get R2.blk.2
  by_cases hkc:k<C
  ·have hle:(((n.log.length+k:Nat):Int))≤top:=by omega
   have lk:=fun (K:Value→Hp→Prop)=>vLook_int (K:=K) (n:=((n.log.length+k:Nat):Int)) (c:=true) tmiCm tzvCm N2.pt.known.2
   rw [mapV_lkp] at lk
   have hnext:(List.range' n.log.length (k+1)).foldl (begin1 n LL) r.prop=begin1 n LL pk (n.log.length+k):=by
    rw [List.range'_concat,List.foldl_append,← hpk]; simp
   cases hx:lkp n.known ((n.log.length+k:Nat):Int) with
   | some y=>
    have e6:begin1 n LL pk (n.log.length+k)=pk:=by unfold begin1; rw [if_neg (by rw [hx]; simp)]
    simp only [show ({ n with reign:=some { r with prop:=pk } }:Nd).known=n.known from rfl,hx,Option.map_some,Option.getD_some,Option.isSome_some,↓reduceIte] at lk
    simp -implicitDefEqProofs (maxSteps:=2000000) only [go_sem,↓reduceIte,f0,f1,f4,f5,f9,hle,P2.known,lk,cmA]
    have kx:=kp_push K2.dom (.cells y.C.toArray 77)
    unfold nLoop
    refine ⟨⟨K2.push _,f0,f1,f4,f5,hvss.keep kx,k+1,hkc,?_,by rw [hnext,e6]; exact N2.still kx⟩,?_⟩
    ·show Value.int .i64 _=Value.int .i64 _
     congr 1
    ·simp only [vi,updo_some,↓reduceIte,f9]; omega
   | none=>
    have e6:begin1 n LL pk (n.log.length+k)=ins pk ((n.log.length+k:Nat):Int) (pickC LL ((n.log.length+k:Nat):Int)):=by unfold begin1; rw [if_pos hx]
    simp only [show ({ n with reign:=some { r with prop:=pk } }:Nd).known=n.known from rfl,hx,Option.map_none,Option.getD_none,Option.isSome_none,↓reduceIte] at lk
    simp -implicitDefEqProofs (maxSteps:=2000000) only [go_sem,↓reduceIte,f0,f1,f4,f5,f9,hle,P2.known,lk]
    obtain ⟨g3,hg3⟩:∃ g3:Hp,g3=g2.push (.cells cm0.C.toArray 77):=⟨_,rfl⟩
    have kx:Kp noT o g2 o g3:=by rw [hg3]; exact kp_push K2.dom _
    rw [← hg3]
    have N3:=N2.still kx
    have R3:RgnAt o i g3 ra { r with prop:=pk }:=N3.pt.reign
    obtain ⟨_,_,_,q43,_⟩:=R3.rr
    have hrb3:=lt_of_get R3.blk.2
    have hv3:=hvss.keep kx
    have LLl:LL.length≤4611686018427387904:=by rw [hLL,lists5_len]; omega
    refine VS.z (g3.size) [12] (.p 0 (.p 1 (.p 2 (.q 3 (.p 4 (.p 5 (.p 6 (.s 7 (.p 8 (.p 9 (.p 10 (.p 11 (.w 12 .nil))))))))))))) mixed (by kernel_rfl) ?_
    simp -implicitDefEqProofs (maxSteps:=2000000) only [go_sem,↓reduceIte,f0,f1,f4,f5,f9,q43,hrb3]
    refine (pick_ok T g3 u LL ((n.log.length+k:Nat):Int) hv3.vss LLl).use ?_
    rintro _ g4 ⟨hres,b4⟩
    unfold PickRes at hres
    subst hres
    have k4:=kp_still kx.dom b4
    have N4:=N3.still k4
    have R4:RgnAt o i g4 ra { r with prop:=pk }:=N4.pt.reign
    have eC:cmdV (if pickErr ((n.log.length+k:Nat):Int) LL.flatten=0 then bestOf ((n.log.length+k:Nat):Int) LL.flatten else vt0)=(pickC LL ((n.log.length+k:Nat):Int)).C:=by
     unfold pickC; split <;> rfl
    rw [eC]
    simp -implicitDefEqProofs (maxSteps:=2000000) only [go_sem,↓reduceIte,b4,f0,f1,f4,f5,f9]
    rw [vMupd_int tmiCm R4.prop.2]
    obtain ⟨k5,R5⟩:=R4.putProp k4.dom (k:=((n.log.length+k:Nat):Int)) (x:=pickC LL ((n.log.length+k:Nat):Int))
    have k5':Kp (rgnTags i) o g4 o _:=k5.mono fun t q=>.inr (.inr (.inl q))
    simp -implicitDefEqProofs (maxSteps:=2000000) only [go_sem,↓reduceIte,f9]
    unfold nLoop
    refine ⟨⟨(K2.trans ((kp_any kx).trans (kp_any k4))).trans k5',f0,f1,f4,f5,(hv3.keep k4).keep k5',k+1,hkc,?_,?_⟩,?_⟩
    ·show Value.int .i64 _=Value.int .i64 _
     congr 1
    ·rw [hnext,e6]
     exact ⟨N4.blk.keep k5 (by intro e; cases e),NodePt.keepReign N4.pt k5' rfl rfl R5⟩
    ·simp only [vi,updo_some,↓reduceIte,f9]; omega
  ·have hgt:¬ (((n.log.length+k:Nat):Int))≤top:=by omega
   obtain rfl:k=C:=by omega
   obtain ⟨g4,w4,h4⟩:∃ g4,wr1 g2 ⟨ra.rb,3,none⟩ (.bool true)=some g4∧g4=g2.setIfInBounds ra.rb (.cells (rgnC { r with prop:=pk,begun:=true } ra).toArray 122):=by
    refine ⟨_,?_,rfl⟩
    rw [wr1_get R2.blk.2,if_pos ⟨by simp [rgnC],rfl⟩]; rfl
   simp -implicitDefEqProofs (maxSteps:=2000000) only [go_sem,↓reduceIte,f0,f1,f4,f5,f9,hgt,hrb2,w4]
   have kk:Kp (fun t=>t=.reign i) o g2 o g4:=by rw [h4]; exact (Kp.refl K2.dom (fun t=>t=.reign i)).set R2.blk.1 rfl _
   have R4:RgnAt o i g4 ra { r with prop:=pk,begun:=true }:=⟨⟨R2.blk.1,by rw [h4]; exact get_set R2.blk.2⟩,R2.prom.keep kk (by intro e; cases e),R2.proms.keep kk,R2.prop.keep kk (by intro e; cases e),R2.vts.keep kk (by intro e; cases e),R2.sets.keep kk (fun _ e=>by cases e),R2.keys⟩
   rw [← hpk]
   refine ⟨ra,rfl,K2.trans (kk.mono fun t q=>.inl q),N2.blk.keep kk (by intro e; cases e),NodePt.keepReign N2.pt (kk.mono fun t q=>.inl q) rfl rfl R4⟩
end Go.Proofs.YtnhbpmoeaodmnaaGreatDoor
