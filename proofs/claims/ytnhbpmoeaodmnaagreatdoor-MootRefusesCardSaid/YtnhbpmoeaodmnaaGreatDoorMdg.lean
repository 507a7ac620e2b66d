/- What a leader does of its own. -/
import Derived.Test.YtnhbpmoeaodmnaaGreatDoorMoy
namespace Go.Proofs.YtnhbpmoeaodmnaaGreatDoor
open Go Go.V
set_option linter.unusedSimpArgs false
set_option linter.unusedVariables false
set_option maxRecDepth 100000
theorem range_flat {α:Type} (f:Nat→List α) (m:Nat):(List.range (m+1)).flatMap f=(List.range m).flatMap f++f m:=by
 rw [List.range_succ,List.flatMap_append]; simp
theorem flat_len {α:Type} (f:Nat→List α) (k m:Nat) (h:∀ i,(f i).length≤k):((List.range m).flatMap f).length≤m*k:=by
 induction m with
 | zero=>simp
 | succ m ih=>rw [range_flat,List.length_append,Nat.add_mul]; have:=h m; omega
theorem freeGo_eq {n n':Nd} (hk:n.known=n'.known) (r:Rgn) (x:Cm):∀ k s,freeGo n r x k s=freeGo n' r x k s:=by
 intro k
 induction k with
 | zero=>intro s; rfl
 | succ k ih=>intro s; unfold freeGo; rw [hk,ih]
theorem free_eq {n n':Nd} (hk:n.known=n'.known) (hl:n.log=n'.log) (r:Rgn) (x:Cm):free n r x=free n' r x:=by
 unfold free; rw [hl,freeGo_eq hk]
theorem prop1_eq {n n':Nd} (hk:n.known=n'.known) (hl:n.log=n'.log) (r:Rgn) (x:Cm):prop1 n r x=prop1 n' r x:=by
 unfold prop1; rw [free_eq hk hl]
theorem propAll_eq {n n':Nd} (hk:n.known=n'.known) (hl:n.log=n'.log):∀ (l:List Cm) (r:Rgn),propAll n r l=propAll n' r l:=by
 intro l
 induction l with
 | nil=>intro r; rfl
 | cons x l ih=>intro r; show propAll n (prop1 n r x) l=propAll n' (prop1 n' r x) l; rw [prop1_eq hk hl,ih]
theorem begin1_eq {n n':Nd} (hk:n.known=n'.known) (LL:List (List Vt)):begin1 n LL=begin1 n' LL:=by
 funext pr s; unfold begin1; rw [hk]
theorem beginR_eq {n n':Nd} (hk:n.known=n'.known) (hl:n.log=n'.log) (r:Rgn):beginR n r=beginR n' r:=by
 unfold beginR; rw [hl,begin1_eq hk]
theorem accS_eq {n n':Nd} (hk:n.known=n'.known) (hm:n.me=n'.me) (r:Rgn):accS n r=accS n' r:=by
 funext s; unfold accS accL; rw [hk,hm]
theorem accLs_eq {n n':Nd} (hk:n.known=n'.known) (hm:n.me=n'.me) (r:Rgn):accLs n r=accLs n' r:=by
 unfold accLs; rw [accS_eq hk hm]
set_option maxHeartbeats 4000000 in
theorem rule_ok (T:World) (h:Hp) (o:Ow) (wb i nb:Nat) (nbs:Nat→Nat) (a:NA) (n:Nd) (ra:RA) (r:Rgn) (WA0:WA) (fl:List Ltr) (bad:Nat→Int) (told:List Tld) (d:Dom o h)
  (N:NodeAt o h wb i nb { a with reign:=some ra } { n with reign:=some r }) (W:WorldAt o h wb nbs WA0 fl bad told) (tb:Tbs o h) (hroom:fl.length≤900000000000) (hvl:n.own.l.length≤1000000) (hdl:n.data.length≤1000000)
  (hp:∀ x∈r.prom,x.2.length≤1000000) (hs:∀ x∈r.prom,∀ v∈x.2,v.slot≤1000000) (hpl:r.prom.length≤1000000000000) (hl:n.log.length≤1000000000000) (hq:n.queue.length≤1000000000000) :
  CallsH Tryz.prog T 69 #[ptrV wb,ptrV nb,ptrV ra.rb] h fun v' h'=>∃ o' a' WA',Kp (allT i) o h o' h'∧NodeAt o' h' wb i nb a' (rule { n with reign:=some r } r).n∧WorldAt o' h' wb nbs WA' (fl++(rule { n with reign:=some r } r).ls) bad told:=by
 refine CallsH.of_code' (args:=[_,_,_]) Tryz.func69 rfl rfl rfl rfl ?_
 obtain ⟨h1,hh1⟩:∃ h1:Hp,h1=(h.push (.cells [ptrV nb].toArray 56)).push (.cells [ptrV ra.rb].toArray 64):=⟨_,rfl⟩
 have k1:Kp noT o h o h1:=by rw [hh1]; exact ((Kp.refl d _).push _).push _
 have x4:BoxAt o h1 h.size (.cells [ptrV nb].toArray 56):=⟨d _ (Nat.le_refl _),by rw [hh1]; exact gl2 _ _ _⟩
 have x5:BoxAt o h1 (h.size+1) (.cells [ptrV ra.rb].toArray 64):=⟨d _ (by omega),by rw [hh1]; exact gr2 _ _ _⟩
 have e0:=hh1.symm
 unfold ptrV at e0 ⊢
 have N1:=N.still k1
 have W1:=W.still k1
 have R1:RgnAt o i h1 ra r:=N1.pt.reign
 obtain ⟨q0,q2,q3,q4,q5⟩:=R1.rr
 have P1:=node_rd N1.blk.2 N1.pt.store.len
 have l4:=lt_of_get x4.2
 have l5:=lt_of_get x5.2
 have lrb:=lt_of_get R1.blk.2
 have hnb1:=lt_of_get N1.blk.2
 have r4:hc h1 ⟨h.size,0,none⟩=some (ptrV nb):=hc_last x4.2
 have r5:hc h1 ⟨h.size+1,0,none⟩=some (ptrV ra.rb):=hc_last x5.2
 unfold ptrV at r4 r5
 have P1p:rd h1 ⟨nb,4,none⟩ 2=some (balC n.own.p):=P1.ownp
 simp -implicitDefEqProofs (maxSteps:=2000000) only [go_sem,↓reduceIte,e0]
 refine VS.mono (N:=fun F' g'=>Bel h1.size h1 g'∧F' 0=.pointer (some ⟨wb,0,none⟩)∧F' 4=.pointer (some ⟨h.size,0,none⟩)∧F' 5=.pointer (some ⟨h.size+1,0,none⟩)∧F' 35=.bool (decide (below n.own.p r.b))) ?_ ?_ (fun _ _ _ h=>h) (fun _ _ h=>h)
 ·refine VS.z (h1.size) [9] (.q 0 (.p 1 (.p 2 (.q 3 (.q 4 (.p 5 (.p 6 (.p 7 (.q 8 (.w 9 .nil)))))))))) mixed (by kernel_rfl) ?_
  simp -implicitDefEqProofs (maxSteps:=2000000) only [go_sem,↓reduceIte,r4,r5,q0,P1p,l4,l5,lrb,hnb1]
  refine (later_ok T h1 r.b n.own.p).use ?_
  rintro _ g ⟨rfl,b⟩
  simp -implicitDefEqProofs (maxSteps:=2000000) only [go_sem,↓reduceIte,b]
 rintro F1 g1 ⟨b1,f0,f4,f5,f35⟩
 have kb:=kp_still k1.dom b1
 replace N1:=N1.still kb
 replace W1:=W1.still kb
 replace k1:=k1.trans kb
 replace x4:=x4.keep kb
 replace x5:=x5.keep kb
 have tb1:=tb.keep k1
 clear R1 q0 q2 q3 q4 q5 P1 P1p l4 l5 lrb hnb1 r4 r5 e0
 have R1:RgnAt o i g1 ra r:=N1.pt.reign
 obtain ⟨q0,q2,q3,q4,q5⟩:=R1.rr
 have P1:=node_rd N1.blk.2 N1.pt.store.len
 have l4:=lt_of_get x4.2
 have l5:=lt_of_get x5.2
 have lrb:=lt_of_get R1.blk.2
 have hnb1:=lt_of_get N1.blk.2
 have r4:hc g1 ⟨h.size,0,none⟩=some (ptrV nb):=hc_last x4.2
 have r5:hc g1 ⟨h.size+1,0,none⟩=some (ptrV ra.rb):=hc_last x5.2
 unfold ptrV at r4 r5
 by_cases c1:below n.own.p r.b
 ·have P1own:=P1.own
  obtain ⟨pv,cv,hpv⟩:=N1.pt.votes.isSlice
  have hpv:a.votes=.slice pv n.own.l.length cv:=hpv
  have P1own:rd g1 ⟨nb,4,none⟩ 3=some [.int .i64 n.own.p.r,.int .i64 n.own.p.n,.slice pv n.own.l.length cv]:=by rw [← hpv]; exact P1own
  have N1v:ImV o g1 (.slice pv n.own.l.length cv) n.own.l:=by rw [← hpv]; exact N1.pt.votes
  unfold balC at q0
  have call:∀ G,Bel g1.size g1 G→CallsH Tryz.prog T 72 #[.agg #[.int .i64 n.own.p.r,.int .i64 n.own.p.n,.slice pv n.own.l.length cv],.agg #[.int .i64 r.b.r,.int .i64 r.b.n]] G fun v' h'=>PrRes G.size h' v' n.own.p n.own.l r.b∧Bel G.size G h':=fun G hG=>
   promise_ok T G n.own.p _ n.own.l r.b (N1v.ts.bel hG) (by omega)
  obtain ⟨E,hE⟩:∃ E,E=prErr n.own.p n.own.l r.b:=⟨_,rfl⟩
  have wA:∀ (G:Hp) (k:Nat) (r m:Int) (p:Option Addr) (L c:Nat),G[k]? = some (.cells [.int .i64 0,.int .i64 0,.slice none 0 0].toArray 63)→wr G ⟨k,0,none⟩ [.int .i64 r,.int .i64 m,.slice p L c]=some (G.setIfInBounds k (.cells [.int .i64 r,.int .i64 m,.slice p L c].toArray 63)):=fun G k r m p L c hx=>by
   rw [wr_get hx 0 _]; rfl
  have wB:∀ (G:Hp) (k:Nat) (p:Option Addr) (L c:Nat),G[k]? = some (.cells [.slice none 0 0].toArray 61)→wr1 G ⟨k,0,none⟩ (.slice p L c)=some (G.setIfInBounds k (.cells [.slice p L c].toArray 61)):=fun G k p L c hx=>by
   rw [wr1_get hx 0 _]; rfl
  simp -implicitDefEqProofs (maxSteps:=2000000) only [go_sem,↓reduceIte,f35,c1]
  refine VS.mono (N:=fun F' g'=>Bel g1.size g1 g'∧F' 4=.pointer (some ⟨h.size,0,none⟩)∧F' 5=.pointer (some ⟨h.size+1,0,none⟩)∧PrEnd g1.size g' (F' 6) (F' 7) n.own.p n.own.l r.b) ?_ ?_ (fun _ _ _ h=>h) (fun _ _ h=>h)
  ·refine VS.z (g1.size) [8,15,16] (.q 0 (.p 1 (.p 2 (.q 3 (.q 4 (.p 5 (.p 6 (.q 7 (.or 8 (.p 9 (.p 10 (.p 11 (.p 12 (.or 13 (.s 14 (.w 15 (.w 16 (.p 17 .nil)))) (.s 14 (.s 13 (.w 15 (.w 16 (.p 17 .nil)))))))))) (.or 13 (.or 8 (.p 9 (.p 10 (.p 11 (.p 12 (.s 14 (.w 15 (.w 16 (.p 17 .nil)))))))) (.s 14 (.w 8 (.p 9 (.p 10 (.p 11 (.p 12 (.w 15 (.w 16 (.p 17 .nil)))))))))) (.s 14 (.or 8 (.p 9 (.p 10 (.p 11 (.p 12 (.s 13 (.w 15 (.w 16 (.p 17 .nil)))))))) (.s 13 (.w 8 (.p 9 (.p 10 (.p 11 (.p 12 (.w 15 (.w 16 (.p 17 .nil))))))))))))))))))))) mixed (by kernel_rfl) ?_
   simp -implicitDefEqProofs (maxSteps:=2000000) only [go_sem,↓reduceIte,f4,f5,r4,r5,P1own,q0,hnb1,lrb,l4,l5]
   unfold PrEnd ptrV accC
   repeat' (first | with_reducible exact Bel.refl _ _ | with_reducible exact Bel.push (by omega) _ | with_reducible refine And.intro ?_ ?_)
   all_goals first
    | (refine (call g1 (Bel.refl _ _)).use ?_
       rintro _ g5 ⟨⟨w1,w2,rfl,o1,o2⟩,b5⟩
       obtain ⟨p1,c1,rfl,_⟩:=o1.open
       obtain ⟨p2,c2,rfl,_⟩:=o2.open
       rw [← hE] at *
       have s5:=b5.size
       unfold accC
       simp -implicitDefEqProofs (maxSteps:=2000000) only [go_sem,↓reduceIte,b5]
       refine ⟨⟨f4,f5,_,_,_,_,rfl,rfl,s5,by omega,gl2 _ _ _,gr2 _ _ _,(o1.push _).push _,(o2.push _).push _⟩,⟨f4,f5,_,_,_,_,rfl,rfl,by omega,s5,gr2 _ _ _,gl2 _ _ _,(o1.push _).push _,(o2.push _).push _⟩⟩)
    | (refine (call (g1.push (.cells _ 63)) (Bel.push (Nat.le_refl _) _)).use ?_
       rintro _ g5 ⟨⟨w1,w2,rfl,o1,o2⟩,b5⟩
       obtain ⟨p1,c1,rfl,_⟩:=o1.open
       obtain ⟨p2,c2,rfl,_⟩:=o2.open
       rw [← hE] at *
       have s5:=b5.size
       rw [Array.size_push] at s5
       have B5:Bel g1.size g1 g5:=(Bel.push (Nat.le_refl _) _).trans (b5.mono (by simp))
       have xA:=b5.get (k:=g1.size) (by simp) get_push_last
       have wA5:=wA _ _ (if E=0 then r.b else ⟨0,0⟩).r (if E=0 then r.b else ⟨0,0⟩).n p1 (if E=0 then n.own.l else []).length c1 xA
       have zA:=lt_of_get xA
       unfold accC
       simp -implicitDefEqProofs (maxSteps:=2000000) only [go_sem,↓reduceIte,B5,wA5,zA]
       exact ⟨f4,f5,_,_,_,_,rfl,rfl,Nat.le_refl _,by omega,by rw [get_push_ne (by simpa using zA)]; exact get_set xA,gs2 _ _ _ _,((o1.setLow (by simp) _).push _).mono (by simp),((o2.setLow (by simp) _).push _).mono (by simp)⟩)
    | (refine (call (g1.push (.cells _ 61)) (Bel.push (Nat.le_refl _) _)).use ?_
       rintro _ g5 ⟨⟨w1,w2,rfl,o1,o2⟩,b5⟩
       obtain ⟨p1,c1,rfl,_⟩:=o1.open
       obtain ⟨p2,c2,rfl,_⟩:=o2.open
       rw [← hE] at *
       have s5:=b5.size
       rw [Array.size_push] at s5
       have B5:Bel g1.size g1 g5:=(Bel.push (Nat.le_refl _) _).trans (b5.mono (by simp))
       have xB:=b5.get (k:=g1.size) (by simp) get_push_last
       have wB5:=wB _ _ p2 (if E=0 then n.own.l else []).length c2 xB
       have zB:=lt_of_get xB
       unfold accC
       simp -implicitDefEqProofs (maxSteps:=2000000) only [go_sem,↓reduceIte,B5,wB5,zB]
       exact ⟨f4,f5,_,_,_,_,rfl,rfl,by omega,Nat.le_refl _,gs2 _ _ _ _,by rw [get_push_ne (by simpa using zB)]; exact get_set xB,((o1.setLow (by simp) _).push _).mono (by simp),((o2.setLow (by simp) _).push _).mono (by simp)⟩)
    | (refine (call ((g1.push (.cells _ 63)).push (.cells _ 61)) ((Bel.push (Nat.le_refl _) _).addP (by simp) _)).use ?_
       rintro _ g5 ⟨⟨w1,w2,rfl,o1,o2⟩,b5⟩
       obtain ⟨p1,c1,rfl,_⟩:=o1.open
       obtain ⟨p2,c2,rfl,_⟩:=o2.open
       rw [← hE] at *
       have s5:=b5.size
       rw [Array.size_push,Array.size_push] at s5
       have B5:Bel g1.size g1 g5:=((Bel.push (Nat.le_refl _) _).addP (by simp) _).trans (b5.mono (by simp; omega))
       have xA:=b5.get (k:=g1.size) (by simp; omega) (gl2 _ _ _)
       have xB:=b5.get (k:=g1.size+1) (by simp) (gr2 _ _ _)
       have wA5:=wA _ _ (if E=0 then r.b else ⟨0,0⟩).r (if E=0 then r.b else ⟨0,0⟩).n p1 (if E=0 then n.own.l else []).length c1 xA
       have zA:=lt_of_get xA
       have xB':=fun o:Obj=>(get_set_ne (o:=o) (show g1.size≠g1.size+1 by omega)).trans xB
       have wB5:=fun o:Obj=>wB _ _ p2 (if E=0 then n.own.l else []).length c2 (xB' o)
       have zB:g1.size+1<g5.size:=lt_of_get xB
       unfold accC
       simp -implicitDefEqProofs (maxSteps:=2000000) only [go_sem,↓reduceIte,B5,wA5,zA,wB5,zB]
       exact ⟨f4,f5,_,_,_,_,rfl,rfl,by omega,by omega,(get_set_ne (by omega)).trans (get_set xA),get_set (xB' _),((o1.setLow (by simp; omega) _).setLow (by simp) _).mono (by simp; omega),((o2.setLow (by simp; omega) _).setLow (by simp) _).mono (by simp; omega)⟩)
    | (refine (call ((g1.push (.cells _ 61)).push (.cells _ 63)) ((Bel.push (Nat.le_refl _) _).addP (by simp) _)).use ?_
       rintro _ g5 ⟨⟨w1,w2,rfl,o1,o2⟩,b5⟩
       obtain ⟨p1,c1,rfl,_⟩:=o1.open
       obtain ⟨p2,c2,rfl,_⟩:=o2.open
       rw [← hE] at *
       have s5:=b5.size
       rw [Array.size_push,Array.size_push] at s5
       have B5:Bel g1.size g1 g5:=((Bel.push (Nat.le_refl _) _).addP (by simp) _).trans (b5.mono (by simp; omega))
       have xB:=b5.get (k:=g1.size) (by simp; omega) (gl2 _ _ _)
       have xA:=b5.get (k:=g1.size+1) (by simp) (gr2 _ _ _)
       have wA5:=wA _ _ (if E=0 then r.b else ⟨0,0⟩).r (if E=0 then r.b else ⟨0,0⟩).n p1 (if E=0 then n.own.l else []).length c1 xA
       have zA:=lt_of_get xA
       have xB':=fun o:Obj=>(get_set_ne (o:=o) (show g1.size+1≠g1.size by omega)).trans xB
       have wB5:=fun o:Obj=>wB _ _ p2 (if E=0 then n.own.l else []).length c2 (xB' o)
       have zB:g1.size<g5.size:=lt_of_get xB
       unfold accC
       simp -implicitDefEqProofs (maxSteps:=2000000) only [go_sem,↓reduceIte,B5,wA5,zA,wB5,zB]
       exact ⟨f4,f5,_,_,_,_,rfl,rfl,by omega,by omega,(get_set_ne (by omega)).trans (get_set xA),get_set (xB' _),((o1.setLow (by simp) _).setLow (by simp; omega) _).mono (by simp; omega),((o2.setLow (by simp) _).setLow (by simp; omega) _).mono (by simp; omega)⟩)
  rintro F2 g2 ⟨b2,f4,f5,ka,kc,w1,w2,fA,fC,ge1,ge2,yA,yC,o1,o2⟩
  rw [← hE] at yA o1 o2
  obtain ⟨A,hA⟩:∃ A:Acp,A=if E=0 then ⟨r.b,n.own.l⟩ else acp0:=⟨_,rfl⟩
  obtain ⟨V,hV⟩:∃ V:List Vt,V=if E=0 then n.own.l else []:=⟨_,rfl⟩
  have hAp:(if E=0 then r.b else ⟨0,0⟩)=A.p:=by rw [hA]; split <;> rfl
  have hAl:(if E=0 then n.own.l else [])=A.l:=by rw [hA]; split <;> rfl
  have hVl:(if E=0 then n.own.l else [])=V:=hV.symm
  rw [hAp] at yA
  rw [hAl] at o1
  rw [hVl] at o2
  have kb2:=kp_still k1.dom b2
  have N2:=N1.still kb2
  have W2:=W1.still kb2
  have K2:=k1.trans kb2
  have z4:=x4.keep kb2
  have z5:=x5.keep kb2
  have tb2:=tb1.keep kb2
  have R2:RgnAt o i g2 ra r:=N2.pt.reign
  obtain ⟨u0,_,_,_,_⟩:=R2.rr
  unfold balC at u0
  have iv7:ImV o g2 w2 V:=Im.of_own o2.own (fun b hb=>k1.dom b hb)
  have iv6:ImV o g2 w1 A.l:=Im.of_own o1.own (fun b hb=>k1.dom b hb)
  have z6:BoxAt o g2 ka _:=⟨k1.dom ka ge1,yA⟩
  have z7:BoxAt o g2 kc _:=⟨k1.dom kc ge2,yC⟩
  have P2:=node_rd N2.blk.2 N2.pt.store.len
  have m4:=lt_of_get z4.2
  have m5:=lt_of_get z5.2
  have mr:=lt_of_get R2.blk.2
  have hnb2:=lt_of_get N2.blk.2
  have s4:hc g2 ⟨h.size,0,none⟩=some (ptrV nb):=hc_last z4.2
  have s5:hc g2 ⟨h.size+1,0,none⟩=some (ptrV ra.rb):=hc_last z5.2
  unfold ptrV at s4 s5 fA fC
  have R3t:=P2.tape
  obtain ⟨pd,cd,hpd⟩:=N2.pt.data.1.isSlice
  have hpd:a.data=.slice pd n.data.length cd:=hpd
  have R3t:rd g2 ⟨nb,2,none⟩ 2=some [.slice pd n.data.length cd,.int .i64 n.syn]:=by rw [← hpd]; exact R3t
  have N2d:ImB o g2 (.slice pd n.data.length cd) n.data:=by rw [← hpd]; exact N2.pt.data
  obtain ⟨E2,hE2⟩:∃ E2,E2=proErr n.data n.syn r.b:=⟨_,rfl⟩
  have call2:∀ G,Bel g2.size g2 G→CallsH Tryz.prog T 89 #[.agg #[.slice pd n.data.length cd,.int .i64 n.syn],.agg #[.int .i64 r.b.r,.int .i64 r.b.n]] G fun v' h'=>WrtRes G.size h' v' n.data n.syn E2 (frmS (proB r.b))∧Bel G.size G h':=fun G hG=>by
   rw [hE2]
   exact sPromise_ok T G _ n.syn n.data r.b (N2d.bs.bel hG) (by omega) (tb2.tk.bels hG)
  have wT:∀ (G:Hp) (k:Nat) (m:Int) (p:Option Addr) (L c:Nat),G[k]? = some (.cells [.slice none 0 0,.int .i64 0].toArray 58)→wr G ⟨k,0,none⟩ [.slice p L c,.int .i64 m]=some (G.setIfInBounds k (.cells [.slice p L c,.int .i64 m].toArray 58)):=fun G k m p L c hx=>by
   rw [wr_get hx 0 _]; rfl
  refine VS.mono (N:=fun F' g'=>Bel g2.size g2 g'∧F' 4=.pointer (some ⟨h.size,0,none⟩)∧F' 5=.pointer (some ⟨h.size+1,0,none⟩)∧F' 6=.pointer (some ⟨ka,0,none⟩)∧F' 7=.pointer (some ⟨kc,0,none⟩)∧F' 10=.int .i64 E2∧WrEnd g2.size g' (F' 9) n.data n.syn E2 (frmS (proB r.b))) ?_ ?_ (fun _ _ _ h=>h) (fun _ _ h=>h)
  ·refine VS.z (g2.size) [8,13] (.q 0 (.p 1 (.p 2 (.q 3 (.q 4 (.p 5 (.p 6 (.q 7 (.or 8 (.p 9 (.p 10 (.p 11 (.s 12 (.w 13 (.p 14 .nil)))))) (.s 12 (.w 8 (.p 9 (.p 10 (.p 11 (.w 13 (.p 14 .nil)))))))))))))))) mixed (by kernel_rfl) ?_
   simp -implicitDefEqProofs (maxSteps:=2000000) only [go_sem,↓reduceIte,f4,f5,fA,fC,s4,s5,R3t,u0,m4,m5,mr,hnb2]
   unfold WrEnd
   repeat' (first | with_reducible exact Bel.refl _ _ | with_reducible exact Bel.push (by omega) _ | with_reducible refine And.intro ?_ ?_)
   all_goals first
    | (refine (call2 g2 (Bel.refl _ _)).use ?_
       rintro _ g5 ⟨⟨w,rfl,o1⟩,b5⟩
       obtain ⟨p1,c1,rfl,_⟩:=o1.bs.open
       have s5:=b5.size
       simp -implicitDefEqProofs (maxSteps:=2000000) only [go_sem,↓reduceIte,b5]
       exact ⟨f4,f5,fA,fC,_,_,rfl,s5,get_push_last,o1.push _⟩)
    | (refine (call2 (g2.push (.cells _ 58)) (Bel.push (Nat.le_refl _) _)).use ?_
       rintro _ g5 ⟨⟨w,rfl,o1⟩,b5⟩
       obtain ⟨p1,c1,rfl,_⟩:=o1.bs.open
       have B5:Bel g2.size g2 g5:=(Bel.push (Nat.le_refl _) _).trans (b5.mono (by simp))
       have xA:=b5.get (k:=g2.size) (by simp) get_push_last
       have wA5:=wT _ _ (if E2=0 then n.syn else 0) p1 (if E2=0 then n.data++frmS (proB r.b) else []).length c1 xA
       have zA:=lt_of_get xA
       simp -implicitDefEqProofs (maxSteps:=2000000) only [go_sem,↓reduceIte,B5,wA5,zA]
       exact ⟨f4,f5,fA,fC,_,_,rfl,Nat.le_refl _,get_set xA,(o1.setLow (by simp) _).mono (by simp)⟩)
  rintro F3 g3 ⟨b3,f4,f5,f6,f7,f10,kt,wt,fT,ge3,yT,oT⟩
  have kb3:=kp_still K2.dom b3
  have N4:=N2.still kb3
  have W4:=W2.still kb3
  have K4:Kp noT o h o g3:=K2.bel b3
  by_cases e2:E2=0
  case neg=>
   have eP:rule { n with reign:=some r } r=⟨{ n with reign:=some r },[],[]⟩:=by unfold rule; rw [if_pos c1,if_pos (by rw [← hE2]; exact e2)]
   rw [eP,List.append_nil]
   simp -implicitDefEqProofs (maxSteps:=2000000) only [go_sem,↓reduceIte,f10,e2]
   exact ⟨o,_,WA0,kp_any K4,N4,W4⟩
  rw [if_pos e2] at yT oT
  have u4:=z4.keep kb3
  have u5:=z5.keep kb3
  have u6:=z6.keep kb3
  have u7:=z7.keep kb3
  have iu6:=iv6.keep kb3
  have iu7:=iv7.keep kb3
  have iT:ImB o g3 wt (n.data++frmS (proB r.b)):=⟨Im.of_own oT.own (fun b hb=>K2.dom b hb),oT.byte⟩
  have eP:rule { n with reign:=some r } r=⟨{ n with reign:=some r,data:=n.data++frmS (proB r.b),pend:=some (.own A V true) },[],[]⟩:=by
   unfold rule
   rw [if_pos c1,if_neg (by rw [← hE2]; simpa using e2),hA,hV,hE]
  rw [eP,List.append_nil]
  obtain ⟨pt,ct,rfl,_⟩:=oT.bs.open
  have v4:hc g3 ⟨h.size,0,none⟩=some (ptrV nb):=hc_last u4.2
  have vT:rd g3 ⟨kt,0,none⟩ 2=some [.slice pt (n.data++frmS (proB r.b)).length ct,.int .i64 n.syn]:=rd_last yT rfl
  have hnb4:=lt_of_get N4.blk.2
  obtain ⟨g4,w4,N5,k5⟩:=NodePt.write (a:={ a with reign:=some ra,data:=.slice pt (n.data++frmS (proB r.b)).length ct }) (n:={ n with reign:=some r,data:=n.data++frmS (proB r.b) }) { N4.pt with data:=iT } K4.dom N4.blk ((node_wr N4.blk.2 N4.pt.store.len).tape (.slice pt (n.data++frmS (proB r.b)).length ct) n.syn rfl)
  have v4':hc g4 ⟨h.size,0,none⟩=some (ptrV nb):=hc_last (u4.keep k5).2
  have hnb5:=lt_of_get N5.blk.2
  have pn:PndAt o g4 wb i nb (some ra) (fnV 97 [ka,h.size,kc,h.size+1]) (some (.own A V true)):=
   ⟨ka,h.size,kc,h.size+1,w2,ra.rb,rfl,⟨_,u6.keep k5,iu6.keep k5⟩,u4.keep k5,u7.keep k5,iu7.keep k5,u5.keep k5,by rw [if_pos rfl]; exact ⟨ra,rfl,rfl⟩⟩
  obtain ⟨g6,w6,N6,k6⟩:=NodePt.write (a:={ a with reign:=some ra,data:=.slice pt (n.data++frmS (proB r.b)).length ct,pend:=fnV 97 [ka,h.size,kc,h.size+1] }) (n:={ n with reign:=some r,data:=n.data++frmS (proB r.b),pend:=some (.own A V true) }) { N5.pt with pend:=pn } k5.dom N5.blk ((node_wr N5.blk.2 N5.pt.store.len).pend (fnV 97 [ka,h.size,kc,h.size+1]) rfl)
  unfold fnV at w6
  simp only [List.map] at w6
  unfold ptrV at v4 v4' w6
  simp -implicitDefEqProofs (maxSteps:=2000000) only [go_sem,↓reduceIte,f10,e2,f4,f5,f6,f7,fT,v4,vT,w4,hnb4,v4',w6,hnb5]
  have K6:Kp (allT i) o h o g6:=((kp_any K4).trans (k5.mono fun t q=>.inr (.inr (.inr (by rw [q]; rfl))))).trans (k6.mono fun t q=>.inr (.inr (.inr (by rw [q]; rfl))))
  exact ⟨o,_,WA0,K6,N6,(W4.keep k5 (by rintro t rfl; simp [Tg.of])).keep k6 (by rintro t rfl; simp [Tg.of])⟩
 by_cases c2:5<2*r.prom.length
 case neg=>
  have eP:rule { n with reign:=some r } r=⟨{ n with reign:=some r },prepLs n r,[]⟩:=by unfold rule; rw [if_neg c1,if_pos c2]; rfl
  rw [eP]
  have lm:=fun (K:Value→Hp→Prop) (cs:Array Bool) (ty:TypeId)=>vBi_lenMap (T:=T) (K:=K) (ty:=ty) (cs:=cs) tmiVs R1.prom.2
  rw [R1.proms.length] at lm
  simp -implicitDefEqProofs (maxSteps:=2000000) only [go_sem,↓reduceIte,f0,f4,f5,f35,c1,r4,r5,q2,lm]
  refine (most_ok T g1 r.prom.length hpl).use ?_
  rintro _ _ ⟨rfl,rfl⟩
  simp -implicitDefEqProofs (maxSteps:=2000000) only [go_sem,↓reduceIte,c2,f0,f4,f5]
  obtain ⟨pf,hpf⟩:∃ pf:Nat→List Ltr,pf=fun (m:Nat)=>if lkp r.prom (m:Int)=none then [⟨0,n.me,m,r.b,vt0,[]⟩] else []:=⟨_,rfl⟩
  have hpl5:prepLs n r=(List.range 5).flatMap pf:=by rw [hpf]; rfl
  have hpfl:∀ m,(pf m).length≤1:=fun m=>by rw [hpf]; simp only; split <;> simp
  rw [hpl5]
  clear r4 r5 q0 q2 q3 q4 q5 l4 l5 lrb hnb1 P1 R1 lm hpl5
  refine VS.loop' (fun F g=>F 0=.pointer (some ⟨wb,0,none⟩)∧F 4=.pointer (some ⟨h.size,0,none⟩)∧F 5=.pointer (some ⟨h.size+1,0,none⟩)∧∃ (m:Nat) (o':Ow) (WA':WA),m≤5∧F 78=.int .i64 m∧Kp sentT o h o' g∧NodeAt o' g wb i nb { a with reign:=some ra } { n with reign:=some r }∧WorldAt o' g wb nbs WA' (fl++(List.range m).flatMap pf) bad told∧BoxAt o' g h.size (.cells [ptrV nb].toArray 56)∧BoxAt o' g (h.size+1) (.cells [ptrV ra.rb].toArray 64))
   (fun F _=>5 - (vi (F 78)).toNat) rfl ⟨f0,f4,f5,0,o,WA0,by omega,rfl,kp_any k1,N1,by simpa using W1,x4,x5⟩ ?_
  rintro F2 g2 ⟨f0,f4,f5,m,o2,WA2,hm,f78,K2,N2,W2,x4,x5⟩
  by_cases hlt:m<5
  ·have hlt':(m:Int)<5:=by omega
   have R2:RgnAt o2 i g2 ra r:=N2.pt.reign
   obtain ⟨q0,q2,q3,q4,q5⟩:=R2.rr
   have P2:=node_rd N2.blk.2 N2.pt.store.len
   have l4:=lt_of_get x4.2
   have l5:=lt_of_get x5.2
   have lrb:=lt_of_get R2.blk.2
   have hnb2:=lt_of_get N2.blk.2
   have r4:hc g2 ⟨h.size,0,none⟩=some (ptrV nb):=hc_last x4.2
   have r5:hc g2 ⟨h.size+1,0,none⟩=some (ptrV ra.rb):=hc_last x5.2
   unfold ptrV at r4 r5
   unfold balC at q0
   have lk:=fun (K:Value→Hp→Prop)=>vLook_int (K:=K) (n:=(m:Int)) (c:=true) tmiVs tzvVs R2.prom.2
   have hpm:pf m=if lkp r.prom (m:Int)=none then [⟨0,n.me,m,r.b,vt0,[]⟩] else []:=by rw [hpf]
   rcases R2.proms.lkp (m:Int) with ⟨z1,z2⟩ | ⟨w,vs,z1,z2,iv⟩
   ·rw [if_pos z2] at hpm
    simp only [z1,Option.getD_none,Option.isSome_none,↓reduceIte] at lk
    simp -implicitDefEqProofs (maxSteps:=2000000) only [go_sem,↓reduceIte,f0,f4,f5,f78,hlt',r5,q2,lk]
    refine VS.z (g2.size) [8] (.p 0 (.q 1 (.p 2 (.q 3 (.p 4 (.p 5 (.q 6 (.p 7 (.w 8 .nil))))))))) mixed (by kernel_rfl) ?_
    simp -implicitDefEqProofs (maxSteps:=2000000) only [go_sem,↓reduceIte,f0,f4,f5,f78,r4,r5,q0,l4,l5,lrb]
    have rl:(fl++(List.range m).flatMap pf).length≤1000000000000:=by
     have:=flat_len pf 1 m hpfl
     rw [List.length_append]; omega
    refine (send_ok T g2 o2 wb nb nbs n.me WA2 _ bad told (m:Int) ⟨0,0,0,r.b,vt0,[]⟩ (.slice none 0 0) K2.dom W2 P2.me hnb2 (Im.nil _ _ _ _) rl).use ?_
    rintro v' g3 ⟨o3,WA3,k3,_,W3⟩
    simp -implicitDefEqProofs (maxSteps:=2000000) only [go_sem,↓reduceIte,f78]
    unfold nLoop
    refine ⟨⟨f0,f4,f5,m+1,o3,WA3,hlt,rfl,K2.trans k3,N2.keep k3 (by rintro t (rfl | rfl) <;> simp [Tg.of]),by rw [range_flat,hpm,← List.append_assoc]; exact W3,x4.keep k3,x5.keep k3⟩,?_⟩
    simp only [vi,updo_some,↓reduceIte,f78]; omega
   ·rw [if_neg (by rw [z2]; simp)] at hpm
    obtain ⟨pw,cw,rfl⟩:=iv.isSlice
    simp only [z1,Option.getD_some,Option.isSome_some,↓reduceIte] at lk
    simp -implicitDefEqProofs (maxSteps:=2000000) only [go_sem,↓reduceIte,f0,f4,f5,f78,hlt',r5,q2,lk]
    unfold nLoop
    refine ⟨⟨f0,f4,f5,m+1,o2,WA2,hlt,rfl,K2,N2,by rw [range_flat,hpm,List.append_nil]; exact W2,x4,x5⟩,?_⟩
    simp only [vi,updo_some,↓reduceIte,f78]; omega
  ·have hge:¬ (m:Int)<5:=by omega
   obtain rfl:m=5:=by omega
   simp -implicitDefEqProofs (maxSteps:=2000000) only [go_sem,↓reduceIte,f78,hge]
   exact ⟨o2,_,WA2,K2.mono (fun t q=>by rcases q with rfl | rfl <;> simp [allT]),N2,W2⟩
 have lm:=fun (K:Value→Hp→Prop) (cs:Array Bool) (ty:TypeId)=>vBi_lenMap (T:=T) (K:=K) (ty:=ty) (cs:=cs) tmiVs R1.prom.2
 rw [R1.proms.length] at lm
 obtain ⟨r1,hr1⟩:∃ r1,r1=if r.begun=true then r else beginR n r:=⟨_,rfl⟩
 have eP:rule { n with reign:=some r } r=⟨{ n with reign:=some (propAll n r1 n.queue) },accLs n (propAll n r1 n.queue),[]⟩:=by
  unfold rule
  rw [if_neg c1,if_neg (by simpa using c2)]
  have e1:ruleR { n with reign:=some r } r=propAll n r1 n.queue:=by
   unfold ruleR
   rw [hr1,beginR_eq (n:={ n with reign:=some r }) (n':=n) rfl rfl,propAll_eq (n:={ n with reign:=some r }) (n':=n) rfl rfl]
  rw [e1,accLs_eq (n:={ n with reign:=some r }) (n':=n) rfl rfl]
 rw [eP]
 simp -implicitDefEqProofs (maxSteps:=2000000) only [go_sem,↓reduceIte,f0,f4,f5,f35,c1,r4,r5,q2,lm]
 refine (most_ok T g1 r.prom.length hpl).use ?_
 rintro _ g' ⟨rfl,hg'⟩
 rw [hg']
 cases cb:r.begun
 all_goals
 first
 | (rw [cb,if_neg (by simp)] at hr1
    rw [cb] at q3
    simp -implicitDefEqProofs (maxSteps:=2000000) only [go_sem,↓reduceIte,c2,f0,f4,f5,r4,r5,q3]
    refine (begin_ok T g1 o wb i nb a n ra r k1.dom N1 hp hs hl).use ?_
    rintro v' g2 ⟨ra1,hrb,kx,N3⟩
    rw [← hr1] at N3
    have kx':Kp (allT i) o g1 o g2:=kx.mono fun t q=>.inr (.inr (.inr (rgn_of q)))
    have W3:=W1.keep kx (by intro t q; rw [rgn_of q]; simp)
    have y4:=x4.keep kx
    have y5:=x5.keep kx
    have K3:Kp (allT i) o h o g2:=(kp_any k1).trans kx')
 | (rw [cb,if_pos rfl] at hr1
    rw [cb] at q3
    simp -implicitDefEqProofs (maxSteps:=2000000) only [go_sem,↓reduceIte,c2,f0,f4,f5,r4,r5,q3]
    obtain ⟨g2,hg2⟩:∃ g2,g2=g1:=⟨_,rfl⟩
    obtain ⟨ra1,hra1⟩:∃ ra1,ra1=ra:=⟨_,rfl⟩
    have hrb:ra1.rb=ra.rb:=by rw [hra1]
    have N3:NodeAt o g2 wb i nb { a with reign:=some ra1 } { n with reign:=some r1 }:=by rw [hra1,hr1,hg2]; exact N1
    have W3:WorldAt o g2 wb nbs WA0 fl bad told:=by rw [hg2]; exact W1
    have y4:BoxAt o g2 h.size (.cells [ptrV nb].toArray 56):=by rw [hg2]; exact x4
    have y5:BoxAt o g2 (h.size+1) (.cells [ptrV ra.rb].toArray 64):=by rw [hg2]; exact x5
    have K3:Kp (allT i) o h o g2:=by rw [hg2]; exact kp_any k1
    rw [← hg2])
 all_goals
  clear r4 r5 q0 q2 q3 q4 q5 l4 l5 lrb hnb1 P1 R1 lm
  have P3:=node_rd N3.blk.2 N3.pt.store.len
  obtain ⟨pq,cq,hpq,_⟩:=OwnT.isSlice N3.pt.queue
  have hpq:a.queue=.slice pq n.queue.length cq:=hpq
  have P3q:hc g2 ⟨nb,52,none⟩=some (.slice pq n.queue.length cq):=by rw [← hpq]; exact P3.queue
  have r4:hc g2 ⟨h.size,0,none⟩=some (ptrV nb):=hc_last y4.2
  have r5:hc g2 ⟨h.size+1,0,none⟩=some (ptrV ra.rb):=hc_last y5.2
  unfold ptrV at r4 r5
  simp -implicitDefEqProofs (maxSteps:=2000000) only [go_sem,↓reduceIte,f0,f4,f5,r4,r5,P3q]
  clear r4 r5 P3q P3
  refine VS.loop' (fun F g=>F 0=.pointer (some ⟨wb,0,none⟩)∧F 4=.pointer (some ⟨h.size,0,none⟩)∧F 5=.pointer (some ⟨h.size+1,0,none⟩)∧F 113=.slice pq n.queue.length cq∧F 114=.int .i64 n.queue.length∧∃ (j:Nat) (ra':RA),j≤n.queue.length∧F 115=.int .i64 j∧Kp (allT i) o h o g∧ra'.rb=ra.rb∧NodeAt o g wb i nb { a with reign:=some ra' } { n with reign:=some (propAll n r1 (n.queue.take j)) }∧WorldAt o g wb nbs WA0 fl bad told∧BoxAt o g h.size (.cells [ptrV nb].toArray 56)∧BoxAt o g (h.size+1) (.cells [ptrV ra.rb].toArray 64))
   (fun F _=>n.queue.length - (vi (F 115)).toNat) rfl ⟨f0,f4,f5,rfl,rfl,0,ra1,by omega,rfl,K3,hrb,N3,W3,y4,y5⟩ ?_
  clear f0 f4 f5 y4 y5 K3 N3 W3 hrb
  rintro F3 g3 ⟨f0,f4,f5,f113,f114,j,ra',hj,f115,K3,hrb,N3,W3,y4,y5⟩
  obtain ⟨rj,hrj⟩:∃ rj,rj=propAll n r1 (n.queue.take j):=⟨_,rfl⟩
  rw [← hrj] at N3
  have r4:hc g3 ⟨h.size,0,none⟩=some (ptrV nb):=hc_last y4.2
  have r5:hc g3 ⟨h.size+1,0,none⟩=some (ptrV ra.rb):=hc_last y5.2
  unfold ptrV at r4 r5
  have l4:=lt_of_get y4.2
  have l5:=lt_of_get y5.2
  by_cases hlt:j<n.queue.length
  ·have hlt':(j:Int)<n.queue.length:=by omega
   obtain ⟨pz,cz,hz1,hz2⟩:=cms_open N3.pt.queue.ts
   obtain ⟨bb,oo,hz3,hbb,hrd⟩:=hz2 (by intro e; have:n.queue=[]:=e; rw [this] at hlt; simp at hlt)
   have hz1:a.queue=.slice pz n.queue.length cz:=hz1
   rw [hpq] at hz1
   simp only [Value.slice.injEq] at hz1
   obtain ⟨rfl,_,rfl⟩:=hz1
   subst hz3
   have re:rd g3 ⟨bb,oo+j*5,none⟩ 5=some (n.queue[j]).C:=hrd j hlt
   obtain ⟨x,hx⟩:∃ x,x=n.queue[j]:=⟨_,rfl⟩
   rw [← hx] at re
   have hnext:propAll n r1 (n.queue.take (j+1))=prop1 n rj x:=by
    rw [take_snoc _ j hlt,← hx,hrj]
    unfold propAll
    rw [List.foldl_append]; rfl
   obtain ⟨g4,hg4⟩:∃ g4:Hp,g4=g3.push (.cells x.C.toArray 77):=⟨_,rfl⟩
   have k4:Kp noT o g3 o g4:=by rw [hg4]; exact kp_push K3.dom _
   have x4':BoxAt o g4 g3.size (.cells x.C.toArray 77):=⟨K3.dom _ (Nat.le_refl _),by rw [hg4]; exact get_push_last⟩
   have e4:=hg4.symm
   have N4:=N3.still k4
   have R4:RgnAt o i g4 ra' rj:=N4.pt.reign
   have z4:=y4.keep k4
   have z5:=y5.keep k4
   have s4:hc g4 ⟨h.size,0,none⟩=some (ptrV nb):=hc_last z4.2
   have s5:hc g4 ⟨h.size+1,0,none⟩=some (ptrV ra'.rb):=by rw [hrb]; exact hc_last z5.2
   have sx:rd g4 ⟨g3.size,0,none⟩ 5=some x.C:=rd_last x4'.2 rfl
   have cf:=free_ok T g4 o wb i nb { a with reign:=some ra' } { n with reign:=some rj } ra' rj x k4.dom N4 R4 hl
   rw [show freeI { n with reign:=some rj } rj x=freeI n rj x from by unfold freeI; rw [free_eq (n:={ n with reign:=some rj }) (n':=n) rfl rfl],free_eq (n:={ n with reign:=some rj }) (n':=n) rfl rfl] at cf
   unfold cmA ptrV at cf
   unfold ptrV at s4 s5
   simp -implicitDefEqProofs (maxSteps:=2000000) only [go_sem,↓reduceIte,f0,f4,f5,f113,f114,f115,hlt',re,e4,s4,s5,sx]
   refine cf.use ?_
   rintro _ g5 ⟨rfl,b5⟩
   have k5:=kp_still k4.dom b5
   have K5:Kp (allT i) o h o g5:=(K3.trans (kp_any k4)).trans (kp_any k5)
   have N5:=N4.still k5
   have R5:RgnAt o i g5 ra' rj:=N5.pt.reign
   have W5:=(W3.still k4).still k5
   have u4:=z4.keep k5
   have u5:=z5.keep k5
   have ux:=x4'.keep k5
   cases hf:free n rj x with
   | none=>
    have e1:prop1 n rj x=rj:=by unfold prop1; rw [hf]
    simp -implicitDefEqProofs (maxSteps:=2000000) only [go_sem,↓reduceIte,Option.isSome_none,f115]
    unfold nLoop
    refine ⟨⟨f0,f4,f5,f113,f114,j+1,ra',hlt,rfl,K5,hrb,by rw [hnext,e1]; exact N5,W5,u4,u5⟩,?_⟩
    simp only [vi,updo_some,↓reduceIte,f115]; omega
   | some sl=>
    have e1:prop1 n rj x = { rj with prop:=ins rj.prop (sl:Int) x }:=by unfold prop1; rw [hf]
    have e2:freeI n rj x=sl:=by unfold freeI; rw [hf]
    rw [e2]
    simp -implicitDefEqProofs (maxSteps:=2000000) only [go_sem,↓reduceIte,Option.isSome_some]
    have t5:hc g5 ⟨h.size+1,0,none⟩=some (ptrV ra'.rb):=by rw [hrb]; exact hc_last u5.2
    unfold ptrV at t5
    have tx:rd g5 ⟨g3.size,0,none⟩ 5=some x.C:=rd_last ux.2 rfl
    obtain ⟨_,_,_,t4,_⟩:=R5.rr
    have m5:=lt_of_get u5.2
    have mr:=lt_of_get R5.blk.2
    have mx:=lt_of_get ux.2
    refine VS.z (g5.size) [6] (.q 0 (.p 1 (.p 2 (.q 3 (.p 4 (.q 5 (.w 6 .nil))))))) mixed (by kernel_rfl) ?_
    simp -implicitDefEqProofs (maxSteps:=2000000) only [go_sem,↓reduceIte,f5,t5,t4,tx,m5,mr,mx]
    rw [vMupd_int tmiCm R5.prop.2]
    obtain ⟨k6,R6⟩:=R5.putProp K5.dom (k:=(sl:Int)) (x:=x)
    have k6':Kp (rgnTags i) o g5 o _:=k6.mono fun t q=>.inr (.inr (.inl q))
    have k6a:Kp (allT i) o g5 o _:=k6.mono fun t q=>.inr (.inr (.inr (by rw [q]; rfl)))
    simp -implicitDefEqProofs (maxSteps:=2000000) only [go_sem,↓reduceIte,f115]
    unfold nLoop
    refine ⟨⟨f0,f4,f5,f113,f114,j+1,ra',hlt,rfl,K5.trans k6a,hrb,?_,W5.keep k6 (by rintro t rfl; simp [Tg.of]),u4.keep k6,u5.keep k6⟩,?_⟩
    ·rw [hnext,e1]
     exact ⟨N5.blk.keep k6 (by intro e; cases e),NodePt.keepReign N5.pt k6' rfl rfl R6⟩
    ·simp only [vi,updo_some,↓reduceIte,f115]; omega
  ·have hge:¬ (j:Int)<n.queue.length:=by omega
   obtain rfl:j=n.queue.length:=by omega
   rw [List.take_length] at hrj
   simp -implicitDefEqProofs (maxSteps:=2000000) only [go_sem,↓reduceIte,f114,f115,hge]
   rw [← hrj]
   obtain ⟨r2,hr2⟩:∃ r2,r2=rj:=⟨_,rfl⟩
   rw [← hr2] at N3 ⊢
   have accl:∀ s x m,(accL n r2 s x m).length≤1:=fun s x m=>by unfold accL; split <;> simp
   have accsl:∀ s,(accS n r2 s).length≤5:=fun s=>by
    unfold accS
    split
    ·split
     ·exact flat_len _ 1 5 (accl s _)
     ·simp
    ·simp
   clear r4 r5 l4 l5
   refine VS.loop' (fun F g=>F 0=.pointer (some ⟨wb,0,none⟩)∧F 4=.pointer (some ⟨h.size,0,none⟩)∧F 5=.pointer (some ⟨h.size+1,0,none⟩)∧∃ (s:Nat) (o':Ow) (WA':WA),s≤40∧F 134=.int .i64 s∧Kp (allT i) o h o' g∧NodeAt o' g wb i nb { a with reign:=some ra' } { n with reign:=some r2 }∧WorldAt o' g wb nbs WA' (fl++(List.range s).flatMap (accS n r2)) bad told∧BoxAt o' g h.size (.cells [ptrV nb].toArray 56)∧BoxAt o' g (h.size+1) (.cells [ptrV ra.rb].toArray 64))
    (fun F _=>40 - (vi (F 134)).toNat) rfl ⟨f0,f4,f5,0,o,WA0,by omega,rfl,K3,N3,by simpa using W3,y4,y5⟩ ?_
   clear f0 f4 f5 y4 y5 K3 N3 W3
   rintro F4 g4 ⟨f0,f4,f5,s,o4,WA4,hs4,f134,K4,N4,W4,y4,y5⟩
   by_cases hlt4:s<40
   case neg=>
    have hge4:¬ (s:Int)<40:=by omega
    obtain rfl:s=40:=by omega
    simp -implicitDefEqProofs (maxSteps:=2000000) only [go_sem,↓reduceIte,f134,hge4]
    exact ⟨o4,_,WA4,K4,N4,W4⟩
   have hlt4':(s:Int)<40:=by omega
   have R4:RgnAt o4 i g4 ra' r2:=N4.pt.reign
   obtain ⟨_,_,_,t4,t5⟩:=R4.rr
   have P4:=node_rd N4.blk.2 N4.pt.store.len
   have r4:hc g4 ⟨h.size,0,none⟩=some (ptrV nb):=hc_last y4.2
   have r5:hc g4 ⟨h.size+1,0,none⟩=some (ptrV ra'.rb):=by rw [hrb]; exact hc_last y5.2
   unfold ptrV at r4 r5
   have l4:=lt_of_get y4.2
   have l5:=lt_of_get y5.2
   have n4:¬ h.size=g4.size:=by omega
   have n5:¬ h.size+1=g4.size:=by omega
   have nnb:¬ nb=g4.size:=by have:=lt_of_get N4.blk.2; omega
   have lk1:=fun (K:Value→Hp→Prop)=>vLook_int (K:=K) (n:=(s:Int)) (c:=true) tmiCm tzvCm R4.prop.2
   rw [mapV_lkp] at lk1
   have lk2:=fun (K:Value→Hp→Prop) (z:Obj)=>vLook_int (h:=g4.push z) (K:=K) (n:=(s:Int)) (c:=true) tmiCm tzvCm ((get_push_ne (lt_of_get N4.pt.known.2)).trans N4.pt.known.2)
   simp only [mapV_lkp,show ({ n with reign:=some r2 }:Nd).known=n.known from rfl] at lk2
   have nb4:∀ x y:Obj,Kp noT o4 g4 o4 ((g4.push x).push y):=fun x y=>(kp_push K4.dom _).push _
   have skip:∀ (x y:Obj),accS n r2 s=[]→NodeAt o4 ((g4.push x).push y) wb i nb { a with reign:=some ra' } { n with reign:=some r2 }∧WorldAt o4 ((g4.push x).push y) wb nbs WA4 (fl++(List.range (s+1)).flatMap (accS n r2)) bad told∧BoxAt o4 ((g4.push x).push y) h.size (.cells [ptrV nb].toArray 56)∧BoxAt o4 ((g4.push x).push y) (h.size+1) (.cells [ptrV ra.rb].toArray 64):=fun x y hz=>
    ⟨N4.still (nb4 x y),by rw [range_flat,hz,List.append_nil]; exact W4.still (nb4 x y),y4.keep (nb4 x y),y5.keep (nb4 x y)⟩
   cases c3:lkp r2.prop (s:Int) with
   | none=>
    have hz:accS n r2 s=[]:=by unfold accS; rw [c3]
    simp only [c3,Option.map_none,Option.getD_none,Option.isSome_none,↓reduceIte] at lk1
    cases c4:lkp n.known (s:Int) with
    | none=>
     simp only [c4,Option.map_none,Option.getD_none,Option.isSome_none,↓reduceIte] at lk2
     simp -implicitDefEqProofs (maxSteps:=2000000) only [go_sem,↓reduceIte,f0,f4,f5,f134,hlt4',r5,t4,r4,n4,n5,nnb,lk1,lk2,P4.known]
     unfold nLoop
     refine ⟨⟨f0,f4,f5,s+1,o4,WA4,hlt4,rfl,K4.trans (kp_any (nb4 _ _)),skip _ _ hz⟩,?_⟩
     simp only [vi,updo_some,↓reduceIte,f134]; omega
    | some y=>
     simp only [c4,Option.map_some,Option.getD_some,Option.isSome_some,↓reduceIte] at lk2
     simp -implicitDefEqProofs (maxSteps:=2000000) only [go_sem,↓reduceIte,f0,f4,f5,f134,hlt4',r5,t4,r4,n4,n5,nnb,lk1,lk2,P4.known,cmA]
     unfold nLoop
     refine ⟨⟨f0,f4,f5,s+1,o4,WA4,hlt4,rfl,K4.trans (kp_any (nb4 _ _)),skip _ _ hz⟩,?_⟩
     simp only [vi,updo_some,↓reduceIte,f134]; omega
   | some x=>
    simp only [c3,Option.map_some,Option.getD_some,Option.isSome_some,↓reduceIte] at lk1
    cases c4:lkp n.known (s:Int) with
    | some y=>
     have hz:accS n r2 s=[]:=by unfold accS; rw [c3]; simp only; rw [if_neg (by rw [c4]; simp)]
     simp only [c4,Option.map_some,Option.getD_some,Option.isSome_some,↓reduceIte] at lk2
     simp -implicitDefEqProofs (maxSteps:=2000000) only [go_sem,↓reduceIte,f0,f4,f5,f134,hlt4',r5,t4,r4,n4,n5,nnb,lk1,lk2,P4.known,cmA]
     unfold nLoop
     refine ⟨⟨f0,f4,f5,s+1,o4,WA4,hlt4,rfl,K4.trans (kp_any (nb4 _ _)),skip _ _ hz⟩,?_⟩
     simp only [vi,updo_some,↓reduceIte,f134]; omega
    | none=>
     have hz:accS n r2 s=(List.range 5).flatMap (accL n r2 s x):=by unfold accS; rw [c3]; simp only; rw [if_pos c4]
     simp only [c4,Option.map_none,Option.getD_none,Option.isSome_none,↓reduceIte] at lk2
     simp -implicitDefEqProofs (maxSteps:=2000000) only [go_sem,↓reduceIte,f0,f4,f5,f134,hlt4',r5,t4,r4,n4,n5,nnb,lk1,lk2,P4.known,cmA]
     obtain ⟨fs,hfs⟩:∃ fs,fs=fl++(List.range s).flatMap (accS n r2):=⟨_,rfl⟩
     have hfsl:fs.length≤900000001000:=by
      have:=flat_len (accS n r2) 5 s accsl
      rw [hfs,List.length_append]; omega
     have hnx:fl++(List.range (s+1)).flatMap (accS n r2)=fs++(List.range 5).flatMap (accL n r2 s x):=by rw [range_flat,hz,← List.append_assoc,← hfs]
     rw [← hfs] at W4
     have kz:=nb4 (.cells x.C.toArray 77) (.cells cm0.C.toArray 77)
     have xb:BoxAt o4 ((g4.push (.cells x.C.toArray 77)).push (.cells cm0.C.toArray 77)) g4.size (.cells x.C.toArray 77):=⟨K4.dom _ (Nat.le_refl _),gl2 _ _ _⟩
     refine VS.loop' (fun F g=>F 0=.pointer (some ⟨wb,0,none⟩)∧F 4=.pointer (some ⟨h.size,0,none⟩)∧F 5=.pointer (some ⟨h.size+1,0,none⟩)∧F 134=.int .i64 s∧F 18=.int .i64 s∧F 19=.pointer (some ⟨g4.size,0,none⟩)∧∃ (m:Nat) (o':Ow) (WA':WA),m≤5∧F 160=.int .i64 m∧Kp (allT i) o h o' g∧NodeAt o' g wb i nb { a with reign:=some ra' } { n with reign:=some r2 }∧WorldAt o' g wb nbs WA' (fs++(List.range m).flatMap (accL n r2 s x)) bad told∧BoxAt o' g h.size (.cells [ptrV nb].toArray 56)∧BoxAt o' g (h.size+1) (.cells [ptrV ra.rb].toArray 64)∧BoxAt o' g g4.size (.cells x.C.toArray 77))
      (fun F _=>5 - (vi (F 160)).toNat) rfl ⟨f0,f4,f5,f134,rfl,rfl,0,o4,WA4,by omega,rfl,K4.trans (kp_any kz),N4.still kz,by simpa using W4.still kz,y4.keep kz,y5.keep kz,xb⟩ ?_
     clear f0 f4 f5 f134 y4 y5 r4 r5 t4 t5 P4 lk1 lk2 skip nb4 kz xb l4 l5 n4 n5 nnb R4
     rintro F5 g5 ⟨f0,f4,f5,f134,f18,f19,m,o5,WA5,hm,f160,K5,N5,W5,y4,y5,xb⟩
     by_cases hlm:m<5
     case neg=>
      have hgm:¬ (m:Int)<5:=by omega
      obtain rfl:m=5:=by omega
      simp -implicitDefEqProofs (maxSteps:=2000000) only [go_sem,↓reduceIte,f160,hgm,f134]
      unfold nLoop
      refine ⟨⟨f0,f4,f5,s+1,o5,WA5,hlt4,rfl,K5,N5,by rw [hnx]; exact W5,y4,y5⟩,?_⟩
      simp only [vi,updo_some,↓reduceIte,f134]; omega
     have hlm':(m:Int)<5:=by omega
     have R5:RgnAt o5 i g5 ra' r2:=N5.pt.reign
     obtain ⟨v0,_,_,_,v5⟩:=R5.rr
     unfold balC at v0
     have r5:hc g5 ⟨h.size+1,0,none⟩=some (ptrV ra'.rb):=by rw [hrb]; exact hc_last y5.2
     unfold ptrV at r5
     have lkv:=fun (K:Value→Hp→Prop)=>vLook_int (K:=K) (n:=(s:Int)) (c:=false) tmiMm tzvMm R5.vts.2
     rw [mapV_lkp] at lkv
     simp only [Bool.false_eq_true,if_false] at lkv
     obtain ⟨g6,hg6⟩:∃ g6:Hp,g6=g5.push (.cells [].toArray 176):=⟨_,rfl⟩
     have e6:=hg6.symm
     have k6:Kp noT o5 g5 o5 g6:=by rw [hg6]; exact kp_push K5.dom _
     have w6:wr g6 ⟨g5.size,0,none⟩ []=some g6:=by
      have hx:g6[g5.size]? = some (.cells [].toArray 176):=by rw [hg6]; exact get_push_last
      rw [wr_get hx 0 [],if_pos ⟨by simp,rfl⟩]
      congr 1
      exact set_back hx
     have N6:=N5.still k6
     have W6:=W5.still k6
     have z4:=y4.keep k6
     have z5:=y5.keep k6
     have zx:=xb.keep k6
     have K6:Kp (allT i) o h o5 g6:=K5.trans (kp_any k6)
     have P6:=node_rd N6.blk.2 N6.pt.store.len
     have R6:RgnAt o5 i g6 ra' r2:=N6.pt.reign
     obtain ⟨u0,_,_,_,_⟩:=R6.rr
     unfold balC at u0
     have s4:hc g6 ⟨h.size,0,none⟩=some (ptrV nb):=hc_last z4.2
     have s5:hc g6 ⟨h.size+1,0,none⟩=some (ptrV ra'.rb):=by rw [hrb]; exact hc_last z5.2
     unfold ptrV at s4 s5
     have sx:rd g6 ⟨g4.size,0,none⟩ 5=some [.int .i64 x.k,.int .i64 x.c,.int .i64 x.s,.int .i64 x.n,.int .i64 x.v]:=rd_last zx.2 rfl
     have m4:=lt_of_get z4.2
     have m5:=lt_of_get z5.2
     have mx:=lt_of_get zx.2
     have mr:=lt_of_get R6.blk.2
     have hnb6:=lt_of_get N6.blk.2
     obtain ⟨S,hS⟩:∃ S,S=(lkp r2.vts (s:Int)).getD []:=⟨_,rfl⟩
     have hacc:accL n r2 s x m=if lkp S (m:Int)=none then [⟨2,n.me,m,bal0,vtOf s r2.b x,[]⟩] else []:=by unfold accL; rw [hS]
     obtain ⟨mv,hmv,lki⟩:∃ mv,(Option.map mpV (lkp ra'.sv (s:Int))).getD (.map none)=mv∧∀ K:Value→Hp→Prop,vLook Tryz.prog 175 mv (.int .i64 (m:Int)) true K g5=K (.tuple #[.agg #[],.bool (lkp S (m:Int)).isSome]) g5:=by
      rcases R5.sets.lkp (s:Int) with ⟨z1,z2⟩ | ⟨sb,S',z1,z2,hsb⟩
      ·refine ⟨.map none,by rw [z1]; rfl,fun K=>?_⟩
       rw [vLook_nilMap tmiUn tzvUn,hS,z2]; rfl
      ·refine ⟨.map (some sb),by rw [z1]; rfl,fun K=>?_⟩
       have:=vLook_int (K:=K) (n:=(m:Int)) (c:=true) tmiUn tzvUn hsb.2
       have hSS:S=S':=by rw [hS,z2]; rfl
       rw [this]
       unfold unC
       rw [mapV_lkp,← hSS]
       cases lkp S (m:Int) <;> rfl
     rw [hmv] at lkv
     cases cS:lkp S (m:Int) with
     | some uu=>
      rw [if_neg (by rw [cS]; simp)] at hacc
      simp only [cS,Option.isSome_some] at lki
      simp -implicitDefEqProofs (maxSteps:=2000000) only [go_sem,↓reduceIte,f0,f4,f5,f18,f19,f160,hlm',r5,v5,lkv,lki,e6,w6]
      unfold nLoop
      refine ⟨⟨f0,f4,f5,f134,f18,f19,m+1,o5,WA5,hlm,rfl,K6,N6,by rw [range_flat,hacc,List.append_nil]; exact W6,z4,z5,zx⟩,?_⟩
      simp only [vi,updo_some,↓reduceIte,f160]; omega
     | none=>
      rw [if_pos cS] at hacc
      simp only [cS,Option.isSome_none] at lki
      simp -implicitDefEqProofs (maxSteps:=2000000) only [go_sem,↓reduceIte,f0,f4,f5,f18,f19,f160,hlm',r5,v5,lkv,lki,e6,w6]
      refine VS.z (g6.size) [11] (.p 0 (.q 1 (.p 2 (.p 3 (.q 4 (.p 5 (.p 6 (.q 7 (.q 8 (.p 9 (.p 10 (.w 11 .nil)))))))))))) mixed (by kernel_rfl) ?_
      simp -implicitDefEqProofs (maxSteps:=2000000) only [go_sem,↓reduceIte,f0,f4,f5,f18,f19,f160,s4,s5,u0,sx,m4,m5,mx,mr]
      have rl:(fs++(List.range m).flatMap (accL n r2 s x)).length≤1000000000000:=by
       have:=flat_len (accL n r2 s x) 1 m (accl s x)
       rw [List.length_append]; omega
      refine (send_ok T g6 o5 wb nb nbs n.me WA5 _ bad told (m:Int) ⟨2,0,0,bal0,vtOf s r2.b x,[]⟩ (.slice none 0 0) K6.dom W6 P6.me hnb6 (Im.nil _ _ _ _) rl).use ?_
      rintro v' g7 ⟨o7,WA7,k7,_,W7⟩
      simp -implicitDefEqProofs (maxSteps:=2000000) only [go_sem,↓reduceIte,f160]
      unfold nLoop
      refine ⟨⟨f0,f4,f5,f134,f18,f19,m+1,o7,WA7,hlm,rfl,K6.trans (k7.mono fun t q=>by rcases q with rfl | rfl <;> simp [allT]),N6.keep k7 (by rintro t (rfl | rfl) <;> simp [Tg.of]),by rw [range_flat,hacc,← List.append_assoc]; exact W7,z4.keep k7,z5.keep k7,zx.keep k7⟩,?_⟩
      simp only [vi,updo_some,↓reduceIte,f160]; omega
theorem PndAt.fn {o:Ow} {h:Hp} {wb i nb:Nat} {ra:Option RA} {v:Value} {p:Option Pnd} (s:PndAt o h wb i nb ra v p):(p=none∧v=.nilFunc)∨(p.isSome=true∧∃ f l,v=.func (.func f) #[] l):=by
 match p,s with
 | none,s=>exact .inl ⟨rfl,s⟩
 | some (.pro _ _ _ _),⟨_,_,_,_,e,_⟩=>exact .inr ⟨rfl,_,_,e⟩
 | some (.vot _ _ _),⟨_,_,_,_,e,_⟩=>exact .inr ⟨rfl,_,_,e⟩
 | some (.own _ _ _),⟨_,_,_,_,_,_,e,_⟩=>exact .inr ⟨rfl,_,_,e⟩
theorem rule_same (n:Nd) (r:Rgn):(rule n r).n.turn=n.turn∧(rule n r).n.log=n.log∧(rule n r).n.me=n.me∧(rule n r).n.heard=n.heard∧(rule n r).n.own=n.own∧(rule n r).ts=[]:=by
 unfold rule
 split
 ·split <;> exact ⟨rfl,rfl,rfl,rfl,rfl,rfl⟩
 ·split <;> exact ⟨rfl,rfl,rfl,rfl,rfl,rfl⟩
theorem prepLs_len (n:Nd) (r:Rgn):(prepLs n r).length≤5:=by
 have:=flat_len (fun (m:Nat)=>if lkp r.prom (m:Int)=none then [(⟨0,n.me,m,r.b,vt0,[]⟩:Ltr)] else []) 1 5 (fun m=>by split <;> simp)
 exact this
theorem accLs_len (n:Nd) (r:Rgn):(accLs n r).length≤200:=by
 have h1:∀ s x m,(accL n r s x m).length≤1:=fun s x m=>by unfold accL; split <;> simp
 have h2:∀ s,(accS n r s).length≤5:=fun s=>by
  unfold accS
  split
  ·split
   ·exact flat_len _ 1 5 (h1 s _)
   ·simp
  ·simp
 exact flat_len _ 5 40 h2
theorem rule_ls (n:Nd) (r:Rgn):(rule n r).ls.length≤200:=by
 unfold rule
 split
 ·split <;> simp
 ·split
  ·have:=prepLs_len n r; simp only; omega
  ·exact accLs_len n _
theorem still_same (n:Nd):(still n).turn=n.turn∧(still n).log=n.log∧(still n).me=n.me∧(still n).heard=n.heard∧(still n).own=n.own∧(still n).queue=n.queue∧(still n).pend=n.pend∧(still n).data=n.data∧(still n).syn=n.syn:=by
 unfold still
 split
 ·split <;> exact ⟨rfl,rfl,rfl,rfl,rfl,rfl,rfl,rfl,rfl⟩
 ·exact ⟨rfl,rfl,rfl,rfl,rfl,rfl,rfl,rfl,rfl⟩
theorem still_reign (n:Nd):(still n).reign=none∨(still n).reign=n.reign:=by
 unfold still
 split
 ·split
  ·exact .inl rfl
  ·exact .inr rfl
 ·exact .inr rfl
theorem duty1_same (n:Nd):(duty1 n).n.turn=n.turn∧(duty1 n).n.log=n.log∧(duty1 n).n.me=n.me∧(duty1 n).n.heard=n.heard∧(duty1 n).n.own=n.own∧(duty1 n).ts=[]:=by
 unfold duty1
 split
 ·exact rule_same _ _
 ·split <;> exact ⟨rfl,rfl,rfl,rfl,rfl,rfl⟩
theorem duty1_ls (n:Nd):(duty1 n).ls.length≤200+n.queue.length:=by
 unfold duty1
 split
 ·next r _=>have:=rule_ls n r; omega
 ·split
  ·simp [fwdLs]
  ·simp
set_option maxHeartbeats 4000000 in
theorem duty_ok (T:World) (h:Hp) (o:Ow) (wb i nb:Nat) (nbs:Nat→Nat) (a:NA) (n:Nd) (WA0:WA) (fl:List Ltr) (bad:Nat→Int) (told:List Tld) (d:Dom o h)
  (N:NodeAt o h wb i nb a n) (W:WorldAt o h wb nbs WA0 fl bad told) (tb:Tbs o h) (hp0:n.pend=none) (hroom:fl.length≤800000000000) (hvl:n.own.l.length≤1000000) (hdl:n.data.length≤1000000)
  (hr:∀ r,n.reign=some r→(∀ x∈r.prom,x.2.length≤1000000)∧(∀ x∈r.prom,∀ v∈x.2,v.slot≤1000000)∧r.prom.length≤1000000000000) (hl:n.log.length≤100000000000) (hq:n.queue.length≤10000000000) (ht:0≤n.turn∧n.turn<5) :
  CallsH Tryz.prog T 42 #[ptrV wb,ptrV nb] h fun v' h'=>∃ o' a' WA',Kp (allT i) o h o' h'∧NodeAt o' h' wb i nb a' (duty n).n∧WorldAt o' h' wb nbs WA' (fl++(duty n).ls) bad told:=by
 refine CallsH.of_body (args:=#[_,_]) Tryz.func42 rfl rfl rfl ?_
 obtain ⟨sturn,slog,sme,sheard,sown,squeue,spend,sdata,ssyn⟩:=still_same n
 refine VS.seq (VS.mono (N:=fun F' g'=>F' 0=.pointer (some ⟨wb,0,none⟩)∧F' 1=.pointer (some ⟨nb,0,none⟩)∧∃ a1,Kp (allT i) o h o g'∧NodeAt o g' wb i nb a1 (still n)∧WorldAt o g' wb nbs WA0 fl bad told) ?_ ?_ (fun _ _ _ h=>h) (fun _ _ h=>h))
 ·refine vc_sound _ _ _ _ _ _ rfl ?_
  unfold ptrV
  have P:=node_rd N.blk.2 N.pt.store.len
  have hnb:=lt_of_get N.blk.2
  have Pr:=P.reign
  have Po:=P.ownp
  cases hra:a.reign with
  | none=>
   rw [hra] at Pr
   have hn:n.reign=none:=by
    have:=N.pt.reign
    rw [hra] at this
    cases hx:n.reign with
    | none=>rfl
    | some r=>rw [hx] at this; exact this.elim
   have es:still n=n:=by unfold still; rw [hn]
   rw [es]
   unfold rgnV at Pr
   simp -implicitDefEqProofs (maxSteps:=2000000) only [go_sem,↓reduceIte,Pr]
   refine VS.mono (N:=fun F' g'=>Bel h.size h g'∧F' 0=.pointer (some ⟨wb,0,none⟩)∧F' 1=.pointer (some ⟨nb,0,none⟩)∧F' 26=.bool false) ?_ ?_ (fun _ _ _ h=>h) (fun _ _ h=>h)
   ·refine VS.z (h.size) [12] (.p 0 (.p 1 (.p 2 (.p 3 (.p 4 (.p 5 (.p 6 (.q 7 (.p 8 (.p 9 (.p 10 (.q 11 (.w 12 (.p 13 .nil)))))))))))))) mixed (by kernel_rfl) ?_
    simp -implicitDefEqProofs (maxSteps:=2000000) only [go_sem,↓reduceIte,Pr,Po,hnb]
    try exact Bel.refl _ _
   rintro F1 g1 ⟨b1,f0,f1,f26⟩
   have kb:=kp_still d b1
   simp -implicitDefEqProofs (maxSteps:=2000000) only [go_sem,↓reduceIte,f26]
   exact ⟨f0,f1,a,kp_any kb,N.still kb,W.still kb⟩
  | some ra=>
   obtain ⟨r,hn⟩:∃ r,n.reign=some r:=by
    have:=N.pt.reign
    rw [hra] at this
    cases hx:n.reign with
    | none=>rw [hx] at this; exact this.elim
    | some r=>exact ⟨r,rfl⟩
   rw [hra] at Pr
   unfold rgnV ptrV at Pr
   have R:RgnAt o i h ra r:=by have:=N.pt.reign; rw [hra,hn] at this; exact this
   obtain ⟨q0,_,_,_,_⟩:=R.rr
   have lrb:=lt_of_get R.blk.2
   simp -implicitDefEqProofs (maxSteps:=2000000) only [go_sem,↓reduceIte,Pr]
   refine VS.mono (N:=fun F' g'=>Bel h.size h g'∧F' 0=.pointer (some ⟨wb,0,none⟩)∧F' 1=.pointer (some ⟨nb,0,none⟩)∧F' 26=.bool (decide (below r.b n.own.p))) ?_ ?_ (fun _ _ _ h=>h) (fun _ _ h=>h)
   ·refine VS.z (h.size) [12] (.p 0 (.p 1 (.p 2 (.p 3 (.p 4 (.p 5 (.p 6 (.q 7 (.p 8 (.p 9 (.p 10 (.q 11 (.w 12 (.p 13 .nil)))))))))))))) mixed (by kernel_rfl) ?_
    simp -implicitDefEqProofs (maxSteps:=2000000) only [go_sem,↓reduceIte,Pr,Po,q0,hnb,lrb]
    refine (later_ok T h n.own.p r.b).use ?_
    rintro _ g ⟨rfl,b⟩
    simp -implicitDefEqProofs (maxSteps:=2000000) only [go_sem,↓reduceIte,b]
   rintro F1 g1 ⟨b1,f0,f1,f26⟩
   have kb:=kp_still d b1
   have N1:=N.still kb
   have W1:=W.still kb
   by_cases c:below r.b n.own.p
   ·have es:still n = { n with reign:=none }:=by unfold still; rw [hn]; simp only; rw [if_pos c]
    rw [es]
    have hpn:a.pend=.nilFunc:=by
     have:=N.pt.pend
     rw [hp0] at this
     exact this
    have pn:PndAt o g1 wb i nb none a.pend n.pend:=by rw [hp0]; exact hpn
    obtain ⟨g2,w2,N2,k2⟩:=NodePt.write (a:={ a with reign:=none }) (n:={ n with reign:=none }) { N1.pt with reign:=trivial,pend:=pn } kb.dom N1.blk ((node_wr N1.blk.2 N1.pt.store.len).reign none)
    have hnb1:=lt_of_get N1.blk.2
    unfold rgnV at w2
    simp -implicitDefEqProofs (maxSteps:=2000000) only [go_sem,↓reduceIte,f0,f1,f26,c,w2,hnb1]
    exact ⟨_,(kp_any kb).trans (k2.mono fun t q=>.inr (.inr (.inr (by rw [q]; rfl)))),N2,W1.keep k2 (by rintro t rfl; simp [Tg.of])⟩
   ·have es:still n=n:=by unfold still; rw [hn]; simp only; rw [if_neg c]
    rw [es]
    simp -implicitDefEqProofs (maxSteps:=2000000) only [go_sem,↓reduceIte,f26,c]
    exact ⟨f0,f1,a,kp_any kb,N1,W1⟩
 rintro F1 g1 ⟨f0,f1,a1,K1,N1,W1⟩
 obtain ⟨s,hs⟩:∃ s,s=still n:=⟨_,rfl⟩
 rw [← hs] at N1 sturn slog sme sheard sown squeue spend sdata ssyn
 have srg:s.reign=none∨s.reign=n.reign:=by rw [hs]; exact still_reign n
 obtain ⟨eturn,elog,eme,eheard,eown,ets⟩:=duty1_same s
 have els:=duty1_ls s
 unfold duty
 rw [← hs]
 clear hs
 refine VS.seq (VS.mono (N:=fun F' g'=>F' 0=.pointer (some ⟨wb,0,none⟩)∧F' 1=.pointer (some ⟨nb,0,none⟩)∧∃ kb a1,F' 5=.pointer (some ⟨kb,0,none⟩)∧BoxAt o g' kb (.cells [.int .i64 n.own.p.r,.int .i64 n.own.p.n].toArray 60)∧Kp (allT i) o h o g'∧NodeAt o g' wb i nb a1 s∧WorldAt o g' wb nbs WA0 fl bad told) ?_ ?_ (fun _ _ _ h=>h) (fun _ _ h=>h))
 ·refine vc_sound _ _ _ _ _ _ rfl ?_
  have P1:=node_rd N1.blk.2 N1.pt.store.len
  have P1o:=P1.ownp
  rw [sown] at P1o
  have hnb:=lt_of_get N1.blk.2
  obtain ⟨g2,hg2⟩:∃ g2:Hp,g2=g1.push (.cells [.int .i64 n.own.p.r,.int .i64 n.own.p.n].toArray 60):=⟨_,rfl⟩
  have k2:Kp noT o g1 o g2:=by rw [hg2]; exact kp_push K1.dom _
  have x5:BoxAt o g2 g1.size (.cells [.int .i64 n.own.p.r,.int .i64 n.own.p.n].toArray 60):=⟨K1.dom _ (Nat.le_refl _),by rw [hg2]; exact get_push_last⟩
  have e2:=hg2.symm
  simp -implicitDefEqProofs (maxSteps:=2000000) only [go_sem,↓reduceIte,f0,f1,P1o,hnb,e2]
  exact ⟨_,a1,rfl,x5,K1.trans (kp_any k2),N1.still k2,W1.still k2⟩
 clear f0 f1 K1 N1 W1
 rintro F2 g2 ⟨f0,f1,kb,a2,f5,x5,K2,N2,W2⟩
 have tb2:=tb.keep K2
 refine VS.seq (VS.mono (N:=fun F' g'=>F' 0=.pointer (some ⟨wb,0,none⟩)∧F' 1=.pointer (some ⟨nb,0,none⟩)∧(duty1 s).n.pend=none∧∃ o' a1 WA',Kp (allT i) o h o' g'∧NodeAt o' g' wb i nb a1 (duty1 s).n∧WorldAt o' g' wb nbs WA' (fl++(duty1 s).ls) bad told) ?_ ?_ (fun _ _ _ h=>h) (fun _ _ h=>h))
 ·refine vc_sound _ _ _ _ _ _ rfl ?_
  have P2:=node_rd N2.blk.2 N2.pt.store.len
  have P2r:=P2.reign
  have P2me:=P2.me
  have hnb:=lt_of_get N2.blk.2
  have l5:=lt_of_get x5.2
  cases hra:a2.reign with
  | some ra=>
   obtain ⟨r,hn⟩:∃ r,s.reign=some r:=by
    have:=N2.pt.reign
    rw [hra] at this
    cases hx:s.reign with
    | none=>rw [hx] at this; exact this.elim
    | some r=>exact ⟨r,rfl⟩
   have hnr:n.reign=some r:=by
    rcases srg with e | e
    ·rw [e] at hn; cases hn
    ·rw [← e,hn]
   have e1:duty1 s=rule s r:=by unfold duty1; rw [hn]
   have ea:a2 = { a2 with reign:=some ra }:=by rw [← hra]
   have es:s = { s with reign:=some r }:=by rw [← hn]
   obtain ⟨hr1,hr2,hr3⟩:=hr r hnr
   rw [hra] at P2r
   unfold rgnV ptrV at P2r
   have cr:=rule_ok T g2 o wb i nb nbs a2 s ra r WA0 fl bad told K2.dom (by rw [← ea,← es]; exact N2) W2 tb2 (by omega) (by rw [sown]; exact hvl) (by rw [sdata]; exact hdl) hr1 hr2 hr3 (by rw [slog]; omega) (by rw [squeue]; omega)
   rw [← es,← e1] at cr
   unfold ptrV at cr
   simp -implicitDefEqProofs (maxSteps:=2000000) only [go_sem,↓reduceIte,f0,f1,P2r]
   refine cr.use ?_
   rintro v' g3 ⟨o3,a3,WA3,k3,N3,W3⟩
   have P3:=(node_rd N3.blk.2 N3.pt.store.len).pend
   rcases N3.pt.pend.fn with ⟨c1,c2⟩ | ⟨c1,f,l,c2⟩
   ·rw [c2] at P3
    simp -implicitDefEqProofs (maxSteps:=2000000) only [go_sem,↓reduceIte,f0,f1,P3]
    exact ⟨c1,o3,a3,WA3,K2.trans k3,N3,W3⟩
   ·rw [c2] at P3
    simp -implicitDefEqProofs (maxSteps:=2000000) only [go_sem,↓reduceIte,f0,f1,P3]
    rw [if_pos c1]
    exact ⟨o3,a3,WA3,K2.trans k3,N3,W3⟩
  | none=>
   have hn:s.reign=none:=by
    have:=N2.pt.reign
    rw [hra] at this
    cases hx:s.reign with
    | none=>rfl
    | some r=>rw [hx] at this; exact this.elim
   rw [hra] at P2r
   unfold rgnV at P2r
   have r5a:hc g2 ⟨kb,0,none⟩=some (.int .i64 n.own.p.r):=hc_last x5.2
   have r5b:hc g2 ⟨kb,1,none⟩=some (.int .i64 n.own.p.n):=hc_last x5.2
   rw [sme] at P2me
   by_cases c:0<n.own.p.r∧n.own.p.n≠n.me
   case neg=>
    have e1:duty1 s=⟨s,[],[]⟩:=by unfold duty1; rw [hn]; simp only; rw [sown,sme,if_neg c]
    rw [e1]
    have hpd:s.pend=none:=by rw [spend]; exact hp0
    simp -implicitDefEqProofs (maxSteps:=2000000) only [go_sem,↓reduceIte,f0,f1,P2r]
    refine VS.mono (N:=fun F' g'=>Bel g2.size g2 g'∧F' 0=.pointer (some ⟨wb,0,none⟩)∧F' 1=.pointer (some ⟨nb,0,none⟩)∧F' 53=.bool false) ?_ ?_ (fun _ _ _ h=>h) (fun _ _ h=>h)
    ·refine VS.z (g2.size) [] (.p 0 (.q 1 (.p 2 (.p 3 (.p 4 (.q 5 (.p 6 (.p 7 (.p 8 (.q 9 (.p 10 (.p 11 (.p 12 .nil))))))))))))) mixed (by kernel_rfl) ?_
     by_cases c1:0<n.own.p.r
     ·have c2:n.own.p.n=n.me:=by
       rcases Decidable.em (n.own.p.n=n.me) with e | e
       ·exact e
       ·exact (c ⟨c1,e⟩).elim
      simp -implicitDefEqProofs (maxSteps:=2000000) only [go_sem,↓reduceIte,f0,f1,f5,r5a,r5b,P2me,l5,hnb,c1,c2]
      try exact Bel.refl _ _
     ·simp -implicitDefEqProofs (maxSteps:=2000000) only [go_sem,↓reduceIte,f0,f1,f5,r5a,r5b,P2me,l5,hnb,c1]
      try exact Bel.refl _ _
    rintro F3 g3 ⟨b3,f0,f1,f53⟩
    have kb3:=kp_still K2.dom b3
    simp -implicitDefEqProofs (maxSteps:=2000000) only [go_sem,↓reduceIte,f53]
    exact ⟨f0,f1,hpd,o,a2,WA0,K2.trans (kp_any kb3),N2.still kb3,by rw [List.append_nil]; exact W2.still kb3⟩
   have e1:duty1 s=⟨s,fwdLs s,[]⟩:=by unfold duty1; rw [hn]; simp only; rw [sown,sme,if_pos c]
   rw [e1]
   have hpd:s.pend=none:=by rw [spend]; exact hp0
   obtain ⟨c1,c2⟩:=c
   simp -implicitDefEqProofs (maxSteps:=2000000) only [go_sem,↓reduceIte,f0,f1,P2r]
   refine VS.mono (N:=fun F' g'=>Bel g2.size g2 g'∧F' 0=.pointer (some ⟨wb,0,none⟩)∧F' 1=.pointer (some ⟨nb,0,none⟩)∧F' 5=.pointer (some ⟨kb,0,none⟩)∧F' 53=.bool true) ?_ ?_ (fun _ _ _ h=>h) (fun _ _ h=>h)
   ·refine VS.z (g2.size) [] (.p 0 (.q 1 (.p 2 (.p 3 (.p 4 (.q 5 (.p 6 (.p 7 (.p 8 (.q 9 (.p 10 (.p 11 (.p 12 .nil))))))))))))) mixed (by kernel_rfl) ?_
    simp -implicitDefEqProofs (maxSteps:=2000000) only [go_sem,↓reduceIte,f0,f1,f5,r5a,r5b,P2me,l5,hnb,c1,c2]
    try exact Bel.refl _ _
   clear f0 f1 f5
   rintro F3 g3 ⟨b3,f0,f1,f5,f53⟩
   have kb3:=kp_still K2.dom b3
   have N3:=N2.still kb3
   have W3:=W2.still kb3
   have K3:=K2.trans (kp_any (S:=allT i) kb3)
   have y5:=x5.keep kb3
   obtain ⟨pq,cq,hpq,_⟩:=OwnT.isSlice N3.pt.queue
   have hpq:a2.queue=.slice pq s.queue.length cq:=hpq
   have P3q:=(node_rd N3.blk.2 N3.pt.store.len).queue
   rw [hpq] at P3q
   simp -implicitDefEqProofs (maxSteps:=2000000) only [go_sem,↓reduceIte,f0,f1,f53,P3q]
   have hql:s.queue.length≤10000000000:=by rw [squeue]; exact hq
   refine VS.loop' (fun F g=>F 0=.pointer (some ⟨wb,0,none⟩)∧F 1=.pointer (some ⟨nb,0,none⟩)∧F 5=.pointer (some ⟨kb,0,none⟩)∧F 69=.slice pq s.queue.length cq∧F 70=.int .i64 s.queue.length∧∃ (j:Nat) (o':Ow) (WA':WA),j≤s.queue.length∧F 71=.int .i64 j∧Kp (allT i) o h o' g∧NodeAt o' g wb i nb a2 s∧WorldAt o' g wb nbs WA' (fl++(fwdLs s).take j) bad told∧BoxAt o' g kb (.cells [.int .i64 n.own.p.r,.int .i64 n.own.p.n].toArray 60))
    (fun F _=>s.queue.length - (vi (F 71)).toNat) rfl ⟨f0,f1,f5,rfl,rfl,0,o,WA0,by omega,rfl,K3,N3,by simpa using W3,y5⟩ ?_
   clear f0 f1 f5 f53 P3q N3 W3 K3 y5 kb3 b3 x5 K2 N2 W2
   rintro F4 g4 ⟨f0,f1,f5,f69,f70,j,o4,WA4,hj,f71,K4,N4,W4,y5⟩
   have hfl:(fwdLs s).length=s.queue.length:=by unfold fwdLs; simp
   by_cases hlt:j<s.queue.length
   ·have hlt':(j:Int)<s.queue.length:=by omega
    obtain ⟨pz,cz,hz1,hz2⟩:=cms_open N4.pt.queue.ts
    obtain ⟨bb,oo,hz3,hbb,hrd⟩:=hz2 (by intro e; have:s.queue=[]:=e; rw [this] at hlt; simp at hlt)
    have hz1:a2.queue=.slice pz s.queue.length cz:=hz1
    rw [hpq] at hz1
    simp only [Value.slice.injEq] at hz1
    obtain ⟨rfl,_,rfl⟩:=hz1
    subst hz3
    have re:rd g4 ⟨bb,oo+j*5,none⟩ 5=some (s.queue[j]).C:=hrd j hlt
    obtain ⟨x,hx⟩:∃ x,x=s.queue[j]:=⟨_,rfl⟩
    rw [← hx] at re
    have hnext:(fwdLs s).take (j+1)=(fwdLs s).take j++[⟨4,s.me,n.own.p.n,bal0,vtOf 0 bal0 x,[]⟩]:=by
     rw [take_snoc _ j (by rw [hfl]; exact hlt)]
     congr 2
     unfold fwdLs
     rw [List.getElem_map,← hx,sown]
    obtain ⟨g5,hg5⟩:∃ g5:Hp,g5=g4.push (.cells x.C.toArray 77):=⟨_,rfl⟩
    have k5:Kp noT o4 g4 o4 g5:=by rw [hg5]; exact kp_push K4.dom _
    have x7:BoxAt o4 g5 g4.size (.cells x.C.toArray 77):=⟨K4.dom _ (Nat.le_refl _),by rw [hg5]; exact get_push_last⟩
    have e5:=hg5.symm
    have N5:=N4.still k5
    have W5:=W4.still k5
    have z5:=y5.keep k5
    have s5:hc g5 ⟨kb,1,none⟩=some (.int .i64 n.own.p.n):=hc_last z5.2
    have sx:rd g5 ⟨g4.size,0,none⟩ 5=some [.int .i64 x.k,.int .i64 x.c,.int .i64 x.s,.int .i64 x.n,.int .i64 x.v]:=rd_last x7.2 rfl
    have re:rd g4 ⟨bb,oo+j*5,none⟩ 5=some [.int .i64 x.k,.int .i64 x.c,.int .i64 x.s,.int .i64 x.n,.int .i64 x.v]:=re
    have e5:g4.push (.cells [.int .i64 x.k,.int .i64 x.c,.int .i64 x.s,.int .i64 x.n,.int .i64 x.v].toArray 77)=g5:=e5
    have P5:=node_rd N5.blk.2 N5.pt.store.len
    have hnb5:=lt_of_get N5.blk.2
    simp -implicitDefEqProofs (maxSteps:=2000000) only [go_sem,↓reduceIte,f0,f1,f5,f69,f70,f71,hlt',re,e5,s5,sx]
    have rl:(fl++(fwdLs s).take j).length≤1000000000000:=by
     rw [List.length_append,List.length_take]; omega
    refine (send_ok T g5 o4 wb nb nbs s.me WA4 _ bad told n.own.p.n ⟨4,0,0,bal0,vtOf 0 bal0 x,[]⟩ (.slice none 0 0) k5.dom W5 P5.me hnb5 (Im.nil _ _ _ _) rl).use ?_
    rintro v' g6 ⟨o6,WA6,k6,_,W6⟩
    simp -implicitDefEqProofs (maxSteps:=2000000) only [go_sem,↓reduceIte,f71]
    unfold nLoop
    refine ⟨⟨f0,f1,f5,f69,f70,j+1,o6,WA6,hlt,rfl,(K4.trans (kp_any k5)).trans (k6.mono fun t q=>by rcases q with rfl | rfl <;> simp [allT]),N5.keep k6 (by rintro t (rfl | rfl) <;> simp [Tg.of]),by rw [hnext,← List.append_assoc]; exact W6,z5.keep k6⟩,?_⟩
    simp only [vi,updo_some,↓reduceIte,f71]; omega
   ·have hge:¬ (j:Int)<s.queue.length:=by omega
    obtain rfl:j=s.queue.length:=by omega
    rw [List.take_of_length_le (by rw [hfl]; exact Nat.le_refl _)] at W4
    simp -implicitDefEqProofs (maxSteps:=2000000) only [go_sem,↓reduceIte,f70,f71,hge]
    exact ⟨f0,f1,hpd,o4,a2,WA4,K4,N4,W4⟩
 clear f0 f1 f5 x5 K2 N2 W2 tb2
 rintro F3 g3 ⟨f0,f1,hpd,o3,a3,WA3,K3,N3,W3⟩
 rw [if_neg (by rw [hpd]; simp)]
 obtain ⟨m,hm⟩:∃ m,m=(duty1 s).n:=⟨_,rfl⟩
 obtain ⟨ls,hls⟩:∃ ls,ls=(duty1 s).ls:=⟨_,rfl⟩
 rw [← hm] at eturn elog eme eheard eown N3 hpd
 rw [← hls] at W3 els
 rw [← hm,← hls]
 clear hm hls
 have hmt:0≤m.turn∧m.turn<5:=by rw [eturn,sturn]; exact ht
 have hml:m.log.length≤100000000000:=by rw [elog,slog]; exact hl
 have hll:ls.length≤10000000200:=by rw [squeue] at els; omega
 refine VS.seq (VS.mono (N:=fun F' g'=>F' 0=.pointer (some ⟨wb,0,none⟩)∧F' 1=.pointer (some ⟨nb,0,none⟩)∧Kp (allT i) o h o3 g'∧NodeAt o3 g' wb i nb a3 (turned m)∧WorldAt o3 g' wb nbs WA3 (fl++ls) bad told) ?_ ?_ (fun _ _ _ h=>h) (fun _ _ h=>h))
 ·refine vc_sound _ _ _ _ _ _ rfl ?_
  have P3:=node_rd N3.blk.2 N3.pt.store.len
  have P3t:=P3.turn
  have hnb:=lt_of_get N3.blk.2
  have et:(m.turn+1).tmod 5=(m.turn+1) % 5:=Int.tmod_eq_emod_of_nonneg (by omega)
  obtain ⟨g4,w4,N4,k4⟩:=NodePt.write (a:=a3) (n:=turned m) { N3.pt with } K3.dom N3.blk ((node_wr N3.blk.2 N3.pt.store.len).turn ((m.turn+1) % 5))
  simp -implicitDefEqProofs (maxSteps:=2000000) only [go_sem,↓reduceIte,f0,f1,P3t,et,w4,hnb]
  exact ⟨K3.trans (k4.mono fun t q=>.inr (.inr (.inr (by rw [q]; rfl)))),N4,W3.keep k4 (by rintro t rfl; simp [Tg.of])⟩
 clear f0 f1 K3 N3 W3
 rintro F4 g4 ⟨f0,f1,K4,N4,W4⟩
 obtain ⟨q,hq0⟩:∃ q,q=turned m:=⟨_,rfl⟩
 have ql:q.log=m.log:=by rw [hq0]; rfl
 rw [← hq0] at N4 ⊢
 clear hq0
 have P4:=node_rd N4.blk.2 N4.pt.store.len
 have P4t:=P4.turn
 have P4me:=P4.me
 have P4o:=P4.ownp
 have P4l:=P4.log
 obtain ⟨pl,cl,hpl,_⟩:=OwnT.isSlice N4.pt.log
 have hpl:a3.log=.slice pl q.log.length cl:=hpl
 rw [hpl] at P4l
 have hnb:=lt_of_get N4.blk.2
 rw [← ql] at hml
 refine vc_sound _ _ _ _ _ _ rfl ?_
 simp -implicitDefEqProofs (maxSteps:=2000000) only [go_sem,↓reduceIte]
 by_cases c:q.turn≠q.me∧q.log.length<40
 case neg=>
  have e1:needLs q=[]:=by unfold needLs; rw [if_neg c]
  rw [e1,List.append_nil]
  refine VS.mono (N:=fun F' g'=>Bel g4.size g4 g'∧F' 109=.bool false) ?_ ?_ (fun _ _ _ h=>h) (fun _ _ h=>h)
  ·refine VS.z (g4.size) [] (.p 0 (.p 1 (.p 2 (.q 3 (.p 4 (.p 5 (.p 6 (.q 7 (.p 8 (.p 9 (.p 10 (.p 11 (.p 12 (.q 13 (.p 14 (.p 15 (.p 16 .nil))))))))))))))))) mixed (by kernel_rfl) ?_
   by_cases c1:q.turn=q.me
   ·simp -implicitDefEqProofs (maxSteps:=2000000) only [go_sem,↓reduceIte,f0,f1,P4t,P4me,P4l,hnb,c1]
    try exact Bel.refl _ _
   ·have c2:¬ (q.log.length:Int)<40:=by
     intro e
     exact c ⟨c1,by omega⟩
    simp -implicitDefEqProofs (maxSteps:=2000000) only [go_sem,↓reduceIte,f0,f1,P4t,P4me,P4l,hnb,c1,c2]
    try exact Bel.refl _ _
  rintro F5 g5 ⟨b5,f109⟩
  have kb5:=kp_still K4.dom b5
  simp -implicitDefEqProofs (maxSteps:=2000000) only [go_sem,↓reduceIte,f109]
  exact ⟨o3,a3,WA3,K4.trans (kp_any kb5),N4.still kb5,W4.still kb5⟩
 have e1:needLs q=[⟨5,q.me,q.turn,bestB q,vtOf q.log.length bal0 cm0,[]⟩]:=by unfold needLs; rw [if_pos c]
 rw [e1]
 obtain ⟨c1,c2⟩:=c
 have c2:(q.log.length:Int)<40:=by omega
 refine VS.mono (N:=fun F' g'=>Bel g4.size g4 g'∧F' 0=.pointer (some ⟨wb,0,none⟩)∧F' 1=.pointer (some ⟨nb,0,none⟩)∧F' 109=.bool true) ?_ ?_ (fun _ _ _ h=>h) (fun _ _ h=>h)
 ·refine VS.z (g4.size) [] (.p 0 (.p 1 (.p 2 (.q 3 (.p 4 (.p 5 (.p 6 (.q 7 (.p 8 (.p 9 (.p 10 (.p 11 (.p 12 (.q 13 (.p 14 (.p 15 (.p 16 .nil))))))))))))))))) mixed (by kernel_rfl) ?_
  simp -implicitDefEqProofs (maxSteps:=2000000) only [go_sem,↓reduceIte,f0,f1,P4t,P4me,P4l,hnb,c1,c2]
  try exact Bel.refl _ _
 clear f0 f1
 rintro F5 g5 ⟨b5,f0,f1,f109⟩
 have kb5:=kp_still K4.dom b5
 have N5:=N4.still kb5
 have W5:=W4.still kb5
 have K5:Kp (allT i) o h o3 g5:=K4.trans (kp_any kb5)
 have P5:=node_rd N5.blk.2 N5.pt.store.len
 have P5o:=P5.ownp
 have hnb5:=lt_of_get N5.blk.2
 obtain ⟨g6,hg6⟩:∃ g6:Hp,g6=g5.push (.cells [.int .i64 q.own.p.r,.int .i64 q.own.p.n].toArray 60):=⟨_,rfl⟩
 have k6:Kp noT o3 g5 o3 g6:=by rw [hg6]; exact kp_push K5.dom _
 have x8:BoxAt o3 g6 g5.size (.cells [.int .i64 q.own.p.r,.int .i64 q.own.p.n].toArray 60):=⟨K5.dom _ (Nat.le_refl _),by rw [hg6]; exact get_push_last⟩
 have e6:=hg6.symm
 have N6:=N5.still k6
 have W6:=W5.still k6
 have K6:Kp (allT i) o h o3 g6:=K5.trans (kp_any k6)
 have P6h:=(node_rd N6.blk.2 N6.pt.store.len).heard
 have hnb6:=lt_of_get N6.blk.2
 have l8:=lt_of_get x8.2
 have r8:rd g6 ⟨g5.size,0,none⟩ 2=some [.int .i64 q.own.p.r,.int .i64 q.own.p.n]:=rd_last x8.2 rfl
 obtain ⟨kb,hkb⟩:∃ kb,kb=g5.size:=⟨_,rfl⟩
 simp -implicitDefEqProofs (maxSteps:=2000000) only [go_sem,↓reduceIte,f0,f1,f109,P5o,hnb5,e6]
 rw [← hkb] at x8 l8 r8 ⊢
 refine VS.mono (N:=fun F' g'=>Bel g6.size g6 g'∧F' 0=.pointer (some ⟨wb,0,none⟩)∧F' 1=.pointer (some ⟨nb,0,none⟩)∧F' 8=.pointer (some ⟨kb,0,none⟩)∧F' 120=.bool (decide (below q.own.p q.heard))) ?_ ?_ (fun _ _ _ h=>h) (fun _ _ h=>h)
 ·refine VS.z (g6.size) [5] (.p 0 (.p 1 (.p 2 (.q 3 (.q 4 (.w 5 .nil)))))) mixed (by kernel_rfl) ?_
  simp -implicitDefEqProofs (maxSteps:=2000000) only [go_sem,↓reduceIte,f0,f1,P6h,r8,hnb6,l8]
  refine (later_ok T g6 q.heard q.own.p).use ?_
  rintro _ g ⟨rfl,b⟩
  simp -implicitDefEqProofs (maxSteps:=2000000) only [go_sem,↓reduceIte,b]
  exact ⟨f0,f1⟩
 clear f0 f1
 rintro F7 g7 ⟨b7,f0,f1,f8,f120⟩
 have kb7:=kp_still K6.dom b7
 have N7:=N6.still kb7
 have W7:=W6.still kb7
 have K7:Kp (allT i) o h o3 g7:=K6.trans (kp_any kb7)
 have y8:=x8.keep kb7
 have P7h:=(node_rd N7.blk.2 N7.pt.store.len).heard
 have hnb7:=lt_of_get N7.blk.2
 have m8:=lt_of_get y8.2
 by_cases c6:below q.own.p q.heard
 all_goals
 first
 | (have eb:bestB q=q.heard:=by unfold bestB; rw [if_pos c6]
    obtain ⟨g8,hg8⟩:∃ g8:Hp,g8=g7.setIfInBounds kb (.cells [.int .i64 q.heard.r,.int .i64 q.heard.n].toArray 60):=⟨_,rfl⟩
    have w8:wr g7 ⟨kb,0,none⟩ [.int .i64 q.heard.r,.int .i64 q.heard.n]=some g8:=by rw [wr_get y8.2 0 _,hg8]; rfl
    have k8:Kp noT o3 g5 o3 g8:=by rw [hg8]; exact (k6.trans kb7).setNew (by omega) _
    have z8:BoxAt o3 g8 kb (.cells [.int .i64 (bestB q).r,.int .i64 (bestB q).n].toArray 60):=⟨y8.1,by rw [hg8,eb]; exact get_set y8.2⟩
    simp -implicitDefEqProofs (maxSteps:=2000000) only [go_sem,↓reduceIte,f0,f1,f8,f120,c6,P7h,hnb7,w8])
 | (have eb:bestB q=q.own.p:=by unfold bestB; rw [if_neg c6]
    obtain ⟨g8,hg8⟩:∃ g8:Hp,g8=g7:=⟨_,rfl⟩
    have k8:Kp noT o3 g5 o3 g8:=by rw [hg8]; exact k6.trans kb7
    have z8:BoxAt o3 g8 kb (.cells [.int .i64 (bestB q).r,.int .i64 (bestB q).n].toArray 60):=⟨y8.1,by rw [hg8,eb]; exact y8.2⟩
    simp -implicitDefEqProofs (maxSteps:=2000000) only [go_sem,↓reduceIte,f120,c6]
    rw [← hg8])
 all_goals
  have N8:=N5.still k8
  have W8:=W5.still k8
  have K8:Kp (allT i) o h o3 g8:=K5.trans (kp_any k8)
  have P8:=node_rd N8.blk.2 N8.pt.store.len
  have P8t:=P8.turn
  have P8l:=P8.log
  rw [hpl] at P8l
  have hnb8:=lt_of_get N8.blk.2
  have n8:=lt_of_get z8.2
  have s8:rd g8 ⟨kb,0,none⟩ 2=some [.int .i64 (bestB q).r,.int .i64 (bestB q).n]:=rd_last z8.2 rfl
  refine VS.z (g8.size) [14] (.p 0 (.p 1 (.p 2 (.p 3 (.p 4 (.q 5 (.q 6 (.p 7 (.p 8 (.p 9 (.q 10 (.p 11 (.p 12 (.p 13 (.w 14 .nil))))))))))))))) mixed (by kernel_rfl) ?_
  simp -implicitDefEqProofs (maxSteps:=2000000) only [go_sem,↓reduceIte,f0,f1,f8,P8t,P8l,s8,hnb8,n8]
  have rl:(fl++ls).length≤1000000000000:=by rw [List.length_append]; omega
  refine (send_ok T g8 o3 wb nb nbs q.me WA3 _ bad told q.turn ⟨5,0,0,bestB q,vtOf q.log.length bal0 cm0,[]⟩ (.slice none 0 0) K8.dom W8 P8.me hnb8 (Im.nil _ _ _ _) rl).use ?_
  rintro v' g9 ⟨o9,WA9,k9,_,W9⟩
  simp -implicitDefEqProofs (maxSteps:=2000000) only [go_sem,↓reduceIte]
  exact ⟨o9,a3,WA9,K8.trans (k9.mono fun t q=>by rcases q with rfl | rfl <;> simp [allT]),N8.keep k9 (by rintro t (rfl | rfl) <;> simp [Tg.of]),by rw [← List.append_assoc]; exact W9⟩
structure HandOk (n:Nd) (l:Ltr) (fl told:Nat):Prop where
 kind:0≤l.kind∧l.kind≤7
 room:fl≤1000000000000
 votes:n.own.l.length≤1000000
 data:n.data.length≤1000000
 known:n.known.length≤100000000000
 log:n.log.length≤100000000000
 told:told≤100000000000
 queue:n.queue.length≤1000000000000
 waiting:n.waiting.length≤1000000000000
 sets:∀ r s,n.reign=some r→((lkp r.vts s).getD []).length≤1000000
structure DutyOk (n:Nd) (fl:Nat):Prop where
 room:fl≤800000000000
 votes:n.own.l.length≤1000000
 data:n.data.length≤1000000
 rgn:∀ r,n.reign=some r→(∀ x∈r.prom,x.2.length≤1000000)∧(∀ x∈r.prom,∀ v∈x.2,v.slot≤1000000)∧r.prom.length≤1000000000000
 log:n.log.length≤100000000000
 queue:n.queue.length≤10000000000
 turn:0≤n.turn∧n.turn<5
def DrainOk:Nd→List Ltr→Nat→Nat→Prop
 | _,[],_,_=>True
 | n,l :: k,f,t=>n.pend.isSome=true∨(HandOk { n with inbox:=k } l f t∧DrainOk (handle { n with inbox:=k } l).n k (f+(handle { n with inbox:=k } l).ls.length) (t+(handle { n with inbox:=k } l).ts.length))
structure StepOk (n:Nd) (fl told:Nat):Prop where
 data:n.data.length≤1000000
 room:fl≤1000000000000
 dr:n.pend=none→DrainOk n n.inbox fl told
 du:n.pend=none→(drain n n.inbox).n.pend=none→DutyOk (drain n n.inbox).n (fl+(drain n n.inbox).ls.length)
theorem handle_inbox (n:Nd) (l:Ltr) (k:List Ltr):(handle { n with inbox:=k } l).n.inbox=k:=by
 have hL:∀ (m:Nat) (x:Nd),(learnGo m x).1.inbox=x.inbox:=by
  intro m
  induction m with
  | zero=>intro x; rfl
  | succ m ih=>
   intro x
   unfold learnGo
   split
   ·rfl
   ·simp only; rw [ih]; rfl
 have hl:∀ (x:Nd) s c,(learn x s c).n.inbox=x.inbox:=fun x s c=>by unfold learn; simp only; rw [hL]; rfl
 have hn:∀ x:Nd,(notes x l).inbox=x.inbox:=fun x=>by unfold notes; split <;> rfl
 unfold handle
 split
 ·unfold prepared; split; · rfl
  split; · rfl
  split <;> rfl
 split
 ·unfold gathered
  split
  ·rfl
  ·split
   ·split <;> rfl
   ·split; · rfl
    split
    ·rw [hl]; rfl
    ·rfl
 split
 ·unfold asked; split; · rfl
  split; · rfl
  split <;> rfl
 split
 ·unfold add; simp only; split <;> rfl
 split
 ·unfold tells; split
  ·simp only; rw [hn]
  ·simp only; rw [hn]
 split
 ·rw [hl]
 ·simp only; rw [hn]
theorem lts_pop {o:Ow} {t:Tg} {h:Hp} {v:Value} {l:Ltr} {k:List Ltr} (s:LtsAt o t h v (l :: k)) :
  ∃ w b off c,v=.slice (some ⟨b,off,none⟩) (k.length+1) c∧k.length+1≤c∧rd h ⟨b,off,none⟩ 14=some (ltC l w)∧ImV o h w l.vs∧LtsAt o t h (.slice (if c=1 then some ⟨b,off,none⟩ else some ⟨b,off+14,none⟩) k.length (c - 1)) k:=by
 obtain ⟨xs,h1,h2,h3⟩:=s
 cases xs with
 | nil=>cases h1
 | cons x xs=>
  obtain ⟨l',w⟩:=x
  simp only [List.map_cons,List.cons.injEq] at h1
  obtain ⟨rfl,rfl⟩:=h1
  have h2':=h2
  rcases h2 with ⟨_,e,_⟩ | ⟨b,off,cap,pre,spare,g1,rfl,g3,g4,g5,g6,g7⟩
  ·cases e
  refine ⟨w,b,off,cap,by rw [List.length_map]; rfl,by rw [List.length_map]; exact g7,?_,h3 (l',w) (by simp),?_⟩
  ·have e1:encs lwC ((l',w) :: xs)=ltC l' w++encs lwC xs:=by simp [encs,lwC]
   have g5':(encs lwC ((l',w) :: xs)).length=(xs.length+1)*14:=g5
   rw [rd_part g3 (by simp only [List.length_append]; omega),← g4,List.drop_left,e1,List.append_assoc]
   rfl
  ·refine ⟨xs,rfl,?_,fun x hx=>h3 x (by simp [hx])⟩
   have tl:=h2'.tail (k:=1) (by simp)
   have e1:encs lwC ((l',w) :: xs)=ltC l' w++encs lwC xs:=by simp [encs,lwC]
   rw [e1] at tl
   have e2:(ltC l' w++encs lwC xs).drop (1*14)=encs lwC xs:=rfl
   rw [e2] at tl
   simpa [addr_add] using tl
def inLen (nb:Nat) (g:Hp):Nat:=match hc g ⟨nb,54,none⟩ with
 | some (.slice _ m _)=>m
 | _=>0
theorem inLen_at {o:Ow} {h:Hp} {wb i nb:Nat} {a:NA} {n:Nd} (N:NodeAt o h wb i nb a n):inLen nb h=n.inbox.length:=by
 obtain ⟨xs,h1,h2,_⟩:=N.pt.inbox
 obtain ⟨p,c,h3,_⟩:=h2.isSlice
 have:=(node_rd N.blk.2 N.pt.store.len).inbox
 unfold inLen
 rw [this,h3,← h1,List.length_map]
theorem finT_all {i:Nat} (t:Tg) (q:finT i t):allT i t:=by
 rcases q with rfl | rfl | rfl | rfl | rfl
 ·exact .inl rfl
 ·exact .inr (.inl rfl)
 all_goals exact .inr (.inr (.inr rfl))
set_option maxHeartbeats 4000000 in
theorem nstep_ok (T:World) (h:Hp) (o:Ow) (wb i nb:Nat) (nbs:Nat→Nat) (a:NA) (n:Nd) (WA0:WA) (fl:List Ltr) (bad:Nat→Int) (told:List Tld) (d:Dom o h)
  (N:NodeAt o h wb i nb a n) (W:WorldAt o h wb nbs WA0 fl bad told) (tb:Tbs o h) (ok:StepOk n fl.length told.length) :
  CallsH Tryz.prog T 25 #[ptrV wb,ptrV nb] h fun v' h'=>∃ o' a' WA',Kp (allT i) o h o' h'∧NodeAt o' h' wb i nb a' (step n).n∧WorldAt o' h' wb nbs WA' (fl++(step n).ls) bad (told++(step n).ts):=by
 refine CallsH.of_code' (args:=[_,_]) Tryz.func25 rfl rfl rfl rfl ?_
 unfold ptrV
 have P:=node_rd N.blk.2 N.pt.store.len
 have hnb:=lt_of_get N.blk.2
 have Pu:=P.up
 cases hu:n.up with
 | false=>
  have e1:step n=⟨n,[],[]⟩:=by unfold step; rw [hu]; rfl
  rw [hu] at Pu
  rw [e1,List.append_nil,List.append_nil]
  simp -implicitDefEqProofs (maxSteps:=2000000) only [go_sem,↓reduceIte,Pu]
  exact ⟨o,a,WA0,Kp.refl d _,N,W⟩
 | true=>
 rw [hu] at Pu
 have Pp:=P.pend
 cases hp:n.pend with
 | some p=>
  have e1:step n=finish (synced n) p:=by unfold step; rw [hu,hp]; rfl
  rw [e1]
  have Pn:=N.pt.pend
  rw [hp] at Pn
  obtain ⟨f,l,hf⟩:∃ f l,a.pend=.func (.func f) #[] l:=by
   rcases Pn.fn with ⟨c,_⟩ | ⟨_,c⟩
   ·cases c
   ·exact c
  have Pp':=Pp
  rw [hf] at Pp'
  obtain ⟨pd,cd,hpd⟩:=N.pt.data.1.isSlice
  have hpd:a.data=.slice pd n.data.length cd:=hpd
  have Pt:=P.tape
  rw [hpd] at Pt
  have Nd:=N.pt.data
  rw [hpd] at Nd
  simp -implicitDefEqProofs (maxSteps:=2000000) only [go_sem,↓reduceIte,Pu,Pp',Pt]
  refine (sync_ok T h _ n.syn n.data Nd.bs (by have:=ok.data; omega)).use ?_
  rintro v1 h1 ⟨b1,s1⟩
  have kb:=kp_still d b1
  have N1:=N.still kb
  have W1:=W.still kb
  obtain ⟨p1,c1,rfl,i1⟩:∃ p1 c1,v1=.tuple [.agg [.slice p1 (synced n).data.length c1,.int .i64 (synced n).syn].toArray,.int .i64 (if tapeOk n.data n.syn then 0 else 5)].toArray∧ImB o h1 (.slice p1 (synced n).data.length c1) (synced n).data:=by
   unfold Synced at s1
   by_cases c:tapeOk n.data n.syn
   ·rw [if_pos (show n.data.length≤100000∧0≤n.syn∧n.syn≤n.data.length from c)] at s1
    obtain ⟨w,rfl,o1⟩:=s1
    obtain ⟨p1,c1,rfl,_⟩:=o1.bs.open
    have e2:(synced n).data=n.data:=by unfold synced; simp only; rw [if_pos c]
    have e3:(synced n).syn=n.data.length:=by unfold synced; simp only; rw [if_pos c]
    rw [e2,e3,if_pos c]
    exact ⟨p1,c1,rfl,Im.of_own o1.own (fun b hb=>d b hb),o1.byte⟩
   ·rw [if_neg (show ¬ (n.data.length≤100000∧0≤n.syn∧n.syn≤n.data.length) from c)] at s1
    have e2:(synced n).data=[]:=by unfold synced; simp only; rw [if_neg c]
    have e3:(synced n).syn=0:=by unfold synced; simp only; rw [if_neg c]
    rw [e2,e3,if_neg c]
    exact ⟨none,0,s1,Im.nil _ _ _ _,fun x hx=>by cases hx⟩
  obtain ⟨g2,w2,N2,k2⟩:=NodePt.write (a:={ a with data:=.slice p1 (synced n).data.length c1 }) (n:={ n with data:=(synced n).data,syn:=(synced n).syn }) { N1.pt with data:=i1 } kb.dom N1.blk ((node_wr N1.blk.2 N1.pt.store.len).tape (.slice p1 (synced n).data.length c1) (synced n).syn rfl)
  have hnb1:=lt_of_get N1.blk.2
  have hnb2:=lt_of_get N2.blk.2
  have P2p:hc g2 ⟨nb,55,none⟩=some a.pend:=(node_rd N2.blk.2 N2.pt.store.len).pend
  have pn:PndAt o g2 wb i nb a.reign .nilFunc none:=rfl
  obtain ⟨g3,w3,N3,k3⟩:=NodePt.write (a:={ a with data:=.slice p1 (synced n).data.length c1,pend:=.nilFunc }) (n:=synced n) { N2.pt with pend:=pn } k2.dom N2.blk ((node_wr N2.blk.2 N2.pt.store.len).pend .nilFunc rfl)
  have K3:Kp (allT i) o h o g3:=((kp_any kb).trans (k2.mono fun t q=>.inr (.inr (.inr (by rw [q]; rfl))))).trans (k3.mono fun t q=>.inr (.inr (.inr (by rw [q]; rfl))))
  have W3:=(W1.keep k2 (by rintro t rfl; simp [Tg.of])).keep k3 (by rintro t rfl; simp [Tg.of])
  have Pn3:PndAt o g3 wb i nb a.reign a.pend (some p):=((Pn.keep kb (by rintro ⟨⟩)).keep k2 (by intro e; cases e)).keep k3 (by intro e; cases e)
  clear hf Pp'
  rw [show (finish (synced n) p).ts=[] from by cases p <;> rfl,List.append_nil]
  have rm:=ok.room
  have hns:(synced n).pend=none:=rfl
  cases p with
  | pro acc to b vs=>
   obtain ⟨b6,b4,b9,u,h1',h2',h3',h4',h5'⟩:=Pn3
   have cf:=finP_ok T g3 o wb i nb nbs WA0 fl bad told _ (synced n) acc to b vs b6 b4 b9 u k3.dom N3 W3 rm h2' h3' h4' h5'
   rw [h1'] at P2p
   unfold fnV at P2p
   simp only [List.map] at P2p
   unfold ptrV at P2p cf
   simp -implicitDefEqProofs (maxSteps:=2000000) only [go_sem,↓reduceIte,w2,hnb1,P2p,w3,hnb2]
   refine cf.use ?_
   rintro v' h' ⟨o',a',WA',k,N',W'⟩
   simp -implicitDefEqProofs (maxSteps:=2000000) only [go_sem,↓reduceIte]
   exact ⟨o',a',WA',K3.trans (k.mono finT_all),N',W'⟩
  | vot acc to x=>
   obtain ⟨b6,b4,b9,u,h1',h2',h3',h4',h5'⟩:=Pn3
   have cf:=finV_ok T g3 o wb i nb nbs WA0 fl bad told _ (synced n) acc to x b6 b4 b9 u k3.dom N3 W3 rm h2' h3' h4' h5'
   rw [h1'] at P2p
   unfold fnV at P2p
   simp only [List.map] at P2p
   unfold ptrV at P2p cf
   simp -implicitDefEqProofs (maxSteps:=2000000) only [go_sem,↓reduceIte,w2,hnb1,P2p,w3,hnb2]
   refine cf.use ?_
   rintro v' h' ⟨o',a',WA',k,N',W'⟩
   simp -implicitDefEqProofs (maxSteps:=2000000) only [go_sem,↓reduceIte]
   exact ⟨o',a',WA',K3.trans (k.mono finT_all),N',W'⟩
  | own acc vs cur=>
   obtain ⟨b6,b4,b7,b5,h1',cf⟩:=finO_ok T g3 o wb i nb _ (synced n) acc vs cur a.pend k3.dom N3 hns Pn3
   rw [h1'] at P2p
   unfold fnV at P2p
   simp only [List.map] at P2p
   unfold ptrV at P2p cf
   rw [show (finish (synced n) (.own acc vs cur)).ls=[] from rfl,List.append_nil]
   simp -implicitDefEqProofs (maxSteps:=2000000) only [go_sem,↓reduceIte,w2,hnb1,P2p,w3,hnb2]
   refine cf.use ?_
   rintro v' h' ⟨o',a',k,N'⟩
   simp -implicitDefEqProofs (maxSteps:=2000000) only [go_sem,↓reduceIte]
   exact ⟨o',a',WA0,K3.trans (k.mono fun t q=>by rcases q with rfl | rfl | rfl <;> exact .inr (.inr (.inr rfl))),N',W3.keep k (fun t q=>by rcases q with rfl | rfl | rfl <;> simp [Tg.of])⟩
 | none=>
  have Pp0:a.pend=.nilFunc:=by have:=N.pt.pend; rw [hp] at this; exact this
  have Pp1:=P.pend
  rw [Pp0] at Pp1
  simp -implicitDefEqProofs (maxSteps:=2000000) only [go_sem,↓reduceIte,Pu,Pp1]
  obtain ⟨D,hD⟩:∃ D,D=drain n n.inbox:=⟨_,rfl⟩
  have dr:=ok.dr hp
  have du:=ok.du hp
  have e1:step n=if D.n.pend.isSome=true then D else ⟨(duty D.n).n,D.ls++(duty D.n).ls,D.ts++(duty D.n).ts⟩:=by unfold step; rw [hu,hp,hD]; rfl
  rw [← hD] at du
  rw [e1]
  refine VS.loop' (fun F g=>F 0=.pointer (some ⟨wb,0,none⟩)∧F 1=.pointer (some ⟨nb,0,none⟩)∧∃ (o':Ow) (a':NA) (WA':WA) (m:Nd) (ls:List Ltr) (ts:List Tld),Kp (allT i) o h o' g∧NodeAt o' g wb i nb a' m∧WorldAt o' g wb nbs WA' (fl++ls) bad (told++ts)∧D=⟨(drain m m.inbox).n,ls++(drain m m.inbox).ls,ts++(drain m m.inbox).ts⟩∧DrainOk m m.inbox (fl.length+ls.length) (told.length+ts.length))
   (fun _ g=>inLen nb g) rfl ⟨rfl,rfl,o,a,WA0,n,[],[],Kp.refl d _,N,by simpa using W,by rw [hD]; rfl,by simpa using dr⟩ ?_
  clear Pu Pp Pp0 Pp1 P hnb N W d
  rintro F1 g1 ⟨f0,f1,o1,a1,WA1,m,ls,ts,K1,N1,W1,hDm,dr1⟩
  have P1:=node_rd N1.blk.2 N1.pt.store.len
  have hnb1:=lt_of_get N1.blk.2
  have P1i:=P1.inbox
  have P1p:=P1.pend
  have stop:(m.inbox=[]∨m.pend.isSome=true)→D=⟨m,ls,ts⟩:=by
   intro q
   have e2:drain m m.inbox=⟨m,[],[]⟩:=by
    cases hmi:m.inbox with
    | nil=>unfold drain; rw [← hmi]
    | cons l k=>
     rcases q with q | q
     ·rw [hmi] at q; cases q
     ·unfold drain; rw [if_pos q,← hmi]
   rw [hDm,e2]; simp
  rcases N1.pt.pend.fn with ⟨c1,c2⟩ | ⟨c1,f,fl',c2⟩
  ·rw [c2] at P1p
   cases hmi:m.inbox with
   | nil=>
    have eD:=stop (.inl hmi)
    obtain ⟨p,c,hi⟩:∃ p c,a1.inbox=.slice p 0 c:=by
     have:=N1.pt.inbox
     rw [hmi] at this
     obtain ⟨xs,h1,h2,_⟩:=this
     obtain ⟨p,c,h3,_⟩:=h2.isSlice
     rw [List.map_eq_nil_iff] at h1
     subst h1
     exact ⟨p,c,h3⟩
    rw [hi] at P1i
    have dok:=du (by rw [eD]; exact c1)
    rw [eD] at dok
    rw [eD,if_neg (by rw [c1]; simp)]
    have cd:=duty_ok T g1 o1 wb i nb nbs a1 m WA1 (fl++ls) bad (told++ts) K1.dom N1 W1 (tb.keep K1) c1 (by rw [List.length_append]; exact dok.room) dok.votes dok.data dok.rgn dok.log dok.queue dok.turn
    unfold ptrV at cd
    simp -implicitDefEqProofs (maxSteps:=2000000) only [go_sem,↓reduceIte,f0,f1,P1i,P1p]
    refine cd.use ?_
    rintro v' g2 ⟨o2,a2,WA2,k2,N2,W2⟩
    simp -implicitDefEqProofs (maxSteps:=2000000) only [go_sem,↓reduceIte]
    have edt:(duty m).ts=[]:=by
     unfold duty
     split
     ·exact (duty1_same _).2.2.2.2.2
     ·rfl
    refine ⟨o2,a2,WA2,K1.trans k2,N2,?_⟩
    rw [edt,List.append_nil,← List.append_assoc]
    exact W2
   | cons l k=>
    have NI:=N1.pt.inbox
    rw [hmi] at NI
    obtain ⟨w,b,off,c,hi,hc1,hrd,iv,tl⟩:=lts_pop NI
    rw [hi] at P1i
    rw [hmi] at dr1
    have hk:HandOk { m with inbox:=k } l (fl.length+ls.length) (told.length+ts.length)∧DrainOk (handle { m with inbox:=k } l).n k (fl.length+ls.length+(handle { m with inbox:=k } l).ls.length) (told.length+ts.length+(handle { m with inbox:=k } l).ts.length):=by
     rcases dr1 with q | q
     ·rw [c1] at q; cases q
     ·exact q
    obtain ⟨hk,dr2⟩:=hk
    have hD2:D=⟨(drain (handle { m with inbox:=k } l).n k).n,(ls++(handle { m with inbox:=k } l).ls)++(drain (handle { m with inbox:=k } l).n k).ls,(ts++(handle { m with inbox:=k } l).ts)++(drain (handle { m with inbox:=k } l).n k).ts⟩:=by
     rw [hDm,hmi]
     have e2:drain m (l :: k)=⟨(drain (handle { m with inbox:=k } l).n k).n,(handle { m with inbox:=k } l).ls++(drain (handle { m with inbox:=k } l).n k).ls,(handle { m with inbox:=k } l).ts++(drain (handle { m with inbox:=k } l).n k).ts⟩:=by
      rw [drain]; rw [if_neg (by rw [c1]; simp)]
     rw [e2]; simp
    have hib:=handle_inbox m l k
    clear stop dr1 hDm
    obtain ⟨pw,cw,rfl⟩:=iv.isSlice
    obtain ⟨g2,hg2⟩:∃ g2:Hp,g2=g1.push (.cells (ltC l (.slice pw l.vs.length cw)).toArray 98):=⟨_,rfl⟩
    have k2:Kp noT o1 g1 o1 g2:=by rw [hg2]; exact kp_push K1.dom _
    have x5:BoxAt o1 g2 g1.size (.cells (ltC l (.slice pw l.vs.length cw)).toArray 98):=⟨K1.dom _ (Nat.le_refl _),by rw [hg2]; exact get_push_last⟩
    have e2:=hg2.symm
    have N2:=N1.still k2
    have W2:=W1.still k2
    have P2i:=(node_rd N2.blk.2 N2.pt.store.len).inbox
    rw [hi] at P2i
    have hnb2:=lt_of_get N2.blk.2
    obtain ⟨vi',hvi⟩:∃ v:Value,v=.slice (if c=1 then some ⟨b,off,none⟩ else some ⟨b,off+14,none⟩) k.length (c - 1):=⟨_,rfl⟩
    have tl2:LtsAt o1 (.inbox i) g2 vi' k:=by rw [hvi]; exact tl.keep k2 (fun q=>q.elim)
    obtain ⟨g3,w3,N3,k3⟩:=NodePt.write (a:={ a1 with inbox:=vi' }) (n:={ m with inbox:=k }) { N2.pt with inbox:=tl2 } k2.dom N2.blk ((node_wr N2.blk.2 N2.pt.store.len).inbox vi' (by rw [hvi]; rfl))
    rw [hvi] at w3
    have y5:=x5.keep k3
    have W3:=W2.keep k3 (by rintro t rfl; simp [Tg.of])
    have r5:rd g3 ⟨g1.size,0,none⟩ 14=some (ltC l (.slice pw l.vs.length cw)):=rd_last y5.2 rfl
    have K3:Kp (allT i) o h o1 g3:=(K1.trans (kp_any k2)).trans (k3.mono fun t q=>.inr (.inr (.inr (by rw [q]; rfl))))
    have hc2:(1:Int)≤c:=by omega
    have ch:=handle_ok T g3 o1 wb i nb nbs _ { m with inbox:=k } WA1 (fl++ls) bad (told++ts) l (.slice pw l.vs.length cw) k3.dom N3 W3 ((iv.keep k2).keep k3) (tb.keep K3) hk.kind (by rw [List.length_append]; exact hk.room) hk.votes hk.data hk.known hk.log (by rw [List.length_append]; exact hk.told) hk.queue hk.waiting hk.sets
    unfold ptrV ltC at ch
    unfold ltC at hrd e2 r5
    simp -implicitDefEqProofs (maxSteps:=2000000) only [go_sem,↓reduceIte,f0,f1,P1i,P1p,hrd,e2,P2i,hnb2,w3,hc1,hc2,r5,Nat.add_sub_cancel]
    refine ch.use ?_
    rintro v' g4 ⟨o4,a4,WA4,k4,N4,W4⟩
    simp -implicitDefEqProofs (maxSteps:=2000000) only [go_sem,↓reduceIte]
    unfold nLoop
    have in4:=inLen_at N4
    have in1:=inLen_at N1
    rw [hib] at in4
    rw [hmi] at in1
    refine ⟨⟨f0,f1,o4,a4,WA4,(handle { m with inbox:=k } l).n,ls++(handle { m with inbox:=k } l).ls,ts++(handle { m with inbox:=k } l).ts,K3.trans k4,N4,by rw [← List.append_assoc,← List.append_assoc]; exact W4,by rw [hib]; exact hD2,by rw [hib,List.length_append,List.length_append,← Nat.add_assoc,← Nat.add_assoc]; exact dr2⟩,?_⟩
    show inLen nb g4<inLen nb g1
    rw [in4,in1]
    simp
  ·rw [c2] at P1p
   have eD:=stop (.inr c1)
   rw [eD,if_pos c1]
   obtain ⟨p,c,hi⟩:∃ p c,a1.inbox=.slice p m.inbox.length c:=by
    obtain ⟨xs,h1,h2,_⟩:=N1.pt.inbox
    obtain ⟨p,c,h3,_⟩:=h2.isSlice
    rw [← h1,List.length_map]
    exact ⟨p,c,h3⟩
   rw [hi] at P1i
   by_cases hz:0<m.inbox.length
   ·have hz':(0:Int)<m.inbox.length:=by omega
    simp -implicitDefEqProofs (maxSteps:=2000000) only [go_sem,↓reduceIte,f0,f1,P1i,P1p,hz']
    exact ⟨o1,a1,WA1,K1,N1,W1⟩
   ·have hz':¬ (0:Int)<m.inbox.length:=by omega
    simp -implicitDefEqProofs (maxSteps:=2000000) only [go_sem,↓reduceIte,f0,f1,P1i,P1p,hz']
    exact ⟨o1,a1,WA1,K1,N1,W1⟩
def anyT (t:Tg):Prop:=True
def someT (t:Tg):Prop:=∃ i,t.of=some i
theorem kp_all {S:Tg→Prop} {o o':Ow} {h h':Hp} (k:Kp S o h o' h'):Kp anyT o h o' h':=k.mono fun _ _=>trivial
structure AllAt (o:Ow) (h:Hp) (wb:Nat) (nbs:Nat→Nat) (WA0:WA) (w:Wd):Prop where
 wd:WorldAt o h wb nbs WA0 w.flying w.bad w.told
 nd:∀ i,i<5→∃ a,NodeAt o h wb i (nbs i) a (w.nodes i)
theorem AllAt.still {o:Ow} {h h':Hp} {wb:Nat} {nbs:Nat→Nat} {WA0:WA} {w:Wd} {o':Ow} (A:AllAt o h wb nbs WA0 w) (k:Kp noT o h o' h'):AllAt o' h' wb nbs WA0 w:=
 ⟨A.wd.still k,fun i hi=>by obtain ⟨a,N⟩:=A.nd i hi; exact ⟨a,N.still k⟩⟩
theorem AllAt.turn {o o':Ow} {h h':Hp} {wb:Nat} {nbs:Nat→Nat} {WA0 WA1:WA} {w:Wd} {i:Nat} {a:NA} {n:Nd} {fl:List Ltr} {bad:Nat→Int} {told:List Tld} (A:AllAt o h wb nbs WA0 w) (k:Kp (allT i) o h o' h')
  (N:NodeAt o' h' wb i (nbs i) a n) (W:WorldAt o' h' wb nbs WA1 fl bad told):AllAt o' h' wb nbs WA1 { nodes:=fun j=>if j=i then n else w.nodes j,flying:=fl,bad:=bad,told:=told }:=by
 refine ⟨W,fun j hj=>?_⟩
 by_cases e:j=i
 ·subst e
  exact ⟨a,by simpa using N⟩
 ·obtain ⟨b,M⟩:=A.nd j hj
  refine ⟨b,?_⟩
  simp only [if_neg e]
  refine M.keep k fun t q hq=>?_
  rcases q with rfl | rfl | rfl | q
  ·cases hq
  ·cases hq
  ·cases hq
  ·rw [hq] at q; exact e (Option.some.inj q)
theorem nodes_rd {o:Ow} {h:Hp} {wb:Nat} {nbs:Nat→Nat} {WA0:WA} {fl:List Ltr} {bad:Nat→Int} {told:List Tld} (W:WorldAt o h wb nbs WA0 fl bad told) :
  ∃ b off c,WA0.nodes=.slice (some ⟨b,off,none⟩) 5 c∧5≤c∧b<h.size∧∀ i,i<5→hc h ⟨b,off+i,none⟩=some (ptrV (nbs i)):=by
 rcases W.nodes with ⟨_,e,_⟩ | ⟨b,off,cap,pre,spare,g1,g2,g3,g4,g5,g6,g7⟩
 ·cases e
 refine ⟨b,off,cap,g2,g7,lt_of_get g3,fun i hi=>?_⟩
 rw [hc_last g3,nth_eq,← g4,List.getElem?_append_right (by omega),Nat.add_sub_cancel_left]
 match i,hi with
 | 0,_=>rfl
 | 1,_=>rfl
 | 2,_=>rfl
 | 3,_=>rfl
 | 4,_=>rfl
theorem append_lt {T:World} {K:Value→Hp→Prop} {ty:TypeId} {o:Ow} {t:Tg} {h:Hp} {v:Value} {l:List Ltr} {x:Ltr} {w:Value} {bx:Nat} {cb:Array Bool} (s:LtsAt o t h v l) (d:Dom o h) (iv:ImV o h w x.vs) (hb:h[bx]? = some (.cells (ltC x w).toArray 98)) (hr:l.length≤1000000000000)
  (H:∀ p c o' h',LtsAt o' t h' (.slice p (l.length+1) c) (l++[x])→Kp (fun u=>u=t) o h o' h'→K (.slice p (l.length+1) c) h') :
  vBi Tryz.prog T .append #[53,53] ty cb [v,.slice (some ⟨bx,0,none⟩) 1 1] K h:=by
 have src:Sl 14 h (.slice (some ⟨bx,0,none⟩) 1 1) 1 (ltC x w):=⟨_,1,rfl,rfl,fun _=>⟨bx,0,rfl,fun i hi=>by
  rw [hc_last hb,nth_eq,Nat.zero_add]; exact List.getElem?_eq_getElem hi⟩⟩
 obtain ⟨p,c,hw⟩:=iv.isSlice
 have hone:oneC w=true:=by rw [hw]; rfl
 obtain ⟨xs,hx1,hx2,hx3⟩:=s
 have hxl:xs.length=l.length:=by rw [← hx1,List.length_map]
 refine append_tag (E:=98) (n:=14) (bytes:=128) (k:=1) tsl53 Tryz.underlying53 tn98 tz98 rfl tb98 hx2 d src (by rw [ltC,List.all_eq_true]; intro x hx; simp at hx; rcases hx with rfl | rfl | rfl | rfl | rfl | rfl | rfl | rfl | rfl | rfl | rfl | rfl | rfl | rfl <;> first | rfl | exact hone) (by omega) (by omega) ?_
 intro v' o' h' w' k _
 obtain ⟨p',c',rfl,_⟩:=w'.isSlice
 rw [hxl]
 refine H p' c' o' h' ⟨xs++[(x,w)],by rw [List.map_append,hx1]; rfl,?_,fun y hy=>?_⟩ k
 ·rw [encs_append,encs_one,List.length_append,← hxl]
  exact w'
 ·rcases List.mem_append.1 hy with hy | hy
  ·exact (hx3 y hy).keep k
  ·have:y=(x,w):=by simpa using hy
   subst this
   exact iv.keep k
theorem lts_slice {o:Ow} {t:Tg} {h:Hp} {v:Value} {l:List Ltr} (s:LtsAt o t h v l):∃ p c,v=.slice p l.length c∧l.length≤c:=by
 obtain ⟨xs,h1,h2,_⟩:=s
 obtain ⟨p,c,h3,h4⟩:=h2.isSlice
 rw [← h1,List.length_map]
 exact ⟨p,c,h3,h4⟩
set_option maxHeartbeats 4000000 in
theorem come_ok (T:World) (h:Hp) (o:Ow) (wb:Nat) (nbs:Nat→Nat) (WA0:WA) (w:Wd) (l:Ltr) (v:Value) (d:Dom o h) (A:AllAt o h wb nbs WA0 w) (iv:ImV o h v l.vs) (hto:0≤l.to∧l.to<5)
  (hib:∀ i,i<5→(w.nodes i).inbox.length≤1000000000000) :
  CallsH Tryz.prog T 27 #[ptrV wb,.agg (ltC l v).toArray] h fun v' h'=>∃ o',Kp someT o h o' h'∧AllAt o' h' wb nbs WA0 (come w l):=by
 obtain ⟨pw,cw,rfl⟩:=iv.isSlice
 obtain ⟨j,hj⟩:∃ j:Nat,(j:Int)=l.to:=⟨l.to.toNat,by omega⟩
 have hj5:j<5:=by omega
 have hjn:l.to.toNat=j:=by omega
 refine CallsH.of_code' (args:=[_,_]) Tryz.func27 rfl rfl rfl rfl ?_
 unfold ptrV ltC
 obtain ⟨h1,hh1⟩:∃ h1:Hp,h1=h.push (.cells (ltC l (.slice pw l.vs.length cw)).toArray 98):=⟨_,rfl⟩
 have k1:Kp noT o h o h1:=by rw [hh1]; exact kp_push d _
 have x3:BoxAt o h1 h.size (.cells (ltC l (.slice pw l.vs.length cw)).toArray 98):=⟨d _ (Nat.le_refl _),by rw [hh1]; exact get_push_last⟩
 have e0:=hh1.symm
 unfold ltC at e0
 have A1:=A.still k1
 have R1:=world_rd A1.wd.blk.2
 obtain ⟨b,off,c,hn,hc5,hb,hrd⟩:=nodes_rd A1.wd
 have Rn:=R1.nodes
 rw [hn] at Rn
 have hwb:=lt_of_get A1.wd.blk.2
 have r3:hc h1 ⟨h.size,2,none⟩=some (.int .i64 j):=by rw [hj]; exact hc_last x3.2
 have l3:=lt_of_get x3.2
 have rj:=hrd j hj5
 unfold ptrV at rj
 have hj5':(j:Int)<5:=by omega
 simp -implicitDefEqProofs (maxSteps:=2000000) only [go_sem,↓reduceIte,e0]
 refine VS.mono (N:=fun F' g'=>Bel h1.size h1 g'∧F' 3=.pointer (some ⟨h.size,0,none⟩)∧F' 4=.pointer (some ⟨nbs j,0,none⟩)) ?_ ?_ (fun _ _ _ h=>h) (fun _ _ h=>h)
 ·refine VS.z (h1.size) [] (.p 0 (.p 1 (.p 2 (.q 3 (.p 4 (.q 5 (.p 6 (.q 7 (.p 8 .nil))))))))) mixed (by kernel_rfl) ?_
  simp -implicitDefEqProofs (maxSteps:=2000000) only [go_sem,↓reduceIte,Rn,r3,hwb,l3,hb,hj5',rj]
  try exact Bel.refl _ _
 rintro F1 g1 ⟨b1,f3,f4⟩
 have kb:=kp_still k1.dom b1
 have A2:=A1.still kb
 have K2:=k1.trans kb
 have y3:=x3.keep kb
 obtain ⟨a,N2⟩:=A2.nd j hj5
 have P2:=node_rd N2.blk.2 N2.pt.store.len
 have P2u:=P2.up
 have hnb:=lt_of_get N2.blk.2
 unfold come
 rw [hjn]
 cases hu:(w.nodes j).up with
 | false=>
  rw [hu] at P2u
  rw [if_neg (by simp)]
  simp -implicitDefEqProofs (maxSteps:=2000000) only [go_sem,↓reduceIte,f4,P2u]
  exact ⟨o,kp_any K2,A2⟩
 | true=>
  rw [hu] at P2u
  rw [if_pos rfl]
  obtain ⟨pi,ci,hi,_⟩:=lts_slice N2.pt.inbox
  have P2i:=P2.inbox
  rw [hi] at P2i
  have r3:rd g1 ⟨h.size,0,none⟩ 14=some (ltC l (.slice pw l.vs.length cw)):=rd_last y3.2 rfl
  unfold ltC at r3
  have l3:=lt_of_get y3.2
  simp -implicitDefEqProofs (maxSteps:=2000000) only [go_sem,↓reduceIte,f4,P2u]
  refine VS.z (g1.size) [7,10] (.p 0 (.p 1 (.p 2 (.p 3 (.q 4 (.q 5 (.s 6 (.w 7 (.p 8 (.p 9 (.w 10 .nil))))))))))) mixed (by kernel_rfl) ?_
  simp -implicitDefEqProofs (maxSteps:=2000000) only [go_sem,↓reduceIte,f3,f4,P2i,r3,hnb,l3]
  obtain ⟨g2,hg2⟩:∃ g2:Hp,g2=g1.push (.cells (ltC l (.slice pw l.vs.length cw)).toArray 98):=⟨_,rfl⟩
  have k2:Kp noT o g1 o g2:=by rw [hg2]; exact kp_push K2.dom _
  have e2:=hg2.symm
  unfold ltC at e2
  rw [e2]
  have N3:=N2.still k2
  have A3:=A2.still k2
  have K3:=K2.trans k2
  have LI:=N3.pt.inbox
  rw [hi] at LI
  refine append_lt LI K3.dom ((iv.keep K2).keep k2) (by rw [hg2]; exact get_push_last) (hib j hj5) ?_
  intro p3 c3 o3 g3 L3 k3
  have k3:Kp (fun t=>t=.inbox j) o g2 o3 g3:=k3
  have N4:=NodePt.keepInbox N3.pt k3 L3
  have B4:=N3.blk.keep k3 (by intro e; cases e)
  have W4:=A3.wd.keep k3 (by rintro t rfl; simp [Tg.of])
  obtain ⟨g5,w5,N5,k5⟩:=NodePt.write N4 k3.dom B4 ((node_wr B4.2 N3.pt.store.len).inbox (.slice p3 ((w.nodes j).inbox.length+1) c3) rfl)
  have hnb4:=lt_of_get B4.2
  simp -implicitDefEqProofs (maxSteps:=2000000) only [go_sem,↓reduceIte,w5,hnb4]
  have W5:=W4.keep k5 (by rintro t rfl; simp [Tg.of])
  have kk:Kp (fun t=>t.of=some j) o g2 o3 g5:=(k3.mono fun t q=>by rw [q]; rfl).trans (k5.mono fun t q=>by rw [q]; rfl)
  exact ⟨o3,(kp_any K3).trans (kk.mono fun t q=>⟨j,q⟩),A3.turn (kk.mono fun t q=>.inr (.inr (.inr q))) N5 W5⟩
theorem lts_get {o:Ow} {t:Tg} {h:Hp} {v:Value} {l:List Ltr} (s:LtsAt o t h v l) (k:Nat) (hk:k<l.length) :
  ∃ w b off c,v=.slice (some ⟨b,off,none⟩) l.length c∧l.length≤c∧b<h.size∧rd h ⟨b,off+k*14,none⟩ 14=some (ltC l[k] w)∧ImV o h w l[k].vs:=by
 obtain ⟨xs,rfl,h2,h3⟩:=s
 rw [List.length_map] at hk
 rcases h2 with ⟨_,e,_⟩ | ⟨b,off,cap,pre,spare,g1,rfl,g3,g4,g5,g6,g7⟩
 ·omega
 refine ⟨xs[k].2,b,off,cap,by rw [List.length_map],by rw [List.length_map]; exact g7,lt_of_get g3,?_,?_⟩
 ·have hlen:∀ x,(lwC x).length=14:=fun x=>rfl
  have hle:k*14+14≤xs.length*14:=by omega
  rw [rd_part g3 (by simp only [List.length_append]; omega),← g4,List.drop_append,List.drop_of_length_le (by omega),List.nil_append,Nat.add_sub_cancel_left]
  rw [List.drop_append_of_le_length (by omega),List.take_append_of_le_length (by rw [List.length_drop]; omega)]
  rw [encs_drop hlen xs k (by omega),List.drop_eq_getElem_cons hk]
  have e1:encs lwC (xs[k] :: xs.drop (k+1))=ltC xs[k].1 xs[k].2++encs lwC (xs.drop (k+1)):=by simp [encs,lwC]
  rw [e1,List.getElem_map]
  rfl
 ·rw [List.getElem_map]
  exact h3 _ (List.getElem_mem hk)
theorem lts_erase {o':Ow} {t:Tg} {h':Hp} {xs:List (Ltr × Value)} {v:Value} {k:Nat} (hk:k<xs.length) (h2:OwnT o' t 98 14 h' v (xs.length - 1) ((encs lwC xs).take (k*14)++(encs lwC xs).drop ((k+1)*14))) (h3:∀ x∈xs,ImV o' h' x.2 x.1.vs) :
  LtsAt o' t h' v ((xs.map (·.1)).eraseIdx k):=by
 have hlen:∀ x,(lwC x).length=14:=fun x=>rfl
 have el:(xs.eraseIdx k).length=xs.length - 1:=by rw [List.length_eraseIdx_of_lt hk]
 refine ⟨xs.eraseIdx k,?_,?_,fun x hx=>h3 x (List.mem_of_mem_eraseIdx hx)⟩
 ·rw [List.eraseIdx_eq_take_drop_succ,List.eraseIdx_eq_take_drop_succ,List.map_append,List.map_take,List.map_drop]
 ·rw [el]
  have e1:encs lwC (xs.eraseIdx k)=(encs lwC xs).take (k*14)++(encs lwC xs).drop ((k+1)*14):=by
   rw [encs_take hlen xs k (by omega),encs_drop hlen xs (k+1) (by omega),← encs_append,List.eraseIdx_eq_take_drop_succ]
  rw [e1]
  exact h2
theorem WorldAt.putFlying {o o1:Ow} {h h1:Hp} {wb:Nat} {nb:Nat→Nat} {a:WA} {fl fl':List Ltr} {bad:Nat→Int} {told:List Tld} {v:Value} (W:WorldAt o h wb nb a fl bad told) (k:Kp (fun t=>t=.flying) o h o1 h1)
  (hv:LtsAt o1 .flying h1 v fl') {e:Option Hp} (w:e=some (h1.setIfInBounds wb (.cells (worldC bad { a with flying:=v }).toArray 55))) :
  ∃ g,e=some g∧WorldAt o1 g wb nb { a with flying:=v } fl' bad told∧Kp (fun t=>t=.world) o1 h1 o1 g:=by
 have b:=W.blk.keep k (by intro e; cases e)
 have kk:Kp (fun t=>t=.world) o1 h1 o1 (h1.setIfInBounds wb (.cells (worldC bad { a with flying:=v }).toArray 55)):=(Kp.refl k.dom (fun t=>t=.world)).set b.1 rfl _
 exact ⟨_,w,⟨⟨b.1,get_set b.2⟩,(W.nodes.keep k (by intro e; cases e)).keep kk (by intro e; cases e),hv.keep kk (by intro e; cases e),(W.told.keep k (by intro e; cases e)).keep kk (by intro e; cases e)⟩,kk⟩
theorem AllAt.flew {S:Tg→Prop} {o o':Ow} {h h':Hp} {wb:Nat} {nbs:Nat→Nat} {WA0 WA1:WA} {w:Wd} {fl:List Ltr} {bad:Nat→Int} {told:List Tld} (A:AllAt o h wb nbs WA0 w) (k:Kp S o h o' h') (hn:∀ t,S t→t.of=none) (W:WorldAt o' h' wb nbs WA1 fl bad told) :
  AllAt o' h' wb nbs WA1 { w with flying:=fl,bad:=bad,told:=told }:=
 ⟨W,fun i hi=>by obtain ⟨a,N⟩:=A.nd i hi; exact ⟨a,N.keep k fun t q e=>by rw [hn t q] at e; cases e⟩⟩
theorem oneC_lw {o:Ow} {h:Hp}:∀ (xs:List (Ltr × Value)),(∀ x∈xs,ImV o h x.2 x.1.vs)→(encs lwC xs).all oneC=true:=by
 intro xs
 induction xs with
 | nil=>intro _; rfl
 | cons x xs ih=>
  intro hx
  have e1:encs lwC (x :: xs)=lwC x++encs lwC xs:=by simp [encs]
  obtain ⟨p,c,hw⟩:=(hx x (by simp)).isSlice
  rw [e1,List.all_append,ih (fun y hy=>hx y (by simp [hy])),Bool.and_true]
  unfold lwC
  rw [hw]; rfl
set_option maxHeartbeats 4000000 in
theorem wpick_ok (T:World) (h:Hp) (o:Ow) (wb:Nat) (nbs:Nat→Nat) (WA0:WA) (w:Wd) (at':Nat) (comes stays:Bool) (d:Dom o h) (A:AllAt o h wb nbs WA0 w) (hto:∀ l∈w.flying,0≤l.to∧l.to<5)
  (hfl:w.flying.length≤1000000000000) (hib:∀ i,i<5→(w.nodes i).inbox.length≤1000000000000) :
  CallsH Tryz.prog T 26 #[ptrV wb,.int .i64 at',.bool comes,.bool stays] h fun v' h'=>∃ o' WA',Kp anyT o h o' h'∧AllAt o' h' wb nbs WA' (pick w at' comes stays):=by
 refine CallsH.of_code' (args:=[_,_,_,_]) Tryz.func26 rfl rfl rfl rfl ?_
 unfold ptrV
 have R:=world_rd A.wd.blk.2
 have Rf:=R.flying
 have hwb:=lt_of_get A.wd.blk.2
 obtain ⟨pf,cf,hf,hfc⟩:=lts_slice A.wd.flying
 rw [hf] at Rf
 by_cases hz:w.flying.length=0
 ·have hp:pick w at' comes stays=w:=by
   unfold pick
   rw [List.getElem?_eq_none (by rw [hz]; exact Nat.zero_le _)]
  rw [hp]
  have hz':(w.flying.length:Int)=0:=by omega
  simp -implicitDefEqProofs (maxSteps:=2000000) only [go_sem,↓reduceIte,Rf,hz']
  exact ⟨o,WA0,Kp.refl d _,A⟩
 have hz':¬ (w.flying.length:Int)=0:=by omega
 obtain ⟨k,hk⟩:∃ k,k=at' % w.flying.length:=⟨_,rfl⟩
 have hkl:k<w.flying.length:=by rw [hk]; exact Nat.mod_lt _ (by omega)
 have ek:(at':Int).tmod (w.flying.length:Int)=(k:Int):=by rw [hk]; rfl
 have hkl':(k:Int)<w.flying.length:=by omega
 obtain ⟨v,b,off,c,hv,hvc,hb,hrd,iv⟩:=lts_get A.wd.flying k hkl
 rw [hf] at hv
 simp only [Value.slice.injEq] at hv
 obtain ⟨rfl,_,rfl⟩:=hv
 obtain ⟨l,hl⟩:∃ l,l=w.flying[k]:=⟨_,rfl⟩
 rw [← hl] at hrd iv
 have hlm:l∈w.flying:=by rw [hl]; exact List.getElem_mem hkl
 obtain ⟨pw,cw,rfl⟩:=iv.isSlice
 obtain ⟨h1,hh1⟩:∃ h1:Hp,h1=h.push (.cells (ltC l (.slice pw l.vs.length cw)).toArray 98):=⟨_,rfl⟩
 have k1:Kp noT o h o h1:=by rw [hh1]; exact kp_push d _
 have x9:BoxAt o h1 h.size (.cells (ltC l (.slice pw l.vs.length cw)).toArray 98):=⟨d _ (Nat.le_refl _),by rw [hh1]; exact get_push_last⟩
 have e0:=hh1.symm
 unfold ltC at e0 hrd
 have A1:=A.still k1
 have R1:=world_rd A1.wd.blk.2
 have R1f:=R1.flying
 rw [hf] at R1f
 have hwb1:=lt_of_get A1.wd.blk.2
 have r9:rd h1 ⟨h.size,0,none⟩ 14=some (ltC l (.slice pw l.vs.length cw)):=rd_last x9.2 rfl
 unfold ltC at r9
 have eg:w.flying[at' % w.flying.length]? = some l:=by rw [← hk,hl]; exact List.getElem?_eq_getElem hkl
 have ep:pick w at' comes stays=if comes=true then come (if stays=true then w else { w with flying:=w.flying.eraseIdx k }) l else (if stays=true then w else { w with flying:=w.flying.eraseIdx k }):=by
  unfold pick; rw [eg,hk]
 rw [ep]
 cases stays with
 | true=>
  rw [if_pos rfl]
  cases comes with
  | false=>
   rw [if_neg (by simp)]
   simp -implicitDefEqProofs (maxSteps:=2000000) only [go_sem,↓reduceIte,Rf,hz',ek,hkl',hrd,e0]
   exact ⟨o,WA0,kp_all k1,A1⟩
  | true=>
   rw [if_pos rfl]
   have cc:=come_ok T h1 o wb nbs WA0 w l (.slice pw l.vs.length cw) k1.dom A1 (iv.keep k1) (hto l hlm) hib
   unfold ptrV ltC at cc
   simp -implicitDefEqProofs (maxSteps:=2000000) only [go_sem,↓reduceIte,Rf,hz',ek,hkl',hrd,e0,r9]
   refine cc.use ?_
   rintro v' g ⟨o',kk,A'⟩
   simp -implicitDefEqProofs (maxSteps:=2000000) only [go_sem,↓reduceIte]
   exact ⟨o',WA0,(kp_all k1).trans (kp_all kk),A'⟩
 | false=>
  rw [if_neg (show ¬ (false=true) by simp)]
  obtain ⟨xs,hx1,hx2,hx3⟩:=A1.wd.flying
  have hxl:xs.length=w.flying.length:=by rw [← hx1,List.length_map]
  have cd:=deleteLt_ok T h1 o .flying WA0.flying xs.length k (encs lwC xs) hx2 k1.dom (oneC_lw xs hx3) (by omega) (by omega)
  rw [hf] at cd
  have ek2:(k:Int)+1=((k:Int)+1):=rfl
  simp -implicitDefEqProofs (maxSteps:=2000000) only [go_sem,↓reduceIte,Rf,hz',ek,hkl',hrd,e0,R1f]
  refine cd.use ?_
  rintro v2 g2 ⟨L2,k2⟩
  have k2:Kp (fun t=>t=.flying) o h1 o g2:=k2
  have L3:LtsAt o .flying g2 v2 (w.flying.eraseIdx k):=by
   rw [← hx1]
   exact lts_erase (by omega) L2 (fun x hx=>(hx3 x hx).keep k2)
  have B2:=A1.wd.blk.keep k2 (by intro e; cases e)
  obtain ⟨p2,c2,rfl,_⟩:=lts_slice L3
  obtain ⟨g3,w3,W3,k3⟩:=A1.wd.putFlying k2 L3 ((world_rd B2.2).wflying (.slice p2 (w.flying.eraseIdx k).length c2) rfl)
  have A3:AllAt o g3 wb nbs { WA0 with flying:=.slice p2 (w.flying.eraseIdx k).length c2 } { w with flying:=w.flying.eraseIdx k }:=
   A1.flew (S:=fun t=>t=.flying∨t=.world) ((k2.mono fun t q=>.inl q).trans (k3.mono fun t q=>.inr q)) (by rintro t (rfl | rfl) <;> rfl) W3
  have hwb2:=lt_of_get B2.2
  have y9:=(x9.keep k2).keep k3
  have r9:rd g3 ⟨h.size,0,none⟩ 14=some (ltC l (.slice pw l.vs.length cw)):=rd_last y9.2 rfl
  unfold ltC at r9
  have K3:Kp anyT o h o g3:=((kp_all k1).trans (kp_all k2)).trans (kp_all k3)
  cases comes with
  | false=>
   rw [if_neg (show ¬ (false=true) by simp)]
   simp -implicitDefEqProofs (maxSteps:=2000000) only [go_sem,↓reduceIte,w3,hwb2]
   exact ⟨o,_,K3,A3⟩
  | true=>
   rw [if_pos rfl]
   have cc:=come_ok T g3 o wb nbs _ _ l (.slice pw l.vs.length cw) k3.dom A3 (((iv.keep k1).keep k2).keep k3) (hto l hlm) hib
   unfold ptrV ltC at cc
   simp -implicitDefEqProofs (maxSteps:=2000000) only [go_sem,↓reduceIte,w3,hwb2,r9]
   refine cc.use ?_
   rintro v' g ⟨o',kk,A'⟩
   simp -implicitDefEqProofs (maxSteps:=2000000) only [go_sem,↓reduceIte]
   exact ⟨o',_,K3.trans (kp_all kk),A'⟩
theorem opnCm_C (rc:List Nat) (now:Int):opnC rc now=(opnCm rc now).C:=by
 unfold opnC opnCm
 split <;> rfl
theorem bad_rd {h:Hp} {wb:Nat} {bad:Nat→Int} {a:WA} (H:h[wb]? = some (.cells (worldC bad a).toArray 55)) (i:Nat) (hi:i<5) :
  hc h ⟨wb,9+i,none⟩=some (.int .i64 (bad i))∧∀ k,wr1 h ⟨wb,9+i,none⟩ (.int .i64 k)=some (h.setIfInBounds wb (.cells (worldC (fun j=>if j=i then k else bad j) a).toArray 55)):=by
 match i,hi with
 | 0,_=>exact ⟨hc_last H,fun k=>by rw [wr1_get H,if_pos ⟨by simp [worldC],rfl⟩]; rfl⟩
 | 1,_=>exact ⟨hc_last H,fun k=>by rw [wr1_get H,if_pos ⟨by simp [worldC],rfl⟩]; rfl⟩
 | 2,_=>exact ⟨hc_last H,fun k=>by rw [wr1_get H,if_pos ⟨by simp [worldC],rfl⟩]; rfl⟩
 | 3,_=>exact ⟨hc_last H,fun k=>by rw [wr1_get H,if_pos ⟨by simp [worldC],rfl⟩]; rfl⟩
 | 4,_=>exact ⟨hc_last H,fun k=>by rw [wr1_get H,if_pos ⟨by simp [worldC],rfl⟩]; rfl⟩
theorem addT_all {i:Nat} (t:Tg) (q:addT i t):allT i t:=by
 rcases q with rfl | rfl <;> exact .inr (.inr (.inr rfl))
theorem add_same (n:Nd) (x:Cm):(add n x).waiting=n.waiting∧(add n x).me=n.me:=by
 unfold add; split <;> exact ⟨rfl,rfl⟩
set_option maxHeartbeats 4000000 in
theorem submit_ok (T:World) (h:Hp) (o:Ow) (wb:Nat) (nbs:Nat→Nat) (WA0:WA) (w:Wd) (i:Nat) (rc:List Nat) (v:Value) (d:Dom o h) (A:AllAt o h wb nbs WA0 w) (hi:i<5) (hme:(w.nodes i).me=i) (iv:ImB o h v rc) (hcap:Cap v) (hrl:rc.length≤140737488355328) (tb:Tbs o h)
  (hq:(w.nodes i).queue.length≤1000000000000) (hl:(w.nodes i).log.length≤1000000000000) (hwt:(w.nodes i).waiting.length≤1000000000000) (ht:w.told.length≤1000000000000) (hb:0≤w.bad i∧w.bad i≤1000000000000) :
  CallsH Tryz.prog T 23 #[ptrV wb,ptrV (nbs i),v] h fun v' h'=>∃ o' WA',Kp anyT o h o' h'∧AllAt o' h' wb nbs WA' (submit w i rc):=by
 obtain ⟨pv,cv,rfl⟩:=iv.1.isSlice
 refine CallsH.of_code' (args:=[_,_,_]) Tryz.func23 rfl rfl rfl rfl ?_
 unfold ptrV
 obtain ⟨a,N⟩:=A.nd i hi
 obtain ⟨n,hn⟩:∃ n,n=w.nodes i:=⟨_,rfl⟩
 unfold submit
 rw [← hn] at N hme hq hl hwt ⊢
 have P:=node_rd N.blk.2 N.pt.store.len
 have hnb:=lt_of_get N.blk.2
 have Pu:=P.up
 cases hu:n.up with
 | false=>
  rw [hu] at Pu
  rw [if_neg (by simp)]
  simp -implicitDefEqProofs (maxSteps:=2000000) only [go_sem,↓reduceIte,Pu]
  exact ⟨o,WA0,Kp.refl d _,A⟩
 | true=>
 rw [hu] at Pu
 rw [if_pos rfl]
 have Pl:=P.log
 obtain ⟨pl,cl,hpl,_⟩:=OwnT.isSlice N.pt.log
 have hpl:a.log=.slice pl n.log.length cl:=hpl
 rw [hpl] at Pl
 obtain ⟨E,hE⟩:∃ E,E=opnErr rc n.log.length:=⟨_,rfl⟩
 obtain ⟨x,hx⟩:∃ x,x=opnCm rc n.log.length:=⟨_,rfl⟩
 have co:=open2_ok T h (.slice pv rc.length cv) rc n.log.length iv.bs hcap hrl tb.tk tb.tn
 rw [opnCm_C,← hE,← hx] at co
 rw [← hE,← hx]
 simp -implicitDefEqProofs (maxSteps:=2000000) only [go_sem,↓reduceIte,Pu,Pl]
 refine co.use ?_
 rintro _ g ⟨rfl,b⟩
 have kb:=kp_still d b
 obtain ⟨g1,hg1⟩:∃ g1:Hp,g1=g.push (.cells x.C.toArray 77):=⟨_,rfl⟩
 have e1:=hg1.symm
 have k1:Kp noT o h o g1:=by rw [hg1]; exact kb.push _
 have x6:BoxAt o g1 g.size (.cells x.C.toArray 77):=⟨kb.dom _ (Nat.le_refl _),by rw [hg1]; exact get_push_last⟩
 have A1:=A.still k1
 have N1:=N.still k1
 have P1:=node_rd N1.blk.2 N1.pt.store.len
 have P1me:=P1.me
 rw [hme] at P1me
 have hnb1:=lt_of_get N1.blk.2
 have hwb1:=lt_of_get A1.wd.blk.2
 obtain ⟨br,bw⟩:=bad_rd A1.wd.blk.2 i hi
 have r6:rd g1 ⟨g.size,0,none⟩ 5=some x.C:=rd_last x6.2 rfl
 have l6:=lt_of_get x6.2
 have hi5:(i:Int)<5:=by omega
 by_cases hz:E=0
 case neg=>
  rw [if_pos (by simpa using hz)]
  simp -implicitDefEqProofs (maxSteps:=2000000) only [go_sem,↓reduceIte,e1,hz]
  refine VS.z (g1.size) [15] (.p 0 (.p 1 (.p 2 (.p 3 (.q 4 (.p 5 (.p 6 (.p 7 (.p 8 (.q 9 (.p 10 (.p 11 (.p 12 (.p 13 (.p 14 (.w 15 .nil)))))))))))))))) mixed (by kernel_rfl) ?_
  simp -implicitDefEqProofs (maxSteps:=2000000) only [go_sem,↓reduceIte,P1me,hnb1,hwb1,hi5,br,bw]
  have kk:Kp (fun t=>t=.world) o g1 o (g1.setIfInBounds wb (.cells (worldC (fun j=>if j=i then w.bad i+1 else w.bad j) WA0).toArray 55)):=(Kp.refl k1.dom (fun t=>t=.world)).set A1.wd.blk.1 rfl _
  exact ⟨o,WA0,(kp_all k1).trans (kp_all kk),A1.flew kk (by rintro t rfl; rfl) ⟨⟨A1.wd.blk.1,get_set A1.wd.blk.2⟩,A1.wd.nodes.keep kk (by intro e; cases e),A1.wd.flying.keep kk (by intro e; cases e),A1.wd.told.keep kk (by intro e; cases e)⟩⟩
 rw [if_neg (by simpa using hz)]
 have P1l:hc g1 ⟨nbs i,11,none⟩=some a.log:=P1.log
 simp -implicitDefEqProofs (maxSteps:=2000000) only [go_sem,↓reduceIte,e1,hz]
 obtain ⟨J,hJ⟩:∃ J,J=idxI n.log x:=⟨_,rfl⟩
 refine VS.mono (N:=fun F' g'=>Bel g1.size g1 g'∧F' 0=.pointer (some ⟨wb,0,none⟩)∧F' 1=.pointer (some ⟨nbs i,0,none⟩)∧F' 6=.pointer (some ⟨g.size,0,none⟩)∧F' 8=.int .i64 J) ?_ ?_ (fun _ _ _ h=>h) (fun _ _ h=>h)
 ·refine VS.z (g1.size) [5] (.p 0 (.p 1 (.p 2 (.q 3 (.q 4 (.w 5 (.p 6 .nil))))))) mixed (by kernel_rfl) ?_
  simp -implicitDefEqProofs (maxSteps:=2000000) only [go_sem,↓reduceIte,P1l,r6,hnb1,l6]
  refine (indexCm_ok T g1 _ n.log x N1.pt.log.ts (by omega)).use ?_
  rintro _ g2 ⟨rfl,b2⟩
  simp -implicitDefEqProofs (maxSteps:=2000000) only [go_sem,↓reduceIte,b2,hJ]
 rintro F2 g2 ⟨b2,f0,f1,f6,f8⟩
 have kb2:=kp_still k1.dom b2
 have A2:=A1.still kb2
 have N2:=N1.still kb2
 have y6:=x6.keep kb2
 have K2:Kp noT o h o g2:=k1.trans kb2
 have P2:=node_rd N2.blk.2 N2.pt.store.len
 have P2me:=P2.me
 rw [hme] at P2me
 have hnb2:=lt_of_get N2.blk.2
 have hwb2:=lt_of_get A2.wd.blk.2
 have r62:rd g2 ⟨g.size,0,none⟩ 5=some x.C:=rd_last y6.2 rfl
 have l62:=lt_of_get y6.2
 clear r6 l6 hnb1 hwb1 br bw P1 P1me P1l e1
 by_cases hm:x∈n.log
 ·have hJ0:0≤J:=by rw [hJ]; exact (idxI_mem _ _).2 hm
  rw [if_pos hm]
  have call:=fun G=>do_call T G n.store N2.pt.store x
  have P2s:rd g2 ⟨nbs i,12,none⟩ 40=some n.store:=P2.store
  obtain ⟨D,hDe⟩:∃ D,D=doSt n.store x:=⟨_,rfl⟩
  obtain ⟨E2,hE2⟩:∃ E2,E2=chnE n.store x:=⟨_,rfl⟩
  obtain ⟨c1,hc1⟩:∃ c1,c1=doCode n.store x:=⟨_,rfl⟩
  obtain ⟨c2,hc2⟩:∃ c2,c2=doVal n.store x:=⟨_,rfl⟩
  have hD:=N2.pt.store.do x
  rw [← hDe] at hD
  rw [← hDe,← hE2,← hc1,← hc2] at call
  rw [← hc1,← hc2]
  have hD1:=hD.len
  have hD2:=hD.one
  unfold cmA at call
  have hl2:=lput_full (zs:=storeZ) (vs:=D) (by rw [hD1]; rfl)
  unfold storeZ at hl2
  simp only [rep,List.cons_append,List.nil_append] at hl2
  have wA:∀ (G:Hp) (k:Nat),G[k]? = some (.cells storeZ.toArray 72)→wr G ⟨k,0,none⟩ D=some (G.setIfInBounds k (.cells D.toArray 72)):=fun G k hx=>by
   rw [wr_get hx 0 D,lput_full (by rw [hD1]; rfl),if_pos ⟨by rw [hD1]; simp [storeZ,rep],hD2⟩]
  have wB:∀ (G:Hp) (k:Nat),G[k]? = some (.cells [.int .i64 0,.int .i64 0].toArray 68)→wr G ⟨k,0,none⟩ [.int .i64 c1,.int .i64 c2]=some (G.setIfInBounds k (.cells [.int .i64 c1,.int .i64 c2].toArray 68)):=fun G k hx=>by
   rw [wr_get hx 0 _]; rfl
  have gl:∀ (G:Hp) (X Y:Obj),((G.push X).push Y)[G.size]? = some X:=fun G X Y=>by rw [get_push_ne (by simp),get_push_last]
  have gs:∀ (G:Hp) (k:Nat) (X Y:Obj),((G.setIfInBounds k X).push Y)[G.size]? = some Y:=fun G k X Y=>by
   have:=get_push_last (h:=G.setIfInBounds k X) (o:=Y); rwa [Array.size_setIfInBounds] at this
  have gl':=gs
  have gr:∀ (G:Hp) (X Y:Obj),((G.push X).push Y)[G.size+1]? = some Y:=fun G X Y=>by
   have:=get_push_last (h:=G.push X) (o:=Y); rwa [Array.size_push] at this
  simp -implicitDefEqProofs (maxSteps:=2000000) only [go_sem,↓reduceIte,f8,hJ0]
  refine VS.mono (N:=fun F' g'=>Bel g2.size g2 g'∧F' 0=.pointer (some ⟨wb,0,none⟩)∧F' 1=.pointer (some ⟨nbs i,0,none⟩)∧F' 6=.pointer (some ⟨g.size,0,none⟩)∧∃ B,F' 10=.pointer (some ⟨B,0,none⟩)∧g2.size≤B∧g'[B]? = some (.cells [.int .i64 c1,.int .i64 c2].toArray 68)) ?_ ?_ (fun _ _ _ h=>h) (fun _ _ h=>h)
  ·refine VS.z (g2.size) [5,12,13] (.p 0 (.p 1 (.p 2 (.q 3 (.q 4 (.or 5 (.p 6 (.p 7 (.p 8 (.p 9 (.or 10 (.s 11 (.w 12 (.w 13 (.p 14 .nil)))) (.s 11 (.s 10 (.w 12 (.w 13 (.p 14 .nil)))))))))) (.or 10 (.or 5 (.p 6 (.p 7 (.p 8 (.p 9 (.s 11 (.w 12 (.w 13 (.p 14 .nil)))))))) (.s 11 (.w 5 (.p 6 (.p 7 (.p 8 (.p 9 (.w 12 (.w 13 (.p 14 .nil)))))))))) (.s 11 (.or 5 (.p 6 (.p 7 (.p 8 (.p 9 (.s 10 (.w 12 (.w 13 (.p 14 .nil)))))))) (.s 10 (.w 5 (.p 6 (.p 7 (.p 8 (.p 9 (.w 12 (.w 13 (.p 14 .nil)))))))))))))))))) mixed (by kernel_rfl) ?_
   simp -implicitDefEqProofs (maxSteps:=2000000) only [go_sem,↓reduceIte,f0,f1,f6,P2s,hnb2,l62,r62]
   repeat' (first | with_reducible exact Bel.refl _ _ | with_reducible exact Bel.push (by omega) _ | with_reducible refine And.intro ?_ ?_)
   all_goals first
    | (refine (call g2).use ?_
       rintro _ g5 ⟨rfl,b5⟩
       have s5:=b5.size
       simp -implicitDefEqProofs (maxSteps:=2000000) only [go_sem,↓reduceIte,b5,hD1,hD2,hl2]
       refine ⟨⟨f0,f1,f6,_,rfl,by omega,gr _ _ _⟩,⟨f0,f1,f6,_,rfl,s5,gl _ _ _⟩⟩)
    | (refine (call (g2.push (.cells _ 72))).use ?_
       rintro _ g5 ⟨rfl,b5⟩
       have s5:=b5.size
       rw [Array.size_push] at s5
       have B5:Bel g2.size g2 g5:=(Bel.push (Nat.le_refl _) _).trans (b5.mono (by simp))
       have xA:=b5.get (k:=g2.size) (by simp) get_push_last
       have wA5:=wA _ _ xA
       have zA:=lt_of_get xA
       simp -implicitDefEqProofs (maxSteps:=2000000) only [go_sem,↓reduceIte,B5,hD1,hD2,wA5,zA]
       exact ⟨f0,f1,f6,_,rfl,by omega,gs _ _ _ _⟩)
    | (refine (call (g2.push (.cells _ 68))).use ?_
       rintro _ g5 ⟨rfl,b5⟩
       have s5:=b5.size
       rw [Array.size_push] at s5
       have B5:Bel g2.size g2 g5:=(Bel.push (Nat.le_refl _) _).trans (b5.mono (by simp))
       have xB:=b5.get (k:=g2.size) (by simp) get_push_last
       have wB5:=wB _ _ xB
       have zB:=lt_of_get xB
       have gB:=get_set (o:=.cells [.int .i64 c1,.int .i64 c2].toArray 68) xB
       simp -implicitDefEqProofs (maxSteps:=2000000) only [go_sem,↓reduceIte,B5,hD1,hD2,wB5,hl2,zB]
       exact ⟨f0,f1,f6,_,rfl,Nat.le_refl _,by rw [get_push_ne (by simpa using zB)]; exact gB⟩)
    | (refine (call ((g2.push (.cells _ 72)).push (.cells _ 68))).use ?_
       rintro _ g5 ⟨rfl,b5⟩
       have s5:=b5.size
       rw [Array.size_push,Array.size_push] at s5
       have B5:Bel g2.size g2 g5:=((Bel.push (Nat.le_refl _) _).addP (by simp) _).trans (b5.mono (by simp; omega))
       have xA:=b5.get (k:=g2.size) (by simp; omega) (gl _ _ _)
       have xB:=b5.get (k:=g2.size+1) (by simp) (gr _ _ _)
       have wA5:=wA _ _ xA
       have zA:=lt_of_get xA
       have xB':=(get_set_ne (o:=.cells D.toArray 72) (show g2.size≠g2.size+1 by omega)).trans xB
       have wB5:=wB _ _ xB'
       have zB:=lt_of_get xB'
       simp -implicitDefEqProofs (maxSteps:=2000000) only [go_sem,↓reduceIte,B5,hD1,hD2,wA5,zA,wB5,zB]
       exact ⟨f0,f1,f6,_,rfl,by omega,get_set xB'⟩)
    | (refine (call ((g2.push (.cells _ 68)).push (.cells _ 72))).use ?_
       rintro _ g5 ⟨rfl,b5⟩
       have s5:=b5.size
       rw [Array.size_push,Array.size_push] at s5
       have B5:Bel g2.size g2 g5:=((Bel.push (Nat.le_refl _) _).addP (by simp) _).trans (b5.mono (by simp; omega))
       have xB:=b5.get (k:=g2.size) (by simp; omega) (gl _ _ _)
       have xA:=b5.get (k:=g2.size+1) (by simp) (gr _ _ _)
       have wA5:=wA _ _ xA
       have zA:=lt_of_get xA
       have xB':=(get_set_ne (o:=.cells D.toArray 72) (show g2.size+1≠g2.size by omega)).trans xB
       have wB5:=wB _ _ xB'
       have zB:=lt_of_get xB'
       simp -implicitDefEqProofs (maxSteps:=2000000) only [go_sem,↓reduceIte,B5,hD1,hD2,wA5,zA,wB5,zB]
       exact ⟨f0,f1,f6,_,rfl,by omega,get_set xB'⟩)
  clear f0 f1 f6 f8
  rintro F5 g5 ⟨b5,f0,f1,f6,B,f10,hB,yB⟩
  have kb5:=kp_still K2.dom b5
  have A5:=A2.still kb5
  have N5:=N2.still kb5
  have z6:=y6.keep kb5
  have K5:Kp noT o h o g5:=K2.trans kb5
  have xB:BoxAt o g5 B (.cells [.int .i64 c1,.int .i64 c2].toArray 68):=⟨K2.dom _ hB,yB⟩
  have P5me:=(node_rd N5.blk.2 N5.pt.store.len).me
  have hnb5:=lt_of_get N5.blk.2
  have U5:=world_rd A5.wd.blk.2
  have hwb5:=lt_of_get A5.wd.blk.2
  have rx1:hc g5 ⟨g.size,1,none⟩=some (.int .i64 x.c):=hc_last z6.2
  have rx2:hc g5 ⟨g.size,2,none⟩=some (.int .i64 x.s):=hc_last z6.2
  have rB:rd g5 ⟨B,0,none⟩ 2=some [.int .i64 c1,.int .i64 c2]:=rd_last yB rfl
  have zx:=lt_of_get z6.2
  have zB:=lt_of_get yB
  refine VS.z (g5.size) [17,21] (.p 0 (.p 1 (.p 2 (.p 3 (.p 4 (.q 5 (.p 6 (.p 7 (.p 8 (.q 9 (.p 10 (.q 11 (.p 12 (.q 13 (.q 14 (.p 15 (.s 16 (.w 17 (.p 18 (.p 19 (.p 20 (.w 21 .nil)))))))))))))))))))))) mixed (by kernel_rfl) ?_
  simp -implicitDefEqProofs (maxSteps:=2000000) only [go_sem,↓reduceIte,f0,f1,f6,f10,U5.told,P5me,rx1,rx2,rB,hnb5,hwb5,zx,zB]
  have k6:=kp_push K5.dom (.cells (tldC ⟨n.me,x.c,x.s,c1,c2⟩).toArray 116)
  have A6:=A5.still k6
  refine append_told (l:=w.told) (x:=⟨n.me,x.c,x.s,c1,c2⟩) A6.wd.told k6.dom get_push_last ht ?_
  intro p7 c7 o7 g7 q7 k7
  have b7:=A6.wd.blk.keep k7 (by intro e; cases e)
  obtain ⟨g8,w8,W8,k8⟩:=A6.wd.putTold k7 q7 ((world_rd b7.2).wtold (.slice p7 _ c7) rfl)
  have z7:=lt_of_get b7.2
  simp -implicitDefEqProofs (maxSteps:=2000000) only [go_sem,↓reduceIte,w8,z7]
  have A8:=A6.flew (S:=fun t=>t=.told∨t=.world) ((k7.mono fun t q=>.inl q).trans (k8.mono fun t q=>.inr q)) (by rintro t (rfl | rfl) <;> rfl) W8
  exact ⟨o7,_,(((kp_all K5).trans (kp_all k6)).trans (kp_all k7)).trans (kp_all k8),A8⟩
 ·have hJ0:¬ 0≤J:=by rw [hJ]; exact fun e=>hm ((idxI_mem _ _).1 e)
  rw [if_neg hm]
  have ca:=add_ok T g2 o wb i (nbs i) a n x K2.dom N2 hq hl
  unfold ptrV cmA at ca
  simp -implicitDefEqProofs (maxSteps:=2000000) only [go_sem,↓reduceIte,f1,f6,f8,hJ0,r62]
  refine ca.use ?_
  rintro v3 g3 ⟨o3,a3,k3,N3⟩
  have k3a:Kp (allT i) o g2 o3 g3:=k3.mono addT_all
  obtain ⟨aw,am⟩:=add_same n x
  obtain ⟨m,hm2⟩:∃ m,m=add n x:=⟨_,rfl⟩
  rw [← hm2] at N3 aw am ⊢
  have W3:=A2.wd.keep k3 (by rintro t (rfl | rfl) <;> simp [Tg.of])
  have z6:=y6.keep k3
  have P3:=node_rd N3.blk.2 N3.pt.store.len
  have P3w:hc g3 ⟨nbs i,53,none⟩=some a3.waiting:=P3.waiting
  have hnb3:=lt_of_get N3.blk.2
  have r63:rd g3 ⟨g.size,0,none⟩ 5=some x.C:=rd_last z6.2 rfl
  have l63:=lt_of_get z6.2
  have hmw:m.waiting.length≤1000000000000:=by rw [aw]; exact hwt
  have K3:Kp anyT o h o3 g3:=(kp_all K2).trans (kp_all k3)
  simp -implicitDefEqProofs (maxSteps:=2000000) only [go_sem,↓reduceIte]
  refine VS.mono (N:=fun F' g'=>Bel g3.size g3 g'∧F' 1=.pointer (some ⟨nbs i,0,none⟩)∧F' 6=.pointer (some ⟨g.size,0,none⟩)∧F' 92=.bool (!decide (x∈m.waiting))) ?_ ?_ (fun _ _ _ h=>h) (fun _ _ h=>h)
  ·refine VS.z (g3.size) [5] (.p 0 (.p 1 (.p 2 (.q 3 (.q 4 (.w 5 (.p 6 .nil))))))) mixed (by kernel_rfl) ?_
   simp -implicitDefEqProofs (maxSteps:=2000000) only [go_sem,↓reduceIte,f1,f6,P3w,r63,hnb3,l63]
   refine (containsCm_ok T g3 _ m.waiting x N3.pt.waiting.ts (by omega)).use ?_
   rintro _ g4 ⟨rfl,b4⟩
   simp -implicitDefEqProofs (maxSteps:=2000000) only [go_sem,↓reduceIte,b4]
   exact ⟨f1,f6⟩
  clear f0 f1 f6
  rintro F4 g4 ⟨b4,f1,f6,f92⟩
  have kb4:=kp_still K3.dom b4
  have N4:=N3.still kb4
  have W4:=W3.still kb4
  have k4a:Kp (allT i) o g2 o3 g4:=k3a.trans (kp_any kb4)
  have K4:Kp anyT o h o3 g4:=K3.trans (kp_all kb4)
  by_cases hmw2:x∈m.waiting
  ·have e5:addQ m x=m:=by unfold addQ; rw [if_pos hmw2]
   rw [e5]
   simp -implicitDefEqProofs (maxSteps:=2000000) only [go_sem,↓reduceIte,f92,hmw2]
   exact ⟨o3,_,K4,A2.turn k4a N4 W4⟩
  ·have e5:addQ m x = { m with waiting:=m.waiting++[x] }:=by unfold addQ; rw [if_neg hmw2]
   rw [e5]
   have q6:=z6.keep kb4
   have P4w:=(node_rd N4.blk.2 N4.pt.store.len).waiting
   obtain ⟨pw,cw,hpw,_⟩:=OwnT.isSlice N4.pt.waiting
   have hpw:a3.waiting=.slice pw m.waiting.length cw:=hpw
   have P4w:hc g4 ⟨nbs i,53,none⟩=some (.slice pw m.waiting.length cw):=by rw [← hpw]; exact P4w
   have hnb4:=lt_of_get N4.blk.2
   have r64:rd g4 ⟨g.size,0,none⟩ 5=some x.C:=rd_last q6.2 rfl
   have l64:=lt_of_get q6.2
   simp -implicitDefEqProofs (maxSteps:=2000000) only [go_sem,↓reduceIte,f92,hmw2]
   refine VS.z (g4.size) [7,10] (.p 0 (.p 1 (.p 2 (.p 3 (.q 4 (.q 5 (.s 6 (.w 7 (.p 8 (.p 9 (.w 10 .nil))))))))))) mixed (by kernel_rfl) ?_
   simp -implicitDefEqProofs (maxSteps:=2000000) only [go_sem,↓reduceIte,f1,f6,P4w,r64,hnb4,l64]
   have k5:=kp_push K4.dom (.cells x.C.toArray 77)
   have N5:=N4.still k5
   have W5:=W4.still k5
   have Q5:=N5.pt.waiting
   rw [hpw] at Q5
   refine append_cm (l:=m.waiting) Q5 k5.dom get_push_last hmw ?_
   intro p6 c6 o6 g6 q7 k6
   have b6:=N5.blk.keep k6 (by intro e; cases e)
   obtain ⟨g7,w7,N7,k7⟩:=(N5.pt.keepWaiting k6 q7).write k6.dom b6 ((node_wr b6.2 N5.pt.store.len).waiting (.slice p6 (m.waiting.length+1) c6) rfl)
   have hnb6:=lt_of_get b6.2
   simp -implicitDefEqProofs (maxSteps:=2000000) only [go_sem,↓reduceIte,w7,hnb6]
   have kk:Kp (allT i) o g2 o6 g7:=((k4a.trans (kp_any k5)).trans (k6.mono fun t q=>.inr (.inr (.inr (by rw [q]; rfl))))).trans (k7.mono fun t q=>.inr (.inr (.inr (by rw [q]; rfl))))
   exact ⟨o6,_,(kp_all K2).trans (kp_all kk),A2.turn kk N7 ((W5.keep k6 (by rintro t rfl; simp [Tg.of])).keep k7 (by rintro t rfl; simp [Tg.of]))⟩
def blankT (i:Nat) (t:Tg):Prop:=t=.node i∨t=.known i
set_option maxHeartbeats 4000000 in
theorem blank_ok (T:World) (h:Hp) (o:Ow) (wb i:Nat) (dv:Value) (dat:List Nat) (syn:Int) (vv:Value) (acp:Acp) (d:Dom o h) (iD:ImB o h dv dat) (iV:ImV o h vv acp.l) :
  CallsH Tryz.prog T 22 #[.int .i64 i,.agg #[dv,.int .i64 syn],.agg #[.int .i64 acp.p.r,.int .i64 acp.p.n,vv]] h fun v' h'=>∃ nb o' a',v'=ptrV nb∧Bel h.size h h'∧Kp (blankT i) o h o' h'∧NodeAt o' h' wb i nb a' (blank i true dat syn acp):=by
 obtain ⟨pd,cd,rfl⟩:=iD.1.isSlice
 obtain ⟨pv,cv,rfl⟩:=iV.isSlice
 refine CallsH.of_code' (args:=[_,_,_]) Tryz.func22 rfl rfl rfl rfl ?_
 unfold ptrV
 obtain ⟨h1,hh1⟩:∃ h1:Hp,h1=(h.push (.cells [.slice pd dat.length cd,.int .i64 syn].toArray 58)).push (.cells [.int .i64 acp.p.r,.int .i64 acp.p.n,.slice pv acp.l.length cv].toArray 63):=⟨_,rfl⟩
 have k1:Kp noT o h o h1:=by rw [hh1]; exact ((Kp.refl d _).push _).push _
 have x4:BoxAt o h1 h.size (.cells [.slice pd dat.length cd,.int .i64 syn].toArray 58):=⟨d _ (Nat.le_refl _),by rw [hh1]; exact gl2 _ _ _⟩
 have x5:BoxAt o h1 (h.size+1) (.cells [.int .i64 acp.p.r,.int .i64 acp.p.n,.slice pv acp.l.length cv].toArray 63):=⟨d _ (by omega),by rw [hh1]; exact gr2 _ _ _⟩
 have e0:=hh1.symm
 have r4:rd h1 ⟨h.size,0,none⟩ 2=some [.slice pd dat.length cd,.int .i64 syn]:=rd_last x4.2 rfl
 have r5:rd h1 ⟨h.size+1,0,none⟩ 3=some [.int .i64 acp.p.r,.int .i64 acp.p.n,.slice pv acp.l.length cv]:=rd_last x5.2 rfl
 simp -implicitDefEqProofs (maxSteps:=2000000) only [go_sem,↓reduceIte,e0,r4,r5]
 obtain ⟨A,hA⟩:∃ A:NA,A=⟨.slice pd dat.length cd,.slice pv acp.l.length cv,none,h1.size,.slice none 0 0,.slice none 0 0,.slice none 0 0,.slice none 0 0,.nilFunc⟩:=⟨_,rfl⟩
 obtain ⟨h2,hh2⟩:∃ h2:Hp,h2=h1.push (mapO []):=⟨_,rfl⟩
 obtain ⟨h3,hh3⟩:∃ h3:Hp,h3=h2.push (nodeO (blank i true dat syn acp) A):=⟨_,rfl⟩
 have s2:h2.size=h1.size+1:=by rw [hh2]; simp
 have ee:h3=(h1.push (.map #[] 0)).push (nodeO (blank i true dat syn acp) A):=by rw [hh3,hh2]; rfl
 rw [hA] at ee
 refine ⟨h1.size+1,updT (updT o h1.size (.known i)) (h1.size+1) (.node i),A,rfl,?_⟩
 have k2:Kp (blankT i) o h1 (updT o h1.size (.known i)) h2:=by rw [hh2]; exact ((Kp.refl k1.dom _).push _).adopt (Nat.le_refl _) (by simp) (.inr rfl)
 have k3:Kp (blankT i) o h1 (updT (updT o h1.size (.known i)) (h1.size+1) (.node i)) h3:=by rw [hh3]; exact (k2.push _).adopt (by omega) (by rw [Array.size_push]; omega) (.inl rfl)
 have kx:Kp (fun t=>t=.node i) (updT o h1.size (.known i)) h2 (updT (updT o h1.size (.known i)) (h1.size+1) (.node i)) h3:=by rw [hh3]; exact ((Kp.refl k2.dom _).push _).adopt (by omega) (by rw [Array.size_push]; omega) rfl
 have m2:MapAt (updT o h1.size (.known i)) (.known i) h2 h1.size (mapV cmA []):=⟨updT_same,by rw [hh2]; exact get_push_last⟩
 have iD3:=(iD.keep k1).keep k3
 have iV3:=(iV.keep k1).keep k3
 have K3:Kp (blankT i) o h (updT (updT o h1.size (.known i)) (h1.size+1) (.node i)) h3:=(kp_any k1).trans k3
 have st:StOk storeZ:=StOk.of_fit (by kernel_rfl)
 show Bel h.size h ((h1.push (.map #[] 0)).push (nodeO (blank i true dat syn acp) ⟨.slice pd dat.length cd,.slice pv acp.l.length cv,none,h1.size,.slice none 0 0,.slice none 0 0,.slice none 0 0,.slice none 0 0,.nilFunc⟩))∧Kp (blankT i) o h _ ((h1.push (.map #[] 0)).push (nodeO (blank i true dat syn acp) ⟨.slice pd dat.length cd,.slice pv acp.l.length cv,none,h1.size,.slice none 0 0,.slice none 0 0,.slice none 0 0,.slice none 0 0,.nilFunc⟩))∧NodeAt _ ((h1.push (.map #[] 0)).push (nodeO (blank i true dat syn acp) ⟨.slice pd dat.length cd,.slice pv acp.l.length cv,none,h1.size,.slice none 0 0,.slice none 0 0,.slice none 0 0,.slice none 0 0,.nilFunc⟩)) wb i (h1.size+1) A (blank i true dat syn acp)
 rw [← ee]
 refine ⟨by rw [hh3,hh2,hh1]; exact ((((Bel.refl _ _).add _).add _).add _).add _,K3,⟨updT_same,by rw [hh3,← s2]; exact get_push_last⟩,?_⟩
 rw [hA]
 exact ⟨iD3,iV3,trivial,m2.keep kx (by intro e; cases e),OwnT.nil _ _ _ _ _,OwnT.nil _ _ _ _ _,OwnT.nil _ _ _ _ _,⟨[],rfl,OwnT.nil _ _ _ _ _,fun x hx=>by cases hx⟩,rfl,st⟩
theorem kp_retag {S:Tg→Prop} {o o':Ow} {h h':Hp} (k:Kp S o h o' h') {b:Nat} {t u:Tg} (hb:o' b=some t) (ht:S t) (hu:S u):Kp S o h (updT o' b u) h':=by
 refine ⟨k.size,fun c hc hn=>⟨(k.keep c hc hn).1,?_⟩,fun c hc v hv hs=>?_,fun c hc v hv=>?_,fun c hc=>?_⟩
 ·by_cases e:c=b
  ·subst e
   have:=(k.keep c hc hn).2
   rw [hb] at this
   exact (hn t this.symm ht).elim
  ·rw [updT_ne e]; exact (k.keep c hc hn).2
 ·by_cases e:c=b
  ·subst e; exact ⟨u,updT_same,hu⟩
  ·rw [updT_ne e]; exact k.stay c hc v hv hs
 ·by_cases e:c=b
  ·subst e; rw [updT_same] at hv; cases hv; exact hu
  ·rw [updT_ne e] at hv; exact k.new c hc v hv
 ·by_cases e:c=b
  ·subst e; rw [k.dom c hc] at hb; cases hb
  ·rw [updT_ne e]; exact k.dom c hc
def staleT (i:Nat) (t:Tg):Prop:=t=.reign i∨t=.prom i∨t=.stale i
theorem put_aside {o:Ow} {h:Hp} {wb i nb:Nat} {a:NA} {n:Nd} (d:Dom o h) (N:NodeAt o h wb i nb a n) :
  ∃ o',Kp (staleT i) o h o' h∧NodePt o' h wb i nb { a with reign:=none } { n with reign:=none,pend:=stale n.pend }∧o' nb=some (.node i):=by
 have key:∀ o',Kp (staleT i) o h o' h→PndAt o' h wb i nb none a.pend (stale n.pend)→NodePt o' h wb i nb { a with reign:=none } { n with reign:=none,pend:=stale n.pend }:=fun o' k p=>
  ⟨N.pt.data.keep k,N.pt.votes.keep k,trivial,N.pt.known.keep k (by rintro (e | e | e) <;> cases e),N.pt.log.keep k (by rintro (e | e | e) <;> cases e),N.pt.queue.keep k (by rintro (e | e | e) <;> cases e),N.pt.waiting.keep k (by rintro (e | e | e) <;> cases e),N.pt.inbox.keep k (by rintro (e | e | e) <;> cases e),p,N.pt.store⟩
 have hp:=N.pt.pend
 have hR:=N.pt.reign
 cases hra:a.reign with
 | none=>
  rw [hra] at hp
  refine ⟨o,Kp.refl d _,key o (Kp.refl d _) ?_,N.blk.1⟩
  match hn:n.pend,hp with
  | none,hp=>exact hp
  | some (.pro _ _ _ _),hp=>exact hp
  | some (.vot _ _ _),hp=>exact hp
  | some (.own _ _ false),hp=>exact hp
  | some (.own _ _ true),⟨b6,b4,b7,b5,w,rb,h1,h2,h3,h4,h5,h6,a',h7,_⟩=>cases h7
 | some ra=>
  rw [hra] at hp hR
  obtain ⟨r,hr⟩:∃ r,n.reign=some r:=by
   cases hx:n.reign with
   | none=>rw [hx] at hR; exact hR.elim
   | some r=>exact ⟨r,rfl⟩
  rw [hr] at hR
  have hR:RgnAt o i h ra r:=hR
  have hne:ra.rb≠ra.pb:=fun e=>by
   have h1:=hR.blk.1; have h2:=hR.prom.1
   rw [e,h2] at h1; cases h1
  have k1:Kp (staleT i) o h (updT o ra.rb (.stale i)) h:=kp_retag (Kp.refl d (staleT i)) hR.blk.1 (.inl rfl) (.inr (.inr rfl))
  have hp1:updT o ra.rb (.stale i) ra.pb=some (.prom i):=by rw [updT_ne (fun e=>hne e.symm)]; exact hR.prom.1
  have k2:Kp (staleT i) o h (updT (updT o ra.rb (.stale i)) ra.pb (.stale i)) h:=kp_retag k1 hp1 (.inr (.inl rfl)) (.inr (.inr rfl))
  obtain ⟨o2,ho2⟩:∃ o2,o2=updT (updT o ra.rb (.stale i)) ra.pb (.stale i):=⟨_,rfl⟩
  rw [← ho2] at k2
  have s1:o2 ra.rb=some (.stale i):=by rw [ho2,updT_ne hne]; exact updT_same
  have s2:o2 ra.pb=some (.stale i):=by rw [ho2]; exact updT_same
  have so:∀ b,b≠ra.rb→b≠ra.pb→o2 b=o b:=fun b e1 e2=>by rw [ho2,updT_ne e2,updT_ne e1]
  have sst:∀ b,o b=some (.stale i)→o2 b=some (.stale i):=fun b hb=>by
   by_cases e1:b=ra.rb
   ·rw [e1]; exact s1
   ·by_cases e2:b=ra.pb
    ·rw [e2]; exact s2
    ·rw [so b e1 e2]; exact hb
  have hnb:o2 nb=some (.node i):=by
   rw [so nb (fun e=>by have:=N.blk.1; rw [e,hR.blk.1] at this; cases this) (fun e=>by have:=N.blk.1; rw [e,hR.prom.1] at this; cases this)]
   exact N.blk.1
  refine ⟨o2,k2,key o2 k2 ?_,hnb⟩
  match hn:n.pend,hp with
  | none,hp=>exact hp
  | some (.pro a to b vs),⟨b6,b4,b9,u,h1,h2,h3,h4,h5⟩=>exact ⟨b6,b4,b9,u,h1,h2.keep k2,h3.keep k2,h4.keep k2,h5.keep k2⟩
  | some (.vot a to x),⟨b6,b4,b9,u,h1,h2,h3,h4,h5⟩=>exact ⟨b6,b4,b9,u,h1,h2.keep k2,h3.keep k2,h4.keep k2,h5.keep k2⟩
  | some (.own a vs cur),⟨b6,b4,b7,b5,w,rb,h1,h2,h3,h4,h5,h6,h7⟩=>
   refine ⟨b6,b4,b7,b5,w,rb,h1,h2.keep k2,h3.keep k2,h4.keep k2,h5.keep k2,h6.keep k2,?_⟩
   rw [if_neg (by simp)]
   cases cur with
   | false=>
    rw [if_neg (by simp)] at h7
    obtain ⟨cs,pb,pv,g1,g2,g3⟩:=h7
    exact ⟨cs,pb,pv,⟨sst _ g1.1,g1.2⟩,g2,sst _ g3.1,g3.2⟩
   | true=>
    rw [if_pos rfl] at h7
    obtain ⟨a',q1,q2⟩:=h7
    obtain rfl:=Option.some.inj q1
    rw [← q2]
    exact ⟨_,ra.pb,ra.pv,⟨s1,hR.blk.2⟩,rfl,s2,hR.prom.2⟩
theorem pnd_any {o:Ow} {h:Hp} {wb i nb:Nat} {ra:Option RA} {v:Value} {p:Option Pnd} (s:PndAt o h wb i nb none v (stale p)):PndAt o h wb i nb ra v (stale p):=by
 match p,s with
 | none,s=>exact s
 | some (.pro _ _ _ _),s=>exact s
 | some (.vot _ _ _),s=>exact s
 | some (.own _ _ _),s=>exact s
set_option maxHeartbeats 4000000 in
theorem lead_ok (T:World) (h:Hp) (o:Ow) (wb i nb:Nat) (a:NA) (n:Nd) (d:Dom o h) (N:NodeAt o h wb i nb a n) (hb:n.own.p.r≤1000000000000∧n.heard.r≤1000000000000 ∧ -1000000000000≤n.own.p.r ∧ -1000000000000≤n.heard.r)
  (hr:∀ r,n.reign=some r→r.b.r≤1000000000000 ∧ -1000000000000≤r.b.r) :
  CallsH Tryz.prog T 24 #[ptrV wb,ptrV nb] h fun v' h'=>∃ o' a',Kp (fun t=>t.of=some i) o h o' h'∧NodeAt o' h' wb i nb a' (lead n):=by
 refine CallsH.of_body (args:=#[_,_]) Tryz.func24 rfl rfl rfl ?_
 obtain ⟨M,hM⟩:∃ M,M=max n.own.p.r n.heard.r+1:=⟨_,rfl⟩
 refine VS.seq (VS.mono (N:=fun F' g'=>F' 1=.pointer (some ⟨nb,0,none⟩)∧Bel h.size h g'∧∃ kb,h.size≤kb∧F' 4=.pointer (some ⟨kb,0,none⟩)∧g'[kb]? = some (.cells [.int .i64 M,.int .i64 n.me].toArray 60)) ?_ ?_ (fun _ _ _ h=>h) (fun _ _ h=>h))
 ·refine vc_sound _ _ _ _ _ _ rfl ?_
  unfold ptrV
  have P:=node_rd N.blk.2 N.pt.store.len
  have hnb:=lt_of_get N.blk.2
  simp -implicitDefEqProofs (maxSteps:=2000000) only [go_sem,↓reduceIte]
  refine VS.z (h.size) [19] (.p 0 (.p 1 (.p 2 (.p 3 (.p 4 (.q 5 (.p 6 (.p 7 (.p 8 (.p 9 (.q 10 (.p 11 (.p 12 (.p 13 (.p 14 (.p 15 (.q 16 (.p 17 (.s 18 (.w 19 .nil)))))))))))))))))))) mixed (by kernel_rfl) ?_
  simp -implicitDefEqProofs (maxSteps:=2000000) only [go_sem,↓reduceIte,P.ownr,P.heardr,P.me,hnb]
  have em:(if n.heard.r > n.own.p.r then n.heard.r else n.own.p.r)+1=M:=by
   rw [hM]
   split <;> omega
  rw [em]
  exact ⟨_,Nat.le_refl _,rfl,get_push_last⟩
 rintro F1 g1 ⟨f1,b1,kb,hkb,f4,y4⟩
 refine VS.seq (VS.mono (N:=fun F' g'=>F' 1=.pointer (some ⟨nb,0,none⟩)∧F' 4=.pointer (some ⟨kb,0,none⟩)∧Bel h.size h g'∧g'[kb]? = some (.cells [.int .i64 (leadB n).r,.int .i64 n.me].toArray 60)) ?_ ?_ (fun _ _ _ h=>h) (fun _ _ h=>h))
 ·refine vc_sound _ _ _ _ _ _ rfl ?_
  have k1:=kp_still d b1
  have N1:=N.still k1
  have P1:=node_rd N1.blk.2 N1.pt.store.len
  have P1r:=P1.reign
  have hnb1:=lt_of_get N1.blk.2
  have l4:=lt_of_get y4
  have r4:hc g1 ⟨kb,0,none⟩=some (.int .i64 M):=hc_last y4
  cases hra:a.reign with
  | none=>
   rw [hra] at P1r
   unfold rgnV at P1r
   have hn:n.reign=none:=by
    have:=N.pt.reign
    rw [hra] at this
    cases hx:n.reign with
    | none=>rfl
    | some r=>rw [hx] at this; exact this.elim
   have e1:(leadB n).r=M:=by unfold leadB; rw [hn,hM]
   rw [e1]
   simp -implicitDefEqProofs (maxSteps:=2000000) only [go_sem,↓reduceIte,f1,P1r]
   exact ⟨f4,b1,y4⟩
  | some ra=>
   rw [hra] at P1r
   unfold rgnV ptrV at P1r
   obtain ⟨r,hn⟩:∃ r,n.reign=some r:=by
    have:=N.pt.reign
    rw [hra] at this
    cases hx:n.reign with
    | none=>rw [hx] at this; exact this.elim
    | some r=>exact ⟨r,rfl⟩
   have R1:RgnAt o i g1 ra r:=by have:=N1.pt.reign; rw [hra,hn] at this; exact this
   have lrb:=lt_of_get R1.blk.2
   have rr0:hc g1 ⟨ra.rb,0,none⟩=some (.int .i64 r.b.r):=hc_last R1.blk.2
   have e1:(leadB n).r=max M (r.b.r+1):=by unfold leadB; rw [hn,hM]
   obtain ⟨hr1,hr2⟩:=hr r hn
   obtain ⟨Z,hZ⟩:∃ Z,Z=(leadB n).r:=⟨_,rfl⟩
   have hz:(if r.b.r+1 > M then r.b.r+1 else M)=Z:=by
    rw [hZ,e1]; split <;> omega
   rw [← hZ]
   have w4:wr1 g1 ⟨kb,0,none⟩ (.int .i64 Z)=some (g1.setIfInBounds kb (.cells [.int .i64 Z,.int .i64 n.me].toArray 60)):=by rw [wr1_get y4 0 _]; rfl
   simp -implicitDefEqProofs (maxSteps:=2000000) only [go_sem,↓reduceIte,f1,P1r]
   refine VS.z (g1.size) [10] (.p 0 (.q 1 (.p 2 (.p 3 (.p 4 (.p 5 (.q 6 (.p 7 (.p 8 (.p 9 (.w 10 .nil))))))))))) mixed (by kernel_rfl) ?_
   simp -implicitDefEqProofs (maxSteps:=2000000) only [go_sem,↓reduceIte,f1,f4,P1r,r4,rr0,lrb,l4,hz,w4]
   exact ⟨b1.addSet hkb _,get_set y4⟩
 clear f1 f4 y4 b1
 rintro F3 g3 ⟨f1,f4,b3,y4⟩
 refine vc_sound _ _ _ _ _ _ rfl ?_
 have k3:=kp_still d b3
 have N3:=N.still k3
 have P3:=node_rd N3.blk.2 N3.pt.store.len
 have P3u:=P3.up
 have hnb3:=lt_of_get N3.blk.2
 have l4:=lt_of_get y4
 have r4a:hc g3 ⟨kb,0,none⟩=some (.int .i64 (leadB n).r):=hc_last y4
 cases hu:n.up with
 | false=>
  rw [hu] at P3u
  have e1:lead n=n:=by unfold lead; rw [if_pos (.inl hu)]
  rw [e1]
  simp -implicitDefEqProofs (maxSteps:=2000000) only [go_sem,↓reduceIte,f1,P3u]
  exact ⟨o,a,kp_any k3,N3⟩
 | true=>
 rw [hu] at P3u
 by_cases c:65536<(leadB n).r
 ·have e1:lead n=n:=by unfold lead; rw [if_pos (.inr c)]
  rw [e1]
  have c':(leadB n).r > 65536:=c
  simp -implicitDefEqProofs (maxSteps:=2000000) only [go_sem,↓reduceIte,f1,f4,P3u,r4a,c,c']
  exact ⟨o,a,kp_any k3,N3⟩
 have e1:lead n = { n with reign:=some ⟨leadB n,[],false,[],[]⟩,pend:=stale n.pend }:=by
  unfold lead; rw [if_neg]; rintro (e | e)
  ·rw [hu] at e; cases e
  ·exact c e
 rw [e1]
 have c':¬ (leadB n).r > 65536:=c
 have r4:rd g3 ⟨kb,0,none⟩ 2=some [.int .i64 (leadB n).r,.int .i64 n.me]:=rd_last y4 rfl
 obtain ⟨o2,k2,pt2,hnb2⟩:=put_aside k3.dom N3
 obtain ⟨ra,hra⟩:∃ ra:RA,ra=⟨g3.size+3,g3.size,g3.size+1,g3.size+2,[],[]⟩:=⟨_,rfl⟩
 obtain ⟨r,hr0⟩:∃ r:Rgn,r=⟨leadB n,[],false,[],[]⟩:=⟨_,rfl⟩
 obtain ⟨p1,hp1⟩:∃ p1:Hp,p1=g3.push (mapO []):=⟨_,rfl⟩
 obtain ⟨p2,hp2⟩:∃ p2:Hp,p2=p1.push (mapO []):=⟨_,rfl⟩
 obtain ⟨p3,hp3⟩:∃ p3:Hp,p3=p2.push (mapO []):=⟨_,rfl⟩
 obtain ⟨p4,hp4⟩:∃ p4:Hp,p4=p3.push (.cells (rgnC r ra).toArray 122):=⟨_,rfl⟩
 have s1:p1.size=g3.size+1:=by rw [hp1]; simp
 have s2:p2.size=g3.size+2:=by rw [hp2,Array.size_push,s1]
 have s3:p3.size=g3.size+3:=by rw [hp3,Array.size_push,s2]
 have s4:p4.size=g3.size+4:=by rw [hp4,Array.size_push,s3]
 have q1:p4[g3.size]? = some (mapO []):=by rw [hp4,get_push_ne (by omega),hp3,get_push_ne (by omega),hp2,get_push_ne (by omega),hp1]; exact get_push_last
 have q2:p4[g3.size+1]? = some (mapO []):=by rw [hp4,get_push_ne (by omega),hp3,get_push_ne (by omega),hp2,← s1]; exact get_push_last
 have q3:p4[g3.size+2]? = some (mapO []):=by rw [hp4,get_push_ne (by omega),hp3,← s2]; exact get_push_last
 have q4:p4[g3.size+3]? = some (.cells (rgnC r ra).toArray 122):=by rw [hp4,← s3]; exact get_push_last
 have kp:Kp (rgnTags i) o2 g3 o2 p4:=by rw [hp4,hp3,hp2,hp1]; exact ((((Kp.refl k2.dom _).push _).push _).push _).push _
 have ka:=kp.adopt (b:=g3.size) (t:=.prom i) (Nat.le_refl _) (by omega) (.inr (.inl rfl))
 have kb':=ka.adopt (b:=g3.size+1) (t:=.prop i) (by omega) (by omega) (.inr (.inr (.inl rfl)))
 have kc:=kb'.adopt (b:=g3.size+2) (t:=.vts i) (by omega) (by omega) (.inr (.inr (.inr (.inl rfl))))
 have k5:=kc.adopt (b:=g3.size+3) (t:=.reign i) (by omega) (by omega) (.inl rfl)
 obtain ⟨o5,ho5⟩:∃ o5,o5=updT (updT (updT (updT o2 g3.size (.prom i)) (g3.size+1) (.prop i)) (g3.size+2) (.vts i)) (g3.size+3) (.reign i):=⟨_,rfl⟩
 rw [← ho5] at k5
 clear ka kb' kc kp
 have t1:o5 g3.size=some (.prom i):=by rw [ho5,updT_ne (by omega),updT_ne (by omega),updT_ne (by omega)]; exact updT_same
 have t2:o5 (g3.size+1)=some (.prop i):=by rw [ho5,updT_ne (by omega),updT_ne (by omega)]; exact updT_same
 have t3:o5 (g3.size+2)=some (.vts i):=by rw [ho5,updT_ne (by omega)]; exact updT_same
 have t4:o5 (g3.size+3)=some (.reign i):=by rw [ho5]; exact updT_same
 have R5:RgnAt o5 i p4 ra r:=by
  rw [hra,hr0]
  rw [hra,hr0] at q4
  exact ⟨⟨t4,q4⟩,⟨t1,q1⟩,.nil,⟨t2,q2⟩,⟨t3,q3⟩,.nil,by simp⟩
 have en:∀ t:Tg,(t=.known i∨t=.log i∨t=.queue i∨t=.waiting i∨t=.inbox i∨t=.stale i∨t=.node i)→¬ rgnTags i t:=by
  intro t ht hr
  rcases ht with rfl | rfl | rfl | rfl | rfl | rfl | rfl <;> rcases hr with e | e | e | e | ⟨s,e⟩ <;> cases e
 have pn:PndAt o5 p4 wb i nb (some ra) a.pend (stale n.pend):=pnd_any (pt2.pend.keep k5 (en _ (by simp)))
 have pt5:NodePt o5 p4 wb i nb { a with reign:=some ra } { n with reign:=some r,pend:=stale n.pend }:=
  ⟨pt2.data.keep k5,pt2.votes.keep k5,R5,pt2.known.keep k5 (en _ (by simp)),pt2.log.keep k5 (en _ (by simp)),pt2.queue.keep k5 (en _ (by simp)),pt2.waiting.keep k5 (en _ (by simp)),pt2.inbox.keep k5 (en _ (by simp)),pn,pt2.store⟩
 have B5:BlkAt o5 (.node i) p4 nb (nodeO n a):=BlkAt.keep (o:=o2) ⟨hnb2,N3.blk.2⟩ k5 (en _ (by simp))
 obtain ⟨g6,w6,N6,k6⟩:=NodePt.write pt5 k5.dom B5 ((node_wr B5.2 N.pt.store.len).reign (some ra))
 have hnb5:=lt_of_get B5.2
 have ee:p4=(((g3.push (.map #[] 0)).push (.map #[] 0)).push (.map #[] 0)).push (.cells #[.int .i64 (leadB n).r,.int .i64 n.me,.map (some g3.size),.bool false,.map (some (g3.size+1)),.map (some (g3.size+2))] 122):=by
  rw [hp4,hp3,hp2,hp1,hra,hr0]; rfl
 have w6':wr1 p4 ⟨nb,9,none⟩ (.pointer (some ⟨g3.size+3,0,none⟩))=some g6:=by rw [← w6,hra]; rfl
 have ee':=ee.symm
 rw [hr0] at N6
 simp -implicitDefEqProofs (maxSteps:=2000000) only [go_sem,↓reduceIte,f1,f4,P3u,r4a,c,c',r4,ee',w6',hnb5]
 refine ⟨o5,_,((kp_any k3).trans (k2.mono fun t q=>?_)).trans ((k5.mono fun t q=>rgn_of q).trans (k6.mono fun t q=>by rw [q]; rfl)),N6⟩
 rcases q with rfl | rfl | rfl <;> rfl
end Go.Proofs.YtnhbpmoeaodmnaaGreatDoor
