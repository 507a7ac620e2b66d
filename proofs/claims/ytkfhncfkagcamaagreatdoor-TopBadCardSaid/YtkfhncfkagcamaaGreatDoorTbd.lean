/- TopBad: what is refused is counted. The plain law, then the walk. -/
import Derived.Test.YtkfhncfkagcamaaGreatDoorTlx
import Derived.Test.YtkfhncfkagcamaaGreatDoorTpt
namespace Go.Proofs.YtkfhncfkagcamaaGreatDoor
open Go Go.V
set_option linter.unusedSimpArgs false
set_option linter.unusedVariables false
set_option maxRecDepth 100000
def Tp (A:List Raw) (n:Nat):Nat:=(A.filter fun x=>decide (x.k=1∧x.n=(n:Int)∧ZX x.data 0≠0)).length
theorem O3 (A:List Raw) (x:Raw) (n:Nat):Tp (A++[x]) n=Tp A n+(if x.k=1∧x.n=(n:Int)∧ZX x.data 0≠0 then 1 else 0):=by
 unfold Tp
 rw[List.filter_append,List.length_append]
 congr 1
 by_cases q:x.k=1∧x.n=(n:Int)∧ZX x.data 0≠0
 ·rw[if_pos q];simp only[List.filter_cons,List.filter_nil];rw[if_pos (decide_eq_true q)];rfl
 ·rw[if_neg q];simp only[List.filter_cons,List.filter_nil];rw[if_neg (by simpa using q)];rfl
structure Calm (x:Raw):Prop where
 err:x.err=0
 kind:x.k≤7
 data:x.k=1→∃g,x.data=Jq g
theorem pY (gs:List Gr) (Xb:Nat):∀x∈jG gs Xb false,Calm x:=fun x hx=>by
 refine⟨Fv _ _ _ x hx,pX _ _ x hx,?_⟩
 have key:∀(l:List Gr) (st:Nat × List Raw),(∀x∈st.2,x.k=1→∃g,x.data=Jq g)→∀x∈(l.foldl (Q0 false) st).2,x.k=1→∃g,x.data=Jq g:=by
  intro l
  induction l with
  | nil=>intro st h;exact h
  | cons g l ih=>
   intro st h
   refine ih _ (fun x hx=>?_)
   unfold Q0 at hx
   rcases List.mem_append.1 hx with hx|hx
   ·exact h x hx
   ·rw[List.mem_singleton.1 hx]
    unfold To
    split
    ·intro k;cases k
    ·intro k
     refine⟨g,?_⟩
     by_cases q:JO g.k 24<3
     ·unfold Ur
      rw[if_pos q]
     ·exfalso
      unfold Ur at k
      rw[if_neg q]at k
      repeat' split at k
      all_goals simp at k
 exact key _ _ (fun x hx=>by cases hx) x hx
theorem vU (w:Wd) (a:Ac) (h:a.kind≠1):(act w a).bad=w.bad:=by
 unfold act
 rw[if_neg h]
 split
 ·rfl
 split
 ·rfl
 split
 ·unfold pick
  split
  ·rfl
  ·split
   ·split
    ·rw[(QY _ _).2.1]
    ·rw[(QY _ _).2.1]
   ·split<;>rfl
 split
 ·rw[(KN _ _).2.1]
 split
 ·rfl
 ·rfl
theorem jd {A:List Raw} (hA:∀x∈A,Calm x) (hl:A.length≤100000):∀i,i≤A.length→∀n,n<5→(SN (A.take i)).bad n=Tp (A.take i) n∧((SN (A.take i)).nodes n).up=true:=by
 intro i
 induction i with
 | zero=>intro _ n _;exact⟨rfl,rfl⟩
 | succ i ih=>
  intro hi n hn
  have ZA:i<A.length:=by omega
  have I:=ih (by omega)
  have hx:=hA A[i] (List.getElem_mem ZA)
  obtain⟨r1,r2,_⟩:=RS hx.err
  have OT:=fun n hn=>dE (A:=A.take i) (fun x hx=>(hA x (List.mem_of_mem_take hx)).err) (by rw[List.length_take];omega) n hn
  rw[KR A i ZA,Z9 A i ZA,O3]
  obtain⟨W,hW⟩:=Zu (SN (A.take i))
  rw[←hW]at I OT ⊢
  have hup:=(Zbi W A[i].ac n (by have:=hx.kind;show A[i].k≠8;omega)).1 (I n hn).2
  refine⟨?_,hup⟩
  by_cases k1:A[i].k=1
  ·obtain⟨g,hg⟩:=hx.data k1
   have en:(A[i].ac.node:Int)=A[i].n:=by show ((A[i].n.toNat:Nat):Int)=_;omega
   have e5:A[i].ac.node<5:=by omega
   have e:act W A[i].ac=QV W A[i].ac.node A[i].data:=by unfold act;rw[if_pos (show A[i].ac.kind=1 from k1)];rfl
   have hd:ZX A[i].data ((W.nodes A[i].ac.node).log.length:Int)=0↔ZX A[i].data 0=0:=by
    rw[hg]
    exact aX g _ (by omega) (by have:=OT A[i].ac.node e5;omega)
   rw[e]
   unfold QV
   rw[if_pos (I _ e5).2]
   by_cases q:ZX A[i].data ((W.nodes A[i].ac.node).log.length:Int)≠0
   ·rw[if_pos q]
    have q0:ZX A[i].data 0≠0:=fun h=>q (hd.2 h)
    show (if n=A[i].ac.node then W.bad A[i].ac.node+1 else W.bad n)=_
    by_cases en2:n=A[i].ac.node
    ·rw[if_pos en2,if_pos ⟨k1,by omega,q0⟩,(I _ e5).1,←en2];rfl
    ·rw[if_neg en2,if_neg (fun h=>en2 (by have:=h.2.1;omega)),(I n hn).1];rfl
   ·have e2:¬(A[i].k=1∧A[i].n=(n:Int)∧ZX A[i].data 0≠0):=fun h=>h.2.2 (hd.1 (Classical.not_not.1 q))
    rw[if_neg q,if_neg e2]
    split
    ·exact (I n hn).1
    ·exact (I n hn).1
  ·rw[vU W _ k1,if_neg (fun h=>k1 h.1),(I n hn).1];rfl
def Wm (A:List Raw):List Value:=[.int .i64 (Tp A 0),.int .i64 (Tp A 1),.int .i64 (Tp A 2),.int .i64 (Tp A 3),.int .i64 (Tp A 4)]
theorem pZ (A:List Raw) (n:Nat) (hn:n<5):nth (Wm A) n=some (.int .i64 (Tp A n)):=by
 match n,hn with
 | 0,_=>rfl
 | 1,_=>rfl
 | 2,_=>rfl
 | 3,_=>rfl
 | 4,_=>rfl
theorem qc (A:List Raw) (x:Raw) (n:Nat) (hn:n<5) (k:x.k=1) (e:x.n=(n:Int)) (q:ZX x.data 0≠0):(Wm A).set n (.int .i64 ((Tp A n:Nat)+1:Int))=Wm (A++[x]):=by
 have h:∀m:Nat,Tp (A++[x]) m=Tp A m+(if m=n then 1 else 0):=fun m=>by
  rw[O3]
  congr 1
  by_cases c:m=n
  ·rw[if_pos c,if_pos ⟨k,by omega,q⟩]
  ·rw[if_neg c,if_neg (fun h=>c (by have:=h.2.1;omega))]
 unfold Wm
 rw[h,h,h,h,h]
 match n,hn with
 | 0,_=>rfl
 | 1,_=>rfl
 | 2,_=>rfl
 | 3,_=>rfl
 | 4,_=>rfl
theorem HW (A:List Raw) (x:Raw) (q:¬(x.k=1∧ZX x.data 0≠0)):Wm (A++[x])=Wm A:=by
 have h:∀m:Nat,Tp (A++[x]) m=Tp A m:=fun m=>by
  rw[O3,if_neg (fun h=>q ⟨h.1,h.2.2⟩)];rfl
 unfold Wm
 rw[h,h,h,h,h]
theorem vV (A:List Raw) (n:Nat):Tp A n≤A.length:=List.length_filter_le _ _
set_option maxHeartbeats 4000000 in
theorem vW (T:World) (h:Hp) (v:Value) (gs:List Gr) (hv:Ts Gr.C 5 h v gs) (hg:∀g∈gs,g.ok) (tb:Fb Wl h) :
  Zd Tryz.prog T 6 #[v] h fun v' h'=>v'=.bool true∧Ze h.size h h':=by
 have tk:Tk h:=tb.tk
 refine Zd.Zi (args:=[_]) Tryz.func6 rfl rfl rfl rfl ?_
 simp -implicitDefEqProofs only[go_sem,↓reduceIte]
 refine (OZ T h v gs 100 false hv hg (by omega) tk).use ?_
 rintro v1 h1 ⟨b1,Jg,xs,hr,t1,i1⟩
 obtain⟨A,hA⟩:=Zu (jG gs 100 false)
 rw[←hA]at hr
 have Ac:∀x∈A,Calm x:=by rw[hA];exact pY _ _
 have Ae:∀x∈A,x.err=0:=fun x hx=>(Ac x hx).err
 have Al:A.length≤100:=by rw[hA];exact Fw _ _ _
 have xl:xs.length=A.length:=by rw[←hr];unfold YU;simp
 have k1:Kp JK Wl h Wl h1:=Zs (JQ h) b1
 have qp:=tb.Zc k1
 obtain⟨p,c,hv1,Yx⟩:=t1.open Sm (by decide)
 rw[hv1]at t1 Jg ⊢
 simp -implicitDefEqProofs only[go_sem,↓reduceIte]
 refine (Ft T h1 _ xs t1 i1 qp (by omega) (by rw[hr];exact WL Ae (by omega))).use ?_
 rw[hr]
 rintro _ g5 ⟨⟨lv,tv,vs,rfl,rf⟩,b5⟩
 have B5:Ze h.size h g5:=b1.trans (b5.mono b1.size)
 have Cx:=jd Ac (by omega) A.length (Nat.le_refl _)
 rw[List.take_of_length_le (Nat.le_refl _)]at Cx
 obtain⟨W,hW⟩:=Zu (SN A)
 rw[←hW]at rf Cx ⊢
 obtain⟨ro,⟨pl,ol,cl,rfl⟩,pt,ct,rfl⟩:=rf.at.ok
 obtain⟨R,hR⟩:=Zu (HS W (.slice (some ⟨pl,ol,none⟩) 5 cl) (.slice pt W.told.length ct))
 rw[←hR]at ro ⊢
 have Cl:=ro.len
 have DW:=ro.one
 have hRp:=ro.put
 have Cn:=ro.le
 have et:=ro.take
 obtain⟨g6,TF⟩:=Zu (g5.push (.cells R.toArray 33):Hp)
 have e6:=TF.symm
 have b6:Ze g5.size g5 g6:=by rw[TF];exact (Ze.refl _ _).add _
 have y6:g6[g5.size]? = some (.cells R.toArray 33):=by rw[TF];exact Zb
 have l6:=Za y6
 have B6:Ze h.size h g6:=B5.trans (b6.mono B5.size)
 have b16:Ze h1.size h1 g6:=b5.trans (b6.mono b5.size)
 have u6:hc g6 ⟨g5.size,1,none⟩=some (.bool true):=by rw[Zg y6,hR];show some (Value.bool (W.nodes 0).up)=_;rw[(Cx 0 (by omega)).2]
 have r6:rd g6 ⟨g5.size,7,none⟩ 5=some (Wm A):=by
  rw[Z0 y6 (by rw[Cl];decide),hR]
  unfold Wm
  rw[←(Cx 0 (by omega)).1,←(Cx 1 (by omega)).1,←(Cx 2 (by omega)).1,←(Cx 3 (by omega)).1,←(Cx 4 (by omega)).1]
  rfl
 simp -implicitDefEqProofs only[go_sem,↓reduceIte,Cl,DW,hRp,Cn,e6,et,l6]
 refine VS.ZU (fun F g=>F 3=.slice p xs.length c∧F 4=.pointer (some ⟨g5.size,0,none⟩)∧F 5=.bool true∧F 6=.pointer (some ⟨g6.size,0,none⟩)∧Ze g6.size g6 g∧∃i:Nat,i≤xs.length∧F 7=.int .i64 i∧g[g6.size]? = some (.cells (Wm (A.take i)).toArray 30))
  (fun F _=>xs.length-(vi (F 7)).toNat) rfl ⟨rfl,rfl,rfl,rfl,(Ze.refl _ _).add _,0,Nat.zero_le _,rfl,Zb⟩ ?_
 rintro F2 g2 ⟨f3,f4,f5,f6,bl,i,hi,f7,y2⟩
 have ly2:=Za y2
 by_cases ZA:i<xs.length
 ·have ZH:(i:Int)<xs.length:=by omega
  obtain⟨bs,os,rfl,CI,RO⟩:=Yx (by intro e;rw[e]at ZA;simp at ZA)
  obtain⟨x,Tb⟩:=Zu (xs[i])
  have jE:x∈xs:=by rw[Tb];exact List.getElem_mem ZA
  have b12:Ze h1.size h1 g2:=b16.trans (bl.mono b16.size)
  have im:=(i1 x jE).Zc (Zs (JQ h1) b12)
  obtain⟨pd,cd,Rg,hcd⟩:∃p c,x.2=.slice p x.1.data.length c∧x.1.data.length≤c:=im.1.fits
  have ca:YZ g2 bs (os+i*5) (Qk x):=by rw[Tb];exact (RO i ZA).Z4 b12 CI
  have r0:hc g2 ⟨bs,os+i*5,none⟩=some (.int .i64 x.1.k):=ca.hc (i:=0) rfl
  have r4:hc g2 ⟨bs,os+i*5+4,none⟩=some (.slice pd x.1.data.length cd):=by rw[←Rg];exact ca.hc (i:=4) rfl
  have xW:i<A.length:=by omega
  have hAx:A[i]=x.1:=by
   have:A[i]? = some x.1:=by rw[←hr];unfold YU;rw[List.getElem?_map,List.getElem?_eq_getElem ZA,←Tb];rfl
   rw[List.getElem?_eq_getElem xW]at this;exact Option.some.inj this
  have hxr:=RS (Ae x.1 (by rw[←hAx];exact List.getElem_mem xW))
  have hxd:x.1.data.length≤2000:=hxr.2.2.2.2
  rw[Rg]at im
  have Hb:=tb.Zc (Zs (JQ h) (b1.trans (b12.mono b1.size)))
  have qd:A.take (i+1)=A.take i++[x.1]:=by rw[Z9 A i xW,hAx]
  by_cases q1:x.1.k=1
  ·have qC:=eq_true q1
   have oc:=Kj T g2 (.slice pd x.1.data.length cd) x.1.data 0 im.bs hcd (by omega) Hb.tk Hb.tn
   by_cases qe:ZX x.1.data 0=0
   ·obtain⟨Y,hY⟩:=Zu (Qx x.1.data 0)
    have eC:IK x.1.data 0=Y.C:=by rw[OQ qe,hY];unfold Qx;rw[if_pos qe];rfl
    rw[eC,qe]at oc
    simp -implicitDefEqProofs only[go_sem,↓reduceIte,f3,f4,f5,f6,f7,ZH,r0,qC,r4]
    refine oc.use ?_
    rintro _ g4 ⟨rfl,b4⟩
    obtain⟨g9,je⟩:=Zu (g4.push (.cells Y.C.toArray 47):Hp)
    have e9:=je.symm
    have b9:Ze g4.size g4 g9:=by rw[je];exact (Ze.refl _ _).add _
    have bl9:Ze g6.size g6 g9:=bl.trans ((b4.trans (b9.mono b4.size)).mono bl.size)
    have y9:g9[g6.size]? = some (.cells (Wm (A.take i)).toArray 30):=by rw[(b4.trans (b9.mono b4.size)).get ly2 y2]
    have hYp:Yl [Value.int .i64 0,.int .i64 0,.int .i64 0,.int .i64 0,.int .i64 0] 0 Y.C=Y.C:=rfl
    have hYl:Y.C.length=5:=rfl
    have hYo:Y.C.all Z5=true:=rfl
    simp -implicitDefEqProofs only[go_sem,↓reduceIte,f7,hYp,hYl,hYo,e9]
    unfold Yy
    refine⟨⟨f3,f4,f5,f6,bl9,i+1,ZA,rfl,?_⟩,?_⟩
    ·rw[qd,HW _ _ (fun h=>h.2 qe)];exact y9
    ·simp only[vi,Zh,↓reduceIte,f7];omega
   ·obtain⟨E,hE⟩:=Zu (ZX x.1.data 0)
    rw[Je qe,←hE]at oc
    have qe':¬E=0:=by rw[hE];exact qe
    simp -implicitDefEqProofs only[go_sem,↓reduceIte,f3,f4,f5,f6,f7,ZH,r0,qC,r4]
    refine oc.use ?_
    rintro _ g4 ⟨rfl,b4⟩
    obtain⟨g9,je⟩:=Zu (g4.push (.cells [Value.int .i64 0,.int .i64 0,.int .i64 0,.int .i64 0,.int .i64 0].toArray 47):Hp)
    have e9:=je.symm
    have b9:Ze g4.size g4 g9:=by rw[je];exact (Ze.refl _ _).add _
    have bl9:Ze g6.size g6 g9:=bl.trans ((b4.trans (b9.mono b4.size)).mono bl.size)
    have y9:g9[g6.size]? = some (.cells (Wm (A.take i)).toArray 30):=by rw[(b4.trans (b9.mono b4.size)).get ly2 y2]
    have z9:g9[g4.size]? = some (.cells [Value.int .i64 0,.int .i64 0,.int .i64 0,.int .i64 0,.int .i64 0].toArray 47):=by rw[je];exact Zb
    have w9:wr g9 ⟨g4.size,0,none⟩ [Value.int .i64 0,.int .i64 0,.int .i64 0,.int .i64 0,.int .i64 0]=some g9:=by
     rw[ZP z9 0 _]
     exact congrArg some (VA z9)
    have l9:=Za z9
    obtain⟨m,hm⟩:∃m:Nat,x.1.n=m:=⟨x.1.n.toNat,by omega⟩
    have hm5:m<5:=by omega
    have ZpG:(m:Int)<5:=by omega
    have c1:hc g2 ⟨bs,os+i*5+1,none⟩=some (.int .i64 m):=by rw[←hm];exact ca.hc (i:=1) rfl
    have c9:hc g9 ⟨bs,os+i*5+1,none⟩=some (.int .i64 m):=by rw[(b4.trans (b9.mono b4.size)).hc (by exact Nat.lt_of_lt_of_le CI b12.size)];exact c1
    have n9:hc g9 ⟨g6.size,m,none⟩=some (.int .i64 (Tp (A.take i) m)):=by rw[Zg y9];exact pZ _ m hm5
    have Iq:=vV (A.take i) m
    have Ie:Tp (A.take i) m≤100:=by rw[List.length_take]at Iq;omega
    have ww:Jn g9 ⟨g6.size,m,none⟩ (.int .i64 ((Tp (A.take i) m:Nat)+1:Int))=some (g9.setIfInBounds g6.size (.cells (Wm (A.take (i+1))).toArray 30)):=by
     rw[Yq y9,if_pos ⟨hm5,rfl⟩,qc _ x.1 m hm5 q1 hm qe,qd]
    have ZpH:Ze g6.size g6 (g9.setIfInBounds g6.size (.cells (Wm (A.take (i+1))).toArray 30)):=bl9.Zk (Nat.le_refl _) _
    have y10:=Zw (o:=.cells (Wm (A.take (i+1))).toArray 30) y9
    simp -implicitDefEqProofs only[go_sem,↓reduceIte,e9,w9,l9,f7,qe',f3,f6,ZH,c9,n9,ZpG,ww]
    unfold Yy
    refine⟨⟨f3,f4,f5,f6,ZpH,i+1,ZA,rfl,y10⟩,?_⟩
    simp only[vi,Zh,↓reduceIte,f7];omega
  ·simp -implicitDefEqProofs only[go_sem,↓reduceIte,f3,f4,f5,f6,f7,ZH,r0,q1]
   unfold Yy
   refine⟨⟨f3,f4,f5,f6,bl,i+1,ZA,rfl,?_⟩,?_⟩
   ·rw[qd,HW _ _ (fun h=>q1 h.1)];exact y2
   ·simp only[vi,Zh,↓reduceIte,f7];omega
 ·have YE:¬(i:Int)<xs.length:=by omega
  obtain rfl:i=xs.length:=by omega
  rw[xl,List.take_of_length_le (Nat.le_refl _)]at y2
  have u2:hc g2 ⟨g5.size,1,none⟩=some (.bool true):=by rw[bl.hc (by exact l6)];exact u6
  have r2:rd g2 ⟨g5.size,7,none⟩ 5=some (Wm A):=by rw[XB bl (by exact l6)];exact r6
  have r3:rd g2 ⟨g6.size,0,none⟩ 5=some (Wm A):=Zo y2 rfl
  have hs:leq (Wm A) (Wm A)=true:=by unfold Wm;simp[bI,Gj]
  have hf:Yp [some .i64,some .i64,some .i64,some .i64,some .i64] (Wm A)=true:=rfl
  have yc:(Wm A).length=5:=rfl
  simp -implicitDefEqProofs only[go_sem,↓reduceIte,f3,f4,f5,f6,f7,YE,u2,r2,r3,hs,hf,yc]
  exact B6.trans (bl.mono B6.size)
end Go.Proofs.YtkfhncfkagcamaaGreatDoor
