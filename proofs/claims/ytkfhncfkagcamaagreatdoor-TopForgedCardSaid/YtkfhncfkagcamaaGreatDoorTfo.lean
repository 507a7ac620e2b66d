/- TopForged: bytes that are no record of a client's change nothing but the count. The plain part. -/
import Derived.Test.YtkfhncfkagcamaaGreatDoorTpt
namespace Go.Proofs.YtkfhncfkagcamaaGreatDoor
open Go Go.V
set_option linter.unusedSimpArgs false
set_option linter.unusedVariables false
set_option maxRecDepth 100000
def dF (n:Nat) (d:List Nat):Raw:=⟨1,n,0,0,d⟩
def KV (D:List (List Nat)) (i:Nat):Option (List Nat):=if i<D.length∧ZX ((D.getD i []).take 90) 0≠0 then some ((D.getD i []).take 90) else none
def XJ (n:Nat) (D:List (List Nat)) (A:List Raw):Nat→List Raw × Nat
 | 0=>([],0)
 | i+1=>match KV D i with
  | some d=>((XJ n D A i).1++[dF n d]++(A.drop i).take 1,(XJ n D A i).2+1)
  | none=>((XJ n D A i).1++(A.drop i).take 1,(XJ n D A i).2)
theorem Cz (n:Nat) (D:List (List Nat)) (A:List Raw):∀i,(XJ n D A i).1.length≤2*i∧(XJ n D A i).2≤i:=by
 intro i
 induction i with
 | zero=>exact⟨Nat.le_refl _,Nat.le_refl _⟩
 | succ i ih=>
  rw[XJ]
  have:=List.length_take_le 1 (A.drop i)
  split
  ·simp only[List.length_append,List.length_singleton];omega
  ·simp only[List.length_append];omega
theorem CA (A:List Raw) (i:Nat) (h:i<A.length):(A.drop i).take 1=[A[i]]:=by
 rw[List.drop_eq_getElem_cons h];rfl
theorem qg (n:Nat) (hn:n<5) (D:List (List Nat)) {A:List Raw} (hA:∀x∈A,x.err=0):∀i,∀x∈(XJ n D A i).1,x.err=0:=by
 intro i
 induction i with
 | zero=>intro x hx;cases hx
 | succ i ih=>
  intro x hx
  have h1:∀x∈(A.drop i).take 1,x.err=0:=fun x hx=>hA x (List.mem_of_mem_drop (List.mem_of_mem_take hx))
  rw[XJ]at hx
  split at hx
  ·rename_i d hd
   rcases List.mem_append.1 hx with hx|hx
   ·rcases List.mem_append.1 hx with hx|hx
    ·exact ih x hx
    ·rw[List.mem_singleton.1 hx]
     have hl:d.length≤90:=by
      unfold KV at hd
      split at hd
      ·rw[←Option.some.inj hd,List.length_take];omega
      ·cases hd
     unfold Raw.err dF J6 YD X7
     show (if ¬((1:Int)≤1∧(1:Int)≤9) then (4:Int) else _)=0
     rw[if_neg (by omega),if_neg (by simp only;omega),if_neg (by simp only;omega),if_neg (by simp)]
   ·exact h1 x hx
  ·rcases List.mem_append.1 hx with hx|hx
   ·exact ih x hx
   ·exact h1 x hx
theorem vX (n:Nat) (D:List (List Nat)) (A:List Raw):∀i,i≤A.length→IN n (XJ n D A i).2 (SN (A.take i)) (SN (XJ n D A i).1):=by
 intro i
 induction i with
 | zero=>intro _;exact IN.refl n _
 | succ i ih=>
  intro hi
  have I:=ih (by omega)
  have hw:∀(l:List Raw) (x:Raw),SN (l++[x])=act (SN l) x.ac:=fun l x=>by
   unfold SN SV
   rw[List.map_append,List.foldl_append]
   rfl
  rw[XJ,KR A i (by omega),CA A i (by omega)]
  split
  ·rename_i d hd
   rw[hw,hw]
   have hd0:ZX d 0≠0:=by
    unfold KV at hd
    split at hd
    ·rename_i q
     rw[←Option.some.inj hd]
     exact q.2
    ·cases hd
   refine (IN.more I (d:=d) fun now h=>hd0 (Ct h (by omega) (by omega)).1).act _
  ·rw[hw]
   exact I.act _
abbrev Dat:=Value × List Nat
def vY (x:Dat):List Value:=[x.1]
theorem qh (x:Dat):(vY x).length=1:=rfl
def UJ (l:List Dat):List (List Nat):=l.map (·.2)
set_option maxHeartbeats 4000000 in
theorem jh (T:World) (h:Hp) (v u:Value) (gs:List Gr) (ds:List Dat) (at':Int) (hv:Ts Gr.C 5 h v gs) (hg:∀g∈gs,g.ok) (hu:Ts vY 1 h u ds) (hd:∀d∈ds,Bs h d.1 d.2∧WO d.1) (ha:i64 at') (tb:Fb Wl h) :
  Zd Tryz.prog T 4 #[v,u,.int .i64 at'] h fun v' h'=>v'=.bool true∧Ze h.size h h':=by
 have tk:Tk h:=tb.tk
 have pa:=Qh at' (m:=5) (by omega)
 obtain⟨pu,cu,rfl,hus⟩:=hu.open qh (by decide)
 refine Zd.Zi (args:=[_,_,_]) Tryz.func4 rfl rfl rfl rfl ?_
 simp -implicitDefEqProofs only[go_sem,↓reduceIte]
 refine (OZ T h v gs 60 true hv hg (by omega) tk).use ?_
 rintro v1 h1 ⟨b1,Jg,xs,hr,t1,i1⟩
 obtain⟨A,hA⟩:=Zu (jG gs 60 true)
 rw[←hA]at hr
 have Ae:∀x∈A,x.err=0:=by rw[hA];exact Fv _ _ _
 have Al:A.length≤60:=by rw[hA];exact Fw _ _ _
 have xl:xs.length=A.length:=by rw[←hr];unfold YU;simp
 obtain⟨p,c,rfl,Yx⟩:=t1.open Sm (by decide)
 simp -implicitDefEqProofs only[go_sem,↓reduceIte]
 refine (XI T h1 at' 5 ha (by omega) (by omega)).pure ?_
 obtain⟨n,hn⟩:∃n:Nat,JO at' 5=n:=⟨(JO at' 5).toNat,by omega⟩
 rw[hn]at pa ⊢
 have n5:n<5:=by omega
 simp -implicitDefEqProofs only[go_sem,↓reduceIte]
 refine VS.ZU (fun F g=>F 1=.slice pu ds.length cu∧F 7=.slice p xs.length c∧F 8=.int .i64 n∧∃(i:Nat) (o:Ow),i≤xs.length∧F 11=.int .i64 i∧F 10=.int .i64 (XJ n (UJ ds) A i).2∧QC h1 o g (F 9) (XJ n (UJ ds) A i).1)
  (fun F _=>xs.length-(vi (F 11)).toNat) rfl ⟨rfl,rfl,rfl,0,Wl,Nat.zero_le _,rfl,rfl,QC.nil h1⟩ ?_
 rintro F2 g2 ⟨f1,f7,f8,i,o2,hi,f11,f10,A2⟩
 by_cases ZA:i<xs.length
 ·have ZH:(i:Int)<xs.length:=by omega
  obtain⟨bs,os,rfl,CI,RO⟩:=Yx (by intro e;rw[e]at ZA;simp at ZA)
  obtain⟨x,Tb⟩:=Zu (xs[i])
  have jE:x∈xs:=by rw[Tb];exact List.getElem_mem ZA
  have im0:=i1 x jE
  obtain⟨px,cx,hpx,_⟩:∃p c,x.2=.slice p x.1.data.length c∧x.1.data.length≤c:=im0.1.fits
  have rX:∀g,Ze h1.size h1 g→rd g ⟨bs,os+i*5,none⟩ 5=some [.int .i64 x.1.k,.int .i64 x.1.n,.int .i64 x.1.a,.int .i64 x.1.b,.slice px x.1.data.length cx]:=fun g b=>by
   have:=((RO i ZA).Z4 b CI).rd (by simp[Qk,Vj]) (show (Qk xs[i]).length=5 from rfl)
   rw[this,←Tb,←hpx]
   rfl
  rw[hpx]at im0
  have xW:i<A.length:=by omega
  have hAx:(A.drop i).take 1=[x.1]:=by
   have:A[i]? = some x.1:=by rw[←hr];unfold YU;rw[List.getElem?_map,List.getElem?_eq_getElem ZA,←Tb];rfl
   rw[CA A i xW]
   rw[List.getElem?_eq_getElem xW]at this
   rw[Option.some.inj this]
  have fl:=Cz n (UJ ds) A i
  by_cases hid:i<ds.length
  ·have vZ:(i:Int)<ds.length:=by omega
   obtain⟨bu,ou,rfl,hbu,hcu⟩:=hus (by intro e;rw[e]at hid;simp at hid)
   have jF:Ze h.size h g2:=b1.trans ((Uq A2.1).mono b1.size)
   obtain⟨d,hdd⟩:=Zu (ds[i])
   have hdm:d∈ds:=by rw[hdd];exact List.getElem_mem hid
   have sd:=(hd d hdm).1.Z4 jF
   have Zbn:=(hd d hdm).2
   obtain⟨pd,cd,Rg,_⟩:=sd.open
   have rd2:hc g2 ⟨bu,ou+i,none⟩=some (.slice pd d.2.length cd):=by
    have:=((hcu i hid).Z4 jF hbu).hc (i:=0) (x:=d.1) (by rw[hdd];rfl)
    rw[Nat.mul_one,Nat.add_zero,Rg]at this
    exact this
   rw[Rg]at sd Zbn
   have Zbn:d.2.length≤cd:=Zbn
   obtain⟨m,hm⟩:=Zu (min d.2.length 90)
   have jz:(if (90:Int)<d.2.length then (90:Int) else d.2.length)=m:=by
    by_cases q:(90:Int)<d.2.length
    ·rw[if_pos q];omega
    ·rw[if_neg q];omega
   have bF:(m:Int)≤cd:=by omega
   have ZpJ:bu<g2.size:=Nat.lt_of_lt_of_le hbu jF.size
   have sm:=sd.TN (m:=m) (by omega) cd
   have etk:(d.2.take m).length=m:=by rw[List.length_take];omega
   simp -implicitDefEqProofs only[go_sem,↓reduceIte,f1,f7,f8,f11,ZH,vZ]
   refine VS.z (g2.size) [11] (.p 0 (.p 1 (.p 2 (.q 3 (.p 4 (.p 5 (.p 6 (.q 7 (.p 8 (.p 9 (.p 10 (.w 11 (.p 12 .nil))))))))))))) mixed (by kernel_rfl) ?_
   simp -implicitDefEqProofs only[go_sem,↓reduceIte,f1,f11,vZ,rd2,jz,bF,ZpJ]
   have sm':Bs g2 (.slice pd m cd) (d.2.take m):=sm
   refine Zv (B:=g2.size) Yt Tryz.underlying34 Wf Vh Vg (Z1.nil g2.size 5 g2) (Nat.le_refl _) sm' (by simp only[List.length_nil];omega) ?_
   intro v3 g3 o3 b3 _
   rw[List.nil_append]at o3
   obtain⟨p3,c3,rfl,hc3⟩:=o3.bs.open
   obtain⟨e,he⟩:=Zu (d.2.take m)
   rw[←he]at o3 etk
   have hfd:KV (UJ ds) i=if ZX e 0≠0 then some e else none:=by
    have e1:(UJ ds).getD i []=d.2:=by unfold UJ;rw[List.getD_eq_getElem?_getD,List.getElem?_map,List.getElem?_eq_getElem hid,←hdd];rfl
    have e2:d.2.take 90=e:=by
     rw[he,hm]
     by_cases q:90<d.2.length
     ·rw[Nat.min_eq_right (by omega)]
     ·rw[Nat.min_eq_left (by omega),List.take_of_length_le (by omega),List.take_of_length_le (by omega)]
    unfold KV
    rw[e1,e2]
    have:i<(UJ ds).length:=by unfold UJ;rw[List.length_map];exact hid
    by_cases q:ZX e 0≠0
    ·rw[if_pos ⟨this,q⟩,if_pos q]
    ·rw[if_neg (fun h=>q h.2),if_neg q]
   have sJ:=tb.Zc (Zs (JQ h) (jF.trans (b3.mono jF.size)))
   have oc:=Kj T g3 (.slice p3 e.length c3) e 0 o3.bs o3.cap (by omega) sJ.tk sJ.tn
   have imE:Ti o2 g3 (.slice p3 e.length c3) e:=⟨Im.Qy o3.own (fun b hb=>A2.1.ZV b hb),o3.bs.byte⟩
   rw[←he]
   simp -implicitDefEqProofs only[go_sem,↓reduceIte,b3]
   by_cases qe:ZX e 0=0
   ·obtain⟨Y,hY⟩:=Zu (Qx e 0)
    have eC:IK e 0=Y.C:=by rw[OQ qe,hY];unfold Qx;rw[if_pos qe];rfl
    rw[eC,qe]at oc
    refine oc.use ?_
    rintro _ g4 ⟨rfl,b4⟩
    obtain⟨g9,je⟩:=Zu (g4.push (.cells Y.C.toArray 47):Hp)
    have e9:=je.symm
    have b9:Ze g4.size g4 g9:=by rw[je];exact (Ze.refl _ _).add _
    have b29:Ze g2.size g2 g9:=b3.trans ((b4.trans (b9.mono b4.size)).mono b3.size)
    have hYp:Yl [Value.int .i64 0,.int .i64 0,.int .i64 0,.int .i64 0,.int .i64 0] 0 Y.C=Y.C:=rfl
    have hYl:Y.C.length=5:=rfl
    have hYo:Y.C.all Z5=true:=rfl
    obtain⟨p2,c2,f9,_⟩:=A2.isSlice
    have A9:=A2.still b29
    rw[f9]at A9
    have r5:=rX g9 (Uq A9.1)
    simp -implicitDefEqProofs only[go_sem,↓reduceIte,hYp,hYl,hYo,e9,f7,f9,f11,ZH,r5]
    refine A9.Vv (by omega) x.1 px cx (im0.Zc A9.1) ?_
    intro v6 o6 g6 A6 k6
    simp -implicitDefEqProofs only[go_sem,↓reduceIte,f11]
    have yp:XJ n (UJ ds) A (i+1)=((XJ n (UJ ds) A i).1++[x.1],(XJ n (UJ ds) A i).2):=by
     rw[XJ,hfd,if_neg (fun h=>h qe),hAx]
    unfold Yy
    refine⟨⟨f1,f7,f8,i+1,o6,ZA,rfl,?_,?_⟩,?_⟩
    ·rw[yp];exact f10
    ·rw[yp];exact A6
    ·simp only[vi,Zh,↓reduceIte,f11];omega
   ·obtain⟨E,hE⟩:=Zu (ZX e 0)
    rw[Je qe,←hE]at oc
    have qe':¬E=0:=by rw[hE];exact qe
    refine oc.use ?_
    rintro _ g4 ⟨rfl,b4⟩
    obtain⟨g9,je⟩:=Zu (g4.push (.cells [Value.int .i64 0,.int .i64 0,.int .i64 0,.int .i64 0,.int .i64 0].toArray 47):Hp)
    have e9:=je.symm
    have b9:Ze g4.size g4 g9:=by rw[je];exact (Ze.refl _ _).add _
    have b39:Ze g3.size g3 g9:=b4.trans (b9.mono b4.size)
    have b29:Ze g2.size g2 g9:=b3.trans (b39.mono b3.size)
    have z9:g9[g4.size]? = some (.cells [Value.int .i64 0,.int .i64 0,.int .i64 0,.int .i64 0,.int .i64 0].toArray 47):=by rw[je];exact Zb
    have w9:wr g9 ⟨g4.size,0,none⟩ [Value.int .i64 0,.int .i64 0,.int .i64 0,.int .i64 0,.int .i64 0]=some g9:=by
     rw[ZP z9 0 _]
     exact congrArg some (VA z9)
    have l9:=Za z9
    obtain⟨p2,c2,f9,_⟩:=A2.isSlice
    have A9:=A2.still b29
    rw[f9]at A9
    have im9:Ti o2 g9 (.slice p3 e.length c3) e:=imE.Zc (Zs (fun b hb=>A2.1.ZV b (Nat.le_trans b3.size hb)) b39)
    simp -implicitDefEqProofs only[go_sem,↓reduceIte,e9,w9,l9,qe',f7,f8,f9,f10,f11,ZH]
    refine A9.Vv (by omega) (dF n e) p3 c3 im9 ?_
    intro v5 o5 g5 A5 k5
    have r5:=rX g5 (Uq A5.1)
    obtain⟨p5,c5,hv5,_⟩:=A5.isSlice
    subst hv5
    simp -implicitDefEqProofs only[go_sem,↓reduceIte,f7,f10,f11,ZH,r5]
    refine A5.Vv (by rw[List.length_append];simp only[List.length_singleton];omega) x.1 px cx (im0.Zc A5.1) ?_
    intro v6 o6 g6 A6 k6
    simp -implicitDefEqProofs only[go_sem,↓reduceIte,f11]
    have yp:XJ n (UJ ds) A (i+1)=((XJ n (UJ ds) A i).1++[dF n e]++[x.1],(XJ n (UJ ds) A i).2+1):=by
     rw[XJ,hfd,if_pos qe,hAx]
    unfold Yy
    refine⟨⟨f1,f7,f8,i+1,o6,ZA,rfl,?_,?_⟩,?_⟩
    ·rw[yp];rfl
    ·rw[yp];exact A6
    ·simp only[vi,Zh,↓reduceIte,f11];omega
  ·have vZ:¬(i:Int)<ds.length:=by omega
   obtain⟨p2,c2,f9,_⟩:=A2.isSlice
   have A9:=A2
   rw[f9]at A9
   have r5:=rX g2 (Uq A2.1)
   have hfd:KV (UJ ds) i=none:=by
    unfold KV UJ
    rw[if_neg (fun h=>hid (by have:=h.1;rw[List.length_map]at this;exact this))]
   simp -implicitDefEqProofs only[go_sem,↓reduceIte,f1,f7,f8,f9,f11,ZH,vZ,r5]
   refine A9.Vv (by omega) x.1 px cx (im0.Zc A9.1) ?_
   intro v6 o6 g6 A6 k6
   simp -implicitDefEqProofs only[go_sem,↓reduceIte,f11]
   have yp:XJ n (UJ ds) A (i+1)=((XJ n (UJ ds) A i).1++[x.1],(XJ n (UJ ds) A i).2):=by
    rw[XJ,hfd,hAx]
   unfold Yy
   refine⟨⟨f1,f7,f8,i+1,o6,ZA,rfl,?_,?_⟩,?_⟩
   ·rw[yp];exact f10
   ·rw[yp];exact A6
   ·simp only[vi,Zh,↓reduceIte,f11];omega
 ·have YE:¬(i:Int)<xs.length:=by omega
  obtain rfl:i=xs.length:=by omega
  have fl:=Cz n (UJ ds) A xs.length
  have fe:=qg n n5 (UJ ds) Ae xs.length
  have fq:=vX n (UJ ds) A xs.length (by omega)
  rw[show A.take xs.length=A by rw[xl];exact List.take_of_length_le (Nat.le_refl _)]at fq
  obtain⟨M,hM⟩:=Zu ((XJ n (UJ ds) A xs.length).1)
  obtain⟨N,hN⟩:=Zu ((XJ n (UJ ds) A xs.length).2)
  rw[←hM]at A2 fl fe fq
  rw[←hN]at f10 fl fq
  obtain⟨Bm,_,zs,hrz,t6,i6⟩:=A2.done
  have zl:zs.length=M.length:=by rw[←hrz];unfold YU;simp
  obtain⟨p2,c2,f9,_⟩:=A2.isSlice
  rw[f9]at t6
  have B2:Ze h.size h g2:=b1.trans (Bm.mono b1.size)
  have Hb:=tb.Zc (Zs (JQ h) B2)
  have t12:=t1.Z4 Bm
  have oq:Kp JK Wl h1 Wl g2:=Zs (JQ h1) Bm
  simp -implicitDefEqProofs only[go_sem,↓reduceIte,f1,f7,f8,f11,YE]
  refine (Ft T g2 _ xs t12 (fun x hx=>(i1 x hx).Zc oq) Hb (by omega) (by rw[hr];exact WL Ae (by omega))).use ?_
  rw[hr]
  rintro _ g3 ⟨⟨lv,tv,vs,rfl,rf⟩,b3⟩
  have yq:∀n,n<5→((SN A).nodes n).log.length≤40:=fun n hn=>dE Ae (by omega) n hn
  obtain⟨W,hW⟩:=Zu (SN A)
  rw[←hW]at rf fq yq ⊢
  obtain⟨ro,⟨pl,ol,cl,rfl⟩,pt,ct,rfl⟩:=rf.at.ok
  have lx1:pl<g3.size∧∀n,n<5→∃x,hc g3 ⟨pl,ol+n,none⟩=some x∧Ts J8.C 5 g3 x (W.nodes n).log:=by
   obtain⟨b',o',c',e,q1,q2⟩:=rf.at.log
   cases e
   exact⟨q1,q2⟩
  have rw1:=rf.at.row
  obtain⟨R,hR⟩:=Zu (HS W (.slice (some ⟨pl,ol,none⟩) 5 cl) (.slice pt W.told.length ct))
  rw[←hR]at ro rw1 ⊢
  have Cl:=ro.len
  have DW:=ro.one
  have hRp:=ro.put
  have Cn:=ro.le
  have et:=ro.take
  obtain⟨g4,VO⟩:=Zu (g3.push (.cells R.toArray 33):Hp)
  have e4:=VO.symm
  have b4:Ze g3.size g3 g4:=by rw[VO];exact (Ze.refl _ _).add _
  have y4:g4[g3.size]? = some (.cells R.toArray 33):=by rw[VO];exact Zb
  have l4:=Za y4
  have b24:Ze g2.size g2 g4:=b3.trans (b4.mono b3.size)
  have tb4:=tb.Zc (Zs (JQ h) (B2.trans (b24.mono B2.size)))
  have k24:Kp JK Wl g2 Wl g4:=Zs (JQ g2) b24
  simp -implicitDefEqProofs only[go_sem,↓reduceIte,Cl,DW,hRp,Cn,e4,et,l4,f9]
  refine (Ft T g4 _ zs (t6.Z4 b24) (fun x hx=>(i6 x hx).Zc k24) tb4 (by omega) (by rw[hrz];exact WL fe (by omega))).use ?_
  rw[hrz]
  rintro _ g5 ⟨⟨lv2,tv2,vs2,rfl,rf2⟩,b5⟩
  obtain⟨V,hV⟩:=Zu (SN M)
  rw[←hV]at rf2 fq ⊢
  obtain⟨ro2,⟨pl2,ol2,cl2,rfl⟩,jA,ct2,rfl⟩:=rf2.at.ok
  have lx2:pl2<g5.size∧∀n,n<5→∃x,hc g5 ⟨pl2,ol2+n,none⟩=some x∧Ts J8.C 5 g5 x (W.nodes n).log:=by
   obtain⟨b',o',c',e,q1,q2⟩:=rf2.at.log
   cases e
   rw[fq.nodes]at q2
   exact⟨q1,q2⟩
  have rw2:=rf2.at.row
  obtain⟨R2,tP⟩:∃R,R=HS V (.slice (some ⟨pl2,ol2,none⟩) 5 cl2) (.slice jA V.told.length ct2):=⟨_,rfl⟩
  rw[←tP]at ro2 rw2 ⊢
  have Zgu:=ro2.len
  have ZpO:=ro2.one
  have ZpP:=ro2.put
  have Zgv:=ro2.le
  have et2:=ro2.take
  obtain⟨g6,TF⟩:=Zu (g5.push (.cells R2.toArray 33):Hp)
  have e6:=TF.symm
  have b6:Ze g5.size g5 g6:=by rw[TF];exact (Ze.refl _ _).add _
  have y6:g6[g5.size]? = some (.cells R2.toArray 33):=by rw[TF];exact Zb
  have l6:=Za y6
  have x6:=(b5.trans (b6.mono b5.size)).get l4 y4
  simp -implicitDefEqProofs only[go_sem,↓reduceIte,Zgu,ZpO,ZpP,Zgv,e6,et2,l6]
  have q0:hc g6 ⟨g3.size,0,none⟩=some (.int .i64 W.Zj.length):=by rw[Zg x6,hR];rfl
  have q1:hc g6 ⟨g5.size,0,none⟩=some (.int .i64 W.Zj.length):=by rw[Zg y6,tP,←fq.Zj];rfl
  have q2:hc g6 ⟨g3.size,12,none⟩=some (.slice pt W.told.length ct):=by rw[Zg x6,hR];rfl
  have q3:hc g6 ⟨g5.size,12,none⟩=some (.slice jA W.told.length ct2):=by rw[Zg y6,tP,←fq.told];rfl
  obtain⟨U,hU⟩:∃U:List Value,U=[.bool (W.nodes 0).up,.bool (W.nodes 1).up,.bool (W.nodes 2).up,.bool (W.nodes 3).up,.bool (W.nodes 4).up]:=⟨_,rfl⟩
  have q4:rd g6 ⟨g3.size,1,none⟩ 5=some U:=by rw[Z0 x6 (by rw[Cl];decide),hR,hU];rfl
  have q5:rd g6 ⟨g5.size,1,none⟩ 5=some U:=by rw[Z0 y6 (by rw[Zgu];decide),tP,hU,←fq.nodes];rfl
  have hUs:leq U U=true:=by rw[hU];simp[kX,Gj]
  have hUf:Yp [none,none,none,none,none] U=true:=by rw[hU];rfl
  have hUl:U.length=5:=by rw[hU];rfl
  have n5':(n:Int)<5:=by omega
  have bd:∀(w:Wd) (a b:Value),nth (HS w a b) (7+n)=some (.int .i64 (w.bad n)):=fun w a b=>by
   match n,n5 with
   | 0,_=>rfl
   | 1,_=>rfl
   | 2,_=>rfl
   | 3,_=>rfl
   | 4,_=>rfl
  have q6:hc g6 ⟨g3.size,7+n,none⟩=some (.int .i64 (W.bad n)):=by rw[Zg x6,hR];exact bd _ _ _
  have q7:hc g6 ⟨g5.size,7+n,none⟩=some (.int .i64 (V.bad n)):=by rw[Zg y6,tP];exact bd _ _ _
  have ER : -9223372036854775808≤V.bad n-W.bad n:=by have:=fq.KQ;omega
  have hw2:V.bad n-W.bad n≤9223372036854775807:=by have:=fq.KQ;omega
  have hw3:¬(N:Int)<V.bad n-W.bad n:=by have:=fq.KQ;omega
  have hw4:¬V.bad n<W.bad n:=by have:=fq.KQ;omega
  refine VS.q mixed (by kernel_rfl) ?_
  simp -implicitDefEqProofs only[go_sem,↓reduceIte,q0,q1,q2,q3,q4,q5,q6,q7,hUs,hUf,hUl,n5',f8,f10,ER,hw2,hw3,hw4]
  have q8:hc g6 ⟨g3.size,6,none⟩=some (.slice (some ⟨pl,ol,none⟩) 5 cl):=by rw[Zg x6,hR];rfl
  have q9:hc g6 ⟨g5.size,6,none⟩=some (.slice (some ⟨pl2,ol2,none⟩) 5 cl2):=by rw[Zg y6,tP];rfl
  refine VS.ZU (fun F g=>g=g6∧F 15=.pointer (some ⟨g3.size,0,none⟩)∧F 17=.pointer (some ⟨g5.size,0,none⟩)∧∃k:Nat,k≤5∧F 19=.int .i64 k)
   (fun F _=>5-(vi (F 19)).toNat) rfl ⟨rfl,rfl,rfl,0,by omega,rfl⟩ ?_
  rintro F3 g7 ⟨rfl,f15,f17,k,hk,f19⟩
  by_cases qx:k<5
  ·have D7:(k:Int)<5:=by omega
   have b36:Ze g3.size g3 g7:=b4.trans ((b5.trans (b6.mono b5.size)).mono b4.size)
   obtain⟨x,rx,tx⟩:=lx1.2 k qx
   obtain⟨y,ry,ty⟩:=lx2.2 k qx
   obtain⟨px,cx,rfl,_⟩:=XP tx
   obtain⟨py,cy,rfl,_⟩:=XP ty
   have ca:=pJ T g7 _ _ _ _ (tx.Z4 b36) (ty.Z4 b6) (by have:=yq k qx;omega)
   rw[pI (fun s u v h1 h2=>by rw[h1]at h2;exact Option.some.inj h2)]at ca
   have rx7:hc g7 ⟨pl,ol+k,none⟩=some (.slice px (W.nodes k).log.length cx):=by rw[b36.hc (by exact lx1.1)];exact rx
   have ry7:hc g7 ⟨pl2,ol2+k,none⟩=some (.slice py (W.nodes k).log.length cy):=by rw[b6.hc (by exact lx2.1)];exact ry
   obtain⟨L,hL⟩:=Zu ((W.nodes k).log)
   rw[←hL]at rx7 ry7 ca
   simp -implicitDefEqProofs only[go_sem,↓reduceIte,f15,f17,f19,D7,q8]
   have s1:g3.size<g7.size:=Nat.lt_of_lt_of_le l4 (b5.trans (b6.mono b5.size)).size
   have s2:pl<g7.size:=Nat.lt_of_lt_of_le lx1.1 b36.size
   have s3:pl2<g7.size:=Nat.lt_of_lt_of_le lx2.1 b6.size
   refine VS.z (g7.size) [24] (.p 0 (.q 1 (.p 2 (.p 3 (.q 4 (.p 5 (.p 6 (.q 7 (.p 8 (.p 9 (.q 10 (.p 11 (.p 12 (.p 13 (.p 14 (.q 15 (.p 16 (.p 17 (.q 18 (.p 19 (.q 20 (.p 21 (.p 22 (.q 23 (.w 24 (.p 25 (.p 26 .nil))))))))))))))))))))))))))) mixed (by kernel_rfl) ?_
   simp -implicitDefEqProofs only[go_sem,↓reduceIte,f15,f17,f19,D7,q8,q9,rx7,ry7,s1,s2,s3,l6]
   refine ca.pure ?_
   simp -implicitDefEqProofs only[go_sem,↓reduceIte,f19]
   unfold Yy
   refine⟨⟨rfl,f15,f17,k+1,qx,rfl⟩,?_⟩
   simp only[vi,Zh,↓reduceIte,f19];omega
  ·have D7:¬(k:Int)<5:=by omega
   simp -implicitDefEqProofs only[go_sem,↓reduceIte,f15,f17,f19,D7,q8]
   exact (B2.trans (b24.mono B2.size)).trans ((b5.trans (b6.mono b5.size)).mono (B2.trans (b24.mono B2.size)).size)
end Go.Proofs.YtkfhncfkagcamaaGreatDoor
