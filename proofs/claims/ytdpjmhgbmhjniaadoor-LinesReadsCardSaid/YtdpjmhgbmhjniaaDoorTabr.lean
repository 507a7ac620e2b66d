/- Part Tabr. -/
import Derived.Test.YtdpjmhgbmhjniaaDoorLrh
import Derived.LaidSub
import Derived.MakeChecks
import Derived.ProofKit
namespace Go.Proofs.YtdpjmhgbmhjniaaDoor
open Go Go.V
set_option linter.unusedSimpArgs false
set_option linter.unusedVariables false
set_option maxRecDepth 100000
def Raw.line (x:Raw):List Nat:=J2 x.k x.n x.a x.b x.data
theorem VP {x:Raw} (h:x.err=0):(1≤x.k∧x.k≤9)∧x.data.length≤2000∧∀y∈Zg x.k,Yc x.k x.n x.a x.b y:=by
 unfold Raw.err Zx at h
 by_cases c1:1≤x.k∧x.k≤9
 case neg=>rw[if_pos c1]at h;cases h
 rw[if_neg (by simpa using c1)]at h
 by_cases c2:(Ze x.k∧¬(0≤x.n∧x.n≤4))∨(Zk x.k∧¬(0≤x.a∧x.a≤1048576))∨(x.k=8∧¬(0≤x.b∧x.b≤100000))
 ·rw[if_pos c2]at h;cases h
 rw[if_neg c2]at h
 by_cases c3:2000<x.data.length
 ·rw[if_pos (by omega)]at h;cases h
 refine⟨c1,by omega,fun y hy=>Classical.byContradiction fun hn=>c2 ?_⟩
 unfold Zg at hy
 unfold Yc at hn
 unfold Ze Zk
 have av:∀p:Nat,Zz x.k x.n x.a x.b p=[x.k,x.n,x.a,x.b].getD p 0:=fun _=>rfl
 split at hy
 ·obtain rfl:y=(1,4):=by simpa using hy
  have:¬(0≤x.n∧x.n≤4):=hn
  omega
 ·split at hy
  ·obtain rfl:y=(2,1048576):=by simpa using hy
   have:¬(0≤x.a∧x.a≤1048576):=hn
   omega
  ·split at hy
   ·simp only[List.mem_cons,List.not_mem_nil,or_false]at hy
    rcases hy with rfl|rfl
    ·have:¬(0≤x.n∧x.n≤4):=hn
     omega
    ·have:¬(0≤x.b∧x.b≤100000):=hn
     omega
   ·cases hy
theorem O3:∀l:List Nat,(YB l).length=2*l.length:=by
 intro l;induction l with
 | nil=>rfl
 | cons y l ih=>
  have e:YB (y :: l)=[Yv (y/16),Yv (y%16)]++YB l:=by simp[YB]
  rw[e,List.length_append,ih];simp only[List.length_cons,List.length_nil];omega
theorem QA (k:Int) (hk:1≤k∧k≤9):(∀x∈Zr k,x<256)∧(Zr k).length≤6:=by
 unfold Zr
 have h9:∀j,j<10→(∀x∈Xr.getD j [],x<256)∧(Xr.getD j []).length≤6:=by decide
 exact h9 _ (by omega)
theorem R0 {x:Raw} (h:x.err=0) (hb:∀y∈x.data,y<256):x.line≠[]∧x.line.length≤5000∧∀y∈x.line,y<256:=by
 obtain⟨hk,hd,hg⟩:=VP h
 have h1:=QA x.k hk
 have h2:=Uo (k:=x.k) (n:=x.n) (a:=x.a) (b:=x.b) (Zg x.k) (fun y hy=>⟨hg y hy,Jb y hy⟩)
 have h3:=Qk x.k
 have h4:=O3 x.data
 unfold Raw.line J2
 refine⟨by simp,?_,?_⟩
 ·simp only[List.length_append,List.length_cons,List.length_nil]
  split
  ·simp only[List.length_cons];omega
  ·simp only[List.length_nil];omega
 ·intro y hy
  simp only[List.mem_append,List.mem_singleton]at hy
  rcases hy with ((hy|hy)|hy)|hy
  ·exact h1.1 y hy
  ·unfold Jz at hy
   rw[List.mem_flatten]at hy
   obtain⟨l,hl,hy⟩:=hy
   rw[List.mem_map]at hl
   obtain⟨z,_,rfl⟩:=hl
   exact Wg _ y hy
  ·split at hy
   ·rcases List.mem_cons.1 hy with rfl|hy
    ·omega
    ·unfold YB at hy
     rw[List.mem_flatten]at hy
     obtain⟨l,hl,hy⟩:=hy
     rw[List.mem_map]at hl
     obtain⟨z,hz,rfl⟩:=hl
     have:=hb z hz
     have Dx:∀y,y<16→Yv y<256:=fun y hy=>by unfold Yv;split<;>omega
     simp only[List.mem_cons,List.not_mem_nil,or_false]at hy
     rcases hy with rfl|rfl
     ·exact Dx _ (by omega)
     ·exact Dx _ (by omega)
   ·cases hy
  ·omega
section
variable {P:Program} {T:World} {K:Value→Hp→Prop} {h:Hp} {ty:TypeId}
end
theorem VQ:∀k:Int,1≤k∧k≤9→XJ (Zr k)=k:=by
 intro k hk
 have:k=1∨k=2∨k=3∨k=4∨k=5∨k=6∨k=7∨k=8∨k=9:=by omega
 rcases this with rfl|rfl|rfl|rfl|rfl|rfl|rfl|rfl|rfl<;>decide
theorem Sm {w:List Nat} (h:∀k:Int,1≤k→k≤9→Zr k≠w):XJ w=0:=by
 unfold XJ
 repeat rw[if_neg (fun e=>h _ (by decide) (by decide) e.symm)]
theorem toNat_ofNat {l:List Nat} (h:∀x∈l,x<256):(l.map UInt8.ofNat).map UInt8.toNat=l:=by
 rw[List.map_map]
 conv=>rhs;rw[←List.map_id l]
 refine List.map_congr_left fun x hx=>?_
 have:=h x hx
 simp only[Function.comp,id,UInt8.toNat_ofNat']
 omega
theorem Sn {l:List Nat} (hl:∀x∈l,x<256) (w:ByteArray):((⟨(l.map UInt8.ofNat).toArray⟩:ByteArray).toList == w.toList)=decide (l=bl w):=by
 rw[Lib.toList_data,Lib.toList_data]
 show ((l.map UInt8.ofNat) == w.data.toList)=decide (l=bl w)
 by_cases e:l=bl w
 ·rw[decide_eq_true e,e]
  unfold bl
  rw[List.map_map,show (UInt8.ofNat ∘ UInt8.toNat)=id from funext fun x=>UInt8.ofNat_toNat,List.map_id]
  exact beq_self_eq_true _
 ·rw[decide_eq_false e]
  refine Bool.eq_false_iff.2 fun q=>e ?_
  have q:=eq_of_beq q
  unfold bl
  rw[←q,toNat_ofNat hl]
theorem WQ:∀(l:List Nat),∀w∈Zo l,w.length≤l.length:=by
 intro l
 induction l with
 | nil=>
  intro w hw
  have:w=[]:=by simpa [Zo] using hw
  rw[this]
  exact Nat.le_refl _
 | cons b l ih=>
  intro w hw
  unfold Zo at hw
  split at hw
  ·rcases List.mem_cons.1 hw with rfl|hw
   ·simp
   ·have:=ih w hw;simp only[List.length_cons];omega
  ·match hk:Zo l,hw with
   | [],hw=>exact absurd hk (YA l)
   | x :: k,hw=>
    rw[hk]at ih
    rcases List.mem_cons.1 hw with rfl|hw
    ·have:=ih x (by simp);simp only[List.length_append,List.length_cons,List.length_nil];omega
    ·have:=ih w (List.mem_cons_of_mem _ hw);simp only[List.length_cons];omega
theorem VT (k:Int) (hk:1≤k∧k≤9):∀x∈Zr k,x<256:=(QA k hk).1
set_option maxHeartbeats 4000000 in
theorem So (T:World) (h:Hp) (s:ByteArray) (hs:s.size≤4000000):Zf Tryd.prog T 11 #[.string s] h fun v' h'=>∃v,v'=.agg v.toArray∧Hh (X1 (Zo (bl s))) h.size h' v∧Zj h.size h h':=by
 refine Zf.Ix [_] Tryd.func11 ?_
 obtain⟨ha,Pr⟩:=ZE (h.push (.cells (Zc 0 0 0 0 (.slice none 0 0)).toArray 33):Hp)
 have ea:=Pr.symm
 unfold Zc at ea
 have ba:Zj h.size h ha:=by rw[Pr];exact (Zj.refl _ _).add _
 have ya:ha[h.size]? = some (.cells (Zc 0 0 0 0 (.slice none 0 0)).toArray 33):=by rw[Pr];exact Zn
 have wo:=OM T ha s (by omega)
 simp -implicitDefEqProofs only[go_sem,↓reduceIte,ea]
 refine wo.use ?_
 rintro _ g ⟨bg,ws,QQ,ts⟩
 obtain⟨pw,cw,rfl,hw⟩:=ts.open (n:=1) (enc:=WK) (fun _=>rfl) (by decide)
 have ZC:=YA (bl s)
 have RP:0<ws.length:=by
  have:(ws.map bl).length≠0:=by rw[QQ];intro e;exact ZC (List.eq_nil_of_length_eq_zero e)
  rw[List.length_map]at this;omega
 obtain⟨bw,ow,rfl,QS,L7⟩:=hw (by intro e;rw[e]at RP;simp at RP)
 have Bg:Zj h.size h g:=ba.trans (bg.mono ba.size)
 have yr:=bg.get (Zb ya) ya
 have RY:∀i (hi:i<ws.length) G,Zj g.size g G→hc G ⟨bw,ow+i,none⟩=some (.string ws[i]):=fun i hi G bG=>by
  have:=(L7 i hi).hc (i:=0) (x:=.string ws[i]) rfl
  rw[bG.hc QS]
  simpa using this
 have Mm:∀w∈ws,w.size≤8000000:=fun w hw=>by
  have h1:=WQ (bl s) (bl w) (by rw[←QQ];exact List.mem_map_of_mem hw)
  rw[Yz,Yz]at h1
  omega
 obtain⟨w0,KN⟩:∃w,w=ws[0]:=⟨_,rfl⟩
 have Dy:(Zo (bl s)).getD 0 []=bl w0:=by rw[←QQ,List.getD_eq_getElem?_getD,List.getElem?_map,List.getElem?_eq_getElem RP,KN];rfl
 have c0:=RY 0 RP g (Zj.refl _ _)
 rw[Nat.add_zero,←KN]at c0
 have zw:=Yi (cs:=Zc 0 0 0 0 (.slice none 0 0)) yr rfl rfl
 unfold Zc at zw
 have ye:=ZO yr (o:=.cells (Zc 0 0 0 0 (.slice none 0 0)).toArray 33)
 have re:rd (g.setIfInBounds h.size (.cells (Zc 0 0 0 0 (.slice none 0 0)).toArray 33)) ⟨h.size,0,none⟩ 5=some (Zc 0 0 0 0 (.slice none 0 0)):=Zu ye rfl
 unfold Zc at re
 have Be:Zj h.size h (g.setIfInBounds h.size (.cells (Zc 0 0 0 0 (.slice none 0 0)).toArray 33)):=⟨by rw[Array.size_setIfInBounds];exact Bg.size,fun b hb=>by rw[Array.getElem?_setIfInBounds,if_neg (by omega)];exact Bg.block b hb⟩
 simp -implicitDefEqProofs only[go_sem,↓reduceIte]
 refine VS.loop (fun F G=>G=g∧F 2=.pointer (some ⟨h.size,0,none⟩)∧F 3=.slice (some ⟨bw,ow,none⟩) ws.length cw∧∃k:Nat,1≤k∧k≤10∧F 4=.int .i64 k∧∀j:Int,1≤j→j<k→Zr j≠bl w0)
  (fun F _=>10-(vi (F 4)).toNat) ⟨rfl,rfl,rfl,1,by omega,by omega,rfl,fun j h1 h2=>by omega⟩ ?_
 rintro F G ⟨rfl,f2,f3,k,Nx,Bx,f4,Nt⟩
 refine VS.seq (ZG _ _ _ _ _ _ rfl ?_)
 by_cases hle:k≤9
 case neg=>
  have Y9:¬(k:Int)≤9:=by omega
  have Hn:X1 (Zo (bl s))=none:=by
   unfold X1
   rw[Dy,Sm (fun j h1 h2=>Nt j h1 (by omega)),if_pos rfl]
  simp -implicitDefEqProofs only[go_sem,↓reduceIte,f2,f3,f4,Y9,zw,re]
  exact⟨_,rfl,.inl ⟨Hn,rfl⟩,Be⟩
 have Y9:(k:Int)≤9:=by omega
 have Ps:(1:Int)≤k∧(k:Int)≤9:=by omega
 have aw:=Sh T G k Ps
 unfold WN at aw
 obtain⟨W,hW⟩:∃W:ByteArray,W=⟨((Zr k).map UInt8.ofNat).toArray⟩:=⟨_,rfl⟩
 have cmp:=Sn (VT k Ps) w0
 rw[←hW]at aw cmp
 simp -implicitDefEqProofs only[go_sem,↓reduceIte,f2,f3,f4,Y9]
 refine VS.seq (VS.block (VS.seq (VS.seq ?_)))
 refine VS.z (G.size) [] (.p 0 (.p 2 (.p 3 (.q 4 (.s 1 (.p 5 .nil)))))) mixed (by kernel_rfl) ?_
 have GF:bw<G.size:=QS
 by_cases hit:Zr k=bl w0
 ·rw[decide_eq_true hit]at cmp
  simp -implicitDefEqProofs only[go_sem,↓reduceIte,f2,f3,f4,Y9,c0,GF]
  refine aw.use ?_
  rintro _ h5 ⟨rfl,rfl⟩
  simp -implicitDefEqProofs only[go_sem,↓reduceIte,f2,f3,f4,Y9,c0,GF,cmp]
  refine ZG _ _ _ _ _ _ rfl ?_
  simp -implicitDefEqProofs only[go_sem,↓reduceIte]
  refine L8 T (c:=_) rfl (rb:=h.size) (bw:=bw) (ow:=ow) (cw:=cw) (k:=(k:Int)) (ws:=ws) (L:=Zo (bl s)) Ps f2 f3 f4 yr QQ RP Mm QS RY ?_
  intro F' G' v By X7 yv rv
  have KK:XJ (bl w0)=k:=by rw[←hit];exact VQ k Ps
  have hA:X1 (Zo (bl s))=XB k (Zo (bl s)):=by
   unfold X1
   rw[Dy,KK,if_neg (by omega)]
  rw[←hA]at rv
  have vl:v.length=5:=by rcases rv with⟨_,rfl⟩|⟨x,dv,_,rfl,_⟩<;>rfl
  have rG:rd G' ⟨h.size,0,none⟩ 5=some v:=Zu yv (by simpa using vl)
  have Bz:Zj h.size h G':=Bg.trans (X7.Yu Bg.size (fun b e=>by rw[←Option.some.inj e];exact Nat.le_refl _))
  simp -implicitDefEqProofs only[go_sem,↓reduceIte,By,rG]
  refine⟨v,rfl,?_,Bz⟩
  rcases rv with q|⟨x,dv,q1,q2,q3⟩
  ·exact .inl q
  ·exact .inr ⟨x,dv,q1,q2,q3.mono Bg.size⟩
 ·rw[decide_eq_false hit]at cmp
  simp -implicitDefEqProofs only[go_sem,↓reduceIte,f2,f3,f4,Y9,c0,GF]
  refine aw.use ?_
  rintro _ h5 ⟨rfl,rfl⟩
  simp -implicitDefEqProofs only[go_sem,↓reduceIte,f2,f3,f4,Y9,c0,GF,cmp]
  refine ZG _ _ _ _ _ _ rfl ?_
  simp -implicitDefEqProofs only[go_sem,↓reduceIte,f4]
  refine ZG _ _ _ _ _ _ rfl ?_
  simp -implicitDefEqProofs only[go_sem,↓reduceIte,f4]
  refine⟨⟨f2,f3,k+1,by omega,by omega,rfl,fun j h1 h2=>?_⟩,?_⟩
  ·by_cases e:j=k
   ·rw[e];exact hit
   ·exact Nt j h1 (by omega)
  ·simp only[vi,Zl,Jo,Nat.reduceEqDiff,↓reduceIte,f4]
   omega
def Ya:List Nat→List Nat→List Raw→List Raw × Int × Int
 | [],cur,acc=>if cur=[] then (acc,0,0) else if acc.length=100000 then ([],100000,8) else ([],acc.length,3)
 | b :: l,cur,acc=>
  if b=10 then
   if acc.length=100000 then ([],100000,8)
   else match X1 (Zo cur) with
    | none=>([],acc.length,3)
    | some x=>Ya l [] (acc++[x])
  else Ya l (cur++[b]) acc
theorem Ql (cur:List Nat) (acc:List Raw):Ya [] cur acc=(if cur=[] then (acc,0,0) else if acc.length=100000 then ([],100000,8) else ([],acc.length,3):List Raw × Int × Int):=rfl
theorem Y7 (b:Nat) (l cur:List Nat) (acc:List Raw):Ya (b :: l) cur acc=(if b=10 then (if acc.length=100000 then ([],100000,8)
   else match X1 (Zo cur) with
    | none=>([],acc.length,3)
    | some x=>Ya l [] (acc++[x])) else Ya l (cur++[b]) acc:List Raw × Int × Int):=rfl
theorem Wh {k:Int} {L:List (List Nat)} {x:Raw} (h:XB k L=some x):x.err=0∧x.k=k:=by
 unfold XB at h
 split at h
 ·cases h
 ·split at h
  ·cases h
  ·rename_i d hd
   generalize (if Ze k then Zq (L.getD 1 []) else 0)=n at h
   generalize (if Zk k then Zq (L.getD 1 []) else 0)=a at h
   generalize (if k=8 then Zq (L.getD 2 []) else 0)=b at h
   split at h
   ·cases h
   ·rename_i ZC
    cases h
    exact⟨Decidable.of_not_not ZC,rfl⟩
theorem R1 {L:List (List Nat)} {x:Raw} (h:X1 L=some x):x.err=0∧x.k≠0:=by
 unfold X1 at h
 split at h
 ·cases h
 ·rename_i hk
  obtain⟨h1,h2⟩:=Wh h
  exact⟨h1,by rw[h2];exact hk⟩
def Lc (r:List Raw × Int × Int) (h:Hp) (v:Value):Prop:=
 ∃sv ys,v=.tuple #[sv,.int .i64 r.2.1,.int .i64 r.2.2]∧Xa ys=r.1∧Ts Xy 5 h sv ys∧∀y∈ys,Bs h y.2 y.1.data
theorem YM {h:Hp}:Ts Xy 5 h (.slice none 0 0) []:=(Jk.nil 0 33 Xy 5 h).ts
theorem VU (T:World) (h:Hp) (s:ByteArray) (hs:s.size≤4000000):Zf Tryd.prog T 11 #[.string s] h fun v' h'=>∃(x:Raw) (p:Option Addr) (c:Nat),
  v'=.agg (Zc x.k x.n x.a x.b (.slice p x.data.length c)).toArray∧Y8 h.size 5 h' (.slice p x.data.length c) x.data∧Zj h.size h h'∧((X1 (Zo (bl s))=none∧x.k=0)∨(X1 (Zo (bl s))=some x∧x.k≠0)):=by
 refine (So T h s hs).use ?_
 rintro _ h' ⟨v,rfl,rv,b⟩
 rcases rv with⟨q,rfl⟩|⟨x,dv,q,rfl,od⟩
 ·exact⟨⟨0,0,0,0,[]⟩,none,0,rfl,Y8.nil _ _ _,b,.inl ⟨q,rfl⟩⟩
 ·obtain⟨p,c,rfl,_⟩:=od.open
  exact⟨x,p,c,rfl,od,b,.inr ⟨q,(R1 q).2⟩⟩
set_option maxHeartbeats 8000000 in
theorem VV (T:World) (h:Hp) (s:ByteArray):Zf Tryd.prog T 5 #[.string s] h fun v' h'=>Lc (if 4000000<s.size then ([],0,1) else Ya (bl s) [] []) h' v'∧Zj h.size h h':=by
 refine Zf.WT [_] Tryd.func5 ?_
 by_cases S8:4000000<s.size
 ·have J6:(4000000:Int)<s.size:=by omega
  rw[if_pos S8]
  simp -implicitDefEqProofs only[go_sem,↓reduceIte,J6]
  exact⟨_,[],rfl,rfl,YM,fun y hy=>by cases hy⟩
 have J6:¬(4000000:Int)<s.size:=by omega
 rw[if_neg S8]
 have hl:=Yz s
 have Ms:=SP s
 obtain⟨l,hL⟩:=ZE (bl s)
 have Nv:∀i:Nat,((s.data.toList.getD i 0).toNat:Int)=(l.getD i 0:Nat):=fun i=>by rw[hL,Wd]
 rw[←hL]at hl Ms ⊢
 simp -implicitDefEqProofs only[go_sem,↓reduceIte,J6]
 refine VS.XF (fun F g=>F 0=.string s∧∃(i fr:Nat) (o:Ow) (ys:List (Raw × Value)),i≤l.length+1∧ys.length≤100000∧F 7=.int .i64 i∧F 6=.int .i64 fr∧Kp (fun t=>t=.YK 100) KM h o g ∧
   XX o (.YK 100) 33 5 g (F 5) ys.length (Yh Xy ys)∧(∀y∈ys,OY o g y.2 y.1.data) ∧
   (i≤l.length→fr≤i∧Ya l [] []=Ya (l.drop i) ((l.drop fr).take (i-fr)) (Xa ys))∧(i=l.length+1→Ya l [] []=(Xa ys,0,0)))
  (fun F _=>l.length+1-(vi (F 7)).toNat) rfl ⟨rfl,0,0,KM,[],Nat.zero_le _,Nat.zero_le _,rfl,rfl,Kp.refl (L6 h) _,XX.nil _ _ _ _ _,fun y hy=>by (cases hy),fun _=>⟨Nat.le_refl _,rfl⟩,fun e=>by omega⟩ ?_
 rintro F g ⟨f0,i,fr,o,ys,hi,GG,f7,f6,K,O,I,hr,he⟩
 obtain⟨p5,c5,f5,_⟩:=O.J0
 have Ld:(Xa ys).length=ys.length:=by unfold Xa;simp
 by_cases hle:i≤l.length
 case neg=>
  have Y9:¬(i:Int)≤s.size:=by omega
  rw[he (by omega)]
  simp -implicitDefEqProofs only[go_sem,↓reduceIte,f0,f5,f6,f7,Y9]
  rw[f5]at O
  exact⟨⟨_,ys,rfl,rfl,⟨O.sl⟩,fun y hy=>(I y hy).bs⟩,JB K⟩
 have Y9:(i:Int)≤s.size:=by omega
 obtain⟨NA,hr⟩:=hr hle
 have Qf:(0:Int)≤i:=by omega
 have ex:∀(K:Value→Hp→Prop) h,XH s (some (.int .i64 fr)) (some i) K h=K (.string (s.extract fr i)) h:=fun K h=>by
  have e:V.sb (some (.int .i64 (fr:Int))) 0 i=some fr:=by
   simp only[V.sb]
   rw[if_pos (by omega)]
   simp
  unfold XH
  simp only[e]
 have be:=Yj s fr i
 rw[←hL]at be
 have la:=VU T g (s.extract fr i) (by rw[ByteArray.size_extract];omega)
 rw[be]at la
 obtain⟨AR,FU⟩:∃e,e=s.extract fr i:=⟨_,rfl⟩
 rw[←FU]at la ex
 have NH:(0:Int)≤fr:=by omega
 by_cases ZH:i<l.length
 case neg=>
  have AS:i=l.length:=by omega
  have ZV:¬(i:Int)<s.size:=by omega
  have O4:((i:Int)=s.size)=True:=eq_true (by omega)
  rw[List.drop_eq_nil_of_le (by omega),Ql]at hr
  by_cases BA:fr=l.length
  ·have My:((fr:Int)=s.size)=True:=eq_true (by omega)
   rw[if_pos (by rw[BA];simp)]at hr
   simp -implicitDefEqProofs only[go_sem,↓reduceIte,f0,f5,f6,f7,Y9,ZV,O4,My]
   unfold YS
   refine⟨⟨f0,i+1,fr,o,ys,by omega,GG,rfl,f6,K,O,I,fun e=>by omega,fun _=>hr⟩,?_⟩
   simp only[vi,Zl,Jo,Nat.reduceEqDiff,↓reduceIte,f7]
   omega
  ·have My:¬(fr:Int)=s.size:=by omega
   have FV:(l.drop fr).take (i-fr)≠[]:=by
    intro e
    have:=congrArg List.length e
    simp only[List.length_take,List.length_drop,List.length_nil]at this
    omega
   rw[if_neg FV,Ld]at hr
   by_cases hf:ys.length=100000
   ·have V8:((ys.length:Nat):Int)=100000:=by omega
    rw[if_pos hf]at hr
    rw[hr]
    simp -implicitDefEqProofs only[go_sem,↓reduceIte,f0,f5,f6,f7,Y9,ZV,O4,My,V8]
    exact⟨⟨_,[],rfl,rfl,YM,fun y hy=>by cases hy⟩,JB K⟩
   ·have V8:¬((ys.length:Nat):Int)=100000:=by omega
    rw[if_neg hf]at hr
    rw[hr]
    simp -implicitDefEqProofs only[go_sem,↓reduceIte,f0,f5,f6,f7,Y9,ZV,O4,My,V8,ex,Qf,NH,Int.toNat_natCast]
    refine la.use ?_
    rintro _ g4 ⟨x,pd,cd,rfl,od,b4,hx⟩
    obtain⟨g5,Kb⟩:=ZE (g4.push (.cells (Zc x.k x.n x.a x.b (.slice pd x.data.length cd)).toArray 33):Hp)
    have e5:=Kb.symm
    have y5:g5[g4.size]? = some (.cells (Zc x.k x.n x.a x.b (.slice pd x.data.length cd)).toArray 33):=by rw[Kb];exact Zn
    have Kc:hc g5 ⟨g4.size,0,none⟩=some (.int .i64 x.k):=Zs y5
    have B5:Zj h.size h g5:=(JB K).trans ((b4.mono (JB K).size).trans (by rw[Kb];exact (Zj.refl _ _).Uc (by have:=(JB K).size;have:=b4.size;omega) _))
    have l5:=Zb y5
    unfold Zc at e5 ⊢
    by_cases VL:x.k=0
    ·rw[VL]at e5 Kc
     simp -implicitDefEqProofs only[go_sem,↓reduceIte,f0,f5,f6,f7,e5,Kc,l5,VL,O4]
     exact⟨⟨_,[],rfl,rfl,YM,fun y hy=>by cases hy⟩,B5⟩
    ·simp -implicitDefEqProofs only[go_sem,↓reduceIte,f0,f5,f6,f7,e5,Kc,l5,VL,O4]
     exact⟨⟨_,[],rfl,rfl,YM,fun y hy=>by cases hy⟩,B5⟩
 have ZV:(i:Int)<s.size:=by omega
 have Vu:¬(i:Int)=s.size:=by omega
 have hc:l.drop i=l.getD i 0 :: l.drop (i+1):=by
  rw[List.drop_eq_getElem_cons ZH,List.getD_eq_getElem?_getD,List.getElem?_eq_getElem ZH];rfl
 have ai:=Nv i
 obtain⟨b,hb⟩:=ZE (l.getD i 0)
 rw[←hb]at hc ai
 rw[hc,Y7]at hr
 by_cases Ho:b=10
 case neg=>
  have Jg:¬(b:Int)=10:=by omega
  rw[if_neg Ho]at hr
  simp -implicitDefEqProofs only[go_sem,↓reduceIte,f0,f5,f6,f7,Y9,ZV,Vu,ai,Jg,Qf,Int.toNat_natCast]
  unfold YS
  refine⟨⟨f0,i+1,fr,o,ys,by omega,GG,rfl,f6,K,O,I,fun _=>⟨by omega,?_⟩,fun e=>by omega⟩,?_⟩
  ·rw[hr]
   congr 1
   have:i+1-fr=(i-fr)+1:=by omega
   rw[this,List.take_add_one,List.getElem?_drop]
   congr 1
   rw[show fr+(i-fr)=i by omega,List.getElem?_eq_getElem ZH,hb,List.getD_eq_getElem?_getD,List.getElem?_eq_getElem ZH]
   rfl
  ·simp only[vi,Zl,Jo,Nat.reduceEqDiff,↓reduceIte,f7]
   omega
 have Jg:((b:Int)=10)=True:=eq_true (by omega)
 rw[if_pos Ho,Ld]at hr
 by_cases hf:ys.length=100000
 ·have V8:((ys.length:Nat):Int)=100000:=by omega
  rw[if_pos hf]at hr
  rw[hr]
  simp -implicitDefEqProofs only[go_sem,↓reduceIte,f0,f5,f6,f7,Y9,ZV,Vu,ai,Jg,V8,Qf,Int.toNat_natCast]
  exact⟨⟨_,[],rfl,rfl,YM,fun y hy=>by cases hy⟩,JB K⟩
 have V8:¬((ys.length:Nat):Int)=100000:=by omega
 rw[if_neg hf]at hr
 simp -implicitDefEqProofs only[go_sem,↓reduceIte,f0,f5,f6,f7,Y9,ZV,Vu,ai,Jg,V8,ex,Qf,NH,Int.toNat_natCast]
 refine la.use ?_
 rintro _ g4 ⟨x,pd,cd,rfl,od,b4,hx⟩
 obtain⟨g5,Kb⟩:=ZE (g4.push (.cells (Zc x.k x.n x.a x.b (.slice pd x.data.length cd)).toArray 33):Hp)
 have e5:=Kb.symm
 have y5:g5[g4.size]? = some (.cells (Zc x.k x.n x.a x.b (.slice pd x.data.length cd)).toArray 33):=by rw[Kb];exact Zn
 have Kc:Go.V.hc g5 ⟨g4.size,0,none⟩=some (.int .i64 x.k):=Zs y5
 have k4:Kp La o g o g4:=VM K.UP b4
 have k5:Kp La o g4 o g5:=by rw[Kb];exact WO k4.UP _
 have B5:Zj h.size h g5:=JB ((K.trans (JA k4)).trans (JA k5))
 have l5:=Zb y5
 unfold Zc at e5 ⊢
 rcases hx with⟨hn,VL⟩|⟨hn,VL⟩
 ·rw[hn]at hr
  simp only at hr
  rw[hr]
  rw[VL]at e5 Kc
  simp -implicitDefEqProofs only[go_sem,↓reduceIte,f0,f5,f6,f7,e5,Kc,l5,VL,Vu]
  exact⟨⟨_,[],rfl,rfl,YM,fun y hy=>by cases hy⟩,B5⟩
 rw[hn]at hr
 simp only at hr
 have r5:rd g5 ⟨g4.size,0,none⟩ 5=some (Zc x.k x.n x.a x.b (.slice pd x.data.length cd)):=Zu y5 rfl
 have BB:OY o g4 (.slice pd x.data.length cd) x.data:=⟨Im.OX od.ZJ (fun b hb=>K.UP b hb),od.byte⟩
 obtain⟨g6,Le⟩:=ZE (g5.push (.cells (Zc x.k x.n x.a x.b (.slice pd x.data.length cd)).toArray 33):Hp)
 have e6:=Le.symm
 have k6:Kp La o g5 o g6:=by rw[Le];exact WO k5.UP _
 have x6:g6[g5.size]? = some (.cells (Zc x.k x.n x.a x.b (.slice pd x.data.length cd)).toArray 33):=by rw[Le];exact Zn
 have src:Sl 5 g6 (.slice (some ⟨g5.size,0,none⟩) 1 1) 1 (Zc x.k x.n x.a x.b (.slice pd x.data.length cd)):=⟨_,1,rfl,rfl,fun _=>⟨g5.size,0,rfl,fun i hi=>by
  rw[Zs x6,Yx,Nat.zero_add];exact List.getElem?_eq_getElem hi⟩⟩
 have O6:=((O.ZM k4 (fun q=>q)).ZM k5 (fun q=>q)).ZM k6 (fun q=>q)
 rw[f5]at O6
 unfold Zc at r5 e6
 simp -implicitDefEqProofs only[go_sem,↓reduceIte,f0,f5,f6,f7,e5,Kc,l5,VL,Vu,r5,e6]
 refine Ui (E:=33) (n:=5) (bytes:=56) (k:=1) M5 Tryd.underlying22 IZ I1 rfl I0 O6 k6.UP src rfl (by omega) (by omega) ?_
 intro v7 o7 g7 O7 k7 _
 have k7:Kp (fun u=>u=.YK 100) o g6 o7 g7:=k7
 simp -implicitDefEqProofs only[go_sem,↓reduceIte,f7]
 unfold YS
 refine⟨⟨f0,i+1,i+1,o7,ys++[(x,.slice pd x.data.length cd)],by omega,by simp;omega,rfl,rfl,(((K.trans (JA k4)).trans (JA k5)).trans (JA k6)).trans k7,?_,fun y hy=>?_,fun _=>⟨Nat.le_refl _,?_⟩,fun e=>by omega⟩,?_⟩
 ·have e:Yh Xy (ys++[(x,.slice pd x.data.length cd)])=Yh Xy ys++Zc x.k x.n x.a x.b (.slice pd x.data.length cd):=by rw[XU,Ub];rfl
  rw[e,List.length_append]
  exact O7
 ·rcases List.mem_append.1 hy with hy|hy
  ·exact ((((I y hy).ZM k4).ZM k5).ZM k6).ZM k7
  ·have:y=(x,.slice pd x.data.length cd):=by simpa using hy
   rw[this]
   exact ((BB.ZM k5).ZM k6).ZM k7
 ·rw[hr,Nat.sub_self,List.take_zero]
  congr 1
  unfold Xa
  simp
 ·simp only[vi,Zl,Jo,Nat.reduceEqDiff,↓reduceIte,f7]
  omega
def J7 (i:Nat):ByteArray:=⟨((Xr.getD i []).map UInt8.ofNat).toArray⟩
def Z4 (w:ByteArray):Nat→Int
 | 0=>0
 | i+1=>if 0<i∧((J7 i).toList == w.toList)=true then i else Z4 w i
theorem VW (w:ByteArray):∀i,0≤Z4 w i∧Z4 w i≤i:=by
 intro i
 induction i with
 | zero=>exact⟨by simp[Z4],by simp[Z4]⟩
 | succ i ih=>
  unfold Z4
  split<;>omega
theorem VX (w:ByteArray):Z4 w 10≤9:=by
 unfold Z4
 have:=(VW w 9).2
 split<;>omega
theorem O5 {h:Hp} (t:Words h):rd h ⟨0,0,none⟩ 10=some ((List.range 10).map fun i=>Value.string (J7 i)):=by
 have c:ZF h 0 0 ((List.range 10).map fun i=>Value.string (J7 i)):=fun i hi=>by
  have BC:i<10:=by simpa using hi
  rw[Nat.zero_add,t.2 i BC]
  simp[J7,WN]
 exact c.rd (by simp) (by simp)
def Lf (s:ByteArray):List ByteArray:=Lib.splitB QR 0 (Lib.countB ⟨(Lib.trimSuffix s.data.toList [10]).toArray⟩ QR) ⟨(Lib.trimSuffix s.data.toList [10]).toArray⟩
theorem Hq {h:Hp} {b i:Nat} {v:Value} (c:hc h ⟨b,i,none⟩=some v):b<h.size:=by
 unfold hc at c
 simp only at c
 split at c
 ·rename_i q;exact (Array.getElem?_eq_some_iff.1 q).1
 ·cases c
theorem O9 {h h':Hp} {b i:Nat} {v:Value} (c:hc h ⟨b,i,none⟩=some v) (a:Zj h.size h h'):hc h' ⟨b,i,none⟩=some v:=by
 have:=a.block b (Hq c)
 unfold hc at c ⊢
 simp only at c ⊢
 rw[this];exact c
theorem WL.Yu {h h':Hp} (m:WL h) (a:Zj h.size h h'):WL h':=by
 obtain⟨v,c⟩:=m
 exact⟨v,O9 c a⟩
theorem Jy.Yu {g:Nat} {h h':Hp} (m:Jy g h) (a:Zj h.size h h'):Jy g h':=by
 obtain⟨v,c,q⟩:=m
 exact⟨v,O9 c a,q⟩
theorem Words.on {h h':Hp} (m:Words h) (a:Zj h.size h h'):Words h':=
 ⟨Nat.lt_of_lt_of_le m.1 a.size,fun k hk=>O9 (m.2 k hk) a⟩
theorem QB:∀(k:Nat) (s x:ByteArray),x∈Lib.splitB QR 0 k s→x.size≤s.size:=by
 intro k
 induction k with
 | zero=>intro s x h;rw[Lib.splitB_zero]at h;rw[List.mem_singleton.1 h];exact Nat.le_refl _
 | succ k ih=>
  intro s x h
  unfold Lib.splitB at h
  split at h
  ·rw[List.mem_singleton.1 h];exact Nat.le_refl _
  ·rcases List.mem_cons.1 h with h|h
   ·rw[h,ByteArray.size_extract];omega
   ·have:=ih _ _ h
    rw[ByteArray.size_extract]at this
    omega
theorem VY {k:Int} {i j:Nat} {x y:Nat × Int} (hx:(Zg k)[i]? = some x) (hy:(Zg k)[j]? = some y) (h:i≠j):x.1≠y.1:=by
 have hl:Zg k=[(1,4)]∨Zg k=[(2,1048576)]∨Zg k=[(1,4),(3,100000)]∨Zg k=[]:=by
  unfold Zg
  repeat' split
  all_goals simp
 obtain⟨hi,rfl⟩:=List.getElem?_eq_some_iff.1 hx
 obtain⟨hj,rfl⟩:=List.getElem?_eq_some_iff.1 hy
 rcases hl with e|e|e|e
 ·simp only[e,List.length_cons,List.length_nil]at hi hj;omega
 ·simp only[e,List.length_cons,List.length_nil]at hi hj;omega
 ·simp only[e,List.length_cons,List.length_nil]at hi hj
  simp only[e]
  have h1:i=0∨i=1:=by omega
  have h2:j=0∨j=1:=by omega
  rcases h1 with rfl|rfl<;>rcases h2 with rfl|rfl<;>first|exact absurd rfl h|simp
 ·simp only[e,List.length_nil]at hi;omega
def Hr (ws:List ByteArray) (B:Nat) (v':Value) (h':Hp):Prop:=∃(k n a c:Int) (dv:Value) (d:List Nat),v'=.agg (Zc k n a c dv).toArray∧Y8 B 5 h' dv d∧(0≤k∧k≤9)∧(∀z∈[n,a,c],-9223372036854775808≤z∧z≤9223372036854775807) ∧
 (∃w0,ws[0]? = some w0∧k=Z4 w0 10)∧(∀i x,(Zg k)[i]? = some x→∀w m,ws[i+1]? = some w→Lib.atoiAll w.data.toList=.ok m→Zz k n a c x.1=m) ∧
 (∀p,0<p→p<4→(∀x∈Zg k,x.1≠p)→Zz k n a c p=0)∧(d=if k=1 then (match ws[2]? with|some w=>Yt (bl w)|none=>[]) else [])
set_option maxHeartbeats 4000000 in
theorem Kd (T:World) (h:Hp) (s:ByteArray) (hs:s.size≤4000000) (tw:Words h) (hm:WL h) (h1:Jy 2 h) (h2:Jy 3 h) :
  Zf Tryd.prog T 8 #[.string s] h fun v' h'=>Hr (Lf s) h.size v' h'∧Zj h.size h h':=by
 refine Zf.Ix [_] Tryd.func8 ?_
 obtain⟨ha,Pr⟩:=ZE (h.push (.cells (Zc 0 0 0 0 (.slice none 0 0)).toArray 33):Hp)
 have ea:=Pr.symm
 unfold Zc at ea
 have ba:Zj h.size h ha:=by rw[Pr];exact (Zj.refl _ _).add _
 have tr:=Mo T ha s ⟨#[10]⟩ (by omega)
 have ts:(⟨(Lib.trimSuffix s.data.toList [10]).toArray⟩:ByteArray).size≤s.size:=by
  show (Lib.trimSuffix s.data.toList [10]).toArray.size≤_
  rw[List.size_toArray]
  unfold Lib.trimSuffix
  have:=Lib.size_eq s
  split
  ·rw[List.length_take];omega
  ·omega
 simp -implicitDefEqProofs only[go_sem,↓reduceIte,ea]
 refine tr.pure ?_
 have eu:(⟨(Lib.trimSuffix s.data.toList (⟨#[10]⟩:ByteArray).data.toList).toArray⟩:ByteArray)=⟨(Lib.trimSuffix s.data.toList [10]).toArray⟩:=rfl
 rw[eu]
 obtain⟨u,hu⟩:∃u:ByteArray,u=⟨(Lib.trimSuffix s.data.toList [10]).toArray⟩:=⟨_,rfl⟩
 have QQ:Lf s=Lib.splitB QR 0 (Lib.countB u QR) u:=by rw[hu];rfl
 rw[←hu]at ts ⊢
 have hlen:=Lib.splitB_all QR (by decide) 0 _ u rfl
 have sp:=OO T ha u (by omega) (hm.Yu ba)
 obtain⟨ws,R2⟩:=ZE (Lf s)
 rw[←QQ,←R2]at sp hlen
 simp -implicitDefEqProofs only[go_sem,↓reduceIte]
 refine sp.use ?_
 rintro _ h3 ⟨t3,b3⟩
 obtain⟨pw,cw,rfl,BD⟩:=t3.open (n:=1) (enc:=WK) (fun _=>rfl) (by decide)
 have wl:0<ws.length:=by omega
 obtain⟨bw,ow,rfl,QS,L7⟩:=BD (by intro e;rw[e]at wl;simp at wl)
 obtain⟨W0,Dz⟩:∃w,w=ws[0]:=⟨_,rfl⟩
 have B3:Zj h.size h h3:=ba.trans (b3.mono ba.size)
 obtain⟨h4,FW⟩:=ZE (h3.push (.cells (Zc 0 0 0 0 (.slice none 0 0)).toArray 33):Hp)
 have e4:=FW.symm
 unfold Zc at e4
 have b4:Zj h3.size h3 h4:=by rw[FW];exact (Zj.refl _ _).add _
 have B4:Zj h.size h h4:=B3.trans (b4.mono B3.size)
 have DA:=O5 (tw.on B4)
 have gl:=(tw.on B4).1
 have c0:∀g:Hp,Zj h3.size h3 g→hc g ⟨bw,ow,none⟩=some (.string W0):=fun g bg=>by
  have:=(L7 0 wl).hc (i:=0) (x:=.string ws[0]) rfl
  rw[bg.hc QS,Dz]
  simpa using this
 obtain⟨TB,FX⟩:∃TB,TB=(List.range 10).map fun i=>Value.string (J7 i):=⟨_,rfl⟩
 rw[←FX]at DA
 have AT:TB.length=10:=by rw[FX];rfl
 have BE:∀i,i<10→nth TB i=some (.string (J7 i)):=fun i hi=>by
  rw[FX,Yx,List.getElem?_map,List.getElem?_range hi];rfl
 simp -implicitDefEqProofs only[go_sem,↓reduceIte,e4,DA,gl]
 refine VS.XF (fun F g=>F 0=.string s∧F 2=.pointer (some ⟨h.size,0,none⟩)∧F 3=.slice (some ⟨bw,ow,none⟩) ws.length cw∧F 4=.pointer (some ⟨h3.size,0,none⟩)∧F 15=.agg TB.toArray ∧
   ∃i:Nat,i≤10∧F 16=.int .i64 i∧g=h3.push (.cells (Zc (Z4 W0 i) 0 0 0 (.slice none 0 0)).toArray 33))
  (fun F _=>10-(vi (F 16)).toNat) rfl ⟨rfl,rfl,rfl,rfl,rfl,0,by omega,rfl,by rw[FW];rfl⟩ ?_
 rintro F g ⟨f0,f2,f3,f4,f15,i,hi,f16,hg⟩
 by_cases ZH:i<10
 case neg=>
  obtain rfl:i=10:=by omega
  obtain⟨k,Ps⟩:=ZE (Z4 W0 10)
  have k0:0≤k:=by rw[Ps];exact (VW W0 10).1
  have k9:k≤9:=by rw[Ps];exact VX W0
  rw[←Ps]at hg
  have bg:Zj h3.size h3 g:=by rw[hg];exact (Zj.refl _ _).add _
  have yg:g[h3.size]? = some (.cells (Zc k 0 0 0 (.slice none 0 0)).toArray 33):=by rw[hg];exact Zn
  have nm:=XZ T g h3.size k 0 0 0 (.slice none 0 0) yg
  simp -implicitDefEqProofs only[go_sem,↓reduceIte,f16,f4]
  refine nm.use ?_
  rintro _ g5 ⟨wn,rfl,ZJ,b5⟩
  obtain⟨A,hA⟩:=ZE (h3.size)
  have y5:=b5.get (Zb yg) yg
  rw[←hA]at y5 ZJ
  obtain⟨xs,Na⟩:=ZE (Zg k)
  have AU:xs.length≤2:=by
   rw[Na]
   unfold Zg
   repeat' split
   all_goals simp
  rw[←Na]at ZJ
  obtain⟨AV,AW,Ke,Z7⟩:=ZJ.open
  obtain⟨pv,cv,FG,BF⟩:=ZJ.ts.open (n:=2) (enc:=Yk A) (fun _=>rfl) (by decide)
  have BG:=ZJ.ZJ.Mb
  rw[FG]at Ke
  simp only[Value.slice.injEq,true_and]at Ke
  rw[←Ke.2]at Z7
  subst FG
  have B5:Zj h3.size h3 g5:=bg.trans (b5.mono bg.size)
  simp -implicitDefEqProofs only[go_sem,↓reduceIte]
  refine VS.XF (fun F g=>F 0=.string s∧F 2=.pointer (some ⟨h.size,0,none⟩)∧F 3=.slice (some ⟨bw,ow,none⟩) ws.length cw∧F 4=.pointer (some ⟨A,0,none⟩)∧F 36=.slice pv xs.length cv∧F 37=.int .i64 xs.length ∧
    ∃(j:Nat) (n a c:Int),j≤xs.length∧F 38=.int .i64 j∧Xn (some A) g5 g∧g[A]? = some (.cells (Zc k n a c (.slice none 0 0)).toArray 33) ∧
    (∀z∈[n,a,c],-9223372036854775808≤z∧z≤9223372036854775807) ∧
    (∀i x,xs[i]? = some x→i<j→∀w m,ws[i+1]? = some w→Lib.atoiAll w.data.toList=.ok m→Zz k n a c x.1=m)∧(∀p,0<p→p<4→(∀x∈xs,x.1≠p)→Zz k n a c p=0))
   (fun F _=>xs.length-(vi (F 38)).toNat) rfl ⟨f0,f2,f3,by rw[hA];exact f4,rfl,rfl,0,0,0,0,Nat.zero_le _,rfl,Xn.refl,y5,?_,fun i x _ h=>by omega,?_⟩ ?_
  ·intro z hz;simp at hz;rw[hz];decide
  ·intro p h0 h4 _
   match p,h0,h4 with
   | 1,_,_=>rfl
   | 2,_,_=>rfl
   | 3,_,_=>rfl
  clear f0 f2 f3 f4 f15 f16
  rintro F g' ⟨f0,f2,f3,f4,f36,f37,j,n,a,c,hj,f38,X7,y,Ny,hq,hr⟩
  by_cases ZH:j<xs.length
  case neg=>
   obtain rfl:j=xs.length:=by omega
   have ck:hc g' ⟨A,0,none⟩=some (.int .i64 k):=Zs y
   have lA:=Zb y
   have rA:rd g' ⟨A,0,none⟩ 5=some (Zc k n a c (.slice none 0 0)):=Zu y rfl
   have DB:h.size≠A:=by have:=b3.size;have:=ba.size;rw[Pr]at *;simp only[Array.size_push]at *;omega
   have yr:g'[h.size]? = some (.cells (Zc 0 0 0 0 (.slice none 0 0)).toArray 33):=by
    have DC:ha[h.size]? = some (.cells (Zc 0 0 0 0 (.slice none 0 0)).toArray 33):=by rw[Pr];exact Zn
    have y3:=b3.get (Zb DC) DC
    have DD:=B5.get (Zb y3) y3
    rw[X7.block h.size (Zb DD) (by intro e;exact DB (Option.some.inj e).symm)]
    exact DD
   have FY:ws[0]? = some W0:=by rw[Dz];exact List.getElem?_eq_getElem wl
   have al:∀v,(Zc k n a c v).length=5:=fun _=>rfl
   have fin:∀(G:Hp) (X:Obj) (dv:Value) (d:List Nat),Zj h.size h G→Y8 (h.size+1) 5 G dv d→(d=if k=1 then (match ws[2]? with|some w=>Yt (bl w)|none=>[]) else []) →
     Hr (Lf s) h.size (.agg (Zc k n a c dv).toArray) (G.setIfInBounds h.size X)∧Zj h.size h (G.setIfInBounds h.size X):=by
    intro G X dv d bG ob hd
    refine⟨⟨k,n,a,c,dv,d,rfl,⟨(ob.ZJ.Qh (by omega) _).mono (by omega),ob.byte⟩,⟨k0,k9⟩,Ny,⟨W0,by rw[←R2];exact FY,Ps⟩,?_,?_,by rw[←R2];exact hd⟩,?_⟩
    ·intro i x hx w m hw hm
     rw[←R2]at hw
     rw[←Na]at hx
     exact hq i x hx (List.getElem?_eq_some_iff.1 hx).1 w m hw hm
    ·intro p h0 h4 hp
     rw[←Na]at hp
     exact hr p h0 h4 hp
    ·refine⟨by rw[Array.size_setIfInBounds];exact bG.size,fun b hb=>?_⟩
     rw[Array.getElem?_setIfInBounds,if_neg (by omega)]
     exact bG.block b hb
   have KO:Zj h.size h g5:=B3.trans (B5.mono B3.size)
   have E6:Zj h.size h g':=KO.trans (X7.Yu KO.size (fun b e=>by rw[←Option.some.inj e,hA];exact B3.size))
   have DE:Y8 (h.size+1) 5 g' (.slice none 0 0) []:=⟨Own.nil _ _ _ _,fun x hx=>by cases hx⟩
   have ao:(Zc k n a c (.slice none 0 0)).all Yb=true:=rfl
   have w9:wr g' ⟨h.size,0,none⟩ (Zc k n a c (.slice none 0 0))=some (g'.setIfInBounds h.size (.cells (Zc k n a c (.slice none 0 0)).toArray 33)):=by
    rw[TY yr 0 _,if_pos ⟨by simp[Zc],ao⟩]
    rfl
   have r9:rd (g'.setIfInBounds h.size (.cells (Zc k n a c (.slice none 0 0)).toArray 33)) ⟨h.size,0,none⟩ 5=some (Zc k n a c (.slice none 0 0)):=
    Zu (by rw[Array.getElem?_setIfInBounds,if_pos rfl,if_pos (Zb yr)]) rfl
   by_cases Nx:k=1
   ·by_cases DF:(2:Int)<ws.length
    ·have KP:bw<g5.size:=Nat.lt_of_lt_of_le QS B5.size
     have BH:bw<g'.size:=Nat.lt_of_lt_of_le KP X7.size
     have Kf:2<ws.length:=by omega
     obtain⟨W2,Mk⟩:∃w,w=ws[2]:=⟨_,rfl⟩
     have BI:hc g' ⟨bw,ow+2,none⟩=some (.string W2):=by
      have:=(L7 2 Kf).hc (i:=0) (x:=.string ws[2]) rfl
      rw[Nat.mul_one,Nat.add_zero]at this
      rw[Mk,←this,←B5.hc (p:=⟨bw,ow+2,none⟩) QS]
      unfold hc
      simp only
      rw[X7.block bw KP (by intro e;have:=Option.some.inj e;omega)]
     simp -implicitDefEqProofs only[go_sem,↓reduceIte,f37,f38,f4,ck,lA,Nx,f3,DF,BH,BI]
     have BJ:W2.size≤u.size:=QB _ _ _ (by rw[←QQ,←R2,Mk];exact List.getElem_mem Kf)
     rw[Nx]at y
     refine Mw T (c:=_) rfl (B:=h.size) (A:=A) (W2:=W2) f2 f4 rfl y (by omega) ?_
     clear f0 f2 f3 f4 f36 f37 f38 y
     rintro F g dv f2 f4 Xm yA od
     have rA:rd g ⟨A,0,none⟩ 5=some (Zc 1 n a c dv):=Zu yA rfl
     have L5:=Zb yA
     have GC:g[h.size]? = some (.cells (Zc 0 0 0 0 (.slice none 0 0)).toArray 33):=by
      rw[Xm.block h.size (Zb yr) (by intro e;exact DB (Option.some.inj e).symm)]
      exact yr
     obtain⟨pd,cd,rfl,He⟩:=od.open
     obtain⟨DL,M9⟩:=ZE (Yt (bl W2))
     rw[←M9]at od He rA yA
     have BK:(Zc 1 n a c (.slice pd DL.length cd)).length=5:=rfl
     have DG:(Zc 1 n a c (.slice pd DL.length cd)).all Yb=true:=rfl
     have BL:wr g ⟨h.size,0,none⟩ (Zc 1 n a c (.slice pd DL.length cd))=some (g.setIfInBounds h.size (.cells (Zc 1 n a c (.slice pd DL.length cd)).toArray 33)):=by
      rw[TY GC 0 _,if_pos ⟨by simp[Zc],DG⟩]
      rfl
     have BM:rd (g.setIfInBounds h.size (.cells (Zc 1 n a c (.slice pd DL.length cd)).toArray 33)) ⟨h.size,0,none⟩ 5=some (Zc 1 n a c (.slice pd DL.length cd)):=
      Zu (by rw[Array.getElem?_setIfInBounds,if_pos rfl,if_pos (Zb GC)]) rfl
     have E7:Zj h.size h g:=E6.trans (Xm.Yu E6.size (fun b e=>by rw[←Option.some.inj e,hA];exact B3.size))
     have BN:Y8 (h.size+1) 5 g (.slice pd DL.length cd) DL:=⟨od.ZJ.mono (by have:=Zb yr;omega),od.byte⟩
     have fi:=fin g (.cells (Zc 1 n a c (.slice pd DL.length cd)).toArray 33) _ _ E7 BN (by rw[if_pos Nx,List.getElem?_eq_getElem Kf];simp only;rw[M9,Mk])
     rw[Nx]at fi
     simp -implicitDefEqProofs only[go_sem,↓reduceIte,f2,f4,L5,rA,BK,DG,BL,BM]
     exact fi
    ·have fi:=fin g' (.cells (Zc k n a c (.slice none 0 0)).toArray 33) (.slice none 0 0) [] E6 DE (by rw[if_pos Nx,List.getElem?_eq_none (by omega)])
     rw[Nx]at fi w9 r9 rA al ao ck
     simp -implicitDefEqProofs only[go_sem,↓reduceIte,f37,f38,f4,ck,lA,Nx,f3,DF,rA,f2,al,ao,w9,r9]
     exact fi
   ·simp -implicitDefEqProofs only[go_sem,↓reduceIte,f37,f38,f4,ck,lA,Nx,f3,rA,f2,al,ao,w9,r9]
    exact fin g' _ _ [] E6 DE (by rw[if_neg Nx])
  have ZV:(j:Int)<xs.length:=by omega
  obtain⟨bs,os,rfl,FD,Pm⟩:=BF (by intro e;rw[e]at ZH;simp at ZH)
  have BO:A<g5.size:=Zb y5
  have BP:bs≠A:=by
   have h1:=BG bs (by unfold Zt;simp only;rw[if_neg (by omega)])
   rw[hg]at h1
   simp only[Array.size_push]at h1
   omega
  obtain⟨x,hx⟩:=ZE (xs[j])
  have x3:0<x.1∧x.1<4:=by
   have h9:=YH (k:=k) x (by rw[←Na,hx];exact List.getElem_mem ZH)
   exact⟨h9.2,h9.1⟩
  have rx:rd g' ⟨bs,os+j*2,none⟩ 2=some (Yk A x):=by
   have q:ZF g' bs (os+j*2) (Yk A x):=fun i hi=>by
    have:=Pm j ZH i (by rw[←hx];exact hi)
    unfold hc at this ⊢
    simp only at this ⊢
    rw[X7.block bs FD (by intro e;exact BP (Option.some.inj e).symm)]
    rw[hx]
    exact this
   exact q.rd (by simp[Yk]) rfl
  unfold Yk at rx
  obtain⟨g6,Le⟩:=ZE (g'.push (.cells #[.pointer (some ⟨A,x.1,none⟩),.int .i64 x.2] 49):Hp)
  have e6:=Le.symm
  have b6:Zj g'.size g' g6:=by rw[Le];exact (Zj.refl _ _).add _
  have y6:g6[g'.size]? = some (.cells [.pointer (some ⟨A,x.1,none⟩),.int .i64 x.2].toArray 49):=by rw[Le];exact Zn
  have ps:hc g6 ⟨g'.size,0,none⟩=some (.pointer (some ⟨A,x.1,none⟩)):=Zs y6
  have l6:g'.size<g6.size:=by rw[Le];simp
  by_cases hw:j+1<ws.length
  ·have GH:(j:Int)+1<ws.length:=by omega
   have q0:(0:Int)≤(j:Int)+1:=by omega
   have qn:((j:Int)+1).toNat=j+1:=by omega
   simp -implicitDefEqProofs only[go_sem,↓reduceIte,f3,f36,f37,f38,ZV,rx,e6,GH]
   refine VS.z (g6.size) [12] (.p 0 (.q 1 (.p 2 (.p 3 (.p 4 (.p 5 (.q 6 (.s 7 (.p 8 (.p 9 (.p 10 (.p 11 (.w 12 .nil))))))))))))) mixed (by kernel_rfl) ?_
   obtain⟨w,FZ⟩:=ZE (ws[j+1])
   have KP:bw<g5.size:=Nat.lt_of_lt_of_le QS B5.size
   have BQ:bw<g6.size:=Nat.lt_of_lt_of_le KP (Nat.le_trans X7.size b6.size)
   have BR:hc g6 ⟨bw,ow+(j+1),none⟩=some (.string w):=by
    have:=(L7 (j+1) hw).hc (i:=0) (x:=.string ws[j+1]) rfl
    rw[Nat.mul_one,Nat.add_zero]at this
    rw[FZ,←this,b6.hc (Nat.lt_of_lt_of_le KP X7.size),←B5.hc (p:=⟨bw,ow+(j+1),none⟩) QS]
    unfold hc
    simp only
    rw[X7.block bw KP (by intro e;have:=Option.some.inj e;omega)]
   have KO:Zj h.size h g5:=B3.trans (B5.mono B3.size)
   have E6:Zj h.size h g6:=(KO.trans (X7.Yu KO.size (fun b e=>by rw[←Option.some.inj e,hA];exact B3.size))).trans (b6.mono (Nat.le_trans KO.size X7.size))
   have BJ:w.size≤u.size:=QB _ _ _ (by rw[←QQ,←R2,FZ];exact List.getElem_mem hw)
   have at':=Mp T g6 w (by omega) (h1.Yu E6) (h2.Yu E6)
   simp -implicitDefEqProofs only[go_sem,↓reduceIte,f3,ps,l6,GH,q0,qn,BQ,BR]
   refine at'.use ?_
   rintro _ g7 ⟨⟨m,ev,rfl,F4,BS⟩,b7⟩
   have y7:g7[A]? = some (.cells (Zc k n a c (.slice none 0 0)).toArray 33):=b7.get (Nat.lt_of_lt_of_le (Zb y) b6.size) (b6.get (Zb y) y)
   obtain⟨n',a',c',F5,Ov,OJ,F6⟩:∃n' a' c':Int,XN g7 ⟨A,x.1,none⟩ (.int .i64 m)=some (g7.setIfInBounds A (.cells (Zc k n' a' c' (.slice none 0 0)).toArray 33))∧Zz k n' a' c' x.1=m ∧
     (∀p,0<p→p<4→p≠x.1→Zz k n' a' c' p=Zz k n a c p)∧∀z∈[n',a',c'],-9223372036854775808≤z∧z≤9223372036854775807:=by
    simp only[List.mem_cons,List.not_mem_nil,or_false,forall_eq_or_imp,forall_eq]at Ny ⊢
    obtain⟨x1,x2⟩:=x
    simp only at x3 ⊢
    rw[ZA y7 x1 _,if_pos ⟨by simp[Zc];omega,rfl⟩]
    match x1,x3 with
    | 1,_=>exact⟨m,a,c,rfl,rfl,fun p h0 h4 hp=>by
      match p,h0,h4,hp with
      | 2,_,_,_=>rfl
      | 3,_,_,_=>rfl,F4,Ny.2.1,Ny.2.2⟩
    | 2,_=>exact⟨n,m,c,rfl,rfl,fun p h0 h4 hp=>by
      match p,h0,h4,hp with
      | 1,_,_,_=>rfl
      | 3,_,_,_=>rfl,Ny.1,F4,Ny.2.2⟩
    | 3,_=>exact⟨n,a,m,rfl,rfl,fun p h0 h4 hp=>by
      match p,h0,h4,hp with
      | 1,_,_,_=>rfl
      | 2,_,_,_=>rfl
      | 3,_,_,hp=>exact absurd rfl hp,Ny.1,Ny.2.1,F4⟩
   simp -implicitDefEqProofs only[go_sem,↓reduceIte,F5,f38]
   refine⟨b7,?_⟩
   unfold YS
   have bA:Xn (some A) g5 (g7.setIfInBounds A (.cells (Zc k n' a' c' (.slice none 0 0)).toArray 33)):=by
    refine⟨?_,fun b hb ZC=>?_⟩
    ·rw[Array.size_setIfInBounds]
     exact Nat.le_trans X7.size (Nat.le_trans b6.size b7.size)
    ·rw[Array.getElem?_setIfInBounds,if_neg (fun e=>ZC (by rw[e])),b7.block b (Nat.lt_of_lt_of_le hb (Nat.le_trans X7.size b6.size)),b6.block b (Nat.lt_of_lt_of_le hb X7.size)]
     exact X7.block b hb ZC
   refine⟨⟨f0,f2,f3,f4,f36,f37,j+1,n',a',c',ZH,rfl,bA,?_,F6,?_,?_⟩,?_⟩
   ·rw[Array.getElem?_setIfInBounds,if_pos rfl,if_pos (Zb y7)]
   ·intro i y hy hi v m' hv Ns
    by_cases Pj:i=j
    ·subst Pj
     obtain rfl:y=x:=by rw[hx];rw[List.getElem?_eq_getElem ZH]at hy;exact (Option.some.inj hy).symm
     rw[List.getElem?_eq_getElem hw]at hv
     obtain rfl:v=w:=by rw[FZ];exact (Option.some.inj hv).symm
     rw[Ov];exact BS m' Ns
    ·have ZC:y.1≠x.1:=VY (k:=k) (i:=i) (j:=j) (by rw[←Na];exact hy) (by rw[←Na,hx,List.getElem?_eq_getElem ZH]) Pj
     have DH:=YH (k:=k) y (by rw[←Na];exact List.mem_of_getElem? hy)
     rw[OJ y.1 DH.2 DH.1 ZC]
     exact hq i y hy (by omega) v m' hv Ns
   ·intro p h0 h4 hp
    rw[OJ p h0 h4 (fun e=>hp x (by rw[hx];exact List.getElem_mem ZH) e.symm)]
    exact hr p h0 h4 hp
   ·simp only[vi,Zl,Jo,Nat.reduceEqDiff,↓reduceIte]
    omega
  ·have GH:¬(j:Int)+1<ws.length:=by omega
   simp -implicitDefEqProofs only[go_sem,↓reduceIte,f3,f36,f37,f38,ZV,rx,e6,GH]
   unfold YS
   refine⟨⟨f0,f2,f3,f4,f36,f37,j+1,n,a,c,ZH,rfl,?_,b6.get (Zb y) y,Ny,?_,hr⟩,?_⟩
   ·exact⟨Nat.le_trans X7.size b6.size,fun b hb ZC=>(b6.block b (Nat.lt_of_lt_of_le hb X7.size)).trans (X7.block b hb ZC)⟩
   ·intro i y hy hi v m' hv Ns
    by_cases Pj:i=j
    ·subst Pj
     rw[List.getElem?_eq_none (by omega)]at hv
     cases hv
    ·exact hq i y hy (by omega) v m' hv Ns
   ·simp only[vi,Zl,Jo,Nat.reduceEqDiff,↓reduceIte]
    omega
 have ZV:(i:Int)<10:=by omega
 have bg:Zj h3.size h3 g:=by rw[hg];exact (Zj.refl _ _).add _
 have cg:=c0 g bg
 have tn:=BE i ZH
 have yg:g[h3.size]? = some (.cells (Zc (Z4 W0 i) 0 0 0 (.slice none 0 0)).toArray 33):=by rw[hg];exact Zn
 have ly:=Zb yg
 have F7:(0:Int)<ws.length:=by omega
 by_cases hz:(0:Int)<i
 ·by_cases he:((J7 i).toList == W0.toList)=true
  ·have hk:Z4 W0 (i+1)=i:=by rw[Z4,if_pos ⟨by omega,he⟩]
   have w1:XN g ⟨h3.size,0,none⟩ (.int .i64 i)=some (h3.push (.cells (Zc (i:Int) 0 0 0 (.slice none 0 0)).toArray 33)):=by
    rw[ZA yg 0 _,if_pos ⟨by simp[Zc],rfl⟩,hg,XS]
    rfl
   simp -implicitDefEqProofs only[go_sem,↓reduceIte,f0,f2,f3,f4,f15,f16,ZV,cg,tn,hz,F7,he,w1,ly]
   unfold YS
   refine⟨⟨f0,f2,f3,f4,f15,i+1,by omega,rfl,by rw[hk]⟩,?_⟩
   simp only[vi,Zl,Jo,Nat.reduceEqDiff,↓reduceIte]
   omega
  ·have hk:Z4 W0 (i+1)=Z4 W0 i:=by rw[Z4,if_neg (fun q=>he q.2)]
   simp -implicitDefEqProofs only[go_sem,↓reduceIte,f0,f2,f3,f4,f15,f16,ZV,cg,tn,hz,F7,he]
   unfold YS
   refine⟨⟨f0,f2,f3,f4,f15,i+1,by omega,rfl,by rw[hk];exact hg⟩,?_⟩
   simp only[vi,Zl,Jo,Nat.reduceEqDiff,↓reduceIte]
   omega
 ·obtain rfl:i=0:=by omega
  have hk:Z4 W0 (0+1)=Z4 W0 0:=by simp[Z4]
  simp -implicitDefEqProofs only[go_sem,↓reduceIte,f0,f2,f3,f4,f15,f16,ZV,cg,tn,F7]
  unfold YS
  refine⟨⟨f0,f2,f3,f4,f15,0+1,by omega,rfl,by rw[hk];exact hg⟩,?_⟩
  simp only[vi,Zl,Jo,Nat.reduceEqDiff,↓reduceIte]
  omega
def Kg (l:List Nat):Prop:=∀b∈l,48≤b∧b≤57
def Yw (a b:Nat):Nat:=10*a+(b-48)
def XO (n:Nat):List Nat:=(Lib.decDigits n).map UInt8.toNat
theorem Xi (n:Nat):XO n=if n<10 then [48+n] else XO (n/10)++[48+n%10]:=by
 unfold XO
 rw[Lib.decDigits]
 split
 ·simp only[List.map_cons,List.map_nil,UInt8.toNat_ofNat']
  congr 1;omega
 ·simp only[List.map_append,List.map_cons,List.map_nil,UInt8.toNat_ofNat']
  congr 2;omega
theorem Uv:∀n,Kg (XO n):=by
 intro n
 induction n using Nat.strongRecOn with
 | _ n ih=>
  rw[Xi]
  split
  ·intro b hb;have:b=48+n:=by simpa using hb
   omega
  ·intro b hb
   rcases List.mem_append.1 hb with hb|hb
   ·exact ih (n/10) (by omega) b hb
   ·have:b=48+n%10:=by simpa using hb
    omega
theorem Uw:∀n,(XO n).foldl Yw 0=n:=by
 intro n
 induction n using Nat.strongRecOn with
 | _ n ih=>
  rw[Xi]
  split
  ·simp only[List.foldl_cons,List.foldl_nil,Yw];omega
  ·rw[List.foldl_append,ih (n/10) (by omega)]
   simp only[List.foldl_cons,List.foldl_nil,Yw];omega
theorem WR (n:Nat):XO n≠[]:=by
 rw[Xi];split<;>simp
theorem R3:∀n,(XO n).getD 0 0=48→(XO n).length=1:=by
 intro n
 induction n using Nat.strongRecOn with
 | _ n ih=>
  rw[Xi]
  split
  ·intro;rfl
  ·intro h
   have ZC:=WR (n/10)
   have h2:(XO (n/10)).getD 0 0=48:=by
    obtain⟨b,l,e⟩:=List.exists_cons_of_ne_nil ZC
    rw[e]at h ⊢
    simpa using h
   have h1:=ih (n/10) (by omega) h2
   have hv:=Uw (n/10)
   obtain⟨b,l,e⟩:=List.exists_cons_of_ne_nil ZC
   rw[e]at h1 h2 hv
   have:l=[]:=by simpa using h1
   subst this
   have hb:b=48:=by simpa using h2
   subst hb
   simp only[List.foldl_cons,List.foldl_nil,Yw]at hv
   omega
theorem Nb:∀(k n:Nat),n<10 ^ (k+1)→(XO n).length≤k+1:=by
 intro k
 induction k with
 | zero=>intro n h;rw[Xi,if_pos (by omega)];simp
 | succ k ih=>
  intro n h
  rw[Xi]
  split
  ·simp
  ·have:=ih (n/10) (by rw[Nat.pow_succ]at h;omega)
   simp only[List.length_append,List.length_cons,List.length_nil];omega
theorem VZ:∀(l:List Nat) (a:Nat),a≤l.foldl Yw a:=by
 intro l
 induction l with
 | nil=>intro a;exact Nat.le_refl _
 | cons b l ih=>intro a;have:=ih (Yw a b);simp only[List.foldl_cons];unfold Yw at *;omega
theorem Sp (l:List Nat) (b a:Nat):(l++[b]).foldl Yw a=Yw (l.foldl Yw a) b:=by rw[List.foldl_append];rfl
theorem R4:∀(l:List Nat) (a:Nat),0<a→0<l.foldl Yw a:=fun l a h=>Nat.lt_of_lt_of_le h (VZ l a)
theorem Mz:∀(n:Nat) (l:List Nat),l.length=n→l≠[]→Kg l→(l.getD 0 0=48→l.length=1)→XO (l.foldl Yw 0)=l:=by
 intro n
 induction n with
 | zero=>intro l h ZC;exact absurd (List.eq_nil_of_length_eq_zero h) ZC
 | succ n ih=>
  intro l hl ZC hd h0
  have Kh:=List.dropLast_concat_getLast ZC
  obtain⟨m,hm⟩:=ZE (l.dropLast)
  obtain⟨b,hb⟩:=ZE (l.getLast ZC)
  rw[←hm,←hb]at Kh
  have BT:m.length=n:=by have:=congrArg List.length Kh;simp only[List.length_append,List.length_singleton]at this;omega
  have Di:=hd b (by rw[←Kh];simp)
  rw[←Kh,Sp]
  by_cases F8:m=[]
  ·subst F8
   simp only[List.foldl_nil,Yw,List.nil_append]
   rw[Xi,if_pos (by omega)]
   congr 1;omega
  ·have DI:Kg m:=fun x hx=>hd x (by rw[←Kh];exact List.mem_append_left _ hx)
   obtain⟨c,r,e⟩:=List.exists_cons_of_ne_nil F8
   have K1:c≠48:=by
    intro q
    have:=h0 (by rw[←Kh,e,q];rfl)
    rw[←Kh,e]at this
    simp at this
   have AX:=DI c (by rw[e];simp)
   have DJ:=ih m BT F8 DI (fun q=>by rw[e]at q;exact absurd (by simpa using q) K1)
   have hp:0<m.foldl Yw 0:=by
    rw[e]
    simp only[List.foldl_cons]
    exact R4 _ _ (by unfold Yw;omega)
   obtain⟨M,hM⟩:=ZE (m.foldl Yw 0)
   rw[←hM]at hp DJ ⊢
   have ev:Yw M b=10*M+(b-48):=rfl
   rw[Xi,if_neg (by omega),show Yw M b/10=M by omega,DJ,show 48+Yw M b%10=b by omega]
theorem QC:∀(l:List Nat) (a:Nat),Kg l→YC l a=(l.foldl Yw a:Nat):=by
 intro l
 induction l with
 | nil=>intro a _;rfl
 | cons b l ih=>
  intro a hd
  have hb:=hd b (by simp)
  rw[Xx,if_neg (by omega),List.foldl_cons,←ih _ (fun x hx=>hd x (List.mem_cons_of_mem _ hx))]
  congr 1
  unfold Yw;omega
theorem V0:∀(l:List Nat) (a:Int),¬Kg l→YC l a = -1:=by
 intro l
 induction l with
 | nil=>intro a h;exact absurd (fun b hb=>by cases hb) h
 | cons b l ih=>
  intro a h
  rw[Xx]
  split
  ·rfl
  ·rename_i hb
   refine ih _ fun hd=>h fun x hx=>?_
   rcases List.mem_cons.1 hx with rfl|hx
   ·omega
   ·exact hd x hx
theorem R5 (n:Nat) (h:n<10000000):Zq (XO n)=n:=by
 have h1:=Nb 6 n (by simpa using h)
 have h2:=WR n
 have h3:=R3 n
 have h4:(XO n).length≠0:=fun e=>h2 (List.eq_nil_of_length_eq_zero e)
 unfold Zq
 rw[if_neg (by rintro (q|q|⟨q,r⟩)<;>first|exact h4 q|omega|(have:=h3 q;omega)),show (0:Int)=((0:Nat):Int) from rfl,QC _ _ (Uv n),Uw]
theorem R6 {l:List Nat} (h:0≤Zq l):XO (Zq l).toNat=l:=by
 unfold Zq at h ⊢
 split at h
 ·omega
 ·rename_i hn
  rw[if_neg hn]
  by_cases hd:Kg l
  ·rw[show (0:Int)=((0:Nat):Int) from rfl,QC _ _ hd,Int.toNat_natCast]
   exact Mz _ l rfl (fun e=>hn (.inl (by rw[e];rfl))) hd (fun q=>by
    have:¬1<l.length:=fun r=>hn (.inr (.inr ⟨q,r⟩))
    have:l.length≠0:=fun r=>hn (.inl r)
    omega)
  ·rw[V0 _ _ hd]at h;omega
theorem J8 (n:Int) (h:0≤n):YJ n=XO n.toNat:=by
 unfold YJ XO Lib.itoa
 rw[if_neg (by omega)]
theorem R7:∀(l:List UInt8) (a:Nat),Kg (l.map UInt8.toNat)→(l.map UInt8.toNat).foldl Yw a<1844674407370955162→Lib.parseUint10 a l=.ok ((l.map UInt8.toNat).foldl Yw a):=by
 intro l
 induction l with
 | nil=>intro a _ _;rfl
 | cons c r ih=>
  intro a hd hv
  have hc:=hd c.toNat (by simp)
  simp only[List.map_cons,List.foldl_cons]at hv ⊢
  have hle:=VZ (r.map UInt8.toNat) (Yw a c.toNat)
  have ha:a≤Yw a c.toNat:=by unfold Yw;omega
  have hx:a*10+(c.toNat-48)=Yw a c.toNat:=by unfold Yw;omega
  unfold Lib.parseUint10
  rw[if_pos hc,if_neg (by omega),hx,if_neg (by omega)]
  exact ih _ (fun x hx=>hd x (by rw[List.map_cons];exact List.mem_cons_of_mem _ hx)) hv
theorem Nc (n:Nat) (h:n<10000000):Lib.atoiAll (Lib.decDigits n)=.ok (n:Int):=by
 have ZC:Lib.decDigits n≠[]:=fun e=>WR n (by unfold XO;rw[e];rfl)
 obtain⟨c,r,e⟩:=List.exists_cons_of_ne_nil ZC
 have hd:=Uv n
 have hv:=Uw n
 unfold XO at hd hv
 rw[e]at hd hv ⊢
 have hc:=hd c.toNat (by simp)
 rw[Lib.atoiAll_plain c r (by omega) (by omega)]
 unfold Lib.parseMag
 rw[if_neg (by simp),R7 _ 0 hd (by omega),hv]
 unfold Lib.signless
 simp only
 rw[if_neg (by omega)]
theorem Nd:∀y,y<16→YI (Yv y)=y:=by decide
theorem Nf (c:Nat) (h:0≤YI c):Yv (YI c).toNat=c:=by
 unfold YI at h ⊢
 split at h
 ·rename_i q
  rw[if_pos q]
  unfold Yv
  rw[if_pos (by omega)];omega
 ·rename_i q
  rw[if_neg q]
  split at h
  ·rename_i r
   rw[if_pos r]
   unfold Yv
   rw[if_neg (by omega)];omega
  ·omega
theorem Jd (x:Nat) (d:List Nat):YB (x :: d)=Yv (x/16) :: Yv (x%16) :: YB d:=by simp[YB]
theorem Ki:∀d:List Nat,(∀x∈d,x<256)→XA (YB d)=some d:=by
 intro d
 induction d with
 | nil=>intro _;rfl
 | cons x d ih=>
  intro h
  have hx:=h x (by simp)
  rw[Jd,J4,Nd _ (by omega),Nd _ (by omega),if_neg (by omega),ih (fun y hy=>h y (List.mem_cons_of_mem _ hy)),Option.map_some]
  congr 2;omega
theorem Ng:∀(n:Nat) (l d:List Nat),l.length≤n→XA l=some d→YB d=l∧∀x∈d,x<256:=by
 intro n
 induction n with
 | zero=>
  intro l d hl h
  have:l=[]:=List.eq_nil_of_length_eq_zero (by omega)
  subst this
  cases h
  exact⟨rfl,fun x hx=>by cases hx⟩
 | succ n ih=>
  intro l d hl h
  match l,hl,h with
  | [],_,h=>cases h;exact⟨rfl,fun x hx=>by cases hx⟩
  | [x],_,h=>cases h
  | x :: y :: l,hl,h=>
   rw[J4]at h
   split at h
   ·cases h
   ·rename_i q
    cases hr:XA l with
    | none=>rw[hr]at h;cases h
    | some e=>
     rw[hr]at h
     simp only[Option.map_some,Option.some.injEq]at h
     subst h
     obtain⟨h1,h2⟩:=ih l e (by simp only[List.length_cons]at hl;omega) hr
     have rx:=Xz x
     have ry:=Xz y
     refine⟨?_,fun z hz=>?_⟩
     ·rw[Jd,h1,show (16*YI x+YI y).toNat/16=(YI x).toNat by omega,show (16*YI x+YI y).toNat%16=(YI y).toNat by omega,Nf x (by omega),Nf y (by omega)]
     ·rcases List.mem_cons.1 hz with rfl|hz
      ·omega
      ·exact h2 z hz
theorem MA:∀y z,y<16→z<16→Pp (Yv y) (Yv z)=16*y+z:=by
 have h:∀y,y<16→∀z,z<16→Pp (Yv y) (Yv z)=16*y+z:=by decide +kernel
 exact fun y z hy hz=>h y hy z hz
theorem R8:∀d:List Nat,(∀x∈d,x<256)→Yt (YB d)=d:=by
 intro d
 induction d with
 | nil=>intro _;rfl
 | cons x d ih=>
  intro h
  have hx:=h x (by simp)
  rw[Jd]
  show Pp _ _ :: Yt (YB d)=_
  rw[ih (fun y hy=>h y (List.mem_cons_of_mem _ hy)),MA _ _ (by omega) (by omega)]
  congr 1;omega
theorem Xj {b:Nat} {l:List Nat}:Zo (b :: l)=if b=32 then [] :: Zo l else glue [b] (Zo l):=rfl
theorem Sq:∀w:List Nat,(∀b∈w,b≠32)→Zo w=[w]:=by
 intro w
 induction w with
 | nil=>intro _;rfl
 | cons b w ih=>
  intro h
  rw[Xj,if_neg (h b (by simp)),ih (fun x hx=>h x (List.mem_cons_of_mem _ hx))]
  rfl
theorem R9:∀(w r:List Nat),(∀b∈w,b≠32)→Zo (w++32 :: r)=w :: Zo r:=by
 intro w
 induction w with
 | nil=>intro r _;rw[List.nil_append,Xj,if_pos rfl]
 | cons b w ih=>
  intro r h
  rw[List.cons_append,Xj,if_neg (h b (by simp)),ih r (fun x hx=>h x (List.mem_cons_of_mem _ hx))]
  rfl
def Ux:List (List Nat)→List Nat
 | []=>[]
 | [w]=>w
 | w :: v :: l=>w++32 :: Ux (v :: l)
theorem Sr (b:Nat):∀k:List (List Nat),k≠[]→Ux (glue [b] k)=b :: Ux k:=by
 intro k hk
 match k,hk with
 | [w],_=>rfl
 | w :: v :: l,_=>rfl
theorem V1:∀l:List Nat,Ux (Zo l)=l:=by
 intro l
 induction l with
 | nil=>rfl
 | cons b l ih=>
  rw[Xj]
  split
  ·rename_i q
   have ZC:=YA l
   obtain⟨w,k,e⟩:=List.exists_cons_of_ne_nil ZC
   rw[e]at ih ⊢
   show []++32 :: Ux (w :: k)=_
   rw[ih,q];rfl
  ·rw[Sr b _ (YA l),ih]
theorem YZ {k n a b:Int} {m:Nat} (h:Zx k n a b m=0):(1≤k∧k≤9)∧(Ze k→0≤n∧n≤4)∧(¬Ze k→n=0)∧(Zk k→0≤a∧a≤1048576)∧(¬Zk k→a=0)∧(k=8→0≤b∧b≤100000)∧(k≠8→b=0)∧(k≠1→m=0)∧m≤2000:=by
 unfold Zx at h
 split at h
 ·cases h
 ·split at h
  ·cases h
  ·split at h
   ·cases h
   ·split at h
    ·cases h
    ·rename_i q1 q2 q3 q4
     refine⟨by omega,fun g=>?_,fun g=>?_,fun g=>?_,fun g=>?_,fun g=>?_,fun g=>?_,fun g=>?_,by omega⟩
     ·exact Classical.byContradiction fun e=>q2 (.inl ⟨g,e⟩)
     ·exact Classical.byContradiction fun e=>q4 (.inl ⟨g,e⟩)
     ·exact Classical.byContradiction fun e=>q2 (.inr (.inl ⟨g,e⟩))
     ·exact Classical.byContradiction fun e=>q4 (.inr (.inl ⟨g,e⟩))
     ·exact Classical.byContradiction fun e=>q2 (.inr (.inr ⟨g,e⟩))
     ·exact Classical.byContradiction fun e=>q4 (.inr (.inr (.inl ⟨g,e⟩)))
     ·exact Classical.byContradiction fun e=>q4 (.inr (.inr (.inr ⟨g,by omega⟩)))
def XK (x:Raw):List (List Nat):=(if Ze x.k then [YJ x.n] else [])++(if Zk x.k then [YJ x.a] else [])++(if x.k=8 then [YJ x.b] else [])++(if x.k=1 then [YB x.data] else [])
def XL (ws:List (List Nat)):List Nat:=(ws.map (32 :: ·)).flatten
theorem Uy (w:List Nat) (ws:List (List Nat)):XL (w :: ws)=32 :: w++XL ws:=by simp[XL]
theorem Ss:∀(ws:List (List Nat)) (w:List Nat),(∀b∈w,b≠32)→(∀v∈ws,∀b∈v,b≠32)→Zo (w++XL ws)=w :: ws:=by
 intro ws
 induction ws with
 | nil=>intro w h _;show Zo (w++[])=_;rw[List.append_nil];exact Sq w h
 | cons v ws ih=>
  intro w h hv
  rw[Uy,List.cons_append,R9 _ _ h,ih v (hv v (by simp)) (fun u hu=>hv u (List.mem_cons_of_mem _ hu))]
theorem Pa:∀(ws:List (List Nat)) (w:List Nat),Ux (w :: ws)=w++XL ws:=by
 intro ws
 induction ws with
 | nil=>intro w;show w=w++[];simp
 | cons v ws ih=>intro w;show w++32 :: Ux (v :: ws)=_;rw[ih,Uy];rfl
theorem Qm (u v:List (List Nat)):XL (u++v)=XL u++XL v:=by simp[XL]
theorem QT (c:Prop) [Decidable c] (w:List Nat):XL (if c then [w] else [])=if c then 32 :: w else []:=by split<;>simp[XL]
theorem Wi (x:Raw):J3 x.k x.n x.a x.b x.data=Zr x.k++XL (XK x):=by
 unfold J3 XK
 rw[Qm,Qm,Qm,QT,QT,QT,QT]
 simp only[List.append_assoc]
theorem nine {k:Int} (h:1≤k∧k≤9):k=1∨k=2∨k=3∨k=4∨k=5∨k=6∨k=7∨k=8∨k=9:=by omega
theorem MB {k:Int} (h:1≤k∧k≤9):∀b∈Zr k,b≠32:=by
 rcases nine h with rfl|rfl|rfl|rfl|rfl|rfl|rfl|rfl|rfl<;>decide
theorem WS {n:Int} (h:0≤n):∀b∈YJ n,b≠32:=by
 rw[J8 n h]
 intro b hb
 have:=Uv _ b hb
 omega
theorem MC:∀d:List Nat,∀b∈YB d,b≠32:=by
 intro d
 induction d with
 | nil=>intro b hb;cases hb
 | cons x d ih=>
  intro b hb
  rw[Jd]at hb
  have hD:∀y,Yv y≠32:=fun y=>by unfold Yv;split<;>omega
  rcases List.mem_cons.1 hb with rfl|hb
  ·exact hD _
  ·rcases List.mem_cons.1 hb with rfl|hb
   ·exact hD _
   ·exact ih b hb
theorem MD {x:Raw} (h:x.err=0):∀v∈XK x,∀b∈v,b≠32:=by
 obtain⟨hk,hn,_,ha,_,hb,_⟩:=YZ h
 intro v hv
 unfold XK at hv
 simp only[List.mem_append]at hv
 rcases hv with ((hv|hv)|hv)|hv
 ·split at hv
  ·rename_i q
   obtain rfl:v=YJ x.n:=by simpa using hv
   exact WS (hn q).1
  ·cases hv
 ·split at hv
  ·rename_i q
   obtain rfl:v=YJ x.a:=by simpa using hv
   exact WS (ha q).1
  ·cases hv
 ·split at hv
  ·rename_i q
   obtain rfl:v=YJ x.b:=by simpa using hv
   exact WS (hb q).1
  ·cases hv
 ·split at hv
  ·obtain rfl:v=YB x.data:=by simpa using hv
   exact MC _
  ·cases hv
theorem Uz {x:Raw} (h:x.err=0):Zo (J3 x.k x.n x.a x.b x.data)=Zr x.k :: XK x:=by
 rw[Wi]
 exact Ss _ _ (MB (YZ h).1) (MD h)
theorem ME {n:Int} (h0:0≤n) (h1:n<10000000):Zq (YJ n)=n:=by
 rw[J8 n h0,R5 _ (by omega)];omega
theorem J9 {l:List Nat} (h:0≤Zq l):YJ (Zq l)=l:=by rw[J8 _ h];exact R6 h
theorem V2 {x:Raw} (h:x.err=0) (hd:∀y∈x.data,y<256):X1 (Zo (J3 x.k x.n x.a x.b x.data))=some x:=by
 rw[Uz h]
 obtain⟨hk,hn,Pb,ha,Lg,hb,Nh,KQ,_⟩:=YZ h
 unfold X1
 have e0:(Zr x.k :: XK x).getD 0 []=Zr x.k:=rfl
 rw[e0,VQ _ hk,if_neg (by omega)]
 obtain⟨k,n,a,b,d⟩:=x
 simp only at hk hn Pb ha Lg hb Nh KQ hd ⊢
 have he:¬Zx k n a b d.length≠0:=fun q=>q h
 have Pc:∀l:List Nat,l.length=0→l=[]:=fun l=>List.eq_nil_of_length_eq_zero
 rw[J5 (d:=d) (n:=n) (a:=a) (b:=b) ?_ ?_ ?_ ?_ ?_,if_neg he]
 all_goals
  unfold XK
  rcases nine hk with rfl|rfl|rfl|rfl|rfl|rfl|rfl|rfl|rfl
 all_goals
  simp only[Ze,Zk,YL]at hn Pb ha Lg ⊢
 all_goals first
  | rfl
  | (simp only[Int.reduceEq,Int.reduceLE,true_or,or_true,or_false,false_or,and_true,true_and,and_false,false_and,if_true,if_false,not_true_eq_false,not_false_eq_true,true_implies,false_implies]at hn Pb ha Lg hb Nh KQ ⊢
     first
      | rfl
      | (have:=Pc d KQ;subst this;rfl)
      | exact Ki d hd
      | exact ME (by omega) (by omega)
      | exact Pb.symm
      | exact Lg.symm
      | exact (Pb trivial).symm
      | exact (Lg trivial).symm
      | exact congrArg some (Pc d (KQ (by decide))).symm
      | exact (Nh (by decide)).symm)
theorem St {w:List Nat}:XJ w≠0→(1≤XJ w∧XJ w≤9)∧Zr (XJ w)=w:=by
 have step:∀(k r:Int),(1≤k∧k≤9)→(r≠0→(1≤r∧r≤9)∧Zr r=w)→(if w=Zr k then k else r)≠0→(1≤(if w=Zr k then k else r)∧(if w=Zr k then k else r)≤9)∧Zr (if w=Zr k then k else r)=w:=by
  intro k r hk hr h
  by_cases q:w=Zr k
  ·rw[if_pos q];exact⟨hk,q.symm⟩
  ·rw[if_neg q]at h ⊢;exact hr h
 unfold XJ
 exact step 1 _ (by decide) (step 2 _ (by decide) (step 3 _ (by decide) (step 4 _ (by decide) (step 5 _ (by decide) (step 6 _ (by decide) (step 7 _ (by decide) (step 8 _ (by decide) (step 9 _ (by decide) (fun h=>absurd rfl h)))))))))
theorem V3 {t:List Nat} {x:Raw} (h:X1 (Zo t)=some x):J3 x.k x.n x.a x.b x.data=t∧x.err=0∧∀y∈x.data,y<256:=by
 have hj:=V1 t
 obtain⟨w0,r,e⟩:=List.exists_cons_of_ne_nil (YA t)
 rw[e]at h hj
 rw[Pa]at hj
 unfold X1 at h
 have e0:(w0 :: r).getD 0 []=w0:=rfl
 rw[e0]at h
 split at h
 ·cases h
 rename_i KK
 obtain⟨hk,hw⟩:=St KK
 obtain⟨k,Ps⟩:=ZE (XJ w0)
 rw[←Ps]at h hk hw
 clear Ps KK e e0
 have hg:=(Wh h).1
 unfold XB at h
 split at h
 ·cases h
 rename_i hlen
 have hlen:(w0 :: r).length=YL k:=by omega
 simp only[List.length_cons]at hlen
 split at h
 ·cases h
 rename_i d hd
 obtain⟨n,hn⟩:=ZE ((if Ze k then Zq ((w0 :: r).getD 1 []) else 0))
 obtain⟨a,ha⟩:=ZE ((if Zk k then Zq ((w0 :: r).getD 1 []) else 0))
 obtain⟨b,hb⟩:=ZE ((if k=8 then Zq ((w0 :: r).getD 2 []) else 0))
 rw[←hn,←ha,←hb]at h
 split at h
 ·cases h
 cases h
 have ef:=YZ hg
 simp only at ef
 refine⟨?_,hg,?_⟩
 ·have lt:=Wi ⟨k,n,a,b,d⟩
  simp only at lt
  rw[lt,hw,←hj]
  congr 1
  obtain⟨_,fn,_,fa,_,fb,_⟩:=ef
  have Pc:∀l:List (List Nat),l.length=0→l=[]:=fun l=>List.eq_nil_of_length_eq_zero
  have one:∀l:List (List Nat),l.length=1→∃u,l=[u]:=fun l h=>List.length_eq_one_iff.1 h
  have two:∀l:List (List Nat),l.length=2→∃u v,l=[u,v]:=fun l h=>match l,h with|[u,v],_=>⟨u,v,rfl⟩
  unfold XK
  rcases nine hk with rfl|rfl|rfl|rfl|rfl|rfl|rfl|rfl|rfl
  all_goals simp only[Ze,Zk,YL,Int.reduceEq,Int.reduceLE,true_or,or_true,or_false,false_or,and_true,true_and,and_false,false_and,if_true,if_false,true_implies,false_implies,List.append_nil,List.nil_append]at hlen hn ha hb fn fa fb hd ⊢
  ·obtain⟨u,v,rfl⟩:=two r (by omega)
   have hd:XA v=some d:=hd
   have hn:n=Zq u:=hn
   rw[hn]at fn
   rw[hn,J9 fn.1,(Ng _ v d (Nat.le_refl _) hd).1]
   rfl
  rotate_left 5
  ·obtain rfl:=Pc r (by omega)
   rfl
  ·obtain⟨u,v,rfl⟩:=two r (by omega)
   have hn:n=Zq u:=hn
   have hb:b=Zq v:=hb
   rw[hn]at fn
   rw[hb]at fb
   rw[hn,hb,J9 fn.1,J9 fb.1]
   rfl
  all_goals
   obtain⟨u,rfl⟩:=one r (by omega)
   first
    | (have hn:n=Zq u:=hn
       rw[hn]at fn
       rw[hn,J9 fn.1]
       done)
    | (have ha:a=Zq u:=ha
       rw[ha]at fa
       rw[ha,J9 fa.1]
       done)
 ·intro y hy
  by_cases q:k=1
  ·rw[if_pos q]at hd
   exact (Ng _ _ d (Nat.le_refl _) hd).2 y hy
  ·rw[if_neg q]at hd
   cases hd
   cases hy
theorem Ni {w:ByteArray} {k:Int} (hk:1≤k∧k≤9) (hw:bl w=Zr k):Z4 w 10=k:=by
 have inj:∀i,i<10→∀j,j<10→0<i→0<j→Xr.getD i []=Xr.getD j []→i=j:=by decide
 have BU:∀i,i<10→∀x∈Xr.getD i [],x<256:=by decide
 have key:∀i:Nat,i<10→0<i→((J7 i).toList == w.toList)=decide ((i:Int)=k):=by
  intro i hi h0
  unfold J7
  rw[Sn (BU i hi) w,hw]
  refine decide_eq_decide.2 ⟨fun e=>?_,fun e=>?_⟩
  ·have:=inj i hi k.toNat (by omega) h0 (by omega) e
   omega
  ·unfold Zr
   rw[←e,Int.toNat_natCast]
 have go:∀m:Nat,m≤10→Z4 w m=if k<m then k else 0:=by
  intro m
  induction m with
  | zero=>intro _;rw[if_neg (by omega)];rfl
  | succ m ih=>
   intro hm
   unfold Z4
   rw[ih (by omega)]
   by_cases h0:0<m
   ·rw[key m (by omega) h0]
    by_cases e:(m:Int)=k
    ·rw[if_pos ⟨h0,by rw[decide_eq_true e]⟩,if_pos (by omega),e]
    ·rw[if_neg (by rintro⟨_,q⟩;exact e (of_decide_eq_true q))]
     by_cases q:k<m
     ·rw[if_pos q,if_pos (by omega)]
     ·rw[if_neg q,if_neg (by omega)]
   ·rw[if_neg (fun q=>h0 q.1),if_neg (by omega),if_neg (by omega)]
 rw[go 10 (Nat.le_refl _),if_pos (by omega)]
theorem toNat_inj {u v:List UInt8} (h:u.map UInt8.toNat=v.map UInt8.toNat):u=v:=by
 have e:∀l:List UInt8,(l.map UInt8.toNat).map UInt8.ofNat=l:=fun l=>by
  rw[List.map_map,show (UInt8.ofNat ∘ UInt8.toNat)=id from funext fun x=>UInt8.ofNat_toNat,List.map_id]
 rw[←e u,h,e]
theorem Nj {s:ByteArray} {t:List Nat} (hs:bl s=t++[10]):(Lf s).map bl=Zo t:=by
 obtain⟨u,hu⟩:∃u:List UInt8,u=t.map UInt8.ofNat:=⟨_,rfl⟩
 have ht:∀x∈t,x<256:=fun x hx=>SP s x (by rw[hs];exact List.mem_append_left _ hx)
 have e2:u.map UInt8.toNat=t:=by rw[hu];exact toNat_ofNat ht
 have e1:s.data.toList=u++[10]:=toNat_inj (by
  have:s.data.toList.map UInt8.toNat=t++[10]:=hs
  rw[this,List.map_append,e2];rfl)
 have e3:Lib.trimSuffix s.data.toList [10]=u:=by
  unfold Lib.trimSuffix Lib.hasSuffix
  rw[e1,if_pos (List.isSuffixOf_iff_suffix.2 ⟨u,rfl⟩)]
  simp
 unfold Lf
 rw[e3,VI _ _ (Nat.lt_succ_self _)]
 congr 1
theorem Pd {w:ByteArray} {n:Int} (h0:0≤n) (h1:n<10000000) (h:bl w=YJ n):Lib.atoiAll w.data.toList=.ok n:=by
 have e:w.data.toList=Lib.decDigits n.toNat:=toNat_inj (by
  have:=h
  rw[J8 n h0]at this
  exact this)
 rw[e,Nc _ (by omega)]
 congr 1;omega
def F9 (ws:List ByteArray) (k n a c:Int) (d:List Nat):Prop:=(∃w0,ws[0]? = some w0∧k=Z4 w0 10)∧(∀i x,(Zg k)[i]? = some x→∀w m,ws[i+1]? = some w→Lib.atoiAll w.data.toList=.ok m→Zz k n a c x.1=m) ∧
 (∀p,0<p→p<4→(∀x∈Zg k,x.1≠p)→Zz k n a c p=0)∧(d=if k=1 then (match ws[2]? with|some w=>Yt (bl w)|none=>[]) else [])
theorem V4 {s:ByteArray} {x:Raw} (h:x.err=0) (hd:∀y∈x.data,y<256) (hs:bl s=x.line) {k n a c:Int} {d:List Nat} (r:F9 (Lf s) k n a c d):x=⟨k,n,a,c,d⟩:=by
 obtain⟨⟨w0,KN,hk⟩,hq,hr,Ea⟩:=r
 have hf:=YZ h
 unfold Raw.line at hs
 rw[Us hf.1]at hs
 have hw:=Nj hs
 rw[Uz h]at hw
 obtain⟨ws,QQ⟩:=ZE (Lf s)
 rw[←QQ]at hw KN hq Ea
 have at_:∀i w,ws[i]? = some w→(Zr x.k :: XK x)[i]? = some (bl w):=fun i w q=>by rw[←hw,List.getElem?_map,q];rfl
 have Eb:∀i u,(Zr x.k :: XK x)[i]? = some u→∃w,ws[i]? = some w∧bl w=u:=fun i u q=>by
  rw[←hw,List.getElem?_map]at q
  cases e:ws[i]? with
  | none=>rw[e]at q;cases q
  | some w=>rw[e]at q;exact⟨w,e,Option.some.inj q⟩
 have Nh:=at_ 0 w0 KN
 have Nh:Zr x.k=bl w0:=Option.some.inj Nh
 have DK:k=x.k:=by rw[hk];exact Ni hf.1 Nh.symm
 clear Nh hk KN hs hw
 obtain⟨k',n',a',b',d'⟩:=x
 simp only at DK hf hd Eb ⊢
 subst DK
 obtain⟨hk,hn,Pb,ha,Lg,hb,Nh,KQ,_⟩:=hf
 have num:∀(i:Nat) (p:Nat × Int) (m:Int),(Zg k)[i]? = some p→0≤m→m<10000000→(Zr k :: XK ⟨k,n',a',b',d'⟩)[i+1]? = some (YJ m)→Zz k n a c p.1=m:=by
  intro i p m hp h0 h1 q
  obtain⟨w,hw,QS⟩:=Eb _ _ q
  exact hq i p hp w m hw (Pd h0 h1 QS)
 have Pc:∀l:List Nat,l.length=0→l=[]:=fun l=>List.eq_nil_of_length_eq_zero
 have z1:0<1:=by decide
 have BV:∀u,k=1→(Zr k :: XK ⟨k,n',a',b',d'⟩)[2]? = some u→d=Yt u:=by
  intro u k1 q
  obtain⟨w,hw,QS⟩:=Eb _ _ q
  rw[Ea,if_pos k1,hw]
  simp only
  rw[QS]
 have goal:n=n'∧a=a'∧c=b'∧d=d':=by
  rcases nine hk with rfl|rfl|rfl|rfl|rfl|rfl|rfl|rfl|rfl
  ·have:=hn (by decide)
   refine⟨num 0 (1,4) n' rfl (by omega) (by omega) rfl,?_,?_,?_⟩
   ·rw[Lg (by decide)];exact hr 2 (by decide) (by decide) (by decide)
   ·rw[Nh (by decide)];exact hr 3 (by decide) (by decide) (by decide)
   ·rw[BV (YB d') rfl rfl];exact R8 d' hd
  all_goals
   have BW:d=d':=by rw[Ea,if_neg (by decide),Pc d' (KQ (by decide))]
   refine⟨?_,?_,?_,BW⟩
   ·first
     | (rw[Pb (by decide)];exact hr 1 (by decide) (by decide) (by decide))
     | (have:=hn (by decide);exact num 0 (1,4) n' rfl (by omega) (by omega) rfl)
   ·first
     | (rw[Lg (by decide)];exact hr 2 (by decide) (by decide) (by decide))
     | (have:=ha (by decide);exact num 0 (2,1048576) a' rfl (by omega) (by omega) rfl)
   ·first
     | (rw[Nh (by decide)];exact hr 3 (by decide) (by decide) (by decide))
     | (have:=hb (by decide);exact num 1 (3,100000) b' rfl (by omega) (by omega) rfl)
 obtain⟨rfl,rfl,rfl,rfl⟩:=goal
 rfl
theorem MF:∀l:List UInt8,(Lib.indexByte l 10 = -1→∀b∈l.map UInt8.toNat,b≠10) ∧
  ∀i:Nat,Lib.indexByte l 10=i→(∀b∈(l.take i).map UInt8.toNat,b≠10)∧l.map UInt8.toNat=(l.take i).map UInt8.toNat++10 :: (l.drop (i+1)).map UInt8.toNat∧(l.take (i+1)).map UInt8.toNat=(l.take i).map UInt8.toNat++[10]:=by
 intro l
 induction l with
 | nil=>exact⟨fun _ b hb=>(by cases hb),fun i h=>by unfold Lib.indexByte at h;omega⟩
 | cons b l ih=>
  obtain⟨i1,i2⟩:=ih
  have UA:=Lib.indexByte_ge l 10
  unfold Lib.indexByte
  by_cases q:b=10
  ·subst q
   refine⟨fun h=>by simp at h,fun i h=>?_⟩
   simp only[beq_self_eq_true,if_true]at h
   obtain rfl:i=0:=by omega
   refine⟨fun b hb=>by simp at hb,rfl,rfl⟩
  ·have q':(b == 10)=false:=by simpa using q
   have q2:¬b.toNat=10:=fun e=>q (UInt8.toNat_inj.1 e)
   simp only[q',Bool.false_eq_true,if_false]
   by_cases r:Lib.indexByte l 10 = -1
   ·rw[r]
    refine⟨fun _ x hx=>?_,fun i h=>?_⟩
    ·rw[List.map_cons]at hx
     rcases List.mem_cons.1 hx with rfl|hx
     ·exact q2
     ·exact i1 r x hx
    ·simp at h
   ·have r':(Lib.indexByte l 10 == -1)=false:=by simpa using r
    simp only[r',Bool.false_eq_true,if_false]
    refine⟨fun h=>by omega,fun i h=>?_⟩
    obtain⟨j,rfl⟩:∃j,i=j+1:=⟨i-1,by omega⟩
    obtain⟨h1,h2,h3⟩:=i2 j (by omega)
    refine⟨fun x hx=>?_,?_,?_⟩
    ·rw[List.take_succ_cons,List.map_cons]at hx
     rcases List.mem_cons.1 hx with rfl|hx
     ·exact q2
     ·exact h1 x hx
    ·rw[List.map_cons,h2];rfl
    ·rw[List.take_succ_cons,List.map_cons,h3];rfl
theorem JD:∀(t cur:List Nat) (acc:List Raw) (rest:List Nat),(∀b∈t,b≠10)→Ya (t++10 :: rest) cur acc=(if acc.length=100000 then ([],100000,8) else match X1 (Zo (cur++t)) with
  | none=>([],acc.length,3)
  | some x=>Ya rest [] (acc++[x]):List Raw × Int × Int):=by
 intro t
 induction t with
 | nil=>intro cur acc rest _;rw[List.nil_append,Y7,if_pos rfl,List.append_nil];first|done|rfl
 | cons b t ih=>
  intro cur acc rest h
  rw[List.cons_append,Y7,if_neg (h b (by simp)),ih _ _ _ (fun x hx=>h x (List.mem_cons_of_mem _ hx)),List.append_assoc]
  rfl
theorem Wj:∀(t cur:List Nat) (acc:List Raw),(∀b∈t,b≠10)→cur++t≠[]→Ya t cur acc=(if acc.length=100000 then ([],100000,8) else ([],acc.length,3):List Raw × Int × Int):=by
 intro t
 induction t with
 | nil=>intro cur acc _ h;rw[Ql,if_neg (by simpa using h)]
 | cons b t ih=>
  intro cur acc h ZC
  rw[Y7,if_neg (h b (by simp)),ih _ _ (fun x hx=>h x (List.mem_cons_of_mem _ hx)) (by simp)]
theorem MG (r:ByteArray) (n:Nat):bl (r.extract n r.size)=(bl r).drop n:=by
 have:=Yz r
 rw[Yj,List.take_of_length_le (by rw[List.length_drop];omega)]
theorem Nk {r:ByteArray} (h:0<r.size):(∃t,bl (Y4 r)=t++[10]∧(∀b∈t,b≠10)∧bl r=t++10 :: bl (Y5 r))∨((∀b∈bl (Y4 r),b≠10)∧bl r=bl (Y4 r)):=by
 obtain⟨i1,i2⟩:=MF r.data.toList
 have UA:=Lib.indexByte_ge r.data.toList 10
 have hl:=Yz r
 unfold Y4 Y5
 by_cases q:0≤UU r
 ·rw[if_pos q,if_pos q]
  left
  obtain⟨h1,h2,h3⟩:=i2 (UU r).toNat (by unfold UU at q ⊢;omega)
  refine⟨(r.data.toList.take (UU r).toNat).map UInt8.toNat,?_,h1,?_⟩
  ·rw[Yj,List.drop_zero,Nat.sub_zero,←h3,List.map_take]
   rfl
  ·rw[MG]
   have:(bl r).drop ((UU r).toNat+1)=(r.data.toList.drop ((UU r).toNat+1)).map UInt8.toNat:=by rw[List.map_drop];rfl
   rw[this]
   exact h2
 ·rw[if_neg q]
  right
  refine⟨?_,rfl⟩
  exact i1 (by unfold UU at q;omega)
def o0 (n0:Nat):Ow:=Qi (Qi (Qi (Qi (Qi (Qi (Qi KM (n0+4) (.YK 101)) (n0+3) (.YK 102)) (n0+6) (.YK 103)) n0 (.YK 104)) (n0+1) (.YK 104)) (n0+2) (.YK 104)) (n0+5) (.YK 104)
def S4 (t:Tg):Prop:=t=.YK 100∨t=.YK 101∨t=.YK 102∨t=.YK 103
theorem Lh (n0:Nat):o0 n0 (n0+4)=some (.YK 101)∧o0 n0 (n0+3)=some (.YK 102)∧o0 n0 (n0+6)=some (.YK 103)∧o0 n0 n0=some (.YK 104)∧o0 n0 (n0+1)=some (.YK 104)∧o0 n0 (n0+2)=some (.YK 104)∧o0 n0 (n0+5)=some (.YK 104):=by
 unfold o0 Qi
 refine⟨?_,?_,?_,?_,?_,?_,?_⟩<;>simp
theorem Nl (n0 b:Nat) (h:b<n0∨n0+7≤b):o0 n0 b=none:=by
 unfold o0 Qi KM
 repeat rw[if_neg (by omega)]
theorem Nn:¬S4 (.YK 104):=by unfold S4;simp
def RJ (H:Hp) (n0:Nat) (rec:Loop) (full:List Raw × Int × Int) (r:ByteArray) (g:Hp):Prop:=
 ∃(o:Ow) (ys:List (Raw × Value)) (v:Value),Kp S4 (o0 n0) H o g∧o (n0+4)=some (.YK 101)∧o (n0+3)=some (.YK 102)∧o (n0+6)=some (.YK 103)∧RN (n0+4) r g ∧
  g[n0+3]? = some (.cells [v].toArray 22)∧g[n0+6]? = some (.loop rec)∧XX o (.YK 100) 33 5 g v ys.length (Yh Xy ys)∧(∀y∈ys,OY o g y.2 y.1.data)∧ys.length≤100000∧full=Ya (bl r) [] (Xa ys)∧r.size≤4000000
def RX (h:Hp) (n0:Nat) (rec:Loop) (full:List Raw × Int × Int) (g:Hp):Prop:=
 g[n0+6]? = some (.loop { rec with state:=.done,pending:=some .ret })∧g[n0+5]? = some (.deferred (some []))∧g[n0]? = some (.cells [.slice none 0 0].toArray 22) ∧
  ∃i e:Int,g[n0+1]? = some (.cells [.int .i64 i].toArray 3)∧g[n0+2]? = some (.cells [.int .i64 e].toArray 23)∧full=([],i,e)∧Zj n0 h g
theorem X0.Yu {h h':Hp} (t:X0 h) (b:Zj h.size h h'):X0 h':=by
 obtain⟨e,fr,ht⟩:=t
 exact⟨e,fr,b.get (Zb ht) ht⟩
theorem Pe {r:ByteArray} (h:0<r.size):(Y4 r).size≤r.size:=by
 unfold Y4
 split
 ·rw[ByteArray.size_extract];omega
 ·exact Nat.le_refl _
set_option maxHeartbeats 8000000 in
theorem No (T:World) (h H:Hp) (n0:Nat) (rec:Loop) (full:List Raw × Int × Int) (r:ByteArray) (g:Hp) (F:Env)
  (hA:(Nu Tryd.f4 [1,1,1,0,1,0]).bind EX=some rec.assign) (hB:(Nu Tryd.f4 [1,1,1,0,1,0]).bind EY=some rec.body)
  (Pb:h.size=n0) (sH:H.size=n0+7) (bH:Zj n0 h H) (tw:Words h) (tp:X0 h) (hm:WL h) (h1:Jy 2 h) (h2:Jy 3 h)
  (H0:H[n0]? = some (.cells [.slice none 0 0].toArray 22)) (H1:H[n0+1]? = some (.cells [.int .i64 0].toArray 3)) (H2:H[n0+2]? = some (.cells [.int .i64 0].toArray 23)) (HD:H[n0+5]? = some (.deferred (some [])))
  (f2:F 2=.pointer (some ⟨n0,0,none⟩)) (f3:F 3=.pointer (some ⟨n0+1,0,none⟩)) (f4:F 4=.pointer (some ⟨n0+2,0,none⟩)) (f5:F 5=.pointer (some ⟨n0+3,0,none⟩))
  (q1:rec.state=.ready) (q2:rec.pending=none) (q3:rec.params=#[13]) (q6:rec.tmps.size=Tryd.f4.ntmps) (q7:env { tmps:=rec.tmps,defers:=[] } = F)
  (j:RJ H n0 rec full r g) (hp:0<r.size) :
  Xv Tryd.prog T (n0+6) (.string (Y4 r)) (fun b h'=>if b=true then RJ H n0 rec full (Y5 r) h' else RX h n0 rec full h') (Sg (n0+4) (Y5 r) g):=by
 obtain⟨cA,DM⟩:∃c,c=rec.assign:=⟨_,rfl⟩
 obtain⟨cB,DN⟩:∃c,c=rec.body:=⟨_,rfl⟩
 rw[←DM]at hA
 rw[←DN]at hB
 have SI:some cA=some _:=hA.symm.trans (rfl:(Nu Tryd.f4 [1,1,1,0,1,0]).bind EX=some _)
 have DO:some cB=some _:=hB.symm.trans (rfl:(Nu Tryd.f4 [1,1,1,0,1,0]).bind EY=some _)
 obtain rfl:=Option.some.inj SI
 obtain rfl:=Option.some.inj DO
 clear hA hB SI DO
 obtain⟨o,ys,v,K,t4,t3,t6,bx,y3,y6,O,I,GG,QD,Pm⟩:=j
 obtain⟨g1,UB⟩:=ZE (Sg (n0+4) (Y5 r) g)
 have Kj:Kp (fun t=>t=.YK 101) o g o g1:=by rw[UB];exact (Kp.refl K.UP (fun t=>t=Tg.YK 101)).set t4 rfl _
 have y3:=Kj.get y3 (fun t ht=>by rw[t3]at ht;cases ht;intro q;cases q)
 have y6:=Kj.get y6 (fun t ht=>by rw[t6]at ht;cases ht;intro q;cases q)
 have y4:g1[n0+4]? = some (.cells [Value.string (Y5 r)].toArray 9):=by rw[UB];exact ZO bx
 rw[←UB]
 refine Xv.of (n:=Tryd.f4.ntmps) (rec:=rec) (p:=13) (F0:=Zl F (some 13) (.string (Y4 r))) y6 q3 q6 ?_ ?_
 ·have:=Ym { tmps:=rec.tmps,defers:=[] } (some 13) (.string (Y4 r)) (fun d e=>by cases e;show 13<rec.tmps.size;rw[q6];decide)
  rw[q7]at this
  exact this
 rw[←DM]
 refine ZS _ _ _ _ _ _ rfl ?_
 simp -implicitDefEqProofs only[go_sem,↓reduceIte]
 refine⟨rec,y6,q1,?_⟩
 obtain⟨g2,YV⟩:=ZE (g1.setIfInBounds (n0+6) (.loop { rec with state:=.busy }))
 rw[←YV,←DN]
 have KR:Kp (fun t=>t=.YK 103) o g1 o g2:=by rw[YV];exact (Kp.refl Kj.UP (fun t=>t=Tg.YK 103)).set t6 rfl _
 have y3:=KR.get y3 (fun t ht=>by rw[t3]at ht;cases ht;intro q;cases q)
 have y4:=KR.get y4 (fun t ht=>by rw[t4]at ht;cases ht;intro q;cases q)
 have y6:g2[n0+6]? = some (.loop { rec with state:=.busy }):=by rw[YV];exact ZO y6
 have O2:=(O.ZM Kj (fun q=>by cases q)).ZM KR (fun q=>by cases q)
 have I2:∀y∈ys,OY o g2 y.2 y.1.data:=fun y hy=>((I y hy).ZM Kj).ZM KR
 have K2:Kp S4 (o0 n0) H o g2:=(K.trans (Kj.mono (by rintro t rfl;unfold S4;simp))).trans (KR.mono (by rintro t rfl;unfold S4;simp))
 clear O I Kj KR bx K UB YV
 obtain⟨DP,DQ,DR,Ec,Ed,Ee,Ef⟩:=Lh n0
 have low:∀b x,H[b]? = some x→o0 n0 b=some (.YK 104)→g2[b]? = some x:=fun b x hx ho=>K2.get hx (fun t ht=>by rw[ho]at ht;cases ht;exact Nn)
 have y0:=low _ _ H0 Ec
 have y1:=low _ _ H1 Ed
 have y2:=low _ _ H2 Ee
 have yD:=low _ _ HD Ef
 have B2:Zj n0 h g2:=⟨by have:=bH.size;have:=K2.size;omega,fun b hb=>by
  rw[←bH.block b hb]
  exact (K2.ZM b (by omega) (fun t ht=>by rw[Nl n0 b (.inl hb)]at ht;cases ht)).1⟩
 have BX:n0+7≤g2.size:=by have:=K2.size;omega
 -- a round BZ Eg no
 have fail:∀(G:Hp) (i e:Int),Zj g2.size g2 G→full=([],i,e) →
   ∃r2,(((G.setIfInBounds n0 (.cells [.slice none 0 0].toArray 22)).setIfInBounds (n0+1) (.cells [.int .i64 i].toArray 3)).setIfInBounds (n0+2) (.cells [.int .i64 e].toArray 23))[n0+6]? = some (.loop r2) ∧
    RX h n0 rec full ((((G.setIfInBounds n0 (.cells [.slice none 0 0].toArray 22)).setIfInBounds (n0+1) (.cells [.int .i64 i].toArray 3)).setIfInBounds (n0+2) (.cells [.int .i64 e].toArray 23)).setIfInBounds (n0+6) (.loop { r2 with state:=.done,pending:=some .ret })):=by
  intro G i e bG hf
  have hG:=bG.size
  refine⟨{ rec with state:=.busy },?_,?_,?_,?_,i,e,?_,?_,hf,?_⟩
  ·rw[Zd (by omega),Zd (by omega),Zd (by omega)]
   exact bG.get (by omega) y6
  ·rw[Array.getElem?_setIfInBounds,if_pos rfl,if_pos (by simp only[Array.size_setIfInBounds];omega)]
  ·rw[Zd (by omega),Zd (by omega),Zd (by omega),Zd (by omega)]
   exact bG.get (by omega) yD
  ·rw[Zd (by omega),Zd (by omega),Zd (by omega),Array.getElem?_setIfInBounds,if_pos rfl,if_pos (by omega)]
  ·rw[Zd (by omega),Zd (by omega),Array.getElem?_setIfInBounds,if_pos rfl,if_pos (by simp only[Array.size_setIfInBounds];omega)]
  ·rw[Zd (by omega),Array.getElem?_setIfInBounds,if_pos rfl,if_pos (by simp only[Array.size_setIfInBounds];omega)]
  ·refine⟨by simp only[Array.size_setIfInBounds];have:=B2.size;omega,fun b hb=>?_⟩
   rw[Zd (by omega),Zd (by omega),Zd (by omega),Zd (by omega),bG.block b (by omega)]
   exact B2.block b hb
 have Ld:(Xa ys).length=ys.length:=by unfold Xa;simp
 obtain⟨pv,cv,rfl,CZ⟩:=O2.J0
 have c3:Go.V.hc g2 ⟨n0+3,0,none⟩=some (.slice pv ys.length cv):=Zs y3
 have st:∀(G:Hp) (i e:Int),Zj g2.size g2 G→XN G ⟨n0,0,none⟩ (.slice none 0 0)=some (G.setIfInBounds n0 (.cells [.slice none 0 0].toArray 22)) ∧
   XN (G.setIfInBounds n0 (.cells [.slice none 0 0].toArray 22)) ⟨n0+1,0,none⟩ (.int .i64 i)=some ((G.setIfInBounds n0 (.cells [.slice none 0 0].toArray 22)).setIfInBounds (n0+1) (.cells [.int .i64 i].toArray 3)) ∧
   XN ((G.setIfInBounds n0 (.cells [.slice none 0 0].toArray 22)).setIfInBounds (n0+1) (.cells [.int .i64 i].toArray 3)) ⟨n0+2,0,none⟩ (.int .i64 e)=some (((G.setIfInBounds n0 (.cells [.slice none 0 0].toArray 22)).setIfInBounds (n0+1) (.cells [.int .i64 i].toArray 3)).setIfInBounds (n0+2) (.cells [.int .i64 e].toArray 23)) ∧
   Go.V.hc (G.setIfInBounds n0 (.cells [.slice none 0 0].toArray 22)) ⟨n0+3,0,none⟩=some (.slice pv ys.length cv)∧Go.V.hc G ⟨n0+3,0,none⟩=some (.slice pv ys.length cv):=by
  intro G i e bG
  have z0:=bG.get (by omega) y0
  have z1:=bG.get (by omega) y1
  have z2:=bG.get (by omega) y2
  have z3:=bG.get (by omega) y3
  refine⟨by rw[ZA z0 0 _,if_pos ⟨by simp,rfl⟩];rfl,?_,?_,?_,Zs z3⟩
  ·rw[ZA (h:=G.setIfInBounds n0 _) (b:=n0+1) (by rw[Zd (by omega)];exact z1) 0 _,if_pos ⟨by simp,rfl⟩];rfl
  ·rw[ZA (b:=n0+2) (by rw[Zd (by omega),Zd (by omega)];exact z2) 0 _,if_pos ⟨by simp,rfl⟩];rfl
  ·have B0:(G.setIfInBounds n0 (.cells [.slice none 0 0].toArray 22))[n0+3]? = some (.cells [.slice pv ys.length cv].toArray 22):=by rw[Zd (by omega)];exact z3
   exact Zs B0
 have HT:=Nk hp
 have GI:∀G:Hp,g2.size≤G.size→n0<G.size∧n0+1<G.size∧n0+2<G.size∧n0+3<G.size:=fun G q=>by omega
 refine ZS _ _ _ _ _ _ rfl ?_
 by_cases hf:ys.length=100000
 ·have V8:((ys.length:Nat):Int)=100000:=by omega
  have Kk:full=([],100000,8):=by
   rw[QD]
   rcases HT with⟨t,_,hn,e⟩|⟨hn,e⟩
   ·rw[e,JD _ _ _ _ hn,Ld,if_pos hf]
   ·rw[Wj _ _ _ (by rw[e];exact hn) (by rw[List.nil_append];intro q;have:=Yz r;rw[q,List.length_nil]at this;omega),Ld,if_pos hf]
  obtain⟨w0,w1,w2,Li,_⟩:=st g2 100000 8 (Zj.refl _ _)
  obtain⟨m0,m1,m2,m3⟩:=GI g2 (Nat.le_refl _)
  obtain⟨e1,Lj⟩:=ZE (g2.setIfInBounds n0 (.cells [.slice none 0 0].toArray 22))
  have fl:=fail g2 100000 8 (Zj.refl _ _) Kk
  rw[←Lj]at w0 w1 w2 Li fl
  obtain⟨e2,Ht⟩:=ZE (e1.setIfInBounds (n0+1) (.cells [.int .i64 100000].toArray 3))
  rw[←Ht]at w1 w2 fl
  obtain⟨e3,Hu⟩:=ZE (e2.setIfInBounds (n0+2) (.cells [.int .i64 8].toArray 23))
  rw[←Hu]at w2 fl
  simp -implicitDefEqProofs only[go_sem,↓reduceIte,f2,f3,f4,f5,c3,V8]
  refine VR.w (n0) [3,4] (.or 0 (.q 1 (.s 2 (.w 3 (.w 4 .nil)))) (.s 2 (.s 0 (.q 1 (.w 3 (.w 4 .nil)))))) mixed (by kernel_rfl) ?_
  simp -implicitDefEqProofs only[go_sem,↓reduceIte,f2,f3,f4,f5,c3,Li,V8,w0,w1,w2]
  have Np:Zj n0 g2 e1:=by rw[Lj];exact⟨by rw[Array.size_setIfInBounds];exact Nat.le_refl _,fun b hb=>Zd (by omega)⟩
  exact⟨⟨Np,fl⟩,Np,Np,fl⟩
 have V8:¬((ys.length:Nat):Int)=100000:=by omega
 have Eh:(∀x:Raw,x.err=0→(∀y∈x.data,y<256)→bl (Y4 r)=x.line→False)→full=([],(ys.length:Int),3):=by
  intro Nt
  rw[QD]
  rcases HT with⟨t,e0,hn,e⟩|⟨hn,e⟩
  ·rw[e,JD _ _ _ _ hn,Ld,if_neg hf,List.nil_append]
   cases hA:X1 (Zo t) with
   | none=>rfl
   | some x=>
    obtain⟨x1,x2,x3⟩:=V3 hA
    refine (Nt x x2 x3 ?_).elim
    rw[e0,←x1]
    exact (Us (YZ x2).1).symm
  ·rw[Wj _ _ _ (by rw[e];exact hn) (by rw[List.nil_append];intro q;have:=Yz r;rw[q,List.length_nil]at this;omega),Ld,if_neg hf]
 have LY:=Pe hp
 have bT:Zj h.size h g2:=by rw[Pb];exact B2
 have ao:=Kd T g2 (Y4 r) (by omega) (tw.on bT) (hm.Yu bT) (h1.Yu bT) (h2.Yu bT)
 obtain⟨ln,MH⟩:=ZE (Y4 r)
 rw[←MH]at ao Eh
 rw[←MH]
 simp -implicitDefEqProofs only[go_sem,↓reduceIte,f2,f3,f4,f5,c3,V8]
 refine ao.use ?_
 rintro _ g3 ⟨⟨k,n,a,c,dv,d,rfl,od,Du,Ny,p1,p2,p3,p4⟩,b3⟩
 obtain⟨pd,cd,rfl,He⟩:=od.open
 have Hv:∀x:Raw,x.err=0→(∀y∈x.data,y<256)→bl ln=x.line→x=⟨k,n,a,c,d⟩:=fun x x1 x2 x3=>V4 x1 x2 x3 ⟨p1,p2,p3,p4⟩
 obtain⟨g4,Nz⟩:=ZE (g3.push (.cells (Zc k n a c (.slice pd d.length cd)).toArray 33):Hp)
 have e4:=Nz.symm
 have DS:Zj g3.size g3 g4:=by rw[Nz];exact (Zj.refl _ _).add _
 have b4:Zj g2.size g2 g4:=b3.trans (DS.mono b3.size)
 have x4:g4[g3.size]? = some (.cells (Zc k n a c (.slice pd d.length cd)).toArray 33):=by rw[Nz];exact Zn
 have r4:rd g4 ⟨g3.size,0,none⟩ 5=some (Zc k n a c (.slice pd d.length cd)):=Zu x4 rfl
 have l4:=Zb x4
 have ck:=UT T g4 k n a c pd d.length cd
 unfold Zc at e4 r4 ck ⊢
 simp -implicitDefEqProofs only[go_sem,↓reduceIte,f2,f3,f4,f5,e4,r4,l4]
 refine ck.use ?_
 rintro _ g5 ⟨rfl,b5⟩
 have B5:Zj g2.size g2 g5:=b4.trans (b5.mono b4.size)
 have x5:=b5.get l4 x4
 have r5:rd g5 ⟨g3.size,0,none⟩ 5=some (Zc k n a c (.slice pd d.length cd)):=Zu x5 rfl
 have l5:=Zb x5
 obtain⟨E,hE⟩:=ZE (Zx k n a c d.length)
 rw[←hE]
 by_cases YW:E=0
 case neg=>
  have Su:full=([],(ys.length:Int),3):=Eh fun x x1 x2 x3=>YW (by
   have:=Hv x x1 x2 x3
   rw[hE]
   rw[this]at x1
   exact x1)
  obtain⟨w0,w1,w2,Li,Ei⟩:=st g5 ys.length 3 B5
  obtain⟨m0,m1,m2,m3⟩:=GI g5 B5.size
  obtain⟨e1,Lj⟩:=ZE (g5.setIfInBounds n0 (.cells [.slice none 0 0].toArray 22))
  have fl:=fail g5 ys.length 3 B5 Su
  rw[←Lj]at w0 w1 w2 Li fl
  have Np:Zj n0 g5 e1:=by rw[Lj];exact⟨by rw[Array.size_setIfInBounds];exact Nat.le_refl _,fun b hb=>Zd (by omega)⟩
  obtain⟨e2,Ht⟩:=ZE (e1.setIfInBounds (n0+1) (.cells [.int .i64 (ys.length:Int)].toArray 3))
  rw[←Ht]at w1 w2 fl
  obtain⟨e3,Hu⟩:=ZE (e2.setIfInBounds (n0+2) (.cells [.int .i64 3].toArray 23))
  rw[←Hu]at w2 fl
  simp -implicitDefEqProofs only[go_sem,↓reduceIte,f2,f3,f4,f5,YW]
  refine VR.w (n0) [3,4] (.or 0 (.q 1 (.s 2 (.w 3 (.w 4 .nil)))) (.s 2 (.s 0 (.q 1 (.w 3 (.w 4 .nil)))))) mixed (by kernel_rfl) ?_
  simp -implicitDefEqProofs only[go_sem,↓reduceIte,f2,f3,f4,f5,Li,Ei,w0,w1,w2]
  exact⟨⟨Np,fl⟩,Np,Np,fl⟩
 have Up:(⟨k,n,a,c,d⟩:Raw).err=0:=by show Zx k n a c d.length=0;rw[←hE];exact YW
 obtain⟨gk,gd,gg⟩:=VP Up
 have DT:Zj h.size h g5:=bT.trans (B5.mono bT.size)
 have Hw:Y8 g2.size 5 g5 (.slice pd d.length cd) d:=(od.Yu DS (Nat.le_refl _)).Yu b5 (Nat.le_refl _)
 have lo:=Mt T g5 k n a c pd cd d gk Hw.bs gd gg (tw.on DT) (tp.Yu DT)
 have lf:=R0 Up Hw.byte
 unfold Raw.line at lf
 simp only at lf
 have cmp:=Sn lf.2.2 ln
 unfold WN at lo
 obtain⟨W,hW⟩:∃W:ByteArray,W=⟨((J2 k n a c d).map UInt8.ofNat).toArray⟩:=⟨_,rfl⟩
 rw[←hW]at lo cmp
 unfold Zc at lo r5
 simp -implicitDefEqProofs only[go_sem,↓reduceIte,f2,f3,f4,f5,YW,r5,l5]
 refine lo.use ?_
 rintro _ g6 ⟨rfl,b6⟩
 have B6:Zj g2.size g2 g6:=B5.trans (b6.mono B5.size)
 by_cases Q9:J2 k n a c d=bl ln
 case neg=>
  rw[decide_eq_false Q9]at cmp
  have Su:full=([],(ys.length:Int),3):=Eh fun x x1 x2 x3=>Q9 (by
   have:=Hv x x1 x2 x3
   rw[x3,this]
   rfl)
  obtain⟨w0,w1,w2,Li,Ei⟩:=st g6 ys.length 3 B6
  obtain⟨m0,m1,m2,m3⟩:=GI g6 B6.size
  obtain⟨e1,Lj⟩:=ZE (g6.setIfInBounds n0 (.cells [.slice none 0 0].toArray 22))
  have fl:=fail g6 ys.length 3 B6 Su
  rw[←Lj]at w0 w1 w2 Li fl
  have Np:Zj n0 g6 e1:=by rw[Lj];exact⟨by rw[Array.size_setIfInBounds];exact Nat.le_refl _,fun b hb=>Zd (by omega)⟩
  obtain⟨e2,Ht⟩:=ZE (e1.setIfInBounds (n0+1) (.cells [.int .i64 (ys.length:Int)].toArray 3))
  rw[←Ht]at w1 w2 fl
  obtain⟨e3,Hu⟩:=ZE (e2.setIfInBounds (n0+2) (.cells [.int .i64 3].toArray 23))
  rw[←Hu]at w2 fl
  simp -implicitDefEqProofs only[go_sem,↓reduceIte,f2,f3,f4,f5,cmp]
  refine VR.w (n0) [3,4] (.or 0 (.q 1 (.s 2 (.w 3 (.w 4 .nil)))) (.s 2 (.s 0 (.q 1 (.w 3 (.w 4 .nil)))))) mixed (by kernel_rfl) ?_
  simp -implicitDefEqProofs only[go_sem,↓reduceIte,f2,f3,f4,f5,Li,Ei,w0,w1,w2]
  exact⟨⟨Np,fl⟩,Np,Np,fl⟩
 rw[decide_eq_true Q9]at cmp
 have Sk:full=Ya (bl (Y5 r)) [] (Xa ys++[⟨k,n,a,c,d⟩]):=by
  have hle:bl ln=J3 k n a c d++[10]:=by rw[←Q9];exact Us gk
  rw[QD]
  rcases HT with⟨t,e0,hn,e⟩|⟨hn,e⟩
  ·rw[←MH,hle]at e0
   have:J3 k n a c d=t:=List.append_cancel_right e0
   rw[e,JD _ _ _ _ hn,Ld,if_neg hf,List.nil_append,←this,V2 (x:=⟨k,n,a,c,d⟩) Up Hw.byte]
  ·rw[←MH,hle]at hn
   exact absurd rfl (hn 10 (by simp))
 have K6:=K2.Yu B6
 have Ej:Kp La o g2 o g6:=VM K2.UP B6
 have O6:=O2.ZM Ej (fun q=>q)
 have I6:∀y∈ys,OY o g6 y.2 y.1.data:=fun y hy=>(I2 y hy).ZM Ej
 have B1:=(st g6 0 0 B6).2.2.2.2
 have x6:=b6.get l5 x5
 have l6:=Zb x6
 have r6:rd g6 ⟨g3.size,0,none⟩ 5=some (Zc k n a c (.slice pd d.length cd)):=Zu x6 rfl
 have B7:OY o g6 (.slice pd d.length cd) d:=⟨Im.OX (Hw.Yu b6 (Nat.le_refl _)).ZJ (fun b hb=>K2.UP b hb),Hw.byte⟩
 obtain⟨g7,Ek⟩:=ZE (g6.push (.cells (Zc k n a c (.slice pd d.length cd)).toArray 33):Hp)
 have e7:=Ek.symm
 have Hx:Kp La o g6 o g7:=by rw[Ek];exact WO K6.UP _
 have x7:g7[g6.size]? = some (.cells (Zc k n a c (.slice pd d.length cd)).toArray 33):=by rw[Ek];exact Zn
 have src:Sl 5 g7 (.slice (some ⟨g6.size,0,none⟩) 1 1) 1 (Zc k n a c (.slice pd d.length cd)):=⟨_,1,rfl,rfl,fun _=>⟨g6.size,0,rfl,fun i hi=>by
  rw[Zs x7,Yx,Nat.zero_add];exact List.getElem?_eq_getElem hi⟩⟩
 have O7:=O6.ZM Hx (fun q=>q)
 have z3:=B6.get (by omega) y3
 have z6:=B6.get (by omega) y6
 have z4:=B6.get (by omega) y4
 obtain⟨m0,m1,m2,m3⟩:=GI g6 B6.size
 unfold Zc at r6 e7
 simp -implicitDefEqProofs only[go_sem,↓reduceIte,f2,f3,f4,f5,cmp,B1,m3,r6,l6,e7]
 refine Ui (E:=33) (n:=5) (bytes:=56) (k:=1) M5 Tryd.underlying22 IZ I1 rfl I0 O7 Hx.UP src rfl (by omega) (by omega) ?_
 intro v8 o8 g8 O8 Hy _
 have Hy:Kp (fun u=>u=.YK 100) o g7 o8 g8:=Hy
 obtain⟨p8,c8,rfl,_⟩:=O8.J0
 have Kl:Kp (fun u=>u=.YK 100) o g2 o8 g8:=((JA Ej).trans (JA Hx)).trans Hy
 have a3:∀t,o (n0+3)=some t→¬(t=Tg.YK 100):=fun t ht=>by rw[t3]at ht;cases ht;intro q;cases q
 have a4:∀t,o (n0+4)=some t→¬(t=Tg.YK 100):=fun t ht=>by rw[t4]at ht;cases ht;intro q;cases q
 have a6:∀t,o (n0+6)=some t→¬(t=Tg.YK 100):=fun t ht=>by rw[t6]at ht;cases ht;intro q;cases q
 have v3:=Kl.get y3 a3
 have v4:=Kl.get y4 a4
 have v6:=Kl.get y6 a6
 have s3:o8 (n0+3)=some (.YK 102):=by rw[Kl.ZJ y3 a3,t3]
 have s4:o8 (n0+4)=some (.YK 101):=by rw[Kl.ZJ y4 a4,t4]
 have s6:o8 (n0+6)=some (.YK 103):=by rw[Kl.ZJ y6 a6,t6]
 have K8:Kp S4 (o0 n0) H o8 g8:=K2.trans (Kl.mono (by rintro t rfl;unfold S4;simp))
 have w8:XN g8 ⟨n0+3,0,none⟩ (.slice p8 (ys.length+1) c8)=some (g8.setIfInBounds (n0+3) (.cells [.slice p8 (ys.length+1) c8].toArray 22)):=by
  rw[ZA v3 0 _,if_pos ⟨by simp,rfl⟩];rfl
 obtain⟨g9,Mx⟩:=ZE (g8.setIfInBounds (n0+3) (.cells [.slice p8 (ys.length+1) c8].toArray 22))
 rw[←Mx]at w8
 have B8:n0+3<g8.size:=Zb v3
 simp -implicitDefEqProofs only[go_sem,↓reduceIte,f5,w8,B8]
 have UQ:({ rec with state:=.ready,pending:=none }:Loop)=rec:=by
  obtain⟨_,_,_,_,_,_,_,_⟩:=rec
  simp only at q1 q2
  rw[q1,q2]
 have KS:Kp (fun t=>t=.YK 102∨t=.YK 103) o8 g8 o8 g9:=by rw[Mx];exact (Kp.refl K8.UP (fun t=>t=Tg.YK 102∨t=Tg.YK 103)).set s3 (.inl rfl) _
 have DU:g9[n0+6]? = some (.loop { rec with state:=.busy }):=by rw[Mx,Zd (by omega)];exact v6
 refine⟨_,DU,o8,ys++[(⟨k,n,a,c,d⟩,.slice pd d.length cd)],.slice p8 (ys.length+1) c8,?_,s4,s3,s6,?_,?_,?_,?_,fun y hy=>?_,?_,?_,?_⟩
 ·exact (K8.trans (KS.mono (by rintro t (rfl|rfl)<;>(unfold S4;simp)))).set s6 (by unfold S4;simp) _
 ·show (g9.setIfInBounds (n0+6) _)[n0+4]? = _
  rw[Zd (by omega),Mx,Zd (by omega)]
  exact v4
 ·show (g9.setIfInBounds (n0+6) _)[n0+3]? = _
  rw[Zd (by omega),Mx]
  exact ZO v3
 ·show (g9.setIfInBounds (n0+6) (.loop { rec with state:=.ready,pending:=none }))[n0+6]? = _
  rw[UQ]
  exact ZO DU
 ·have e:Yh Xy (ys++[(⟨k,n,a,c,d⟩,.slice pd d.length cd)])=Yh Xy ys++Zc k n a c (.slice pd d.length cd):=by rw[XU,Ub];rfl
  rw[e,List.length_append]
  exact (O8.ZM KS (by rintro (q|q)<;>cases q)).ZM ((Kp.refl KS.UP (fun t=>t=Tg.YK 103)).set s6 rfl _) (fun q=>by cases q)
 ·have kk:=((Kp.refl KS.UP (fun t=>t=Tg.YK 103)).set s6 rfl (.loop { rec with state:=.ready,pending:=none }))
  rcases List.mem_append.1 hy with hy|hy
  ·exact ((((I6 y hy).ZM Hx).ZM Hy).ZM KS).ZM kk
  ·have:y=(⟨k,n,a,c,d⟩,.slice pd d.length cd):=by simpa using hy
   rw[this]
   exact (((B7.ZM Hx).ZM Hy).ZM KS).ZM kk
 ·simp only[List.length_append,List.length_singleton];omega
 ·rw[Sk]
  congr 1
  unfold Xa
  simp
 ·have:=SO hp
  omega
theorem Pf (T:World) (h:Hp) (s:ByteArray):Zf Tryd.prog T 7 #[.string s] h fun v' h'=>v'=.func (.func 13) #[] #[.pointer (some ⟨h.size,0,none⟩)]∧h'=h.push (.cells [Value.string s].toArray 9):=by
 refine Zf.WT [_] Tryd.func7 ?_
 simp -implicitDefEqProofs only[go_sem,↓reduceIte]
 first|done|rfl|exact⟨rfl,rfl⟩
set_option maxHeartbeats 8000000 in
theorem MI (T:World) (h:Hp) (s:ByteArray) (tw:Words h) (tp:X0 h) (hm:WL h) (h1:Jy 2 h) (h2:Jy 3 h) :
  Zf Tryd.prog T 4 #[.string s] h fun v' h'=>Lc (if 4000000<s.size then ([],0,1) else Ya (bl s) [] []) h' v'∧Zj h.size h h':=by
 refine Zf.IX (args:=#[_]) Tryd.func4 rfl rfl ?_
 refine VF.seq rfl (ZS _ _ _ _ _ _ rfl ?_)
 by_cases S8:4000000<s.size
 ·have J6:(4000000:Int)<s.size:=by omega
  rw[if_pos S8]
  simp -implicitDefEqProofs only[go_sem,↓reduceIte,J6]
  refine VF.seq rfl (ZS _ _ _ _ _ _ rfl ?_)
  simp -implicitDefEqProofs only[go_sem,↓reduceIte,J6]
  exact⟨⟨_,[],rfl,rfl,YM,fun y hy=>by cases hy⟩,(((Zj.refl _ _).add _).Uc (by simp) _).Uc (by simp;omega) _⟩
 have J6:¬(4000000:Int)<s.size:=by omega
 rw[if_neg S8]
 obtain⟨ha,Pr⟩:=ZE (((h.push (.cells [.slice none 0 0].toArray 22)).push (.cells [.int .i64 0].toArray 3)).push (.cells [.int .i64 0].toArray 23):Hp)
 have ea:=Pr.symm
 obtain⟨n0,Pb⟩:∃n,n=h.size:=⟨_,rfl⟩
 have sa:ha.size=n0+3:=by rw[Pr,Pb];simp
 have ba:Zj h.size h ha:=by rw[Pr];exact (((Zj.refl _ _).add _).Uc (by simp) _).Uc (by simp;omega) _
 simp -implicitDefEqProofs only[go_sem,↓reduceIte,J6,←Pb]
 refine VF.seq rfl (ZS _ _ _ _ _ _ rfl ?_)
 simp -implicitDefEqProofs only[go_sem,↓reduceIte,J6]
 refine VF.seq rfl (ZS _ _ _ _ _ _ rfl ?_)
 simp -implicitDefEqProofs only[go_sem,↓reduceIte]
 refine VF.range rfl rfl (ZS _ _ _ _ _ _ rfl ?_)
 simp -implicitDefEqProofs only[go_sem,↓reduceIte]
 refine (Pf T _ s).use ?_
 rintro _ h5 ⟨rfl,El⟩
 have sh:h.size=n0:=Pb.symm
 rw[show (((((h.push (.cells [Value.slice none 0 0].toArray 22)).push (.cells [Value.int .i64 0].toArray 3)).push (.cells [Value.int .i64 0].toArray 23)).push (.cells [Value.slice none 0 0].toArray 22)).size)=n0+4 by simp[sh]]
 have s5:h5.size=n0+5:=by rw[El];simp[sh]
 simp -implicitDefEqProofs only[go_sem,↓reduceIte]
 refine⟨13,#[.pointer (some ⟨n0+4,0,none⟩)],rfl,fun _ _=>rfl,?_⟩
 intro rec q1 q2 q3 q4 q5 q6 q7
 rw[s5]
 obtain⟨H,hH⟩:=ZE ((h5.push (.deferred (some []))).push (.loop rec):Hp)
 have sH:H.size=n0+7:=by rw[hH];simp[s5]
 rw[←hH]
 have Hs:∀b,b<n0+5→H[b]? = h5[b]?:=fun b hb=>by rw[hH,Zm (by simp;omega),Zm (by omega)]
 have Aa:H[n0+4]? = some (.cells [Value.string s].toArray 9)∧H[n0+3]? = some (.cells [Value.slice none 0 0].toArray 22)∧H[n0+2]? = some (.cells [Value.int .i64 0].toArray 23)∧H[n0+1]? = some (.cells [Value.int .i64 0].toArray 3)∧H[n0]? = some (.cells [Value.slice none 0 0].toArray 22):=by
  have gp:∀(a:Hp) (x:Obj) (k:Nat),a.size=k→(a.push x)[k]? = some x:=fun a x k e=>by rw[←e];exact Zn
  refine⟨?_,?_,?_,?_,?_⟩<;>rw[Hs _ (by omega),El]
  ·exact gp _ _ _ (by simp[sh])
  ·rw[Zm (by simp;omega)];exact gp _ _ _ (by simp[sh])
  ·rw[Zm (by simp;omega),Zm (by simp;omega)];exact gp _ _ _ (by simp[sh])
  ·rw[Zm (by simp;omega),Zm (by simp;omega),Zm (by simp;omega)];exact gp _ _ _ (by simp[sh])
  ·rw[Zm (by simp;omega),Zm (by simp;omega),Zm (by simp;omega),Zm (by simp;omega)];exact gp _ _ _ sh
 obtain⟨H4,H3,H2,H1,H0⟩:=Aa
 have HD:H[n0+5]? = some (.deferred (some [])):=by rw[hH,Zm (by simp;omega),←s5];exact Zn
 have HL:H[n0+6]? = some (.loop rec):=by
  rw[hH]
  have:(h5.push (.deferred (some []))).size=n0+6:=by simp[s5]
  rw[←this];exact Zn
 have bH:Zj n0 h H:=⟨by omega,fun b hb=>by
  rw[Hs b (by omega),El,Zm (by simp;omega),Zm (by simp;omega),Zm (by simp;omega),Zm (by simp;omega),Zm (by omega)]⟩
 have dm:LP (o0 n0) H:=fun b hb=>Nl n0 b (.inr (by omega))
 obtain⟨DP,DQ,DR,Ec,Ed,Ee,Ef⟩:=Lh n0
 refine (OL T H (n0+6) (n0+4) s (RJ H n0 rec (Ya (bl s) [] [])) (RX h n0 rec (Ya (bl s) [] [])) (by omega) ?_ ?_ ?_).use ?_
 ·rintro r g ⟨o,ys,v,_,_,_,_,bx,_⟩;exact bx
 ·intro r g j hp
  exact No T h H n0 rec (Ya (bl s) [] []) r g _ (by rw[q4];rfl) (by rw[q5];rfl) sh sH bH tw tp hm h1 h2 H0 H1 H2 HD rfl rfl rfl (by simp[Zl,Jo,sh]) q1 q2 q3 q6 q7 j hp
 ·exact⟨o0 n0,[],.slice none 0 0,Kp.refl dm _,DP,DQ,DR,H4,H3,HL,XX.nil _ _ _ _ _,fun y hy=>by (cases hy),Nat.zero_le _,rfl,by omega⟩
 ·rintro _ h' (hj|hx)
  ·obtain⟨o,ys,v,K,t4,t3,t6,bx,y3,y6,O,I,GG,QD,Pm⟩:=hj
   have low:∀b x,H[b]? = some x→o0 n0 b=some (.YK 104)→h'[b]? = some x∧o b=some (.YK 104):=fun b x hx ho=>by
    have hn:∀t,o0 n0 b=some t→¬S4 t:=fun t ht=>by rw[ho]at ht;cases ht;exact Nn
    exact⟨K.get hx hn,by rw[K.ZJ hx hn,ho]⟩
   obtain⟨y0,p0⟩:=low _ _ H0 Ec
   obtain⟨y1,p1⟩:=low _ _ H1 Ed
   obtain⟨y2,p2⟩:=low _ _ H2 Ee
   obtain⟨yD,pD⟩:=low _ _ HD Ef
   have hz:Ya (bl (⟨#[]⟩:ByteArray)) [] (Xa ys)=(Xa ys,0,0):=rfl
   rw[hz]at QD
   rw[QD]
   refine⟨rec,y6,(by rw[q1];intro q;cases q),yD,.inl ⟨q2,?_⟩⟩
   obtain⟨pv,cv,rfl,_⟩:=O.J0
   obtain⟨g1,UB⟩:=ZE (h'.setIfInBounds (n0+5+1) (.loop { rec with state:=.exhausted }))
   rw[←UB]
   have k1:Kp (fun t=>t=.YK 103∨t=.YK 104) o h' o g1:=by rw[UB];exact (Kp.refl K.UP (fun t=>t=Tg.YK 103∨t=Tg.YK 104)).set t6 (.inl rfl) _
   have z0:g1[n0]? = some (.cells [.slice none 0 0].toArray 22):=by rw[UB,Zd (by omega)];exact y0
   have z1:g1[n0+1]? = some (.cells [.int .i64 0].toArray 3):=by rw[UB,Zd (by omega)];exact y1
   have z2:g1[n0+2]? = some (.cells [.int .i64 0].toArray 23):=by rw[UB,Zd (by omega)];exact y2
   have z3:g1[n0+3]? = some (.cells [.slice pv ys.length cv].toArray 22):=by rw[UB,Zd (by omega)];exact y3
   have zD:g1[n0+5]? = some (.deferred (some [])):=by rw[UB,Zd (by omega)];exact yD
   have c3:Go.V.hc g1 ⟨n0+3,0,none⟩=some (.slice pv ys.length cv):=Zs z3
   obtain⟨g2,YV⟩:=ZE (g1.setIfInBounds n0 (.cells [.slice pv ys.length cv].toArray 22))
   have w0:XN g1 ⟨n0,0,none⟩ (.slice pv ys.length cv)=some g2:=by rw[ZA z0 0 _,if_pos ⟨by simp,rfl⟩,YV];rfl
   have Em:g2[n0+1]? = some (.cells [.int .i64 0].toArray 3):=by rw[YV,Zd (by omega)];exact z1
   have Ab:g2[n0+2]? = some (.cells [.int .i64 0].toArray 23):=by rw[YV,Zd (by omega)];exact z2
   have w1:XN g2 ⟨n0+1,0,none⟩ (.int .i64 0)=some (g2.setIfInBounds (n0+1) (.cells [.int .i64 0].toArray 3)):=by rw[ZA Em 0 _,if_pos ⟨by simp,rfl⟩];rfl
   obtain⟨g3,Nw⟩:=ZE (g2.setIfInBounds (n0+1) (.cells [.int .i64 0].toArray 3))
   rw[←Nw]at w1
   have Km:g3[n0+2]? = some (.cells [.int .i64 0].toArray 23):=by rw[Nw,Zd (by omega)];exact Ab
   have w2:XN g3 ⟨n0+2,0,none⟩ (.int .i64 0)=some (g3.setIfInBounds (n0+2) (.cells [.int .i64 0].toArray 23)):=by rw[ZA Km 0 _,if_pos ⟨by simp,rfl⟩];rfl
   obtain⟨g4,Nz⟩:=ZE (g3.setIfInBounds (n0+2) (.cells [.int .i64 0].toArray 23))
   rw[←Nz]at w2
   have k4:Kp (fun t=>t=.YK 103∨t=.YK 104) o h' o g4:=by rw[Nz,Nw,YV];exact ((k1.set p0 (.inr rfl) _).set p1 (.inr rfl) _).set p2 (.inr rfl) _
   have k5:=k4.set pD (.inr rfl) (.deferred none)
   have m0:=Zb z0
   have m1:=Zb Em
   have m2:=Zb Km
   have m3:=Zb z3
   have x0:(g4.setIfInBounds (n0+5) (.deferred none))[n0]? = some (.cells [.slice pv ys.length cv].toArray 22):=by rw[Zd (by omega),Nz,Zd (by omega),Nw,Zd (by omega),YV];exact ZO z0
   have x1:(g4.setIfInBounds (n0+5) (.deferred none))[n0+1]? = some (.cells [.int .i64 0].toArray 3):=by rw[Zd (by omega),Nz,Zd (by omega),Nw];exact ZO Em
   have x2:(g4.setIfInBounds (n0+5) (.deferred none))[n0+2]? = some (.cells [.int .i64 0].toArray 23):=by rw[Zd (by omega),Nz];exact ZO Km
   have xD:g4[n0+5]? = some (.deferred (some [])):=by rw[Nz,Zd (by omega),Nw,Zd (by omega),YV,Zd (by omega)];exact zD
   have h0:=Zs x0 (o:=0)
   have En:=Zs x1 (o:=0)
   have Eo:=Zs x2 (o:=0)
   refine Z8 _ _ _ ?_
   simp -implicitDefEqProofs only[go_sem,↓reduceIte,sh,c3,w0,w1,w2,m0,m1,m2,m3,h0,En,Eo]
   refine⟨xD,⟨_,ys,rfl,rfl,⟨((O.ZM k5 (by rintro (q|q)<;>cases q)).sl)⟩,fun y hy=>((I y hy).ZM k5).bs⟩,?_⟩
   have hk:=k5.size
   refine⟨by have:=K.size;omega,fun b hb=>?_⟩
   have e1:o0 n0 b=none:=Nl n0 b (.inl hb)
   have n1:∀t,o0 n0 b=some t→¬S4 t:=fun t ht=>by rw[e1]at ht;cases ht
   obtain⟨e2,e3⟩:=K.ZM b (by omega) n1
   have e4:=(k5.ZM b (by have:=K.size;omega) (fun t ht=>by rw[e3,e1]at ht;cases ht)).1
   rw[e4,e2]
   exact bH.block b hb
  ·obtain⟨x6,x5,x0,i,e,x1,x2,QD,bx⟩:=hx
   refine⟨_,x6,by (intro q;cases q),x5,.inr ⟨rfl,?_⟩⟩
   obtain⟨g2,YV⟩:=ZE ((h'.setIfInBounds (n0+5+1) (.loop { rec with state:=.exhausted,pending:=some .ret })).setIfInBounds (n0+5) (.deferred none))
   have z0:g2[n0]? = some (.cells [.slice none 0 0].toArray 22):=by rw[YV,Zd (by omega),Zd (by omega)];exact x0
   have z1:g2[n0+1]? = some (.cells [.int .i64 i].toArray 3):=by rw[YV,Zd (by omega),Zd (by omega)];exact x1
   have z2:g2[n0+2]? = some (.cells [.int .i64 e].toArray 23):=by rw[YV,Zd (by omega),Zd (by omega)];exact x2
   have bg:Zj n0 h g2:=by rw[YV];exact⟨by simp only[Array.size_setIfInBounds];exact bx.size,fun b hb=>by rw[Zd (by omega),Zd (by omega)];exact bx.block b hb⟩
   show Y0 _ _ _ _ ((h'.setIfInBounds (n0+5+1) (.loop { rec with state:=.exhausted,pending:=some .ret })).setIfInBounds (n0+5) (.deferred none))
   rw[←YV,QD]
   have h0:=Zs z0 (o:=0)
   have En:=Zs z1 (o:=0)
   have Eo:=Zs z2 (o:=0)
   refine Xl (P:=Tryd.prog) _ _ ?_
   simp -implicitDefEqProofs only[go_sem,↓reduceIte,h0,En,Eo]
   exact⟨⟨_,[],rfl,rfl,YM,fun y hy=>by cases hy⟩,bg⟩
theorem Hz:Tryd.prog.globalNamed "internal/strconv.uint64pow10" = some 4:=by kernel_rfl
theorem HA:(Tryd.prog.globals[4]?).map (·.type)=some 101:=by kernel_rfl
theorem MJ:(Rows.laid_internal_strconv_uint64pow10:DataW Unit)=Lib.tabData .u64 Lib.pow10Tab:=by kernel_rfl
theorem Kn {W:World} (h:laidMetH Tryd.prog Rows.linesReadsRow.laid W):X0 W.heap:=by
 rw[Go.MakeChecks.laidMetH_plain _ _ _ (by kernel_rfl)]at h
 have h2:=h.filter (fun x=>x.1 == "internal/strconv.uint64pow10")
 have e:(Rows.linesReadsRow.laid.filter fun x=>x.1 == "internal/strconv.uint64pow10")=[("internal/strconv.uint64pow10", Lib.tabData .u64 Lib.pow10Tab)]:=by
  rw[←MJ];rfl
 rw[e]at h2
 have h3:=Lib.tabIs_of_head (rest:=[]) Hz HA Tryd.underlying101 Tryd.underlying83 (by kernel_rfl) (by kernel_rfl) h2
 unfold Lib.TabIs World.var? at h3
 rw[Hz,Option.bind_some]at h3
 unfold X0
 split at h3
 ·rename_i cs t fr hb
  exact⟨t,fr,by rw[hb];simp only[Option.some.injEq]at h3;rw[h3]⟩
 ·cases h3
theorem UW {H:Type} {enc:TypeId × Value→H} {P:Program} {w:World} {base:Nat} {sp:Nat→Bool} {held:Bool} {fuel:Nat} {t e:TypeId} {n:Nat} {cs:List Value} {zs:List (List UInt8)} {p:List MemPlace}
  (ht:P.underlying t=some (.array n e)) (he:P.underlying e=some .string) (SI:P.cellsOf e=1) (Ac:P.cellsOf t=n)
  (h:DataW.trod enc P w base sp held fuel t cs=some (.agg (zs.map fun z=>.lit (.string z)),p)):cs=zs.map fun z=>Value.string ⟨z.toArray⟩:=by
 cases fuel with
 | zero=>simp[DataW.trod]at h
 | succ fuel=>
  simp only[DataW.trod,ht,SI,Ac,Nat.mul_one]at h
  split at h
  ·rename_i hl
   obtain⟨xs,hm,hx⟩:=Option.map_eq_some_iff.1 h
   have Na:xs.map (·.1)=zs.map fun z=>(DataW.lit (.string z):DataW H):=by
    have:=congrArg Prod.fst hx
    simpa using this
   have Bj:xs.length=n:=by simpa using Lib.mapM_length hm
   have S2:zs.length=n:=by
    have:=congrArg List.length Na
    simp at this
    omega
   apply List.ext_getElem?
   intro i
   by_cases hi:i<n
   ·obtain⟨b,hb,hf⟩:=Lib.mapM_at hm i i (by simp[hi])
    obtain⟨z,hc,rfl,_⟩:=DataW.trod_string he hf
    have h1:cs[i]? = some (.string z):=by
     have:=congrArg (·[0]?) hc
     simpa [List.getElem?_take,List.getElem?_drop] using this
    have h2:(xs.map (·.1))[i]? = some (DataW.lit (.string z.data.toList):DataW H):=by simp[hb]
    rw[Na]at h2
    simp only[List.getElem?_map,Option.map_eq_some_iff,DataW.lit.injEq,Lit.string.injEq]at h2
    obtain⟨z',KW,h3⟩:=h2
    rw[h1,List.getElem?_map,KW,Option.map_some,h3]
   ·rw[List.getElem?_eq_none (by omega),List.getElem?_eq_none (by simp;omega)]
  ·cases h
theorem HE:Tryd.prog.globalNamed "conclave/lines.words" = some 0:=by kernel_rfl
theorem HF:(Tryd.prog.globals[0]?).map (·.type)=some 42:=by kernel_rfl
theorem MK:(Rows.laid_conclave_lines_words:DataW Unit)=.agg ((Xr.map fun l=>l.map UInt8.ofNat).map fun z=>.lit (.string z)):=by rfl
theorem Ko {W:World} (h:laidMetH Tryd.prog Rows.linesReadsRow.laid W):Words W.heap:=by
 rw[Go.MakeChecks.laidMetH_plain _ _ _ (by kernel_rfl)]at h
 have h2:=h.filter (fun x=>x.1 == "conclave/lines.words")
 have e:(Rows.linesReadsRow.laid.filter fun x=>x.1 == "conclave/lines.words")=[("conclave/lines.words", .agg ((Xr.map fun l=>l.map UInt8.ofNat).map fun z=>.lit (.string z)))]:=by
  rw[←MK];rfl
 rw[e]at h2
 obtain⟨ps,⟨g',t',cs,fuel,p,q,IY,Ep,Qn,hd,_,_⟩,_⟩:=h2
 obtain rfl:=Option.some.inj (HE.symm.trans IY)
 obtain rfl:=Option.some.inj (HF.symm.trans Ep)
 have Xc:=UW Tryd.underlying42 Tryd.underlying9 (by kernel_rfl) (by kernel_rfl) hd
 unfold World.var? at Qn
 rw[HE,Option.bind_some]at Qn
 split at Qn
 ·rename_i c2 t2 fr hb
  have HG:c2.toList=cs.toList:=by simp only[Option.some.injEq]at Qn;rw[Qn]
  rw[Xc]at HG
  refine⟨Zb hb,fun k hk=>?_⟩
  rw[Yy hb]
  have h5:c2[k]? = (c2.toList)[k]?:=by simp
  rw[h5,HG]
  have h9:k<Xr.length:=hk
  simp[WN,List.getD_eq_getElem?_getD,List.getElem?_eq_getElem h9]
 ·cases Qn
end Go.Proofs.YtdpjmhgbmhjniaaDoor
