import Derived.Test.YtkhkmpfenaipaaaGreatDoorTga
import Derived.Test.YtkhkmpfenaipaaaGreatDoorTef
import Derived.Test.YtkhkmpfenaipaaaGreatDoorTym
import Derived.Test.YtkhkmpfenaipaaaGreatDoorTxc
import Derived.Test.YtkhkmpfenaipaaaGreatDoorTab
import Derived.LaidSub
open Go.Value renaming int→aS,slice→bo
open Go.IntKind renaming i64→aH
open Go.Obj renaming cells→bp
open Go.Proofs.Tryz renaming underlying3→bh,prog→bS
open List renaming length→aw,mem_append→a5,length_map→a6,range→ba,length_append→bc,take_append_drop→bd,mem_map→bf,getElem?_eq_getElem→bl,nodup_cons→bn,toArray→bq,mem_iff_getElem?→br,mem_range→bA,getElem?_eq_some_iff→bE,append_assoc→bG,length_cons→bR,map_append→bT,countP_le_length→bW,mem_of_mem_take→bY,countP_pos_iff→b0,countP_append→cd,mem_singleton→cg,foldl_append→cn,getElem_mem→co,append_nil→cq,mem_cons→cv
open Nat renaming le_trans→a8,zero_le→a9,le_refl→bb,mul_le_mul_left→bw,lt_of_le_of_lt→cf
open Option renaming some→aL,none→a7
open Bool renaming decide_and→cu
open Classical renaming byContradiction→aW
open Go renaming Value→bK
namespace Go.Proofs.YtkhkmpfenaipaaaGreatDoor
open Go Go.V
set_option linter.all false
section
variable {S:Cm->Prop} {C Cs:List Cm} {F F1:Nat->Prop} {b β d:ZN} {h H L L' X Y T N N2 p p0 p1 l t a:Nat} {w w1 w2:Nat->Wd} {g g1 g2:Nat->Gh} {M M1 M2:Nat->Nat->ZN} {Kb Kv Ks Ko:List (ZN × Int)} {e e1:Nat->Nat} {v v1:Vw} {u:Wd}
def AY(b:ZN)(G:Nat):List (ZN × Int):=(b,-1) :: (ba G).map fun s:Nat=>(b,(s:Int))
def zr(b:ZN)(G:Nat):(AY b G).length=G+1:=by unfold AY;simp
namespace Md
variable (W:Md S C Cs F b L' L p0 N N2 e w1 w2 g1 g2 M1 M2)
include W
def ZeG{β':ZN}{Z:List Nat}(live:∀X,X<5->∀r,((w2 N2).Za X).Zc=aL r->¬Zj β' r.b\/Zj r.b ((w2 N2).Za X).Zn.p)(B:β'=Y2\/Zv β')(K:1<=N)(j:Z.Nodup)(A:(aw Z)<=2)(o:∀X∈Z,X<5)(out:∀X,X<5->X ∉ Z->¬jR w2 N2 X/\(Zj β' ((w2 N2).Za X).Zn.p\/β'=Y2))(P:Zv (Yl ((w1 N).Za L)))(low:¬Zj β' ((w2 N2).Za L).Zn.p)(O:H<5)(D:H≠L):
  ∃Y,Y<5/\Y≠L/\∀X,X<5->X≠L->X≠Y->¬jR w1 N X:=by
 have i:β'≠Y2:=fun e=>by
  refine low ?_;have E:Zj β' (Yl ((w1 N).Za L)):=by rw[e];exact da P
  have:=W.AX live L W.hL 0 (a9 _) ⟨Yl ((w1 N).Za L),[],false,[],[]⟩ (by rw[W.link,XT,if_pos rfl];rfl) E;exact Lb E this
 have q:∀X,X<5->X ∉ Z->¬jR w1 N X:=fun X f J=>W.ez2 K B live f ((out X f J).2.resolve_right i);have c:L∈Z:=aW fun z=>low ((out L W.hL z).2.resolve_right i)
 match Z,j,A,o,q,c with
 | [],_,_,_,_,c=>cases c
 | [x],_,_,_,q,c=>
  have e:L=x:=by simpa using c
  exact⟨H,O,D,fun X f I G=>q X f Fo⟩
 | [x,y],j,_,o,q,c=>
  have Q:x≠y:=by
   rw[bn]at j;exact fun e=>j.1 (by rw[e];simp)
  rcases cv.1 c with e|e
  .exact⟨y,o y zX,uh,fun X f I G=>q X f Fo⟩
  .have e:L=y:=by simpa using e
   exact⟨x,o x zX,uh,fun X f I G=>q X f Fo⟩
 | _ :: _ :: _ :: _,_,A,_,_,_=>simp at A
theorem Zmg(I1:Inc l N w1 g1)(I2:Inc l N2 w2 g2)(B:Bud v Cs p0 N N2)(BN:1<=(Yl ((w1 N).Za L)).r/\(Yl ((w1 N).Za L)).r<=65536)(hb:Zv β)(P:PW C β 7 (w1 0))(V:H<5)(a1:H≠L)(ae:((w1 0).Za H).Zc=a7)(c4:¬Zj ((w1 0).Za H).Zn.p β)(O:One v v1 Cs F1 p0 p1 e1 (w1 1))(hK:β∈v1.K)(l1:∀r,((w1 0).Za L).Zc=aL r->r.b∈v1.K/\r.b ∉ v1.B/\r.b.n=L)(c6:∀t,1<=t->t<=N->∀X,X<5->∀u,u<((w1 t).Za X).ZF.length->F1 u)(Fy:¬Zj β (Yl ((w1 N).Za L)))(de:OY w1 N+OY w2 N2+19<=N+N2):False:=by
 classical
 have R:=W.R1.with hb P
 have hL:=W.hL;have dj:(Yl ((w1 N).Za L)).n=L:=by show (((w1 N).Za L).me:Int)=L;rw[((W.R1.at N).nd L hL).ni.me]
 have gH:Zv (Yl ((w1 N).Za L)):=⟨⟨uh,uh⟩,uh⟩
 have up:∀t,¬Zj ((w1 t).Za H).Zn.p β:=fun t=>R.Vs V (t0:=0) c4 t (a9 _);have b1:∀t,t<=N->((w1 t).Za H).ZF.length<40:=fun t E=>by
  have:=I1.lg t E H V;have:=I1.l40;omega
 have deaf:Zj ((w1 N).Za L).Yy β:=aW fun q=>Fy (qm q);have c1:N<=OY w1 N+6:=aW fun q=>R.qj V hL (Ne.symm a1) (fun t _=>up t) ae b1 uh deaf;have hN:1<=N:=by have:=B.n;omega
 rcases W.R2.two with⟨h,hh,r,hr,hd,Q,hQ,q⟩|⟨β',Z,live,b3,nZ,lZ,h5,out⟩
 .have:=W.R2.ua W.hS I2 hQ hh hr hd q;omega
 let⟨G,hG⟩:=ZO (min 40 (p0+(aw Cs)*(Bd (w1 0)+1)));have c5:G<=min 40 (p0+(aw Cs)*5):=by
  have:=bw (aw Cs) (ZeF hL V a1 W.qg.has ae);omega
 let⟨rL,c0⟩:=W.qg.has;let⟨z1,z2,z3⟩:=l1 rL c0;have bt:∀t X,X<5->∀r,((w1 t).Za X).Zc=aL r->Zj r.b β:=fun t X A r hr=>((R.at t).nd X A).Rd uh r hr;have num:=fun x q SUM hx f hK hS=>O.num B (x:=x) (q:=q) (G:=G) (SUM:=SUM) hx f hK hS c5;have nl:(rL.b :: v1.B).Nodup:=bn.2 ⟨z2,O.nB⟩;have sl:∀y∈rL.b :: v1.B,y∈v1.K:=fun y hy=>by
  grind [One.bk]
 have cr:β≠rL.b:=fun q=>Yv β zK
 have b8:∀t,1<=t->t<N->∀m∈Qw (w1 t),Rq m->(Jw m).1≠β:=fun t I E m j f=>by
  rcases JI.1 j with z|⟨i,hi,z⟩
  .obtain⟨s,rfl⟩:∃s,t=s+1:=⟨t-1,uh⟩
   rw[W.R1.WM s]at z;cases z
  grind [XP.Z8,N9]
 let⟨Ka,cP,cO,cN⟩:=jQ v1 (aw Cs);have b7:∀X,X<5->∀l∈((w1 1).Za X).Zd,Rq l->Jw l∈Ka:=fun X A l U f=>by
  grind [One.box,Rq,Lc,ON]
 let⟨x,hx⟩:=ZO (if β∈v1.B then 0 else 1);have WH:x<=1:=by rw[hx];split<;>omega
 have ca:v1.B.length+1+(0+x)<=v1.K.length:=by
  by_cases c:β∈v1.B
  .rw[if_pos c]at hx;have:=YS nl sl
   grind
  .rw[if_neg c]at hx;have:=YS (l:=β :: rL.b :: v1.B) (C:=v1.K) (bn.2 ⟨fun q=>by
    grind,nl⟩) fun y hy=>by
     grind
   grind
 let⟨_,cc,ng⟩:=num x 0 _ WH (a9 _) ca rfl;have b5:2*(aw Ka)+5<=N:=uh;have low:=W.low hN b3 live (b7 L hL) b5;let⟨Y,hY,cT,quiet⟩:=W.ZeG live b3 hN nZ lZ h5 out gH low V a1;have c7:∀l∈((w1 1).Za L).Zd,Rq l->(Jw l).1≠β:=fun l U f e=>by
  have:=R.Ziq hL (fun t E l U=>W.ok1 t E L hL l (a5.2 (.inl U))) b8 (b7 L hL) b5 U f e;refine Fy (.inl ?_);unfold Zj at this;unfold Yl;simp only;split<;>omega
 have aV:∀t,1<=t->t<N->∀m∈Qw (w1 t),Rq m->∃X,X<5/\(X=L\/X=Y)/\m∈(step ((w1 t).Za X)).ls:=fun t I E m j f=>by
  rcases JI.1 j with z|⟨i,hi,z⟩
  .obtain⟨s,rfl⟩:∃s,t=s+1:=⟨t-1,uh⟩
   rw[W.R1.WM s]at z;cases z
  .refine⟨i,hi,?_,z⟩;refine aW fun q=>?_;exact quiet i hi (fun e=>q (.inl e)) (fun e=>q (.inr e)) ⟨t,I,E,m,z,f⟩
 obtain⟨ob,cS⟩:∃ob:Nat->ZN,ob=fun X=>match ((w1 1).Za X).Zc with|some r=>r.b|none=>Y2:=⟨_,rfl⟩
 have aX:∀X,X<5->∀t r,1<=t->((w1 t).Za X).Zc=aL r->r.b=ob X/\∃r1,((w1 1).Za X).Zc=aL r1/\r1.b=ob X:=fun X A t r E hr=>by
  let⟨r0,y1,y2⟩:=W.R1.Qn A t r hr 1 E
  grind [Yw.b]
 have s1:∀t,Go.Proofs.YtkhkmpfenaipaaaGreatDoor.sh w1 1 t=w1 (t+1):=fun t=>by grind [sh]
 have Rs:=W.R1.sh (a:=1) hN;let⟨D,d1,d2⟩:=Rs.ZeD (Y:=Y) (e:=e1) (F:=F1) (p:=p1) W.OX (fun t E X A u hu=>c6 (t+1) uh uh X A u zK) O.hF (by rw[s1];exact O.gw) hY (fun r hr QW=>O.beg Y hY r zK QW);rw[s1]at d1;let⟨q,f⟩:=ZO (if ∃r,((w1 (0+1)).Za Y).Zc=aL r/\r.a=false then 1 else 0);have c2:q<=1:=by rw[f];split<;>omega
 have d1:(aw D)<=p1+(if q=1 then (aw Cs) else 0):=by
  by_cases c:∃r,((w1 (0+1)).Za Y).Zc=aL r/\r.a=false
  .grind
  .rw[if_neg c]at f d1
   grind
 have c9:v1.B.length+1+(q+x)<=v1.K.length:=by
  by_cases c:∃r,((w1 (0+1)).Za Y).Zc=aL r/\r.a=false
  .rw[if_pos c]at f;let⟨rY,y1,y2⟩:=c;let⟨k1,J,k3⟩:=O.rk Y hY rY y1;have ck:rY.b≠rL.b:=fun q=>by grind
   have ct:β≠rY.b:=fun q=>Yv β zK;have n2:(rY.b :: rL.b :: v1.B).Nodup:=bn.2 ⟨fun q=>by
    grind,nl⟩
   have b9:∀y∈rY.b :: rL.b :: v1.B,y∈v1.K:=fun y hy=>by
    grind
   by_cases c:β∈v1.B
   .rw[if_pos c]at hx;have:=YS n2 b9;simp only[bR]at this;omega
   .rw[if_neg c]at hx;have:=YS (l:=β :: rY.b :: rL.b :: v1.B) (C:=v1.K) (bn.2 ⟨fun q=>by
     grind,n2⟩) fun y hy=>by
      grind
    simp only[bR]at this;omega
  .rw[if_neg c]at f;omega
 let⟨Kc,b2,bN,cA⟩:=Zio v1 (aw Cs) β hK;let⟨n3,_,n2⟩:=num x q _ WH c2 c9 rfl;have cz:(aw Kc)+1<=v1.K.length+(if x=0 then ((ba (v1.B.length-1)).map fun i=>Ur v1 (aw Cs) (i+1)).sum else ((ba v1.B.length).map (Ur v1 (aw Cs))).sum):=by
  by_cases c:β∈v1.B
  .grind
  .rw[if_neg c]at hx b2;rw[if_neg uh];exact b2
 obtain⟨Kv,a4⟩:∃Kv,Kv=Kc++D.map fun s:Nat=>(ob Y,(s:Int)):=⟨_,rfl⟩
 have cw:(aw Kv)=(aw Kc)+(aw D):=by rw[a4];simp
 obtain⟨Kb,b4⟩:∃Kb:List (ZN × Int),Kb=(ba p1).map fun s:Nat=>(β,(s:Int)):=⟨_,rfl⟩
 have cB:(aw Kb)=p1:=by rw[b4];simp
 let⟨Ks,hKs⟩:=ZO (AY (ob L) G++AY (ob Y) G);have cx:(aw Ks)=2*(G+1):=by rw[hKs];simp only[bc,zr];omega
 have c8:2*(aw Kv)+4<=N:=uh;refine R.ZrA (Kb:=Kb) (Kv:=Kv) (Ks:=Ks) V hL (Ne.symm a1) (fun t _=>up t) ae b1 (fun t I E=>?_) (fun t I E qw=>?_) (fun t E r hr=>?_) (fun s t I jW E hf=>?_) uh uh c8 uh deaf
 ·-- GC dead ZrJ ZM
  have st:∀l∈((w1 t).Za H).Zd,(Rq l->(Jw l).1=β->l∈((w1 1).Za H).Zd):=R.boxes (a:=t) V (Z:=fun l=>Rq l->(Jw l).1=β->l∈((w1 1).Za H).Zd) (t0:=1) (fun l U _ _=>U) (fun o I h2 m j f e=>absurd e (b8 o I uh m j f)) t I (bb _);intro m j f a2;have ax:=(R.at t).JC H V m j;have Vo:¬Zj (Xa ((w1 t).Za H)).p β:=Xh (up t) (Zeh ((R.at t).nd H V));rcases f with k0|J
  .rw[Lc k0]at a2;exact absurd (Wf Vo (a2.1 rfl)) (fun z=>ax.QB k0 z)
  .have hs:=ax.li.Zx;have b6:=a2;rw[ON J]at b6;have u1:=(b6.2 zK).1;have eb:m.v.b=β:=UW (fun z=>u1 (VY z Vo)) (ax.ask J);have sy:=st m j (.inr J) (by rw[ON J];exact eb);let⟨_,_,_,_,q⟩:=cY ((O.box H V m sy).2 J);rw[b4,ON J,eb];exact bf.2 ⟨m.v.Zx.toNat,bA.2 (by rw[O.p];omega),by rw[show ((m.v.Zx.toNat:Nat):Int)=m.v.Zx by omega]⟩
 ·-- GC asked ZBg,while it is busy
  have st:∀l∈((w1 t).Za L).Zd,(Rq l->Jw l∈Kv):=R.boxes (a:=t) hL (Z:=fun l=>Rq l->Jw l∈Kv) (t0:=1) (fun l U f=>?_) (fun o I h2 m j f=>?_) t I (bb _)
  .exact fun m j f _=>st m j f
  .have XU:=c7 l U f;let⟨q1,q2⟩:=O.box L hL l U;rw[a4];refine a5.2 (.inl ?_);rcases f with k0|J
   .rw[Lc k0]at XU ⊢;grind
   .rw[ON J]at XU ⊢;grind
  .let⟨X,A,a3,LS⟩:=aV o I uh m j f;let⟨hf,r,hr,_,K⟩:=W.R1.Z8 uh A LS f;rcases a3 with e|e
   .rw[e]at hf;exact absurd hf (qw o I h2)
   .rw[e]at hr K;let⟨o1,r1,o2,o3⟩:=aX Y hY o r I hr;rw[a4];rcases K with K|⟨s,K,r',Mv,hs⟩
    .rw[K];refine a5.2 (.inl (bN _ ?_ (N9 (bt o Y hY r hr))));rw[o1,<-o3];exact (O.rk Y hY r1 o2).1
    .rw[K,o1];refine a5.2 (.inr (bf.2 ⟨s,?_,rfl⟩));refine d2 (t-1) uh (fun t3 cR X A c3 m3 a0 J=>?_) o uh r' (by rw[s1];exact Mv) s hs;rw[s1]at a0;by_cases c:X=L
     .rw[c]at a0;exact qw (t3+1) uh uh (W.R1.Z8 uh hL a0 (.inr J)).1
     .exact quiet X A c c3 ⟨t3+1,uh,uh,m3,a0,.inr J⟩
 ·-- its Zn Zc
  let⟨r0,y1,y2⟩:=W.R1.Qn hL t r hr 0 (a9 _)
  grind [Yw.b]
 ·-- once it was free
  have Z8:∀o,s<=o->o<t->∀m∈Qw (w1 o),Rq m->Jw m∈Ks:=fun o h2 h3 m j f=>by
   let⟨X,A,a3,LS⟩:=aV o uh uh m j f;let⟨_,r,hr,_,K⟩:=W.R1.Z8 uh A LS f;have o1:=(aX X A o r uh hr).1;have:Jw m∈AY (ob X) G:=by
    rcases K with K|⟨s',K,r',Mv,hs⟩
    .rw[K,o1];unfold AY;simp
    .rw[K,o1];exact List.mem_cons_of_mem _ (bf.2 ⟨s',bA.2 (W.Zjz hG uh A Mv hs).1,rfl⟩)
   rw[hKs];rcases a3 with e|e
   .rw[e]at this;exact a5.2 (.inl this)
   .rw[e]at this;exact a5.2 (.inr this)
  have st:∀l∈((w1 t).Za L).Zd,(Rq l->Jw l∈Ks):=R.boxes (a:=t) hL (Z:=fun l=>Rq l->Jw l∈Ks) (t0:=s+1) (fun l U f=>Z8 s (bb _) jW l (R.Zid hL hf U) f) (fun o h2 h3 m j f=>Z8 o uh h3 m j f) t jW (bb _);exact fun m j f _=>st m j f
end Md
end
section
variable {S:Cm->Prop} {C C' Cs:List Cm} {b β:ZN} {L L' X T t l:Nat} {w u:Wd} {g:Gh} {M:Nat->ZN} {v v1:Vw} {n:Nd}
theorem ZeI(h:v.Le v1):(Cp v).length<=(Cp v1).length:=by
 classical
 unfold Cp;refine YS (List.nodup_range.filter _) fun s c=>?_
 grind [Vw.Le.u]
theorem jS(h:v.Le v1):(WN v).length<=(WN v1).length:=by
 classical
 unfold WN;refine YS (List.nodup_range.filter _) fun s c=>?_
 grind [Vw.Le.ch]
theorem Zir(v:Vw):(WN v).length<=(Cp v).length:=by
 classical
 unfold WN Cp;refine YS (List.nodup_range.filter _) fun s c=>?_
 grind [Vy.u]
theorem ZeJ(h:v.Le v1):v.B.length<=v1.B.length:=by
 refine aW fun q=>?_;have c:v1.B.length<v.B.length:=uh;have:=h.b v1.B.length v.B[v1.B.length] (bl c)
 grind
def AZ(h:v.Le v1)(c:Nat):JW v c<=JW v1 c:=by
 have o:=ZeI h;have j:=jS h;have i:=h.g;have f:=bw c (ZeJ h);unfold JW MO;omega
theorem Zmi(i:l<=40)(h:∀s,s<l->Vy v s)(c:Nat):l<=JW v c:=by
 classical
 have j:(ba l).length<=(WN v).length:=by
  unfold WN;exact YS List.nodup_range fun s f=>by
   grind
 grind [Zir,JW,MO]
theorem Zis{P:Nat->Prop}{s k c:Nat}(h:RU P s k)(hc:1<=c):RU P (s+1) (k+c):=fun L n q=>by
 have j:(L.filter fun x=>decide (x<s)).length<=k:=h _ (n.filter _) fun x f=>by
  grind
 have i:(L.filter fun x=>decide (s<=x)).length<=[s].length:=YS (n.filter _) fun x f=>by
  grind
 have:=MB s L
 grind
theorem ZjD(V:WV Cs v w)(up:∀X,X<5->(w.Za X).up=true)(N:∀X,X<5->NR S g M X (w.Za X))(hc:1<=(aw Cs)):∃e,Gw Cs (fun t=>Vy v t/\t<JW v (aw Cs)) (JW v (aw Cs)) (JW v (aw Cs)) e (fun _=>0) w /\
  ∀X,X<5->∀r,(w.Za X).Zc=aL r->r.a=true->∀pr kn,Rz Cs (fun t=>Vy v t/\t<JW v (aw Cs)) (JW v (aw Cs)) kn pr (e X)->(Hy pr).length<=JW v (aw Cs):=by
 classical
 have sl:∀x:Vt,SX v (aw Cs) (aw Cs) x->x.Zx<((JW v (aw Cs)+0:Nat):Int):=fun x c=>by
  let⟨_,_,_,_,q⟩:=cY c
  simpa using q
 have T7:∀X,X<5->∃A,∀r,(w.Za X).Zc=aL r->(∀s:Nat,Has r.ZQ (s:Int)->s<JW v (aw Cs))/\(r.a=true->Rz Cs (fun t=>Vy v t/\t<JW v (aw Cs)) (JW v (aw Cs)) (w.Za X).Zi r.ZQ A/\∀pr kn,Rz Cs (fun t=>Vy v t/\t<JW v (aw Cs)) (JW v (aw Cs)) kn pr A->(Hy pr).length<=JW v (aw Cs)):=fun X f=>by
  cases hr:(w.Za X).Zc with
  | none=>exact⟨0,fun r h=>by cases h⟩
  | some r=>
   have V1:=V.nd X f;have j:=V1.Zc r hr;by_cases hb:r.a=true
   .let⟨i,A,h1,z,U,h4⟩:=j.rz V1.Zi hb;refine⟨A,fun r' e=>?_⟩;obtain rfl:=aag e;refine⟨U,fun _=>⟨⟨z.SF,z.cmd,fun s t x E D B o=>⟨z.inj s t x E D B o,U t (UG o)⟩,z.full⟩,fun pr kn Z=>?_⟩⟩;have:=h4 pr kn ⟨Z.SF,Z.cmd,fun s t x E D B o=>(Z.inj s t x E D B o).1,Z.full⟩;have hi:=(bE.1 h1).1;have a3:(aw Cs)*(i+1)<=(aw Cs)*v.B.length:=bw _ hi;unfold Ur at this;unfold JW;omega
   .refine⟨0,fun r' e=>?_⟩;obtain rfl:=aag e;exact⟨fun s O=>absurd ((j.new zK).2 s) O,fun q=>absurd q hb⟩
 obtain⟨e,Q⟩:∃e:Nat->Nat,∀X,X<5->∀r,(w.Za X).Zc=aL r->(∀s:Nat,Has r.ZQ (s:Int)->s<JW v (aw Cs))/\(r.a=true->Rz Cs (fun t=>Vy v t/\t<JW v (aw Cs)) (JW v (aw Cs)) (w.Za X).Zi r.ZQ (e X)/\∀pr kn,Rz Cs (fun t=>Vy v t/\t<JW v (aw Cs)) (JW v (aw Cs)) kn pr (e X)->(Hy pr).length<=JW v (aw Cs)):=
  ⟨fun X=>if f:X<5 then Classical.choose (T7 X f) else 0,fun X f=>by grind⟩
 have J:Jg (fun _=>0)=0:=rfl;refine⟨e,⟨fun X f=>?_,fun X f m G k=>?_,fun m G k=>?_⟩,fun X f r hr hb=>((Q X f r hr).2 hb).2⟩
 .have V1:=V.nd X f;have aX:=Yd (up X f);have Zn:∀x∈(w.Za X).Zn.l,x.Zx<((JW v (aw Cs)+0:Nat):Int):=fun x c=>sl x (((V1.acc x zK).1).less (a9 _));rw[J];refine⟨Zn,fun p P x c=>?_,fun r hr s O=>zK,fun r hr hb=>rfl,fun r hr hb=>⟨((Q X f r hr).2 hb).1,?_⟩,a9 _⟩
  .have R:=(N X f).Zo p P;have K:=V1.Zo p P
   cases p with
   | QB a to b vs=>
    have I:a=⟨b,(w.Za X).Zn.l⟩:=R.1;have c:x∈a.l:=c
    grind
   | Us a to y=>
    have I:a=⟨y.b,Jq (w.Za X).Zn.l y⟩:=R.1;have c:x∈a.l:=c;rw[I]at c;have c:x∈Jq (w.Za X).Zn.l y:=c;unfold Jq at c;rcases a5.1 c with c|c
    .grind
    .rcases cv.1 c with c|c
     .rw[c];let⟨_,p1,p2,i,p3,p4,p5⟩:=K;exact sl y ⟨p1,p2,i,p3,p4,Zis p5 hc⟩
     grind
   | Zn a vs cur=>
    let⟨b,I,_⟩:=R;have c:x∈a.l:=c
    grind
  grind [j3,List.filter_eq_nil_iff,Has]
 .rw[J];exact sl _ ((V.JC X f m G).ask k)
 .rw[J];exact sl _ ((V.WM m G).ask k)
theorem Be(B:X<5)(hC:(aw C)<=100000)(hb:Zv b)(P:PN C b L' X n)(z:∀l∈n.Zd,PJ C b l){r:XR}(hr:n.Zc=aL r)(Q:r.a=false)(G:Zj n.Zn.p r.b):∀r',(step n).n.Zc=aL r'->r'.a=false:=by
 have i:=P.up
 cases j:n.Zo with
 | some p=>
  have e:step n=Yc (ZE n) p:=by unfold step;rw[if_pos i,j]
  rw[e];intro r' h
  cases p with
  | QB a to b vs=>
   have h:n.Zc=aL r':=h
   grind
  | Us a to y=>
   have h:n.Zc=aL r':=h
   grind
  | Zn a vs cur=>
   grind [Yc,ZE]
 | none=>
  let⟨Z,_,K⟩:=OD n.Zd n;by_cases o:(Zw n n.Zd).n.Zo=a7
  .have A:Qm n:=⟨j,o⟩
   rw[Xi i A];show ∀r',(YH (Zw n n.Zd).n).n.Zc=aL r'->_;have I:=(XH (Jf (C:=C) (b:=b) (L:=L') B hC hb) _ _ P z).1;intro r' h;let⟨f,z1,z2⟩:=((Jm _ _ o).on hr)
   rcases (YD o I.ZZ).1.Rd with⟨c,_⟩|⟨x,c,V,e⟩|⟨x,O,c,_,U,R,_⟩
   .grind
   .grind
   .rw[z1]at c;obtain rfl:=aag c;have J:Zj (Zw n n.Zd).n.Zn.p f.b:=by rw[K,z2.k.b];exact G
    have e1:Zt (Zw n n.Zd).n=(Zw n n.Zd).n:=by
     unfold Zt;rw[z1];simp only;rw[if_neg (Q6 J)]
    have E:Yj (Zt (Zw n n.Zd).n)=Jc (Zw n n.Zd).n f:=by
     rw[e1];unfold Yj;rw[z1]
    have D:(YH (Zw n n.Zd).n).n.Zc=(Jc (Zw n n.Zd).n f).n.Zc:=by rw[Iv.1,E]
    rw[D]at h
    grind [Jc,JM.g]
  .have e:step n=Zw n n.Zd:=by
    unfold step;rw[if_pos i,j];simp only;rw[if_pos]
    cases q:(Zw n n.Zd).n.Zo with
    | none=>grind
    | some p=>rfl
   grind [JM.g]
end
structure VG(n:Nd):Prop where
 vk:VK n
 SF:YF n.Zi (n.ZF.length:Int)=a7
 ZZ:Blank n.Zc
 Zn:∀a vs cur,n.Zo=aL (.Zn a vs cur)->∃r,n.Zc=aL r/\(¬Zj r.b a.p\/a.p=Y2)
section
variable {n m:Nd} {w:Wd} {X:Nat}
theorem VG.same(h:VG n)(c:m.Zc=n.Zc)(f:m.Zi=n.Zi)(i:m.ZF=n.ZF)(j:m.Zo=n.Zo):VG m:=
 ⟨h.vk.same c f,by rw[f,i];exact h.SF,by rw[c];exact h.ZZ,fun a vs cur q=>by rw[c];exact h.Zn a vs cur zK⟩
theorem ZeK{i:Nat}{up:Bool}{d:List Nat}{z:Int}{a:QT}:VG (ZZ i up d z a):=
 ⟨fun r h=>(by cases h),rfl,(fun r h=>by cases h),fun a vs cur h=>by cases h⟩
theorem ug:Laws VG (fun _=>True) (fun _=>True):=by
 refine⟨fun n k h=>h.same rfl rfl rfl rfl,fun n l h j _=>⟨?_,fun _ _=>trivial⟩,fun n h j=>⟨?_,fun _ _=>trivial⟩,fun n p h j=>⟨?_,fun _ _=>trivial⟩⟩
 .let⟨z1,z2⟩:=AK h.vk h.SF l;refine⟨z1,z2,fun r' hr hb s=>?_,fun a vs cur q=>?_⟩
  .rcases (YE n l).2 with K|⟨_,_,_,_,e⟩|⟨_,_,_,_,e⟩
   .let⟨r,B,x⟩:=K.back hr;rw[x.p];exact h.ZZ r B (by rw[<-x.g];exact hb) s
   .rw[e]at hr;exact h.ZZ r' hr hb s
   .rw[e]at hr;exact h.ZZ r' hr hb s
  grind [NZ,N0,YE,YT.Zo]
 .let⟨D,_⟩:=YD j h.ZZ;refine⟨fun r' hr t i=>?_,by rw[D.Zi,D.ZF];exact h.SF,fun r' hr z s=>?_,fun a vs cur q=>?_⟩
  .rcases D.Rd with⟨_,e⟩|⟨_,_,_,e⟩|⟨r,A,f,_,e,_,_,k,_⟩
   .grind
   .grind
   .rw[e]at hr;obtain rfl:=aag hr;rw[k]at i;rw[D.Zi];exact h.vk r f t i
  .rcases D.Rd with⟨_,e⟩|⟨_,_,_,e⟩|⟨r,A,f,_,e,_,k,_,_⟩
   .grind
   .grind
   .rw[e]at hr;obtain rfl:=aag hr;rcases k with rfl|k
    .exact h.ZZ _ f z s
    grind
  .rcases D.Zo with⟨e,_⟩|⟨r,hr,G,_,_,e⟩
   .grind
   grind [Qj,Y2,WK.Rd,Q6,Yw.b]
 .cases p with
  | QB a to I vs=>exact⟨h.vk.same rfl rfl,h.SF,h.ZZ,fun a vs cur q=>by cases q⟩
  | Us a to v=>exact⟨h.vk.same rfl rfl,h.SF,h.ZZ,fun a vs cur q=>by cases q⟩
  | Zn a vs cur=>
   have y:∀r',(Yc (ZE n) (.Zn a vs cur)).n.Zc=aL r'->∃r,n.Zc=aL r/\r'.a=r.a/\r'.ZQ=r.ZQ/\r'.Xc=r.Xc:=fun r' hr=>by
    have hr:(if cur=true then n.Zc.map (fun r=>{ r with c:=ins r.c n.me vs }) else n.Zc)=aL r':=hr;split at hr
    .cases e:n.Zc with
     | none=>grind
     | some r=>
      grind
    grind
   refine⟨fun r' hr t i=>?_,h.SF,fun r' hr z s=>?_,fun a vs cur q=>by cases q⟩
   .let⟨r,f,_,_,o⟩:=y r' hr;rw[o]at i;exact h.vk r f t i
   .let⟨r,f,E,o,_⟩:=y r' hr;rw[o];exact h.ZZ r f zK s
theorem Zit(h:VG n):VG (step n).n:=by
 grind [step,PT,ug]
def GY(w:Wd):Prop:=∀X,VG (w.Za X)
theorem GY.set(h:GY w)(c:VG m):GY (w.set X m):=fun Y=>by
 show VG (if Y=X then m else w.Za Y);split
 .exact c
 .exact h Y
theorem GY.XN(h:GY w)(l:Yt):GY (XN w l):=by
 grind [GY,XN,GY.set,VG.same]
theorem GY.comes:∀(k:List Yt) (w:Wd),GY w->GY (k.foldl Go.Proofs.YtkhkmpfenaipaaaGreatDoor.XN w):=by
 intro k
 induction k with
 | nil=>grind
 | cons l k c=>intro w h;exact c _ (h.XN l)
theorem GY.act(h:GY w)(a:Ac):GY (act w a):=by
 unfold Go.Proofs.YtkhkmpfenaipaaaGreatDoor.act;split
 .unfold Wj;split
  .split
   .exact h
   .split
    .exact h
    .refine h.set ((h a.ZM).same ?_ ?_ ?_ ?_)
     .unfold VT add;grind
     .unfold VT add;grind
     .unfold VT add;grind
     .unfold VT add;grind
  .exact h
 split
 .refine h.set ?_;unfold lead;split
  .exact h _
  .refine⟨fun r hr s o=>?_,(h _).SF,fun r hr _ s=>?_,fun b vs cur q=>⟨_,rfl,?_⟩⟩
   .grind [YF]
   .rw[<-aag hr];rfl
   .have q:XM (w.Za a.ZM).Zo=aL (.Zn b vs cur):=q
    cases e:(w.Za a.ZM).Zo with
    | none=>rw[e]at q;cases q
    | some p0=>
     rw[e]at q
     cases p0 with
     | QB a to c vs=>cases q
     | Us a to y=>cases q
     | Zn c f i=>
      have q:=aag q
      injection q with j _ _
      let⟨r,hr,hb⟩:=(h a.ZM).Zn _ _ _ e
      grind [Zj,Yl]
 split
 .intro Y;unfold Wd.out;show VG (if Y=a.ZM then (step (w.Za a.ZM)).n else w.Za Y);split
  .exact Zit (h _)
  .exact h Y
 split
 .unfold pick;split
  .exact h
  .split
   .refine GY.XN ?_ _;split
    .exact h
    .exact h
   .split
    .exact h
    .exact h
 split
 .exact GY.comes _ _ h
 grind [GY,Y4,started,GY.set,ZeK]
def zu:GY Qf:=fun X=>ZeK
end
section
variable {S:Cm->Prop} {C Cs:List Cm} {b:ZN} {k L':Nat} {w:Wd} {g:Gh} {M:Nat->ZN} {v:Vw}
theorem ZrL(up:∀X,X<5->(w.Za X).up=true)(I:WI C k w)(T:TI S g M w)(G:GY w)(V:WV Cs v w)(kr:v.K.length<=65536)(Zn:∀X,X<5->¬Zj b (w.Za X).Zn.p)(DL:∀X,X<5->∀p,(w.Za X).Zo=aL p->¬Zj b (YM p).p)(Rd:∀X,X<5->X≠L'->∀r,(w.Za X).Zc=aL r->Zj r.b b)(Yi:L'<5->∃r,(w.Za L').Zc=aL r/\r.b=b)(WM:∀l∈w.b,(l.a=0->¬Zj b l.b)/\(l.a=2->¬Zj b l.v.b))(JC:∀X,X<5->∀l∈(w.Za X).Zd,(l.a=0->¬Zj b l.b)/\(l.a=2->¬Zj b l.v.b)):PW C b L' w:=by
 refine⟨fun X i=>?_,fun l j=>⟨I.WM l j,(WM l j).1,(WM l j).2⟩,fun X i l j=>⟨I.JC X i l j,(JC X i l j).1,(JC X i l j).2⟩⟩;have N:=T.nd X i;have A:=N.acc;have z:=N.m;rw[Yd (up X i)]at A z;have Xc:∀x∈(w.Za X).Zn.l,¬Zj (w.Za X).Zn.p x.b:=fun x q=>by rw[<-z];exact T.a.Yi _ _ _ _ (A.has x q)
 refine⟨I.nd X i,up X i,Zn X i,Xc,fun p o=>?_,?_,fun q r hr=>Rd X i q r hr,fun e=>by grind,(G X).ZZ,fun r hr=>?_,(G X).vk,(G X).SF⟩
 .refine⟨DL X i p o,?_⟩;have R:=N.Zo p o
  cases p with
  | QB a to c vs=>
   grind [PR,YM,QC,Xh]
  | Us a to y=>
   grind [Jq,PR,YM,Q7,Xh,Yv]
  | Zn a vs cur=>
   grind [PR,YM,QC,Xh]
 .cases o:(w.Za X).Zo with
  | none=>
   have:=(N.tape.idle (up X i) o).2;omega
  | some p=>
   let⟨d,f,e1,J,_⟩:=N.tape.busy (up X i) p o
   grind
 .have V1:=(V.nd X i).Zc r hr;let⟨B,E,D⟩:=V.kr _ V1.a;exact⟨⟨B.1,uh⟩,uh⟩
end
section
variable {S:Cm->Prop} {C Cs:List Cm} {b β:ZN} {k L X:Nat} {w:Wd} {g:Gh} {M:Nat->ZN} {v:Vw}
theorem A0(V:WV Cs v w)(up:∀X,X<5->(w.Za X).up=true)(o:∀X,X<5->¬Zj β (w.Za X).Zn.p){l:Yt}(c:LV (aw Cs) v l)(f:Ak w l):(l.a=0->¬Zj β l.b)/\(l.a=2->¬Zj β l.v.b):=by
 have r:∀X,X<5->YY (w.Za X)=(w.Za X).Zn:=fun X j=>Yd (up X j);refine⟨fun q=>?_,fun q=>?_⟩
 .let⟨_,z1,z2⟩:=V.kr _ (c.pre q);have:=f q l.b.n.toNat uh uh
  grind [Zj]
 .let⟨_,_,i,hi,_⟩:=c.ask q;have hb:l.v.b∈v.B:=br.2 ⟨i,hi⟩;let⟨_,z1,z2⟩:=V.kr _ (V.bg _ hb).1;have:=(V.nd l.v.b.n.toNat uh).Zn _ hb uh
  grind [Zj]
theorem qn(V:WV Cs v w)(up:∀X,X<5->(w.Za X).up=true)(G:GY w)(N:∀X,X<5->NR S g M X (w.Za X))(x:∀X,X<5->¬Zj β (w.Za X).Zn.p)(hr:∀X,X<5->∀r,(w.Za X).Zc=aL r->¬Zj β r.b)(B:¬Zj β Y2):∀X,X<5->∀p,(w.Za X).Zo=aL p->¬Zj β (YM p).p:=fun X j p i=>by
 have V1:=V.nd X j;have f:=V1.Zo p i;have R:=(N X j).Zo p i;rcases (V.sN X j).2 p i with s|⟨_,o⟩
 .have hK:(YM p).p∈v.K:=by
   cases p with
   | QB a to c vs=>
    let⟨q,_⟩:=R;show a.p∈v.K;rw[q];exact f.2
   | Us a to y=>
    grind [PR,YM,PV,WV.bg]
   | Zn a vs cur=>exact f.2
  let⟨_,z1,z2⟩:=V.kr _ hK;have:=s (YM p).p.n.toNat uh uh
  grind [Zj,Yd]
 .cases p with
  | QB a to c vs=>exact o.elim
  | Us a to y=>exact o.elim
  | Zn a vs cur=>
   let⟨r,A,z⟩:=(G X).Zn a vs cur i
   grind [YM,VY]
end
section
variable {S:Cm->Prop} {C Cs:List Cm} {b β:ZN} {k L X N N2:Nat} {w:Wd} {g:Gh} {M:Nat->ZN} {v:Vw} {m:Nd}
def Zmj(V:WV Cs v w):Led v L (w.set L m):=⟨V.nB,fun b hb=>(V.bg b hb).1,fun X c f r hr=>by
 rw[XT,if_neg f]at hr;have R:=(V.nd X c).Zc r hr;exact⟨R.a,fun q=>(R.new q).1,R.ZM⟩⟩
def Zmk(V:WV Cs v w)(q:v.cost+(aw Cs)<=100)(hc:1<=(aw Cs)/\(aw Cs)<7)(c:1<=v.B.length)(o:1<=(WN v).length)(j:100+20*((aw Cs)+v.K.length+1)<=N)(i:N<=N2\/2500<=N+N2)(f:N<=2120):Bud v Cs (JW v (aw Cs)) N N2:=by
 have h:=(Iy V).1;have e:v.cost=v.H.length+v.B.length+v.K.length+v.T:=rfl;exact⟨rfl,hc,c,o,uh,j,i,f⟩
theorem Ziu(V:WV Cs v w)(c:v.cost+(aw Cs)<=106):6*v.B.length+2*(Cp v).length+4*(WN v).length+v.B.length+v.K.length+v.T+(aw Cs)<=106:=by
 grind [Iy,Vw.cost]
theorem Zml(V:WV Cs v w)(up:∀X,X<5->(w.Za X).up=true)(N:∀X,X<5->NR S g M X (w.Za X))(hc:1<=(aw Cs))(hL:L<5):∃e,Sta Cs (fun t=>Vy v t/\t<JW v (aw Cs)) (JW v (aw Cs)) L e (w.set L (UH (w.Za L))):=by
 let⟨e,G,h⟩:=ZjD V up N hc;have j:=G.lead hL (m:=UH (w.Za L)) rfl (.inr (Wm _).1) rfl fun r hr=>by
  grind [UH,YF]
 have e1:(fun X=>if X=L then 0 else (fun _:Nat=>0) X)=fun _=>0:=by funext X;split<;>rfl
 rw[e1]at j;refine⟨e,j,fun s f q=>by grind,fun X c o r hr hb=>?_,fun r hr=>?_,?_⟩
 .rw[XT,if_neg o]at hr ⊢;refine⟨h X c r hr hb,?_⟩;have V1:=V.nd X c;have R:=V1.Zc r hr;let⟨i,_,f,_⟩:=R.T7 hb;have:=V1.Zn r.b (br.2 ⟨i,f⟩) R.ZM;rw[Yd (up X c)]at this;exact this
 .grind [UH,XT]
 .rw[XT,if_pos rfl];exact⟨_,rfl⟩
theorem Zmm{v1:Vw}(V:WV Cs v1 w)(up:∀X,X<5->(w.Za X).up=true)(N:∀X,X<5->NR S g M X (w.Za X))(le:v.Le v1)(hc:1<=(aw Cs))(o:v1.K.length<=v.K.length+1)(i:v1.cost+(aw Cs)<=106)(j:1<=v.B.length)(x:1<=(WN v).length):∃e,One v v1 Cs (fun t=>Vy v1 t/\t<JW v1 (aw Cs)) (JW v (aw Cs)) (JW v1 (aw Cs)) e w:=by
 let⟨e,G,h⟩:=ZjD V up N hc;exact⟨e,rfl,AZ le _,G,fun s z y=>zK,h,fun X c l f=>⟨fun q=>(V.JC X c l f).pre q,fun q=>(V.JC X c l f).ask q⟩,fun X c r hr=>⟨((V.nd X c).Zc r hr).a,fun q=>(((V.nd X c).Zc r hr).new q).1,((V.nd X c).Zc r hr).ZM⟩,V.nB,fun b hb=>(V.bg b hb).1,o,Ziu V i,a8 j (ZeJ le),a8 x (jS le)⟩
theorem Ziv(V:WV Cs v w){m:Nd}(i:m.Zd=(w.Za L).Zd):∃Ks:List (ZN × Int),(aw Ks)<=v.K.length+((ba v.B.length).map (Ur v (aw Cs))).sum/\(∀X,X<5->∀l∈bx (w.set L m) X,Rq l->Jw l∈Ks)/\∀X,X<5->∀l∈bx (w.set L m) X,l.a=0->l.b∈v.K:=by
 let⟨Ks,r,q,o⟩:=jQ v (aw Cs);have f:∀X,X<5->∀l∈bx (w.set L m) X,LV (aw Cs) v l:=fun X j l c=>by
  unfold bx at c
  grind [Wd.set,WV.JC,WV.WM]
 grind [Rq,Lc,LV.pre,ON,LV.ask]
theorem ZrM{C:List Cm}(hC:(aw C)<=100000)(q:WY []∈C)(hS:∀x,S x->x.err=0)(OX:∀x,S x->x∈Cs)(V:WV Cs v w)(I:WI C k w)(T:TI S g M w)(f:∀X,X<5->(w.Za X).data.length<=80000):∃v1,WV Cs v1 (C9 w)/\v1.cost<=v.cost+5/\v1.K.length<=v.K.length/\v.Le v1:=by
 let⟨v1,V1,o,c,le,_⟩:=tV hC hS OX ((ba 5).map fun n=>(QD n).ac) k w g M v V I T (fun a i=>by
  grind [Raw.ac,QD,Bb,C8]) fun X j=>by
  grind [a6]
 refine⟨v1,?_,?_,?_,le⟩
 .have e:C9 w=LH (((ba 5).map fun n=>(QD n).ac).foldl act w):=by
   rw[DR];show act (((ba 5).map fun n=>(QD n).ac).foldl act w) NM.ac=_;rw[cL]
  rw[e];exact Zju V1
 .grind
 .have:leads ((ba 5).map fun n=>(QD n).ac)=0:=HE;omega
end
section
variable {S:Cm->Prop} {C Cs:List Cm} {b β:ZN} {k L L' T X N N2:Nat} {w:Nat->Wd} {g:Nat->Gh} {M:Nat->Nat->ZN} {v v1:Vw} {n:Nd}
theorem ZeL(h:PN C b L' X n)(o:X<5)(hC:(aw C)<=100000)(hb:Zv b)(i:∀l∈n.Zd,PJ C b l)(f:n.Zo=a7):(step n).n.Zn=n.Zn:=by
 have c:=h.up;let⟨_,_,r⟩:=OD n.Zd n;by_cases j:(Zw n n.Zd).n.Zo=a7
 .grind [step,XH,Jf,WK.Zn,YD,PN.ZZ]
 .have e:step n=Zw n n.Zd:=by
   unfold step;rw[if_pos c,f];simp only;rw[if_pos]
   cases q:(Zw n n.Zd).n.Zo with
   | none=>grind
   | some p=>rfl
  grind
theorem ZrN(R:XP S C b L' T w g M)(hL:L<5)(V1:WV Cs v1 (w 1)){r:XR}(hr:((w 0).Za L).Zc=aL r)(hb:r.a=false)(i:Zj ((w 0).Za L).Zn.p r.b)(E:r.b.n=L):r.b∈v1.K/\r.b ∉ v1.B/\r.b.n=L:=by
 have P:=(R.at 0).nd L hL;have e1:((w 1).Za L).Zc=(step ((w 0).Za L)).n.Zc:=by
  have:=R.a 0;rw[this];exact (Vb hL P.up).2.2
 have ex:∃r',((w 1).Za L).Zc=aL r'/\r'.b=r.b:=by
  cases f:((w 0).Za L).Zo with
  | some p=>
   have e:step ((w 0).Za L)=Yc (ZE ((w 0).Za L)) p:=by unfold step;rw[if_pos P.up,f]
   rw[e1,e]
   cases p with
   | QB a to c vs=>exact⟨r,hr,rfl⟩
   | Us a to y=>exact⟨r,hr,rfl⟩
   | Zn a vs cur=>
    grind [Yc,ZE]
  | none=>
   have o:((w 1).Za L).Zn=((w 0).Za L).Zn:=by
    have:=R.a 0;rw[this,Qg _ L hL P.up];exact ZeL P hL R.hC R.hb ((R.at 0).JC L hL) f
   rcases R.Hz hL hr (t:=1) uh with⟨z,B,A,_⟩|q
   .grind
   .rw[o]at q;exact absurd i (Q6 q)
 let⟨r',j,G⟩:=ex;have D:=Be hL R.hC R.hb P ((R.at 0).JC L hL) hr hb i r' zK;have x:=(V1.nd L hL).Zc r' j
 grind [RV.a,RV.new]
end
theorem df{C:List Cm}{v:Vw}{X:Nat}{n:Nd}(V:NV C v X n)(kr:∀b∈v.K,(1<=b.r/\b.r<=v.K.length)/\0<=b.n/\b.n<5)(f:n.up=true):1<=(Yl n).r/\(Yl n).r<=v.K.length+1/\n.Zn.p.r<(Yl n).r:=by
 have c:=K0.r kr V.k0.1;have i:=K0.r kr V.k0.2;rw[Yd f]at c;unfold Yl;simp only;split
 .rename_i r hr;have:=kr _ (V.Zc r hr).a
  grind
 grind
theorem Ziw{X:Nat}(c:X<5):∀N,((QE N).map Raw.ac).countP (fun a=>Wr a X)=N:=by
 have i:(Sp.map Raw.ac).countP (fun a=>Wr a X)=1:=by
  match X,c with
  | 0,_=>decide
  | 1,_=>decide
  | 2,_=>decide
  | 3,_=>decide
  | 4,_=>decide
 intro N
 induction N with
 | zero=>rfl
 | succ N f=>grind [Sq]
section
variable {S:Cm->Prop} {C Cs:List Cm} {b β:ZN} {k l L L' X N N2:Nat} {w s:Wd} {g0:Gh} {M0:Nat->ZN} {v v1:Vw} {n:Nd}
def IC(u:Wd)(hL:L<5):act u (OU L).ac=u.set L (lead (u.Za L)):=by
 unfold act OU Raw.ac;simp
theorem ZeM(hC:(aw C)<=100000)(z:WY []∈C)(hb:Zv b)(pw:PW C b L' w)(I:WI C k w)(T:TI S g0 M0 w){d:Nat}(o:∀X,X<5->(w.Za X).data.length<=d)(h:d+38*N<=99900):∃g M,g 0=g0/\XP S C b L' N (fun t=>YJ t w) g M/\(∀t,t<N->∀j b s x,(g t).V j b s x->(g (t+1)).V j b s x)/\∃k,WI C k (YJ N w):=by
 let⟨g,M,y,r,q,f⟩:=Zl6 hC z I T N;refine⟨g,M,y,⟨hC,hb,fun t=>rfl,pw,fun t A X c i=>?_,r⟩,q,f⟩;have:=DQ hC hb pw c (o X c) t;unfold Full at i
 grind
theorem qp(u:Wd):∀N,((QE N).map Raw.ac).foldl act u=YJ N u:=by
 intro N
 induction N with
 | zero=>rfl
 | succ N c=>
  grind [YJ,Sq,DR]
theorem Zix(f:WY []∈C)(N:Nat):∀a∈(QE N).map Raw.ac,Bb S C a:=fun a c=>by
 grind [Raw.ac,Bb,C8,QD,NM,Ir]
end
section
variable {S:Cm->Prop} {C Cs:List Cm} {b β:ZN} {k l L L' X N N2:Nat} {w s:Wd} {g0:Gh} {M0:Nat->ZN} {v v1:Vw} {n:Nd}
theorem zv(hC:(aw C)<=100000)(HK:WY []∈C)(hS:∀x,S x->x.err=0)(OX:∀x,S x->x∈Cs)(up:∀X,X<5->(s.Za X).up=true)(I:WI C k s)(T:TI S g0 M0 s)(G:GY s)(V:WV Cs v s)(hL:L<5)(hd:∀X,X<5->(s.Za X).data.length<=4000)(jT:v.cost+(aw Cs)<=100)(hc:1<=(aw Cs)/\(aw Cs)<7)(hm:1<=v.B.length)(Iz:1<=(WN v).length)(hN:100+20*((aw Cs)+v.K.length+1)<=N)(ct:N<=2120)(b9:N<=N2\/2500<=N+N2)(cS:N+N2<=2500)(a2:l<=40)(a1:∀t,t<l->Vy v t/\∃y,J9 g0 (t:Int) y)(ow:∀X,X<5->∀r,(s.Za X).Zc=aL r->(s.Za X).Zn.p.n=X->¬Zj r.b (s.Za X).Zn.p){u U:Wd}(hu:u=s.set L (lead (s.Za L)))(b8:U=(YJ N u).set L (lead ((YJ N u).Za L)))(b4:∀t,t<=N->∀X,X<5->((YJ t u).Za X).ZF.length<l)(c8:∀t,t<=N2->∀X,X<5->((YJ t U).Za X).ZF.length<l):False:=by
 let⟨b1,b2,b3⟩:=df (V.nd L hL) V.kr (up L hL);have kK:v.K.length<=100:=by
  have e:v.cost=v.H.length+v.B.length+v.K.length+v.T:=rfl;omega
 have el:lead (s.Za L)=UH (s.Za L):=cZ (up L hL) uh;let⟨v2,V2,c2,k2,c9⟩:=Zd9 V hL (I.nd L hL).me;let⟨g',M',m1,T1⟩:=AD hC I T (OU L).ac (by show ((L:Nat):Int).toNat<5;omega) (by show (0:Int)<=0;omega) fun now h=>by cases h
 have I1:=Dt hC I (OU L).ac (by show ((L:Nat):Int).toNat<5;omega) (by show WY []∈C;exact HK);have G1:=G.act (OU L).ac;rw[IC s hL,<-hu]at T1 I1 G1;rw[<-hu]at V2;have o:u=s.set L (UH (s.Za L)):=by rw[hu,el]
 have qi:∀X,X<5->(u.Za X).up=true:=fun X j=>by
  grind [UH,XT]
 have d1:∀X,X<5->(u.Za X).data.length<=4000:=fun X j=>by
  grind [UH,XT]
 have cR:∀X,X<5->(u.Za X).Zn=(s.Za X).Zn:=fun X j=>by
  grind [UH,XT]
 have ca:∀c∈v2.K,(1<=c.r/\c.r<=101)/\0<=c.n/\c.n<5:=fun c hc=>by
  have:=V2.kr c hc;omega
 have dm:∀X,X<5->(u.Za X).Zn.p=Y2\/(u.Za X).Zn.p∈v2.K:=fun X j=>by
  have:=(V2.nd X j).k0.1;rw[Yd (qi X j)]at this;exact this
 have a0:∀X,X<5->∀r,(u.Za X).Zc=aL r->r.b∈v2.K/\r.b.n=X:=fun X j r hr=>⟨((V2.nd X j).Zc r hr).a,((V2.nd X j).Zc r hr).ZM⟩
 have N1:∀X,X<5->NR S g' M' X (u.Za X):=fun X j=>T1.nd X j
 have mk:∀(c:ZN) (L':Nat),(¬Zj c Y2)->(∀X,X<5->¬Zj c (u.Za X).Zn.p)->(∀X,X<5->∀r,(u.Za X).Zc=aL r->¬Zj c r.b)->(∀X,X<5->X≠L'->∀r,(u.Za X).Zc=aL r->Zj r.b c)->(L'<5->∃r,(u.Za L').Zc=aL r/\r.b=c)->PW C c L' u:=fun c L' h0 R hr cr A=>
  ZrL qi I1 T1 G1 V2 uh R (qn V2 qi G1 N1 R hr h0) cr A (fun l hl=>A0 V2 qi R (V2.WM l hl) (V2.aF l hl)) fun X j l hl=>A0 V2 qi R (V2.JC X j l hl) (V2.aI X j l hl)
 have aV:∀c∈v2.K,Zj c (⟨65536,4⟩:ZN):=fun c hc=>.inl zK;have c6:Zj Y2 (⟨65536,4⟩:ZN):=.inl (by show (0:Int)<65536;omega);have Z:Zv (⟨65536,4⟩:ZN):=HE;have aX:PW C ⟨65536,4⟩ 7 u:=mk ⟨65536,4⟩ 7 (Q6 c6) (fun X j=>by
  grind [Q6]) (fun X j r hr=>Q6 (aV _ (a0 X j r hr).1)) (fun X j _ r hr=>aV _ (a0 X j r hr).1) fun h=>by omega
 let⟨g1,M1,dj,R1,cN,kN,IN⟩:=ZeM (N:=N) hC HK Z aX I1 T1 d1 uh;have TN:=R1.ti N (bb _);let⟨v4,V4,_,k4,_⟩:=Zjw hC hS OX ((QE N).map Raw.ac) _ u g' M' v2 V2 I1 T1 (Zix HK N) fun X j=>by
  rw[Ziw j]
  grind
 rw[qp]at V4;have cO:v4.K.length<=60000:=by
  have:leads ((QE N).map Raw.ac)<=((QE N).map Raw.ac).length:=bW;rw[a6,Hv]at this;omega
 have c5:=R1.at N;have ax:((YJ N u).Za L).up=true:=(c5.nd L hL).up;let⟨n1,n2,_⟩:=df (V4.nd L hL) V4.kr ax;have BN:1<=(Yl ((YJ N u).Za L)).r/\(Yl ((YJ N u).Za L)).r<=65536:=⟨n1,uh⟩
 have cx:lead ((YJ N u).Za L)=UH ((YJ N u).Za L):=cZ ax BN.2;have c4:U=(YJ N u).set L (UH ((YJ N u).Za L)):=by rw[b8,cx]
 let⟨cT,dq,m5,T5⟩:=AD hC IN TN (OU L).ac (by show ((L:Nat):Int).toNat<5;omega) (by show (0:Int)<=0;omega) fun now h=>by cases h
 have I5:=Dt hC IN (OU L).ac (by show ((L:Nat):Int).toNat<5;omega) (by show WY []∈C;exact HK);rw[IC _ hL,<-b8]at T5 I5;have c7:PW C ⟨65536,4⟩ 7 U:=by
  rw[c4];exact (qh c5 hL BN).2 (.inl zK) uh
 have d2:∀X,X<5->(U.Za X).data.length<=4000+38*N:=fun X j=>by
  have h1:=DQ hC Z aX j (d1 X j) N
  grind [UH,XT]
 let⟨g2,M2,de,R2,cB,_⟩:=ZeM (N:=N2) hC HK Z c7 I5 T5 d2 uh
 have NS:∀X,X<5->NR S g0 M0 X (s.Za X):=fun X j=>T.nd X j;let⟨e,qg⟩:=Zml V up NS hc.1 hL;rw[<-o]at qg;let⟨Ks,q1,q2,q3⟩:=Ziv V (L:=L) (m:=UH (s.Za L)) rfl;rw[<-o]at q2 q3;have WF:=Zmi a2 (fun t A=>(a1 t A).1) (aw Cs);have W:Md S C Cs (fun t=>Vy v t/\t<JW v (aw Cs)) ⟨65536,4⟩ 7 L (JW v (aw Cs)) N N2 e (fun t=>YJ t u) (fun t=>YJ t U) g1 g2 M1 M2:=
  ⟨R1,R2,hL,c4,hS,OX,fun X j l hl hk=>(by
   have:=V.kr _ (q3 X j l hl hk);exact⟨⟨uh,uh⟩,uh⟩),qg,fun t A X j x K=>(by
   grind),fun t A X j x K=>(by
   grind)⟩
 have D:Led v L u:=by rw[o];exact Zmj V
 have B:=Zmk (N:=N) (N2:=N2) V jT hc hm Iz hN b9 ct;have a3:=W.Zil D rfl hc hm Iz B.bud q1 q2 hN b9;have c1:∀t,t<=N->∀x:Nat,x<l->∃y,J9 (g1 t) (x:Int) y:=fun t A x K=>by
  let⟨y,Q,b',hQ,hv⟩:=(a1 x K).2;refine⟨y,Q,b',hQ,fun i hi=>?_⟩;have up:∀t,t<=N->(g1 t).V i b' (x:Int) y:=by
   intro t
   induction t with
   | zero=>grind
   | succ t ih=>grind
  exact up t A
 have c2:∀t,t<=N2->∀x:Nat,x<l->∃y,J9 (g2 t) (x:Int) y:=fun t A x K=>by
  let⟨y,Q,b',hQ,hv⟩:=c1 N (bb _) x K;refine⟨y,Q,b',hQ,fun i hi=>?_⟩;have up:∀t,t<=N2->(g2 t).V i b' (x:Int) y:=by
   intro t
   induction t with
   | zero=>grind
   | succ t ih=>grind
  exact up t A
 have ae:Inc l N (fun t=>YJ t u) g1:=⟨c1,a2,b4⟩
 have a4:Inc l N2 (fun t=>YJ t U) g2:=⟨c2,a2,c8⟩
 obtain⟨f,hf⟩:∃f:Nat->ZN,f=fun X=>match (u.Za X).Zc with
  | some r=>if Zj (u.Za X).Zn.p r.b then r.b else (u.Za X).Zn.p
  | none=>(u.Za X).Zn.p:=⟨_,rfl⟩
 let⟨J,c3,dp⟩:=ub f 4;let⟨β,hβ⟩:=ZO (f J);have f1:∀X,¬Zj (f X) (u.Za X).Zn.p:=fun X=>by
  rw[hf];simp only;split
  .grind [Q6]
  .exact Yv _
 have f2:∀X r,(u.Za X).Zc=aL r->¬Zj (f X) r.b:=fun X r hr=>by
  rw[hf];simp only[hr];split
  .exact Yv _
  grind
 have R:∀X,X<5->¬Zj β (u.Za X).Zn.p:=fun X j=>Xh (f1 X) zK;have hr:∀X,X<5->∀r,(u.Za X).Zc=aL r->¬Zj β r.b:=fun X j r hr=>Xh (f2 X r hr) zK;have cw:(u.Za L).Zc=aL ⟨Yl (s.Za L),[],false,[],[]⟩:=by rw[o,XT,if_pos rfl];rfl
 have G9:∀c:ZN,¬Zj c (Yl (s.Za L))->Zj Y2 c:=fun c q=>by
  grind [Zj,Y2]
 have b7:=G9 β (hr L hL _ cw);have fc:f J=(u.Za J).Zn.p\/∃r,(u.Za J).Zc=aL r/\f J=r.b:=by
  rw[hf];simp only;split
  .grind
  .grind
 have b6:β∈v2.K:=by
  rcases fc with q|⟨r,q1,q2⟩
  .grind
  .grind
 have kβ:=ca β b6;have hb:Zv β:=⟨⟨uh,uh⟩,uh⟩
 by_cases live:∃h,h<5/\∃r,(u.Za h).Zc=aL r/\r.b=β
 .let⟨h,hh,r,LX,er⟩:=live;have P:=mk β h (Q6 b7) R hr (fun X j XU r' E=>by
   grind [UW]) fun _=>⟨r,LX,er⟩
  exact W.one ae a4 BN hb hh P a3
 .have ph:f J=(u.Za J).Zn.p:=by
   rcases fc with q|⟨r,q1,q2⟩
   .exact q
   .grind
  have ck:∀X,X<5->X≠7->∀r,(u.Za X).Zc=aL r->Zj r.b β:=fun X j _ r E=>by
   grind [UW]
  have P:=mk β 7 (Q6 b7) R hr ck fun h=>by omega
  obtain⟨H,hH,hn⟩:∃H:Nat,H<5/\β.n=H:=⟨β.n.toNat,uh,uh⟩
  have oH:(u.Za H).Zn.p=β:=by
   have:=(V2.sN J c3).1 H hH;rw[Yd (qi J c3),Yd (qi H hH),<-ph,<-hβ]at this;exact (UW (R H hH) (this hn)).symm
  have c0:H≠L:=fun e=>by
   grind [Zj]
  have bt:(u.Za H).Zc=a7:=by
   cases q:(u.Za H).Zc with
   | none=>rfl
   | some r=>
    grind [XT]
  by_cases Fy:Zj β (Yl ((YJ N u).Za L))
  .refine W.Zrz ae a4 D B BN hb P hH c0 bt ?_ (fun X j LQ r E bN=>?_) Fy a3
   .have:=(V.nd H hH).k0.1
    grind [K0,Yd]
   .have E:(u.Za X).Zc=aL r:=E;rw[o,XT,if_neg LQ]at E;let⟨i,_,z,_⟩:=((V.nd X j).Zc r E).T7 bN;exact br.2 ⟨i,z⟩
  .let⟨v1,V1,cc,kk,b5⟩:=ZrM hC HK hS OX V2 I1 T1 fun X j=>by grind
   have le:=c9.trans b5;have cA:=R1.ti 1 uh;have cz:∀X,X<5->((C9 u).Za X).up=true:=fun X j=>((R1.at 1).nd X j).up;let⟨e1,O⟩:=Zmm V1 cz (fun X j=>cA.nd X j) le hc.1 uh uh hm Iz;refine W.Zmg ae a4 B BN hb P hH c0 bt (by grind [YJ]) O (b5.k _ b6) (fun r E=>?_) (fun t cP A X j x K=>?_) Fy a3
   .have E:(u.Za L).Zc=aL r:=E;refine ZrN R1 hL V1 E ?_ ?_ (a0 L hL r E).2
    .grind
    grind [Zj,YJ]
   .have K:x<((YJ t u).Za X).ZF.length:=K;have:=b4 t A X j;have:=AZ le (aw Cs);exact⟨le.ch _ (a1 x uh).1,uh⟩
end
def qr(X:Nat)(n:Nd):Prop:=∀r,n.Zc=aL r->n.Zn.p.n=X->¬Zj r.b n.Zn.p
def Bf(w:Wd):Prop:=∀X,X<5->qr X (w.Za X)
section
variable {S:Cm->Prop} {C C':List Cm} {k X:Nat} {w:Wd} {g:Gh} {M:Nat->ZN} {v:Vw} {n m:Nd}
theorem qr.same(h:qr X n)(f:m.Zc=n.Zc)(c:m.Zn=n.Zn):qr X m:=fun r hr e=>by
 rw[f]at hr;rw[c]at e ⊢;exact h r hr e
theorem dg(h:m.Zc=a7):qr X m:=fun r hr=>by grind
theorem Ziy(j:n.up=true)(G:VG n)(h:qr X n)(i:∀p,n.Zo=aL p->(YM p).p.n=X->∀r,n.Zc=aL r->¬Zj r.b (YM p).p):qr X (step n).n:=by
 cases q:n.Zo with
 | some p=>
  have e:step n=Yc (ZE n) p:=by unfold step;rw[if_pos j,q]
  rw[e]
  cases p with
  | QB a to b vs=>exact fun r hr f=>i _ q f r hr
  | Us a to y=>exact fun r hr f=>i _ q f r hr
  | Zn a vs cur=>
   cases cur with
   | false=>exact fun r hr f=>i _ q f r hr
   | true=>
    intro r' hr f;have hr:(n.Zc.map fun (r:XR)=>{ r with c:=ins r.c n.me vs })=aL r':=hr
    cases e:n.Zc with
    | none=>grind
    | some r=>
     rw[e]at hr;obtain rfl:=aag hr;exact i _ q f r e
 | none=>
  let⟨A,_,z⟩:=OD n.Zd n;have B:qr X (Zw n n.Zd).n:=fun r' hr f=>by
   let⟨r,z1,z2⟩:=A r' hr;rw[z]at f ⊢;rw[z2.k.b];exact h r z1 f
  by_cases o:(Zw n n.Zd).n.Zo=a7
  .rw[Xi j ⟨q,o⟩];show qr X (YH (Zw n n.Zd).n).n;have x:=(XH ug n.Zd n G fun _ _=>trivial).1;have D:=(YD o x.ZZ).1;intro r' hr f
   grind [WK.Zn,WK.Rd,Yw.b]
  .have e:step n=Zw n n.Zd:=by
    unfold step;rw[if_pos j,q];simp only;rw[if_pos]
    cases q:(Zw n n.Zd).n.Zo with
    | none=>grind
    | some p=>rfl
   grind
theorem Bf.set(h:Bf w)(f:qr X m):Bf (w.set X m):=fun Y c=>by
 show qr Y (if Y=X then m else w.Za Y);split
 .grind
 .exact h Y c
theorem Bf.XN(h:Bf w)(l:Yt):Bf (XN w l):=by
 grind [Bf,XN,Wd.set,qr.same]
theorem Bf.comes:∀(k:List Yt) (w:Wd),Bf w->Bf (k.foldl Go.Proofs.YtkhkmpfenaipaaaGreatDoor.XN w):=by
 intro k
 induction k with
 | nil=>grind
 | cons l k c=>intro w h;exact c _ (h.XN l)
theorem Ziz(f:X<5)(T:TI S g M w)(V:WV C v w)(G:GY w)(z:(w.Za X).up=true)(h:qr X (w.Za X)):∀p,(w.Za X).Zo=aL p->(YM p).p.n=X->∀r,(w.Za X).Zc=aL r->¬Zj r.b (YM p).p:=fun p i j r hr=>by
 have R:=(T.nd X f).Zo p i;have V1:=(V.nd X f).Zc r hr;have A:=V.kr _ V1.a;rcases (V.sN X f).2 p i with s|⟨_,q⟩
 .have o:=s X f j;rw[Yd z]at o;have x:¬Zj (YM p).p (w.Za X).Zn.p:=by
   cases p with
   | QB a to c vs=>
    grind [PR,YM,QC]
   | Us a to y=>
    grind [PR,YM,Q7]
   | Zn a vs cur=>
    grind [PR,YM,QC]
  have e:=UW o x;rw[<-e]at j ⊢;exact h r hr j
 .cases p with
  | QB a to c vs=>exact q.elim
  | Us a to y=>exact q.elim
  | Zn a vs cur=>
   let⟨r',D,B⟩:=(G X).Zn a vs cur i
   grind [Zj,Y2,YM]
theorem Bf.act(h:Bf w)(I:WI C' k w)(T:TI S g M w)(V:WV C v w)(G:GY w)(a:Ac)(hi:a.ZM<5):Bf (act w a):=by
 unfold Go.Proofs.YtkhkmpfenaipaaaGreatDoor.act;split
 .grind [Bf,Wj,VT,add,Bf.set,qr.same]
 split
 .refine h.set ?_;by_cases c:(w.Za a.ZM).up=true
  .let⟨_,_,i⟩:=df (V.nd _ hi) V.kr c;unfold lead;split
   .exact h _ hi
   .intro r hr _;rw[<-aag hr];exact Q6 (.inl i)
  .have e:lead (w.Za a.ZM)=w.Za a.ZM:=by
    unfold lead;rw[if_pos (.inl zK)]
   rw[e];exact h _ hi
 split
 .intro Y f;unfold Wd.out;show qr Y (if Y=a.ZM then (step (w.Za a.ZM)).n else w.Za Y);split
  .rename_i e;rw[<-e];by_cases c:(w.Za Y).up=true
   .exact Ziy c (G Y) (h Y f) (Ziz f T V G c (h Y f))
   .have e:(step (w.Za Y)).n=w.Za Y:=by unfold step;rw[if_neg c]
    rw[e];exact h Y f
  .exact h Y f
 split
 .grind [Bf,pick,Bf.XN]
 split
 .exact Bf.comes _ _ h
 split
 .refine h.set ?_;unfold Y4;split
  .split<;>exact dg rfl
  .exact h _ hi
 .refine h.set ?_;unfold started;split
  .exact h _ hi
  .exact dg rfl
def zw:Bf Qf:=fun X _=>dg rfl
theorem Zmo(hC:(aw C')<=100000)(hS:∀x,S x->x.err=0)(OX:∀x,S x->x∈C):∀(l:List Ac) (k:Nat) (w:Wd) (g:Gh) (M:Nat->ZN) (v:Vw),WV C v w->WI C' k w->TI S g M w->GY w->Bf w->(∀a∈l,Bb S C' a)->(∀X,X<5->(w.Za X).data.length+38*l.countP (fun a=>Wr a X)<=90000)->Bf (l.foldl Go.Proofs.YtkhkmpfenaipaaaGreatDoor.act w)/\GY (l.foldl Go.Proofs.YtkhkmpfenaipaaaGreatDoor.act w):=by
 intro l
 induction l with
 | nil=>grind
 | cons a l q=>
  intro k w g M v W I T G h i y;let⟨⟨f,o,z⟩,h4⟩:=i a zX;have J:∀X,(a :: l).countP (fun a=>Wr a X)=l.countP (fun a=>Wr a X)+if Wr a X=true then 1 else 0:=fun X=>List.countP_cons ..
  let⟨u,B,c,E,le,d⟩:=Zjv W I T hS OX f.1 o h4 fun X j=>by grind
  let⟨g',M',_,D⟩:=AD hC I T a f.1 o z;have A:∀X,((Go.Proofs.YtkhkmpfenaipaaaGreatDoor.act w a).Za X).data.length+38*l.countP (fun a=>Wr a X)<=(w.Za X).data.length+38*(a :: l).countP (fun a=>Wr a X):=fun X=>by
   grind
  exact q (k+1) _ g' M' u B (Dt hC I a f.1 f.2) D (G.act a) (h.act I T W G a f.1) (fun x r=>i x (by simp[r])) fun X j=>a8 (A X) (y X j)
end
def HD(l:List Raw):Nat:=(l.filter fun x=>decide (pJ x.k)).length
theorem qs(l:List Raw):manyN l (aw l)=100+20*HD l:=by
 have h:∀i,i<=(aw l)->manyN l i=100+20*HD (l.take i):=by
  intro i
  induction i with
  | zero=>intro _;rfl
  | succ i c=>
   intro hi;have f:i<(aw l):=uh;have c:=c uh;unfold manyN
   grind [HD,Xg]
 grind
theorem GZ(l:List Raw)(n:Nat):X3 l n=Ss (Ss l n (100+20*HD l)) n (100+20*HD l):=by
 grind [X3,qs,RP.eq_def]
def crs(l:List Raw):Nat:=l.countP fun x=>decide (x.k=8)
theorem ZeN(A:List Raw):Vr (A.map Raw.ac)+leads (A.map Raw.ac)+crs A<=HD A:=by
 induction A with
 | nil=>exact bb _
 | cons x A c=>
  grind [Vr,Raw.ac,leads,crs,HD,pJ]
theorem OF{X:Nat}(i:X<5):∀(k:Nat) (u:Wd),(u.Za X).up=true->((YJ k u).Za X).up=true/\(u.Za X).ZF.length<=((YJ k u).Za X).ZF.length:=by
 intro k
 induction k with
 | zero=>intro u c;exact⟨c,bb _⟩
 | succ k f=>
  grind [YJ,Qg,QF,Hr]
theorem A7(u:Wd)(j:Nat):∀k,YJ (j+k) u=YJ k (YJ j u):=by
 intro k
 induction k with
 | zero=>rfl
 | succ k c=>grind [YJ]
theorem ID(n:Nd):(lead n).ZF=n.ZF/\(lead n).up=n.up:=by unfold lead;grind
theorem jU{i:Nat}:∀(l:List Ac) (w:Wd),GF w->(∀a∈l,a.a≠8/\1<=a.a/\a.a<=9)->(w.Za i).ZF.length<=((l.foldl act w).Za i).ZF.length:=by
 intro l
 induction l with
 | nil=>grind
 | cons a l j=>
  intro w h c;have f:=c a zX;refine a8 ((ZdX h a i f.2).2 fun q=>f.1 q.1).1 (j _ (jg h a) fun x o=>c x (by simp[o]))
theorem ZeO{C C':List Cm}{S:Cm->Prop}(hC:(aw C')<=100000)(r:WY []∈C'){v:Vw}:∀(l:List Nat) (k:Nat) (w:Wd) (g:Gh) (M:Nat->ZN),(∀n∈l,n<5)->WV C v w->WI C' k w->TI S g M w->WV C v ((l.map fun n=>(JV n).ac).foldl act w):=by
 intro l
 induction l with
 | nil=>grind
 | cons n l j=>
  intro k w g M f V I T;have c:=f n zX;have i:((JV n).ac).ZM<5:=by show ((n:Nat):Int).toNat<5;omega
  let⟨g',M',_,q⟩:=AD hC I T (JV n).ac i (by show (0:Int)<=0;omega) fun now h=>by cases h
  have e:act w (JV n).ac=w.set n (started n (w.Za n)):=by
   unfold act JV Raw.ac;simp
  refine j (k+1) _ g' M' (fun x o=>f x (by simp[o])) ?_ (Dt hC I _ i r) q;rw[e];exact tU V c (T.nd n c)
theorem ZeP{P Q:List Raw}(hA:∀x∈P++Q,x.err=0)(hl:(P++Q).length<=100)(ax:∀x∈P++Q,x.k=4\/x.k=5\/x.k=6->x.a.toNat<20)(h6:Vr ((P++Q).map Raw.ac)<=6)(O:1<=Vr ((P++Q).map Raw.ac)){L:Nat}(hL:L<5){Y:Nat}(I:Y<5):
  ∃Z,Z<5/\((Qv P).Za Y).ZF.length<=((Qv (X3 (P++Q) L)).Za Z).ZF.length:=by
 let⟨A,o⟩:=ZO (P++Q);rw[<-o]at hA hl ax h6 O ⊢;let⟨N,hN⟩:=ZO (100+20*HD A);rw[GZ,<-hN];let⟨R1,K⟩:=ZO (X0 5);have b1:∀x∈R1,x.err=0/\x.k=9:=fun x r=>by
  grind [JV,X0,AG]
 have a3:(aw R1)=5:=by rw[K];simp[X0]
 have hB:∀x∈A++R1,x.err=0:=fun x r=>(a5.1 r).elim (hA x) fun h=>(b1 x h).1;let⟨S,J⟩:=ZO (Zq6 (A++R1));obtain⟨C',a2⟩:∃C',C'=WY [] :: (A++R1).map fun x=>WY x.data:=⟨_,rfl⟩
 obtain⟨Cs,a4⟩:∃Cs,Cs=(A.filter fun x=>decide (x.k=1)).map fun x=>JL x.data 0:=⟨_,rfl⟩
 have hC:(aw C')<=100000:=by rw[a2,bR,a6,bc,a3];omega
 have HK:WY []∈C':=by rw[a2];simp
 have ok:∀a∈(A++R1).map Raw.ac,Bb S C' a:=fun a f=>by
  let⟨O,h2,h3⟩:=ZdY hB (S:=S) (fun z hz hk now h=>by
   let⟨q1,q2⟩:=GG h (now:=0) uh uh;rw[J];exact⟨z,hz,hk,q1,q2.symm⟩) a f
  refine⟨⟨⟨O.1,zK⟩,h2,h3⟩,fun q=>?_⟩
  grind [Raw.ac]
 have a0:∀a∈P.map Raw.ac,Bb S C' a:=fun a f=>ok a zK;have V:∀a∈Q.map Raw.ac,Bb S C' a:=fun a f=>ok a zK;have U:∀a∈R1.map Raw.ac,Bb S C' a:=fun a f=>ok a zK;have hS:∀x,S x->x.err=0:=fun x h=>by
  rw[J]at h;obtain⟨a,_,_,q,rfl⟩:=h;exact tL q
 have OX:∀x,S x->x∈Cs:=fun x h=>by
  rw[J]at h
  grind [Zq6]
 have b9:(aw Cs)=Vr (A.map Raw.ac):=by
  rw[a4,a6];unfold Vr;rw[List.countP_map,List.countP_eq_length_filter];rfl
 let⟨s,hs⟩:=ZO (Qv (A++R1));have up:∀X,X<5->(s.Za X).up=true:=fun X c=>by
  have h:=yL A 0 X c;unfold JG at h
  grind [QE]
 let⟨u,hu⟩:=ZO (s.set L (lead (s.Za L)));have R:∀X,X<5->(u.Za X).up=true:=fun X c=>by
  grind [XT,ID]
 have gu:∀X,(s.Za X).ZF.length<=(u.Za X).ZF.length:=fun X=>by
  grind [XT,ID]
 let⟨B,D⟩:=ZO ((YJ N u).set L (lead ((YJ N u).Za L)));have b4:∀X,X<5->((YJ N u).Za X).up=true:=fun X c=>(OF c N u (R X c)).1;have b8:∀X,X<5->(B.Za X).up=true:=fun X c=>by
  grind [XT,ID]
 have aV:∀X,((YJ N u).Za X).ZF.length<=(B.Za X).ZF.length:=fun X=>by
  grind [XT,ID]
 have w1:Qv (Ss A L N)=YJ N u:=by
  have ea:JG A 0=A++R1:=by
   unfold JG;rw[show QE 0=[] from rfl,cq,K]
  have eb:Qv (JG A 0++[OU L])=u:=by
   rw[Oz,ea,<-hs,hu];exact IC s hL
  unfold Ss;show Qv ((JG A 0++[OU L])++X0 5++QE N)=_;rw[jo,LJ _ (fun i hi=>by grind),eb]
 have w2:Qv (Ss (Ss A L N) L N)=YJ N B:=by
  rw[pS _ L N (fun i hi=>by grind) (fun i hi=>by rw[w1,IC _ hL,<-D];grind),w1,IC _ hL,<-D]
 rw[w2];have g2:∀t,t<=N->∀X,X<5->((YJ t B).Za X).ZF.length<=((YJ N B).Za X).ZF.length:=fun t E X c=>by
  rw[show N=t+(N-t) by omega,A7]
  grind [OF]
 have g1:∀t,t<=N->∀X,X<5->((YJ t u).Za X).ZF.length<=((YJ N B).Za X).ZF.length:=fun t E X c=>by
  have O:((YJ t u).Za X).ZF.length<=((YJ N u).Za X).ZF.length:=by
   rw[show N=t+(N-t) by omega,A7];exact (OF c (N-t) _ (OF c t u (R X c)).1).2
  exact a8 O (a8 (aV X) (g2 0 (a9 _) X c))
 have gs:∀X,X<5->(s.Za X).ZF.length<=((YJ N B).Za X).ZF.length:=fun X c=>a8 (gu X) (g1 0 (a9 _) X c);have es:s=((Q++R1).map Raw.ac).foldl act (Qv P):=by rw[hs,o,bG,Oz]
 by_cases a1:∀x∈Q,x.k≠8
 .refine⟨Y,I,a8 ?_ (gs Y I)⟩;rw[es];refine jU _ _ (ji (P.map Raw.ac)) fun a f=>?_;obtain⟨x,r,rfl⟩:=bf.1 f;rcases a5.1 r with r|r
  .let⟨q,_⟩:=Ox (hA x zK);exact⟨a1 x r,q⟩
  grind [Raw.ac]
 let⟨gP,MP,_,TP,IP⟩:=Dx hC (P.map Raw.ac) 0 Qf gh0 (fun _=>Y2) (VV _) NQ fun a f=>(a0 a f).1;have cl:∀(l:List Ac) X,l.countP (fun a=>Wr a X)<=(aw l):=fun l X=>bW;have b5:(aw P)+(aw Q)<=100:=by rw[o,bc]at hl;exact hl
 let⟨vP,VP,c1,k1,_,d1⟩:=tV hC hS OX (P.map Raw.ac) 0 Qf gh0 (fun _=>Y2) vw0 jC (VV _) NQ a0 fun X _=>by
  have:=cl (P.map Raw.ac) X;rw[a6]at this;show 0+_<=_;omega
 have eP:(P.map Raw.ac).foldl act Qf=Qv P:=rfl;rw[eP]at TP IP VP d1;have dP:∀X,((Qv P).Za X).data.length<=38*(aw P):=fun X=>by
  have O:=d1 X;have h2:=cl (P.map Raw.ac) X;rw[a6]at h2;have h3:(Qf.Za X).data.length=0:=rfl;omega
 let⟨gA,MA,mA,TA,IA⟩:=Dx hC (Q.map Raw.ac) _ (Qv P) gP MP IP TP fun a f=>(V a f).1;let⟨v,VA,c2,k2,le,d2⟩:=tV hC hS OX (Q.map Raw.ac) _ (Qv P) gP MP vP VP IP TP V fun X _=>by
  grind
 have dA:∀X,(((Q.map Raw.ac).foldl act (Qv P)).Za X).data.length<=38*((aw P)+(aw Q)):=fun X=>by
  grind
 let⟨g0,M0,m0,T0,I0⟩:=Dx hC (R1.map Raw.ac) _ _ gA MA IA TA fun a f=>(U a f).1;let⟨_,_,_,_,d3⟩:=Zjw hC hS OX (R1.map Raw.ac) _ _ gA MA v VA IA TA U fun X _=>by
  grind
 have V0:WV Cs v ((R1.map Raw.ac).foldl act ((Q.map Raw.ac).foldl act (Qv P))):=by
  have e:R1.map Raw.ac=(ba 5).map fun n=>(JV n).ac:=by rw[K];unfold X0;rw[List.map_map];rfl
  rw[e];exact ZeO hC HK (ba 5) _ _ gA MA (fun n hn=>bA.1 hn) VA IA TA
 have aX:s=(R1.map Raw.ac).foldl act ((Q.map Raw.ac).foldl act (Qv P)):=by rw[es,bT,cn]
 have d4:∀X,X<5->(s.Za X).data.length<=4000:=fun X _=>by
  grind
 let⟨O0,G0⟩:=Zmo hC hS OX ((A++R1).map Raw.ac) 0 Qf gh0 (fun _=>Y2) vw0 jC (VV _) NQ zu zw ok fun X _=>by
  have:=cl ((A++R1).map Raw.ac) X;rw[a6,bc,a3]at this;show 0+_<=_;omega
 have eS:((A++R1).map Raw.ac).foldl act Qf=s:=hs.symm;rw[eS]at O0 G0;rw[<-aX]at T0 I0 V0
 have sA:Vr (A.map Raw.ac)=Vr (P.map Raw.ac)+Vr (Q.map Raw.ac):=by rw[o];unfold Vr;rw[bT,cd]
 have lA:leads (A.map Raw.ac)=leads (P.map Raw.ac)+leads (Q.map Raw.ac):=by rw[o];unfold leads;rw[bT,cd]
 rw[a6]at c1 c2;have b3:vw0.cost=0:=rfl;have b2:vw0.K.length=0:=rfl;have bN:=ZeN A;have TZ:1<=crs A:=by
  refine aW fun q=>a1 fun x r h8=>q ?_;unfold crs;exact b0.2 ⟨x,zK,zK⟩
 have ie:HD A<=100:=by
  have:HD A<=(aw A):=List.length_filter_le ..;omega
 refine aW fun b6=>?_;have low:∀X,X<5->((YJ N B).Za X).ZF.length<((Qv P).Za Y).ZF.length:=fun X c=>by
  grind
 have ae:((Qv P).Za Y).ZF.length<=40:=(IP.nd Y I).LA;have G9:=low Y I;have G:∀t,t<((Qv P).Za Y).ZF.length->Vy v t/\∃y,J9 g0 (t:Int) y:=fun t E=>by
  refine⟨le.ch t ((VP.nd Y I).Zi t fun e=>?_),?_⟩
  .have:=(IP.nd Y I).ZF t E
   grind
  .let⟨Q',b',hQ,hv⟩:=(TP.nd Y I).ZF t _ (bl E);exact⟨_,Q',b',hQ,fun i hi=>m0 _ _ _ _ (mA _ _ _ _ (hv i hi))⟩
 have Iz:1<=(WN v).length:=by
  classical
  unfold WN;exact List.length_pos_of_mem (List.mem_filter.2 ⟨bA.2 (by omega:0<40),decide_eq_true (G 0 uh).1⟩)
 have hm:1<=v.B.length:=by
  let⟨y,Q',b',hQ,hv⟩:=(G 0 uh).2;let⟨i,hi,_⟩:=hQ.meet hQ;have ga:=hQ.2.1 i hi;let⟨x,r,_⟩:=(T0.nd i ga).acc.all _ _ _ (hv i hi);let⟨_,_,j,hj,_⟩:=((V0.nd i ga).acc x r).1;have:=(bE.1 hj).1;omega
 let⟨N2,b7⟩:=ZO (min N (2500-N));exact zv hC HK hS OX up I0 T0 G0 V0 hL d4 uh ⟨uh,uh⟩ hm Iz uh uh (by omega:N<=N2\/2500<=N+N2) uh ae G O0 hu D (fun t E X c=>cf (g1 t E X c) (low X c)) fun t E X c=>cf (g2 t uh X c) (low X c)
theorem dh{cs:List bK}{j:Nat}(v:bK)(i:Nat)(h:i≠j):cb (cs.set j v) i=cb cs i:=by
 grind [cb,X2]
theorem jV{cs:List bK}{i:Nat}(h:i<(aw cs))(x:Bool):cb (cs.set i (.bool x)) i=x:=by
 unfold cb;rw[X2,List.getElem?_set_self h]
theorem ZiA{cs:List bK}{k c n v:Nat}(i:(aw cs)=40)(f:n<=7){j:Nat}(o:32<=j)(h:cb cs j=true):cb (Q2 cs k c n v).1 j=true:=by
 grind [Q2,jV,dh]
structure LI(l:List Cm):Prop where
 may:∀x∈l,x.err=0
 fit:XC J6 (Xu l)=true
 Nq:XK (Xu l)=false
 done:∀x∈l,x.k≠0->x.s+1<=ci (Xu l) (8+x.c.toNat)\/cb (Xu l) (32+x.c.toNat)=true
 last:∀c:Nat,c<8->ci (Xu l) (8+c)=0\/∃pre y e,l=pre++y :: e/\y.k≠0/\y.c=(c:Int)/\y.s+1=ci (Xu l) (8+c)/\UA (Xu pre) y=ci (Xu l) (16+c*2)/\VR (Xu pre) y=ci (Xu l) (16+c*2+1)
def Cg{st:List bK}(hb:XK st=false){x:Cm}(c:x.err=0):VO st x=0:=by
 unfold VO H9;rw[hb,if_neg HE];exact c
def LI.nil:LI []:=⟨(fun x h=>by cases h),rfl,rfl,(fun x h=>by cases h),fun c hc=>.inl (by
 have:∀c<8,ci XE (8+c)=0:=HE;exact this c hc)⟩
theorem LI.snoc{l:List Cm}(h:LI l){x:Cm}(G:x.err=0):LI (l++[x]):=by
 have B:=Cg h.Nq G;have es:Xu (l++[x])=(JA (Xu l) x).cells:=by
  have e:Xu (l++[x])=ML (Xu l) x:=by unfold Xu;rw[cn];rfl
  rw[e];unfold ML;rw[if_pos B]
 have K:UA (Xu l) x=(JA (Xu l) x).code:=by unfold UA;rw[if_pos B]
 have ev:VR (Xu l) x=(JA (Xu l) x).val:=by unfold VR;rw[if_pos B]
 let⟨k,c,s,n,v,e1,e2,e3,e4,e5,Q,E,P,r,O⟩:=JR (show Xy x.k x.c x.s x.n x.v=0 from G);have hD:JA (Xu l) x=JH (Xu l) k c s n v:=by unfold JA;rw[e1,e2,e3,e4,e5];rfl
 rw[hD]at es K ev;have A:(Xu l).length=40:=YR h.fit;have g1:=I4 h.fit k c s n v r E;have g2:=Ht A h.Nq k c s n v Q E P r O;rw[<-es]at g1 g2;have Zh:∀pre y e,l=pre++y :: e->l++[x]=pre++y :: (e++[x]):=fun pre y e q=>by rw[q];simp
 have xc:x.c.toNat=c:=uh;have may:∀z∈l++[x],z.err=0:=fun z f=>by
  grind [LI.may]
 have same:Xu (l++[x])=Xu l->(x.k≠0->x.s+1<=ci (Xu l) (8+c)\/cb (Xu l) (32+c)=true)->LI (l++[x]):=fun e hk=>by
  refine⟨may,g1,g2,fun z f D=>?_,fun c' o=>?_⟩
  .rw[e];rcases a5.1 f with f|f
   .exact h.done z f D
   grind
  .rw[e];rcases h.last c' o with q|⟨pre,y,e',U,R⟩
   .exact .inl q
   grind
 by_cases c0:k=0
 .grind [JH]
 by_cases c1:(s:Int)+1=ci (Xu l) (8+c)
 .grind [JH]
 by_cases c2:(s:Int)<ci (Xu l) (8+c)
 .grind [JH]
 by_cases c3:cb (Xu l) (32+c)=true
 .grind [JH]
 have eD:JH (Xu l) k c s n v=⟨((((Q2 (Xu l) k c n v).1.set (8+c) (aS aH ((s:Int)+1))).set (16+c*2) (aS aH 0)).set (16+c*2+1) (aS aH (Q2 (Xu l) k c n v).2)),0,(Q2 (Xu l) k c n v).2⟩:=by
  unfold JH;rw[if_neg c0,if_neg c1,if_neg c2,if_neg c3]
 rw[eD]at es K ev;have es:Xu (l++[x])=((((Q2 (Xu l) k c n v).1.set (8+c) (aS aH ((s:Int)+1))).set (16+c*2) (aS aH 0)).set (16+c*2+1) (aS aH (Q2 (Xu l) k c n v).2)):=es;have V:(Q2 (Xu l) k c n v).1.length=40:=by rw[Nz,A]
 have Z:=fun j=>FF (Xu l) k c n v r j;have a1:∀j,32<=j->cb (Xu l) j=true->cb (Xu (l++[x])) j=true:=fun j J I=>by
  rw[es,dh _ _ uh,dh _ _ uh,dh _ _ uh];exact ZiA A r J I
 have i:∀j,8<=j->j<32->j≠8+c->j≠16+c*2->j≠16+c*2+1->ci (Xu (l++[x])) j=ci (Xu l) j:=fun j J I h3 h4 h5=>by
  grind [Uk]
 have a0:ci (Xu (l++[x])) (8+c)=(s:Int)+1:=by rw[es,Uk _ _ uh,Uk _ _ uh,Uz uh]
 have a3:ci (Xu (l++[x])) (16+c*2)=0:=by rw[es,Uk _ _ uh,Uz Fo]
 have a2:ci (Xu (l++[x])) (16+c*2+1)=(Q2 (Xu l) k c n v).2:=by rw[es,Uz Fo]
 refine⟨may,g1,g2,fun z f D=>?_,fun c' o=>?_⟩
 .rcases a5.1 f with f|f
  .rcases h.done z f D with q|q
   .by_cases e:z.c.toNat=c
    .grind
    .let⟨_,zc,_,_,_,_,f2,_,_,_,_,z2,_⟩:=JR (show Xy z.k z.c z.s z.n z.v=0 from h.may z f);rw[i _ uh uh uh uh uh];exact .inl q
   grind
  grind
 .by_cases e:c'=c
  .grind
  .rw[i _ uh uh uh uh uh,i _ uh uh uh uh uh,i _ uh uh uh uh uh];rcases h.last c' o with q|⟨pre,y,e',U,R⟩
   .exact .inl q
   grind
theorem LI.app:∀(k:List Cm) (l:List Cm),LI l->(∀x∈k,x.err=0)->LI (l++k):=by
 intro k
 induction k with
 | nil=>grind
 | cons x k f=>
  intro l h c;have:=f (l++[x]) (h.snoc (c x zX)) fun y i=>c y (by simp[i])
  grind
def ZrR{l:List Cm}(h:∀x∈l,x.err=0):LI l:=by
 have:=LI.app l [] .nil h;exact this
def FT(t:PC)(l:List Cm):Prop:=∃pre y e,l=pre++y :: e/\y.k≠0/\y.c=t.c/\y.s=t.s/\((UA (Xu pre) y=t.code/\VR (Xu pre) y=t.val)\/t.code=7\/t.code=11)
theorem FT.more{t:PC}{l:List Cm}(h:FT t l)(k:List Cm):FT t (l++k):=by
 grind [FT]
theorem qt{l:List Cm}(h:∀x∈l,x.err=0){x:Cm}(f:x∈l)(j:x.k≠0)(i:Nat):FT (GS i (Xu l) x) l:=by
 have I:=ZrR h;have r:=Cg I.Nq (h x f);have y:UA (Xu l) x=(JA (Xu l) x).code:=by unfold UA;rw[if_pos r]
 have ev:VR (Xu l) x=(JA (Xu l) x).val:=by unfold VR;rw[if_pos r]
 let⟨k,c,s,n,v,e1,G,E,D,B,V,U,R,Q,P⟩:=JR (show Xy x.k x.c x.s x.n x.v=0 from h x f);have A:JA (Xu l) x=JH (Xu l) k c s n v:=by unfold JA;rw[e1,G,E,D,B];rfl
 rw[A]at y ev;have Z:x.c.toNat=c:=uh;let⟨pre,e,o⟩:=List.append_of_mem f;have code:(GS i (Xu l) x).code=(JH (Xu l) k c s n v).code:=y;have val:(GS i (Xu l) x).val=(JH (Xu l) k c s n v).val:=ev;have O:k≠0:=fun q=>j zK;unfold JH at code val;rw[if_neg O]at code val;by_cases K:(s:Int)+1=ci (Xu l) (8+c)
 .grind [FT,GS,LI.last]
 rw[if_neg K]at code val;by_cases z:(s:Int)<ci (Xu l) (8+c)
 .rw[if_pos z]at code;exact⟨pre,x,e,o,j,rfl,rfl,.inr (.inl code)⟩
 rw[if_neg z]at code;by_cases J:cb (Xu l) (32+c)=true
 .rw[if_pos J]at code;exact⟨pre,x,e,o,j,rfl,rfl,.inr (.inr code)⟩
 .rcases I.done x f j with q|q
  .grind
  grind
structure KN(n:Nd):Prop where
 st:n.store=Xu n.ZF
 wt:∀x∈n.e,x.k≠0
def KW(w:Wd):Prop:=∀i,KN (w.Za i)
def KN.wait{n m:Nd}{ts:List PC}(h:KN n)(w:Wt n m ts):KN m:=⟨w.st h.st,fun x c=>h.wt x (w.sub x c)⟩
theorem KN.same{n m:Nd}(h:KN n)(i:m.ZF=n.ZF)(f:m.e=n.e)(c:m.store=n.store):KN m:=⟨by rw[i,c];exact h.st,by rw[f];exact h.wt⟩
def qu{i:Nat}{up:Bool}{d:List Nat}{z:Int}{a:QT}:KN (ZZ i up d z a):=⟨rfl,fun x h=>by cases h⟩
theorem ZeQ{d:List Nat}{now:Int}(h:Xl d now=0):(JL d now).k≠0:=by
 let⟨_,a⟩:=(FN d now).1 h;unfold JL;rw[if_pos h];intro q;have q:Ju ((JK d).drop 22) 0=0:=q;unfold ij Px at a;rw[q]at a;split at a
 .grind
 split at a
 .grind
 rw[if_pos (.inl (by unfold CV;simp))]at a
 cases a
section
variable {w:Wd} {n m:Nd} {X:Nat}
theorem KW.set(h:KW w)(c:KN m):KW (w.set X m):=fun Y=>by
 show KN (if Y=X then m else w.Za Y);split
 .exact c
 .exact h Y
theorem KW.XN(h:KW w)(l:Yt):KW (XN w l):=by
 grind [KW,XN,KW.set,KN.same]
theorem KW.comes:∀(k:List Yt) (w:Wd),KW w->KW (k.foldl Go.Proofs.YtkhkmpfenaipaaaGreatDoor.XN w):=by
 intro k
 induction k with
 | nil=>grind
 | cons l k c=>intro w h;exact c _ (h.XN l)
theorem KW.act(h:KW w)(a:Ac):KW (act w a)/\∃ts,(act w a).ZH=w.ZH++ts/\∀t∈ts,(∃j x,t=GS j (Xu (w.Za a.ZM).ZF) x/\x∈(w.Za a.ZM).ZF/\x.k≠0)\/FT t ((act w a).Za a.ZM).ZF:=by
 have a7:∀v:Wd,KW v->v.ZH=w.ZH->KW v/\∃ts,v.ZH=w.ZH++ts/\∀t∈ts,(∃j x,t=GS j (Xu (w.Za a.ZM).ZF) x/\x∈(w.Za a.ZM).ZF/\x.k≠0)\/FT t (v.Za a.ZM).ZF:=fun v o r=>⟨o,[],zK,fun t c=>by cases c⟩
 unfold Go.Proofs.YtkhkmpfenaipaaaGreatDoor.act;split
 .unfold Wj;split
  .split
   .exact a7 _ h rfl
   .rename_i q;have q:Xl a.data (w.Za a.ZM).ZF.length=0:=aW q;have z:=ZeQ q;split
    .rename_i y;refine⟨h,_,rfl,fun t c=>.inl ?_⟩;rw[cg.1 c];exact⟨_,_,by rw[<-(h a.ZM).st];rfl,y,z⟩
    .refine a7 _ (h.set ?_) rfl;have H:=h a.ZM;refine⟨?_,fun x f=>?_⟩
     .have e1:(VT (add (w.Za a.ZM) (JL a.data (w.Za a.ZM).ZF.length)) (JL a.data (w.Za a.ZM).ZF.length)).store=(w.Za a.ZM).store:=by unfold VT add;split<;>split<;>rfl
      have B:(VT (add (w.Za a.ZM) (JL a.data (w.Za a.ZM).ZF.length)) (JL a.data (w.Za a.ZM).ZF.length)).ZF=(w.Za a.ZM).ZF:=by unfold VT add;split<;>split<;>rfl
      rw[e1,B];exact H.st
     .have A:(add (w.Za a.ZM) (JL a.data (w.Za a.ZM).ZF.length)).e=(w.Za a.ZM).e:=by unfold add;split<;>rfl
      unfold VT at f;split at f
      .rw[A]at f;exact H.wt x f
      grind [KN.wt]
  grind
 split
 .refine a7 _ (h.set ?_) rfl;unfold lead;split
  .exact h _
  .exact (h a.ZM).same rfl rfl rfl
 split
 .have S:=Zif (w.Za a.ZM);refine⟨fun Y=>?_,_,rfl,fun t c=>.inr ?_⟩
  .unfold Wd.out;show KN (if Y=a.ZM then (step (w.Za a.ZM)).n else w.Za Y);split
   .exact (h a.ZM).wait S
   .exact h Y
  .let⟨x,pre,e,o,r,i⟩:=S.ZH (h a.ZM).st t c;rw[jf,if_pos rfl];exact⟨pre,x,e,o,(h a.ZM).wt x r,by rw[i];rfl,by rw[i];rfl,.inl ⟨by rw[i];rfl,by rw[i];rfl⟩⟩
 split
 .have c:∀(v:Wd) (l:Yt),(Go.Proofs.YtkhkmpfenaipaaaGreatDoor.XN v l).ZH=v.ZH:=fun v l=>(AE v l).1;unfold pick;split
  .grind
  .split
   .refine a7 _ ?_ ?_
    .refine KW.XN ?_ _;split
     .exact h
     .exact h
    .rw[c];split<;>rfl
   .refine a7 _ ?_ ?_
    .split
     .exact h
     .exact h
    .split<;>rfl
 split
 .exact a7 _ (KW.comes _ _ h) (LG _ _).1
 split
 .refine a7 _ (h.set ?_) rfl;unfold Y4;split
  .split<;>exact qu
  .exact h _
 .refine a7 _ (h.set ?_) rfl;unfold started;split
  .exact h _
  .exact qu
end
theorem ZeR{R:List Raw}(o:∀x∈R,x.err=0)(B:(aw R)<=100000):∀n,n<=(aw R)->KW (Qv (R.take n))/\∀t∈(Qv (R.take n)).ZH,∃p i,p<=n/\i<5/\FT t ((Qv (R.take p)).Za i).ZF:=by
 intro n
 induction n with
 | zero=>intro _;exact⟨fun i=>qu,fun t j=>by cases j⟩
 | succ n f=>
  intro A;have c:n<(aw R):=uh;let⟨K,h⟩:=f uh;have e:Qv (R.take (n+1))=act (Qv (R.take n)) (R[n]).ac:=by
   rw[Xg R n c,Oz];rfl
  let⟨y,ts,r,q⟩:=K.act (R[n]).ac;rw[<-e]at y r q;let⟨_,z,_⟩:=Ox (o _ (co c));have hi:(R[n]).ac.ZM<5:=by show (R[n]).n.toNat<5;omega
  grind [qt,DF,List.length_take]
theorem ZeS:∀(l:List Cm) (st:gS),EV st->XK st.cs=false->(∀x∈l,x.err=0)->(∃k,(PA st l).2.out=st.out++k)/\∀pre y e,l=pre++y :: e->∃E,(PA st l).2.out[(aw st.out)+(aw pre)]? = aL E/\E.x=y/\E.a=UA (pre.foldl ML st.cs) y/\E.b=VR (pre.foldl ML st.cs) y:=by
 intro l
 induction l with
 | nil=>intro st _ _ _;exact⟨⟨[],(cq _).symm⟩,fun pre y e h=>by cases pre<;>cases h⟩
 | cons x l Q=>
  intro st ok hb A;have r:=A x zX;have o:=Cg hb r;let⟨k,c,s,n,v,e1,e2,Z,V,U,O,K,J,I,G⟩:=JR (show Xy x.k x.c x.s x.n x.v=0 from r);have Fv:XK (Ny st x).cs=false:=by
   show XK (JA st.cs x).cells=false;unfold JA;rw[e1,e2,Z,V,U];exact Ht (YR ok.fit) hb _ _ _ _ _ O K J I G
  let⟨⟨k,B⟩,h⟩:=Q (Ny st x) (FH ok o).1 Fv fun y R=>A y (by simp[R]);rw[Ie o];have j:(Ny st x).out=st.out++[⟨x,(JA st.cs x).code,(JA st.cs x).val,CW st.cs st.sum x⟩]:=rfl;have hs:(Ny st x).cs=ML st.cs x:=by unfold ML;rw[if_pos o];rfl
  refine⟨⟨_,by rw[B,j,bG]⟩,fun pre y e D=>?_⟩
  cases pre with
  | nil=>
   injection D with f i
   subst f;refine⟨_,by rw[B,j,bG,List.getElem?_append_right zX];simp;rfl,rfl,?_,?_⟩
   .grind [UA]
   grind [VR]
  | cons z pre=>
   injection D with f i
   subst f;let⟨E,q,P,q3,q4⟩:=h pre y e i;refine⟨E,?_,P,?_,?_⟩
   .rw[j,bc]at q;rw[<-q]
    congr 1
    simp;omega
   .grind
   grind
theorem zy{l:List Cm}(h:∀x∈l,x.err=0){pre e:List Cm}{y:Cm}(c:l=pre++y :: e):∃E,(Sg l)[(aw pre)]? = aL E/\E.x=y/\E.a=UA (Xu pre) y/\E.b=VR (Xu pre) y:=by
 have f:=GH h;unfold Sg;rw[if_pos f];let⟨E,j,i⟩:=(ZeS l Fj FG rfl h).2 pre y e c
 grind [Fj,Xu]
theorem told_plain{A:List Raw}(J:∀x∈A,x.err=0)(hl:(aw A)<=100)(a1:∀x∈A,x.k=4\/x.k=5\/x.k=6->x.a.toNat<20)(h6:Vr (A.map Raw.ac)<=6){L:Nat}(hL:L<5):
  ∀t∈(Qv (X3 A L)).ZH,∃(i:Nat) (E:ET),(Sg (yM (Qv (X3 A L))))[i]? = aL E/\E.x.c=t.c/\E.x.s=t.s/\E.x.k≠0/\((E.a=t.code/\E.b=t.val)\/t.code=7\/t.code=11):=fun t I=>by
 have f:=GJ J hL;have o:(X3 A L).length<=100000:=by
  have:=GK (l:=A) (n:=L) (b:=100) hl;omega
 let⟨R,D⟩:=ZO (X3 A L);have eR:∃k,R=A++k/\∀x∈k,x.k≠8:=by
  rw[D,GZ];let⟨V,e1,r⟩:=DZ (l:=Ss A L (100+20*HD A)) (n:=L) (many:=100+20*HD A);let⟨U,G,h2⟩:=DZ (l:=A) (n:=L) (many:=100+20*HD A);rw[e1,G];exact⟨U++V,zK,fun x c=>(a5.1 c).elim (fun q=>(h2 x q).1) fun q=>(r x q).1⟩
 let⟨k,K,hk⟩:=eR;have QV:=fun (P Q:List Raw) (e:A=P++Q) (r:1<=Vr (A.map Raw.ac)) (Y:Nat) (hY:Y<5)=>ZeP (P:=P) (Q:=Q) zK zK zK zK zK hL hY;rw[<-D]at I f o ⊢;have fin:=(ZeR f o (aw R) (bb _)).2;rw[List.take_length]at fin;let⟨p,i,hp,hi,F⟩:=fin t I;have may:∀x∈yM (Qv R),x.err=0:=fun x c=>by
  grind [FO,DF]
 have len:((Qv (R.take p)).Za i).ZF.length<=(yM (Qv R)).length:=by
  by_cases hc:p<=(aw A)
  .have e1:R.take p=A.take p:=by rw[K,List.take_append_of_le_length hc]
   have r:1<=Vr (A.map Raw.ac):=by
    let⟨pre,y,e,f1,f2,_⟩:=F;have z:y∈((Qv (A.take p)).Za i).ZF:=by rw[<-e1,f1];simp
    rcases AH (fun x c=>J x (bY c)) zK hi z with q|⟨a,B,a0,_⟩
    .rw[q]at f2;exact absurd rfl f2
    .unfold Vr;exact b0.2 ⟨a.ac,bf.2 ⟨a,bY B,rfl⟩,by show decide (a.k=1)=true;grind⟩
   let⟨Z,hZ,q⟩:=QV (A.take p) (A.drop p) (bd p A).symm r i hi;rw[bd,<-D,<-e1]at q;exact a8 q (jk _ 5 Z hZ)
  .have e1:R.take p=A++k.take (p-(aw A)):=by rw[K,List.take_append,List.take_of_length_le uh]
   have G:R=R.take p++R.drop p:=(bd p R).symm;have hd:∀x∈R.drop p,x.k≠8:=fun x c=>by
    grind
   have g:((Qv (R.take p)).Za i).ZF.length<=((Qv R).Za i).ZF.length:=by
    conv=>rhs;rw[G,Oz]
    refine jU _ _ (ji ((R.take p).map Raw.ac)) fun a B=>?_;obtain⟨x,c,rfl⟩:=bf.1 B;exact⟨hd x c,(Ox (f x (List.mem_of_mem_drop c))).1⟩
   exact a8 g (jk _ 5 i hi)
 have ext:∃e,yM (Qv R)=((Qv (R.take p)).Za i).ZF++e:=by
  refine⟨(yM (Qv R)).drop ((Qv (R.take p)).Za i).ZF.length,?_⟩
  conv=>lhs;rw[<-bd ((Qv (R.take p)).Za i).ZF.length (yM (Qv R))]
  congr 1
  rcases FO (Qv R) with q|⟨j,hj,q⟩
  .grind
  .have al:∀(s:Nat) x y,(yM (Qv R))[s]? = aL x->((Qv (R.take p)).Za i).ZF[s]? = aL y->x=y:=fun s x y c z=>by
    rw[q]at c;exact pj f o (aw R) p j i hj hi s x y zK z
   refine List.ext_getElem? fun s=>?_
   grind
 let⟨e,he⟩:=ext;have O:=F.more e;rw[<-he]at O;let⟨pre,y,e',f1,f2,f3,f4,f5⟩:=O;let⟨E,q1,q2,q3,q4⟩:=zy may f1
 grind
set_option maxRecDepth 100000
theorem Zmp(g:Gr)(c:Bool):(VW g c).k=4\/(VW g c).k=5\/(VW g c).k=6->(VW g c).a.toNat<20:=by
 have f:=WB g.c (m:=20) uh
 grind [VW]
theorem ZeT(i:List Gr)(j:Nat)(f:Bool):(∀x∈scr i j f,x.k=4\/x.k=5\/x.k=6->x.a.toNat<20)/\Vr ((scr i j f).map Raw.ac)<=6:=by
 have key:∀(l:List Gr) (st:Nat × List Raw),((∀x∈st.2,x.k=4\/x.k=5\/x.k=6->x.a.toNat<20)/\Vr (st.2.map Raw.ac)<=st.1/\Vr (st.2.map Raw.ac)<=6)->(∀x∈(l.foldl (WZ f) st).2,x.k=4\/x.k=5\/x.k=6->x.a.toNat<20)/\Vr ((l.foldl (WZ f) st).2.map Raw.ac)<=(l.foldl (WZ f) st).1/\Vr ((l.foldl (WZ f) st).2.map Raw.ac)<=6:=by
  intro l
  induction l with
  | nil=>grind
  | cons g l r=>
   intro st h;let⟨y,A,z⟩:=h;refine r _ ⟨fun x c=>?_,?_⟩
   .rcases a5.1 c with c|c
    .exact y x c
    .rw[cg.1 c];unfold NN
     grind [NM,Zmp]
   .have e:∀x:Raw,Vr ((st.2++[x]).map Raw.ac)=Vr (st.2.map Raw.ac)+if x.k=1 then 1 else 0:=fun x=>by
     grind [Vr,Raw.ac]
    grind [WZ,NN,NM]
 let⟨q,_,o⟩:=key (i.take j) (0,[]) ⟨(fun x c=>by cases c),bb _,a9 _⟩;exact⟨q,o⟩
theorem ZeU{A:List Raw}(q:∀x∈A,x.err=0)(j:(aw A)<=100000):(Qv A).ZH.length<=(aw A):=by
 obtain⟨C,hC⟩:∃C,C=A.map fun x=>WY x.data:=⟨_,rfl⟩
 have f:(aw C)<=100000:=by rw[hC,a6];exact j
 have:=oU f (A.map Raw.ac) 0 Qf (VV C) (fun a o=>by
  obtain⟨z,i,rfl⟩:=bf.1 o;let⟨_,r,_,_,_⟩:=Ox (q z i)
  grind [Raw.ac])
 have c:=this.wait;rw[a6]at c;have y:(Qv A).ZH.length<=0+(aw A):=a8 (Nat.le_add_right _ _) c;omega
def Okt(E:ET)(t:PC):Prop:=E.x.c=t.c/\E.x.s=t.s/\E.x.k≠0/\((E.a=t.code/\E.b=t.val)\/t.code=7\/t.code=11)
def ZiB(a b c d:Int):leq [Value.int aH a,aS aH b] [Value.int aH c,aS aH d]=decide (a=c/\b=d):=by
 simp[Zf2,Zf1,cu]
set_option maxHeartbeats 4000000 in
theorem ZeV(T:World)(h:Hp)(v:bK)(gs:List Gr)(ld:Int)(hv:Ts Gr.C 5 h v gs)(hg:∀g∈gs,g.ok)(hl:i64 ld)(tb:j1 Mx h):
  Zg bS T 5 #[v,aS aH ld] h fun v' h'=>v'=.bool true/\Zm h.size h h':=by
 have tk:Tk h:=tb.tk;have pa:=WB ld (m:=5) uh;refine Zg.X8 [_,_] Tryz.func5 ?_;simp only[go_sem];refine (yp T h v gs 100 true hv hg uh tk).use ?_;rintro v1 h1 ⟨b1,WF,xs,hr,U,i1⟩;let⟨A,hA⟩:=ZO (scr gs 100 true);rw[<-hA]at hr;have Ae:∀x∈A,x.err=0:=by rw[hA];exact ZhV _ _ _
 have Al:(aw A)<=100:=by rw[hA];exact ZhW _ _ _
 have xl:(aw xs)=(aw A):=by rw[<-hr];unfold Xx;simp
 obtain⟨p,c,rfl,Jx⟩:=U.open Io HE;simp only[go_sem];refine (Qu T h1 ld 5 hl uh uh).pure ?_;obtain⟨n,hn⟩:∃n:Nat,UY ld 5=n:=⟨(UY ld 5).toNat,uh⟩
 rw[hn]at pa ⊢;have n5:n<5:=uh;refine (jn T h1 _ xs n n5 U i1 uh).use ?_;rintro v4 g4 ⟨b4,_,zs,O,t4,i4⟩;have B4:Zm h.size h g4:=b1.trans (b4.mono b1.size);rw[hr]at O;have Ze:=GJ Ae n5;have Zl:(X3 A n).length<=30000:=by have:=GK (n:=n) (b:=100) Al;omega
 have zl:(aw zs)<=30000:=by
  have:=congrArg aw O;unfold Xx at this;rw[a6]at this;omega
 have tb4:=tb.Zh (Z9 (Hl h) B4);refine (ZlW T g4 v4 zs t4 i4 tb4 uh (by rw[O];exact ja Ze uh)).use ?_;rw[O];rintro _ y ⟨⟨lv,tv,vs,rfl,rf⟩,b5⟩;have B5:Zm h.size h y:=B4.trans (b5.mono B4.size);have yD:∀x∈yM (Qv (X3 A n)),x.err=0:=fun x hx=>by
  grind [FO,DF]
 have hlen:(yM (Qv (X3 A n))).length<=40:=by
  rcases FO (Qv (X3 A n)) with q|⟨i,hi,q⟩
  .grind
  .rw[q];exact ZhX Ze uh i hi
 obtain⟨c2,c1⟩:(∀x∈A,x.k=4\/x.k=5\/x.k=6->x.a.toNat<20)/\Vr (A.map Raw.ac)<=6:=by rw[hA];exact ZeT gs 100 true
 have C4:=told_plain Ae Al c2 c1 n5;have bN:(Qv (X3 A n)).ZH.length<=30000:=a8 (ZeU Ze uh) Zl;let⟨W,hW⟩:=ZO (Qv (X3 A n));rw[<-hW]at rf yD hlen C4 bN ⊢;obtain⟨ro,⟨pl,ol,cl,rfl⟩,pt,ct,rfl⟩:=rf.at.ok;let⟨R,hR⟩:=ZO (oP W (bo (aL ⟨pl,ol,a7⟩) 5 cl) (bo pt W.ZH.length ct));rw[<-hR]at ro ⊢;have a4:=ro.len;have zR:=ro.one;have c6:=ro.put;have cc:=ro.le;have et:=ro.take;let⟨g6,LY⟩:=ZO (y.push (bp (bq R) 30):Hp);have e6:=LY.symm;have b6:Zm y.size y g6:=by rw[LY];exact (Zm.refl _ _).add _
 have y6:g6[y.size]? = aL (bp (bq R) 30):=by rw[LY];exact Zf
 have r6:rd g6 ⟨y.size,0,a7⟩ 13=aL R:=ZB y6 a4;have B6:Zm h.size h g6:=B5.trans (b6.mono B5.size);have ax:=pI T g6 W _ _ vs (rf.YQ b6).at;rw[<-hR]at ax;simp only[go_sem,a4,zR,c6,cc,e6,r6,et];refine ax.use ?_;rintro v7 g7 ⟨t7,b7⟩;have B7:Zm h.size h g7:=B6.trans (b7.mono B6.size);let⟨L,hL⟩:=ZO (yM W);rw[<-hL]at t7 yD hlen C4;let⟨C1,C2,C3⟩:=pU yD;obtain⟨p7,c7,rfl,_⟩:=UD t7;have ch:=Zcw T g7 _ L t7 (tk.QL B7);rw[if_neg uh,if_neg uh,C1]at ch;simp only[go_sem];refine ch.use ?_;rintro _ g8 ⟨⟨wv,E,D,rfl,ae,oe⟩,b8⟩;simp only[Prod.mk.injEq]at ae;obtain⟨rfl,rfl⟩:=ae;have Z:(Sf L).length=40:=YR C2;have RS:=Pa C2;have vZ:(Sf L).take 40=Sf L:=Ja Z;let⟨D,hD⟩:=ZO (Sf L);rw[<-hD]at C2 Z RS vZ ⊢;have te:=oe.ts;let⟨p8,c8,c3⟩:=oe.open;subst c3;let⟨es,a2⟩:=ZO (Sg L);rw[<-a2]at C3 C4 te;rw[<-a2];let⟨P,a1⟩:=ZO (g8.push (bp (bq D) 57):Hp);have e9:=a1.symm;have b9:Zm g8.size g8 P:=by rw[a1];exact (Zm.refl _ _).add _
 have cO:((aw es):Int)=(aw L):=uh;have B9:Zm h.size h P:=B7.trans ((b8.trans (b9.mono b8.size)).mono B7.size);have c0:=te.YQ b9;let⟨_,_,a3,cw⟩:=c0.open;simp only[Value.slice.injEq]at a3;obtain⟨rfl,_,rfl⟩:=a3;have hT:∀g,Zm y.size y g->W.ZH≠[]->∃b o,pt=aL ⟨b,o,a7⟩/\b<y.size/\∀k (hk:k<W.ZH.length),rd g ⟨b,o+k*5,a7⟩ 5=aL (NE W.ZH[k]):=fun g bg XU=>by
  let⟨cx,cB,ht,c5⟩:=(rf.YQ bg).at.ZH.open (n:=5) (enc:=NE) (fun _=>rfl) (show (5:Nat)≠0 by decide);simp only[Value.slice.injEq]at ht;obtain⟨rfl,_,rfl⟩:=ht;let⟨b,o,e,hb,hh⟩:=c5 XU;let⟨_,_,cz,cN⟩:=rf.at.ZH.open (n:=5) (enc:=NE) (fun _=>rfl) (show (5:Nat)≠0 by decide)
  grind [NE,YU.rd]
 have aX:Zm y.size y P:=b6.trans ((b7.trans ((b8.trans (b9.mono b8.size)).mono b7.size)).mono b6.size);have a0:P[y.size]? = aL (bp (bq R) 30):=(b7.trans ((b8.trans (b9.mono b8.size)).mono b7.size)).get (Zb y6) y6;simp only[go_sem,Z,RS,Yf,vZ,e9];refine VS.YC (fun F g=>F 6=.pointer (aL ⟨y.size,0,a7⟩)/\F 9=bo p8 (aw es) c8/\Zm P.size P g/\∃i:Nat,i<=W.ZH.length/\F 12=aS aH i)
  (fun F _=>W.ZH.length-(vi (F 12)).toNat) rfl ⟨rfl,rfl,Zm.refl _ _,0,a9 _,rfl⟩ ?_
 rintro F2 g2 ⟨r,f,b2,i,hi,f12⟩;have x2:=b2.get (Zb a0) a0;have cR:hc g2 ⟨y.size,12,a7⟩=aL (bo pt W.ZH.length ct):=by rw[Zr x2,hR];rfl
 have l2:=Zb x2;by_cases Ye:i<W.ZH.length
 .have Yh:(i:Int)<W.ZH.length:=uh;obtain⟨bt,ot,rfl,rX,c4⟩:=hT g2 (aX.trans (b2.mono aX.size)) zK;have rt:=c4 i Ye;let⟨t,ht⟩:=ZO (W.ZH[i]);have cr:t∈W.ZH:=by rw[ht];exact co Ye
  let⟨m,E,hE,UX⟩:=C4 t cr;rw[<-ht]at rt;unfold NE at rt;obtain⟨X,hX⟩:∃X:List bK,X=[aS aH t.ZM,aS aH t.c,aS aH t.s,aS aH t.code,aS aH t.val]:=⟨_,rfl⟩
  let⟨Q,iJ⟩:=ZO (g2.push (bp (bq X) 50):Hp);have e3:=iJ.symm;rw[hX]at e3;have b3:Zm g2.size g2 Q:=by rw[iJ];exact (Zm.refl _ _).add _
  have y3:Q[g2.size]? = aL (bp (bq X) 50):=by rw[iJ];exact Zf
  have aV:Zm P.size P Q:=b2.trans (b3.mono b2.size);have U:hc Q ⟨g2.size,1,a7⟩=aL (aS aH t.c):=by rw[Zr y3,hX];rfl
  have t2:hc Q ⟨g2.size,2,a7⟩=aL (aS aH t.s):=by rw[Zr y3,hX];rfl
  have t3:hc Q ⟨g2.size,3,a7⟩=aL (aS aH t.code):=by rw[Zr y3,hX];rfl
  have ta:rd Q ⟨g2.size,3,a7⟩ 2=aL [aS aH t.code,aS aH t.val]:=by
   rw[YZ y3 (by rw[hX];simp),hX];rfl
  simp only[go_sem,r,f,f12,cR,Yh,rt,e3,l2];refine VS.YC (fun F g=>g=Q/\F 6=.pointer (aL ⟨y.size,0,a7⟩)/\F 9=bo p8 (aw es) c8/\F 12=aS aH i/\F 13=.pointer (aL ⟨g2.size,0,a7⟩)/\∃(k:Nat) (b:Bool),k<=(aw es)/\F 15=aS aH k/\F 14=.bool b/\∀j e,j<k->es[j]? = aL e->Okt e t->b=true)
   (fun F _=>(aw es)-(vi (F 15)).toNat) rfl ⟨rfl,r,f,f12,rfl,0,false,a9 _,rfl,rfl,fun j e h=>by omega⟩ ?_
  clear r f f12;rintro F3 gg ⟨rfl,r,f,f12,f13,k,b,hk,f15,f14,hb⟩;by_cases K:k<(aw es)
  .have I:(k:Int)<(aw es):=uh;obtain⟨bs,os,rfl,qO,Kn⟩:=cw zK;let⟨qk,mk,ck,ca,_⟩:=Kn k K;have B:=ca.YQ aV qO;let⟨d,hd⟩:=ZO (es[k]);have cA:es[k]? = aL d:=by rw[hd];exact bl K
   rw[<-hd]at B;have d0:hc gg ⟨bs,os+k*8,a7⟩=aL (aS aH d.x.k):=B.hc (i:=0) rfl;have d1:hc gg ⟨bs,os+k*8+1,a7⟩=aL (aS aH d.x.c):=B.hc (i:=1) rfl;have d2:hc gg ⟨bs,os+k*8+2,a7⟩=aL (aS aH d.x.s):=B.hc (i:=2) rfl;have c9:YU gg bs (os+k*8+5) [aS aH d.a,aS aH d.b]:=fun i hi=>match i,hi with
    | 0,_=>B.hc (i:=5) rfl
    | 1,_=>B.hc (i:=6) rfl
   have r5:rd gg ⟨bs,os+k*8+5,a7⟩ 2=aL [aS aH d.a,aS aH d.b]:=c9.rd zX rfl;have next:∀b':Bool,(b=true->b'=true)->(Okt d t->b'=true)->∀j e,j<k+1->es[j]? = aL e->Okt e t->b'=true:=fun b' h1 h2 j e hj he G=>by
    grind
   have al:=ZiB d.a d.b t.code t.val;simp only[go_sem,r,f,f12,f13,f14,f15,I];refine VS.q mixed zI ?_;by_cases q1:d.x.c=t.c
   .by_cases q2:d.x.s=t.s
    .by_cases q3:d.x.k=0
     .simp only[go_sem,r,f,f12,f13,f14,f15,I,d0,d1,d2,U,t2,q1,q2,q3];unfold Xz;refine⟨⟨rfl,r,f,f12,f13,k+1,b,K,rfl,f14,next b id fun G=>absurd q3 G.2.2.1⟩,?_⟩;simp only[vi,Zu,↓reduceIte,f15];omega
     .simp only[go_sem,r,f,f12,f13,f14,f15,I,d0,d1,d2,U,t2,q1,q2,q3];refine VS.q mixed zI ?_
      cases b with
      | true=>
       simp only[go_sem,r,f,f12,f13,f14,f15,I];unfold Xz;refine⟨⟨rfl,r,f,f12,f13,k+1,true,K,rfl,rfl,next true id fun G=>rfl⟩,?_⟩;simp only[vi,Zu,↓reduceIte,f15];omega
      | false=>
       by_cases q4:d.a=t.code/\d.b=t.val
       .rw[decide_eq_true q4]at al;let⟨q7,q8⟩:=q4;simp only[go_sem,r,f,f12,f13,f14,f15,I,r5,ta,q7,q8];unfold Xz;refine⟨⟨rfl,r,f,f12,f13,k+1,true,K,rfl,rfl,next true (fun _=>rfl) fun G=>rfl⟩,?_⟩;simp only[vi,Zu,↓reduceIte,f15];omega
       .rw[decide_eq_false q4]at al;have V:(decide (d.a=t.code)&&decide (d.b=t.val))=false:=by rw[<-cu];exact decide_eq_false q4
        by_cases q5:t.code=7
        .have J:=V;rw[q5]at J;simp only[go_sem,r,f,f12,f13,f14,f15,I,r5,ta,J,t3,q5];unfold Xz;refine⟨⟨rfl,r,f,f12,f13,k+1,true,K,rfl,rfl,next true (fun _=>rfl) fun G=>rfl⟩,?_⟩;simp only[vi,Zu,↓reduceIte,f15];omega
        .by_cases q6:t.code=11
         .have J:=V;rw[q6]at J;simp only[go_sem,r,f,f12,f13,f14,f15,I,r5,ta,J,t3,q5,q6];unfold Xz;refine⟨⟨rfl,r,f,f12,f13,k+1,true,K,rfl,rfl,next true (fun _=>rfl) fun G=>rfl⟩,?_⟩;simp only[vi,Zu,↓reduceIte,f15];omega
         .simp only[go_sem,r,f,f12,f13,f14,f15,I,r5,ta,V,t3,q5,q6];unfold Xz;refine⟨⟨rfl,r,f,f12,f13,k+1,false,K,rfl,rfl,next false (fun h=>h) fun G=>?_⟩,?_⟩
          .rcases G.2.2.2 with z|z|z
           .grind
           .grind
           grind
          .simp only[vi,Zu,↓reduceIte,f15];omega
    .simp only[go_sem,r,f,f12,f13,f14,f15,I,d0,d1,d2,U,t2,q1,q2];unfold Xz;refine⟨⟨rfl,r,f,f12,f13,k+1,b,K,rfl,f14,next b id fun G=>absurd G.2.1 q2⟩,?_⟩;simp only[vi,Zu,↓reduceIte,f15];omega
   .simp only[go_sem,r,f,f12,f13,f14,f15,I,d0,d1,d2,U,t2,q1];unfold Xz;refine⟨⟨rfl,r,f,f12,f13,k+1,b,K,rfl,f14,next b id fun G=>absurd G.1 q1⟩,?_⟩;simp only[vi,Zu,↓reduceIte,f15];omega
  .have I:¬(k:Int)<(aw es):=uh;have bt:b=true:=hb m E zK hE UX;subst bt;simp only[go_sem,r,f,f12,f13,f14,f15,I];unfold Xz;refine⟨⟨r,f,aV,i+1,Ye,rfl⟩,?_⟩;simp only[vi,Zu,↓reduceIte,f12];omega
 .have XX:¬(i:Int)<W.ZH.length:=uh;simp only[go_sem,r,f,f12,cR,XX,l2];exact B9.trans (b2.mono B9.size)
def Zmq{n:Int}(h:(Lit.int aH n).wf=true):i64 n:=by
 have h:(decide (IntKind.i64.min<=n)&&decide (n<=IntKind.i64.max))=true:=h;rw[Bool.and_eq_true,decide_eq_true_eq,decide_eq_true_eq,show IntKind.i64.min = -9223372036854775808 from rfl,show IntKind.i64.max=9223372036854775807 from rfl]at h;exact⟨h.1,uh⟩
def TkM(h:Hp):Prop:=Tk h/\aD 0 niv OM h
def TkM.tbs{h:Hp}(t:TkM h):j1 Mx h:=⟨t.1,t.2,rfl,rfl⟩
def ZeW{W:World}(h:laidMetH bS [("conclave/sha.numbers", Rows.laid_conclave_sha_numbers),("conclave/order.need", Rows.laid_conclave_order_need)] W):TkM W.heap:=by
 constructor
 .have c:=h.filter (fun x=>x.1 == "conclave/sha.numbers")
  exact ZkV c
 .have c:=h.filter (fun x=>x.1 == "conclave/order.need")
  exact ZgE c
def zC(os:Os)(args:Array bK):laidMetH bS [("conclave/sha.numbers", Rows.laid_conclave_sha_numbers),("conclave/order.need", Rows.laid_conclave_order_need)] ((World.doorLaid bS 87 os).forCall (fun _ _=>0) ⟨#[],args,[]⟩).memory:=
 laidMetH_of_parts3 (fuel:=8) (laidMet_of_run' 8 zI zI) zI zI
def zD{h:Hp}{k:Nat}{v:bK}(B:fit bS h k 22 [v]):∃f,Ts Gr.C 5 h v f/\∀g∈f,g.ok:=by
 let⟨f,s,O,_⟩:=vj (α:=Gr) (enc:=Gr.C) (n:=5) (ok:=fun g=>g.ok) Tryz.underlying22 zI HE (fun _=>rfl) (fun k i c=>by
  have hlen:(aw i)=5:=by
   cases k with
   | zero=>exact c.elim
   | succ k=>unfold fit at c;rw[Tryz.underlying64]at c;exact c.1
  have hL:=Za6 (P:=bS) (h:=h) 8 k 64 i (rep 5 [3]) zI (by rw[hlen];decide) c;obtain⟨K,_,rfl,x,p0,hL⟩:=Nf bh hL;obtain⟨J,_,rfl,r,p1,hL⟩:=Nf bh hL;obtain⟨I,_,rfl,q,A,hL⟩:=Nf bh hL;obtain⟨G,_,rfl,o,z,hL⟩:=Nf bh hL;obtain⟨E,_,rfl,j,y,hL⟩:=Nf bh hL;obtain rfl:=Za7 hL;have mk:∀n:Int,-9223372036854775808<=n->n<=9223372036854775807->i64 n:=fun n D Q=>⟨D,uh⟩
  exact⟨⟨K,J,I,G,E⟩,⟨⟨mk _ x p0,mk _ r p1⟩,mk _ q A,mk _ o z,mk _ j y⟩,rfl⟩) B
 exact⟨f,⟨s⟩,O⟩
