/- Part Tpt. -/
import Derived.Test.YtdpjmhgbmhjniaaGreatDoorTgr
import Derived.LaidSub
import Derived.MakeChecks
import Derived.ProofKit
import Derived.Test.YtdpjmhgbmhjniaaGreatDoorW21
import Derived.Lay
import Derived.Shelf.Vars
import Derived.HandedShaped
import Derived.Test.YtdpjmhgbmhjniaaGreatDoorTab
open Go.Value renaming slice→B,int→G,bool→K
open Go.IntKind renaming i64→j
open Go.Obj renaming cells→X
open Go.Proofs.Tryz renaming underlying3→J,prog→aa
open List renaming length→r,getElem?_eq_none→Z,mem_cons→al,append_assoc→am,getElem?_map→ao,nil_append→av
open Nat renaming lt_of_lt_of_le→N
open Option renaming bind_some→Q,map_eq_some_iff→Y,some→o,none→E
open Go renaming TypeId→M,Value→O,World→S
namespace Go.Proofs.YtdpjmhgbmhjniaaGreatDoor
open Go Go.V
set_option linter.all false
set_option maxRecDepth 100000
theorem my{x:Raw}(h:x.err=0):∀b∈Sj x.k x.n x.a x.b x.data,b≠10:=by
 obtain⟨hk,hn,_,ha,_,hb,_⟩:=QP h;have hD:∀y,QS y≠10:=fun y=>by unfold QS;split<;>omega
 have hw9:∀k:Int,1<=k/\k<=9->∀b∈YF k,b≠10:=by
  intro k hk;rcases nine hk with rfl|rfl|rfl|rfl|rfl|rfl|rfl|rfl|rfl<;>decide
 have hw:=hw9 _ hk;have Zeq:∀n:Int,0<=n->∀b∈Uy n,b≠10:=fun n h0 b hb=>by
  rw[Rq n h0]at hb;have:=NM _ b hb;omega
 have ZsZ:∀d:List Nat,∀b∈Uk d,b≠10:=by
  intro d
  induction d with
  | nil=>intro b hb;cases hb
  | cons y d ih=>
   intro b hb;rw[TJ]at hb;rcases al.1 hb with rfl|hb
   .exact hD _
   .rcases al.1 hb with rfl|hb
    .exact hD _
    .exact ih b hb
 have TM:∀l:List Nat,(∀b∈l,b≠10)->∀b∈32 :: l,b≠10:=fun l hl b hb=>by
  rcases al.1 hb with rfl|hb
  .decide
  .exact hl b hb
 have hif:∀(c:Prop) [Decidable c] (l:List Nat),(c->∀b∈l,b≠10)->∀b∈(if c then 32 :: l else []),b≠10:=fun c _ l hl b hb=>by
  split at hb
  .rename_i q;exact TM l (hl q) b hb
  .cases hb
 intro b mz;unfold Sj at mz;simp only[List.mem_append]at mz;rcases mz with (((mz|mz)|mz)|mz)|mz
 .exact hw b mz
 .exact hif _ _ (fun q=>Zeq _ (hn q).1) b mz
 .exact hif _ _ (fun q=>Zeq _ (ha q).1) b mz
 .exact hif _ _ (fun q=>Zeq _ (hb q).1) b mz
 .exact hif _ _ (fun _=>ZsZ _) b mz
theorem d8:∀(l acc:List Raw),(∀x∈l,x.err=0/\∀y∈x.data,y<256)->(r acc)+(r l)<=100000->UW (Jj l) [] acc=(acc++l,0,0):=by
 intro l
 induction l with
 | nil=>intro acc _ _;rw[List.append_nil];rfl
 | cons x l ih=>
  intro acc h hl;simp only[List.length_cons]at hl;obtain⟨h1,h2⟩:=h x Dq;have e:Jj (x :: l)=Sj x.k x.n x.a x.b x.data++10 :: Jj l:=by
   have:Jj (x :: l)=x.line++Jj l:=by simp[Jj]
   rw[this];unfold Raw.line;rw[NJ (QP h1).1,am];rfl
  rw[e,T8 _ _ _ _ (my h1),if_neg gX,av,LG h1 h2];simp only;rw[ih (acc++[x]) (fun y hy=>h y (List.mem_cons_of_mem _ hy)) (by simp only[List.length_append,List.length_singleton];omega),am];rfl
theorem mA{l:List Raw}(h:∀x∈l,x.err=0/\∀y∈x.data,y<256):∀b∈Jj l,b<256:=by
 intro b hb;unfold Jj at hb;obtain⟨t,ht,hb⟩:=List.mem_flatten.1 hb;obtain⟨x,hx,rfl⟩:=List.mem_map.1 ht;exact (RZ (h x hx).1 (h x hx).2).2.2 b hb
theorem Zer{l:List Nat}(h:∀b∈l,b<256):bl ⟨(l.map UInt8.ofNat).toArray⟩=l:=toNat_ofNat h
set_option maxHeartbeats 8000000 in
theorem eh(T:S)(h:Hp)(v:O)(gs:List Gr)(hv:Ts Gr.C 5 h v gs)(hg:∀g∈gs,g.ok)(tb:Az Ps h)(tw:Words h)(tp:Tv h)(tm:Gq h)(t1:Ra 4 h)(t2:Ra 5 h):
  Zc aa T 7 #[v] h fun v' h'=>v'=K true/\Zf h.size h h':=by
 obtain⟨p,c,gG⟩:∃p c,v=B p (r gs) c:=by
  obtain⟨p,c,h,_⟩:=hv.open (n:=5) (enc:=Gr.C) (fun _=>rfl) MZ;exact⟨p,c,h⟩
 subst gG;refine Zc.Y8 [_] Tryz.func7 ?_;have sc:=mm T h _ gs 60 true hv hg gX tb.tk;simp -implicitDefEqProofs only[go_sem];refine sc.use ?_;rintro v1 h1 ⟨b1,jP,xs,hr,s1,i1⟩;have Ae:=ZaH gs 60 true;have Al:=ZaI gs 60 true;obtain⟨A,hA⟩:=ZD (scr gs 60 true);rw[<-hA]at hr Ae Al;have xl:(r xs)=(r A):=by rw[<-hr];unfold YQ;simp
 obtain⟨p1,c1,rfl⟩:=Ht s1;have WR:∀x∈A,x.err=0/\∀y∈x.data,y<256:=fun x hx=>by
  refine⟨Ae x hx,?_⟩;rw[<-hr]at hx;unfold YQ at hx;obtain⟨z,hz,rfl⟩:=List.mem_map.1 hx;exact (i1 z hz).2
 have H7:Shown A=[Pj (Jj A),G j 0,G j 0]:=by
  unfold Shown;rw[if_neg gX,PK Ae]
 have htl:=Aa WR;have htb:=mA WR;obtain⟨s,hs⟩:∃s:ByteArray,s=⟨((Jj A).map UInt8.ofNat).toArray⟩:=⟨_,rfl⟩
 have Dn:bl s=Jj A:=by rw[hs];exact Zer htb
 have hss:s.size<=4000000:=by rw[<-Oi,Dn];omega
 have so:=Zas T h1 _ xs s1 (fun x hx=>(i1 x hx).bs) gX (tw.on b1) (tp.Yb b1);rw[hr,H7]at so;unfold Pj at so;rw[<-hs]at so;simp -implicitDefEqProofs only[go_sem];refine so.use ?_;rintro _ h2 ⟨rfl,b2⟩;have B2:Zf h.size h h2:=b1.trans (b2.mono b1.size);have ro:=ZaE T h2 s (tw.on B2) (tp.Yb B2) (tm.Yb B2) (t1.Yb B2) (t2.Yb B2);rw[if_neg gX,Dn,d8 A [] WR (by simp only[List.length_nil];omega),av]at ro;simp -implicitDefEqProofs only[go_sem];refine ro.use ?_;rintro _ h3 ⟨⟨v3,zs,rfl,hrz,s3,i3⟩,b3⟩;simp only at hrz;have zl:(r zs)=(r A):=by rw[<-hrz];unfold YQ;simp
 obtain⟨p3,c3,rfl⟩:=Ht s3;have B3:Zf h.size h h3:=B2.trans (b3.mono B2.size);have sQ:Zf h1.size h1 h3:=b2.trans (b3.mono b2.size);have tb3:=tb.Zd (ZN (Rp h) B3);have k13:Kp QC Ps h1 Ps h3:=ZN (Rp h1) sQ;have r1:=uG T h3 _ xs (s1.Yb sQ) (fun x hx=>(i1 x hx).Zd k13) tb3 gX (by rw[hr];exact LJ Ae gX);rw[hr]at r1;simp -implicitDefEqProofs only[go_sem];refine r1.use ?_;rintro _ g3 ⟨⟨lv,tv,vs,rfl,rf⟩,bg3⟩;have ZbW:∀n,n<5->((vB A).Zm n).ZP.length<=40:=fun n hn=>ZaJ Ae gX n hn;obtain⟨W,hW⟩:=ZD (vB A);rw[<-hW]at rf ZbW ⊢;obtain⟨ro1,⟨pl,ol,cl,rfl⟩,pt,ct,rfl⟩:=rf.at.ok;have lx1:pl<g3.size/\∀n,n<5->∃x,hc g3 ⟨pl,ol+n,E⟩=o x/\Ts QA.C 5 g3 x (W.Zm n).ZP:=by
  obtain⟨b',o',c',e,q1,q2⟩:=rf.at.ZP
  cases e
  exact⟨q1,q2⟩
 obtain⟨R,hR⟩:=ZD (lw W (B (o ⟨pl,ol,E⟩) 5 cl) (B pt W.ZB.length ct));rw[<-hR]at ro1 ⊢;have uH:=ro1.len;have mX:=ro1.one;have hRp:=ro1.put;have ZaF:=ro1.le;have et:=ro1.take;obtain⟨g4,Vw⟩:=ZD (g3.push (X R.toArray 30):Hp);have e4:=Vw.symm;have b4:Zf g3.size g3 g4:=by rw[Vw];exact (Zf.refl _ _).add _
 have y4:g4[g3.size]? = o (X R.toArray 30):=by rw[Vw];exact Zb
 have l4:=Za y4;have LX:Zf h3.size h3 g4:=bg3.trans (b4.mono bg3.size);have tb4:=tb.Zd (ZN (Rp h) (B3.trans (LX.mono B3.size)));have k34:Kp QC Ps h3 Ps g4:=ZN (Rp h3) LX;have r2:=uG T g4 _ zs (s3.Yb LX) (fun x hx=>(i3 x hx).Zd k34) tb4 gX (by rw[hrz];exact LJ Ae gX);rw[hrz,<-hW]at r2;simp -implicitDefEqProofs only[go_sem,uH,mX,hRp,ZaF,e4,et,l4];refine r2.use ?_;rintro _ g5 ⟨⟨lv2,tv2,vs2,rfl,rf2⟩,b5⟩;obtain⟨ro2,⟨pl2,ol2,cl2,rfl⟩,mY,ct2,rfl⟩:=rf2.at.ok;have lx2:pl2<g5.size/\∀n,n<5->∃x,hc g5 ⟨pl2,ol2+n,E⟩=o x/\Ts QA.C 5 g5 x (W.Zm n).ZP:=by
  obtain⟨b',o',c',e,q1,q2⟩:=rf2.at.ZP
  cases e
  exact⟨q1,q2⟩
 obtain⟨R2,ya⟩:∃R,R=lw W (B (o ⟨pl2,ol2,E⟩) 5 cl2) (B mY W.ZB.length ct2):=⟨_,rfl⟩
 rw[<-ya]at ro2 ⊢;have Zes:=ro2.len;have Zs2:=ro2.one;have Zs3:=ro2.put;have ZjG:=ro2.le;have et2:=ro2.take;obtain⟨g6,RU⟩:=ZD (g5.push (X R2.toArray 30):Hp);have e6:=RU.symm;have b6:Zf g5.size g5 g6:=by rw[RU];exact (Zf.refl _ _).add _
 have y6:g6[g5.size]? = o (X R2.toArray 30):=by rw[RU];exact Zb
 have l6:=Za y6;have x6:=(b5.trans (b6.mono b5.size)).get l4 y4;have q0:hc g6 ⟨g3.size,0,E⟩=o (G j W.Zo.length):=by rw[Zg x6,hR];rfl
 have q1:hc g6 ⟨g5.size,0,E⟩=o (G j W.Zo.length):=by rw[Zg y6,ya];rfl
 have q2:hc g6 ⟨g3.size,12,E⟩=o (B pt W.ZB.length ct):=by rw[Zg x6,hR];rfl
 have q3:hc g6 ⟨g5.size,12,E⟩=o (B mY W.ZB.length ct2):=by rw[Zg y6,ya];rfl
 obtain⟨U,hU⟩:∃U:List O,U=[K (W.Zm 0).up,K (W.Zm 1).up,K (W.Zm 2).up,K (W.Zm 3).up,K (W.Zm 4).up]:=⟨_,rfl⟩
 have q4:rd g6 ⟨g3.size,1,E⟩ 5=o U:=by rw[Yh x6 (by rw[uH];decide),hR,hU];rfl
 have q5:rd g6 ⟨g5.size,1,E⟩ 5=o U:=by rw[Yh y6 (by rw[Zes];decide),ya,hU];rfl
 have hUs:leq U U=true:=by rw[hU];simp[oV,fc]
 have hUf:YM [E,E,E,E,E] U=true:=by rw[hU];rfl
 have hUl:(r U)=5:=by rw[hU];rfl
 obtain⟨D,hD⟩:∃D:List O,D=[G j (W.Yj 0),G j (W.Yj 1),G j (W.Yj 2),G j (W.Yj 3),G j (W.Yj 4)]:=⟨_,rfl⟩
 have q6:rd g6 ⟨g3.size,7,E⟩ 5=o D:=by rw[Yh x6 (by rw[uH];decide),hR,hD];rfl
 have q7:rd g6 ⟨g5.size,7,E⟩ 5=o D:=by rw[Yh y6 (by rw[Zes];decide),ya,hD];rfl
 have hDs:leq D D=true:=by rw[hD];simp[wU,fc]
 have hDf:YM [o j,o j,o j,o j,o j] D=true:=by rw[hD];rfl
 have hDl:(r D)=5:=by rw[hD];rfl
 have hxz:(((r zs):Nat):Int)=(r xs):=gX;simp -implicitDefEqProofs only[go_sem,Zes,Zs2,Zs3,ZjG,e6,et2,l6,q0,q1,q2,q3,q4,q5,q6,q7,hDs,hDf,hDl,hxz];have q8:hc g6 ⟨g3.size,6,E⟩=o (B (o ⟨pl,ol,E⟩) 5 cl):=by rw[Zg x6,hR];rfl
 have q9:hc g6 ⟨g5.size,6,E⟩=o (B (o ⟨pl2,ol2,E⟩) 5 cl2):=by rw[Zg y6,ya];rfl
 refine VS.Z9 (fun F g=>g=g6/\F 10=.pointer (o ⟨g3.size,0,E⟩)/\F 12=.pointer (o ⟨g5.size,0,E⟩)/\∃k:Nat,k<=5/\F 14=G j k)
  (fun F _=>5-(vi (F 14)).toNat) rfl ⟨rfl,rfl,rfl,0,gX,rfl⟩ ?_
 rintro F3 g7 ⟨rfl,f10,f12,k,hk,f14⟩;by_cases ve:k<5
 .have BJ:(k:Int)<5:=gX;have b36:Zf g3.size g3 g7:=b4.trans ((b5.trans (b6.mono b5.size)).mono b4.size);obtain⟨x,rx,tx⟩:=lx1.2 k ve;obtain⟨y,ry,ty⟩:=lx2.2 k ve;obtain⟨px,cx,rfl,_⟩:=JG tx;obtain⟨py,cy,rfl,_⟩:=JG ty;have ca:=uJ T g7 _ _ _ _ (tx.Yb b36) (ty.Yb b6) (by have:=ZbW k ve;omega);rw[uI (fun s u v h1 h2=>by rw[h1]at h2;exact Option.some.inj h2)]at ca;have rx7:hc g7 ⟨pl,ol+k,E⟩=o (B px (W.Zm k).ZP.length cx):=by rw[b36.hc (by exact lx1.1)];exact rx
  have ry7:hc g7 ⟨pl2,ol2+k,E⟩=o (B py (W.Zm k).ZP.length cy):=by rw[b6.hc (by exact lx2.1)];exact ry
  obtain⟨L,hL⟩:=ZD ((W.Zm k).ZP);rw[<-hL]at rx7 ry7 ca;simp -implicitDefEqProofs only[go_sem,f10,f12,f14,BJ,q8];have s1:g3.size<g7.size:=N l4 (b5.trans (b6.mono b5.size)).size;have s2:pl<g7.size:=N lx1.1 b36.size;have s3:pl2<g7.size:=N lx2.1 b6.size;refine VS.z (g7.size) [24] (.p 0 (.q 1 (.p 2 (.p 3 (.q 4 (.p 5 (.p 6 (.q 7 (.p 8 (.p 9 (.q 10 (.p 11 (.p 12 (.p 13 (.p 14 (.q 15 (.p 16 (.p 17 (.q 18 (.p 19 (.q 20 (.p 21 (.p 22 (.q 23 (.w 24 (.p 25 (.p 26 .nil))))))))))))))))))))))))))) mixed po ?_;simp -implicitDefEqProofs only[go_sem,f10,f12,f14,BJ,q8,q9,rx7,ry7,s1,s2,s3,l6];refine ca.pure ?_;simp -implicitDefEqProofs only[go_sem,f14];unfold XB;refine⟨⟨rfl,f10,f12,k+1,ve,rfl⟩,?_⟩;simp only[vi,Zk,↓reduceIte,f14];omega
 .have BJ:¬(k:Int)<5:=gX;simp -implicitDefEqProofs only[go_sem,f10,f12,f14,BJ,q4,q5,hUs,hUf,hUl];have bz:=(B3.trans (LX.mono B3.size)).trans ((b5.trans (b6.mono b5.size)).mono (B3.trans (LX.mono B3.size)).size);exact bz
theorem ZjH:Tryz.prog.globalNamed "internal/strconv.uint64pow10" = o 6:=po
theorem ZjI:(Tryz.prog.globals[6]?).map (·.type)=o 284:=po
theorem ZaM:(Rows.laid_internal_strconv_uint64pow10:DataW Unit)=Lib.tabData .u64 Lib.pow10Tab:=po
theorem Zet{W:S}(h:laidMetH aa Rows.topScriptsRow.laid W):Tv W.heap:=by
 rw[Go.MakeChecks.laidMetH_plain _ _ _ po]at h;have h2:=h.filter (fun x=>x.1 == "internal/strconv.uint64pow10")
 have e:(Rows.topScriptsRow.laid.filter fun x=>x.1 == "internal/strconv.uint64pow10")=[("internal/strconv.uint64pow10", Lib.tabData .u64 Lib.pow10Tab)]:=by
  rw[<-ZaM];rfl
 rw[e]at h2;have h3:=Lib.tabIs_of_head (rest:=[]) ZjH ZjI Tryz.underlying284 Tryz.underlying239 po po h2;unfold Lib.TabIs World.var? at h3;rw[ZjH,Q]at h3;unfold Tv;split at h3
 .rename_i cs t fr hb;exact⟨t,fr,by rw[hb];simp only[Option.some.injEq]at h3;rw[h3]⟩
 .cases h3
theorem Gx{H:Type}{enc:M × O->H}{P:Program}{w:S}{base:Nat}{sp:Nat->Bool}{held:Bool}{fuel:Nat}{t e:M}{n:Nat}{cs:List O}{zs:List (List UInt8)}{p:List MemPlace}(ht:P.underlying t=o (.array n e))(he:P.underlying e=o .string)(oP:P.cellsOf e=1)(hct:P.cellsOf t=n)(h:DataW.trod enc P w base sp held fuel t cs=o (.agg (zs.map fun z=>.lit (.string z)),p)):cs=zs.map fun z=>Value.string ⟨z.toArray⟩:=by
 cases fuel with
 | zero=>simp[DataW.trod]at h
 | succ fuel=>
  simp only[DataW.trod,ht,oP,hct,Nat.mul_one]at h;split at h
  .rename_i hl;obtain⟨xs,hm,hx⟩:=Y.1 h;have Ip:xs.map (·.1)=zs.map fun z=>(DataW.lit (.string z):DataW H):=by
    have:=congrArg Prod.fst hx
    simpa using this
   have Ax:(r xs)=n:=by simpa using Lib.mapM_length hm
   have Dx:(r zs)=n:=by
    have:=congrArg r Ip;simp at this;omega
   apply List.ext_getElem?;intro i;by_cases hi:i<n
   .obtain⟨b,hb,hf⟩:=Lib.mapM_at hm i i (by simp[hi]);obtain⟨z,hc,rfl,_⟩:=DataW.trod_string he hf;have h1:cs[i]? = o (.string z):=by
     have:=congrArg (·[0]?) hc
     simpa [List.getElem?_take,List.getElem?_drop] using this
    have h2:(xs.map (·.1))[i]? = o (DataW.lit (.string z.data.toList):DataW H):=by simp[hb]
    rw[Ip]at h2;simp only[ao,Y,DataW.lit.injEq,Lit.string.injEq]at h2;obtain⟨z',FK,h3⟩:=h2;rw[h1,ao,FK,Option.map_some,h3]
   .rw[Z gX,Z L6]
  .cases h
theorem ZjJ:Tryz.prog.globalNamed "conclave/lines.words" = o 1:=po
theorem ZjK:(Tryz.prog.globals[1]?).map (·.type)=o 152:=po
theorem ZaN:(Rows.laid_conclave_lines_words:DataW Unit)=.agg ((Tw.map fun l=>l.map UInt8.ofNat).map fun z=>.lit (.string z)):=by rfl
theorem Zeu{W:S}(h:laidMetH aa Rows.topScriptsRow.laid W):Words W.heap:=by
 rw[Go.MakeChecks.laidMetH_plain _ _ _ po]at h;have h2:=h.filter (fun x=>x.1 == "conclave/lines.words")
 have e:(Rows.topScriptsRow.laid.filter fun x=>x.1 == "conclave/lines.words")=[("conclave/lines.words", .agg ((Tw.map fun l=>l.map UInt8.ofNat).map fun z=>.lit (.string z)))]:=by
  rw[<-ZaN];rfl
 rw[e]at h2;obtain⟨ps,⟨g',t',cs,fuel,p,q,Ij,ht',MH,hd,_,_⟩,_⟩:=h2;obtain rfl:=Option.some.inj (ZjJ.symm.trans Ij);obtain rfl:=Option.some.inj (ZjK.symm.trans ht');have YR:=Gx Tryz.underlying152 Tryz.underlying9 po po hd;unfold World.var? at MH;rw[ZjJ,Q]at MH;split at MH
 .rename_i c2 t2 fr hb;have MR:c2.toList=cs.toList:=by simp only[Option.some.injEq]at MH;rw[MH]
  rw[YR]at MR;refine⟨Za hb,fun k hk=>?_⟩;rw[Qd hb];have h5:c2[k]? = (c2.toList)[k]?:=Dq;rw[h5,MR];have h9:k<(r Tw):=hk;simp[Pj,List.getD_eq_getElem?_getD,List.getElem?_eq_getElem h9]
 .cases MH
theorem uN{H:Type}{enc:M × O->H}{P:Program}{w:S}{base:Nat}{sp:Nat->Bool}{held:Bool}{fuel:Nat}{t:M}{cs:List O}{x:DataW H × List MemPlace}{m:Array (String × M)}(ht:P.underlying t=o (.interface m))(h:DataW.trod enc P w base sp held fuel t cs=o x):cs=[.nilIface]\/∃u v,cs=[.iface u v]:=by
 cases fuel with
 | zero=>simp[DataW.trod]at h
 | succ fuel=>
  unfold DataW.trod at h;rw[ht]at h
  match cs,h with
  | [.nilIface],_=>exact .inl rfl
  | [.iface u v],_=>exact .inr ⟨u,v,rfl⟩
  | [],h=>simp at h
  | _ :: _ :: _,h=>simp at h
theorem gW{P:Program}{W:S}{name:String}{d:DataW Unit}{g:Nat}{t:M}{m:Array (String × M)}(hg:P.globalNamed name=o g)(ht:(P.globals[g]?).map (·.type)=o t)(hu:P.underlying t=o (.interface m))(h:laidMet P [(name,d)] W):∃ev,hc W.heap ⟨g,0,E⟩=o ev/\(ev=.nilIface\/∃te pe,ev=.iface te pe):=by
 obtain⟨ps,⟨g',t',cs,fuel,p,q,Ij,ht',MH,hd,_,_⟩,_⟩:=h;obtain rfl:=Option.some.inj (hg.symm.trans Ij);obtain rfl:=Option.some.inj (ht.symm.trans ht');have YR:=uN hu hd;unfold World.var? at MH;rw[hg,Q]at MH;split at MH
 .rename_i c2 t2 fr hb;have MR:c2.toList=cs.toList:=by simp only[Option.some.injEq]at MH;rw[MH]
  rcases YR with e|⟨u,v,e⟩
  .refine⟨.nilIface,?_,.inl rfl⟩;rw[Qd hb];have h5:c2[0]? = (c2.toList)[0]?:=Dq;rw[h5,MR,e];rfl
  .refine⟨.iface u v,?_,.inr ⟨u,v,rfl⟩⟩;rw[Qd hb];have h5:c2[0]? = (c2.toList)[0]?:=Dq;rw[h5,MR,e];rfl
 .cases MH
theorem Ap{C:Checked}{os:Os}{H:Type}{enc:M × O->H}{f:FuncId}{fn:Func}{s:ChangeSpec}{tb:M}{L:Hp->Prop}{laid:List (String × DataW Unit)}(Zy:ownKnob C.prog.godebug=E)(started:os.Started)(aI:C.prog.inits.idxOf? f=E)(nr:C.prog.funcs[f]? = o fn)(witness:∃(w:S) (tape:Tape) (i:Input),w.os=os/\(w.forCall tape i).Shaped C.prog/\i.vars=[]/\Input.okWide C.prog (w.forCall tape i) .any w.heap.size f i /\
    ((s.pre enc C.prog fn [] false (w.forCall tape i).memory i.args/\laidMetH C.prog laid (w.forCall tape i).memory)/\sizedMet enc C.prog fn (OpenSpec.ofChange s) false (w.forCall tape i).memory i.args)/\({}:Assume).holds C.prog (lone (Frame.enter C.prog f i.args .normal) [] (w.forCall tape i)))(D2:laidOutB C.prog=true)(mG:fn.params.toList.all (fun t=>(ta C.prog t).isSome)=true)(i7:fn.params.toList.all (fun t=>C.prog.readableRec t&&decide (t<C.prog.types.size))=true)(hrt:fn.resultTypes=#[tb])(htb:C.prog.underlying tb=o .bool)(Ib:s.vars=[])(D3:∀ds:List (DataW H),ds.length=fn.params.toList.length->s.fn H ds = { results:=[.lit (.bool true)],args:=ds })(hL:∀W:S,laidMetH C.prog laid W->W.ShapedOpen C.prog->L W.heap)(law:Ec C.prog L f fn.params.toList):
  ReturnsInHanded {} C os f .any (fun w args=>(s.pre enc C.prog fn [] false w args/\laidMetH C.prog laid w)/\sizedMet enc C.prog fn (OpenSpec.ofChange s) false w args) (s.post enc C.prog fn false true false false):=by
 refine returnsInHanded_of_calls Zy started aI witness ?_;rintro w tape i _ shape _ ⟨_,_,_,fn',Zs5,_,_,_,_,values⟩ ⟨⟨⟨ds,gs,before,whole,_⟩,Zev⟩,ZjL⟩ _;obtain rfl:fn=fn':=Option.some.inj (nr.symm.trans Zs5);have Zs6:=Ia D2 mG i7 hrt htb Ib D3 law (hL _ (Zev.of_heap (by rfl)) shape) values (DataW.Whole.of_heap (w':=w.forCall tape i) (by rfl) whole) (ZjL.weights whole);refine Zs6.mono fun e W' ⟨v,he,hp⟩=>?_;subst he;exact ChangeSpec.post_blind hp
def TkM(h:Hp):Prop:=Tk h/\Dl 0 niv Sh h
theorem TkM.tbs{h:Hp}(t:TkM h):Az Ps h:=⟨t.1,t.2,rfl,rfl⟩
theorem mB{h:Hp}{k:Nat}{v:O}(hv:fit aa h k 22 [v]):∃gs,Ts Gr.C 5 h v gs/\∀g∈gs,g.ok:=by
 obtain⟨gs,s,XM,_⟩:=iY (α:=Gr) (enc:=Gr.C) (n:=5) (ok:=fun g=>g.ok) Tryz.underlying22 po MZ (fun _=>rfl) (fun k ds hfe=>by
  have hlen:(r ds)=5:=by
   cases k with
   | zero=>exact hfe.elim
   | succ k=>unfold fit at hfe;rw[Tryz.underlying70]at hfe;exact hfe.1
  have hL:=oW (P:=aa) (h:=h) 8 k 70 ds (rep 5 [3]) po (by rw[hlen];decide) hfe;obtain⟨a0,_,rfl,q0,p0,hL⟩:=SF J hL;obtain⟨a1,_,rfl,q1,p1,hL⟩:=SF J hL;obtain⟨a2,_,rfl,q2,p2,hL⟩:=SF J hL;obtain⟨a3,_,rfl,q3,p3,hL⟩:=SF J hL;obtain⟨a4,_,rfl,q4,p4,hL⟩:=SF J hL;obtain rfl:=oX hL;have mk:∀n:Int,-9223372036854775808<=n->n<=9223372036854775807->i64 n:=fun n h1 h2=>⟨h1,gX⟩
  exact⟨⟨a0,a1,a2,a3,a4⟩,⟨⟨mk _ q0 p0,mk _ q1 p1⟩,mk _ q2 p2,mk _ q3 p3,mk _ q4 p4⟩,rfl⟩) hv
 exact⟨gs,⟨s⟩,XM⟩
end Go.Proofs.YtdpjmhgbmhjniaaGreatDoor
