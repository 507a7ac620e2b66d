/- Part Tgr. -/
import Derived.Test.YtdpjmhgbmhjniaaGreatDoorMoe
import Derived.Test.YtdpjmhgbmhjniaaGreatDoorLrs
import Derived.Test.YtdpjmhgbmhjniaaGreatDoorPak
open Go.Value renaming int→L,slice→N,bool→ay,pointer→aI,agg→a7
open Go.IntKind renaming i64→D
open Go.Obj renaming cells→Y
open Go.Proofs.Tryz renaming prog→be,underlying23→cT,f18→de
open List renaming length→U,getElem?_eq_getElem→am,eq_nil_of_length_eq_zero→a2,mem_cons_of_mem→a5,exists_cons_of_ne_nil→a8,length_cons→a9,length_append→bd,nil_append→bf,map_cons→bh,length_nil→bk,foldl_cons→bn,mem_cons→bo,mem_singleton→bp,take_of_length_le→br,mem_append→bz,getElem_mem→bD,getElem?_eq_some_iff→bK,length_singleton→bL,foldl_nil→bP,getElem?_map→bS,foldl_append→bU,length_take→bV,cons_append→b8,map_append→b9,append_nil→cf,getElem?_eq_none→ch,mem_append_left→co,take_succ_cons→cs,map_nil→cz,append_assoc→cS,length_map→c9,range→dc,map_take→dj
open Nat renaming le_refl→a0,lt_of_lt_of_le→a1,le_trans→bE,reduceEqDiff→bJ,strongRecOn→cc,zero_le→cn,zero_add→cy,mul_one→cV
open Int renaming tmod_eq_emod_of_nonneg→bR,toNat_natCast→cP
open Option renaming map_some→c7,some→Z,none→aa
open Array renaming getElem?_setIfInBounds→av,size_setIfInBounds→aw,getElem?_push→cu,size_push→c6
open Bool renaming false_eq_true→cx
open Classical renaming byContradiction→az
open Go renaming Value→bc
namespace Go.Proofs.YtdpjmhgbmhjniaaGreatDoor
open Go Go.V
set_option linter.all false
set_option maxRecDepth 100000
variable(T:World)
def NL(i:Nat):ByteArray:=⟨((Tw.getD i []).map UInt8.ofNat).toArray⟩
def JS(w:ByteArray):Nat->Int
 | 0=>0
 | i+1=>if 0<i/\((NL i).toList == w.toList)=true then i else JS w i
theorem Ad(w:ByteArray):∀i,0<=JS w i/\JS w i<=i:=by
 intro i
 induction i with
 | zero=>exact⟨by simp[JS],by simp[JS]⟩
 | succ i ih=>
  unfold JS;split<;>omega
theorem Af(w:ByteArray):JS w 10<=9:=by
 unfold JS;have:=(Ad w 9).2;split<;>omega
theorem um{h:Hp}(t:Words h):rd h ⟨1,0,aa⟩ 10=Z ((dc 10).map fun i=>Value.string (NL i)):=by
 have c:Xd h 1 0 ((dc 10).map fun i=>Value.string (NL i)):=fun i hi=>by
  have Av:i<10:=by simpa using hi
  rw[cy,t.2 i Av];simp[NL,Pj]
 exact c.rd Dq Dq
def wsB(s:ByteArray):List ByteArray:=Lib.splitB Ko 0 (Lib.countB ⟨(Lib.trimSuffix s.data.toList [10]).toArray⟩ Ko) ⟨(Lib.trimSuffix s.data.toList [10]).toArray⟩
theorem Zjq{h:Hp}{b i:Nat}{v:bc}(c:hc h ⟨b,i,aa⟩=Z v):b<h.size:=by
 unfold hc at c;simp only at c;split at c
 .rename_i q;exact (Array.getElem?_eq_some_iff.1 q).1
 .cases c
theorem un{h h':Hp}{b i:Nat}{v:bc}(c:hc h ⟨b,i,aa⟩=Z v)(a:Zf h.size h h'):hc h' ⟨b,i,aa⟩=Z v:=by
 have:=a.block b (Zjq c);unfold hc at c ⊢;simp only at c ⊢;rw[this];exact c
theorem Gq.Yb{h h':Hp}(m:Gq h)(a:Zf h.size h h'):Gq h':=by
 obtain⟨v,c⟩:=m;exact⟨v,un c a⟩
theorem Ra.Yb{g:Nat}{h h':Hp}(m:Ra g h)(a:Zf h.size h h'):Ra g h':=by
 obtain⟨v,c,q⟩:=m;exact⟨v,un c a,q⟩
theorem Words.on{h h':Hp}(m:Words h)(a:Zf h.size h h'):Words h':=
 ⟨a1 m.1 a.size,fun k hk=>un (m.2 k hk) a⟩
theorem LD:∀(k:Nat) (s x:ByteArray),x∈Lib.splitB Ko 0 k s->x.size<=s.size:=by
 intro k
 induction k with
 | zero=>intro s x h;rw[Lib.splitB_zero]at h;rw[bp.1 h];exact a0 _
 | succ k ih=>
  intro s x h;unfold Lib.splitB at h;split at h
  .rw[bp.1 h];exact a0 _
  .rcases bo.1 h with h|h
   .rw[h,ByteArray.size_extract];omega
   .have:=ih _ _ h;rw[ByteArray.size_extract]at this;omega
theorem Ag{k:Int}{i j:Nat}{x y:Nat × Int}(hx:(ZH k)[i]? = Z x)(hy:(ZH k)[j]? = Z y)(h:i≠j):x.1≠y.1:=by
 have hl:ZH k=[(1,4)]\/ZH k=[(2,1048576)]\/ZH k=[(1,4),(3,100000)]\/ZH k=[]:=by
  unfold ZH
  repeat' split
  all_goals simp
 obtain⟨hi,rfl⟩:=bK.1 hx;obtain⟨hj,rfl⟩:=bK.1 hy;rcases hl with e|e|e|e
 .simp only[e,a9,bk]at hi hj;omega
 .simp only[e,a9,bk]at hi hj;omega
 .simp only[e,a9,bk]at hi hj;simp only[e];have h1:i=0\/i=1:=gX;have h2:j=0\/j=1:=gX;rcases h1 with rfl|rfl<;>rcases h2 with rfl|rfl<;>first|exact absurd rfl h|simp
 .simp only[e,bk]at hi;omega
def Zjr(ws:List ByteArray)(B:Nat)(v':bc)(h':Hp):Prop:=∃(k n a c:Int) (dv:bc) (d:List Nat),v'=a7 (YA k n a c dv).toArray/\Yd B 5 h' dv d/\(0<=k/\k<=9)/\(∀z∈[n,a,c],-9223372036854775808<=z/\z<=9223372036854775807) /\
 (∃w0,ws[0]? = Z w0/\k=JS w0 10)/\(∀i x,(ZH k)[i]? = Z x->∀w m,ws[i+1]? = Z w->Lib.atoiAll w.data.toList=.ok m->YV k n a c x.1=m) /\
 (∀p,0<p->p<4->(∀x∈ZH k,x.1≠p)->YV k n a c p=0)/\(d=if k=1 then (match ws[2]? with|some w=>Q8 (bl w)|none=>[]) else [])
set_option maxHeartbeats 4000000 in
theorem Zef(h:Hp)(s:ByteArray)(hs:s.size<=4000000)(tw:Words h)(hm:Gq h)(h1:Ra 4 h)(h2:Ra 5 h):
  Zc be T 37 #[.string s] h fun v' h'=>Zjr (wsB s) h.size v' h'/\Zf h.size h h':=by
 refine Zc.PX [_] Tryz.func37 ?_;obtain⟨ha,hha⟩:=ZD (h.push (Y (YA 0 0 0 0 (N aa 0 0)).toArray 41):Hp);have ea:=hha.symm;unfold YA at ea;have ba:Zf h.size h ha:=by rw[hha];exact (Zf.refl _ _).add _
 have tr:=yV T ha s ⟨#[10]⟩ gX;have ts:(⟨(Lib.trimSuffix s.data.toList [10]).toArray⟩:ByteArray).size<=s.size:=by
  show (Lib.trimSuffix s.data.toList [10]).toArray.size<=_;rw[List.size_toArray];unfold Lib.trimSuffix;have:=Lib.size_eq s;split
  .rw[bV];omega
  .omega
 simp -implicitDefEqProofs only[go_sem,ea];refine tr.pure ?_;have eu:(⟨(Lib.trimSuffix s.data.toList (⟨#[10]⟩:ByteArray).data.toList).toArray⟩:ByteArray)=⟨(Lib.trimSuffix s.data.toList [10]).toArray⟩:=rfl;rw[eu];obtain⟨u,hu⟩:∃u:ByteArray,u=⟨(Lib.trimSuffix s.data.toList [10]).toArray⟩:=⟨_,rfl⟩
 have xp:wsB s=Lib.splitB Ko 0 (Lib.countB u Ko) u:=by rw[hu];rfl
 rw[<-hu]at ts ⊢;have hlen:=Lib.splitB_all Ko MZ 0 _ u rfl;have sp:=rY T ha u gX (hm.Yb ba);obtain⟨ws,lK⟩:=ZD (wsB s);rw[<-xp,<-lK]at sp hlen;simp -implicitDefEqProofs only[go_sem];refine sp.use ?_;rintro _ h3 ⟨t3,b3⟩;obtain⟨pw,cw,rfl,hw3⟩:=t3.open (n:=1) (enc:=yU) (fun _=>rfl) MZ;have wl:0<(U ws):=gX;obtain⟨bw,ow,rfl,jQ,Pq⟩:=hw3 (by intro e;rw[e]at wl;simp at wl);obtain⟨W0,hW0⟩:∃w,w=ws[0]:=⟨_,rfl⟩
 have B3:Zf h.size h h3:=ba.trans (b3.mono ba.size);obtain⟨h4,hh4⟩:=ZD (h3.push (Y (YA 0 0 0 0 (N aa 0 0)).toArray 41):Hp);have e4:=hh4.symm;unfold YA at e4;have b4:Zf h3.size h3 h4:=by rw[hh4];exact (Zf.refl _ _).add _
 have B4:Zf h.size h h4:=B3.trans (b4.mono B3.size);have rw4:=um (tw.on B4);have gl:=(tw.on B4).1;have c0:∀g:Hp,Zf h3.size h3 g->hc g ⟨bw,ow,aa⟩=Z (.string W0):=fun g bg=>by
  have:=(Pq 0 wl).hc (i:=0) (x:=.string ws[0]) rfl;rw[bg.hc jQ,hW0]
  simpa using this
 obtain⟨TB,hTB⟩:∃TB,TB=(dc 10).map fun i=>Value.string (NL i):=⟨_,rfl⟩
 rw[<-hTB]at rw4;have tbl:(U TB)=10:=by rw[hTB];rfl
 have tbn:∀i,i<10->nth TB i=Z (.string (NL i)):=fun i hi=>by
  rw[hTB,YE,bS,List.getElem?_range hi];rfl
 simp -implicitDefEqProofs only[go_sem,e4,rw4,gl];refine VS.Z9 (fun F g=>F 0=.string s/\F 2=aI (Z ⟨h.size,0,aa⟩)/\F 3=N (Z ⟨bw,ow,aa⟩) (U ws) cw/\F 4=aI (Z ⟨h3.size,0,aa⟩)/\F 15=a7 TB.toArray /\
   ∃i:Nat,i<=10/\F 16=L D i/\g=h3.push (Y (YA (JS W0 i) 0 0 0 (N aa 0 0)).toArray 41))
  (fun F _=>10-(vi (F 16)).toNat) rfl ⟨rfl,rfl,rfl,rfl,rfl,0,gX,rfl,by rw[hh4];rfl⟩ ?_
 rintro F g ⟨f0,f2,f3,f4,f15,i,hi,f16,hg⟩;by_cases ZL:i<10
 case neg=>
  obtain rfl:i=10:=gX;obtain⟨k,S8⟩:=ZD (JS W0 10);have k0:0<=k:=by rw[S8];exact (Ad W0 10).1
  have k9:k<=9:=by rw[S8];exact Af W0
  rw[<-S8]at hg;have bg:Zf h3.size h3 g:=by rw[hg];exact (Zf.refl _ _).add _
  have yg:g[h3.size]? = Z (Y (YA k 0 0 0 (N aa 0 0)).toArray 41):=by rw[hg];exact Zb
  have nm:=SN T g h3.size k 0 0 0 (N aa 0 0) yg;simp -implicitDefEqProofs only[go_sem,f16,f4];refine nm.use ?_;rintro _ g5 ⟨wn,rfl,Zy,b5⟩;obtain⟨A,hA⟩:=ZD (h3.size);have y5:=b5.get (Za yg) yg;rw[<-hA]at y5 Zy;obtain⟨xs,Ip⟩:=ZD (ZH k);have xs2:(U xs)<=2:=by
   rw[Ip];unfold ZH
   repeat' split
   all_goals simp
  rw[<-Ip]at Zy;obtain⟨pv0,cv0,Zeg,Jm⟩:=Zy.open;obtain⟨pv,cv,hwn,hsl⟩:=Zy.ts.open (n:=2) (enc:=QJ A) (fun _=>rfl) MZ;have olo:=Zy.Zy.ZQ;rw[hwn]at Zeg;simp only[Value.slice.injEq,true_and]at Zeg;rw[<-Zeg.2]at Jm;subst hwn;have B5:Zf h3.size h3 g5:=bg.trans (b5.mono bg.size);simp -implicitDefEqProofs only[go_sem];refine VS.Z9 (fun F g=>F 0=.string s/\F 2=aI (Z ⟨h.size,0,aa⟩)/\F 3=N (Z ⟨bw,ow,aa⟩) (U ws) cw/\F 4=aI (Z ⟨A,0,aa⟩)/\F 36=N pv (U xs) cv/\F 37=L D (U xs) /\
    ∃(j:Nat) (n a c:Int),j<=(U xs)/\F 38=L D j/\Ue (Z A) g5 g/\g[A]? = Z (Y (YA k n a c (N aa 0 0)).toArray 41) /\
    (∀z∈[n,a,c],-9223372036854775808<=z/\z<=9223372036854775807) /\
    (∀i x,xs[i]? = Z x->i<j->∀w m,ws[i+1]? = Z w->Lib.atoiAll w.data.toList=.ok m->YV k n a c x.1=m)/\(∀p,0<p->p<4->(∀x∈xs,x.1≠p)->YV k n a c p=0))
   (fun F _=>(U xs)-(vi (F 38)).toNat) rfl ⟨f0,f2,f3,by rw[hA];exact f4,rfl,rfl,0,0,0,0,cn _,rfl,Ue.refl,y5,?_,fun i x _ h=>by omega,?_⟩ ?_
  .intro z hz;simp at hz;rw[hz];decide
  .intro p h0 h4 _
   match p,h0,h4 with
   | 1,_,_=>rfl
   | 2,_,_=>rfl
   | 3,_,_=>rfl
  clear f0 f2 f3 f4 f15 f16;rintro F g' ⟨f0,f2,f3,f4,f36,f37,j,n,a,c,hj,f38,SA,y,vA,hq,hr⟩;by_cases ZL:j<(U xs)
  case neg=>
   obtain rfl:j=(U xs):=gX;have ck:hc g' ⟨A,0,aa⟩=Z (L D k):=Zg y;have lA:=Za y;have rA:rd g' ⟨A,0,aa⟩ 5=Z (YA k n a c (N aa 0 0)):=Zs y rfl;have hAh:h.size≠A:=by have:=b3.size;have:=ba.size;rw[hha]at *;simp only[c6]at *;omega
   have yr:g'[h.size]? = Z (Y (YA 0 0 0 0 (N aa 0 0)).toArray 41):=by
    have yha:ha[h.size]? = Z (Y (YA 0 0 0 0 (N aa 0 0)).toArray 41):=by rw[hha];exact Zb
    have y3:=b3.get (Za yha) yha;have y5r:=B5.get (Za y3) y3;rw[SA.block h.size (Za y5r) (by intro e;exact hAh (Option.some.inj e).symm)];exact y5r
   have ZsC:ws[0]? = Z W0:=by rw[hW0];exact am wl
   have al:∀v,(YA k n a c v).length=5:=fun _=>rfl;have fin:∀(G:Hp) (X:Obj) (dv:bc) (d:List Nat),Zf h.size h G->Yd (h.size+1) 5 G dv d->(d=if k=1 then (match ws[2]? with|some w=>Q8 (bl w)|none=>[]) else []) ->
     Zjr (wsB s) h.size (a7 (YA k n a c dv).toArray) (G.setIfInBounds h.size X)/\Zf h.size h (G.setIfInBounds h.size X):=by
    intro G X dv d bG ob hd;refine⟨⟨k,n,a,c,dv,d,rfl,⟨(ob.Zy.Z3 gX _).mono gX,ob.byte⟩,⟨k0,k9⟩,vA,⟨W0,by rw[<-lK];exact ZsC,S8⟩,?_,?_,by rw[<-lK];exact hd⟩,?_⟩
    .intro i x hx w m hw hm;rw[<-lK]at hw;rw[<-Ip]at hx;exact hq i x hx (bK.1 hx).1 w m hw hm
    .intro p h0 h4 hp;rw[<-Ip]at hp;exact hr p h0 h4 hp
    .refine⟨by rw[aw];exact bG.size,fun b hb=>?_⟩;rw[av,if_neg gX];exact bG.block b hb
   have B5h:Zf h.size h g5:=B3.trans (B5.mono B3.size);have E6:Zf h.size h g':=B5h.trans (SA.Yb B5h.size (fun b e=>by rw[<-Option.some.inj e,hA];exact B3.size));have nob:Yd (h.size+1) 5 g' (N aa 0 0) []:=⟨Own.nil _ _ _ _,fun x hx=>by cases hx⟩
   have ao:(YA k n a c (N aa 0 0)).all Yq=true:=rfl;have w9:wr g' ⟨h.size,0,aa⟩ (YA k n a c (N aa 0 0))=Z (g'.setIfInBounds h.size (Y (YA k n a c (N aa 0 0)).toArray 41)):=by
    rw[Z2 yr 0 _,if_pos ⟨by simp[YA],ao⟩];rfl
   have r9:rd (g'.setIfInBounds h.size (Y (YA k n a c (N aa 0 0)).toArray 41)) ⟨h.size,0,aa⟩ 5=Z (YA k n a c (N aa 0 0)):=
    Zs (by rw[av,if_pos rfl,if_pos (Za yr)]) rfl
   by_cases hk1:k=1
   .by_cases hw2:(2:Int)<(U ws)
    .have bw5:bw<g5.size:=a1 jQ B5.size;have bw':bw<g'.size:=a1 bw5 SA.size;have Zeh:2<(U ws):=gX;obtain⟨W2,xh⟩:∃w,w=ws[2]:=⟨_,rfl⟩
     have cw2:hc g' ⟨bw,ow+2,aa⟩=Z (.string W2):=by
      have:=(Pq 2 Zeh).hc (i:=0) (x:=.string ws[2]) rfl;rw[cV,Nat.add_zero]at this;rw[xh,<-this,<-B5.hc (p:=⟨bw,ow+2,aa⟩) jQ];unfold hc;simp only;rw[SA.block bw bw5 (by intro e;have:=Option.some.inj e;omega)]
     simp -implicitDefEqProofs only[go_sem,f37,f38,f4,ck,lA,hk1,f3,hw2,bw',cw2];have wsz:W2.size<=u.size:=LD _ _ _ (by rw[<-xp,<-lK,xh];exact bD Zeh);rw[hk1]at y;refine zc T (c:=_) rfl (B:=h.size) (A:=A) (W2:=W2) f2 f4 rfl y gX ?_;clear f0 f2 f3 f4 f36 f37 f38 y;rintro F g dv f2 f4 LZ yA od;have rA:rd g ⟨A,0,aa⟩ 5=Z (YA 1 n a c dv):=Zs yA rfl;have lA2:=Za yA;have yr2:g[h.size]? = Z (Y (YA 0 0 0 0 (N aa 0 0)).toArray 41):=by
      rw[LZ.block h.size (Za yr) (by intro e;exact hAh (Option.some.inj e).symm)];exact yr
     obtain⟨pd,cd,rfl,hdc⟩:=od.open;obtain⟨DL,hDL⟩:=ZD (Q8 (bl W2));rw[<-hDL]at od hdc rA yA;have al2:(YA 1 n a c (N pd (U DL) cd)).length=5:=rfl;have ao2:(YA 1 n a c (N pd (U DL) cd)).all Yq=true:=rfl;have w92:wr g ⟨h.size,0,aa⟩ (YA 1 n a c (N pd (U DL) cd))=Z (g.setIfInBounds h.size (Y (YA 1 n a c (N pd (U DL) cd)).toArray 41)):=by
      rw[Z2 yr2 0 _,if_pos ⟨by simp[YA],ao2⟩];rfl
     have r92:rd (g.setIfInBounds h.size (Y (YA 1 n a c (N pd (U DL) cd)).toArray 41)) ⟨h.size,0,aa⟩ 5=Z (YA 1 n a c (N pd (U DL) cd)):=
      Zs (by rw[av,if_pos rfl,if_pos (Za yr2)]) rfl
     have E7:Zf h.size h g:=E6.trans (LZ.Yb E6.size (fun b e=>by rw[<-Option.some.inj e,hA];exact B3.size));have od2:Yd (h.size+1) 5 g (N pd (U DL) cd) DL:=⟨od.Zy.mono (by have:=Za yr;omega),od.byte⟩
     have fi:=fin g (Y (YA 1 n a c (N pd (U DL) cd)).toArray 41) _ _ E7 od2 (by rw[if_pos hk1,am Zeh];simp only;rw[hDL,xh]);rw[hk1]at fi;simp -implicitDefEqProofs only[go_sem,f2,f4,lA2,rA,al2,ao2,w92,r92];exact fi
    .have fi:=fin g' (Y (YA k n a c (N aa 0 0)).toArray 41) (N aa 0 0) [] E6 nob (by rw[if_pos hk1,ch gX]);rw[hk1]at fi w9 r9 rA al ao ck;simp -implicitDefEqProofs only[go_sem,f37,f38,f4,ck,lA,hk1,f3,hw2,rA,f2,al,ao,w9,r9];exact fi
   .simp -implicitDefEqProofs only[go_sem,f37,f38,f4,ck,lA,hk1,f3,rA,f2,al,ao,w9,r9];exact fin g' _ _ [] E6 nob (by rw[if_neg hk1])
  have ZW:(j:Int)<(U xs):=gX;obtain⟨bs,os,rfl,Dn,mQ⟩:=hsl (by intro e;rw[e]at ZL;simp at ZL);have ZFT:A<g5.size:=Za y5;have bsA:bs≠A:=by
   have h1:=olo bs (by unfold ZJ;simp only;rw[if_neg gX]);rw[hg]at h1;simp only[c6]at h1;omega
  obtain⟨x,hx⟩:=ZD (xs[j]);have x3:0<x.1/\x.1<4:=by
   have h9:=UQ (k:=k) x (by rw[<-Ip,hx];exact bD ZL);exact⟨h9.2,h9.1⟩
  have rx:rd g' ⟨bs,os+j*2,aa⟩ 2=Z (QJ A x):=by
   have q:Xd g' bs (os+j*2) (QJ A x):=fun i hi=>by
    have:=mQ j ZL i (by rw[<-hx];exact hi);unfold hc at this ⊢;simp only at this ⊢;rw[SA.block bs Dn (by intro e;exact bsA (Option.some.inj e).symm)];rw[hx];exact this
   exact q.rd (by simp[QJ]) rfl
  unfold QJ at rx;obtain⟨g6,RU⟩:=ZD (g'.push (Y #[aI (Z ⟨A,x.1,aa⟩),L D x.2] 151):Hp);have e6:=RU.symm;have b6:Zf g'.size g' g6:=by rw[RU];exact (Zf.refl _ _).add _
  have y6:g6[g'.size]? = Z (Y [aI (Z ⟨A,x.1,aa⟩),L D x.2].toArray 151):=by rw[RU];exact Zb
  have ps:hc g6 ⟨g'.size,0,aa⟩=Z (aI (Z ⟨A,x.1,aa⟩)):=Zg y6;have l6:g'.size<g6.size:=by rw[RU];simp
  by_cases hw:j+1<(U ws)
  .have xS:(j:Int)+1<(U ws):=gX;have q0:(0:Int)<=(j:Int)+1:=gX;have qn:((j:Int)+1).toNat=j+1:=gX;simp -implicitDefEqProofs only[go_sem,f3,f36,f37,f38,ZW,rx,e6,xS];refine VS.z (g6.size) [12] (.p 0 (.q 1 (.p 2 (.p 3 (.p 4 (.p 5 (.q 6 (.s 7 (.p 8 (.p 9 (.p 10 (.p 11 (.w 12 .nil))))))))))))) mixed po ?_;obtain⟨w,hww⟩:=ZD (ws[j+1]);have bw5:bw<g5.size:=a1 jQ B5.size;have bw6:bw<g6.size:=a1 bw5 (bE SA.size b6.size);have cw6:hc g6 ⟨bw,ow+(j+1),aa⟩=Z (.string w):=by
    have:=(Pq (j+1) hw).hc (i:=0) (x:=.string ws[j+1]) rfl;rw[cV,Nat.add_zero]at this;rw[hww,<-this,b6.hc (a1 bw5 SA.size),<-B5.hc (p:=⟨bw,ow+(j+1),aa⟩) jQ];unfold hc;simp only;rw[SA.block bw bw5 (by intro e;have:=Option.some.inj e;omega)]
   have B5h:Zf h.size h g5:=B3.trans (B5.mono B3.size);have E6:Zf h.size h g6:=(B5h.trans (SA.Yb B5h.size (fun b e=>by rw[<-Option.some.inj e,hA];exact B3.size))).trans (b6.mono (bE B5h.size SA.size));have wsz:w.size<=u.size:=LD _ _ _ (by rw[<-xp,<-lK,hww];exact bD hw);have at':=yW T g6 w gX (h1.Yb E6) (h2.Yb E6);simp -implicitDefEqProofs only[go_sem,f3,ps,l6,xS,q0,qn,bw6,cw6];refine at'.use ?_;rintro _ g7 ⟨⟨m,ev,rfl,vg,hm1⟩,b7⟩;have y7:g7[A]? = Z (Y (YA k n a c (N aa 0 0)).toArray 41):=b7.get (a1 (Za y) b6.size) (b6.get (Za y) y);obtain⟨n',a',c',Zg7,OU,pN,ZsE⟩:∃n' a' c':Int,Jb g7 ⟨A,x.1,aa⟩ (L D m)=Z (g7.setIfInBounds A (Y (YA k n' a' c' (N aa 0 0)).toArray 41))/\YV k n' a' c' x.1=m /\
     (∀p,0<p->p<4->p≠x.1->YV k n' a' c' p=YV k n a c p)/\∀z∈[n',a',c'],-9223372036854775808<=z/\z<=9223372036854775807:=by
    simp only[bo,List.not_mem_nil,or_false,forall_eq_or_imp,forall_eq]at vA ⊢;obtain⟨x1,x2⟩:=x;simp only at x3 ⊢;rw[Ye y7 x1 _,if_pos ⟨by simp[YA];omega,rfl⟩]
    match x1,x3 with
    | 1,_=>exact⟨m,a,c,rfl,rfl,fun p h0 h4 hp=>by
      match p,h0,h4,hp with
      | 2,_,_,_=>rfl
      | 3,_,_,_=>rfl,vg,vA.2.1,vA.2.2⟩
    | 2,_=>exact⟨n,m,c,rfl,rfl,fun p h0 h4 hp=>by
      match p,h0,h4,hp with
      | 1,_,_,_=>rfl
      | 3,_,_,_=>rfl,vA.1,vg,vA.2.2⟩
    | 3,_=>exact⟨n,a,m,rfl,rfl,fun p h0 h4 hp=>by
      match p,h0,h4,hp with
      | 1,_,_,_=>rfl
      | 2,_,_,_=>rfl
      | 3,_,_,hp=>exact absurd rfl hp,vA.1,vA.2.1,vg⟩
   simp -implicitDefEqProofs only[go_sem,Zg7,f38];refine⟨b7,?_⟩;unfold XB;have bA:Ue (Z A) g5 (g7.setIfInBounds A (Y (YA k n' a' c' (N aa 0 0)).toArray 41)):=by
    refine⟨?_,fun b hb Ys=>?_⟩
    .rw[aw];exact bE SA.size (bE b6.size b7.size)
    .rw[av,if_neg (fun e=>Ys (by rw[e])),b7.block b (a1 hb (bE SA.size b6.size)),b6.block b (a1 hb SA.size)];exact SA.block b hb Ys
   refine⟨⟨f0,f2,f3,f4,f36,f37,j+1,n',a',c',ZL,rfl,bA,?_,ZsE,?_,?_⟩,?_⟩
   .rw[av,if_pos rfl,if_pos (Za y7)]
   .intro i y hy hi v m' hv Pv;by_cases HI:i=j
    .subst HI;obtain rfl:y=x:=by rw[hx];rw[am ZL]at hy;exact (Option.some.inj hy).symm
     rw[am hw]at hv;obtain rfl:v=w:=by rw[hww];exact (Option.some.inj hv).symm
     rw[OU];exact hm1 m' Pv
    .have Ys:y.1≠x.1:=Ag (k:=k) (i:=i) (j:=j) (by rw[<-Ip];exact hy) (by rw[<-Ip,hx,am ZL]) HI;have hy3:=UQ (k:=k) y (by rw[<-Ip];exact List.mem_of_getElem? hy);rw[pN y.1 hy3.2 hy3.1 Ys];exact hq i y hy gX v m' hv Pv
   .intro p h0 h4 hp;rw[pN p h0 h4 (fun e=>hp x (by rw[hx];exact bD ZL) e.symm)];exact hr p h0 h4 hp
   .simp only[vi,Z5,Gz,bJ,↓reduceIte];omega
  .have xS:¬(j:Int)+1<(U ws):=gX;simp -implicitDefEqProofs only[go_sem,f3,f36,f37,f38,ZW,rx,e6,xS];unfold XB;refine⟨⟨f0,f2,f3,f4,f36,f37,j+1,n,a,c,ZL,rfl,?_,b6.get (Za y) y,vA,?_,hr⟩,?_⟩
   .exact⟨bE SA.size b6.size,fun b hb Ys=>(b6.block b (a1 hb SA.size)).trans (SA.block b hb Ys)⟩
   .intro i y hy hi v m' hv Pv;by_cases HI:i=j
    .subst HI;rw[ch gX]at hv
     cases hv
    .exact hq i y hy gX v m' hv Pv
   .simp only[vi,Z5,Gz,bJ,↓reduceIte];omega
 have ZW:(i:Int)<10:=gX;have bg:Zf h3.size h3 g:=by rw[hg];exact (Zf.refl _ _).add _
 have cg:=c0 g bg;have tn:=tbn i ZL;have yg:g[h3.size]? = Z (Y (YA (JS W0 i) 0 0 0 (N aa 0 0)).toArray 41):=by rw[hg];exact Zb
 have ly:=Za yg;have wl':(0:Int)<(U ws):=gX;by_cases hz:(0:Int)<i
 .by_cases he:((NL i).toList == W0.toList)=true
  .have hk:JS W0 (i+1)=i:=by rw[JS,if_pos ⟨gX,he⟩]
   have w1:Jb g ⟨h3.size,0,aa⟩ (L D i)=Z (h3.push (Y (YA (i:Int) 0 0 0 (N aa 0 0)).toArray 41)):=by
    rw[Ye yg 0 _,if_pos ⟨by simp[YA],rfl⟩,hg,UI];rfl
   simp -implicitDefEqProofs only[go_sem,f0,f2,f3,f4,f15,f16,ZW,cg,tn,hz,wl',he,w1,ly];unfold XB;refine⟨⟨f0,f2,f3,f4,f15,i+1,gX,rfl,by rw[hk]⟩,?_⟩;simp only[vi,Z5,Gz,bJ,↓reduceIte];omega
  .have hk:JS W0 (i+1)=JS W0 i:=by rw[JS,if_neg (fun q=>he q.2)]
   simp -implicitDefEqProofs only[go_sem,f0,f2,f3,f4,f15,f16,ZW,cg,tn,hz,wl',he];unfold XB;refine⟨⟨f0,f2,f3,f4,f15,i+1,gX,rfl,by rw[hk];exact hg⟩,?_⟩;simp only[vi,Z5,Gz,bJ,↓reduceIte];omega
 .obtain rfl:i=0:=gX;have hk:JS W0 (0+1)=JS W0 0:=by simp[JS]
  simp -implicitDefEqProofs only[go_sem,f0,f2,f3,f4,f15,f16,ZW,cg,tn,wl'];unfold XB;refine⟨⟨f0,f2,f3,f4,f15,0+1,gX,rfl,by rw[hk];exact hg⟩,?_⟩;simp only[vi,Z5,Gz,bJ,↓reduceIte];omega
def dgs(l:List Nat):Prop:=∀b∈l,48<=b/\b<=57
def Ul(a b:Nat):Nat:=10*a+(b-48)
def St(n:Nat):List Nat:=(Lib.decDigits n).map UInt8.toNat
theorem Vx(n:Nat):St n=if n<10 then [48+n] else St (n/10)++[48+n%10]:=by
 unfold St;rw[Lib.decDigits];split
 .simp only[bh,cz,UInt8.toNat_ofNat']
  congr 1;omega
 .simp only[b9,bh,cz,UInt8.toNat_ofNat']
  congr 2;omega
theorem NM:∀n,dgs (St n):=by
 intro n
 induction n using cc with
 | _ n ih=>
  rw[Vx];split
  .intro b hb;have:b=48+n:=by simpa using hb
   omega
  .intro b hb;rcases bz.1 hb with hb|hb
   .exact ih (n/10) gX b hb
   .have:b=48+n%10:=by simpa using hb
    omega
theorem Hw:∀n,(St n).foldl Ul 0=n:=by
 intro n
 induction n using cc with
 | _ n ih=>
  rw[Vx];split
  .simp only[bn,bP,Ul];omega
  .rw[bU,ih (n/10) gX];simp only[bn,bP,Ul];omega
theorem Di(n:Nat):St n≠[]:=by
 rw[Vx];split<;>simp
theorem lL:∀n,(St n).getD 0 0=48->(St n).length=1:=by
 intro n
 induction n using cc with
 | _ n ih=>
  rw[Vx];split
  .intro;rfl
  .intro h;have Ys:=Di (n/10);have h2:(St (n/10)).getD 0 0=48:=by
    obtain⟨b,l,e⟩:=a8 Ys;rw[e]at h ⊢
    simpa using h
   have h1:=ih (n/10) gX h2;have hv:=Hw (n/10);obtain⟨b,l,e⟩:=a8 Ys;rw[e]at h1 h2 hv;have:l=[]:=by simpa using h1
   subst this;have hb:b=48:=by simpa using h2
   subst hb;simp only[bn,bP,Ul]at hv;omega
theorem uo:∀(k n:Nat),n<10 ^ (k+1)->(St n).length<=k+1:=by
 intro k
 induction k with
 | zero=>intro n h;rw[Vx,if_pos gX];simp
 | succ k ih=>
  intro n h;rw[Vx];split
  .simp
  .have:=ih (n/10) (by rw[Nat.pow_succ]at h;omega);simp only[bd,a9,bk];omega
theorem Ah:∀(l:List Nat) (a:Nat),a<=l.foldl Ul a:=by
 intro l
 induction l with
 | nil=>intro a;exact a0 _
 | cons b l ih=>intro a;have:=ih (Ul a b);simp only[bn];unfold Ul at *;omega
theorem dU(l:List Nat)(b a:Nat):(l++[b]).foldl Ul a=Ul (l.foldl Ul a) b:=by rw[bU];rfl
theorem lP:∀(l:List Nat) (a:Nat),0<a->0<l.foldl Ul a:=fun l a h=>a1 h (Ah l a)
theorem Zav:∀(n:Nat) (l:List Nat),(U l)=n->l≠[]->dgs l->(l.getD 0 0=48->(U l)=1)->St (l.foldl Ul 0)=l:=by
 intro n
 induction n with
 | zero=>intro l h Ys;exact absurd (a2 h) Ys
 | succ n ih=>
  intro l hl Ys hd h0;have IG:=List.dropLast_concat_getLast Ys;obtain⟨m,hm⟩:=ZD (l.dropLast);obtain⟨b,hb⟩:=ZD (l.getLast Ys);rw[<-hm,<-hb]at IG;have fX:(U m)=n:=by have:=congrArg U IG;simp only[bd,bL]at this;omega
  have hdb:=hd b (by rw[<-IG];simp);rw[<-IG,dU];by_cases uR:m=[]
  .subst uR;simp only[bP,Ul,bf];rw[Vx,if_pos gX]
   congr 1;omega
  .have hdm:dgs m:=fun x hx=>hd x (by rw[<-IG];exact co _ hx);obtain⟨c,r,e⟩:=a8 uR;have At:c≠48:=by
    intro q;have:=h0 (by rw[<-IG,e,q];rfl);rw[<-IG,e]at this;simp at this
   have hcd:=hdm c (by rw[e];simp);have ih':=ih m fX uR hdm (fun q=>by rw[e]at q;exact absurd (by simpa using q) At);have hp:0<m.foldl Ul 0:=by
    rw[e];simp only[bn];exact lP _ _ (by unfold Ul;omega)
   obtain⟨M,hM⟩:=ZD (m.foldl Ul 0);rw[<-hM]at hp ih' ⊢;have ev:Ul M b=10*M+(b-48):=rfl;rw[Vx,if_neg gX,show Ul M b/10=M by omega,ih',show 48+Ul M b%10=b by omega]
theorem LF:∀(l:List Nat) (a:Nat),dgs l->RQ l a=(l.foldl Ul a:Nat):=by
 intro l
 induction l with
 | nil=>intro a _;rfl
 | cons b l ih=>
  intro a hd;have hb:=hd b Dq;rw[Nu,if_neg gX,bn,<-ih _ (fun x hx=>hd x (a5 _ hx))]
  congr 1
  unfold Ul;omega
theorem Ai:∀(l:List Nat) (a:Int),¬dgs l->RQ l a = -1:=by
 intro l
 induction l with
 | nil=>intro a h;exact absurd (fun b hb=>by cases hb) h
 | cons b l ih=>
  intro a h;rw[Nu];split
  .rfl
  .rename_i hb;refine ih _ fun hd=>h fun x hx=>?_;rcases bo.1 hx with rfl|hx
   .omega
   .exact hd x hx
theorem lQ(n:Nat)(h:n<10000000):Xm (St n)=n:=by
 have h1:=uo 6 n (by simpa using h);have h2:=Di n;have h3:=lL n;have h4:(St n).length≠0:=fun e=>h2 (a2 e);unfold Xm;rw[if_neg (by rintro (q|q|⟨q,r⟩)<;>first|exact h4 q|omega|(have:=h3 q;omega)),show (0:Int)=((0:Nat):Int) from rfl,LF _ _ (NM n),Hw]
theorem lT{l:List Nat}(h:0<=Xm l):St (Xm l).toNat=l:=by
 unfold Xm at h ⊢;split at h
 .omega
 .rename_i hn;rw[if_neg hn];by_cases hd:dgs l
  .rw[show (0:Int)=((0:Nat):Int) from rfl,LF _ _ hd,cP];exact Zav _ l rfl (fun e=>hn (.inl (by rw[e];rfl))) hd (fun q=>by
    have:¬1<(U l):=fun r=>hn (.inr (.inr ⟨q,r⟩));have:(U l)≠0:=fun r=>hn (.inl r);omega)
  .rw[Ai _ _ hd]at h;omega
theorem Rq(n:Int)(h:0<=n):Uy n=St n.toNat:=by
 unfold Uy St Lib.itoa;rw[if_neg gX]
theorem lU:∀(l:List UInt8) (a:Nat),dgs (l.map UInt8.toNat)->(l.map UInt8.toNat).foldl Ul a<1844674407370955162->Lib.parseUint10 a l=.ok ((l.map UInt8.toNat).foldl Ul a):=by
 intro l
 induction l with
 | nil=>intro a _ _;rfl
 | cons c r ih=>
  intro a hd hv;have hc:=hd c.toNat Dq;simp only[bh,bn]at hv ⊢;have hle:=Ah (r.map UInt8.toNat) (Ul a c.toNat);have ha:a<=Ul a c.toNat:=by unfold Ul;omega
  have hx:a*10+(c.toNat-48)=Ul a c.toNat:=by unfold Ul;omega
  unfold Lib.parseUint10;rw[if_pos hc,if_neg gX,hx,if_neg gX];exact ih _ (fun x hx=>hd x (by rw[bh];exact a5 _ hx)) hv
theorem uq(n:Nat)(h:n<10000000):Lib.atoiAll (Lib.decDigits n)=.ok (n:Int):=by
 have Ys:Lib.decDigits n≠[]:=fun e=>Di n (by unfold St;rw[e];rfl);obtain⟨c,r,e⟩:=a8 Ys;have hd:=NM n;have hv:=Hw n;unfold St at hd hv;rw[e]at hd hv ⊢;have hc:=hd c.toNat Dq;rw[Lib.atoiAll_plain c r gX gX];unfold Lib.parseMag;rw[if_neg Dq,lU _ 0 hd gX,hv];unfold Lib.signless;simp only;rw[if_neg gX]
theorem ur:∀y,y<16->VN (QS y)=y:=MZ
theorem ut(c:Nat)(h:0<=VN c):QS (VN c).toNat=c:=by
 unfold VN at h ⊢;split at h
 .rename_i q;rw[if_pos q];unfold QS;rw[if_pos gX];omega
 .rename_i q;rw[if_neg q];split at h
  .rename_i r;rw[if_pos r];unfold QS;rw[if_neg gX];omega
  .omega
theorem TJ(x:Nat)(d:List Nat):Uk (x :: d)=QS (x/16) :: QS (x%16) :: Uk d:=by simp[Uk]
theorem Zej:∀d:List Nat,(∀x∈d,x<256)->Dh (Uk d)=Z d:=by
 intro d
 induction d with
 | nil=>intro _;rfl
 | cons x d ih=>
  intro h;have hx:=h x Dq;rw[TJ,BY,ur _ gX,ur _ gX,if_neg gX,ih (fun y hy=>h y (a5 _ hy)),c7]
  congr 2;omega
theorem uw:∀(n:Nat) (l d:List Nat),(U l)<=n->Dh l=Z d->Uk d=l/\∀x∈d,x<256:=by
 intro n
 induction n with
 | zero=>
  intro l d hl h;have:l=[]:=a2 gX;subst this
  cases h
  exact⟨rfl,fun x hx=>by cases hx⟩
 | succ n ih=>
  intro l d hl h
  match l,hl,h with
  | [],_,h=>cases h;exact⟨rfl,fun x hx=>by cases hx⟩
  | [x],_,h=>cases h
  | x :: y :: l,hl,h=>
   rw[BY]at h;split at h
   .cases h
   .rename_i q
    cases hr:Dh l with
    | none=>rw[hr]at h;cases h
    | some e=>
     rw[hr]at h;simp only[c7,Option.some.injEq]at h;subst h;obtain⟨h1,h2⟩:=ih l e (by simp only[a9]at hl;omega) hr;have rx:=Hu x;have ry:=Hu y;refine⟨?_,fun z hz=>?_⟩
     .rw[TJ,h1,show (16*VN x+VN y).toNat/16=(VN x).toNat by omega,show (16*VN x+VN y).toNat%16=(VN y).toNat by omega,ut x gX,ut y gX]
     .rcases bo.1 hz with rfl|hz
      .omega
      .exact h2 z hz
theorem Zaw:∀y z,y<16->z<16->mS (QS y) (QS z)=16*y+z:=by
 have h:∀y,y<16->∀z,z<16->mS (QS y) (QS z)=16*y+z:=by decide +kernel
 exact fun y z hy hz=>h y hy z hz
theorem lV:∀d:List Nat,(∀x∈d,x<256)->Q8 (Uk d)=d:=by
 intro d
 induction d with
 | nil=>intro _;rfl
 | cons x d ih=>
  intro h;have hx:=h x Dq;rw[TJ];show mS _ _ :: Q8 (Uk d)=_;rw[ih (fun y hy=>h y (a5 _ hy)),Zaw _ _ gX gX]
  congr 1;omega
theorem Vy{b:Nat}{l:List Nat}:Xn (b :: l)=if b=32 then [] :: Xn l else glue [b] (Xn l):=rfl
theorem dV:∀w:List Nat,(∀b∈w,b≠32)->Xn w=[w]:=by
 intro w
 induction w with
 | nil=>intro _;rfl
 | cons b w ih=>
  intro h;rw[Vy,if_neg (h b Dq),ih (fun x hx=>h x (a5 _ hx))];rfl
theorem lW:∀(w r:List Nat),(∀b∈w,b≠32)->Xn (w++32 :: r)=w :: Xn r:=by
 intro w
 induction w with
 | nil=>intro r _;rw[bf,Vy,if_pos rfl]
 | cons b w ih=>
  intro r h;rw[b8,Vy,if_neg (h b Dq),ih r (fun x hx=>h x (a5 _ hx))];rfl
def Hx:List (List Nat)->List Nat
 | []=>[]
 | [w]=>w
 | w :: v :: l=>w++32 :: Hx (v :: l)
theorem dW(b:Nat):∀k:List (List Nat),k≠[]->Hx (glue [b] k)=b :: Hx k:=by
 intro k hk
 match k,hk with
 | [w],_=>rfl
 | w :: v :: l,_=>rfl
theorem Aj:∀l:List Nat,Hx (Xn l)=l:=by
 intro l
 induction l with
 | nil=>rfl
 | cons b l ih=>
  rw[Vy];split
  .rename_i q;have Ys:=Mt l;obtain⟨w,k,e⟩:=a8 Ys;rw[e]at ih ⊢;show []++32 :: Hx (w :: k)=_;rw[ih,q];rfl
  .rw[dW b _ (Mt l),ih]
theorem QP{k n a b:Int}{m:Nat}(h:XV k n a b m=0):(1<=k/\k<=9)/\(Yl k->0<=n/\n<=4)/\(¬Yl k->n=0)/\(Xe k->0<=a/\a<=1048576)/\(¬Xe k->a=0)/\(k=8->0<=b/\b<=100000)/\(k≠8->b=0)/\(k≠1->m=0)/\m<=2000:=by
 unfold XV at h;split at h
 .cases h
 .split at h
  .cases h
  .split at h
   .cases h
   .split at h
    .cases h
    .rename_i q1 q2 q3 q4;refine⟨gX,fun g=>?_,fun g=>?_,fun g=>?_,fun g=>?_,fun g=>?_,fun g=>?_,fun g=>?_,gX⟩
     .exact az fun e=>q2 (.inl ⟨g,e⟩)
     .exact az fun e=>q4 (.inl ⟨g,e⟩)
     .exact az fun e=>q2 (.inr (.inl ⟨g,e⟩))
     .exact az fun e=>q4 (.inr (.inl ⟨g,e⟩))
     .exact az fun e=>q2 (.inr (.inr ⟨g,e⟩))
     .exact az fun e=>q4 (.inr (.inr (.inl ⟨g,e⟩)))
     .exact az fun e=>q4 (.inr (.inr (.inr ⟨g,gX⟩)))
def Sk(x:Raw):List (List Nat):=(if Yl x.k then [Uy x.n] else [])++(if Xe x.k then [Uy x.a] else [])++(if x.k=8 then [Uy x.b] else [])++(if x.k=1 then [Uk x.data] else [])
def Sm(ws:List (List Nat)):List Nat:=(ws.map (32 :: ·)).flatten
theorem Hy(w:List Nat)(ws:List (List Nat)):Sm (w :: ws)=32 :: w++Sm ws:=by simp[Sm]
theorem dX:∀(ws:List (List Nat)) (w:List Nat),(∀b∈w,b≠32)->(∀v∈ws,∀b∈v,b≠32)->Xn (w++Sm ws)=w :: ws:=by
 intro ws
 induction ws with
 | nil=>intro w h _;show Xn (w++[])=_;rw[cf];exact dV w h
 | cons v ws ih=>
  intro w h hv;rw[Hy,b8,lW _ _ h,ih v (hv v Dq) (fun u hu=>hv u (a5 _ hu))]
theorem lX:∀(ws:List (List Nat)) (w:List Nat),Hx (w :: ws)=w++Sm ws:=by
 intro ws
 induction ws with
 | nil=>intro w;show w=w++[];simp
 | cons v ws ih=>intro w;show w++32 :: Hx (v :: ws)=_;rw[ih,Hy];rfl
theorem MG(u v:List (List Nat)):Sm (u++v)=Sm u++Sm v:=by simp[Sm]
theorem Kt(c:Prop)[Decidable c](w:List Nat):Sm (if c then [w] else [])=if c then 32 :: w else []:=by split<;>simp[Sm]
theorem FE(x:Raw):Sj x.k x.n x.a x.b x.data=YF x.k++Sm (Sk x):=by
 unfold Sj Sk;rw[MG,MG,MG,Kt,Kt,Kt,Kt];simp only[cS]
theorem nine{k:Int}(h:1<=k/\k<=9):k=1\/k=2\/k=3\/k=4\/k=5\/k=6\/k=7\/k=8\/k=9:=gX
theorem Zax{k:Int}(h:1<=k/\k<=9):∀b∈YF k,b≠32:=by
 rcases nine h with rfl|rfl|rfl|rfl|rfl|rfl|rfl|rfl|rfl<;>decide
theorem Dj{n:Int}(h:0<=n):∀b∈Uy n,b≠32:=by
 rw[Rq n h];intro b hb;have:=NM _ b hb;omega
theorem Zay:∀d:List Nat,∀b∈Uk d,b≠32:=by
 intro d
 induction d with
 | nil=>intro b hb;cases hb
 | cons x d ih=>
  intro b hb;rw[TJ]at hb;have hD:∀y,QS y≠32:=fun y=>by unfold QS;split<;>omega
  rcases bo.1 hb with rfl|hb
  .exact hD _
  .rcases bo.1 hb with rfl|hb
   .exact hD _
   .exact ih b hb
theorem Zaz{x:Raw}(h:x.err=0):∀v∈Sk x,∀b∈v,b≠32:=by
 obtain⟨hk,hn,_,ha,_,hb,_⟩:=QP h;intro v hv;unfold Sk at hv;simp only[bz]at hv;rcases hv with ((hv|hv)|hv)|hv
 .split at hv
  .rename_i q;obtain rfl:v=Uy x.n:=by simpa using hv
   exact Dj (hn q).1
  .cases hv
 .split at hv
  .rename_i q;obtain rfl:v=Uy x.a:=by simpa using hv
   exact Dj (ha q).1
  .cases hv
 .split at hv
  .rename_i q;obtain rfl:v=Uy x.b:=by simpa using hv
   exact Dj (hb q).1
  .cases hv
 .split at hv
  .obtain rfl:v=Uk x.data:=by simpa using hv
   exact Zay _
  .cases hv
theorem Hz{x:Raw}(h:x.err=0):Xn (Sj x.k x.n x.a x.b x.data)=YF x.k :: Sk x:=by
 rw[FE];exact dX _ _ (Zax (QP h).1) (Zaz h)
theorem ZaA{n:Int}(h0:0<=n)(h1:n<10000000):Xm (Uy n)=n:=by
 rw[Rq n h0,lQ _ gX];omega
theorem NN{l:List Nat}(h:0<=Xm l):Uy (Xm l)=l:=by rw[Rq _ h];exact lT h
theorem LG{x:Raw}(h:x.err=0)(hd:∀y∈x.data,y<256):BX (Xn (Sj x.k x.n x.a x.b x.data))=Z x:=by
 rw[Hz h];obtain⟨hk,hn,RC,ha,ha0,hb,Dm,hd0,_⟩:=QP h;unfold BX;have e0:(YF x.k :: Sk x).getD 0 []=YF x.k:=rfl;rw[e0,uk _ hk,if_neg gX];obtain⟨k,n,a,b,d⟩:=x;simp only at hk hn RC ha ha0 hb Dm hd0 hd ⊢;have he:¬XV k n a b (U d)≠0:=fun q=>q h;have l9:∀l:List Nat,(U l)=0->l=[]:=fun l=>a2;rw[Zaq (d:=d) (n:=n) (a:=a) (b:=b) ?_ ?_ ?_ ?_ ?_,if_neg he]
 all_goals
  unfold Sk;rcases nine hk with rfl|rfl|rfl|rfl|rfl|rfl|rfl|rfl|rfl
 all_goals
  simp only[Yl,Xe,BW]at hn RC ha ha0 ⊢
 all_goals first
  | rfl
  | (simp only[Int.reduceEq,Int.reduceLE,true_or,or_true,or_false,false_or,and_true,true_and,and_false,false_and,if_true,if_false,not_true_eq_false,not_false_eq_true,true_implies,false_implies]at hn RC ha ha0 hb Dm hd0 ⊢
     first
      | rfl
      | (have:=l9 d hd0;subst this;rfl)
      | exact Zej d hd
      | exact ZaA gX gX
      | exact RC.symm
      | exact ha0.symm
      | exact (RC trivial).symm
      | exact (ha0 trivial).symm
      | exact congrArg Z (l9 d (hd0 MZ)).symm
      | exact (Dm MZ).symm)
theorem dY{w:List Nat}:NK w≠0->(1<=NK w/\NK w<=9)/\YF (NK w)=w:=by
 have step:∀(k r:Int),(1<=k/\k<=9)->(r≠0->(1<=r/\r<=9)/\YF r=w)->(if w=YF k then k else r)≠0->(1<=(if w=YF k then k else r)/\(if w=YF k then k else r)<=9)/\YF (if w=YF k then k else r)=w:=by
  intro k r hk hr h;by_cases q:w=YF k
  .rw[if_pos q];exact⟨hk,q.symm⟩
  .rw[if_neg q]at h ⊢;exact hr h
 unfold NK;exact step 1 _ MZ (step 2 _ MZ (step 3 _ MZ (step 4 _ MZ (step 5 _ MZ (step 6 _ MZ (step 7 _ MZ (step 8 _ MZ (step 9 _ MZ (fun h=>absurd rfl h)))))))))
theorem Ak{t:List Nat}{x:Raw}(h:BX (Xn t)=Z x):Sj x.k x.n x.a x.b x.data=t/\x.err=0/\∀y∈x.data,y<256:=by
 have hj:=Aj t;obtain⟨w0,r,e⟩:=a8 (Mt t);rw[e]at h hj;rw[lX]at hj;unfold BX at h;have e0:(w0 :: r).getD 0 []=w0:=rfl;rw[e0]at h;split at h
 .cases h
 rename_i hk0;obtain⟨hk,hw⟩:=dY hk0;obtain⟨k,S8⟩:=ZD (NK w0);rw[<-S8]at h hk hw;clear S8 hk0 e e0;have hg:=(lJ h).1;unfold lG at h;split at h
 .cases h
 rename_i hlen;have hlen:(w0 :: r).length=BW k:=gX;simp only[a9]at hlen;split at h
 .cases h
 rename_i d hd;obtain⟨n,hn⟩:=ZD ((if Yl k then Xm ((w0 :: r).getD 1 []) else 0));obtain⟨a,ha⟩:=ZD ((if Xe k then Xm ((w0 :: r).getD 1 []) else 0));obtain⟨b,hb⟩:=ZD ((if k=8 then Xm ((w0 :: r).getD 2 []) else 0));rw[<-hn,<-ha,<-hb]at h;split at h
 .cases h
 cases h
 have ef:=QP hg;simp only at ef;refine⟨?_,hg,?_⟩
 .have lt:=FE ⟨k,n,a,b,d⟩;simp only at lt;rw[lt,hw,<-hj]
  congr 1
  obtain⟨_,fn,_,fa,_,fb,_⟩:=ef;have l9:∀l:List (List Nat),(U l)=0->l=[]:=fun l=>a2;have one:∀l:List (List Nat),(U l)=1->∃u,l=[u]:=fun l h=>List.length_eq_one_iff.1 h;have two:∀l:List (List Nat),(U l)=2->∃u v,l=[u,v]:=fun l h=>match l,h with|[u,v],_=>⟨u,v,rfl⟩
  unfold Sk;rcases nine hk with rfl|rfl|rfl|rfl|rfl|rfl|rfl|rfl|rfl
  all_goals simp only[Yl,Xe,BW,Int.reduceEq,Int.reduceLE,true_or,or_true,or_false,false_or,and_true,true_and,and_false,false_and,if_true,if_false,true_implies,false_implies,cf,bf]at hlen hn ha hb fn fa fb hd ⊢
  .obtain⟨u,v,rfl⟩:=two r gX;have hd:Dh v=Z d:=hd;have hn:n=Xm u:=hn;rw[hn]at fn;rw[hn,NN fn.1,(uw _ v d (a0 _) hd).1];rfl
  rotate_left 5
  .obtain rfl:=l9 r gX;rfl
  .obtain⟨u,v,rfl⟩:=two r gX;have hn:n=Xm u:=hn;have hb:b=Xm v:=hb;rw[hn]at fn;rw[hb]at fb;rw[hn,hb,NN fn.1,NN fb.1];rfl
  all_goals
   obtain⟨u,rfl⟩:=one r gX
   first
    | (have hn:n=Xm u:=hn
       rw[hn]at fn;rw[hn,NN fn.1]
       done)
    | (have ha:a=Xm u:=ha
       rw[ha]at fa;rw[ha,NN fa.1]
       done)
 .intro y hy;by_cases q:k=1
  .rw[if_pos q]at hd;exact (uw _ _ d (a0 _) hd).2 y hy
  .rw[if_neg q]at hd
   cases hd
   cases hy
theorem uy{w:ByteArray}{k:Int}(hk:1<=k/\k<=9)(hw:bl w=YF k):JS w 10=k:=by
 have inj:∀i,i<10->∀j,j<10->0<i->0<j->Tw.getD i []=Tw.getD j []->i=j:=MZ;have byt:∀i,i<10->∀x∈Tw.getD i [],x<256:=MZ;have key:∀i:Nat,i<10->0<i->((NL i).toList == w.toList)=decide ((i:Int)=k):=by
  intro i hi h0;unfold NL;rw[ul (byt i hi) w,hw];refine decide_eq_decide.2 ⟨fun e=>?_,fun e=>?_⟩
  .have:=inj i hi k.toNat gX h0 gX e;omega
  .unfold YF;rw[<-e,cP]
 have go:∀m:Nat,m<=10->JS w m=if k<m then k else 0:=by
  intro m
  induction m with
  | zero=>intro _;rw[if_neg gX];rfl
  | succ m ih=>
   intro hm;unfold JS;rw[ih gX];by_cases h0:0<m
   .rw[key m gX h0];by_cases e:(m:Int)=k
    .rw[if_pos ⟨h0,by rw[decide_eq_true e]⟩,if_pos gX,e]
    .rw[if_neg (by rintro⟨_,q⟩;exact e (of_decide_eq_true q))];by_cases q:k<m
     .rw[if_pos q,if_pos gX]
     .rw[if_neg q,if_neg gX]
   .rw[if_neg (fun q=>h0 q.1),if_neg gX,if_neg gX]
 rw[go 10 (a0 _),if_pos gX]
theorem toNat_inj{u v:List UInt8}(h:u.map UInt8.toNat=v.map UInt8.toNat):u=v:=by
 have e:∀l:List UInt8,(l.map UInt8.toNat).map UInt8.ofNat=l:=fun l=>by
  rw[List.map_map,show (UInt8.ofNat ∘ UInt8.toNat)=id from funext fun x=>UInt8.ofNat_toNat,List.map_id]
 rw[<-e u,h,e]
theorem uz{s:ByteArray}{t:List Nat}(hs:bl s=t++[10]):(wsB s).map bl=Xn t:=by
 obtain⟨u,hu⟩:∃u:List UInt8,u=t.map UInt8.ofNat:=⟨_,rfl⟩
 have ht:∀x∈t,x<256:=fun x hx=>Zit s x (by rw[hs];exact co _ hx);have e2:u.map UInt8.toNat=t:=by rw[hu];exact toNat_ofNat ht
 have e1:s.data.toList=u++[10]:=toNat_inj (by
  have:s.data.toList.map UInt8.toNat=t++[10]:=hs;rw[this,b9,e2];rfl)
 have e3:Lib.trimSuffix s.data.toList [10]=u:=by
  unfold Lib.trimSuffix Lib.hasSuffix;rw[e1,if_pos (List.isSuffixOf_iff_suffix.2 ⟨u,rfl⟩)];simp
 unfold wsB;rw[e3,Bk _ _ (Nat.lt_succ_self _)]
 congr 1
theorem ma{w:ByteArray}{n:Int}(h0:0<=n)(h1:n<10000000)(h:bl w=Uy n):Lib.atoiAll w.data.toList=.ok n:=by
 have e:w.data.toList=Lib.decDigits n.toNat:=toNat_inj (by
  have:=h;rw[Rq n h0]at this;exact this)
 rw[e,uq _ gX]
 congr 1;omega
def ZsG(ws:List ByteArray)(k n a c:Int)(d:List Nat):Prop:=(∃w0,ws[0]? = Z w0/\k=JS w0 10)/\(∀i x,(ZH k)[i]? = Z x->∀w m,ws[i+1]? = Z w->Lib.atoiAll w.data.toList=.ok m->YV k n a c x.1=m) /\
 (∀p,0<p->p<4->(∀x∈ZH k,x.1≠p)->YV k n a c p=0)/\(d=if k=1 then (match ws[2]? with|some w=>Q8 (bl w)|none=>[]) else [])
theorem Am{s:ByteArray}{x:Raw}(h:x.err=0)(hd:∀y∈x.data,y<256)(hs:bl s=x.line){k n a c:Int}{d:List Nat}(r:ZsG (wsB s) k n a c d):x=⟨k,n,a,c,d⟩:=by
 obtain⟨⟨w0,uV,hk⟩,hq,hr,hdd⟩:=r;have hf:=QP h;unfold Raw.line at hs;rw[NJ hf.1]at hs;have hw:=uz hs;rw[Hz h]at hw;obtain⟨ws,xp⟩:=ZD (wsB s);rw[<-xp]at hw uV hq hdd;have at_:∀i w,ws[i]? = Z w->(YF x.k :: Sk x)[i]? = Z (bl w):=fun i w q=>by rw[<-hw,bS,q];rfl
 have of_:∀i u,(YF x.k :: Sk x)[i]? = Z u->∃w,ws[i]? = Z w/\bl w=u:=fun i u q=>by
  rw[<-hw,bS]at q
  cases e:ws[i]? with
  | none=>rw[e]at q;cases q
  | some w=>rw[e]at q;exact⟨w,e,Option.some.inj q⟩
 have Dm:=at_ 0 w0 uV;have Dm:YF x.k=bl w0:=Option.some.inj Dm;have hkx:k=x.k:=by rw[hk];exact uy hf.1 Dm.symm
 clear Dm hk uV hs hw;obtain⟨k',n',a',b',d'⟩:=x;simp only at hkx hf hd of_ ⊢;subst hkx;obtain⟨hk,hn,RC,ha,ha0,hb,Dm,hd0,_⟩:=hf;have num:∀(i:Nat) (p:Nat × Int) (m:Int),(ZH k)[i]? = Z p->0<=m->m<10000000->(YF k :: Sk ⟨k,n',a',b',d'⟩)[i+1]? = Z (Uy m)->YV k n a c p.1=m:=by
  intro i p m hp h0 h1 q;obtain⟨w,hw,jQ⟩:=of_ _ _ q;exact hq i p hp w m hw (ma h0 h1 jQ)
 have l9:∀l:List Nat,(U l)=0->l=[]:=fun l=>a2;have z1:0<1:=MZ;have BK:∀u,k=1->(YF k :: Sk ⟨k,n',a',b',d'⟩)[2]? = Z u->d=Q8 u:=by
  intro u k1 q;obtain⟨w,hw,jQ⟩:=of_ _ _ q;rw[hdd,if_pos k1,hw];simp only;rw[jQ]
 have goal:n=n'/\a=a'/\c=b'/\d=d':=by
  rcases nine hk with rfl|rfl|rfl|rfl|rfl|rfl|rfl|rfl|rfl
  .have:=hn MZ;refine⟨num 0 (1,4) n' rfl gX gX rfl,?_,?_,?_⟩
   .rw[ha0 MZ];exact hr 2 MZ MZ MZ
   .rw[Dm MZ];exact hr 3 MZ MZ MZ
   .rw[BK (Uk d') rfl rfl];exact lV d' hd
  all_goals
   have hdn:d=d':=by rw[hdd,if_neg MZ,l9 d' (hd0 MZ)]
   refine⟨?_,?_,?_,hdn⟩
   .first
     | (rw[RC MZ];exact hr 1 MZ MZ MZ)
     | (have:=hn MZ;exact num 0 (1,4) n' rfl gX gX rfl)
   .first
     | (rw[ha0 MZ];exact hr 2 MZ MZ MZ)
     | (have:=ha MZ;exact num 0 (2,1048576) a' rfl gX gX rfl)
   .first
     | (rw[Dm MZ];exact hr 3 MZ MZ MZ)
     | (have:=hb MZ;exact num 1 (3,100000) b' rfl gX gX rfl)
 obtain⟨rfl,rfl,rfl,rfl⟩:=goal;rfl
theorem ZaB:∀l:List UInt8,(Lib.indexByte l 10 = -1->∀b∈l.map UInt8.toNat,b≠10) /\
  ∀i:Nat,Lib.indexByte l 10=i->(∀b∈(l.take i).map UInt8.toNat,b≠10)/\l.map UInt8.toNat=(l.take i).map UInt8.toNat++10 :: (l.drop (i+1)).map UInt8.toNat/\(l.take (i+1)).map UInt8.toNat=(l.take i).map UInt8.toNat++[10]:=by
 intro l
 induction l with
 | nil=>exact⟨fun _ b hb=>(by cases hb),fun i h=>by unfold Lib.indexByte at h;omega⟩
 | cons b l ih=>
  obtain⟨i1,i2⟩:=ih;have YU:=Lib.indexByte_ge l 10;unfold Lib.indexByte;by_cases q:b=10
  .subst q;refine⟨fun h=>by simp at h,fun i h=>?_⟩;simp only[beq_self_eq_true,if_true]at h;obtain rfl:i=0:=gX;refine⟨fun b hb=>by simp at hb,rfl,rfl⟩
  .have q':(b == 10)=false:=by simpa using q
   have q2:¬b.toNat=10:=fun e=>q (UInt8.toNat_inj.1 e);simp only[q',cx,if_false];by_cases r:Lib.indexByte l 10 = -1
   .rw[r];refine⟨fun _ x hx=>?_,fun i h=>?_⟩
    .rw[bh]at hx;rcases bo.1 hx with rfl|hx
     .exact q2
     .exact i1 r x hx
    .simp at h
   .have r':(Lib.indexByte l 10 == -1)=false:=by simpa using r
    simp only[r',cx,if_false];refine⟨fun h=>by omega,fun i h=>?_⟩;obtain⟨j,rfl⟩:∃j,i=j+1:=⟨i-1,gX⟩
    obtain⟨h1,h2,h3⟩:=i2 j gX;refine⟨fun x hx=>?_,?_,?_⟩
    .rw[cs,bh]at hx;rcases bo.1 hx with rfl|hx
     .exact q2
     .exact h1 x hx
    .rw[bh,h2];rfl
    .rw[cs,bh,h3];rfl
theorem T8:∀(t cur:List Nat) (acc:List Raw) (rest:List Nat),(∀b∈t,b≠10)->UW (t++10 :: rest) cur acc=(if (U acc)=100000 then ([],100000,8) else match BX (Xn (cur++t)) with
  | none=>([],(U acc),3)
  | some x=>UW rest [] (acc++[x]):List Raw × Int × Int):=by
 intro t
 induction t with
 | nil=>intro cur acc rest _;rw[bf,Oq,if_pos rfl,cf];first|done|rfl
 | cons b t ih=>
  intro cur acc rest h;rw[b8,Oq,if_neg (h b Dq),ih _ _ _ (fun x hx=>h x (a5 _ hx)),cS];rfl
theorem FF:∀(t cur:List Nat) (acc:List Raw),(∀b∈t,b≠10)->cur++t≠[]->UW t cur acc=(if (U acc)=100000 then ([],100000,8) else ([],(U acc),3):List Raw × Int × Int):=by
 intro t
 induction t with
 | nil=>intro cur acc _ h;rw[lI,if_neg (by simpa using h)]
 | cons b t ih=>
  intro cur acc h Ys;rw[Oq,if_neg (h b Dq),ih _ _ (fun x hx=>h x (a5 _ hx)) Dq]
theorem ZaC(r:ByteArray)(n:Nat):bl (r.extract n r.size)=(bl r).drop n:=by
 have:=Oi r;rw[WK,br (by rw[List.length_drop];omega)]
theorem uA{r:ByteArray}(h:0<r.size):(∃t,bl (WH r)=t++[10]/\(∀b∈t,b≠10)/\bl r=t++10 :: bl (WJ r))\/((∀b∈bl (WH r),b≠10)/\bl r=bl (WH r)):=by
 obtain⟨i1,i2⟩:=ZaB r.data.toList;have YU:=Lib.indexByte_ge r.data.toList 10;have hl:=Oi r;unfold WH WJ;by_cases q:0<=Gp r
 .rw[if_pos q,if_pos q];left;obtain⟨h1,h2,h3⟩:=i2 (Gp r).toNat (by unfold Gp at q ⊢;omega);refine⟨(r.data.toList.take (Gp r).toNat).map UInt8.toNat,?_,h1,?_⟩
  .rw[WK,List.drop_zero,Nat.sub_zero,<-h3,dj];rfl
  .rw[ZaC];have:(bl r).drop ((Gp r).toNat+1)=(r.data.toList.drop ((Gp r).toNat+1)).map UInt8.toNat:=by rw[List.map_drop];rfl
   rw[this];exact h2
 .rw[if_neg q];right;refine⟨?_,rfl⟩;exact i1 (by unfold Gp at q;omega)
def o0(n0:Nat):Ow:=XY (XY (XY (XY (XY (XY (XY Ps (n0+4) (.ZP 101)) (n0+3) (.ZP 102)) (n0+6) (.ZP 103)) n0 (.ZP 104)) (n0+1) (.ZP 104)) (n0+2) (.ZP 104)) (n0+5) (.ZP 104)
def S4(t:Tg):Prop:=t=.ZP 100\/t=.ZP 101\/t=.ZP 102\/t=.ZP 103
theorem ZbQ(n0:Nat):o0 n0 (n0+4)=Z (.ZP 101)/\o0 n0 (n0+3)=Z (.ZP 102)/\o0 n0 (n0+6)=Z (.ZP 103)/\o0 n0 n0=Z (.ZP 104)/\o0 n0 (n0+1)=Z (.ZP 104)/\o0 n0 (n0+2)=Z (.ZP 104)/\o0 n0 (n0+5)=Z (.ZP 104):=by
 unfold o0 XY;refine⟨?_,?_,?_,?_,?_,?_,?_⟩<;>simp
theorem uB(n0 b:Nat)(h:b<n0\/n0+7<=b):o0 n0 b=aa:=by
 unfold o0 XY Ps
 repeat rw[if_neg gX]
theorem uC:¬S4 (.ZP 104):=by unfold S4;simp
def RJ(H:Hp)(n0:Nat)(rec:Loop)(full:List Raw × Int × Int)(r:ByteArray)(g:Hp):Prop:=
 ∃(o:Ow) (ys:List (Raw × bc)) (v:bc),Kp S4 (o0 n0) H o g/\o (n0+4)=Z (.ZP 101)/\o (n0+3)=Z (.ZP 102)/\o (n0+6)=Z (.ZP 103)/\kq (n0+4) r g /\
  g[n0+3]? = Z (Y [v].toArray 23)/\g[n0+6]? = Z (.loop rec)/\YP o (.ZP 100) 41 5 g v (U ys) (ZK QE ys)/\(∀y∈ys,TD o g y.2 y.1.data)/\(U ys)<=100000/\full=UW (bl r) [] (YQ ys)/\r.size<=4000000
def RX(h:Hp)(n0:Nat)(rec:Loop)(full:List Raw × Int × Int)(g:Hp):Prop:=
 g[n0+6]? = Z (.loop { rec with state:=.done,pending:=Z .ret })/\g[n0+5]? = Z (.deferred (Z []))/\g[n0]? = Z (Y [N aa 0 0].toArray 23) /\
  ∃i e:Int,g[n0+1]? = Z (Y [L D i].toArray 3)/\g[n0+2]? = Z (Y [L D e].toArray 44)/\full=([],i,e)/\Zf n0 h g
theorem Tv.Yb{h h':Hp}(t:Tv h)(b:Zf h.size h h'):Tv h':=by
 obtain⟨e,fr,ht⟩:=t;exact⟨e,fr,b.get (Za ht) ht⟩
theorem mb{r:ByteArray}(h:0<r.size):(WH r).size<=r.size:=by
 unfold WH;split
 .rw[ByteArray.size_extract];omega
 .exact a0 _
set_option maxHeartbeats 8000000 in
theorem uD(h H:Hp)(n0:Nat)(rec:Loop)(full:List Raw × Int × Int)(r:ByteArray)(g:Hp)(F:Env)(hA:(fAt de [1,1,1,0,1,0]).bind rfA=Z rec.assign)(hB:(fAt de [1,1,1,0,1,0]).bind rfB=Z rec.body)(RC:h.size=n0)(sH:H.size=n0+7)(bH:Zf n0 h H)(tw:Words h)(tp:Tv h)(hm:Gq h)(h1:Ra 4 h)(h2:Ra 5 h)(H0:H[n0]? = Z (Y [N aa 0 0].toArray 23))(H1:H[n0+1]? = Z (Y [L D 0].toArray 3))(H2:H[n0+2]? = Z (Y [L D 0].toArray 44))(HD:H[n0+5]? = Z (.deferred (Z [])))(f2:F 2=aI (Z ⟨n0,0,aa⟩))(f3:F 3=aI (Z ⟨n0+1,0,aa⟩))(f4:F 4=aI (Z ⟨n0+2,0,aa⟩))(f5:F 5=aI (Z ⟨n0+3,0,aa⟩))(q1:rec.state=.ready)(q2:rec.pending=aa)(q3:rec.params=#[13])(q6:rec.tmps.size=Tryz.f18.ntmps)(q7:env { tmps:=rec.tmps,defers:=[] } = F)(j:RJ H n0 rec full r g)(hp:0<r.size):
  TO be T (n0+6) (.string (WH r)) (fun b h'=>if b=true then RJ H n0 rec full (WJ r) h' else RX h n0 rec full h') (db (n0+4) (WJ r) g):=by
 obtain⟨cA,hcA⟩:∃c,c=rec.assign:=⟨_,rfl⟩
 obtain⟨cB,hcB⟩:∃c,c=rec.body:=⟨_,rfl⟩
 rw[<-hcA]at hA;rw[<-hcB]at hB;have oP:Z cA=Z _:=hA.symm.trans (rfl:(fAt de [1,1,1,0,1,0]).bind rfA=Z _);have hcf:Z cB=Z _:=hB.symm.trans (rfl:(fAt de [1,1,1,0,1,0]).bind rfB=Z _);obtain rfl:=Option.some.inj oP;obtain rfl:=Option.some.inj hcf;clear hA hB oP hcf;obtain⟨o,ys,v,K,t4,t3,t6,bx,y3,y6,O,I,hyl,LH,mQ⟩:=j;obtain⟨g1,WB⟩:=ZD (db (n0+4) (WJ r) g);have k01:Kp (fun t=>t=.ZP 101) o g o g1:=by rw[WB];exact (Kp.refl K.Ya (fun t=>t=Tg.ZP 101)).set t4 rfl _
 have y3:=k01.get y3 (fun t ht=>by rw[t3]at ht;cases ht;intro q;cases q);have y6:=k01.get y6 (fun t ht=>by rw[t6]at ht;cases ht;intro q;cases q);have y4:g1[n0+4]? = Z (Y [Value.string (WJ r)].toArray 9):=by rw[WB];exact ZE bx
 rw[<-WB];refine TO.of (n:=Tryz.f18.ntmps) (rec:=rec) (p:=13) (F0:=Z5 F (Z 13) (.string (WH r))) y6 q3 q6 ?_ ?_
 .have:=QW { tmps:=rec.tmps,defers:=[] } (Z 13) (.string (WH r)) (fun d e=>by cases e;show 13<rec.tmps.size;rw[q6];decide);rw[q7]at this;exact this
 rw[<-hcA];refine Jh _ _ _ _ _ _ rfl ?_;simp -implicitDefEqProofs only[go_sem];refine⟨rec,y6,q1,?_⟩;obtain⟨g2,JK⟩:=ZD (g1.setIfInBounds (n0+6) (.loop { rec with state:=.busy }));rw[<-JK,<-hcB];have AB:Kp (fun t=>t=.ZP 103) o g1 o g2:=by rw[JK];exact (Kp.refl k01.Ya (fun t=>t=Tg.ZP 103)).set t6 rfl _
 have y3:=AB.get y3 (fun t ht=>by rw[t3]at ht;cases ht;intro q;cases q);have y4:=AB.get y4 (fun t ht=>by rw[t4]at ht;cases ht;intro q;cases q);have y6:g2[n0+6]? = Z (.loop { rec with state:=.busy }):=by rw[JK];exact ZE y6
 have O2:=(O.Zd k01 (fun q=>by cases q)).Zd AB (fun q=>by cases q);have I2:∀y∈ys,TD o g2 y.2 y.1.data:=fun y hy=>((I y hy).Zd k01).Zd AB;have K2:Kp S4 (o0 n0) H o g2:=(K.trans (k01.mono (by rintro t rfl;unfold S4;simp))).trans (AB.mono (by rintro t rfl;unfold S4;simp));clear O I k01 AB bx K WB JK;obtain⟨oa4,oa3,oa6,oa0,oa1,oa2,oa5⟩:=ZbQ n0;have low:∀b x,H[b]? = Z x->o0 n0 b=Z (.ZP 104)->g2[b]? = Z x:=fun b x hx ho=>K2.get hx (fun t ht=>by rw[ho]at ht;cases ht;exact uC);have y0:=low _ _ H0 oa0;have y1:=low _ _ H1 oa1;have y2:=low _ _ H2 oa2;have yD:=low _ _ HD oa5;have B2:Zf n0 h g2:=⟨by have:=bH.size;have:=K2.size;omega,fun b hb=>by
  rw[<-bH.block b hb];exact (K2.Zd b gX (fun t ht=>by rw[uB n0 b (.inl hb)]at ht;cases ht)).1⟩
 have ZF1:n0+7<=g2.size:=by have:=K2.size;omega
 -- a round ZF2 ZF3 no
 have fail:∀(G:Hp) (i e:Int),Zf g2.size g2 G->full=([],i,e) ->
   ∃r2,(((G.setIfInBounds n0 (Y [N aa 0 0].toArray 23)).setIfInBounds (n0+1) (Y [L D i].toArray 3)).setIfInBounds (n0+2) (Y [L D e].toArray 44))[n0+6]? = Z (.loop r2) /\
    RX h n0 rec full ((((G.setIfInBounds n0 (Y [N aa 0 0].toArray 23)).setIfInBounds (n0+1) (Y [L D i].toArray 3)).setIfInBounds (n0+2) (Y [L D e].toArray 44)).setIfInBounds (n0+6) (.loop { r2 with state:=.done,pending:=Z .ret })):=by
  intro G i e bG hf;have hG:=bG.size;refine⟨{ rec with state:=.busy },?_,?_,?_,?_,i,e,?_,?_,hf,?_⟩
  .rw[Zq gX,Zq gX,Zq gX];exact bG.get gX y6
  .rw[av,if_pos rfl,if_pos (by simp only[aw];omega)]
  .rw[Zq gX,Zq gX,Zq gX,Zq gX];exact bG.get gX yD
  .rw[Zq gX,Zq gX,Zq gX,av,if_pos rfl,if_pos gX]
  .rw[Zq gX,Zq gX,av,if_pos rfl,if_pos (by simp only[aw];omega)]
  .rw[Zq gX,av,if_pos rfl,if_pos (by simp only[aw];omega)]
  .refine⟨by simp only[aw];have:=B2.size;omega,fun b hb=>?_⟩;rw[Zq gX,Zq gX,Zq gX,Zq gX,bG.block b gX];exact B2.block b hb
 have hry:(YQ ys).length=(U ys):=by unfold YQ;simp
 obtain⟨pv,cv,rfl,hcv⟩:=O2.ZM;have c3:Go.V.hc g2 ⟨n0+3,0,aa⟩=Z (N pv (U ys) cv):=Zg y3;have st:∀(G:Hp) (i e:Int),Zf g2.size g2 G->Jb G ⟨n0,0,aa⟩ (N aa 0 0)=Z (G.setIfInBounds n0 (Y [N aa 0 0].toArray 23)) /\
   Jb (G.setIfInBounds n0 (Y [N aa 0 0].toArray 23)) ⟨n0+1,0,aa⟩ (L D i)=Z ((G.setIfInBounds n0 (Y [N aa 0 0].toArray 23)).setIfInBounds (n0+1) (Y [L D i].toArray 3)) /\
   Jb ((G.setIfInBounds n0 (Y [N aa 0 0].toArray 23)).setIfInBounds (n0+1) (Y [L D i].toArray 3)) ⟨n0+2,0,aa⟩ (L D e)=Z (((G.setIfInBounds n0 (Y [N aa 0 0].toArray 23)).setIfInBounds (n0+1) (Y [L D i].toArray 3)).setIfInBounds (n0+2) (Y [L D e].toArray 44)) /\
   Go.V.hc (G.setIfInBounds n0 (Y [N aa 0 0].toArray 23)) ⟨n0+3,0,aa⟩=Z (N pv (U ys) cv)/\Go.V.hc G ⟨n0+3,0,aa⟩=Z (N pv (U ys) cv):=by
  intro G i e bG;have z0:=bG.get gX y0;have z1:=bG.get gX y1;have z2:=bG.get gX y2;have z3:=bG.get gX y3;refine⟨by rw[Ye z0 0 _,if_pos ⟨Dq,rfl⟩];rfl,?_,?_,?_,Zg z3⟩
  .rw[Ye (h:=G.setIfInBounds n0 _) (b:=n0+1) (by rw[Zq gX];exact z1) 0 _,if_pos ⟨Dq,rfl⟩];rfl
  .rw[Ye (b:=n0+2) (by rw[Zq gX,Zq gX];exact z2) 0 _,if_pos ⟨Dq,rfl⟩];rfl
  .have z3':(G.setIfInBounds n0 (Y [N aa 0 0].toArray 23))[n0+3]? = Z (Y [N pv (U ys) cv].toArray 23):=by rw[Zq gX];exact z3
   exact Zg z3'
 have uO:=uA hp;have bl0:∀G:Hp,g2.size<=G.size->n0<G.size/\n0+1<G.size/\n0+2<G.size/\n0+3<G.size:=fun G q=>by omega
 refine Jh _ _ _ _ _ _ rfl ?_;by_cases hf:(U ys)=100000
 .have mE:(((U ys):Nat):Int)=100000:=gX;have Zel:full=([],100000,8):=by
   rw[LH];rcases uO with⟨t,_,hn,e⟩|⟨hn,e⟩
   .rw[e,T8 _ _ _ _ hn,hry,if_pos hf]
   .rw[FF _ _ _ (by rw[e];exact hn) (by rw[bf];intro q;have:=Oi r;rw[q,bk]at this;omega),hry,if_pos hf]
  obtain⟨w0,w1,w2,c3a,_⟩:=st g2 100000 8 (Zf.refl _ _);obtain⟨m0,m1,m2,m3⟩:=bl0 g2 (a0 _);obtain⟨e1,he1⟩:=ZD (g2.setIfInBounds n0 (Y [N aa 0 0].toArray 23));have fl:=fail g2 100000 8 (Zf.refl _ _) Zel;rw[<-he1]at w0 w1 w2 c3a fl;obtain⟨e2,he2⟩:=ZD (e1.setIfInBounds (n0+1) (Y [L D 100000].toArray 3));rw[<-he2]at w1 w2 fl;obtain⟨e3,he3⟩:=ZD (e2.setIfInBounds (n0+2) (Y [L D 8].toArray 44));rw[<-he3]at w2 fl;simp -implicitDefEqProofs only[go_sem,f2,f3,f4,f5,c3,mE];refine VR.w (n0) [3,4] (.or 0 (.q 1 (.s 2 (.w 3 (.w 4 .nil)))) (.s 2 (.s 0 (.q 1 (.w 3 (.w 4 .nil)))))) mixed po ?_;simp -implicitDefEqProofs only[go_sem,f2,f3,f4,f5,c3,c3a,mE,w0,w1,w2];have uE:Zf n0 g2 e1:=by rw[he1];exact⟨by rw[aw];exact a0 _,fun b hb=>Zq gX⟩
  exact⟨⟨uE,fl⟩,uE,uE,fl⟩
 have mE:¬(((U ys):Nat):Int)=100000:=gX;have rej:(∀x:Raw,x.err=0->(∀y∈x.data,y<256)->bl (WH r)=x.line->False)->full=([],((U ys):Int),3):=by
  intro hno;rw[LH];rcases uO with⟨t,e0,hn,e⟩|⟨hn,e⟩
  .rw[e,T8 _ _ _ _ hn,hry,if_neg hf,bf]
   cases hA:BX (Xn t) with
   | none=>rfl
   | some x=>
    obtain⟨x1,x2,x3⟩:=Ak hA;refine (hno x x2 x3 ?_).elim;rw[e0,<-x1];exact (NJ (QP x2).1).symm
  .rw[FF _ _ _ (by rw[e];exact hn) (by rw[bf];intro q;have:=Oi r;rw[q,bk]at this;omega),hry,if_neg hf]
 have mJ:=mb hp;have bT:Zf h.size h g2:=by rw[RC];exact B2
 have ao:=Zef T g2 (WH r) gX (tw.on bT) (hm.Yb bT) (h1.Yb bT) (h2.Yb bT);obtain⟨ln,ZaD⟩:=ZD (WH r);rw[<-ZaD]at ao rej;rw[<-ZaD];simp -implicitDefEqProofs only[go_sem,f2,f3,f4,f5,c3,mE];refine ao.use ?_;rintro _ g3 ⟨⟨k,n,a,c,dv,d,rfl,od,hk9,vA,p1,p2,p3,p4⟩,b3⟩;obtain⟨pd,cd,rfl,hdc⟩:=od.open;have Zjv:∀x:Raw,x.err=0->(∀y∈x.data,y<256)->bl ln=x.line->x=⟨k,n,a,c,d⟩:=fun x x1 x2 x3=>Am x1 x2 x3 ⟨p1,p2,p3,p4⟩;obtain⟨g4,Vw⟩:=ZD (g3.push (Y (YA k n a c (N pd (U d) cd)).toArray 41):Hp);have e4:=Vw.symm;have LX:Zf g3.size g3 g4:=by rw[Vw];exact (Zf.refl _ _).add _
 have b4:Zf g2.size g2 g4:=b3.trans (LX.mono b3.size);have x4:g4[g3.size]? = Z (Y (YA k n a c (N pd (U d) cd)).toArray 41):=by rw[Vw];exact Zb
 have r4:rd g4 ⟨g3.size,0,aa⟩ 5=Z (YA k n a c (N pd (U d) cd)):=Zs x4 rfl;have l4:=Za x4;have ck:=VE T g4 k n a c pd (U d) cd;unfold YA at e4 r4 ck ⊢;simp -implicitDefEqProofs only[go_sem,f2,f3,f4,f5,e4,r4,l4];refine ck.use ?_;rintro _ g5 ⟨rfl,b5⟩;have B5:Zf g2.size g2 g5:=b4.trans (b5.mono b4.size);have x5:=b5.get l4 x4;have r5:rd g5 ⟨g3.size,0,aa⟩ 5=Z (YA k n a c (N pd (U d) cd)):=Zs x5 rfl;have l5:=Za x5;obtain⟨E,hE⟩:=ZD (XV k n a c (U d));rw[<-hE];by_cases hE0:E=0
 case neg=>
  have dZ:full=([],((U ys):Int),3):=rej fun x x1 x2 x3=>hE0 (by
   have:=Zjv x x1 x2 x3;rw[hE];rw[this]at x1;exact x1)
  obtain⟨w0,w1,w2,c3a,c3b⟩:=st g5 (U ys) 3 B5;obtain⟨m0,m1,m2,m3⟩:=bl0 g5 B5.size;obtain⟨e1,he1⟩:=ZD (g5.setIfInBounds n0 (Y [N aa 0 0].toArray 23));have fl:=fail g5 (U ys) 3 B5 dZ;rw[<-he1]at w0 w1 w2 c3a fl;have uE:Zf n0 g5 e1:=by rw[he1];exact⟨by rw[aw];exact a0 _,fun b hb=>Zq gX⟩
  obtain⟨e2,he2⟩:=ZD (e1.setIfInBounds (n0+1) (Y [L D ((U ys):Int)].toArray 3));rw[<-he2]at w1 w2 fl;obtain⟨e3,he3⟩:=ZD (e2.setIfInBounds (n0+2) (Y [L D 3].toArray 44));rw[<-he3]at w2 fl;simp -implicitDefEqProofs only[go_sem,f2,f3,f4,f5,hE0];refine VR.w (n0) [3,4] (.or 0 (.q 1 (.s 2 (.w 3 (.w 4 .nil)))) (.s 2 (.s 0 (.q 1 (.w 3 (.w 4 .nil)))))) mixed po ?_;simp -implicitDefEqProofs only[go_sem,f2,f3,f4,f5,c3a,c3b,w0,w1,w2];exact⟨⟨uE,fl⟩,uE,uE,fl⟩
 have IY:(⟨k,n,a,c,d⟩:Raw).err=0:=by show XV k n a c (U d)=0;rw[<-hE];exact hE0
 obtain⟨gk,gd,gg⟩:=Hv IY;have bT5:Zf h.size h g5:=bT.trans (B5.mono bT.size);have od5:Yd g2.size 5 g5 (N pd (U d) cd) d:=(od.Yb LX (a0 _)).Yb b5 (a0 _);have lo:=gm T g5 k n a c pd cd d gk od5.bs gd gg (tw.on bT5) (tp.Yb bT5);have lf:=RZ IY od5.byte;unfold Raw.line at lf;simp only at lf;have cmp:=ul lf.2.2 ln;unfold Pj at lo;obtain⟨W,hW⟩:∃W:ByteArray,W=⟨((Rb k n a c d).map UInt8.ofNat).toArray⟩:=⟨_,rfl⟩
 rw[<-hW]at lo cmp;unfold YA at lo r5;simp -implicitDefEqProofs only[go_sem,f2,f3,f4,f5,hE0,r5,l5];refine lo.use ?_;rintro _ g6 ⟨rfl,b6⟩;have B6:Zf g2.size g2 g6:=B5.trans (b6.mono B5.size);by_cases OH:Rb k n a c d=bl ln
 case neg=>
  rw[decide_eq_false OH]at cmp;have dZ:full=([],((U ys):Int),3):=rej fun x x1 x2 x3=>OH (by
   have:=Zjv x x1 x2 x3;rw[x3,this];rfl)
  obtain⟨w0,w1,w2,c3a,c3b⟩:=st g6 (U ys) 3 B6;obtain⟨m0,m1,m2,m3⟩:=bl0 g6 B6.size;obtain⟨e1,he1⟩:=ZD (g6.setIfInBounds n0 (Y [N aa 0 0].toArray 23));have fl:=fail g6 (U ys) 3 B6 dZ;rw[<-he1]at w0 w1 w2 c3a fl;have uE:Zf n0 g6 e1:=by rw[he1];exact⟨by rw[aw];exact a0 _,fun b hb=>Zq gX⟩
  obtain⟨e2,he2⟩:=ZD (e1.setIfInBounds (n0+1) (Y [L D ((U ys):Int)].toArray 3));rw[<-he2]at w1 w2 fl;obtain⟨e3,he3⟩:=ZD (e2.setIfInBounds (n0+2) (Y [L D 3].toArray 44));rw[<-he3]at w2 fl;simp -implicitDefEqProofs only[go_sem,f2,f3,f4,f5,cmp];refine VR.w (n0) [3,4] (.or 0 (.q 1 (.s 2 (.w 3 (.w 4 .nil)))) (.s 2 (.s 0 (.q 1 (.w 3 (.w 4 .nil)))))) mixed po ?_;simp -implicitDefEqProofs only[go_sem,f2,f3,f4,f5,c3a,c3b,w0,w1,w2];exact⟨⟨uE,fl⟩,uE,uE,fl⟩
 rw[decide_eq_true OH]at cmp;have LW:full=UW (bl (WJ r)) [] (YQ ys++[⟨k,n,a,c,d⟩]):=by
  have hle:bl ln=Sj k n a c d++[10]:=by rw[<-OH];exact NJ gk
  rw[LH];rcases uO with⟨t,e0,hn,e⟩|⟨hn,e⟩
  .rw[<-ZaD,hle]at e0;have:Sj k n a c d=t:=List.append_cancel_right e0;rw[e,T8 _ _ _ _ hn,hry,if_neg hf,bf,<-this,LG (x:=⟨k,n,a,c,d⟩) IY od5.byte]
  .rw[<-ZaD,hle]at hn;exact absurd rfl (hn 10 Dq)
 have K6:=K2.Yb B6;have k26:Kp QC o g2 o g6:=ZN K2.Ya B6;have O6:=O2.Zd k26 (fun q=>q);have I6:∀y∈ys,TD o g6 y.2 y.1.data:=fun y hy=>(I2 y hy).Zd k26;have c36:=(st g6 0 0 B6).2.2.2.2;have x6:=b6.get l5 x5;have l6:=Za x6;have r6:rd g6 ⟨g3.size,0,aa⟩ 5=Z (YA k n a c (N pd (U d) cd)):=Zs x6 rfl;have im6:TD o g6 (N pd (U d) cd) d:=⟨Im.Ub (od5.Yb b6 (a0 _)).Zy (fun b hb=>K2.Ya b hb),od5.byte⟩
 obtain⟨g7,hg7⟩:=ZD (g6.push (Y (YA k n a c (N pd (U d) cd)).toArray 41):Hp);have e7:=hg7.symm;have k67:Kp QC o g6 o g7:=by rw[hg7];exact Yc K6.Ya _
 have x7:g7[g6.size]? = Z (Y (YA k n a c (N pd (U d) cd)).toArray 41):=by rw[hg7];exact Zb
 have src:Sl 5 g7 (N (Z ⟨g6.size,0,aa⟩) 1 1) 1 (YA k n a c (N pd (U d) cd)):=⟨_,1,rfl,rfl,fun _=>⟨g6.size,0,rfl,fun i hi=>by
  rw[Zg x7,YE,cy];exact am hi⟩⟩
 have O7:=O6.Zd k67 (fun q=>q);have z3:=B6.get gX y3;have z6:=B6.get gX y6;have z4:=B6.get gX y4;obtain⟨m0,m1,m2,m3⟩:=bl0 g6 B6.size;unfold YA at r6 e7;simp -implicitDefEqProofs only[go_sem,f2,f3,f4,f5,cmp,c36,m3,r6,l6,e7];refine JX (E:=41) (n:=5) (bytes:=56) (k:=1) Zbb cT ZgF ZgH rfl ZgG O7 k67.Ya src rfl gX gX ?_;intro v8 o8 g8 O8 k78 _;have k78:Kp (fun u=>u=.ZP 100) o g7 o8 g8:=k78;obtain⟨p8,c8,rfl,_⟩:=O8.ZM;have K28:Kp (fun u=>u=.ZP 100) o g2 o8 g8:=((ZR k26).trans (ZR k67)).trans k78;have a3:∀t,o (n0+3)=Z t->¬(t=Tg.ZP 100):=fun t ht=>by rw[t3]at ht;cases ht;intro q;cases q
 have a4:∀t,o (n0+4)=Z t->¬(t=Tg.ZP 100):=fun t ht=>by rw[t4]at ht;cases ht;intro q;cases q
 have a6:∀t,o (n0+6)=Z t->¬(t=Tg.ZP 100):=fun t ht=>by rw[t6]at ht;cases ht;intro q;cases q
 have v3:=K28.get y3 a3;have v4:=K28.get y4 a4;have v6:=K28.get y6 a6;have s3:o8 (n0+3)=Z (.ZP 102):=by rw[K28.Zy y3 a3,t3]
 have s4:o8 (n0+4)=Z (.ZP 101):=by rw[K28.Zy y4 a4,t4]
 have s6:o8 (n0+6)=Z (.ZP 103):=by rw[K28.Zy y6 a6,t6]
 have K8:Kp S4 (o0 n0) H o8 g8:=K2.trans (K28.mono (by rintro t rfl;unfold S4;simp));have w8:Jb g8 ⟨n0+3,0,aa⟩ (N p8 ((U ys)+1) c8)=Z (g8.setIfInBounds (n0+3) (Y [N p8 ((U ys)+1) c8].toArray 23)):=by
  rw[Ye v3 0 _,if_pos ⟨Dq,rfl⟩];rfl
 obtain⟨g9,hg9⟩:=ZD (g8.setIfInBounds (n0+3) (Y [N p8 ((U ys)+1) c8].toArray 23));rw[<-hg9]at w8;have m38:n0+3<g8.size:=Za v3;simp -implicitDefEqProofs only[go_sem,f5,w8,m38];have Me:({ rec with state:=.ready,pending:=aa }:Loop)=rec:=by
  obtain⟨_,_,_,_,_,_,_,_⟩:=rec;simp only at q1 q2;rw[q1,q2]
 have k89:Kp (fun t=>t=.ZP 102\/t=.ZP 103) o8 g8 o8 g9:=by rw[hg9];exact (Kp.refl K8.Ya (fun t=>t=Tg.ZP 102\/t=Tg.ZP 103)).set s3 (.inl rfl) _
 have v69:g9[n0+6]? = Z (.loop { rec with state:=.busy }):=by rw[hg9,Zq gX];exact v6
 refine⟨_,v69,o8,ys++[(⟨k,n,a,c,d⟩,N pd (U d) cd)],N p8 ((U ys)+1) c8,?_,s4,s3,s6,?_,?_,?_,?_,fun y hy=>?_,?_,?_,?_⟩
 .exact (K8.trans (k89.mono (by rintro t (rfl|rfl)<;>(unfold S4;simp)))).set s6 (by unfold S4;simp) _
 .show (g9.setIfInBounds (n0+6) _)[n0+4]? = _;rw[Zq gX,hg9,Zq gX];exact v4
 .show (g9.setIfInBounds (n0+6) _)[n0+3]? = _;rw[Zq gX,hg9];exact ZE v3
 .show (g9.setIfInBounds (n0+6) (.loop { rec with state:=.ready,pending:=aa }))[n0+6]? = _;rw[Me];exact ZE v69
 .have e:ZK QE (ys++[(⟨k,n,a,c,d⟩,N pd (U d) cd)])=ZK QE ys++YA k n a c (N pd (U d) cd):=by rw[YD,UL];rfl
  rw[e,bd];exact (O8.Zd k89 (by rintro (q|q)<;>cases q)).Zd ((Kp.refl k89.Ya (fun t=>t=Tg.ZP 103)).set s6 rfl _) (fun q=>by cases q)
 .have kk:=((Kp.refl k89.Ya (fun t=>t=Tg.ZP 103)).set s6 rfl (.loop { rec with state:=.ready,pending:=aa }))
  rcases bz.1 hy with hy|hy
  .exact ((((I6 y hy).Zd k67).Zd k78).Zd k89).Zd kk
  .have:y=(⟨k,n,a,c,d⟩,N pd (U d) cd):=by simpa using hy
   rw[this];exact (((im6.Zd k67).Zd k78).Zd k89).Zd kk
 .simp only[bd,bL];omega
 .rw[LW]
  congr 1
  unfold YQ;simp
 .have:=gi hp;omega
theorem mf(h:Hp)(s:ByteArray):Zc be T 36 #[.string s] h fun v' h'=>v'=.func (.func 60) #[] #[aI (Z ⟨h.size,0,aa⟩)]/\h'=h.push (Y [Value.string s].toArray 9):=by
 refine Zc.Y8 [_] Tryz.func36 ?_;simp -implicitDefEqProofs only[go_sem]
 first|done|rfl|exact⟨rfl,rfl⟩
set_option maxHeartbeats 8000000 in
theorem ZaE(h:Hp)(s:ByteArray)(tw:Words h)(tp:Tv h)(hm:Gq h)(h1:Ra 4 h)(h2:Ra 5 h):
  Zc be T 18 #[.string s] h fun v' h'=>Zjp (if 4000000<s.size then ([],0,1) else UW (bl s) [] []) h' v'/\Zf h.size h h':=by
 refine Zc.ZgC (args:=#[_]) Tryz.func18 rfl rfl ?_;refine VF.seq rfl (Jh _ _ _ _ _ _ rfl ?_);by_cases HP:4000000<s.size
 .have TI:(4000000:Int)<s.size:=gX;rw[if_pos HP];simp -implicitDefEqProofs only[go_sem,TI];refine VF.seq rfl (Jh _ _ _ _ _ _ rfl ?_);simp -implicitDefEqProofs only[go_sem,TI];exact⟨⟨_,[],rfl,rfl,Ab,fun y hy=>by cases hy⟩,(((Zf.refl _ _).add _).Yx Dq _).Yx L6 _⟩
 have TI:¬(4000000:Int)<s.size:=gX;rw[if_neg HP];obtain⟨ha,hha⟩:=ZD (((h.push (Y [N aa 0 0].toArray 23)).push (Y [L D 0].toArray 3)).push (Y [L D 0].toArray 44):Hp);have ea:=hha.symm;obtain⟨n0,RC⟩:∃n,n=h.size:=⟨_,rfl⟩
 have sa:ha.size=n0+3:=by rw[hha,RC];simp
 have ba:Zf h.size h ha:=by rw[hha];exact (((Zf.refl _ _).add _).Yx Dq _).Yx L6 _
 simp -implicitDefEqProofs only[go_sem,TI,<-RC];refine VF.seq rfl (Jh _ _ _ _ _ _ rfl ?_);simp -implicitDefEqProofs only[go_sem,TI];refine VF.seq rfl (Jh _ _ _ _ _ _ rfl ?_);simp -implicitDefEqProofs only[go_sem];refine VF.range rfl rfl (Jh _ _ _ _ _ _ rfl ?_);simp -implicitDefEqProofs only[go_sem];refine (mf T _ s).use ?_;rintro _ h5 ⟨rfl,hh5⟩;have sh:h.size=n0:=RC.symm;rw[show (((((h.push (Y [Value.slice aa 0 0].toArray 23)).push (Y [Value.int D 0].toArray 3)).push (Y [Value.int D 0].toArray 44)).push (Y [Value.slice aa 0 0].toArray 23)).size)=n0+4 by simp[sh]];have s5:h5.size=n0+5:=by rw[hh5];simp[sh]
 simp -implicitDefEqProofs only[go_sem];refine⟨60,#[aI (Z ⟨n0+4,0,aa⟩)],rfl,fun _ _=>rfl,?_⟩;intro rec q1 q2 q3 q4 q5 q6 q7;rw[s5];obtain⟨H,hH⟩:=ZD ((h5.push (.deferred (Z []))).push (.loop rec):Hp);have sH:H.size=n0+7:=by rw[hH];simp[s5]
 rw[<-hH];have Hs:∀b,b<n0+5->H[b]? = h5[b]?:=fun b hb=>by rw[hH,Zl L6,Zl gX]
 have Hat:H[n0+4]? = Z (Y [Value.string s].toArray 9)/\H[n0+3]? = Z (Y [Value.slice aa 0 0].toArray 23)/\H[n0+2]? = Z (Y [Value.int D 0].toArray 44)/\H[n0+1]? = Z (Y [Value.int D 0].toArray 3)/\H[n0]? = Z (Y [Value.slice aa 0 0].toArray 23):=by
  have gp:∀(a:Hp) (x:Obj) (k:Nat),a.size=k->(a.push x)[k]? = Z x:=fun a x k e=>by rw[<-e];exact Zb
  refine⟨?_,?_,?_,?_,?_⟩<;>rw[Hs _ gX,hh5]
  .exact gp _ _ _ (by simp[sh])
  .rw[Zl L6];exact gp _ _ _ (by simp[sh])
  .rw[Zl L6,Zl L6];exact gp _ _ _ (by simp[sh])
  .rw[Zl L6,Zl L6,Zl L6];exact gp _ _ _ (by simp[sh])
  .rw[Zl L6,Zl L6,Zl L6,Zl L6];exact gp _ _ _ sh
 obtain⟨H4,H3,H2,H1,H0⟩:=Hat;have HD:H[n0+5]? = Z (.deferred (Z [])):=by rw[hH,Zl L6,<-s5];exact Zb
 have HL:H[n0+6]? = Z (.loop rec):=by
  rw[hH];have:(h5.push (.deferred (Z []))).size=n0+6:=by simp[s5]
  rw[<-this];exact Zb
 have bH:Zf n0 h H:=⟨gX,fun b hb=>by
  rw[Hs b gX,hh5,Zl L6,Zl L6,Zl L6,Zl L6,Zl gX]⟩
 have dm:UO (o0 n0) H:=fun b hb=>uB n0 b (.inr gX);obtain⟨oa4,oa3,oa6,oa0,oa1,oa2,oa5⟩:=ZbQ n0;refine (rW T H (n0+6) (n0+4) s (RJ H n0 rec (UW (bl s) [] [])) (RX h n0 rec (UW (bl s) [] [])) gX ?_ ?_ ?_).use ?_
 .rintro r g ⟨o,ys,v,_,_,_,_,bx,_⟩;exact bx
 .intro r g j hp;exact uD T h H n0 rec (UW (bl s) [] []) r g _ (by rw[q4];rfl) (by rw[q5];rfl) sh sH bH tw tp hm h1 h2 H0 H1 H2 HD rfl rfl rfl (by simp[Z5,Gz,sh]) q1 q2 q3 q6 q7 j hp
 .exact⟨o0 n0,[],N aa 0 0,Kp.refl dm _,oa4,oa3,oa6,H4,H3,HL,YP.nil _ _ _ _ _,fun y hy=>by (cases hy),cn _,rfl,gX⟩
 .rintro _ h' (hj|hx)
  .obtain⟨o,ys,v,K,t4,t3,t6,bx,y3,y6,O,I,hyl,LH,mQ⟩:=hj;have low:∀b x,H[b]? = Z x->o0 n0 b=Z (.ZP 104)->h'[b]? = Z x/\o b=Z (.ZP 104):=fun b x hx ho=>by
    have hn:∀t,o0 n0 b=Z t->¬S4 t:=fun t ht=>by rw[ho]at ht;cases ht;exact uC
    exact⟨K.get hx hn,by rw[K.Zy hx hn,ho]⟩
   obtain⟨y0,p0⟩:=low _ _ H0 oa0;obtain⟨y1,p1⟩:=low _ _ H1 oa1;obtain⟨y2,p2⟩:=low _ _ H2 oa2;obtain⟨yD,pD⟩:=low _ _ HD oa5;have hz:UW (bl (⟨#[]⟩:ByteArray)) [] (YQ ys)=(YQ ys,0,0):=rfl;rw[hz]at LH;rw[LH];refine⟨rec,y6,(by rw[q1];intro q;cases q),yD,.inl ⟨q2,?_⟩⟩;obtain⟨pv,cv,rfl,_⟩:=O.ZM;obtain⟨g1,WB⟩:=ZD (h'.setIfInBounds (n0+5+1) (.loop { rec with state:=.exhausted }));rw[<-WB];have k1:Kp (fun t=>t=.ZP 103\/t=.ZP 104) o h' o g1:=by rw[WB];exact (Kp.refl K.Ya (fun t=>t=Tg.ZP 103\/t=Tg.ZP 104)).set t6 (.inl rfl) _
   have z0:g1[n0]? = Z (Y [N aa 0 0].toArray 23):=by rw[WB,Zq gX];exact y0
   have z1:g1[n0+1]? = Z (Y [L D 0].toArray 3):=by rw[WB,Zq gX];exact y1
   have z2:g1[n0+2]? = Z (Y [L D 0].toArray 44):=by rw[WB,Zq gX];exact y2
   have z3:g1[n0+3]? = Z (Y [N pv (U ys) cv].toArray 23):=by rw[WB,Zq gX];exact y3
   have zD:g1[n0+5]? = Z (.deferred (Z [])):=by rw[WB,Zq gX];exact yD
   have c3:Go.V.hc g1 ⟨n0+3,0,aa⟩=Z (N pv (U ys) cv):=Zg z3;obtain⟨g2,JK⟩:=ZD (g1.setIfInBounds n0 (Y [N pv (U ys) cv].toArray 23));have w0:Jb g1 ⟨n0,0,aa⟩ (N pv (U ys) cv)=Z g2:=by rw[Ye z0 0 _,if_pos ⟨Dq,rfl⟩,JK];rfl
   have z1':g2[n0+1]? = Z (Y [L D 0].toArray 3):=by rw[JK,Zq gX];exact z1
   have z2':g2[n0+2]? = Z (Y [L D 0].toArray 44):=by rw[JK,Zq gX];exact z2
   have w1:Jb g2 ⟨n0+1,0,aa⟩ (L D 0)=Z (g2.setIfInBounds (n0+1) (Y [L D 0].toArray 3)):=by rw[Ye z1' 0 _,if_pos ⟨Dq,rfl⟩];rfl
   obtain⟨g3,LC⟩:=ZD (g2.setIfInBounds (n0+1) (Y [L D 0].toArray 3));rw[<-LC]at w1;have Zen:g3[n0+2]? = Z (Y [L D 0].toArray 44):=by rw[LC,Zq gX];exact z2'
   have w2:Jb g3 ⟨n0+2,0,aa⟩ (L D 0)=Z (g3.setIfInBounds (n0+2) (Y [L D 0].toArray 44)):=by rw[Ye Zen 0 _,if_pos ⟨Dq,rfl⟩];rfl
   obtain⟨g4,Vw⟩:=ZD (g3.setIfInBounds (n0+2) (Y [L D 0].toArray 44));rw[<-Vw]at w2;have k4:Kp (fun t=>t=.ZP 103\/t=.ZP 104) o h' o g4:=by rw[Vw,LC,JK];exact ((k1.set p0 (.inr rfl) _).set p1 (.inr rfl) _).set p2 (.inr rfl) _
   have k5:=k4.set pD (.inr rfl) (.deferred aa);have m0:=Za z0;have m1:=Za z1';have m2:=Za Zen;have m3:=Za z3;have x0:(g4.setIfInBounds (n0+5) (.deferred aa))[n0]? = Z (Y [N pv (U ys) cv].toArray 23):=by rw[Zq gX,Vw,Zq gX,LC,Zq gX,JK];exact ZE z0
   have x1:(g4.setIfInBounds (n0+5) (.deferred aa))[n0+1]? = Z (Y [L D 0].toArray 3):=by rw[Zq gX,Vw,Zq gX,LC];exact ZE z1'
   have x2:(g4.setIfInBounds (n0+5) (.deferred aa))[n0+2]? = Z (Y [L D 0].toArray 44):=by rw[Zq gX,Vw];exact ZE Zen
   have xD:g4[n0+5]? = Z (.deferred (Z [])):=by rw[Vw,Zq gX,LC,Zq gX,JK,Zq gX];exact zD
   have h0:=Zg x0 (o:=0);have vq:=Zg x1 (o:=0);have vu:=Zg x2 (o:=0);refine Qc _ _ _ ?_;simp -implicitDefEqProofs only[go_sem,sh,c3,w0,w1,w2,m0,m1,m2,m3,h0,vq,vu];refine⟨xD,⟨_,ys,rfl,rfl,⟨((O.Zd k5 (by rintro (q|q)<;>cases q)).sl)⟩,fun y hy=>((I y hy).Zd k5).no⟩,?_⟩;have hk:=k5.size;refine⟨by have:=K.size;omega,fun b hb=>?_⟩;have e1:o0 n0 b=aa:=uB n0 b (.inl hb);have n1:∀t,o0 n0 b=Z t->¬S4 t:=fun t ht=>by rw[e1]at ht;cases ht
   obtain⟨e2,e3⟩:=K.Zd b gX n1;have e4:=(k5.Zd b (by have:=K.size;omega) (fun t ht=>by rw[e3,e1]at ht;cases ht)).1;rw[e4,e2];exact bH.block b hb
  .obtain⟨x6,x5,x0,i,e,x1,x2,LH,bx⟩:=hx;refine⟨_,x6,by (intro q;cases q),x5,.inr ⟨rfl,?_⟩⟩;obtain⟨g2,JK⟩:=ZD ((h'.setIfInBounds (n0+5+1) (.loop { rec with state:=.exhausted,pending:=Z .ret })).setIfInBounds (n0+5) (.deferred aa));have z0:g2[n0]? = Z (Y [N aa 0 0].toArray 23):=by rw[JK,Zq gX,Zq gX];exact x0
   have z1:g2[n0+1]? = Z (Y [L D i].toArray 3):=by rw[JK,Zq gX,Zq gX];exact x1
   have z2:g2[n0+2]? = Z (Y [L D e].toArray 44):=by rw[JK,Zq gX,Zq gX];exact x2
   have bg:Zf n0 h g2:=by rw[JK];exact⟨by simp only[aw];exact bx.size,fun b hb=>by rw[Zq gX,Zq gX];exact bx.block b hb⟩
   show Ws _ _ _ _ ((h'.setIfInBounds (n0+5+1) (.loop { rec with state:=.exhausted,pending:=Z .ret })).setIfInBounds (n0+5) (.deferred aa));rw[<-JK,LH];have h0:=Zg z0 (o:=0);have vq:=Zg z1 (o:=0);have vu:=Zg z2 (o:=0);refine VA (P:=be) _ _ ?_;simp -implicitDefEqProofs only[go_sem,h0,vq,vu];exact⟨⟨_,[],rfl,rfl,Ab,fun y hy=>by cases hy⟩,bg⟩
def Qx(n m:Int):Int:=(if n<0 then 0-(n+1) else n)%m
theorem Wq(n:Int){m:Int}(h:0<m):0<=Qx n m/\Qx n m<m:=⟨Int.emod_nonneg _ gX,Int.emod_lt_of_pos _ h⟩
def i64(n:Int):Prop:=-9223372036854775808<=n/\n<9223372036854775808
theorem Wr(h:Hp)(n m:Int)(hn:i64 n)(hm:1<=m)(yi:m<=1000000):
  Zc be T 22 #[L D n,L D m] h fun v' h'=>v'=L D (Qx n m)/\h'=h:=by
 unfold i64 at hn;refine Zc.Y8 [_,_] Tryz.func22 ?_;have vg:¬m=0:=gX;by_cases q:n<0
 .have e:Qx n m=(0-(n+1)).tmod m:=by unfold Qx;rw[if_pos q,bR gX]
  rw[e];simp -implicitDefEqProofs only[go_sem,q,vg]
 .have e:Qx n m=n.tmod m:=by unfold Qx;rw[if_neg q,bR gX]
  rw[e];simp -implicitDefEqProofs only[go_sem,q,vg]
theorem JA(h:Hp)(n m:Int)(hn:i64 n)(hm:1<=m)(yi:m<=1000000):
  Zc be T 11 #[L D n,L D m] h fun v' h'=>v'=L D (Qx n m)/\h'=h:=by
 refine Zc.Y8 [_,_] Tryz.func11 ?_;simp -implicitDefEqProofs only[go_sem];refine (Wr T h n m hn hm yi).pure ?_;simp -implicitDefEqProofs only[go_sem]
def Zjz(k c s n v:Int):List bc:=[L D k,L D c,L D s,L D n,L D v]
def cmW(k c s n v:Int):Cm:=⟨1+(Qx k 5).tdiv 2,Qx c 4,Qx s 6,Qx n 4,if 1+(Qx k 5).tdiv 2=1 then Qx v 1000 else 0⟩
theorem An(h:Hp)(k c s n v:Int)(hk:i64 k)(hc:i64 c)(hs:i64 s)(hn:i64 n)(hv:i64 v):
  Zc be T 65 #[a7 (Zjz k c s n v).toArray] h fun v' h'=>v'=a7 (cmW k c s n v).C.toArray/\Zf h.size h h':=by
 refine Zc.Y8 [_] Tryz.func65 ?_;unfold Zjz;simp -implicitDefEqProofs only[go_sem];refine VS.w (h.size+2) [16] (.q 0 (.q 1 (.q 2 (.q 3 (.q 4 (.q 5 (.q 6 (.q 7 (.q 8 (.q 9 (.q 10 (.q 11 (.q 12 (.q 13 (.q 14 (.s 15 (.w 16 .nil))))))))))))))))) mixed po ?_;simp -implicitDefEqProofs only[go_sem];refine Qg (fun h=>Wr T h k 5 hk gX gX) ?_;simp -implicitDefEqProofs only[go_sem];refine Qg (fun h=>Wr T h c 4 hc gX gX) ?_;simp -implicitDefEqProofs only[go_sem];refine Qg (fun h=>Wr T h s 6 hs gX gX) ?_;simp -implicitDefEqProofs only[go_sem];refine Qg (fun h=>Wr T h n 4 hn gX gX) ?_;have r1:=Wq k (m:=5) gX;generalize S8:Qx k 5=K at *;have r2:0<=K.tdiv 2/\K.tdiv 2<=2:=by rw[Int.tdiv_eq_ediv_of_nonneg r1.1];omega
 unfold cmW;rw[S8];generalize K.tdiv 2=J at *;by_cases q:1+J=1
 .simp -implicitDefEqProofs only[go_sem,q];refine⟨Zf.push Dq _,(Wr T _ v 1000 hv gX gX).pure ?_⟩;simp -implicitDefEqProofs only[go_sem,q];exact⟨rfl,(((Zf.refl _ _).add _).add _).add _⟩
 .simp -implicitDefEqProofs only[go_sem,q];exact⟨Zf.push Dq _,rfl,(((Zf.refl _ _).add _).add _).add _⟩
structure Gr where
 k:Int
 a:Int
 b:Int
 c:Int
 d:Int
def Gr.C(g:Gr):List bc:=[L D g.k,L D g.a,L D g.b,L D g.c,L D g.d]
def Gr.ok(g:Gr):Prop:=(i64 g.k/\i64 g.a)/\i64 g.b/\i64 g.c/\i64 g.d
def AD(g:Gr):Cm:=cmW g.b g.c g.d g.a g.d
def mg(g:Gr):Int:=if Qx g.d 17=16 then ((AD g).c+1).tmod 4 else (AD g).c
def mh(g:Gr):Int:=if Qx g.d 17=15 then 0 else 7
def Zeo(n c r u:Int)(x:Cm):List Nat:=if VM n c r u x.k x.c x.s x.n x.v=0 then j4 n c r u x.k x.c x.s x.n x.v else []
def TK(g:Gr):List Nat:=Zeo (Qx g.a 1000) (mg g) (mh g) 60 (AD g)
def Rr(g:Gr):List Nat:=if Qx g.d 23=22/\30<(TK g).length then (TK g).take 30 else TK g
theorem Dk(h:Hp)(g:Gr)(hg:g.ok)(tk:Tk h):
  Zc be T 38 #[a7 g.C.toArray] h fun v' h'=>Yd h.size 5 h' v' (Rr g)/\Zf h.size h h':=by
 obtain⟨⟨wk,wa⟩,wb,wc,wd⟩:=hg;refine Zc.Y8 [_] Tryz.func38 ?_;unfold Gr.C;have c1:∀h:Hp,Zc be T 65 #[a7 #[L D g.b,L D g.c,L D g.d,L D g.a,L D g.d]] h fun v' h'=>v'=a7 (AD g).C.toArray/\Zf h.size h h':=fun h=>An T h g.b g.c g.d g.a g.d wb wc wd wa wd;obtain⟨h0,Jk⟩:=ZD (h.push (Y g.C.toArray 70):Hp);have y0:h0[h.size]? = Z (Y g.C.toArray 70):=by rw[Jk];exact Zb
 have b0:Zf h.size h h0:=by rw[Jk];exact (Zf.refl _ _).add _
 have e0:=Jk.symm;unfold Gr.C at e0 y0;have s0:h0.size=h.size+1:=by rw[Jk];simp
 have l0:=Za y0;have u1:hc h0 ⟨h.size,1,aa⟩=Z (L D g.a):=Zg y0;have u2:hc h0 ⟨h.size,2,aa⟩=Z (L D g.b):=Zg y0;have u3:hc h0 ⟨h.size,3,aa⟩=Z (L D g.c):=Zg y0;have u4:hc h0 ⟨h.size,4,aa⟩=Z (L D g.d):=Zg y0;simp -implicitDefEqProofs only[go_sem,e0,u1,u2,u3,u4,l0];refine (c1 h0).use ?_;rintro _ h1 ⟨rfl,b1⟩;have B1:Zf h.size h h1:=b0.trans (b1.mono b0.size);have s1:=b1.size;have y1:=b1.get l0 y0;obtain⟨X,hX⟩:=ZD (AD g);rw[<-hX];have hXc:0<=X.c/\X.c<4:=by rw[hX];exact Wq g.c gX
 obtain⟨h2,WT⟩:=ZD ((h1.push (Y X.C.toArray 43)).push (Y [L D X.c,L D 7,L D 60].toArray 80):Hp);have e2:=WT.symm;unfold QA.C QR at e2 ⊢;have y4:hc h2 ⟨h.size,4,aa⟩=Z (L D g.d):=by
  have:h2[h.size]? = Z (Y [L D g.k,L D g.a,L D g.b,L D g.c,L D g.d].toArray 70):=by
   rw[WT,Zl L6,Zl gX];exact y1
  exact Zg this
 simp -implicitDefEqProofs only[go_sem,e2,y4];refine (JA T h2 g.d 17 wd gX gX).pure ?_;have s2:h2.size=h1.size+2:=by rw[WT];simp
 have t2:h2[h1.size+1]? = Z (Y [L D X.c,L D 7,L D 60].toArray 80):=by rw[WT,cu,if_pos Dq]
 have x2:h2[h1.size]? = Z (Y X.C.toArray 43):=by rw[WT,Zl Dq,Zb]
 have b2:Zf h1.size h1 h2:=by rw[WT];exact ((Zf.refl _ _).add _).add _
 have yg2:=b2.get (Za y1) y1;have B2:Zf h.size h h2:=B1.trans (b2.mono B1.size);have Ys:h1.size+1≠h.size:=by have:=B1.size;omega
 have C1:h1.size+1≠h1.size:=gX;clear e2 WT e0 Jk y4;have three:∀tc tr:Int,tc=mg g->tr=mh g->∃g3:Hp,g3=h2.setIfInBounds (h1.size+1) (Y [L D tc,L D tr,L D 60].toArray 80)/\Zf h.size h g3/\g3.size=h2.size/\g3[h1.size+1]? = Z (Y [L D (mg g),L D (mh g),L D 60].toArray 80)/\g3[h1.size]? = Z (Y X.C.toArray 43)/\g3[h.size]? = Z (Y [L D g.k,L D g.a,L D g.b,L D g.c,L D g.d].toArray 70):=fun tc tr e1 e2=>by
  refine⟨_,rfl,B2.Zj (by have:=B1.size;omega) _,Dq,?_,?_,?_⟩
  .rw[<-e1,<-e2];exact ZE t2
  .rw[Zq C1];exact x2
  .rw[Zq Ys];exact yg2
 have rc2:hc h2 ⟨h1.size+1,0,aa⟩=Z (L D X.c):=Zg t2;have l2:=Za t2;have h3c:∃g3:Hp,((Qx g.d 17=15/\Jb h2 ⟨h1.size+1,1,aa⟩ (L D 0)=Z g3)\/(Qx g.d 17=16/\Jb h2 ⟨h1.size+1,0,aa⟩ (L D ((X.c+1).tmod 4))=Z g3)\/((¬Qx g.d 17=15/\¬Qx g.d 17=16)/\g3=h2))/\Zf h.size h g3/\g3.size=h2.size/\g3[h1.size+1]? = Z (Y [L D (mg g),L D (mh g),L D 60].toArray 80)/\g3[h1.size]? = Z (Y X.C.toArray 43)/\g3[h.size]? = Z (Y [L D g.k,L D g.a,L D g.b,L D g.c,L D g.d].toArray 70):=by
  by_cases m7:Qx g.d 17=15
  .obtain⟨g3,LC,z⟩:=three X.c 0 (by unfold mg;rw[if_neg gX,hX]) (by unfold mh;rw[if_pos m7]);exact⟨g3,.inl ⟨m7,by rw[Ye t2 1 _,LC];rfl⟩,z⟩
  by_cases q16:Qx g.d 17=16
  .obtain⟨g3,LC,z⟩:=three ((X.c+1).tmod 4) 7 (by unfold mg;rw[if_pos q16,hX]) (by unfold mh;rw[if_neg m7]);exact⟨g3,.inr (.inl ⟨q16,by rw[Ye t2 0 _,LC];rfl⟩),z⟩
  .obtain⟨g3,LC,z⟩:=three X.c 7 (by unfold mg;rw[if_neg q16,hX]) (by unfold mh;rw[if_neg m7]);exact⟨g3,.inr (.inr ⟨⟨m7,q16⟩,by rw[LC];exact Ni t2⟩),z⟩
 obtain⟨g3,Hj,B3,s3,t3,x3,y3⟩:=h3c;have ra:hc g3 ⟨h.size,1,aa⟩=Z (L D g.a):=Zg y3;have rt:rd g3 ⟨h1.size+1,0,aa⟩ 3=Z [L D (mg g),L D (mh g),L D 60]:=Zs t3 rfl;have rx:rd g3 ⟨h1.size,0,aa⟩ 5=Z [L D X.k,L D X.c,L D X.s,L D X.n,L D X.v]:=Zs x3 rfl;have ly:=Za y3;have lt:=Za t3;have lx:=Za x3;have pk:=yK T g3 (Qx g.a 1000) (mg g) (mh g) 60 X.k X.c X.s X.n X.v (tk.JT B3);unfold TQ QR at pk;clear three b2 t2 x2 yg2 b1 y1 b0 y0;rcases Hj with⟨m7,w3⟩|⟨q16,w3⟩|⟨⟨m7,q16⟩,e23⟩
 case' inl=>simp -implicitDefEqProofs only[go_sem,m7,w3]
 case' inr.inl=>have m7:¬(16:Int)=15:=MZ
 case' inr.inl=>simp -implicitDefEqProofs only[go_sem,q16,rc2,w3]
 case' inr.inr=>subst e23
 case' inr.inr=>simp -implicitDefEqProofs only[go_sem,m7,q16]
 all_goals
  refine VS.w (g3.size) [] (.q 0 (.q 1 (.q 2 (.q 3 (.q 4 (.s 5 (.q 6 (.q 7 (.q 8 (.q 9 (.q 10 .nil))))))))))) mixed po ?_;simp -implicitDefEqProofs only[go_sem,ra,rt,rx,ly,lt,lx];refine Qg (fun h=>JA T h g.a 1000 wa gX gX) ?_;simp -implicitDefEqProofs only[go_sem,rt,rx,lt,lx];refine pk.use ?_;rintro _ h4 ⟨⟨w,rfl,o4⟩,b4⟩;have B4:=B3.trans (b4.mono B3.size);have eF:(if VM (Qx g.a 1000) (mg g) (mh g) 60 X.k X.c X.s X.n X.v=0 then j4 (Qx g.a 1000) (mg g) (mh g) 60 X.k X.c X.s X.n X.v else [])=TK g:=by unfold TK Zeo;rw[<-hX]
  rw[eF]at o4;have o4:=o4.mono B3.size;obtain⟨p4,c4,rfl,_⟩:=o4.open;have yd:hc h4 ⟨h.size,4,aa⟩=Z (L D g.d):=Zg (b4.get ly y3);simp -implicitDefEqProofs only[go_sem,yd,b4];refine (JA T h4 g.d 23 wd gX gX).pure ?_;by_cases q22:Qx g.d 23=22
  .by_cases q30:30<(TK g).length
   .have Zep:((TK g).length:Int)>30:=gX;have eD:Rr g=(TK g).take 30:=by unfold Rr;rw[if_pos ⟨q22,q30⟩]
    simp -implicitDefEqProofs only[go_sem,q22,Zep];have hf:=o4.Zy.Pb (m:=30) gX;rw[eD];refine⟨⟨?_,fun x hx=>o4.byte x (List.mem_of_mem_take hx)⟩,B4⟩;rw[bV,Nat.min_eq_left gX,dj];exact hf
   .have Zep:¬((TK g).length:Int)>30:=gX;have eD:Rr g=TK g:=by unfold Rr;rw[if_neg (fun h=>q30 h.2)]
    simp -implicitDefEqProofs only[go_sem,q22,Zep];rw[eD];exact⟨o4,B4⟩
  .have eD:Rr g=TK g:=by unfold Rr;rw[if_neg (fun h=>q22 h.1)]
   simp -implicitDefEqProofs only[go_sem,q22];rw[eD];exact⟨o4,B4⟩
def VW(g:Gr)(cr:Bool):Raw:=
 if Qx g.k 24<3 then ⟨1,Qx g.a 5,0,0,Rr g⟩ else if Qx g.k 24<5 then ⟨2,Qx g.a 5,0,0,[]⟩ else if Qx g.k 24<14 then ⟨3,Qx g.a 5,0,0,[]⟩
 else if Qx g.k 24=14 then ⟨4,0,Qx g.c 20,0,[]⟩ else if Qx g.k 24=15 then ⟨5,0,Qx g.c 20,0,[]⟩ else if Qx g.k 24=16 then ⟨6,0,Qx g.c 20,0,[]⟩
 else if Qx g.k 24=17/\cr=true then ⟨8,Qx g.a 5,0,Qx g.c 90,[]⟩ else if Qx g.k 24=18/\cr=true then ⟨9,Qx g.a 5,0,0,[]⟩ else ⟨7,0,0,0,[]⟩
theorem mi(h:Hp)(g:Gr)(cr:Bool)(hg:g.ok)(tk:Tk h):
  Zc be T 19 #[a7 g.C.toArray,ay cr] h fun v' h'=>(∃w,v'=a7 (QE (VW g cr,w)).toArray/\Yd h.size 5 h' w (VW g cr).data)/\Zf h.size h h':=by
 have pkc:=fun h tk=>Dk T h g hg tk;obtain⟨⟨wk,wa⟩,wb,wc,wd⟩:=hg;refine Zc.Y8 [_,_] Tryz.func19 ?_;unfold Gr.C at *;obtain⟨h0,Jk⟩:=ZD ((h.push (Y [L D g.k,L D g.a,L D g.b,L D g.c,L D g.d].toArray 70)).push (Y (Su 0 0 0 0 (N aa 0 0)).toArray 41):Hp);have e0:=Jk.symm;have y0:h0[h.size]? = Z (Y [L D g.k,L D g.a,L D g.b,L D g.c,L D g.d].toArray 70):=by rw[Jk,Zl Dq,Zb]
 have z0:h0[h.size+1]? = Z (Y (Su 0 0 0 0 (N aa 0 0)).toArray 41):=by rw[Jk,cu,if_pos Dq]
 have b0:Zf h.size h h0:=by rw[Jk];exact ((Zf.refl _ _).add _).add _
 have u0:hc h0 ⟨h.size,0,aa⟩=Z (L D g.k):=Zg y0;have u1:hc h0 ⟨h.size,1,aa⟩=Z (L D g.a):=Zg y0;have u3:hc h0 ⟨h.size,3,aa⟩=Z (L D g.c):=Zg y0;have ry:rd h0 ⟨h.size,0,aa⟩ 5=Z [L D g.k,L D g.a,L D g.b,L D g.c,L D g.d]:=Zs y0 rfl;have ly:=Za y0;have lz:=Za z0;have rk:=Wq g.k (m:=24) gX;unfold Su at e0;simp -implicitDefEqProofs only[go_sem,e0,u1,u0];refine (JA T h0 g.a 5 wa gX gX).pure ?_;simp -implicitDefEqProofs only[go_sem,u0];refine (JA T h0 g.k 24 wk gX gX).pure ?_;obtain⟨A,hA⟩:=ZD (Qx g.a 5);rw[<-hA];have fin:∀(g4:Hp) (k n a b:Int) (p:Option Addr) (m c:Nat) (l:List Nat),g4[h.size+1]? = Z (Y (Su 0 0 0 0 (N aa 0 0)).toArray 41)->Zf h.size h g4->Yd (h.size+2) 5 g4 (N p m c) l->VW g cr=⟨k,n,a,b,l⟩ ->
   wr g4 ⟨h.size+1,0,aa⟩ [L D k,L D n,L D a,L D b,N p m c]=Z (g4.setIfInBounds (h.size+1) (Y (Su k n a b (N p m c)).toArray 41)) /\
   rd (g4.setIfInBounds (h.size+1) (Y (Su k n a b (N p m c)).toArray 41)) ⟨h.size+1,0,aa⟩ 5=Z [L D k,L D n,L D a,L D b,N p m c] /\
   ((∃w,Value.agg [L D k,L D n,L D a,L D b,N p m c].toArray=a7 (QE (VW g cr,w)).toArray/\Yd h.size 5 (g4.setIfInBounds (h.size+1) (Y (Su k n a b (N p m c)).toArray 41)) w (VW g cr).data)/\Zf h.size h (g4.setIfInBounds (h.size+1) (Y (Su k n a b (N p m c)).toArray 41))):=fun g4 k n a b p m c l y4 b4 o4 e=>by
  refine⟨by rw[Z2 y4 0 _];rfl,Zs (ZE y4) rfl,⟨N p m c,by rw[e];rfl,?_⟩,b4.Zj gX _⟩;rw[e];exact (o4.Z3 gX _).mono gX
 have nil:=fun B=>Yd.nil B 5 h0;have c0:Qx g.k 24<3\/(¬Qx g.k 24<3/\Qx g.k 24<5)\/(¬Qx g.k 24<5/\Qx g.k 24<14)\/Qx g.k 24=14\/Qx g.k 24=15\/Qx g.k 24=16\/Qx g.k 24=17\/Qx g.k 24=18\/18<Qx g.k 24:=gX;obtain⟨K,hK⟩:=ZD (Qx g.k 24);rw[<-hK]at c0 rk ⊢;rcases c0 with c|⟨c,c'⟩|⟨c,c'⟩|c|c|c|c|c|c
 .simp -implicitDefEqProofs only[go_sem,c,ry,ly];refine (pkc h0 (tk.JT b0)).use ?_;rintro w g4 ⟨o4,b4⟩;obtain⟨p,cp,rfl,_⟩:=o4.open;have s0:h0.size=h.size+2:=by rw[Jk];simp
  obtain⟨f1,f2,f3⟩:=fin g4 1 A 0 0 p _ cp (Rr g) (b4.get lz z0) (b0.trans (b4.mono b0.size)) (o4.mono gX) (by unfold VW;rw[<-hK,if_pos c,<-hA]);have l4:=Za (b4.get lz z0);simp -implicitDefEqProofs only[go_sem,f1,f2,l4];exact f3
 .obtain⟨f1,f2,f3⟩:=fin h0 2 A 0 0 aa 0 0 [] z0 b0 (nil _) (by unfold VW;rw[<-hK];rw[if_neg c,if_pos c',<-hA]);simp -implicitDefEqProofs only[go_sem,c,c',f1,f2,lz];exact f3
 .obtain⟨f1,f2,f3⟩:=fin h0 3 A 0 0 aa 0 0 [] z0 b0 (nil _) (by unfold VW;rw[<-hK];rw[if_neg gX,if_neg c,if_pos c',<-hA]);have c2:¬K<3:=gX;simp -implicitDefEqProofs only[go_sem,c,c',c2,f1,f2,lz];exact f3
 .obtain⟨f1,f2,f3⟩:=fin h0 4 0 (Qx g.c 20) 0 aa 0 0 [] z0 b0 (nil _) (by unfold VW;rw[<-hK];rw[c];rfl);have t14:¬(14:Int)<3:=MZ;simp -implicitDefEqProofs only[go_sem,c,u3];refine (JA T h0 g.c 20 wc gX gX).pure ?_;simp -implicitDefEqProofs only[go_sem,f1,f2,lz];exact f3
 .obtain⟨f1,f2,f3⟩:=fin h0 5 0 (Qx g.c 20) 0 aa 0 0 [] z0 b0 (nil _) (by unfold VW;rw[<-hK];rw[c];rfl);have t15:¬(15:Int)<3:=MZ;simp -implicitDefEqProofs only[go_sem,c,u3];refine (JA T h0 g.c 20 wc gX gX).pure ?_;simp -implicitDefEqProofs only[go_sem,f1,f2,lz];exact f3
 .obtain⟨f1,f2,f3⟩:=fin h0 6 0 (Qx g.c 20) 0 aa 0 0 [] z0 b0 (nil _) (by unfold VW;rw[<-hK];rw[c];rfl);have t16:¬(16:Int)<3:=MZ;simp -implicitDefEqProofs only[go_sem,c,u3];refine (JA T h0 g.c 20 wc gX gX).pure ?_;simp -implicitDefEqProofs only[go_sem,f1,f2,lz];exact f3
 .cases cr with
  | true=>
   obtain⟨f1,f2,f3⟩:=fin h0 8 A 0 (Qx g.c 90) aa 0 0 [] z0 b0 (nil _) (by unfold VW;rw[<-hK,c,<-hA];rfl);simp -implicitDefEqProofs only[go_sem,c,u3];refine (JA T h0 g.c 90 wc gX gX).pure ?_;simp -implicitDefEqProofs only[go_sem,f1,f2,lz];exact f3
  | false=>
   obtain⟨f1,f2,f3⟩:=fin h0 7 0 0 0 aa 0 0 [] z0 b0 (nil _) (by unfold VW;rw[<-hK,c];rfl);simp -implicitDefEqProofs only[go_sem,c,f1,f2,lz];exact f3
 .cases cr with
  | true=>
   obtain⟨f1,f2,f3⟩:=fin h0 9 A 0 0 aa 0 0 [] z0 b0 (nil _) (by unfold VW;rw[<-hK,c,<-hA];rfl);simp -implicitDefEqProofs only[go_sem,c,f1,f2,lz];exact f3
  | false=>
   obtain⟨f1,f2,f3⟩:=fin h0 7 0 0 0 aa 0 0 [] z0 b0 (nil _) (by unfold VW;rw[<-hK,c];rfl);simp -implicitDefEqProofs only[go_sem,c,f1,f2,lz];exact f3
 .obtain⟨f1,f2,f3⟩:=fin h0 7 0 0 0 aa 0 0 [] z0 b0 (nil _) (by unfold VW;rw[<-hK,if_neg gX,if_neg gX,if_neg gX,if_neg gX,if_neg gX,if_neg gX,if_neg gX,if_neg gX]);have c3:¬K<3:=gX;have c5:¬K<5:=gX;have c14:¬K<14:=gX;have d14:¬K=14:=gX;have d15:¬K=15:=gX;have d16:¬K=16:=gX;have d17:¬K=17:=gX;have d18:¬K=18:=gX;simp -implicitDefEqProofs only[go_sem,c3,c5,c14,d14,d15,d16,d17,d18,f1,f2,lz];exact f3
def ZjB:Raw:=⟨7,0,0,0,[]⟩
def Rs(n:Nat)(a:Raw):Raw:=if a.k=1/\6<n+1 then ZjB else a
def R7(cr:Bool)(st:Nat × List Raw)(g:Gr):Nat × List Raw:=(if (VW g cr).k=1 then st.1+1 else st.1,st.2++[Rs st.1 (VW g cr)])
def Rt(gs:List Gr)(cr:Bool)(j:Nat):Nat × List Raw:=(gs.take j).foldl (R7 cr) (0,[])
def scr(gs:List Gr)(XP:Nat)(cr:Bool):List Raw:=(Rt gs cr XP).2
theorem FG(gs:List Gr)(cr:Bool)(j:Nat)(hj:j<(U gs)):Rt gs cr (j+1)=R7 cr (Rt gs cr j) gs[j]:=by
 unfold Rt;rw[Yp gs j hj,bU];rfl
theorem NO(gs:List Gr)(cr:Bool):∀j,j<=(U gs)->(Rt gs cr j).2.length=j/\(Rt gs cr j).1<=j:=by
 intro j
 induction j with
 | zero=>intro _;exact⟨rfl,a0 _⟩
 | succ j ih=>
  intro h;obtain⟨h1,h2⟩:=ih gX;rw[FG gs cr j gX];unfold R7;simp only[bd,bL];refine⟨gX,?_⟩;split<;>omega
theorem Ao(gs:List Gr)(cr:Bool)(j:Nat)(h:(U gs)<=j):Rt gs cr j=Rt gs cr (U gs):=by
 unfold Rt;rw[br h,br (a0 _)]
theorem mj{B:Nat}{h:Hp}{v:bc}{l:List Nat}{o:Ow}(s:Yd B 5 h v l)(hf:∀b,B<=b->o b=aa):TD o h v l:=⟨Im.Ub s.Zy hf,s.byte⟩
set_option maxHeartbeats 4000000 in
theorem d6(h:Hp)(v:bc)(gs:List Gr)(XP:Nat)(cr:Bool)(hv:Ts Gr.C 5 h v gs)(hg:∀g∈gs,g.ok)(hm:XP<=1000000)(tk:Tk h):
  Zc be T 8 #[v,L D XP,ay cr] h fun v' h'=>Zf h.size h h'/\Sn v'/\∃ys,YQ ys=scr gs XP cr/\Ts QE 5 h' v' ys/\(∀y∈ys,TD Ps h' y.2 y.1.data)/\(∀y∈ys,∀b,ZJ y.2=Z b->h.size<=b)/\∀b,ZJ v'=Z b->h.size<=b/\b<h'.size:=by
 obtain⟨p,c,rfl,YR⟩:=hv.open (n:=5) (enc:=Gr.C) (fun _=>rfl) MZ;refine Zc.Y8 [_,_,_] Tryz.func8 ?_;simp -implicitDefEqProofs only[go_sem];refine VS.Z9 (fun F g=>(F 0=N p (U gs) c/\F 1=L D XP/\F 2=ay cr)/\∃(j:Nat) (o:Ow) (ys:List (Raw × bc)),j<=(U gs)/\j<=XP/\F 9=L D j/\F 8=L D ((Rt gs cr j).1:Nat)/\Kp (fun t=>t=.ZP 100) Ps h o g/\YQ ys=(Rt gs cr j).2/\YP o (.ZP 100) 41 5 g (F 7) (U ys) (ZK QE ys)/\(∀y∈ys,TD o g y.2 y.1.data)/\∀y∈ys,∀b,ZJ y.2=Z b->h.size<=b)
  (fun F _=>(U gs)-(vi (F 9)).toNat) rfl ⟨⟨rfl,rfl,rfl⟩,0,Ps,[],cn _,cn _,rfl,rfl,Kp.refl (Rp h) _,rfl,YP.nil _ _ _ _ _,(fun y hy=>by cases hy),fun y hy=>by cases hy⟩ ?_
 rintro F2 g2 ⟨⟨f0,f1,f2⟩,j,o2,ys,hj,hjm,f9,f8,K2,hr,O2,I2,N2⟩;have yl:(U ys)=j:=by
  have:=congrArg U hr;unfold YQ at this;rw[c9,(NO gs cr j hj).1]at this;exact this
 obtain⟨p3,c3,f3,hc3⟩:=O2.ZM;by_cases ZL:j<(U gs)/\j<XP
 .obtain⟨ZL,ZsS⟩:=ZL;have ZW:(j:Int)<(U gs):=gX;have ZjC:(j:Int)<XP:=gX;obtain⟨bb,oo,rfl,U9,Pq⟩:=YR (by intro e;rw[e]at ZL;simp at ZL);obtain⟨g,hg0⟩:=ZD (gs[j]);have hgm:g∈gs:=by rw[hg0];exact bD ZL
  have r1:rd g2 ⟨bb,oo+j*5,aa⟩ 5=Z g.C:=by rw[JW (MD K2) U9,hg0];exact (Pq j ZL).rd (by simp[Gr.C]) rfl
  have ca:=mi T g2 g cr (hg g hgm) (tk.JT (MD K2));unfold Gr.C at ca r1;simp -implicitDefEqProofs only[go_sem,f0,f1,f2,f9,ZW,ZjC,r1];refine ca.use ?_;rintro vv g3 ⟨⟨w,hvv,o3⟩,b3⟩;obtain⟨a,ha⟩:=ZD (VW g cr);rw[<-ha]at o3 hvv;obtain⟨p4,c4,rfl,_⟩:=o3.open;have hvv:vv=a7 #[L D a.k,L D a.n,L D a.a,L D a.b,N p4 (U a.data) c4]:=by rw[hvv];rfl
  subst hvv;obtain⟨n,hn⟩:=ZD ((Rt gs cr j).1);rw[<-hn]at f8;have hnj:n<=j:=by rw[hn];exact (NO gs cr j hj).2
  obtain⟨g4,Vw⟩:=ZD (g3.push (Y (Su a.k a.n a.a a.b (N p4 (U a.data) c4)).toArray 41):Hp);have e4:=Vw.symm;have y4:g4[g3.size]? = Z (Y (Su a.k a.n a.a a.b (N p4 (U a.data) c4)).toArray 41):=by rw[Vw];exact Zb
  have K3:Kp QC o2 g2 o2 g3:=ZN K2.Ya b3;have k4:Kp QC o2 g3 o2 g4:=by rw[Vw];exact Yc K3.Ya _
  have K4:=K3.trans k4;have i3:TD o2 g3 (N p4 (U a.data) c4) a.data:=mj o3 (fun b hb=>K2.Ya b hb);have i4:=i3.Zd k4;have rk:hc g4 ⟨g3.size,0,aa⟩=Z (L D a.k):=Zg y4;have l4:=Za y4;have hs3:=b3.size;have h5c:∃(g5:Hp) (q:Option Addr) (cq:Nat),((¬a.k=1/\g5=g4)\/((a.k=1/\¬(n:Int)+1>6)/\g5=g4)\/((a.k=1/\(n:Int)+1>6)/\wr g4 ⟨g3.size,0,aa⟩ [L D 7,L D 0,L D 0,L D 0,N aa 0 0]=Z g5)) /\
    g5[g3.size]? = Z (Y (Su (Rs n a).k (Rs n a).n (Rs n a).a (Rs n a).b (N q (Rs n a).data.length cq)).toArray 41)/\Kp QC o2 g2 o2 g5/\TD o2 g5 (N q (Rs n a).data.length cq) (Rs n a).data/\g3.size<g5.size/\∀b,ZJ (N q (Rs n a).data.length cq)=Z b->h.size<=b:=by
   have ZjD:∀b,ZJ (N p4 (U a.data) c4)=Z b->h.size<=b:=fun b hb=>bE K2.size (o3.Zy.ZQ b hb);by_cases q1:a.k=1
   .by_cases q6:6<n+1
    .have eX:Rs n a=ZjB:=by unfold Rs;rw[if_pos ⟨q1,q6⟩]
     rw[eX];refine⟨_,aa,0,.inr (.inr ⟨⟨q1,gX⟩,by rw[Z2 y4 0 _];rfl⟩),ZE y4,K4.aQ gX _,⟨Im.nil _ 1 _ aa,fun x hx=>by cases hx⟩,by simpa using l4,fun b hb=>by simp[ZJ]at hb⟩
    .have eX:Rs n a=a:=by unfold Rs;rw[if_neg (fun h=>q6 h.2)]
     rw[eX];exact⟨g4,p4,c4,.inr (.inl ⟨⟨q1,gX⟩,rfl⟩),y4,K4,i4,l4,ZjD⟩
   .have eX:Rs n a=a:=by unfold Rs;rw[if_neg (fun h=>q1 h.1)]
    rw[eX];exact⟨g4,p4,c4,.inl ⟨q1,rfl⟩,y4,K4,i4,l4,ZjD⟩
  obtain⟨g5,q,cq,Hj,y5,K5,i5,l5,n5⟩:=h5c;obtain⟨X,hX⟩:=ZD (Rs n a);rw[<-hX]at y5 i5 n5;have eN:Rt gs cr (j+1)=(if a.k=1 then n+1 else n,(Rt gs cr j).2++[X]):=by rw[FG gs cr j ZL,<-hg0];unfold R7;rw[<-ha,<-hn,hX]
  have r5:rd g5 ⟨g3.size,0,aa⟩ 5=Z (Su X.k X.n X.a X.b (N q (U X.data) cq)):=Zs y5 rfl;obtain⟨g6,RU⟩:=ZD (g5.push (Y (Su X.k X.n X.a X.b (N q (U X.data) cq)).toArray 41):Hp);have e6:=RU.symm;have k6:Kp QC o2 g5 o2 g6:=by rw[RU];exact Yc K5.Ya _
  have x6:g6[g5.size]? = Z (Y (Su X.k X.n X.a X.b (N q (U X.data) cq)).toArray 41):=by rw[RU];exact Zb
  have src:Sl 5 g6 (N (Z ⟨g5.size,0,aa⟩) 1 1) 1 (Su X.k X.n X.a X.b (N q (U X.data) cq)):=⟨_,1,rfl,rfl,fun _=>⟨g5.size,0,rfl,fun i hi=>by
   rw[Zg x6,YE,cy];exact am hi⟩⟩
  have O6:=(O2.Zd K5 (fun q=>q)).Zd k6 (fun q=>q);rw[f3]at O6;have stp:∀v7 o7 (g7:Hp),YP o7 (.ZP 100) 41 5 g7 v7 ((U ys)+1) (ZK QE ys++Su X.k X.n X.a X.b (N q (U X.data) cq))->Kp (fun u=>u=.ZP 100) o2 g6 o7 g7 ->
    Kp (fun t=>t=.ZP 100) Ps h o7 g7/\YQ (ys++[(X,N q (U X.data) cq)])=(Rt gs cr (j+1)).2/\YP o7 (.ZP 100) 41 5 g7 v7 (ys++[(X,Value.slice q (U X.data) cq)]).length (ZK QE (ys++[(X,N q (U X.data) cq)]))/\(∀y∈ys++[(X,Value.slice q (U X.data) cq)],TD o7 g7 y.2 y.1.data)/\∀y∈ys++[(X,Value.slice q (U X.data) cq)],∀b,ZJ y.2=Z b->h.size<=b:=fun v7 o7 g7 O7 k7=>by
   refine⟨((K2.trans (ZR K5)).trans (ZR k6)).trans k7,?_,?_,fun y hy=>?_,fun y hy=>?_⟩
   .rw[eN,<-hr];unfold YQ;simp only[b9,bh,cz]
   .have e:ZK QE (ys++[(X,N q (U X.data) cq)])=ZK QE ys++Su X.k X.n X.a X.b (N q (U X.data) cq):=by rw[YD,UL];rfl
    rw[e,bd];exact O7
   .rcases bz.1 hy with hy|hy
    .exact (((I2 y hy).Zd K5).Zd k6).Zd k7
    .rw[bp.1 hy];exact (i5.Zd k6).Zd k7
   .rcases bz.1 hy with hy|hy
    .exact N2 y hy
    .rw[bp.1 hy];exact n5
  unfold Su at e4 r5 e6;rcases Hj with⟨q1,e54⟩|⟨⟨q1,q6⟩,e54⟩|⟨⟨q1,q6⟩,w5⟩
  case' inl=>subst e54
  case' inl=>simp -implicitDefEqProofs only[go_sem,e4,rk,q1,r5,l5,e6,f3]
  case' inr.inl=>subst e54
  case' inr.inl=>have q1t:=eq_true q1
  case' inr.inl=>simp -implicitDefEqProofs only[go_sem,e4,rk,q1t,f8,q6,r5,l5,e6,f3]
  case' inr.inr=>have q1t:=eq_true q1
  case' inr.inr=>simp -implicitDefEqProofs only[go_sem,e4,rk,q1t,f8,q6,w5,l4,r5,l5,e6,f3]
  all_goals
   refine JX (E:=41) (n:=5) (bytes:=56) (k:=1) Zbb cT ZgF ZgH rfl ZgG O6 k6.Ya src rfl gX gX ?_;intro v7 o7 g7 O7 k7 _;have k7:Kp (fun u=>u=.ZP 100) o2 g6 o7 g7:=k7;obtain⟨z1,z2,z3,z4,z5⟩:=stp v7 o7 g7 O7 k7;simp -implicitDefEqProofs only[go_sem,f9];unfold XB;refine⟨⟨⟨f0,f1,f2⟩,j+1,o7,ys++[(X,Value.slice q (U X.data) cq)],ZL,ZsS,rfl,?_,z1,z2,?_,z4,z5⟩,?_⟩
   .rw[eN]
    first
    | (rw[if_pos q1];rfl)
    | (rw[if_neg q1];exact f8)
   .exact z3
   .simp only[vi,Zk,↓reduceIte,f9];omega
 have e9:scr gs XP cr=(Rt gs cr j).2:=by
  unfold scr;by_cases q:j<(U gs)
  .rw[show XP=j by omega]
  .rw[show j=(U gs) by omega,Ao gs cr XP gX]
 have fin:∀b,ZJ (F2 7)=Z b->h.size<=b/\b<g2.size:=fun b hb=>by
  have ho:=ud O2 hb;refine⟨BU K2 ho,?_⟩;refine az fun q=>?_;rw[K2.Ya b gX]at ho;cases ho
 by_cases Mh:j<(U gs)
 .have ZW:(j:Int)<(U gs):=gX;have YU:¬(j:Int)<XP:=gX;simp -implicitDefEqProofs only[go_sem,f0,f1,f9,ZW,YU];exact⟨MD K2,by rw[f3];exact hc3,ys,by rw[hr,e9],⟨O2.sl⟩,(fun y hy=>⟨⟨(I2 y hy).1.sl,(I2 y hy).1.fits,fun b hb=>⟨((I2 y hy).1.free b hb).1,rfl⟩⟩,(I2 y hy).2⟩),N2,fin⟩
 .have ZW:¬(j:Int)<(U gs):=gX;simp -implicitDefEqProofs only[go_sem,f0,f1,f9,ZW];exact⟨MD K2,by rw[f3];exact hc3,ys,by rw[hr,e9],⟨O2.sl⟩,(fun y hy=>⟨⟨(I2 y hy).1.sl,(I2 y hy).1.fits,fun b hb=>⟨((I2 y hy).1.free b hb).1,rfl⟩⟩,(I2 y hy).2⟩),N2,fin⟩
theorem mm(h:Hp)(v:bc)(gs:List Gr)(XP:Nat)(cr:Bool)(hv:Ts Gr.C 5 h v gs)(hg:∀g∈gs,g.ok)(hm:XP<=1000000)(tk:Tk h):
  Zc be T 8 #[v,L D XP,ay cr] h fun v' h'=>Zf h.size h h'/\Sn v'/\∃ys,YQ ys=scr gs XP cr/\Ts QE 5 h' v' ys/\∀y∈ys,TD Ps h' y.2 y.1.data:=
 (d6 T h v gs XP cr hv hg hm tk).mono fun _ _ ⟨q1,q2,ys,q3,q4,q5,_,_⟩=>⟨q1,q2,ys,q3,q4,q5⟩
def vB(l:List Raw):Wd:=Mx (l.map Raw.ac)
theorem uF{h:Hp}{v:bc}{l:List (Raw × bc)}(s:Ts QE 5 h v l):∃p c,v=N p (U l) c:=by
 obtain⟨p,c,h,_⟩:=RY s;exact⟨p,c,h⟩
theorem gU{α β:Type}{R:α->β->Prop}{l:List α}{k:List β}(h:D8 R l k):(U l)=(U k):=by
 induction h with
 | nil=>rfl
 | cons _ _ ih=>rw[a9,a9,ih]
set_option maxHeartbeats 4000000 in
theorem uG(h:Hp)(v:bc)(xs:List (Raw × bc))(hv:Ts QE 5 h v xs)(hx:∀x∈xs,TD Ps h x.2 x.1.data)(tb:Az Ps h)(Ax:(U xs)<=4611686018427387904)(hz:VV (YQ xs)=0):
  Zc be T 9 #[v] h fun v' h'=>(∃lv tv vs,v'=.tuple #[a7 (lw (vB (YQ xs)) lv tv).toArray,ay true]/\U8 (h.size+1) h' (lw (vB (YQ xs)) lv tv) (vB (YQ xs)) lv tv vs)/\Zf h.size h h':=by
 obtain⟨p,c,gG⟩:=uF hv;subst gG;refine Zc.Y8 [_] Tryz.func9 ?_;obtain⟨h0,Jk⟩:=ZD (h.push (Y nc.toArray 30):Hp);have e0:=Jk.symm;have b0:Zf h.size h h0:=by rw[Jk];exact (Zf.refl _ _).add _
 have z0:h0[h.size]? = Z (Y nc.toArray 30):=by rw[Jk];exact Zb
 have k0:Kp QC Ps h Ps h0:=ZN (Rp h) b0;unfold nc at e0;simp -implicitDefEqProofs only[go_sem,e0];refine (Zap T h0 _ xs (hv.Yb b0) (fun x ue=>(hx x ue).Zd k0) (tb.Zd k0) Ax).use ?_;rintro v1 h1 ⟨b1,r1⟩;have B1:=b0.trans (b1.mono b0.size);unfold FD at r1;rw[if_pos hz]at r1;obtain⟨R,lv,tv,vs,rfl,rf⟩:=r1;have ra:=rf.at;obtain⟨pl,cl,hl,_⟩:=ra.Zji.open (n:=1) (enc:=fun v=>[v]) (fun _=>rfl) (show (1:Nat)≠0 by decide);have vl:(U vs)=5:=gU ra.each;subst hl;rw[vl]at *;have rc:=ra.cells;subst rc;obtain⟨R,hR⟩:=ZD (lw (vB (YQ xs)) (N pl 5 cl) tv);have hR':lw (Mx (List.map Raw.ac (YQ xs))) (N pl 5 cl) tv=R:=by rw[hR];rfl
 rw[hR'];rw[hR']at ra rf;obtain⟨pt,ct,ht,_⟩:=ra.ZB.open (n:=5) (enc:=Ha) (fun _=>rfl) (show (5:Nat)≠0 by decide);have uH:(U R)=13:=by rw[hR];rfl
 have mX:R.all Yq=true:=by rw[hR,ht];rfl
 have hRp:YJ [Value.int D 0,ay false,ay false,ay false,ay false,ay false,N aa 0 0,L D 0,L D 0,L D 0,L D 0,L D 0,N aa 0 0] 0 R=R:=ZZ (by rw[uH];rfl);have ZaF:(U R)<=13:=gX;have hR6:nth R 6=Z (N pl 5 cl):=by rw[hR];rfl
 obtain⟨h2,WT⟩:=ZD (h1.push (Y R.toArray 30):Hp);have e2:=WT.symm;have b2:Zf h1.size h1 h2:=by rw[WT];exact (Zf.refl _ _).add _
 have y2:h2[h1.size]? = Z (Y R.toArray 30):=by rw[WT];exact Zb
 have z2:=b2.get (Za (b1.get (Za z0) z0)) (b1.get (Za z0) z0);have lz:=Za z2;have ly:=Za y2;have r2:rd h2 ⟨h1.size,0,aa⟩ 13=Z R:=Zs y2 uH;have r6:hc h2 ⟨h1.size,6,aa⟩=Z (N pl 5 cl):=by rw[Zg y2];exact hR6
 have w2:wr h2 ⟨h.size,0,aa⟩ R=Z (h2.setIfInBounds h.size (Y R.toArray 30)):=by
  rw[Z2 z2 0 _,if_pos ⟨by rw[uH];decide,mX⟩];have:YJ nc 0 R=R:=ZZ (by rw[uH];rfl);rw[this]
 have z3:=ZE (o:=Y R.toArray 30) z2;have r3:=Zs z3 uH;simp -implicitDefEqProofs only[go_sem,uH,mX,hRp,ZaF,e2];refine VS.z (h.size) [0,5,9] (.p 1 (.p 2 (.p 3 (.p 4 (.or 0 (.or 5 (.p 6 (.p 7 (.p 8 (.w 9 (.p 10 .nil))))) (.s 9 (.w 5 (.p 6 (.p 7 (.p 8 (.p 10 .nil))))))) (.s 5 (.p 6 (.p 7 (.p 8 (.w 0 (.w 9 (.p 10 .nil)))))))))))) mixed po ?_;have s0:h0.size=h.size+1:=by rw[Jk];simp
 have Ys:¬h1.size=h.size:=by have:=b1.size;omega
 have e5:decide (((5:Nat):Int)=5)=true:=rfl;have et:R.take 13=R:=br gX;have bs:Zf h.size h (h2.setIfInBounds h.size (Y R.toArray 30)):=(B1.trans (b2.mono B1.size)).Zj (a0 _) _;have rf2:U8 (h.size+1) (h2.setIfInBounds h.size (Y R.toArray 30)) R (Mx (List.map Raw.ac (YQ xs))) (N pl 5 cl) tv vs:=by
  rw[s0]at rf;exact (rf.Yb b2).set gX _
 have key:(∃lv tv vs,Value.tuple #[a7 R.toArray,ay true]=.tuple #[a7 (lw (vB (YQ xs)) lv tv).toArray,ay true]/\U8 (h.size+1) (h2.setIfInBounds h.size (Y R.toArray 30)) (lw (vB (YQ xs)) lv tv) (vB (YQ xs)) lv tv vs)/\Zf h.size h (h2.setIfInBounds h.size (Y R.toArray 30)):=
  ⟨⟨_,tv,vs,by rw[<-hR],by rw[<-hR];exact rf2⟩,bs⟩
 simp -implicitDefEqProofs only[go_sem,r2,r6,w2,uH,mX,ZaF,ly,lz,Ys,hR6,e5,et];exact⟨⟨key,key⟩,key⟩
def Maj(Q:List Nat):Prop:=Q.Nodup/\(∀i∈Q,i<5)/\3<=(U Q)
structure Gh where
 V:Nat->Ji->Int->Cm->Prop
 P:Ji->Int->Cm->Prop
def ZjE(g:Gh)(M:Nat->Ji)(b:Ji)(s:Int):Prop:=∃Q,Maj Q/\(∀i∈Q,¬Y4 (M i) b)/\∀i∈Q,∀b' y,Y4 b' b->¬g.V i b' s y
def d7(g:Gh)(s:Int)(x:Cm):Prop:=∃Q b,Maj Q/\∀i∈Q,g.V i b s x
structure PF(g:Gh)(M:Nat->Ji)(i:Nat)(b:Ji)(vs:List Vt):Prop where
 lt:i<5
 Z4:¬Y4 (M i) b
 has:∀v∈vs,g.V i v.b v.ZA v.cm/\¬Y4 b v.b
 all:∀b' s x,Y4 b' b->g.V i b' s x->∃v∈vs,v.ZA=s/\¬Y4 v.b b'
section
variable {i:Nat} {g g':Gh} {M M':Nat->Ji}
end
def Whole(d:List Nat)(a:V0):Prop:=Rec d Uj 0 a (U d)
def ZsW:mT->V0
 | .EU a _ _ _=>a
 | .EV a _ _=>a
 | .Zy a _ _=>a
structure TR(n:Nd):Prop where
 idle:n.up=true->n.Z8=aa->Whole n.data n.Zy/\n.XW=(U n.data)
 busy:n.up=true->∀p,n.Z8=Z p->∃d f,n.data=d++Xt f/\n.XW=(U d)/\Whole d n.Zy/\JR n.Zy f=Z (ZsW p)
 down:n.up=false->n.Z8=aa/\n.XW=(U n.data)/\∃a j,Rec n.data Uj 0 a j
 len:(U n.data)<=100000
def ZbV(n:Nd):V0:=if n.up=true then n.Zy else (Rh n.data).1
structure AR(g:Gh)(i:Nat)(a:V0):Prop where
 has:∀v∈a.l,g.V i v.b v.ZA v.cm
 all:∀b s x,g.V i b s x->∃v∈a.l,v.ZA=s/\¬Y4 v.b b
structure RR(g:Gh)(M:Nat->Ji)(i:Nat)(n:Nd)(r:Q9):Prop where
 Yf:r.b.n=i
 may:Z6 r.b
 Yw:∀j vs,XD r.Yw j=Z vs->PF g M j.toNat r.b vs
 pn:r.Rc=false->∀s x,¬g.P r.b s x
 pr:∀s x,g.P r.b s x->XD r.Xf s=Z x
 safe:∀s x,XD r.Xf s=Z x->g.P r.b s x
 free:r.Rc=true->∀s:Int,(n.ZP.length:Int)<=s->XD r.Xf s=aa->XD n.Zp s=aa->ZjE g M r.b s
 JV:∀s K j,XD r.JV s=Z K->XD K j=Z ()->∃x,g.V j.toNat r.b s x
def PR(g:Gh)(n:Nd):mT->Prop
 | .EU a to b vs=>a=⟨b,n.Zy.l⟩/\vs=n.Zy.l/\YT n.Zy.p n.Zy.l b=0
 | .EV a to v=>a=⟨v.b,Ui n.Zy.l v⟩/\Xk n.Zy.p n.Zy.l v=0/\g.P v.b v.ZA v.cm
 | .Zy a vs cur=>∃b,a=⟨b,n.Zy.l⟩/\vs=n.Zy.l/\YT n.Zy.p n.Zy.l b=0/\(cur=true->∃r,n.Zi=Z r/\r.b=b)
structure LR(S:Cm->Prop)(g:Gh)(M:Nat->Ji)(l:XR):Prop where
 EU:l.YI=1->PF g M l.JU.toNat l.b l.vs
 ask:l.YI=2->g.P l.v.b l.v.ZA l.v.cm
 EV:l.YI=3->g.V l.JU.toNat l.v.b l.v.ZA l.v.cm
 fwd:l.YI=4->S l.v.cm
 cho:l.YI=6->d7 g l.v.ZA l.v.cm
structure NR(S:Cm->Prop)(g:Gh)(M:Nat->Ji)(i:Nat)(n:Nd):Prop where
 acc:AR g i (ZbV n)
 m:M i=(ZbV n).p
 tape:TR n
 Z8:∀p,n.Z8=Z p->PR g n p
 Zp:∀s x,XD n.Zp s=Z x->d7 g s x
 ZP:∀(k:Nat) x,n.ZP[k]? = Z x->d7 g (k:Int) x
 que:∀x∈n.Zw,S x
 Zi:∀r,n.Zi=Z r->RR g M i n r
section
variable {i j:Nat} {g g':Gh} {M M':Nat->Ji} {S:Cm->Prop}
end
structure HR(S:Cm->Prop)(g:Gh)(M:Nat->Ji)(i:Nat)(o:Out):Prop where
 n:NR S g M i o.n
 up:o.n.up=true
 ls:∀l∈o.ls,LR S g M l
section
variable {S:Cm->Prop} {g:Gh} {M:Nat->Ji} {i:Nat} {n:Nd}
end
section
variable {S:Cm->Prop} {g:Gh} {M:Nat->Ji} {i:Nat} {n:Nd}
end
section
variable {S:Cm->Prop} {g:Gh} {M:Nat->Ji} {i:Nat} {n:Nd}
end
section
variable {S:Cm->Prop} {g:Gh} {M:Nat->Ji} {w:Wd}
end
def alk(a b:List Cm):Bool:=decide (∀i:Nat,i<(U a)->i<(U b)->a[i]? = b[i]?)
theorem uI{a b:List Cm}(h:∀(i:Nat) x y,a[i]? = Z x->b[i]? = Z y->x=y):alk a b=true:=by
 unfold alk;refine decide_eq_true fun i h1 h2=>?_;rw[am h1,am h2,h i _ _ (am h1) (am h2)]
theorem uJ(h:Hp)(u v:bc)(a b:List Cm)(su:Ts QA.C 5 h u a)(sv:Ts QA.C 5 h v b)(hl:(U a)<=1000000):
  Zc be T 13 #[u,v] h fun v' h'=>v'=ay (alk a b)/\h'=h:=by
 obtain⟨p,c,rfl,YR⟩:=JG su;obtain⟨q,d,rfl,hds⟩:=JG sv;refine Zc.Y8 [_,_] Tryz.func13 ?_;simp -implicitDefEqProofs only[go_sem];refine VS.Z9 (fun F g=>g=h/\F 0=N p (U a) c/\F 1=N q (U b) d/\∃i:Nat,i<=(U a)/\F 5=L D i/\∀j,j<i->j<(U a)->j<(U b)->a[j]? = b[j]?)
  (fun F _=>(U a)-(vi (F 5)).toNat) rfl ⟨rfl,rfl,rfl,0,gX,rfl,fun j hj=>by omega⟩ ?_
 rintro F g ⟨rfl,f0,f1,i,hi,f5,Xc⟩;by_cases hla:i<(U a)
 .have uK:(i:Int)<(U a):=gX;by_cases mH:i<(U b)
  .have ZaG:(i:Int)<(U b):=gX;obtain⟨bb,oo,rfl,U9,IC⟩:=YR (by intro e;rw[e]at hla;simp at hla);obtain⟨b2,o2,rfl,ZhY,ZsX⟩:=hds (by intro e;rw[e]at mH;simp at mH);have r1:=IC i hla;have r2:=ZsX i mH;simp -implicitDefEqProofs only[go_sem,f0,f1,f5,uK,ZaG];refine VS.q mixed po ?_;simp -implicitDefEqProofs only[go_sem,f0,f1,f5,uK,ZaG,r1,r2];by_cases e:a[i]=b[i]
   .simp -implicitDefEqProofs only[go_sem,e,f0,f1,f5];refine⟨⟨rfl,f0,f1,i+1,hla,rfl,fun j hj h1 h2=>?_⟩,?_⟩
    .by_cases ej:j=i
     .subst ej;rw[am h1,am h2,e]
     .exact Xc j gX h1 h2
    .simp only[vi,Zk,↓reduceIte,f5];omega
   .have en:alk a b=false:=decide_eq_false fun h=>e (by
     have:=h i hla mH;rw[am hla,am mH]at this;exact Option.some.inj this)
    rw[en];simp -implicitDefEqProofs only[go_sem,e]
  .have ZaG:¬(i:Int)<(U b):=gX;have et:alk a b=true:=decide_eq_true fun j h1 h2=>Xc j gX h1 h2;rw[et];simp -implicitDefEqProofs only[go_sem,f0,f1,f5,uK,ZaG]
 .have uK:¬(i:Int)<(U a):=gX;have et:alk a b=true:=decide_eq_true fun j h1 h2=>Xc j gX h1 h2;rw[et];simp -implicitDefEqProofs only[go_sem,f0,f1,f5,uK]
theorem mo(g:Gr):(TK g).length<=63:=by
 unfold TK Zeo;split
 .unfold j4;have:=rn (Wk (AD g).c.toNat) (Qx g.a 1000).toNat (rh (mg g) (mh g) 60 (AD g).k (AD g).c (AD g).s (AD g).n (AD g).v);have e:(rh (mg g) (mh g) 60 (AD g).k (AD g).c (AD g).s (AD g).n (AD g).v).length=42:=by
   unfold rh;rw[bd,Lp,ZO];rfl
  rw[a9];omega
 .simp
theorem mq(g:Gr):(Rr g).length<=63:=by
 have:=mo g;unfold Rr;split
 .rw[bV];omega
 .exact this
theorem uL(g:Gr)(cr:Bool):(VW g cr).err=0:=by
 have h1:=Wq g.a (m:=5) gX;have h2:=Wq g.c (m:=20) gX;have h3:=Wq g.c (m:=90) gX;have h4:=mq g;have mk:∀(k n a b:Int) (len:Nat),(1<=k/\k<=9)->(Yl k/\(0<=n/\n<=4)\/¬Yl k/\n=0)->(Xe k/\(0<=a/\a<=1048576)\/¬Xe k/\a=0)->(k=8/\(0<=b/\b<=100000)\/k≠8/\b=0)->len<=2000->(k=1\/len=0)->XV k n a b len=0:=fun k n a b len q1 q2 q3 q4 q5 q6=>by
  unfold Yl at q2;unfold Xe at q3;unfold XV Yl Xe;rw[if_neg gX,if_neg gX,if_neg gX,if_neg gX]
 unfold VW
 repeat' split
 all_goals
  unfold Raw.err;refine mk _ _ _ _ _ ?_ ?_ ?_ ?_ ?_ ?_
 all_goals simp[Yl,Xe]
 all_goals omega
theorem uM(gs:List Gr)(cr:Bool):∀j,∀x∈(Rt gs cr j).2,x.err=0:=by
 have key:∀(l:List Gr) (st:Nat × List Raw),(∀x∈st.2,x.err=0)->∀x∈(l.foldl (R7 cr) st).2,x.err=0:=by
  intro l
  induction l with
  | nil=>intro st h;exact h
  | cons g l ih=>
   intro st h;refine ih _ (fun x hx=>?_);unfold R7 at hx;rcases bz.1 hx with hx|hx
   .exact h x hx
   .rw[bp.1 hx];unfold Rs;split
    .rfl
    .exact uL g cr
 intro j;exact key _ _ (fun x hx=>by cases hx)
theorem ZaH(gs:List Gr)(XP:Nat)(cr:Bool):∀x∈scr gs XP cr,x.err=0:=uM gs cr XP
theorem ZaI(gs:List Gr)(XP:Nat)(cr:Bool):(scr gs XP cr).length<=XP:=by
 unfold scr;by_cases h:XP<=(U gs)
 .rw[(NO gs cr XP h).1];exact a0 _
 .rw[Ao gs cr XP gX,(NO gs cr (U gs) (a0 _)).1];omega
theorem LJ{l:List Raw}(h:∀x∈l,x.err=0)(hl:(U l)<=100000):VV l=0:=by
 unfold VV;rw[if_neg gX];exact Ro h
theorem ZaJ{A:List Raw}(hA:∀x∈A,x.err=0)(hl:(U A)<=100000)(i:Nat)(hi:i<5):((vB A).Zm i).ZP.length<=40:=by
 obtain⟨C,hC⟩:∃C,C=A.map fun x=>MF x.data:=⟨_,rfl⟩
 have yQ:(U C)<=100000:=by rw[hC,c9];exact hl
 have:=uh yQ (A.map Raw.ac) 0 Ri (BV C) (fun a ha=>by
  obtain⟨z,hz,rfl⟩:=List.mem_map.1 ha;obtain⟨_,q2,_,_,_⟩:=dP (hA z hz);refine⟨by unfold Raw.ac;simp only;omega,?_⟩;rw[hC];exact List.mem_map.2 ⟨z,hz,rfl⟩)
 exact (this.nd i hi).Dd
section
variable {T:World} {K:bc->Hp->Prop} {ty:TypeId} {cb:Array Bool}
end
def Still(n m:Nd):Prop:=m.up=n.up/\m.me=n.me/\m.ZP=n.ZP
def Two(x y:Nat)(k:Int):Prop:=k=x\/k=y
section
variable {x y:Nat} {n:Nd}
end
section
variable {x y:Nat} {w:Wd}
end
theorem ZaK{α β:Type}{R:α->β->Prop}{l:List α}{k:List β}(s:D8 R l k):∀(i:Nat) (h1:i<(U l)) (h2:i<(U k)),R l[i] k[i]:=by
 induction s with
 | nil=>intro i h1;cases h1
 | cons a _ ih=>
  intro i h1 h2
  cases i with
  | zero=>exact a
  | succ i=>exact ih i (by simpa using h1) (by simpa using h2)
def ZjF(w:Wd):List (List Cm):=[(w.Zm 0).ZP,(w.Zm 1).ZP,(w.Zm 2).ZP,(w.Zm 3).ZP,(w.Zm 4).ZP]
theorem mw(w:Wd)(i:Nat)(hi:i<5):(ZjF w)[i]'hi=(w.Zm i).ZP:=by
 match i,hi with
 | 0,_=>rfl
 | 1,_=>rfl
 | 2,_=>rfl
 | 3,_=>rfl
 | 4,_=>rfl
theorem lD.ZP{h:Hp}{R:List bc}{w:Wd}{lv tv:bc}{vs:List bc}(s:lD h R w lv tv vs):∃b o c,lv=N (Z ⟨b,o,aa⟩) 5 c/\b<h.size/\∀n,n<5->∃x,hc h ⟨b,o+n,aa⟩=Z x/\Ts QA.C 5 h x (w.Zm n).ZP:=by
 have vl:(U vs)=5:=gU s.each;obtain⟨p,c,rfl,YR⟩:=s.Zji.open (n:=1) (enc:=fun v=>[v]) (fun _=>rfl) (show (1:Nat)≠0 by decide);obtain⟨b,o,rfl,hb,hh⟩:=YR (by intro e;rw[e]at vl;cases vl);refine⟨b,o,c,by rw[vl],hb,fun n hn=>⟨vs[n],?_,?_⟩⟩
 .have:=hh n gX;have:=this.hc (i:=0) rfl;rw[cV]at this;exact this
 .have:=ZaK s.each n gX hn;rw[show ([(w.Zm 0).ZP,(w.Zm 1).ZP,(w.Zm 2).ZP,(w.Zm 3).ZP,(w.Zm 4).ZP]:List (List Cm))[n]'hn=(w.Zm n).ZP from mw w n hn]at this;exact this
structure ZsY(R:List bc):Prop where
 len:(U R)=13
 one:R.all Yq=true
 put:YJ [Value.int D 0,ay false,ay false,ay false,ay false,ay false,N aa 0 0,L D 0,L D 0,L D 0,L D 0,L D 0,N aa 0 0] 0 R=R
 le:(U R)<=13
 take:R.take 13=R
theorem lD.ok{h:Hp}{w:Wd}{lv tv:bc}{vs:List bc}(ra:lD h (lw w lv tv) w lv tv vs):ZsY (lw w lv tv)/\(∃b o c,lv=N (Z ⟨b,o,aa⟩) 5 c)/\∃p c,tv=N p w.ZB.length c:=by
 obtain⟨b,o,c,hl,_,_⟩:=ra.ZP;obtain⟨pt,ct,ht,_⟩:=ra.ZB.open (n:=5) (enc:=Ha) (fun _=>rfl) (show (5:Nat)≠0 by decide);subst hl;subst ht;exact⟨⟨rfl,rfl,ZZ rfl,a0 13,rfl⟩,⟨b,o,c,rfl⟩,pt,ct,rfl⟩
end Go.Proofs.YtdpjmhgbmhjniaaGreatDoor
