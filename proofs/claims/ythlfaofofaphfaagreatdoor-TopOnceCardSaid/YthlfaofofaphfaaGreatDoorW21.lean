/- Part W21. -/
import Derived.Test.YthlfaofofaphfaaGreatDoorW19
open Go.Value renaming slice→d,int→O
open Go.IntKind renaming i64→A
open Go.Obj renaming cells→U
open List renaming length→j,eq_nil_of_length_eq_zero→M,length_append→N,getElem?_toArray→S,getElem?_cons_zero→Y,getElem?_cons_succ→Z,append_assoc→aD,length_drop→a0,append_nil→a2,nil_append→a3
open Nat renaming mul_le_mul_right→J,sub_mul→W,add_mul→ab,mul_le_mul_left→ae,le_trans→am,add_zero→aw,le_refl→a1
open Option renaming bind_some→aO,some→u,none→R
open Array renaming getElem?_setIfInBounds→y,length_toList→ag
open Go.Builtin renaming zeroCells→G,append_→aa,copy_→al
open Go renaming Value→D,TypeId→X
namespace Go.V
set_option linter.unusedVariables false
set_option linter.unusedSimpArgs false
section
variable {P:Program} {T:World} {K:D->Hp->Prop} {F:Env} {h:Hp} {ty:X}
theorem Bq{sT xT E B n m k bytes:Nat}{v:D}{cs zs:List D}{cb:Array Bool}(VV:QY P sT=u E)(Bc:P.underlying xT=u (.int A))(hn:tn P E=u n)(hz:tz P E=u zs)(io:(j zs)=n)(DK:n≠0)(O1:tb P E=u bytes)(Zq:UO B E n h v m cs)(hB:B<=h.size)(X3:(G zs.toArray k).toList.all YE=true)(Xf:(m+k)*bytes<=140737488355328)(GO:1<=bytes)(H:∀v' h',UO B E n h' v' (m+k) (cs++(G zs.toArray k).toList)->RT (Yf v) h h'->(∀p cap,v=d p m cap->cap<m+k->Zj h.size h h'/\∃c,v'=d (u ⟨h.size,0,R⟩) (m+k) c)->K v' h'):PZ P T .append #[sT,xT] ty cb [v,O A (k:Nat)] K h:=by
 have hkb:k*bytes<=140737488355328:=am (J _ pA) Xf;have ZrB:k<=140737488355328:=am (by have:=ae k GO;omega) hkb;have VW:(G zs.toArray k).toList.length=k*n:=by rw[ag,Xs];simp[io]
 obtain⟨news,aN⟩:=ZL ((G zs.toArray k).toList);rw[<-aN]at X3 VW H;unfold QY at VV;split at VV
 .rename_i e' hu;simp only[Option.some.injEq]at VV;subst VV;show hw P (do pure (.value (<-aa #[sT,xT] ty #[v,O A (k:Nat)]))) (JA P T K) h;rw[Zm];show hw P (aa #[sT,xT] ty #[v,O A (k:Nat)]) K h;obtain⟨i0,PQ⟩:∃i,P.info? e'=u i:=by
   unfold tn at hn
   cases hi:P.info? e' with
   | none=>rw[hi]at hn;cases hn
   | some i=>exact⟨i,rfl⟩
  have Mn:i0.bytes=bytes:=by unfold tb at O1;rw[PQ]at O1;simpa using O1
  obtain⟨z0,AN,iq⟩:∃z,i0.zero=u z/\z.cells.toList=zs:=by
   unfold tz at hz;rw[PQ]at hz
   cases Gc:i0.zero with
   | none=>rw[aO,Gc]at hz;cases hz
   | some z=>rw[aO,Gc]at hz;exact⟨z,rfl,by simpa using hz⟩
  have ZgO:z0.cells=zs.toArray:=by rw[<-iq]
  have hvs:∃base cap,v=d base m cap:=by
   rcases Zq with⟨⟨p,rfl⟩,rfl,_⟩|⟨b,cap,sp,_,rfl,_⟩
   .exact⟨_,_,rfl⟩
   .exact⟨_,_,rfl⟩
  obtain⟨base,cap,hv⟩:=hvs;subst hv;have qr:∀{Q:D->Hp->Prop} (g:Hp),hw P (zeroValue e') Q g=Q z0 g:=fun {Q} g=>by
   unfold zeroValue;rw[Zm,X8 PQ];simp only[AN];rfl
  have ye:IntKind.i64.wrap ((k:Nat):Int)=(k:Nat):=Rg A k (by show k<2 ^ 63;omega);have T3:∀{Q:Int->Hp->Prop} (g:Hp),hw P (asInt (O A (k:Nat))) Q g=Q (k:Nat) g:=fun {Q} g=>by
   rfl
  have ZgP:¬((k:Nat):Int)<0:=pA;have h48:¬((k:Nat):Int)*(i0.bytes:Nat)>2 ^ 48:=by
   rw[Mn,<-Int.natCast_mul];have:k*bytes<=2 ^ 48:=pA;have h2:((k*bytes:Nat):Int)<=2 ^ 48:=by exact_mod_cast this
   omega
  simp only[aa,S,Y,Z,Zm,ZO,ZH hu,ZH Bc,run_sizeOf hn,if_true,T3,ye,if_neg ZgP,X8 PQ,if_neg h48,Int.toNat_natCast,Bool.not_true,Bool.false_eq_true,if_false];have yf:∀{Q:Array D->Hp->Prop} (g:Hp),Q news.toArray g->hw P (if k*n=0 then pure #[] else do pure (G (<-zeroValue e').cells k)) Q g:=fun {Q} g q=>by
   by_cases h0:k*n=0
   .rw[if_pos h0];have:k=0:=by
     rcases Nat.mul_eq_zero.1 h0 with h|h
     .exact h
     .exact (DK h).elim
    subst this;have e:news=[]:=M (by rw[VW];omega);rw[e]at q;exact q
   .rw[if_neg h0,Zm,qr,ZgO];rw[aN,Array.toArray_toList]at q;exact q
  by_cases Jx:m+k<=cap
  .rw[if_pos Jx,Zm];refine yf _ ?_;by_cases Y7:news=[]
   .rw[Y7];rw[Y7]at VW H;have hK:K (d base (m+k) cap) h:=by
     refine H _ _ ?_ RT.refl (fun p' GP e hc=>by simp only[Value.slice.injEq]at e;omega);rcases Zq with⟨⟨p,h1⟩,h2,h3⟩|⟨b,GP,ZG,Ge,h1,hb,hl,NV,vf⟩
     .simp only[Value.slice.injEq]at h1;obtain⟨rfl,rfl,rfl⟩:=h1;have hk:k=0:=pA;subst hk;subst h3;exact .inl ⟨⟨_,rfl⟩,rfl,rfl⟩
     .simp only[Value.slice.injEq]at h1;obtain⟨rfl,_,rfl⟩:=h1;have vg:k*n=0:=by simpa using VW.symm
      refine .inr ⟨b,cap,ZG,Ge,rfl,by simpa using hb,by rw[a2,hl,ab,vg];rfl,?_,Jx⟩;rw[NV,W,W,ab,vg,aw]
    cases base<;>exact hK
   rcases Zq with⟨⟨p,h1⟩,h2,h3⟩|⟨b,GP,ZG,Ge,h1,hb,hl,NV,vf⟩
   .simp only[Value.slice.injEq]at h1;obtain⟨rfl,rfl,rfl⟩:=h1;have hk:k=0:=pA;subst hk;exact (Y7 (M (by simpa using VW))).elim
   .simp only[Value.slice.injEq]at h1;obtain⟨rfl,_,rfl⟩:=h1;simp only[Zm,XR];have RV:(j news)<=(j ZG):=by rw[VW,NV];exact J _ pA
    refine YZ (e:=e') (lo:=0) (hi:=0) rfl (a1 _) news 0 h (cs++ZG).toArray hb ?_ X3 ?_
    .simp;rw[<-hl];omega
    .simp only[ZO,Nat.zero_add,aw];refine H _ _ (.inr ⟨b,cap,ZG.drop (j news),Ge,rfl,?_,?_,?_,Jx⟩) ⟨IQ,fun b' Qi hx=>?_⟩ (fun p' GP e hc=>by simp only[Value.slice.injEq]at e;omega)
     .rw[y,if_pos rfl,if_pos (Za hb)];rw[<-hl,Tp,UZ _ _ RV,aD]
     .rw[N,hl,VW,ab]
     .rw[a0,NV,VW,<-W];congr 1;omega
     .rw[y,if_neg];intro e;subst e;have hcz:cap≠0:=by
       intro h0;subst h0;have:k=0:=pA;subst this;exact Y7 (M (by simpa using VW))
      exact hx (by simp[Yf,hcz])
  .rw[if_neg Jx];have Wx:¬Builtin.nextslicecap (m+k) cap*i0.bytes>2 ^ 48:=by
    rw[Mn];have:=Tq (m+k) cap bytes pA Xf;omega
   have iu:¬i0.bytes=0:=by rw[Mn];omega
   have mI:m+k<=140737488355328:=am (by have:=ae (m+k) GO;omega) Xf;have yg:¬((m+k:Nat):Int)>IntKind.i64.max:=by
    have:IntKind.i64.max=9223372036854775807:=rfl;rw[this];omega
   simp only[Zm,X8 PQ,yg,false_and,if_false,if_neg Wx];intro t;obtain⟨c,hc⟩:=ZL (Question.cut (Question.appendCap (m+k) cap e') t);have xP:m+k<=c:=by rw[hc];simp only[Question.cut];omega
   rw[<-hc];have T3:∀{Q:Unit->Hp->Prop} (b:Nat) (g:Hp),Q () g->hw P (askRoom b) Q g:=fun {Q} b g q=>by
    unfold askRoom;split<;>exact q
   refine T3 _ _ (YF Zq.sl (yf _ ?_));rw[qr];have xQ:z0.cells.size=n:=by rw[<-io,<-iq];simp
   refine H (d (u ⟨h.size,0,R⟩) (m+k) c) _ (.inr ⟨h.size,c,(G z0.cells (c-(m+k))).toList,hB,rfl,?_,?_,?_,xP⟩) (RT.push _) (fun _ _ _ _=>⟨Zj.push (a1 _) _,c,rfl⟩)
   .rw[Array.getElem?_push_size];simp
   .have J9:(j cs)=m*n:=by obtain⟨_,_,_,hl,_⟩:=Zq.sl;exact hl
    rw[N,J9,VW,ab]
   .rw[ag,Xs,xQ]
 .cases VV
end
section
variable {h h':Hp}
theorem UO.Mq{B:Nat}{E:X}{n:Nat}{p:Option Addr}{k c:Nat}{cs:List D}(s:UO B E n h (d p k c) k cs){m:Nat}(hm:m<=k):UO B E n h (d p m c) m (cs.take (m*n)):=by
 rcases s with⟨⟨q,h1⟩,h2,h3⟩|⟨b,cap,ZG,hB,h1,hg,hl,hs,hc⟩
 .simp only[Value.slice.injEq]at h1;obtain⟨rfl,rfl,rfl⟩:=h1;have e:m=0:=pA;subst e;subst h3;exact .inl ⟨⟨_,rfl⟩,rfl,IQ⟩
 .simp only[Value.slice.injEq]at h1;obtain⟨rfl,_,rfl⟩:=h1;have hmn:m*n<=k*n:=J _ hm;have xP:k*n<=c*n:=J _ hc;refine .inr ⟨b,c,cs.drop (m*n)++ZG,hB,rfl,?_,?_,?_,pA⟩
  .rw[<-aD,List.take_append_drop];exact hg
  .rw[List.length_take];omega
  .rw[N,a0,hl,hs,W,W];omega
theorem Th{b:Nat}{E:X}{n m c:Nat}{pre cs post:List D}(hg:h[b]? = u (U (pre++(cs++post)).toArray E))(hl:(j cs)=m*n){o:Nat}(ho:o=(j pre)):Sl n h (d (u ⟨b,o,R⟩) m c) m cs:=by
 refine⟨_,c,rfl,hl,fun _=>⟨b,o,rfl,fun i hi=>?_⟩⟩;subst ho;rw[Re hg];simp only[S];rw[List.getElem?_append_right pA,Nat.add_sub_cancel_left,List.getElem?_append_left hi,List.getElem?_eq_getElem hi]
theorem Sj{a b c vs:List D}{o:Nat}(ho:o=(j a))(hv:(j vs)=(j b)):Xd (a++(b++c)) o vs=a++(vs++c):=by
 subst ho;rw[Tp,UZ _ _ (by rw[N];omega),hv,List.drop_append,List.drop_length,Nat.sub_self,List.drop_zero,a3]
theorem UO.ZG{B:Nat}{E:X}{n:Nat}{p:Option Addr}{k c:Nat}{cs:List D}(s:UO B E n h (d p k c) k cs)(hk:c≠0):∃b ZG,B<=b/\p=u ⟨b,0,R⟩/\h[b]? = u (U (cs++ZG).toArray E)/\(j cs)=k*n/\(j ZG)=(c-k)*n/\k<=c:=by
 rcases s with⟨⟨q,h1⟩,h2,h3⟩|⟨b,cap,ZG,hB,h1,hg,hl,hs,hc⟩
 .simp only[Value.slice.injEq]at h1;exact (hk h1.2.2).elim
 .simp only[Value.slice.injEq]at h1;obtain⟨rfl,_,rfl⟩:=h1;exact⟨b,ZG,hB,rfl,hg,hl,hs,hc⟩
theorem UO.iI{B b:Nat}{E:X}{n k c:Nat}{cs ZG:List D}(hB:B<=b)(hg:h[b]? = u (U (cs++ZG).toArray E))(hl:(j cs)=k*n)(hs:(j ZG)=(c-k)*n)(hc:k<=c):UO B E n h (d (u ⟨b,0,R⟩) k c) k cs:=
 .inr ⟨b,c,ZG,hB,rfl,hg,hl,hs,hc⟩
theorem ZV{b:Nat}{o o':Obj}(hb:h[b]? = u o'):(h.setIfInBounds b o)[b]? = u o:=by
 rw[y,if_pos rfl,if_pos (Za hb)]
theorem Xg{b b':Nat}{o:Obj}(hb:b≠b'):(h.setIfInBounds b o)[b']? = h[b']?:=by
 rw[y,if_neg hb]
variable {P:Program} {T:World} {K:D->Hp->Prop} {ty:X}
@[go_sem] theorem Zou{cs:Array Bool}{t:X}{p:Option Addr}{l c:Nat}(ht:(QY P t).isSome=true):PZ P T .cap #[t] ty cs [d p l c] K h=K (O A c) h:=by
 unfold QY at ht;split at ht
 .rename_i e hu;show hw P (do pure (.value (<-Builtin.cap_ #[t] ty #[d p l c]))) (JA P T K) h=_;rw[Zm];show hw P (do
   match <-underlying t,(Value.slice p l c) with
   | .array n _,_=>pure (goInt n)
   | .pointer arr,_=>
    let .array n _ <-underlying arr|stuck "cap: pointer to array expected"
    pure (goInt n)
   | .slice _,d _ _ n=>pure (goInt n)
   | .chan _ _,.chan R=>pure (goInt 0)
   | .chan _ _,.chan (u r)=>
    let .chan n _ _ _ _ timer <-getObj r|stuck "cap: channel expected"
    pure (goInt (if timer then 0 else n))
   | _,_=>stuck "cap: array, pointer to array, slice or channel expected") K h=_
  rw[Zm,ZH hu];rfl
 .cases ht
theorem qC{dT sT E E' b o dl dc k n:Nat}{c news:List D}{cb:Array Bool}{s:D}(hd:QY P dT=u E)(hn:tn P E=u n)(hb:h[b]? = u (U c.toArray E' (0,0)))(src:Sl n h s k news)(X3:(news.take (min k dl*n)).all YE=true)(Xf:o+min k dl*n<=(j c))(H:K (O A ((min k dl:Nat):Int)) (h.setIfInBounds b (U (Xd c o (news.take (min k dl*n))).toArray E' (0,0)))):
  PZ P T .copy #[dT,sT] ty cb [d (u ⟨b,o,R⟩) dl dc,s] K h:=by
 unfold QY at hd;split at hd
 .rename_i e' hu;simp only[Option.some.injEq]at hd;subst hd;show hw P (do pure (.value (<-al #[dT,sT] ty #[d (u ⟨b,o,R⟩) dl dc,s])) ) (JA P T K) h;rw[Zm];show hw P (al #[dT,sT] ty #[d (u ⟨b,o,R⟩) dl dc,s]) K h;simp only[al,S,Y,Z,Zm,ZO,ZH hu,run_sizeOf hn,src.lenOf];have hlen:(j news)=k*n:=by obtain⟨_,_,_,hl,_⟩:=src;simpa using hl
  obtain⟨p,cap,rfl,hl,hc⟩:=src;have hm:Nat.min k dl=min k dl:=rfl;rw[hm];obtain⟨m,hmm⟩:=ZL (min k dl);rw[<-hmm]at Xf X3 H ⊢;have mI:m<=k:=pA;have hmn:m*n<=k*n:=J _ mI;rw[Tx (k':=m) (c':=cap)];refine YF (Sl.Zfn ⟨p,cap,rfl,hl,hc⟩ mI cap) ?_;refine YZ (a:=⟨b,o,R⟩) (e:=E') (lo:=0) (hi:=0) rfl (a1 _) (news.take (m*n)) 0 h c.toArray hb ?_ ?_ ?_
  .simp;omega
  .exact X3
  .simp only[ZO,aw];exact H
 .cases hd
theorem Br{f:FuncId}{fn:Func}{e:Array D->Sem D}(hf:P.funcs[f]? = u fn)(ZkY:(fn.name == "runtime.NumGoroutine")=false)(hb:fn.body.isNone=true)(hn:Extern.findNext fn=R)(he:Extern.find fn=u e){l:List D}(H:hw P (e l.toArray) K h):GB P T (.func (.func f) #[] #[]) l K h:=by
 have h1:fn.name ≠ "runtime.NumGoroutine" := by simpa using ZkY
 have h2:fn.body=R:=by simpa using hb
 have hg:¬goes P f=true:=by unfold goes;rw[hf];simp[h2]
 show if goes P f=true then Zd P T f (([]:List D)++l++[]).toArray h K else hw P (callFunc f (([]:List D)++l++[]).toArray) (JA P T K) h
 rw[if_neg hg,a3,a2];unfold callFunc;rw[Zm];simp only[program,hw,hf];rw[if_neg (by simpa using h1),if_pos (by rw[h2];rfl),Zm];simp only[mark,hw,hn,he];rw[Zm];exact H
end
theorem GZ{P:Program}{L:List Char}{x:Bool × List Char}(h:P.initOrder=String.ofList L)(h2:(match wordsSigns L with|h :: s :: _=>if !isSumSigns s then R else if h == "harness".toList then u (true,s) else if h == "ownmain".toList then u (false,s) else R|_=>R)=u x):P.mainIs=u x:=by
 unfold Program.mainIs;rw[h,String.toList_ofList];exact h2
end Go.V
