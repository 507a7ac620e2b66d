/- Part W21. -/
import Derived.Test.YtdpjmhgbmhjniaaGreatDoorW19
open Go.Value renaming slice→d,int→O
open Go.IntKind renaming i64→A
open Go.Obj renaming cells→U
open List renaming length→j,eq_nil_of_length_eq_zero→M,length_append→N,getElem?_toArray→S,getElem?_cons_zero→Y,getElem?_cons_succ→Z,append_assoc→a0,length_drop→a2,append_nil→a4,nil_append→a5
open Nat renaming mul_le_mul_right→J,sub_mul→W,add_mul→al,mul_le_mul_left→am,le_trans→aw,add_zero→aI,le_refl→a3
open Option renaming bind_some→a1,some→u,none→R
open Array renaming getElem?_setIfInBounds→y,length_toList→ao
open Go.Builtin renaming zeroCells→G,append_→aa,copy_→av
open Go renaming Value→D,TypeId→X
namespace Go.V
set_option linter.all false
section
variable {P:Program} {T:World} {K:D->Hp->Prop} {F:Env} {h:Hp} {ty:X}
theorem Ee{sT xT E B n m k bytes:Nat}{v:D}{cs zs:List D}{cb:Array Bool}(Uh:Js P sT=u E)(KO:P.underlying xT=u (.int A))(hn:tn P E=u n)(hz:tz P E=u zs)(DP:(j zs)=n)(RC:n≠0)(WR:tb P E=u bytes)(Zy:Own B E n h v m cs)(hB:B<=h.size)(Xz:(G zs.toArray k).toList.all Yq=true)(YB:(m+k)*bytes<=140737488355328)(KP:1<=bytes)(H:∀v' h',Own B E n h' v' (m+k) (cs++(G zs.toArray k).toList)->Ue (ZJ v) h h'->(∀p cap,v=d p m cap->cap<m+k->Zf h.size h h'/\∃c,v'=d (u ⟨h.size,0,R⟩) (m+k) c)->K v' h'):Sa P T .append #[sT,xT] ty cb [v,O A (k:Nat)] K h:=by
 have uQ:k*bytes<=140737488355328:=aw (J _ gX) YB;have Znr:k<=140737488355328:=aw (by have:=am k KP;omega) uQ;have Um:(G zs.toArray k).toList.length=k*n:=by rw[ao,YL];simp[DP]
 obtain⟨news,D1⟩:=ZD ((G zs.toArray k).toList);rw[<-D1]at Xz Um H;unfold Js at Uh;split at Uh
 .rename_i e' hu;simp only[Option.some.injEq]at Uh;subst Uh;show hw P (do pure (.value (<-aa #[sT,xT] ty #[v,O A (k:Nat)]))) (XA P T K) h;rw[Ze];show hw P (aa #[sT,xT] ty #[v,O A (k:Nat)]) K h;obtain⟨i0,VX⟩:∃i,P.info? e'=u i:=by
   unfold tn at hn
   cases hi:P.info? e' with
   | none=>rw[hi]at hn;cases hn
   | some i=>exact⟨i,rfl⟩
  have Rw:i0.bytes=bytes:=by unfold tb at WR;rw[VX]at WR;simpa using WR
  obtain⟨z0,GH,DQ⟩:∃z,i0.zero=u z/\z.cells.toList=zs:=by
   unfold tz at hz;rw[VX]at hz
   cases NV:i0.zero with
   | none=>rw[a1,NV]at hz;cases hz
   | some z=>rw[a1,NV]at hz;exact⟨z,rfl,by simpa using hz⟩
  have Zcm:z0.cells=zs.toArray:=by rw[<-DQ]
  have ic:∃base cap,v=d base m cap:=by
   rcases Zy with⟨⟨p,rfl⟩,rfl,_⟩|⟨b,cap,sp,_,rfl,_⟩
   .exact⟨_,_,rfl⟩
   .exact⟨_,_,rfl⟩
  obtain⟨base,cap,hv⟩:=ic;subst hv;have ay:∀{Q:D->Hp->Prop} (g:Hp),hw P (zeroValue e') Q g=Q z0 g:=fun {Q} g=>by
   unfold zeroValue;rw[Ze,Y2 VX];simp only[GH];rfl
  have oZ:IntKind.i64.wrap ((k:Nat):Int)=(k:Nat):=Tc A k (by show k<2 ^ 63;omega);have Sy:∀{Q:Int->Hp->Prop} (g:Hp),hw P (asInt (O A (k:Nat))) Q g=Q (k:Nat) g:=fun {Q} g=>by
   rfl
  have Zcn:¬((k:Nat):Int)<0:=gX;have h48:¬((k:Nat):Int)*(i0.bytes:Nat)>2 ^ 48:=by
   rw[Rw,<-Int.natCast_mul];have:k*bytes<=2 ^ 48:=gX;have h2:((k*bytes:Nat):Int)<=2 ^ 48:=by exact_mod_cast this
   omega
  simp only[aa,S,Y,Z,Ze,ZC,Zv hu,Zv KO,run_sizeOf hn,if_true,Sy,oZ,if_neg Zcn,Y2 VX,if_neg h48,Int.toNat_natCast,Bool.not_true,Bool.false_eq_true,if_false];have ph:∀{Q:Array D->Hp->Prop} (g:Hp),Q news.toArray g->hw P (if k*n=0 then pure #[] else do pure (G (<-zeroValue e').cells k)) Q g:=fun {Q} g q=>by
   by_cases h0:k*n=0
   .rw[if_pos h0];have:k=0:=by
     rcases Nat.mul_eq_zero.1 h0 with h|h
     .exact h
     .exact (RC h).elim
    subst this;have e:news=[]:=M (by rw[Um];omega);rw[e]at q;exact q
   .rw[if_neg h0,Ze,ay,Zcm];rw[D1,Array.toArray_toList]at q;exact q
  by_cases JL:m+k<=cap
  .rw[if_pos JL,Ze];refine ph _ ?_;by_cases Ys:news=[]
   .rw[Ys];rw[Ys]at Um H;have hK:K (d base (m+k) cap) h:=by
     refine H _ _ ?_ Ue.refl (fun p' OI e hc=>by simp only[Value.slice.injEq]at e;omega);rcases Zy with⟨⟨p,h1⟩,h2,h3⟩|⟨b,OI,Zx,OJ,h1,hb,hl,TM,As⟩
     .simp only[Value.slice.injEq]at h1;obtain⟨rfl,rfl,rfl⟩:=h1;have hk:k=0:=gX;subst hk;subst h3;exact .inl ⟨⟨_,rfl⟩,rfl,rfl⟩
     .simp only[Value.slice.injEq]at h1;obtain⟨rfl,_,rfl⟩:=h1;have az:k*n=0:=by simpa using Um.symm
      refine .inr ⟨b,cap,Zx,OJ,rfl,by simpa using hb,by rw[a4,hl,al,az];rfl,?_,JL⟩;rw[TM,W,W,al,az,aI]
    cases base<;>exact hK
   rcases Zy with⟨⟨p,h1⟩,h2,h3⟩|⟨b,OI,Zx,OJ,h1,hb,hl,TM,As⟩
   .simp only[Value.slice.injEq]at h1;obtain⟨rfl,rfl,rfl⟩:=h1;have hk:k=0:=gX;subst hk;exact (Ys (M (by simpa using Um))).elim
   .simp only[Value.slice.injEq]at h1;obtain⟨rfl,_,rfl⟩:=h1;simp only[Ze,addr_add];have Wt:(j news)<=(j Zx):=by rw[Um,TM];exact J _ gX
    refine Yt (e:=e') (lo:=0) (hi:=0) rfl (a3 _) news 0 h (cs++Zx).toArray hb ?_ Xz ?_
    .simp;rw[<-hl];omega
    .simp only[ZC,Nat.zero_add,aI];refine H _ _ (.inr ⟨b,cap,Zx.drop (j news),OJ,rfl,?_,?_,?_,JL⟩) ⟨Dq,fun b' Jc hx=>?_⟩ (fun p' OI e hc=>by simp only[Value.slice.injEq]at e;omega)
     .rw[y,if_pos rfl,if_pos (Za hb)];rw[<-hl,UK,Qe _ _ Wt,a0]
     .rw[N,hl,Um,al]
     .rw[a2,TM,Um,<-W];congr 1;omega
     .rw[y,if_neg];intro e;subst e;have wG:cap≠0:=by
       intro h0;subst h0;have:k=0:=gX;subst this;exact Ys (M (by simpa using Um))
      exact hx (by simp[ZJ,wG])
  .rw[if_neg JL];have QQ:¬Builtin.nextslicecap (m+k) cap*i0.bytes>2 ^ 48:=by
    rw[Rw];have:=Us (m+k) cap bytes gX YB;omega
   have FU:¬i0.bytes=0:=by rw[Rw];omega
   have fg:m+k<=140737488355328:=aw (by have:=am (m+k) KP;omega) YB;have Eb:¬((m+k:Nat):Int)>IntKind.i64.max:=by
    have:IntKind.i64.max=9223372036854775807:=rfl;rw[this];omega
   simp only[Ze,Y2 VX,Eb,false_and,if_false,if_neg QQ];intro t;obtain⟨c,hc⟩:=ZD (Question.cut (Question.appendCap (m+k) cap e') t);have iO:m+k<=c:=by rw[hc];simp only[Question.cut];omega
   rw[<-hc];have Sy:∀{Q:Unit->Hp->Prop} (b:Nat) (g:Hp),Q () g->hw P (askRoom b) Q g:=fun {Q} b g q=>by
    unfold askRoom;split<;>exact q
   refine Sy _ _ (Yi Zy.sl (ph _ ?_));rw[ay];have iP:z0.cells.size=n:=by rw[<-DP,<-DQ];simp
   refine H (d (u ⟨h.size,0,R⟩) (m+k) c) _ (.inr ⟨h.size,c,(G z0.cells (c-(m+k))).toList,hB,rfl,?_,?_,?_,iO⟩) (Ue.push _) (fun _ _ _ _=>⟨Zf.push (a3 _) _,c,rfl⟩)
   .rw[Array.getElem?_push_size];simp
   .have Jm:(j cs)=m*n:=by obtain⟨_,_,_,hl,_⟩:=Zy.sl;exact hl
    rw[N,Jm,Um,al]
   .rw[ao,YL,iP]
 .cases Uh
end
section
variable {h h':Hp}
theorem Own.Pb{B:Nat}{E:X}{n:Nat}{p:Option Addr}{k c:Nat}{cs:List D}(s:Own B E n h (d p k c) k cs){m:Nat}(hm:m<=k):Own B E n h (d p m c) m (cs.take (m*n)):=by
 rcases s with⟨⟨q,h1⟩,h2,h3⟩|⟨b,cap,Zx,hB,h1,hg,hl,hs,hc⟩
 .simp only[Value.slice.injEq]at h1;obtain⟨rfl,rfl,rfl⟩:=h1;have e:m=0:=gX;subst e;subst h3;exact .inl ⟨⟨_,rfl⟩,rfl,Dq⟩
 .simp only[Value.slice.injEq]at h1;obtain⟨rfl,_,rfl⟩:=h1;have uR:m*n<=k*n:=J _ hm;have iO:k*n<=c*n:=J _ hc;refine .inr ⟨b,c,cs.drop (m*n)++Zx,hB,rfl,?_,?_,?_,gX⟩
  .rw[<-a0,List.take_append_drop];exact hg
  .rw[List.length_take];omega
  .rw[N,a2,hl,hs,W,W];omega
theorem Wo{b:Nat}{E:X}{n m c:Nat}{pre cs post:List D}(hg:h[b]? = u (U (pre++(cs++post)).toArray E))(hl:(j cs)=m*n){o:Nat}(ho:o=(j pre)):Sl n h (d (u ⟨b,o,R⟩) m c) m cs:=by
 refine⟨_,c,rfl,hl,fun _=>⟨b,o,rfl,fun i hi=>?_⟩⟩;subst ho;rw[Qd hg];simp only[S];rw[List.getElem?_append_right gX,Nat.add_sub_cancel_left,List.getElem?_append_left hi,List.getElem?_eq_getElem hi]
theorem Vg{a b c vs:List D}{o:Nat}(ho:o=(j a))(hv:(j vs)=(j b)):YJ (a++(b++c)) o vs=a++(vs++c):=by
 subst ho;rw[UK,Qe _ _ (by rw[N];omega),hv,List.drop_append,List.drop_length,Nat.sub_self,List.drop_zero,a5]
theorem Own.Zx{B:Nat}{E:X}{n:Nat}{p:Option Addr}{k c:Nat}{cs:List D}(s:Own B E n h (d p k c) k cs)(hk:c≠0):∃b Zx,B<=b/\p=u ⟨b,0,R⟩/\h[b]? = u (U (cs++Zx).toArray E)/\(j cs)=k*n/\(j Zx)=(c-k)*n/\k<=c:=by
 rcases s with⟨⟨q,h1⟩,h2,h3⟩|⟨b,cap,Zx,hB,h1,hg,hl,hs,hc⟩
 .simp only[Value.slice.injEq]at h1;exact (hk h1.2.2).elim
 .simp only[Value.slice.injEq]at h1;obtain⟨rfl,_,rfl⟩:=h1;exact⟨b,Zx,hB,rfl,hg,hl,hs,hc⟩
theorem Own.aJ{B b:Nat}{E:X}{n k c:Nat}{cs Zx:List D}(hB:B<=b)(hg:h[b]? = u (U (cs++Zx).toArray E))(hl:(j cs)=k*n)(hs:(j Zx)=(c-k)*n)(hc:k<=c):Own B E n h (d (u ⟨b,0,R⟩) k c) k cs:=
 .inr ⟨b,c,Zx,hB,rfl,hg,hl,hs,hc⟩
theorem ZE{b:Nat}{o o':Obj}(hb:h[b]? = u o'):(h.setIfInBounds b o)[b]? = u o:=by
 rw[y,if_pos rfl,if_pos (Za hb)]
theorem Zq{b b':Nat}{o:Obj}(hb:b≠b'):(h.setIfInBounds b o)[b']? = h[b']?:=by
 rw[y,if_neg hb]
variable {P:Program} {T:World} {K:D->Hp->Prop} {ty:X}
@[go_sem] theorem Zj9{cs:Array Bool}{t:X}{p:Option Addr}{l c:Nat}(ht:(Js P t).isSome=true):Sa P T .cap #[t] ty cs [d p l c] K h=K (O A c) h:=by
 unfold Js at ht;split at ht
 .rename_i e hu;show hw P (do pure (.value (<-Builtin.cap_ #[t] ty #[d p l c]))) (XA P T K) h=_;rw[Ze];show hw P (do
   match <-underlying t,(Value.slice p l c) with
   | .array n _,_=>pure (goInt n)
   | .pointer arr,_=>
    let .array n _ <-underlying arr|stuck "cap: pointer to array expected"
    pure (goInt n)
   | .slice _,d _ _ n=>pure (goInt n)
   | .chan _ _,.chan R=>pure (goInt 0)
   | .chan _ _,.chan (u r)=>
    let .chan n _ _ _ _ timer <-getObj r|stuck "cap: channel expected"
    pure (goInt (if timer then 0 else n))
   | _,_=>stuck "cap: array, pointer to array, slice or channel expected") K h=_
  rw[Ze,Zv hu];rfl
 .cases ht
theorem ja{dT sT E E' b o dl dc k n:Nat}{c news:List D}{cb:Array Bool}{s:D}(hd:Js P dT=u E)(hn:tn P E=u n)(hb:h[b]? = u (U c.toArray E' (0,0)))(src:Sl n h s k news)(Xz:(news.take (min k dl*n)).all Yq=true)(YB:o+min k dl*n<=(j c))(H:K (O A ((min k dl:Nat):Int)) (h.setIfInBounds b (U (YJ c o (news.take (min k dl*n))).toArray E' (0,0)))):
  Sa P T .copy #[dT,sT] ty cb [d (u ⟨b,o,R⟩) dl dc,s] K h:=by
 unfold Js at hd;split at hd
 .rename_i e' hu;simp only[Option.some.injEq]at hd;subst hd;show hw P (do pure (.value (<-av #[dT,sT] ty #[d (u ⟨b,o,R⟩) dl dc,s])) ) (XA P T K) h;rw[Ze];show hw P (av #[dT,sT] ty #[d (u ⟨b,o,R⟩) dl dc,s]) K h;simp only[av,S,Y,Z,Ze,ZC,Zv hu,run_sizeOf hn,src.lenOf];have hlen:(j news)=k*n:=by obtain⟨_,_,_,hl,_⟩:=src;simpa using hl
  obtain⟨p,cap,rfl,hl,hc⟩:=src;have hm:Nat.min k dl=min k dl:=rfl;rw[hm];obtain⟨m,hmm⟩:=ZD (min k dl);rw[<-hmm]at YB Xz H ⊢;have fg:m<=k:=gX;have uR:m*n<=k*n:=J _ fg;rw[Ww (k':=m) (c':=cap)];refine Yi (Sl.ZaZ ⟨p,cap,rfl,hl,hc⟩ fg cap) ?_;refine Yt (a:=⟨b,o,R⟩) (e:=E') (lo:=0) (hi:=0) rfl (a3 _) (news.take (m*n)) 0 h c.toArray hb ?_ ?_ ?_
  .simp;omega
  .exact Xz
  .simp only[ZC,aI];exact H
 .cases hd
theorem OV{f:FuncId}{fn:Func}{e:Array D->Sem D}(hf:P.funcs[f]? = u fn)(Zgn:(fn.name == "runtime.NumGoroutine")=false)(hb:fn.body.isNone=true)(hn:Extern.findNext fn=R)(he:Extern.find fn=u e){l:List D}(H:hw P (e l.toArray) K h):OC P T (.func (.func f) #[] #[]) l K h:=by
 have h1:fn.name ≠ "runtime.NumGoroutine" := by simpa using Zgn
 have h2:fn.body=R:=by simpa using hb
 have hg:¬goes P f=true:=by unfold goes;rw[hf];simp[h2]
 show if goes P f=true then Zc P T f (([]:List D)++l++[]).toArray h K else hw P (callFunc f (([]:List D)++l++[]).toArray) (XA P T K) h
 rw[if_neg hg,a5,a4];unfold callFunc;rw[Ze];simp only[program,hw,hf];rw[if_neg (by simpa using h1),if_pos (by rw[h2];rfl),Ze];simp only[mark,hw,hn,he];rw[Ze];exact H
end
theorem aK{P:Program}{L:List Char}{x:Bool × List Char}(h:P.initOrder=String.ofList L)(h2:(match wordsSigns L with|h :: s :: _=>if !isSumSigns s then R else if h == "harness".toList then u (true,s) else if h == "ownmain".toList then u (false,s) else R|_=>R)=u x):P.mainIs=u x:=by
 unfold Program.mainIs;rw[h,String.toList_ofList];exact h2
end Go.V
