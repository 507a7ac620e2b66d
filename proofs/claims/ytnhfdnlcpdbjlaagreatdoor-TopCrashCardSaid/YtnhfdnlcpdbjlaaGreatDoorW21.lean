/- Part W21. -/
import Derived.Test.YtnhfdnlcpdbjlaaGreatDoorW19
open Go.Value renaming slice→d,int→O
open Go.IntKind renaming i64→A
open Go.Obj renaming cells→U
open List renaming length→j,eq_nil_of_length_eq_zero→M,length_append→N,getElem?_toArray→S,getElem?_cons_zero→Y,getElem?_cons_succ→Z,append_assoc→aF,length_drop→aK,append_nil→aX,nil_append→a0
open Nat renaming mul_le_mul_right→J,sub_mul→W,add_mul→ak,mul_le_mul_left→al,le_trans→au,add_zero→aw,le_refl→aU
open Option renaming bind_some→aI,some→w,none→R
open Array renaming getElem?_setIfInBounds→y,length_toList→am
open Go.Builtin renaming zeroCells→G,append_→aa,copy_→an
open Go renaming Value→D,TypeId→X
namespace Go.V
set_option linter.all false
section
variable {P:Program} {T:World} {K:D->Hp->Prop} {F:Env} {h:Hp} {ty:X}
theorem Cj{sT xT E B n m k bytes:Nat}{v:D}{cs zs:List D}{cb:Array Bool}(Vv:QE P sT=w E)(D5:P.underlying xT=w (.int A))(hn:tn P E=w n)(hz:tz P E=w zs)(fO:(j zs)=n)(EM:n≠0)(OB:tb P E=w bytes)(Zr:UK B E n h v m cs)(hB:B<=h.size)(X1:(G zs.toArray k).toList.all YN=true)(Xa:(m+k)*bytes<=140737488355328)(D6:1<=bytes)(H:∀v' h',UK B E n h' v' (m+k) (cs++(G zs.toArray k).toList)->Rs (Ya v) h h'->(∀p cap,v=d p m cap->cap<m+k->Zk h.size h h'/\∃c,v'=d (w ⟨h.size,0,R⟩) (m+k) c)->K v' h'):Ps P T .append #[sT,xT] ty cb [v,O A (k:Nat)] K h:=by
 have hkb:k*bytes<=140737488355328:=au (J _ mD) Xa;have Zp2:k<=140737488355328:=au (by have:=al k D6;omega) hkb;have VT:(G zs.toArray k).toList.length=k*n:=by rw[am,Xr];simp[fO]
 obtain⟨news,Ax⟩:=ZP ((G zs.toArray k).toList);rw[<-Ax]at X1 VT H;unfold QE at Vv;split at Vv
 .rename_i e' hu;simp only[Option.some.injEq]at Vv;subst Vv;show hw P (do pure (.value (<-aa #[sT,xT] ty #[v,O A (k:Nat)]))) (Jr P T K) h;rw[Zj];show hw P (aa #[sT,xT] ty #[v,O A (k:Nat)]) K h;obtain⟨i0,Ph⟩:∃i,P.info? e'=w i:=by
   unfold tn at hn
   cases hi:P.info? e' with
   | none=>rw[hi]at hn;cases hn
   | some i=>exact⟨i,rfl⟩
  have NL:i0.bytes=bytes:=by unfold tb at OB;rw[Ph]at OB;simpa using OB
  obtain⟨z0,Bz,fP⟩:∃z,i0.zero=w z/\z.cells.toList=zs:=by
   unfold tz at hz;rw[Ph]at hz
   cases I8:i0.zero with
   | none=>rw[aI,I8]at hz;cases hz
   | some z=>rw[aI,I8]at hz;exact⟨z,rfl,by simpa using hz⟩
  have ZfI:z0.cells=zs.toArray:=by rw[<-fP]
  have hvs:∃base cap,v=d base m cap:=by
   rcases Zr with⟨⟨p,rfl⟩,rfl,_⟩|⟨b,cap,sp,_,rfl,_⟩
   .exact⟨_,_,rfl⟩
   .exact⟨_,_,rfl⟩
  obtain⟨base,cap,hv⟩:=hvs;subst hv;have nz:∀{Q:D->Hp->Prop} (g:Hp),hw P (zeroValue e') Q g=Q z0 g:=fun {Q} g=>by
   unfold zeroValue;rw[Zj,X0 Ph];simp only[Bz];rfl
  have vB:IntKind.i64.wrap ((k:Nat):Int)=(k:Nat):=SI A k (by show k<2 ^ 63;omega);have NM:∀{Q:Int->Hp->Prop} (g:Hp),hw P (asInt (O A (k:Nat))) Q g=Q (k:Nat) g:=fun {Q} g=>by
   rfl
  have ZfJ:¬((k:Nat):Int)<0:=mD;have h48:¬((k:Nat):Int)*(i0.bytes:Nat)>2 ^ 48:=by
   rw[NL,<-Int.natCast_mul];have:k*bytes<=2 ^ 48:=mD;have h2:((k*bytes:Nat):Int)<=2 ^ 48:=by exact_mod_cast this
   omega
  simp only[aa,S,Y,Z,Zj,ZO,ZM hu,ZM D5,run_sizeOf hn,if_true,NM,vB,if_neg ZfJ,X0 Ph,if_neg h48,Int.toNat_natCast,Bool.not_true,Bool.false_eq_true,if_false];have vC:∀{Q:Array D->Hp->Prop} (g:Hp),Q news.toArray g->hw P (if k*n=0 then pure #[] else do pure (G (<-zeroValue e').cells k)) Q g:=fun {Q} g q=>by
   by_cases h0:k*n=0
   .rw[if_pos h0];have:k=0:=by
     rcases Nat.mul_eq_zero.1 h0 with h|h
     .exact h
     .exact (EM h).elim
    subst this;have e:news=[]:=M (by rw[VT];omega);rw[e]at q;exact q
   .rw[if_neg h0,Zj,nz,ZfI];rw[Ax,Array.toArray_toList]at q;exact q
  by_cases QG:m+k<=cap
  .rw[if_pos QG,Zj];refine vC _ ?_;by_cases Xb:news=[]
   .rw[Xb];rw[Xb]at VT H;have hK:K (d base (m+k) cap) h:=by
     refine H _ _ ?_ Rs.refl (fun p' HP e hc=>by simp only[Value.slice.injEq]at e;omega);rcases Zr with⟨⟨p,h1⟩,h2,h3⟩|⟨b,HP,ZE,Ha,h1,hb,hl,Nm,sO⟩
     .simp only[Value.slice.injEq]at h1;obtain⟨rfl,rfl,rfl⟩:=h1;have hk:k=0:=mD;subst hk;subst h3;exact .inl ⟨⟨_,rfl⟩,rfl,rfl⟩
     .simp only[Value.slice.injEq]at h1;obtain⟨rfl,_,rfl⟩:=h1;have dJ:k*n=0:=by simpa using VT.symm
      refine .inr ⟨b,cap,ZE,Ha,rfl,by simpa using hb,by rw[aX,hl,ak,dJ];rfl,?_,QG⟩;rw[Nm,W,W,ak,dJ,aw]
    cases base<;>exact hK
   rcases Zr with⟨⟨p,h1⟩,h2,h3⟩|⟨b,HP,ZE,Ha,h1,hb,hl,Nm,sO⟩
   .simp only[Value.slice.injEq]at h1;obtain⟨rfl,rfl,rfl⟩:=h1;have hk:k=0:=mD;subst hk;exact (Xb (M (by simpa using VT))).elim
   .simp only[Value.slice.injEq]at h1;obtain⟨rfl,_,rfl⟩:=h1;simp only[Zj,XL];have Rt:(j news)<=(j ZE):=by rw[VT,Nm];exact J _ mD
    refine YZ (e:=e') (lo:=0) (hi:=0) rfl (aU _) news 0 h (cs++ZE).toArray hb ?_ X1 ?_
    .simp;rw[<-hl];omega
    .simp only[ZO,Nat.zero_add,aw];refine H _ _ (.inr ⟨b,cap,ZE.drop (j news),Ha,rfl,?_,?_,?_,QG⟩) ⟨sW,fun b' JU hx=>?_⟩ (fun p' HP e hc=>by simp only[Value.slice.injEq]at e;omega)
     .rw[y,if_pos rfl,if_pos (Za hb)];rw[<-hl,VQ,Uy _ _ Rt,aF]
     .rw[N,hl,VT,ak]
     .rw[aK,Nm,VT,<-W];congr 1;omega
     .rw[y,if_neg];intro e;subst e;have hcz:cap≠0:=by
       intro h0;subst h0;have:k=0:=mD;subst this;exact Xb (M (by simpa using VT))
      exact hx (by simp[Ya,hcz])
  .rw[if_neg QG];have U3:¬Builtin.nextslicecap (m+k) cap*i0.bytes>2 ^ 48:=by
    rw[NL];have:=VR (m+k) cap bytes mD Xa;omega
   have fQ:¬i0.bytes=0:=by rw[NL];omega
   have BD:m+k<=140737488355328:=au (by have:=al (m+k) D6;omega) Xa;have vD:¬((m+k:Nat):Int)>IntKind.i64.max:=by
    have:IntKind.i64.max=9223372036854775807:=rfl;rw[this];omega
   simp only[Zj,X0 Ph,vD,false_and,if_false,if_neg U3];intro t;obtain⟨c,hc⟩:=ZP (Question.cut (Question.appendCap (m+k) cap e') t);have vg:m+k<=c:=by rw[hc];simp only[Question.cut];omega
   rw[<-hc];have NM:∀{Q:Unit->Hp->Prop} (b:Nat) (g:Hp),Q () g->hw P (askRoom b) Q g:=fun {Q} b g q=>by
    unfold askRoom;split<;>exact q
   refine NM _ _ (YE Zr.sl (vC _ ?_));rw[nz];have vj:z0.cells.size=n:=by rw[<-fO,<-fP];simp
   refine H (d (w ⟨h.size,0,R⟩) (m+k) c) _ (.inr ⟨h.size,c,(G z0.cells (c-(m+k))).toList,hB,rfl,?_,?_,?_,vg⟩) (Rs.push _) (fun _ _ _ _=>⟨Zk.push (aU _) _,c,rfl⟩)
   .rw[Array.getElem?_push_size];simp
   .have Vb:(j cs)=m*n:=by obtain⟨_,_,_,hl,_⟩:=Zr.sl;exact hl
    rw[N,Vb,VT,ak]
   .rw[am,Xr,vj]
 .cases Vv
end
section
variable {h h':Hp}
theorem UK.Na{B:Nat}{E:X}{n:Nat}{p:Option Addr}{k c:Nat}{cs:List D}(s:UK B E n h (d p k c) k cs){m:Nat}(hm:m<=k):UK B E n h (d p m c) m (cs.take (m*n)):=by
 rcases s with⟨⟨q,h1⟩,h2,h3⟩|⟨b,cap,ZE,hB,h1,hg,hl,hs,hc⟩
 .simp only[Value.slice.injEq]at h1;obtain⟨rfl,rfl,rfl⟩:=h1;have e:m=0:=mD;subst e;subst h3;exact .inl ⟨⟨_,rfl⟩,rfl,sW⟩
 .simp only[Value.slice.injEq]at h1;obtain⟨rfl,_,rfl⟩:=h1;have hmn:m*n<=k*n:=J _ hm;have vg:k*n<=c*n:=J _ hc;refine .inr ⟨b,c,cs.drop (m*n)++ZE,hB,rfl,?_,?_,?_,mD⟩
  .rw[<-aF,List.take_append_drop];exact hg
  .rw[List.length_take];omega
  .rw[N,aK,hl,hs,W,W];omega
theorem VL{b:Nat}{E:X}{n m c:Nat}{pre cs post:List D}(hg:h[b]? = w (U (pre++(cs++post)).toArray E))(hl:(j cs)=m*n){o:Nat}(ho:o=(j pre)):Sl n h (d (w ⟨b,o,R⟩) m c) m cs:=by
 refine⟨_,c,rfl,hl,fun _=>⟨b,o,rfl,fun i hi=>?_⟩⟩;subst ho;rw[SG hg];simp only[S];rw[List.getElem?_append_right mD,Nat.add_sub_cancel_left,List.getElem?_append_left hi,List.getElem?_eq_getElem hi]
theorem TV{a b c vs:List D}{o:Nat}(ho:o=(j a))(hv:(j vs)=(j b)):Xd (a++(b++c)) o vs=a++(vs++c):=by
 subst ho;rw[VQ,Uy _ _ (by rw[N];omega),hv,List.drop_append,List.drop_length,Nat.sub_self,List.drop_zero,a0]
theorem UK.ZE{B:Nat}{E:X}{n:Nat}{p:Option Addr}{k c:Nat}{cs:List D}(s:UK B E n h (d p k c) k cs)(hk:c≠0):∃b ZE,B<=b/\p=w ⟨b,0,R⟩/\h[b]? = w (U (cs++ZE).toArray E)/\(j cs)=k*n/\(j ZE)=(c-k)*n/\k<=c:=by
 rcases s with⟨⟨q,h1⟩,h2,h3⟩|⟨b,cap,ZE,hB,h1,hg,hl,hs,hc⟩
 .simp only[Value.slice.injEq]at h1;exact (hk h1.2.2).elim
 .simp only[Value.slice.injEq]at h1;obtain⟨rfl,_,rfl⟩:=h1;exact⟨b,ZE,hB,rfl,hg,hl,hs,hc⟩
theorem UK.gg{B b:Nat}{E:X}{n k c:Nat}{cs ZE:List D}(hB:B<=b)(hg:h[b]? = w (U (cs++ZE).toArray E))(hl:(j cs)=k*n)(hs:(j ZE)=(c-k)*n)(hc:k<=c):UK B E n h (d (w ⟨b,0,R⟩) k c) k cs:=
 .inr ⟨b,c,ZE,hB,rfl,hg,hl,hs,hc⟩
theorem ZQ{b:Nat}{o o':Obj}(hb:h[b]? = w o'):(h.setIfInBounds b o)[b]? = w o:=by
 rw[y,if_pos rfl,if_pos (Za hb)]
theorem Y2{b b':Nat}{o:Obj}(hb:b≠b'):(h.setIfInBounds b o)[b']? = h[b']?:=by
 rw[y,if_neg hb]
variable {P:Program} {T:World} {K:D->Hp->Prop} {ty:X}
@[go_sem] theorem Znr{cs:Array Bool}{t:X}{p:Option Addr}{l c:Nat}(ht:(QE P t).isSome=true):Ps P T .cap #[t] ty cs [d p l c] K h=K (O A c) h:=by
 unfold QE at ht;split at ht
 .rename_i e hu;show hw P (do pure (.value (<-Builtin.cap_ #[t] ty #[d p l c]))) (Jr P T K) h=_;rw[Zj];show hw P (do
   match <-underlying t,(Value.slice p l c) with
   | .array n _,_=>pure (goInt n)
   | .pointer arr,_=>
    let .array n _ <-underlying arr|stuck "cap: pointer to array expected"
    pure (goInt n)
   | .slice _,d _ _ n=>pure (goInt n)
   | .chan _ _,.chan R=>pure (goInt 0)
   | .chan _ _,.chan (w r)=>
    let .chan n _ _ _ _ timer <-getObj r|stuck "cap: channel expected"
    pure (goInt (if timer then 0 else n))
   | _,_=>stuck "cap: array, pointer to array, slice or channel expected") K h=_
  rw[Zj,ZM hu];rfl
 .cases ht
theorem nN{dT sT E E' b o dl dc k n:Nat}{c news:List D}{cb:Array Bool}{s:D}(hd:QE P dT=w E)(hn:tn P E=w n)(hb:h[b]? = w (U c.toArray E' (0,0)))(src:Sl n h s k news)(X1:(news.take (min k dl*n)).all YN=true)(Xa:o+min k dl*n<=(j c))(H:K (O A ((min k dl:Nat):Int)) (h.setIfInBounds b (U (Xd c o (news.take (min k dl*n))).toArray E' (0,0)))):
  Ps P T .copy #[dT,sT] ty cb [d (w ⟨b,o,R⟩) dl dc,s] K h:=by
 unfold QE at hd;split at hd
 .rename_i e' hu;simp only[Option.some.injEq]at hd;subst hd;show hw P (do pure (.value (<-an #[dT,sT] ty #[d (w ⟨b,o,R⟩) dl dc,s])) ) (Jr P T K) h;rw[Zj];show hw P (an #[dT,sT] ty #[d (w ⟨b,o,R⟩) dl dc,s]) K h;simp only[an,S,Y,Z,Zj,ZO,ZM hu,run_sizeOf hn,src.lenOf];have hlen:(j news)=k*n:=by obtain⟨_,_,_,hl,_⟩:=src;simpa using hl
  obtain⟨p,cap,rfl,hl,hc⟩:=src;have hm:Nat.min k dl=min k dl:=rfl;rw[hm];obtain⟨m,hmm⟩:=ZP (min k dl);rw[<-hmm]at Xa X1 H ⊢;have BD:m<=k:=mD;have hmn:m*n<=k*n:=J _ BD;rw[VV (k':=m) (c':=cap)];refine YE (Sl.Zet ⟨p,cap,rfl,hl,hc⟩ BD cap) ?_;refine YZ (a:=⟨b,o,R⟩) (e:=E') (lo:=0) (hi:=0) rfl (aU _) (news.take (m*n)) 0 h c.toArray hb ?_ ?_ ?_
  .simp;omega
  .exact X1
  .simp only[ZO,aw];exact H
 .cases hd
theorem Ck{f:FuncId}{fn:Func}{e:Array D->Sem D}(hf:P.funcs[f]? = w fn)(ZjV:(fn.name == "runtime.NumGoroutine")=false)(hb:fn.body.isNone=true)(hn:Extern.findNext fn=R)(he:Extern.find fn=w e){l:List D}(H:hw P (e l.toArray) K h):HC P T (.func (.func f) #[] #[]) l K h:=by
 have h1:fn.name ≠ "runtime.NumGoroutine" := by simpa using ZjV
 have h2:fn.body=R:=by simpa using hb
 have hg:¬goes P f=true:=by unfold goes;rw[hf];simp[h2]
 show if goes P f=true then Zg P T f (([]:List D)++l++[]).toArray h K else hw P (callFunc f (([]:List D)++l++[]).toArray) (Jr P T K) h
 rw[if_neg hg,a0,aX];unfold callFunc;rw[Zj];simp only[program,hw,hf];rw[if_neg (by simpa using h1),if_pos (by rw[h2];rfl),Zj];simp only[mark,hw,hn,he];rw[Zj];exact H
end
theorem gh{P:Program}{L:List Char}{x:Bool × List Char}(h:P.initOrder=String.ofList L)(h2:(match wordsSigns L with|h :: s :: _=>if !isSumSigns s then R else if h == "harness".toList then w (true,s) else if h == "ownmain".toList then w (false,s) else R|_=>R)=w x):P.mainIs=w x:=by
 unfold Program.mainIs;rw[h,String.toList_ofList];exact h2
end Go.V
