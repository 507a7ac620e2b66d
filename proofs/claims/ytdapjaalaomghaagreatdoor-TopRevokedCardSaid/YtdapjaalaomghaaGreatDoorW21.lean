/- Part W21. -/
import Derived.Test.YtdapjaalaomghaaGreatDoorW19
open Go.Value renaming slice→d,int→O
open Go.IntKind renaming i64→A
open Go.Obj renaming cells→U
open List renaming length→j,eq_nil_of_length_eq_zero→M,length_append→N,getElem?_toArray→S,getElem?_cons_zero→Y,getElem?_cons_succ→Z,append_assoc→aU,length_drop→a1,append_nil→a3,nil_append→a4
open Nat renaming mul_le_mul_right→J,sub_mul→W,add_mul→ab,mul_le_mul_left→ae,le_trans→aq,add_zero→aw,le_refl→a2
open Option renaming bind_some→a0,some→u,none→R
open Array renaming getElem?_setIfInBounds→y,length_toList→al
open Go.Builtin renaming zeroCells→G,append_→aa,copy_→am
open Go renaming Value→D,TypeId→X
namespace Go.V
set_option linter.all false
section
variable {P:Program} {T:World} {K:D->Hp->Prop} {F:Env} {h:Hp} {ty:X}
theorem C7{sT xT E B n m k bytes:Nat}{v:D}{cs zs:List D}{cb:Array Bool}(VR:QP P sT=u E)(CL:P.underlying xT=u (.int A))(hn:tn P E=u n)(hz:tz P E=u zs)(gM:(j zs)=n)(C0:n≠0)(OT:tb P E=u bytes)(Zm:UK B E n h v m cs)(hB:B<=h.size)(XW:(G zs.toArray k).toList.all YD=true)(Y5:(m+k)*bytes<=140737488355328)(Gy:1<=bytes)(H:∀v' h',UK B E n h' v' (m+k) (cs++(G zs.toArray k).toList)->RM (Yf v) h h'->(∀p cap,v=d p m cap->cap<m+k->Zj h.size h h'/\∃c,v'=d (u ⟨h.size,0,R⟩) (m+k) c)->K v' h'):PY P T .append #[sT,xT] ty cb [v,O A (k:Nat)] K h:=by
 have hkb:k*bytes<=140737488355328:=aq (J _ nT) Y5;have Zq3:k<=140737488355328:=aq (by have:=ae k Gy;omega) hkb;have VT:(G zs.toArray k).toList.length=k*n:=by rw[al,Xp];simp[gM]
 obtain⟨news,ao⟩:=ZN ((G zs.toArray k).toList);rw[<-ao]at XW VT H;unfold QP at VR;split at VR
 .rename_i e' hu;simp only[Option.some.injEq]at VR;subst VR;show hw P (do pure (.value (<-aa #[sT,xT] ty #[v,O A (k:Nat)]))) (Jt P T K) h;rw[Zk];show hw P (aa #[sT,xT] ty #[v,O A (k:Nat)]) K h;obtain⟨i0,PK⟩:∃i,P.info? e'=u i:=by
   unfold tn at hn
   cases hi:P.info? e' with
   | none=>rw[hi]at hn;cases hn
   | some i=>exact⟨i,rfl⟩
  have Ma:i0.bytes=bytes:=by unfold tb at OT;rw[PK]at OT;simpa using OT
  obtain⟨z0,Au,gN⟩:∃z,i0.zero=u z/\z.cells.toList=zs:=by
   unfold tz at hz;rw[PK]at hz
   cases HK:i0.zero with
   | none=>rw[a0,HK]at hz;cases hz
   | some z=>rw[a0,HK]at hz;exact⟨z,rfl,by simpa using hz⟩
  have Zgm:z0.cells=zs.toArray:=by rw[<-gN]
  have hvs:∃base cap,v=d base m cap:=by
   rcases Zm with⟨⟨p,rfl⟩,rfl,_⟩|⟨b,cap,sp,_,rfl,_⟩
   .exact⟨_,_,rfl⟩
   .exact⟨_,_,rfl⟩
  obtain⟨base,cap,hv⟩:=hvs;subst hv;have py:∀{Q:D->Hp->Prop} (g:Hp),hw P (zeroValue e') Q g=Q z0 g:=fun {Q} g=>by
   unfold zeroValue;rw[Zk,X1 PK];simp only[Au];rfl
  have wI:IntKind.i64.wrap ((k:Nat):Int)=(k:Nat):=S9 A k (by show k<2 ^ 63;omega);have SC:∀{Q:Int->Hp->Prop} (g:Hp),hw P (asInt (O A (k:Nat))) Q g=Q (k:Nat) g:=fun {Q} g=>by
   rfl
  have Zgn:¬((k:Nat):Int)<0:=nT;have h48:¬((k:Nat):Int)*(i0.bytes:Nat)>2 ^ 48:=by
   rw[Ma,<-Int.natCast_mul];have:k*bytes<=2 ^ 48:=nT;have h2:((k*bytes:Nat):Int)<=2 ^ 48:=by exact_mod_cast this
   omega
  simp only[aa,S,Y,Z,Zk,ZL,ZH hu,ZH CL,run_sizeOf hn,if_true,SC,wI,if_neg Zgn,X1 PK,if_neg h48,Int.toNat_natCast,Bool.not_true,Bool.false_eq_true,if_false];have wJ:∀{Q:Array D->Hp->Prop} (g:Hp),Q news.toArray g->hw P (if k*n=0 then pure #[] else do pure (G (<-zeroValue e').cells k)) Q g:=fun {Q} g q=>by
   by_cases h0:k*n=0
   .rw[if_pos h0];have:k=0:=by
     rcases Nat.mul_eq_zero.1 h0 with h|h
     .exact h
     .exact (C0 h).elim
    subst this;have e:news=[]:=M (by rw[VT];omega);rw[e]at q;exact q
   .rw[if_neg h0,Zk,py,Zgm];rw[ao,Array.toArray_toList]at q;exact q
  by_cases QR:m+k<=cap
  .rw[if_pos QR,Zk];refine wJ _ ?_;by_cases Y4:news=[]
   .rw[Y4];rw[Y4]at VT H;have hK:K (d base (m+k) cap) h:=by
     refine H _ _ ?_ RM.refl (fun p' Gz e hc=>by simp only[Value.slice.injEq]at e;omega);rcases Zm with⟨⟨p,h1⟩,h2,h3⟩|⟨b,Gz,ZG,HM,h1,hb,hl,NB,ue⟩
     .simp only[Value.slice.injEq]at h1;obtain⟨rfl,rfl,rfl⟩:=h1;have hk:k=0:=nT;subst hk;subst h3;exact .inl ⟨⟨_,rfl⟩,rfl,rfl⟩
     .simp only[Value.slice.injEq]at h1;obtain⟨rfl,_,rfl⟩:=h1;have uf:k*n=0:=by simpa using VT.symm
      refine .inr ⟨b,cap,ZG,HM,rfl,by simpa using hb,by rw[a3,hl,ab,uf];rfl,?_,QR⟩;rw[NB,W,W,ab,uf,aw]
    cases base<;>exact hK
   rcases Zm with⟨⟨p,h1⟩,h2,h3⟩|⟨b,Gz,ZG,HM,h1,hb,hl,NB,ue⟩
   .simp only[Value.slice.injEq]at h1;obtain⟨rfl,rfl,rfl⟩:=h1;have hk:k=0:=nT;subst hk;exact (Y4 (M (by simpa using VT))).elim
   .simp only[Value.slice.injEq]at h1;obtain⟨rfl,_,rfl⟩:=h1;simp only[Zk,XL];have RO:(j news)<=(j ZG):=by rw[VT,NB];exact J _ nT
    refine YV (e:=e') (lo:=0) (hi:=0) rfl (a2 _) news 0 h (cs++ZG).toArray hb ?_ XW ?_
    .simp;rw[<-hl];omega
    .simp only[ZL,Nat.zero_add,aw];refine H _ _ (.inr ⟨b,cap,ZG.drop (j news),HM,rfl,?_,?_,?_,QR⟩) ⟨uK,fun b' J9 hx=>?_⟩ (fun p' Gz e hc=>by simp only[Value.slice.injEq]at e;omega)
     .rw[y,if_pos rfl,if_pos (Za hb)];rw[<-hl,Tn,UU _ _ RO,aU]
     .rw[N,hl,VT,ab]
     .rw[a1,NB,VT,<-W];congr 1;omega
     .rw[y,if_neg];intro e;subst e;have hcz:cap≠0:=by
       intro h0;subst h0;have:k=0:=nT;subst this;exact Y4 (M (by simpa using VT))
      exact hx (by simp[Yf,hcz])
  .rw[if_neg QR];have Vk:¬Builtin.nextslicecap (m+k) cap*i0.bytes>2 ^ 48:=by
    rw[Ma];have:=To (m+k) cap bytes nT Y5;omega
   have gO:¬i0.bytes=0:=by rw[Ma];omega
   have lP:m+k<=140737488355328:=aq (by have:=ae (m+k) Gy;omega) Y5;have wM:¬((m+k:Nat):Int)>IntKind.i64.max:=by
    have:IntKind.i64.max=9223372036854775807:=rfl;rw[this];omega
   simp only[Zk,X1 PK,wM,false_and,if_false,if_neg Vk];intro t;obtain⟨c,hc⟩:=ZN (Question.cut (Question.appendCap (m+k) cap e') t);have wh:m+k<=c:=by rw[hc];simp only[Question.cut];omega
   rw[<-hc];have SC:∀{Q:Unit->Hp->Prop} (b:Nat) (g:Hp),Q () g->hw P (askRoom b) Q g:=fun {Q} b g q=>by
    unfold askRoom;split<;>exact q
   refine SC _ _ (YC Zm.sl (wJ _ ?_));rw[py];have wm:z0.cells.size=n:=by rw[<-gM,<-gN];simp
   refine H (d (u ⟨h.size,0,R⟩) (m+k) c) _ (.inr ⟨h.size,c,(G z0.cells (c-(m+k))).toList,hB,rfl,?_,?_,?_,wh⟩) (RM.push _) (fun _ _ _ _=>⟨Zj.push (a2 _) _,c,rfl⟩)
   .rw[Array.getElem?_push_size];simp
   .have JS:(j cs)=m*n:=by obtain⟨_,_,_,hl,_⟩:=Zm.sl;exact hl
    rw[N,JS,VT,ab]
   .rw[al,Xp,wm]
 .cases VR
end
section
variable {h h':Hp}
theorem UK.Md{B:Nat}{E:X}{n:Nat}{p:Option Addr}{k c:Nat}{cs:List D}(s:UK B E n h (d p k c) k cs){m:Nat}(hm:m<=k):UK B E n h (d p m c) m (cs.take (m*n)):=by
 rcases s with⟨⟨q,h1⟩,h2,h3⟩|⟨b,cap,ZG,hB,h1,hg,hl,hs,hc⟩
 .simp only[Value.slice.injEq]at h1;obtain⟨rfl,rfl,rfl⟩:=h1;have e:m=0:=nT;subst e;subst h3;exact .inl ⟨⟨_,rfl⟩,rfl,uK⟩
 .simp only[Value.slice.injEq]at h1;obtain⟨rfl,_,rfl⟩:=h1;have hmn:m*n<=k*n:=J _ hm;have wh:k*n<=c*n:=J _ hc;refine .inr ⟨b,c,cs.drop (m*n)++ZG,hB,rfl,?_,?_,?_,nT⟩
  .rw[<-aU,List.take_append_drop];exact hg
  .rw[List.length_take];omega
  .rw[N,a1,hl,hs,W,W];omega
theorem Te{b:Nat}{E:X}{n m c:Nat}{pre cs post:List D}(hg:h[b]? = u (U (pre++(cs++post)).toArray E))(hl:(j cs)=m*n){o:Nat}(ho:o=(j pre)):Sl n h (d (u ⟨b,o,R⟩) m c) m cs:=by
 refine⟨_,c,rfl,hl,fun _=>⟨b,o,rfl,fun i hi=>?_⟩⟩;subst ho;rw[S8 hg];simp only[S];rw[List.getElem?_append_right nT,Nat.add_sub_cancel_left,List.getElem?_append_left hi,List.getElem?_eq_getElem hi]
theorem Sf{a b c vs:List D}{o:Nat}(ho:o=(j a))(hv:(j vs)=(j b)):Y8 (a++(b++c)) o vs=a++(vs++c):=by
 subst ho;rw[Tn,UU _ _ (by rw[N];omega),hv,List.drop_append,List.drop_length,Nat.sub_self,List.drop_zero,a4]
theorem UK.ZG{B:Nat}{E:X}{n:Nat}{p:Option Addr}{k c:Nat}{cs:List D}(s:UK B E n h (d p k c) k cs)(hk:c≠0):∃b ZG,B<=b/\p=u ⟨b,0,R⟩/\h[b]? = u (U (cs++ZG).toArray E)/\(j cs)=k*n/\(j ZG)=(c-k)*n/\k<=c:=by
 rcases s with⟨⟨q,h1⟩,h2,h3⟩|⟨b,cap,ZG,hB,h1,hg,hl,hs,hc⟩
 .simp only[Value.slice.injEq]at h1;exact (hk h1.2.2).elim
 .simp only[Value.slice.injEq]at h1;obtain⟨rfl,_,rfl⟩:=h1;exact⟨b,ZG,hB,rfl,hg,hl,hs,hc⟩
theorem UK.ic{B b:Nat}{E:X}{n k c:Nat}{cs ZG:List D}(hB:B<=b)(hg:h[b]? = u (U (cs++ZG).toArray E))(hl:(j cs)=k*n)(hs:(j ZG)=(c-k)*n)(hc:k<=c):UK B E n h (d (u ⟨b,0,R⟩) k c) k cs:=
 .inr ⟨b,c,ZG,hB,rfl,hg,hl,hs,hc⟩
theorem ZQ{b:Nat}{o o':Obj}(hb:h[b]? = u o'):(h.setIfInBounds b o)[b]? = u o:=by
 rw[y,if_pos rfl,if_pos (Za hb)]
theorem Y7{b b':Nat}{o:Obj}(hb:b≠b'):(h.setIfInBounds b o)[b']? = h[b']?:=by
 rw[y,if_neg hb]
variable {P:Program} {T:World} {K:D->Hp->Prop} {ty:X}
@[go_sem] theorem Zn4{cs:Array Bool}{t:X}{p:Option Addr}{l c:Nat}(ht:(QP P t).isSome=true):PY P T .cap #[t] ty cs [d p l c] K h=K (O A c) h:=by
 unfold QP at ht;split at ht
 .rename_i e hu;show hw P (do pure (.value (<-Builtin.cap_ #[t] ty #[d p l c]))) (Jt P T K) h=_;rw[Zk];show hw P (do
   match <-underlying t,(Value.slice p l c) with
   | .array n _,_=>pure (goInt n)
   | .pointer arr,_=>
    let .array n _ <-underlying arr|stuck "cap: pointer to array expected"
    pure (goInt n)
   | .slice _,d _ _ n=>pure (goInt n)
   | .chan _ _,.chan R=>pure (goInt 0)
   | .chan _ _,.chan (u r)=>
    let .chan n _ _ _ _ timer <-getObj r|stuck "cap: channel expected"
    pure (goInt (if timer then 0 else n))
   | _,_=>stuck "cap: array, pointer to array, slice or channel expected") K h=_
  rw[Zk,ZH hu];rfl
 .cases ht
theorem pI{dT sT E E' b o dl dc k n:Nat}{c news:List D}{cb:Array Bool}{s:D}(hd:QP P dT=u E)(hn:tn P E=u n)(hb:h[b]? = u (U c.toArray E' (0,0)))(src:Sl n h s k news)(XW:(news.take (min k dl*n)).all YD=true)(Y5:o+min k dl*n<=(j c))(H:K (O A ((min k dl:Nat):Int)) (h.setIfInBounds b (U (Y8 c o (news.take (min k dl*n))).toArray E' (0,0)))):
  PY P T .copy #[dT,sT] ty cb [d (u ⟨b,o,R⟩) dl dc,s] K h:=by
 unfold QP at hd;split at hd
 .rename_i e' hu;simp only[Option.some.injEq]at hd;subst hd;show hw P (do pure (.value (<-am #[dT,sT] ty #[d (u ⟨b,o,R⟩) dl dc,s])) ) (Jt P T K) h;rw[Zk];show hw P (am #[dT,sT] ty #[d (u ⟨b,o,R⟩) dl dc,s]) K h;simp only[am,S,Y,Z,Zk,ZL,ZH hu,run_sizeOf hn,src.lenOf];have hlen:(j news)=k*n:=by obtain⟨_,_,_,hl,_⟩:=src;simpa using hl
  obtain⟨p,cap,rfl,hl,hc⟩:=src;have hm:Nat.min k dl=min k dl:=rfl;rw[hm];obtain⟨m,hmm⟩:=ZN (min k dl);rw[<-hmm]at Y5 XW H ⊢;have lP:m<=k:=nT;have hmn:m*n<=k*n:=J _ lP;rw[Tu (k':=m) (c':=cap)];refine YC (Sl.Ze0 ⟨p,cap,rfl,hl,hc⟩ lP cap) ?_;refine YV (a:=⟨b,o,R⟩) (e:=E') (lo:=0) (hi:=0) rfl (a2 _) (news.take (m*n)) 0 h c.toArray hb ?_ ?_ ?_
  .simp;omega
  .exact XW
  .simp only[ZL,aw];exact H
 .cases hd
theorem C8{f:FuncId}{fn:Func}{e:Array D->Sem D}(hf:P.funcs[f]? = u fn)(ZkC:(fn.name == "runtime.NumGoroutine")=false)(hb:fn.body.isNone=true)(hn:Extern.findNext fn=R)(he:Extern.find fn=u e){l:List D}(H:hw P (e l.toArray) K h):Gl P T (.func (.func f) #[] #[]) l K h:=by
 have h1:fn.name ≠ "runtime.NumGoroutine" := by simpa using ZkC
 have h2:fn.body=R:=by simpa using hb
 have hg:¬goes P f=true:=by unfold goes;rw[hf];simp[h2]
 show if goes P f=true then Zd P T f (([]:List D)++l++[]).toArray h K else hw P (callFunc f (([]:List D)++l++[]).toArray) (Jt P T K) h
 rw[if_neg hg,a4,a3];unfold callFunc;rw[Zk];simp only[program,hw,hf];rw[if_neg (by simpa using h1),if_pos (by rw[h2];rfl),Zk];simp only[mark,hw,hn,he];rw[Zk];exact H
end
theorem ie{P:Program}{L:List Char}{x:Bool × List Char}(h:P.initOrder=String.ofList L)(h2:(match wordsSigns L with|h :: s :: _=>if !isSumSigns s then R else if h == "harness".toList then u (true,s) else if h == "ownmain".toList then u (false,s) else R|_=>R)=u x):P.mainIs=u x:=by
 unfold Program.mainIs;rw[h,String.toList_ofList];exact h2
end Go.V
