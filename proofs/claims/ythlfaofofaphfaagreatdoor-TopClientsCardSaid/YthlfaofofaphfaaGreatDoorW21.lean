/- Part W21. -/
import Derived.Test.YthlfaofofaphfaaGreatDoorW19
open Go.Value renaming slice→d,int→O
open Go.IntKind renaming i64→A
open Go.Obj renaming cells→U
open List renaming length→j,eq_nil_of_length_eq_zero→M,length_append→N,getElem?_toArray→S,getElem?_cons_zero→Y,getElem?_cons_succ→Z,append_assoc→a0,length_drop→a2,append_nil→a4,nil_append→a5
open Nat renaming mul_le_mul_right→J,sub_mul→W,add_mul→al,mul_le_mul_left→am,le_trans→aI,add_zero→aU,le_refl→a3
open Option renaming bind_some→a1,some→u,none→R
open Array renaming getElem?_setIfInBounds→y,length_toList→au
open Go.Builtin renaming zeroCells→G,append_→aa,copy_→aw
open Go renaming Value→D,TypeId→X
namespace Go.V
set_option linter.unusedVariables false
set_option linter.unusedSimpArgs false
section
variable {P:Program} {T:World} {K:D->Hp->Prop} {F:Env} {h:Hp} {ty:X}
theorem CE{sT xT E B n m k bytes:Nat}{v:D}{cs zs:List D}{cb:Array Bool}(VI:QR P sT=u E)(Co:P.underlying xT=u (.int A))(hn:tn P E=u n)(hz:tz P E=u zs)(fR:(j zs)=n)(CA:n≠0)(OC:tb P E=u bytes)(Zq:UE B E n h v m cs)(hB:B<=h.size)(XV:(G zs.toArray k).toList.all YC=true)(Y7:(m+k)*bytes<=140737488355328)(Gf:1<=bytes)(H:∀v' h',UE B E n h' v' (m+k) (cs++(G zs.toArray k).toList)->Rt (Yf v) h h'->(∀p cap,v=d p m cap->cap<m+k->Zk h.size h h'/\∃c,v'=d (u ⟨h.size,0,R⟩) (m+k) c)->K v' h'):Pm P T .append #[sT,xT] ty cb [v,O A (k:Nat)] K h:=by
 have hkb:k*bytes<=140737488355328:=aI (J _ nc) Y7;have Zqj:k<=140737488355328:=aI (by have:=am k Gf;omega) hkb;have VJ:(G zs.toArray k).toList.length=k*n:=by rw[au,Xn];simp[fR]
 obtain⟨news,AN⟩:=ZQ ((G zs.toArray k).toList);rw[<-AN]at XV VJ H;unfold QR at VI;split at VI
 .rename_i e' hu;simp only[Option.some.injEq]at VI;subst VI;show hw P (do pure (.value (<-aa #[sT,xT] ty #[v,O A (k:Nat)]))) (Jt P T K) h;rw[Zm];show hw P (aa #[sT,xT] ty #[v,O A (k:Nat)]) K h;obtain⟨i0,Pg⟩:∃i,P.info? e'=u i:=by
   unfold tn at hn
   cases hi:P.info? e' with
   | none=>rw[hi]at hn;cases hn
   | some i=>exact⟨i,rfl⟩
  have NH:i0.bytes=bytes:=by unfold tb at OC;rw[Pg]at OC;simpa using OC
  obtain⟨z0,BV,fS⟩:∃z,i0.zero=u z/\z.cells.toList=zs:=by
   unfold tz at hz;rw[Pg]at hz
   cases Hv:i0.zero with
   | none=>rw[a1,Hv]at hz;cases hz
   | some z=>rw[a1,Hv]at hz;exact⟨z,rfl,by simpa using hz⟩
  have ZfJ:z0.cells=zs.toArray:=by rw[<-fS]
  have hvs:∃base cap,v=d base m cap:=by
   rcases Zq with⟨⟨p,rfl⟩,rfl,_⟩|⟨b,cap,sp,_,rfl,_⟩
   .exact⟨_,_,rfl⟩
   .exact⟨_,_,rfl⟩
  obtain⟨base,cap,hv⟩:=hvs;subst hv;have ov:∀{Q:D->Hp->Prop} (g:Hp),hw P (zeroValue e') Q g=Q z0 g:=fun {Q} g=>by
   unfold zeroValue;rw[Zm,XZ Pg];simp only[BV];rfl
  have vM:IntKind.i64.wrap ((k:Nat):Int)=(k:Nat):=SN A k (by show k<2 ^ 63;omega);have SK:∀{Q:Int->Hp->Prop} (g:Hp),hw P (asInt (O A (k:Nat))) Q g=Q (k:Nat) g:=fun {Q} g=>by
   rfl
  have ZfK:¬((k:Nat):Int)<0:=nc;have h48:¬((k:Nat):Int)*(i0.bytes:Nat)>2 ^ 48:=by
   rw[NH,<-Int.natCast_mul];have:k*bytes<=2 ^ 48:=nc;have h2:((k*bytes:Nat):Int)<=2 ^ 48:=by exact_mod_cast this
   omega
  simp only[aa,S,Y,Z,Zm,ZN,ZH hu,ZH Co,run_sizeOf hn,if_true,SK,vM,if_neg ZfK,XZ Pg,if_neg h48,Int.toNat_natCast,Bool.not_true,Bool.false_eq_true,if_false];have vN:∀{Q:Array D->Hp->Prop} (g:Hp),Q news.toArray g->hw P (if k*n=0 then pure #[] else do pure (G (<-zeroValue e').cells k)) Q g:=fun {Q} g q=>by
   by_cases h0:k*n=0
   .rw[if_pos h0];have:k=0:=by
     rcases Nat.mul_eq_zero.1 h0 with h|h
     .exact h
     .exact (CA h).elim
    subst this;have e:news=[]:=M (by rw[VJ];omega);rw[e]at q;exact q
   .rw[if_neg h0,Zm,ov,ZfJ];rw[AN,Array.toArray_toList]at q;exact q
  by_cases Qg:m+k<=cap
  .rw[if_pos Qg,Zm];refine vN _ ?_;by_cases Y4:news=[]
   .rw[Y4];rw[Y4]at VJ H;have hK:K (d base (m+k) cap) h:=by
     refine H _ _ ?_ Rt.refl (fun p' Gg e hc=>by simp only[Value.slice.injEq]at e;omega);rcases Zq with⟨⟨p,h1⟩,h2,h3⟩|⟨b,Gg,ZG,Hx,h1,hb,hl,Ni,tC⟩
     .simp only[Value.slice.injEq]at h1;obtain⟨rfl,rfl,rfl⟩:=h1;have hk:k=0:=nc;subst hk;subst h3;exact .inl ⟨⟨_,rfl⟩,rfl,rfl⟩
     .simp only[Value.slice.injEq]at h1;obtain⟨rfl,_,rfl⟩:=h1;have tD:k*n=0:=by simpa using VJ.symm
      refine .inr ⟨b,cap,ZG,Hx,rfl,by simpa using hb,by rw[a4,hl,al,tD];rfl,?_,Qg⟩;rw[Ni,W,W,al,tD,aU]
    cases base<;>exact hK
   rcases Zq with⟨⟨p,h1⟩,h2,h3⟩|⟨b,Gg,ZG,Hx,h1,hb,hl,Ni,tC⟩
   .simp only[Value.slice.injEq]at h1;obtain⟨rfl,rfl,rfl⟩:=h1;have hk:k=0:=nc;subst hk;exact (Y4 (M (by simpa using VJ))).elim
   .simp only[Value.slice.injEq]at h1;obtain⟨rfl,_,rfl⟩:=h1;simp only[Zm,XJ];have Rv:(j news)<=(j ZG):=by rw[VJ,Ni];exact J _ nc
    refine YV (e:=e') (lo:=0) (hi:=0) rfl (a3 _) news 0 h (cs++ZG).toArray hb ?_ XV ?_
    .simp;rw[<-hl];omega
    .simp only[ZN,Nat.zero_add,aU];refine H _ _ (.inr ⟨b,cap,ZG.drop (j news),Hx,rfl,?_,?_,?_,Qg⟩) ⟨Hg,fun b' Qa hx=>?_⟩ (fun p' Gg e hc=>by simp only[Value.slice.injEq]at e;omega)
     .rw[y,if_pos rfl,if_pos (Za hb)];rw[<-hl,Tb,UM _ _ Rv,a0]
     .rw[N,hl,VJ,al]
     .rw[a2,Ni,VJ,<-W];congr 1;omega
     .rw[y,if_neg];intro e;subst e;have hcz:cap≠0:=by
       intro h0;subst h0;have:k=0:=nc;subst this;exact Y4 (M (by simpa using VJ))
      exact hx (by simp[Yf,hcz])
  .rw[if_neg Qg];have W0:¬Builtin.nextslicecap (m+k) cap*i0.bytes>2 ^ 48:=by
    rw[NH];have:=Tc (m+k) cap bytes nc Y7;omega
   have fU:¬i0.bytes=0:=by rw[NH];omega
   have kO:m+k<=140737488355328:=aI (by have:=am (m+k) Gf;omega) Y7;have vO:¬((m+k:Nat):Int)>IntKind.i64.max:=by
    have:IntKind.i64.max=9223372036854775807:=rfl;rw[this];omega
   simp only[Zm,XZ Pg,vO,false_and,if_false,if_neg W0];intro t;obtain⟨c,hc⟩:=ZQ (Question.cut (Question.appendCap (m+k) cap e') t);have vB:m+k<=c:=by rw[hc];simp only[Question.cut];omega
   rw[<-hc];have SK:∀{Q:Unit->Hp->Prop} (b:Nat) (g:Hp),Q () g->hw P (askRoom b) Q g:=fun {Q} b g q=>by
    unfold askRoom;split<;>exact q
   refine SK _ _ (YA Zq.sl (vN _ ?_));rw[ov];have vC:z0.cells.size=n:=by rw[<-fR,<-fS];simp
   refine H (d (u ⟨h.size,0,R⟩) (m+k) c) _ (.inr ⟨h.size,c,(G z0.cells (c-(m+k))).toList,hB,rfl,?_,?_,?_,vB⟩) (Rt.push _) (fun _ _ _ _=>⟨Zk.push (a3 _) _,c,rfl⟩)
   .rw[Array.getElem?_push_size];simp
   .have JZ:(j cs)=m*n:=by obtain⟨_,_,_,hl,_⟩:=Zq.sl;exact hl
    rw[N,JZ,VJ,al]
   .rw[au,Xn,vC]
 .cases VI
end
section
variable {h h':Hp}
theorem UE.NL{B:Nat}{E:X}{n:Nat}{p:Option Addr}{k c:Nat}{cs:List D}(s:UE B E n h (d p k c) k cs){m:Nat}(hm:m<=k):UE B E n h (d p m c) m (cs.take (m*n)):=by
 rcases s with⟨⟨q,h1⟩,h2,h3⟩|⟨b,cap,ZG,hB,h1,hg,hl,hs,hc⟩
 .simp only[Value.slice.injEq]at h1;obtain⟨rfl,rfl,rfl⟩:=h1;have e:m=0:=nc;subst e;subst h3;exact .inl ⟨⟨_,rfl⟩,rfl,Hg⟩
 .simp only[Value.slice.injEq]at h1;obtain⟨rfl,_,rfl⟩:=h1;have hmn:m*n<=k*n:=J _ hm;have vB:k*n<=c*n:=J _ hc;refine .inr ⟨b,c,cs.drop (m*n)++ZG,hB,rfl,?_,?_,?_,nc⟩
  .rw[<-a0,List.take_append_drop];exact hg
  .rw[List.length_take];omega
  .rw[N,a2,hl,hs,W,W];omega
theorem VZ{b:Nat}{E:X}{n m c:Nat}{pre cs post:List D}(hg:h[b]? = u (U (pre++(cs++post)).toArray E))(hl:(j cs)=m*n){o:Nat}(ho:o=(j pre)):Sl n h (d (u ⟨b,o,R⟩) m c) m cs:=by
 refine⟨_,c,rfl,hl,fun _=>⟨b,o,rfl,fun i hi=>?_⟩⟩;subst ho;rw[SM hg];simp only[S];rw[List.getElem?_append_right nc,Nat.add_sub_cancel_left,List.getElem?_append_left hi,List.getElem?_eq_getElem hi]
theorem TY{a b c vs:List D}{o:Nat}(ho:o=(j a))(hv:(j vs)=(j b)):Y9 (a++(b++c)) o vs=a++(vs++c):=by
 subst ho;rw[Tb,UM _ _ (by rw[N];omega),hv,List.drop_append,List.drop_length,Nat.sub_self,List.drop_zero,a5]
theorem UE.ZG{B:Nat}{E:X}{n:Nat}{p:Option Addr}{k c:Nat}{cs:List D}(s:UE B E n h (d p k c) k cs)(hk:c≠0):∃b ZG,B<=b/\p=u ⟨b,0,R⟩/\h[b]? = u (U (cs++ZG).toArray E)/\(j cs)=k*n/\(j ZG)=(c-k)*n/\k<=c:=by
 rcases s with⟨⟨q,h1⟩,h2,h3⟩|⟨b,cap,ZG,hB,h1,hg,hl,hs,hc⟩
 .simp only[Value.slice.injEq]at h1;exact (hk h1.2.2).elim
 .simp only[Value.slice.injEq]at h1;obtain⟨rfl,_,rfl⟩:=h1;exact⟨b,ZG,hB,rfl,hg,hl,hs,hc⟩
theorem UE.gm{B b:Nat}{E:X}{n k c:Nat}{cs ZG:List D}(hB:B<=b)(hg:h[b]? = u (U (cs++ZG).toArray E))(hl:(j cs)=k*n)(hs:(j ZG)=(c-k)*n)(hc:k<=c):UE B E n h (d (u ⟨b,0,R⟩) k c) k cs:=
 .inr ⟨b,c,ZG,hB,rfl,hg,hl,hs,hc⟩
theorem ZS{b:Nat}{o o':Obj}(hb:h[b]? = u o'):(h.setIfInBounds b o)[b]? = u o:=by
 rw[y,if_pos rfl,if_pos (Za hb)]
theorem Xa{b b':Nat}{o:Obj}(hb:b≠b'):(h.setIfInBounds b o)[b']? = h[b']?:=by
 rw[y,if_neg hb]
variable {P:Program} {T:World} {K:D->Hp->Prop} {ty:X}
@[go_sem] theorem Zne{cs:Array Bool}{t:X}{p:Option Addr}{l c:Nat}(ht:(QR P t).isSome=true):Pm P T .cap #[t] ty cs [d p l c] K h=K (O A c) h:=by
 unfold QR at ht;split at ht
 .rename_i e hu;show hw P (do pure (.value (<-Builtin.cap_ #[t] ty #[d p l c]))) (Jt P T K) h=_;rw[Zm];show hw P (do
   match <-underlying t,(Value.slice p l c) with
   | .array n _,_=>pure (goInt n)
   | .pointer arr,_=>
    let .array n _ <-underlying arr|stuck "cap: pointer to array expected"
    pure (goInt n)
   | .slice _,d _ _ n=>pure (goInt n)
   | .chan _ _,.chan R=>pure (goInt 0)
   | .chan _ _,.chan (u r)=>
    let .chan n _ _ _ _ timer <-getObj r|stuck "cap: channel expected"
    pure (goInt (if timer then 0 else n))
   | _,_=>stuck "cap: array, pointer to array, slice or channel expected") K h=_
  rw[Zm,ZH hu];rfl
 .cases ht
theorem oK{dT sT E E' b o dl dc k n:Nat}{c news:List D}{cb:Array Bool}{s:D}(hd:QR P dT=u E)(hn:tn P E=u n)(hb:h[b]? = u (U c.toArray E' (0,0)))(src:Sl n h s k news)(XV:(news.take (min k dl*n)).all YC=true)(Y7:o+min k dl*n<=(j c))(H:K (O A ((min k dl:Nat):Int)) (h.setIfInBounds b (U (Y9 c o (news.take (min k dl*n))).toArray E' (0,0)))):
  Pm P T .copy #[dT,sT] ty cb [d (u ⟨b,o,R⟩) dl dc,s] K h:=by
 unfold QR at hd;split at hd
 .rename_i e' hu;simp only[Option.some.injEq]at hd;subst hd;show hw P (do pure (.value (<-aw #[dT,sT] ty #[d (u ⟨b,o,R⟩) dl dc,s])) ) (Jt P T K) h;rw[Zm];show hw P (aw #[dT,sT] ty #[d (u ⟨b,o,R⟩) dl dc,s]) K h;simp only[aw,S,Y,Z,Zm,ZN,ZH hu,run_sizeOf hn,src.lenOf];have hlen:(j news)=k*n:=by obtain⟨_,_,_,hl,_⟩:=src;simpa using hl
  obtain⟨p,cap,rfl,hl,hc⟩:=src;have hm:Nat.min k dl=min k dl:=rfl;rw[hm];obtain⟨m,hmm⟩:=ZQ (min k dl);rw[<-hmm]at Y7 XV H ⊢;have kO:m<=k:=nc;have hmn:m*n<=k*n:=J _ kO;rw[Th (k':=m) (c':=cap)];refine YA (Sl.Zer ⟨p,cap,rfl,hl,hc⟩ kO cap) ?_;refine YV (a:=⟨b,o,R⟩) (e:=E') (lo:=0) (hi:=0) rfl (a3 _) (news.take (m*n)) 0 h c.toArray hb ?_ ?_ ?_
  .simp;omega
  .exact XV
  .simp only[ZN,aU];exact H
 .cases hd
theorem CF{f:FuncId}{fn:Func}{e:Array D->Sem D}(hf:P.funcs[f]? = u fn)(ZjN:(fn.name == "runtime.NumGoroutine")=false)(hb:fn.body.isNone=true)(hn:Extern.findNext fn=R)(he:Extern.find fn=u e){l:List D}(H:hw P (e l.toArray) K h):H4 P T (.func (.func f) #[] #[]) l K h:=by
 have h1:fn.name ≠ "runtime.NumGoroutine" := by simpa using ZjN
 have h2:fn.body=R:=by simpa using hb
 have hg:¬goes P f=true:=by unfold goes;rw[hf];simp[h2]
 show if goes P f=true then Zd P T f (([]:List D)++l++[]).toArray h K else hw P (callFunc f (([]:List D)++l++[]).toArray) (Jt P T K) h
 rw[if_neg hg,a5,a4];unfold callFunc;rw[Zm];simp only[program,hw,hf];rw[if_neg (by simpa using h1),if_pos (by rw[h2];rfl),Zm];simp only[mark,hw,hn,he];rw[Zm];exact H
end
theorem gn{P:Program}{L:List Char}{x:Bool × List Char}(h:P.initOrder=String.ofList L)(h2:(match wordsSigns L with|h :: s :: _=>if !isSumSigns s then R else if h == "harness".toList then u (true,s) else if h == "ownmain".toList then u (false,s) else R|_=>R)=u x):P.mainIs=u x:=by
 unfold Program.mainIs;rw[h,String.toList_ofList];exact h2
end Go.V
