/- Part W21. -/
import Derived.Test.YtkhkmpfenaipaaaGreatDoorW19
open Go.Value renaming slice→d,int→M
open Go.IntKind renaming i64→y
open Go.Obj renaming cells→S
open List renaming length→j,toArray→G,eq_nil_of_length_eq_zero→O,getElem?_cons_zero→W,getElem?_cons_succ→X,getElem?_toArray→Z,nil_append→ax
open Nat renaming mul_le_mul_right→J,mul_le_mul_left→aa,le_trans→al,sub_mul→am,le_refl→aw
open Option renaming some→w,none→N
open Array renaming setIfInBounds→R,length_toList→ae
open Go.Builtin renaming zeroCells→D,append_→Y,copy_→ak
open Go renaming Value→A,TypeId→U
namespace Go.V
set_option linter.all false
section
variable {P:Program} {T:World} {K:A->Hp->Prop} {F:Env} {h:Hp} {ty:U}
theorem aG{C x E B n m k bytes:Nat}{v:A}{cs zs:List A}{cb:Array Bool}(r:Un P C=w E)(an:P.underlying x=w (.int y))(hn:tn P E=w n)(hz:tz P E=w zs)(kZ:(j zs)=n)(jX:n≠0)(Mg:tb P E=w bytes)(Zn:QU B E n h v m cs)(hB:B<=h.size)(JD:(D (G zs) k).toList.all YV=true)(Xq:(m+k)*bytes<=140737488355328)(Ck:1<=bytes)(H:∀I h',QU B E n h' I (m+k) (cs++(D (G zs) k).toList)->SK (Yq v) h h'->(∀p cap,v=d p m cap->cap<m+k->Zm h.size h h'/\∃c,I=d (w ⟨h.size,0,N⟩) (m+k) c)->K I h'):OV P T .append #[C,x] ty cb [v,M y (k:Nat)] K h:=by
 have a0:k*bytes<=140737488355328:=al (J _ uh) Xq;have a8:k<=140737488355328:=al (by have:=aa k Ck;omega) a0;have dj:(D (G zs) k).toList.length=k*n:=by rw[ae,XW];simp[kZ]
 let⟨news,fh⟩:=ZO ((D (G zs) k).toList);rw[<-fh]at JD dj H;unfold Un at r;split at r
 .rename_i l hu;simp only[Option.some.injEq]at r;subst r;show hw P (do pure (.value (<-Y #[C,x] ty #[v,M y (k:Nat)]))) (JX P T K) h;rw[Zk];show hw P (Y #[C,x] ty #[v,M y (k:Nat)]) K h;obtain⟨f,s⟩:∃i,P.info? l=w i:=by
   unfold tn at hn
   cases hi:P.info? l with
   | none=>grind
   | some i=>grind
  have HJ:f.bytes=bytes:=by unfold tb at Mg;rw[s]at Mg;simpa using Mg
  obtain⟨u,Bt,lj⟩:∃z,f.zero=w z/\z.cells.toList=zs:=by
   unfold tz at hz;rw[s]at hz
   cases a7:f.zero with
   | none=>grind
   | some z=>grind
  have a4:u.cells=(G zs):=by rw[<-lj]
  have V:∃base cap,v=d base m cap:=by
   rcases Zn with⟨⟨p,rfl⟩,rfl,_⟩|⟨b,cap,sp,_,rfl,_⟩
   .grind
   .grind
  let⟨base,cap,hv⟩:=V;subst hv;have uX:∀{Q:A->Hp->Prop} (g:Hp),hw P (zeroValue l) Q g=Q u g:=fun {Q} g=>by
   unfold zeroValue;rw[Zk,Jp s];simp only[Bt];rfl
  have a6:IntKind.i64.wrap ((k:Nat):Int)=(k:Nat):=RX y k (by show k<2 ^ 63;omega);have Li:∀{Q:Int->Hp->Prop} (g:Hp),hw P (asInt (M y (k:Nat))) Q g=Q (k:Nat) g:=fun {Q} g=>by
   rfl
  have a3:¬((k:Nat):Int)<0:=uh;have a2:¬((k:Nat):Int)*(f.bytes:Nat)>2 ^ 48:=by
   rw[HJ,<-Int.natCast_mul];have:k*bytes<=2 ^ 48:=uh;have h2:((k*bytes:Nat):Int)<=2 ^ 48:=by exact_mod_cast this
   omega
  simp only[Y,Z,W,X,Zk,ZS,ZL hu,ZL an,run_sizeOf hn,if_true,Li,a6,if_neg a3,Jp s,if_neg a2,Int.toNat_natCast,Bool.not_true,Bool.false_eq_true,if_false];have o:∀{Q:Array A->Hp->Prop} (g:Hp),Q (G news) g->hw P (if k*n=0 then pure #[] else do pure (D (<-zeroValue l).cells k)) Q g:=fun {Q} g q=>by
   by_cases h0:k*n=0
   .rw[if_pos h0];have:k=0:=by
     rcases Nat.mul_eq_zero.1 h0 with h|h
     .exact h
     .grind
    subst this;have e:news=[]:=O zK;rw[e]at q;exact q
   .rw[if_neg h0,Zk,uX,a4];rw[fh,Array.toArray_toList]at q;exact q
  by_cases WE:m+k<=cap
  .rw[if_pos WE,Zk];refine o _ ?_;by_cases XU:news=[]
   .rw[XU];rw[XU]at dj H;have hK:K (d base (m+k) cap) h:=by
     refine H _ _ ?_ SK.refl (fun p' Ef e hc=>by grind);rcases Zn with⟨⟨p,a⟩,h2,h3⟩|⟨b,Ef,ZT,ao,a,hb,hl,Bu,zE⟩
     .grind [QU]
     .grind [QU,am]
    cases base<;>exact hK
   rcases Zn with⟨⟨p,a⟩,h2,h3⟩|⟨b,Ef,ZT,ao,a,hb,hl,Bu,zE⟩
   .simp only[Value.slice.injEq]at a;obtain⟨rfl,rfl,rfl⟩:=a;have hk:k=0:=uh;subst hk;exact (XU (O zK)).elim
   .simp only[Value.slice.injEq]at a;obtain⟨rfl,_,rfl⟩:=a;simp only[Zk,X9];have aq:(j news)<=(j ZT):=by rw[dj,Bu];exact J _ uh
    refine Xf (e:=l) (lo:=0) (hi:=0) rfl (aw _) news 0 h (cs++ZT).toArray hb ?_ JD ?_
    .grind
    .simp only[ZS,Nat.zero_add,Nat.add_zero];refine H _ _ (.inr ⟨b,cap,ZT.drop (j news),ao,rfl,?_,?_,?_,WE⟩) ⟨zX,fun b' QW hx=>?_⟩ (fun p' Ef e hc=>by grind)
     .grind [TV,Wn]
     .grind
     .grind [am]
     grind [Yq]
  .rw[if_neg WE];have WF:¬Builtin.nextslicecap (m+k) cap*f.bytes>2 ^ 48:=by
    rw[HJ];have:=TW (m+k) cap bytes uh Xq;omega
   have lq:¬f.bytes=0:=by rw[HJ];omega
   have lL:m+k<=140737488355328:=al (by have:=aa (m+k) Ck;omega) Xq;have a5:¬((m+k:Nat):Int)>IntKind.i64.max:=by
    have:IntKind.i64.max=9223372036854775807:=rfl;rw[this];omega
   simp only[Zk,Jp s,a5,false_and,if_false,if_neg WF];intro t;let⟨c,hc⟩:=ZO (Question.cut (Question.appendCap (m+k) cap l) t);have a1:m+k<=c:=by rw[hc];simp only[Question.cut];omega
   rw[<-hc];have Li:∀{Q:Unit->Hp->Prop} (b:Nat) (g:Hp),Q () g->hw P (askRoom b) Q g:=fun {Q} b g q=>by
    unfold askRoom;split<;>exact q
   refine Li _ _ (YW Zn.sl (o _ ?_));rw[uX];have L:u.cells.size=n:=by rw[<-kZ,<-lj];simp
   refine H (d (w ⟨h.size,0,N⟩) (m+k) c) _ (.inr ⟨h.size,c,(D u.cells (c-(m+k))).toList,hB,rfl,?_,?_,?_,a1⟩) (SK.push _) (fun _ _ _ _=>⟨Zm.push (aw _) _,c,rfl⟩)
   .rw[Array.getElem?_push_size];simp
   .have Ri:(j cs)=m*n:=by let⟨_,_,_,hl,_⟩:=Zn.sl;exact hl
    grind
   .rw[ae,XW,L]
 .cases r
end
section
variable {h h':Hp}
theorem QU.MF{B:Nat}{E:U}{n:Nat}{p:Option Addr}{k c:Nat}{cs:List A}(s:QU B E n h (d p k c) k cs){m:Nat}(f:m<=k):QU B E n h (d p m c) m (cs.take (m*n)):=by
 rcases s with⟨⟨q,a⟩,u,t⟩|⟨b,cap,ZT,l,a,g,r,o,hc⟩
 .grind [QU]
 .simp only[Value.slice.injEq]at a;obtain⟨rfl,_,rfl⟩:=a;have e:m*n<=k*n:=J _ f;have i:k*n<=c*n:=J _ hc;refine .inr ⟨b,c,cs.drop (m*n)++ZT,l,rfl,?_,?_,?_,uh⟩
  .rw[<-List.append_assoc,List.take_append_drop];exact g
  .grind
  grind [am]
theorem TJ{b:Nat}{E:U}{n m c:Nat}{pre cs post:List A}(f:h[b]? = w (S (pre++(cs++post)).toArray E))(a:(j cs)=m*n){o:Nat}(e:o=(j pre)):Sl n h (d (w ⟨b,o,N⟩) m c) m cs:=by
 refine⟨_,c,rfl,a,fun _=>⟨b,o,rfl,fun i hi=>?_⟩⟩
 grind [hc]
theorem SO{a b c vs:List A}{o:Nat}(f:o=(j a))(e:(j vs)=(j b)):XB (a++(b++c)) o vs=a++(vs++c):=by
 subst f;rw[TV,Wn _ _ (by grind),e,List.drop_append,List.drop_length,Nat.sub_self,List.drop_zero,ax]
theorem QU.ZT{B:Nat}{E:U}{n:Nat}{p:Option Addr}{k c:Nat}{cs:List A}(s:QU B E n h (d p k c) k cs)(a:c≠0):∃b ZT,B<=b/\p=w ⟨b,0,N⟩/\h[b]? = w (S (cs++ZT).toArray E)/\(j cs)=k*n/\(j ZT)=(c-k)*n/\k<=c:=by
 grind [QU]
theorem QU.lT{B b:Nat}{E:U}{n k c:Nat}{cs ZT:List A}(g:B<=b)(f:h[b]? = w (S (cs++ZT).toArray E))(e:(j cs)=k*n)(a:(j ZT)=(c-k)*n)(hc:k<=c):QU B E n h (d (w ⟨b,0,N⟩) k c) k cs:=
 .inr ⟨b,c,ZT,g,rfl,f,e,a,hc⟩
theorem Yp{b:Nat}{o a:Obj}(hb:h[b]? = w a):(R h b o)[b]? = w o:=by
 grind
theorem Xt{b a:Nat}{o:Obj}(hb:b≠a):(R h b o)[a]? = h[a]?:=by
 grind
variable {P:Program} {T:World} {K:A->Hp->Prop} {ty:U}
@[go_sem] theorem Zse{cs:Array Bool}{t:U}{p:Option Addr}{l c:Nat}(a:(Un P t).isSome=true):OV P T .cap #[t] ty cs [d p l c] K h=K (M y c) h:=by
 unfold Un at a;split at a
 .rename_i e b;show hw P (do pure (.value (<-Builtin.cap_ #[t] ty #[d p l c]))) (JX P T K) h=_;rw[Zk];show hw P (do
   match <-underlying t,(Value.slice p l c) with
   | .array n _,_=>pure (goInt n)
   | .pointer arr,_=>
    let .array n _ <-underlying arr|stuck "cap: pointer to array expected"
    pure (goInt n)
   | .slice _,d _ _ n=>pure (goInt n)
   | .chan _ _,.chan N=>pure (goInt 0)
   | .chan _ _,.chan (w r)=>
    let .chan n _ _ _ _ timer <-getObj r|stuck "cap: channel expected"
    pure (goInt (if timer then 0 else n))
   | _,_=>stuck "cap: array, pointer to array, slice or channel expected") K h=_
  rw[Zk,ZL b];rfl
 .cases a
theorem vr{g i E E' b o dl dc k n:Nat}{c news:List A}{cb:Array Bool}{s:A}(f:Un P g=w E)(v:tn P E=w n)(hb:h[b]? = w (S (G c) E' (0,0)))(src:Sl n h s k news)(t:(news.take (min k dl*n)).all YV=true)(B:o+min k dl*n<=(j c))(H:K (M y ((min k dl:Nat):Int)) (R h b (S (XB c o (news.take (min k dl*n))).toArray E' (0,0)))):
  OV P T .copy #[g,i] ty cb [d (w ⟨b,o,N⟩) dl dc,s] K h:=by
 unfold Un at f;split at f
 .rename_i C u;simp only[Option.some.injEq]at f;subst f;show hw P (do pure (.value (<-ak #[g,i] ty #[d (w ⟨b,o,N⟩) dl dc,s])) ) (JX P T K) h;rw[Zk];show hw P (ak #[g,i] ty #[d (w ⟨b,o,N⟩) dl dc,s]) K h;simp only[ak,Z,W,X,Zk,ZS,ZL u,run_sizeOf v,src.lenOf];have hlen:(j news)=k*n:=by let⟨_,_,_,q,_⟩:=src;simpa using q
  obtain⟨p,cap,rfl,q,hc⟩:=src;have z:Nat.min k dl=min k dl:=rfl;rw[z];let⟨m,l⟩:=ZO (min k dl);rw[<-l]at B t H ⊢;have r:m<=k:=uh;have x:m*n<=k*n:=J _ r;rw[T3 (k':=m) (c':=cap)];refine YW (Sl.ZiR ⟨p,cap,rfl,q,hc⟩ r cap) ?_;refine Xf (a:=⟨b,o,N⟩) (e:=E') (lo:=0) (hi:=0) rfl (aw _) (news.take (m*n)) 0 h (G c) hb ?_ ?_ ?_
  .simp;omega
  .exact t
  .simp only[ZS,Nat.add_zero];exact H
 .cases f
theorem aJ{f:FuncId}{fn:Func}{e:Array A->Sem A}(b:P.funcs[f]? = w fn)(a:(fn.name == "runtime.NumGoroutine")=false)(hb:fn.body.isNone=true)(g:Extern.findNext fn=N)(k:Extern.find fn=w e){l:List A}(H:hw P (e (G l)) K h):FY P T (.func (.func f) #[] #[]) l K h:=by
 have m:fn.name ≠ "runtime.NumGoroutine" := by simpa using a
 have c:fn.body=N:=by simpa using hb
 have i:¬goes P f=true:=by unfold goes;rw[b];simp[c]
 show if goes P f=true then Zg P T f (([]:List A)++l++[]).toArray h K else hw P (callFunc f (([]:List A)++l++[]).toArray) (JX P T K) h
 rw[if_neg i,ax,List.append_nil];unfold callFunc;rw[Zk];simp only[program,hw,b];rw[if_neg zK,if_pos (by rw[c];rfl),Zk];simp only[mark,hw,g,k];rw[Zk];exact H
end
theorem lU{P:Program}{L:List Char}{x:Bool × List Char}(h:P.initOrder=String.ofList L)(a:(match wordsSigns L with|h :: s :: _=>if !isSumSigns s then N else if h == "harness".toList then w (true,s) else if h == "ownmain".toList then w (false,s) else N|_=>N)=w x):P.mainIs=w x:=by
 unfold Program.mainIs;rw[h,String.toList_ofList];exact a
end Go.V
