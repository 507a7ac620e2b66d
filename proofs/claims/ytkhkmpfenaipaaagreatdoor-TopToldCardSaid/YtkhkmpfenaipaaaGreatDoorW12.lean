/- Part W12. -/
import Derived.Test.YtkhkmpfenaipaaaGreatDoorW11
open Go.Value renaming slice→w
open List renaming length→d,eq_nil_of_length_eq_zero→o
open Nat renaming sub_mul→D,le_refl→G
open Option renaming some→j
open Go.Builtin renaming append_→A
open Go renaming Value→y
namespace Go.V
set_option linter.all false
section
variable {P:Program} {T:World} {K:y->Hp->Prop} {F:Env} {h:Hp} {ty:TypeId}
theorem HM{I C E E' B n m k bytes:Nat}{v s:y}{cs news zs:List y}{cb:Array Bool}(x:Un P I=j E)(an:P.underlying C=j (.slice E'))(Z:tn P E=j n)(Y:tz P E=j zs)(kZ:(d zs)=n)(X:tb P E=j bytes)(Zn:QU B E n h v m cs)(hB:B<=h.size)(src:Sl n h s k news)(JD:news.all YV=true)(Xq:(m+k)*bytes<=140737488355328)(Ck:1<=bytes)(H:∀M h',QU B E n h' M (m+k) (cs++news)->SK (Yq v) h h'->(∀b,Yq M=j b->Yq v=j b\/h.size<=b)->K M h'):OV P T .append #[I,C] ty cb [v,s] K h:=by
 unfold Un at x;split at x
 .rename_i u hu;simp only[Option.some.injEq]at x;subst x;show hw P (do pure (.value (<-A #[I,C] ty #[v,s]))) (JX P T K) h;rw[Zk];show hw P (A #[I,C] ty #[v,s]) K h;obtain⟨r,J⟩:∃i,P.info? u=j i:=by
   unfold tn at Z
   cases hi:P.info? u with
   | none=>grind
   | some i=>grind
  have HJ:r.bytes=bytes:=by unfold tb at X;rw[J]at X;simpa using X
  obtain⟨L,Bt,lj⟩:∃z,r.zero=j z/\z.cells.toList=zs:=by
   unfold tz at Y;rw[J]at Y
   cases a0:r.zero with
   | none=>grind
   | some z=>grind
  have O:∃base cap,v=w base m cap:=by
   rcases Zn with⟨⟨p,rfl⟩,rfl,_⟩|⟨b,cap,sp,_,rfl,_⟩
   .grind
   .grind
  let⟨base,cap,hv⟩:=O;subst hv;have uX:∀{Q:y->Hp->Prop} (g:Hp),hw P (zeroValue u) Q g=Q L g:=fun {Q} g=>by
   unfold zeroValue;rw[Zk,Jp J];simp only[Bt];rfl
  simp only[A,List.getElem?_toArray,List.getElem?_cons_zero,List.getElem?_cons_succ,Zk,ZS,ZL hu,ZL an,run_sizeOf Z,Bool.false_eq_true,if_false,src.lenOf,Bool.not_false,if_true];by_cases V:m+k<=cap
  .rw[if_pos V,Zk];refine YW src ?_;have dj:(d news)=k*n:=by let⟨_,_,_,f,_⟩:=src;exact f
   by_cases U:news=[]
   .subst U;have a1:hw P (match base with|some a=>(do storeCells (a.add (m*n)) [];pure (Value.slice base (m+k) cap))|none=>pure (Value.slice base (m+k) cap)) K h=K (w base (m+k) cap) h:=by
     cases base<;>rfl
    have hK:K (w base (m+k) cap) h:=by
     refine H _ _ ?_ SK.refl (fun b hb=>.inl (by
      grind [Yq,QU]))
     rcases Zn with⟨⟨p,l⟩,h2,h3⟩|⟨b,Ef,ZT,ao,l,hb,f,Bu,zE⟩
     .grind [QU]
     .grind [QU,D]
    cases base<;>exact hK
   rcases Zn with⟨⟨p,l⟩,h2,h3⟩|⟨b,Ef,ZT,ao,l,hb,f,Bu,zE⟩
   .simp only[Value.slice.injEq]at l;obtain⟨rfl,rfl,rfl⟩:=l;have hk:k=0:=uh;subst hk;exact (U (o zK)).elim
   .simp only[Value.slice.injEq]at l;obtain⟨rfl,_,rfl⟩:=l;simp only[Zk,X9];have aq:(d news)<=(d ZT):=by rw[dj,Bu];exact Nat.mul_le_mul_right _ uh
    refine Xf (e:=u) (lo:=0) (hi:=0) rfl (G _) news 0 h (cs++ZT).toArray hb ?_ JD ?_
    .grind
    .simp only[ZS,Nat.zero_add,Nat.add_zero];refine H _ _ (.inr ⟨b,cap,ZT.drop (d news),ao,rfl,?_,?_,?_,V⟩) ⟨zX,fun b' W hx=>?_⟩ (fun b' W=>.inl (by simpa [Yq] using W))
     .grind [TV,Wn]
     .grind
     .grind [D]
     .rw[Array.getElem?_setIfInBounds,if_neg];intro e;subst e;have R:cap≠0:=by
       intro h0;subst h0;have:k=0:=uh;subst this;exact U (o zK)
      exact hx (by simp[Yq,R])
  .rw[if_neg V];have WF:¬Builtin.nextslicecap (m+k) cap*r.bytes>2 ^ 48:=by
    rw[HJ];have:=TW (m+k) cap bytes uh Xq;omega
   have lq:¬r.bytes=0:=by rw[HJ];omega
   simp only[Zk,Jp J,lq,or_false,and_false,if_false,if_neg WF];intro t;let⟨c,hc⟩:=ZO (Question.cut (Question.appendCap (m+k) cap u) t);have S:m+k<=c:=by rw[hc];simp only[Question.cut];omega
   rw[<-hc];have Li:∀{Q:Unit->Hp->Prop} (b:Nat) (g:Hp),Q () g->hw P (askRoom b) Q g:=fun {Q} b g q=>by
    unfold askRoom;split<;>exact q
   refine Li _ _ (YW Zn.sl (YW src ?_));rw[uX];have N:L.cells.size=n:=by rw[<-kZ,<-lj];simp
   refine H (w (j ⟨h.size,0,none⟩) (m+k) c) _ (.inr ⟨h.size,c,(Builtin.zeroCells L.cells (c-(m+k))).toList,hB,rfl,?_,?_,?_,S⟩) (SK.push _) (fun b' W=>.inr (by grind [Yq]))
   .rw[Array.getElem?_push_size];simp
   .have dj:(d news)=k*n:=by let⟨_,_,_,f,_⟩:=src;exact f
    have Ri:(d cs)=m*n:=by let⟨_,_,_,f,_⟩:=Zn.sl;exact f
    grind
   .rw[Array.length_toList,XW,N]
 .cases x
theorem U8{g f E E' B:Nat}{v s:y}{l k:List Nat}{z:y}{cb:Array Bool}(p:Un P g=j E)(an:P.underlying f=j (.slice E'))(n:tn P E=j 1)(m:tz P E=j [z])(q:tb P E=j 1)(Zn:YL B E h v l)(i:B<=h.size)(src:Bs h s k)(t:(d l)+(d k)<=140737488355328)(H:∀a h',YL B E h' a (l++k)->Zm B h h'->SK (Yq v) h h'->(∀b,Yq a=j b->Yq v=j b\/h.size<=b)->K a h'):OV P T .append #[g,f] ty cb [v,s] K h:=by
 refine HM p an n m rfl q Zn.Zn i src.sl (Oe k) uh (G _) ?_;intro a h' r hb e;refine H a h' ⟨zK,fun x c=>?_⟩ (hb.YQ i Zn.Zn.Yb) hb e;rcases List.mem_append.1 c with c|c
 .exact Zn.byte x c
 .exact src.byte x c
theorem QU.lt{B:Nat}{E:TypeId}{n:Nat}{h:Hp}{v:y}{m:Nat}{cs:List y}(s:QU B E n h v m cs):∀b,Yq v=j b->b<h.size:=by
 intro b hb;rcases s with⟨⟨p,rfl⟩,_,_⟩|⟨c,cap,ZT,_,rfl,a,_⟩
 .cases p<;>simp[Yq]at hb
 grind [Yq]
theorem YL.kY{B:Nat}{E:TypeId}{h h':Hp}{v:y}{l:List Nat}(s:YL B E h v l){x:Option Nat}(a:SK x h h')(c:∀b,Yq v=j b->x≠j b):YL B E h' v l:=⟨s.Zn.kY a c,s.byte⟩
end
end Go.V
