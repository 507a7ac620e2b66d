/- Part W12. -/
import Derived.Test.YthlfaofofaphfaaGreatDoorW11
open Go.Value renaming slice→u
open List renaming length→d,eq_nil_of_length_eq_zero→o,length_append→G
open Nat renaming add_mul→D,sub_mul→L,le_refl→M,add_zero→N
open Option renaming bind_some→J,some→j
open Array renaming getElem?_setIfInBounds→r
open Go.Builtin renaming append_→A
open Go renaming Value→y
namespace Go.V
set_option linter.unusedVariables false
set_option linter.unusedSimpArgs false
section
variable {P:Program} {T:World} {K:y->Hp->Prop} {F:Env} {h:Hp} {ty:TypeId}
theorem IJ{sT xT E E' B n m k bytes:Nat}{v s:y}{cs news zs:List y}{cb:Array Bool}(VV:QY P sT=j E)(Bc:P.underlying xT=j (.slice E'))(hn:tn P E=j n)(hz:tz P E=j zs)(io:(d zs)=n)(O1:tb P E=j bytes)(Zq:UO B E n h v m cs)(hB:B<=h.size)(src:Sl n h s k news)(X3:news.all YE=true)(Xf:(m+k)*bytes<=140737488355328)(GO:1<=bytes)(H:∀v' h',UO B E n h' v' (m+k) (cs++news)->RT (Yf v) h h'->(∀b,Yf v'=j b->Yf v=j b\/h.size<=b)->K v' h'):PZ P T .append #[sT,xT] ty cb [v,s] K h:=by
 unfold QY at VV;split at VV
 .rename_i e' hu;simp only[Option.some.injEq]at VV;subst VV;show hw P (do pure (.value (<-A #[sT,xT] ty #[v,s]))) (JA P T K) h;rw[Zm];show hw P (A #[sT,xT] ty #[v,s]) K h;obtain⟨i0,PQ⟩:∃i,P.info? e'=j i:=by
   unfold tn at hn
   cases hi:P.info? e' with
   | none=>rw[hi]at hn;cases hn
   | some i=>exact⟨i,rfl⟩
  have Mn:i0.bytes=bytes:=by unfold tb at O1;rw[PQ]at O1;simpa using O1
  obtain⟨z0,AN,iq⟩:∃z,i0.zero=j z/\z.cells.toList=zs:=by
   unfold tz at hz;rw[PQ]at hz
   cases Gc:i0.zero with
   | none=>rw[J,Gc]at hz;cases hz
   | some z=>rw[J,Gc]at hz;exact⟨z,rfl,by simpa using hz⟩
  have hvs:∃base cap,v=u base m cap:=by
   rcases Zq with⟨⟨p,rfl⟩,rfl,_⟩|⟨b,cap,sp,_,rfl,_⟩
   .exact⟨_,_,rfl⟩
   .exact⟨_,_,rfl⟩
  obtain⟨base,cap,hv⟩:=hvs;subst hv;have qr:∀{Q:y->Hp->Prop} (g:Hp),hw P (zeroValue e') Q g=Q z0 g:=fun {Q} g=>by
   unfold zeroValue;rw[Zm,X8 PQ];simp only[AN];rfl
  simp only[A,List.getElem?_toArray,List.getElem?_cons_zero,List.getElem?_cons_succ,Zm,ZO,ZH hu,ZH Bc,run_sizeOf hn,Bool.false_eq_true,if_false,src.lenOf,Bool.not_false,if_true];by_cases Jx:m+k<=cap
  .rw[if_pos Jx,Zm];refine YF src ?_;have VW:(d news)=k*n:=by obtain⟨_,_,_,hl,_⟩:=src;exact hl
   by_cases Y7:news=[]
   .subst Y7;have xO:hw P (match base with|some a=>(do storeCells (a.add (m*n)) [];pure (Value.slice base (m+k) cap))|none=>pure (Value.slice base (m+k) cap)) K h=K (u base (m+k) cap) h:=by
     cases base<;>rfl
    have hK:K (u base (m+k) cap) h:=by
     refine H _ _ ?_ RT.refl (fun b hb=>.inl (by
      cases base with
      | none=>simp[Yf]at hb
      | some a=>simpa [Yf] using hb))
     rcases Zq with⟨⟨p,h1⟩,h2,h3⟩|⟨b,GP,ZG,Ge,h1,hb,hl,NV,vf⟩
     .simp only[Value.slice.injEq]at h1;obtain⟨rfl,rfl,rfl⟩:=h1;have hk:k=0:=pA;subst hk;subst h3;exact .inl ⟨⟨_,rfl⟩,rfl,rfl⟩
     .simp only[Value.slice.injEq]at h1;obtain⟨rfl,_,rfl⟩:=h1;have vg:k*n=0:=by simpa using VW.symm
      refine .inr ⟨b,cap,ZG,Ge,rfl,by simpa using hb,by rw[List.append_nil,hl,D,vg];rfl,?_,Jx⟩;rw[NV,L,L,D,vg,N]
    cases base<;>exact hK
   rcases Zq with⟨⟨p,h1⟩,h2,h3⟩|⟨b,GP,ZG,Ge,h1,hb,hl,NV,vf⟩
   .simp only[Value.slice.injEq]at h1;obtain⟨rfl,rfl,rfl⟩:=h1;have hk:k=0:=pA;subst hk;exact (Y7 (o (by simpa using VW))).elim
   .simp only[Value.slice.injEq]at h1;obtain⟨rfl,_,rfl⟩:=h1;simp only[Zm,XR];have RV:(d news)<=(d ZG):=by rw[VW,NV];exact Nat.mul_le_mul_right _ pA
    refine YZ (e:=e') (lo:=0) (hi:=0) rfl (M _) news 0 h (cs++ZG).toArray hb ?_ X3 ?_
    .simp;rw[<-hl];omega
    .simp only[ZO,Nat.zero_add,N];refine H _ _ (.inr ⟨b,cap,ZG.drop (d news),Ge,rfl,?_,?_,?_,Jx⟩) ⟨IQ,fun b' Qi hx=>?_⟩ (fun b' Qi=>.inl (by simpa [Yf] using Qi))
     .rw[r,if_pos rfl,if_pos (Za hb)];rw[<-hl,Tp,UZ _ _ RV,List.append_assoc]
     .rw[G,hl,VW,D]
     .rw[List.length_drop,NV,VW,<-L];congr 1;omega
     .rw[r,if_neg];intro e;subst e;have hcz:cap≠0:=by
       intro h0;subst h0;have:k=0:=pA;subst this;exact Y7 (o (by simpa using VW))
      exact hx (by simp[Yf,hcz])
  .rw[if_neg Jx];have Wx:¬Builtin.nextslicecap (m+k) cap*i0.bytes>2 ^ 48:=by
    rw[Mn];have:=Tq (m+k) cap bytes pA Xf;omega
   have iu:¬i0.bytes=0:=by rw[Mn];omega
   simp only[Zm,X8 PQ,iu,or_false,and_false,if_false,if_neg Wx];intro t;obtain⟨c,hc⟩:=ZL (Question.cut (Question.appendCap (m+k) cap e') t);have xP:m+k<=c:=by rw[hc];simp only[Question.cut];omega
   rw[<-hc];have T3:∀{Q:Unit->Hp->Prop} (b:Nat) (g:Hp),Q () g->hw P (askRoom b) Q g:=fun {Q} b g q=>by
    unfold askRoom;split<;>exact q
   refine T3 _ _ (YF Zq.sl (YF src ?_));rw[qr];have xQ:z0.cells.size=n:=by rw[<-io,<-iq];simp
   refine H (u (j ⟨h.size,0,none⟩) (m+k) c) _ (.inr ⟨h.size,c,(Builtin.zeroCells z0.cells (c-(m+k))).toList,hB,rfl,?_,?_,?_,xP⟩) (RT.push _) (fun b' Qi=>.inr (by simp only[Yf]at Qi;split at Qi;cases Qi;rw[<-Option.some.inj Qi];exact M _))
   .rw[Array.getElem?_push_size];simp
   .have VW:(d news)=k*n:=by obtain⟨_,_,_,hl,_⟩:=src;exact hl
    have J9:(d cs)=m*n:=by obtain⟨_,_,_,hl,_⟩:=Zq.sl;exact hl
    rw[G,J9,VW,D]
   .rw[Array.length_toList,Xs,xQ]
 .cases VV
theorem UF{sT xT E E' B:Nat}{v s:y}{l k:List Nat}{z:y}{cb:Array Bool}(VV:QY P sT=j E)(Bc:P.underlying xT=j (.slice E'))(hn:tn P E=j 1)(hz:tz P E=j [z])(O1:tb P E=j 1)(Zq:YB B E h v l)(hB:B<=h.size)(src:Bs h s k)(Xf:(d l)+(d k)<=140737488355328)(H:∀v' h',YB B E h' v' (l++k)->Zj B h h'->RT (Yf v) h h'->(∀b,Yf v'=j b->Yf v=j b\/h.size<=b)->K v' h'):PZ P T .append #[sT,xT] ty cb [v,s] K h:=by
 refine IJ VV Bc hn hz rfl O1 Zq.Zq hB src.sl (RW k) pA (M _) ?_;intro v' h' ho hb ya;refine H v' h' ⟨by simpa using ho,fun x hx=>?_⟩ (hb.Yz hB Zq.Zq.ZZ) hb ya;rcases List.mem_append.1 hx with hx|hx
 .exact Zq.byte x hx
 .exact src.byte x hx
theorem UO.lt{B:Nat}{E:TypeId}{n:Nat}{h:Hp}{v:y}{m:Nat}{cs:List y}(s:UO B E n h v m cs):∀b,Yf v=j b->b<h.size:=by
 intro b hb;rcases s with⟨⟨p,rfl⟩,_,_⟩|⟨b',cap,ZG,_,rfl,hx,_⟩
 .cases p<;>simp[Yf]at hb
 .simp only[Yf]at hb;split at hb
  .cases hb
  .rw[<-Option.some.inj hb];exact Za hx
theorem YB.mD{B:Nat}{E:TypeId}{h h':Hp}{v:y}{l:List Nat}(s:YB B E h v l){x:Option Nat}(a:RT x h h')(hx:∀b,Yf v=j b->x≠j b):YB B E h' v l:=⟨s.Zq.mD a hx,s.byte⟩
end
end Go.V
