/- Part W12. -/
import Derived.Test.YtnhfdnlcpdbjlaaGreatDoorW11
open Go.Value renaming slice→y
open List renaming length→d,eq_nil_of_length_eq_zero→o,length_append→J
open Nat renaming add_mul→G,sub_mul→M,le_refl→N,add_zero→O
open Option renaming bind_some→L,some→j
open Array renaming getElem?_setIfInBounds→w
open Go.Builtin renaming append_→D
open Go renaming Value→A
namespace Go.V
set_option linter.all false
section
variable {P:Program} {T:World} {K:A->Hp->Prop} {F:Env} {h:Hp} {ty:TypeId}
theorem KK{sT xT E E' B n m k bytes:Nat}{v s:A}{cs news zs:List A}{cb:Array Bool}(Vv:QE P sT=j E)(D5:P.underlying xT=j (.slice E'))(hn:tn P E=j n)(hz:tz P E=j zs)(fO:(d zs)=n)(OB:tb P E=j bytes)(Zr:UK B E n h v m cs)(hB:B<=h.size)(src:Sl n h s k news)(X1:news.all YN=true)(Xa:(m+k)*bytes<=140737488355328)(D6:1<=bytes)(H:∀v' h',UK B E n h' v' (m+k) (cs++news)->Rs (Ya v) h h'->(∀b,Ya v'=j b->Ya v=j b\/h.size<=b)->K v' h'):Ps P T .append #[sT,xT] ty cb [v,s] K h:=by
 unfold QE at Vv;split at Vv
 .rename_i e' hu;simp only[Option.some.injEq]at Vv;subst Vv;show hw P (do pure (.value (<-D #[sT,xT] ty #[v,s]))) (Jr P T K) h;rw[Zj];show hw P (D #[sT,xT] ty #[v,s]) K h;obtain⟨i0,Ph⟩:∃i,P.info? e'=j i:=by
   unfold tn at hn
   cases hi:P.info? e' with
   | none=>rw[hi]at hn;cases hn
   | some i=>exact⟨i,rfl⟩
  have NL:i0.bytes=bytes:=by unfold tb at OB;rw[Ph]at OB;simpa using OB
  obtain⟨z0,Bz,fP⟩:∃z,i0.zero=j z/\z.cells.toList=zs:=by
   unfold tz at hz;rw[Ph]at hz
   cases I8:i0.zero with
   | none=>rw[L,I8]at hz;cases hz
   | some z=>rw[L,I8]at hz;exact⟨z,rfl,by simpa using hz⟩
  have hvs:∃base cap,v=y base m cap:=by
   rcases Zr with⟨⟨p,rfl⟩,rfl,_⟩|⟨b,cap,sp,_,rfl,_⟩
   .exact⟨_,_,rfl⟩
   .exact⟨_,_,rfl⟩
  obtain⟨base,cap,hv⟩:=hvs;subst hv;have nz:∀{Q:A->Hp->Prop} (g:Hp),hw P (zeroValue e') Q g=Q z0 g:=fun {Q} g=>by
   unfold zeroValue;rw[Zj,X0 Ph];simp only[Bz];rfl
  simp only[D,List.getElem?_toArray,List.getElem?_cons_zero,List.getElem?_cons_succ,Zj,ZO,ZM hu,ZM D5,run_sizeOf hn,Bool.false_eq_true,if_false,src.lenOf,Bool.not_false,if_true];by_cases QG:m+k<=cap
  .rw[if_pos QG,Zj];refine YE src ?_;have VT:(d news)=k*n:=by obtain⟨_,_,_,hl,_⟩:=src;exact hl
   by_cases Xb:news=[]
   .subst Xb;have vf:hw P (match base with|some a=>(do storeCells (a.add (m*n)) [];pure (Value.slice base (m+k) cap))|none=>pure (Value.slice base (m+k) cap)) K h=K (y base (m+k) cap) h:=by
     cases base<;>rfl
    have hK:K (y base (m+k) cap) h:=by
     refine H _ _ ?_ Rs.refl (fun b hb=>.inl (by
      cases base with
      | none=>simp[Ya]at hb
      | some a=>simpa [Ya] using hb))
     rcases Zr with⟨⟨p,h1⟩,h2,h3⟩|⟨b,HP,ZE,Ha,h1,hb,hl,Nm,sO⟩
     .simp only[Value.slice.injEq]at h1;obtain⟨rfl,rfl,rfl⟩:=h1;have hk:k=0:=mD;subst hk;subst h3;exact .inl ⟨⟨_,rfl⟩,rfl,rfl⟩
     .simp only[Value.slice.injEq]at h1;obtain⟨rfl,_,rfl⟩:=h1;have dJ:k*n=0:=by simpa using VT.symm
      refine .inr ⟨b,cap,ZE,Ha,rfl,by simpa using hb,by rw[List.append_nil,hl,G,dJ];rfl,?_,QG⟩;rw[Nm,M,M,G,dJ,O]
    cases base<;>exact hK
   rcases Zr with⟨⟨p,h1⟩,h2,h3⟩|⟨b,HP,ZE,Ha,h1,hb,hl,Nm,sO⟩
   .simp only[Value.slice.injEq]at h1;obtain⟨rfl,rfl,rfl⟩:=h1;have hk:k=0:=mD;subst hk;exact (Xb (o (by simpa using VT))).elim
   .simp only[Value.slice.injEq]at h1;obtain⟨rfl,_,rfl⟩:=h1;simp only[Zj,XL];have Rt:(d news)<=(d ZE):=by rw[VT,Nm];exact Nat.mul_le_mul_right _ mD
    refine YZ (e:=e') (lo:=0) (hi:=0) rfl (N _) news 0 h (cs++ZE).toArray hb ?_ X1 ?_
    .simp;rw[<-hl];omega
    .simp only[ZO,Nat.zero_add,O];refine H _ _ (.inr ⟨b,cap,ZE.drop (d news),Ha,rfl,?_,?_,?_,QG⟩) ⟨sW,fun b' JU hx=>?_⟩ (fun b' JU=>.inl (by simpa [Ya] using JU))
     .rw[w,if_pos rfl,if_pos (Za hb)];rw[<-hl,VQ,Uy _ _ Rt,List.append_assoc]
     .rw[J,hl,VT,G]
     .rw[List.length_drop,Nm,VT,<-M];congr 1;omega
     .rw[w,if_neg];intro e;subst e;have hcz:cap≠0:=by
       intro h0;subst h0;have:k=0:=mD;subst this;exact Xb (o (by simpa using VT))
      exact hx (by simp[Ya,hcz])
  .rw[if_neg QG];have U3:¬Builtin.nextslicecap (m+k) cap*i0.bytes>2 ^ 48:=by
    rw[NL];have:=VR (m+k) cap bytes mD Xa;omega
   have fQ:¬i0.bytes=0:=by rw[NL];omega
   simp only[Zj,X0 Ph,fQ,or_false,and_false,if_false,if_neg U3];intro t;obtain⟨c,hc⟩:=ZP (Question.cut (Question.appendCap (m+k) cap e') t);have vg:m+k<=c:=by rw[hc];simp only[Question.cut];omega
   rw[<-hc];have NM:∀{Q:Unit->Hp->Prop} (b:Nat) (g:Hp),Q () g->hw P (askRoom b) Q g:=fun {Q} b g q=>by
    unfold askRoom;split<;>exact q
   refine NM _ _ (YE Zr.sl (YE src ?_));rw[nz];have vj:z0.cells.size=n:=by rw[<-fO,<-fP];simp
   refine H (y (j ⟨h.size,0,none⟩) (m+k) c) _ (.inr ⟨h.size,c,(Builtin.zeroCells z0.cells (c-(m+k))).toList,hB,rfl,?_,?_,?_,vg⟩) (Rs.push _) (fun b' JU=>.inr (by simp only[Ya]at JU;split at JU;cases JU;rw[<-Option.some.inj JU];exact N _))
   .rw[Array.getElem?_push_size];simp
   .have VT:(d news)=k*n:=by obtain⟨_,_,_,hl,_⟩:=src;exact hl
    have Vb:(d cs)=m*n:=by obtain⟨_,_,_,hl,_⟩:=Zr.sl;exact hl
    rw[J,Vb,VT,G]
   .rw[Array.length_toList,Xr,vj]
 .cases Vv
theorem Uj{sT xT E E' B:Nat}{v s:A}{l k:List Nat}{z:A}{cb:Array Bool}(Vv:QE P sT=j E)(D5:P.underlying xT=j (.slice E'))(hn:tn P E=j 1)(hz:tz P E=j [z])(OB:tb P E=j 1)(Zr:YB B E h v l)(hB:B<=h.size)(src:Bs h s k)(Xa:(d l)+(d k)<=140737488355328)(H:∀v' h',YB B E h' v' (l++k)->Zk B h h'->Rs (Ya v) h h'->(∀b,Ya v'=j b->Ya v=j b\/h.size<=b)->K v' h'):Ps P T .append #[sT,xT] ty cb [v,s] K h:=by
 refine KK Vv D5 hn hz rfl OB Zr.Zr hB src.sl (Ru k) mD (N _) ?_;intro v' h' ho hb vz;refine H v' h' ⟨by simpa using ho,fun x hx=>?_⟩ (hb.YJ hB Zr.Zr.ZZ) hb vz;rcases List.mem_append.1 hx with hx|hx
 .exact Zr.byte x hx
 .exact src.byte x hx
theorem UK.lt{B:Nat}{E:TypeId}{n:Nat}{h:Hp}{v:A}{m:Nat}{cs:List A}(s:UK B E n h v m cs):∀b,Ya v=j b->b<h.size:=by
 intro b hb;rcases s with⟨⟨p,rfl⟩,_,_⟩|⟨b',cap,ZE,_,rfl,hx,_⟩
 .cases p<;>simp[Ya]at hb
 .simp only[Ya]at hb;split at hb
  .cases hb
  .rw[<-Option.some.inj hb];exact Za hx
theorem YB.ve{B:Nat}{E:TypeId}{h h':Hp}{v:A}{l:List Nat}(s:YB B E h v l){x:Option Nat}(a:Rs x h h')(hx:∀b,Ya v=j b->x≠j b):YB B E h' v l:=⟨s.Zr.ve a hx,s.byte⟩
end
end Go.V
