/- Part W12. -/
import Derived.Test.YthlfaofofaphfaaGreatDoorW11
open Go.Value renaming slice→u
open List renaming length→d,eq_nil_of_length_eq_zero→o,length_append→G
open Nat renaming add_mul→D,sub_mul→L,le_refl→M,add_zero→N
open Option renaming bind_some→J,some→j
open Array renaming getElem?_setIfInBounds→r
open Go.Builtin renaming append_→A
open Go renaming Value→y
namespace Go.V
set_option linter.unusedVariables false
set_option linter.unusedSimpArgs false
section
variable {P:Program} {T:World} {K:y->Hp->Prop} {F:Env} {h:Hp} {ty:TypeId}
theorem Ic{sT xT E E' B n m k bytes:Nat}{v s:y}{cs news zs:List y}{cb:Array Bool}(VI:QR P sT=j E)(Co:P.underlying xT=j (.slice E'))(hn:tn P E=j n)(hz:tz P E=j zs)(fR:(d zs)=n)(OC:tb P E=j bytes)(Zq:UE B E n h v m cs)(hB:B<=h.size)(src:Sl n h s k news)(XV:news.all YC=true)(Y7:(m+k)*bytes<=140737488355328)(Gf:1<=bytes)(H:∀v' h',UE B E n h' v' (m+k) (cs++news)->Rt (Yf v) h h'->(∀b,Yf v'=j b->Yf v=j b\/h.size<=b)->K v' h'):Pm P T .append #[sT,xT] ty cb [v,s] K h:=by
 unfold QR at VI;split at VI
 .rename_i e' hu;simp only[Option.some.injEq]at VI;subst VI;show hw P (do pure (.value (<-A #[sT,xT] ty #[v,s]))) (Jt P T K) h;rw[Zm];show hw P (A #[sT,xT] ty #[v,s]) K h;obtain⟨i0,Pg⟩:∃i,P.info? e'=j i:=by
   unfold tn at hn
   cases hi:P.info? e' with
   | none=>rw[hi]at hn;cases hn
   | some i=>exact⟨i,rfl⟩
  have NH:i0.bytes=bytes:=by unfold tb at OC;rw[Pg]at OC;simpa using OC
  obtain⟨z0,BV,fS⟩:∃z,i0.zero=j z/\z.cells.toList=zs:=by
   unfold tz at hz;rw[Pg]at hz
   cases Hv:i0.zero with
   | none=>rw[J,Hv]at hz;cases hz
   | some z=>rw[J,Hv]at hz;exact⟨z,rfl,by simpa using hz⟩
  have hvs:∃base cap,v=u base m cap:=by
   rcases Zq with⟨⟨p,rfl⟩,rfl,_⟩|⟨b,cap,sp,_,rfl,_⟩
   .exact⟨_,_,rfl⟩
   .exact⟨_,_,rfl⟩
  obtain⟨base,cap,hv⟩:=hvs;subst hv;have ov:∀{Q:y->Hp->Prop} (g:Hp),hw P (zeroValue e') Q g=Q z0 g:=fun {Q} g=>by
   unfold zeroValue;rw[Zm,XZ Pg];simp only[BV];rfl
  simp only[A,List.getElem?_toArray,List.getElem?_cons_zero,List.getElem?_cons_succ,Zm,ZN,ZH hu,ZH Co,run_sizeOf hn,Bool.false_eq_true,if_false,src.lenOf,Bool.not_false,if_true];by_cases Qg:m+k<=cap
  .rw[if_pos Qg,Zm];refine YA src ?_;have VJ:(d news)=k*n:=by obtain⟨_,_,_,hl,_⟩:=src;exact hl
   by_cases Y4:news=[]
   .subst Y4;have vA:hw P (match base with|some a=>(do storeCells (a.add (m*n)) [];pure (Value.slice base (m+k) cap))|none=>pure (Value.slice base (m+k) cap)) K h=K (u base (m+k) cap) h:=by
     cases base<;>rfl
    have hK:K (u base (m+k) cap) h:=by
     refine H _ _ ?_ Rt.refl (fun b hb=>.inl (by
      cases base with
      | none=>simp[Yf]at hb
      | some a=>simpa [Yf] using hb))
     rcases Zq with⟨⟨p,h1⟩,h2,h3⟩|⟨b,Gg,ZG,Hx,h1,hb,hl,Ni,tC⟩
     .simp only[Value.slice.injEq]at h1;obtain⟨rfl,rfl,rfl⟩:=h1;have hk:k=0:=nc;subst hk;subst h3;exact .inl ⟨⟨_,rfl⟩,rfl,rfl⟩
     .simp only[Value.slice.injEq]at h1;obtain⟨rfl,_,rfl⟩:=h1;have tD:k*n=0:=by simpa using VJ.symm
      refine .inr ⟨b,cap,ZG,Hx,rfl,by simpa using hb,by rw[List.append_nil,hl,D,tD];rfl,?_,Qg⟩;rw[Ni,L,L,D,tD,N]
    cases base<;>exact hK
   rcases Zq with⟨⟨p,h1⟩,h2,h3⟩|⟨b,Gg,ZG,Hx,h1,hb,hl,Ni,tC⟩
   .simp only[Value.slice.injEq]at h1;obtain⟨rfl,rfl,rfl⟩:=h1;have hk:k=0:=nc;subst hk;exact (Y4 (o (by simpa using VJ))).elim
   .simp only[Value.slice.injEq]at h1;obtain⟨rfl,_,rfl⟩:=h1;simp only[Zm,XJ];have Rv:(d news)<=(d ZG):=by rw[VJ,Ni];exact Nat.mul_le_mul_right _ nc
    refine YV (e:=e') (lo:=0) (hi:=0) rfl (M _) news 0 h (cs++ZG).toArray hb ?_ XV ?_
    .simp;rw[<-hl];omega
    .simp only[ZN,Nat.zero_add,N];refine H _ _ (.inr ⟨b,cap,ZG.drop (d news),Hx,rfl,?_,?_,?_,Qg⟩) ⟨Hg,fun b' Qa hx=>?_⟩ (fun b' Qa=>.inl (by simpa [Yf] using Qa))
     .rw[r,if_pos rfl,if_pos (Za hb)];rw[<-hl,Tb,UM _ _ Rv,List.append_assoc]
     .rw[G,hl,VJ,D]
     .rw[List.length_drop,Ni,VJ,<-L];congr 1;omega
     .rw[r,if_neg];intro e;subst e;have hcz:cap≠0:=by
       intro h0;subst h0;have:k=0:=nc;subst this;exact Y4 (o (by simpa using VJ))
      exact hx (by simp[Yf,hcz])
  .rw[if_neg Qg];have W0:¬Builtin.nextslicecap (m+k) cap*i0.bytes>2 ^ 48:=by
    rw[NH];have:=Tc (m+k) cap bytes nc Y7;omega
   have fU:¬i0.bytes=0:=by rw[NH];omega
   simp only[Zm,XZ Pg,fU,or_false,and_false,if_false,if_neg W0];intro t;obtain⟨c,hc⟩:=ZQ (Question.cut (Question.appendCap (m+k) cap e') t);have vB:m+k<=c:=by rw[hc];simp only[Question.cut];omega
   rw[<-hc];have SK:∀{Q:Unit->Hp->Prop} (b:Nat) (g:Hp),Q () g->hw P (askRoom b) Q g:=fun {Q} b g q=>by
    unfold askRoom;split<;>exact q
   refine SK _ _ (YA Zq.sl (YA src ?_));rw[ov];have vC:z0.cells.size=n:=by rw[<-fR,<-fS];simp
   refine H (u (j ⟨h.size,0,none⟩) (m+k) c) _ (.inr ⟨h.size,c,(Builtin.zeroCells z0.cells (c-(m+k))).toList,hB,rfl,?_,?_,?_,vB⟩) (Rt.push _) (fun b' Qa=>.inr (by simp only[Yf]at Qa;split at Qa;cases Qa;rw[<-Option.some.inj Qa];exact M _))
   .rw[Array.getElem?_push_size];simp
   .have VJ:(d news)=k*n:=by obtain⟨_,_,_,hl,_⟩:=src;exact hl
    have JZ:(d cs)=m*n:=by obtain⟨_,_,_,hl,_⟩:=Zq.sl;exact hl
    rw[G,JZ,VJ,D]
   .rw[Array.length_toList,Xn,vC]
 .cases VI
theorem Uu{sT xT E E' B:Nat}{v s:y}{l k:List Nat}{z:y}{cb:Array Bool}(VI:QR P sT=j E)(Co:P.underlying xT=j (.slice E'))(hn:tn P E=j 1)(hz:tz P E=j [z])(OC:tb P E=j 1)(Zq:Yx B E h v l)(hB:B<=h.size)(src:Bs h s k)(Y7:(d l)+(d k)<=140737488355328)(H:∀v' h',Yx B E h' v' (l++k)->Zk B h h'->Rt (Yf v) h h'->(∀b,Yf v'=j b->Yf v=j b\/h.size<=b)->K v' h'):Pm P T .append #[sT,xT] ty cb [v,s] K h:=by
 refine Ic VI Co hn hz rfl OC Zq.Zq hB src.sl (Rw k) nc (M _) ?_;intro v' h' ho hb vK;refine H v' h' ⟨by simpa using ho,fun x hx=>?_⟩ (hb.Yy hB Zq.Zq.ZX) hb vK;rcases List.mem_append.1 hx with hx|hx
 .exact Zq.byte x hx
 .exact src.byte x hx
theorem UE.lt{B:Nat}{E:TypeId}{n:Nat}{h:Hp}{v:y}{m:Nat}{cs:List y}(s:UE B E n h v m cs):∀b,Yf v=j b->b<h.size:=by
 intro b hb;rcases s with⟨⟨p,rfl⟩,_,_⟩|⟨b',cap,ZG,_,rfl,hx,_⟩
 .cases p<;>simp[Yf]at hb
 .simp only[Yf]at hb;split at hb
  .cases hb
  .rw[<-Option.some.inj hb];exact Za hx
theorem Yx.kI{B:Nat}{E:TypeId}{h h':Hp}{v:y}{l:List Nat}(s:Yx B E h v l){x:Option Nat}(a:Rt x h h')(hx:∀b,Yf v=j b->x≠j b):Yx B E h' v l:=⟨s.Zq.kI a hx,s.byte⟩
end
end Go.V
