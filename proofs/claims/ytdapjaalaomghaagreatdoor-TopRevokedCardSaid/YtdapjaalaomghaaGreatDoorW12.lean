/- Part W12. -/
import Derived.Test.YtdapjaalaomghaaGreatDoorW11
open Go.Value renaming slice→u
open List renaming length→d,eq_nil_of_length_eq_zero→o,length_append→G
open Nat renaming add_mul→D,sub_mul→L,le_refl→M,add_zero→N
open Option renaming bind_some→J,some→j
open Array renaming getElem?_setIfInBounds→r
open Go.Builtin renaming append_→A
open Go renaming Value→y
namespace Go.V
set_option linter.all false
section
variable {P:Program} {T:World} {K:y->Hp->Prop} {F:Env} {h:Hp} {ty:TypeId}
theorem Is{sT xT E E' B n m k bytes:Nat}{v s:y}{cs news zs:List y}{cb:Array Bool}(VR:QP P sT=j E)(CL:P.underlying xT=j (.slice E'))(hn:tn P E=j n)(hz:tz P E=j zs)(gM:(d zs)=n)(OT:tb P E=j bytes)(Zm:UK B E n h v m cs)(hB:B<=h.size)(src:Sl n h s k news)(XW:news.all YD=true)(Y5:(m+k)*bytes<=140737488355328)(Gy:1<=bytes)(H:∀v' h',UK B E n h' v' (m+k) (cs++news)->RM (Yf v) h h'->(∀b,Yf v'=j b->Yf v=j b\/h.size<=b)->K v' h'):PY P T .append #[sT,xT] ty cb [v,s] K h:=by
 unfold QP at VR;split at VR
 .rename_i e' hu;simp only[Option.some.injEq]at VR;subst VR;show hw P (do pure (.value (<-A #[sT,xT] ty #[v,s]))) (Jt P T K) h;rw[Zk];show hw P (A #[sT,xT] ty #[v,s]) K h;obtain⟨i0,PK⟩:∃i,P.info? e'=j i:=by
   unfold tn at hn
   cases hi:P.info? e' with
   | none=>rw[hi]at hn;cases hn
   | some i=>exact⟨i,rfl⟩
  have Ma:i0.bytes=bytes:=by unfold tb at OT;rw[PK]at OT;simpa using OT
  obtain⟨z0,Au,gN⟩:∃z,i0.zero=j z/\z.cells.toList=zs:=by
   unfold tz at hz;rw[PK]at hz
   cases HK:i0.zero with
   | none=>rw[J,HK]at hz;cases hz
   | some z=>rw[J,HK]at hz;exact⟨z,rfl,by simpa using hz⟩
  have hvs:∃base cap,v=u base m cap:=by
   rcases Zm with⟨⟨p,rfl⟩,rfl,_⟩|⟨b,cap,sp,_,rfl,_⟩
   .exact⟨_,_,rfl⟩
   .exact⟨_,_,rfl⟩
  obtain⟨base,cap,hv⟩:=hvs;subst hv;have py:∀{Q:y->Hp->Prop} (g:Hp),hw P (zeroValue e') Q g=Q z0 g:=fun {Q} g=>by
   unfold zeroValue;rw[Zk,X1 PK];simp only[Au];rfl
  simp only[A,List.getElem?_toArray,List.getElem?_cons_zero,List.getElem?_cons_succ,Zk,ZL,ZH hu,ZH CL,run_sizeOf hn,Bool.false_eq_true,if_false,src.lenOf,Bool.not_false,if_true];by_cases QR:m+k<=cap
  .rw[if_pos QR,Zk];refine YC src ?_;have VT:(d news)=k*n:=by obtain⟨_,_,_,hl,_⟩:=src;exact hl
   by_cases Y4:news=[]
   .subst Y4;have vZ:hw P (match base with|some a=>(do storeCells (a.add (m*n)) [];pure (Value.slice base (m+k) cap))|none=>pure (Value.slice base (m+k) cap)) K h=K (u base (m+k) cap) h:=by
     cases base<;>rfl
    have hK:K (u base (m+k) cap) h:=by
     refine H _ _ ?_ RM.refl (fun b hb=>.inl (by
      cases base with
      | none=>simp[Yf]at hb
      | some a=>simpa [Yf] using hb))
     rcases Zm with⟨⟨p,h1⟩,h2,h3⟩|⟨b,Gz,ZG,HM,h1,hb,hl,NB,ue⟩
     .simp only[Value.slice.injEq]at h1;obtain⟨rfl,rfl,rfl⟩:=h1;have hk:k=0:=nT;subst hk;subst h3;exact .inl ⟨⟨_,rfl⟩,rfl,rfl⟩
     .simp only[Value.slice.injEq]at h1;obtain⟨rfl,_,rfl⟩:=h1;have uf:k*n=0:=by simpa using VT.symm
      refine .inr ⟨b,cap,ZG,HM,rfl,by simpa using hb,by rw[List.append_nil,hl,D,uf];rfl,?_,QR⟩;rw[NB,L,L,D,uf,N]
    cases base<;>exact hK
   rcases Zm with⟨⟨p,h1⟩,h2,h3⟩|⟨b,Gz,ZG,HM,h1,hb,hl,NB,ue⟩
   .simp only[Value.slice.injEq]at h1;obtain⟨rfl,rfl,rfl⟩:=h1;have hk:k=0:=nT;subst hk;exact (Y4 (o (by simpa using VT))).elim
   .simp only[Value.slice.injEq]at h1;obtain⟨rfl,_,rfl⟩:=h1;simp only[Zk,XL];have RO:(d news)<=(d ZG):=by rw[VT,NB];exact Nat.mul_le_mul_right _ nT
    refine YV (e:=e') (lo:=0) (hi:=0) rfl (M _) news 0 h (cs++ZG).toArray hb ?_ XW ?_
    .simp;rw[<-hl];omega
    .simp only[ZL,Nat.zero_add,N];refine H _ _ (.inr ⟨b,cap,ZG.drop (d news),HM,rfl,?_,?_,?_,QR⟩) ⟨uK,fun b' J9 hx=>?_⟩ (fun b' J9=>.inl (by simpa [Yf] using J9))
     .rw[r,if_pos rfl,if_pos (Za hb)];rw[<-hl,Tn,UU _ _ RO,List.append_assoc]
     .rw[G,hl,VT,D]
     .rw[List.length_drop,NB,VT,<-L];congr 1;omega
     .rw[r,if_neg];intro e;subst e;have hcz:cap≠0:=by
       intro h0;subst h0;have:k=0:=nT;subst this;exact Y4 (o (by simpa using VT))
      exact hx (by simp[Yf,hcz])
  .rw[if_neg QR];have Vk:¬Builtin.nextslicecap (m+k) cap*i0.bytes>2 ^ 48:=by
    rw[Ma];have:=To (m+k) cap bytes nT Y5;omega
   have gO:¬i0.bytes=0:=by rw[Ma];omega
   simp only[Zk,X1 PK,gO,or_false,and_false,if_false,if_neg Vk];intro t;obtain⟨c,hc⟩:=ZN (Question.cut (Question.appendCap (m+k) cap e') t);have wh:m+k<=c:=by rw[hc];simp only[Question.cut];omega
   rw[<-hc];have SC:∀{Q:Unit->Hp->Prop} (b:Nat) (g:Hp),Q () g->hw P (askRoom b) Q g:=fun {Q} b g q=>by
    unfold askRoom;split<;>exact q
   refine SC _ _ (YC Zm.sl (YC src ?_));rw[py];have wm:z0.cells.size=n:=by rw[<-gM,<-gN];simp
   refine H (u (j ⟨h.size,0,none⟩) (m+k) c) _ (.inr ⟨h.size,c,(Builtin.zeroCells z0.cells (c-(m+k))).toList,hB,rfl,?_,?_,?_,wh⟩) (RM.push _) (fun b' J9=>.inr (by simp only[Yf]at J9;split at J9;cases J9;rw[<-Option.some.inj J9];exact M _))
   .rw[Array.getElem?_push_size];simp
   .have VT:(d news)=k*n:=by obtain⟨_,_,_,hl,_⟩:=src;exact hl
    have JS:(d cs)=m*n:=by obtain⟨_,_,_,hl,_⟩:=Zm.sl;exact hl
    rw[G,JS,VT,D]
   .rw[Array.length_toList,Xp,wm]
 .cases VR
theorem Ux{sT xT E E' B:Nat}{v s:y}{l k:List Nat}{z:y}{cb:Array Bool}(VR:QP P sT=j E)(CL:P.underlying xT=j (.slice E'))(hn:tn P E=j 1)(hz:tz P E=j [z])(OT:tb P E=j 1)(Zm:Yx B E h v l)(hB:B<=h.size)(src:Bs h s k)(Y5:(d l)+(d k)<=140737488355328)(H:∀v' h',Yx B E h' v' (l++k)->Zj B h h'->RM (Yf v) h h'->(∀b,Yf v'=j b->Yf v=j b\/h.size<=b)->K v' h'):PY P T .append #[sT,xT] ty cb [v,s] K h:=by
 refine Is VR CL hn hz rfl OT Zm.Zm hB src.sl (RP k) nT (M _) ?_;intro v' h' ho hb wG;refine H v' h' ⟨by simpa using ho,fun x hx=>?_⟩ (hb.Yz hB Zm.Zm.ZW) hb wG;rcases List.mem_append.1 hx with hx|hx
 .exact Zm.byte x hx
 .exact src.byte x hx
theorem UK.lt{B:Nat}{E:TypeId}{n:Nat}{h:Hp}{v:y}{m:Nat}{cs:List y}(s:UK B E n h v m cs):∀b,Yf v=j b->b<h.size:=by
 intro b hb;rcases s with⟨⟨p,rfl⟩,_,_⟩|⟨b',cap,ZG,_,rfl,hx,_⟩
 .cases p<;>simp[Yf]at hb
 .simp only[Yf]at hb;split at hb
  .cases hb
  .rw[<-Option.some.inj hb];exact Za hx
theorem Yx.lI{B:Nat}{E:TypeId}{h h':Hp}{v:y}{l:List Nat}(s:Yx B E h v l){x:Option Nat}(a:RM x h h')(hx:∀b,Yf v=j b->x≠j b):Yx B E h' v l:=⟨s.Zm.lI a hx,s.byte⟩
end
end Go.V
