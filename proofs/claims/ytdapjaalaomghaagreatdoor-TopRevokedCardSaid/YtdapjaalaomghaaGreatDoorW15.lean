/- Part W15. -/
import Derived.Test.YtdapjaalaomghaaGreatDoorW14
open Go.Value renaming int→o
open Go.IntKind renaming i64→d
open List renaming eq_nil_of_length_eq_zero→j,length→r,replicate→D,length_append→N
open Nat renaming mul_le_mul_right→G,add_mul→J,mul_le_mul_left→M,le_trans→O,sub_mul→S,add_zero→U,le_refl→W
open Option renaming bind_some→R,some→s
open Array renaming getElem?_setIfInBounds→u,length_toList→y
open Go.Builtin renaming zeroCells→a,append_→A
open Go renaming Value→L
namespace Go.V
set_option linter.all false
section
variable {P:Program} {T:World} {K:L->Hp->Prop} {F:Env} {h:Hp} {ty:TypeId}
theorem EK(z:L)(k:Nat):(a #[z] k).toList=D k z:=by
 apply List.ext_getElem?;intro i;rw[List.getElem?_replicate];by_cases hi:i<k
 .rw[if_pos hi];simp[a,hi,Nat.mod_one]
 .rw[if_neg hi,List.getElem?_eq_none];rw[y,Xp];simp;omega
theorem an{sT xT E B n m k bytes:Nat}{v:L}{cs zs:List L}{cb:Array Bool}(VR:QP P sT=s E)(CL:P.underlying xT=s (.int d))(hn:tn P E=s n)(hz:tz P E=s zs)(gM:(r zs)=n)(C0:n≠0)(OT:tb P E=s bytes)(Zm:UK B E n h v m cs)(hB:B<=h.size)(XW:(a zs.toArray k).toList.all YD=true)(Y5:(m+k)*bytes<=140737488355328)(Gy:1<=bytes)(H:∀v' h',UK B E n h' v' (m+k) (cs++(a zs.toArray k).toList)->RM (Yf v) h h'->K v' h'):PY P T .append #[sT,xT] ty cb [v,o d (k:Nat)] K h:=by
 have hkb:k*bytes<=140737488355328:=O (G _ nT) Y5;have Zq3:k<=140737488355328:=O (by have:=M k Gy;omega) hkb;have VT:(a zs.toArray k).toList.length=k*n:=by rw[y,Xp];simp[gM]
 obtain⟨news,ao⟩:=ZN ((a zs.toArray k).toList);rw[<-ao]at XW VT H;unfold QP at VR;split at VR
 .rename_i e' hu;simp only[Option.some.injEq]at VR;subst VR;show hw P (do pure (.value (<-A #[sT,xT] ty #[v,o d (k:Nat)]))) (Jt P T K) h;rw[Zk];show hw P (A #[sT,xT] ty #[v,o d (k:Nat)]) K h;obtain⟨i0,PK⟩:∃i,P.info? e'=s i:=by
   unfold tn at hn
   cases hi:P.info? e' with
   | none=>rw[hi]at hn;cases hn
   | some i=>exact⟨i,rfl⟩
  have Ma:i0.bytes=bytes:=by unfold tb at OT;rw[PK]at OT;simpa using OT
  obtain⟨z0,Au,gN⟩:∃z,i0.zero=s z/\z.cells.toList=zs:=by
   unfold tz at hz;rw[PK]at hz
   cases HK:i0.zero with
   | none=>rw[R,HK]at hz;cases hz
   | some z=>rw[R,HK]at hz;exact⟨z,rfl,by simpa using hz⟩
  have Zgm:z0.cells=zs.toArray:=by rw[<-gN]
  have hvs:∃base cap,v=.slice base m cap:=by
   rcases Zm with⟨⟨p,rfl⟩,rfl,_⟩|⟨b,cap,sp,_,rfl,_⟩
   .exact⟨_,_,rfl⟩
   .exact⟨_,_,rfl⟩
  obtain⟨base,cap,hv⟩:=hvs;subst hv;have py:∀{Q:L->Hp->Prop} (g:Hp),hw P (zeroValue e') Q g=Q z0 g:=fun {Q} g=>by
   unfold zeroValue;rw[Zk,X1 PK];simp only[Au];rfl
  have wI:IntKind.i64.wrap ((k:Nat):Int)=(k:Nat):=S9 d k (by show k<2 ^ 63;omega);have SC:∀{Q:Int->Hp->Prop} (g:Hp),hw P (asInt (o d (k:Nat))) Q g=Q (k:Nat) g:=fun {Q} g=>by
   rfl
  have Zgn:¬((k:Nat):Int)<0:=nT;have h48:¬((k:Nat):Int)*(i0.bytes:Nat)>2 ^ 48:=by
   rw[Ma,<-Int.natCast_mul];have:k*bytes<=2 ^ 48:=nT;have h2:((k*bytes:Nat):Int)<=2 ^ 48:=by exact_mod_cast this
   omega
  simp only[A,List.getElem?_toArray,List.getElem?_cons_zero,List.getElem?_cons_succ,Zk,ZL,ZH hu,ZH CL,run_sizeOf hn,if_true,SC,wI,if_neg Zgn,X1 PK,if_neg h48,Int.toNat_natCast,Bool.not_true,Bool.false_eq_true,if_false];have wJ:∀{Q:Array L->Hp->Prop} (g:Hp),Q news.toArray g->hw P (if k*n=0 then pure #[] else do pure (a (<-zeroValue e').cells k)) Q g:=fun {Q} g q=>by
   by_cases h0:k*n=0
   .rw[if_pos h0];have:k=0:=by
     rcases Nat.mul_eq_zero.1 h0 with h|h
     .exact h
     .exact (C0 h).elim
    subst this;have e:news=[]:=j (by rw[VT];omega);rw[e]at q;exact q
   .rw[if_neg h0,Zk,py,Zgm];rw[ao,Array.toArray_toList]at q;exact q
  by_cases QR:m+k<=cap
  .rw[if_pos QR,Zk];refine wJ _ ?_;by_cases Y4:news=[]
   .rw[Y4];rw[Y4]at VT H;have hK:K (.slice base (m+k) cap) h:=by
     refine H _ _ ?_ RM.refl;rcases Zm with⟨⟨p,h1⟩,h2,h3⟩|⟨b,Gz,ZG,HM,h1,hb,hl,NB,ue⟩
     .simp only[Value.slice.injEq]at h1;obtain⟨rfl,rfl,rfl⟩:=h1;have hk:k=0:=nT;subst hk;subst h3;exact .inl ⟨⟨_,rfl⟩,rfl,rfl⟩
     .simp only[Value.slice.injEq]at h1;obtain⟨rfl,_,rfl⟩:=h1;have uf:k*n=0:=by simpa using VT.symm
      refine .inr ⟨b,cap,ZG,HM,rfl,by simpa using hb,by rw[List.append_nil,hl,J,uf];rfl,?_,QR⟩;rw[NB,S,S,J,uf,U]
    cases base<;>exact hK
   rcases Zm with⟨⟨p,h1⟩,h2,h3⟩|⟨b,Gz,ZG,HM,h1,hb,hl,NB,ue⟩
   .simp only[Value.slice.injEq]at h1;obtain⟨rfl,rfl,rfl⟩:=h1;have hk:k=0:=nT;subst hk;exact (Y4 (j (by simpa using VT))).elim
   .simp only[Value.slice.injEq]at h1;obtain⟨rfl,_,rfl⟩:=h1;simp only[Zk,XL];have RO:(r news)<=(r ZG):=by rw[VT,NB];exact G _ nT
    refine YV (e:=e') (lo:=0) (hi:=0) rfl (W _) news 0 h (cs++ZG).toArray hb ?_ XW ?_
    .simp;rw[<-hl];omega
    .simp only[ZL,Nat.zero_add,U];refine H _ _ (.inr ⟨b,cap,ZG.drop (r news),HM,rfl,?_,?_,?_,QR⟩) ⟨uK,fun b' J9 hx=>?_⟩
     .rw[u,if_pos rfl,if_pos (Za hb)];rw[<-hl,Tn,UU _ _ RO,List.append_assoc]
     .rw[N,hl,VT,J]
     .rw[List.length_drop,NB,VT,<-S];congr 1;omega
     .rw[u,if_neg];intro e;subst e;have hcz:cap≠0:=by
       intro h0;subst h0;have:k=0:=nT;subst this;exact Y4 (j (by simpa using VT))
      exact hx (by simp[Yf,hcz])
  .rw[if_neg QR];have Vk:¬Builtin.nextslicecap (m+k) cap*i0.bytes>2 ^ 48:=by
    rw[Ma];have:=To (m+k) cap bytes nT Y5;omega
   have gO:¬i0.bytes=0:=by rw[Ma];omega
   have lP:m+k<=140737488355328:=O (by have:=M (m+k) Gy;omega) Y5;have wM:¬((m+k:Nat):Int)>IntKind.i64.max:=by
    have:IntKind.i64.max=9223372036854775807:=rfl;rw[this];omega
   simp only[Zk,X1 PK,wM,false_and,if_false,if_neg Vk];intro t;obtain⟨c,hc⟩:=ZN (Question.cut (Question.appendCap (m+k) cap e') t);have wh:m+k<=c:=by rw[hc];simp only[Question.cut];omega
   rw[<-hc];have SC:∀{Q:Unit->Hp->Prop} (b:Nat) (g:Hp),Q () g->hw P (askRoom b) Q g:=fun {Q} b g q=>by
    unfold askRoom;split<;>exact q
   refine SC _ _ (YC Zm.sl (wJ _ ?_));rw[py];have wm:z0.cells.size=n:=by rw[<-gM,<-gN];simp
   refine H (.slice (s ⟨h.size,0,none⟩) (m+k) c) _ (.inr ⟨h.size,c,(a z0.cells (c-(m+k))).toList,hB,rfl,?_,?_,?_,wh⟩) (RM.push _)
   .rw[Array.getElem?_push_size];simp
   .have JS:(r cs)=m*n:=by obtain⟨_,_,_,hl,_⟩:=Zm.sl;exact hl
    rw[N,JS,VT,J]
   .rw[y,Xp,wm]
 .cases VR
theorem GH{sT xT E B k:Nat}{v:L}{l:List Nat}{cb:Array Bool}(VR:QP P sT=s E)(CL:P.underlying xT=s (.int d))(hn:tn P E=s 1)(hz:tz P E=s [o .u8 0])(OT:tb P E=s 1)(Zm:Yx B E h v l)(hB:B<=h.size)(Y5:(r l)+k<=140737488355328)(H:∀v' h',Yx B E h' v' (l++D k 0)->Zj B h h'->RM (Yf v) h h'->K v' h'):PY P T .append #[sT,xT] ty cb [v,o d (k:Nat)] K h:=by
 have e:(a [Value.int .u8 0].toArray k).toList=(D k 0).map bv:=by
  rw[EK,List.map_replicate];rfl
 refine an VR CL hn hz rfl Iw OT Zm.Zm hB (by rw[e];exact RP _) nT (W _) ?_;intro v' h' ho hb;rw[e,<-List.map_append]at ho;refine H v' h' ⟨by simpa using ho,fun x hx=>?_⟩ (hb.Yz hB Zm.Zm.ZW) hb;rcases List.mem_append.1 hx with hx|hx
 .exact Zm.byte x hx
 .rw[List.eq_of_mem_replicate hx];omega
end
end Go.V
