/- Part W15. -/
import Derived.Test.YthlfaofofaphfaaGreatDoorW14
open Go.Value renaming int→o
open Go.IntKind renaming i64→d
open List renaming eq_nil_of_length_eq_zero→j,length→r,replicate→D,length_append→N
open Nat renaming mul_le_mul_right→G,add_mul→J,mul_le_mul_left→M,le_trans→O,sub_mul→S,add_zero→U,le_refl→W
open Option renaming bind_some→R,some→s
open Array renaming getElem?_setIfInBounds→u,length_toList→y
open Go.Builtin renaming zeroCells→a,append_→A
open Go renaming Value→L
namespace Go.V
set_option linter.unusedVariables false
set_option linter.unusedSimpArgs false
section
variable {P:Program} {T:World} {K:L->Hp->Prop} {F:Env} {h:Hp} {ty:TypeId}
theorem Es(z:L)(k:Nat):(a #[z] k).toList=D k z:=by
 apply List.ext_getElem?;intro i;rw[List.getElem?_replicate];by_cases hi:i<k
 .rw[if_pos hi];simp[a,hi,Nat.mod_one]
 .rw[if_neg hi,List.getElem?_eq_none];rw[y,Xn];simp;omega
theorem AM{sT xT E B n m k bytes:Nat}{v:L}{cs zs:List L}{cb:Array Bool}(VI:QR P sT=s E)(Co:P.underlying xT=s (.int d))(hn:tn P E=s n)(hz:tz P E=s zs)(fR:(r zs)=n)(CA:n≠0)(OC:tb P E=s bytes)(Zq:UE B E n h v m cs)(hB:B<=h.size)(XV:(a zs.toArray k).toList.all YC=true)(Y7:(m+k)*bytes<=140737488355328)(Gf:1<=bytes)(H:∀v' h',UE B E n h' v' (m+k) (cs++(a zs.toArray k).toList)->Rt (Yf v) h h'->K v' h'):Pm P T .append #[sT,xT] ty cb [v,o d (k:Nat)] K h:=by
 have hkb:k*bytes<=140737488355328:=O (G _ nc) Y7;have Zqj:k<=140737488355328:=O (by have:=M k Gf;omega) hkb;have VJ:(a zs.toArray k).toList.length=k*n:=by rw[y,Xn];simp[fR]
 obtain⟨news,AN⟩:=ZQ ((a zs.toArray k).toList);rw[<-AN]at XV VJ H;unfold QR at VI;split at VI
 .rename_i e' hu;simp only[Option.some.injEq]at VI;subst VI;show hw P (do pure (.value (<-A #[sT,xT] ty #[v,o d (k:Nat)]))) (Jt P T K) h;rw[Zm];show hw P (A #[sT,xT] ty #[v,o d (k:Nat)]) K h;obtain⟨i0,Pg⟩:∃i,P.info? e'=s i:=by
   unfold tn at hn
   cases hi:P.info? e' with
   | none=>rw[hi]at hn;cases hn
   | some i=>exact⟨i,rfl⟩
  have NH:i0.bytes=bytes:=by unfold tb at OC;rw[Pg]at OC;simpa using OC
  obtain⟨z0,BV,fS⟩:∃z,i0.zero=s z/\z.cells.toList=zs:=by
   unfold tz at hz;rw[Pg]at hz
   cases Hv:i0.zero with
   | none=>rw[R,Hv]at hz;cases hz
   | some z=>rw[R,Hv]at hz;exact⟨z,rfl,by simpa using hz⟩
  have ZfJ:z0.cells=zs.toArray:=by rw[<-fS]
  have hvs:∃base cap,v=.slice base m cap:=by
   rcases Zq with⟨⟨p,rfl⟩,rfl,_⟩|⟨b,cap,sp,_,rfl,_⟩
   .exact⟨_,_,rfl⟩
   .exact⟨_,_,rfl⟩
  obtain⟨base,cap,hv⟩:=hvs;subst hv;have ov:∀{Q:L->Hp->Prop} (g:Hp),hw P (zeroValue e') Q g=Q z0 g:=fun {Q} g=>by
   unfold zeroValue;rw[Zm,XZ Pg];simp only[BV];rfl
  have vM:IntKind.i64.wrap ((k:Nat):Int)=(k:Nat):=SN d k (by show k<2 ^ 63;omega);have SK:∀{Q:Int->Hp->Prop} (g:Hp),hw P (asInt (o d (k:Nat))) Q g=Q (k:Nat) g:=fun {Q} g=>by
   rfl
  have ZfK:¬((k:Nat):Int)<0:=nc;have h48:¬((k:Nat):Int)*(i0.bytes:Nat)>2 ^ 48:=by
   rw[NH,<-Int.natCast_mul];have:k*bytes<=2 ^ 48:=nc;have h2:((k*bytes:Nat):Int)<=2 ^ 48:=by exact_mod_cast this
   omega
  simp only[A,List.getElem?_toArray,List.getElem?_cons_zero,List.getElem?_cons_succ,Zm,ZN,ZH hu,ZH Co,run_sizeOf hn,if_true,SK,vM,if_neg ZfK,XZ Pg,if_neg h48,Int.toNat_natCast,Bool.not_true,Bool.false_eq_true,if_false];have vN:∀{Q:Array L->Hp->Prop} (g:Hp),Q news.toArray g->hw P (if k*n=0 then pure #[] else do pure (a (<-zeroValue e').cells k)) Q g:=fun {Q} g q=>by
   by_cases h0:k*n=0
   .rw[if_pos h0];have:k=0:=by
     rcases Nat.mul_eq_zero.1 h0 with h|h
     .exact h
     .exact (CA h).elim
    subst this;have e:news=[]:=j (by rw[VJ];omega);rw[e]at q;exact q
   .rw[if_neg h0,Zm,ov,ZfJ];rw[AN,Array.toArray_toList]at q;exact q
  by_cases Qg:m+k<=cap
  .rw[if_pos Qg,Zm];refine vN _ ?_;by_cases Y4:news=[]
   .rw[Y4];rw[Y4]at VJ H;have hK:K (.slice base (m+k) cap) h:=by
     refine H _ _ ?_ Rt.refl;rcases Zq with⟨⟨p,h1⟩,h2,h3⟩|⟨b,Gg,ZG,Hx,h1,hb,hl,Ni,tC⟩
     .simp only[Value.slice.injEq]at h1;obtain⟨rfl,rfl,rfl⟩:=h1;have hk:k=0:=nc;subst hk;subst h3;exact .inl ⟨⟨_,rfl⟩,rfl,rfl⟩
     .simp only[Value.slice.injEq]at h1;obtain⟨rfl,_,rfl⟩:=h1;have tD:k*n=0:=by simpa using VJ.symm
      refine .inr ⟨b,cap,ZG,Hx,rfl,by simpa using hb,by rw[List.append_nil,hl,J,tD];rfl,?_,Qg⟩;rw[Ni,S,S,J,tD,U]
    cases base<;>exact hK
   rcases Zq with⟨⟨p,h1⟩,h2,h3⟩|⟨b,Gg,ZG,Hx,h1,hb,hl,Ni,tC⟩
   .simp only[Value.slice.injEq]at h1;obtain⟨rfl,rfl,rfl⟩:=h1;have hk:k=0:=nc;subst hk;exact (Y4 (j (by simpa using VJ))).elim
   .simp only[Value.slice.injEq]at h1;obtain⟨rfl,_,rfl⟩:=h1;simp only[Zm,XJ];have Rv:(r news)<=(r ZG):=by rw[VJ,Ni];exact G _ nc
    refine YV (e:=e') (lo:=0) (hi:=0) rfl (W _) news 0 h (cs++ZG).toArray hb ?_ XV ?_
    .simp;rw[<-hl];omega
    .simp only[ZN,Nat.zero_add,U];refine H _ _ (.inr ⟨b,cap,ZG.drop (r news),Hx,rfl,?_,?_,?_,Qg⟩) ⟨Hg,fun b' Qa hx=>?_⟩
     .rw[u,if_pos rfl,if_pos (Za hb)];rw[<-hl,Tb,UM _ _ Rv,List.append_assoc]
     .rw[N,hl,VJ,J]
     .rw[List.length_drop,Ni,VJ,<-S];congr 1;omega
     .rw[u,if_neg];intro e;subst e;have hcz:cap≠0:=by
       intro h0;subst h0;have:k=0:=nc;subst this;exact Y4 (j (by simpa using VJ))
      exact hx (by simp[Yf,hcz])
  .rw[if_neg Qg];have W0:¬Builtin.nextslicecap (m+k) cap*i0.bytes>2 ^ 48:=by
    rw[NH];have:=Tc (m+k) cap bytes nc Y7;omega
   have fU:¬i0.bytes=0:=by rw[NH];omega
   have kO:m+k<=140737488355328:=O (by have:=M (m+k) Gf;omega) Y7;have vO:¬((m+k:Nat):Int)>IntKind.i64.max:=by
    have:IntKind.i64.max=9223372036854775807:=rfl;rw[this];omega
   simp only[Zm,XZ Pg,vO,false_and,if_false,if_neg W0];intro t;obtain⟨c,hc⟩:=ZQ (Question.cut (Question.appendCap (m+k) cap e') t);have vB:m+k<=c:=by rw[hc];simp only[Question.cut];omega
   rw[<-hc];have SK:∀{Q:Unit->Hp->Prop} (b:Nat) (g:Hp),Q () g->hw P (askRoom b) Q g:=fun {Q} b g q=>by
    unfold askRoom;split<;>exact q
   refine SK _ _ (YA Zq.sl (vN _ ?_));rw[ov];have vC:z0.cells.size=n:=by rw[<-fR,<-fS];simp
   refine H (.slice (s ⟨h.size,0,none⟩) (m+k) c) _ (.inr ⟨h.size,c,(a z0.cells (c-(m+k))).toList,hB,rfl,?_,?_,?_,vB⟩) (Rt.push _)
   .rw[Array.getElem?_push_size];simp
   .have JZ:(r cs)=m*n:=by obtain⟨_,_,_,hl,_⟩:=Zq.sl;exact hl
    rw[N,JZ,VJ,J]
   .rw[y,Xn,vC]
 .cases VI
theorem Gp{sT xT E B k:Nat}{v:L}{l:List Nat}{cb:Array Bool}(VI:QR P sT=s E)(Co:P.underlying xT=s (.int d))(hn:tn P E=s 1)(hz:tz P E=s [o .u8 0])(OC:tb P E=s 1)(Zq:Yx B E h v l)(hB:B<=h.size)(Y7:(r l)+k<=140737488355328)(H:∀v' h',Yx B E h' v' (l++D k 0)->Zk B h h'->Rt (Yf v) h h'->K v' h'):Pm P T .append #[sT,xT] ty cb [v,o d (k:Nat)] K h:=by
 have e:(a [Value.int .u8 0].toArray k).toList=(D k 0).map bv:=by
  rw[Es,List.map_replicate];rfl
 refine AM VI Co hn hz rfl aaa OC Zq.Zq hB (by rw[e];exact Rw _) nc (W _) ?_;intro v' h' ho hb;rw[e,<-List.map_append]at ho;refine H v' h' ⟨by simpa using ho,fun x hx=>?_⟩ (hb.Yy hB Zq.Zq.ZX) hb;rcases List.mem_append.1 hx with hx|hx
 .exact Zq.byte x hx
 .rw[List.eq_of_mem_replicate hx];omega
end
end Go.V
