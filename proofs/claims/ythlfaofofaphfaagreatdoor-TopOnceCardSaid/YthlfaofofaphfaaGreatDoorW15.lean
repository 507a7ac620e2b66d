/- Part W15. -/
import Derived.Test.YthlfaofofaphfaaGreatDoorW14
open Go.Value renaming int→o
open Go.IntKind renaming i64→d
open List renaming eq_nil_of_length_eq_zero→j,length→r,replicate→D,length_append→N
open Nat renaming mul_le_mul_right→G,add_mul→J,mul_le_mul_left→M,le_trans→O,sub_mul→S,add_zero→U,le_refl→W
open Option renaming bind_some→R,some→s
open Array renaming getElem?_setIfInBounds→u,length_toList→y
open Go.Builtin renaming zeroCells→a,append_→A
open Go renaming Value→L
namespace Go.V
set_option linter.unusedVariables false
set_option linter.unusedSimpArgs false
section
variable {P:Program} {T:World} {K:L->Hp->Prop} {F:Env} {h:Hp} {ty:TypeId}
theorem E7(z:L)(k:Nat):(a #[z] k).toList=D k z:=by
 apply List.ext_getElem?;intro i;rw[List.getElem?_replicate];by_cases hi:i<k
 .rw[if_pos hi];simp[a,hi,Nat.mod_one]
 .rw[if_neg hi,List.getElem?_eq_none];rw[y,Xs];simp;omega
theorem aM{sT xT E B n m k bytes:Nat}{v:L}{cs zs:List L}{cb:Array Bool}(VV:QY P sT=s E)(Bc:P.underlying xT=s (.int d))(hn:tn P E=s n)(hz:tz P E=s zs)(io:(r zs)=n)(DK:n≠0)(O1:tb P E=s bytes)(Zq:UO B E n h v m cs)(hB:B<=h.size)(X3:(a zs.toArray k).toList.all YE=true)(Xf:(m+k)*bytes<=140737488355328)(GO:1<=bytes)(H:∀v' h',UO B E n h' v' (m+k) (cs++(a zs.toArray k).toList)->RT (Yf v) h h'->K v' h'):PZ P T .append #[sT,xT] ty cb [v,o d (k:Nat)] K h:=by
 have hkb:k*bytes<=140737488355328:=O (G _ pA) Xf;have ZrB:k<=140737488355328:=O (by have:=M k GO;omega) hkb;have VW:(a zs.toArray k).toList.length=k*n:=by rw[y,Xs];simp[io]
 obtain⟨news,aN⟩:=ZL ((a zs.toArray k).toList);rw[<-aN]at X3 VW H;unfold QY at VV;split at VV
 .rename_i e' hu;simp only[Option.some.injEq]at VV;subst VV;show hw P (do pure (.value (<-A #[sT,xT] ty #[v,o d (k:Nat)]))) (JA P T K) h;rw[Zm];show hw P (A #[sT,xT] ty #[v,o d (k:Nat)]) K h;obtain⟨i0,PQ⟩:∃i,P.info? e'=s i:=by
   unfold tn at hn
   cases hi:P.info? e' with
   | none=>rw[hi]at hn;cases hn
   | some i=>exact⟨i,rfl⟩
  have Mn:i0.bytes=bytes:=by unfold tb at O1;rw[PQ]at O1;simpa using O1
  obtain⟨z0,AN,iq⟩:∃z,i0.zero=s z/\z.cells.toList=zs:=by
   unfold tz at hz;rw[PQ]at hz
   cases Gc:i0.zero with
   | none=>rw[R,Gc]at hz;cases hz
   | some z=>rw[R,Gc]at hz;exact⟨z,rfl,by simpa using hz⟩
  have ZgO:z0.cells=zs.toArray:=by rw[<-iq]
  have hvs:∃base cap,v=.slice base m cap:=by
   rcases Zq with⟨⟨p,rfl⟩,rfl,_⟩|⟨b,cap,sp,_,rfl,_⟩
   .exact⟨_,_,rfl⟩
   .exact⟨_,_,rfl⟩
  obtain⟨base,cap,hv⟩:=hvs;subst hv;have qr:∀{Q:L->Hp->Prop} (g:Hp),hw P (zeroValue e') Q g=Q z0 g:=fun {Q} g=>by
   unfold zeroValue;rw[Zm,X8 PQ];simp only[AN];rfl
  have ye:IntKind.i64.wrap ((k:Nat):Int)=(k:Nat):=Rg d k (by show k<2 ^ 63;omega);have T3:∀{Q:Int->Hp->Prop} (g:Hp),hw P (asInt (o d (k:Nat))) Q g=Q (k:Nat) g:=fun {Q} g=>by
   rfl
  have ZgP:¬((k:Nat):Int)<0:=pA;have h48:¬((k:Nat):Int)*(i0.bytes:Nat)>2 ^ 48:=by
   rw[Mn,<-Int.natCast_mul];have:k*bytes<=2 ^ 48:=pA;have h2:((k*bytes:Nat):Int)<=2 ^ 48:=by exact_mod_cast this
   omega
  simp only[A,List.getElem?_toArray,List.getElem?_cons_zero,List.getElem?_cons_succ,Zm,ZO,ZH hu,ZH Bc,run_sizeOf hn,if_true,T3,ye,if_neg ZgP,X8 PQ,if_neg h48,Int.toNat_natCast,Bool.not_true,Bool.false_eq_true,if_false];have yf:∀{Q:Array L->Hp->Prop} (g:Hp),Q news.toArray g->hw P (if k*n=0 then pure #[] else do pure (a (<-zeroValue e').cells k)) Q g:=fun {Q} g q=>by
   by_cases h0:k*n=0
   .rw[if_pos h0];have:k=0:=by
     rcases Nat.mul_eq_zero.1 h0 with h|h
     .exact h
     .exact (DK h).elim
    subst this;have e:news=[]:=j (by rw[VW];omega);rw[e]at q;exact q
   .rw[if_neg h0,Zm,qr,ZgO];rw[aN,Array.toArray_toList]at q;exact q
  by_cases Jx:m+k<=cap
  .rw[if_pos Jx,Zm];refine yf _ ?_;by_cases Y7:news=[]
   .rw[Y7];rw[Y7]at VW H;have hK:K (.slice base (m+k) cap) h:=by
     refine H _ _ ?_ RT.refl;rcases Zq with⟨⟨p,h1⟩,h2,h3⟩|⟨b,GP,ZG,Ge,h1,hb,hl,NV,vf⟩
     .simp only[Value.slice.injEq]at h1;obtain⟨rfl,rfl,rfl⟩:=h1;have hk:k=0:=pA;subst hk;subst h3;exact .inl ⟨⟨_,rfl⟩,rfl,rfl⟩
     .simp only[Value.slice.injEq]at h1;obtain⟨rfl,_,rfl⟩:=h1;have vg:k*n=0:=by simpa using VW.symm
      refine .inr ⟨b,cap,ZG,Ge,rfl,by simpa using hb,by rw[List.append_nil,hl,J,vg];rfl,?_,Jx⟩;rw[NV,S,S,J,vg,U]
    cases base<;>exact hK
   rcases Zq with⟨⟨p,h1⟩,h2,h3⟩|⟨b,GP,ZG,Ge,h1,hb,hl,NV,vf⟩
   .simp only[Value.slice.injEq]at h1;obtain⟨rfl,rfl,rfl⟩:=h1;have hk:k=0:=pA;subst hk;exact (Y7 (j (by simpa using VW))).elim
   .simp only[Value.slice.injEq]at h1;obtain⟨rfl,_,rfl⟩:=h1;simp only[Zm,XR];have RV:(r news)<=(r ZG):=by rw[VW,NV];exact G _ pA
    refine YZ (e:=e') (lo:=0) (hi:=0) rfl (W _) news 0 h (cs++ZG).toArray hb ?_ X3 ?_
    .simp;rw[<-hl];omega
    .simp only[ZO,Nat.zero_add,U];refine H _ _ (.inr ⟨b,cap,ZG.drop (r news),Ge,rfl,?_,?_,?_,Jx⟩) ⟨IQ,fun b' Qi hx=>?_⟩
     .rw[u,if_pos rfl,if_pos (Za hb)];rw[<-hl,Tp,UZ _ _ RV,List.append_assoc]
     .rw[N,hl,VW,J]
     .rw[List.length_drop,NV,VW,<-S];congr 1;omega
     .rw[u,if_neg];intro e;subst e;have hcz:cap≠0:=by
       intro h0;subst h0;have:k=0:=pA;subst this;exact Y7 (j (by simpa using VW))
      exact hx (by simp[Yf,hcz])
  .rw[if_neg Jx];have Wx:¬Builtin.nextslicecap (m+k) cap*i0.bytes>2 ^ 48:=by
    rw[Mn];have:=Tq (m+k) cap bytes pA Xf;omega
   have iu:¬i0.bytes=0:=by rw[Mn];omega
   have mI:m+k<=140737488355328:=O (by have:=M (m+k) GO;omega) Xf;have yg:¬((m+k:Nat):Int)>IntKind.i64.max:=by
    have:IntKind.i64.max=9223372036854775807:=rfl;rw[this];omega
   simp only[Zm,X8 PQ,yg,false_and,if_false,if_neg Wx];intro t;obtain⟨c,hc⟩:=ZL (Question.cut (Question.appendCap (m+k) cap e') t);have xP:m+k<=c:=by rw[hc];simp only[Question.cut];omega
   rw[<-hc];have T3:∀{Q:Unit->Hp->Prop} (b:Nat) (g:Hp),Q () g->hw P (askRoom b) Q g:=fun {Q} b g q=>by
    unfold askRoom;split<;>exact q
   refine T3 _ _ (YF Zq.sl (yf _ ?_));rw[qr];have xQ:z0.cells.size=n:=by rw[<-io,<-iq];simp
   refine H (.slice (s ⟨h.size,0,none⟩) (m+k) c) _ (.inr ⟨h.size,c,(a z0.cells (c-(m+k))).toList,hB,rfl,?_,?_,?_,xP⟩) (RT.push _)
   .rw[Array.getElem?_push_size];simp
   .have J9:(r cs)=m*n:=by obtain⟨_,_,_,hl,_⟩:=Zq.sl;exact hl
    rw[N,J9,VW,J]
   .rw[y,Xs,xQ]
 .cases VV
theorem GY{sT xT E B k:Nat}{v:L}{l:List Nat}{cb:Array Bool}(VV:QY P sT=s E)(Bc:P.underlying xT=s (.int d))(hn:tn P E=s 1)(hz:tz P E=s [o .u8 0])(O1:tb P E=s 1)(Zq:YB B E h v l)(hB:B<=h.size)(Xf:(r l)+k<=140737488355328)(H:∀v' h',YB B E h' v' (l++D k 0)->Zj B h h'->RT (Yf v) h h'->K v' h'):PZ P T .append #[sT,xT] ty cb [v,o d (k:Nat)] K h:=by
 have e:(a [Value.int .u8 0].toArray k).toList=(D k 0).map bv:=by
  rw[E7,List.map_replicate];rfl
 refine aM VV Bc hn hz rfl aaa O1 Zq.Zq hB (by rw[e];exact RW _) pA (W _) ?_;intro v' h' ho hb;rw[e,<-List.map_append]at ho;refine H v' h' ⟨by simpa using ho,fun x hx=>?_⟩ (hb.Yz hB Zq.Zq.ZZ) hb;rcases List.mem_append.1 hx with hx|hx
 .exact Zq.byte x hx
 .rw[List.eq_of_mem_replicate hx];omega
end
end Go.V
