/- Part W15. -/
import Derived.Test.YtnhfdnlcpdbjlaaGreatDoorW14
open Go.Value renaming int→o
open Go.IntKind renaming i64→d
open List renaming eq_nil_of_length_eq_zero→j,length→s,replicate→G,length_append→O
open Nat renaming mul_le_mul_right→J,add_mul→L,mul_le_mul_left→N,le_trans→R,sub_mul→U,add_zero→W,le_refl→X
open Option renaming bind_some→S,some→w
open Array renaming getElem?_setIfInBounds→y,length_toList→A
open Go.Builtin renaming zeroCells→a,append_→D
open Go renaming Value→M
namespace Go.V
set_option linter.all false
section
variable {P:Program} {T:World} {K:M->Hp->Prop} {F:Env} {h:Hp} {ty:TypeId}
theorem Ef(z:M)(k:Nat):(a #[z] k).toList=G k z:=by
 apply List.ext_getElem?;intro i;rw[List.getElem?_replicate];by_cases hi:i<k
 .rw[if_pos hi];simp[a,hi,Nat.mod_one]
 .rw[if_neg hi,List.getElem?_eq_none];rw[A,Xr];simp;omega
theorem Aw{sT xT E B n m k bytes:Nat}{v:M}{cs zs:List M}{cb:Array Bool}(Vv:QE P sT=w E)(D5:P.underlying xT=w (.int d))(hn:tn P E=w n)(hz:tz P E=w zs)(fO:(s zs)=n)(EM:n≠0)(OB:tb P E=w bytes)(Zr:UK B E n h v m cs)(hB:B<=h.size)(X1:(a zs.toArray k).toList.all YN=true)(Xa:(m+k)*bytes<=140737488355328)(D6:1<=bytes)(H:∀v' h',UK B E n h' v' (m+k) (cs++(a zs.toArray k).toList)->Rs (Ya v) h h'->K v' h'):Ps P T .append #[sT,xT] ty cb [v,o d (k:Nat)] K h:=by
 have hkb:k*bytes<=140737488355328:=R (J _ mD) Xa;have Zp2:k<=140737488355328:=R (by have:=N k D6;omega) hkb;have VT:(a zs.toArray k).toList.length=k*n:=by rw[A,Xr];simp[fO]
 obtain⟨news,Ax⟩:=ZP ((a zs.toArray k).toList);rw[<-Ax]at X1 VT H;unfold QE at Vv;split at Vv
 .rename_i e' hu;simp only[Option.some.injEq]at Vv;subst Vv;show hw P (do pure (.value (<-D #[sT,xT] ty #[v,o d (k:Nat)]))) (Jr P T K) h;rw[Zj];show hw P (D #[sT,xT] ty #[v,o d (k:Nat)]) K h;obtain⟨i0,Ph⟩:∃i,P.info? e'=w i:=by
   unfold tn at hn
   cases hi:P.info? e' with
   | none=>rw[hi]at hn;cases hn
   | some i=>exact⟨i,rfl⟩
  have NL:i0.bytes=bytes:=by unfold tb at OB;rw[Ph]at OB;simpa using OB
  obtain⟨z0,Bz,fP⟩:∃z,i0.zero=w z/\z.cells.toList=zs:=by
   unfold tz at hz;rw[Ph]at hz
   cases I8:i0.zero with
   | none=>rw[S,I8]at hz;cases hz
   | some z=>rw[S,I8]at hz;exact⟨z,rfl,by simpa using hz⟩
  have ZfI:z0.cells=zs.toArray:=by rw[<-fP]
  have hvs:∃base cap,v=.slice base m cap:=by
   rcases Zr with⟨⟨p,rfl⟩,rfl,_⟩|⟨b,cap,sp,_,rfl,_⟩
   .exact⟨_,_,rfl⟩
   .exact⟨_,_,rfl⟩
  obtain⟨base,cap,hv⟩:=hvs;subst hv;have nz:∀{Q:M->Hp->Prop} (g:Hp),hw P (zeroValue e') Q g=Q z0 g:=fun {Q} g=>by
   unfold zeroValue;rw[Zj,X0 Ph];simp only[Bz];rfl
  have vB:IntKind.i64.wrap ((k:Nat):Int)=(k:Nat):=SI d k (by show k<2 ^ 63;omega);have NM:∀{Q:Int->Hp->Prop} (g:Hp),hw P (asInt (o d (k:Nat))) Q g=Q (k:Nat) g:=fun {Q} g=>by
   rfl
  have ZfJ:¬((k:Nat):Int)<0:=mD;have h48:¬((k:Nat):Int)*(i0.bytes:Nat)>2 ^ 48:=by
   rw[NL,<-Int.natCast_mul];have:k*bytes<=2 ^ 48:=mD;have h2:((k*bytes:Nat):Int)<=2 ^ 48:=by exact_mod_cast this
   omega
  simp only[D,List.getElem?_toArray,List.getElem?_cons_zero,List.getElem?_cons_succ,Zj,ZO,ZM hu,ZM D5,run_sizeOf hn,if_true,NM,vB,if_neg ZfJ,X0 Ph,if_neg h48,Int.toNat_natCast,Bool.not_true,Bool.false_eq_true,if_false];have vC:∀{Q:Array M->Hp->Prop} (g:Hp),Q news.toArray g->hw P (if k*n=0 then pure #[] else do pure (a (<-zeroValue e').cells k)) Q g:=fun {Q} g q=>by
   by_cases h0:k*n=0
   .rw[if_pos h0];have:k=0:=by
     rcases Nat.mul_eq_zero.1 h0 with h|h
     .exact h
     .exact (EM h).elim
    subst this;have e:news=[]:=j (by rw[VT];omega);rw[e]at q;exact q
   .rw[if_neg h0,Zj,nz,ZfI];rw[Ax,Array.toArray_toList]at q;exact q
  by_cases QG:m+k<=cap
  .rw[if_pos QG,Zj];refine vC _ ?_;by_cases Xb:news=[]
   .rw[Xb];rw[Xb]at VT H;have hK:K (.slice base (m+k) cap) h:=by
     refine H _ _ ?_ Rs.refl;rcases Zr with⟨⟨p,h1⟩,h2,h3⟩|⟨b,HP,ZE,Ha,h1,hb,hl,Nm,sO⟩
     .simp only[Value.slice.injEq]at h1;obtain⟨rfl,rfl,rfl⟩:=h1;have hk:k=0:=mD;subst hk;subst h3;exact .inl ⟨⟨_,rfl⟩,rfl,rfl⟩
     .simp only[Value.slice.injEq]at h1;obtain⟨rfl,_,rfl⟩:=h1;have dJ:k*n=0:=by simpa using VT.symm
      refine .inr ⟨b,cap,ZE,Ha,rfl,by simpa using hb,by rw[List.append_nil,hl,L,dJ];rfl,?_,QG⟩;rw[Nm,U,U,L,dJ,W]
    cases base<;>exact hK
   rcases Zr with⟨⟨p,h1⟩,h2,h3⟩|⟨b,HP,ZE,Ha,h1,hb,hl,Nm,sO⟩
   .simp only[Value.slice.injEq]at h1;obtain⟨rfl,rfl,rfl⟩:=h1;have hk:k=0:=mD;subst hk;exact (Xb (j (by simpa using VT))).elim
   .simp only[Value.slice.injEq]at h1;obtain⟨rfl,_,rfl⟩:=h1;simp only[Zj,XL];have Rt:(s news)<=(s ZE):=by rw[VT,Nm];exact J _ mD
    refine YZ (e:=e') (lo:=0) (hi:=0) rfl (X _) news 0 h (cs++ZE).toArray hb ?_ X1 ?_
    .simp;rw[<-hl];omega
    .simp only[ZO,Nat.zero_add,W];refine H _ _ (.inr ⟨b,cap,ZE.drop (s news),Ha,rfl,?_,?_,?_,QG⟩) ⟨sW,fun b' JU hx=>?_⟩
     .rw[y,if_pos rfl,if_pos (Za hb)];rw[<-hl,VQ,Uy _ _ Rt,List.append_assoc]
     .rw[O,hl,VT,L]
     .rw[List.length_drop,Nm,VT,<-U];congr 1;omega
     .rw[y,if_neg];intro e;subst e;have hcz:cap≠0:=by
       intro h0;subst h0;have:k=0:=mD;subst this;exact Xb (j (by simpa using VT))
      exact hx (by simp[Ya,hcz])
  .rw[if_neg QG];have U3:¬Builtin.nextslicecap (m+k) cap*i0.bytes>2 ^ 48:=by
    rw[NL];have:=VR (m+k) cap bytes mD Xa;omega
   have fQ:¬i0.bytes=0:=by rw[NL];omega
   have BD:m+k<=140737488355328:=R (by have:=N (m+k) D6;omega) Xa;have vD:¬((m+k:Nat):Int)>IntKind.i64.max:=by
    have:IntKind.i64.max=9223372036854775807:=rfl;rw[this];omega
   simp only[Zj,X0 Ph,vD,false_and,if_false,if_neg U3];intro t;obtain⟨c,hc⟩:=ZP (Question.cut (Question.appendCap (m+k) cap e') t);have vg:m+k<=c:=by rw[hc];simp only[Question.cut];omega
   rw[<-hc];have NM:∀{Q:Unit->Hp->Prop} (b:Nat) (g:Hp),Q () g->hw P (askRoom b) Q g:=fun {Q} b g q=>by
    unfold askRoom;split<;>exact q
   refine NM _ _ (YE Zr.sl (vC _ ?_));rw[nz];have vj:z0.cells.size=n:=by rw[<-fO,<-fP];simp
   refine H (.slice (w ⟨h.size,0,none⟩) (m+k) c) _ (.inr ⟨h.size,c,(a z0.cells (c-(m+k))).toList,hB,rfl,?_,?_,?_,vg⟩) (Rs.push _)
   .rw[Array.getElem?_push_size];simp
   .have Vb:(s cs)=m*n:=by obtain⟨_,_,_,hl,_⟩:=Zr.sl;exact hl
    rw[O,Vb,VT,L]
   .rw[A,Xr,vj]
 .cases Vv
theorem H6{sT xT E B k:Nat}{v:M}{l:List Nat}{cb:Array Bool}(Vv:QE P sT=w E)(D5:P.underlying xT=w (.int d))(hn:tn P E=w 1)(hz:tz P E=w [o .u8 0])(OB:tb P E=w 1)(Zr:YB B E h v l)(hB:B<=h.size)(Xa:(s l)+k<=140737488355328)(H:∀v' h',YB B E h' v' (l++G k 0)->Zk B h h'->Rs (Ya v) h h'->K v' h'):Ps P T .append #[sT,xT] ty cb [v,o d (k:Nat)] K h:=by
 have e:(a [Value.int .u8 0].toArray k).toList=(G k 0).map bv:=by
  rw[Ef,List.map_replicate];rfl
 refine Aw Vv D5 hn hz rfl KC OB Zr.Zr hB (by rw[e];exact Ru _) mD (X _) ?_;intro v' h' ho hb;rw[e,<-List.map_append]at ho;refine H v' h' ⟨by simpa using ho,fun x hx=>?_⟩ (hb.YJ hB Zr.Zr.ZZ) hb;rcases List.mem_append.1 hx with hx|hx
 .exact Zr.byte x hx
 .rw[List.eq_of_mem_replicate hx];omega
end
end Go.V
