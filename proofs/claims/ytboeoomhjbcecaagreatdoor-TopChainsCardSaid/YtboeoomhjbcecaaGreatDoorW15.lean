/- W15: 'append(v, make([]T, k)...)'. -/
import Derived.Test.YtboeoomhjbcecaaGreatDoorW14
namespace Go.V
set_option linter.unusedVariables false
set_option linter.unusedSimpArgs false
section
variable {P:Program} {T:World} {K:Value→Hp→Prop} {F:Env} {h:Hp} {ty:TypeId}
theorem I8 (z:Value) (k:Nat):(Builtin.zeroCells #[z] k).toList=List.replicate k z:=by
 apply List.ext_getElem?;intro i;rw[List.getElem?_replicate];by_cases hi:i<k
 ·rw[if_pos hi];simp[Builtin.zeroCells,hi,Nat.mod_one]
 ·rw[if_neg hi,List.getElem?_eq_none];rw[Array.length_toList,YJ];simp;omega
theorem Df {sT xT E B n m k bytes:Nat} {v:Value} {cs zs:List Value} {cb:Array Bool} (US:JD P sT=some E) (G8:P.underlying xT=some (.int .i64)) (hn:tn P E=some n) (hz:tz P E=some zs) (Aw:zs.length=n) (HP:n≠0) (SM:tb P E=some bytes)
  (own:Qx B E n h v m cs) (hB:B≤h.size) (Y9:(Builtin.zeroCells zs.toArray k).toList.all Z6=true) (Yr:(m+k)*bytes≤140737488355328) (Ka:1≤bytes)
  (H:∀v' h',Qx B E n h' v' (m+k) (cs++(Builtin.zeroCells zs.toArray k).toList)→Tm (ZO v) h h'→K v' h'):T6 P T .append #[sT,xT] ty cb [v,.int .i64 (k:Nat)] K h:=by
 have tH:k*bytes≤140737488355328:=Nat.le_trans (Nat.mul_le_mul_right _ (by omega)) Yr;have Zli:k≤140737488355328:=Nat.le_trans (by have:=Nat.mul_le_mul_left k Ka;omega) tH;have Uq:(Builtin.zeroCells zs.toArray k).toList.length=k*n:=by rw[Array.length_toList,YJ];simp[Aw]
 obtain⟨news,Dh⟩:=Zy ((Builtin.zeroCells zs.toArray k).toList);rw[←Dh]at Y9 Uq H;unfold JD at US;split at US
 ·rename_i e' hu;simp only[Option.some.injEq]at US;subst US;show hw P (do pure (.value (←Builtin.append_ #[sT,xT] ty #[v,.int .i64 (k:Nat)]))) (Xx P T K) h;rw[Zf];show hw P (Builtin.append_ #[sT,xT] ty #[v,.int .i64 (k:Nat)]) K h;obtain⟨i0,T3⟩:∃i,P.info? e'=some i:=by
   unfold tn at hn
   cases hi:P.info? e' with
   | none=>rw[hi]at hn;cases hn
   | some i=>exact⟨i,rfl⟩
  have RN:i0.bytes=bytes:=by unfold tb at SM;rw[T3]at SM;simpa using SM
  obtain⟨z0,Eu,Ax⟩:∃z,i0.zero=some z∧z.cells.toList=zs:=by
   unfold tz at hz;rw[T3]at hz
   cases Lq:i0.zero with
   | none=>rw[Option.bind_some,Lq]at hz;cases hz
   | some z=>rw[Option.bind_some,Lq]at hz;exact⟨z,rfl,by simpa using hz⟩
  have Za3:z0.cells=zs.toArray:=by rw[←Ax]
  have ug:∃base cap,v=.slice base m cap:=by
   rcases own with⟨⟨p,rfl⟩,rfl,_⟩|⟨b,cap,sp,_,rfl,_⟩
   ·exact⟨_,_,rfl⟩
   ·exact⟨_,_,rfl⟩
  obtain⟨base,cap,hv⟩:=ug;subst hv;have gI:∀{Q:Value→Hp→Prop} (g:Hp),hw P (zeroValue e') Q g=Q z0 g:=fun {Q} g=>by
   unfold zeroValue;rw[Zf,Xf T3];simp only[Eu];rfl
  have nG:IntKind.i64.wrap ((k:Nat):Int)=(k:Nat):=VN .i64 k (by show k<2 ^ 63;omega);have RO:∀{Q:Int→Hp→Prop} (g:Hp),hw P (asInt (.int .i64 (k:Nat))) Q g=Q (k:Nat) g:=fun {Q} g=>by
   rfl
  have Za4:¬((k:Nat):Int)<0:=by omega
  have h48:¬((k:Nat):Int)*(i0.bytes:Nat)>2 ^ 48:=by
   rw[RN,←Int.natCast_mul];have:k*bytes≤2 ^ 48:=by omega
   have h2:((k*bytes:Nat):Int)≤2 ^ 48:=by exact_mod_cast this
   omega
  simp only[Builtin.append_,List.getElem?_toArray,List.getElem?_cons_zero,List.getElem?_cons_succ,Zf,Zw,Zt hu,Zt G8,run_sizeOf hn,if_true,RO,nG,if_neg Za4,Xf T3,if_neg h48,Int.toNat_natCast,Bool.not_true,Bool.false_eq_true,if_false];have nH:∀{Q:Array Value→Hp→Prop} (g:Hp),Q news.toArray g→hw P (if k*n=0 then pure #[] else do pure (Builtin.zeroCells (←zeroValue e').cells k)) Q g:=fun {Q} g q=>by
   by_cases h0:k*n=0
   ·rw[if_pos h0];have:k=0:=by
     rcases Nat.mul_eq_zero.1 h0 with h|h
     ·exact h
     ·exact (HP h).elim
    subst this;have e:news=[]:=List.eq_nil_of_length_eq_zero (by rw[Uq];omega);rw[e]at q;exact q
   ·rw[if_neg h0,Zf,gI,Za3];rw[Dh,Array.toArray_toList]at q;exact q
  by_cases Qi:m+k≤cap
  ·rw[if_pos Qi,Zf];refine nH _ ?_;by_cases Yv:news=[]
   ·rw[Yv];rw[Yv]at Uq H;have hK:K (.slice base (m+k) cap) h:=by
     refine H _ _ ?_ Tm.refl;rcases own with⟨⟨p,h1⟩,h2,h3⟩|⟨b,Kb,spare,Ls,h1,hb,hl,Rp,kM⟩
     ·simp only[Value.slice.injEq]at h1;obtain⟨rfl,rfl,rfl⟩:=h1;have hk:k=0:=by omega
      subst hk;subst h3;exact .inl ⟨⟨_,rfl⟩,rfl,rfl⟩
     ·simp only[Value.slice.injEq]at h1;obtain⟨rfl,_,rfl⟩:=h1;have kO:k*n=0:=by simpa using Uq.symm
      refine .inr ⟨b,cap,spare,Ls,rfl,by simpa using hb,by rw[List.append_nil,hl,Nat.add_mul,kO];rfl,?_,Qi⟩;rw[Rp,Nat.sub_mul,Nat.sub_mul,Nat.add_mul,kO,Nat.add_zero]
    cases base<;>exact hK
   rcases own with⟨⟨p,h1⟩,h2,h3⟩|⟨b,Kb,spare,Ls,h1,hb,hl,Rp,kM⟩
   ·simp only[Value.slice.injEq]at h1;obtain⟨rfl,rfl,rfl⟩:=h1;have hk:k=0:=by omega
    subst hk;exact (Yv (List.eq_nil_of_length_eq_zero (by simpa using Uq))).elim
   ·simp only[Value.slice.injEq]at h1;obtain⟨rfl,_,rfl⟩:=h1;simp only[Zf,Y1];have Tq:news.length≤spare.length:=by rw[Uq,Rp];exact Nat.mul_le_mul_right _ (by omega)
    refine Yi (e:=e') (lo:=0) (hi:=0) rfl (Nat.le_refl _) news 0 h (cs++spare).toArray hb ?_ Y9 ?_
    ·simp;rw[←hl];omega
    ·simp only[Zw,Nat.zero_add,Nat.add_zero];refine H _ _ (.inr ⟨b,cap,spare.drop news.length,Ls,rfl,?_,?_,?_,Qi⟩) ⟨by simp,fun b' XU hx=>?_⟩
     ·rw[Array.getElem?_setIfInBounds,if_pos rfl,if_pos (Za hb)];rw[←hl,Wc,Qy _ _ Tq,List.append_assoc]
     ·rw[List.length_append,hl,Uq,Nat.add_mul]
     ·rw[List.length_drop,Rp,Uq,←Nat.sub_mul];congr 1;omega
     ·rw[Array.getElem?_setIfInBounds,if_neg];intro e;subst e;have hcz:cap≠0:=by
       intro h0;subst h0;have:k=0:=by omega
       subst this;exact Yv (List.eq_nil_of_length_eq_zero (by simpa using Uq))
      exact hx (by simp[ZO,hcz])
  ·rw[if_neg Qi];have QN:¬Builtin.nextslicecap (m+k) cap*i0.bytes>2 ^ 48:=by
    rw[RN];have:=We (m+k) cap bytes (by omega) Yr;omega
   have Ay:¬i0.bytes=0:=by rw[RN];omega
   have dB:m+k≤140737488355328:=Nat.le_trans (by have:=Nat.mul_le_mul_left (m+k) Ka;omega) Yr;have nI:¬((m+k:Nat):Int)>IntKind.i64.max:=by
    have:IntKind.i64.max=9223372036854775807:=rfl;rw[this];omega
   simp only[Zf,Xf T3,nI,false_and,if_false,if_neg QN];intro t;obtain⟨c,hc⟩:=Zy (Question.cut (Question.appendCap (m+k) cap e') t);have np:m+k≤c:=by rw[hc];simp only[Question.cut];omega
   rw[←hc];have RO:∀{Q:Unit→Hp→Prop} (b:Nat) (g:Hp),Q () g→hw P (askRoom b) Q g:=fun {Q} b g q=>by
    unfold askRoom;split<;>exact q
   refine RO _ _ (Z1 own.sl (nH _ ?_));rw[gI];have nq:z0.cells.size=n:=by rw[←Aw,←Ax];simp
   refine H (.slice (some ⟨h.size,0,none⟩) (m+k) c) _ (.inr ⟨h.size,c,(Builtin.zeroCells z0.cells (c-(m+k))).toList,hB,rfl,?_,?_,?_,np⟩) (Tm.push _)
   ·rw[Array.getElem?_push_size];simp
   ·have XR:cs.length=m*n:=by obtain⟨_,_,_,hl,_⟩:=own.sl;exact hl
    rw[List.length_append,XR,Uq,Nat.add_mul]
   ·rw[Array.length_toList,YJ,nq]
 ·cases US
theorem Kj {sT xT E B k:Nat} {v:Value} {l:List Nat} {cb:Array Bool} (US:JD P sT=some E) (G8:P.underlying xT=some (.int .i64)) (hn:tn P E=some 1) (hz:tz P E=some [.int .u8 0]) (SM:tb P E=some 1)
  (own:Z0 B E h v l) (hB:B≤h.size) (Yr:l.length+k≤140737488355328)
  (H:∀v' h',Z0 B E h' v' (l++List.replicate k 0)→Zg B h h'→Tm (ZO v) h h'→K v' h'):T6 P T .append #[sT,xT] ty cb [v,.int .i64 (k:Nat)] K h:=by
 have e:(Builtin.zeroCells [Value.int .u8 0].toArray k).toList=(List.replicate k 0).map bv:=by
  rw[I8,List.map_replicate];rfl
 refine Df US G8 hn hz rfl (by decide) SM own.own hB (by rw[e];exact Tt _) (by omega) (Nat.le_refl _) ?_;intro v' h' ho hb;rw[e,←List.map_append]at ho;refine H v' h' ⟨by simpa using ho,fun x hx=>?_⟩ (hb.Z3 hB own.own.ZG) hb;rcases List.mem_append.1 hx with hx|hx
 ·exact own.byte x hx
 ·rw[List.eq_of_mem_replicate hx];omega
end
end Go.V
