/- W15: 'append(v, make([]T, k)...)'. -/
import Derived.Test.YtboeoomhjbcecaaGreatDoorW14
namespace Go.V
set_option linter.unusedVariables false
set_option linter.unusedSimpArgs false
section
variable {P:Program} {T:World} {K:Value→Hp→Prop} {F:Env} {h:Hp} {ty:TypeId}
theorem Hc (z:Value) (k:Nat):(Builtin.zeroCells #[z] k).toList=List.replicate k z:=by
 apply List.ext_getElem?;intro i;rw[List.getElem?_replicate];by_cases hi:i<k
 ·rw[if_pos hi];simp[Builtin.zeroCells,hi,Nat.mod_one]
 ·rw[if_neg hi,List.getElem?_eq_none];rw[Array.length_toList,YM];simp;omega
theorem Dc {sT xT E B n m k bytes:Nat} {v:Value} {cs zs:List Value} {cb:Array Bool} (UQ:JI P sT=some E) (Fa:P.underlying xT=some (.int .i64)) (hn:tn P E=some n) (hz:tz P E=some zs) (Au:zs.length=n) (HS:n≠0) (SQ:tb P E=some bytes)
  (own:Qv B E n h v m cs) (hB:B≤h.size) (Xc:(Builtin.zeroCells zs.toArray k).toList.all Z7=true) (Ys:(m+k)*bytes≤140737488355328) (Kf:1≤bytes)
  (H:∀v' h',Qv B E n h' v' (m+k) (cs++(Builtin.zeroCells zs.toArray k).toList)→Tv (ZO v) h h'→K v' h'):T9 P T .append #[sT,xT] ty cb [v,.int .i64 (k:Nat)] K h:=by
 have tC:k*bytes≤140737488355328:=Nat.le_trans (Nat.mul_le_mul_right _ (by omega)) Ys;have Zlo:k≤140737488355328:=Nat.le_trans (by have:=Nat.mul_le_mul_left k Kf;omega) tC;have Wb:(Builtin.zeroCells zs.toArray k).toList.length=k*n:=by rw[Array.length_toList,YM];simp[Au]
 obtain⟨news,Dd⟩:=Zx ((Builtin.zeroCells zs.toArray k).toList);rw[←Dd]at Xc Wb H;unfold JI at UQ;split at UQ
 ·rename_i e' hu;simp only[Option.some.injEq]at UQ;subst UQ;show hw P (do pure (.value (←Builtin.append_ #[sT,xT] ty #[v,.int .i64 (k:Nat)]))) (Xy P T K) h;rw[Zg];show hw P (Builtin.append_ #[sT,xT] ty #[v,.int .i64 (k:Nat)]) K h;obtain⟨i0,T6⟩:∃i,P.info? e'=some i:=by
   unfold tn at hn
   cases hi:P.info? e' with
   | none=>rw[hi]at hn;cases hn
   | some i=>exact⟨i,rfl⟩
  have RW:i0.bytes=bytes:=by unfold tb at SQ;rw[T6]at SQ;simpa using SQ
  obtain⟨z0,Et,Av⟩:∃z,i0.zero=some z∧z.cells.toList=zs:=by
   unfold tz at hz;rw[T6]at hz
   cases Lt:i0.zero with
   | none=>rw[Option.bind_some,Lt]at hz;cases hz
   | some z=>rw[Option.bind_some,Lt]at hz;exact⟨z,rfl,by simpa using hz⟩
  have Za2:z0.cells=zs.toArray:=by rw[←Av]
  have ub:∃base cap,v=.slice base m cap:=by
   rcases own with⟨⟨p,rfl⟩,rfl,_⟩|⟨b,cap,sp,_,rfl,_⟩
   ·exact⟨_,_,rfl⟩
   ·exact⟨_,_,rfl⟩
  obtain⟨base,cap,hv⟩:=ub;subst hv;have gK:∀{Q:Value→Hp→Prop} (g:Hp),hw P (zeroValue e') Q g=Q z0 g:=fun {Q} g=>by
   unfold zeroValue;rw[Zg,Xh T6];simp only[Et];rfl
  have ny:IntKind.i64.wrap ((k:Nat):Int)=(k:Nat):=VP .i64 k (by show k<2 ^ 63;omega);have RX:∀{Q:Int→Hp→Prop} (g:Hp),hw P (asInt (.int .i64 (k:Nat))) Q g=Q (k:Nat) g:=fun {Q} g=>by
   rfl
  have Za3:¬((k:Nat):Int)<0:=by omega
  have h48:¬((k:Nat):Int)*(i0.bytes:Nat)>2 ^ 48:=by
   rw[RW,←Int.natCast_mul];have:k*bytes≤2 ^ 48:=by omega
   have h2:((k*bytes:Nat):Int)≤2 ^ 48:=by exact_mod_cast this
   omega
  simp only[Builtin.append_,List.getElem?_toArray,List.getElem?_cons_zero,List.getElem?_cons_succ,Zg,Zw,Zu hu,Zu Fa,run_sizeOf hn,if_true,RX,ny,if_neg Za3,Xh T6,if_neg h48,Int.toNat_natCast,Bool.not_true,Bool.false_eq_true,if_false];have nz:∀{Q:Array Value→Hp→Prop} (g:Hp),Q news.toArray g→hw P (if k*n=0 then pure #[] else do pure (Builtin.zeroCells (←zeroValue e').cells k)) Q g:=fun {Q} g q=>by
   by_cases h0:k*n=0
   ·rw[if_pos h0];have:k=0:=by
     rcases Nat.mul_eq_zero.1 h0 with h|h
     ·exact h
     ·exact (HS h).elim
    subst this;have e:news=[]:=List.eq_nil_of_length_eq_zero (by rw[Wb];omega);rw[e]at q;exact q
   ·rw[if_neg h0,Zg,gK,Za2];rw[Dd,Array.toArray_toList]at q;exact q
  by_cases J4:m+k≤cap
  ·rw[if_pos J4,Zg];refine nz _ ?_;by_cases YA:news=[]
   ·rw[YA];rw[YA]at Wb H;have hK:K (.slice base (m+k) cap) h:=by
     refine H _ _ ?_ Tv.refl;rcases own with⟨⟨p,h1⟩,h2,h3⟩|⟨b,Kh,spare,Lv,h1,hb,hl,Ry,kR⟩
     ·simp only[Value.slice.injEq]at h1;obtain⟨rfl,rfl,rfl⟩:=h1;have hk:k=0:=by omega
      subst hk;subst h3;exact .inl ⟨⟨_,rfl⟩,rfl,rfl⟩
     ·simp only[Value.slice.injEq]at h1;obtain⟨rfl,_,rfl⟩:=h1;have kS:k*n=0:=by simpa using Wb.symm
      refine .inr ⟨b,cap,spare,Lv,rfl,by simpa using hb,by rw[List.append_nil,hl,Nat.add_mul,kS];rfl,?_,J4⟩;rw[Ry,Nat.sub_mul,Nat.sub_mul,Nat.add_mul,kS,Nat.add_zero]
    cases base<;>exact hK
   rcases own with⟨⟨p,h1⟩,h2,h3⟩|⟨b,Kh,spare,Lv,h1,hb,hl,Ry,kR⟩
   ·simp only[Value.slice.injEq]at h1;obtain⟨rfl,rfl,rfl⟩:=h1;have hk:k=0:=by omega
    subst hk;exact (YA (List.eq_nil_of_length_eq_zero (by simpa using Wb))).elim
   ·simp only[Value.slice.injEq]at h1;obtain⟨rfl,_,rfl⟩:=h1;simp only[Zg,Y4];have Ty:news.length≤spare.length:=by rw[Wb,Ry];exact Nat.mul_le_mul_right _ (by omega)
    refine Yk (e:=e') (lo:=0) (hi:=0) rfl (Nat.le_refl _) news 0 h (cs++spare).toArray hb ?_ Xc ?_
    ·simp;rw[←hl];omega
    ·simp only[Zw,Nat.zero_add,Nat.add_zero];refine H _ _ (.inr ⟨b,cap,spare.drop news.length,Lv,rfl,?_,?_,?_,J4⟩) ⟨by simp,fun b' XH hx=>?_⟩
     ·rw[Array.getElem?_setIfInBounds,if_pos rfl,if_pos (Za hb)];rw[←hl,U9,QA _ _ Ty,List.append_assoc]
     ·rw[List.length_append,hl,Wb,Nat.add_mul]
     ·rw[List.length_drop,Ry,Wb,←Nat.sub_mul];congr 1;omega
     ·rw[Array.getElem?_setIfInBounds,if_neg];intro e;subst e;have hcz:cap≠0:=by
       intro h0;subst h0;have:k=0:=by omega
       subst this;exact YA (List.eq_nil_of_length_eq_zero (by simpa using Wb))
      exact hx (by simp[ZO,hcz])
  ·rw[if_neg J4];have QO:¬Builtin.nextslicecap (m+k) cap*i0.bytes>2 ^ 48:=by
    rw[RW];have:=Wa (m+k) cap bytes (by omega) Ys;omega
   have Aw:¬i0.bytes=0:=by rw[RW];omega
   have dy:m+k≤140737488355328:=Nat.le_trans (by have:=Nat.mul_le_mul_left (m+k) Kf;omega) Ys;have nA:¬((m+k:Nat):Int)>IntKind.i64.max:=by
    have:IntKind.i64.max=9223372036854775807:=rfl;rw[this];omega
   simp only[Zg,Xh T6,nA,false_and,if_false,if_neg QO];intro t;obtain⟨c,hc⟩:=Zx (Question.cut (Question.appendCap (m+k) cap e') t);have nh:m+k≤c:=by rw[hc];simp only[Question.cut];omega
   rw[←hc];have RX:∀{Q:Unit→Hp→Prop} (b:Nat) (g:Hp),Q () g→hw P (askRoom b) Q g:=fun {Q} b g q=>by
    unfold askRoom;split<;>exact q
   refine RX _ _ (Z4 own.sl (nz _ ?_));rw[gK];have nj:z0.cells.size=n:=by rw[←Au,←Av];simp
   refine H (.slice (some ⟨h.size,0,none⟩) (m+k) c) _ (.inr ⟨h.size,c,(Builtin.zeroCells z0.cells (c-(m+k))).toList,hB,rfl,?_,?_,?_,nh⟩) (Tv.push _)
   ·rw[Array.getElem?_push_size];simp
   ·have XW:cs.length=m*n:=by obtain⟨_,_,_,hl,_⟩:=own.sl;exact hl
    rw[List.length_append,XW,Wb,Nat.add_mul]
   ·rw[Array.length_toList,YM,nj]
 ·cases UQ
theorem Kq {sT xT E B k:Nat} {v:Value} {l:List Nat} {cb:Array Bool} (UQ:JI P sT=some E) (Fa:P.underlying xT=some (.int .i64)) (hn:tn P E=some 1) (hz:tz P E=some [.int .u8 0]) (SQ:tb P E=some 1)
  (own:Z0 B E h v l) (hB:B≤h.size) (Ys:l.length+k≤140737488355328)
  (H:∀v' h',Z0 B E h' v' (l++List.replicate k 0)→Zf B h h'→Tv (ZO v) h h'→K v' h'):T9 P T .append #[sT,xT] ty cb [v,.int .i64 (k:Nat)] K h:=by
 have e:(Builtin.zeroCells [Value.int .u8 0].toArray k).toList=(List.replicate k 0).map bv:=by
  rw[Hc,List.map_replicate];rfl
 refine Dc UQ Fa hn hz rfl (by decide) SQ own.own hB (by rw[e];exact TA _) (by omega) (Nat.le_refl _) ?_;intro v' h' ho hb;rw[e,←List.map_append]at ho;refine H v' h' ⟨by simpa using ho,fun x hx=>?_⟩ (hb.Z2 hB own.own.ZG) hb;rcases List.mem_append.1 hx with hx|hx
 ·exact own.byte x hx
 ·rw[List.eq_of_mem_replicate hx];omega
end
end Go.V
