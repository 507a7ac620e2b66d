/- W15: 'append(v, make([]T, k)...)'. -/
import Derived.Test.YtnhbpmoeaodmnaaGreatDoorW14
namespace Go.V
set_option linter.unusedVariables false
set_option linter.unusedSimpArgs false
section
variable {P:Program} {T:World} {K:Value→Hp→Prop} {F:Env} {h:Hp} {ty:TypeId}
theorem Zhz (z:Value) (k:Nat):(Builtin.zeroCells #[z] k).toList=List.replicate k z:=by
 apply List.ext_getElem?
 intro i
 rw[List.getElem?_replicate]
 by_cases hi:i<k
 ·rw[if_pos hi]
  simp[Builtin.zeroCells,hi,Nat.mod_one]
 ·rw[if_neg hi,List.getElem?_eq_none]
  rw[Array.length_toList,YD];simp;omega
theorem Zkf {sT xT E B n m k bytes:Nat} {v:Value} {cs zs:List Value} {cb:Array Bool} (hsT:Jj P sT=some E) (hxT:P.underlying xT=some (.int .i64)) (hn:tn P E=some n) (hz:tz P E=some zs) (hzn:zs.length=n) (hn0:n≠0) (hby:tb P E=some bytes)
  (own:Qq B E n h v m cs) (hB:B≤h.size) (Xf:(Builtin.zeroCells zs.toArray k).toList.all Z8=true) (Yn:(m+k)*bytes≤140737488355328) (hb1:1≤bytes)
  (H:∀v' h',Qq B E n h' v' (m+k) (cs++(Builtin.zeroCells zs.toArray k).toList)→But (ZT v) h h'→K v' h'):vBi P T .append #[sT,xT] ty cb [v,.int .i64 (k:Nat)] K h:=by
 have hkb:k*bytes≤140737488355328:=Nat.le_trans (Nat.mul_le_mul_right _ (by omega)) Yn
 have ZDA:k≤140737488355328:=Nat.le_trans (by have:=Nat.mul_le_mul_left k hb1;omega) hkb
 have QX:(Builtin.zeroCells zs.toArray k).toList.length=k*n:=by rw[Array.length_toList,YD];simp[hzn]
 obtain⟨news,Zkg⟩:=Zx ((Builtin.zeroCells zs.toArray k).toList)
 rw[←Zkg]at Xf QX H
 unfold Jj at hsT
 split at hsT
 ·rename_i e' hu
  simp only[Option.some.injEq]at hsT
  subst hsT
  show hw P (do pure (.value (←Builtin.append_ #[sT,xT] ty #[v,.int .i64 (k:Nat)]))) (Xn P T K) h
  rw[Ze]
  show hw P (Builtin.append_ #[sT,xT] ty #[v,.int .i64 (k:Nat)]) K h
  obtain⟨i0,hi0⟩:∃i,P.info? e'=some i:=by
   unfold tn at hn
   cases hi:P.info? e' with
   | none=>rw[hi]at hn;cases hn
   | some i=>exact⟨i,rfl⟩
  have hib:i0.bytes=bytes:=by unfold tb at hby;rw[hi0]at hby;simpa using hby
  obtain⟨z0,hz0,hzs⟩:∃z,i0.zero=some z∧z.cells.toList=zs:=by
   unfold tz at hz;rw[hi0]at hz
   cases hzz:i0.zero with
   | none=>rw[Option.bind_some,hzz]at hz;cases hz
   | some z=>rw[Option.bind_some,hzz]at hz;exact⟨z,rfl,by simpa using hz⟩
  have ZxM:z0.cells=zs.toArray:=by rw[←hzs]
  have hvs:∃base cap,v=.slice base m cap:=by
   rcases own with⟨⟨p,rfl⟩,rfl,_⟩|⟨b,cap,sp,_,rfl,_⟩
   ·exact⟨_,_,rfl⟩
   ·exact⟨_,_,rfl⟩
  obtain⟨base,cap,hv⟩:=hvs
  subst hv
  have hzv:∀{Q:Value→Hp→Prop} (g:Hp),hw P (zeroValue e') Q g=Q z0 g:=fun {Q} g=>by
   unfold zeroValue;rw[Ze,Y5 hi0];simp only[hz0];rfl
  have Zsi:IntKind.i64.wrap ((k:Nat):Int)=(k:Nat):=ZaS .i64 k (by show k<2 ^ 63;omega)
  have ZcS:∀{Q:Int→Hp→Prop} (g:Hp),hw P (asInt (.int .i64 (k:Nat))) Q g=Q (k:Nat) g:=fun {Q} g=>by
   rfl
  have ZxN:¬((k:Nat):Int)<0:=by omega
  have h48:¬((k:Nat):Int)*(i0.bytes:Nat)>2 ^ 48:=by
   rw[hib,←Int.natCast_mul]
   have:k*bytes≤2 ^ 48:=by omega
   have h2:((k*bytes:Nat):Int)≤2 ^ 48:=by exact_mod_cast this
   omega
  simp only[Builtin.append_,List.getElem?_toArray,List.getElem?_cons_zero,List.getElem?_cons_succ,Ze,Zt,Zs hu,Zs hxT,run_sizeOf hn,if_true,ZcS,Zsi,if_neg ZxN,Y5 hi0,if_neg h48,Int.toNat_natCast,Bool.not_true,Bool.false_eq_true,if_false]
  have Zsj:∀{Q:Array Value→Hp→Prop} (g:Hp),Q news.toArray g→hw P (if k*n=0 then pure #[] else do pure (Builtin.zeroCells (←zeroValue e').cells k)) Q g:=fun {Q} g q=>by
   by_cases h0:k*n=0
   ·rw[if_pos h0]
    have:k=0:=by
     rcases Nat.mul_eq_zero.1 h0 with h|h
     ·exact h
     ·exact (hn0 h).elim
    subst this
    have e:news=[]:=List.eq_nil_of_length_eq_zero (by rw[QX];omega)
    rw[e]at q
    exact q
   ·rw[if_neg h0,Ze,hzv,ZxM]
    rw[Zkg,Array.toArray_toList]at q
    exact q
  by_cases JX:m+k≤cap
  ·rw[if_pos JX,Ze]
   refine Zsj _ ?_
   by_cases Ys:news=[]
   ·rw[Ys]
    rw[Ys]at QX H
    have hK:K (.slice base (m+k) cap) h:=by
     refine H _ _ ?_ But.refl
     rcases own with⟨⟨p,h1⟩,h2,h3⟩|⟨b,Zga,spare,hBb,h1,hb,hl,hsp,hmc⟩
     ·simp only[Value.slice.injEq]at h1
      obtain⟨rfl,rfl,rfl⟩:=h1
      have hk:k=0:=by omega
      subst hk;subst h3
      exact .inl ⟨⟨_,rfl⟩,rfl,rfl⟩
     ·simp only[Value.slice.injEq]at h1
      obtain⟨rfl,_,rfl⟩:=h1
      have hkn:k*n=0:=by simpa using QX.symm
      refine .inr ⟨b,cap,spare,hBb,rfl,by simpa using hb,by rw[List.append_nil,hl,Nat.add_mul,hkn];rfl,?_,JX⟩
      rw[hsp,Nat.sub_mul,Nat.sub_mul,Nat.add_mul,hkn,Nat.add_zero]
    cases base<;>exact hK
   rcases own with⟨⟨p,h1⟩,h2,h3⟩|⟨b,Zga,spare,hBb,h1,hb,hl,hsp,hmc⟩
   ·simp only[Value.slice.injEq]at h1
    obtain⟨rfl,rfl,rfl⟩:=h1
    have hk:k=0:=by omega
    subst hk
    exact (Ys (List.eq_nil_of_length_eq_zero (by simpa using QX))).elim
   ·simp only[Value.slice.injEq]at h1
    obtain⟨rfl,_,rfl⟩:=h1
    simp only[Ze,YV]
    have Zbi:news.length≤spare.length:=by rw[QX,hsp];exact Nat.mul_le_mul_right _ (by omega)
    refine Yd (e:=e') (lo:=0) (hi:=0) rfl (Nat.le_refl _) news 0 h (cs++spare).toArray hb ?_ Xf ?_
    ·simp;rw[←hl];omega
    ·simp only[Zt,Nat.zero_add,Nat.add_zero]
     refine H _ _ (.inr ⟨b,cap,spare.drop news.length,hBb,rfl,?_,?_,?_,JX⟩) ⟨by simp,fun b' XL hx=>?_⟩
     ·rw[Array.getElem?_setIfInBounds,if_pos rfl,if_pos (Za hb)]
      rw[←hl,UJ,Qh _ _ Zbi,List.append_assoc]
     ·rw[List.length_append,hl,QX,Nat.add_mul]
     ·rw[List.length_drop,hsp,QX,←Nat.sub_mul];congr 1;omega
     ·rw[Array.getElem?_setIfInBounds,if_neg]
      intro e;subst e
      have hcz:cap≠0:=by
       intro h0;subst h0
       have:k=0:=by omega
       subst this
       exact Ys (List.eq_nil_of_length_eq_zero (by simpa using QX))
      exact hx (by simp[ZT,hcz])
  ·rw[if_neg JX]
   have JO:¬Builtin.nextslicecap (m+k) cap*i0.bytes>2 ^ 48:=by
    rw[hib]
    have:=UK (m+k) cap bytes (by omega) Yn
    omega
   have Zmv:¬i0.bytes=0:=by rw[hib];omega
   have hmk:m+k≤140737488355328:=Nat.le_trans (by have:=Nat.mul_le_mul_left (m+k) hb1;omega) Yn
   have Zsk:¬((m+k:Nat):Int)>IntKind.i64.max:=by
    have:IntKind.i64.max=9223372036854775807:=rfl
    rw[this];omega
   simp only[Ze,Y5 hi0,Zsk,false_and,if_false,if_neg JO]
   intro t
   obtain⟨c,hc⟩:=Zx (Question.cut (Question.appendCap (m+k) cap e') t)
   have hcn:m+k≤c:=by rw[hc];simp only[Question.cut];omega
   rw[←hc]
   have ZcS:∀{Q:Unit→Hp→Prop} (b:Nat) (g:Hp),Q () g→hw P (askRoom b) Q g:=fun {Q} b g q=>by
    unfold askRoom;split<;>exact q
   refine ZcS _ _ (Z1 own.sl (Zsj _ ?_))
   rw[hzv]
   have hzc:z0.cells.size=n:=by rw[←hzn,←hzs];simp
   refine H (.slice (some ⟨h.size,0,none⟩) (m+k) c) _ (.inr ⟨h.size,c,(Builtin.zeroCells z0.cells (c-(m+k))).toList,hB,rfl,?_,?_,?_,hcn⟩) (But.push _)
   ·rw[Array.getElem?_push_size]
    simp
   ·have XU:cs.length=m*n:=by obtain⟨_,_,_,hl,_⟩:=own.sl;exact hl
    rw[List.length_append,XU,QX,Nat.add_mul]
   ·rw[Array.length_toList,YD,hzc]
 ·cases hsT
theorem Zgj {sT xT E B k:Nat} {v:Value} {l:List Nat} {cb:Array Bool} (hsT:Jj P sT=some E) (hxT:P.underlying xT=some (.int .i64)) (hn:tn P E=some 1) (hz:tz P E=some [.int .u8 0]) (hby:tb P E=some 1)
  (own:ZZ B E h v l) (hB:B≤h.size) (Yn:l.length+k≤140737488355328)
  (H:∀v' h',ZZ B E h' v' (l++List.replicate k 0)→Zf B h h'→But (ZT v) h h'→K v' h'):vBi P T .append #[sT,xT] ty cb [v,.int .i64 (k:Nat)] K h:=by
 have e:(Builtin.zeroCells [Value.int .u8 0].toArray k).toList=(List.replicate k 0).map bv:=by
  rw[Zhz,List.map_replicate];rfl
 refine Zkf hsT hxT hn hz rfl (by decide) hby own.own hB (by rw[e];exact Zbj _) (by omega) (Nat.le_refl _) ?_
 intro v' h' ho hb
 rw[e,←List.map_append]at ho
 refine H v' h' ⟨by simpa using ho,fun x hx=>?_⟩ (hb.Z9 hB own.own.ZE) hb
 rcases List.mem_append.1 hx with hx|hx
 ·exact own.byte x hx
 ·rw[List.eq_of_mem_replicate hx];omega
end
end Go.V
