/- W15: 'append(v, make([]T, k)...)'. -/
import Derived.Test.YtnhbpmoeaodmnaaGreatDoorW14
namespace Go.V
set_option linter.unusedVariables false
set_option linter.unusedSimpArgs false
section
variable {P:Program} {T:World} {K:Value→Hp→Prop} {F:Env} {h:Hp} {ty:TypeId}
theorem zeroCells_one (z:Value) (k:Nat):(Builtin.zeroCells #[z] k).toList=List.replicate k z:=by
 apply List.ext_getElem?
 intro i
 rw [List.getElem?_replicate]
 by_cases hi:i<k
 ·rw [if_pos hi]
  simp [Builtin.zeroCells,hi,Nat.mod_one]
 ·rw [if_neg hi,List.getElem?_eq_none]
  rw [Array.length_toList,zeroCells_size]; simp; omega
theorem append_made {sT xT E B n m k bytes:Nat} {v:Value} {cs zs:List Value} {cb:Array Bool} (hsT:tsl P sT=some E) (hxT:P.underlying xT=some (.int .i64)) (hn:tn P E=some n) (hz:tz P E=some zs) (hzn:zs.length=n) (hn0:n≠0) (hby:tb P E=some bytes)
  (own:Own B E n h v m cs) (hB:B≤h.size) (hone:(Builtin.zeroCells zs.toArray k).toList.all oneC=true) (hroom:(m+k)*bytes≤140737488355328) (hb1:1≤bytes)
  (H:∀ v' h',Own B E n h' v' (m+k) (cs++(Builtin.zeroCells zs.toArray k).toList)→But (blkOf v) h h'→K v' h'):vBi P T .append #[sT,xT] ty cb [v,.int .i64 (k:Nat)] K h:=by
 have hkb:k*bytes≤140737488355328:=Nat.le_trans (Nat.mul_le_mul_right _ (by omega)) hroom
 have hk48:k≤140737488355328:=Nat.le_trans (by have:=Nat.mul_le_mul_left k hb1; omega) hkb
 have hnl:(Builtin.zeroCells zs.toArray k).toList.length=k*n:=by rw [Array.length_toList,zeroCells_size]; simp [hzn]
 obtain ⟨news,hnews⟩:∃ news,news=(Builtin.zeroCells zs.toArray k).toList:=⟨_,rfl⟩
 rw [← hnews] at hone hnl H
 unfold tsl at hsT
 split at hsT
 ·rename_i e' hu
  simp only [Option.some.injEq] at hsT
  subst hsT
  show hw P (do pure (.value (← Builtin.append_ #[sT,xT] ty #[v,.int .i64 (k:Nat)]))) (vNext P T K) h
  rw [hw_bind]
  show hw P (Builtin.append_ #[sT,xT] ty #[v,.int .i64 (k:Nat)]) K h
  obtain ⟨i0,hi0⟩:∃ i,P.info? e'=some i:=by
   unfold tn at hn
   cases hi:P.info? e' with
   | none=>rw [hi] at hn; cases hn
   | some i=>exact ⟨i,rfl⟩
  have hib:i0.bytes=bytes:=by unfold tb at hby; rw [hi0] at hby; simpa using hby
  obtain ⟨z0,hz0,hzs⟩:∃ z,i0.zero=some z∧z.cells.toList=zs:=by
   unfold tz at hz; rw [hi0] at hz
   cases hzz:i0.zero with
   | none=>rw [Option.bind_some,hzz] at hz; cases hz
   | some z=>rw [Option.bind_some,hzz] at hz; exact ⟨z,rfl,by simpa using hz⟩
  have hzcs:z0.cells=zs.toArray:=by rw [← hzs]
  have hvs:∃ base cap,v=.slice base m cap:=by
   rcases own with ⟨⟨p,rfl⟩,rfl,_⟩ | ⟨b,cap,sp,_,rfl,_⟩
   ·exact ⟨_,_,rfl⟩
   ·exact ⟨_,_,rfl⟩
  obtain ⟨base,cap,hv⟩:=hvs
  subst hv
  have hzv:∀ {Q:Value→Hp→Prop} (g:Hp),hw P (zeroValue e') Q g=Q z0 g:=fun {Q} g=>by
   unfold zeroValue; rw [hw_bind,run_info hi0]; simp only [hz0]; rfl
  have hwrap:IntKind.i64.wrap ((k:Nat):Int)=(k:Nat):=wrap_nat .i64 k (by show k<2 ^ 63; omega)
  have hask:∀ {Q:Int→Hp→Prop} (g:Hp),hw P (asInt (.int .i64 (k:Nat))) Q g=Q (k:Nat) g:=fun {Q} g=>by
   rfl
  have hlt0:¬ ((k:Nat):Int)<0:=by omega
  have h48:¬ ((k:Nat):Int)*(i0.bytes:Nat) > 2 ^ 48:=by
   rw [hib,← Int.natCast_mul]
   have:k*bytes≤2 ^ 48:=by omega
   have h2:((k*bytes:Nat):Int)≤2 ^ 48:=by exact_mod_cast this
   omega
  simp only [Builtin.append_,List.getElem?_toArray,List.getElem?_cons_zero,List.getElem?_cons_succ,hw_bind,hw_pure,run_under hu,run_under hxT,run_sizeOf hn,if_true,hask,hwrap,if_neg hlt0,run_info hi0,if_neg h48,Int.toNat_natCast,Bool.not_true,Bool.false_eq_true,if_false]
  have happ:∀ {Q:Array Value→Hp→Prop} (g:Hp),Q news.toArray g→hw P (if k*n=0 then pure #[] else do pure (Builtin.zeroCells (← zeroValue e').cells k)) Q g:=fun {Q} g q=>by
   by_cases h0:k*n=0
   ·rw [if_pos h0]
    have:k=0:=by
     rcases Nat.mul_eq_zero.1 h0 with h | h
     ·exact h
     ·exact (hn0 h).elim
    subst this
    have e:news=[]:=List.eq_nil_of_length_eq_zero (by rw [hnl]; omega)
    rw [e] at q
    exact q
   ·rw [if_neg h0,hw_bind,hzv,hzcs]
    rw [hnews,Array.toArray_toList] at q
    exact q
  by_cases hfit:m+k≤cap
  ·rw [if_pos hfit,hw_bind]
   refine happ _ ?_
   by_cases hne:news=[]
   ·rw [hne]
    rw [hne] at hnl H
    have hK:K (.slice base (m+k) cap) h:=by
     refine H _ _ ?_ But.refl
     rcases own with ⟨⟨p,h1⟩,h2,h3⟩ | ⟨b,cap',spare,hBb,h1,hb,hl,hsp,hmc⟩
     ·simp only [Value.slice.injEq] at h1
      obtain ⟨rfl,rfl,rfl⟩:=h1
      have hk:k=0:=by omega
      subst hk; subst h3
      exact .inl ⟨⟨_,rfl⟩,rfl,rfl⟩
     ·simp only [Value.slice.injEq] at h1
      obtain ⟨rfl,_,rfl⟩:=h1
      have hkn:k*n=0:=by simpa using hnl.symm
      refine .inr ⟨b,cap,spare,hBb,rfl,by simpa using hb,by rw [List.append_nil,hl,Nat.add_mul,hkn]; rfl,?_,hfit⟩
      rw [hsp,Nat.sub_mul,Nat.sub_mul,Nat.add_mul,hkn,Nat.add_zero]
    cases base <;> exact hK
   rcases own with ⟨⟨p,h1⟩,h2,h3⟩ | ⟨b,cap',spare,hBb,h1,hb,hl,hsp,hmc⟩
   ·simp only [Value.slice.injEq] at h1
    obtain ⟨rfl,rfl,rfl⟩:=h1
    have hk:k=0:=by omega
    subst hk
    exact (hne (List.eq_nil_of_length_eq_zero (by simpa using hnl))).elim
   ·simp only [Value.slice.injEq] at h1
    obtain ⟨rfl,_,rfl⟩:=h1
    simp only [hw_bind,addr_add]
    have hroom2:news.length≤spare.length:=by rw [hnl,hsp]; exact Nat.mul_le_mul_right _ (by omega)
    refine run_storeCells (e:=e') (lo:=0) (hi:=0) rfl (Nat.le_refl _) news 0 h (cs++spare).toArray hb ?_ hone ?_
    ·simp; rw [← hl]; omega
    ·simp only [hw_pure,Nat.zero_add,Nat.add_zero]
     refine H _ _ (.inr ⟨b,cap,spare.drop news.length,hBb,rfl,?_,?_,?_,hfit⟩) ⟨by simp,fun b' hb' hx=>?_⟩
     ·rw [Array.getElem?_setIfInBounds,if_pos rfl,if_pos (lt_of_get hb)]
      rw [← hl,lput_app,lput_zero _ _ hroom2,List.append_assoc]
     ·rw [List.length_append,hl,hnl,Nat.add_mul]
     ·rw [List.length_drop,hsp,hnl,← Nat.sub_mul]; congr 1; omega
     ·rw [Array.getElem?_setIfInBounds,if_neg]
      intro e; subst e
      have hcz:cap≠0:=by
       intro h0; subst h0
       have:k=0:=by omega
       subst this
       exact hne (List.eq_nil_of_length_eq_zero (by simpa using hnl))
      exact hx (by simp [blkOf,hcz])
  ·rw [if_neg hfit]
   have hcap:¬ Builtin.nextslicecap (m+k) cap*i0.bytes > 2 ^ 48:=by
    rw [hib]
    have:=nextcap_le (m+k) cap bytes (by omega) hroom
    omega
   have hib0:¬ i0.bytes=0:=by rw [hib]; omega
   have hmk:m+k≤140737488355328:=Nat.le_trans (by have:=Nat.mul_le_mul_left (m+k) hb1; omega) hroom
   have hmax:¬ ((m+k:Nat):Int) > IntKind.i64.max:=by
    have:IntKind.i64.max=9223372036854775807:=rfl
    rw [this]; omega
   simp only [hw_bind,run_info hi0,hmax,false_and,if_false,if_neg hcap]
   intro t
   obtain ⟨c,hc⟩:∃ c,c=Question.cut (Question.appendCap (m+k) cap e') t:=⟨_,rfl⟩
   have hcn:m+k≤c:=by rw [hc]; simp only [Question.cut]; omega
   rw [← hc]
   have hask:∀ {Q:Unit→Hp→Prop} (b:Nat) (g:Hp),Q () g→hw P (askRoom b) Q g:=fun {Q} b g q=>by
    unfold askRoom; split <;> exact q
   refine hask _ _ (run_firstCells own.sl (happ _ ?_))
   rw [hzv]
   have hzc:z0.cells.size=n:=by rw [← hzn,← hzs]; simp
   refine H (.slice (some ⟨h.size,0,none⟩) (m+k) c) _ (.inr ⟨h.size,c,(Builtin.zeroCells z0.cells (c - (m+k))).toList,hB,rfl,?_,?_,?_,hcn⟩) (But.push _)
   ·rw [Array.getElem?_push_size]
    simp
   ·have hcl:cs.length=m*n:=by obtain ⟨_,_,_,hl,_⟩:=own.sl; exact hl
    rw [List.length_append,hcl,hnl,Nat.add_mul]
   ·rw [Array.length_toList,zeroCells_size,hzc]
 ·cases hsT
theorem append_noughts {sT xT E B k:Nat} {v:Value} {l:List Nat} {cb:Array Bool} (hsT:tsl P sT=some E) (hxT:P.underlying xT=some (.int .i64)) (hn:tn P E=some 1) (hz:tz P E=some [.int .u8 0]) (hby:tb P E=some 1)
  (own:OBs B E h v l) (hB:B≤h.size) (hroom:l.length+k≤140737488355328)
  (H:∀ v' h',OBs B E h' v' (l++List.replicate k 0)→Bel B h h'→But (blkOf v) h h'→K v' h'):vBi P T .append #[sT,xT] ty cb [v,.int .i64 (k:Nat)] K h:=by
 have e:(Builtin.zeroCells [Value.int .u8 0].toArray k).toList=(List.replicate k 0).map bv:=by
  rw [zeroCells_one,List.map_replicate]; rfl
 refine append_made hsT hxT hn hz rfl (by decide) hby own.own hB (by rw [e]; exact bv_one _) (by omega) (Nat.le_refl _) ?_
 intro v' h' ho hb
 rw [e,← List.map_append] at ho
 refine H v' h' ⟨by simpa using ho,fun x hx=>?_⟩ (hb.bel hB own.own.blk) hb
 rcases List.mem_append.1 hx with hx | hx
 ·exact own.byte x hx
 ·rw [List.eq_of_mem_replicate hx]; omega
end
end Go.V
