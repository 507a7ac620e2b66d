/- W12: append, and where its result lies. -/
import Derived.Test.YtnhbpmoeaodmnaaGreatDoorW11
namespace Go.V
set_option linter.unusedVariables false
set_option linter.unusedSimpArgs false
section
variable {P:Program} {T:World} {K:Value→Hp→Prop} {F:Env} {h:Hp} {ty:TypeId}
theorem append_own2 {sT xT E E' B n m k bytes:Nat} {v s:Value} {cs news zs:List Value} {cb:Array Bool} (hsT:tsl P sT=some E) (hxT:P.underlying xT=some (.slice E')) (hn:tn P E=some n) (hz:tz P E=some zs) (hzn:zs.length=n) (hby:tb P E=some bytes)
  (own:Own B E n h v m cs) (hB:B≤h.size) (src:Sl n h s k news) (hone:news.all oneC=true) (hroom:(m+k)*bytes≤140737488355328) (hb1:1≤bytes)
  (H:∀ v' h',Own B E n h' v' (m+k) (cs++news)→But (blkOf v) h h'→(∀ b,blkOf v'=some b→blkOf v=some b∨h.size≤b)→K v' h'):vBi P T .append #[sT,xT] ty cb [v,s] K h:=by
 unfold tsl at hsT
 split at hsT
 ·rename_i e' hu
  simp only [Option.some.injEq] at hsT
  subst hsT
  show hw P (do pure (.value (← Builtin.append_ #[sT,xT] ty #[v,s]))) (vNext P T K) h
  rw [hw_bind]
  show hw P (Builtin.append_ #[sT,xT] ty #[v,s]) K h
  obtain ⟨i0,hi0⟩:∃ i,P.info? e'=some i:=by
   unfold tn at hn
   cases hi:P.info? e' with
   | none=>rw [hi] at hn; cases hn
   | some i=>exact ⟨i,rfl⟩
  have hib:i0.bytes=bytes:=by unfold tb at hby; rw [hi0] at hby; simpa using hby
  obtain ⟨z0,hz0,hzs⟩:∃ z,i0.zero=some z∧z.cells.toList=zs:=by
   unfold tz at hz; rw [hi0] at hz
   cases hzz:i0.zero with
   | none=>rw [Option.bind_some,hzz] at hz; cases hz
   | some z=>rw [Option.bind_some,hzz] at hz; exact ⟨z,rfl,by simpa using hz⟩
  have hvs:∃ base cap,v=.slice base m cap:=by
   rcases own with ⟨⟨p,rfl⟩,rfl,_⟩ | ⟨b,cap,sp,_,rfl,_⟩
   ·exact ⟨_,_,rfl⟩
   ·exact ⟨_,_,rfl⟩
  obtain ⟨base,cap,hv⟩:=hvs
  subst hv
  have hzv:∀ {Q:Value→Hp→Prop} (g:Hp),hw P (zeroValue e') Q g=Q z0 g:=fun {Q} g=>by
   unfold zeroValue; rw [hw_bind,run_info hi0]; simp only [hz0]; rfl
  simp only [Builtin.append_,List.getElem?_toArray,List.getElem?_cons_zero,List.getElem?_cons_succ,hw_bind,hw_pure,run_under hu,run_under hxT,run_sizeOf hn,Bool.false_eq_true,if_false,src.lenOf,Bool.not_false,if_true]
  by_cases hfit:m+k≤cap
  ·rw [if_pos hfit,hw_bind]
   refine run_firstCells src ?_
   have hnl:news.length=k*n:=by obtain ⟨_,_,_,hl,_⟩:=src; exact hl
   by_cases hne:news=[]
   ·subst hne
    have hsame:hw P (match base with | some a=>(do storeCells (a.add (m*n)) []; pure (Value.slice base (m+k) cap)) | none=>pure (Value.slice base (m+k) cap)) K h=K (.slice base (m+k) cap) h:=by
     cases base <;> rfl
    have hK:K (.slice base (m+k) cap) h:=by
     refine H _ _ ?_ But.refl (fun b hb=>.inl (by
      cases base with
      | none=>simp [blkOf] at hb
      | some a=>simpa [blkOf] using hb))
     rcases own with ⟨⟨p,h1⟩,h2,h3⟩ | ⟨b,cap',spare,hBb,h1,hb,hl,hsp,hmc⟩
     ·simp only [Value.slice.injEq] at h1
      obtain ⟨rfl,rfl,rfl⟩:=h1
      have hk:k=0:=by omega
      subst hk; subst h3
      exact .inl ⟨⟨_,rfl⟩,rfl,rfl⟩
     ·simp only [Value.slice.injEq] at h1
      obtain ⟨rfl,_,rfl⟩:=h1
      have hkn:k*n=0:=by simpa using hnl.symm
      refine .inr ⟨b,cap,spare,hBb,rfl,by simpa using hb,by rw [List.append_nil,hl,Nat.add_mul,hkn]; rfl,?_,hfit⟩
      rw [hsp,Nat.sub_mul,Nat.sub_mul,Nat.add_mul,hkn,Nat.add_zero]
    cases base <;> exact hK
   rcases own with ⟨⟨p,h1⟩,h2,h3⟩ | ⟨b,cap',spare,hBb,h1,hb,hl,hsp,hmc⟩
   ·simp only [Value.slice.injEq] at h1
    obtain ⟨rfl,rfl,rfl⟩:=h1
    have hk:k=0:=by omega
    subst hk
    exact (hne (List.eq_nil_of_length_eq_zero (by simpa using hnl))).elim
   ·simp only [Value.slice.injEq] at h1
    obtain ⟨rfl,_,rfl⟩:=h1
    simp only [hw_bind,addr_add]
    have hroom2:news.length≤spare.length:=by rw [hnl,hsp]; exact Nat.mul_le_mul_right _ (by omega)
    refine run_storeCells (e:=e') (lo:=0) (hi:=0) rfl (Nat.le_refl _) news 0 h (cs++spare).toArray hb ?_ hone ?_
    ·simp; rw [← hl]; omega
    ·simp only [hw_pure,Nat.zero_add,Nat.add_zero]
     refine H _ _ (.inr ⟨b,cap,spare.drop news.length,hBb,rfl,?_,?_,?_,hfit⟩) ⟨by simp,fun b' hb' hx=>?_⟩ (fun b' hb'=>.inl (by simpa [blkOf] using hb'))
     ·rw [Array.getElem?_setIfInBounds,if_pos rfl,if_pos (lt_of_get hb)]
      rw [← hl,lput_app,lput_zero _ _ hroom2,List.append_assoc]
     ·rw [List.length_append,hl,hnl,Nat.add_mul]
     ·rw [List.length_drop,hsp,hnl,← Nat.sub_mul]; congr 1; omega
     ·rw [Array.getElem?_setIfInBounds,if_neg]
      intro e; subst e
      have hcz:cap≠0:=by
       intro h0; subst h0
       have:k=0:=by omega
       subst this
       exact hne (List.eq_nil_of_length_eq_zero (by simpa using hnl))
      exact hx (by simp [blkOf,hcz])
  ·rw [if_neg hfit]
   have hcap:¬ Builtin.nextslicecap (m+k) cap*i0.bytes > 2 ^ 48:=by
    rw [hib]
    have:=nextcap_le (m+k) cap bytes (by omega) hroom
    omega
   have hib0:¬ i0.bytes=0:=by rw [hib]; omega
   simp only [hw_bind,run_info hi0,hib0,or_false,and_false,if_false,if_neg hcap]
   intro t
   obtain ⟨c,hc⟩:∃ c,c=Question.cut (Question.appendCap (m+k) cap e') t:=⟨_,rfl⟩
   have hcn:m+k≤c:=by rw [hc]; simp only [Question.cut]; omega
   rw [← hc]
   have hask:∀ {Q:Unit→Hp→Prop} (b:Nat) (g:Hp),Q () g→hw P (askRoom b) Q g:=fun {Q} b g q=>by
    unfold askRoom; split <;> exact q
   refine hask _ _ (run_firstCells own.sl (run_firstCells src ?_))
   rw [hzv]
   have hzc:z0.cells.size=n:=by rw [← hzn,← hzs]; simp
   refine H (.slice (some ⟨h.size,0,none⟩) (m+k) c) _ (.inr ⟨h.size,c,(Builtin.zeroCells z0.cells (c - (m+k))).toList,hB,rfl,?_,?_,?_,hcn⟩) (But.push _) (fun b' hb'=>.inr (by simp only [blkOf] at hb'; split at hb'; cases hb'; rw [← Option.some.inj hb']; exact Nat.le_refl _))
   ·rw [Array.getElem?_push_size]
    simp
   ·have hnl:news.length=k*n:=by obtain ⟨_,_,_,hl,_⟩:=src; exact hl
    have hcl:cs.length=m*n:=by obtain ⟨_,_,_,hl,_⟩:=own.sl; exact hl
    rw [List.length_append,hcl,hnl,Nat.add_mul]
   ·rw [Array.length_toList,zeroCells_size,hzc]
 ·cases hsT
theorem append_bytes2 {sT xT E E' B:Nat} {v s:Value} {l k:List Nat} {z:Value} {cb:Array Bool} (hsT:tsl P sT=some E) (hxT:P.underlying xT=some (.slice E')) (hn:tn P E=some 1) (hz:tz P E=some [z]) (hby:tb P E=some 1)
  (own:OBs B E h v l) (hB:B≤h.size) (src:Bs h s k) (hroom:l.length+k.length≤140737488355328)
  (H:∀ v' h',OBs B E h' v' (l++k)→Bel B h h'→But (blkOf v) h h'→(∀ b,blkOf v'=some b→blkOf v=some b∨h.size≤b)→K v' h'):vBi P T .append #[sT,xT] ty cb [v,s] K h:=by
 refine append_own2 hsT hxT hn hz rfl hby own.own hB src.sl (bv_one k) (by omega) (Nat.le_refl _) ?_
 intro v' h' ho hb hblk
 refine H v' h' ⟨by simpa using ho,fun x hx=>?_⟩ (hb.bel hB own.own.blk) hb hblk
 rcases List.mem_append.1 hx with hx | hx
 ·exact own.byte x hx
 ·exact src.byte x hx
theorem Own.lt {B:Nat} {E:TypeId} {n:Nat} {h:Hp} {v:Value} {m:Nat} {cs:List Value} (s:Own B E n h v m cs):∀ b,blkOf v=some b→b<h.size:=by
 intro b hb
 rcases s with ⟨⟨p,rfl⟩,_,_⟩ | ⟨b',cap,spare,_,rfl,hx,_⟩
 ·cases p <;> simp [blkOf] at hb
 ·simp only [blkOf] at hb
  split at hb
  ·cases hb
  ·rw [← Option.some.inj hb]; exact lt_of_get hx
theorem OBs.but {B:Nat} {E:TypeId} {h h':Hp} {v:Value} {l:List Nat} (s:OBs B E h v l) {x:Option Nat} (a:But x h h') (hx:∀ b,blkOf v=some b→x≠some b):OBs B E h' v l:=⟨s.own.but a hx,s.byte⟩
end
end Go.V
