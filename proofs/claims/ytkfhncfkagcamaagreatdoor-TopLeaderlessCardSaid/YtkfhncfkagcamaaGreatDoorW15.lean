/- W15: 'append(v, make([]T, k)...)'. -/
import Derived.Test.YtkfhncfkagcamaaGreatDoorW14
namespace Go.V
set_option linter.unusedVariables false
set_option linter.unusedSimpArgs false
section
variable {P:Program} {T:World} {K:Value→Hp→Prop} {F:Env} {h:Hp} {ty:TypeId}
theorem KL (z:Value) (k:Nat):(Builtin.zeroCells #[z] k).toList=List.replicate k z:=by
 apply List.ext_getElem?
 intro i
 rw[List.getElem?_replicate]
 by_cases hi:i<k
 ·rw[if_pos hi]
  simp[Builtin.zeroCells,hi,Nat.mod_one]
 ·rw[if_neg hi,List.getElem?_eq_none]
  rw[Array.length_toList,Yy];simp;omega
theorem FA {sT xT E B n m k bytes:Nat} {v:Value} {cs zs:List Value} {cb:Array Bool} (Uq:Jg P sT=some E) (Hx:P.underlying xT=some (.int .i64)) (hn:tn P E=some n) (hz:tz P E=some zs) (Cu:zs.length=n) (Is:n≠0) (Sc:tb P E=some bytes)
  (own:Qb B E n h v m cs) (hB:B≤h.size) (Xb:(Builtin.zeroCells zs.toArray k).toList.all Z8=true) (Ym:(m+k)*bytes≤140737488355328) (Hy:1≤bytes)
  (H:∀v' h',Qb B E n h' v' (m+k) (cs++(Builtin.zeroCells zs.toArray k).toList)→VB (ZN v) h h'→K v' h'):Tn P T .append #[sT,xT] ty cb [v,.int .i64 (k:Nat)] K h:=by
 have nR:k*bytes≤140737488355328:=Nat.le_trans (Nat.mul_le_mul_right _ (by omega)) Ym
 have Zir:k≤140737488355328:=Nat.le_trans (by have:=Nat.mul_le_mul_left k Hy;omega) nR
 have UJ:(Builtin.zeroCells zs.toArray k).toList.length=k*n:=by rw[Array.length_toList,Yy];simp[Cu]
 obtain⟨news,FB⟩:=ZA ((Builtin.zeroCells zs.toArray k).toList)
 rw[←FB]at Xb UJ H
 unfold Jg at Uq
 split at Uq
 ·rename_i e' hu
  simp only[Option.some.injEq]at Uq
  subst Uq
  show hw P (do pure (.value (←Builtin.append_ #[sT,xT] ty #[v,.int .i64 (k:Nat)]))) (Xp P T K) h
  rw[Zf]
  show hw P (Builtin.append_ #[sT,xT] ty #[v,.int .i64 (k:Nat)]) K h
  obtain⟨i0,Th⟩:∃i,P.info? e'=some i:=by
   unfold tn at hn
   cases hi:P.info? e' with
   | none=>rw[hi]at hn;cases hn
   | some i=>exact⟨i,rfl⟩
  have S9:i0.bytes=bytes:=by unfold tb at Sc;rw[Th]at Sc;simpa using Sc
  obtain⟨z0,GR,Cv⟩:∃z,i0.zero=some z∧z.cells.toList=zs:=by
   unfold tz at hz;rw[Th]at hz
   cases Mn:i0.zero with
   | none=>rw[Option.bind_some,Mn]at hz;cases hz
   | some z=>rw[Option.bind_some,Mn]at hz;exact⟨z,rfl,by simpa using hz⟩
  have wo:z0.cells=zs.toArray:=by rw[←Cv]
  have oQ:∃base cap,v=.slice base m cap:=by
   rcases own with⟨⟨p,rfl⟩,rfl,_⟩|⟨b,cap,sp,_,rfl,_⟩
   ·exact⟨_,_,rfl⟩
   ·exact⟨_,_,rfl⟩
  obtain⟨base,cap,hv⟩:=oQ
  subst hv
  have cW:∀{Q:Value→Hp→Prop} (g:Hp),hw P (zeroValue e') Q g=Q z0 g:=fun {Q} g=>by
   unfold zeroValue;rw[Zf,Y0 Th];simp only[GR];rfl
  have jJ:IntKind.i64.wrap ((k:Nat):Int)=(k:Nat):=Vb .i64 k (by show k<2 ^ 63;omega)
  have Ra:∀{Q:Int→Hp→Prop} (g:Hp),hw P (asInt (.int .i64 (k:Nat))) Q g=Q (k:Nat) g:=fun {Q} g=>by
   rfl
  have wq:¬((k:Nat):Int)<0:=by omega
  have h48:¬((k:Nat):Int)*(i0.bytes:Nat)>2 ^ 48:=by
   rw[S9,←Int.natCast_mul]
   have:k*bytes≤2 ^ 48:=by omega
   have h2:((k*bytes:Nat):Int)≤2 ^ 48:=by exact_mod_cast this
   omega
  simp only[Builtin.append_,List.getElem?_toArray,List.getElem?_cons_zero,List.getElem?_cons_succ,Zf,Zu,Zt hu,Zt Hx,run_sizeOf hn,if_true,Ra,jJ,if_neg wq,Y0 Th,if_neg h48,Int.toNat_natCast,Bool.not_true,Bool.false_eq_true,if_false]
  have jK:∀{Q:Array Value→Hp→Prop} (g:Hp),Q news.toArray g→hw P (if k*n=0 then pure #[] else do pure (Builtin.zeroCells (←zeroValue e').cells k)) Q g:=fun {Q} g q=>by
   by_cases h0:k*n=0
   ·rw[if_pos h0]
    have:k=0:=by
     rcases Nat.mul_eq_zero.1 h0 with h|h
     ·exact h
     ·exact (Is h).elim
    subst this
    have e:news=[]:=List.eq_nil_of_length_eq_zero (by rw[UJ];omega)
    rw[e]at q
    exact q
   ·rw[if_neg h0,Zf,cW,wo]
    rw[FB,Array.toArray_toList]at q
    exact q
  by_cases JO:m+k≤cap
  ·rw[if_pos JO,Zf]
   refine jK _ ?_
   by_cases Ys:news=[]
   ·rw[Ys]
    rw[Ys]at UJ H
    have hK:K (.slice base (m+k) cap) h:=by
     refine H _ _ ?_ VB.refl
     rcases own with⟨⟨p,h1⟩,h2,h3⟩|⟨b,MX,spare,Mp,h1,hb,hl,SL,gK⟩
     ·simp only[Value.slice.injEq]at h1
      obtain⟨rfl,rfl,rfl⟩:=h1
      have hk:k=0:=by omega
      subst hk;subst h3
      exact .inl ⟨⟨_,rfl⟩,rfl,rfl⟩
     ·simp only[Value.slice.injEq]at h1
      obtain⟨rfl,_,rfl⟩:=h1
      have gL:k*n=0:=by simpa using UJ.symm
      refine .inr ⟨b,cap,spare,Mp,rfl,by simpa using hb,by rw[List.append_nil,hl,Nat.add_mul,gL];rfl,?_,JO⟩
      rw[SL,Nat.sub_mul,Nat.sub_mul,Nat.add_mul,gL,Nat.add_zero]
    cases base<;>exact hK
   rcases own with⟨⟨p,h1⟩,h2,h3⟩|⟨b,MX,spare,Mp,h1,hb,hl,SL,gK⟩
   ·simp only[Value.slice.injEq]at h1
    obtain⟨rfl,rfl,rfl⟩:=h1
    have hk:k=0:=by omega
    subst hk
    exact (Ys (List.eq_nil_of_length_eq_zero (by simpa using UJ))).elim
   ·simp only[Value.slice.injEq]at h1
    obtain⟨rfl,_,rfl⟩:=h1
    simp only[Zf,YQ]
    have VC:news.length≤spare.length:=by rw[UJ,SL];exact Nat.mul_le_mul_right _ (by omega)
    refine Yg (e:=e') (lo:=0) (hi:=0) rfl (Nat.le_refl _) news 0 h (cs++spare).toArray hb ?_ Xb ?_
    ·simp;rw[←hl];omega
    ·simp only[Zu,Nat.zero_add,Nat.add_zero]
     refine H _ _ (.inr ⟨b,cap,spare.drop news.length,Mp,rfl,?_,?_,?_,JO⟩) ⟨by simp,fun b' XZ hx=>?_⟩
     ·rw[Array.getElem?_setIfInBounds,if_pos rfl,if_pos (Za hb)]
      rw[←hl,UH,JZ _ _ VC,List.append_assoc]
     ·rw[List.length_append,hl,UJ,Nat.add_mul]
     ·rw[List.length_drop,SL,UJ,←Nat.sub_mul];congr 1;omega
     ·rw[Array.getElem?_setIfInBounds,if_neg]
      intro e;subst e
      have vM:cap≠0:=by
       intro h0;subst h0
       have:k=0:=by omega
       subst this
       exact Ys (List.eq_nil_of_length_eq_zero (by simpa using UJ))
      exact hx (by simp[ZN,vM])
  ·rw[if_neg JO]
   have Qk:¬Builtin.nextslicecap (m+k) cap*i0.bytes>2 ^ 48:=by
    rw[S9]
    have:=UI (m+k) cap bytes (by omega) Ym
    omega
   have Cw:¬i0.bytes=0:=by rw[S9];omega
   have ad:m+k≤140737488355328:=Nat.le_trans (by have:=Nat.mul_le_mul_left (m+k) Hy;omega) Ym
   have jL:¬((m+k:Nat):Int)>IntKind.i64.max:=by
    have:IntKind.i64.max=9223372036854775807:=rfl
    rw[this];omega
   simp only[Zf,Y0 Th,jL,false_and,if_false,if_neg Qk]
   intro t
   obtain⟨c,hc⟩:=ZA (Question.cut (Question.appendCap (m+k) cap e') t)
   have jy:m+k≤c:=by rw[hc];simp only[Question.cut];omega
   rw[←hc]
   have Ra:∀{Q:Unit→Hp→Prop} (b:Nat) (g:Hp),Q () g→hw P (askRoom b) Q g:=fun {Q} b g q=>by
    unfold askRoom;split<;>exact q
   refine Ra _ _ (Z3 own.sl (jK _ ?_))
   rw[cW]
   have jz:z0.cells.size=n:=by rw[←Cu,←Cv];simp
   refine H (.slice (some ⟨h.size,0,none⟩) (m+k) c) _ (.inr ⟨h.size,c,(Builtin.zeroCells z0.cells (c-(m+k))).toList,hB,rfl,?_,?_,?_,jy⟩) (VB.push _)
   ·rw[Array.getElem?_push_size]
    simp
   ·have X0:cs.length=m*n:=by obtain⟨_,_,_,hl,_⟩:=own.sl;exact hl
    rw[List.length_append,X0,UJ,Nat.add_mul]
   ·rw[Array.length_toList,Yy,jz]
 ·cases Uq
theorem Lc {sT xT E B k:Nat} {v:Value} {l:List Nat} {cb:Array Bool} (Uq:Jg P sT=some E) (Hx:P.underlying xT=some (.int .i64)) (hn:tn P E=some 1) (hz:tz P E=some [.int .u8 0]) (Sc:tb P E=some 1)
  (own:Z1 B E h v l) (hB:B≤h.size) (Ym:l.length+k≤140737488355328)
  (H:∀v' h',Z1 B E h' v' (l++List.replicate k 0)→Zg B h h'→VB (ZN v) h h'→K v' h'):Tn P T .append #[sT,xT] ty cb [v,.int .i64 (k:Nat)] K h:=by
 have e:(Builtin.zeroCells [Value.int .u8 0].toArray k).toList=(List.replicate k 0).map bv:=by
  rw[KL,List.map_replicate];rfl
 refine FA Uq Hx hn hz rfl (by decide) Sc own.own hB (by rw[e];exact VD _) (by omega) (Nat.le_refl _) ?_
 intro v' h' ho hb
 rw[e,←List.map_append]at ho
 refine H v' h' ⟨by simpa using ho,fun x hx=>?_⟩ (hb.Z9 hB own.own.ZE) hb
 rcases List.mem_append.1 hx with hx|hx
 ·exact own.byte x hx
 ·rw[List.eq_of_mem_replicate hx];omega
end
end Go.V
