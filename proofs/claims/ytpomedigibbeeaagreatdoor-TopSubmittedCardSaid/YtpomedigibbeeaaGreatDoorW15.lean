/- W15: 'append(v, make([]T, k)...)'. -/
import Derived.Test.YtpomedigibbeeaaGreatDoorW14
namespace Go.V
set_option linter.unusedVariables false
set_option linter.unusedSimpArgs false
section
variable {P:Program} {T:World} {K:Value→Hp→Prop} {F:Env} {h:Hp} {ty:TypeId}
theorem Iz (z:Value) (k:Nat):(Builtin.zeroCells #[z] k).toList=List.replicate k z:=by
 apply List.ext_getElem?
 intro i
 rw[List.getElem?_replicate]
 by_cases hi:i<k
 ·rw[if_pos hi]
  simp[Builtin.zeroCells,hi,Nat.mod_one]
 ·rw[if_neg hi,List.getElem?_eq_none]
  rw[Array.length_toList,YF];simp;omega
theorem Er {sT xT E B n m k bytes:Nat} {v:Value} {cs zs:List Value} {cb:Array Bool} (UE:Jw P sT=some E) (Gs:P.underlying xT=some (.int .i64)) (hn:tn P E=some n) (hz:tz P E=some zs) (Bq:zs.length=n) (I8:n≠0) (SA:tb P E=some bytes)
  (own:Qs B E n h v m cs) (hB:B≤h.size) (Xj:(Builtin.zeroCells zs.toArray k).toList.all Z7=true) (Yp:(m+k)*bytes≤140737488355328) (Gt:1≤bytes)
  (H:∀v' h',Qs B E n h' v' (m+k) (cs++(Builtin.zeroCells zs.toArray k).toList)→VZ (ZO v) h h'→K v' h'):TL P T .append #[sT,xT] ty cb [v,.int .i64 (k:Nat)] K h:=by
 have qx:k*bytes≤140737488355328:=Nat.le_trans (Nat.mul_le_mul_right _ (by omega)) Yp
 have Zj3:k≤140737488355328:=Nat.le_trans (by have:=Nat.mul_le_mul_left k Gt;omega) qx
 have UY:(Builtin.zeroCells zs.toArray k).toList.length=k*n:=by rw[Array.length_toList,YF];simp[Bq]
 obtain⟨news,Es⟩:=Zy ((Builtin.zeroCells zs.toArray k).toList)
 rw[←Es]at Xj UY H
 unfold Jw at UE
 split at UE
 ·rename_i e' hu
  simp only[Option.some.injEq]at UE
  subst UE
  show hw P (do pure (.value (←Builtin.append_ #[sT,xT] ty #[v,.int .i64 (k:Nat)]))) (Xs P T K) h
  rw[Zf]
  show hw P (Builtin.append_ #[sT,xT] ty #[v,.int .i64 (k:Nat)]) K h
  obtain⟨i0,TJ⟩:∃i,P.info? e'=some i:=by
   unfold tn at hn
   cases hi:P.info? e' with
   | none=>rw[hi]at hn;cases hn
   | some i=>exact⟨i,rfl⟩
  have RC:i0.bytes=bytes:=by unfold tb at SA;rw[TJ]at SA;simpa using SA
  obtain⟨z0,FI,Br⟩:∃z,i0.zero=some z∧z.cells.toList=zs:=by
   unfold tz at hz;rw[TJ]at hz
   cases MQ:i0.zero with
   | none=>rw[Option.bind_some,MQ]at hz;cases hz
   | some z=>rw[Option.bind_some,MQ]at hz;exact⟨z,rfl,by simpa using hz⟩
  have zk:z0.cells=zs.toArray:=by rw[←Br]
  have qZ:∃base cap,v=.slice base m cap:=by
   rcases own with⟨⟨p,rfl⟩,rfl,_⟩|⟨b,cap,sp,_,rfl,_⟩
   ·exact⟨_,_,rfl⟩
   ·exact⟨_,_,rfl⟩
  obtain⟨base,cap,hv⟩:=qZ
  subst hv
  have fa:∀{Q:Value→Hp→Prop} (g:Hp),hw P (zeroValue e') Q g=Q z0 g:=fun {Q} g=>by
   unfold zeroValue;rw[Zf,Xa TJ];simp only[FI];rfl
  have lJ:IntKind.i64.wrap ((k:Nat):Int)=(k:Nat):=Vw .i64 k (by show k<2 ^ 63;omega)
  have RD:∀{Q:Int→Hp→Prop} (g:Hp),hw P (asInt (.int .i64 (k:Nat))) Q g=Q (k:Nat) g:=fun {Q} g=>by
   rfl
  have zm:¬((k:Nat):Int)<0:=by omega
  have h48:¬((k:Nat):Int)*(i0.bytes:Nat)>2 ^ 48:=by
   rw[RC,←Int.natCast_mul]
   have:k*bytes≤2 ^ 48:=by omega
   have h2:((k*bytes:Nat):Int)≤2 ^ 48:=by exact_mod_cast this
   omega
  simp only[Builtin.append_,List.getElem?_toArray,List.getElem?_cons_zero,List.getElem?_cons_succ,Zf,Zu,Zt hu,Zt Gs,run_sizeOf hn,if_true,RD,lJ,if_neg zm,Xa TJ,if_neg h48,Int.toNat_natCast,Bool.not_true,Bool.false_eq_true,if_false]
  have lK:∀{Q:Array Value→Hp→Prop} (g:Hp),Q news.toArray g→hw P (if k*n=0 then pure #[] else do pure (Builtin.zeroCells (←zeroValue e').cells k)) Q g:=fun {Q} g q=>by
   by_cases h0:k*n=0
   ·rw[if_pos h0]
    have:k=0:=by
     rcases Nat.mul_eq_zero.1 h0 with h|h
     ·exact h
     ·exact (I8 h).elim
    subst this
    have e:news=[]:=List.eq_nil_of_length_eq_zero (by rw[UY];omega)
    rw[e]at q
    exact q
   ·rw[if_neg h0,Zf,fa,zk]
    rw[Es,Array.toArray_toList]at q
    exact q
  by_cases J9:m+k≤cap
  ·rw[if_pos J9,Zf]
   refine lK _ ?_
   by_cases Yw:news=[]
   ·rw[Yw]
    rw[Yw]at UY H
    have hK:K (.slice base (m+k) cap) h:=by
     refine H _ _ ?_ VZ.refl
     rcases own with⟨⟨p,h1⟩,h2,h3⟩|⟨b,Lx,spare,MS,h1,hb,hl,Rg,jt⟩
     ·simp only[Value.slice.injEq]at h1
      obtain⟨rfl,rfl,rfl⟩:=h1
      have hk:k=0:=by omega
      subst hk;subst h3
      exact .inl ⟨⟨_,rfl⟩,rfl,rfl⟩
     ·simp only[Value.slice.injEq]at h1
      obtain⟨rfl,_,rfl⟩:=h1
      have ju:k*n=0:=by simpa using UY.symm
      refine .inr ⟨b,cap,spare,MS,rfl,by simpa using hb,by rw[List.append_nil,hl,Nat.add_mul,ju];rfl,?_,J9⟩
      rw[Rg,Nat.sub_mul,Nat.sub_mul,Nat.add_mul,ju,Nat.add_zero]
    cases base<;>exact hK
   rcases own with⟨⟨p,h1⟩,h2,h3⟩|⟨b,Lx,spare,MS,h1,hb,hl,Rg,jt⟩
   ·simp only[Value.slice.injEq]at h1
    obtain⟨rfl,rfl,rfl⟩:=h1
    have hk:k=0:=by omega
    subst hk
    exact (Yw (List.eq_nil_of_length_eq_zero (by simpa using UY))).elim
   ·simp only[Value.slice.injEq]at h1
    obtain⟨rfl,_,rfl⟩:=h1
    simp only[Zf,YX]
    have V0:news.length≤spare.length:=by rw[UY,Rg];exact Nat.mul_le_mul_right _ (by omega)
    refine Yf (e:=e') (lo:=0) (hi:=0) rfl (Nat.le_refl _) news 0 h (cs++spare).toArray hb ?_ Xj ?_
    ·simp;rw[←hl];omega
    ·simp only[Zu,Nat.zero_add,Nat.add_zero]
     refine H _ _ (.inr ⟨b,cap,spare.drop news.length,MS,rfl,?_,?_,?_,J9⟩) ⟨by simp,fun b' XN hx=>?_⟩
     ·rw[Array.getElem?_setIfInBounds,if_pos rfl,if_pos (Za hb)]
      rw[←hl,UW,Qk _ _ V0,List.append_assoc]
     ·rw[List.length_append,hl,UY,Nat.add_mul]
     ·rw[List.length_drop,Rg,UY,←Nat.sub_mul];congr 1;omega
     ·rw[Array.getElem?_setIfInBounds,if_neg]
      intro e;subst e
      have yU:cap≠0:=by
       intro h0;subst h0
       have:k=0:=by omega
       subst this
       exact Yw (List.eq_nil_of_length_eq_zero (by simpa using UY))
      exact hx (by simp[ZO,yU])
  ·rw[if_neg J9]
   have QB:¬Builtin.nextslicecap (m+k) cap*i0.bytes>2 ^ 48:=by
    rw[RC]
    have:=UX (m+k) cap bytes (by omega) Yp
    omega
   have Bt:¬i0.bytes=0:=by rw[RC];omega
   have bL:m+k≤140737488355328:=Nat.le_trans (by have:=Nat.mul_le_mul_left (m+k) Gt;omega) Yp
   have lL:¬((m+k:Nat):Int)>IntKind.i64.max:=by
    have:IntKind.i64.max=9223372036854775807:=rfl
    rw[this];omega
   simp only[Zf,Xa TJ,lL,false_and,if_false,if_neg QB]
   intro t
   obtain⟨c,hc⟩:=Zy (Question.cut (Question.appendCap (m+k) cap e') t)
   have kY:m+k≤c:=by rw[hc];simp only[Question.cut];omega
   rw[←hc]
   have RD:∀{Q:Unit→Hp→Prop} (b:Nat) (g:Hp),Q () g→hw P (askRoom b) Q g:=fun {Q} b g q=>by
    unfold askRoom;split<;>exact q
   refine RD _ _ (Z2 own.sl (lK _ ?_))
   rw[fa]
   have kZ:z0.cells.size=n:=by rw[←Bq,←Br];simp
   refine H (.slice (some ⟨h.size,0,none⟩) (m+k) c) _ (.inr ⟨h.size,c,(Builtin.zeroCells z0.cells (c-(m+k))).toList,hB,rfl,?_,?_,?_,kY⟩) (VZ.push _)
   ·rw[Array.getElem?_push_size]
    simp
   ·have XY:cs.length=m*n:=by obtain⟨_,_,_,hl,_⟩:=own.sl;exact hl
    rw[List.length_append,XY,UY,Nat.add_mul]
   ·rw[Array.length_toList,YF,kZ]
 ·cases UE
theorem LH {sT xT E B k:Nat} {v:Value} {l:List Nat} {cb:Array Bool} (UE:Jw P sT=some E) (Gs:P.underlying xT=some (.int .i64)) (hn:tn P E=some 1) (hz:tz P E=some [.int .u8 0]) (SA:tb P E=some 1)
  (own:Z0 B E h v l) (hB:B≤h.size) (Yp:l.length+k≤140737488355328)
  (H:∀v' h',Z0 B E h' v' (l++List.replicate k 0)→Zg B h h'→VZ (ZO v) h h'→K v' h'):TL P T .append #[sT,xT] ty cb [v,.int .i64 (k:Nat)] K h:=by
 have e:(Builtin.zeroCells [Value.int .u8 0].toArray k).toList=(List.replicate k 0).map bv:=by
  rw[Iz,List.map_replicate];rfl
 refine Er UE Gs hn hz rfl (by decide) SA own.own hB (by rw[e];exact V3 _) (by omega) (Nat.le_refl _) ?_
 intro v' h' ho hb
 rw[e,←List.map_append]at ho
 refine H v' h' ⟨by simpa using ho,fun x hx=>?_⟩ (hb.Ya hB own.own.ZF) hb
 rcases List.mem_append.1 hx with hx|hx
 ·exact own.byte x hx
 ·rw[List.eq_of_mem_replicate hx];omega
end
end Go.V
