/- W15: 'append(v, make([]T, k)...)'. -/
import Derived.Test.YtkfhncfkagcamaaGreatDoorW14
namespace Go.V
set_option linter.unusedVariables false
set_option linter.unusedSimpArgs false
section
variable {P:Program} {T:World} {K:Value→Hp→Prop} {F:Env} {h:Hp} {ty:TypeId}
theorem It (z:Value) (k:Nat):(Builtin.zeroCells #[z] k).toList=List.replicate k z:=by
 apply List.ext_getElem?
 intro i
 rw[List.getElem?_replicate]
 by_cases hi:i<k
 ·rw[if_pos hi]
  simp[Builtin.zeroCells,hi,Nat.mod_one]
 ·rw[if_neg hi,List.getElem?_eq_none]
  rw[Array.length_toList,YA];simp;omega
theorem Ek {sT xT E B n m k bytes:Nat} {v:Value} {cs zs:List Value} {cb:Array Bool} (Uz:Jf P sT=some E) (Gc:P.underlying xT=some (.int .i64)) (hn:tn P E=some n) (hz:tz P E=some zs) (Bu:zs.length=n) (I1:n≠0) (St:tb P E=some bytes)
  (own:Ql B E n h v m cs) (hB:B≤h.size) (Xd:(Builtin.zeroCells zs.toArray k).toList.all Z5=true) (Ym:(m+k)*bytes≤140737488355328) (Iq:1≤bytes)
  (H:∀v' h',Ql B E n h' v' (m+k) (cs++(Builtin.zeroCells zs.toArray k).toList)→VT (ZM v) h h'→K v' h'):Sq P T .append #[sT,xT] ty cb [v,.int .i64 (k:Nat)] K h:=by
 have qm:k*bytes≤140737488355328:=Nat.le_trans (Nat.mul_le_mul_right _ (by omega)) Ym
 have Zka:k≤140737488355328:=Nat.le_trans (by have:=Nat.mul_le_mul_left k Iq;omega) qm
 have Qq:(Builtin.zeroCells zs.toArray k).toList.length=k*n:=by rw[Array.length_toList,YA];simp[Bu]
 obtain⟨news,El⟩:=Zu ((Builtin.zeroCells zs.toArray k).toList)
 rw[←El]at Xd Qq H
 unfold Jf at Uz
 split at Uz
 ·rename_i e' hu
  simp only[Option.some.injEq]at Uz
  subst Uz
  show hw P (do pure (.value (←Builtin.append_ #[sT,xT] ty #[v,.int .i64 (k:Nat)]))) (Xm P T K) h
  rw[Zf]
  show hw P (Builtin.append_ #[sT,xT] ty #[v,.int .i64 (k:Nat)]) K h
  obtain⟨i0,TC⟩:∃i,P.info? e'=some i:=by
   unfold tn at hn
   cases hi:P.info? e' with
   | none=>rw[hi]at hn;cases hn
   | some i=>exact⟨i,rfl⟩
  have Rp:i0.bytes=bytes:=by unfold tb at St;rw[TC]at St;simpa using St
  obtain⟨z0,FC,Bv⟩:∃z,i0.zero=some z∧z.cells.toList=zs:=by
   unfold tz at hz;rw[TC]at hz
   cases MD:i0.zero with
   | none=>rw[Option.bind_some,MD]at hz;cases hz
   | some z=>rw[Option.bind_some,MD]at hz;exact⟨z,rfl,by simpa using hz⟩
  have ze:z0.cells=zs.toArray:=by rw[←Bv]
  have qQ:∃base cap,v=.slice base m cap:=by
   rcases own with⟨⟨p,rfl⟩,rfl,_⟩|⟨b,cap,sp,_,rfl,_⟩
   ·exact⟨_,_,rfl⟩
   ·exact⟨_,_,rfl⟩
  obtain⟨base,cap,hv⟩:=qQ
  subst hv
  have fb:∀{Q:Value→Hp→Prop} (g:Hp),hw P (zeroValue e') Q g=Q z0 g:=fun {Q} g=>by
   unfold zeroValue;rw[Zf,Y1 TC];simp only[FC];rfl
  have ln:IntKind.i64.wrap ((k:Nat):Int)=(k:Nat):=Vo .i64 k (by show k<2 ^ 63;omega)
  have Rq:∀{Q:Int→Hp→Prop} (g:Hp),hw P (asInt (.int .i64 (k:Nat))) Q g=Q (k:Nat) g:=fun {Q} g=>by
   rfl
  have zf:¬((k:Nat):Int)<0:=by omega
  have h48:¬((k:Nat):Int)*(i0.bytes:Nat)>2 ^ 48:=by
   rw[Rp,←Int.natCast_mul]
   have:k*bytes≤2 ^ 48:=by omega
   have h2:((k*bytes:Nat):Int)≤2 ^ 48:=by exact_mod_cast this
   omega
  simp only[Builtin.append_,List.getElem?_toArray,List.getElem?_cons_zero,List.getElem?_cons_succ,Zf,Zt,Zr hu,Zr Gc,run_sizeOf hn,if_true,Rq,ln,if_neg zf,Y1 TC,if_neg h48,Int.toNat_natCast,Bool.not_true,Bool.false_eq_true,if_false]
  have lq:∀{Q:Array Value→Hp→Prop} (g:Hp),Q news.toArray g→hw P (if k*n=0 then pure #[] else do pure (Builtin.zeroCells (←zeroValue e').cells k)) Q g:=fun {Q} g q=>by
   by_cases h0:k*n=0
   ·rw[if_pos h0]
    have:k=0:=by
     rcases Nat.mul_eq_zero.1 h0 with h|h
     ·exact h
     ·exact (I1 h).elim
    subst this
    have e:news=[]:=List.eq_nil_of_length_eq_zero (by rw[Qq];omega)
    rw[e]at q
    exact q
   ·rw[if_neg h0,Zf,fb,ze]
    rw[El,Array.toArray_toList]at q
    exact q
  by_cases Xr:m+k≤cap
  ·rw[if_pos Xr,Zf]
   refine lq _ ?_
   by_cases Yr:news=[]
   ·rw[Yr]
    rw[Yr]at Qq H
    have hK:K (.slice base (m+k) cap) h:=by
     refine H _ _ ?_ VT.refl
     rcases own with⟨⟨p,h1⟩,h2,h3⟩|⟨b,Li,spare,MF,h1,hb,hl,SY,bF⟩
     ·simp only[Value.slice.injEq]at h1
      obtain⟨rfl,rfl,rfl⟩:=h1
      have hk:k=0:=by omega
      subst hk;subst h3
      exact .inl ⟨⟨_,rfl⟩,rfl,rfl⟩
     ·simp only[Value.slice.injEq]at h1
      obtain⟨rfl,_,rfl⟩:=h1
      have jk:k*n=0:=by simpa using Qq.symm
      refine .inr ⟨b,cap,spare,MF,rfl,by simpa using hb,by rw[List.append_nil,hl,Nat.add_mul,jk];rfl,?_,Xr⟩
      rw[SY,Nat.sub_mul,Nat.sub_mul,Nat.add_mul,jk,Nat.add_zero]
    cases base<;>exact hK
   rcases own with⟨⟨p,h1⟩,h2,h3⟩|⟨b,Li,spare,MF,h1,hb,hl,SY,bF⟩
   ·simp only[Value.slice.injEq]at h1
    obtain⟨rfl,rfl,rfl⟩:=h1
    have hk:k=0:=by omega
    subst hk
    exact (Yr (List.eq_nil_of_length_eq_zero (by simpa using Qq))).elim
   ·simp only[Value.slice.injEq]at h1
    obtain⟨rfl,_,rfl⟩:=h1
    simp only[Zf,YQ]
    have VU:news.length≤spare.length:=by rw[Qq,SY];exact Nat.mul_le_mul_right _ (by omega)
    refine Yf (e:=e') (lo:=0) (hi:=0) rfl (Nat.le_refl _) news 0 h (cs++spare).toArray hb ?_ Xd ?_
    ·simp;rw[←hl];omega
    ·simp only[Zt,Nat.zero_add,Nat.add_zero]
     refine H _ _ (.inr ⟨b,cap,spare.drop news.length,MF,rfl,?_,?_,?_,Xr⟩) ⟨by simp,fun b' X3 hx=>?_⟩
     ·rw[Array.getElem?_setIfInBounds,if_pos rfl,if_pos (Za hb)]
      rw[←hl,UR,Qa _ _ VU,List.append_assoc]
     ·rw[List.length_append,hl,Qq,Nat.add_mul]
     ·rw[List.length_drop,SY,Qq,←Nat.sub_mul];congr 1;omega
     ·rw[Array.getElem?_setIfInBounds,if_neg]
      intro e;subst e
      have yQ:cap≠0:=by
       intro h0;subst h0
       have:k=0:=by omega
       subst this
       exact Yr (List.eq_nil_of_length_eq_zero (by simpa using Qq))
      exact hx (by simp[ZM,yQ])
  ·rw[if_neg Xr]
   have Jg:¬Builtin.nextslicecap (m+k) cap*i0.bytes>2 ^ 48:=by
    rw[Rp]
    have:=US (m+k) cap bytes (by omega) Ym
    omega
   have Bw:¬i0.bytes=0:=by rw[Rp];omega
   have bN:m+k≤140737488355328:=Nat.le_trans (by have:=Nat.mul_le_mul_left (m+k) Iq;omega) Ym
   have lu:¬((m+k:Nat):Int)>IntKind.i64.max:=by
    have:IntKind.i64.max=9223372036854775807:=rfl
    rw[this];omega
   simp only[Zf,Y1 TC,lu,false_and,if_false,if_neg Jg]
   intro t
   obtain⟨c,hc⟩:=Zu (Question.cut (Question.appendCap (m+k) cap e') t)
   have kP:m+k≤c:=by rw[hc];simp only[Question.cut];omega
   rw[←hc]
   have Rq:∀{Q:Unit→Hp→Prop} (b:Nat) (g:Hp),Q () g→hw P (askRoom b) Q g:=fun {Q} b g q=>by
    unfold askRoom;split<;>exact q
   refine Rq _ _ (Z3 own.sl (lq _ ?_))
   rw[fb]
   have kQ:z0.cells.size=n:=by rw[←Bu,←Bv];simp
   refine H (.slice (some ⟨h.size,0,none⟩) (m+k) c) _ (.inr ⟨h.size,c,(Builtin.zeroCells z0.cells (c-(m+k))).toList,hB,rfl,?_,?_,?_,kP⟩) (VT.push _)
   ·rw[Array.getElem?_push_size]
    simp
   ·have X4:cs.length=m*n:=by obtain⟨_,_,_,hl,_⟩:=own.sl;exact hl
    rw[List.length_append,X4,Qq,Nat.add_mul]
   ·rw[Array.length_toList,YA,kQ]
 ·cases Uz
theorem Lr {sT xT E B k:Nat} {v:Value} {l:List Nat} {cb:Array Bool} (Uz:Jf P sT=some E) (Gc:P.underlying xT=some (.int .i64)) (hn:tn P E=some 1) (hz:tz P E=some [.int .u8 0]) (St:tb P E=some 1)
  (own:Z1 B E h v l) (hB:B≤h.size) (Ym:l.length+k≤140737488355328)
  (H:∀v' h',Z1 B E h' v' (l++List.replicate k 0)→Ze B h h'→VT (ZM v) h h'→K v' h'):Sq P T .append #[sT,xT] ty cb [v,.int .i64 (k:Nat)] K h:=by
 have e:(Builtin.zeroCells [Value.int .u8 0].toArray k).toList=(List.replicate k 0).map bv:=by
  rw[It,List.map_replicate];rfl
 refine Ek Uz Gc hn hz rfl (by decide) St own.own hB (by rw[e];exact VV _) (by omega) (Nat.le_refl _) ?_
 intro v' h' ho hb
 rw[e,←List.map_append]at ho
 refine H v' h' ⟨by simpa using ho,fun x hx=>?_⟩ (hb.Z4 hB own.own.ZD) hb
 rcases List.mem_append.1 hx with hx|hx
 ·exact own.byte x hx
 ·rw[List.eq_of_mem_replicate hx];omega
end
end Go.V
