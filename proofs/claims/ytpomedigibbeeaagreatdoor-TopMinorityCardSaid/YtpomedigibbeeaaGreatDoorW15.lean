/- W15: 'append(v, make([]T, k)...)'. -/
import Derived.Test.YtpomedigibbeeaaGreatDoorW14
namespace Go.V
set_option linter.unusedVariables false
set_option linter.unusedSimpArgs false
section
variable {P:Program} {T:World} {K:Value→Hp→Prop} {F:Env} {h:Hp} {ty:TypeId}
theorem KO (z:Value) (k:Nat):(Builtin.zeroCells #[z] k).toList=List.replicate k z:=by
 apply List.ext_getElem?
 intro i
 rw[List.getElem?_replicate]
 by_cases hi:i<k
 ·rw[if_pos hi]
  simp[Builtin.zeroCells,hi,Nat.mod_one]
 ·rw[if_neg hi,List.getElem?_eq_none]
  rw[Array.length_toList,Yx];simp;omega
theorem FB {sT xT E B n m k bytes:Nat} {v:Value} {cs zs:List Value} {cb:Array Bool} (Un:Jf P sT=some E) (HD:P.underlying xT=some (.int .i64)) (hn:tn P E=some n) (hz:tz P E=some zs) (Cz:zs.length=n) (Iv:n≠0) (T6:tb P E=some bytes)
  (own:J9 B E n h v m cs) (hB:B≤h.size) (Y8:(Builtin.zeroCells zs.toArray k).toList.all Z6=true) (Yk:(m+k)*bytes≤140737488355328) (HE:1≤bytes)
  (H:∀v' h',J9 B E n h' v' (m+k) (cs++(Builtin.zeroCells zs.toArray k).toList)→Vy (ZL v) h h'→K v' h'):Tj P T .append #[sT,xT] ty cb [v,.int .i64 (k:Nat)] K h:=by
 have nW:k*bytes≤140737488355328:=Nat.le_trans (Nat.mul_le_mul_right _ (by omega)) Yk
 have ZiA:k≤140737488355328:=Nat.le_trans (by have:=Nat.mul_le_mul_left k HE;omega) nW
 have UF:(Builtin.zeroCells zs.toArray k).toList.length=k*n:=by rw[Array.length_toList,Yx];simp[Cz]
 obtain⟨news,FC⟩:=Zy ((Builtin.zeroCells zs.toArray k).toList)
 rw[←FC]at Y8 UF H
 unfold Jf at Un
 split at Un
 ·rename_i e' hu
  simp only[Option.some.injEq]at Un
  subst Un
  show hw P (do pure (.value (←Builtin.append_ #[sT,xT] ty #[v,.int .i64 (k:Nat)]))) (Xk P T K) h
  rw[Ze]
  show hw P (Builtin.append_ #[sT,xT] ty #[v,.int .i64 (k:Nat)]) K h
  obtain⟨i0,Tc⟩:∃i,P.info? e'=some i:=by
   unfold tn at hn
   cases hi:P.info? e' with
   | none=>rw[hi]at hn;cases hn
   | some i=>exact⟨i,rfl⟩
  have SX:i0.bytes=bytes:=by unfold tb at T6;rw[Tc]at T6;simpa using T6
  obtain⟨z0,GU,CA⟩:∃z,i0.zero=some z∧z.cells.toList=zs:=by
   unfold tz at hz;rw[Tc]at hz
   cases Mg:i0.zero with
   | none=>rw[Option.bind_some,Mg]at hz;cases hz
   | some z=>rw[Option.bind_some,Mg]at hz;exact⟨z,rfl,by simpa using hz⟩
  have wJ:z0.cells=zs.toArray:=by rw[←CA]
  have oS:∃base cap,v=.slice base m cap:=by
   rcases own with⟨⟨p,rfl⟩,rfl,_⟩|⟨b,cap,sp,_,rfl,_⟩
   ·exact⟨_,_,rfl⟩
   ·exact⟨_,_,rfl⟩
  obtain⟨base,cap,hv⟩:=oS
  subst hv
  have dd:∀{Q:Value→Hp→Prop} (g:Hp),hw P (zeroValue e') Q g=Q z0 g:=fun {Q} g=>by
   unfold zeroValue;rw[Ze,YX Tc];simp only[GU];rfl
  have jK:IntKind.i64.wrap ((k:Nat):Int)=(k:Nat):=WY .i64 k (by show k<2 ^ 63;omega)
  have SY:∀{Q:Int→Hp→Prop} (g:Hp),hw P (asInt (.int .i64 (k:Nat))) Q g=Q (k:Nat) g:=fun {Q} g=>by
   rfl
  have wK:¬((k:Nat):Int)<0:=by omega
  have h48:¬((k:Nat):Int)*(i0.bytes:Nat)>2 ^ 48:=by
   rw[SX,←Int.natCast_mul]
   have:k*bytes≤2 ^ 48:=by omega
   have h2:((k*bytes:Nat):Int)≤2 ^ 48:=by exact_mod_cast this
   omega
  simp only[Builtin.append_,List.getElem?_toArray,List.getElem?_cons_zero,List.getElem?_cons_succ,Ze,Zs,Zr hu,Zr HD,run_sizeOf hn,if_true,SY,jK,if_neg wK,YX Tc,if_neg h48,Int.toNat_natCast,Bool.not_true,Bool.false_eq_true,if_false]
  have jL:∀{Q:Array Value→Hp→Prop} (g:Hp),Q news.toArray g→hw P (if k*n=0 then pure #[] else do pure (Builtin.zeroCells (←zeroValue e').cells k)) Q g:=fun {Q} g q=>by
   by_cases h0:k*n=0
   ·rw[if_pos h0]
    have:k=0:=by
     rcases Nat.mul_eq_zero.1 h0 with h|h
     ·exact h
     ·exact (Iv h).elim
    subst this
    have e:news=[]:=List.eq_nil_of_length_eq_zero (by rw[UF];omega)
    rw[e]at q
    exact q
   ·rw[if_neg h0,Ze,dd,wJ]
    rw[FC,Array.toArray_toList]at q
    exact q
  by_cases Jh:m+k≤cap
  ·rw[if_pos Jh,Ze]
   refine jL _ ?_
   by_cases Yq:news=[]
   ·rw[Yq]
    rw[Yq]at UF H
    have hK:K (.slice base (m+k) cap) h:=by
     refine H _ _ ?_ Vy.refl
     rcases own with⟨⟨p,h1⟩,h2,h3⟩|⟨b,MV,spare,Mi,h1,hb,hl,Sz,gM⟩
     ·simp only[Value.slice.injEq]at h1
      obtain⟨rfl,rfl,rfl⟩:=h1
      have hk:k=0:=by omega
      subst hk;subst h3
      exact .inl ⟨⟨_,rfl⟩,rfl,rfl⟩
     ·simp only[Value.slice.injEq]at h1
      obtain⟨rfl,_,rfl⟩:=h1
      have gN:k*n=0:=by simpa using UF.symm
      refine .inr ⟨b,cap,spare,Mi,rfl,by simpa using hb,by rw[List.append_nil,hl,Nat.add_mul,gN];rfl,?_,Jh⟩
      rw[Sz,Nat.sub_mul,Nat.sub_mul,Nat.add_mul,gN,Nat.add_zero]
    cases base<;>exact hK
   rcases own with⟨⟨p,h1⟩,h2,h3⟩|⟨b,MV,spare,Mi,h1,hb,hl,Sz,gM⟩
   ·simp only[Value.slice.injEq]at h1
    obtain⟨rfl,rfl,rfl⟩:=h1
    have hk:k=0:=by omega
    subst hk
    exact (Yq (List.eq_nil_of_length_eq_zero (by simpa using UF))).elim
   ·simp only[Value.slice.injEq]at h1
    obtain⟨rfl,_,rfl⟩:=h1
    simp only[Ze,YN]
    have Vz:news.length≤spare.length:=by rw[UF,Sz];exact Nat.mul_le_mul_right _ (by omega)
    refine Yd (e:=e') (lo:=0) (hi:=0) rfl (Nat.le_refl _) news 0 h (cs++spare).toArray hb ?_ Y8 ?_
    ·simp;rw[←hl];omega
    ·simp only[Zs,Nat.zero_add,Nat.add_zero]
     refine H _ _ (.inr ⟨b,cap,spare.drop news.length,Mi,rfl,?_,?_,?_,Jh⟩) ⟨by simp,fun b' XX hx=>?_⟩
     ·rw[Array.getElem?_setIfInBounds,if_pos rfl,if_pos (Za hb)]
      rw[←hl,UD,JW _ _ Vz,List.append_assoc]
     ·rw[List.length_append,hl,UF,Nat.add_mul]
     ·rw[List.length_drop,Sz,UF,←Nat.sub_mul];congr 1;omega
     ·rw[Array.getElem?_setIfInBounds,if_neg]
      intro e;subst e
      have vY:cap≠0:=by
       intro h0;subst h0
       have:k=0:=by omega
       subst this
       exact Yq (List.eq_nil_of_length_eq_zero (by simpa using UF))
      exact hx (by simp[ZL,vY])
  ·rw[if_neg Jh]
   have Qa:¬Builtin.nextslicecap (m+k) cap*i0.bytes>2 ^ 48:=by
    rw[SX]
    have:=UE (m+k) cap bytes (by omega) Yk
    omega
   have CD:¬i0.bytes=0:=by rw[SX];omega
   have ah:m+k≤140737488355328:=Nat.le_trans (by have:=Nat.mul_le_mul_left (m+k) HE;omega) Yk
   have jM:¬((m+k:Nat):Int)>IntKind.i64.max:=by
    have:IntKind.i64.max=9223372036854775807:=rfl
    rw[this];omega
   simp only[Ze,YX Tc,jM,false_and,if_false,if_neg Qa]
   intro t
   obtain⟨c,hc⟩:=Zy (Question.cut (Question.appendCap (m+k) cap e') t)
   have jA:m+k≤c:=by rw[hc];simp only[Question.cut];omega
   rw[←hc]
   have SY:∀{Q:Unit→Hp→Prop} (b:Nat) (g:Hp),Q () g→hw P (askRoom b) Q g:=fun {Q} b g q=>by
    unfold askRoom;split<;>exact q
   refine SY _ _ (Z1 own.sl (jL _ ?_))
   rw[dd]
   have jB:z0.cells.size=n:=by rw[←Cz,←CA];simp
   refine H (.slice (some ⟨h.size,0,none⟩) (m+k) c) _ (.inr ⟨h.size,c,(Builtin.zeroCells z0.cells (c-(m+k))).toList,hB,rfl,?_,?_,?_,jA⟩) (Vy.push _)
   ·rw[Array.getElem?_push_size]
    simp
   ·have XY:cs.length=m*n:=by obtain⟨_,_,_,hl,_⟩:=own.sl;exact hl
    rw[List.length_append,XY,UF,Nat.add_mul]
   ·rw[Array.length_toList,Yx,jB]
 ·cases Un
theorem Ld {sT xT E B k:Nat} {v:Value} {l:List Nat} {cb:Array Bool} (Un:Jf P sT=some E) (HD:P.underlying xT=some (.int .i64)) (hn:tn P E=some 1) (hz:tz P E=some [.int .u8 0]) (T6:tb P E=some 1)
  (own:ZZ B E h v l) (hB:B≤h.size) (Yk:l.length+k≤140737488355328)
  (H:∀v' h',ZZ B E h' v' (l++List.replicate k 0)→Zf B h h'→Vy (ZL v) h h'→K v' h'):Tj P T .append #[sT,xT] ty cb [v,.int .i64 (k:Nat)] K h:=by
 have e:(Builtin.zeroCells [Value.int .u8 0].toArray k).toList=(List.replicate k 0).map bv:=by
  rw[KO,List.map_replicate];rfl
 refine FB Un HD hn hz rfl (by decide) T6 own.own hB (by rw[e];exact VA _) (by omega) (Nat.le_refl _) ?_
 intro v' h' ho hb
 rw[e,←List.map_append]at ho
 refine H v' h' ⟨by simpa using ho,fun x hx=>?_⟩ (hb.Z7 hB own.own.ZD) hb
 rcases List.mem_append.1 hx with hx|hx
 ·exact own.byte x hx
 ·rw[List.eq_of_mem_replicate hx];omega
end
end Go.V
