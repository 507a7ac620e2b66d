/- W12: append, and where its result lies. -/
import Derived.Test.YtkfhncfkagcamaaGreatDoorW11
namespace Go.V
set_option linter.unusedVariables false
set_option linter.unusedSimpArgs false
section
variable {P:Program} {T:World} {K:Value→Hp→Prop} {F:Env} {h:Hp} {ty:TypeId}
theorem Nm {sT xT E E' B n m k bytes:Nat} {v s:Value} {cs news zs:List Value} {cb:Array Bool} (Uz:Jf P sT=some E) (Gc:P.underlying xT=some (.slice E')) (hn:tn P E=some n) (hz:tz P E=some zs) (Bu:zs.length=n) (St:tb P E=some bytes)
  (own:Ql B E n h v m cs) (hB:B≤h.size) (src:Sl n h s k news) (Xd:news.all Z5=true) (Ym:(m+k)*bytes≤140737488355328) (Iq:1≤bytes)
  (H:∀v' h',Ql B E n h' v' (m+k) (cs++news)→VT (ZM v) h h'→(∀b,ZM v'=some b→ZM v=some b∨h.size≤b)→K v' h'):Sq P T .append #[sT,xT] ty cb [v,s] K h:=by
 unfold Jf at Uz
 split at Uz
 ·rename_i e' hu
  simp only[Option.some.injEq]at Uz
  subst Uz
  show hw P (do pure (.value (←Builtin.append_ #[sT,xT] ty #[v,s]))) (Xm P T K) h
  rw[Zf]
  show hw P (Builtin.append_ #[sT,xT] ty #[v,s]) K h
  obtain⟨i0,TC⟩:∃i,P.info? e'=some i:=by
   unfold tn at hn
   cases hi:P.info? e' with
   | none=>rw[hi]at hn;cases hn
   | some i=>exact⟨i,rfl⟩
  have Rp:i0.bytes=bytes:=by unfold tb at St;rw[TC]at St;simpa using St
  obtain⟨z0,FC,Bv⟩:∃z,i0.zero=some z∧z.cells.toList=zs:=by
   unfold tz at hz;rw[TC]at hz
   cases MD:i0.zero with
   | none=>rw[Option.bind_some,MD]at hz;cases hz
   | some z=>rw[Option.bind_some,MD]at hz;exact⟨z,rfl,by simpa using hz⟩
  have qQ:∃base cap,v=.slice base m cap:=by
   rcases own with⟨⟨p,rfl⟩,rfl,_⟩|⟨b,cap,sp,_,rfl,_⟩
   ·exact⟨_,_,rfl⟩
   ·exact⟨_,_,rfl⟩
  obtain⟨base,cap,hv⟩:=qQ
  subst hv
  have fb:∀{Q:Value→Hp→Prop} (g:Hp),hw P (zeroValue e') Q g=Q z0 g:=fun {Q} g=>by
   unfold zeroValue;rw[Zf,Y1 TC];simp only[FC];rfl
  simp only[Builtin.append_,List.getElem?_toArray,List.getElem?_cons_zero,List.getElem?_cons_succ,Zf,Zt,Zr hu,Zr Gc,run_sizeOf hn,Bool.false_eq_true,if_false,src.lenOf,Bool.not_false,if_true]
  by_cases Xr:m+k≤cap
  ·rw[if_pos Xr,Zf]
   refine Z3 src ?_
   have Qq:news.length=k*n:=by obtain⟨_,_,_,hl,_⟩:=src;exact hl
   by_cases Yr:news=[]
   ·subst Yr
    have Eb:hw P (match base with|some a=>(do storeCells (a.add (m*n)) [];pure (Value.slice base (m+k) cap))|none=>pure (Value.slice base (m+k) cap)) K h=K (.slice base (m+k) cap) h:=by
     cases base<;>rfl
    have hK:K (.slice base (m+k) cap) h:=by
     refine H _ _ ?_ VT.refl (fun b hb=>.inl (by
      cases base with
      | none=>simp[ZM]at hb
      | some a=>simpa [ZM] using hb))
     rcases own with⟨⟨p,h1⟩,h2,h3⟩|⟨b,Li,spare,MF,h1,hb,hl,SY,bF⟩
     ·simp only[Value.slice.injEq]at h1
      obtain⟨rfl,rfl,rfl⟩:=h1
      have hk:k=0:=by omega
      subst hk;subst h3
      exact .inl ⟨⟨_,rfl⟩,rfl,rfl⟩
     ·simp only[Value.slice.injEq]at h1
      obtain⟨rfl,_,rfl⟩:=h1
      have jk:k*n=0:=by simpa using Qq.symm
      refine .inr ⟨b,cap,spare,MF,rfl,by simpa using hb,by rw[List.append_nil,hl,Nat.add_mul,jk];rfl,?_,Xr⟩
      rw[SY,Nat.sub_mul,Nat.sub_mul,Nat.add_mul,jk,Nat.add_zero]
    cases base<;>exact hK
   rcases own with⟨⟨p,h1⟩,h2,h3⟩|⟨b,Li,spare,MF,h1,hb,hl,SY,bF⟩
   ·simp only[Value.slice.injEq]at h1
    obtain⟨rfl,rfl,rfl⟩:=h1
    have hk:k=0:=by omega
    subst hk
    exact (Yr (List.eq_nil_of_length_eq_zero (by simpa using Qq))).elim
   ·simp only[Value.slice.injEq]at h1
    obtain⟨rfl,_,rfl⟩:=h1
    simp only[Zf,YQ]
    have VU:news.length≤spare.length:=by rw[Qq,SY];exact Nat.mul_le_mul_right _ (by omega)
    refine Yf (e:=e') (lo:=0) (hi:=0) rfl (Nat.le_refl _) news 0 h (cs++spare).toArray hb ?_ Xd ?_
    ·simp;rw[←hl];omega
    ·simp only[Zt,Nat.zero_add,Nat.add_zero]
     refine H _ _ (.inr ⟨b,cap,spare.drop news.length,MF,rfl,?_,?_,?_,Xr⟩) ⟨by simp,fun b' X3 hx=>?_⟩ (fun b' X3=>.inl (by simpa [ZM] using X3))
     ·rw[Array.getElem?_setIfInBounds,if_pos rfl,if_pos (Za hb)]
      rw[←hl,UR,Qa _ _ VU,List.append_assoc]
     ·rw[List.length_append,hl,Qq,Nat.add_mul]
     ·rw[List.length_drop,SY,Qq,←Nat.sub_mul];congr 1;omega
     ·rw[Array.getElem?_setIfInBounds,if_neg]
      intro e;subst e
      have yQ:cap≠0:=by
       intro h0;subst h0
       have:k=0:=by omega
       subst this
       exact Yr (List.eq_nil_of_length_eq_zero (by simpa using Qq))
      exact hx (by simp[ZM,yQ])
  ·rw[if_neg Xr]
   have Jg:¬Builtin.nextslicecap (m+k) cap*i0.bytes>2 ^ 48:=by
    rw[Rp]
    have:=US (m+k) cap bytes (by omega) Ym
    omega
   have Bw:¬i0.bytes=0:=by rw[Rp];omega
   simp only[Zf,Y1 TC,Bw,or_false,and_false,if_false,if_neg Jg]
   intro t
   obtain⟨c,hc⟩:=Zu (Question.cut (Question.appendCap (m+k) cap e') t)
   have kP:m+k≤c:=by rw[hc];simp only[Question.cut];omega
   rw[←hc]
   have Rq:∀{Q:Unit→Hp→Prop} (b:Nat) (g:Hp),Q () g→hw P (askRoom b) Q g:=fun {Q} b g q=>by
    unfold askRoom;split<;>exact q
   refine Rq _ _ (Z3 own.sl (Z3 src ?_))
   rw[fb]
   have kQ:z0.cells.size=n:=by rw[←Bu,←Bv];simp
   refine H (.slice (some ⟨h.size,0,none⟩) (m+k) c) _ (.inr ⟨h.size,c,(Builtin.zeroCells z0.cells (c-(m+k))).toList,hB,rfl,?_,?_,?_,kP⟩) (VT.push _) (fun b' X3=>.inr (by simp only[ZM]at X3;split at X3;cases X3;rw[←Option.some.inj X3];exact Nat.le_refl _))
   ·rw[Array.getElem?_push_size]
    simp
   ·have Qq:news.length=k*n:=by obtain⟨_,_,_,hl,_⟩:=src;exact hl
    have X4:cs.length=m*n:=by obtain⟨_,_,_,hl,_⟩:=own.sl;exact hl
    rw[List.length_append,X4,Qq,Nat.add_mul]
   ·rw[Array.length_toList,YA,kQ]
 ·cases Uz
theorem JW {sT xT E E' B:Nat} {v s:Value} {l k:List Nat} {z:Value} {cb:Array Bool} (Uz:Jf P sT=some E) (Gc:P.underlying xT=some (.slice E')) (hn:tn P E=some 1) (hz:tz P E=some [z]) (St:tb P E=some 1)
  (own:Z1 B E h v l) (hB:B≤h.size) (src:Bs h s k) (Ym:l.length+k.length≤140737488355328)
  (H:∀v' h',Z1 B E h' v' (l++k)→Ze B h h'→VT (ZM v) h h'→(∀b,ZM v'=some b→ZM v=some b∨h.size≤b)→K v' h'):Sq P T .append #[sT,xT] ty cb [v,s] K h:=by
 refine Nm Uz Gc hn hz rfl St own.own hB src.sl (VV k) (by omega) (Nat.le_refl _) ?_
 intro v' h' ho hb lj
 refine H v' h' ⟨by simpa using ho,fun x hx=>?_⟩ (hb.Z4 hB own.own.ZD) hb lj
 rcases List.mem_append.1 hx with hx|hx
 ·exact own.byte x hx
 ·exact src.byte x hx
theorem Ql.lt {B:Nat} {E:TypeId} {n:Nat} {h:Hp} {v:Value} {m:Nat} {cs:List Value} (s:Ql B E n h v m cs):∀b,ZM v=some b→b<h.size:=by
 intro b hb
 rcases s with⟨⟨p,rfl⟩,_,_⟩|⟨b',cap,spare,_,rfl,hx,_⟩
 ·cases p<;>simp[ZM]at hb
 ·simp only[ZM]at hb
  split at hb
  ·cases hb
  ·rw[←Option.some.inj hb];exact Za hx
theorem Z1.Mh {B:Nat} {E:TypeId} {h h':Hp} {v:Value} {l:List Nat} (s:Z1 B E h v l) {x:Option Nat} (a:VT x h h') (hx:∀b,ZM v=some b→x≠some b):Z1 B E h' v l:=⟨s.own.Mh a hx,s.byte⟩
end
end Go.V
