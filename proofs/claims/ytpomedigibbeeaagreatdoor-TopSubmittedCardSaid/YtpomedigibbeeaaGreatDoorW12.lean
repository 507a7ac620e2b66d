/- W12: append, and where its result lies. -/
import Derived.Test.YtpomedigibbeeaaGreatDoorW11
namespace Go.V
set_option linter.unusedVariables false
set_option linter.unusedSimpArgs false
section
variable {P:Program} {T:World} {K:Value→Hp→Prop} {F:Env} {h:Hp} {ty:TypeId}
theorem NJ {sT xT E E' B n m k bytes:Nat} {v s:Value} {cs news zs:List Value} {cb:Array Bool} (UE:Jw P sT=some E) (Gs:P.underlying xT=some (.slice E')) (hn:tn P E=some n) (hz:tz P E=some zs) (Bq:zs.length=n) (SA:tb P E=some bytes)
  (own:Qs B E n h v m cs) (hB:B≤h.size) (src:Sl n h s k news) (Xj:news.all Z7=true) (Yp:(m+k)*bytes≤140737488355328) (Gt:1≤bytes)
  (H:∀v' h',Qs B E n h' v' (m+k) (cs++news)→VZ (ZO v) h h'→(∀b,ZO v'=some b→ZO v=some b∨h.size≤b)→K v' h'):TL P T .append #[sT,xT] ty cb [v,s] K h:=by
 unfold Jw at UE
 split at UE
 ·rename_i e' hu
  simp only[Option.some.injEq]at UE
  subst UE
  show hw P (do pure (.value (←Builtin.append_ #[sT,xT] ty #[v,s]))) (Xs P T K) h
  rw[Zf]
  show hw P (Builtin.append_ #[sT,xT] ty #[v,s]) K h
  obtain⟨i0,TJ⟩:∃i,P.info? e'=some i:=by
   unfold tn at hn
   cases hi:P.info? e' with
   | none=>rw[hi]at hn;cases hn
   | some i=>exact⟨i,rfl⟩
  have RC:i0.bytes=bytes:=by unfold tb at SA;rw[TJ]at SA;simpa using SA
  obtain⟨z0,FI,Br⟩:∃z,i0.zero=some z∧z.cells.toList=zs:=by
   unfold tz at hz;rw[TJ]at hz
   cases MQ:i0.zero with
   | none=>rw[Option.bind_some,MQ]at hz;cases hz
   | some z=>rw[Option.bind_some,MQ]at hz;exact⟨z,rfl,by simpa using hz⟩
  have qZ:∃base cap,v=.slice base m cap:=by
   rcases own with⟨⟨p,rfl⟩,rfl,_⟩|⟨b,cap,sp,_,rfl,_⟩
   ·exact⟨_,_,rfl⟩
   ·exact⟨_,_,rfl⟩
  obtain⟨base,cap,hv⟩:=qZ
  subst hv
  have fa:∀{Q:Value→Hp→Prop} (g:Hp),hw P (zeroValue e') Q g=Q z0 g:=fun {Q} g=>by
   unfold zeroValue;rw[Zf,Xa TJ];simp only[FI];rfl
  simp only[Builtin.append_,List.getElem?_toArray,List.getElem?_cons_zero,List.getElem?_cons_succ,Zf,Zu,Zt hu,Zt Gs,run_sizeOf hn,Bool.false_eq_true,if_false,src.lenOf,Bool.not_false,if_true]
  by_cases J9:m+k≤cap
  ·rw[if_pos J9,Zf]
   refine Z2 src ?_
   have UY:news.length=k*n:=by obtain⟨_,_,_,hl,_⟩:=src;exact hl
   by_cases Yw:news=[]
   ·subst Yw
    have kX:hw P (match base with|some a=>(do storeCells (a.add (m*n)) [];pure (Value.slice base (m+k) cap))|none=>pure (Value.slice base (m+k) cap)) K h=K (.slice base (m+k) cap) h:=by
     cases base<;>rfl
    have hK:K (.slice base (m+k) cap) h:=by
     refine H _ _ ?_ VZ.refl (fun b hb=>.inl (by
      cases base with
      | none=>simp[ZO]at hb
      | some a=>simpa [ZO] using hb))
     rcases own with⟨⟨p,h1⟩,h2,h3⟩|⟨b,Lx,spare,MS,h1,hb,hl,Rg,jt⟩
     ·simp only[Value.slice.injEq]at h1
      obtain⟨rfl,rfl,rfl⟩:=h1
      have hk:k=0:=by omega
      subst hk;subst h3
      exact .inl ⟨⟨_,rfl⟩,rfl,rfl⟩
     ·simp only[Value.slice.injEq]at h1
      obtain⟨rfl,_,rfl⟩:=h1
      have ju:k*n=0:=by simpa using UY.symm
      refine .inr ⟨b,cap,spare,MS,rfl,by simpa using hb,by rw[List.append_nil,hl,Nat.add_mul,ju];rfl,?_,J9⟩
      rw[Rg,Nat.sub_mul,Nat.sub_mul,Nat.add_mul,ju,Nat.add_zero]
    cases base<;>exact hK
   rcases own with⟨⟨p,h1⟩,h2,h3⟩|⟨b,Lx,spare,MS,h1,hb,hl,Rg,jt⟩
   ·simp only[Value.slice.injEq]at h1
    obtain⟨rfl,rfl,rfl⟩:=h1
    have hk:k=0:=by omega
    subst hk
    exact (Yw (List.eq_nil_of_length_eq_zero (by simpa using UY))).elim
   ·simp only[Value.slice.injEq]at h1
    obtain⟨rfl,_,rfl⟩:=h1
    simp only[Zf,YX]
    have V0:news.length≤spare.length:=by rw[UY,Rg];exact Nat.mul_le_mul_right _ (by omega)
    refine Yf (e:=e') (lo:=0) (hi:=0) rfl (Nat.le_refl _) news 0 h (cs++spare).toArray hb ?_ Xj ?_
    ·simp;rw[←hl];omega
    ·simp only[Zu,Nat.zero_add,Nat.add_zero]
     refine H _ _ (.inr ⟨b,cap,spare.drop news.length,MS,rfl,?_,?_,?_,J9⟩) ⟨by simp,fun b' XN hx=>?_⟩ (fun b' XN=>.inl (by simpa [ZO] using XN))
     ·rw[Array.getElem?_setIfInBounds,if_pos rfl,if_pos (Za hb)]
      rw[←hl,UW,Qk _ _ V0,List.append_assoc]
     ·rw[List.length_append,hl,UY,Nat.add_mul]
     ·rw[List.length_drop,Rg,UY,←Nat.sub_mul];congr 1;omega
     ·rw[Array.getElem?_setIfInBounds,if_neg]
      intro e;subst e
      have yU:cap≠0:=by
       intro h0;subst h0
       have:k=0:=by omega
       subst this
       exact Yw (List.eq_nil_of_length_eq_zero (by simpa using UY))
      exact hx (by simp[ZO,yU])
  ·rw[if_neg J9]
   have QB:¬Builtin.nextslicecap (m+k) cap*i0.bytes>2 ^ 48:=by
    rw[RC]
    have:=UX (m+k) cap bytes (by omega) Yp
    omega
   have Bt:¬i0.bytes=0:=by rw[RC];omega
   simp only[Zf,Xa TJ,Bt,or_false,and_false,if_false,if_neg QB]
   intro t
   obtain⟨c,hc⟩:=Zy (Question.cut (Question.appendCap (m+k) cap e') t)
   have kY:m+k≤c:=by rw[hc];simp only[Question.cut];omega
   rw[←hc]
   have RD:∀{Q:Unit→Hp→Prop} (b:Nat) (g:Hp),Q () g→hw P (askRoom b) Q g:=fun {Q} b g q=>by
    unfold askRoom;split<;>exact q
   refine RD _ _ (Z2 own.sl (Z2 src ?_))
   rw[fa]
   have kZ:z0.cells.size=n:=by rw[←Bq,←Br];simp
   refine H (.slice (some ⟨h.size,0,none⟩) (m+k) c) _ (.inr ⟨h.size,c,(Builtin.zeroCells z0.cells (c-(m+k))).toList,hB,rfl,?_,?_,?_,kY⟩) (VZ.push _) (fun b' XN=>.inr (by simp only[ZO]at XN;split at XN;cases XN;rw[←Option.some.inj XN];exact Nat.le_refl _))
   ·rw[Array.getElem?_push_size]
    simp
   ·have UY:news.length=k*n:=by obtain⟨_,_,_,hl,_⟩:=src;exact hl
    have XY:cs.length=m*n:=by obtain⟨_,_,_,hl,_⟩:=own.sl;exact hl
    rw[List.length_append,XY,UY,Nat.add_mul]
   ·rw[Array.length_toList,YF,kZ]
 ·cases UE
theorem Qa {sT xT E E' B:Nat} {v s:Value} {l k:List Nat} {z:Value} {cb:Array Bool} (UE:Jw P sT=some E) (Gs:P.underlying xT=some (.slice E')) (hn:tn P E=some 1) (hz:tz P E=some [z]) (SA:tb P E=some 1)
  (own:Z0 B E h v l) (hB:B≤h.size) (src:Bs h s k) (Yp:l.length+k.length≤140737488355328)
  (H:∀v' h',Z0 B E h' v' (l++k)→Zg B h h'→VZ (ZO v) h h'→(∀b,ZO v'=some b→ZO v=some b∨h.size≤b)→K v' h'):TL P T .append #[sT,xT] ty cb [v,s] K h:=by
 refine NJ UE Gs hn hz rfl SA own.own hB src.sl (V3 k) (by omega) (Nat.le_refl _) ?_
 intro v' h' ho hb lI
 refine H v' h' ⟨by simpa using ho,fun x hx=>?_⟩ (hb.Ya hB own.own.ZF) hb lI
 rcases List.mem_append.1 hx with hx|hx
 ·exact own.byte x hx
 ·exact src.byte x hx
theorem Qs.lt {B:Nat} {E:TypeId} {n:Nat} {h:Hp} {v:Value} {m:Nat} {cs:List Value} (s:Qs B E n h v m cs):∀b,ZO v=some b→b<h.size:=by
 intro b hb
 rcases s with⟨⟨p,rfl⟩,_,_⟩|⟨b',cap,spare,_,rfl,hx,_⟩
 ·cases p<;>simp[ZO]at hb
 ·simp only[ZO]at hb
  split at hb
  ·cases hb
  ·rw[←Option.some.inj hb];exact Za hx
theorem Z0.Lv {B:Nat} {E:TypeId} {h h':Hp} {v:Value} {l:List Nat} (s:Z0 B E h v l) {x:Option Nat} (a:VZ x h h') (hx:∀b,ZO v=some b→x≠some b):Z0 B E h' v l:=⟨s.own.Lv a hx,s.byte⟩
end
end Go.V
