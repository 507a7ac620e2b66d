/- W12: append, and where its result lies. -/
import Derived.Test.YtboeoomhjbcecaaGreatDoorW11
namespace Go.V
set_option linter.unusedVariables false
set_option linter.unusedSimpArgs false
section
variable {P:Program} {T:World} {K:Value→Hp→Prop} {F:Env} {h:Hp} {ty:TypeId}
theorem Mm {sT xT E E' B n m k bytes:Nat} {v s:Value} {cs news zs:List Value} {cb:Array Bool} (UQ:JI P sT=some E) (Fa:P.underlying xT=some (.slice E')) (hn:tn P E=some n) (hz:tz P E=some zs) (Au:zs.length=n) (SQ:tb P E=some bytes)
  (own:Qv B E n h v m cs) (hB:B≤h.size) (src:Sl n h s k news) (Xc:news.all Z7=true) (Ys:(m+k)*bytes≤140737488355328) (Kf:1≤bytes)
  (H:∀v' h',Qv B E n h' v' (m+k) (cs++news)→Tv (ZO v) h h'→(∀b,ZO v'=some b→ZO v=some b∨h.size≤b)→K v' h'):T9 P T .append #[sT,xT] ty cb [v,s] K h:=by
 unfold JI at UQ;split at UQ
 ·rename_i e' hu;simp only[Option.some.injEq]at UQ;subst UQ;show hw P (do pure (.value (←Builtin.append_ #[sT,xT] ty #[v,s]))) (Xy P T K) h;rw[Zg];show hw P (Builtin.append_ #[sT,xT] ty #[v,s]) K h;obtain⟨i0,T6⟩:∃i,P.info? e'=some i:=by
   unfold tn at hn
   cases hi:P.info? e' with
   | none=>rw[hi]at hn;cases hn
   | some i=>exact⟨i,rfl⟩
  have RW:i0.bytes=bytes:=by unfold tb at SQ;rw[T6]at SQ;simpa using SQ
  obtain⟨z0,Et,Av⟩:∃z,i0.zero=some z∧z.cells.toList=zs:=by
   unfold tz at hz;rw[T6]at hz
   cases Lt:i0.zero with
   | none=>rw[Option.bind_some,Lt]at hz;cases hz
   | some z=>rw[Option.bind_some,Lt]at hz;exact⟨z,rfl,by simpa using hz⟩
  have ub:∃base cap,v=.slice base m cap:=by
   rcases own with⟨⟨p,rfl⟩,rfl,_⟩|⟨b,cap,sp,_,rfl,_⟩
   ·exact⟨_,_,rfl⟩
   ·exact⟨_,_,rfl⟩
  obtain⟨base,cap,hv⟩:=ub;subst hv;have gK:∀{Q:Value→Hp→Prop} (g:Hp),hw P (zeroValue e') Q g=Q z0 g:=fun {Q} g=>by
   unfold zeroValue;rw[Zg,Xh T6];simp only[Et];rfl
  simp only[Builtin.append_,List.getElem?_toArray,List.getElem?_cons_zero,List.getElem?_cons_succ,Zg,Zw,Zu hu,Zu Fa,run_sizeOf hn,Bool.false_eq_true,if_false,src.lenOf,Bool.not_false,if_true];by_cases J4:m+k≤cap
  ·rw[if_pos J4,Zg];refine Z4 src ?_;have Wb:news.length=k*n:=by obtain⟨_,_,_,hl,_⟩:=src;exact hl
   by_cases YA:news=[]
   ·subst YA;have Kg:hw P (match base with|some a=>(do storeCells (a.add (m*n)) [];pure (Value.slice base (m+k) cap))|none=>pure (Value.slice base (m+k) cap)) K h=K (.slice base (m+k) cap) h:=by
     cases base<;>rfl
    have hK:K (.slice base (m+k) cap) h:=by
     refine H _ _ ?_ Tv.refl (fun b hb=>.inl (by
      cases base with
      | none=>simp[ZO]at hb
      | some a=>simpa [ZO] using hb))
     rcases own with⟨⟨p,h1⟩,h2,h3⟩|⟨b,Kh,spare,Lv,h1,hb,hl,Ry,kR⟩
     ·simp only[Value.slice.injEq]at h1;obtain⟨rfl,rfl,rfl⟩:=h1;have hk:k=0:=by omega
      subst hk;subst h3;exact .inl ⟨⟨_,rfl⟩,rfl,rfl⟩
     ·simp only[Value.slice.injEq]at h1;obtain⟨rfl,_,rfl⟩:=h1;have kS:k*n=0:=by simpa using Wb.symm
      refine .inr ⟨b,cap,spare,Lv,rfl,by simpa using hb,by rw[List.append_nil,hl,Nat.add_mul,kS];rfl,?_,J4⟩;rw[Ry,Nat.sub_mul,Nat.sub_mul,Nat.add_mul,kS,Nat.add_zero]
    cases base<;>exact hK
   rcases own with⟨⟨p,h1⟩,h2,h3⟩|⟨b,Kh,spare,Lv,h1,hb,hl,Ry,kR⟩
   ·simp only[Value.slice.injEq]at h1;obtain⟨rfl,rfl,rfl⟩:=h1;have hk:k=0:=by omega
    subst hk;exact (YA (List.eq_nil_of_length_eq_zero (by simpa using Wb))).elim
   ·simp only[Value.slice.injEq]at h1;obtain⟨rfl,_,rfl⟩:=h1;simp only[Zg,Y4];have Ty:news.length≤spare.length:=by rw[Wb,Ry];exact Nat.mul_le_mul_right _ (by omega)
    refine Yk (e:=e') (lo:=0) (hi:=0) rfl (Nat.le_refl _) news 0 h (cs++spare).toArray hb ?_ Xc ?_
    ·simp;rw[←hl];omega
    ·simp only[Zw,Nat.zero_add,Nat.add_zero];refine H _ _ (.inr ⟨b,cap,spare.drop news.length,Lv,rfl,?_,?_,?_,J4⟩) ⟨by simp,fun b' XH hx=>?_⟩ (fun b' XH=>.inl (by simpa [ZO] using XH))
     ·rw[Array.getElem?_setIfInBounds,if_pos rfl,if_pos (Za hb)];rw[←hl,U9,QA _ _ Ty,List.append_assoc]
     ·rw[List.length_append,hl,Wb,Nat.add_mul]
     ·rw[List.length_drop,Ry,Wb,←Nat.sub_mul];congr 1;omega
     ·rw[Array.getElem?_setIfInBounds,if_neg];intro e;subst e;have hcz:cap≠0:=by
       intro h0;subst h0;have:k=0:=by omega
       subst this;exact YA (List.eq_nil_of_length_eq_zero (by simpa using Wb))
      exact hx (by simp[ZO,hcz])
  ·rw[if_neg J4];have QO:¬Builtin.nextslicecap (m+k) cap*i0.bytes>2 ^ 48:=by
    rw[RW];have:=Wa (m+k) cap bytes (by omega) Ys;omega
   have Aw:¬i0.bytes=0:=by rw[RW];omega
   simp only[Zg,Xh T6,Aw,or_false,and_false,if_false,if_neg QO];intro t;obtain⟨c,hc⟩:=Zx (Question.cut (Question.appendCap (m+k) cap e') t);have nh:m+k≤c:=by rw[hc];simp only[Question.cut];omega
   rw[←hc];have RX:∀{Q:Unit→Hp→Prop} (b:Nat) (g:Hp),Q () g→hw P (askRoom b) Q g:=fun {Q} b g q=>by
    unfold askRoom;split<;>exact q
   refine RX _ _ (Z4 own.sl (Z4 src ?_));rw[gK];have nj:z0.cells.size=n:=by rw[←Au,←Av];simp
   refine H (.slice (some ⟨h.size,0,none⟩) (m+k) c) _ (.inr ⟨h.size,c,(Builtin.zeroCells z0.cells (c-(m+k))).toList,hB,rfl,?_,?_,?_,nh⟩) (Tv.push _) (fun b' XH=>.inr (by simp only[ZO]at XH;split at XH;cases XH;rw[←Option.some.inj XH];exact Nat.le_refl _))
   ·rw[Array.getElem?_push_size];simp
   ·have Wb:news.length=k*n:=by obtain⟨_,_,_,hl,_⟩:=src;exact hl
    have XW:cs.length=m*n:=by obtain⟨_,_,_,hl,_⟩:=own.sl;exact hl
    rw[List.length_append,XW,Wb,Nat.add_mul]
   ·rw[Array.length_toList,YM,nj]
 ·cases UQ
theorem Qo {sT xT E E' B:Nat} {v s:Value} {l k:List Nat} {z:Value} {cb:Array Bool} (UQ:JI P sT=some E) (Fa:P.underlying xT=some (.slice E')) (hn:tn P E=some 1) (hz:tz P E=some [z]) (SQ:tb P E=some 1)
  (own:Z0 B E h v l) (hB:B≤h.size) (src:Bs h s k) (Ys:l.length+k.length≤140737488355328)
  (H:∀v' h',Z0 B E h' v' (l++k)→Zf B h h'→Tv (ZO v) h h'→(∀b,ZO v'=some b→ZO v=some b∨h.size≤b)→K v' h'):T9 P T .append #[sT,xT] ty cb [v,s] K h:=by
 refine Mm UQ Fa hn hz rfl SQ own.own hB src.sl (TA k) (by omega) (Nat.le_refl _) ?_;intro v' h' ho hb nx;refine H v' h' ⟨by simpa using ho,fun x hx=>?_⟩ (hb.Z2 hB own.own.ZG) hb nx;rcases List.mem_append.1 hx with hx|hx
 ·exact own.byte x hx
 ·exact src.byte x hx
theorem Qv.lt {B:Nat} {E:TypeId} {n:Nat} {h:Hp} {v:Value} {m:Nat} {cs:List Value} (s:Qv B E n h v m cs):∀b,ZO v=some b→b<h.size:=by
 intro b hb;rcases s with⟨⟨p,rfl⟩,_,_⟩|⟨b',cap,spare,_,rfl,hx,_⟩
 ·cases p<;>simp[ZO]at hb
 ·simp only[ZO]at hb;split at hb
  ·cases hb
  ·rw[←Option.some.inj hb];exact Za hx
theorem Z0.M0 {B:Nat} {E:TypeId} {h h':Hp} {v:Value} {l:List Nat} (s:Z0 B E h v l) {x:Option Nat} (a:Tv x h h') (hx:∀b,ZO v=some b→x≠some b):Z0 B E h' v l:=⟨s.own.M0 a hx,s.byte⟩
end
end Go.V
