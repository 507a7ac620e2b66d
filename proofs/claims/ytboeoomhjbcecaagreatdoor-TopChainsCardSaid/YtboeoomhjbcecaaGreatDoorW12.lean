/- W12: append, and where its result lies. -/
import Derived.Test.YtboeoomhjbcecaaGreatDoorW11
namespace Go.V
set_option linter.unusedVariables false
set_option linter.unusedSimpArgs false
section
variable {P:Program} {T:World} {K:Value→Hp→Prop} {F:Env} {h:Hp} {ty:TypeId}
theorem Mf {sT xT E E' B n m k bytes:Nat} {v s:Value} {cs news zs:List Value} {cb:Array Bool} (US:JD P sT=some E) (G8:P.underlying xT=some (.slice E')) (hn:tn P E=some n) (hz:tz P E=some zs) (Aw:zs.length=n) (SM:tb P E=some bytes)
  (own:Qx B E n h v m cs) (hB:B≤h.size) (src:Sl n h s k news) (Y9:news.all Z6=true) (Yr:(m+k)*bytes≤140737488355328) (Ka:1≤bytes)
  (H:∀v' h',Qx B E n h' v' (m+k) (cs++news)→Tm (ZO v) h h'→(∀b,ZO v'=some b→ZO v=some b∨h.size≤b)→K v' h'):T6 P T .append #[sT,xT] ty cb [v,s] K h:=by
 unfold JD at US;split at US
 ·rename_i e' hu;simp only[Option.some.injEq]at US;subst US;show hw P (do pure (.value (←Builtin.append_ #[sT,xT] ty #[v,s]))) (Xx P T K) h;rw[Zf];show hw P (Builtin.append_ #[sT,xT] ty #[v,s]) K h;obtain⟨i0,T3⟩:∃i,P.info? e'=some i:=by
   unfold tn at hn
   cases hi:P.info? e' with
   | none=>rw[hi]at hn;cases hn
   | some i=>exact⟨i,rfl⟩
  have RN:i0.bytes=bytes:=by unfold tb at SM;rw[T3]at SM;simpa using SM
  obtain⟨z0,Eu,Ax⟩:∃z,i0.zero=some z∧z.cells.toList=zs:=by
   unfold tz at hz;rw[T3]at hz
   cases Lq:i0.zero with
   | none=>rw[Option.bind_some,Lq]at hz;cases hz
   | some z=>rw[Option.bind_some,Lq]at hz;exact⟨z,rfl,by simpa using hz⟩
  have ug:∃base cap,v=.slice base m cap:=by
   rcases own with⟨⟨p,rfl⟩,rfl,_⟩|⟨b,cap,sp,_,rfl,_⟩
   ·exact⟨_,_,rfl⟩
   ·exact⟨_,_,rfl⟩
  obtain⟨base,cap,hv⟩:=ug;subst hv;have gI:∀{Q:Value→Hp→Prop} (g:Hp),hw P (zeroValue e') Q g=Q z0 g:=fun {Q} g=>by
   unfold zeroValue;rw[Zf,Xf T3];simp only[Eu];rfl
  simp only[Builtin.append_,List.getElem?_toArray,List.getElem?_cons_zero,List.getElem?_cons_succ,Zf,Zw,Zt hu,Zt G8,run_sizeOf hn,Bool.false_eq_true,if_false,src.lenOf,Bool.not_false,if_true];by_cases Qi:m+k≤cap
  ·rw[if_pos Qi,Zf];refine Z1 src ?_;have Uq:news.length=k*n:=by obtain⟨_,_,_,hl,_⟩:=src;exact hl
   by_cases Yv:news=[]
   ·subst Yv;have nk:hw P (match base with|some a=>(do storeCells (a.add (m*n)) [];pure (Value.slice base (m+k) cap))|none=>pure (Value.slice base (m+k) cap)) K h=K (.slice base (m+k) cap) h:=by
     cases base<;>rfl
    have hK:K (.slice base (m+k) cap) h:=by
     refine H _ _ ?_ Tm.refl (fun b hb=>.inl (by
      cases base with
      | none=>simp[ZO]at hb
      | some a=>simpa [ZO] using hb))
     rcases own with⟨⟨p,h1⟩,h2,h3⟩|⟨b,Kb,spare,Ls,h1,hb,hl,Rp,kM⟩
     ·simp only[Value.slice.injEq]at h1;obtain⟨rfl,rfl,rfl⟩:=h1;have hk:k=0:=by omega
      subst hk;subst h3;exact .inl ⟨⟨_,rfl⟩,rfl,rfl⟩
     ·simp only[Value.slice.injEq]at h1;obtain⟨rfl,_,rfl⟩:=h1;have kO:k*n=0:=by simpa using Uq.symm
      refine .inr ⟨b,cap,spare,Ls,rfl,by simpa using hb,by rw[List.append_nil,hl,Nat.add_mul,kO];rfl,?_,Qi⟩;rw[Rp,Nat.sub_mul,Nat.sub_mul,Nat.add_mul,kO,Nat.add_zero]
    cases base<;>exact hK
   rcases own with⟨⟨p,h1⟩,h2,h3⟩|⟨b,Kb,spare,Ls,h1,hb,hl,Rp,kM⟩
   ·simp only[Value.slice.injEq]at h1;obtain⟨rfl,rfl,rfl⟩:=h1;have hk:k=0:=by omega
    subst hk;exact (Yv (List.eq_nil_of_length_eq_zero (by simpa using Uq))).elim
   ·simp only[Value.slice.injEq]at h1;obtain⟨rfl,_,rfl⟩:=h1;simp only[Zf,Y1];have Tq:news.length≤spare.length:=by rw[Uq,Rp];exact Nat.mul_le_mul_right _ (by omega)
    refine Yi (e:=e') (lo:=0) (hi:=0) rfl (Nat.le_refl _) news 0 h (cs++spare).toArray hb ?_ Y9 ?_
    ·simp;rw[←hl];omega
    ·simp only[Zw,Nat.zero_add,Nat.add_zero];refine H _ _ (.inr ⟨b,cap,spare.drop news.length,Ls,rfl,?_,?_,?_,Qi⟩) ⟨by simp,fun b' XU hx=>?_⟩ (fun b' XU=>.inl (by simpa [ZO] using XU))
     ·rw[Array.getElem?_setIfInBounds,if_pos rfl,if_pos (Za hb)];rw[←hl,Wc,Qy _ _ Tq,List.append_assoc]
     ·rw[List.length_append,hl,Uq,Nat.add_mul]
     ·rw[List.length_drop,Rp,Uq,←Nat.sub_mul];congr 1;omega
     ·rw[Array.getElem?_setIfInBounds,if_neg];intro e;subst e;have hcz:cap≠0:=by
       intro h0;subst h0;have:k=0:=by omega
       subst this;exact Yv (List.eq_nil_of_length_eq_zero (by simpa using Uq))
      exact hx (by simp[ZO,hcz])
  ·rw[if_neg Qi];have QN:¬Builtin.nextslicecap (m+k) cap*i0.bytes>2 ^ 48:=by
    rw[RN];have:=We (m+k) cap bytes (by omega) Yr;omega
   have Ay:¬i0.bytes=0:=by rw[RN];omega
   simp only[Zf,Xf T3,Ay,or_false,and_false,if_false,if_neg QN];intro t;obtain⟨c,hc⟩:=Zy (Question.cut (Question.appendCap (m+k) cap e') t);have np:m+k≤c:=by rw[hc];simp only[Question.cut];omega
   rw[←hc];have RO:∀{Q:Unit→Hp→Prop} (b:Nat) (g:Hp),Q () g→hw P (askRoom b) Q g:=fun {Q} b g q=>by
    unfold askRoom;split<;>exact q
   refine RO _ _ (Z1 own.sl (Z1 src ?_));rw[gI];have nq:z0.cells.size=n:=by rw[←Aw,←Ax];simp
   refine H (.slice (some ⟨h.size,0,none⟩) (m+k) c) _ (.inr ⟨h.size,c,(Builtin.zeroCells z0.cells (c-(m+k))).toList,hB,rfl,?_,?_,?_,np⟩) (Tm.push _) (fun b' XU=>.inr (by simp only[ZO]at XU;split at XU;cases XU;rw[←Option.some.inj XU];exact Nat.le_refl _))
   ·rw[Array.getElem?_push_size];simp
   ·have Uq:news.length=k*n:=by obtain⟨_,_,_,hl,_⟩:=src;exact hl
    have XR:cs.length=m*n:=by obtain⟨_,_,_,hl,_⟩:=own.sl;exact hl
    rw[List.length_append,XR,Uq,Nat.add_mul]
   ·rw[Array.length_toList,YJ,nq]
 ·cases US
theorem Qj {sT xT E E' B:Nat} {v s:Value} {l k:List Nat} {z:Value} {cb:Array Bool} (US:JD P sT=some E) (G8:P.underlying xT=some (.slice E')) (hn:tn P E=some 1) (hz:tz P E=some [z]) (SM:tb P E=some 1)
  (own:Z0 B E h v l) (hB:B≤h.size) (src:Bs h s k) (Yr:l.length+k.length≤140737488355328)
  (H:∀v' h',Z0 B E h' v' (l++k)→Zg B h h'→Tm (ZO v) h h'→(∀b,ZO v'=some b→ZO v=some b∨h.size≤b)→K v' h'):T6 P T .append #[sT,xT] ty cb [v,s] K h:=by
 refine Mf US G8 hn hz rfl SM own.own hB src.sl (Tt k) (by omega) (Nat.le_refl _) ?_;intro v' h' ho hb nF;refine H v' h' ⟨by simpa using ho,fun x hx=>?_⟩ (hb.Z3 hB own.own.ZG) hb nF;rcases List.mem_append.1 hx with hx|hx
 ·exact own.byte x hx
 ·exact src.byte x hx
theorem Qx.lt {B:Nat} {E:TypeId} {n:Nat} {h:Hp} {v:Value} {m:Nat} {cs:List Value} (s:Qx B E n h v m cs):∀b,ZO v=some b→b<h.size:=by
 intro b hb;rcases s with⟨⟨p,rfl⟩,_,_⟩|⟨b',cap,spare,_,rfl,hx,_⟩
 ·cases p<;>simp[ZO]at hb
 ·simp only[ZO]at hb;split at hb
  ·cases hb
  ·rw[←Option.some.inj hb];exact Za hx
theorem Z0.MV {B:Nat} {E:TypeId} {h h':Hp} {v:Value} {l:List Nat} (s:Z0 B E h v l) {x:Option Nat} (a:Tm x h h') (hx:∀b,ZO v=some b→x≠some b):Z0 B E h' v l:=⟨s.own.MV a hx,s.byte⟩
end
end Go.V
