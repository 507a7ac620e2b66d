/- W12: append, and where its result lies. -/
import Derived.Test.YtnhbpmoeaodmnaaGreatDoorW11
namespace Go.V
set_option linter.unusedVariables false
set_option linter.unusedSimpArgs false
section
variable {P:Program} {T:World} {K:Value→Hp→Prop} {F:Env} {h:Hp} {ty:TypeId}
theorem ZeQ {sT xT E E' B n m k bytes:Nat} {v s:Value} {cs news zs:List Value} {cb:Array Bool} (hsT:Jj P sT=some E) (hxT:P.underlying xT=some (.slice E')) (hn:tn P E=some n) (hz:tz P E=some zs) (hzn:zs.length=n) (hby:tb P E=some bytes)
  (own:Qq B E n h v m cs) (hB:B≤h.size) (src:Sl n h s k news) (Xf:news.all Z8=true) (Yn:(m+k)*bytes≤140737488355328) (hb1:1≤bytes)
  (H:∀v' h',Qq B E n h' v' (m+k) (cs++news)→But (ZT v) h h'→(∀b,ZT v'=some b→ZT v=some b∨h.size≤b)→K v' h'):vBi P T .append #[sT,xT] ty cb [v,s] K h:=by
 unfold Jj at hsT
 split at hsT
 ·rename_i e' hu
  simp only[Option.some.injEq]at hsT
  subst hsT
  show hw P (do pure (.value (←Builtin.append_ #[sT,xT] ty #[v,s]))) (Xn P T K) h
  rw[Ze]
  show hw P (Builtin.append_ #[sT,xT] ty #[v,s]) K h
  obtain⟨i0,hi0⟩:∃i,P.info? e'=some i:=by
   unfold tn at hn
   cases hi:P.info? e' with
   | none=>rw[hi]at hn;cases hn
   | some i=>exact⟨i,rfl⟩
  have hib:i0.bytes=bytes:=by unfold tb at hby;rw[hi0]at hby;simpa using hby
  obtain⟨z0,hz0,hzs⟩:∃z,i0.zero=some z∧z.cells.toList=zs:=by
   unfold tz at hz;rw[hi0]at hz
   cases hzz:i0.zero with
   | none=>rw[Option.bind_some,hzz]at hz;cases hz
   | some z=>rw[Option.bind_some,hzz]at hz;exact⟨z,rfl,by simpa using hz⟩
  have hvs:∃base cap,v=.slice base m cap:=by
   rcases own with⟨⟨p,rfl⟩,rfl,_⟩|⟨b,cap,sp,_,rfl,_⟩
   ·exact⟨_,_,rfl⟩
   ·exact⟨_,_,rfl⟩
  obtain⟨base,cap,hv⟩:=hvs
  subst hv
  have hzv:∀{Q:Value→Hp→Prop} (g:Hp),hw P (zeroValue e') Q g=Q z0 g:=fun {Q} g=>by
   unfold zeroValue;rw[Ze,Y5 hi0];simp only[hz0];rfl
  simp only[Builtin.append_,List.getElem?_toArray,List.getElem?_cons_zero,List.getElem?_cons_succ,Ze,Zt,Zs hu,Zs hxT,run_sizeOf hn,Bool.false_eq_true,if_false,src.lenOf,Bool.not_false,if_true]
  by_cases JX:m+k≤cap
  ·rw[if_pos JX,Ze]
   refine Z1 src ?_
   have QX:news.length=k*n:=by obtain⟨_,_,_,hl,_⟩:=src;exact hl
   by_cases Ys:news=[]
   ·subst Ys
    have Zr8:hw P (match base with|some a=>(do storeCells (a.add (m*n)) [];pure (Value.slice base (m+k) cap))|none=>pure (Value.slice base (m+k) cap)) K h=K (.slice base (m+k) cap) h:=by
     cases base<;>rfl
    have hK:K (.slice base (m+k) cap) h:=by
     refine H _ _ ?_ But.refl (fun b hb=>.inl (by
      cases base with
      | none=>simp[ZT]at hb
      | some a=>simpa [ZT] using hb))
     rcases own with⟨⟨p,h1⟩,h2,h3⟩|⟨b,Zga,spare,hBb,h1,hb,hl,hsp,hmc⟩
     ·simp only[Value.slice.injEq]at h1
      obtain⟨rfl,rfl,rfl⟩:=h1
      have hk:k=0:=by omega
      subst hk;subst h3
      exact .inl ⟨⟨_,rfl⟩,rfl,rfl⟩
     ·simp only[Value.slice.injEq]at h1
      obtain⟨rfl,_,rfl⟩:=h1
      have hkn:k*n=0:=by simpa using QX.symm
      refine .inr ⟨b,cap,spare,hBb,rfl,by simpa using hb,by rw[List.append_nil,hl,Nat.add_mul,hkn];rfl,?_,JX⟩
      rw[hsp,Nat.sub_mul,Nat.sub_mul,Nat.add_mul,hkn,Nat.add_zero]
    cases base<;>exact hK
   rcases own with⟨⟨p,h1⟩,h2,h3⟩|⟨b,Zga,spare,hBb,h1,hb,hl,hsp,hmc⟩
   ·simp only[Value.slice.injEq]at h1
    obtain⟨rfl,rfl,rfl⟩:=h1
    have hk:k=0:=by omega
    subst hk
    exact (Ys (List.eq_nil_of_length_eq_zero (by simpa using QX))).elim
   ·simp only[Value.slice.injEq]at h1
    obtain⟨rfl,_,rfl⟩:=h1
    simp only[Ze,YV]
    have Zbi:news.length≤spare.length:=by rw[QX,hsp];exact Nat.mul_le_mul_right _ (by omega)
    refine Yd (e:=e') (lo:=0) (hi:=0) rfl (Nat.le_refl _) news 0 h (cs++spare).toArray hb ?_ Xf ?_
    ·simp;rw[←hl];omega
    ·simp only[Zt,Nat.zero_add,Nat.add_zero]
     refine H _ _ (.inr ⟨b,cap,spare.drop news.length,hBb,rfl,?_,?_,?_,JX⟩) ⟨by simp,fun b' XL hx=>?_⟩ (fun b' XL=>.inl (by simpa [ZT] using XL))
     ·rw[Array.getElem?_setIfInBounds,if_pos rfl,if_pos (Za hb)]
      rw[←hl,UJ,Qh _ _ Zbi,List.append_assoc]
     ·rw[List.length_append,hl,QX,Nat.add_mul]
     ·rw[List.length_drop,hsp,QX,←Nat.sub_mul];congr 1;omega
     ·rw[Array.getElem?_setIfInBounds,if_neg]
      intro e;subst e
      have hcz:cap≠0:=by
       intro h0;subst h0
       have:k=0:=by omega
       subst this
       exact Ys (List.eq_nil_of_length_eq_zero (by simpa using QX))
      exact hx (by simp[ZT,hcz])
  ·rw[if_neg JX]
   have JO:¬Builtin.nextslicecap (m+k) cap*i0.bytes>2 ^ 48:=by
    rw[hib]
    have:=UK (m+k) cap bytes (by omega) Yn
    omega
   have Zmv:¬i0.bytes=0:=by rw[hib];omega
   simp only[Ze,Y5 hi0,Zmv,or_false,and_false,if_false,if_neg JO]
   intro t
   obtain⟨c,hc⟩:=Zx (Question.cut (Question.appendCap (m+k) cap e') t)
   have hcn:m+k≤c:=by rw[hc];simp only[Question.cut];omega
   rw[←hc]
   have ZcS:∀{Q:Unit→Hp→Prop} (b:Nat) (g:Hp),Q () g→hw P (askRoom b) Q g:=fun {Q} b g q=>by
    unfold askRoom;split<;>exact q
   refine ZcS _ _ (Z1 own.sl (Z1 src ?_))
   rw[hzv]
   have hzc:z0.cells.size=n:=by rw[←hzn,←hzs];simp
   refine H (.slice (some ⟨h.size,0,none⟩) (m+k) c) _ (.inr ⟨h.size,c,(Builtin.zeroCells z0.cells (c-(m+k))).toList,hB,rfl,?_,?_,?_,hcn⟩) (But.push _) (fun b' XL=>.inr (by simp only[ZT]at XL;split at XL;cases XL;rw[←Option.some.inj XL];exact Nat.le_refl _))
   ·rw[Array.getElem?_push_size]
    simp
   ·have QX:news.length=k*n:=by obtain⟨_,_,_,hl,_⟩:=src;exact hl
    have XU:cs.length=m*n:=by obtain⟨_,_,_,hl,_⟩:=own.sl;exact hl
    rw[List.length_append,XU,QX,Nat.add_mul]
   ·rw[Array.length_toList,YD,hzc]
 ·cases hsT
theorem JY {sT xT E E' B:Nat} {v s:Value} {l k:List Nat} {z:Value} {cb:Array Bool} (hsT:Jj P sT=some E) (hxT:P.underlying xT=some (.slice E')) (hn:tn P E=some 1) (hz:tz P E=some [z]) (hby:tb P E=some 1)
  (own:ZZ B E h v l) (hB:B≤h.size) (src:Bs h s k) (Yn:l.length+k.length≤140737488355328)
  (H:∀v' h',ZZ B E h' v' (l++k)→Zf B h h'→But (ZT v) h h'→(∀b,ZT v'=some b→ZT v=some b∨h.size≤b)→K v' h'):vBi P T .append #[sT,xT] ty cb [v,s] K h:=by
 refine ZeQ hsT hxT hn hz rfl hby own.own hB src.sl (Zbj k) (by omega) (Nat.le_refl _) ?_
 intro v' h' ho hb Zsh
 refine H v' h' ⟨by simpa using ho,fun x hx=>?_⟩ (hb.Z9 hB own.own.ZE) hb Zsh
 rcases List.mem_append.1 hx with hx|hx
 ·exact own.byte x hx
 ·exact src.byte x hx
theorem Qq.lt {B:Nat} {E:TypeId} {n:Nat} {h:Hp} {v:Value} {m:Nat} {cs:List Value} (s:Qq B E n h v m cs):∀b,ZT v=some b→b<h.size:=by
 intro b hb
 rcases s with⟨⟨p,rfl⟩,_,_⟩|⟨b',cap,spare,_,rfl,hx,_⟩
 ·cases p<;>simp[ZT]at hb
 ·simp only[ZT]at hb
  split at hb
  ·cases hb
  ·rw[←Option.some.inj hb];exact Za hx
theorem ZZ.but {B:Nat} {E:TypeId} {h h':Hp} {v:Value} {l:List Nat} (s:ZZ B E h v l) {x:Option Nat} (a:But x h h') (hx:∀b,ZT v=some b→x≠some b):ZZ B E h' v l:=⟨s.own.but a hx,s.byte⟩
end
end Go.V
