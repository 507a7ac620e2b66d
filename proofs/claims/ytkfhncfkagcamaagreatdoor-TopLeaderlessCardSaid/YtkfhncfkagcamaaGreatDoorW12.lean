/- W12: append, and where its result lies. -/
import Derived.Test.YtkfhncfkagcamaaGreatDoorW11
namespace Go.V
set_option linter.unusedVariables false
set_option linter.unusedSimpArgs false
section
variable {P:Program} {T:World} {K:Value→Hp→Prop} {F:Env} {h:Hp} {ty:TypeId}
theorem O0 {sT xT E E' B n m k bytes:Nat} {v s:Value} {cs news zs:List Value} {cb:Array Bool} (Uq:Jg P sT=some E) (Hx:P.underlying xT=some (.slice E')) (hn:tn P E=some n) (hz:tz P E=some zs) (Cu:zs.length=n) (Sc:tb P E=some bytes)
  (own:Qb B E n h v m cs) (hB:B≤h.size) (src:Sl n h s k news) (Xb:news.all Z8=true) (Ym:(m+k)*bytes≤140737488355328) (Hy:1≤bytes)
  (H:∀v' h',Qb B E n h' v' (m+k) (cs++news)→VB (ZN v) h h'→(∀b,ZN v'=some b→ZN v=some b∨h.size≤b)→K v' h'):Tn P T .append #[sT,xT] ty cb [v,s] K h:=by
 unfold Jg at Uq
 split at Uq
 ·rename_i e' hu
  simp only[Option.some.injEq]at Uq
  subst Uq
  show hw P (do pure (.value (←Builtin.append_ #[sT,xT] ty #[v,s]))) (Xp P T K) h
  rw[Zf]
  show hw P (Builtin.append_ #[sT,xT] ty #[v,s]) K h
  obtain⟨i0,Th⟩:∃i,P.info? e'=some i:=by
   unfold tn at hn
   cases hi:P.info? e' with
   | none=>rw[hi]at hn;cases hn
   | some i=>exact⟨i,rfl⟩
  have S9:i0.bytes=bytes:=by unfold tb at Sc;rw[Th]at Sc;simpa using Sc
  obtain⟨z0,GR,Cv⟩:∃z,i0.zero=some z∧z.cells.toList=zs:=by
   unfold tz at hz;rw[Th]at hz
   cases Mn:i0.zero with
   | none=>rw[Option.bind_some,Mn]at hz;cases hz
   | some z=>rw[Option.bind_some,Mn]at hz;exact⟨z,rfl,by simpa using hz⟩
  have oQ:∃base cap,v=.slice base m cap:=by
   rcases own with⟨⟨p,rfl⟩,rfl,_⟩|⟨b,cap,sp,_,rfl,_⟩
   ·exact⟨_,_,rfl⟩
   ·exact⟨_,_,rfl⟩
  obtain⟨base,cap,hv⟩:=oQ
  subst hv
  have cW:∀{Q:Value→Hp→Prop} (g:Hp),hw P (zeroValue e') Q g=Q z0 g:=fun {Q} g=>by
   unfold zeroValue;rw[Zf,Y0 Th];simp only[GR];rfl
  simp only[Builtin.append_,List.getElem?_toArray,List.getElem?_cons_zero,List.getElem?_cons_succ,Zf,Zu,Zt hu,Zt Hx,run_sizeOf hn,Bool.false_eq_true,if_false,src.lenOf,Bool.not_false,if_true]
  by_cases JO:m+k≤cap
  ·rw[if_pos JO,Zf]
   refine Z3 src ?_
   have UJ:news.length=k*n:=by obtain⟨_,_,_,hl,_⟩:=src;exact hl
   by_cases Ys:news=[]
   ·subst Ys
    have jx:hw P (match base with|some a=>(do storeCells (a.add (m*n)) [];pure (Value.slice base (m+k) cap))|none=>pure (Value.slice base (m+k) cap)) K h=K (.slice base (m+k) cap) h:=by
     cases base<;>rfl
    have hK:K (.slice base (m+k) cap) h:=by
     refine H _ _ ?_ VB.refl (fun b hb=>.inl (by
      cases base with
      | none=>simp[ZN]at hb
      | some a=>simpa [ZN] using hb))
     rcases own with⟨⟨p,h1⟩,h2,h3⟩|⟨b,MX,spare,Mp,h1,hb,hl,SL,gK⟩
     ·simp only[Value.slice.injEq]at h1
      obtain⟨rfl,rfl,rfl⟩:=h1
      have hk:k=0:=by omega
      subst hk;subst h3
      exact .inl ⟨⟨_,rfl⟩,rfl,rfl⟩
     ·simp only[Value.slice.injEq]at h1
      obtain⟨rfl,_,rfl⟩:=h1
      have gL:k*n=0:=by simpa using UJ.symm
      refine .inr ⟨b,cap,spare,Mp,rfl,by simpa using hb,by rw[List.append_nil,hl,Nat.add_mul,gL];rfl,?_,JO⟩
      rw[SL,Nat.sub_mul,Nat.sub_mul,Nat.add_mul,gL,Nat.add_zero]
    cases base<;>exact hK
   rcases own with⟨⟨p,h1⟩,h2,h3⟩|⟨b,MX,spare,Mp,h1,hb,hl,SL,gK⟩
   ·simp only[Value.slice.injEq]at h1
    obtain⟨rfl,rfl,rfl⟩:=h1
    have hk:k=0:=by omega
    subst hk
    exact (Ys (List.eq_nil_of_length_eq_zero (by simpa using UJ))).elim
   ·simp only[Value.slice.injEq]at h1
    obtain⟨rfl,_,rfl⟩:=h1
    simp only[Zf,YQ]
    have VC:news.length≤spare.length:=by rw[UJ,SL];exact Nat.mul_le_mul_right _ (by omega)
    refine Yg (e:=e') (lo:=0) (hi:=0) rfl (Nat.le_refl _) news 0 h (cs++spare).toArray hb ?_ Xb ?_
    ·simp;rw[←hl];omega
    ·simp only[Zu,Nat.zero_add,Nat.add_zero]
     refine H _ _ (.inr ⟨b,cap,spare.drop news.length,Mp,rfl,?_,?_,?_,JO⟩) ⟨by simp,fun b' XZ hx=>?_⟩ (fun b' XZ=>.inl (by simpa [ZN] using XZ))
     ·rw[Array.getElem?_setIfInBounds,if_pos rfl,if_pos (Za hb)]
      rw[←hl,UH,JZ _ _ VC,List.append_assoc]
     ·rw[List.length_append,hl,UJ,Nat.add_mul]
     ·rw[List.length_drop,SL,UJ,←Nat.sub_mul];congr 1;omega
     ·rw[Array.getElem?_setIfInBounds,if_neg]
      intro e;subst e
      have vM:cap≠0:=by
       intro h0;subst h0
       have:k=0:=by omega
       subst this
       exact Ys (List.eq_nil_of_length_eq_zero (by simpa using UJ))
      exact hx (by simp[ZN,vM])
  ·rw[if_neg JO]
   have Qk:¬Builtin.nextslicecap (m+k) cap*i0.bytes>2 ^ 48:=by
    rw[S9]
    have:=UI (m+k) cap bytes (by omega) Ym
    omega
   have Cw:¬i0.bytes=0:=by rw[S9];omega
   simp only[Zf,Y0 Th,Cw,or_false,and_false,if_false,if_neg Qk]
   intro t
   obtain⟨c,hc⟩:=ZA (Question.cut (Question.appendCap (m+k) cap e') t)
   have jy:m+k≤c:=by rw[hc];simp only[Question.cut];omega
   rw[←hc]
   have Ra:∀{Q:Unit→Hp→Prop} (b:Nat) (g:Hp),Q () g→hw P (askRoom b) Q g:=fun {Q} b g q=>by
    unfold askRoom;split<;>exact q
   refine Ra _ _ (Z3 own.sl (Z3 src ?_))
   rw[cW]
   have jz:z0.cells.size=n:=by rw[←Cu,←Cv];simp
   refine H (.slice (some ⟨h.size,0,none⟩) (m+k) c) _ (.inr ⟨h.size,c,(Builtin.zeroCells z0.cells (c-(m+k))).toList,hB,rfl,?_,?_,?_,jy⟩) (VB.push _) (fun b' XZ=>.inr (by simp only[ZN]at XZ;split at XZ;cases XZ;rw[←Option.some.inj XZ];exact Nat.le_refl _))
   ·rw[Array.getElem?_push_size]
    simp
   ·have UJ:news.length=k*n:=by obtain⟨_,_,_,hl,_⟩:=src;exact hl
    have X0:cs.length=m*n:=by obtain⟨_,_,_,hl,_⟩:=own.sl;exact hl
    rw[List.length_append,X0,UJ,Nat.add_mul]
   ·rw[Array.length_toList,Yy,jz]
 ·cases Uq
theorem JP {sT xT E E' B:Nat} {v s:Value} {l k:List Nat} {z:Value} {cb:Array Bool} (Uq:Jg P sT=some E) (Hx:P.underlying xT=some (.slice E')) (hn:tn P E=some 1) (hz:tz P E=some [z]) (Sc:tb P E=some 1)
  (own:Z1 B E h v l) (hB:B≤h.size) (src:Bs h s k) (Ym:l.length+k.length≤140737488355328)
  (H:∀v' h',Z1 B E h' v' (l++k)→Zg B h h'→VB (ZN v) h h'→(∀b,ZN v'=some b→ZN v=some b∨h.size≤b)→K v' h'):Tn P T .append #[sT,xT] ty cb [v,s] K h:=by
 refine O0 Uq Hx hn hz rfl Sc own.own hB src.sl (VD k) (by omega) (Nat.le_refl _) ?_
 intro v' h' ho hb jI
 refine H v' h' ⟨by simpa using ho,fun x hx=>?_⟩ (hb.Z9 hB own.own.ZE) hb jI
 rcases List.mem_append.1 hx with hx|hx
 ·exact own.byte x hx
 ·exact src.byte x hx
theorem Qb.lt {B:Nat} {E:TypeId} {n:Nat} {h:Hp} {v:Value} {m:Nat} {cs:List Value} (s:Qb B E n h v m cs):∀b,ZN v=some b→b<h.size:=by
 intro b hb
 rcases s with⟨⟨p,rfl⟩,_,_⟩|⟨b',cap,spare,_,rfl,hx,_⟩
 ·cases p<;>simp[ZN]at hb
 ·simp only[ZN]at hb
  split at hb
  ·cases hb
  ·rw[←Option.some.inj hb];exact Za hx
theorem Z1.MV {B:Nat} {E:TypeId} {h h':Hp} {v:Value} {l:List Nat} (s:Z1 B E h v l) {x:Option Nat} (a:VB x h h') (hx:∀b,ZN v=some b→x≠some b):Z1 B E h' v l:=⟨s.own.MV a hx,s.byte⟩
end
end Go.V
