/- W12: append, and where its result lies. -/
import Derived.Test.YthlfaofofaphfaaDoorW11
namespace Go.V
set_option linter.unusedVariables false
set_option linter.unusedSimpArgs false
section
variable {P:Program} {T:World} {K:Value→Hp→Prop} {F:Env} {h:Hp} {ty:TypeId}
theorem UT {sT xT E E' B n m k bytes:Nat} {v s:Value} {cs news zs:List Value} {cb:Array Bool} (X7:YY P sT=some E) (SO:P.underlying xT=some (.slice E')) (hn:tn P E=some n) (hz:tz P E=some zs) (PM:zs.length=n) (Xx:tb P E=some bytes)
  (own:YX B E n h v m cs) (hB:B≤h.size) (src:Sl n h s k news) (JS:news.all YW=true) (YU:(m+k)*bytes≤140737488355328) (OA:1≤bytes)
  (H:∀v' h',YX B E n h' v' (m+k) (cs++news)→X6 (Zj v) h h'→(∀b,Zj v'=some b→Zj v=some b∨h.size≤b)→K v' h'):Ql P T .append #[sT,xT] ty cb [v,s] K h:=by
 unfold YY at X7
 split at X7
 ·rename_i e' hu
  simp only[Option.some.injEq]at X7
  subst X7
  show hw P (do pure (.value (←Builtin.append_ #[sT,xT] ty #[v,s]))) (ZQ P T K) h
  rw[Za]
  show hw P (Builtin.append_ #[sT,xT] ty #[v,s]) K h
  obtain⟨i0,Qm⟩:∃i,P.info? e'=some i:=by
   unfold tn at hn
   cases hi:P.info? e' with
   | none=>rw[hi]at hn;cases hn
   | some i=>exact⟨i,rfl⟩
  have V0:i0.bytes=bytes:=by unfold tb at Xx;rw[Qm]at Xx;simpa using Xx
  obtain⟨z0,PN,PO⟩:∃z,i0.zero=some z∧z.cells.toList=zs:=by
   unfold tz at hz;rw[Qm]at hz
   cases Wp:i0.zero with
   | none=>rw[Option.bind_some,Wp]at hz;cases hz
   | some z=>rw[Option.bind_some,Wp]at hz;exact⟨z,rfl,by simpa using hz⟩
  have Px:∃base cap,v=.slice base m cap:=by
   rcases own with⟨⟨p,rfl⟩,rfl,_⟩|⟨b,cap,sp,_,rfl,_⟩
   ·exact⟨_,_,rfl⟩
   ·exact⟨_,_,rfl⟩
  obtain⟨base,cap,hv⟩:=Px
  subst hv
  have PQ:∀{Q:Value→Hp→Prop} (g:Hp),hw P (zeroValue e') Q g=Q z0 g:=fun {Q} g=>by
   unfold zeroValue;rw[Za,ZC Qm];simp only[PN];rfl
  simp only[Builtin.append_,List.getElem?_toArray,List.getElem?_cons_zero,List.getElem?_cons_succ,Za,Zd,Zc hu,Zc SO,run_sizeOf hn,Bool.false_eq_true,if_false,src.lenOf,Bool.not_false,if_true]
  by_cases Yk:m+k≤cap
  ·rw[if_pos Yk,Za]
   refine Zl src ?_
   have Xf:news.length=k*n:=by obtain⟨_,_,_,hl,_⟩:=src;exact hl
   by_cases Z1:news=[]
   ·subst Z1
    have Pj:hw P (match base with|some a=>(do storeCells (a.add (m*n)) [];pure (Value.slice base (m+k) cap))|none=>pure (Value.slice base (m+k) cap)) K h=K (.slice base (m+k) cap) h:=by
     cases base<;>rfl
    have hK:K (.slice base (m+k) cap) h:=by
     refine H _ _ ?_ X6.refl (fun b hb=>.inl (by
      cases base with
      | none=>simp[Zj]at hb
      | some a=>simpa [Zj] using hb))
     rcases own with⟨⟨p,h1⟩,h2,h3⟩|⟨b,UO,spare,WV,h1,hb,hl,Um,Pk⟩
     ·simp only[Value.slice.injEq]at h1
      obtain⟨rfl,rfl,rfl⟩:=h1
      have hk:k=0:=by omega
      subst hk;subst h3
      exact .inl ⟨⟨_,rfl⟩,rfl,rfl⟩
     ·simp only[Value.slice.injEq]at h1
      obtain⟨rfl,_,rfl⟩:=h1
      have Pl:k*n=0:=by simpa using Xf.symm
      refine .inr ⟨b,cap,spare,WV,rfl,by simpa using hb,by rw[List.append_nil,hl,Nat.add_mul,Pl];rfl,?_,Yk⟩
      rw[Um,Nat.sub_mul,Nat.sub_mul,Nat.add_mul,Pl,Nat.add_zero]
    cases base<;>exact hK
   rcases own with⟨⟨p,h1⟩,h2,h3⟩|⟨b,UO,spare,WV,h1,hb,hl,Um,Pk⟩
   ·simp only[Value.slice.injEq]at h1
    obtain⟨rfl,rfl,rfl⟩:=h1
    have hk:k=0:=by omega
    subst hk
    exact (Z1 (List.eq_nil_of_length_eq_zero (by simpa using Xf))).elim
   ·simp only[Value.slice.injEq]at h1
    obtain⟨rfl,_,rfl⟩:=h1
    simp only[Za,ZD]
    have Xu:news.length≤spare.length:=by rw[Xf,Um];exact Nat.mul_le_mul_right _ (by omega)
    refine Zv (e:=e') (lo:=0) (hi:=0) rfl (Nat.le_refl _) news 0 h (cs++spare).toArray hb ?_ JS ?_
    ·simp;rw[←hl];omega
    ·simp only[Zd,Nat.zero_add,Nat.add_zero]
     refine H _ _ (.inr ⟨b,cap,spare.drop news.length,WV,rfl,?_,?_,?_,Yk⟩) ⟨by simp,fun b' X4 hx=>?_⟩ (fun b' X4=>.inl (by simpa [Zj] using X4))
     ·rw[Array.getElem?_setIfInBounds,if_pos rfl,if_pos (Zb hb)]
      rw[←hl,XP,Y9 _ _ Xu,List.append_assoc]
     ·rw[List.length_append,hl,Xf,Nat.add_mul]
     ·rw[List.length_drop,Um,Xf,←Nat.sub_mul];congr 1;omega
     ·rw[Array.getElem?_setIfInBounds,if_neg]
      intro e;subst e
      have OV:cap≠0:=by
       intro h0;subst h0
       have:k=0:=by omega
       subst this
       exact Z1 (List.eq_nil_of_length_eq_zero (by simpa using Xf))
      exact hx (by simp[Zj,OV])
  ·rw[if_neg Yk]
   have Q4:¬Builtin.nextslicecap (m+k) cap*i0.bytes>2 ^ 48:=by
    rw[V0]
    have:=YP (m+k) cap bytes (by omega) YU
    omega
   have WW:¬i0.bytes=0:=by rw[V0];omega
   simp only[Za,ZC Qm,WW,or_false,and_false,if_false,if_neg Q4]
   intro t
   obtain⟨c,hc⟩:=X2 (Question.cut (Question.appendCap (m+k) cap e') t)
   have PR:m+k≤c:=by rw[hc];simp only[Question.cut];omega
   rw[←hc]
   have QX:∀{Q:Unit→Hp→Prop} (b:Nat) (g:Hp),Q () g→hw P (askRoom b) Q g:=fun {Q} b g q=>by
    unfold askRoom;split<;>exact q
   refine QX _ _ (Zl own.sl (Zl src ?_))
   rw[PQ]
   have PS:z0.cells.size=n:=by rw[←PM,←PO];simp
   refine H (.slice (some ⟨h.size,0,none⟩) (m+k) c) _ (.inr ⟨h.size,c,(Builtin.zeroCells z0.cells (c-(m+k))).toList,hB,rfl,?_,?_,?_,PR⟩) (X6.push _) (fun b' X4=>.inr (by simp only[Zj]at X4;split at X4;cases X4;rw[←Option.some.inj X4];exact Nat.le_refl _))
   ·rw[Array.getElem?_push_size]
    simp
   ·have Xf:news.length=k*n:=by obtain⟨_,_,_,hl,_⟩:=src;exact hl
    have ZR:cs.length=m*n:=by obtain⟨_,_,_,hl,_⟩:=own.sl;exact hl
    rw[List.length_append,ZR,Xf,Nat.add_mul]
   ·rw[Array.length_toList,Z2,PS]
 ·cases X7
theorem Zr {sT xT E E' B:Nat} {v s:Value} {l k:List Nat} {z:Value} {cb:Array Bool} (X7:YY P sT=some E) (SO:P.underlying xT=some (.slice E')) (hn:tn P E=some 1) (hz:tz P E=some [z]) (Xx:tb P E=some 1)
  (own:Xg B E h v l) (hB:B≤h.size) (src:Bs h s k) (YU:l.length+k.length≤140737488355328)
  (H:∀v' h',Xg B E h' v' (l++k)→Zg B h h'→X6 (Zj v) h h'→(∀b,Zj v'=some b→Zj v=some b∨h.size≤b)→K v' h'):Ql P T .append #[sT,xT] ty cb [v,s] K h:=by
 refine UT X7 SO hn hz rfl Xx own.own hB src.sl (WX k) (by omega) (Nat.le_refl _) ?_
 intro v' h' ho hb TE
 refine H v' h' ⟨by simpa using ho,fun x hx=>?_⟩ (hb.ZZ hB own.own.Ph) hb TE
 rcases List.mem_append.1 hx with hx|hx
 ·exact own.byte x hx
 ·exact src.byte x hx
theorem YX.lt {B:Nat} {E:TypeId} {n:Nat} {h:Hp} {v:Value} {m:Nat} {cs:List Value} (s:YX B E n h v m cs):∀b,Zj v=some b→b<h.size:=by
 intro b hb
 rcases s with⟨⟨p,rfl⟩,_,_⟩|⟨b',cap,spare,_,rfl,hx,_⟩
 ·cases p<;>simp[Zj]at hb
 ·simp only[Zj]at hb
  split at hb
  ·cases hb
  ·rw[←Option.some.inj hb];exact Zb hx
theorem Xg.SN {B:Nat} {E:TypeId} {h h':Hp} {v:Value} {l:List Nat} (s:Xg B E h v l) {x:Option Nat} (a:X6 x h h') (hx:∀b,Zj v=some b→x≠some b):Xg B E h' v l:=⟨s.own.SN a hx,s.byte⟩
end
end Go.V
