/- Part W12. -/
import Derived.Test.YtdpjmhgbmhjniaaDoorW11
namespace Go.V
set_option linter.unusedVariables false
set_option linter.unusedSimpArgs false
section
variable {P:Program} {T:World} {K:Value→Hp→Prop} {F:Env} {h:Hp} {ty:TypeId}
theorem Vw {sT xT E E' B n m k bytes:Nat} {v s:Value} {cs news zs:List Value} {cb:Array Bool} (JT:XD P sT=some E) (Ry:P.underlying xT=some (.slice E')) (hn:tn P E=some n) (hz:tz P E=some zs) (Mc:zs.length=n) (QF:tb P E=some bytes)
  (ZJ:Own B E n h v m cs) (hB:B≤h.size) (src:Sl n h s k news) (Qe:news.all Yb=true) (Xd:(m+k)*bytes≤140737488355328) (MP:1≤bytes)
  (H:∀v' h',Own B E n h' v' (m+k) (cs++news)→Xn (Zt v) h h'→(∀b,Zt v'=some b→Zt v=some b∨h.size≤b)→K v' h'):UE P T .append #[sT,xT] ty cb [v,s] K h:=by
 unfold XD at JT
 split at JT
 ·rename_i e' hu
  simp only[Option.some.injEq]at JT
  subst JT
  show hw P (do pure (.value (←Builtin.append_ #[sT,xT] ty #[v,s]))) (Z9 P T K) h
  rw[Za]
  show hw P (Builtin.append_ #[sT,xT] ty #[v,s]) K h
  obtain⟨i0,Qf⟩:∃i,P.info? e'=some i:=by
   unfold tn at hn
   cases hi:P.info? e' with
   | none=>rw[hi]at hn;cases hn
   | some i=>exact⟨i,rfl⟩
  have S7:i0.bytes=bytes:=by unfold tb at QF;rw[Qf]at QF;simpa using QF
  obtain⟨z0,LC,LD⟩:∃z,i0.zero=some z∧z.cells.toList=zs:=by
   unfold tz at hz;rw[Qf]at hz
   cases Tk:i0.zero with
   | none=>rw[Option.bind_some,Tk]at hz;cases hz
   | some z=>rw[Option.bind_some,Tk]at hz;exact⟨z,rfl,by simpa using hz⟩
  have ND:∃base cap,v=.slice base m cap:=by
   rcases ZJ with⟨⟨p,rfl⟩,rfl,_⟩|⟨b,cap,sp,_,rfl,_⟩
   ·exact⟨_,_,rfl⟩
   ·exact⟨_,_,rfl⟩
  obtain⟨base,cap,hv⟩:=ND
  subst hv
  have LF:∀{Q:Value→Hp→Prop} (g:Hp),hw P (zeroValue e') Q g=Q z0 g:=fun {Q} g=>by
   unfold zeroValue;rw[Za,ZX Qf];simp only[LC];rfl
  simp only[Builtin.append_,List.getElem?_toArray,List.getElem?_cons_zero,List.getElem?_cons_succ,Za,Zi,Zh hu,Zh Ry,run_sizeOf hn,Bool.false_eq_true,if_false,src.lenOf,Bool.not_false,if_true]
  by_cases YR:m+k≤cap
  ·rw[if_pos YR,Za]
   refine Zv src ?_
   have Ji:news.length=k*n:=by obtain⟨_,_,_,hl,_⟩:=src;exact hl
   by_cases ZC:news=[]
   ·subst ZC
    have Q9:hw P (match base with|some a=>(do storeCells (a.add (m*n)) [];pure (Value.slice base (m+k) cap))|none=>pure (Value.slice base (m+k) cap)) K h=K (.slice base (m+k) cap) h:=by
     cases base<;>rfl
    have hK:K (.slice base (m+k) cap) h:=by
     refine H _ _ ?_ Xn.refl (fun b hb=>.inl (by
      cases base with
      | none=>simp[Zt]at hb
      | some a=>simpa [Zt] using hb))
     rcases ZJ with⟨⟨p,h1⟩,h2,h3⟩|⟨b,Vp,Zy,TT,h1,hb,hl,WU,MQ⟩
     ·simp only[Value.slice.injEq]at h1
      obtain⟨rfl,rfl,rfl⟩:=h1
      have hk:k=0:=by omega
      subst hk;subst h3
      exact .inl ⟨⟨_,rfl⟩,rfl,rfl⟩
     ·simp only[Value.slice.injEq]at h1
      obtain⟨rfl,_,rfl⟩:=h1
      have MR:k*n=0:=by simpa using Ji.symm
      refine .inr ⟨b,cap,Zy,TT,rfl,by simpa using hb,by rw[List.append_nil,hl,Nat.add_mul,MR];rfl,?_,YR⟩
      rw[WU,Nat.sub_mul,Nat.sub_mul,Nat.add_mul,MR,Nat.add_zero]
    cases base<;>exact hK
   rcases ZJ with⟨⟨p,h1⟩,h2,h3⟩|⟨b,Vp,Zy,TT,h1,hb,hl,WU,MQ⟩
   ·simp only[Value.slice.injEq]at h1
    obtain⟨rfl,rfl,rfl⟩:=h1
    have hk:k=0:=by omega
    subst hk
    exact (ZC (List.eq_nil_of_length_eq_zero (by simpa using Ji))).elim
   ·simp only[Value.slice.injEq]at h1
    obtain⟨rfl,_,rfl⟩:=h1
    simp only[Za,addr_add]
    have Jw:news.length≤Zy.length:=by rw[Ji,WU];exact Nat.mul_le_mul_right _ (by omega)
    refine ZK (e:=e') (lo:=0) (hi:=0) rfl (Nat.le_refl _) news 0 h (cs++Zy).toArray hb ?_ Qe ?_
    ·simp;rw[←hl];omega
    ·simp only[Zi,Nat.zero_add,Nat.add_zero]
     refine H _ _ (.inr ⟨b,cap,Zy.drop news.length,TT,rfl,?_,?_,?_,YR⟩) ⟨by simp,fun b' Jg hx=>?_⟩ (fun b' Jg=>.inl (by simpa [Zt] using Jg))
     ·rw[Array.getElem?_setIfInBounds,if_pos rfl,if_pos (Zb hb)]
      rw[←hl,JS,X8 _ _ Jw,List.append_assoc]
     ·rw[List.length_append,hl,Ji,Nat.add_mul]
     ·rw[List.length_drop,WU,Ji,←Nat.sub_mul];congr 1;omega
     ·rw[Array.getElem?_setIfInBounds,if_neg]
      intro e;subst e
      have KZ:cap≠0:=by
       intro h0;subst h0
       have:k=0:=by omega
       subst this
       exact ZC (List.eq_nil_of_length_eq_zero (by simpa using Ji))
      exact hx (by simp[Zt,KZ])
  ·rw[if_neg YR]
   have TU:¬Builtin.nextslicecap (m+k) cap*i0.bytes>2 ^ 48:=by
    rw[S7]
    have:=Xt (m+k) cap bytes (by omega) Xd
    omega
   have TV:¬i0.bytes=0:=by rw[S7];omega
   simp only[Za,ZX Qf,TV,or_false,and_false,if_false,if_neg TU]
   intro t
   obtain⟨c,hc⟩:=ZE (Question.cut (Question.appendCap (m+k) cap e') t)
   have LG:m+k≤c:=by rw[hc];simp only[Question.cut];omega
   rw[←hc]
   have Wn:∀{Q:Unit→Hp→Prop} (b:Nat) (g:Hp),Q () g→hw P (askRoom b) Q g:=fun {Q} b g q=>by
    unfold askRoom;split<;>exact q
   refine Wn _ _ (Zv ZJ.sl (Zv src ?_))
   rw[LF]
   have LH:z0.cells.size=n:=by rw[←Mc,←LD];simp
   refine H (.slice (some ⟨h.size,0,none⟩) (m+k) c) _ (.inr ⟨h.size,c,(Builtin.zeroCells z0.cells (c-(m+k))).toList,hB,rfl,?_,?_,?_,LG⟩) (Xn.push _) (fun b' Jg=>.inr (by simp only[Zt]at Jg;split at Jg;cases Jg;rw[←Option.some.inj Jg];exact Nat.le_refl _))
   ·rw[Array.getElem?_push_size]
    simp
   ·have Ji:news.length=k*n:=by obtain⟨_,_,_,hl,_⟩:=src;exact hl
    have Z7:cs.length=m*n:=by obtain⟨_,_,_,hl,_⟩:=ZJ.sl;exact hl
    rw[List.length_append,Z7,Ji,Nat.add_mul]
   ·rw[Array.length_toList,Yq,LH]
 ·cases JT
theorem Jm {sT xT E E' B:Nat} {v s:Value} {l k:List Nat} {z:Value} {cb:Array Bool} (JT:XD P sT=some E) (Ry:P.underlying xT=some (.slice E')) (hn:tn P E=some 1) (hz:tz P E=some [z]) (QF:tb P E=some 1)
  (ZJ:Y8 B E h v l) (hB:B≤h.size) (src:Bs h s k) (Xd:l.length+k.length≤140737488355328)
  (H:∀v' h',Y8 B E h' v' (l++k)→Zj B h h'→Xn (Zt v) h h'→(∀b,Zt v'=some b→Zt v=some b∨h.size≤b)→K v' h'):UE P T .append #[sT,xT] ty cb [v,s] K h:=by
 refine Vw JT Ry hn hz rfl QF ZJ.ZJ hB src.sl (Om k) (by omega) (Nat.le_refl _) ?_
 intro v' h' ho hb RH
 refine H v' h' ⟨by simpa using ho,fun x hx=>?_⟩ (hb.Yu hB ZJ.ZJ.Mb) hb RH
 rcases List.mem_append.1 hx with hx|hx
 ·exact ZJ.byte x hx
 ·exact src.byte x hx
theorem Own.lt {B:Nat} {E:TypeId} {n:Nat} {h:Hp} {v:Value} {m:Nat} {cs:List Value} (s:Own B E n h v m cs):∀b,Zt v=some b→b<h.size:=by
 intro b hb
 rcases s with⟨⟨p,rfl⟩,_,_⟩|⟨b',cap,Zy,_,rfl,hx,_⟩
 ·cases p<;>simp[Zt]at hb
 ·simp only[Zt]at hb
  split at hb
  ·cases hb
  ·rw[←Option.some.inj hb];exact Zb hx
theorem Y8.X7 {B:Nat} {E:TypeId} {h h':Hp} {v:Value} {l:List Nat} (s:Y8 B E h v l) {x:Option Nat} (a:Xn x h h') (hx:∀b,Zt v=some b→x≠some b):Y8 B E h' v l:=⟨s.ZJ.X7 a hx,s.byte⟩
end
end Go.V
