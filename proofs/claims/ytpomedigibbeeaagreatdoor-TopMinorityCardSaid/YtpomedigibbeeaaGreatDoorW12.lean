/- W12: append, and where its result lies. -/
import Derived.Test.YtpomedigibbeeaaGreatDoorW11
namespace Go.V
set_option linter.unusedVariables false
set_option linter.unusedSimpArgs false
section
variable {P:Program} {T:World} {K:Value→Hp→Prop} {F:Env} {h:Hp} {ty:TypeId}
theorem OW {sT xT E E' B n m k bytes:Nat} {v s:Value} {cs news zs:List Value} {cb:Array Bool} (Un:Jf P sT=some E) (HD:P.underlying xT=some (.slice E')) (hn:tn P E=some n) (hz:tz P E=some zs) (Cz:zs.length=n) (T6:tb P E=some bytes)
  (own:J9 B E n h v m cs) (hB:B≤h.size) (src:Sl n h s k news) (Y8:news.all Z6=true) (Yk:(m+k)*bytes≤140737488355328) (HE:1≤bytes)
  (H:∀v' h',J9 B E n h' v' (m+k) (cs++news)→Vy (ZL v) h h'→(∀b,ZL v'=some b→ZL v=some b∨h.size≤b)→K v' h'):Tj P T .append #[sT,xT] ty cb [v,s] K h:=by
 unfold Jf at Un
 split at Un
 ·rename_i e' hu
  simp only[Option.some.injEq]at Un
  subst Un
  show hw P (do pure (.value (←Builtin.append_ #[sT,xT] ty #[v,s]))) (Xk P T K) h
  rw[Ze]
  show hw P (Builtin.append_ #[sT,xT] ty #[v,s]) K h
  obtain⟨i0,Tc⟩:∃i,P.info? e'=some i:=by
   unfold tn at hn
   cases hi:P.info? e' with
   | none=>rw[hi]at hn;cases hn
   | some i=>exact⟨i,rfl⟩
  have SX:i0.bytes=bytes:=by unfold tb at T6;rw[Tc]at T6;simpa using T6
  obtain⟨z0,GU,CA⟩:∃z,i0.zero=some z∧z.cells.toList=zs:=by
   unfold tz at hz;rw[Tc]at hz
   cases Mg:i0.zero with
   | none=>rw[Option.bind_some,Mg]at hz;cases hz
   | some z=>rw[Option.bind_some,Mg]at hz;exact⟨z,rfl,by simpa using hz⟩
  have oS:∃base cap,v=.slice base m cap:=by
   rcases own with⟨⟨p,rfl⟩,rfl,_⟩|⟨b,cap,sp,_,rfl,_⟩
   ·exact⟨_,_,rfl⟩
   ·exact⟨_,_,rfl⟩
  obtain⟨base,cap,hv⟩:=oS
  subst hv
  have dd:∀{Q:Value→Hp→Prop} (g:Hp),hw P (zeroValue e') Q g=Q z0 g:=fun {Q} g=>by
   unfold zeroValue;rw[Ze,YX Tc];simp only[GU];rfl
  simp only[Builtin.append_,List.getElem?_toArray,List.getElem?_cons_zero,List.getElem?_cons_succ,Ze,Zs,Zr hu,Zr HD,run_sizeOf hn,Bool.false_eq_true,if_false,src.lenOf,Bool.not_false,if_true]
  by_cases Jh:m+k≤cap
  ·rw[if_pos Jh,Ze]
   refine Z1 src ?_
   have UF:news.length=k*n:=by obtain⟨_,_,_,hl,_⟩:=src;exact hl
   by_cases Yq:news=[]
   ·subst Yq
    have jz:hw P (match base with|some a=>(do storeCells (a.add (m*n)) [];pure (Value.slice base (m+k) cap))|none=>pure (Value.slice base (m+k) cap)) K h=K (.slice base (m+k) cap) h:=by
     cases base<;>rfl
    have hK:K (.slice base (m+k) cap) h:=by
     refine H _ _ ?_ Vy.refl (fun b hb=>.inl (by
      cases base with
      | none=>simp[ZL]at hb
      | some a=>simpa [ZL] using hb))
     rcases own with⟨⟨p,h1⟩,h2,h3⟩|⟨b,MV,spare,Mi,h1,hb,hl,Sz,gM⟩
     ·simp only[Value.slice.injEq]at h1
      obtain⟨rfl,rfl,rfl⟩:=h1
      have hk:k=0:=by omega
      subst hk;subst h3
      exact .inl ⟨⟨_,rfl⟩,rfl,rfl⟩
     ·simp only[Value.slice.injEq]at h1
      obtain⟨rfl,_,rfl⟩:=h1
      have gN:k*n=0:=by simpa using UF.symm
      refine .inr ⟨b,cap,spare,Mi,rfl,by simpa using hb,by rw[List.append_nil,hl,Nat.add_mul,gN];rfl,?_,Jh⟩
      rw[Sz,Nat.sub_mul,Nat.sub_mul,Nat.add_mul,gN,Nat.add_zero]
    cases base<;>exact hK
   rcases own with⟨⟨p,h1⟩,h2,h3⟩|⟨b,MV,spare,Mi,h1,hb,hl,Sz,gM⟩
   ·simp only[Value.slice.injEq]at h1
    obtain⟨rfl,rfl,rfl⟩:=h1
    have hk:k=0:=by omega
    subst hk
    exact (Yq (List.eq_nil_of_length_eq_zero (by simpa using UF))).elim
   ·simp only[Value.slice.injEq]at h1
    obtain⟨rfl,_,rfl⟩:=h1
    simp only[Ze,YN]
    have Vz:news.length≤spare.length:=by rw[UF,Sz];exact Nat.mul_le_mul_right _ (by omega)
    refine Yd (e:=e') (lo:=0) (hi:=0) rfl (Nat.le_refl _) news 0 h (cs++spare).toArray hb ?_ Y8 ?_
    ·simp;rw[←hl];omega
    ·simp only[Zs,Nat.zero_add,Nat.add_zero]
     refine H _ _ (.inr ⟨b,cap,spare.drop news.length,Mi,rfl,?_,?_,?_,Jh⟩) ⟨by simp,fun b' XX hx=>?_⟩ (fun b' XX=>.inl (by simpa [ZL] using XX))
     ·rw[Array.getElem?_setIfInBounds,if_pos rfl,if_pos (Za hb)]
      rw[←hl,UD,JW _ _ Vz,List.append_assoc]
     ·rw[List.length_append,hl,UF,Nat.add_mul]
     ·rw[List.length_drop,Sz,UF,←Nat.sub_mul];congr 1;omega
     ·rw[Array.getElem?_setIfInBounds,if_neg]
      intro e;subst e
      have vY:cap≠0:=by
       intro h0;subst h0
       have:k=0:=by omega
       subst this
       exact Yq (List.eq_nil_of_length_eq_zero (by simpa using UF))
      exact hx (by simp[ZL,vY])
  ·rw[if_neg Jh]
   have Qa:¬Builtin.nextslicecap (m+k) cap*i0.bytes>2 ^ 48:=by
    rw[SX]
    have:=UE (m+k) cap bytes (by omega) Yk
    omega
   have CD:¬i0.bytes=0:=by rw[SX];omega
   simp only[Ze,YX Tc,CD,or_false,and_false,if_false,if_neg Qa]
   intro t
   obtain⟨c,hc⟩:=Zy (Question.cut (Question.appendCap (m+k) cap e') t)
   have jA:m+k≤c:=by rw[hc];simp only[Question.cut];omega
   rw[←hc]
   have SY:∀{Q:Unit→Hp→Prop} (b:Nat) (g:Hp),Q () g→hw P (askRoom b) Q g:=fun {Q} b g q=>by
    unfold askRoom;split<;>exact q
   refine SY _ _ (Z1 own.sl (Z1 src ?_))
   rw[dd]
   have jB:z0.cells.size=n:=by rw[←Cz,←CA];simp
   refine H (.slice (some ⟨h.size,0,none⟩) (m+k) c) _ (.inr ⟨h.size,c,(Builtin.zeroCells z0.cells (c-(m+k))).toList,hB,rfl,?_,?_,?_,jA⟩) (Vy.push _) (fun b' XX=>.inr (by simp only[ZL]at XX;split at XX;cases XX;rw[←Option.some.inj XX];exact Nat.le_refl _))
   ·rw[Array.getElem?_push_size]
    simp
   ·have UF:news.length=k*n:=by obtain⟨_,_,_,hl,_⟩:=src;exact hl
    have XY:cs.length=m*n:=by obtain⟨_,_,_,hl,_⟩:=own.sl;exact hl
    rw[List.length_append,XY,UF,Nat.add_mul]
   ·rw[Array.length_toList,Yx,jB]
 ·cases Un
theorem JN {sT xT E E' B:Nat} {v s:Value} {l k:List Nat} {z:Value} {cb:Array Bool} (Un:Jf P sT=some E) (HD:P.underlying xT=some (.slice E')) (hn:tn P E=some 1) (hz:tz P E=some [z]) (T6:tb P E=some 1)
  (own:ZZ B E h v l) (hB:B≤h.size) (src:Bs h s k) (Yk:l.length+k.length≤140737488355328)
  (H:∀v' h',ZZ B E h' v' (l++k)→Zf B h h'→Vy (ZL v) h h'→(∀b,ZL v'=some b→ZL v=some b∨h.size≤b)→K v' h'):Tj P T .append #[sT,xT] ty cb [v,s] K h:=by
 refine OW Un HD hn hz rfl T6 own.own hB src.sl (VA k) (by omega) (Nat.le_refl _) ?_
 intro v' h' ho hb jJ
 refine H v' h' ⟨by simpa using ho,fun x hx=>?_⟩ (hb.Z7 hB own.own.ZD) hb jJ
 rcases List.mem_append.1 hx with hx|hx
 ·exact own.byte x hx
 ·exact src.byte x hx
theorem J9.lt {B:Nat} {E:TypeId} {n:Nat} {h:Hp} {v:Value} {m:Nat} {cs:List Value} (s:J9 B E n h v m cs):∀b,ZL v=some b→b<h.size:=by
 intro b hb
 rcases s with⟨⟨p,rfl⟩,_,_⟩|⟨b',cap,spare,_,rfl,hx,_⟩
 ·cases p<;>simp[ZL]at hb
 ·simp only[ZL]at hb
  split at hb
  ·cases hb
  ·rw[←Option.some.inj hb];exact Za hx
theorem ZZ.MT {B:Nat} {E:TypeId} {h h':Hp} {v:Value} {l:List Nat} (s:ZZ B E h v l) {x:Option Nat} (a:Vy x h h') (hx:∀b,ZL v=some b→x≠some b):ZZ B E h' v l:=⟨s.own.MT a hx,s.byte⟩
end
end Go.V
