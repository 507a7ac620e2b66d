/- Part W8. -/
import Derived.Test.YtdpjmhgbmhjniaaDoorW6
import Derived.LoopN
namespace Go.V
set_option linter.unusedVariables false
set_option linter.unusedSimpArgs false
section
variable {P:Program} {n:Nat} {T:World} {N:Env→Hp→Prop} {X:Nat→Env→Hp→Prop} {R:Env→Hp→Prop} {F:Env} {h:Hp}
end
section
variable {α:Type} {h h':Hp}
structure Ts (enc:α→List Value) (n:Nat) (h:Hp) (v:Value) (l:List α):Prop where
 sl:Sl n h v l.length (Yh enc l)
structure Jk (B:Nat) (E:TypeId) (enc:α→List Value) (n:Nat) (h:Hp) (v:Value) (l:List α):Prop where
 ZJ:Own B E n h v l.length (Yh enc l)
variable {enc:α→List Value} {n:Nat} {v:Value} {l:List α} {B:Nat} {E:TypeId}
theorem Jk.ts (s:Jk B E enc n h v l):Ts enc n h v l:=⟨s.ZJ.sl⟩
theorem Ts.Yu (s:Ts enc n h v l) (a:Zj h.size h h'):Ts enc n h' v l:=⟨s.sl.Yu a⟩
theorem Jk.push (s:Jk B E enc n h v l) (o:Obj):Jk B E enc n (h.push o) v l:=⟨s.ZJ.push o⟩
theorem Jk.nil (B:Nat) (E:TypeId) (enc:α→List Value) (n:Nat) (h:Hp):Jk B E enc n h (.slice none 0 0) []:=⟨Own.nil B E n h⟩
theorem Jk.open (s:Jk B E enc n h v l):∃p c,v=.slice p l.length c∧l.length≤c:=by
 rcases s.ZJ with⟨⟨p,hv⟩,h0,_⟩|⟨b,cap,_,_,hv,_,_,_,hc⟩
 ·exact⟨p,0,by rw[hv,h0],by omega⟩
 ·exact⟨_,cap,hv,hc⟩
theorem Mh (Xu:∀x,(enc x).length=n):∀(l:List α) (i:Nat) (hi:i<l.length) (j:Nat) (hj:j<n),(Yh enc l)[i*n+j]? = (enc l[i])[j]?:=by
 intro l
 induction l with
 | nil=>intro i hi;simp at hi
 | cons x l ih=>
  intro i hi j hj
  cases i with
  | zero=>
   simp only[Yh,Nat.zero_mul,Nat.zero_add,List.getElem_cons_zero]
   rw[List.getElem?_append_left (by rw[Xu];exact hj)]
  | succ i=>
   simp only[Yh,List.getElem_cons_succ]
   rw[List.getElem?_append_right (by rw[Xu,Nat.add_mul];omega),Xu]
   have e:(i+1)*n+j-n=i*n+j:=by rw[Nat.add_mul];omega
   rw[e]
   exact ih i (by simpa using hi) j hj
theorem Ts.open (Xu:∀x,(enc x).length=n) (hn:n≠0) (s:Ts enc n h v l):∃p cap,v=.slice p l.length cap∧(l≠[]→∃b o,p=some ⟨b,o,none⟩∧b<h.size∧∀i (hi:i<l.length),ZF h b (o+i*n) (enc l[i])):=by
 obtain⟨⟨p,cap,hv,hl,hc⟩⟩:=s
 refine⟨p,cap,hv,fun ZC=>?_⟩
 have Tl:0<l.length:=List.length_pos_iff.2 ZC
 have Vu:Yh enc l≠[]:=by
  intro e
  rw[e]at hl
  have:0<l.length*n:=Nat.mul_pos Tl (by omega)
  simp at hl;omega
 obtain⟨b,o,hp,Xc⟩:=hc Vu
 refine⟨b,o,hp,JR (Xc 0 (List.length_pos_iff.2 Vu)),fun i hi j hj=>?_⟩
 rw[Xu]at hj
 have ZH:i*n+j<(Yh enc l).length:=by
  rw[hl]
  have:(i+1)*n≤l.length*n:=Nat.mul_le_mul_right _ hi
  rw[Nat.add_mul]at this;omega
 have:=Xc (i*n+j) ZH
 rw[show o+i*n+j=o+(i*n+j) by omega,this]
 have e:=Mh Xu l i hi j hj
 rw[List.getElem?_eq_getElem ZH,List.getElem?_eq_getElem (by rw[Xu];exact hj)]at e
 exact e
theorem ZF.hc {b o:Nat} {cs:List Value} (s:ZF h b o cs) {i:Nat} {x:Value} (hx:nth cs i=some x):V.hc h ⟨b,o+i,none⟩=some x:=by
 rw[Yx]at hx
 obtain⟨hi,e⟩:=List.getElem?_eq_some_iff.1 hx
 rw[s i hi,e]
theorem ZF.rd {b o:Nat} {cs:List Value} (s:ZF h b o cs) (ZC:cs≠[]) {m:Nat} (hm:cs.length=m):V.rd h ⟨b,o,none⟩ m=some cs:=by
 subst hm
 have Tl:0<cs.length:=List.length_pos_iff.2 ZC
 have h0:=s 0 Tl
 unfold V.hc at h0
 unfold V.rd
 cases hb:h[b]? with
 | none=>rw[hb]at h0;cases h0
 | some ob=>
  cases ob with
  | cells c e fr=>
   have MV:∀i,(hi:i<cs.length)→c[o+i]? = some cs[i]:=by
    intro i hi
    have:=s i hi
    unfold V.hc at this
    simp only[hb]at this
    simpa using this
   have Ih:=MV (cs.length-1) (by omega)
   have ZH:=(Array.getElem?_eq_some_iff.1 Ih).1
   simp only[true_and]
   rw[if_pos (by omega)]
   congr 1
   apply List.ext_getElem?
   intro i
   rw[List.getElem?_take]
   by_cases hi:i<cs.length
   ·rw[if_pos hi,List.getElem?_drop,Array.getElem?_toList,MV i hi,List.getElem?_eq_getElem hi]
   ·rw[if_neg hi,List.getElem?_eq_none (by omega)]
  | _=>rw[hb]at h0;cases h0
theorem ZF.Yu {C:Nat} {b o:Nat} {cs:List Value} (s:ZF h b o cs) (a:Zj C h h') (hb:b<C):ZF h' b o cs:=a.ZF hb s
theorem Ts.made (Xu:∀x,(enc x).length=n) (l:List α) (c:Nat):Ts enc n (h.push (.cells (Yh enc l).toArray E)) (.slice (some ⟨h.size,0,none⟩) l.length c) l:=⟨Sl.made (Qv Xu l) c⟩
theorem Jk.made (Xu:∀x,(enc x).length=n) (l:List α) (hB:B≤h.size):Jk B E enc n (h.push (.cells (Yh enc l).toArray E)) (.slice (some ⟨h.size,0,none⟩) l.length l.length) l:=⟨Own.made (Qv Xu l) hB⟩
theorem Ts.one (x:α) (Xu:∀x,(enc x).length=n) (c:Nat):Ts enc n (h.push (.cells (enc x).toArray E)) (.slice (some ⟨h.size,0,none⟩) 1 c) [x]:=by
 have:=Ts.made (h:=h) (E:=E) Xu [x] c
 simpa [Yh] using this
end
section
variable {α:Type} {P:Program} {T:World} {K:Value→Hp→Prop} {F:Env} {h:Hp} {ty:TypeId} {enc:α→List Value}
theorem U7 {sT xT E E' B n bytes:Nat} {v s:Value} {l k:List α} {zs:List Value} {cb:Array Bool} (JT:XD P sT=some E) (Ry:P.underlying xT=some (.slice E')) (hn:tn P E=some n) (hz:tz P E=some zs) (Mc:zs.length=n) (QF:tb P E=some bytes)
  (Qe:∀x,(enc x).all Yb=true) (ZJ:Jk B E enc n h v l) (hB:B≤h.size) (src:Ts enc n h s k) (Xd:(l.length+k.length)*bytes≤140737488355328) (MP:1≤bytes)
  (H:∀v' h',Jk B E enc n h' v' (l++k)→Zj B h h'→Xn (Zt v) h h'→K v' h'):UE P T .append #[sT,xT] ty cb [v,s] K h:=by
 have XM:∀k:List α,(Yh enc k).all Yb=true:=by
  intro k
  induction k with
  | nil=>rfl
  | cons x k ih=>simp only[Yh,List.all_append,Qe x,ih,Bool.and_self]
 refine TS JT Ry hn hz Mc QF ZJ.ZJ hB src.sl (XM k) Xd MP ?_
 intro v' h' ho hb
 refine H v' h' ⟨?_⟩ (hb.Yu hB ZJ.ZJ.Mb) hb
 rw[XU,List.length_append];exact ho
end
theorem Zs {h:Hp} {b o:Nat} {cs:List Value} {t:TypeId} (hg:h[b]? = some (.cells cs.toArray t)):hc h ⟨b,o,none⟩=nth cs o:=by
 rw[Yy hg,Yx];simp
theorem Zu {h:Hp} {b:Nat} {cs:List Value} {t:TypeId} (hg:h[b]? = some (.cells cs.toArray t)) {n:Nat} (hn:cs.length=n):rd h ⟨b,0,none⟩ n=some cs:=by
 unfold rd
 simp only[hg,true_and,Nat.zero_add,List.size_toArray]
 rw[if_pos (by omega),List.drop_zero,←hn,List.take_length]
theorem Bs.Ii {h:Hp} {v:Value} {l:List Nat} (s:Bs h v l):∃p cap,v=.slice p l.length cap∧(l≠[]→∃b o,p=some ⟨b,o,none⟩∧b<h.size∧∀i,i<l.length→hc h ⟨b,o+i,none⟩=some (.int .u8 (l.getD i 0:Nat))):=by
 obtain⟨p,cap,hv,H8⟩:=s.open
 refine⟨p,cap,hv,fun ZC=>?_⟩
 obtain⟨b,o,hp,hb,Xc⟩:=H8 ZC
 refine⟨b,o,hp,hb,fun i hi=>?_⟩
 rw[Xc i hi,List.getD_eq_getElem?_getD,List.getElem?_eq_getElem hi];rfl
theorem Zj.Uc {B:Nat} {h h':Hp} (a:Zj B h h') (hB:B≤h'.size) (o:Obj):Zj B h (h'.push o):=a.trans (Zj.push hB o)
end Go.V
