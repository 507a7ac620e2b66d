/- W7: a loop's rounds one by one; slices of elements that take more cells than one. -/
import Derived.Test.YthlfaofofaphfaaDoorW6
import Derived.LoopN
namespace Go.V
set_option linter.unusedVariables false
set_option linter.unusedSimpArgs false
section
variable {P:Program} {n:Nat} {T:World} {N:Env→Hp→Prop} {X:Nat→Env→Hp→Prop} {R:Env→Hp→Prop} {F:Env} {h:Hp}
end
section
variable {α:Type} {h h':Hp}
structure Ts (enc:α→List Value) (n:Nat) (h:Hp) (v:Value) (l:List α):Prop where
 sl:Sl n h v l.length (Z3 enc l)
structure Qn (B:Nat) (E:TypeId) (enc:α→List Value) (n:Nat) (h:Hp) (v:Value) (l:List α):Prop where
 own:YX B E n h v l.length (Z3 enc l)
variable {enc:α→List Value} {n:Nat} {v:Value} {l:List α} {B:Nat} {E:TypeId}
theorem Qn.ts (s:Qn B E enc n h v l):Ts enc n h v l:=⟨s.own.sl⟩
theorem Ts.ZZ (s:Ts enc n h v l) (a:Zg h.size h h'):Ts enc n h' v l:=⟨s.sl.ZZ a⟩
theorem Qn.nil (B:Nat) (E:TypeId) (enc:α→List Value) (n:Nat) (h:Hp):Qn B E enc n h (.slice none 0 0) []:=⟨YX.nil B E n h⟩
theorem RX (YM:∀x,(enc x).length=n):∀(l:List α) (i:Nat) (hi:i<l.length) (j:Nat) (hj:j<n),(Z3 enc l)[i*n+j]? = (enc l[i])[j]?:=by
 intro l
 induction l with
 | nil=>intro i hi;simp at hi
 | cons x l ih=>
  intro i hi j hj
  cases i with
  | zero=>
   simp only[Z3,Nat.zero_mul,Nat.zero_add,List.getElem_cons_zero]
   rw[List.getElem?_append_left (by rw[YM];exact hj)]
  | succ i=>
   simp only[Z3,List.getElem_cons_succ]
   rw[List.getElem?_append_right (by rw[YM,Nat.add_mul];omega),YM]
   have e:(i+1)*n+j-n=i*n+j:=by rw[Nat.add_mul];omega
   rw[e]
   exact ih i (by simpa using hi) j hj
theorem Ts.open (YM:∀x,(enc x).length=n) (hn:n≠0) (s:Ts enc n h v l):∃p cap,v=.slice p l.length cap∧(l≠[]→∃b o,p=some ⟨b,o,none⟩∧b<h.size∧∀i (hi:i<l.length),Zp h b (o+i*n) (enc l[i])):=by
 obtain⟨⟨p,cap,hv,hl,hc⟩⟩:=s
 refine⟨p,cap,hv,fun Z1=>?_⟩
 have Wq:0<l.length:=List.length_pos_iff.2 Z1
 have Nd:Z3 enc l≠[]:=by
  intro e
  rw[e]at hl
  have:0<l.length*n:=Nat.mul_pos Wq (by omega)
  simp at hl;omega
 obtain⟨b,o,hp,Ye⟩:=hc Nd
 refine⟨b,o,hp,XO (Ye 0 (List.length_pos_iff.2 Nd)),fun i hi j hj=>?_⟩
 rw[YM]at hj
 have Zs:i*n+j<(Z3 enc l).length:=by
  rw[hl]
  have:(i+1)*n≤l.length*n:=Nat.mul_le_mul_right _ hi
  rw[Nat.add_mul]at this;omega
 have:=Ye (i*n+j) Zs
 rw[show o+i*n+j=o+(i*n+j) by omega,this]
 have e:=RX YM l i hi j hj
 rw[List.getElem?_eq_getElem Zs,List.getElem?_eq_getElem (by rw[YM];exact hj)]at e
 exact e
theorem Zp.hc {b o:Nat} {cs:List Value} (s:Zp h b o cs) {i:Nat} {x:Value} (hx:nth cs i=some x):V.hc h ⟨b,o+i,none⟩=some x:=by
 rw[Yt]at hx
 obtain⟨hi,e⟩:=List.getElem?_eq_some_iff.1 hx
 rw[s i hi,e]
theorem Zp.rd {b o:Nat} {cs:List Value} (s:Zp h b o cs) (Z1:cs≠[]) {m:Nat} (hm:cs.length=m):V.rd h ⟨b,o,none⟩ m=some cs:=by
 subst hm
 have Wq:0<cs.length:=List.length_pos_iff.2 Z1
 have h0:=s 0 Wq
 unfold V.hc at h0
 unfold V.rd
 cases hb:h[b]? with
 | none=>rw[hb]at h0;cases h0
 | some ob=>
  cases ob with
  | cells c e fr=>
   have Pn:∀i,(hi:i<cs.length)→c[o+i]? = some cs[i]:=by
    intro i hi
    have:=s i hi
    unfold V.hc at this
    simp only[hb]at this
    simpa using this
   have Nf:=Pn (cs.length-1) (by omega)
   have Zs:=(Array.getElem?_eq_some_iff.1 Nf).1
   simp only[true_and]
   rw[if_pos (by omega)]
   congr 1
   apply List.ext_getElem?
   intro i
   rw[List.getElem?_take]
   by_cases hi:i<cs.length
   ·rw[if_pos hi,List.getElem?_drop,Array.getElem?_toList,Pn i hi,List.getElem?_eq_getElem hi]
   ·rw[if_neg hi,List.getElem?_eq_none (by omega)]
  | _=>rw[hb]at h0;cases h0
theorem Zp.ZZ {C:Nat} {b o:Nat} {cs:List Value} (s:Zp h b o cs) (a:Zg C h h') (hb:b<C):Zp h' b o cs:=a.Zp hb s
theorem Qn.made (YM:∀x,(enc x).length=n) (l:List α) (hB:B≤h.size):Qn B E enc n (h.push (.cells (Z3 enc l).toArray E)) (.slice (some ⟨h.size,0,none⟩) l.length l.length) l:=⟨YX.made (Y2 YM l) hB⟩
end
section
variable {α:Type} {P:Program} {T:World} {K:Value→Hp→Prop} {F:Env} {h:Hp} {ty:TypeId} {enc:α→List Value}
end
theorem Zk {h:Hp} {b o:Nat} {cs:List Value} {t:TypeId} (hg:h[b]? = some (.cells cs.toArray t)):hc h ⟨b,o,none⟩=nth cs o:=by
 rw[YK hg,Yt];simp
theorem Ua {h:Hp} {b:Nat} {cs:List Value} {t:TypeId} (hg:h[b]? = some (.cells cs.toArray t)) {n:Nat} (hn:cs.length=n):rd h ⟨b,0,none⟩ n=some cs:=by
 unfold rd
 simp only[hg,true_and,Nat.zero_add,List.size_toArray]
 rw[if_pos (by omega),List.drop_zero,←hn,List.take_length]
theorem Bs.Po {h:Hp} {v:Value} {l:List Nat} (s:Bs h v l):∃p cap,v=.slice p l.length cap∧(l≠[]→∃b o,p=some ⟨b,o,none⟩∧b<h.size∧∀i,i<l.length→hc h ⟨b,o+i,none⟩=some (.int .u8 (l.getD i 0:Nat))):=by
 obtain⟨p,cap,hv,OB⟩:=s.open
 refine⟨p,cap,hv,fun Z1=>?_⟩
 obtain⟨b,o,hp,hb,Ye⟩:=OB Z1
 refine⟨b,o,hp,hb,fun i hi=>?_⟩
 rw[Ye i hi,List.getD_eq_getElem?_getD,List.getElem?_eq_getElem hi];rfl
theorem Zg.JA {B:Nat} {h h':Hp} (a:Zg B h h') (hB:B≤h'.size) (o:Obj):Zg B h (h'.push o):=a.trans (Zg.push hB o)
end Go.V
