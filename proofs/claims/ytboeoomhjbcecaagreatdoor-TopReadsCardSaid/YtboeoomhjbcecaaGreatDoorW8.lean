/- W7: a loop's rounds one by one; slices of elements that take more cells than one. -/
import Derived.Test.YtboeoomhjbcecaaGreatDoorW6
import Derived.LoopN
namespace Go.V
set_option linter.unusedVariables false
set_option linter.unusedSimpArgs false
section
variable {P:Program} {n:Nat} {T:World} {N:Env→Hp→Prop} {X:Nat→Env→Hp→Prop} {R:Env→Hp→Prop} {F:Env} {h:Hp}
def vR (P:Program) (n:Nat) (T:World) (c:Code) (X:Nat→Env→Hp→Prop) (R:Env→Hp→Prop):Nat→Env→Hp→Prop
 | 0,_,_=>False
 | k+1,F,h=>vc P n T c (vR P n T c X R k) X R F h
@[go_sem] theorem Zh9 {c:Code} {k:Nat}:vR P n T c X R (k+1) F h=vc P n T c (vR P n T c X R k) X R F h:=rfl
theorem Fj {c:Code} (J2:codeOk n c=true):∀(k:Nat) (F:Env) (h:Hp),vR P n T c X R k F h→∀a w,a.tmps.size=n→a.defers=[]→env a=F→Vl T w h→Code.rounds P c (tY n T N X R) k a w:=by
 intro k
 induction k with
 | zero=>intro F h H;exact H.elim
 | succ k ih=>
  intro F h H a w h1 h2 h3 h4;rw[rounds_succ];refine Code.wp_mono (fun e a' w' hp=>?_) (Jp c _ _ _ _ _ J2 H a w h1 h2 h3 h4);obtain⟨q1,q2,h',q3,q4⟩:=hp
  cases e with
  | normal=>exact ih _ _ q4 a' w' q1 q2 rfl q3
  | exit j=>exact⟨q1,q2,h',q3,q4⟩
  | ret=>exact⟨q1,q2,h',q3,q4⟩
  | _=>exact q4.elim
theorem VS.rounds {c:Code} (k:Nat) (J2:codeOk n c=true) (H:vR P n T c X R k F h):VS P n T (.loop c) N X R F h:=
 fun a w h1 h2 h3 h4=>wp_loop_rounds k (Fj J2 k F h H a w h1 h2 h3 h4)
end
section
variable {α:Type} {h h':Hp}
structure Ts (enc:α→List Value) (n:Nat) (h:Hp) (v:Value) (l:List α):Prop where
 sl:Sl n h v l.length (Zz enc l)
structure Jn (B:Nat) (E:TypeId) (enc:α→List Value) (n:Nat) (h:Hp) (v:Value) (l:List α):Prop where
 own:Qv B E n h v l.length (Zz enc l)
variable {enc:α→List Value} {n:Nat} {v:Value} {l:List α} {B:Nat} {E:TypeId}
theorem Jn.ts (s:Jn B E enc n h v l):Ts enc n h v l:=⟨s.own.sl⟩
theorem Ts.Z2 (s:Ts enc n h v l) (a:Zf h.size h h'):Ts enc n h' v l:=⟨s.sl.Z2 a⟩
theorem Jn.Z2 {C:Nat} (s:Jn B E enc n h v l) (a:Zf C h h') (hC:h.size≤C):Jn B E enc n h' v l:=⟨s.own.Z2 a hC⟩
theorem Jn.mono {B':Nat} (s:Jn B E enc n h v l) (hB:B'≤B):Jn B' E enc n h v l:=⟨s.own.mono hB⟩
theorem Jn.push (s:Jn B E enc n h v l) (o:Obj):Jn B E enc n (h.push o) v l:=⟨s.own.push o⟩
theorem Jn.nil (B:Nat) (E:TypeId) (enc:α→List Value) (n:Nat) (h:Hp):Jn B E enc n h (.slice none 0 0) []:=⟨Qv.nil B E n h⟩
theorem Jn.I9 (B:Nat) (E:TypeId) (enc:α→List Value) (n:Nat) (h:Hp) (p:Option Addr):Jn B E enc n h (.slice p 0 0) []:=⟨Qv.I9 B E n h p⟩
theorem Jn.ZP {b:Nat} (s:Jn B E enc n h v l) (hb:b<B) (o:Obj):Jn B E enc n (h.setIfInBounds b o) v l:=⟨s.own.ZP hb o⟩
theorem Jn.open (s:Jn B E enc n h v l):∃p c,v=.slice p l.length c∧l.length≤c:=by
 rcases s.own with⟨⟨p,hv⟩,h0,_⟩|⟨b,cap,_,_,hv,_,_,_,hc⟩
 ·exact⟨p,0,by rw[hv,h0],by omega⟩
 ·exact⟨_,cap,hv,hc⟩
theorem uW (Qw:∀x,(enc x).length=n):∀(l:List α) (i:Nat) (hi:i<l.length) (j:Nat) (hj:j<n),(Zz enc l)[i*n+j]? = (enc l[i])[j]?:=by
 intro l
 induction l with
 | nil=>intro i hi;simp at hi
 | cons x l ih=>
  intro i hi j hj
  cases i with
  | zero=>
   simp only[Zz,Nat.zero_mul,Nat.zero_add,List.getElem_cons_zero];rw[List.getElem?_append_left (by rw[Qw];exact hj)]
  | succ i=>
   simp only[Zz,List.getElem_cons_succ];rw[List.getElem?_append_right (by rw[Qw,Nat.add_mul];omega),Qw];have e:(i+1)*n+j-n=i*n+j:=by rw[Nat.add_mul];omega
   rw[e];exact ih i (by simpa using hi) j hj
theorem Ts.open (Qw:∀x,(enc x).length=n) (hn:n≠0) (s:Ts enc n h v l):∃p cap,v=.slice p l.length cap∧(l≠[]→∃b o,p=some ⟨b,o,none⟩∧b<h.size∧∀i (hi:i<l.length),YY h b (o+i*n) (enc l[i])):=by
 obtain⟨⟨p,cap,hv,hl,hc⟩⟩:=s;refine⟨p,cap,hv,fun YA=>?_⟩;have L1:0<l.length:=List.length_pos_iff.2 YA;have uX:Zz enc l≠[]:=by
  intro e;rw[e]at hl;have:0<l.length*n:=Nat.mul_pos L1 (by omega);simp at hl;omega
 obtain⟨b,o,hp,YS⟩:=hc uX;refine⟨b,o,hp,Uq (YS 0 (List.length_pos_iff.2 uX)),fun i hi j hj=>?_⟩;rw[Qw]at hj;have ZD:i*n+j<(Zz enc l).length:=by
  rw[hl];have:(i+1)*n≤l.length*n:=Nat.mul_le_mul_right _ hi;rw[Nat.add_mul]at this;omega
 have:=YS (i*n+j) ZD;rw[show o+i*n+j=o+(i*n+j) by omega,this];have e:=uW Qw l i hi j hj;rw[List.getElem?_eq_getElem ZD,List.getElem?_eq_getElem (by rw[Qw];exact hj)]at e;exact e
theorem YY.hc {b o:Nat} {cs:List Value} (s:YY h b o cs) {i:Nat} {x:Value} (hx:nth cs i=some x):V.hc h ⟨b,o+i,none⟩=some x:=by
 rw[Yh]at hx;obtain⟨hi,e⟩:=List.getElem?_eq_some_iff.1 hx;rw[s i hi,e]
theorem YY.rd {b o:Nat} {cs:List Value} (s:YY h b o cs) (YA:cs≠[]) {m:Nat} (hm:cs.length=m):V.rd h ⟨b,o,none⟩ m=some cs:=by
 subst hm;have L1:0<cs.length:=List.length_pos_iff.2 YA;have h0:=s 0 L1;unfold V.hc at h0;unfold V.rd
 cases hb:h[b]? with
 | none=>rw[hb]at h0;cases h0
 | some ob=>
  cases ob with
  | cells c e fr=>
   have Sg:∀i,(hi:i<cs.length)→c[o+i]? = some cs[i]:=by
    intro i hi;have:=s i hi;unfold V.hc at this;simp only[hb]at this
    simpa using this
   have Zez:=Sg (cs.length-1) (by omega);have ZD:=(Array.getElem?_eq_some_iff.1 Zez).1;simp only[true_and];rw[if_pos (by omega)]
   congr 1
   apply List.ext_getElem?;intro i;rw[List.getElem?_take];by_cases hi:i<cs.length
   ·rw[if_pos hi,List.getElem?_drop,Array.getElem?_toList,Sg i hi,List.getElem?_eq_getElem hi]
   ·rw[if_neg hi,List.getElem?_eq_none (by omega)]
  | _=>rw[hb]at h0;cases h0
theorem YY.Z2 {C:Nat} {b o:Nat} {cs:List Value} (s:YY h b o cs) (a:Zf C h h') (hb:b<C):YY h' b o cs:=a.YY hb s
theorem Ts.made (Qw:∀x,(enc x).length=n) (l:List α) (c:Nat):Ts enc n (h.push (.cells (Zz enc l).toArray E)) (.slice (some ⟨h.size,0,none⟩) l.length c) l:=⟨Sl.made (X6 Qw l) c⟩
theorem Jn.made (Qw:∀x,(enc x).length=n) (l:List α) (hB:B≤h.size):Jn B E enc n (h.push (.cells (Zz enc l).toArray E)) (.slice (some ⟨h.size,0,none⟩) l.length l.length) l:=⟨Qv.made (X6 Qw l) hB⟩
theorem Ts.one (x:α) (Qw:∀x,(enc x).length=n) (c:Nat):Ts enc n (h.push (.cells (enc x).toArray E)) (.slice (some ⟨h.size,0,none⟩) 1 c) [x]:=by
 have:=Ts.made (h:=h) (E:=E) Qw [x] c
 simpa [Zz] using this
end
section
variable {α:Type} {P:Program} {T:World} {K:Value→Hp→Prop} {F:Env} {h:Hp} {ty:TypeId} {enc:α→List Value}
theorem VT {sT xT E E' B n bytes:Nat} {v s:Value} {l k:List α} {zs:List Value} {cb:Array Bool} (UQ:JI P sT=some E) (Fa:P.underlying xT=some (.slice E')) (hn:tn P E=some n) (hz:tz P E=some zs) (Au:zs.length=n) (SQ:tb P E=some bytes)
  (Xc:∀x,(enc x).all Z7=true) (own:Jn B E enc n h v l) (hB:B≤h.size) (src:Ts enc n h s k) (Ys:(l.length+k.length)*bytes≤140737488355328) (Kf:1≤bytes)
  (H:∀v' h',Jn B E enc n h' v' (l++k)→Zf B h h'→Tv (ZO v) h h'→K v' h'):T9 P T .append #[sT,xT] ty cb [v,s] K h:=by
 have Xk:∀k:List α,(Zz enc k).all Z7=true:=by
  intro k
  induction k with
  | nil=>rfl
  | cons x k ih=>simp only[Zz,List.all_append,Xc x,ih,Bool.and_self]
 refine Ke UQ Fa hn hz Au SQ own.own hB src.sl (Xk k) Ys Kf ?_;intro v' h' ho hb;refine H v' h' ⟨?_⟩ (hb.Z2 hB own.own.ZG) hb;rw[Yj,List.length_append];exact ho
end
theorem Np {α:Type} (xs zs:List α) (i:Nat) (hi:i<xs.length) (hz:xs.length=zs.length):(xs.take i++zs.drop i).set i xs[i]=xs.take (i+1)++zs.drop (i+1):=by
 have hl:(xs.take i).length=i:=by rw[List.length_take];omega
 have e1:zs.drop i=zs[i]'(by omega) :: zs.drop (i+1):=List.drop_eq_getElem_cons (by omega);rw[Yl xs i hi,e1,List.set_append_right _ _ (by omega),hl,Nat.sub_self,List.set_cons_zero,List.append_assoc];rfl
theorem Nq {α:Type} (xs zs:List α) (hz:xs.length=zs.length):xs.take xs.length++zs.drop xs.length=xs:=by
 rw[List.take_length,hz,List.drop_length,List.append_nil]
theorem HW {α:Type} (xs zs:List α):xs.take 0++zs.drop 0=zs:=by simp
theorem WU {α:Type} (xs zs:List α) (i:Nat) (hi:i≤xs.length) (hz:xs.length=zs.length):(xs.take i++zs.drop i).length=xs.length:=by
 simp only[List.length_append,List.length_take,List.length_drop];omega
theorem Qf {a b k:Nat} (hb:b<2 ^ k) (ha:a%2 ^ k=0):a ||| b=a+b:=by
 have:a=2 ^ k*(a/2 ^ k):=by have:=Nat.div_add_mod a (2 ^ k);omega
 rw[this];exact (Nat.two_pow_add_eq_or_of_lt hb _).symm
theorem Zh {h:Hp} {b o:Nat} {cs:List Value} {t:TypeId} (hg:h[b]? = some (.cells cs.toArray t)):hc h ⟨b,o,none⟩=nth cs o:=by
 rw[VO hg,Yh];simp
theorem Zq {h:Hp} {b:Nat} {cs:List Value} {t:TypeId} (hg:h[b]? = some (.cells cs.toArray t)) {n:Nat} (hn:cs.length=n):rd h ⟨b,0,none⟩ n=some cs:=by
 unfold rd;simp only[hg,true_and,Nat.zero_add,List.size_toArray];rw[if_pos (by omega),List.drop_zero,←hn,List.take_length]
theorem Z9 {h:Hp} {b o:Nat} {cs:List Value} {t:TypeId} (hg:h[b]? = some (.cells cs.toArray t)) {n:Nat} (hn:o+n≤cs.length):rd h ⟨b,o,none⟩ n=some ((cs.drop o).take n):=by
 unfold rd;simp only[hg,true_and,List.size_toArray];rw[if_pos hn]
theorem ZI {l:List Nat} (hb:∀x∈l,x<256) (i:Nat):l.getD i 0<256:=by
 rw[List.getD_eq_getElem?_getD]
 cases hx:l[i]? with
 | none=>simp
 | some x=>exact hb x (List.mem_of_getElem? hx)
theorem VU {x:Nat} (hx:x<256) (k:Nat) (hk:k≤24):YL .i64 (x:Int) (k:Int)=((x*2 ^ k:Nat):Int):=by
 rw[Fc .i64 x k (by show k≤64;omega),VP .i64 _ ?_];show x*2 ^ k<2 ^ 63;have:2 ^ k≤2 ^ 24:=Nat.pow_le_pow_right (by omega) hk;have h2:x*2 ^ k≤255*2 ^ 24:=Nat.mul_le_mul (by omega) this;omega
theorem Bs.UL {h:Hp} {v:Value} {l:List Nat} (s:Bs h v l):∃p cap,v=.slice p l.length cap∧(l≠[]→∃b o,p=some ⟨b,o,none⟩∧b<h.size∧∀i,i<l.length→hc h ⟨b,o+i,none⟩=some (.int .u8 (l.getD i 0:Nat))):=by
 obtain⟨p,cap,hv,Us⟩:=s.open;refine⟨p,cap,hv,fun YA=>?_⟩;obtain⟨b,o,hp,hb,YS⟩:=Us YA;refine⟨b,o,hp,hb,fun i hi=>?_⟩;rw[YS i hi,List.getD_eq_getElem?_getD,List.getElem?_eq_getElem hi];rfl
theorem VV:∀{ks:List (Option IntKind)} {vs:List Value},YB ks vs=true→vs.all Z7=true:=by
 intro ks
 induction ks with
 | nil=>intro vs h;cases vs with
  | nil=>rfl
  | cons v vs=>simp[YB]at h
 | cons k ks ih=>intro vs h;cases vs with
  | nil=>rfl
  | cons v vs=>
   simp only[YB,Bool.and_eq_true]at h;rw[List.all_cons,ih h.2,Bool.and_true]
   cases v<;>first|rfl|(have:=h.1;cases k<;>simp[UI]at this)
theorem ZJ {zs vs:List Value} (h:vs.length=zs.length):Yw zs 0 vs=vs:=by
 rw[QA _ _ (by omega),h,List.drop_length,List.append_nil]
theorem Zf.Yi {B:Nat} {h h':Hp} (a:Zf B h h') (hB:B≤h'.size) (o:Obj):Zf B h (h'.push o):=a.trans (Zf.push hB o)
end Go.V
