/- W7: a loop's rounds one by one; slices of elements that take more cells than one. -/
import Derived.Test.YtboeoomhjbcecaaGreatDoorW6
import Derived.LoopN
namespace Go.V
set_option linter.unusedVariables false
set_option linter.unusedSimpArgs false
section
variable {P:Program} {n:Nat} {T:World} {N:Env→Hp→Prop} {X:Nat→Env→Hp→Prop} {R:Env→Hp→Prop} {F:Env} {h:Hp}
def vR (P:Program) (n:Nat) (T:World) (c:Code) (X:Nat→Env→Hp→Prop) (R:Env→Hp→Prop):Nat→Env→Hp→Prop
 | 0,_,_=>False
 | k+1,F,h=>vc P n T c (vR P n T c X R k) X R F h
@[go_sem] theorem Zh4 {c:Code} {k:Nat}:vR P n T c X R (k+1) F h=vc P n T c (vR P n T c X R k) X R F h:=rfl
theorem Fh {c:Code} (J8:codeOk n c=true):∀(k:Nat) (F:Env) (h:Hp),vR P n T c X R k F h→∀a w,a.tmps.size=n→a.defers=[]→env a=F→Vl T w h→Code.rounds P c (ud n T N X R) k a w:=by
 intro k
 induction k with
 | zero=>intro F h H;exact H.elim
 | succ k ih=>
  intro F h H a w h1 h2 h3 h4;rw[rounds_succ];refine Code.wp_mono (fun e a' w' hp=>?_) (Jl c _ _ _ _ _ J8 H a w h1 h2 h3 h4);obtain⟨q1,q2,h',q3,q4⟩:=hp
  cases e with
  | normal=>exact ih _ _ q4 a' w' q1 q2 rfl q3
  | exit j=>exact⟨q1,q2,h',q3,q4⟩
  | ret=>exact⟨q1,q2,h',q3,q4⟩
  | _=>exact q4.elim
theorem VS.rounds {c:Code} (k:Nat) (J8:codeOk n c=true) (H:vR P n T c X R k F h):VS P n T (.loop c) N X R F h:=
 fun a w h1 h2 h3 h4=>wp_loop_rounds k (Fh J8 k F h H a w h1 h2 h3 h4)
end
section
variable {α:Type} {h h':Hp}
structure Ts (enc:α→List Value) (n:Nat) (h:Hp) (v:Value) (l:List α):Prop where
 sl:Sl n h v l.length (Zz enc l)
structure Jk (B:Nat) (E:TypeId) (enc:α→List Value) (n:Nat) (h:Hp) (v:Value) (l:List α):Prop where
 own:Qx B E n h v l.length (Zz enc l)
variable {enc:α→List Value} {n:Nat} {v:Value} {l:List α} {B:Nat} {E:TypeId}
theorem Jk.ts (s:Jk B E enc n h v l):Ts enc n h v l:=⟨s.own.sl⟩
theorem Ts.Z3 (s:Ts enc n h v l) (a:Zg h.size h h'):Ts enc n h' v l:=⟨s.sl.Z3 a⟩
theorem Jk.Z3 {C:Nat} (s:Jk B E enc n h v l) (a:Zg C h h') (hC:h.size≤C):Jk B E enc n h' v l:=⟨s.own.Z3 a hC⟩
theorem Jk.mono {B':Nat} (s:Jk B E enc n h v l) (hB:B'≤B):Jk B' E enc n h v l:=⟨s.own.mono hB⟩
theorem Jk.push (s:Jk B E enc n h v l) (o:Obj):Jk B E enc n (h.push o) v l:=⟨s.own.push o⟩
theorem Jk.nil (B:Nat) (E:TypeId) (enc:α→List Value) (n:Nat) (h:Hp):Jk B E enc n h (.slice none 0 0) []:=⟨Qx.nil B E n h⟩
theorem Jk.I4 (B:Nat) (E:TypeId) (enc:α→List Value) (n:Nat) (h:Hp) (p:Option Addr):Jk B E enc n h (.slice p 0 0) []:=⟨Qx.I4 B E n h p⟩
theorem Jk.ZQ {b:Nat} (s:Jk B E enc n h v l) (hb:b<B) (o:Obj):Jk B E enc n (h.setIfInBounds b o) v l:=⟨s.own.ZQ hb o⟩
theorem Jk.open (s:Jk B E enc n h v l):∃p c,v=.slice p l.length c∧l.length≤c:=by
 rcases s.own with⟨⟨p,hv⟩,h0,_⟩|⟨b,cap,_,_,hv,_,_,_,hc⟩
 ·exact⟨p,0,by rw[hv,h0],by omega⟩
 ·exact⟨_,cap,hv,hc⟩
theorem vf (Qs:∀x,(enc x).length=n):∀(l:List α) (i:Nat) (hi:i<l.length) (j:Nat) (hj:j<n),(Zz enc l)[i*n+j]? = (enc l[i])[j]?:=by
 intro l
 induction l with
 | nil=>intro i hi;simp at hi
 | cons x l ih=>
  intro i hi j hj
  cases i with
  | zero=>
   simp only[Zz,Nat.zero_mul,Nat.zero_add,List.getElem_cons_zero];rw[List.getElem?_append_left (by rw[Qs];exact hj)]
  | succ i=>
   simp only[Zz,List.getElem_cons_succ];rw[List.getElem?_append_right (by rw[Qs,Nat.add_mul];omega),Qs];have e:(i+1)*n+j-n=i*n+j:=by rw[Nat.add_mul];omega
   rw[e];exact ih i (by simpa using hi) j hj
theorem Ts.open (Qs:∀x,(enc x).length=n) (hn:n≠0) (s:Ts enc n h v l):∃p cap,v=.slice p l.length cap∧(l≠[]→∃b o,p=some ⟨b,o,none⟩∧b<h.size∧∀i (hi:i<l.length),Xb h b (o+i*n) (enc l[i])):=by
 obtain⟨⟨p,cap,hv,hl,hc⟩⟩:=s;refine⟨p,cap,hv,fun Yv=>?_⟩;have LW:0<l.length:=List.length_pos_iff.2 Yv;have vg:Zz enc l≠[]:=by
  intro e;rw[e]at hl;have:0<l.length*n:=Nat.mul_pos LW (by omega);simp at hl;omega
 obtain⟨b,o,hp,YQ⟩:=hc vg;refine⟨b,o,hp,Up (YQ 0 (List.length_pos_iff.2 vg)),fun i hi j hj=>?_⟩;rw[Qs]at hj;have ZD:i*n+j<(Zz enc l).length:=by
  rw[hl];have:(i+1)*n≤l.length*n:=Nat.mul_le_mul_right _ hi;rw[Nat.add_mul]at this;omega
 have:=YQ (i*n+j) ZD;rw[show o+i*n+j=o+(i*n+j) by omega,this];have e:=vf Qs l i hi j hj;rw[List.getElem?_eq_getElem ZD,List.getElem?_eq_getElem (by rw[Qs];exact hj)]at e;exact e
theorem Xb.hc {b o:Nat} {cs:List Value} (s:Xb h b o cs) {i:Nat} {x:Value} (hx:nth cs i=some x):V.hc h ⟨b,o+i,none⟩=some x:=by
 rw[Yj]at hx;obtain⟨hi,e⟩:=List.getElem?_eq_some_iff.1 hx;rw[s i hi,e]
theorem Xb.rd {b o:Nat} {cs:List Value} (s:Xb h b o cs) (Yv:cs≠[]) {m:Nat} (hm:cs.length=m):V.rd h ⟨b,o,none⟩ m=some cs:=by
 subst hm;have LW:0<cs.length:=List.length_pos_iff.2 Yv;have h0:=s 0 LW;unfold V.hc at h0;unfold V.rd
 cases hb:h[b]? with
 | none=>rw[hb]at h0;cases h0
 | some ob=>
  cases ob with
  | cells c e fr=>
   have P9:∀i,(hi:i<cs.length)→c[o+i]? = some cs[i]:=by
    intro i hi;have:=s i hi;unfold V.hc at this;simp only[hb]at this
    simpa using this
   have Zey:=P9 (cs.length-1) (by omega);have ZD:=(Array.getElem?_eq_some_iff.1 Zey).1;simp only[true_and];rw[if_pos (by omega)]
   congr 1
   apply List.ext_getElem?;intro i;rw[List.getElem?_take];by_cases hi:i<cs.length
   ·rw[if_pos hi,List.getElem?_drop,Array.getElem?_toList,P9 i hi,List.getElem?_eq_getElem hi]
   ·rw[if_neg hi,List.getElem?_eq_none (by omega)]
  | _=>rw[hb]at h0;cases h0
theorem Xb.Z3 {C:Nat} {b o:Nat} {cs:List Value} (s:Xb h b o cs) (a:Zg C h h') (hb:b<C):Xb h' b o cs:=a.Xb hb s
theorem Ts.made (Qs:∀x,(enc x).length=n) (l:List α) (c:Nat):Ts enc n (h.push (.cells (Zz enc l).toArray E)) (.slice (some ⟨h.size,0,none⟩) l.length c) l:=⟨Sl.made (X3 Qs l) c⟩
theorem Jk.made (Qs:∀x,(enc x).length=n) (l:List α) (hB:B≤h.size):Jk B E enc n (h.push (.cells (Zz enc l).toArray E)) (.slice (some ⟨h.size,0,none⟩) l.length l.length) l:=⟨Qx.made (X3 Qs l) hB⟩
theorem Ts.one (x:α) (Qs:∀x,(enc x).length=n) (c:Nat):Ts enc n (h.push (.cells (enc x).toArray E)) (.slice (some ⟨h.size,0,none⟩) 1 c) [x]:=by
 have:=Ts.made (h:=h) (E:=E) Qs [x] c
 simpa [Zz] using this
end
section
variable {α:Type} {P:Program} {T:World} {K:Value→Hp→Prop} {F:Env} {h:Hp} {ty:TypeId} {enc:α→List Value}
theorem VP {sT xT E E' B n bytes:Nat} {v s:Value} {l k:List α} {zs:List Value} {cb:Array Bool} (US:JD P sT=some E) (G8:P.underlying xT=some (.slice E')) (hn:tn P E=some n) (hz:tz P E=some zs) (Aw:zs.length=n) (SM:tb P E=some bytes)
  (Y9:∀x,(enc x).all Z6=true) (own:Jk B E enc n h v l) (hB:B≤h.size) (src:Ts enc n h s k) (Yr:(l.length+k.length)*bytes≤140737488355328) (Ka:1≤bytes)
  (H:∀v' h',Jk B E enc n h' v' (l++k)→Zg B h h'→Tm (ZO v) h h'→K v' h'):T6 P T .append #[sT,xT] ty cb [v,s] K h:=by
 have Xg:∀k:List α,(Zz enc k).all Z6=true:=by
  intro k
  induction k with
  | nil=>rfl
  | cons x k ih=>simp only[Zz,List.all_append,Y9 x,ih,Bool.and_self]
 refine L9 US G8 hn hz Aw SM own.own hB src.sl (Xg k) Yr Ka ?_;intro v' h' ho hb;refine H v' h' ⟨?_⟩ (hb.Z3 hB own.own.ZG) hb;rw[Yh,List.length_append];exact ho
end
theorem Nc {α:Type} (xs zs:List α) (i:Nat) (hi:i<xs.length) (hz:xs.length=zs.length):(xs.take i++zs.drop i).set i xs[i]=xs.take (i+1)++zs.drop (i+1):=by
 have hl:(xs.take i).length=i:=by rw[List.length_take];omega
 have e1:zs.drop i=zs[i]'(by omega) :: zs.drop (i+1):=List.drop_eq_getElem_cons (by omega);rw[Ym xs i hi,e1,List.set_append_right _ _ (by omega),hl,Nat.sub_self,List.set_cons_zero,List.append_assoc];rfl
theorem Nf {α:Type} (xs zs:List α) (hz:xs.length=zs.length):xs.take xs.length++zs.drop xs.length=xs:=by
 rw[List.take_length,hz,List.drop_length,List.append_nil]
theorem HT {α:Type} (xs zs:List α):xs.take 0++zs.drop 0=zs:=by simp
theorem WU {α:Type} (xs zs:List α) (i:Nat) (hi:i≤xs.length) (hz:xs.length=zs.length):(xs.take i++zs.drop i).length=xs.length:=by
 simp only[List.length_append,List.length_take,List.length_drop];omega
theorem Qa {a b k:Nat} (hb:b<2 ^ k) (ha:a%2 ^ k=0):a ||| b=a+b:=by
 have:a=2 ^ k*(a/2 ^ k):=by have:=Nat.div_add_mod a (2 ^ k);omega
 rw[this];exact (Nat.two_pow_add_eq_or_of_lt hb _).symm
theorem Zh {h:Hp} {b o:Nat} {cs:List Value} {t:TypeId} (hg:h[b]? = some (.cells cs.toArray t)):hc h ⟨b,o,none⟩=nth cs o:=by
 rw[VM hg,Yj];simp
theorem Zq {h:Hp} {b:Nat} {cs:List Value} {t:TypeId} (hg:h[b]? = some (.cells cs.toArray t)) {n:Nat} (hn:cs.length=n):rd h ⟨b,0,none⟩ n=some cs:=by
 unfold rd;simp only[hg,true_and,Nat.zero_add,List.size_toArray];rw[if_pos (by omega),List.drop_zero,←hn,List.take_length]
theorem Z8 {h:Hp} {b o:Nat} {cs:List Value} {t:TypeId} (hg:h[b]? = some (.cells cs.toArray t)) {n:Nat} (hn:o+n≤cs.length):rd h ⟨b,o,none⟩ n=some ((cs.drop o).take n):=by
 unfold rd;simp only[hg,true_and,List.size_toArray];rw[if_pos hn]
theorem ZJ {l:List Nat} (hb:∀x∈l,x<256) (i:Nat):l.getD i 0<256:=by
 rw[List.getD_eq_getElem?_getD]
 cases hx:l[i]? with
 | none=>simp
 | some x=>exact hb x (List.mem_of_getElem? hx)
theorem VQ {x:Nat} (hx:x<256) (k:Nat) (hk:k≤24):YI .i64 (x:Int) (k:Int)=((x*2 ^ k:Nat):Int):=by
 rw[Fb .i64 x k (by show k≤64;omega),VN .i64 _ ?_];show x*2 ^ k<2 ^ 63;have:2 ^ k≤2 ^ 24:=Nat.pow_le_pow_right (by omega) hk;have h2:x*2 ^ k≤255*2 ^ 24:=Nat.mul_le_mul (by omega) this;omega
theorem Bs.UN {h:Hp} {v:Value} {l:List Nat} (s:Bs h v l):∃p cap,v=.slice p l.length cap∧(l≠[]→∃b o,p=some ⟨b,o,none⟩∧b<h.size∧∀i,i<l.length→hc h ⟨b,o+i,none⟩=some (.int .u8 (l.getD i 0:Nat))):=by
 obtain⟨p,cap,hv,Us⟩:=s.open;refine⟨p,cap,hv,fun Yv=>?_⟩;obtain⟨b,o,hp,hb,YQ⟩:=Us Yv;refine⟨b,o,hp,hb,fun i hi=>?_⟩;rw[YQ i hi,List.getD_eq_getElem?_getD,List.getElem?_eq_getElem hi];rfl
theorem VR:∀{ks:List (Option IntKind)} {vs:List Value},Yq ks vs=true→vs.all Z6=true:=by
 intro ks
 induction ks with
 | nil=>intro vs h;cases vs with
  | nil=>rfl
  | cons v vs=>simp[Yq]at h
 | cons k ks ih=>intro vs h;cases vs with
  | nil=>rfl
  | cons v vs=>
   simp only[Yq,Bool.and_eq_true]at h;rw[List.all_cons,ih h.2,Bool.and_true]
   cases v<;>first|rfl|(have:=h.1;cases k<;>simp[Q4]at this)
theorem nE:∀{ks:List (Option IntKind)} {vs:List Value},Yq ks vs=true→leq vs vs=true:=by
 intro ks
 induction ks with
 | nil=>intro vs h;cases vs with
  | nil=>rfl
  | cons v vs=>simp[Yq]at h
 | cons k ks ih=>intro vs h;cases vs with
  | nil=>rfl
  | cons v vs=>
   simp only[Yq,Bool.and_eq_true]at h;rw[leq,ih h.2,Bool.and_true];have h1:=h.1
   cases k<;>cases v<;>simp[Q4]at h1<;>simp[ceq]
theorem ZH {zs vs:List Value} (h:vs.length=zs.length):Yw zs 0 vs=vs:=by
 rw[Qy _ _ (by omega),h,List.drop_length,List.append_nil]
theorem Zg.Yg {B:Nat} {h h':Hp} (a:Zg B h h') (hB:B≤h'.size) (o:Obj):Zg B h (h'.push o):=a.trans (Zg.push hB o)
end Go.V
