/- Part W8. -/
import Derived.Test.YthlfaofofaphfaaGreatDoorW6
import Derived.LoopN
open Go.Value renaming slice→u
open Go.Obj renaming cells→D
open List renaming length→d,getElem?_eq_getElem→y,length_pos_iff→G,getD_eq_getElem?_getD→M,length_append→O,size_toArray→Q,take_length→S,drop_length→U,append_nil→Z
open Nat renaming add_mul→Y
open Option renaming some→A,none→L
open Bool renaming and_eq_true→W,and_true→aa
open Go renaming Value→r,TypeId→J
namespace Go.V
set_option linter.unusedVariables false
set_option linter.unusedSimpArgs false
section
variable {P:Program} {n:Nat} {T:World} {N:Env->Hp->Prop} {X:Nat->Env->Hp->Prop} {R:Env->Hp->Prop} {F:Env} {h:Hp}
def vR(P:Program)(n:Nat)(T:World)(c:Code)(X:Nat->Env->Hp->Prop)(R:Env->Hp->Prop):Nat->Env->Hp->Prop
 | 0,_,_=>False
 | k+1,F,h=>vc P n T c (vR P n T c X R k) X R F h
@[go_sem] theorem Zok{c:Code}{k:Nat}:vR P n T c X R (k+1) F h=vc P n T c (vR P n T c X R k) X R F h:=rfl
theorem Bl{c:Code}(Um:codeOk n c=true):∀(k:Nat) (F:Env) (h:Hp),vR P n T c X R k F h->∀a w,a.tmps.size=n->a.defers=[]->env a=F->SI T w h->Code.rounds P c (Zcp n T N X R) k a w:=by
 intro k
 induction k with
 | zero=>intro F h H;exact H.elim
 | succ k ih=>
  intro F h H a w h1 h2 h3 h4;rw[rounds_succ];refine Code.wp_mono (fun e a' w' hp=>?_) (QG c _ _ _ _ _ Um H a w h1 h2 h3 h4);obtain⟨q1,q2,h',q3,q4⟩:=hp
  cases e with
  | normal=>exact ih _ _ q4 a' w' q1 q2 rfl q3
  | exit j=>exact⟨q1,q2,h',q3,q4⟩
  | ret=>exact⟨q1,q2,h',q3,q4⟩
  | _=>exact q4.elim
theorem VS.rounds{c:Code}(k:Nat)(Um:codeOk n c=true)(H:vR P n T c X R k F h):VS P n T (.loop c) N X R F h:=
 fun a w h1 h2 h3 h4=>wp_loop_rounds k (Bl Um k F h H a w h1 h2 h3 h4)
end
section
variable {α:Type} {h h':Hp}
structure Ts(enc:α->List r)(n:Nat)(h:Hp)(v:r)(l:List α):Prop where
 sl:Sl n h v (d l) (ZU enc l)
structure QF(B:Nat)(E:J)(enc:α->List r)(n:Nat)(h:Hp)(v:r)(l:List α):Prop where
 Zq:UO B E n h v (d l) (ZU enc l)
variable {enc:α->List r} {n:Nat} {v:r} {l:List α} {B:Nat} {E:J}
theorem QF.ts(s:QF B E enc n h v l):Ts enc n h v l:=⟨s.Zq.sl⟩
theorem Ts.Yz(s:Ts enc n h v l)(a:Zj h.size h h'):Ts enc n h' v l:=⟨s.sl.Yz a⟩
theorem QF.Yz{C:Nat}(s:QF B E enc n h v l)(a:Zj C h h')(hC:h.size<=C):QF B E enc n h' v l:=⟨s.Zq.Yz a hC⟩
theorem QF.mono{B':Nat}(s:QF B E enc n h v l)(hB:B'<=B):QF B' E enc n h v l:=⟨s.Zq.mono hB⟩
theorem QF.push(s:QF B E enc n h v l)(o:Obj):QF B E enc n (h.push o) v l:=⟨s.Zq.push o⟩
theorem QF.nil(B:Nat)(E:J)(enc:α->List r)(n:Nat)(h:Hp):QF B E enc n h (u L 0 0) []:=⟨UO.nil B E n h⟩
theorem QF.EX(B:Nat)(E:J)(enc:α->List r)(n:Nat)(h:Hp)(p:Option Addr):QF B E enc n h (u p 0 0) []:=⟨UO.EX B E n h p⟩
theorem QF.Ya{b:Nat}(s:QF B E enc n h v l)(hb:b<B)(o:Obj):QF B E enc n (h.setIfInBounds b o) v l:=⟨s.Zq.Ya hb o⟩
theorem QF.open(s:QF B E enc n h v l):∃p c,v=u p (d l) c/\(d l)<=c:=by
 rcases s.Zq with⟨⟨p,hv⟩,h0,_⟩|⟨b,cap,_,_,hv,_,_,_,hc⟩
 .exact⟨p,0,by rw[hv,h0],pA⟩
 .exact⟨_,cap,hv,hc⟩
theorem Zc5(UR:∀x,(enc x).length=n):∀(l:List α) (i:Nat) (hi:i<(d l)) (j:Nat) (hj:j<n),(ZU enc l)[i*n+j]? = (enc l[i])[j]?:=by
 intro l
 induction l with
 | nil=>intro i hi;simp at hi
 | cons x l ih=>
  intro i hi j hj
  cases i with
  | zero=>
   simp only[ZU,Nat.zero_mul,Nat.zero_add,List.getElem_cons_zero];rw[List.getElem?_append_left (by rw[UR];exact hj)]
  | succ i=>
   simp only[ZU,List.getElem_cons_succ];rw[List.getElem?_append_right (by rw[UR,Y];omega),UR];have e:(i+1)*n+j-n=i*n+j:=by rw[Y];omega
   rw[e];exact ih i (by simpa using hi) j hj
theorem Ts.open(UR:∀x,(enc x).length=n)(hn:n≠0)(s:Ts enc n h v l):∃p cap,v=u p (d l) cap/\(l≠[]->∃b o,p=A ⟨b,o,L⟩/\b<h.size/\∀i (hi:i<(d l)),X6 h b (o+i*n) (enc l[i])):=by
 obtain⟨⟨p,cap,hv,hl,hc⟩⟩:=s;refine⟨p,cap,hv,fun Y7=>?_⟩;have GC:0<(d l):=G.2 Y7;have Zkx:ZU enc l≠[]:=by
  intro e;rw[e]at hl;have:0<(d l)*n:=Nat.mul_pos GC pA;simp at hl;omega
 obtain⟨b,o,hp,XL⟩:=hc Zkx;refine⟨b,o,hp,Vj (XL 0 (G.2 Zkx)),fun i hi j hj=>?_⟩;rw[UR]at hj;have ZT:i*n+j<(ZU enc l).length:=by
  rw[hl];have:(i+1)*n<=(d l)*n:=Nat.mul_le_mul_right _ hi;rw[Y]at this;omega
 have:=XL (i*n+j) ZT;rw[show o+i*n+j=o+(i*n+j) by omega,this];have e:=Zc5 UR l i hi j hj;rw[y ZT,y (by rw[UR];exact hj)]at e;exact e
theorem X6.hc{b o:Nat}{cs:List r}(s:X6 h b o cs){i:Nat}{x:r}(hx:nth cs i=A x):V.hc h ⟨b,o+i,L⟩=A x:=by
 rw[YU]at hx;obtain⟨hi,e⟩:=List.getElem?_eq_some_iff.1 hx;rw[s i hi,e]
theorem X6.rd{b o:Nat}{cs:List r}(s:X6 h b o cs)(Y7:cs≠[]){m:Nat}(hm:(d cs)=m):V.rd h ⟨b,o,L⟩ m=A cs:=by
 subst hm;have GC:0<(d cs):=G.2 Y7;have h0:=s 0 GC;unfold V.hc at h0;unfold V.rd
 cases hb:h[b]? with
 | none=>rw[hb]at h0;cases h0
 | some ob=>
  cases ob with
  | cells c e fr=>
   have Lp:∀i,(hi:i<(d cs))->c[o+i]? = A cs[i]:=by
    intro i hi;have:=s i hi;unfold V.hc at this;simp only[hb]at this
    simpa using this
   have Zky:=Lp ((d cs)-1) pA;have ZT:=(Array.getElem?_eq_some_iff.1 Zky).1;simp only[true_and];rw[if_pos pA]
   congr 1
   apply List.ext_getElem?;intro i;rw[List.getElem?_take];by_cases hi:i<(d cs)
   .rw[if_pos hi,List.getElem?_drop,Array.getElem?_toList,Lp i hi,y hi]
   .rw[if_neg hi,List.getElem?_eq_none pA]
  | _=>rw[hb]at h0;cases h0
theorem X6.Yz{C:Nat}{b o:Nat}{cs:List r}(s:X6 h b o cs)(a:Zj C h h')(hb:b<C):X6 h' b o cs:=a.X6 hb s
theorem Ts.made(UR:∀x,(enc x).length=n)(l:List α)(c:Nat):Ts enc n (h.push (D (ZU enc l).toArray E)) (u (A ⟨h.size,0,L⟩) (d l) c) l:=⟨Sl.made (Qs UR l) c⟩
theorem QF.made(UR:∀x,(enc x).length=n)(l:List α)(hB:B<=h.size):QF B E enc n (h.push (D (ZU enc l).toArray E)) (u (A ⟨h.size,0,L⟩) (d l) (d l)) l:=⟨UO.made (Qs UR l) hB⟩
theorem Ts.one(x:α)(UR:∀x,(enc x).length=n)(c:Nat):Ts enc n (h.push (D (enc x).toArray E)) (u (A ⟨h.size,0,L⟩) 1 c) [x]:=by
 have:=Ts.made (h:=h) (E:=E) UR [x] c
 simpa [ZU] using this
end
section
variable {α:Type} {P:Program} {T:World} {K:r->Hp->Prop} {F:Env} {h:Hp} {ty:J} {enc:α->List r}
theorem Rj{sT xT E E' B n bytes:Nat}{v s:r}{l k:List α}{zs:List r}{cb:Array Bool}(VV:QY P sT=A E)(Bc:P.underlying xT=A (.slice E'))(hn:tn P E=A n)(hz:tz P E=A zs)(io:(d zs)=n)(O1:tb P E=A bytes)(X3:∀x,(enc x).all YE=true)(Zq:QF B E enc n h v l)(hB:B<=h.size)(src:Ts enc n h s k)(Xf:((d l)+(d k))*bytes<=140737488355328)(GO:1<=bytes)(H:∀v' h',QF B E enc n h' v' (l++k)->Zj B h h'->RT (Yf v) h h'->K v' h'):PZ P T .append #[sT,xT] ty cb [v,s] K h:=by
 have XO:∀k:List α,(ZU enc k).all YE=true:=by
  intro k
  induction k with
  | nil=>rfl
  | cons x k ih=>simp only[ZU,List.all_append,X3 x,ih,Bool.and_self]
 refine GN VV Bc hn hz io O1 Zq.Zq hB src.sl (XO k) Xf GO ?_;intro v' h' ho hb;refine H v' h' ⟨?_⟩ (hb.Yz hB Zq.Zq.ZZ) hb;rw[Y6,O];exact ho
end
theorem KB{α:Type}(xs zs:List α)(i:Nat)(hi:i<(d xs))(hz:(d xs)=(d zs)):(xs.take i++zs.drop i).set i xs[i]=xs.take (i+1)++zs.drop (i+1):=by
 have hl:(xs.take i).length=i:=aad;have e1:zs.drop i=zs[i]'pA :: zs.drop (i+1):=List.drop_eq_getElem_cons pA;rw[Y8 xs i hi,e1,List.set_append_right _ _ pA,hl,Nat.sub_self,List.set_cons_zero,List.append_assoc];rfl
theorem KC{α:Type}(xs zs:List α)(hz:(d xs)=(d zs)):xs.take (d xs)++zs.drop (d xs)=xs:=by
 rw[S,hz,U,Z]
theorem DM{α:Type}(xs zs:List α):xs.take 0++zs.drop 0=zs:=IQ
theorem Si{α:Type}(xs zs:List α)(i:Nat)(hi:i<=(d xs))(hz:(d xs)=(d zs)):(xs.take i++zs.drop i).length=(d xs):=by
 simp only[O,List.length_take,List.length_drop];omega
theorem Uw{a b k:Nat}(hb:b<2 ^ k)(ha:a%2 ^ k=0):a ||| b=a+b:=by
 have:a=2 ^ k*(a/2 ^ k):=by have:=Nat.div_add_mod a (2 ^ k);omega
 rw[this];exact (Nat.two_pow_add_eq_or_of_lt hb _).symm
theorem Zn{h:Hp}{b o:Nat}{cs:List r}{t:J}(hg:h[b]? = A (D cs.toArray t)):hc h ⟨b,o,L⟩=nth cs o:=by
 rw[Re hg,YU];simp
theorem Zy{h:Hp}{b:Nat}{cs:List r}{t:J}(hg:h[b]? = A (D cs.toArray t)){n:Nat}(hn:(d cs)=n):rd h ⟨b,0,L⟩ n=A cs:=by
 unfold rd;simp only[hg,true_and,Nat.zero_add,Q];rw[if_pos pA,List.drop_zero,<-hn,S]
theorem YL{h:Hp}{b o:Nat}{cs:List r}{t:J}(hg:h[b]? = A (D cs.toArray t)){n:Nat}(hn:o+n<=(d cs)):rd h ⟨b,o,L⟩ n=A ((cs.drop o).take n):=by
 unfold rd;simp only[hg,true_and,Q];rw[if_pos hn]
theorem Z4{l:List Nat}(hb:∀x∈l,x<256)(i:Nat):l.getD i 0<256:=by
 rw[M]
 cases hx:l[i]? with
 | none=>simp
 | some x=>exact hb x (List.mem_of_getElem? hx)
theorem Rk{x:Nat}(hx:x<256)(k:Nat)(hk:k<=24):Xr .i64 (x:Int) (k:Int)=((x*2 ^ k:Nat):Int):=by
 rw[Be .i64 x k (by show k<=64;omega),Rg .i64 _ ?_];show x*2 ^ k<2 ^ 63;have:2 ^ k<=2 ^ 24:=Nat.pow_le_pow_right pA hk;have h2:x*2 ^ k<=255*2 ^ 24:=Nat.mul_le_mul pA this;omega
theorem Bs.VM{h:Hp}{v:r}{l:List Nat}(s:Bs h v l):∃p cap,v=u p (d l) cap/\(l≠[]->∃b o,p=A ⟨b,o,L⟩/\b<h.size/\∀i,i<(d l)->hc h ⟨b,o+i,L⟩=A (.int .u8 (l.getD i 0:Nat))):=by
 obtain⟨p,cap,hv,WB⟩:=s.open;refine⟨p,cap,hv,fun Y7=>?_⟩;obtain⟨b,o,hp,hb,XL⟩:=WB Y7;refine⟨b,o,hp,hb,fun i hi=>?_⟩;rw[XL i hi,M,y hi];rfl
theorem Tv:∀{ks:List (Option IntKind)} {vs:List r},Xe ks vs=true->vs.all YE=true:=by
 intro ks
 induction ks with
 | nil=>intro vs h;cases vs with
  | nil=>rfl
  | cons v vs=>simp[Xe]at h
 | cons k ks ih=>intro vs h;cases vs with
  | nil=>rfl
  | cons v vs=>
   simp only[Xe,W]at h;rw[List.all_cons,ih h.2,aa]
   cases v<;>first|rfl|(have:=h.1;cases k<;>simp[WK]at this)
theorem xY:∀{ks:List (Option IntKind)} {vs:List r},Xe ks vs=true->leq vs vs=true:=by
 intro ks
 induction ks with
 | nil=>intro vs h;cases vs with
  | nil=>rfl
  | cons v vs=>simp[Xe]at h
 | cons k ks ih=>intro vs h;cases vs with
  | nil=>rfl
  | cons v vs=>
   simp only[Xe,W]at h;rw[leq,ih h.2,aa];have h1:=h.1
   cases k<;>cases v<;>simp[WK]at h1<;>simp[ceq]
theorem ZW{zs vs:List r}(h:(d vs)=(d zs)):Xd zs 0 vs=vs:=by
 rw[UZ _ _ pA,h,U,Z]
theorem Zj.YX{B:Nat}{h h':Hp}(a:Zj B h h')(hB:B<=h'.size)(o:Obj):Zj B h (h'.push o):=a.trans (Zj.push hB o)
end Go.V
