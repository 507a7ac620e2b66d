/- Part W8. -/
import Derived.Test.YtkhkmpfenaipaaaGreatDoorW6
import Derived.LoopN
open Go.Value renaming slice→A
open Go.Obj renaming cells→G
open List renaming length→d,length_pos_iff→J,toArray→O
open Option renaming some→D,none→M
open Go renaming Value→y,TypeId→L
namespace Go.V
set_option linter.all false
section
variable {P:Program} {n:Nat} {T:World} {N:Env->Hp->Prop} {X:Nat->Env->Hp->Prop} {R:Env->Hp->Prop} {F:Env} {h:Hp}
def vR(P:Program)(n:Nat)(T:World)(c:Code)(X:Nat->Env->Hp->Prop)(R:Env->Hp->Prop):Nat->Env->Hp->Prop
 | 0,_,_=>False
 | k+1,F,h=>vc P n T c (vR P n T c X R k) X R F h
@[go_sem] theorem Zr2{c:Code}{k:Nat}:vR P n T c X R (k+1) F h=vc P n T c (vR P n T c X R k) X R F h:=rfl
theorem az{c:Code}(x:codeOk n c=true):∀(k:Nat) (F:Env) (h:Hp),vR P n T c X R k F h->∀a w,a.tmps.size=n->a.defers=[]->env a=F->Vz T w h->Code.rounds P c (Zaa n T N X R) k a w:=by
 intro k
 induction k with
 | zero=>intro F h H;exact H.elim
 | succ k o=>
  intro F h H a w t s r q;rw[rounds_succ];refine Code.wp_mono (fun e u m p=>?_) (QX c _ _ _ _ _ x H a w t s r q);let⟨i,g,h',f,b⟩:=p
  cases e with
  | normal=>exact o _ _ b u m i g rfl f
  | exit j=>exact⟨i,g,h',f,b⟩
  | ret=>exact⟨i,g,h',f,b⟩
  | _=>exact b.elim
theorem VS.rounds{c:Code}(k:Nat)(i:codeOk n c=true)(H:vR P n T c X R k F h):VS P n T (.loop c) N X R F h:=
 fun a w g f e b=>wp_loop_rounds k (az i k F h H a w g f e b)
end
section
variable {α:Type} {h h':Hp}
structure Ts(enc:α->List y)(n:Nat)(h:Hp)(v:y)(l:List α):Prop where
 sl:Sl n h v (d l) (ZW enc l)
structure QY(B:Nat)(E:L)(enc:α->List y)(n:Nat)(h:Hp)(v:y)(l:List α):Prop where
 Zn:QU B E n h v (d l) (ZW enc l)
variable {enc:α->List y} {n:Nat} {v:y} {l:List α} {B:Nat} {E:L}
theorem QY.ts(s:QY B E enc n h v l):Ts enc n h v l:=⟨s.Zn.sl⟩
theorem Ts.YQ(s:Ts enc n h v l)(a:Zm h.size h h'):Ts enc n h' v l:=⟨s.sl.YQ a⟩
theorem QY.YQ{C:Nat}(s:QY B E enc n h v l)(a:Zm C h h')(hC:h.size<=C):QY B E enc n h' v l:=⟨s.Zn.YQ a hC⟩
theorem QY.mono{B':Nat}(s:QY B E enc n h v l)(a:B'<=B):QY B' E enc n h v l:=⟨s.Zn.mono a⟩
theorem QY.push(s:QY B E enc n h v l)(o:Obj):QY B E enc n (h.push o) v l:=⟨s.Zn.push o⟩
theorem QY.nil(B:Nat)(E:L)(enc:α->List y)(n:Nat)(h:Hp):QY B E enc n h (A M 0 0) []:=⟨QU.nil B E n h⟩
theorem QY.CE(B:Nat)(E:L)(enc:α->List y)(n:Nat)(h:Hp)(p:Option Addr):QY B E enc n h (A p 0 0) []:=⟨QU.CE B E n h p⟩
theorem QY.Ym{b:Nat}(s:QY B E enc n h v l)(hb:b<B)(o:Obj):QY B E enc n (Array.setIfInBounds h b o) v l:=⟨s.Zn.Ym hb o⟩
theorem QY.open(s:QY B E enc n h v l):∃p c,v=A p (d l) c/\(d l)<=c:=by
 rcases s.Zn with⟨⟨p,a⟩,e,_⟩|⟨b,cap,_,_,a,_,_,_,hc⟩
 .grind
 grind
theorem Zf4(c:∀x,(enc x).length=n):∀(l:List α) (i:Nat) (hi:i<(d l)) (j:Nat) (a:j<n),(ZW enc l)[i*n+j]? = (enc l[i])[j]?:=by
 intro l
 induction l with
 | nil=>grind
 | cons x l b=>
  intro i hi j a
  cases i with
  | zero=>
   grind [ZW]
  | succ i=>
   grind [ZW]
theorem Ts.open(g:∀x,(enc x).length=n)(w:n≠0)(s:Ts enc n h v l):∃p cap,v=A p (d l) cap/\(l≠[]->∃b o,p=D ⟨b,o,M⟩/\b<h.size/\∀i (hi:i<(d l)),YU h b (o+i*n) (enc l[i])):=by
 let⟨⟨p,cap,m,c,hc⟩⟩:=s;refine⟨p,cap,m,fun t=>?_⟩;have u:0<(d l):=J.2 t;have a:ZW enc l≠[]:=by
  intro e;rw[e]at c;have:0<(d l)*n:=Nat.mul_pos u uh;simp at c;omega
 let⟨b,o,q,k⟩:=hc a;refine⟨b,o,q,O9 (k 0 (J.2 a)),fun i hi j f=>?_⟩;rw[g]at f;have r:i*n+j<(ZW enc l).length:=by
  rw[c];have:(i+1)*n<=(d l)*n:=Nat.mul_le_mul_right _ hi;rw[Nat.add_mul]at this;omega
 have:=k (i*n+j) r;rw[show o+i*n+j=o+(i*n+j) by omega,this];have e:=Zf4 g l i hi j f
 grind
theorem YU.hc{b o:Nat}{cs:List y}(s:YU h b o cs){i:Nat}{x:y}(a:nth cs i=D x):V.hc h ⟨b,o+i,M⟩=D x:=by
 rw[X2]at a;let⟨hi,e⟩:=List.getElem?_eq_some_iff.1 a;rw[s i hi,e]
theorem YU.rd{b o:Nat}{cs:List y}(s:YU h b o cs)(k:cs≠[]){m:Nat}(g:(d cs)=m):V.rd h ⟨b,o,M⟩ m=D cs:=by
 subst g;have q:0<(d cs):=J.2 k;have j:=s 0 q;unfold V.hc at j;unfold V.rd
 cases hb:h[b]? with
 | none=>grind
 | some f=>
  cases f with
  | cells c e r=>
   have p:∀i,(hi:i<(d cs))->c[o+i]? = D cs[i]:=by
    intro i hi;have:=s i hi;unfold V.hc at this;simp only[hb]at this
    simpa using this
   have a:=p ((d cs)-1) uh;have t:=(Array.getElem?_eq_some_iff.1 a).1;simp only[true_and];rw[if_pos uh]
   congr 1
   apply List.ext_getElem?
   grind
  | _=>grind
theorem YU.YQ{C:Nat}{b o:Nat}{cs:List y}(s:YU h b o cs)(a:Zm C h h')(hb:b<C):YU h' b o cs:=a.YU hb s
theorem Ts.made(a:∀x,(enc x).length=n)(l:List α)(c:Nat):Ts enc n (h.push (G (ZW enc l).toArray E)) (A (D ⟨h.size,0,M⟩) (d l) c) l:=⟨Sl.made (QG a l) c⟩
theorem QY.made(b:∀x,(enc x).length=n)(l:List α)(a:B<=h.size):QY B E enc n (h.push (G (ZW enc l).toArray E)) (A (D ⟨h.size,0,M⟩) (d l) (d l)) l:=⟨QU.made (QG b l) a⟩
theorem Ts.one(x:α)(a:∀x,(enc x).length=n)(c:Nat):Ts enc n (h.push (G (enc x).toArray E)) (A (D ⟨h.size,0,M⟩) 1 c) [x]:=by
 have:=Ts.made (h:=h) (E:=E) a [x] c
 simpa [ZW] using this
end
section
variable {α:Type} {P:Program} {T:World} {K:y->Hp->Prop} {F:Env} {h:Hp} {ty:L} {enc:α->List y}
theorem RZ{c b E E' B n bytes:Nat}{v s:y}{l k:List α}{zs:List y}{cb:Array Bool}(o:Un P c=D E)(an:P.underlying b=D (.slice E'))(j:tn P E=D n)(g:tz P E=D zs)(f:(d zs)=n)(q:tb P E=D bytes)(u:∀x,(enc x).all YV=true)(Zn:QY B E enc n h v l)(e:B<=h.size)(src:Ts enc n h s k)(m:((d l)+(d k))*bytes<=140737488355328)(r:1<=bytes)(H:∀a h',QY B E enc n h' a (l++k)->Zm B h h'->SK (Yq v) h h'->K a h'):OV P T .append #[c,b] ty cb [v,s] K h:=by
 have p:∀k:List α,(ZW enc k).all YV=true:=by
  intro k
  induction k with
  | nil=>rfl
  | cons x k t=>grind [ZW]
 refine Ee o an j g f q Zn.Zn e src.sl (p k) m r ?_;intro a h' i hb;refine H a h' ⟨?_⟩ (hb.YQ e Zn.Zn.Yb) hb;rw[Xd,List.length_append];exact i
end
theorem IJ{α:Type}(xs zs:List α)(i:Nat)(hi:i<(d xs))(a:(d xs)=(d zs)):(xs.take i++zs.drop i).set i xs[i]=xs.take (i+1)++zs.drop (i+1):=by
 grind [List.drop_eq_getElem_cons,Xg,List.set_append_right]
theorem IK{α:Type}(xs zs:List α)(a:(d xs)=(d zs)):xs.take (d xs)++zs.drop (d xs)=xs:=by
 grind
theorem vq{α:Type}(xs zs:List α):xs.take 0++zs.drop 0=zs:=zX
theorem Ng{α:Type}(xs zs:List α)(i:Nat)(hi:i<=(d xs))(a:(d xs)=(d zs)):(xs.take i++zs.drop i).length=(d xs):=by
 grind
theorem UT{a b k:Nat}(hb:b<2 ^ k)(c:a%2 ^ k=0):a ||| b=a+b:=by
 have:a=2 ^ k*(a/2 ^ k):=by have:=Nat.div_add_mod a (2 ^ k);omega
 rw[this];exact (Nat.two_pow_add_eq_or_of_lt hb _).symm
theorem Zr{h:Hp}{b o:Nat}{cs:List y}{t:L}(a:h[b]? = D (G (O cs) t)):hc h ⟨b,o,M⟩=nth cs o:=by
 rw[Br a,X2];simp
theorem ZB{h:Hp}{b:Nat}{cs:List y}{t:L}(c:h[b]? = D (G (O cs) t)){n:Nat}(a:(d cs)=n):rd h ⟨b,0,M⟩ n=D cs:=by
 grind [rd]
theorem YZ{h:Hp}{b o:Nat}{cs:List y}{t:L}(c:h[b]? = D (G (O cs) t)){n:Nat}(a:o+n<=(d cs)):rd h ⟨b,o,M⟩ n=D ((cs.drop o).take n):=by
 grind [rd]
theorem Yn{l:List Nat}(hb:∀x∈l,x<256)(i:Nat):l.getD i 0<256:=by
 rw[List.getD_eq_getElem?_getD]
 cases a:l[i]? with
 | none=>simp
 | some x=>exact hb x (List.mem_of_getElem? a)
theorem R7{x:Nat}(b:x<256)(k:Nat)(a:k<=24):XV .i64 (x:Int) (k:Int)=((x*2 ^ k:Nat):Int):=by
 rw[au .i64 x k (by show k<=64;omega),RX .i64 _ ?_];show x*2 ^ k<2 ^ 63;have:2 ^ k<=2 ^ 24:=Nat.pow_le_pow_right uh a;have c:x*2 ^ k<=255*2 ^ 24:=Nat.mul_le_mul uh this;omega
theorem Bs.Th{h:Hp}{v:y}{l:List Nat}(s:Bs h v l):∃p cap,v=A p (d l) cap/\(l≠[]->∃b o,p=D ⟨b,o,M⟩/\b<h.size/\∀i,i<(d l)->hc h ⟨b,o+i,M⟩=D (.int .u8 (l.getD i 0:Nat))):=by
 grind [Bs.open]
theorem Pa:∀{a:List (Option IntKind)} {vs:List y},XC a vs=true->vs.all YV=true:=by
 intro a
 induction a with
 | nil=>grind [XC]
 | cons k a b=>intro vs h;cases vs with
  | nil=>rfl
  | cons v vs=>
   simp only[XC,Bool.and_eq_true]at h;rw[List.all_cons,b h.2,Bool.and_true]
   cases v<;>first|rfl|(have:=h.1;cases k<;>simp[WO]at this)
theorem Yf{zs vs:List y}(h:(d vs)=(d zs)):XB zs 0 vs=vs:=by
 grind [Wn]
theorem Zm.Xj{B:Nat}{h h':Hp}(a:Zm B h h')(b:B<=h'.size)(o:Obj):Zm B h (h'.push o):=a.trans (Zm.push b o)
end Go.V
