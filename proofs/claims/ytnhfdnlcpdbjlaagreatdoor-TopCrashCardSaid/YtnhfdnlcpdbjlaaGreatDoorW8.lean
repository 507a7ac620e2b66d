/- Part W8. -/
import Derived.Test.YtnhfdnlcpdbjlaaGreatDoorW6
import Derived.LoopN
open Go.Value renaming slice→D
open Go.Obj renaming cells→Q
open List renaming length→d,getElem?_eq_getElem→A,length_pos_iff→J,getD_eq_getElem?_getD→M,length_append→S,size_toArray→U,take_length→W,drop_length→Y,append_nil→aa
open Nat renaming add_mul→Z
open Option renaming some→G,none→O
open Go renaming Value→y,TypeId→L
namespace Go.V
set_option linter.all false
section
variable {P:Program} {n:Nat} {T:World} {N:Env->Hp->Prop} {X:Nat->Env->Hp->Prop} {R:Env->Hp->Prop} {F:Env} {h:Hp}
def vR(P:Program)(n:Nat)(T:World)(c:Code)(X:Nat->Env->Hp->Prop)(R:Env->Hp->Prop):Nat->Env->Hp->Prop
 | 0,_,_=>False
 | k+1,F,h=>vc P n T c (vR P n T c X R k) X R F h
@[go_sem] theorem Zne{c:Code}{k:Nat}:vR P n T c X R (k+1) F h=vc P n T c (vR P n T c X R k) X R F h:=rfl
theorem Cf{c:Code}(QZ:codeOk n c=true):∀(k:Nat) (F:Env) (h:Hp),vR P n T c X R k F h->∀a w,a.tmps.size=n->a.defers=[]->env a=F->Sg T w h->Code.rounds P c (Zbi n T N X R) k a w:=by
 intro k
 induction k with
 | zero=>intro F h H;exact H.elim
 | succ k ih=>
  intro F h H a w h1 h2 h3 h4;rw[rounds_succ];refine Code.wp_mono (fun e a' w' hp=>?_) (Qr c _ _ _ _ _ QZ H a w h1 h2 h3 h4);obtain⟨q1,q2,h',q3,q4⟩:=hp
  cases e with
  | normal=>exact ih _ _ q4 a' w' q1 q2 rfl q3
  | exit j=>exact⟨q1,q2,h',q3,q4⟩
  | ret=>exact⟨q1,q2,h',q3,q4⟩
  | _=>exact q4.elim
theorem VS.rounds{c:Code}(k:Nat)(QZ:codeOk n c=true)(H:vR P n T c X R k F h):VS P n T (.loop c) N X R F h:=
 fun a w h1 h2 h3 h4=>wp_loop_rounds k (Cf QZ k F h H a w h1 h2 h3 h4)
end
section
variable {α:Type} {h h':Hp}
structure Ts(enc:α->List y)(n:Nat)(h:Hp)(v:y)(l:List α):Prop where
 sl:Sl n h v (d l) (ZT enc l)
structure Qw(B:Nat)(E:L)(enc:α->List y)(n:Nat)(h:Hp)(v:y)(l:List α):Prop where
 Zr:UK B E n h v (d l) (ZT enc l)
variable {enc:α->List y} {n:Nat} {v:y} {l:List α} {B:Nat} {E:L}
theorem Qw.ts(s:Qw B E enc n h v l):Ts enc n h v l:=⟨s.Zr.sl⟩
theorem Ts.YJ(s:Ts enc n h v l)(a:Zk h.size h h'):Ts enc n h' v l:=⟨s.sl.YJ a⟩
theorem Qw.YJ{C:Nat}(s:Qw B E enc n h v l)(a:Zk C h h')(hC:h.size<=C):Qw B E enc n h' v l:=⟨s.Zr.YJ a hC⟩
theorem Qw.mono{B':Nat}(s:Qw B E enc n h v l)(hB:B'<=B):Qw B' E enc n h v l:=⟨s.Zr.mono hB⟩
theorem Qw.push(s:Qw B E enc n h v l)(o:Obj):Qw B E enc n (h.push o) v l:=⟨s.Zr.push o⟩
theorem Qw.nil(B:Nat)(E:L)(enc:α->List y)(n:Nat)(h:Hp):Qw B E enc n h (D O 0 0) []:=⟨UK.nil B E n h⟩
theorem Qw.Ec(B:Nat)(E:L)(enc:α->List y)(n:Nat)(h:Hp)(p:Option Addr):Qw B E enc n h (D p 0 0) []:=⟨UK.Ec B E n h p⟩
theorem Qw.Yi{b:Nat}(s:Qw B E enc n h v l)(hb:b<B)(o:Obj):Qw B E enc n (h.setIfInBounds b o) v l:=⟨s.Zr.Yi hb o⟩
theorem Qw.open(s:Qw B E enc n h v l):∃p c,v=D p (d l) c/\(d l)<=c:=by
 rcases s.Zr with⟨⟨p,hv⟩,h0,_⟩|⟨b,cap,_,_,hv,_,_,_,hc⟩
 .exact⟨p,0,by rw[hv,h0],mD⟩
 .exact⟨_,cap,hv,hc⟩
theorem ZbX(Wh:∀x,(enc x).length=n):∀(l:List α) (i:Nat) (hi:i<(d l)) (j:Nat) (hj:j<n),(ZT enc l)[i*n+j]? = (enc l[i])[j]?:=by
 intro l
 induction l with
 | nil=>intro i hi;simp at hi
 | cons x l ih=>
  intro i hi j hj
  cases i with
  | zero=>
   simp only[ZT,Nat.zero_mul,Nat.zero_add,List.getElem_cons_zero];rw[List.getElem?_append_left (by rw[Wh];exact hj)]
  | succ i=>
   simp only[ZT,List.getElem_cons_succ];rw[List.getElem?_append_right (by rw[Wh,Z];omega),Wh];have e:(i+1)*n+j-n=i*n+j:=by rw[Z];omega
   rw[e];exact ih i (by simpa using hi) j hj
theorem Ts.open(Wh:∀x,(enc x).length=n)(hn:n≠0)(s:Ts enc n h v l):∃p cap,v=D p (d l) cap/\(l≠[]->∃b o,p=G ⟨b,o,O⟩/\b<h.size/\∀i (hi:i<(d l)),XX h b (o+i*n) (enc l[i])):=by
 obtain⟨⟨p,cap,hv,hl,hc⟩⟩:=s;refine⟨p,cap,hv,fun Xb=>?_⟩;have HE:0<(d l):=J.2 Xb;have Zjm:ZT enc l≠[]:=by
  intro e;rw[e]at hl;have:0<(d l)*n:=Nat.mul_pos HE mD;simp at hl;omega
 obtain⟨b,o,hp,XH⟩:=hc Zjm;refine⟨b,o,hp,WF (XH 0 (J.2 Zjm)),fun i hi j hj=>?_⟩;rw[Wh]at hj;have ZV:i*n+j<(ZT enc l).length:=by
  rw[hl];have:(i+1)*n<=(d l)*n:=Nat.mul_le_mul_right _ hi;rw[Z]at this;omega
 have:=XH (i*n+j) ZV;rw[show o+i*n+j=o+(i*n+j) by omega,this];have e:=ZbX Wh l i hi j hj;rw[A ZV,A (by rw[Wh];exact hj)]at e;exact e
theorem XX.hc{b o:Nat}{cs:List y}(s:XX h b o cs){i:Nat}{x:y}(hx:nth cs i=G x):V.hc h ⟨b,o+i,O⟩=G x:=by
 rw[Y7]at hx;obtain⟨hi,e⟩:=List.getElem?_eq_some_iff.1 hx;rw[s i hi,e]
theorem XX.rd{b o:Nat}{cs:List y}(s:XX h b o cs)(Xb:cs≠[]){m:Nat}(hm:(d cs)=m):V.rd h ⟨b,o,O⟩ m=G cs:=by
 subst hm;have HE:0<(d cs):=J.2 Xb;have h0:=s 0 HE;unfold V.hc at h0;unfold V.rd
 cases hb:h[b]? with
 | none=>rw[hb]at h0;cases h0
 | some ob=>
  cases ob with
  | cells c e fr=>
   have MN:∀i,(hi:i<(d cs))->c[o+i]? = G cs[i]:=by
    intro i hi;have:=s i hi;unfold V.hc at this;simp only[hb]at this
    simpa using this
   have Zjn:=MN ((d cs)-1) mD;have ZV:=(Array.getElem?_eq_some_iff.1 Zjn).1;simp only[true_and];rw[if_pos mD]
   congr 1
   apply List.ext_getElem?;intro i;rw[List.getElem?_take];by_cases hi:i<(d cs)
   .rw[if_pos hi,List.getElem?_drop,Array.getElem?_toList,MN i hi,A hi]
   .rw[if_neg hi,List.getElem?_eq_none mD]
  | _=>rw[hb]at h0;cases h0
theorem XX.YJ{C:Nat}{b o:Nat}{cs:List y}(s:XX h b o cs)(a:Zk C h h')(hb:b<C):XX h' b o cs:=a.XX hb s
theorem Qw.made(Wh:∀x,(enc x).length=n)(l:List α)(hB:B<=h.size):Qw B E enc n (h.push (Q (ZT enc l).toArray E)) (D (G ⟨h.size,0,O⟩) (d l) (d l)) l:=⟨UK.made (QL Wh l) hB⟩
end
section
variable {α:Type} {P:Program} {T:World} {K:y->Hp->Prop} {F:Env} {h:Hp} {ty:L} {enc:α->List y}
theorem OH{sT xT E E' B n bytes:Nat}{v s:y}{l k:List α}{zs:List y}{cb:Array Bool}(Vv:QE P sT=G E)(D5:P.underlying xT=G (.slice E'))(hn:tn P E=G n)(hz:tz P E=G zs)(fO:(d zs)=n)(OB:tb P E=G bytes)(X1:∀x,(enc x).all YN=true)(Zr:Qw B E enc n h v l)(hB:B<=h.size)(src:Ts enc n h s k)(Xa:((d l)+(d k))*bytes<=140737488355328)(D6:1<=bytes)(H:∀v' h',Qw B E enc n h' v' (l++k)->Zk B h h'->Rs (Ya v) h h'->K v' h'):Ps P T .append #[sT,xT] ty cb [v,s] K h:=by
 have XT:∀k:List α,(ZT enc k).all YN=true:=by
  intro k
  induction k with
  | nil=>rfl
  | cons x k ih=>simp only[ZT,List.all_append,X1 x,ih,Bool.and_self]
 refine HN Vv D5 hn hz fO OB Zr.Zr hB src.sl (XT k) Xa D6 ?_;intro v' h' ho hb;refine H v' h' ⟨?_⟩ (hb.YJ hB Zr.Zr.ZZ) hb;rw[YV,S];exact ho
end
theorem LW{α:Type}(xs zs:List α)(i:Nat)(hi:i<(d xs))(hz:(d xs)=(d zs)):(xs.take i++zs.drop i).set i xs[i]=xs.take (i+1)++zs.drop (i+1):=by
 have hl:(xs.take i).length=i:=aaa;have e1:zs.drop i=zs[i]'mD :: zs.drop (i+1):=List.drop_eq_getElem_cons mD;rw[Y0 xs i hi,e1,List.set_append_right _ _ mD,hl,Nat.sub_self,List.set_cons_zero,List.append_assoc];rfl
theorem LX{α:Type}(xs zs:List α)(hz:(d xs)=(d zs)):xs.take (d xs)++zs.drop (d xs)=xs:=by
 rw[W,hz,Y,aa]
theorem EP{α:Type}(xs zs:List α):xs.take 0++zs.drop 0=zs:=sW
theorem TQ{α:Type}(xs zs:List α)(i:Nat)(hi:i<=(d xs))(hz:(d xs)=(d zs)):(xs.take i++zs.drop i).length=(d xs):=by
 simp only[S,List.length_take,List.length_drop];omega
theorem Ua{a b k:Nat}(hb:b<2 ^ k)(ha:a%2 ^ k=0):a ||| b=a+b:=by
 have:a=2 ^ k*(a/2 ^ k):=by have:=Nat.div_add_mod a (2 ^ k);omega
 rw[this];exact (Nat.two_pow_add_eq_or_of_lt hb _).symm
theorem Zn{h:Hp}{b o:Nat}{cs:List y}{t:L}(hg:h[b]? = G (Q cs.toArray t)):hc h ⟨b,o,O⟩=nth cs o:=by
 rw[SG hg,Y7];simp
theorem ZA{h:Hp}{b:Nat}{cs:List y}{t:L}(hg:h[b]? = G (Q cs.toArray t)){n:Nat}(hn:(d cs)=n):rd h ⟨b,0,O⟩ n=G cs:=by
 unfold rd;simp only[hg,true_and,Nat.zero_add,U];rw[if_pos mD,List.drop_zero,<-hn,W]
theorem YI{h:Hp}{b o:Nat}{cs:List y}{t:L}(hg:h[b]? = G (Q cs.toArray t)){n:Nat}(hn:o+n<=(d cs)):rd h ⟨b,o,O⟩ n=G ((cs.drop o).take n):=by
 unfold rd;simp only[hg,true_and,U];rw[if_pos hn]
theorem Z3{l:List Nat}(hb:∀x∈l,x<256)(i:Nat):l.getD i 0<256:=by
 rw[M]
 cases hx:l[i]? with
 | none=>simp
 | some x=>exact hb x (List.mem_of_getElem? hx)
theorem SK{x:Nat}(hx:x<256)(k:Nat)(hk:k<=24):Xq .i64 (x:Int) (k:Int)=((x*2 ^ k:Nat):Int):=by
 rw[D8 .i64 x k (by show k<=64;omega),SI .i64 _ ?_];show x*2 ^ k<2 ^ 63;have:2 ^ k<=2 ^ 24:=Nat.pow_le_pow_right mD hk;have h2:x*2 ^ k<=255*2 ^ 24:=Nat.mul_le_mul mD this;omega
theorem Bs.Vn{h:Hp}{v:y}{l:List Nat}(s:Bs h v l):∃p cap,v=D p (d l) cap/\(l≠[]->∃b o,p=G ⟨b,o,O⟩/\b<h.size/\∀i,i<(d l)->hc h ⟨b,o+i,O⟩=G (.int .u8 (l.getD i 0:Nat))):=by
 obtain⟨p,cap,hv,Vx⟩:=s.open;refine⟨p,cap,hv,fun Xb=>?_⟩;obtain⟨b,o,hp,hb,XH⟩:=Vx Xb;refine⟨b,o,hp,hb,fun i hi=>?_⟩;rw[XH i hi,M,A hi];rfl
theorem HX:∀{ks:List (Option IntKind)} {vs:List y},Xj ks vs=true->vs.all YN=true:=by
 intro ks
 induction ks with
 | nil=>intro vs h;cases vs with
  | nil=>rfl
  | cons v vs=>simp[Xj]at h
 | cons k ks ih=>intro vs h;cases vs with
  | nil=>rfl
  | cons v vs=>
   simp only[Xj,Bool.and_eq_true]at h;rw[List.all_cons,ih h.2,Bool.and_true]
   cases v<;>first|rfl|(have:=h.1;cases k<;>simp[Ve]at this)
theorem Yb{zs vs:List y}(h:(d vs)=(d zs)):Xd zs 0 vs=vs:=by
 rw[Uy _ _ mD,h,Y,aa]
theorem Zk.Y1{B:Nat}{h h':Hp}(a:Zk B h h')(hB:B<=h'.size)(o:Obj):Zk B h (h'.push o):=a.trans (Zk.push hB o)
end Go.V
