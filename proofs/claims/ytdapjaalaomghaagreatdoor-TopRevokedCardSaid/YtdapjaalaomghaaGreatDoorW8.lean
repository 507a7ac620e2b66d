/- Part W8. -/
import Derived.Test.YtdapjaalaomghaaGreatDoorW6
import Derived.LoopN
open Go.Value renaming slice→u
open Go.Obj renaming cells→D
open List renaming length→d,getElem?_eq_getElem→y,length_pos_iff→G,getD_eq_getElem?_getD→M,length_append→O,size_toArray→Q,take_length→S,drop_length→U,append_nil→Y
open Nat renaming add_mul→W,zero_add→Z
open Option renaming some→A,none→L
open Go renaming Value→r,TypeId→J
namespace Go.V
set_option linter.all false
section
variable {P:Program} {n:Nat} {T:World} {N:Env->Hp->Prop} {X:Nat->Env->Hp->Prop} {R:Env->Hp->Prop} {F:Env} {h:Hp}
def vR(P:Program)(n:Nat)(T:World)(c:Code)(X:Nat->Env->Hp->Prop)(R:Env->Hp->Prop):Nat->Env->Hp->Prop
 | 0,_,_=>False
 | k+1,F,h=>vc P n T c (vR P n T c X R k) X R F h
@[go_sem] theorem ZnU{c:Code}{k:Nat}:vR P n T c X R (k+1) F h=vc P n T c (vR P n T c X R k) X R F h:=rfl
theorem CW{c:Code}(Uj:codeOk n c=true):∀(k:Nat) (F:Env) (h:Hp),vR P n T c X R k F h->∀a w,a.tmps.size=n->a.defers=[]->env a=F->Sz T w h->Code.rounds P c (ZbY n T N X R) k a w:=by
 intro k
 induction k with
 | zero=>intro F h H;exact H.elim
 | succ k ih=>
  intro F h H a w h1 h2 h3 h4;rw[rounds_succ];refine Code.wp_mono (fun e a' w' hp=>?_) (Qw c _ _ _ _ _ Uj H a w h1 h2 h3 h4);obtain⟨q1,q2,h',q3,q4⟩:=hp
  cases e with
  | normal=>exact ih _ _ q4 a' w' q1 q2 rfl q3
  | exit j=>exact⟨q1,q2,h',q3,q4⟩
  | ret=>exact⟨q1,q2,h',q3,q4⟩
  | _=>exact q4.elim
theorem VS.rounds{c:Code}(k:Nat)(Uj:codeOk n c=true)(H:vR P n T c X R k F h):VS P n T (.loop c) N X R F h:=
 fun a w h1 h2 h3 h4=>wp_loop_rounds k (CW Uj k F h H a w h1 h2 h3 h4)
end
section
variable {α:Type} {h h':Hp}
structure Ts(enc:α->List r)(n:Nat)(h:Hp)(v:r)(l:List α):Prop where
 sl:Sl n h v (d l) (ZU enc l)
structure Qv(B:Nat)(E:J)(enc:α->List r)(n:Nat)(h:Hp)(v:r)(l:List α):Prop where
 Zm:UK B E n h v (d l) (ZU enc l)
variable {enc:α->List r} {n:Nat} {v:r} {l:List α} {B:Nat} {E:J}
theorem Qv.ts(s:Qv B E enc n h v l):Ts enc n h v l:=⟨s.Zm.sl⟩
theorem Ts.Yz(s:Ts enc n h v l)(a:Zj h.size h h'):Ts enc n h' v l:=⟨s.sl.Yz a⟩
theorem Qv.Yz{C:Nat}(s:Qv B E enc n h v l)(a:Zj C h h')(hC:h.size<=C):Qv B E enc n h' v l:=⟨s.Zm.Yz a hC⟩
theorem Qv.mono{B':Nat}(s:Qv B E enc n h v l)(hB:B'<=B):Qv B' E enc n h v l:=⟨s.Zm.mono hB⟩
theorem Qv.push(s:Qv B E enc n h v l)(o:Obj):Qv B E enc n (h.push o) v l:=⟨s.Zm.push o⟩
theorem Qv.nil(B:Nat)(E:J)(enc:α->List r)(n:Nat)(h:Hp):Qv B E enc n h (u L 0 0) []:=⟨UK.nil B E n h⟩
theorem Qv.EH(B:Nat)(E:J)(enc:α->List r)(n:Nat)(h:Hp)(p:Option Addr):Qv B E enc n h (u p 0 0) []:=⟨UK.EH B E n h p⟩
theorem Qv.Z9{b:Nat}(s:Qv B E enc n h v l)(hb:b<B)(o:Obj):Qv B E enc n (h.setIfInBounds b o) v l:=⟨s.Zm.Z9 hb o⟩
theorem Qv.open(s:Qv B E enc n h v l):∃p c,v=u p (d l) c/\(d l)<=c:=by
 rcases s.Zm with⟨⟨p,hv⟩,h0,_⟩|⟨b,cap,_,_,hv,_,_,_,hc⟩
 .exact⟨p,0,by rw[hv,h0],nT⟩
 .exact⟨_,cap,hv,hc⟩
theorem ZcC(Vl:∀x,(enc x).length=n):∀(l:List α) (i:Nat) (hi:i<(d l)) (j:Nat) (hj:j<n),(ZU enc l)[i*n+j]? = (enc l[i])[j]?:=by
 intro l
 induction l with
 | nil=>intro i hi;simp at hi
 | cons x l ih=>
  intro i hi j hj
  cases i with
  | zero=>
   simp only[ZU,Nat.zero_mul,Z,List.getElem_cons_zero];rw[List.getElem?_append_left (by rw[Vl];exact hj)]
  | succ i=>
   simp only[ZU,List.getElem_cons_succ];rw[List.getElem?_append_right (by rw[Vl,W];omega),Vl];have e:(i+1)*n+j-n=i*n+j:=by rw[W];omega
   rw[e];exact ih i (by simpa using hi) j hj
theorem Ts.open(Vl:∀x,(enc x).length=n)(hn:n≠0)(s:Ts enc n h v l):∃p cap,v=u p (d l) cap/\(l≠[]->∃b o,p=A ⟨b,o,L⟩/\b<h.size/\∀i (hi:i<(d l)),JG h b (o+i*n) (enc l[i])):=by
 obtain⟨⟨p,cap,hv,hl,hc⟩⟩:=s;refine⟨p,cap,hv,fun Y4=>?_⟩;have Gm:0<(d l):=G.2 Y4;have Zkb:ZU enc l≠[]:=by
  intro e;rw[e]at hl;have:0<(d l)*n:=Nat.mul_pos Gm nT;simp at hl;omega
 obtain⟨b,o,hp,XI⟩:=hc Zkb;refine⟨b,o,hp,Vj (XI 0 (G.2 Zkb)),fun i hi j hj=>?_⟩;rw[Vl]at hj;have ZS:i*n+j<(ZU enc l).length:=by
  rw[hl];have:(i+1)*n<=(d l)*n:=Nat.mul_le_mul_right _ hi;rw[W]at this;omega
 have:=XI (i*n+j) ZS;rw[show o+i*n+j=o+(i*n+j) by omega,this];have e:=ZcC Vl l i hi j hj;rw[y ZS,y (by rw[Vl];exact hj)]at e;exact e
theorem JG.hc{b o:Nat}{cs:List r}(s:JG h b o cs){i:Nat}{x:r}(hx:nth cs i=A x):V.hc h ⟨b,o+i,L⟩=A x:=by
 rw[YW]at hx;obtain⟨hi,e⟩:=List.getElem?_eq_some_iff.1 hx;rw[s i hi,e]
theorem JG.rd{b o:Nat}{cs:List r}(s:JG h b o cs)(Y4:cs≠[]){m:Nat}(hm:(d cs)=m):V.rd h ⟨b,o,L⟩ m=A cs:=by
 subst hm;have Gm:0<(d cs):=G.2 Y4;have h0:=s 0 Gm;unfold V.hc at h0;unfold V.rd
 cases hb:h[b]? with
 | none=>rw[hb]at h0;cases h0
 | some ob=>
  cases ob with
  | cells c e fr=>
   have M7:∀i,(hi:i<(d cs))->c[o+i]? = A cs[i]:=by
    intro i hi;have:=s i hi;unfold V.hc at this;simp only[hb]at this
    simpa using this
   have Zkc:=M7 ((d cs)-1) nT;have ZS:=(Array.getElem?_eq_some_iff.1 Zkc).1;simp only[true_and];rw[if_pos nT]
   congr 1
   apply List.ext_getElem?;intro i;rw[List.getElem?_take];by_cases hi:i<(d cs)
   .rw[if_pos hi,List.getElem?_drop,Array.getElem?_toList,M7 i hi,y hi]
   .rw[if_neg hi,List.getElem?_eq_none nT]
  | _=>rw[hb]at h0;cases h0
theorem JG.Yz{C:Nat}{b o:Nat}{cs:List r}(s:JG h b o cs)(a:Zj C h h')(hb:b<C):JG h' b o cs:=a.JG hb s
theorem Ts.made(Vl:∀x,(enc x).length=n)(l:List α)(c:Nat):Ts enc n (h.push (D (ZU enc l).toArray E)) (u (A ⟨h.size,0,L⟩) (d l) c) l:=⟨Sl.made (UV Vl l) c⟩
theorem Qv.made(Vl:∀x,(enc x).length=n)(l:List α)(hB:B<=h.size):Qv B E enc n (h.push (D (ZU enc l).toArray E)) (u (A ⟨h.size,0,L⟩) (d l) (d l)) l:=⟨UK.made (UV Vl l) hB⟩
theorem Ts.one(x:α)(Vl:∀x,(enc x).length=n)(c:Nat):Ts enc n (h.push (D (enc x).toArray E)) (u (A ⟨h.size,0,L⟩) 1 c) [x]:=by
 have:=Ts.made (h:=h) (E:=E) Vl [x] c
 simpa [ZU] using this
end
section
variable {α:Type} {P:Program} {T:World} {K:r->Hp->Prop} {F:Env} {h:Hp} {ty:J} {enc:α->List r}
theorem Rb{sT xT E E' B n bytes:Nat}{v s:r}{l k:List α}{zs:List r}{cb:Array Bool}(VR:QP P sT=A E)(CL:P.underlying xT=A (.slice E'))(hn:tn P E=A n)(hz:tz P E=A zs)(gM:(d zs)=n)(OT:tb P E=A bytes)(XW:∀x,(enc x).all YD=true)(Zm:Qv B E enc n h v l)(hB:B<=h.size)(src:Ts enc n h s k)(Y5:((d l)+(d k))*bytes<=140737488355328)(Gy:1<=bytes)(H:∀v' h',Qv B E enc n h' v' (l++k)->Zj B h h'->RM (Yf v) h h'->K v' h'):PY P T .append #[sT,xT] ty cb [v,s] K h:=by
 have Jc:∀k:List α,(ZU enc k).all YD=true:=by
  intro k
  induction k with
  | nil=>rfl
  | cons x k ih=>simp only[ZU,List.all_append,XW x,ih,Bool.and_self]
 refine Gx VR CL hn hz gM OT Zm.Zm hB src.sl (Jc k) Y5 Gy ?_;intro v' h' ho hb;refine H v' h' ⟨?_⟩ (hb.Yz hB Zm.Zm.ZW) hb;rw[Y6,O];exact ho
end
theorem Kl{α:Type}(xs zs:List α)(i:Nat)(hi:i<(d xs))(hz:(d xs)=(d zs)):(xs.take i++zs.drop i).set i xs[i]=xs.take (i+1)++zs.drop (i+1):=by
 have hl:(xs.take i).length=i:=aac;have e1:zs.drop i=zs[i]'nT :: zs.drop (i+1):=List.drop_eq_getElem_cons nT;rw[Y1 xs i hi,e1,List.set_append_right _ _ nT,hl,Nat.sub_self,List.set_cons_zero,List.append_assoc];rfl
theorem Km{α:Type}(xs zs:List α)(hz:(d xs)=(d zs)):xs.take (d xs)++zs.drop (d xs)=xs:=by
 rw[S,hz,U,Y]
theorem Dr{α:Type}(xs zs:List α):xs.take 0++zs.drop 0=zs:=uK
theorem Se{α:Type}(xs zs:List α)(i:Nat)(hi:i<=(d xs))(hz:(d xs)=(d zs)):(xs.take i++zs.drop i).length=(d xs):=by
 simp only[O,List.length_take,List.length_drop];omega
theorem Uo{a b k:Nat}(hb:b<2 ^ k)(ha:a%2 ^ k=0):a ||| b=a+b:=by
 have:a=2 ^ k*(a/2 ^ k):=by have:=Nat.div_add_mod a (2 ^ k);omega
 rw[this];exact (Nat.two_pow_add_eq_or_of_lt hb _).symm
theorem Zl{h:Hp}{b o:Nat}{cs:List r}{t:J}(hg:h[b]? = A (D cs.toArray t)):hc h ⟨b,o,L⟩=nth cs o:=by
 rw[S8 hg,YW];simp
theorem Zz{h:Hp}{b:Nat}{cs:List r}{t:J}(hg:h[b]? = A (D cs.toArray t)){n:Nat}(hn:(d cs)=n):rd h ⟨b,0,L⟩ n=A cs:=by
 unfold rd;simp only[hg,true_and,Z,Q];rw[if_pos nT,List.drop_zero,<-hn,S]
theorem YJ{h:Hp}{b o:Nat}{cs:List r}{t:J}(hg:h[b]? = A (D cs.toArray t)){n:Nat}(hn:o+n<=(d cs)):rd h ⟨b,o,L⟩ n=A ((cs.drop o).take n):=by
 unfold rd;simp only[hg,true_and,Q];rw[if_pos hn]
theorem Z3{l:List Nat}(hb:∀x∈l,x<256)(i:Nat):l.getD i 0<256:=by
 rw[M]
 cases hx:l[i]? with
 | none=>simp
 | some x=>exact hb x (List.mem_of_getElem? hx)
theorem Rc{x:Nat}(hx:x<256)(k:Nat)(hk:k<=24):Xo .i64 (x:Int) (k:Int)=((x*2 ^ k:Nat):Int):=by
 rw[CO .i64 x k (by show k<=64;omega),S9 .i64 _ ?_];show x*2 ^ k<2 ^ 63;have:2 ^ k<=2 ^ 24:=Nat.pow_le_pow_right nT hk;have h2:x*2 ^ k<=255*2 ^ 24:=Nat.mul_le_mul nT this;omega
theorem Bs.VJ{h:Hp}{v:r}{l:List Nat}(s:Bs h v l):∃p cap,v=u p (d l) cap/\(l≠[]->∃b o,p=A ⟨b,o,L⟩/\b<h.size/\∀i,i<(d l)->hc h ⟨b,o+i,L⟩=A (.int .u8 (l.getD i 0:Nat))):=by
 obtain⟨p,cap,hv,WE⟩:=s.open;refine⟨p,cap,hv,fun Y4=>?_⟩;obtain⟨b,o,hp,hb,XI⟩:=WE Y4;refine⟨b,o,hp,hb,fun i hi=>?_⟩;rw[XI i hi,M,y hi];rfl
theorem Re:∀{ks:List (Option IntKind)} {vs:List r},Xa ks vs=true->vs.all YD=true:=by
 intro ks
 induction ks with
 | nil=>intro vs h;cases vs with
  | nil=>rfl
  | cons v vs=>simp[Xa]at h
 | cons k ks ih=>intro vs h;cases vs with
  | nil=>rfl
  | cons v vs=>
   simp only[Xa,Bool.and_eq_true]at h;rw[List.all_cons,ih h.2,Bool.and_true]
   cases v<;>first|rfl|(have:=h.1;cases k<;>simp[VB]at this)
theorem Z4{zs vs:List r}(h:(d vs)=(d zs)):Y8 zs 0 vs=vs:=by
 rw[UU _ _ nT,h,U,Y]
theorem Zj.YU{B:Nat}{h h':Hp}(a:Zj B h h')(hB:B<=h'.size)(o:Obj):Zj B h (h'.push o):=a.trans (Zj.push hB o)
end Go.V
