/- Part W8. -/
import Derived.Test.YtdpjmhgbmhjniaaGreatDoorW6
import Derived.LoopN
open Go.Value renaming slice→y
open Go.Obj renaming cells→G
open List renaming length→d,getElem?_eq_getElem→u,length_pos_iff→D,getD_eq_getElem?_getD→L,length_append→O,size_toArray→Q,take_length→S,drop_length→U,append_nil→Y
open Nat renaming add_mul→W,zero_add→Z
open Option renaming some→A,none→M
open Go renaming Value→r,TypeId→J
namespace Go.V
set_option linter.all false
section
variable {P:Program} {n:Nat} {T:World} {N:Env->Hp->Prop} {X:Nat->Env->Hp->Prop} {R:Env->Hp->Prop} {F:Env} {h:Hp}
def vR(P:Program)(n:Nat)(T:World)(c:Code)(X:Nat->Env->Hp->Prop)(R:Env->Hp->Prop):Nat->Env->Hp->Prop
 | 0,_,_=>False
 | k+1,F,h=>vc P n T c (vR P n T c X R k) X R F h
@[go_sem] theorem ZjZ{c:Code}{k:Nat}:vR P n T c X R (k+1) F h=vc P n T c (vR P n T c X R k) X R F h:=rfl
theorem F8{c:Code}(XM:codeOk n c=true):∀(k:Nat) (F:Env) (h:Hp),vR P n T c X R k F h->∀a w,a.tmps.size=n->a.defers=[]->env a=F->Je T w h->Code.rounds P c (AE n T N X R) k a w:=by
 intro k
 induction k with
 | zero=>intro F h H;exact H.elim
 | succ k ih=>
  intro F h H a w h1 h2 h3 h4;rw[rounds_succ];refine Code.wp_mono (fun e a' w' hp=>?_) (JC c _ _ _ _ _ XM H a w h1 h2 h3 h4);obtain⟨q1,q2,h',q3,q4⟩:=hp
  cases e with
  | normal=>exact ih _ _ q4 a' w' q1 q2 rfl q3
  | exit j=>exact⟨q1,q2,h',q3,q4⟩
  | ret=>exact⟨q1,q2,h',q3,q4⟩
  | _=>exact q4.elim
theorem VS.rounds{c:Code}(k:Nat)(XM:codeOk n c=true)(H:vR P n T c X R k F h):VS P n T (.loop c) N X R F h:=
 fun a w h1 h2 h3 h4=>wp_loop_rounds k (F8 XM k F h H a w h1 h2 h3 h4)
end
section
variable {α:Type} {h h':Hp}
structure Ts(enc:α->List r)(n:Nat)(h:Hp)(v:r)(l:List α):Prop where
 sl:Sl n h v (d l) (ZK enc l)
structure JD(B:Nat)(E:J)(enc:α->List r)(n:Nat)(h:Hp)(v:r)(l:List α):Prop where
 Zy:Own B E n h v (d l) (ZK enc l)
variable {enc:α->List r} {n:Nat} {v:r} {l:List α} {B:Nat} {E:J}
theorem JD.ts(s:JD B E enc n h v l):Ts enc n h v l:=⟨s.Zy.sl⟩
theorem Ts.Yb(s:Ts enc n h v l)(a:Zf h.size h h'):Ts enc n h' v l:=⟨s.sl.Yb a⟩
theorem JD.Yb{C:Nat}(s:JD B E enc n h v l)(a:Zf C h h')(hC:h.size<=C):JD B E enc n h' v l:=⟨s.Zy.Yb a hC⟩
theorem JD.mono{B':Nat}(s:JD B E enc n h v l)(hB:B'<=B):JD B' E enc n h v l:=⟨s.Zy.mono hB⟩
theorem JD.push(s:JD B E enc n h v l)(o:Obj):JD B E enc n (h.push o) v l:=⟨s.Zy.push o⟩
theorem JD.nil(B:Nat)(E:J)(enc:α->List r)(n:Nat)(h:Hp):JD B E enc n h (y M 0 0) []:=⟨Own.nil B E n h⟩
theorem JD.HX(B:Nat)(E:J)(enc:α->List r)(n:Nat)(h:Hp)(p:Option Addr):JD B E enc n h (y p 0 0) []:=⟨Own.HX B E n h p⟩
theorem JD.Z3{b:Nat}(s:JD B E enc n h v l)(hb:b<B)(o:Obj):JD B E enc n (h.setIfInBounds b o) v l:=⟨s.Zy.Z3 hb o⟩
theorem JD.open(s:JD B E enc n h v l):∃p c,v=y p (d l) c/\(d l)<=c:=by
 rcases s.Zy with⟨⟨p,hv⟩,h0,_⟩|⟨b,cap,_,_,hv,_,_,_,hc⟩
 .exact⟨p,0,by rw[hv,h0],gX⟩
 .exact⟨_,cap,hv,hc⟩
theorem xd(QZ:∀x,(enc x).length=n):∀(l:List α) (i:Nat) (hi:i<(d l)) (j:Nat) (hj:j<n),(ZK enc l)[i*n+j]? = (enc l[i])[j]?:=by
 intro l
 induction l with
 | nil=>intro i hi;simp at hi
 | cons x l ih=>
  intro i hi j hj
  cases i with
  | zero=>
   simp only[ZK,Nat.zero_mul,Z,List.getElem_cons_zero];rw[List.getElem?_append_left (by rw[QZ];exact hj)]
  | succ i=>
   simp only[ZK,List.getElem_cons_succ];rw[List.getElem?_append_right (by rw[QZ,W];omega),QZ];have e:(i+1)*n+j-n=i*n+j:=by rw[W];omega
   rw[e];exact ih i (by simpa using hi) j hj
theorem Ts.open(QZ:∀x,(enc x).length=n)(hn:n≠0)(s:Ts enc n h v l):∃p cap,v=y p (d l) cap/\(l≠[]->∃b o,p=A ⟨b,o,M⟩/\b<h.size/\∀i (hi:i<(d l)),Xd h b (o+i*n) (enc l[i])):=by
 obtain⟨⟨p,cap,hv,hl,hc⟩⟩:=s;refine⟨p,cap,hv,fun Ys=>?_⟩;have KC:0<(d l):=D.2 Ys;have ZfX:ZK enc l≠[]:=by
  intro e;rw[e]at hl;have:0<(d l)*n:=Nat.mul_pos KC gX;simp at hl;omega
 obtain⟨b,o,hp,YR⟩:=hc ZfX;refine⟨b,o,hp,UJ (YR 0 (D.2 ZfX)),fun i hi j hj=>?_⟩;rw[QZ]at hj;have ZL:i*n+j<(ZK enc l).length:=by
  rw[hl];have:(i+1)*n<=(d l)*n:=Nat.mul_le_mul_right _ hi;rw[W]at this;omega
 have:=YR (i*n+j) ZL;rw[show o+i*n+j=o+(i*n+j) by omega,this];have e:=xd QZ l i hi j hj;rw[u ZL,u (by rw[QZ];exact hj)]at e;exact e
theorem Xd.hc{b o:Nat}{cs:List r}(s:Xd h b o cs){i:Nat}{x:r}(hx:nth cs i=A x):V.hc h ⟨b,o+i,M⟩=A x:=by
 rw[YE]at hx;obtain⟨hi,e⟩:=List.getElem?_eq_some_iff.1 hx;rw[s i hi,e]
theorem Xd.rd{b o:Nat}{cs:List r}(s:Xd h b o cs)(Ys:cs≠[]){m:Nat}(hm:(d cs)=m):V.rd h ⟨b,o,M⟩ m=A cs:=by
 subst hm;have KC:0<(d cs):=D.2 Ys;have h0:=s 0 KC;unfold V.hc at h0;unfold V.rd
 cases hb:h[b]? with
 | none=>rw[hb]at h0;cases h0
 | some ob=>
  cases ob with
  | cells c e fr=>
   have OP:∀i,(hi:i<(d cs))->c[o+i]? = A cs[i]:=by
    intro i hi;have:=s i hi;unfold V.hc at this;simp only[hb]at this
    simpa using this
   have ZfY:=OP ((d cs)-1) gX;have ZL:=(Array.getElem?_eq_some_iff.1 ZfY).1;simp only[true_and];rw[if_pos gX]
   congr 1
   apply List.ext_getElem?;intro i;rw[List.getElem?_take];by_cases hi:i<(d cs)
   .rw[if_pos hi,List.getElem?_drop,Array.getElem?_toList,OP i hi,u hi]
   .rw[if_neg hi,List.getElem?_eq_none gX]
  | _=>rw[hb]at h0;cases h0
theorem Xd.Yb{C:Nat}{b o:Nat}{cs:List r}(s:Xd h b o cs)(a:Zf C h h')(hb:b<C):Xd h' b o cs:=a.Xd hb s
theorem Ts.made(QZ:∀x,(enc x).length=n)(l:List α)(c:Nat):Ts enc n (h.push (G (ZK enc l).toArray E)) (y (A ⟨h.size,0,M⟩) (d l) c) l:=⟨Sl.made (Jn QZ l) c⟩
theorem JD.made(QZ:∀x,(enc x).length=n)(l:List α)(hB:B<=h.size):JD B E enc n (h.push (G (ZK enc l).toArray E)) (y (A ⟨h.size,0,M⟩) (d l) (d l)) l:=⟨Own.made (Jn QZ l) hB⟩
end
section
variable {α:Type} {P:Program} {T:World} {K:r->Hp->Prop} {F:Env} {h:Hp} {ty:J} {enc:α->List r}
theorem RD{sT xT E E' B n bytes:Nat}{v s:r}{l k:List α}{zs:List r}{cb:Array Bool}(Uh:Js P sT=A E)(KO:P.underlying xT=A (.slice E'))(hn:tn P E=A n)(hz:tz P E=A zs)(DP:(d zs)=n)(WR:tb P E=A bytes)(Xz:∀x,(enc x).all Yq=true)(Zy:JD B E enc n h v l)(hB:B<=h.size)(src:Ts enc n h s k)(YB:((d l)+(d k))*bytes<=140737488355328)(KP:1<=bytes)(H:∀v' h',JD B E enc n h' v' (l++k)->Zf B h h'->Ue (ZJ v) h h'->K v' h'):Sa P T .append #[sT,xT] ty cb [v,s] K h:=by
 have Xc:∀k:List α,(ZK enc k).all Yq=true:=by
  intro k
  induction k with
  | nil=>rfl
  | cons x k ih=>simp only[ZK,List.all_append,Xz x,ih,Bool.and_self]
 refine KN Uh KO hn hz DP WR Zy.Zy hB src.sl (Xc k) YB KP ?_;intro v' h' ho hb;refine H v' h' ⟨?_⟩ (hb.Yb hB Zy.Zy.ZQ) hb;rw[YD,O];exact ho
end
theorem N0{α:Type}(xs zs:List α)(i:Nat)(hi:i<(d xs))(hz:(d xs)=(d zs)):(xs.take i++zs.drop i).set i xs[i]=xs.take (i+1)++zs.drop (i+1):=by
 have hl:(xs.take i).length=i:=aac;have e1:zs.drop i=zs[i]'gX :: zs.drop (i+1):=List.drop_eq_getElem_cons gX;rw[Yp xs i hi,e1,List.set_append_right _ _ gX,hl,Nat.sub_self,List.set_cons_zero,List.append_assoc];rfl
theorem N9{α:Type}(xs zs:List α)(hz:(d xs)=(d zs)):xs.take (d xs)++zs.drop (d xs)=xs:=by
 rw[S,hz,U,Y]
theorem GM{α:Type}(xs zs:List α):xs.take 0++zs.drop 0=zs:=Dq
theorem Vf{α:Type}(xs zs:List α)(i:Nat)(hi:i<=(d xs))(hz:(d xs)=(d zs)):(xs.take i++zs.drop i).length=(d xs):=by
 simp only[O,List.length_take,List.length_drop];omega
theorem Qn{a b k:Nat}(hb:b<2 ^ k)(ha:a%2 ^ k=0):a ||| b=a+b:=by
 have:a=2 ^ k*(a/2 ^ k):=by have:=Nat.div_add_mod a (2 ^ k);omega
 rw[this];exact (Nat.two_pow_add_eq_or_of_lt hb _).symm
theorem Zg{h:Hp}{b o:Nat}{cs:List r}{t:J}(hg:h[b]? = A (G cs.toArray t)):hc h ⟨b,o,M⟩=nth cs o:=by
 rw[Qd hg,YE];simp
theorem Zs{h:Hp}{b:Nat}{cs:List r}{t:J}(hg:h[b]? = A (G cs.toArray t)){n:Nat}(hn:(d cs)=n):rd h ⟨b,0,M⟩ n=A cs:=by
 unfold rd;simp only[hg,true_and,Z,Q];rw[if_pos gX,List.drop_zero,<-hn,S]
theorem Yh{h:Hp}{b o:Nat}{cs:List r}{t:J}(hg:h[b]? = A (G cs.toArray t)){n:Nat}(hn:o+n<=(d cs)):rd h ⟨b,o,M⟩ n=A ((cs.drop o).take n):=by
 unfold rd;simp only[hg,true_and,Q];rw[if_pos hn]
theorem ZT{l:List Nat}(hb:∀x∈l,x<256)(i:Nat):l.getD i 0<256:=by
 rw[L]
 cases hx:l[i]? with
 | none=>simp
 | some x=>exact hb x (List.mem_of_getElem? hx)
theorem Te{x:Nat}(hx:x<256)(k:Nat)(hk:k<=24):YS .i64 (x:Int) (k:Int)=((x*2 ^ k:Nat):Int):=by
 rw[FW .i64 x k (by show k<=64;omega),Tc .i64 _ ?_];show x*2 ^ k<2 ^ 63;have:2 ^ k<=2 ^ 24:=Nat.pow_le_pow_right gX hk;have h2:x*2 ^ k<=255*2 ^ 24:=Nat.mul_le_mul gX this;omega
theorem Bs.UM{h:Hp}{v:r}{l:List Nat}(s:Bs h v l):∃p cap,v=y p (d l) cap/\(l≠[]->∃b o,p=A ⟨b,o,M⟩/\b<h.size/\∀i,i<(d l)->hc h ⟨b,o+i,M⟩=A (.int .u8 (l.getD i 0:Nat))):=by
 obtain⟨p,cap,hv,UX⟩:=s.open;refine⟨p,cap,hv,fun Ys=>?_⟩;obtain⟨b,o,hp,hb,YR⟩:=UX Ys;refine⟨b,o,hp,hb,fun i hi=>?_⟩;rw[YR i hi,L,u hi];rfl
theorem KV:∀{ks:List (Option IntKind)} {vs:List r},YM ks vs=true->vs.all Yq=true:=by
 intro ks
 induction ks with
 | nil=>intro vs h;cases vs with
  | nil=>rfl
  | cons v vs=>simp[YM]at h
 | cons k ks ih=>intro vs h;cases vs with
  | nil=>rfl
  | cons v vs=>
   simp only[YM,Bool.and_eq_true]at h;rw[List.all_cons,ih h.2,Bool.and_true]
   cases v<;>first|rfl|(have:=h.1;cases k<;>simp[U1]at this)
theorem ZZ{zs vs:List r}(h:(d vs)=(d zs)):YJ zs 0 vs=vs:=by
 rw[Qe _ _ gX,h,U,Y]
theorem Zf.Yx{B:Nat}{h h':Hp}(a:Zf B h h')(hB:B<=h'.size)(o:Obj):Zf B h (h'.push o):=a.trans (Zf.push hB o)
end Go.V
