/- Part Lchks. -/
import Derived.Test.YthlfaofofaphfaaGreatDoorVst
import Derived.Test.YthlfaofofaphfaaGreatDoorW11
import Derived.Test.YthlfaofofaphfaaGreatDoorLine
import Derived.Test.YthlfaofofaphfaaGreatDoorBytes
open Go.Value renaming int→t,pointer→L,slice→M
open Go.IntKind renaming i64→A,u32→D
open Go.Obj renaming cells→J
open Go.Proofs.Tryz renaming prog→ab
open List renaming length→H,getD_eq_getElem?_getD→N,replicate→R,getElem?_eq_getElem→W,mem_append→al,length_append→aD,length_drop→aN,range→a8,getElem?_map→a9,mem_map→bc,not_mem_nil→bd,getElem_mem→be,take_length→bf,mem_cons→bo
open Nat renaming mod_eq_of_lt→Z,le_refl→aa,testBit_and→ae,mod_lt→am,lt_of_le_of_lt→aw,mul_mod_mul_right→a0,div_lt_iff_lt_mul→a1,pow_add→a2,eq_of_testBit_eq→a3,pow_le_pow_right→a4,xor_lt_two_pow→a7,add_zero→ba,pow_pos→bg,or_comm→bh,div_le_self→bl,testBit_xor→bn
open Option renaming some→O,none→Q
open Array renaming getElem?_setIfInBounds→U,getElem?_push→a5,ext_getElem?→a6
open Go renaming Value→Y,World→aO
namespace Go.Proofs.YthlfaofofaphfaaGreatDoor
open Go Go.V
set_option linter.unusedSimpArgs false
set_option linter.unusedVariables false
set_option maxRecDepth 100000
variable{s:List Nat}
def rotl(x n:Nat):Nat:=x*2 ^ n%4294967296+x/2 ^ (32-n)
theorem bi{n:Nat}(hn:n<=32):2 ^ (32-n)*2 ^ n=4294967296:=by
 rw[<-a2,show 32-n+n=32 by omega]
theorem mR{x n:Nat}(hx:x<4294967296)(hn:n<=32):rotl x n<4294967296:=by
 unfold rotl;have h1:x*2 ^ n%4294967296=(x%2 ^ (32-n))*2 ^ n:=by
  rw[<-bi hn,a0]
 have h2:x/2 ^ (32-n)<2 ^ n:=by
  rw[a1 (bg pA),<-a2,show n+(32-n)=32 by omega];exact hx
 have h3:x%2 ^ (32-n)<2 ^ (32-n):=am _ (bg pA);rw[h1];have h4:(x%2 ^ (32-n)+1)*2 ^ n<=2 ^ (32-n)*2 ^ n:=Nat.mul_le_mul_right _ h3;rw[<-a2,show 32-n+n=32 by omega,Nat.add_mul]at h4;omega
theorem mS{x n:Nat}(hx:x<4294967296)(hn:n<=32):x*2 ^ n%4294967296 ||| x/2 ^ (32-n)=rotl x n:=by
 unfold rotl;refine Uw (k:=n) ?_ ?_
 .rw[a1 (bg pA),<-a2,show n+(32-n)=32 by omega];exact hx
 .rw[<-bi hn,a0,Nat.mul_mod_left]
theorem Gf(x n:Nat)(hn:n<=32):Xr D (x:Int) (n:Int)=((x*2 ^ n%4294967296:Nat):Int):=by
 rw[Be D x n (by show n<=32;omega),Li];rfl
theorem Vb(x n:Nat)(hn:n<=32):XF D (x:Int) (n:Int)=((x/2 ^ n:Nat):Int):=by
 rw[Nb D x n (by show n<=32;omega),Nat.shiftRight_eq_div_pow]
theorem iU(T:aO)(h:Hp)(x n:Nat)(hx:x<4294967296)(hn:n<=32):
  Zd ab T 99 #[t D x,t A n] h fun v' h'=>v'=t D (rotl x n:Nat)/\h'=h:=by
 refine Zd.XS [_,_] Tryz.func99 ?_;have e1:=Gf x n hn;have e2:=Vb x (32-n) pA;have e3:(32:Int)-n=((32-n:Nat):Int):=pA;have e4:=Og (x*2 ^ n%4294967296) (x/2 ^ (32-n)) pA (aw (bl _ _) hx);rw[mS hx hn]at e4;have e5:¬(n:Int)<0:=pA;have e6:¬((32-n:Nat):Int)<0:=pA;simp +contextual -implicitDefEqProofs only[go_sem];refine VS.q mixed vM ?_;simp +contextual -implicitDefEqProofs only[go_sem,e3,e1,e2,e4,e5,e6]
def wv(x:Nat):Y:=t D (x:Nat)
def nv(x:Nat):Y:=t A (x:Nat)
def Nf(s:List Nat):Prop:=∀x∈s,x<4294967296
theorem Nf.getD(w:Nf s)(i:Nat):s.getD i 0<4294967296:=by
 rw[N]
 cases hx:s[i]? with
 | none=>simp
 | some x=>exact w x (List.mem_of_getElem? hx)
theorem Nf.set(w:Nf s)(i:Nat){y:Nat}(hy:y<4294967296):Nf (s.set i y):=by
 intro x hx;rcases List.mem_or_eq_of_mem_set hx with h|h
 .exact w x h
 .rw[h];exact hy
theorem Z8{f:Nat->Y}{g:Hp}{b:Nat}{E:TypeId}{sp:List Y}(hx:g[b]? = O (J (s.map f++sp).toArray E)){i:Nat}(hi:i<(H s)):hc g ⟨b,i,Q⟩=O (f (s.getD i 0)):=by
 rw[Zn hx,YU,List.getElem?_append_left (by simpa using hi),a9,N,W hi];rfl
theorem Yx{f:Nat->Y}{g:Hp}{b:Nat}{E:TypeId}{sp:List Y}(hx:g[b]? = O (J (s.map f++sp).toArray E)){i:Nat}(hi:i<(H s))(y:Nat)(ho:YE (f y)=true):
  QX g ⟨b,i,Q⟩ (f y)=O (g.setIfInBounds b (J ((s.set i y).map f++sp).toArray E)):=by
 rw[Xj hx,if_pos ⟨VL,ho⟩,List.set_append_left _ _ (by simpa using hi),List.map_set]
theorem Yd{g:Hp}{b:Nat}{o o':Obj}(hx:g[b]? = O o'):(g.setIfInBounds b o)[b]? = O o:=by
 rw[U,if_pos rfl,if_pos (Za hx)]
theorem Vm{g:Hp}{b:Nat}{o:Obj}(hx:g[b]? = O o):g.setIfInBounds b o=g:=by
 apply a6;intro i;rw[U];by_cases hb:b=i
 .subst hb;rw[if_pos rfl,if_pos (Za hx),hx]
 .rw[if_neg hb]
theorem set_set(g:Hp)(b:Nat)(o o':Obj):(g.setIfInBounds b o).setIfInBounds b o'=g.setIfInBounds b o':=by
 apply a6;intro i;rw[U,U,U,Array.size_setIfInBounds];by_cases hb:b=i
 .rw[if_pos hb,if_pos hb]
 .rw[if_neg hb,if_neg hb,if_neg hb]
def NZ(s:List Nat)(a b d n:Nat):List Nat:=
 (s.set a ((s.getD a 0+s.getD b 0)%4294967296)).set d (rotl ((s.set a ((s.getD a 0+s.getD b 0)%4294967296)).getD d 0 ^^^ (s.set a ((s.getD a 0+s.getD b 0)%4294967296)).getD a 0) n)
def Mz(s:List Nat)(a b c d:Nat):List Nat:=NZ (NZ (NZ (NZ s a b d 16) c d b 12) a b d 8) c d b 7
theorem TB{a b:Nat}(ha:a<4294967296)(hb:b<4294967296):a ^^^ b<4294967296:=a7 (n:=32) ha hb
theorem Rm(w:Nf s)(a b d n:Nat)(hn:n<=32):Nf (NZ s a b d n):=by
 unfold NZ;have w1:=w.set a (y:=(s.getD a 0+s.getD b 0)%4294967296) pA;exact w1.set d (mR (TB (w1.getD d) (w1.getD a)) hn)
theorem Lz(s:List Nat)(a b d n:Nat):(NZ s a b d n).length=(H s):=by simp[NZ]
theorem Fe(w:Nf s)(a b c d:Nat):Nf (Mz s a b c d):=
 Rm (Rm (Rm (Rm w _ _ _ _ pA) _ _ _ _ pA) _ _ _ _ pA) _ _ _ _ pA
theorem N0(s:List Nat)(a b c d:Nat):(Mz s a b c d).length=(H s):=by simp[Mz,Lz]
def pv(j x y:Nat):Nat:=if j%2=0 then x else y
def pn(j:Nat):Nat:=[16,12,8,7].getD j 0
def yF(s:List Nat)(a b c d:Nat):Nat->List Nat
 | 0=>s
 | j+1=>NZ (yF s a b c d j) (pv j a c) (pv j b d) (pv j d b) (pn j)
theorem yG(s:List Nat)(a b c d:Nat):yF s a b c d 4=Mz s a b c d:=rfl
theorem Zg4(j:Nat)(hj:j<4):nth [Value.int A 16,t A 12,t A 8,t A 7] j=O (t A (pn j:Nat)):=by
 rcases j with _|_|_|_|j<;>first|rfl|omega
theorem Zfz(j:Nat)(hj:j<4):pn j<=32:=by
 rcases j with _|_|_|_|j<;>first|decide|omega
theorem Gg(j x y:Nat):pv (j+1) x y=pv j y x:=by
 unfold pv;by_cases h:j%2=0
 .rw[if_pos h,if_neg pA]
 .rw[if_neg h,if_pos pA]
theorem Zg5(w:Nf s)(a b c d:Nat):∀j,j<=4->Nf (yF s a b c d j)/\(yF s a b c d j).length=(H s):=by
 intro j
 induction j with
 | zero=>intro _;exact⟨w,rfl⟩
 | succ j ih=>
  intro hj;obtain⟨h1,h2⟩:=ih pA;exact⟨Rm h1 _ _ _ _ (Zfz j pA),by rw[yF,Lz,h2]⟩
theorem Ff(T:aO)(h:Hp)(bk:Nat)(s:List Nat)(a b c d:Nat)(hs:(H s)=16)(w:Nf s)(ha:a<16)(hb:b<16)(hc:c<16)(hd:d<16)(hx:h[bk]? = O (J (s.map wv++[]).toArray 169)):
  Zd ab T 79 #[L (O ⟨bk,0,Q⟩),t A a,t A b,t A c,t A d] h fun v' h'=>h'=h.setIfInBounds bk (J ((Mz s a b c d).map wv++[]).toArray 169):=by
 refine Zd.XS [_,_,_,_,_] Tryz.func79 ?_;simp +contextual -implicitDefEqProofs only[go_sem];refine VS.Yk (fun F g=>∃j:Nat,j<=4/\F 0=L (O ⟨bk,0,Q⟩)/\F 1=t A (pv j a c:Nat)/\F 2=t A (pv j b d:Nat)/\F 3=t A (pv j c a:Nat)/\F 4=t A (pv j d b:Nat)/\F 12=.agg [t A 16,t A 12,t A 8,t A 7].toArray/\F 13=t A j/\g=h.setIfInBounds bk (J ((yF s a b c d j).map wv++[]).toArray 169))
  (fun F _=>4-(vi (F 13)).toNat) rfl ⟨0,pA,rfl,rfl,rfl,rfl,rfl,rfl,rfl,?_⟩ ?_
 .exact (Vm hx).symm
 rintro F g ⟨j,hj,f0,f1,f2,f3,f4,f12,f13,rfl⟩;by_cases ZT:j<4
 .have Z7:(j:Int)<4:=pA;have n1:=Zg4 j ZT;have n2:=Zfz j ZT;obtain⟨w1,l1⟩:=Zg5 w a b c d j hj;rw[hs]at l1;have q1:pv j a c<16:=by unfold pv;split<;>assumption
  have q2:pv j b d<16:=by unfold pv;split<;>assumption
  have q4:pv j d b<16:=by unfold pv;split<;>assumption
  have Wf:=Yd (o:=J ((yF s a b c d j).map wv++[]).toArray 169) hx;obtain⟨G,hG⟩:=ZL (h.setIfInBounds bk (J ((yF s a b c d j).map wv++[]).toArray 169));rw[<-hG]at Wf ⊢;generalize ag:yF s a b c d j=st at *;simp +contextual -implicitDefEqProofs only[go_sem,f12,f13,Z7,n1];refine VS.w (bk+1) [13] (.q 0 (.q 1 (.q 2 (.q 3 (.q 4 (.q 5 (.q 6 (.q 7 (.q 8 (.q 9 (.q 10 (.q 11 (.q 12 (.w 13 .nil)))))))))))))) mixed vM ?_;have g1:=Z8 Wf (i:=pv j a c) pA;have g2:=Z8 Wf (i:=pv j b d) pA;have c1:QX G ⟨bk,pv j a c,Q⟩ (t D ((((st.getD (pv j a c) 0+st.getD (pv j b d) 0)%4294967296:Nat)):Int))=_:=Yx (f:=wv) Wf (i:=pv j a c) pA _ rfl;have e1:((st.getD (pv j a c) 0:Int)+(st.getD (pv j b d) 0:Int))%4294967296=(((st.getD (pv j a c) 0+st.getD (pv j b d) 0)%4294967296:Nat):Int):=pA;unfold wv at g1 g2;obtain⟨y,hy⟩:=ZL ((st.getD (pv j a c) 0+st.getD (pv j b d) 0)%4294967296);have Zto:y<4294967296:=pA;rw[<-hy]at c1 e1;simp +contextual -implicitDefEqProofs only[go_sem,f0,f1,f2,g1,g2,e1,c1];have Mw:=Yd (o:=J ((st.set (pv j a c) y).map wv++[]).toArray 169) Wf;have w2:=w1.set (pv j a c) Zto;have l2:(st.set (pv j a c) y).length=16:=by rw[List.length_set,l1]
  have Ztp:yF s a b c d (j+1)=(st.set (pv j a c) y).set (pv j d b) (rotl ((st.set (pv j a c) y).getD (pv j d b) 0 ^^^ (st.set (pv j a c) y).getD (pv j a c) 0) (pn j)):=by
   rw[yF,ag,NZ,<-hy]
  rw[hG];generalize st.set (pv j a c) y=st2 at *;refine VS.w (bk+1) [17] (.q 0 (.q 1 (.q 2 (.q 3 (.q 4 (.q 5 (.q 6 (.q 7 (.q 8 (.q 9 (.q 10 (.q 11 (.q 12 (.q 13 (.q 15 (.s 14 (.q 16 (.w 17 .nil)))))))))))))))))) mixed vM ?_;clear Mw;rw[set_set];have Mw:(h.setIfInBounds bk (J (st2.map wv++[]).toArray 169))[bk]? = O (J (st2.map wv++[]).toArray 169):=Yd hx;obtain⟨G2,mT⟩:=ZL (h.setIfInBounds bk (J (st2.map wv++[]).toArray 169));rw[<-mT]at Mw ⊢;have g3:=Z8 Mw (i:=pv j d b) pA;have g4:=Z8 Mw (i:=pv j a c) pA;unfold wv at g3 g4;have e2:=Uo (st2.getD (pv j d b) 0) (st2.getD (pv j a c) 0) (w2.getD _) (w2.getD _);have hz:=TB (w2.getD (pv j d b)) (w2.getD (pv j a c));generalize st2.getD (pv j d b) 0 ^^^ st2.getD (pv j a c) 0=z at *;simp +contextual -implicitDefEqProofs only[go_sem,f0,f1,f4,g3,g4,e2];refine (iU T _ z (pn j) hz n2).pure ?_;have c2:QX G2 ⟨bk,pv j d b,Q⟩ (t D ((rotl z (pn j):Nat):Int))=_:=Yx (f:=wv) Mw (i:=pv j d b) pA _ rfl;simp +contextual -implicitDefEqProofs only[go_sem,c2,f1,f2,f3,f4,f12,f13];refine⟨⟨j+1,pA,f0,?_,?_,?_,?_,f12,rfl,?_⟩,?_⟩
  .rw[Gg];rfl
  .rw[Gg];rfl
  .rw[Gg];rfl
  .rw[Gg];rfl
  .rw[mT,set_set,Ztp]
  .simp only[vi,Zr,↓reduceIte,f13];omega
 .have Xv:¬(j:Int)<4:=pA;obtain rfl:j=4:=pA;simp +contextual -implicitDefEqProofs only[go_sem,f12,f13,Xv];rw[yG]
theorem Zdc{h:Hp}{v:Y}{l:List Nat}(s:Ts (fun x=>[nv x]) 1 h v l):∃p cap,v=M p (H l) cap/\(l≠[]->∃b o,p=O ⟨b,o,Q⟩/\b<h.size/\∀i,i<(H l)->hc h ⟨b,o+i,Q⟩=O (t A (l.getD i 0:Nat))):=by
 obtain⟨p,cap,hv,WB⟩:=Ts.open (enc:=fun x=>[nv x]) (n:=1) (fun _=>rfl) Nat.one_ne_zero s;refine⟨p,cap,hv,fun Y7=>?_⟩;obtain⟨b,o,hp,hb,XL⟩:=WB Y7;refine⟨b,o,hp,hb,fun i hi=>?_⟩;have:=(XL i hi).hc (i:=0) rfl;rw[Nat.mul_one,ba]at this;rw[this,N,W hi];rfl
def rr(x n:Nat):Nat:=rotl x (32-n)
theorem WC{x n:Nat}(hx:x<4294967296):rr x n<4294967296:=mR hx pA
def sg0(x:Nat):Nat:=rr x 7 ^^^ rr x 18 ^^^ x/8
def sg1(x:Nat):Nat:=rr x 17 ^^^ rr x 19 ^^^ x/1024
def bg0(x:Nat):Nat:=rr x 2 ^^^ rr x 13 ^^^ rr x 22
def qI(x:Nat):Nat:=rr x 6 ^^^ rr x 11 ^^^ rr x 25
theorem Ztq{a b:Nat}(ha:a<256)(hb:b<256):a ^^^ b<256:=a7 (n:=8) ha hb
theorem Wi{a b:Nat}(ha:a<4294967296):a &&& b<4294967296:=aw Nat.and_le_left ha
theorem ZfA{e:Nat}(he:e<4294967296):4294967295 ^^^ e=4294967295-e:=by
 have h1:(BitVec.allOnes 32 ^^^ BitVec.ofNat 32 e).toNat=(~~~ (BitVec.ofNat 32 e)).toNat:=by rw[BitVec.allOnes_xor]
 rw[BitVec.toNat_xor,BitVec.toNat_not,BitVec.toNat_allOnes,BitVec.toNat_ofNat,Z pA]at h1;exact h1
theorem qJ{a b:Nat}(ha:a<4294967296)(hb:b<4294967296)(h:a &&& b=0):a ^^^ b=a+b:=by
 have hx:BitVec.ofNat 33 a &&& BitVec.ofNat 33 b=0#33:=by
  apply BitVec.eq_of_toNat_eq;rw[BitVec.toNat_and,BitVec.toNat_ofNat,BitVec.toNat_ofNat,Z pA,Z pA,h];rfl
 have h1:=BitVec.add_eq_or_of_and_eq_zero _ _ hx;have h2:BitVec.ofNat 33 a ||| BitVec.ofNat 33 b=BitVec.ofNat 33 a ^^^ BitVec.ofNat 33 b:=by
  apply BitVec.eq_of_getLsbD_eq;intro i hi;have:=congrArg (·.getLsbD i) hx
  simp only[BitVec.getLsbD_and,BitVec.getLsbD_zero]at this;rw[BitVec.getLsbD_or,BitVec.getLsbD_xor]
  revert this
  cases (BitVec.ofNat 33 a).getLsbD i<;>cases (BitVec.ofNat 33 b).getLsbD i<;>simp
 have h3:=congrArg BitVec.toNat (h1.trans h2);rw[BitVec.toNat_add,BitVec.toNat_xor,BitVec.toNat_ofNat,BitVec.toNat_ofNat,Z (by omega:a<2 ^ 33),Z (by omega:b<2 ^ 33),Z (by omega:a+b<2 ^ 33)]at h3;exact h3.symm
def chw(e f g:Nat):Nat:=(e &&& f)+((4294967295-e) &&& g)
def qL(a b c:Nat):Nat:=(a &&& b) ||| (a &&& c) ||| (b &&& c)
theorem yH{e f g:Nat}(he:e<4294967296):(e &&& f) &&& ((4294967295-e) &&& g)=0:=by
 rw[<-ZfA he];apply a3;intro i;rw[ae,ae,ae,bn,Nat.zero_testBit];by_cases hi:i<32
 .have:Nat.testBit 4294967295 i=true:=by
   rw[show (4294967295:Nat)=2 ^ 32-1 from rfl,Nat.testBit_two_pow_sub_one];simpa using hi
  rw[this]
  cases e.testBit i<;>simp
 .have:e.testBit i=false:=Nat.testBit_lt_two_pow (Nat.lt_of_lt_of_le he (a4 (n:=2) pA (by omega:32<=i)));rw[this];simp
theorem Zdd{e f g:Nat}(he:e<4294967296)(hg:g<4294967296):(e &&& f) ^^^ ((4294967295-e) &&& g)=chw e f g:=
 qJ (Wi he) (Wi pA) (yH he)
theorem yI(a b c:Nat):(a &&& b) ^^^ (a &&& c) ^^^ (b &&& c)=qL a b c:=by
 unfold qL;apply a3;intro i;simp only[bn,Nat.testBit_or,ae]
 cases a.testBit i<;>cases b.testBit i<;>cases c.testBit i<;>rfl
theorem bj{a k:Nat}(ha:a<4294967296):a/k<4294967296:=aw (bl _ _) ha
theorem bm(e:Nat):4294967295-e<4294967296:=pA
theorem Zlw{a:Nat}(ha:a<4294967296):a<9223372036854775808:=Nat.lt_trans ha aaa
theorem r64{a b:Nat}(ha:a<4294967296)(hb:b<4294967296):YO .or A (a:Int) (b:Int)=((a ||| b:Nat):Int):=Mp a b (Zlw ha) (Zlw hb)
theorem Zde{e:Nat}(he:e<4294967296):YO .xor D (4294967295:Int) (e:Int)=((4294967295-e:Nat):Int):=by
 have:=Uo 4294967295 e aaa he;rw[ZfA he]at this;exact this
theorem Zg7{e f g:Nat}(he:e<4294967296)(hg:g<4294967296):YO .xor D ((e &&& f:Nat):Int) (((4294967295-e) &&& g:Nat):Int)=((chw e f g:Nat):Int):=by
 rw[Uo _ _ (Wi he) (Wi (bm e)),Zdd he hg]
theorem Zdf{a b c:Nat}(ha:a<4294967296)(hb:b<4294967296):YO .xor D (((a &&& b) ^^^ (a &&& c):Nat):Int) ((b &&& c:Nat):Int)=((qL a b c:Nat):Int):=by
 rw[Uo _ _ (TB (Wi ha) (Wi ha)) (Wi hb),yI]
def kN:List Nat:=[
 1116352408,1899447441,3049323471,3921009573,961987163,1508970993,2453635748,2870763221,
 3624381080,310598401,607225278,1426881987,1925078388,2162078206,2614888103,3248222580,
 3835390401,4022224774,264347078,604807628,770255983,1249150122,1555081692,1996064986,
 2554220882,2821834349,2952996808,3210313671,3336571891,3584528711,113926993,338241895,
 666307205,773529912,1294757372,1396182291,1695183700,1986661051,2177026350,2456956037,
 2730485921,2820302411,3259730800,3345764771,3516065817,3600352804,4094571909,275423344,
 430227734,506948616,659060556,883997877,958139571,1322822218,1537002063,1747873779,
 1955562222,2024104815,2227730452,2361852424,2428436474,2756734187,3204031479,3329325298]
theorem Zg8:Nf kN:=by unfold Nf;decide +kernel
def BA(b s:List Nat):Nat:=if (H s)<16 then XH b (4*(H s)) else (s.getD ((H s)-16) 0+sg0 (s.getD ((H s)-15) 0)+s.getD ((H s)-7) 0+sg1 (s.getD ((H s)-2) 0))%4294967296
def UH(b:List Nat):Nat->List Nat
 | 0=>[]
 | n+1=>UH b n++[BA b (UH b n)]
theorem Qu(b:List Nat):∀n,(UH b n).length=n
 | 0=>rfl
 | n+1=>by rw[UH,aD,Qu b n];rfl
def NH(l:List Nat):Prop:=∀x∈l,x<256
theorem Zg9{b:List Nat}(hb:NH b)(i:Nat):XH b i<4294967296:=by
 have h0:=Z4 hb i;have h1:=Z4 hb (i+1);have h2:=Z4 hb (i+2);have h3:=Z4 hb (i+3);unfold XH;omega
theorem Zdg{b:List Nat}(hb:NH b)(s:List Nat):BA b s<4294967296:=by
 unfold BA;split
 .exact Zg9 hb _
 .omega
theorem Fg{b:List Nat}(hb:NH b):∀n,Nf (UH b n)
 | 0=>fun x hx=>by cases hx
 | n+1=>fun x hx=>by
  rw[UH,al,List.mem_singleton]at hx;rcases hx with hx|rfl
  .exact Fg hb n x hx
  .exact Zdg hb _
def upw(e f g h k w:Nat):Nat:=(h+qI e+chw e f g+k+w)%4294967296
def yJ(v:List Nat)(k w:Nat):List Nat:=
 match v with
 | [a,b,c,d,e,f,g,h]=>[(upw e f g h k w+bg0 a+qL a b c)%4294967296,a,b,c,(d+upw e f g h k w)%4294967296,e,f,g]
 | v=>v
theorem eight{v:List Nat}(h:(H v)=8):∃a b c d e f g k,v=[a,b,c,d,e,f,g,k]:=by
 match v,h with
 | [a,b,c,d,e,f,g,k],_=>exact⟨a,b,c,d,e,f,g,k,rfl⟩
theorem bq{v:List Nat}(h:(H v)=8)(k w:Nat):(yJ v k w).length=8:=by
 obtain⟨a,b,c,d,e,f,g,j,rfl⟩:=eight h;rfl
theorem yK{v:List Nat}(h:(H v)=8)(hv:Nf v)(k w:Nat):Nf (yJ v k w):=by
 obtain⟨a,b,c,d,e,f,g,j,rfl⟩:=eight h;intro x hx;simp only[yJ,bo,bd,or_false]at hx;rcases hx with rfl|rfl|rfl|rfl|rfl|rfl|rfl|rfl
 all_goals first|exact am _ pA|exact hv _ IQ
def UI(b v:List Nat):Nat->List Nat
 | 0=>v
 | i+1=>yJ (UI b v i) (kN.getD i 0) ((UH b 64).getD i 0)
theorem Oo{b v:List Nat}(h:(H v)=8)(hv:Nf v):∀i,(UI b v i).length=8/\Nf (UI b v i)
 | 0=>⟨h,hv⟩
 | i+1=>⟨bq (Oo h hv i).1 _ _,yK (Oo h hv i).1 (Oo h hv i).2 _ _⟩
def PT(d v:List Nat):List Nat:=List.zipWith (fun x y=>(x+y)%4294967296) d v
theorem Oq{d v:List Nat}(h:(H d)=8)(k:(H v)=8):(PT d v).length=8:=by simp[PT,h,k]
theorem yL(d v:List Nat):Nf (PT d v):=by
 intro x hx;unfold PT at hx;rw[List.zipWith_eq_zipWith_take_min]at hx;obtain⟨i,hi,rfl⟩:=List.mem_iff_getElem.1 hx;rw[List.getElem_zipWith];omega
theorem qM{d v:List Nat}(h:(H d)=8)(k:(H v)=8){i:Nat}(hi:i<8):(PT d v).getD i 0=(d.getD i 0+v.getD i 0)%4294967296:=by
 have e1:i<(PT d v).length:=by rw[Oq h k];exact hi
 rw[N,W e1,N,N,W (show i<(H d) by omega),W (show i<(H v) by omega)];simp[PT]
def bt(d b:List Nat):List Nat:=PT d (UI b d 64)
theorem yM{d b:List Nat}(h:(H d)=8)(hv:Nf d):(bt d b).length=8/\Nf (bt d b):=⟨Oq h (Oo h hv 64).1,yL _ _⟩
def yN:List Nat:=[1779033703,3144134277,1013904242,2773480762,1359893119,2600822924,528734635,1541459225]
theorem yO:Nf yN:=by unfold Nf;decide
def bu(p:List Nat):Nat->List Nat
 | 0=>yN
 | j+1=>bt (bu p j) ((p.drop (64*j)).take 64)
theorem LA(p:List Nat):∀j,(bu p j).length=8/\Nf (bu p j)
 | 0=>⟨rfl,yO⟩
 | j+1=>yM (LA p j).1 (LA p j).2
def Db(n:Nat):Nat:=(119-n%64)%64
def Ot(l:List Nat)(j:Nat):List Nat:=l++128 :: R j 0
def So(l:List Nat):List Nat:=Ot l (Db (H l))++(0 :: 0 :: 0 :: 0 :: Xq (8*(H l)))
def qN(n:Nat):Nat:=(n+72)/64
theorem LB(l:List Nat)(j:Nat):(Ot l j).length=(H l)+j+1:=by simp[Ot];omega
theorem BC(l:List Nat):(So l).length=64*qN (H l):=by
 rw[So,aD,LB];simp only[Xq,List.length_cons,List.length_nil,Db,qN];omega
theorem bC{n j:Nat}(hj:j<=Db n):(n+j+1)%64=56↔j=Db n:=by unfold Db at *;omega
theorem iW(l:List Nat)(j:Nat):Ot l (j+1)=Ot l j++[0]:=by
 unfold Ot;rw[List.append_assoc,List.cons_append,List.replicate_succ']
def T6(l:List Nat):List Nat:=ZC (bu (So l) (qN (H l)))
theorem Qv(l:List Nat):(T6 l).length=32:=by rw[T6,ZN,(LA _ _).1]
theorem Dc(xs:List Nat):NH (ZC xs):=by
 intro x hx;unfold ZC at hx;obtain⟨y,_,hy⟩:=List.mem_flatMap.1 hx;exact US y x hy
theorem qO(l:List Nat):NH (T6 l):=Dc _
def yP(l:List Nat)(i:Nat):Nat:=l.getD i 0+256*l.getD (i+1) 0+65536*l.getD (i+2) 0+16777216*l.getD (i+3) 0
theorem iX{l:List Nat}(hb:∀x∈l,x<256)(i:Nat):yP l i<4294967296:=by
 have b0:=Z4 hb i;have b1:=Z4 hb (i+1);have b2:=Z4 hb (i+2);have b3:=Z4 hb (i+3);unfold yP;omega
theorem bD(l:List Nat)(k:Nat):yP (l.drop k) 0=yP l k:=by
 unfold yP;simp only[N,List.getElem?_drop,ba,Nat.zero_add]
theorem MA{x k:Nat}(hx:x<256)(hk:k<=24):Xr D (x:Int) (k:Int)=((x*2 ^ k:Nat):Int):=by
 rw[Gf x k pA,Z];have:2 ^ k<=2 ^ 24:=a4 pA hk;have h2:x*2 ^ k<=255*2 ^ 24:=Nat.mul_le_mul pA this;omega
theorem Zdh{a b c d:Nat}(ha:a<256)(hb:b<256)(hc:c<256)(hd:d<256):
  YO .or D (YO .or D (YO .or D (a:Int) (Xr D b 8)) (Xr D c 16)) (Xr D d 24)=((a+256*b+65536*c+16777216*d:Nat):Int):=by
 have e1:Xr D (b:Int) 8=((b*256:Nat):Int):=MA (k:=8) hb pA;have e2:Xr D (c:Int) 16=((c*65536:Nat):Int):=MA (k:=16) hc pA;have e3:Xr D (d:Int) 24=((d*16777216:Nat):Int):=MA (k:=24) hd pA;have f1:a ||| b*256=a+256*b:=by rw[bh,Uw (k:=8) pA pA];omega
 have f2:(a+256*b) ||| c*65536=a+256*b+65536*c:=by rw[bh,Uw (k:=16) pA pA];omega
 have f3:(a+256*b+65536*c) ||| d*16777216=a+256*b+65536*c+16777216*d:=by rw[bh,Uw (k:=24) pA pA];omega
 rw[e1,e2,e3,Og _ _ pA pA,f1,Og _ _ pA pA,f2,Og _ _ pA pA,f3]
theorem mU(T:aO)(h:Hp)(v:Y)(l:List Nat)(s:Bs h v l)(hi:4<=(H l)):
  Zd ab T 78 #[v] h fun v' h'=>v'=t D (yP l 0:Nat)/\h'=h:=by
 obtain⟨p,c,rfl,WB⟩:=s.VM;obtain⟨b,o,rfl,hb,XL⟩:=WB (by intro e;subst e;simp at hi);refine Zd.XS [_] Tryz.func78 ?_;have e0:=XL 0 pA;have e1:=XL 1 pA;have e2:=XL 2 pA;have e3:=XL 3 pA;have b0:=Z4 s.byte 0;have b1:=Z4 s.byte 1;have b2:=Z4 s.byte 2;have b3:=Z4 s.byte 3;rw[ba]at e0;have eo:=Zdh b0 b1 b2 b3;rw[show l.getD 0 0+256*l.getD 1 0+65536*l.getD 2 0+16777216*l.getD 3 0=yP l 0 from rfl]at eo;simp +contextual -implicitDefEqProofs only[go_sem];refine VS.q mixed vM ?_;have m0:((l.getD 0 0:Nat):Int)%4294967296=(l.getD 0 0:Nat):=pA;have m1:((l.getD 1 0:Nat):Int)%4294967296=(l.getD 1 0:Nat):=pA;have m2:((l.getD 2 0:Nat):Int)%4294967296=(l.getD 2 0:Nat):=pA;have m3:((l.getD 3 0:Nat):Int)%4294967296=(l.getD 3 0:Nat):=pA;simp +contextual -implicitDefEqProofs only[go_sem,e0,e1,e2,e3,m0,m1,m2,m3,eo]
def iY(a:Option Addr)(n cap l:Nat):Option Addr:=if cap=l then a else a.map (·.add (l*n))
theorem WM{K:Y->Hp->Prop}{h:Hp}{a:Option Addr}{n cap b l:Nat}:NU a n cap b (O l) K h=K (M (iY a n cap l) (b-l) (cap-l)) h:=rfl
theorem Ng{h:Hp}{p:Option Addr}{c m:Nat}{l:List Nat}(s:Bs h (M p m c) l)(hm:(H l)=m){k:Nat}(hk:k<=m)(Wx:m<=c)(c':Nat):Bs h (M (iY p 1 c k) (m-k) c') (l.drop k):=by
 subst hm;unfold iY;refine⟨?_,fun x hx=>s.byte x (List.mem_of_mem_drop hx)⟩;obtain⟨p',cap,hv,hl,hc⟩:=s.sl;simp only[Value.slice.injEq]at hv;obtain⟨rfl,_,rfl⟩:=hv;refine⟨_,c',by rw[aN],IQ,fun Y7=>?_⟩;have ZT:k<(H l):=by
  rw[<-List.length_pos_iff]at Y7;simp at Y7;omega
 obtain⟨b,o,rfl,XL⟩:=hc (by intro e;simp at e;subst e;simp at ZT);refine⟨b,o+k,?_,fun i hi=>?_⟩
 .rw[if_neg pA];simp only[Option.map_some,XR,Nat.mul_one]
 .have mF:i<(H l)-k:=by simpa using hi
  rw[show o+k+i=o+(k+i) by omega,XL (k+i) VL];simp
def N9(key:List Nat)(HL:Nat)(ZD:List Nat):List Nat:=[1634760805,857760878,2036477234,1797285236]++(a8 8).map (fun i=>yP key (4*i))++(HL :: (a8 3).map (fun i=>yP ZD (4*i)))
def iZ(s:List Nat):Nat->List Nat
 | 0=>s
 | i+1=>Mz (iZ s i) i (4+i) (8+i) (12+i)
def diags(s:List Nat):Nat->List Nat
 | 0=>s
 | i+1=>Mz (diags s i) i (4+(i+1)%4) (8+(i+2)%4) (12+(i+3)%4)
def Ou(s:List Nat):Nat->List Nat
 | 0=>s
 | r+1=>diags (iZ (Ou s r) 4) 4
def Zlx(x s:List Nat)(k:Nat):Nat:=(x.getD (k/4) 0+s.getD (k/4) 0)%4294967296/256 ^ (k%4)%256
def Dd(x s:List Nat):List Nat:=(a8 64).map (Zlx x s)
def Jy(key:List Nat)(HL:Nat)(ZD:List Nat):List Nat:=Dd (Ou (N9 key HL ZD) 10) (N9 key HL ZD)
theorem BD(w:Nf s):∀i,Nf (iZ s i)/\(iZ s i).length=(H s):=by
 intro i
 induction i with
 | zero=>exact⟨w,rfl⟩
 | succ i ih=>exact⟨Fe ih.1 _ _ _ _,by rw[iZ,N0,ih.2]⟩
theorem bE(w:Nf s):∀i,Nf (diags s i)/\(diags s i).length=(H s):=by
 intro i
 induction i with
 | zero=>exact⟨w,rfl⟩
 | succ i ih=>exact⟨Fe ih.1 _ _ _ _,by rw[diags,N0,ih.2]⟩
theorem mV(w:Nf s):∀i,Nf (Ou s i)/\(Ou s i).length=(H s):=by
 intro i
 induction i with
 | zero=>exact⟨w,rfl⟩
 | succ i ih=>
  obtain⟨c1,c2⟩:=BD ih.1 4;obtain⟨d1,d2⟩:=bE c1 4;exact⟨d1,by rw[Ou,d2,c2,ih.2]⟩
theorem BE(key:List Nat)(HL:Nat)(ZD:List Nat):(N9 key HL ZD).length=16:=by simp[N9]
theorem qP{key ZD:List Nat}{HL:Nat}(hk:∀x∈key,x<256)(hn:∀x∈ZD,x<256)(hc:HL<4294967296):Nf (N9 key HL ZD):=by
 intro x hx;unfold N9 at hx;simp only[al,bo,bc,List.mem_range,bd,or_false]at hx;rcases hx with ((rfl|rfl|rfl|rfl)|⟨i,_,rfl⟩)|rfl|⟨i,_,rfl⟩
 .omega
 .omega
 .omega
 .omega
 .exact iX hk _
 .exact hc
 .exact iX hn _
theorem Ub(xs zs:List Nat)(i:Nat)(hi:i<(H xs))(hz:(H xs)=(H zs)):(xs.take i++zs.drop i).set i (xs.getD i 0)=xs.take (i+1)++zs.drop (i+1):=by
 rw[<-KB xs zs i hi hz,N,W hi];rfl
theorem DU(key ZD:List Nat)(HL i:Nat)(hi:i<8):(N9 key HL ZD).getD (4+i) 0=yP key (4*i):=by
 rcases i with _|_|_|_|_|_|_|_|i<;>first|rfl|omega
theorem bF(key ZD:List Nat)(HL i:Nat)(hi:i<3):(N9 key HL ZD).getD (13+i) 0=yP ZD (4*i):=by
 rcases i with _|_|_|i<;>first|rfl|omega
theorem Fh(f:Nat->Nat){m k:Nat}(hk:k<m):((a8 m).map f).getD k 0=f k:=by
 simp[N,hk]
theorem Nh(x s:List Nat)(i j:Nat)(hi:i<16)(hj:j<4):(Dd x s).getD (4*i+j) 0=(x.getD i 0+s.getD i 0)%4294967296/256 ^ j%256:=by
 unfold Dd;rw[Fh _ pA];unfold Zlx;rw[show (4*i+j)/4=i by omega,show (4*i+j)%4=j by omega]
theorem Fi(x s:List Nat):∀y∈Dd x s,y<256:=by
 intro y hy;unfold Dd at hy;obtain⟨k,_,rfl⟩:=bc.1 hy;exact am _ aaa
def mW:List Nat:=R 16 0
theorem IT(T:aO)(h:Hp)(p q:Option Addr)(m n c d:Nat)(k:Int):
  Zd ab T 60 #[M p m c,t A k,M q n d] h fun v' h'=>v'=t A (if m≠32\/n≠12 then 1 else if k<0\/1073741824<k then 2 else 0)/\h'=h:=by
 refine Zd.XS [_,_,_] Tryz.func60 ?_;by_cases q1:(m:Int)=32
 .by_cases q2:(n:Int)=12
  .rw[if_neg pA];by_cases q3:k<0
   .rw[if_pos pA];simp +contextual -implicitDefEqProofs only[go_sem,q1,q2,q3]
   .by_cases q4:1073741824<k
    .rw[if_pos pA];simp +contextual -implicitDefEqProofs only[go_sem,q1,q2,q3,q4]
    .rw[if_neg pA];simp +contextual -implicitDefEqProofs only[go_sem,q1,q2,q3,q4]
  .rw[if_pos pA];simp +contextual -implicitDefEqProofs only[go_sem,q1,q2]
 .rw[if_pos pA];simp +contextual -implicitDefEqProofs only[go_sem,q1]
theorem LC(T:aO)(h:Hp)(v u:Y)(key ZD:List Nat)(HL:Nat)(sk:Bs h v key)(sn:Bs h u ZD)(hk:(H key)=32)(hn:(H ZD)=12)(hc:HL<4294967296)(ck:RY v)(cn:RY u):
  Zd ab T 61 #[v,t D HL,u] h fun v' h'=>v'=.agg ((Jy key HL ZD).map bv).toArray/\Zj h.size h h':=by
 obtain⟨p,c,rfl,_⟩:=sk.open;obtain⟨q,d,rfl,_⟩:=sn.open;rw[hk]at sk ck ⊢;rw[hn]at sn cn ⊢;have ck:32<=c:=ck;have cn:12<=d:=cn;refine Zd.XS [_,_,_] Tryz.func61 ?_;obtain⟨S,hS⟩:=ZL (N9 key HL ZD);have i6:(H S)=16:=by rw[hS];exact BE _ _ _
 have hSZ:(H S)=(H mW):=i6;have fl:∀k,k<=16->(S.take k++mW.drop k).length=16:=fun k hk=>by rw[Si _ _ _ (by omega) hSZ,i6]
 simp +contextual -implicitDefEqProofs only[go_sem];refine VS.Yk (fun F g=>Zj (h.size+1) (h.push (J ((R 64 0).map bv).toArray 144)) g/\F 0=M p 32 c/\F 1=t D HL/\F 2=M q 12 d/\F 6=L (O ⟨h.size,0,Q⟩)/\F 7=L (O ⟨h.size+1,0,Q⟩)/\∃i:Nat,i<=8/\F 17=t A i/\g[h.size+1]? = O (J ((S.take (4+i)++mW.drop (4+i)).map wv++[]).toArray 169))
  (fun F _=>8-(vi (F 17)).toNat) rfl ⟨Zj.push (by simp) _,rfl,rfl,rfl,rfl,rfl,0,by omega,rfl,?_⟩ ?_
 .subst hS;have e:=Zc (h:=h.push (J ((R 64 0).map bv).toArray 144)) (o:=J ((List.take (4+0) (N9 key HL ZD)++List.drop (4+0) mW).map wv++[]).toArray 169);rw[Array.size_push]at e;exact e
 rintro F g ⟨hg,f0,f1,f2,f6,f7,i,hi,f17,hx⟩;by_cases ZT:i<8
 .have Z7:(i:Int)<8:=by omega
  have t4:(4*(i:Int)).toNat=4*i:=by omega
  have t5:((4:Int)+i).toNat=4+i:=by omega
  simp +contextual -implicitDefEqProofs only[go_sem,f0,f7,f17,Z7,t4,t5,WM];have mJ:=Ng (sk.Yz ((Zj.push (aa _) _).trans (hg.mono (by omega)))) hk (k:=4*i) (by omega) ck (c-4*i);refine (mU T _ _ _ mJ (by rw[aN];omega)).pure ?_;rw[bD,<-DU key ZD HL i ZT,<-hS];have hSi:S.getD (4+i) 0<4294967296:=by rw[hS,DU key ZD HL i ZT];exact iX sk.byte _
  have c1:QX g ⟨h.size+1,4+i,Q⟩ (t D (S.getD (4+i) 0:Nat))=_:=Yx (f:=wv) hx (i:=4+i) (by rw[fl _ (by omega)];omega) _ rfl;rw[Ub S mW (4+i) (by omega) hSZ]at c1;simp +contextual -implicitDefEqProofs only[go_sem,f7,f17,t5,c1];refine⟨⟨hg.Zt (by omega) _,f0,f1,f2,f6,f7,i+1,ZT,rfl,?_⟩,?_⟩
  .exact Yd hx
  .simp only[vi,Zr,↓reduceIte,f17];omega
 .have Xv:¬(i:Int)<8:=by omega
  obtain rfl:i=8:=by omega
  have c1:QX g ⟨h.size+1,12,Q⟩ (t D (S.getD 12 0:Nat))=_:=Yx (f:=wv) hx (i:=12) (by rw[fl _ (by omega)];omega) _ rfl;have s12:S.getD 12 0=HL:=by rw[hS];rfl
  rw[Ub S mW 12 (by omega) hSZ,s12]at c1;have hx:=Yd (o:=J ((S.take 13++mW.drop 13).map wv++[]).toArray 169) hx;have hg:=hg.Zt (b:=h.size+1) (by omega) (J ((S.take 13++mW.drop 13).map wv++[]).toArray 169);simp +contextual -implicitDefEqProofs only[go_sem,f0,f1,f7,f17,Xv,c1];obtain⟨G,hG⟩:=ZL (g.setIfInBounds (h.size+1) (J ((S.take 13++mW.drop 13).map wv++[]).toArray 169):Hp);rw[<-hG]at hx hg ⊢;clear hG c1 s12;refine VS.Yk (fun F g=>Zj (h.size+1) (h.push (J ((R 64 0).map bv).toArray 144)) g/\F 2=M q 12 d/\F 6=L (O ⟨h.size,0,Q⟩)/\F 7=L (O ⟨h.size+1,0,Q⟩)/\∃i:Nat,i<=3/\F 31=t A i/\g[h.size+1]? = O (J ((S.take (13+i)++mW.drop (13+i)).map wv++[]).toArray 169))
   (fun F _=>3-(vi (F 31)).toNat) rfl ⟨hg,f2,f6,f7,0,by omega,rfl,hx⟩ ?_
  clear f0 f1 f2 f6 f7 f17 hg hx F;rintro F g ⟨hg,f2,f6,f7,i,hi,f31,hx⟩;by_cases ZT:i<3
  .have Z7:(i:Int)<3:=by omega
   have t4:(4*(i:Int)).toNat=4*i:=by omega
   have t5:((13:Int)+i).toNat=13+i:=by omega
   simp +contextual -implicitDefEqProofs only[go_sem,f2,f7,f31,Z7,t4,t5,WM];have mJ:=Ng (sn.Yz ((Zj.push (aa _) _).trans (hg.mono (by omega)))) hn (k:=4*i) (by omega) cn (d-4*i);refine (mU T _ _ _ mJ (by rw[aN];omega)).pure ?_;rw[bD,<-bF key ZD HL i ZT,<-hS];have c1:QX g ⟨h.size+1,13+i,Q⟩ (t D (S.getD (13+i) 0:Nat))=_:=Yx (f:=wv) hx (i:=13+i) (by rw[fl _ (by omega)];omega) _ rfl;rw[Ub S mW (13+i) (by omega) hSZ]at c1;simp +contextual -implicitDefEqProofs only[go_sem,f7,f31,t5,c1];refine⟨⟨hg.Zt (by omega) _,f2,f6,f7,i+1,ZT,rfl,?_⟩,?_⟩
   .exact Yd hx
   .simp only[vi,Zr,↓reduceIte,f31];omega
  .have Xv:¬(i:Int)<3:=by omega
   obtain rfl:i=3:=by omega
   have e16:S.take (13+3)++mW.drop (13+3)=S:=by
    have:=KC S mW hSZ;rw[i6]at this;exact this
   rw[e16]at hx;have y1:=Zy (n:=16) hx (by simp[i6]);have mX:(S.map wv++[]).length=16:=by simp[i6]
   have HG:(S.map wv++[]).all YE=true:=by simp[wv,YE]
   have hl3:Xd (mW.map wv) 0 (S.map wv++[])=S.map wv++[]:=ZW (by rw[mX];rfl);have hl3:Xd [Value.int D 0,Value.int D 0,Value.int D 0,Value.int D 0,Value.int D 0,Value.int D 0,Value.int D 0,Value.int D 0,Value.int D 0,Value.int D 0,Value.int D 0,Value.int D 0,Value.int D 0,Value.int D 0,Value.int D 0,Value.int D 0] 0 (S.map wv++[])=S.map wv++[]:=hl3;have wS:Nf S:=by rw[hS];exact qP sk.byte sn.byte hc
   have Ov:=Za hx;simp +contextual -implicitDefEqProofs only[go_sem,f6,f7,f31,Xv,y1,mX,HG,hl3];clear hl3 y1;obtain⟨G,hG⟩:=ZL (g.push (J (S.map wv++[]).toArray 169):Hp);have hxG:G[g.size]? = O (J ((Ou S 0).map wv++[]).toArray 169):=by rw[hG];exact Zc
   have hGb:Zj g.size g G:=by rw[hG];exact Zj.push (aa _) _
   rw[<-hG];clear hG;refine VS.Yk (fun F g'=>Zj g.size g g'/\F 6=L (O ⟨h.size,0,Q⟩)/\F 7=L (O ⟨h.size+1,0,Q⟩)/\F 10=L (O ⟨g.size,0,Q⟩)/\∃r:Nat,r<=10/\F 44=t A r/\g'[g.size]? = O (J ((Ou S r).map wv++[]).toArray 169))
    (fun F _=>10-(vi (F 44)).toNat) rfl ⟨hGb,f6,f7,rfl,0,by omega,rfl,hxG⟩ ?_
   clear f2 f6 f7 f31 hxG hGb G F;rintro F g1 ⟨b1,f6,f7,f10,r,hr,f44,Wf⟩;by_cases HM:r<10
   .have Zlz:(r:Int)<10:=by omega
    obtain⟨wr,lr⟩:=mV wS r;rw[i6]at lr;simp +contextual -implicitDefEqProofs only[go_sem,f44,Zlz];refine VS.Yk (fun F g'=>Zj g.size g g'/\F 6=L (O ⟨h.size,0,Q⟩)/\F 7=L (O ⟨h.size+1,0,Q⟩)/\F 10=L (O ⟨g.size,0,Q⟩)/\F 44=t A r/\∃i:Nat,i<=4/\F 46=t A i/\g'[g.size]? = O (J ((iZ (Ou S r) i).map wv++[]).toArray 169))
     (fun F _=>4-(vi (F 46)).toNat) rfl ⟨b1,f6,f7,f10,f44,0,by omega,rfl,Wf⟩ ?_
    clear f6 f7 f10 f44 b1 Wf F g1;rintro F g1 ⟨b1,f6,f7,f10,f44,i,hi,f46,Wf⟩;by_cases qQ:i<4
    .have ZlA:(i:Int)<4:=by omega
     obtain⟨wc,lc⟩:=BD wr i;rw[lr]at lc;have t1:(4:Int)+i=((4+i:Nat):Int):=by omega
     have t2:(8:Int)+i=((8+i:Nat):Int):=by omega
     have t3:(12:Int)+i=((12+i:Nat):Int):=by omega
     simp +contextual -implicitDefEqProofs only[go_sem,f10,f46,ZlA,t1,t2,t3];refine (Ff T g1 g.size _ i (4+i) (8+i) (12+i) lc wc (by omega) (by omega) (by omega) (by omega) Wf).use ?_;rintro _ _ rfl;simp +contextual -implicitDefEqProofs only[go_sem,f46];refine⟨⟨b1.Zt (aa _) _,f6,f7,f10,f44,i+1,qQ,rfl,?_⟩,?_⟩
     .exact Yd Wf
     .simp only[vi,Zr,↓reduceIte,f46];omega
    .have ZlB:¬(i:Int)<4:=by omega
     obtain rfl:i=4:=by omega
     obtain⟨wc,lc⟩:=BD wr 4;rw[lr]at lc;simp +contextual -implicitDefEqProofs only[go_sem,f46,ZlB];refine VS.Yk (fun F g'=>Zj g.size g g'/\F 6=L (O ⟨h.size,0,Q⟩)/\F 7=L (O ⟨h.size+1,0,Q⟩)/\F 10=L (O ⟨g.size,0,Q⟩)/\F 44=t A r/\∃i:Nat,i<=4/\F 58=t A i/\g'[g.size]? = O (J ((diags (iZ (Ou S r) 4) i).map wv++[]).toArray 169))
      (fun F _=>4-(vi (F 58)).toNat) rfl ⟨b1,f6,f7,f10,f44,0,by omega,rfl,Wf⟩ ?_
     clear f6 f7 f10 f44 f46 qQ ZlB hi b1 Wf F g1;rintro F g1 ⟨b1,f6,f7,f10,f44,i,hi,f58,Wf⟩;by_cases i7:i<4
     .have IU:(i:Int)<4:=by omega
      obtain⟨wd,ld⟩:=bE wc i;rw[lc]at ld;have t1:(4:Int)+((i:Int)+1).tmod 4=((4+(i+1)%4:Nat):Int):=by
       have:((i:Int)+1).tmod 4=(((i+1)%4:Nat):Int):=rfl;omega
      have t2:(8:Int)+((i:Int)+2).tmod 4=((8+(i+2)%4:Nat):Int):=by
       have:((i:Int)+2).tmod 4=(((i+2)%4:Nat):Int):=rfl;omega
      have t3:(12:Int)+((i:Int)+3).tmod 4=((12+(i+3)%4:Nat):Int):=by
       have:((i:Int)+3).tmod 4=(((i+3)%4:Nat):Int):=rfl;omega
      have m1:((i:Int)+1).tmod 4=(((i+1)%4:Nat):Int):=rfl;have m2:((i:Int)+2).tmod 4=(((i+2)%4:Nat):Int):=rfl;have m3:((i:Int)+3).tmod 4=(((i+3)%4:Nat):Int):=rfl;rw[m1]at t1;rw[m2]at t2;rw[m3]at t3;have k1:(i+1)%4<4:=am _ (by decide);have k2:(i+2)%4<4:=am _ (by decide);have k3:(i+3)%4<4:=am _ (by decide);simp +contextual -implicitDefEqProofs only[go_sem,f10,f58,IU,m1,m2,m3,t1,t2,t3];refine (Ff T g1 g.size _ i (4+(i+1)%4) (8+(i+2)%4) (12+(i+3)%4) ld wd (by omega) (by omega) (by omega) (by omega) Wf).use ?_;rintro _ _ rfl;simp +contextual -implicitDefEqProofs only[go_sem,f58];refine⟨⟨b1.Zt (aa _) _,f6,f7,f10,f44,i+1,i7,rfl,?_⟩,?_⟩
      .exact Yd Wf
      .simp only[vi,Zr,↓reduceIte,f58];omega
     .have Zha:¬(i:Int)<4:=by omega
      obtain rfl:i=4:=by omega
      simp +contextual -implicitDefEqProofs only[go_sem,f44,f58,Zha];refine⟨⟨b1,f6,f7,f10,r+1,HM,rfl,Wf⟩,?_⟩;simp only[vi,Zr,↓reduceIte,f44];omega
   .have ZlC:¬(r:Int)<10:=by omega
    obtain rfl:r=10:=by omega
    obtain⟨wr,lr⟩:=mV wS 10;rw[i6]at lr;have hxs:=b1.get Ov hx;have z0:h.size+1<g.size:=Ov;have z1:=Za Wf;simp +contextual -implicitDefEqProofs only[go_sem,f44,ZlC];obtain⟨X,hX⟩:=ZL (Dd (Ou S 10) S);have qS:(H X)=64:=by rw[hX];simp[Dd]
    have hXZ:(H X)=(R 64 0).length:=by rw[qS];rfl
    refine VS.Yk (fun F g'=>Zj g1.size g1 g'/\F 6=L (O ⟨h.size,0,Q⟩)/\F 7=L (O ⟨h.size+1,0,Q⟩)/\F 10=L (O ⟨g.size,0,Q⟩)/\F 13=L (O ⟨g1.size,0,Q⟩)/\∃i:Nat,i<=16/\F 77=t A i/\g'[g1.size]? = O (J ((X.take (4*i)++(R 64 0).drop (4*i)).map bv++[]).toArray 144))
     (fun F _=>16-(vi (F 77)).toNat) rfl ⟨Zj.push (aa _) _,f6,f7,f10,rfl,0,by omega,rfl,?_⟩ ?_
    .exact Zc
    clear f6 f7 f10 f44 ZlC hr HM F;rintro F g2 ⟨b2,f6,f7,f10,f13,i,hi,f77,Mw⟩;by_cases i9:i<16
    .have yQ:(i:Int)<16:=by omega
     have u1:=Z8 (b2.get (by omega) hxs) (i:=i) (by omega);have u2:=Z8 (b2.get z1 Wf) (i:=i) (by omega);have v1:=wS.getD i;have v2:=wr.getD i;have e1:((Ou S 10).getD i 0+S.getD i 0:Int)%4294967296=(((Ou S 10).getD i 0+S.getD i 0)%4294967296:Nat):=by omega
     unfold wv at u1 u2;obtain⟨n,NY⟩:=ZL (((Ou S 10).getD i 0+S.getD i 0)%4294967296);have Ztr:n<4294967296:=by omega
     rw[<-NY]at e1;have x0:X.getD (4*i) 0=n%256:=by have:=Nh (Ou S 10) S i 0 i9 (by omega);rw[show (256:Nat) ^ 0=1 from rfl,Nat.div_one]at this;rw[hX,NY];exact this
     have x1:X.getD (4*i+1) 0=n/256%256:=by have:=Nh (Ou S 10) S i 1 i9 (by omega);rw[show (256:Nat) ^ 1=256 from rfl]at this;rw[hX,NY];exact this
     have x2:X.getD (4*i+2) 0=n/65536%256:=by have:=Nh (Ou S 10) S i 2 i9 (by omega);rw[show (256:Nat) ^ 2=65536 from rfl]at this;rw[hX,NY];exact this
     have x3:X.getD (4*i+3) 0=n/16777216%256:=by have:=Nh (Ou S 10) S i 3 i9 (by omega);rw[show (256:Nat) ^ 3=16777216 from rfl]at this;rw[hX,NY];exact this
     have t0:(4*(i:Int)).toNat=4*i:=by omega
     have t1:(4*(i:Int)+1).toNat=4*i+1:=by omega
     have t2:(4*(i:Int)+2).toNat=4*i+2:=by omega
     have t3:(4*(i:Int)+3).toNat=4*i+3:=by omega
     have s0:(n:Int)%256=((n%256:Nat):Int):=by omega
     have s1:XF D (n:Int) 8%256=((n/256%256:Nat):Int):=by rw[show (8:Int)=((8:Nat):Int) from rfl,Vb n 8 (by omega)];omega
     have s2:XF D (n:Int) 16%256=((n/65536%256:Nat):Int):=by rw[show (16:Int)=((16:Nat):Int) from rfl,Vb n 16 (by omega)];omega
     have s3:XF D (n:Int) 24%256=((n/16777216%256:Nat):Int):=by rw[show (24:Int)=((24:Nat):Int) from rfl,Vb n 24 (by omega)];omega
     rw[<-x0]at s0;rw[<-x1]at s1;rw[<-x2]at s2;rw[<-x3]at s3;simp +contextual -implicitDefEqProofs only[go_sem,f7,f10,f77,yQ];refine VS.q mixed (by kernel_rfl) ?_;have xl:∀k,k<=64->(X.take k++(R 64 0).drop k).length=64:=fun k hk=>by rw[Si _ _ _ (by omega) hXZ,qS]
     have c0:QX g2 ⟨g1.size,4*i,Q⟩ (t .u8 (X.getD (4*i) 0:Nat))=_:=Yx (f:=bv) Mw (i:=4*i) (by rw[xl _ (by omega)];omega) _ rfl;rw[Ub X _ (4*i) (by omega) hXZ]at c0;have c1:QX _ ⟨g1.size,4*i+1,Q⟩ (t .u8 (X.getD (4*i+1) 0:Nat))=_:=Yx (f:=bv) (Yd (o:=J ((X.take (4*i+1)++(R 64 0).drop (4*i+1)).map bv++[]).toArray 144) Mw) (i:=4*i+1) (by rw[xl _ (by omega)];omega) _ rfl;rw[Ub X _ (4*i+1) (by omega) hXZ,set_set]at c1;have c2:QX _ ⟨g1.size,4*i+2,Q⟩ (t .u8 (X.getD (4*i+2) 0:Nat))=_:=Yx (f:=bv) (Yd (o:=J ((X.take (4*i+2)++(R 64 0).drop (4*i+2)).map bv++[]).toArray 144) Mw) (i:=4*i+2) (by rw[xl _ (by omega)];omega) _ rfl;rw[Ub X _ (4*i+2) (by omega) hXZ,set_set]at c2;have c3:QX _ ⟨g1.size,4*i+3,Q⟩ (t .u8 (X.getD (4*i+3) 0:Nat))=_:=Yx (f:=bv) (Yd (o:=J ((X.take (4*i+3)++(R 64 0).drop (4*i+3)).map bv++[]).toArray 144) Mw) (i:=4*i+3) (by rw[xl _ (by omega)];omega) _ rfl;rw[Ub X _ (4*i+3) (by omega) hXZ,set_set]at c3;simp +contextual -implicitDefEqProofs only[go_sem,f7,f10,f13,f77,u1,u2,e1,t0,t1,t2,t3,s0,s1,s2,s3,c0,c1,c2,c3];refine⟨⟨b2.Zt (aa _) _,f6,f7,f10,f13,i+1,i9,rfl,?_⟩,?_⟩
     .exact Yd Mw
     .simp only[vi,Zr,↓reduceIte,f77];omega
    .have Zdi:¬(i:Int)<16:=by omega
     obtain rfl:i=16:=by omega
     have e64:X.take (4*16)++(R 64 0).drop (4*16)=X:=by
      have:=KC X (R 64 0) hXZ;rw[qS]at this;exact this
     rw[e64,List.append_nil]at Mw;have Fj:(X.map bv).length=64:=by simp[qS]
     have tk:=Xt Fj;have y1:=Zy (n:=64) Mw Fj;have y0:(h.push (J ((R 64 0).map bv).toArray 144))[h.size]? = O (J ((R 64 0).map bv).toArray 144):=Zc;have y2:=b2.get (by omega) (b1.get (by omega) (hg.get (by omega) y0));have y3:=Ye y2 0 (X.map bv);rw[ZW (by simp[qS]),if_pos ⟨by simp[qS],RW X⟩]at y3;have z2:h.size<g2.size:=Za y2;have hB:Zj h.size h g2:=((Zj.push (aa _) _).trans (hg.mono (by omega))).trans ((b1.mono (by omega)).trans (b2.mono (by omega)));have hbx:Jy key HL ZD=X:=by rw[hX,hS];rfl
     rw[hbx];simp +contextual -implicitDefEqProofs only[go_sem,f6,f13,f77,Zdi,y1,y3,Fj,tk,z2];exact hB.Zt (aa _) _
def JW(key:List Nat)(k:Int)(ZD:List Nat):Int:=if (H key)≠32\/(H ZD)≠12 then 1 else if k<0\/1073741824<k then 2 else 0
def bH(B:Nat)(h':Hp)(v':Y)(key:List Nat)(k:Int)(ZD:List Nat):Prop:=∃w,v'=.tuple [w,t A (JW key k ZD)].toArray/\YB B 5 h' w (if JW key k ZD=0 then Jy key k.toNat ZD else [])
theorem yR(T:aO)(h:Hp)(v u:Y)(key ZD:List Nat)(k:Int)(sk:Bs h v key)(sn:Bs h u ZD)(ck:RY v)(cn:RY u):
  Zd ab T 62 #[v,t A k,u] h fun v' h'=>bH h.size h' v' key k ZD/\Zj h.size h h':=by
 obtain⟨p,c,rfl,_⟩:=sk.open;obtain⟨q,d,rfl,_⟩:=sn.open;refine Zd.XS [_,_,_] Tryz.func62 ?_;unfold bH;simp +contextual -implicitDefEqProofs only[go_sem];refine (IT T _ _ _ _ _ _ _ _).pure ?_;rw[show (if (H key)≠32\/(H ZD)≠12 then (1:Int) else if k<0\/1073741824<k then 2 else 0)=JW key k ZD from rfl];by_cases e:JW key k ZD=0
 .have hb:(H key)=32/\(H ZD)=12/\0<=k/\k<=1073741824:=by
   unfold JW at e
   repeat' split at e
   all_goals first|omega|cases e
  obtain⟨hk,hn,k0,k1⟩:=hb;obtain⟨m,rfl⟩:∃m:Nat,k=m:=⟨k.toNat,pA⟩
  have m1:(m:Int)%4294967296=(m:Int):=pA;simp +contextual -implicitDefEqProofs only[go_sem,e,m1];refine (LC T _ _ _ key ZD m sk sn hk hn pA ck cn).use ?_;rintro _ h1 ⟨rfl,b1⟩;have Fj:((Jy key m ZD).map bv).length=64:=by simp[Jy,Dd]
  have X3:=RW (Jy key m ZD);have ZFu:Xd ((R 64 0).map bv) 0 ((Jy key m ZD).map bv)=(Jy key m ZD).map bv:=ZW (by rw[Fj];simp);have hsm:∀x∈Jy key m ZD,x<256:=Fi _ _;have hlb:(Jy key m ZD).length=64:=by simpa using Fj
  generalize Jy key m ZD=X at *;simp +contextual -implicitDefEqProofs only[go_sem,Fj,X3,ZW];have Zts:Bs (h1.push (J (X.map bv).toArray 144)) (M (O ⟨h1.size,0,Q⟩) 64 64) X:=by
   have:=Bs.made (h:=h1) (E:=144) hsm 64;rw[hlb]at this;exact this
  have b1s:=b1.size;refine ZK (E:=5) (B:=h.size) Xl Tryz.underlying28 TA Sn Sm (YB.nil _ _ _) VL Zts (by simp[hlb]) ?_;intro v' h' Mr Qi _;simp +contextual -implicitDefEqProofs only[go_sem];exact⟨⟨_,rfl,by simpa using Mr⟩,(b1.YX b1s _).trans Qi⟩
 .simp +contextual -implicitDefEqProofs only[go_sem,e];exact⟨_,rfl,YB.nil _ _ _⟩
def MB(key:List Nat):List Nat:=if 64<(H key) then T6 key else key
theorem Sp(key:List Nat):(MB key).length<=64:=by
 unfold MB;split
 .rw[Qv];omega
 .omega
theorem qU{key:List Nat}(h:NH key):NH (MB key):=by
 unfold MB;split
 .exact qO _
 .exact h
def VZ(key:List Nat):List Nat:=MB key++R (64-(MB key).length) 0
theorem Qw(key:List Nat):(VZ key).length=64:=by
 have:=Sp key;simp[VZ];omega
theorem KM{key:List Nat}(h:NH key):NH (VZ key):=by
 intro x hx;simp only[VZ,al,List.mem_replicate]at hx;rcases hx with hx|⟨_,rfl⟩
 .exact qU h x hx
 .omega
def T7(key:List Nat)(w:Nat):List Nat:=(VZ key).map (· ^^^ w)
theorem Yt(key:List Nat)(w:Nat):(T7 key w).length=64:=by simp[T7,Qw]
theorem DW{key:List Nat}(h:NH key){w:Nat}(hw:w<256):NH (T7 key w):=by
 intro x hx;obtain⟨y,hy,rfl⟩:=bc.1 hx;exact Ztq (KM h y hy) hw
theorem DZ(key:List Nat)(w:Nat){i:Nat}(hi:i<64):(T7 key w).getD i 0=(VZ key).getD i 0 ^^^ w:=by
 rw[N,N,T7,a9,W (by rw[Qw];exact hi)];rfl
def LD(key b:List Nat):List Nat:=T6 (T7 key 92++T6 (T7 key 54++b))
theorem Sq(key b:List Nat):(LD key b).length=32:=Qv _
def Ma(key info:List Nat):Nat->List Nat
 | 0=>[]
 | i+1=>LD key (Ma key info i++info++[(i+1)%256])
def Sr(key info:List Nat):Nat->List Nat
 | 0=>[]
 | i+1=>Sr key info i++Ma key info (i+1)
theorem Pc(key info:List Nat)(i:Nat):(Ma key info (i+1)).length=32:=Sq _ _
theorem yS(key info:List Nat):∀i,(Ma key info i).length<=32
 | 0=>Nat.zero_le _
 | i+1=>Nat.le_of_eq (Pc key info i)
theorem V0(key info:List Nat):∀i,(Sr key info i).length=32*i
 | 0=>rfl
 | i+1=>by rw[Sr,aD,V0 key info i,Pc];omega
theorem Fk(key info:List Nat)(n:Nat):∀(i j:Nat),n<=32*i->i<=j->(Sr key info j).take n=(Sr key info i).take n
 | i,0,h,hj=>by
  obtain rfl:i=0:=pA;rfl
 | i,j+1,h,hj=>by
  by_cases e:i=j+1
  .rw[e]
  .rw[Sr,List.take_append_of_le_length (by rw[V0];omega)];exact Fk key info n i j h pA
def Fl(JQ T8 info:List Nat)(n:Nat):List Nat:=(Sr (LD T8 JQ) info 16).take n
theorem LF(JQ T8 info:List Nat){n:Nat}(hn:n<=512):(Fl JQ T8 info n).length=n:=by
 rw[Fl,List.length_take,V0];omega
def Fm(k n a b:Int)(d:Y):List Y:=[t A k,t A n,t A a,t A b,d]
def YQ(k:Int):List (Nat × Int):=
 if k=1\/k=2\/k=3\/k=9 then [(1,4)] else if k=4\/k=5\/k=6 then [(2,1048576)] else if k=8 then [(1,4),(3,100000)] else []
def Ox(b:Nat)(x:Nat × Int):List Y:=[L (O ⟨b,x.1,Q⟩),t A x.2]
set_option maxHeartbeats 2000000 in
theorem bI(T:aO)(h:Hp)(b:Nat)(k n a c:Int)(d:Y)(hb:h[b]? = O (J (Fm k n a c d).toArray 36)):
  Zd ab T 48 #[L (O ⟨b,0,Q⟩)] h fun v' h'=>∃w,v'=.tuple [w,.bool (decide (1<=k/\k<=9))].toArray/\QF h.size 127 (Ox b) 2 h' w (YQ k)/\Zj h.size h h':=by
 refine Zd.XS [_] Tryz.func48 ?_;have b0:=Za hb;have x0:hc h ⟨b,0,Q⟩=O (t A k):=by rw[Zn hb];rfl
 simp +contextual -implicitDefEqProofs (maxSteps:=2000000) only[go_sem];refine VS.w (h.size) [11] (.q 0 (.q 1 (.q 2 (.q 3 (.q 4 (.q 5 (.q 6 (.q 7 (.or 8 (.s 9 (.s 10 (.w 11 .nil))) (.s 9 (.s 8 (.s 10 (.w 11 .nil))))))))))))) mixed vM ?_;unfold YQ;have one:∀(g:Hp) (x:Nat × Int),h.size+2=g.size->QF h.size 127 (Ox b) 2 (g.push (J [L (O ⟨b,x.1,Q⟩),t A x.2].toArray 127)) (M (O ⟨h.size+2,0,Q⟩) 1 1) [x]:=fun g x e=>by rw[e];exact QF.one (enc:=Ox b) x (fun _=>rfl) pA
 have two:∀(g:Hp),h.size+2=g.size->QF h.size 127 (Ox b) 2 (g.push (J [L (O ⟨b,1,Q⟩),t A 4,L (O ⟨b,3,Q⟩),t A 100000].toArray 127)) (M (O ⟨h.size+2,0,Q⟩) 2 2) [(1,4),(3,100000)]:=fun g e=>by rw[e];exact QF.made (enc:=Ox b) (fun _=>rfl) [(1,4),(3,100000)] pA
 by_cases k1:k=1
 .have hk:decide (1<=k/\k<=9)=true:=by rw[decide_eq_true_eq];omega
  simp +contextual -implicitDefEqProofs (maxSteps:=2000000) only[go_sem,x0,k1];refine⟨⟨_,rfl,one _ (1,4) IQ,?_⟩,⟨_,rfl,one _ (1,4) IQ,?_⟩⟩<;>(repeat' (first|exact Zj.refl _ _|assumption|refine Zj.add ?_ _|refine Zj.Zt ?_ aab _|refine Zj.trans aac ?_))
 ·
  by_cases k2:k=2
  .have hk:decide (1<=k/\k<=9)=true:=by rw[decide_eq_true_eq];omega
   simp +contextual -implicitDefEqProofs (maxSteps:=2000000) only[go_sem,x0,k2];refine⟨⟨_,rfl,one _ (1,4) IQ,?_⟩,⟨_,rfl,one _ (1,4) IQ,?_⟩⟩<;>(repeat' (first|exact Zj.refl _ _|assumption|refine Zj.add ?_ _|refine Zj.Zt ?_ aab _|refine Zj.trans aac ?_))
  ·
   by_cases k3:k=3
   .have hk:decide (1<=k/\k<=9)=true:=by rw[decide_eq_true_eq];omega
    simp +contextual -implicitDefEqProofs (maxSteps:=2000000) only[go_sem,x0,k3];refine⟨⟨_,rfl,one _ (1,4) IQ,?_⟩,⟨_,rfl,one _ (1,4) IQ,?_⟩⟩<;>(repeat' (first|exact Zj.refl _ _|assumption|refine Zj.add ?_ _|refine Zj.Zt ?_ aab _|refine Zj.trans aac ?_))
   ·
    by_cases k9:k=9
    .have hk:decide (1<=k/\k<=9)=true:=by rw[decide_eq_true_eq];omega
     simp +contextual -implicitDefEqProofs (maxSteps:=2000000) only[go_sem,x0,k9];refine⟨⟨_,rfl,one _ (1,4) IQ,?_⟩,⟨_,rfl,one _ (1,4) IQ,?_⟩⟩<;>(repeat' (first|exact Zj.refl _ _|assumption|refine Zj.add ?_ _|refine Zj.Zt ?_ aab _|refine Zj.trans aac ?_))
    ·
     by_cases k4:k=4
     .have hk:decide (1<=k/\k<=9)=true:=by rw[decide_eq_true_eq];omega
      simp +contextual -implicitDefEqProofs (maxSteps:=2000000) only[go_sem,x0,k4];refine⟨⟨_,rfl,one _ (2,1048576) IQ,?_⟩,⟨_,rfl,one _ (2,1048576) IQ,?_⟩⟩<;>(repeat' (first|exact Zj.refl _ _|assumption|refine Zj.add ?_ _|refine Zj.Zt ?_ aab _|refine Zj.trans aac ?_))
     ·
      by_cases k5:k=5
      .have hk:decide (1<=k/\k<=9)=true:=by rw[decide_eq_true_eq];omega
       simp +contextual -implicitDefEqProofs (maxSteps:=2000000) only[go_sem,x0,k5];refine⟨⟨_,rfl,one _ (2,1048576) IQ,?_⟩,⟨_,rfl,one _ (2,1048576) IQ,?_⟩⟩<;>(repeat' (first|exact Zj.refl _ _|assumption|refine Zj.add ?_ _|refine Zj.Zt ?_ aab _|refine Zj.trans aac ?_))
      ·
       by_cases k6:k=6
       .have hk:decide (1<=k/\k<=9)=true:=by rw[decide_eq_true_eq];omega
        simp +contextual -implicitDefEqProofs (maxSteps:=2000000) only[go_sem,x0,k6];refine⟨⟨_,rfl,one _ (2,1048576) IQ,?_⟩,⟨_,rfl,one _ (2,1048576) IQ,?_⟩⟩<;>(repeat' (first|exact Zj.refl _ _|assumption|refine Zj.add ?_ _|refine Zj.Zt ?_ aab _|refine Zj.trans aac ?_))
       ·
        by_cases k7:k=7
        .have hk:decide (1<=k/\k<=9)=true:=by rw[decide_eq_true_eq];omega
         simp +contextual -implicitDefEqProofs (maxSteps:=2000000) only[go_sem,x0,k7];exact⟨⟨_,rfl,QF.nil _ _ _ _ _⟩,⟨_,rfl,QF.nil _ _ _ _ _⟩⟩
        ·
         by_cases k8:k=8
         .have hk:decide (1<=k/\k<=9)=true:=by rw[decide_eq_true_eq];omega
          simp +contextual -implicitDefEqProofs (maxSteps:=2000000) only[go_sem,x0,k8];refine⟨?_,?_⟩
          .refine VS.b (h.size+2) [(0,true),(1,true),(2,true),(3,true),(4,true),(5,false),(6,true),(7,true)] mixed vM ?_;simp +contextual -implicitDefEqProofs (maxSteps:=2000000) only[go_sem];refine⟨(Zj.refl _ _).YX IQ _,_,rfl,two _ IQ,?_⟩
           (repeat' (first|exact Zj.refl _ _|assumption|refine Zj.add ?_ _|refine Zj.Zt ?_ aab _|refine Zj.trans aac ?_))
          .refine VS.b (h.size+2) [(0,true),(1,true),(2,true),(3,true),(4,true),(5,false),(6,true),(7,true)] mixed vM ?_;simp +contextual -implicitDefEqProofs (maxSteps:=2000000) only[go_sem];refine⟨(Zj.refl _ _).YX IQ _,_,rfl,two _ IQ,?_⟩
           (repeat' (first|exact Zj.refl _ _|assumption|refine Zj.add ?_ _|refine Zj.Zt ?_ aab _|refine Zj.trans aac ?_))
         ·
          have hk:¬(1<=k/\k<=9):=pA;simp +contextual -implicitDefEqProofs (maxSteps:=2000000) only[go_sem,x0,k1,k2,k3,k9,k4,k5,k6,k7,k8,hk];exact⟨⟨_,rfl,QF.nil _ _ _ _ _⟩,⟨_,rfl,QF.nil _ _ _ _ _⟩⟩
def Jn(k:Int):Prop:=k=1\/k=2\/k=3\/k=9\/k=8
def U2(k:Int):Prop:=4<=k/\k<=6
instance (k:Int):Decidable (Jn k):=by unfold Jn;infer_instance
instance (k:Int):Decidable (U2 k):=by unfold U2;infer_instance
def Wj(k n a b:Int)(len:Nat):Int:=
 if ¬(1<=k/\k<=9) then 4 else
 if (Jn k/\¬(0<=n/\n<=4))\/(U2 k/\¬(0<=a/\a<=1048576))\/(k=8/\¬(0<=b/\b<=100000)) then 2 else
 if 2000<len then 1 else
 if (¬Jn k/\n≠0)\/(¬U2 k/\a≠0)\/(k≠8/\b≠0)\/(k≠1/\0<len) then 3 else 0
def SK(k n a b:Int)(p:Nat):Int:=[k,n,a,b].getD p 0
def SL(k n a b:Int)(x:Nat × Int):Prop:=0<=SK k n a b x.1/\SK k n a b x.1<=x.2
theorem IV{k:Int}:∀x∈YQ k,x.1<4/\0<x.1:=by
 intro x hx;unfold YQ at hx
 repeat' split at hx
 all_goals simp at hx
 all_goals rcases hx with rfl|rfl<;>simp
theorem qW(k:Int):(YQ k).length<=2:=by
 unfold YQ
 repeat' split
 all_goals simp
theorem D0{k n a b:Int}{len:Nat}(h1:1<=k/\k<=9){x:Nat × Int}(hx:x∈YQ k)(hb:¬SL k n a b x):Wj k n a b len=2:=by
 unfold Wj;rw[if_neg pA,if_pos];unfold Jn U2;unfold YQ at hx;unfold SL SK at hb;split at hx
 .simp at hx;subst hx;simp at hb;left;omega
 .split at hx
  .simp at hx;subst hx;simp at hb;right;left;omega
  .split at hx
   .simp at hx;rcases hx with rfl|rfl
    .simp at hb;left;omega
    .simp at hb;right;right;omega
   .cases hx
theorem ja{k n a b:Int}(hg:∀x∈YQ k,SL k n a b x):¬((Jn k/\¬(0<=n/\n<=4))\/(U2 k/\¬(0<=a/\a<=1048576))\/(k=8/\¬(0<=b/\b<=100000))):=by
 unfold Jn U2;unfold YQ at hg;split at hg
 .have:=hg (1,4) IQ;simp[SL,SK]at this;omega
 .split at hg
  .have:=hg (2,1048576) IQ;simp[SL,SK]at this;omega
  .split at hg
   .have:=hg (1,4) IQ;have h2:=hg (3,100000) IQ;simp[SL,SK]at this h2;omega
   .omega
def Pe(xs:List (Nat × Int))(cs:List Y):List Y:=xs.foldl (fun cs x=>cs.set x.1 (t A 0)) cs
theorem bJ(xs:List (Nat × Int))(x:Nat × Int)(cs:List Y):Pe (xs++[x]) cs=(Pe xs cs).set x.1 (t A 0):=by simp[Pe]
theorem De(xs:List (Nat × Int)):∀cs,(Pe xs cs).length=(H cs):=by
 induction xs with
 | nil=>intro cs;rfl
 | cons x xs ih=>intro cs;simp only[Pe,List.foldl_cons]at *;rw[ih];simp
theorem jc{k n a b:Int}{d:Y}(h1:1<=k/\k<=9):Pe (YQ k) (Fm k n a b d)=Fm k (if Jn k then 0 else n) (if U2 k then 0 else a) (if k=8 then 0 else b) d:=by
 unfold YQ;split
 .rw[if_pos (by unfold Jn;omega),if_neg (by unfold U2;omega),if_neg pA];rfl
 .split
  .rw[if_neg (by unfold Jn;omega),if_pos (by unfold U2;omega),if_neg pA];rfl
  .split
   .rw[if_pos (by unfold Jn;omega),if_neg (by unfold U2;omega)];rfl
   .rw[if_neg (by unfold Jn;omega),if_neg (by unfold U2;omega)];rfl
theorem jd(k n a b:Int)(d:Y)(p:Nat)(hp:p<4):nth (Fm k n a b d) p=O (t A (SK k n a b p)):=by
 rcases p with _|_|_|_|p<;>first|rfl|omega
theorem Df(T:aO)(h:Hp)(k n a b:Int)(p:Option Addr)(len c:Nat):
  Zd ab T 35 #[.agg (Fm k n a b (M p len c)).toArray] h fun v' h'=>v'=t A (Wj k n a b len)/\Zj h.size h h':=by
 refine Zd.XS [_] Tryz.func35 ?_;unfold Fm;simp +contextual -implicitDefEqProofs only[go_sem];refine (bI T _ h.size k n a b (M p len c) Zc).use ?_;rintro _ h1 ⟨w,rfl,hw,b1⟩;have hlen:=qW k;by_cases hk:1<=k/\k<=9
 .obtain⟨pw,cw,rfl,XL⟩:=QF.ZkD (enc:=Ox h.size) (n:=2) (fun _=>rfl) aaa hw;have x0:h1[h.size]? = O (J (Fm k n a b (M p len c)).toArray 36):=b1.get IQ Zc;have z1:=Za x0;have Ve:Zj h.size h h1:=((Zj.refl h.size h).add _).trans (b1.mono IQ);simp +contextual -implicitDefEqProofs only[go_sem,hk];refine VS.Yk (fun F g=>Zj h1.size h1 g/\F 1=L (O ⟨h.size,0,Q⟩)/\F 3=M pw (YQ k).length cw/\F 15=M pw (YQ k).length cw/\F 16=t A (YQ k).length/\∃i:Nat,i<=(YQ k).length/\F 17=t A i/\∀x∈(YQ k).take i,SL k n a b x)
   (fun F _=>(YQ k).length-(vi (F 17)).toNat) rfl ⟨Zj.refl _ _,rfl,rfl,rfl,rfl,0,pA,rfl,fun x hx=>by cases hx⟩ ?_
  rintro F g ⟨hg,f1,f3,f15,f16,i,hi,f17,XO⟩;have Ov:=hg.size;by_cases ZT:i<(YQ k).length
  .have Z7:(i:Int)<(YQ k).length:=pA;obtain⟨bb,oo,rfl,Ge,TC,XL⟩:=XL (by intro e;rw[e]at ZT;simp at ZT);have hx:=be ZT;have hsm:=IV _ hx;have r1:=((XL i ZT).Yz hg TC).rd (by simp[Ox]) (m:=2) rfl;obtain⟨x,hxe⟩:=ZL ((YQ k)[i]);rw[<-hxe]at hx hsm r1;have v1:hc g ⟨h.size,x.1,Q⟩=O (t A (SK k n a b x.1)):=by
    rw[hg.hc z1,Zn x0,jd _ _ _ _ _ _ hsm.1]
   unfold Ox at r1;simp +contextual -implicitDefEqProofs only[go_sem,f1,f15,f16,f17,Z7,r1];refine VS.q mixed vM ?_;by_cases c1:SK k n a b x.1<0
   .have e:=D0 (len:=len) hk hx (n:=n) (a:=a) (b:=b) (by unfold SL;omega);simp +contextual -implicitDefEqProofs only[go_sem,v1,c1,e];exact Ve.trans ((hg.mono pA).YX pA _)
   .by_cases c2:x.2<SK k n a b x.1
    .have e:=D0 (len:=len) hk hx (n:=n) (a:=a) (b:=b) (by unfold SL;omega);simp +contextual -implicitDefEqProofs only[go_sem,v1,c1,c2,e];exact Ve.trans ((hg.mono pA).YX pA _)
    .simp +contextual -implicitDefEqProofs only[go_sem,f1,f3,f15,f16,f17,v1,c1,c2];refine⟨⟨hg.YX pA _,f1,f3,f15,f16,i+1,pA,rfl,fun y hy=>?_⟩,?_⟩
     .rw[Y8 _ i ZT]at hy;rcases al.1 hy with hy|hy
      .exact XO y hy
      .simp at hy;rw[hy,<-hxe];unfold SL;omega
     .simp only[vi,Zr,↓reduceIte,f17];omega
  .have Xv:¬(i:Int)<(YQ k).length:=pA;obtain rfl:i=(YQ k).length:=pA;rw[bf]at XO;have Pf:=ja XO;have x0g:=hg.get z1 x0;have y4:hc g ⟨h.size,4,Q⟩=O (M p len c):=by rw[Zn x0g];rfl
   have BF:Zj h.size h g:=Ve.trans (hg.mono pA);by_cases c1:2000<len
   .have yU:2000<(len:Int):=pA;have e:Wj k n a b len=1:=by unfold Wj;rw[if_neg pA,if_neg Pf,if_pos c1]
    simp +contextual -implicitDefEqProofs only[go_sem,f1,f3,f15,f16,f17,Xv,y4,yU,e,BF]
   .have yU:¬2000<(len:Int):=pA;simp +contextual -implicitDefEqProofs only[go_sem,f1,f3,f15,f16,f17,Xv,y4,yU];have xg:g[h.size]? = O (J (Pe ((YQ k).take 0) (Fm k n a b (M p len c))).toArray 36):=x0g;clear y4 XO hi ZT Xv;refine VS.Yk (fun F g'=>Zj h.size h g'/\(∀q,q≠h.size->q<h1.size->g'[q]? = h1[q]?)/\h1.size<=g'.size/\F 1=L (O ⟨h.size,0,Q⟩)/\F 40=M pw (YQ k).length cw/\F 41=t A (YQ k).length/\∃i:Nat,i<=(YQ k).length/\F 42=t A i/\g'[h.size]? = O (J (Pe ((YQ k).take i) (Fm k n a b (M p len c))).toArray 36))
     (fun F _=>(YQ k).length-(vi (F 42)).toNat) rfl ⟨BF,fun q _ hq=>hg.block q hq,Ov,f1,rfl,rfl,0,Nat.zero_le _,rfl,xg⟩ ?_
    clear xg x0g BF Ov hg g f1 f3 f15 f16 f17 F;rintro F g ⟨BF,ZlD,Ov,f1,f40,f41,i,hi,f42,xg⟩;by_cases ZT:i<(YQ k).length
    .have Z7:(i:Int)<(YQ k).length:=pA;obtain⟨bb,oo,rfl,Ge,TC,XL⟩:=XL (by intro e;rw[e]at ZT;simp at ZT);have hx:=be ZT;have hsm:=IV _ hx;have r1:=(XL i ZT).rd (by simp[Ox]) (m:=2) rfl;have ZlE:bb≠h.size:=by simp at Ge;omega
     obtain⟨x,hxe⟩:=ZL ((YQ k)[i]);rw[<-hxe]at hx hsm r1;have r2:rd g ⟨bb,oo+i*2,Q⟩ 2=O (Ox h.size x):=by
      rw[<-r1];unfold rd;rw[ZlD _ ZlE TC]
     have fS:(Pe ((YQ k).take i) (Fm k n a b (M p len c))).length=5:=by rw[De];rfl
     have zg:=Za xg;have w1:=Xj xg x.1 (t A 0);rw[if_pos ⟨by rw[fS];omega,rfl⟩]at w1;unfold Ox at r2;simp +contextual -implicitDefEqProofs only[go_sem,f1,f40,f41,f42,Z7,r2];rw[w1];simp +contextual -implicitDefEqProofs only[go_sem,f42];refine⟨⟨(BF.Zt (aa _) _).YX VL _,fun q hq hq1=>?_,VL,f1,f40,f41,i+1,pA,rfl,?_⟩,?_⟩
     .rw[a5,if_neg VL,U,if_neg (fun e=>hq e.symm)];exact ZlD q hq hq1
     .rw[a5,if_neg VL,U,if_pos rfl,if_pos zg,Y8 _ i ZT,bJ,<-hxe]
     .simp only[vi,Zr,↓reduceIte,f42];omega
    .have Xv:¬(i:Int)<(YQ k).length:=pA;obtain rfl:i=(YQ k).length:=pA;rw[bf,jc hk]at xg;have e:Wj k n a b len=if (¬Jn k/\n≠0)\/(¬U2 k/\a≠0)\/(k≠8/\b≠0)\/(k≠1/\0<len) then 3 else 0:=by unfold Wj;rw[if_neg pA,if_neg Pf,if_neg c1]
     rw[e];clear e Pf XL hw;obtain⟨n',NY⟩:=ZL (if Jn k then 0 else n);obtain⟨a',ha'⟩:=ZL (if U2 k then 0 else a);obtain⟨b',Qi⟩:=ZL (if k=8 then 0 else b);rw[<-NY,<-ha',<-Qi]at xg;have y0:hc g ⟨h.size,0,Q⟩=O (t A k):=by rw[Zn xg];rfl
     have y1:hc g ⟨h.size,1,Q⟩=O (t A n'):=by rw[Zn xg];rfl
     have y2:hc g ⟨h.size,2,Q⟩=O (t A a'):=by rw[Zn xg];rfl
     have y3:hc g ⟨h.size,3,Q⟩=O (t A b'):=by rw[Zn xg];rfl
     have y4:hc g ⟨h.size,4,Q⟩=O (M p len c):=by rw[Zn xg];rfl
     have en:(¬Jn k/\n≠0)↔n'≠0:=by rw[NY];by_cases q:Jn k<;>simp[q]
     have ea:(¬U2 k/\a≠0)↔a'≠0:=by rw[ha'];by_cases q:U2 k<;>simp[q]
     have eb:(k≠8/\b≠0)↔b'≠0:=by rw[Qi];by_cases q:k=8<;>simp[q]
     simp only[en,ea,eb];by_cases q1:n'=0
     .by_cases q2:a'=0
      .by_cases q3:b'=0
       .by_cases q4:k=1
        .simp +contextual -implicitDefEqProofs only[go_sem,f1,f40,f41,f42,Xv,y0,y1,y2,y3,q1,q2,q3,q4,BF]
        .by_cases q5:0<len
         .have q5':0<(len:Int):=pA;simp +contextual -implicitDefEqProofs only[go_sem,f1,f40,f41,f42,Xv,y0,y1,y2,y3,y4,q1,q2,q3,q4,q5,q5',BF]
         .have q5':¬0<(len:Int):=pA;simp +contextual -implicitDefEqProofs only[go_sem,f1,f40,f41,f42,Xv,y0,y1,y2,y3,y4,q1,q2,q3,q4,q5,q5',BF]
       .simp +contextual -implicitDefEqProofs only[go_sem,f1,f40,f41,f42,Xv,y0,y1,y2,y3,q1,q2,q3,BF]
      .simp +contextual -implicitDefEqProofs only[go_sem,f1,f40,f41,f42,Xv,y0,y1,y2,q1,q2,BF]
     .simp +contextual -implicitDefEqProofs only[go_sem,f1,f40,f41,f42,Xv,y0,y1,q1,BF]
 .have e:Wj k n a b len=4:=by unfold Wj;rw[if_pos hk]
  simp +contextual -implicitDefEqProofs only[go_sem,hk,e];exact ((Zj.refl h.size h).add _).trans (b1.mono IQ)
end Go.Proofs.YthlfaofofaphfaaGreatDoor
