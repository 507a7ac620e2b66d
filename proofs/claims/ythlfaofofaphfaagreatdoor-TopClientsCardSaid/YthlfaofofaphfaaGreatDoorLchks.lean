/- Part Lchks. -/
import Derived.Test.YthlfaofofaphfaaGreatDoorVst
import Derived.Test.YthlfaofofaphfaaGreatDoorW11
import Derived.Test.YthlfaofofaphfaaGreatDoorLine
import Derived.Test.YthlfaofofaphfaaGreatDoorBytes
open Go.Value renaming int→t,pointer→L,slice→M
open Go.IntKind renaming i64→A,u32→D
open Go.Obj renaming cells→J
open Go.Proofs.Tryz renaming prog→al
open List renaming length→H,getD_eq_getElem?_getD→N,replicate→R,getElem?_eq_getElem→W,mem_append→au,length_append→aU,length_drop→a0,range→ba,getElem?_map→bc,mem_map→be,not_mem_nil→bf,getElem_mem→bg,take_length→bh,mem_cons→br
open Nat renaming mod_eq_of_lt→Z,le_refl→aa,testBit_and→am,mod_lt→aw,lt_of_le_of_lt→aI,mul_mod_mul_right→a2,div_lt_iff_lt_mul→a3,pow_add→a4,eq_of_testBit_eq→a5,pow_le_pow_right→a6,xor_lt_two_pow→a9,add_zero→bd,pow_pos→bl,or_comm→bn,div_le_self→bo,testBit_xor→bp
open Option renaming some→O,none→Q
open Array renaming getElem?_setIfInBounds→U,getElem?_push→a7,ext_getElem?→a8
open Go renaming Value→Y,World→a1
namespace Go.Proofs.YthlfaofofaphfaaGreatDoor
open Go Go.V
set_option linter.unusedSimpArgs false
set_option linter.unusedVariables false
set_option maxRecDepth 100000
variable{s:List Nat}
def rotl(x n:Nat):Nat:=x*2 ^ n%4294967296+x/2 ^ (32-n)
theorem A0{n:Nat}(hn:n<=32):2 ^ (32-n)*2 ^ n=4294967296:=by
 rw[<-a4,show 32-n+n=32 by omega]
theorem kW{x n:Nat}(hx:x<4294967296)(hn:n<=32):rotl x n<4294967296:=by
 unfold rotl;have h1:x*2 ^ n%4294967296=(x%2 ^ (32-n))*2 ^ n:=by
  rw[<-A0 hn,a2]
 have h2:x/2 ^ (32-n)<2 ^ n:=by
  rw[a3 (bl nc),<-a4,show n+(32-n)=32 by omega];exact hx
 have h3:x%2 ^ (32-n)<2 ^ (32-n):=aw _ (bl nc);rw[h1];have h4:(x%2 ^ (32-n)+1)*2 ^ n<=2 ^ (32-n)*2 ^ n:=Nat.mul_le_mul_right _ h3;rw[<-a4,show 32-n+n=32 by omega,Nat.add_mul]at h4;omega
theorem kX{x n:Nat}(hx:x<4294967296)(hn:n<=32):x*2 ^ n%4294967296 ||| x/2 ^ (32-n)=rotl x n:=by
 unfold rotl;refine Um (k:=n) ?_ ?_
 .rw[a3 (bl nc),<-a4,show n+(32-n)=32 by omega];exact hx
 .rw[<-A0 hn,a2,Nat.mul_mod_left]
theorem Hy(x n:Nat)(hn:n<=32):Xm D (x:Int) (n:Int)=((x*2 ^ n%4294967296:Nat):Int):=by
 rw[Cq D x n (by show n<=32;omega),MD];rfl
theorem WQ(x n:Nat)(hn:n<=32):Xx D (x:Int) (n:Int)=((x/2 ^ n:Nat):Int):=by
 rw[OG D x n (by show n<=32;omega),Nat.shiftRight_eq_div_pow]
theorem gG(T:a1)(h:Hp)(x n:Nat)(hx:x<4294967296)(hn:n<=32):
  Zd al T 99 #[t D x,t A n] h fun v' h'=>v'=t D (rotl x n:Nat)/\h'=h:=by
 refine Zd.XS [_,_] Tryz.func99 ?_;have e1:=Hy x n hn;have e2:=WQ x (32-n) nc;have e3:(32:Int)-n=((32-n:Nat):Int):=nc;have e4:=PA (x*2 ^ n%4294967296) (x/2 ^ (32-n)) nc (aI (bo _ _) hx);rw[kX hx hn]at e4;have e5:¬(n:Int)<0:=nc;have e6:¬((32-n:Nat):Int)<0:=nc;simp +contextual -implicitDefEqProofs only[go_sem];refine VS.q mixed uf ?_;simp +contextual -implicitDefEqProofs only[go_sem,e3,e1,e2,e4,e5,e6]
def wv(x:Nat):Y:=t D (x:Nat)
def nv(x:Nat):Y:=t A (x:Nat)
def OI(s:List Nat):Prop:=∀x∈s,x<4294967296
theorem OI.getD(w:OI s)(i:Nat):s.getD i 0<4294967296:=by
 rw[N]
 cases hx:s[i]? with
 | none=>simp
 | some x=>exact w x (List.mem_of_getElem? hx)
theorem OI.set(w:OI s)(i:Nat){y:Nat}(hy:y<4294967296):OI (s.set i y):=by
 intro x hx;rcases List.mem_or_eq_of_mem_set hx with h|h
 .exact w x h
 .rw[h];exact hy
theorem Z6{f:Nat->Y}{g:Hp}{b:Nat}{E:TypeId}{sp:List Y}(hx:g[b]? = O (J (s.map f++sp).toArray E)){i:Nat}(hi:i<(H s)):hc g ⟨b,i,Q⟩=O (f (s.getD i 0)):=by
 rw[Zn hx,YR,List.getElem?_append_left (by simpa using hi),bc,N,W hi];rfl
theorem Yu{f:Nat->Y}{g:Hp}{b:Nat}{E:TypeId}{sp:List Y}(hx:g[b]? = O (J (s.map f++sp).toArray E)){i:Nat}(hi:i<(H s))(y:Nat)(ho:YC (f y)=true):
  QP g ⟨b,i,Q⟩ (f y)=O (g.setIfInBounds b (J ((s.set i y).map f++sp).toArray E)):=by
 rw[Xe hx,if_pos ⟨KQ,ho⟩,List.set_append_left _ _ (by simpa using hi),List.map_set]
theorem Yd{g:Hp}{b:Nat}{o o':Obj}(hx:g[b]? = O o'):(g.setIfInBounds b o)[b]? = O o:=by
 rw[U,if_pos rfl,if_pos (Za hx)]
theorem Vd{g:Hp}{b:Nat}{o:Obj}(hx:g[b]? = O o):g.setIfInBounds b o=g:=by
 apply a8;intro i;rw[U];by_cases hb:b=i
 .subst hb;rw[if_pos rfl,if_pos (Za hx),hx]
 .rw[if_neg hb]
theorem set_set(g:Hp)(b:Nat)(o o':Obj):(g.setIfInBounds b o).setIfInBounds b o'=g.setIfInBounds b o':=by
 apply a8;intro i;rw[U,U,U,Array.size_setIfInBounds];by_cases hb:b=i
 .rw[if_pos hb,if_pos hb]
 .rw[if_neg hb,if_neg hb,if_neg hb]
def Nm(s:List Nat)(a b d n:Nat):List Nat:=
 (s.set a ((s.getD a 0+s.getD b 0)%4294967296)).set d (rotl ((s.set a ((s.getD a 0+s.getD b 0)%4294967296)).getD d 0 ^^^ (s.set a ((s.getD a 0+s.getD b 0)%4294967296)).getD a 0) n)
def NY(s:List Nat)(a b c d:Nat):List Nat:=Nm (Nm (Nm (Nm s a b d 16) c d b 12) a b d 8) c d b 7
theorem Tj{a b:Nat}(ha:a<4294967296)(hb:b<4294967296):a ^^^ b<4294967296:=a9 (n:=32) ha hb
theorem SW(w:OI s)(a b d n:Nat)(hn:n<=32):OI (Nm s a b d n):=by
 unfold Nm;have w1:=w.set a (y:=(s.getD a 0+s.getD b 0)%4294967296) nc;exact w1.set d (kW (Tj (w1.getD d) (w1.getD a)) hn)
theorem MW(s:List Nat)(a b d n:Nat):(Nm s a b d n).length=(H s):=by simp[Nm]
theorem Gy(w:OI s)(a b c d:Nat):OI (NY s a b c d):=
 SW (SW (SW (SW w _ _ _ _ nc) _ _ _ _ nc) _ _ _ _ nc) _ _ _ _ nc
theorem No(s:List Nat)(a b c d:Nat):(NY s a b c d).length=(H s):=by simp[NY,MW]
def pv(j x y:Nat):Nat:=if j%2=0 then x else y
def pn(j:Nat):Nat:=[16,12,8,7].getD j 0
def wC(s:List Nat)(a b c d:Nat):Nat->List Nat
 | 0=>s
 | j+1=>Nm (wC s a b c d j) (pv j a c) (pv j b d) (pv j d b) (pn j)
theorem wE(s:List Nat)(a b c d:Nat):wC s a b c d 4=NY s a b c d:=rfl
theorem Zf1(j:Nat)(hj:j<4):nth [Value.int A 16,t A 12,t A 8,t A 7] j=O (t A (pn j:Nat)):=by
 rcases j with _|_|_|_|j<;>first|rfl|omega
theorem ZeC(j:Nat)(hj:j<4):pn j<=32:=by
 rcases j with _|_|_|_|j<;>first|decide|omega
theorem Hz(j x y:Nat):pv (j+1) x y=pv j y x:=by
 unfold pv;by_cases h:j%2=0
 .rw[if_pos h,if_neg nc]
 .rw[if_neg h,if_pos nc]
theorem Zf2(w:OI s)(a b c d:Nat):∀j,j<=4->OI (wC s a b c d j)/\(wC s a b c d j).length=(H s):=by
 intro j
 induction j with
 | zero=>intro _;exact⟨w,rfl⟩
 | succ j ih=>
  intro hj;obtain⟨h1,h2⟩:=ih nc;exact⟨SW h1 _ _ _ _ (ZeC j nc),by rw[wC,MW,h2]⟩
theorem Gz(T:a1)(h:Hp)(bk:Nat)(s:List Nat)(a b c d:Nat)(hs:(H s)=16)(w:OI s)(ha:a<16)(hb:b<16)(hc:c<16)(hd:d<16)(hx:h[bk]? = O (J (s.map wv++[]).toArray 169)):
  Zd al T 79 #[L (O ⟨bk,0,Q⟩),t A a,t A b,t A c,t A d] h fun v' h'=>h'=h.setIfInBounds bk (J ((NY s a b c d).map wv++[]).toArray 169):=by
 refine Zd.XS [_,_,_,_,_] Tryz.func79 ?_;simp +contextual -implicitDefEqProofs only[go_sem];refine VS.Yj (fun F g=>∃j:Nat,j<=4/\F 0=L (O ⟨bk,0,Q⟩)/\F 1=t A (pv j a c:Nat)/\F 2=t A (pv j b d:Nat)/\F 3=t A (pv j c a:Nat)/\F 4=t A (pv j d b:Nat)/\F 12=.agg [t A 16,t A 12,t A 8,t A 7].toArray/\F 13=t A j/\g=h.setIfInBounds bk (J ((wC s a b c d j).map wv++[]).toArray 169))
  (fun F _=>4-(vi (F 13)).toNat) rfl ⟨0,nc,rfl,rfl,rfl,rfl,rfl,rfl,rfl,?_⟩ ?_
 .exact (Vd hx).symm
 rintro F g ⟨j,hj,f0,f1,f2,f3,f4,f12,f13,rfl⟩;by_cases ZU:j<4
 .have Z8:(j:Int)<4:=nc;have n1:=Zf1 j ZU;have n2:=ZeC j ZU;obtain⟨w1,l1⟩:=Zf2 w a b c d j hj;rw[hs]at l1;have q1:pv j a c<16:=by unfold pv;split<;>assumption
  have q2:pv j b d<16:=by unfold pv;split<;>assumption
  have q4:pv j d b<16:=by unfold pv;split<;>assumption
  have UY:=Yd (o:=J ((wC s a b c d j).map wv++[]).toArray 169) hx;obtain⟨G,hG⟩:=ZQ (h.setIfInBounds bk (J ((wC s a b c d j).map wv++[]).toArray 169));rw[<-hG]at UY ⊢;generalize Ap:wC s a b c d j=st at *;simp +contextual -implicitDefEqProofs only[go_sem,f12,f13,Z8,n1];refine VS.w (bk+1) [13] (.q 0 (.q 1 (.q 2 (.q 3 (.q 4 (.q 5 (.q 6 (.q 7 (.q 8 (.q 9 (.q 10 (.q 11 (.q 12 (.w 13 .nil)))))))))))))) mixed uf ?_;have g1:=Z6 UY (i:=pv j a c) nc;have g2:=Z6 UY (i:=pv j b d) nc;have c1:QP G ⟨bk,pv j a c,Q⟩ (t D ((((st.getD (pv j a c) 0+st.getD (pv j b d) 0)%4294967296:Nat)):Int))=_:=Yu (f:=wv) UY (i:=pv j a c) nc _ rfl;have e1:((st.getD (pv j a c) 0:Int)+(st.getD (pv j b d) 0:Int))%4294967296=(((st.getD (pv j a c) 0+st.getD (pv j b d) 0)%4294967296:Nat):Int):=nc;unfold wv at g1 g2;obtain⟨y,hy⟩:=ZQ ((st.getD (pv j a c) 0+st.getD (pv j b d) 0)%4294967296);have Zr6:y<4294967296:=nc;rw[<-hy]at c1 e1;simp +contextual -implicitDefEqProofs only[go_sem,f0,f1,f2,g1,g2,e1,c1];have NV:=Yd (o:=J ((st.set (pv j a c) y).map wv++[]).toArray 169) UY;have w2:=w1.set (pv j a c) Zr6;have l2:(st.set (pv j a c) y).length=16:=by rw[List.length_set,l1]
  have Zr7:wC s a b c d (j+1)=(st.set (pv j a c) y).set (pv j d b) (rotl ((st.set (pv j a c) y).getD (pv j d b) 0 ^^^ (st.set (pv j a c) y).getD (pv j a c) 0) (pn j)):=by
   rw[wC,Ap,Nm,<-hy]
  rw[hG];generalize st.set (pv j a c) y=st2 at *;refine VS.w (bk+1) [17] (.q 0 (.q 1 (.q 2 (.q 3 (.q 4 (.q 5 (.q 6 (.q 7 (.q 8 (.q 9 (.q 10 (.q 11 (.q 12 (.q 13 (.q 15 (.s 14 (.q 16 (.w 17 .nil)))))))))))))))))) mixed uf ?_;clear NV;rw[set_set];have NV:(h.setIfInBounds bk (J (st2.map wv++[]).toArray 169))[bk]? = O (J (st2.map wv++[]).toArray 169):=Yd hx;obtain⟨G2,kY⟩:=ZQ (h.setIfInBounds bk (J (st2.map wv++[]).toArray 169));rw[<-kY]at NV ⊢;have g3:=Z6 NV (i:=pv j d b) nc;have g4:=Z6 NV (i:=pv j a c) nc;unfold wv at g3 g4;have e2:=Uf (st2.getD (pv j d b) 0) (st2.getD (pv j a c) 0) (w2.getD _) (w2.getD _);have hz:=Tj (w2.getD (pv j d b)) (w2.getD (pv j a c));generalize st2.getD (pv j d b) 0 ^^^ st2.getD (pv j a c) 0=z at *;simp +contextual -implicitDefEqProofs only[go_sem,f0,f1,f4,g3,g4,e2];refine (gG T _ z (pn j) hz n2).pure ?_;have c2:QP G2 ⟨bk,pv j d b,Q⟩ (t D ((rotl z (pn j):Nat):Int))=_:=Yu (f:=wv) NV (i:=pv j d b) nc _ rfl;simp +contextual -implicitDefEqProofs only[go_sem,c2,f1,f2,f3,f4,f12,f13];refine⟨⟨j+1,nc,f0,?_,?_,?_,?_,f12,rfl,?_⟩,?_⟩
  .rw[Hz];rfl
  .rw[Hz];rfl
  .rw[Hz];rfl
  .rw[Hz];rfl
  .rw[kY,set_set,Zr7]
  .simp only[vi,Zr,↓reduceIte,f13];omega
 .have Xp:¬(j:Int)<4:=nc;obtain rfl:j=4:=nc;simp +contextual -implicitDefEqProofs only[go_sem,f12,f13,Xp];rw[wE]
theorem Zb8{h:Hp}{v:Y}{l:List Nat}(s:Ts (fun x=>[nv x]) 1 h v l):∃p cap,v=M p (H l) cap/\(l≠[]->∃b o,p=O ⟨b,o,Q⟩/\b<h.size/\∀i,i<(H l)->hc h ⟨b,o+i,Q⟩=O (t A (l.getD i 0:Nat))):=by
 obtain⟨p,cap,hv,Wr⟩:=Ts.open (enc:=fun x=>[nv x]) (n:=1) (fun _=>rfl) Nat.one_ne_zero s;refine⟨p,cap,hv,fun Y4=>?_⟩;obtain⟨b,o,hp,hb,XE⟩:=Wr Y4;refine⟨b,o,hp,hb,fun i hi=>?_⟩;have:=(XE i hi).hc (i:=0) rfl;rw[Nat.mul_one,bd]at this;rw[this,N,W hi];rfl
def rr(x n:Nat):Nat:=rotl x (32-n)
theorem Ws{x n:Nat}(hx:x<4294967296):rr x n<4294967296:=kW hx nc
def sg0(x:Nat):Nat:=rr x 7 ^^^ rr x 18 ^^^ x/8
def sg1(x:Nat):Nat:=rr x 17 ^^^ rr x 19 ^^^ x/1024
def bg0(x:Nat):Nat:=rr x 2 ^^^ rr x 13 ^^^ rr x 22
def oR(x:Nat):Nat:=rr x 6 ^^^ rr x 11 ^^^ rr x 25
theorem Zr8{a b:Nat}(ha:a<256)(hb:b<256):a ^^^ b<256:=a9 (n:=8) ha hb
theorem U1{a b:Nat}(ha:a<4294967296):a &&& b<4294967296:=aI Nat.and_le_left ha
theorem ZeD{e:Nat}(he:e<4294967296):4294967295 ^^^ e=4294967295-e:=by
 have h1:(BitVec.allOnes 32 ^^^ BitVec.ofNat 32 e).toNat=(~~~ (BitVec.ofNat 32 e)).toNat:=by rw[BitVec.allOnes_xor]
 rw[BitVec.toNat_xor,BitVec.toNat_not,BitVec.toNat_allOnes,BitVec.toNat_ofNat,Z nc]at h1;exact h1
theorem oS{a b:Nat}(ha:a<4294967296)(hb:b<4294967296)(h:a &&& b=0):a ^^^ b=a+b:=by
 have hx:BitVec.ofNat 33 a &&& BitVec.ofNat 33 b=0#33:=by
  apply BitVec.eq_of_toNat_eq;rw[BitVec.toNat_and,BitVec.toNat_ofNat,BitVec.toNat_ofNat,Z nc,Z nc,h];rfl
 have h1:=BitVec.add_eq_or_of_and_eq_zero _ _ hx;have h2:BitVec.ofNat 33 a ||| BitVec.ofNat 33 b=BitVec.ofNat 33 a ^^^ BitVec.ofNat 33 b:=by
  apply BitVec.eq_of_getLsbD_eq;intro i hi;have:=congrArg (·.getLsbD i) hx
  simp only[BitVec.getLsbD_and,BitVec.getLsbD_zero]at this;rw[BitVec.getLsbD_or,BitVec.getLsbD_xor]
  revert this
  cases (BitVec.ofNat 33 a).getLsbD i<;>cases (BitVec.ofNat 33 b).getLsbD i<;>simp
 have h3:=congrArg BitVec.toNat (h1.trans h2);rw[BitVec.toNat_add,BitVec.toNat_xor,BitVec.toNat_ofNat,BitVec.toNat_ofNat,Z (by omega:a<2 ^ 33),Z (by omega:b<2 ^ 33),Z (by omega:a+b<2 ^ 33)]at h3;exact h3.symm
def chw(e f g:Nat):Nat:=(e &&& f)+((4294967295-e) &&& g)
def oU(a b c:Nat):Nat:=(a &&& b) ||| (a &&& c) ||| (b &&& c)
theorem wF{e f g:Nat}(he:e<4294967296):(e &&& f) &&& ((4294967295-e) &&& g)=0:=by
 rw[<-ZeD he];apply a5;intro i;rw[am,am,am,bp,Nat.zero_testBit];by_cases hi:i<32
 .have:Nat.testBit 4294967295 i=true:=by
   rw[show (4294967295:Nat)=2 ^ 32-1 from rfl,Nat.testBit_two_pow_sub_one];simpa using hi
  rw[this]
  cases e.testBit i<;>simp
 .have:e.testBit i=false:=Nat.testBit_lt_two_pow (Nat.lt_of_lt_of_le he (a6 (n:=2) nc (by omega:32<=i)));rw[this];simp
theorem Zb9{e f g:Nat}(he:e<4294967296)(hg:g<4294967296):(e &&& f) ^^^ ((4294967295-e) &&& g)=chw e f g:=
 oS (U1 he) (U1 nc) (wF he)
theorem wG(a b c:Nat):(a &&& b) ^^^ (a &&& c) ^^^ (b &&& c)=oU a b c:=by
 unfold oU;apply a5;intro i;simp only[bp,Nat.testBit_or,am]
 cases a.testBit i<;>cases b.testBit i<;>cases c.testBit i<;>rfl
theorem A7{a k:Nat}(ha:a<4294967296):a/k<4294967296:=aI (bo _ _) ha
theorem A9(e:Nat):4294967295-e<4294967296:=nc
theorem Zkm{a:Nat}(ha:a<4294967296):a<9223372036854775808:=Nat.lt_trans ha aaa
theorem r64{a b:Nat}(ha:a<4294967296)(hb:b<4294967296):YM .or A (a:Int) (b:Int)=((a ||| b:Nat):Int):=NK a b (Zkm ha) (Zkm hb)
theorem Zca{e:Nat}(he:e<4294967296):YM .xor D (4294967295:Int) (e:Int)=((4294967295-e:Nat):Int):=by
 have:=Uf 4294967295 e aaa he;rw[ZeD he]at this;exact this
theorem Zf4{e f g:Nat}(he:e<4294967296)(hg:g<4294967296):YM .xor D ((e &&& f:Nat):Int) (((4294967295-e) &&& g:Nat):Int)=((chw e f g:Nat):Int):=by
 rw[Uf _ _ (U1 he) (U1 (A9 e)),Zb9 he hg]
theorem Zcb{a b c:Nat}(ha:a<4294967296)(hb:b<4294967296):YM .xor D (((a &&& b) ^^^ (a &&& c):Nat):Int) ((b &&& c:Nat):Int)=((oU a b c:Nat):Int):=by
 rw[Uf _ _ (Tj (U1 ha) (U1 ha)) (U1 hb),wG]
def kN:List Nat:=[
 1116352408,1899447441,3049323471,3921009573,961987163,1508970993,2453635748,2870763221,
 3624381080,310598401,607225278,1426881987,1925078388,2162078206,2614888103,3248222580,
 3835390401,4022224774,264347078,604807628,770255983,1249150122,1555081692,1996064986,
 2554220882,2821834349,2952996808,3210313671,3336571891,3584528711,113926993,338241895,
 666307205,773529912,1294757372,1396182291,1695183700,1986661051,2177026350,2456956037,
 2730485921,2820302411,3259730800,3345764771,3516065817,3600352804,4094571909,275423344,
 430227734,506948616,659060556,883997877,958139571,1322822218,1537002063,1747873779,
 1955562222,2024104815,2227730452,2361852424,2428436474,2756734187,3204031479,3329325298]
theorem Zf5:OI kN:=by unfold OI;decide +kernel
def CR(b s:List Nat):Nat:=if (H s)<16 then XB b (4*(H s)) else (s.getD ((H s)-16) 0+sg0 (s.getD ((H s)-15) 0)+s.getD ((H s)-7) 0+sg1 (s.getD ((H s)-2) 0))%4294967296
def Uw(b:List Nat):Nat->List Nat
 | 0=>[]
 | n+1=>Uw b n++[CR b (Uw b n)]
theorem Qi(b:List Nat):∀n,(Uw b n).length=n
 | 0=>rfl
 | n+1=>by rw[Uw,aU,Qi b n];rfl
def O9(l:List Nat):Prop:=∀x∈l,x<256
theorem Zf6{b:List Nat}(hb:O9 b)(i:Nat):XB b i<4294967296:=by
 have h0:=Z2 hb i;have h1:=Z2 hb (i+1);have h2:=Z2 hb (i+2);have h3:=Z2 hb (i+3);unfold XB;omega
theorem Zcc{b:List Nat}(hb:O9 b)(s:List Nat):CR b s<4294967296:=by
 unfold CR;split
 .exact Zf6 hb _
 .omega
theorem GA{b:List Nat}(hb:O9 b):∀n,OI (Uw b n)
 | 0=>fun x hx=>by cases hx
 | n+1=>fun x hx=>by
  rw[Uw,au,List.mem_singleton]at hx;rcases hx with hx|rfl
  .exact GA hb n x hx
  .exact Zcc hb _
def upw(e f g h k w:Nat):Nat:=(h+oR e+chw e f g+k+w)%4294967296
def wH(v:List Nat)(k w:Nat):List Nat:=
 match v with
 | [a,b,c,d,e,f,g,h]=>[(upw e f g h k w+bg0 a+oU a b c)%4294967296,a,b,c,(d+upw e f g h k w)%4294967296,e,f,g]
 | v=>v
theorem eight{v:List Nat}(h:(H v)=8):∃a b c d e f g k,v=[a,b,c,d,e,f,g,k]:=by
 match v,h with
 | [a,b,c,d,e,f,g,k],_=>exact⟨a,b,c,d,e,f,g,k,rfl⟩
theorem ab{v:List Nat}(h:(H v)=8)(k w:Nat):(wH v k w).length=8:=by
 obtain⟨a,b,c,d,e,f,g,j,rfl⟩:=eight h;rfl
theorem wI{v:List Nat}(h:(H v)=8)(hv:OI v)(k w:Nat):OI (wH v k w):=by
 obtain⟨a,b,c,d,e,f,g,j,rfl⟩:=eight h;intro x hx;simp only[wH,br,bf,or_false]at hx;rcases hx with rfl|rfl|rfl|rfl|rfl|rfl|rfl|rfl
 all_goals first|exact aw _ nc|exact hv _ Hg
def Ux(b v:List Nat):Nat->List Nat
 | 0=>v
 | i+1=>wH (Ux b v i) (kN.getD i 0) ((Uw b 64).getD i 0)
theorem PO{b v:List Nat}(h:(H v)=8)(hv:OI v):∀i,(Ux b v i).length=8/\OI (Ux b v i)
 | 0=>⟨h,hv⟩
 | i+1=>⟨ab (PO h hv i).1 _ _,wI (PO h hv i).1 (PO h hv i).2 _ _⟩
def PP(d v:List Nat):List Nat:=List.zipWith (fun x y=>(x+y)%4294967296) d v
theorem PQ{d v:List Nat}(h:(H d)=8)(k:(H v)=8):(PP d v).length=8:=by simp[PP,h,k]
theorem wJ(d v:List Nat):OI (PP d v):=by
 intro x hx;unfold PP at hx;rw[List.zipWith_eq_zipWith_take_min]at hx;obtain⟨i,hi,rfl⟩:=List.mem_iff_getElem.1 hx;rw[List.getElem_zipWith];omega
theorem oV{d v:List Nat}(h:(H d)=8)(k:(H v)=8){i:Nat}(hi:i<8):(PP d v).getD i 0=(d.getD i 0+v.getD i 0)%4294967296:=by
 have e1:i<(PP d v).length:=by rw[PQ h k];exact hi
 rw[N,W e1,N,N,W (show i<(H d) by omega),W (show i<(H v) by omega)];simp[PP]
def ad(d b:List Nat):List Nat:=PP d (Ux b d 64)
theorem wM{d b:List Nat}(h:(H d)=8)(hv:OI d):(ad d b).length=8/\OI (ad d b):=⟨PQ h (PO h hv 64).1,wJ _ _⟩
def wP:List Nat:=[1779033703,3144134277,1013904242,2773480762,1359893119,2600822924,528734635,1541459225]
theorem wU:OI wP:=by unfold OI;decide
def ae(p:List Nat):Nat->List Nat
 | 0=>wP
 | j+1=>ad (ae p j) ((p.drop (64*j)).take 64)
theorem MX(p:List Nat):∀j,(ae p j).length=8/\OI (ae p j)
 | 0=>⟨rfl,wU⟩
 | j+1=>wM (MX p j).1 (MX p j).2
def Ew(n:Nat):Nat:=(119-n%64)%64
def PS(l:List Nat)(j:Nat):List Nat:=l++128 :: R j 0
def T5(l:List Nat):List Nat:=PS l (Ew (H l))++(0 :: 0 :: 0 :: 0 :: Xl (8*(H l)))
def oW(n:Nat):Nat:=(n+72)/64
theorem MY(l:List Nat)(j:Nat):(PS l j).length=(H l)+j+1:=by simp[PS];omega
theorem CS(l:List Nat):(T5 l).length=64*oW (H l):=by
 rw[T5,aU,MY];simp only[Xl,List.length_cons,List.length_nil,Ew,oW];omega
theorem af{n j:Nat}(hj:j<=Ew n):(n+j+1)%64=56↔j=Ew n:=by unfold Ew at *;omega
theorem gH(l:List Nat)(j:Nat):PS l (j+1)=PS l j++[0]:=by
 unfold PS;rw[List.append_assoc,List.cons_append,List.replicate_succ']
def TH(l:List Nat):List Nat:=ZC (ae (T5 l) (oW (H l)))
theorem Qj(l:List Nat):(TH l).length=32:=by rw[TH,ZM,(MX _ _).1]
theorem Ex(xs:List Nat):O9 (ZC xs):=by
 intro x hx;unfold ZC at hx;obtain⟨y,_,hy⟩:=List.mem_flatMap.1 hx;exact UF y x hy
theorem oX(l:List Nat):O9 (TH l):=Ex _
def wX(l:List Nat)(i:Nat):Nat:=l.getD i 0+256*l.getD (i+1) 0+65536*l.getD (i+2) 0+16777216*l.getD (i+3) 0
theorem gI{l:List Nat}(hb:∀x∈l,x<256)(i:Nat):wX l i<4294967296:=by
 have b0:=Z2 hb i;have b1:=Z2 hb (i+1);have b2:=Z2 hb (i+2);have b3:=Z2 hb (i+3);unfold wX;omega
theorem ag(l:List Nat)(k:Nat):wX (l.drop k) 0=wX l k:=by
 unfold wX;simp only[N,List.getElem?_drop,bd,Nat.zero_add]
theorem NZ{x k:Nat}(hx:x<256)(hk:k<=24):Xm D (x:Int) (k:Int)=((x*2 ^ k:Nat):Int):=by
 rw[Hy x k nc,Z];have:2 ^ k<=2 ^ 24:=a6 nc hk;have h2:x*2 ^ k<=255*2 ^ 24:=Nat.mul_le_mul nc this;omega
theorem Zcd{a b c d:Nat}(ha:a<256)(hb:b<256)(hc:c<256)(hd:d<256):
  YM .or D (YM .or D (YM .or D (a:Int) (Xm D b 8)) (Xm D c 16)) (Xm D d 24)=((a+256*b+65536*c+16777216*d:Nat):Int):=by
 have e1:Xm D (b:Int) 8=((b*256:Nat):Int):=NZ (k:=8) hb nc;have e2:Xm D (c:Int) 16=((c*65536:Nat):Int):=NZ (k:=16) hc nc;have e3:Xm D (d:Int) 24=((d*16777216:Nat):Int):=NZ (k:=24) hd nc;have f1:a ||| b*256=a+256*b:=by rw[bn,Um (k:=8) nc nc];omega
 have f2:(a+256*b) ||| c*65536=a+256*b+65536*c:=by rw[bn,Um (k:=16) nc nc];omega
 have f3:(a+256*b+65536*c) ||| d*16777216=a+256*b+65536*c+16777216*d:=by rw[bn,Um (k:=24) nc nc];omega
 rw[e1,e2,e3,PA _ _ nc nc,f1,PA _ _ nc nc,f2,PA _ _ nc nc,f3]
theorem kZ(T:a1)(h:Hp)(v:Y)(l:List Nat)(s:Bs h v l)(hi:4<=(H l)):
  Zd al T 78 #[v] h fun v' h'=>v'=t D (wX l 0:Nat)/\h'=h:=by
 obtain⟨p,c,rfl,Wr⟩:=s.VA;obtain⟨b,o,rfl,hb,XE⟩:=Wr (by intro e;subst e;simp at hi);refine Zd.XS [_] Tryz.func78 ?_;have e0:=XE 0 nc;have e1:=XE 1 nc;have e2:=XE 2 nc;have e3:=XE 3 nc;have b0:=Z2 s.byte 0;have b1:=Z2 s.byte 1;have b2:=Z2 s.byte 2;have b3:=Z2 s.byte 3;rw[bd]at e0;have eo:=Zcd b0 b1 b2 b3;rw[show l.getD 0 0+256*l.getD 1 0+65536*l.getD 2 0+16777216*l.getD 3 0=wX l 0 from rfl]at eo;simp +contextual -implicitDefEqProofs only[go_sem];refine VS.q mixed uf ?_;have m0:((l.getD 0 0:Nat):Int)%4294967296=(l.getD 0 0:Nat):=nc;have m1:((l.getD 1 0:Nat):Int)%4294967296=(l.getD 1 0:Nat):=nc;have m2:((l.getD 2 0:Nat):Int)%4294967296=(l.getD 2 0:Nat):=nc;have m3:((l.getD 3 0:Nat):Int)%4294967296=(l.getD 3 0:Nat):=nc;simp +contextual -implicitDefEqProofs only[go_sem,e0,e1,e2,e3,m0,m1,m2,m3,eo]
def gJ(a:Option Addr)(n cap l:Nat):Option Addr:=if cap=l then a else a.map (·.add (l*n))
theorem WC{K:Y->Hp->Prop}{h:Hp}{a:Option Addr}{n cap b l:Nat}:Nh a n cap b (O l) K h=K (M (gJ a n cap l) (b-l) (cap-l)) h:=rfl
theorem OJ{h:Hp}{p:Option Addr}{c m:Nat}{l:List Nat}(s:Bs h (M p m c) l)(hm:(H l)=m){k:Nat}(hk:k<=m)(W0:m<=c)(c':Nat):Bs h (M (gJ p 1 c k) (m-k) c') (l.drop k):=by
 subst hm;unfold gJ;refine⟨?_,fun x hx=>s.byte x (List.mem_of_mem_drop hx)⟩;obtain⟨p',cap,hv,hl,hc⟩:=s.sl;simp only[Value.slice.injEq]at hv;obtain⟨rfl,_,rfl⟩:=hv;refine⟨_,c',by rw[a0],Hg,fun Y4=>?_⟩;have ZU:k<(H l):=by
  rw[<-List.length_pos_iff]at Y4;simp at Y4;omega
 obtain⟨b,o,rfl,XE⟩:=hc (by intro e;simp at e;subst e;simp at ZU);refine⟨b,o+k,?_,fun i hi=>?_⟩
 .rw[if_neg nc];simp only[Option.map_some,XJ,Nat.mul_one]
 .have kK:i<(H l)-k:=by simpa using hi
  rw[show o+k+i=o+(k+i) by omega,XE (k+i) KQ];simp
def Np(key:List Nat)(I5:Nat)(ZD:List Nat):List Nat:=[1634760805,857760878,2036477234,1797285236]++(ba 8).map (fun i=>wX key (4*i))++(I5 :: (ba 3).map (fun i=>wX ZD (4*i)))
def gK(s:List Nat):Nat->List Nat
 | 0=>s
 | i+1=>NY (gK s i) i (4+i) (8+i) (12+i)
def diags(s:List Nat):Nat->List Nat
 | 0=>s
 | i+1=>NY (diags s i) i (4+(i+1)%4) (8+(i+2)%4) (12+(i+3)%4)
def PT(s:List Nat):Nat->List Nat
 | 0=>s
 | r+1=>diags (gK (PT s r) 4) 4
def Zkn(x s:List Nat)(k:Nat):Nat:=(x.getD (k/4) 0+s.getD (k/4) 0)%4294967296/256 ^ (k%4)%256
def Ey(x s:List Nat):List Nat:=(ba 64).map (Zkn x s)
def Jr(key:List Nat)(I5:Nat)(ZD:List Nat):List Nat:=Ey (PT (Np key I5 ZD) 10) (Np key I5 ZD)
theorem CT(w:OI s):∀i,OI (gK s i)/\(gK s i).length=(H s):=by
 intro i
 induction i with
 | zero=>exact⟨w,rfl⟩
 | succ i ih=>exact⟨Gy ih.1 _ _ _ _,by rw[gK,No,ih.2]⟩
theorem ah(w:OI s):∀i,OI (diags s i)/\(diags s i).length=(H s):=by
 intro i
 induction i with
 | zero=>exact⟨w,rfl⟩
 | succ i ih=>exact⟨Gy ih.1 _ _ _ _,by rw[diags,No,ih.2]⟩
theorem lj(w:OI s):∀i,OI (PT s i)/\(PT s i).length=(H s):=by
 intro i
 induction i with
 | zero=>exact⟨w,rfl⟩
 | succ i ih=>
  obtain⟨c1,c2⟩:=CT ih.1 4;obtain⟨d1,d2⟩:=ah c1 4;exact⟨d1,by rw[PT,d2,c2,ih.2]⟩
theorem CU(key:List Nat)(I5:Nat)(ZD:List Nat):(Np key I5 ZD).length=16:=by simp[Np]
theorem oY{key ZD:List Nat}{I5:Nat}(hk:∀x∈key,x<256)(hn:∀x∈ZD,x<256)(hc:I5<4294967296):OI (Np key I5 ZD):=by
 intro x hx;unfold Np at hx;simp only[au,br,be,List.mem_range,bf,or_false]at hx;rcases hx with ((rfl|rfl|rfl|rfl)|⟨i,_,rfl⟩)|rfl|⟨i,_,rfl⟩
 .omega
 .omega
 .omega
 .omega
 .exact gI hk _
 .exact hc
 .exact gI hn _
theorem QX(xs zs:List Nat)(i:Nat)(hi:i<(H xs))(hz:(H xs)=(H zs)):(xs.take i++zs.drop i).set i (xs.getD i 0)=xs.take (i+1)++zs.drop (i+1):=by
 rw[<-L1 xs zs i hi hz,N,W hi];rfl
theorem Di(key ZD:List Nat)(I5 i:Nat)(hi:i<8):(Np key I5 ZD).getD (4+i) 0=wX key (4*i):=by
 rcases i with _|_|_|_|_|_|_|_|i<;>first|rfl|omega
theorem ai(key ZD:List Nat)(I5 i:Nat)(hi:i<3):(Np key I5 ZD).getD (13+i) 0=wX ZD (4*i):=by
 rcases i with _|_|_|i<;>first|rfl|omega
theorem GB(f:Nat->Nat){m k:Nat}(hk:k<m):((ba m).map f).getD k 0=f k:=by
 simp[N,hk]
theorem OK(x s:List Nat)(i j:Nat)(hi:i<16)(hj:j<4):(Ey x s).getD (4*i+j) 0=(x.getD i 0+s.getD i 0)%4294967296/256 ^ j%256:=by
 unfold Ey;rw[GB _ nc];unfold Zkn;rw[show (4*i+j)/4=i by omega,show (4*i+j)%4=j by omega]
theorem GC(x s:List Nat):∀y∈Ey x s,y<256:=by
 intro y hy;unfold Ey at hy;obtain⟨k,_,rfl⟩:=be.1 hy;exact aw _ aaa
def ln:List Nat:=R 16 0
theorem Ik(T:a1)(h:Hp)(p q:Option Addr)(m n c d:Nat)(k:Int):
  Zd al T 60 #[M p m c,t A k,M q n d] h fun v' h'=>v'=t A (if m≠32\/n≠12 then 1 else if k<0\/1073741824<k then 2 else 0)/\h'=h:=by
 refine Zd.XS [_,_,_] Tryz.func60 ?_;by_cases q1:(m:Int)=32
 .by_cases q2:(n:Int)=12
  .rw[if_neg nc];by_cases q3:k<0
   .rw[if_pos nc];simp +contextual -implicitDefEqProofs only[go_sem,q1,q2,q3]
   .by_cases q4:1073741824<k
    .rw[if_pos nc];simp +contextual -implicitDefEqProofs only[go_sem,q1,q2,q3,q4]
    .rw[if_neg nc];simp +contextual -implicitDefEqProofs only[go_sem,q1,q2,q3,q4]
  .rw[if_pos nc];simp +contextual -implicitDefEqProofs only[go_sem,q1,q2]
 .rw[if_pos nc];simp +contextual -implicitDefEqProofs only[go_sem,q1]
theorem MZ(T:a1)(h:Hp)(v u:Y)(key ZD:List Nat)(I5:Nat)(sk:Bs h v key)(sn:Bs h u ZD)(hk:(H key)=32)(hn:(H ZD)=12)(hc:I5<4294967296)(ck:Ph v)(cn:Ph u):
  Zd al T 61 #[v,t D I5,u] h fun v' h'=>v'=.agg ((Jr key I5 ZD).map bv).toArray/\Zk h.size h h':=by
 obtain⟨p,c,rfl,_⟩:=sk.open;obtain⟨q,d,rfl,_⟩:=sn.open;rw[hk]at sk ck ⊢;rw[hn]at sn cn ⊢;have ck:32<=c:=ck;have cn:12<=d:=cn;refine Zd.XS [_,_,_] Tryz.func61 ?_;obtain⟨S,hS⟩:=ZQ (Np key I5 ZD);have gL:(H S)=16:=by rw[hS];exact CU _ _ _
 have hSZ:(H S)=(H ln):=gL;have fl:∀k,k<=16->(S.take k++ln.drop k).length=16:=fun k hk=>by rw[TX _ _ _ (by omega) hSZ,gL]
 simp +contextual -implicitDefEqProofs only[go_sem];refine VS.Yj (fun F g=>Zk (h.size+1) (h.push (J ((R 64 0).map bv).toArray 144)) g/\F 0=M p 32 c/\F 1=t D I5/\F 2=M q 12 d/\F 6=L (O ⟨h.size,0,Q⟩)/\F 7=L (O ⟨h.size+1,0,Q⟩)/\∃i:Nat,i<=8/\F 17=t A i/\g[h.size+1]? = O (J ((S.take (4+i)++ln.drop (4+i)).map wv++[]).toArray 169))
  (fun F _=>8-(vi (F 17)).toNat) rfl ⟨Zk.push (by simp) _,rfl,rfl,rfl,rfl,rfl,0,by omega,rfl,?_⟩ ?_
 .subst hS;have e:=Zc (h:=h.push (J ((R 64 0).map bv).toArray 144)) (o:=J ((List.take (4+0) (Np key I5 ZD)++List.drop (4+0) ln).map wv++[]).toArray 169);rw[Array.size_push]at e;exact e
 rintro F g ⟨hg,f0,f1,f2,f6,f7,i,hi,f17,hx⟩;by_cases ZU:i<8
 .have Z8:(i:Int)<8:=by omega
  have t4:(4*(i:Int)).toNat=4*i:=by omega
  have t5:((4:Int)+i).toNat=4+i:=by omega
  simp +contextual -implicitDefEqProofs only[go_sem,f0,f7,f17,Z8,t4,t5,WC];have tH:=OJ (sk.Yy ((Zk.push (aa _) _).trans (hg.mono (by omega)))) hk (k:=4*i) (by omega) ck (c-4*i);refine (kZ T _ _ _ tH (by rw[a0];omega)).pure ?_;rw[ag,<-Di key ZD I5 i ZU,<-hS];have hSi:S.getD (4+i) 0<4294967296:=by rw[hS,Di key ZD I5 i ZU];exact gI sk.byte _
  have c1:QP g ⟨h.size+1,4+i,Q⟩ (t D (S.getD (4+i) 0:Nat))=_:=Yu (f:=wv) hx (i:=4+i) (by rw[fl _ (by omega)];omega) _ rfl;rw[QX S ln (4+i) (by omega) hSZ]at c1;simp +contextual -implicitDefEqProofs only[go_sem,f7,f17,t5,c1];refine⟨⟨hg.Zt (by omega) _,f0,f1,f2,f6,f7,i+1,ZU,rfl,?_⟩,?_⟩
  .exact Yd hx
  .simp only[vi,Zr,↓reduceIte,f17];omega
 .have Xp:¬(i:Int)<8:=by omega
  obtain rfl:i=8:=by omega
  have c1:QP g ⟨h.size+1,12,Q⟩ (t D (S.getD 12 0:Nat))=_:=Yu (f:=wv) hx (i:=12) (by rw[fl _ (by omega)];omega) _ rfl;have s12:S.getD 12 0=I5:=by rw[hS];rfl
  rw[QX S ln 12 (by omega) hSZ,s12]at c1;have hx:=Yd (o:=J ((S.take 13++ln.drop 13).map wv++[]).toArray 169) hx;have hg:=hg.Zt (b:=h.size+1) (by omega) (J ((S.take 13++ln.drop 13).map wv++[]).toArray 169);simp +contextual -implicitDefEqProofs only[go_sem,f0,f1,f7,f17,Xp,c1];obtain⟨G,hG⟩:=ZQ (g.setIfInBounds (h.size+1) (J ((S.take 13++ln.drop 13).map wv++[]).toArray 169):Hp);rw[<-hG]at hx hg ⊢;clear hG c1 s12;refine VS.Yj (fun F g=>Zk (h.size+1) (h.push (J ((R 64 0).map bv).toArray 144)) g/\F 2=M q 12 d/\F 6=L (O ⟨h.size,0,Q⟩)/\F 7=L (O ⟨h.size+1,0,Q⟩)/\∃i:Nat,i<=3/\F 31=t A i/\g[h.size+1]? = O (J ((S.take (13+i)++ln.drop (13+i)).map wv++[]).toArray 169))
   (fun F _=>3-(vi (F 31)).toNat) rfl ⟨hg,f2,f6,f7,0,by omega,rfl,hx⟩ ?_
  clear f0 f1 f2 f6 f7 f17 hg hx F;rintro F g ⟨hg,f2,f6,f7,i,hi,f31,hx⟩;by_cases ZU:i<3
  .have Z8:(i:Int)<3:=by omega
   have t4:(4*(i:Int)).toNat=4*i:=by omega
   have t5:((13:Int)+i).toNat=13+i:=by omega
   simp +contextual -implicitDefEqProofs only[go_sem,f2,f7,f31,Z8,t4,t5,WC];have tH:=OJ (sn.Yy ((Zk.push (aa _) _).trans (hg.mono (by omega)))) hn (k:=4*i) (by omega) cn (d-4*i);refine (kZ T _ _ _ tH (by rw[a0];omega)).pure ?_;rw[ag,<-ai key ZD I5 i ZU,<-hS];have c1:QP g ⟨h.size+1,13+i,Q⟩ (t D (S.getD (13+i) 0:Nat))=_:=Yu (f:=wv) hx (i:=13+i) (by rw[fl _ (by omega)];omega) _ rfl;rw[QX S ln (13+i) (by omega) hSZ]at c1;simp +contextual -implicitDefEqProofs only[go_sem,f7,f31,t5,c1];refine⟨⟨hg.Zt (by omega) _,f2,f6,f7,i+1,ZU,rfl,?_⟩,?_⟩
   .exact Yd hx
   .simp only[vi,Zr,↓reduceIte,f31];omega
  .have Xp:¬(i:Int)<3:=by omega
   obtain rfl:i=3:=by omega
   have e16:S.take (13+3)++ln.drop (13+3)=S:=by
    have:=L4 S ln hSZ;rw[gL]at this;exact this
   rw[e16]at hx;have y1:=Zy (n:=16) hx (by simp[gL]);have wZ:(S.map wv++[]).length=16:=by simp[gL]
   have I0:(S.map wv++[]).all YC=true:=by simp[wv,YC]
   have hl3:Y9 (ln.map wv) 0 (S.map wv++[])=S.map wv++[]:=Z3 (by rw[wZ];rfl);have hl3:Y9 [Value.int D 0,Value.int D 0,Value.int D 0,Value.int D 0,Value.int D 0,Value.int D 0,Value.int D 0,Value.int D 0,Value.int D 0,Value.int D 0,Value.int D 0,Value.int D 0,Value.int D 0,Value.int D 0,Value.int D 0,Value.int D 0] 0 (S.map wv++[])=S.map wv++[]:=hl3;have wS:OI S:=by rw[hS];exact oY sk.byte sn.byte hc
   have PU:=Za hx;simp +contextual -implicitDefEqProofs only[go_sem,f6,f7,f31,Xp,y1,wZ,I0,hl3];clear hl3 y1;obtain⟨G,hG⟩:=ZQ (g.push (J (S.map wv++[]).toArray 169):Hp);have hxG:G[g.size]? = O (J ((PT S 0).map wv++[]).toArray 169):=by rw[hG];exact Zc
   have hGb:Zk g.size g G:=by rw[hG];exact Zk.push (aa _) _
   rw[<-hG];clear hG;refine VS.Yj (fun F g'=>Zk g.size g g'/\F 6=L (O ⟨h.size,0,Q⟩)/\F 7=L (O ⟨h.size+1,0,Q⟩)/\F 10=L (O ⟨g.size,0,Q⟩)/\∃r:Nat,r<=10/\F 44=t A r/\g'[g.size]? = O (J ((PT S r).map wv++[]).toArray 169))
    (fun F _=>10-(vi (F 44)).toNat) rfl ⟨hGb,f6,f7,rfl,0,by omega,rfl,hxG⟩ ?_
   clear f2 f6 f7 f31 hxG hGb G F;rintro F g1 ⟨b1,f6,f7,f10,r,hr,f44,UY⟩;by_cases I6:r<10
   .have Zkp:(r:Int)<10:=by omega
    obtain⟨wr,lr⟩:=lj wS r;rw[gL]at lr;simp +contextual -implicitDefEqProofs only[go_sem,f44,Zkp];refine VS.Yj (fun F g'=>Zk g.size g g'/\F 6=L (O ⟨h.size,0,Q⟩)/\F 7=L (O ⟨h.size+1,0,Q⟩)/\F 10=L (O ⟨g.size,0,Q⟩)/\F 44=t A r/\∃i:Nat,i<=4/\F 46=t A i/\g'[g.size]? = O (J ((gK (PT S r) i).map wv++[]).toArray 169))
     (fun F _=>4-(vi (F 46)).toNat) rfl ⟨b1,f6,f7,f10,f44,0,by omega,rfl,UY⟩ ?_
    clear f6 f7 f10 f44 b1 UY F g1;rintro F g1 ⟨b1,f6,f7,f10,f44,i,hi,f46,UY⟩;by_cases oZ:i<4
    .have Zkq:(i:Int)<4:=by omega
     obtain⟨wc,lc⟩:=CT wr i;rw[lr]at lc;have t1:(4:Int)+i=((4+i:Nat):Int):=by omega
     have t2:(8:Int)+i=((8+i:Nat):Int):=by omega
     have t3:(12:Int)+i=((12+i:Nat):Int):=by omega
     simp +contextual -implicitDefEqProofs only[go_sem,f10,f46,Zkq,t1,t2,t3];refine (Gz T g1 g.size _ i (4+i) (8+i) (12+i) lc wc (by omega) (by omega) (by omega) (by omega) UY).use ?_;rintro _ _ rfl;simp +contextual -implicitDefEqProofs only[go_sem,f46];refine⟨⟨b1.Zt (aa _) _,f6,f7,f10,f44,i+1,oZ,rfl,?_⟩,?_⟩
     .exact Yd UY
     .simp only[vi,Zr,↓reduceIte,f46];omega
    .have Zkr:¬(i:Int)<4:=by omega
     obtain rfl:i=4:=by omega
     obtain⟨wc,lc⟩:=CT wr 4;rw[lr]at lc;simp +contextual -implicitDefEqProofs only[go_sem,f46,Zkr];refine VS.Yj (fun F g'=>Zk g.size g g'/\F 6=L (O ⟨h.size,0,Q⟩)/\F 7=L (O ⟨h.size+1,0,Q⟩)/\F 10=L (O ⟨g.size,0,Q⟩)/\F 44=t A r/\∃i:Nat,i<=4/\F 58=t A i/\g'[g.size]? = O (J ((diags (gK (PT S r) 4) i).map wv++[]).toArray 169))
      (fun F _=>4-(vi (F 58)).toNat) rfl ⟨b1,f6,f7,f10,f44,0,by omega,rfl,UY⟩ ?_
     clear f6 f7 f10 f44 f46 oZ Zkr hi b1 UY F g1;rintro F g1 ⟨b1,f6,f7,f10,f44,i,hi,f58,UY⟩;by_cases ph:i<4
     .have Dj:(i:Int)<4:=by omega
      obtain⟨wd,ld⟩:=ah wc i;rw[lc]at ld;have t1:(4:Int)+((i:Int)+1).tmod 4=((4+(i+1)%4:Nat):Int):=by
       have:((i:Int)+1).tmod 4=(((i+1)%4:Nat):Int):=rfl;omega
      have t2:(8:Int)+((i:Int)+2).tmod 4=((8+(i+2)%4:Nat):Int):=by
       have:((i:Int)+2).tmod 4=(((i+2)%4:Nat):Int):=rfl;omega
      have t3:(12:Int)+((i:Int)+3).tmod 4=((12+(i+3)%4:Nat):Int):=by
       have:((i:Int)+3).tmod 4=(((i+3)%4:Nat):Int):=rfl;omega
      have m1:((i:Int)+1).tmod 4=(((i+1)%4:Nat):Int):=rfl;have m2:((i:Int)+2).tmod 4=(((i+2)%4:Nat):Int):=rfl;have m3:((i:Int)+3).tmod 4=(((i+3)%4:Nat):Int):=rfl;rw[m1]at t1;rw[m2]at t2;rw[m3]at t3;have k1:(i+1)%4<4:=aw _ (by decide);have k2:(i+2)%4<4:=aw _ (by decide);have k3:(i+3)%4<4:=aw _ (by decide);simp +contextual -implicitDefEqProofs only[go_sem,f10,f58,Dj,m1,m2,m3,t1,t2,t3];refine (Gz T g1 g.size _ i (4+(i+1)%4) (8+(i+2)%4) (12+(i+3)%4) ld wd (by omega) (by omega) (by omega) (by omega) UY).use ?_;rintro _ _ rfl;simp +contextual -implicitDefEqProofs only[go_sem,f58];refine⟨⟨b1.Zt (aa _) _,f6,f7,f10,f44,i+1,ph,rfl,?_⟩,?_⟩
      .exact Yd UY
      .simp only[vi,Zr,↓reduceIte,f58];omega
     .have Zf7:¬(i:Int)<4:=by omega
      obtain rfl:i=4:=by omega
      simp +contextual -implicitDefEqProofs only[go_sem,f44,f58,Zf7];refine⟨⟨b1,f6,f7,f10,r+1,I6,rfl,UY⟩,?_⟩;simp only[vi,Zr,↓reduceIte,f44];omega
   .have Zks:¬(r:Int)<10:=by omega
    obtain rfl:r=10:=by omega
    obtain⟨wr,lr⟩:=lj wS 10;rw[gL]at lr;have hxs:=b1.get PU hx;have z0:h.size+1<g.size:=PU;have z1:=Za UY;simp +contextual -implicitDefEqProofs only[go_sem,f44,Zks];obtain⟨X,hX⟩:=ZQ (Ey (PT S 10) S);have pj:(H X)=64:=by rw[hX];simp[Ey]
    have hXZ:(H X)=(R 64 0).length:=by rw[pj];rfl
    refine VS.Yj (fun F g'=>Zk g1.size g1 g'/\F 6=L (O ⟨h.size,0,Q⟩)/\F 7=L (O ⟨h.size+1,0,Q⟩)/\F 10=L (O ⟨g.size,0,Q⟩)/\F 13=L (O ⟨g1.size,0,Q⟩)/\∃i:Nat,i<=16/\F 77=t A i/\g'[g1.size]? = O (J ((X.take (4*i)++(R 64 0).drop (4*i)).map bv++[]).toArray 144))
     (fun F _=>16-(vi (F 77)).toNat) rfl ⟨Zk.push (aa _) _,f6,f7,f10,rfl,0,by omega,rfl,?_⟩ ?_
    .exact Zc
    clear f6 f7 f10 f44 Zks hr I6 F;rintro F g2 ⟨b2,f6,f7,f10,f13,i,hi,f77,NV⟩;by_cases gM:i<16
    .have xd:(i:Int)<16:=by omega
     have u1:=Z6 (b2.get (by omega) hxs) (i:=i) (by omega);have u2:=Z6 (b2.get z1 UY) (i:=i) (by omega);have v1:=wS.getD i;have v2:=wr.getD i;have e1:((PT S 10).getD i 0+S.getD i 0:Int)%4294967296=(((PT S 10).getD i 0+S.getD i 0)%4294967296:Nat):=by omega
     unfold wv at u1 u2;obtain⟨n,Nl⟩:=ZQ (((PT S 10).getD i 0+S.getD i 0)%4294967296);have Zr9:n<4294967296:=by omega
     rw[<-Nl]at e1;have x0:X.getD (4*i) 0=n%256:=by have:=OK (PT S 10) S i 0 gM (by omega);rw[show (256:Nat) ^ 0=1 from rfl,Nat.div_one]at this;rw[hX,Nl];exact this
     have x1:X.getD (4*i+1) 0=n/256%256:=by have:=OK (PT S 10) S i 1 gM (by omega);rw[show (256:Nat) ^ 1=256 from rfl]at this;rw[hX,Nl];exact this
     have x2:X.getD (4*i+2) 0=n/65536%256:=by have:=OK (PT S 10) S i 2 gM (by omega);rw[show (256:Nat) ^ 2=65536 from rfl]at this;rw[hX,Nl];exact this
     have x3:X.getD (4*i+3) 0=n/16777216%256:=by have:=OK (PT S 10) S i 3 gM (by omega);rw[show (256:Nat) ^ 3=16777216 from rfl]at this;rw[hX,Nl];exact this
     have t0:(4*(i:Int)).toNat=4*i:=by omega
     have t1:(4*(i:Int)+1).toNat=4*i+1:=by omega
     have t2:(4*(i:Int)+2).toNat=4*i+2:=by omega
     have t3:(4*(i:Int)+3).toNat=4*i+3:=by omega
     have s0:(n:Int)%256=((n%256:Nat):Int):=by omega
     have s1:Xx D (n:Int) 8%256=((n/256%256:Nat):Int):=by rw[show (8:Int)=((8:Nat):Int) from rfl,WQ n 8 (by omega)];omega
     have s2:Xx D (n:Int) 16%256=((n/65536%256:Nat):Int):=by rw[show (16:Int)=((16:Nat):Int) from rfl,WQ n 16 (by omega)];omega
     have s3:Xx D (n:Int) 24%256=((n/16777216%256:Nat):Int):=by rw[show (24:Int)=((24:Nat):Int) from rfl,WQ n 24 (by omega)];omega
     rw[<-x0]at s0;rw[<-x1]at s1;rw[<-x2]at s2;rw[<-x3]at s3;simp +contextual -implicitDefEqProofs only[go_sem,f7,f10,f77,xd];refine VS.q mixed (by kernel_rfl) ?_;have xl:∀k,k<=64->(X.take k++(R 64 0).drop k).length=64:=fun k hk=>by rw[TX _ _ _ (by omega) hXZ,pj]
     have c0:QP g2 ⟨g1.size,4*i,Q⟩ (t .u8 (X.getD (4*i) 0:Nat))=_:=Yu (f:=bv) NV (i:=4*i) (by rw[xl _ (by omega)];omega) _ rfl;rw[QX X _ (4*i) (by omega) hXZ]at c0;have c1:QP _ ⟨g1.size,4*i+1,Q⟩ (t .u8 (X.getD (4*i+1) 0:Nat))=_:=Yu (f:=bv) (Yd (o:=J ((X.take (4*i+1)++(R 64 0).drop (4*i+1)).map bv++[]).toArray 144) NV) (i:=4*i+1) (by rw[xl _ (by omega)];omega) _ rfl;rw[QX X _ (4*i+1) (by omega) hXZ,set_set]at c1;have c2:QP _ ⟨g1.size,4*i+2,Q⟩ (t .u8 (X.getD (4*i+2) 0:Nat))=_:=Yu (f:=bv) (Yd (o:=J ((X.take (4*i+2)++(R 64 0).drop (4*i+2)).map bv++[]).toArray 144) NV) (i:=4*i+2) (by rw[xl _ (by omega)];omega) _ rfl;rw[QX X _ (4*i+2) (by omega) hXZ,set_set]at c2;have c3:QP _ ⟨g1.size,4*i+3,Q⟩ (t .u8 (X.getD (4*i+3) 0:Nat))=_:=Yu (f:=bv) (Yd (o:=J ((X.take (4*i+3)++(R 64 0).drop (4*i+3)).map bv++[]).toArray 144) NV) (i:=4*i+3) (by rw[xl _ (by omega)];omega) _ rfl;rw[QX X _ (4*i+3) (by omega) hXZ,set_set]at c3;simp +contextual -implicitDefEqProofs only[go_sem,f7,f10,f13,f77,u1,u2,e1,t0,t1,t2,t3,s0,s1,s2,s3,c0,c1,c2,c3];refine⟨⟨b2.Zt (aa _) _,f6,f7,f10,f13,i+1,gM,rfl,?_⟩,?_⟩
     .exact Yd NV
     .simp only[vi,Zr,↓reduceIte,f77];omega
    .have Zce:¬(i:Int)<16:=by omega
     obtain rfl:i=16:=by omega
     have e64:X.take (4*16)++(R 64 0).drop (4*16)=X:=by
      have:=L4 X (R 64 0) hXZ;rw[pj]at this;exact this
     rw[e64,List.append_nil]at NV;have GD:(X.map bv).length=64:=by simp[pj]
     have tk:=Xy GD;have y1:=Zy (n:=64) NV GD;have y0:(h.push (J ((R 64 0).map bv).toArray 144))[h.size]? = O (J ((R 64 0).map bv).toArray 144):=Zc;have y2:=b2.get (by omega) (b1.get (by omega) (hg.get (by omega) y0));have y3:=Ye y2 0 (X.map bv);rw[Z3 (by simp[pj]),if_pos ⟨by simp[pj],Rw X⟩]at y3;have z2:h.size<g2.size:=Za y2;have hB:Zk h.size h g2:=((Zk.push (aa _) _).trans (hg.mono (by omega))).trans ((b1.mono (by omega)).trans (b2.mono (by omega)));have hbx:Jr key I5 ZD=X:=by rw[hX,hS];rfl
     rw[hbx];simp +contextual -implicitDefEqProofs only[go_sem,f6,f13,f77,Zce,y1,y3,GD,tk,z2];exact hB.Zt (aa _) _
def JQ(key:List Nat)(k:Int)(ZD:List Nat):Int:=if (H key)≠32\/(H ZD)≠12 then 1 else if k<0\/1073741824<k then 2 else 0
def aj(B:Nat)(h':Hp)(v':Y)(key:List Nat)(k:Int)(ZD:List Nat):Prop:=∃w,v'=.tuple [w,t A (JQ key k ZD)].toArray/\Yx B 5 h' w (if JQ key k ZD=0 then Jr key k.toNat ZD else [])
theorem xe(T:a1)(h:Hp)(v u:Y)(key ZD:List Nat)(k:Int)(sk:Bs h v key)(sn:Bs h u ZD)(ck:Ph v)(cn:Ph u):
  Zd al T 62 #[v,t A k,u] h fun v' h'=>aj h.size h' v' key k ZD/\Zk h.size h h':=by
 obtain⟨p,c,rfl,_⟩:=sk.open;obtain⟨q,d,rfl,_⟩:=sn.open;refine Zd.XS [_,_,_] Tryz.func62 ?_;unfold aj;simp +contextual -implicitDefEqProofs only[go_sem];refine (Ik T _ _ _ _ _ _ _ _).pure ?_;rw[show (if (H key)≠32\/(H ZD)≠12 then (1:Int) else if k<0\/1073741824<k then 2 else 0)=JQ key k ZD from rfl];by_cases e:JQ key k ZD=0
 .have hb:(H key)=32/\(H ZD)=12/\0<=k/\k<=1073741824:=by
   unfold JQ at e
   repeat' split at e
   all_goals first|omega|cases e
  obtain⟨hk,hn,k0,k1⟩:=hb;obtain⟨m,rfl⟩:∃m:Nat,k=m:=⟨k.toNat,nc⟩
  have m1:(m:Int)%4294967296=(m:Int):=nc;simp +contextual -implicitDefEqProofs only[go_sem,e,m1];refine (MZ T _ _ _ key ZD m sk sn hk hn nc ck cn).use ?_;rintro _ h1 ⟨rfl,b1⟩;have GD:((Jr key m ZD).map bv).length=64:=by simp[Jr,Ey]
  have XV:=Rw (Jr key m ZD);have ZDV:Y9 ((R 64 0).map bv) 0 ((Jr key m ZD).map bv)=(Jr key m ZD).map bv:=Z3 (by rw[GD];simp);have hsm:∀x∈Jr key m ZD,x<256:=GC _ _;have hlb:(Jr key m ZD).length=64:=by simpa using GD
  generalize Jr key m ZD=X at *;simp +contextual -implicitDefEqProofs only[go_sem,GD,XV,Z3];have Zsa:Bs (h1.push (J (X.map bv).toArray 144)) (M (O ⟨h1.size,0,Q⟩) 64 64) X:=by
   have:=Bs.made (h:=h1) (E:=144) hsm 64;rw[hlb]at this;exact this
  have b1s:=b1.size;refine ZK (E:=5) (B:=h.size) Xg Tryz.underlying28 Ti T4 T3 (Yx.nil _ _ _) KQ Zsa (by simp[hlb]) ?_;intro v' h' NM Qa _;simp +contextual -implicitDefEqProofs only[go_sem];exact⟨⟨_,rfl,by simpa using NM⟩,(b1.YU b1s _).trans Qa⟩
 .simp +contextual -implicitDefEqProofs only[go_sem,e];exact⟨_,rfl,Yx.nil _ _ _⟩
def N0(key:List Nat):List Nat:=if 64<(H key) then TH key else key
theorem T6(key:List Nat):(N0 key).length<=64:=by
 unfold N0;split
 .rw[Qj];omega
 .omega
theorem po{key:List Nat}(h:O9 key):O9 (N0 key):=by
 unfold N0;split
 .exact oX _
 .exact h
def VN(key:List Nat):List Nat:=N0 key++R (64-(N0 key).length) 0
theorem Qk(key:List Nat):(VN key).length=64:=by
 have:=T6 key;simp[VN];omega
theorem Kd{key:List Nat}(h:O9 key):O9 (VN key):=by
 intro x hx;simp only[VN,au,List.mem_replicate]at hx;rcases hx with hx|⟨_,rfl⟩
 .exact po h x hx
 .omega
def TJ(key:List Nat)(w:Nat):List Nat:=(VN key).map (· ^^^ w)
theorem Yq(key:List Nat)(w:Nat):(TJ key w).length=64:=by simp[TJ,Qk]
theorem Dk{key:List Nat}(h:O9 key){w:Nat}(hw:w<256):O9 (TJ key w):=by
 intro x hx;obtain⟨y,hy,rfl⟩:=be.1 hx;exact Zr8 (Kd h y hy) hw
theorem Dl(key:List Nat)(w:Nat){i:Nat}(hi:i<64):(TJ key w).getD i 0=(VN key).getD i 0 ^^^ w:=by
 rw[N,N,TJ,bc,W (by rw[Qk];exact hi)];rfl
def M3(key b:List Nat):List Nat:=TH (TJ key 92++TH (TJ key 54++b))
theorem T7(key b:List Nat):(M3 key b).length=32:=Qj _
def Nq(key info:List Nat):Nat->List Nat
 | 0=>[]
 | i+1=>M3 key (Nq key info i++info++[(i+1)%256])
def T8(key info:List Nat):Nat->List Nat
 | 0=>[]
 | i+1=>T8 key info i++Nq key info (i+1)
theorem RC(key info:List Nat)(i:Nat):(Nq key info (i+1)).length=32:=T7 _ _
theorem xf(key info:List Nat):∀i,(Nq key info i).length<=32
 | 0=>Nat.zero_le _
 | i+1=>Nat.le_of_eq (RC key info i)
theorem VO(key info:List Nat):∀i,(T8 key info i).length=32*i
 | 0=>rfl
 | i+1=>by rw[T8,aU,VO key info i,RC];omega
theorem GF(key info:List Nat)(n:Nat):∀(i j:Nat),n<=32*i->i<=j->(T8 key info j).take n=(T8 key info i).take n
 | i,0,h,hj=>by
  obtain rfl:i=0:=nc;rfl
 | i,j+1,h,hj=>by
  by_cases e:i=j+1
  .rw[e]
  .rw[T8,List.take_append_of_le_length (by rw[VO];omega)];exact GF key info n i j h nc
def GG(JH TK info:List Nat)(n:Nat):List Nat:=(T8 (M3 TK JH) info 16).take n
theorem M7(JH TK info:List Nat){n:Nat}(hn:n<=512):(GG JH TK info n).length=n:=by
 rw[GG,List.length_take,VO];omega
def GH(k n a b:Int)(d:Y):List Y:=[t A k,t A n,t A a,t A b,d]
def YO(k:Int):List (Nat × Int):=
 if k=1\/k=2\/k=3\/k=9 then [(1,4)] else if k=4\/k=5\/k=6 then [(2,1048576)] else if k=8 then [(1,4),(3,100000)] else []
def PV(b:Nat)(x:Nat × Int):List Y:=[L (O ⟨b,x.1,Q⟩),t A x.2]
set_option maxHeartbeats 2000000 in
theorem ak(T:a1)(h:Hp)(b:Nat)(k n a c:Int)(d:Y)(hb:h[b]? = O (J (GH k n a c d).toArray 36)):
  Zd al T 48 #[L (O ⟨b,0,Q⟩)] h fun v' h'=>∃w,v'=.tuple [w,.bool (decide (1<=k/\k<=9))].toArray/\Qv h.size 127 (PV b) 2 h' w (YO k)/\Zk h.size h h':=by
 refine Zd.XS [_] Tryz.func48 ?_;have b0:=Za hb;have x0:hc h ⟨b,0,Q⟩=O (t A k):=by rw[Zn hb];rfl
 simp +contextual -implicitDefEqProofs (maxSteps:=2000000) only[go_sem];refine VS.w (h.size) [11] (.q 0 (.q 1 (.q 2 (.q 3 (.q 4 (.q 5 (.q 6 (.q 7 (.or 8 (.s 9 (.s 10 (.w 11 .nil))) (.s 9 (.s 8 (.s 10 (.w 11 .nil))))))))))))) mixed uf ?_;unfold YO;have one:∀(g:Hp) (x:Nat × Int),h.size+2=g.size->Qv h.size 127 (PV b) 2 (g.push (J [L (O ⟨b,x.1,Q⟩),t A x.2].toArray 127)) (M (O ⟨h.size+2,0,Q⟩) 1 1) [x]:=fun g x e=>by rw[e];exact Qv.one (enc:=PV b) x (fun _=>rfl) nc
 have two:∀(g:Hp),h.size+2=g.size->Qv h.size 127 (PV b) 2 (g.push (J [L (O ⟨b,1,Q⟩),t A 4,L (O ⟨b,3,Q⟩),t A 100000].toArray 127)) (M (O ⟨h.size+2,0,Q⟩) 2 2) [(1,4),(3,100000)]:=fun g e=>by rw[e];exact Qv.made (enc:=PV b) (fun _=>rfl) [(1,4),(3,100000)] nc
 by_cases k1:k=1
 .have hk:decide (1<=k/\k<=9)=true:=by rw[decide_eq_true_eq];omega
  simp +contextual -implicitDefEqProofs (maxSteps:=2000000) only[go_sem,x0,k1];refine⟨⟨_,rfl,one _ (1,4) Hg,?_⟩,⟨_,rfl,one _ (1,4) Hg,?_⟩⟩<;>(repeat' (first|exact Zk.refl _ _|assumption|refine Zk.add ?_ _|refine Zk.Zt ?_ aab _|refine Zk.trans aac ?_))
 ·
  by_cases k2:k=2
  .have hk:decide (1<=k/\k<=9)=true:=by rw[decide_eq_true_eq];omega
   simp +contextual -implicitDefEqProofs (maxSteps:=2000000) only[go_sem,x0,k2];refine⟨⟨_,rfl,one _ (1,4) Hg,?_⟩,⟨_,rfl,one _ (1,4) Hg,?_⟩⟩<;>(repeat' (first|exact Zk.refl _ _|assumption|refine Zk.add ?_ _|refine Zk.Zt ?_ aab _|refine Zk.trans aac ?_))
  ·
   by_cases k3:k=3
   .have hk:decide (1<=k/\k<=9)=true:=by rw[decide_eq_true_eq];omega
    simp +contextual -implicitDefEqProofs (maxSteps:=2000000) only[go_sem,x0,k3];refine⟨⟨_,rfl,one _ (1,4) Hg,?_⟩,⟨_,rfl,one _ (1,4) Hg,?_⟩⟩<;>(repeat' (first|exact Zk.refl _ _|assumption|refine Zk.add ?_ _|refine Zk.Zt ?_ aab _|refine Zk.trans aac ?_))
   ·
    by_cases k9:k=9
    .have hk:decide (1<=k/\k<=9)=true:=by rw[decide_eq_true_eq];omega
     simp +contextual -implicitDefEqProofs (maxSteps:=2000000) only[go_sem,x0,k9];refine⟨⟨_,rfl,one _ (1,4) Hg,?_⟩,⟨_,rfl,one _ (1,4) Hg,?_⟩⟩<;>(repeat' (first|exact Zk.refl _ _|assumption|refine Zk.add ?_ _|refine Zk.Zt ?_ aab _|refine Zk.trans aac ?_))
    ·
     by_cases k4:k=4
     .have hk:decide (1<=k/\k<=9)=true:=by rw[decide_eq_true_eq];omega
      simp +contextual -implicitDefEqProofs (maxSteps:=2000000) only[go_sem,x0,k4];refine⟨⟨_,rfl,one _ (2,1048576) Hg,?_⟩,⟨_,rfl,one _ (2,1048576) Hg,?_⟩⟩<;>(repeat' (first|exact Zk.refl _ _|assumption|refine Zk.add ?_ _|refine Zk.Zt ?_ aab _|refine Zk.trans aac ?_))
     ·
      by_cases k5:k=5
      .have hk:decide (1<=k/\k<=9)=true:=by rw[decide_eq_true_eq];omega
       simp +contextual -implicitDefEqProofs (maxSteps:=2000000) only[go_sem,x0,k5];refine⟨⟨_,rfl,one _ (2,1048576) Hg,?_⟩,⟨_,rfl,one _ (2,1048576) Hg,?_⟩⟩<;>(repeat' (first|exact Zk.refl _ _|assumption|refine Zk.add ?_ _|refine Zk.Zt ?_ aab _|refine Zk.trans aac ?_))
      ·
       by_cases k6:k=6
       .have hk:decide (1<=k/\k<=9)=true:=by rw[decide_eq_true_eq];omega
        simp +contextual -implicitDefEqProofs (maxSteps:=2000000) only[go_sem,x0,k6];refine⟨⟨_,rfl,one _ (2,1048576) Hg,?_⟩,⟨_,rfl,one _ (2,1048576) Hg,?_⟩⟩<;>(repeat' (first|exact Zk.refl _ _|assumption|refine Zk.add ?_ _|refine Zk.Zt ?_ aab _|refine Zk.trans aac ?_))
       ·
        by_cases k7:k=7
        .have hk:decide (1<=k/\k<=9)=true:=by rw[decide_eq_true_eq];omega
         simp +contextual -implicitDefEqProofs (maxSteps:=2000000) only[go_sem,x0,k7];exact⟨⟨_,rfl,Qv.nil _ _ _ _ _⟩,⟨_,rfl,Qv.nil _ _ _ _ _⟩⟩
        ·
         by_cases k8:k=8
         .have hk:decide (1<=k/\k<=9)=true:=by rw[decide_eq_true_eq];omega
          simp +contextual -implicitDefEqProofs (maxSteps:=2000000) only[go_sem,x0,k8];refine⟨?_,?_⟩
          .refine VS.b (h.size+2) [(0,true),(1,true),(2,true),(3,true),(4,true),(5,false),(6,true),(7,true)] mixed uf ?_;simp +contextual -implicitDefEqProofs (maxSteps:=2000000) only[go_sem];refine⟨(Zk.refl _ _).YU Hg _,_,rfl,two _ Hg,?_⟩
           (repeat' (first|exact Zk.refl _ _|assumption|refine Zk.add ?_ _|refine Zk.Zt ?_ aab _|refine Zk.trans aac ?_))
          .refine VS.b (h.size+2) [(0,true),(1,true),(2,true),(3,true),(4,true),(5,false),(6,true),(7,true)] mixed uf ?_;simp +contextual -implicitDefEqProofs (maxSteps:=2000000) only[go_sem];refine⟨(Zk.refl _ _).YU Hg _,_,rfl,two _ Hg,?_⟩
           (repeat' (first|exact Zk.refl _ _|assumption|refine Zk.add ?_ _|refine Zk.Zt ?_ aab _|refine Zk.trans aac ?_))
         ·
          have hk:¬(1<=k/\k<=9):=nc;simp +contextual -implicitDefEqProofs (maxSteps:=2000000) only[go_sem,x0,k1,k2,k3,k9,k4,k5,k6,k7,k8,hk];exact⟨⟨_,rfl,Qv.nil _ _ _ _ _⟩,⟨_,rfl,Qv.nil _ _ _ _ _⟩⟩
def Jh(k:Int):Prop:=k=1\/k=2\/k=3\/k=9\/k=8
def UR(k:Int):Prop:=4<=k/\k<=6
instance (k:Int):Decidable (Jh k):=by unfold Jh;infer_instance
instance (k:Int):Decidable (UR k):=by unfold UR;infer_instance
def U2(k n a b:Int)(len:Nat):Int:=
 if ¬(1<=k/\k<=9) then 4 else
 if (Jh k/\¬(0<=n/\n<=4))\/(UR k/\¬(0<=a/\a<=1048576))\/(k=8/\¬(0<=b/\b<=100000)) then 2 else
 if 2000<len then 1 else
 if (¬Jh k/\n≠0)\/(¬UR k/\a≠0)\/(k≠8/\b≠0)\/(k≠1/\0<len) then 3 else 0
def Sm(k n a b:Int)(p:Nat):Int:=[k,n,a,b].getD p 0
def Sn(k n a b:Int)(x:Nat × Int):Prop:=0<=Sm k n a b x.1/\Sm k n a b x.1<=x.2
theorem Il{k:Int}:∀x∈YO k,x.1<4/\0<x.1:=by
 intro x hx;unfold YO at hx
 repeat' split at hx
 all_goals simp at hx
 all_goals rcases hx with rfl|rfl<;>simp
theorem pA(k:Int):(YO k).length<=2:=by
 unfold YO
 repeat' split
 all_goals simp
theorem Dm{k n a b:Int}{len:Nat}(h1:1<=k/\k<=9){x:Nat × Int}(hx:x∈YO k)(hb:¬Sn k n a b x):U2 k n a b len=2:=by
 unfold U2;rw[if_neg nc,if_pos];unfold Jh UR;unfold YO at hx;unfold Sn Sm at hb;split at hx
 .simp at hx;subst hx;simp at hb;left;omega
 .split at hx
  .simp at hx;subst hx;simp at hb;right;left;omega
  .split at hx
   .simp at hx;rcases hx with rfl|rfl
    .simp at hb;left;omega
    .simp at hb;right;right;omega
   .cases hx
theorem gN{k n a b:Int}(hg:∀x∈YO k,Sn k n a b x):¬((Jh k/\¬(0<=n/\n<=4))\/(UR k/\¬(0<=a/\a<=1048576))\/(k=8/\¬(0<=b/\b<=100000))):=by
 unfold Jh UR;unfold YO at hg;split at hg
 .have:=hg (1,4) Hg;simp[Sn,Sm]at this;omega
 .split at hg
  .have:=hg (2,1048576) Hg;simp[Sn,Sm]at this;omega
  .split at hg
   .have:=hg (1,4) Hg;have h2:=hg (3,100000) Hg;simp[Sn,Sm]at this h2;omega
   .omega
def RD(xs:List (Nat × Int))(cs:List Y):List Y:=xs.foldl (fun cs x=>cs.set x.1 (t A 0)) cs
theorem an(xs:List (Nat × Int))(x:Nat × Int)(cs:List Y):RD (xs++[x]) cs=(RD xs cs).set x.1 (t A 0):=by simp[RD]
theorem Ez(xs:List (Nat × Int)):∀cs,(RD xs cs).length=(H cs):=by
 induction xs with
 | nil=>intro cs;rfl
 | cons x xs ih=>intro cs;simp only[RD,List.foldl_cons]at *;rw[ih];simp
theorem gO{k n a b:Int}{d:Y}(h1:1<=k/\k<=9):RD (YO k) (GH k n a b d)=GH k (if Jh k then 0 else n) (if UR k then 0 else a) (if k=8 then 0 else b) d:=by
 unfold YO;split
 .rw[if_pos (by unfold Jh;omega),if_neg (by unfold UR;omega),if_neg nc];rfl
 .split
  .rw[if_neg (by unfold Jh;omega),if_pos (by unfold UR;omega),if_neg nc];rfl
  .split
   .rw[if_pos (by unfold Jh;omega),if_neg (by unfold UR;omega)];rfl
   .rw[if_neg (by unfold Jh;omega),if_neg (by unfold UR;omega)];rfl
theorem gP(k n a b:Int)(d:Y)(p:Nat)(hp:p<4):nth (GH k n a b d) p=O (t A (Sm k n a b p)):=by
 rcases p with _|_|_|_|p<;>first|rfl|omega
theorem EA(T:a1)(h:Hp)(k n a b:Int)(p:Option Addr)(len c:Nat):
  Zd al T 35 #[.agg (GH k n a b (M p len c)).toArray] h fun v' h'=>v'=t A (U2 k n a b len)/\Zk h.size h h':=by
 refine Zd.XS [_] Tryz.func35 ?_;unfold GH;simp +contextual -implicitDefEqProofs only[go_sem];refine (ak T _ h.size k n a b (M p len c) Zc).use ?_;rintro _ h1 ⟨w,rfl,hw,b1⟩;have hlen:=pA k;by_cases hk:1<=k/\k<=9
 .obtain⟨pw,cw,rfl,XE⟩:=Qv.Zjs (enc:=PV h.size) (n:=2) (fun _=>rfl) aaa hw;have x0:h1[h.size]? = O (J (GH k n a b (M p len c)).toArray 36):=b1.get Hg Zc;have z1:=Za x0;have WT:Zk h.size h h1:=((Zk.refl h.size h).add _).trans (b1.mono Hg);simp +contextual -implicitDefEqProofs only[go_sem,hk];refine VS.Yj (fun F g=>Zk h1.size h1 g/\F 1=L (O ⟨h.size,0,Q⟩)/\F 3=M pw (YO k).length cw/\F 15=M pw (YO k).length cw/\F 16=t A (YO k).length/\∃i:Nat,i<=(YO k).length/\F 17=t A i/\∀x∈(YO k).take i,Sn k n a b x)
   (fun F _=>(YO k).length-(vi (F 17)).toNat) rfl ⟨Zk.refl _ _,rfl,rfl,rfl,rfl,0,nc,rfl,fun x hx=>by cases hx⟩ ?_
  rintro F g ⟨hg,f1,f3,f15,f16,i,hi,f17,XY⟩;have PU:=hg.size;by_cases ZU:i<(YO k).length
  .have Z8:(i:Int)<(YO k).length:=nc;obtain⟨bb,oo,rfl,Hx,Tm,XE⟩:=XE (by intro e;rw[e]at ZU;simp at ZU);have hx:=bg ZU;have hsm:=Il _ hx;have r1:=((XE i ZU).Yy hg Tm).rd (by simp[PV]) (m:=2) rfl;obtain⟨x,hxe⟩:=ZQ ((YO k)[i]);rw[<-hxe]at hx hsm r1;have v1:hc g ⟨h.size,x.1,Q⟩=O (t A (Sm k n a b x.1)):=by
    rw[hg.hc z1,Zn x0,gP _ _ _ _ _ _ hsm.1]
   unfold PV at r1;simp +contextual -implicitDefEqProofs only[go_sem,f1,f15,f16,f17,Z8,r1];refine VS.q mixed uf ?_;by_cases c1:Sm k n a b x.1<0
   .have e:=Dm (len:=len) hk hx (n:=n) (a:=a) (b:=b) (by unfold Sn;omega);simp +contextual -implicitDefEqProofs only[go_sem,v1,c1,e];exact WT.trans ((hg.mono nc).YU nc _)
   .by_cases c2:x.2<Sm k n a b x.1
    .have e:=Dm (len:=len) hk hx (n:=n) (a:=a) (b:=b) (by unfold Sn;omega);simp +contextual -implicitDefEqProofs only[go_sem,v1,c1,c2,e];exact WT.trans ((hg.mono nc).YU nc _)
    .simp +contextual -implicitDefEqProofs only[go_sem,f1,f3,f15,f16,f17,v1,c1,c2];refine⟨⟨hg.YU nc _,f1,f3,f15,f16,i+1,nc,rfl,fun y hy=>?_⟩,?_⟩
     .rw[Y2 _ i ZU]at hy;rcases au.1 hy with hy|hy
      .exact XY y hy
      .simp at hy;rw[hy,<-hxe];unfold Sn;omega
     .simp only[vi,Zr,↓reduceIte,f17];omega
  .have Xp:¬(i:Int)<(YO k).length:=nc;obtain rfl:i=(YO k).length:=nc;rw[bh]at XY;have RE:=gN XY;have x0g:=hg.get z1 x0;have y4:hc g ⟨h.size,4,Q⟩=O (M p len c):=by rw[Zn x0g];rfl
   have CV:Zk h.size h g:=WT.trans (hg.mono nc);by_cases c1:2000<len
   .have c1':2000<(len:Int):=nc;have e:U2 k n a b len=1:=by unfold U2;rw[if_neg nc,if_neg RE,if_pos c1]
    simp +contextual -implicitDefEqProofs only[go_sem,f1,f3,f15,f16,f17,Xp,y4,c1',e,CV]
   .have c1':¬2000<(len:Int):=nc;simp +contextual -implicitDefEqProofs only[go_sem,f1,f3,f15,f16,f17,Xp,y4,c1'];have xg:g[h.size]? = O (J (RD ((YO k).take 0) (GH k n a b (M p len c))).toArray 36):=x0g;clear y4 XY hi ZU Xp;refine VS.Yj (fun F g'=>Zk h.size h g'/\(∀q,q≠h.size->q<h1.size->g'[q]? = h1[q]?)/\h1.size<=g'.size/\F 1=L (O ⟨h.size,0,Q⟩)/\F 40=M pw (YO k).length cw/\F 41=t A (YO k).length/\∃i:Nat,i<=(YO k).length/\F 42=t A i/\g'[h.size]? = O (J (RD ((YO k).take i) (GH k n a b (M p len c))).toArray 36))
     (fun F _=>(YO k).length-(vi (F 42)).toNat) rfl ⟨CV,fun q _ hq=>hg.block q hq,PU,f1,rfl,rfl,0,Nat.zero_le _,rfl,xg⟩ ?_
    clear xg x0g CV PU hg g f1 f3 f15 f16 f17 F;rintro F g ⟨CV,Zkt,PU,f1,f40,f41,i,hi,f42,xg⟩;by_cases ZU:i<(YO k).length
    .have Z8:(i:Int)<(YO k).length:=nc;obtain⟨bb,oo,rfl,Hx,Tm,XE⟩:=XE (by intro e;rw[e]at ZU;simp at ZU);have hx:=bg ZU;have hsm:=Il _ hx;have r1:=(XE i ZU).rd (by simp[PV]) (m:=2) rfl;have Zku:bb≠h.size:=by simp at Hx;omega
     obtain⟨x,hxe⟩:=ZQ ((YO k)[i]);rw[<-hxe]at hx hsm r1;have r2:rd g ⟨bb,oo+i*2,Q⟩ 2=O (PV h.size x):=by
      rw[<-r1];unfold rd;rw[Zkt _ Zku Tm]
     have dW:(RD ((YO k).take i) (GH k n a b (M p len c))).length=5:=by rw[Ez];rfl
     have zg:=Za xg;have w1:=Xe xg x.1 (t A 0);rw[if_pos ⟨by rw[dW];omega,rfl⟩]at w1;unfold PV at r2;simp +contextual -implicitDefEqProofs only[go_sem,f1,f40,f41,f42,Z8,r2];rw[w1];simp +contextual -implicitDefEqProofs only[go_sem,f42];refine⟨⟨(CV.Zt (aa _) _).YU KQ _,fun q hq hq1=>?_,KQ,f1,f40,f41,i+1,nc,rfl,?_⟩,?_⟩
     .rw[a7,if_neg KQ,U,if_neg (fun e=>hq e.symm)];exact Zkt q hq hq1
     .rw[a7,if_neg KQ,U,if_pos rfl,if_pos zg,Y2 _ i ZU,an,<-hxe]
     .simp only[vi,Zr,↓reduceIte,f42];omega
    .have Xp:¬(i:Int)<(YO k).length:=nc;obtain rfl:i=(YO k).length:=nc;rw[bh,gO hk]at xg;have e:U2 k n a b len=if (¬Jh k/\n≠0)\/(¬UR k/\a≠0)\/(k≠8/\b≠0)\/(k≠1/\0<len) then 3 else 0:=by unfold U2;rw[if_neg nc,if_neg RE,if_neg c1]
     rw[e];clear e RE XE hw;obtain⟨n',Nl⟩:=ZQ (if Jh k then 0 else n);obtain⟨a',ha'⟩:=ZQ (if UR k then 0 else a);obtain⟨b',Qa⟩:=ZQ (if k=8 then 0 else b);rw[<-Nl,<-ha',<-Qa]at xg;have y0:hc g ⟨h.size,0,Q⟩=O (t A k):=by rw[Zn xg];rfl
     have y1:hc g ⟨h.size,1,Q⟩=O (t A n'):=by rw[Zn xg];rfl
     have y2:hc g ⟨h.size,2,Q⟩=O (t A a'):=by rw[Zn xg];rfl
     have y3:hc g ⟨h.size,3,Q⟩=O (t A b'):=by rw[Zn xg];rfl
     have y4:hc g ⟨h.size,4,Q⟩=O (M p len c):=by rw[Zn xg];rfl
     have en:(¬Jh k/\n≠0)↔n'≠0:=by rw[Nl];by_cases q:Jh k<;>simp[q]
     have ea:(¬UR k/\a≠0)↔a'≠0:=by rw[ha'];by_cases q:UR k<;>simp[q]
     have eb:(k≠8/\b≠0)↔b'≠0:=by rw[Qa];by_cases q:k=8<;>simp[q]
     simp only[en,ea,eb];by_cases q1:n'=0
     .by_cases q2:a'=0
      .by_cases q3:b'=0
       .by_cases q4:k=1
        .simp +contextual -implicitDefEqProofs only[go_sem,f1,f40,f41,f42,Xp,y0,y1,y2,y3,q1,q2,q3,q4,CV]
        .by_cases q5:0<len
         .have q5':0<(len:Int):=nc;simp +contextual -implicitDefEqProofs only[go_sem,f1,f40,f41,f42,Xp,y0,y1,y2,y3,y4,q1,q2,q3,q4,q5,q5',CV]
         .have q5':¬0<(len:Int):=nc;simp +contextual -implicitDefEqProofs only[go_sem,f1,f40,f41,f42,Xp,y0,y1,y2,y3,y4,q1,q2,q3,q4,q5,q5',CV]
       .simp +contextual -implicitDefEqProofs only[go_sem,f1,f40,f41,f42,Xp,y0,y1,y2,y3,q1,q2,q3,CV]
      .simp +contextual -implicitDefEqProofs only[go_sem,f1,f40,f41,f42,Xp,y0,y1,y2,q1,q2,CV]
     .simp +contextual -implicitDefEqProofs only[go_sem,f1,f40,f41,f42,Xp,y0,y1,q1,CV]
 .have e:U2 k n a b len=4:=by unfold U2;rw[if_pos hk]
  simp +contextual -implicitDefEqProofs only[go_sem,hk,e];exact ((Zk.refl h.size h).add _).trans (b1.mono Hg)
end Go.Proofs.YthlfaofofaphfaaGreatDoor
