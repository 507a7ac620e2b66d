/- Part Lchks. -/
import Derived.Test.YtdapjaalaomghaaGreatDoorVst
import Derived.Test.YtdapjaalaomghaaGreatDoorW11
import Derived.Test.YtdapjaalaomghaaGreatDoorLine
import Derived.Test.YtdapjaalaomghaaGreatDoorBytes
open Go.Value renaming int→t,pointer→L,slice→M
open Go.IntKind renaming i64→A,u32→D
open Go.Obj renaming cells→J
open Go.Proofs.Tryz renaming prog→ab
open List renaming length→H,getD_eq_getElem?_getD→N,replicate→R,getElem?_eq_getElem→W,mem_append→al,length_append→aq,length_drop→aw,range→a8,getElem?_map→a9,mem_map→bc,not_mem_nil→bd,getElem_mem→be,take_length→bf,mem_cons→bo
open Nat renaming mod_eq_of_lt→Z,le_refl→aa,testBit_and→ae,mod_lt→am,lt_of_le_of_lt→ao,mul_mod_mul_right→a0,div_lt_iff_lt_mul→a1,pow_add→a2,eq_of_testBit_eq→a3,pow_le_pow_right→a4,xor_lt_two_pow→a7,add_zero→ba,pow_pos→bg,or_comm→bh,div_le_self→bl,testBit_xor→bn
open Option renaming some→O,none→Q
open Array renaming getElem?_setIfInBounds→U,getElem?_push→a5,ext_getElem?→a6
open Go renaming Value→Y,World→aU
namespace Go.Proofs.YtdapjaalaomghaaGreatDoor
open Go Go.V
set_option linter.all false
set_option maxRecDepth 100000
variable{s:List Nat}
def rotl(x n:Nat):Nat:=x*2 ^ n%4294967296+x/2 ^ (32-n)
theorem aE{n:Nat}(hn:n<=32):2 ^ (32-n)*2 ^ n=4294967296:=by
 rw[<-a2,show 32-n+n=32 by omega]
theorem ma{x n:Nat}(hx:x<4294967296)(hn:n<=32):rotl x n<4294967296:=by
 unfold rotl;have h1:x*2 ^ n%4294967296=(x%2 ^ (32-n))*2 ^ n:=by
  rw[<-aE hn,a0]
 have h2:x/2 ^ (32-n)<2 ^ n:=by
  rw[a1 (bg nT),<-a2,show n+(32-n)=32 by omega];exact hx
 have h3:x%2 ^ (32-n)<2 ^ (32-n):=am _ (bg nT);rw[h1];have h4:(x%2 ^ (32-n)+1)*2 ^ n<=2 ^ (32-n)*2 ^ n:=Nat.mul_le_mul_right _ h3;rw[<-a2,show 32-n+n=32 by omega,Nat.add_mul]at h4;omega
theorem mb{x n:Nat}(hx:x<4294967296)(hn:n<=32):x*2 ^ n%4294967296 ||| x/2 ^ (32-n)=rotl x n:=by
 unfold rotl;refine Uo (k:=n) ?_ ?_
 .rw[a1 (bg nT),<-a2,show n+(32-n)=32 by omega];exact hx
 .rw[<-aE hn,a0,Nat.mul_mod_left]
theorem HP(x n:Nat)(hn:n<=32):Xo D (x:Int) (n:Int)=((x*2 ^ n%4294967296:Nat):Int):=by
 rw[CO D x n (by show n<=32;omega),MW];rfl
theorem Vc(x n:Nat)(hn:n<=32):XA D (x:Int) (n:Int)=((x/2 ^ n:Nat):Int):=by
 rw[OX D x n (by show n<=32;omega),Nat.shiftRight_eq_div_pow]
theorem iw(T:aU)(h:Hp)(x n:Nat)(hx:x<4294967296)(hn:n<=32):
  Zd ab T 97 #[t D x,t A n] h fun v' h'=>v'=t D (rotl x n:Nat)/\h'=h:=by
 refine Zd.XT [_,_] Tryz.func97 ?_;have e1:=HP x n hn;have e2:=Vc x (32-n) nT;have e3:(32:Int)-n=((32-n:Nat):Int):=nT;have e4:=Ob (x*2 ^ n%4294967296) (x/2 ^ (32-n)) nT (ao (bl _ _) hx);rw[mb hx hn]at e4;have e5:¬(n:Int)<0:=nT;have e6:¬((32-n:Nat):Int)<0:=nT;simp +contextual -implicitDefEqProofs only[go_sem];refine VS.q mixed uj ?_;simp +contextual -implicitDefEqProofs only[go_sem,e3,e1,e2,e4,e5,e6]
def wv(x:Nat):Y:=t D (x:Nat)
def nv(x:Nat):Y:=t A (x:Nat)
def OZ(s:List Nat):Prop:=∀x∈s,x<4294967296
theorem OZ.getD(w:OZ s)(i:Nat):s.getD i 0<4294967296:=by
 rw[N]
 cases hx:s[i]? with
 | none=>simp
 | some x=>exact w x (List.mem_of_getElem? hx)
theorem OZ.set(w:OZ s)(i:Nat){y:Nat}(hy:y<4294967296):OZ (s.set i y):=by
 intro x hx;rcases List.mem_or_eq_of_mem_set hx with h|h
 .exact w x h
 .rw[h];exact hy
theorem Z6{f:Nat->Y}{g:Hp}{b:Nat}{E:TypeId}{sp:List Y}(hx:g[b]? = O (J (s.map f++sp).toArray E)){i:Nat}(hi:i<(H s)):hc g ⟨b,i,Q⟩=O (f (s.getD i 0)):=by
 rw[Zl hx,YW,List.getElem?_append_left (by simpa using hi),a9,N,W hi];rfl
theorem Yv{f:Nat->Y}{g:Hp}{b:Nat}{E:TypeId}{sp:List Y}(hx:g[b]? = O (J (s.map f++sp).toArray E)){i:Nat}(hi:i<(H s))(y:Nat)(ho:YD (f y)=true):
  QQ g ⟨b,i,Q⟩ (f y)=O (g.setIfInBounds b (J ((s.set i y).map f++sp).toArray E)):=by
 rw[Xh hx,if_pos ⟨Ig,ho⟩,List.set_append_left _ _ (by simpa using hi),List.map_set]
theorem Yc{g:Hp}{b:Nat}{o o':Obj}(hx:g[b]? = O o'):(g.setIfInBounds b o)[b]? = O o:=by
 rw[U,if_pos rfl,if_pos (Za hx)]
theorem Vo{g:Hp}{b:Nat}{o:Obj}(hx:g[b]? = O o):g.setIfInBounds b o=g:=by
 apply a6;intro i;rw[U];by_cases hb:b=i
 .subst hb;rw[if_pos rfl,if_pos (Za hx),hx]
 .rw[if_neg hb]
theorem set_set(g:Hp)(b:Nat)(o o':Obj):(g.setIfInBounds b o).setIfInBounds b o'=g.setIfInBounds b o':=by
 apply a6;intro i;rw[U,U,U,Array.size_setIfInBounds];by_cases hb:b=i
 .rw[if_pos hb,if_pos hb]
 .rw[if_neg hb,if_neg hb,if_neg hb]
def NJ(s:List Nat)(a b d n:Nat):List Nat:=
 (s.set a ((s.getD a 0+s.getD b 0)%4294967296)).set d (rotl ((s.set a ((s.getD a 0+s.getD b 0)%4294967296)).getD d 0 ^^^ (s.set a ((s.getD a 0+s.getD b 0)%4294967296)).getD a 0) n)
def Mm(s:List Nat)(a b c d:Nat):List Nat:=NJ (NJ (NJ (NJ s a b d 16) c d b 12) a b d 8) c d b 7
theorem Tw{a b:Nat}(ha:a<4294967296)(hb:b<4294967296):a ^^^ b<4294967296:=a7 (n:=32) ha hb
theorem Rh(w:OZ s)(a b d n:Nat)(hn:n<=32):OZ (NJ s a b d n):=by
 unfold NJ;have w1:=w.set a (y:=(s.getD a 0+s.getD b 0)%4294967296) nT;exact w1.set d (ma (Tw (w1.getD d) (w1.getD a)) hn)
theorem Lk(s:List Nat)(a b d n:Nat):(NJ s a b d n).length=(H s):=by simp[NJ]
theorem GQ(w:OZ s)(a b c d:Nat):OZ (Mm s a b c d):=
 Rh (Rh (Rh (Rh w _ _ _ _ nT) _ _ _ _ nT) _ _ _ _ nT) _ _ _ _ nT
theorem NK(s:List Nat)(a b c d:Nat):(Mm s a b c d).length=(H s):=by simp[Mm,Lk]
def pv(j x y:Nat):Nat:=if j%2=0 then x else y
def pn(j:Nat):Nat:=[16,12,8,7].getD j 0
def xt(s:List Nat)(a b c d:Nat):Nat->List Nat
 | 0=>s
 | j+1=>NJ (xt s a b c d j) (pv j a c) (pv j b d) (pv j d b) (pn j)
theorem xu(s:List Nat)(a b c d:Nat):xt s a b c d 4=Mm s a b c d:=rfl
theorem ZgF(j:Nat)(hj:j<4):nth [Value.int A 16,t A 12,t A 8,t A 7] j=O (t A (pn j:Nat)):=by
 rcases j with _|_|_|_|j<;>first|rfl|omega
theorem Zfb(j:Nat)(hj:j<4):pn j<=32:=by
 rcases j with _|_|_|_|j<;>first|decide|omega
theorem HQ(j x y:Nat):pv (j+1) x y=pv j y x:=by
 unfold pv;by_cases h:j%2=0
 .rw[if_pos h,if_neg nT]
 .rw[if_neg h,if_pos nT]
theorem ZgG(w:OZ s)(a b c d:Nat):∀j,j<=4->OZ (xt s a b c d j)/\(xt s a b c d j).length=(H s):=by
 intro j
 induction j with
 | zero=>intro _;exact⟨w,rfl⟩
 | succ j ih=>
  intro hj;obtain⟨h1,h2⟩:=ih nT;exact⟨Rh h1 _ _ _ _ (Zfb j nT),by rw[xt,Lk,h2]⟩
theorem GR(T:aU)(h:Hp)(bk:Nat)(s:List Nat)(a b c d:Nat)(hs:(H s)=16)(w:OZ s)(ha:a<16)(hb:b<16)(hc:c<16)(hd:d<16)(hx:h[bk]? = O (J (s.map wv++[]).toArray 167)):
  Zd ab T 77 #[L (O ⟨bk,0,Q⟩),t A a,t A b,t A c,t A d] h fun v' h'=>h'=h.setIfInBounds bk (J ((Mm s a b c d).map wv++[]).toArray 167):=by
 refine Zd.XT [_,_,_,_,_] Tryz.func77 ?_;simp +contextual -implicitDefEqProofs only[go_sem];refine VS.Yk (fun F g=>∃j:Nat,j<=4/\F 0=L (O ⟨bk,0,Q⟩)/\F 1=t A (pv j a c:Nat)/\F 2=t A (pv j b d:Nat)/\F 3=t A (pv j c a:Nat)/\F 4=t A (pv j d b:Nat)/\F 12=.agg [t A 16,t A 12,t A 8,t A 7].toArray/\F 13=t A j/\g=h.setIfInBounds bk (J ((xt s a b c d j).map wv++[]).toArray 167))
  (fun F _=>4-(vi (F 13)).toNat) rfl ⟨0,nT,rfl,rfl,rfl,rfl,rfl,rfl,rfl,?_⟩ ?_
 .exact (Vo hx).symm
 rintro F g ⟨j,hj,f0,f1,f2,f3,f4,f12,f13,rfl⟩;by_cases ZS:j<4
 .have Z7:(j:Int)<4:=nT;have n1:=ZgF j ZS;have n2:=Zfb j ZS;obtain⟨w1,l1⟩:=ZgG w a b c d j hj;rw[hs]at l1;have q1:pv j a c<16:=by unfold pv;split<;>assumption
  have q2:pv j b d<16:=by unfold pv;split<;>assumption
  have q4:pv j d b<16:=by unfold pv;split<;>assumption
  have Wi:=Yc (o:=J ((xt s a b c d j).map wv++[]).toArray 167) hx;obtain⟨G,hG⟩:=ZN (h.setIfInBounds bk (J ((xt s a b c d j).map wv++[]).toArray 167));rw[<-hG]at Wi ⊢;generalize EB:xt s a b c d j=st at *;simp +contextual -implicitDefEqProofs only[go_sem,f12,f13,Z7,n1];refine VS.w (bk+1) [13] (.q 0 (.q 1 (.q 2 (.q 3 (.q 4 (.q 5 (.q 6 (.q 7 (.q 8 (.q 9 (.q 10 (.q 11 (.q 12 (.w 13 .nil)))))))))))))) mixed uj ?_;have g1:=Z6 Wi (i:=pv j a c) nT;have g2:=Z6 Wi (i:=pv j b d) nT;have c1:QQ G ⟨bk,pv j a c,Q⟩ (t D ((((st.getD (pv j a c) 0+st.getD (pv j b d) 0)%4294967296:Nat)):Int))=_:=Yv (f:=wv) Wi (i:=pv j a c) nT _ rfl;have e1:((st.getD (pv j a c) 0:Int)+(st.getD (pv j b d) 0:Int))%4294967296=(((st.getD (pv j a c) 0+st.getD (pv j b d) 0)%4294967296:Nat):Int):=nT;unfold wv at g1 g2;obtain⟨y,hy⟩:=ZN ((st.getD (pv j a c) 0+st.getD (pv j b d) 0)%4294967296);have ZsW:y<4294967296:=nT;rw[<-hy]at c1 e1;simp +contextual -implicitDefEqProofs only[go_sem,f0,f1,f2,g1,g2,e1,c1];have Mj:=Yc (o:=J ((st.set (pv j a c) y).map wv++[]).toArray 167) Wi;have w2:=w1.set (pv j a c) ZsW;have l2:(st.set (pv j a c) y).length=16:=by rw[List.length_set,l1]
  have ZsX:xt s a b c d (j+1)=(st.set (pv j a c) y).set (pv j d b) (rotl ((st.set (pv j a c) y).getD (pv j d b) 0 ^^^ (st.set (pv j a c) y).getD (pv j a c) 0) (pn j)):=by
   rw[xt,EB,NJ,<-hy]
  rw[hG];generalize st.set (pv j a c) y=st2 at *;refine VS.w (bk+1) [17] (.q 0 (.q 1 (.q 2 (.q 3 (.q 4 (.q 5 (.q 6 (.q 7 (.q 8 (.q 9 (.q 10 (.q 11 (.q 12 (.q 13 (.q 15 (.s 14 (.q 16 (.w 17 .nil)))))))))))))))))) mixed uj ?_;clear Mj;rw[set_set];have Mj:(h.setIfInBounds bk (J (st2.map wv++[]).toArray 167))[bk]? = O (J (st2.map wv++[]).toArray 167):=Yc hx;obtain⟨G2,md⟩:=ZN (h.setIfInBounds bk (J (st2.map wv++[]).toArray 167));rw[<-md]at Mj ⊢;have g3:=Z6 Mj (i:=pv j d b) nT;have g4:=Z6 Mj (i:=pv j a c) nT;unfold wv at g3 g4;have e2:=Ue (st2.getD (pv j d b) 0) (st2.getD (pv j a c) 0) (w2.getD _) (w2.getD _);have hz:=Tw (w2.getD (pv j d b)) (w2.getD (pv j a c));generalize st2.getD (pv j d b) 0 ^^^ st2.getD (pv j a c) 0=z at *;simp +contextual -implicitDefEqProofs only[go_sem,f0,f1,f4,g3,g4,e2];refine (iw T _ z (pn j) hz n2).pure ?_;have c2:QQ G2 ⟨bk,pv j d b,Q⟩ (t D ((rotl z (pn j):Nat):Int))=_:=Yv (f:=wv) Mj (i:=pv j d b) nT _ rfl;simp +contextual -implicitDefEqProofs only[go_sem,c2,f1,f2,f3,f4,f12,f13];refine⟨⟨j+1,nT,f0,?_,?_,?_,?_,f12,rfl,?_⟩,?_⟩
  .rw[HQ];rfl
  .rw[HQ];rfl
  .rw[HQ];rfl
  .rw[HQ];rfl
  .rw[md,set_set,ZsX]
  .simp only[vi,Zq,↓reduceIte,f13];omega
 .have Xv:¬(j:Int)<4:=nT;obtain rfl:j=4:=nT;simp +contextual -implicitDefEqProofs only[go_sem,f12,f13,Xv];rw[xu]
theorem ZcJ{h:Hp}{v:Y}{l:List Nat}(s:Ts (fun x=>[nv x]) 1 h v l):∃p cap,v=M p (H l) cap/\(l≠[]->∃b o,p=O ⟨b,o,Q⟩/\b<h.size/\∀i,i<(H l)->hc h ⟨b,o+i,Q⟩=O (t A (l.getD i 0:Nat))):=by
 obtain⟨p,cap,hv,WE⟩:=Ts.open (enc:=fun x=>[nv x]) (n:=1) (fun _=>rfl) Nat.one_ne_zero s;refine⟨p,cap,hv,fun Y4=>?_⟩;obtain⟨b,o,hp,hb,XI⟩:=WE Y4;refine⟨b,o,hp,hb,fun i hi=>?_⟩;have:=(XI i hi).hc (i:=0) rfl;rw[Nat.mul_one,ba]at this;rw[this,N,W hi];rfl
def rr(x n:Nat):Nat:=rotl x (32-n)
theorem WF{x n:Nat}(hx:x<4294967296):rr x n<4294967296:=ma hx nT
def sg0(x:Nat):Nat:=rr x 7 ^^^ rr x 18 ^^^ x/8
def sg1(x:Nat):Nat:=rr x 17 ^^^ rr x 19 ^^^ x/1024
def bg0(x:Nat):Nat:=rr x 2 ^^^ rr x 13 ^^^ rr x 22
def xw(x:Nat):Nat:=rr x 6 ^^^ rr x 11 ^^^ rr x 25
theorem ZsY{a b:Nat}(ha:a<256)(hb:b<256):a ^^^ b<256:=a7 (n:=8) ha hb
theorem Wk{a b:Nat}(ha:a<4294967296):a &&& b<4294967296:=ao Nat.and_le_left ha
theorem Zfc{e:Nat}(he:e<4294967296):4294967295 ^^^ e=4294967295-e:=by
 have h1:(BitVec.allOnes 32 ^^^ BitVec.ofNat 32 e).toNat=(~~~ (BitVec.ofNat 32 e)).toNat:=by rw[BitVec.allOnes_xor]
 rw[BitVec.toNat_xor,BitVec.toNat_not,BitVec.toNat_allOnes,BitVec.toNat_ofNat,Z nT]at h1;exact h1
theorem pO{a b:Nat}(ha:a<4294967296)(hb:b<4294967296)(h:a &&& b=0):a ^^^ b=a+b:=by
 have hx:BitVec.ofNat 33 a &&& BitVec.ofNat 33 b=0#33:=by
  apply BitVec.eq_of_toNat_eq;rw[BitVec.toNat_and,BitVec.toNat_ofNat,BitVec.toNat_ofNat,Z nT,Z nT,h];rfl
 have h1:=BitVec.add_eq_or_of_and_eq_zero _ _ hx;have h2:BitVec.ofNat 33 a ||| BitVec.ofNat 33 b=BitVec.ofNat 33 a ^^^ BitVec.ofNat 33 b:=by
  apply BitVec.eq_of_getLsbD_eq;intro i hi;have:=congrArg (·.getLsbD i) hx
  simp only[BitVec.getLsbD_and,BitVec.getLsbD_zero]at this;rw[BitVec.getLsbD_or,BitVec.getLsbD_xor]
  revert this
  cases (BitVec.ofNat 33 a).getLsbD i<;>cases (BitVec.ofNat 33 b).getLsbD i<;>simp
 have h3:=congrArg BitVec.toNat (h1.trans h2);rw[BitVec.toNat_add,BitVec.toNat_xor,BitVec.toNat_ofNat,BitVec.toNat_ofNat,Z (by omega:a<2 ^ 33),Z (by omega:b<2 ^ 33),Z (by omega:a+b<2 ^ 33)]at h3;exact h3.symm
def chw(e f g:Nat):Nat:=(e &&& f)+((4294967295-e) &&& g)
def pP(a b c:Nat):Nat:=(a &&& b) ||| (a &&& c) ||| (b &&& c)
theorem xx{e f g:Nat}(he:e<4294967296):(e &&& f) &&& ((4294967295-e) &&& g)=0:=by
 rw[<-Zfc he];apply a3;intro i;rw[ae,ae,ae,bn,Nat.zero_testBit];by_cases hi:i<32
 .have:Nat.testBit 4294967295 i=true:=by
   rw[show (4294967295:Nat)=2 ^ 32-1 from rfl,Nat.testBit_two_pow_sub_one];simpa using hi
  rw[this]
  cases e.testBit i<;>simp
 .have:e.testBit i=false:=Nat.testBit_lt_two_pow (Nat.lt_of_lt_of_le he (a4 (n:=2) nT (by omega:32<=i)));rw[this];simp
theorem ZcK{e f g:Nat}(he:e<4294967296)(hg:g<4294967296):(e &&& f) ^^^ ((4294967295-e) &&& g)=chw e f g:=
 pO (Wk he) (Wk nT) (xx he)
theorem xy(a b c:Nat):(a &&& b) ^^^ (a &&& c) ^^^ (b &&& c)=pP a b c:=by
 unfold pP;apply a3;intro i;simp only[bn,Nat.testBit_or,ae]
 cases a.testBit i<;>cases b.testBit i<;>cases c.testBit i<;>rfl
theorem aF{a k:Nat}(ha:a<4294967296):a/k<4294967296:=ao (bl _ _) ha
theorem aG(e:Nat):4294967295-e<4294967296:=nT
theorem Zk9{a:Nat}(ha:a<4294967296):a<9223372036854775808:=Nat.lt_trans ha Iw
theorem r64{a b:Nat}(ha:a<4294967296)(hb:b<4294967296):YN .or A (a:Int) (b:Int)=((a ||| b:Nat):Int):=Mc a b (Zk9 ha) (Zk9 hb)
theorem ZcL{e:Nat}(he:e<4294967296):YN .xor D (4294967295:Int) (e:Int)=((4294967295-e:Nat):Int):=by
 have:=Ue 4294967295 e Iw he;rw[Zfc he]at this;exact this
theorem ZgI{e f g:Nat}(he:e<4294967296)(hg:g<4294967296):YN .xor D ((e &&& f:Nat):Int) (((4294967295-e) &&& g:Nat):Int)=((chw e f g:Nat):Int):=by
 rw[Ue _ _ (Wk he) (Wk (aG e)),ZcK he hg]
theorem ZcM{a b c:Nat}(ha:a<4294967296)(hb:b<4294967296):YN .xor D (((a &&& b) ^^^ (a &&& c):Nat):Int) ((b &&& c:Nat):Int)=((pP a b c:Nat):Int):=by
 rw[Ue _ _ (Tw (Wk ha) (Wk ha)) (Wk hb),xy]
def kN:List Nat:=[
 1116352408,1899447441,3049323471,3921009573,961987163,1508970993,2453635748,2870763221,
 3624381080,310598401,607225278,1426881987,1925078388,2162078206,2614888103,3248222580,
 3835390401,4022224774,264347078,604807628,770255983,1249150122,1555081692,1996064986,
 2554220882,2821834349,2952996808,3210313671,3336571891,3584528711,113926993,338241895,
 666307205,773529912,1294757372,1396182291,1695183700,1986661051,2177026350,2456956037,
 2730485921,2820302411,3259730800,3345764771,3516065817,3600352804,4094571909,275423344,
 430227734,506948616,659060556,883997877,958139571,1322822218,1537002063,1747873779,
 1955562222,2024104815,2227730452,2361852424,2428436474,2756734187,3204031479,3329325298]
theorem ZgJ:OZ kN:=by unfold OZ;decide +kernel
def Bi(b s:List Nat):Nat:=if (H s)<16 then XD b (4*(H s)) else (s.getD ((H s)-16) 0+sg0 (s.getD ((H s)-15) 0)+s.getD ((H s)-7) 0+sg1 (s.getD ((H s)-2) 0))%4294967296
def UA(b:List Nat):Nat->List Nat
 | 0=>[]
 | n+1=>UA b n++[Bi b (UA b n)]
theorem Qi(b:List Nat):∀n,(UA b n).length=n
 | 0=>rfl
 | n+1=>by rw[UA,aq,Qi b n];rfl
def Ns(l:List Nat):Prop:=∀x∈l,x<256
theorem ZgK{b:List Nat}(hb:Ns b)(i:Nat):XD b i<4294967296:=by
 have h0:=Z3 hb i;have h1:=Z3 hb (i+1);have h2:=Z3 hb (i+2);have h3:=Z3 hb (i+3);unfold XD;omega
theorem ZcN{b:List Nat}(hb:Ns b)(s:List Nat):Bi b s<4294967296:=by
 unfold Bi;split
 .exact ZgK hb _
 .omega
theorem GS{b:List Nat}(hb:Ns b):∀n,OZ (UA b n)
 | 0=>fun x hx=>by cases hx
 | n+1=>fun x hx=>by
  rw[UA,al,List.mem_singleton]at hx;rcases hx with hx|rfl
  .exact GS hb n x hx
  .exact ZcN hb _
def upw(e f g h k w:Nat):Nat:=(h+xw e+chw e f g+k+w)%4294967296
def xz(v:List Nat)(k w:Nat):List Nat:=
 match v with
 | [a,b,c,d,e,f,g,h]=>[(upw e f g h k w+bg0 a+pP a b c)%4294967296,a,b,c,(d+upw e f g h k w)%4294967296,e,f,g]
 | v=>v
theorem eight{v:List Nat}(h:(H v)=8):∃a b c d e f g k,v=[a,b,c,d,e,f,g,k]:=by
 match v,h with
 | [a,b,c,d,e,f,g,k],_=>exact⟨a,b,c,d,e,f,g,k,rfl⟩
theorem aH{v:List Nat}(h:(H v)=8)(k w:Nat):(xz v k w).length=8:=by
 obtain⟨a,b,c,d,e,f,g,j,rfl⟩:=eight h;rfl
theorem xC{v:List Nat}(h:(H v)=8)(hv:OZ v)(k w:Nat):OZ (xz v k w):=by
 obtain⟨a,b,c,d,e,f,g,j,rfl⟩:=eight h;intro x hx;simp only[xz,bo,bd,or_false]at hx;rcases hx with rfl|rfl|rfl|rfl|rfl|rfl|rfl|rfl
 all_goals first|exact am _ nT|exact hv _ uK
def UB(b v:List Nat):Nat->List Nat
 | 0=>v
 | i+1=>xz (UB b v i) (kN.getD i 0) ((UA b 64).getD i 0)
theorem Ok{b v:List Nat}(h:(H v)=8)(hv:OZ v):∀i,(UB b v i).length=8/\OZ (UB b v i)
 | 0=>⟨h,hv⟩
 | i+1=>⟨aH (Ok h hv i).1 _ _,xC (Ok h hv i).1 (Ok h hv i).2 _ _⟩
def PQ(d v:List Nat):List Nat:=List.zipWith (fun x y=>(x+y)%4294967296) d v
theorem Ol{d v:List Nat}(h:(H d)=8)(k:(H v)=8):(PQ d v).length=8:=by simp[PQ,h,k]
theorem xE(d v:List Nat):OZ (PQ d v):=by
 intro x hx;unfold PQ at hx;rw[List.zipWith_eq_zipWith_take_min]at hx;obtain⟨i,hi,rfl⟩:=List.mem_iff_getElem.1 hx;rw[List.getElem_zipWith];omega
theorem pQ{d v:List Nat}(h:(H d)=8)(k:(H v)=8){i:Nat}(hi:i<8):(PQ d v).getD i 0=(d.getD i 0+v.getD i 0)%4294967296:=by
 have e1:i<(PQ d v).length:=by rw[Ol h k];exact hi
 rw[N,W e1,N,N,W (show i<(H d) by omega),W (show i<(H v) by omega)];simp[PQ]
def aI(d b:List Nat):List Nat:=PQ d (UB b d 64)
theorem xF{d b:List Nat}(h:(H d)=8)(hv:OZ d):(aI d b).length=8/\OZ (aI d b):=⟨Ol h (Ok h hv 64).1,xE _ _⟩
def xH:List Nat:=[1779033703,3144134277,1013904242,2773480762,1359893119,2600822924,528734635,1541459225]
theorem xI:OZ xH:=by unfold OZ;decide
def aJ(p:List Nat):Nat->List Nat
 | 0=>xH
 | j+1=>aI (aJ p j) ((p.drop (64*j)).take 64)
theorem Ll(p:List Nat):∀j,(aJ p j).length=8/\OZ (aJ p j)
 | 0=>⟨rfl,xI⟩
 | j+1=>xF (Ll p j).1 (Ll p j).2
def EO(n:Nat):Nat:=(119-n%64)%64
def Om(l:List Nat)(j:Nat):List Nat:=l++128 :: R j 0
def Sj(l:List Nat):List Nat:=Om l (EO (H l))++(0 :: 0 :: 0 :: 0 :: Xj (8*(H l)))
def pR(n:Nat):Nat:=(n+72)/64
theorem Lm(l:List Nat)(j:Nat):(Om l j).length=(H l)+j+1:=by simp[Om];omega
theorem Bj(l:List Nat):(Sj l).length=64*pR (H l):=by
 rw[Sj,aq,Lm];simp only[Xj,List.length_cons,List.length_nil,EO,pR];omega
theorem aK{n j:Nat}(hj:j<=EO n):(n+j+1)%64=56↔j=EO n:=by unfold EO at *;omega
theorem ix(l:List Nat)(j:Nat):Om l (j+1)=Om l j++[0]:=by
 unfold Om;rw[List.append_assoc,List.cons_append,List.replicate_succ']
def TX(l:List Nat):List Nat:=ZB (aJ (Sj l) (pR (H l)))
theorem Qj(l:List Nat):(TX l).length=32:=by rw[TX,ZK,(Ll _ _).1]
theorem EP(xs:List Nat):Ns (ZB xs):=by
 intro x hx;unfold ZB at hx;obtain⟨y,_,hy⟩:=List.mem_flatMap.1 hx;exact UL y x hy
theorem pS(l:List Nat):Ns (TX l):=EP _
def xK(l:List Nat)(i:Nat):Nat:=l.getD i 0+256*l.getD (i+1) 0+65536*l.getD (i+2) 0+16777216*l.getD (i+3) 0
theorem iy{l:List Nat}(hb:∀x∈l,x<256)(i:Nat):xK l i<4294967296:=by
 have b0:=Z3 hb i;have b1:=Z3 hb (i+1);have b2:=Z3 hb (i+2);have b3:=Z3 hb (i+3);unfold xK;omega
theorem aL(l:List Nat)(k:Nat):xK (l.drop k) 0=xK l k:=by
 unfold xK;simp only[N,List.getElem?_drop,ba,Nat.zero_add]
theorem Mn{x k:Nat}(hx:x<256)(hk:k<=24):Xo D (x:Int) (k:Int)=((x*2 ^ k:Nat):Int):=by
 rw[HP x k nT,Z];have:2 ^ k<=2 ^ 24:=a4 nT hk;have h2:x*2 ^ k<=255*2 ^ 24:=Nat.mul_le_mul nT this;omega
theorem ZcO{a b c d:Nat}(ha:a<256)(hb:b<256)(hc:c<256)(hd:d<256):
  YN .or D (YN .or D (YN .or D (a:Int) (Xo D b 8)) (Xo D c 16)) (Xo D d 24)=((a+256*b+65536*c+16777216*d:Nat):Int):=by
 have e1:Xo D (b:Int) 8=((b*256:Nat):Int):=Mn (k:=8) hb nT;have e2:Xo D (c:Int) 16=((c*65536:Nat):Int):=Mn (k:=16) hc nT;have e3:Xo D (d:Int) 24=((d*16777216:Nat):Int):=Mn (k:=24) hd nT;have f1:a ||| b*256=a+256*b:=by rw[bh,Uo (k:=8) nT nT];omega
 have f2:(a+256*b) ||| c*65536=a+256*b+65536*c:=by rw[bh,Uo (k:=16) nT nT];omega
 have f3:(a+256*b+65536*c) ||| d*16777216=a+256*b+65536*c+16777216*d:=by rw[bh,Uo (k:=24) nT nT];omega
 rw[e1,e2,e3,Ob _ _ nT nT,f1,Ob _ _ nT nT,f2,Ob _ _ nT nT,f3]
theorem mf(T:aU)(h:Hp)(v:Y)(l:List Nat)(s:Bs h v l)(hi:4<=(H l)):
  Zd ab T 76 #[v] h fun v' h'=>v'=t D (xK l 0:Nat)/\h'=h:=by
 obtain⟨p,c,rfl,WE⟩:=s.VJ;obtain⟨b,o,rfl,hb,XI⟩:=WE (by intro e;subst e;simp at hi);refine Zd.XT [_] Tryz.func76 ?_;have e0:=XI 0 nT;have e1:=XI 1 nT;have e2:=XI 2 nT;have e3:=XI 3 nT;have b0:=Z3 s.byte 0;have b1:=Z3 s.byte 1;have b2:=Z3 s.byte 2;have b3:=Z3 s.byte 3;rw[ba]at e0;have eo:=ZcO b0 b1 b2 b3;rw[show l.getD 0 0+256*l.getD 1 0+65536*l.getD 2 0+16777216*l.getD 3 0=xK l 0 from rfl]at eo;simp +contextual -implicitDefEqProofs only[go_sem];refine VS.q mixed uj ?_;have m0:((l.getD 0 0:Nat):Int)%4294967296=(l.getD 0 0:Nat):=nT;have m1:((l.getD 1 0:Nat):Int)%4294967296=(l.getD 1 0:Nat):=nT;have m2:((l.getD 2 0:Nat):Int)%4294967296=(l.getD 2 0:Nat):=nT;have m3:((l.getD 3 0:Nat):Int)%4294967296=(l.getD 3 0:Nat):=nT;simp +contextual -implicitDefEqProofs only[go_sem,e0,e1,e2,e3,m0,m1,m2,m3,eo]
def iz(a:Option Addr)(n cap l:Nat):Option Addr:=if cap=l then a else a.map (·.add (l*n))
theorem WO{K:Y->Hp->Prop}{h:Hp}{a:Option Addr}{n cap b l:Nat}:Nz a n cap b (O l) K h=K (M (iz a n cap l) (b-l) (cap-l)) h:=rfl
theorem O0{h:Hp}{p:Option Addr}{c m:Nat}{l:List Nat}(s:Bs h (M p m c) l)(hm:(H l)=m){k:Nat}(hk:k<=m)(Vk:m<=c)(c':Nat):Bs h (M (iz p 1 c k) (m-k) c') (l.drop k):=by
 subst hm;unfold iz;refine⟨?_,fun x hx=>s.byte x (List.mem_of_mem_drop hx)⟩;obtain⟨p',cap,hv,hl,hc⟩:=s.sl;simp only[Value.slice.injEq]at hv;obtain⟨rfl,_,rfl⟩:=hv;refine⟨_,c',by rw[aw],uK,fun Y4=>?_⟩;have ZS:k<(H l):=by
  rw[<-List.length_pos_iff]at Y4;simp at Y4;omega
 obtain⟨b,o,rfl,XI⟩:=hc (by intro e;simp at e;subst e;simp at ZS);refine⟨b,o+k,?_,fun i hi=>?_⟩
 .rw[if_neg nT];simp only[Option.map_some,XL,Nat.mul_one]
 .have HN:i<(H l)-k:=by simpa using hi
  rw[show o+k+i=o+(k+i) by omega,XI (k+i) Ig];simp
def NL(key:List Nat)(Hk:Nat)(ZC:List Nat):List Nat:=[1634760805,857760878,2036477234,1797285236]++(a8 8).map (fun i=>xK key (4*i))++(Hk :: (a8 3).map (fun i=>xK ZC (4*i)))
def iA(s:List Nat):Nat->List Nat
 | 0=>s
 | i+1=>Mm (iA s i) i (4+i) (8+i) (12+i)
def diags(s:List Nat):Nat->List Nat
 | 0=>s
 | i+1=>Mm (diags s i) i (4+(i+1)%4) (8+(i+2)%4) (12+(i+3)%4)
def On(s:List Nat):Nat->List Nat
 | 0=>s
 | r+1=>diags (iA (On s r) 4) 4
def Zla(x s:List Nat)(k:Nat):Nat:=(x.getD (k/4) 0+s.getD (k/4) 0)%4294967296/256 ^ (k%4)%256
def EQ(x s:List Nat):List Nat:=(a8 64).map (Zla x s)
def Jq(key:List Nat)(Hk:Nat)(ZC:List Nat):List Nat:=EQ (On (NL key Hk ZC) 10) (NL key Hk ZC)
theorem Bl(w:OZ s):∀i,OZ (iA s i)/\(iA s i).length=(H s):=by
 intro i
 induction i with
 | zero=>exact⟨w,rfl⟩
 | succ i ih=>exact⟨GQ ih.1 _ _ _ _,by rw[iA,NK,ih.2]⟩
theorem aM(w:OZ s):∀i,OZ (diags s i)/\(diags s i).length=(H s):=by
 intro i
 induction i with
 | zero=>exact⟨w,rfl⟩
 | succ i ih=>exact⟨GQ ih.1 _ _ _ _,by rw[diags,NK,ih.2]⟩
theorem mg(w:OZ s):∀i,OZ (On s i)/\(On s i).length=(H s):=by
 intro i
 induction i with
 | zero=>exact⟨w,rfl⟩
 | succ i ih=>
  obtain⟨c1,c2⟩:=Bl ih.1 4;obtain⟨d1,d2⟩:=aM c1 4;exact⟨d1,by rw[On,d2,c2,ih.2]⟩
theorem Bm(key:List Nat)(Hk:Nat)(ZC:List Nat):(NL key Hk ZC).length=16:=by simp[NL]
theorem pT{key ZC:List Nat}{Hk:Nat}(hk:∀x∈key,x<256)(hn:∀x∈ZC,x<256)(hc:Hk<4294967296):OZ (NL key Hk ZC):=by
 intro x hx;unfold NL at hx;simp only[al,bo,bc,List.mem_range,bd,or_false]at hx;rcases hx with ((rfl|rfl|rfl|rfl)|⟨i,_,rfl⟩)|rfl|⟨i,_,rfl⟩
 .omega
 .omega
 .omega
 .omega
 .exact iy hk _
 .exact hc
 .exact iy hn _
theorem QU(xs zs:List Nat)(i:Nat)(hi:i<(H xs))(hz:(H xs)=(H zs)):(xs.take i++zs.drop i).set i (xs.getD i 0)=xs.take (i+1)++zs.drop (i+1):=by
 rw[<-Kl xs zs i hi hz,N,W hi];rfl
theorem DA(key ZC:List Nat)(Hk i:Nat)(hi:i<8):(NL key Hk ZC).getD (4+i) 0=xK key (4*i):=by
 rcases i with _|_|_|_|_|_|_|_|i<;>first|rfl|omega
theorem aN(key ZC:List Nat)(Hk i:Nat)(hi:i<3):(NL key Hk ZC).getD (13+i) 0=xK ZC (4*i):=by
 rcases i with _|_|_|i<;>first|rfl|omega
theorem GU(f:Nat->Nat){m k:Nat}(hk:k<m):((a8 m).map f).getD k 0=f k:=by
 simp[N,hk]
theorem O1(x s:List Nat)(i j:Nat)(hi:i<16)(hj:j<4):(EQ x s).getD (4*i+j) 0=(x.getD i 0+s.getD i 0)%4294967296/256 ^ j%256:=by
 unfold EQ;rw[GU _ nT];unfold Zla;rw[show (4*i+j)/4=i by omega,show (4*i+j)%4=j by omega]
theorem GV(x s:List Nat):∀y∈EQ x s,y<256:=by
 intro y hy;unfold EQ at hy;obtain⟨k,_,rfl⟩:=bc.1 hy;exact am _ Iw
def mh:List Nat:=R 16 0
theorem Iz(T:aU)(h:Hp)(p q:Option Addr)(m n c d:Nat)(k:Int):
  Zd ab T 58 #[M p m c,t A k,M q n d] h fun v' h'=>v'=t A (if m≠32\/n≠12 then 1 else if k<0\/1073741824<k then 2 else 0)/\h'=h:=by
 refine Zd.XT [_,_,_] Tryz.func58 ?_;by_cases q1:(m:Int)=32
 .by_cases q2:(n:Int)=12
  .rw[if_neg nT];by_cases q3:k<0
   .rw[if_pos nT];simp +contextual -implicitDefEqProofs only[go_sem,q1,q2,q3]
   .by_cases q4:1073741824<k
    .rw[if_pos nT];simp +contextual -implicitDefEqProofs only[go_sem,q1,q2,q3,q4]
    .rw[if_neg nT];simp +contextual -implicitDefEqProofs only[go_sem,q1,q2,q3,q4]
  .rw[if_pos nT];simp +contextual -implicitDefEqProofs only[go_sem,q1,q2]
 .rw[if_pos nT];simp +contextual -implicitDefEqProofs only[go_sem,q1]
theorem Ln(T:aU)(h:Hp)(v u:Y)(key ZC:List Nat)(Hk:Nat)(sk:Bs h v key)(sn:Bs h u ZC)(hk:(H key)=32)(hn:(H ZC)=12)(hc:Hk<4294967296)(ck:PM v)(cn:PM u):
  Zd ab T 59 #[v,t D Hk,u] h fun v' h'=>v'=.agg ((Jq key Hk ZC).map bv).toArray/\Zj h.size h h':=by
 obtain⟨p,c,rfl,_⟩:=sk.open;obtain⟨q,d,rfl,_⟩:=sn.open;rw[hk]at sk ck ⊢;rw[hn]at sn cn ⊢;have ck:32<=c:=ck;have cn:12<=d:=cn;refine Zd.XT [_,_,_] Tryz.func59 ?_;obtain⟨S,hS⟩:=ZN (NL key Hk ZC);have iB:(H S)=16:=by rw[hS];exact Bm _ _ _
 have hSZ:(H S)=(H mh):=iB;have fl:∀k,k<=16->(S.take k++mh.drop k).length=16:=fun k hk=>by rw[Se _ _ _ (by omega) hSZ,iB]
 simp +contextual -implicitDefEqProofs only[go_sem];refine VS.Yk (fun F g=>Zj (h.size+1) (h.push (J ((R 64 0).map bv).toArray 143)) g/\F 0=M p 32 c/\F 1=t D Hk/\F 2=M q 12 d/\F 6=L (O ⟨h.size,0,Q⟩)/\F 7=L (O ⟨h.size+1,0,Q⟩)/\∃i:Nat,i<=8/\F 17=t A i/\g[h.size+1]? = O (J ((S.take (4+i)++mh.drop (4+i)).map wv++[]).toArray 167))
  (fun F _=>8-(vi (F 17)).toNat) rfl ⟨Zj.push (by simp) _,rfl,rfl,rfl,rfl,rfl,0,by omega,rfl,?_⟩ ?_
 .subst hS;have e:=Zc (h:=h.push (J ((R 64 0).map bv).toArray 143)) (o:=J ((List.take (4+0) (NL key Hk ZC)++List.drop (4+0) mh).map wv++[]).toArray 167);rw[Array.size_push]at e;exact e
 rintro F g ⟨hg,f0,f1,f2,f6,f7,i,hi,f17,hx⟩;by_cases ZS:i<8
 .have Z7:(i:Int)<8:=by omega
  have t4:(4*(i:Int)).toNat=4*i:=by omega
  have t5:((4:Int)+i).toNat=4+i:=by omega
  simp +contextual -implicitDefEqProofs only[go_sem,f0,f7,f17,Z7,t4,t5,WO];have ui:=O0 (sk.Yz ((Zj.push (aa _) _).trans (hg.mono (by omega)))) hk (k:=4*i) (by omega) ck (c-4*i);refine (mf T _ _ _ ui (by rw[aw];omega)).pure ?_;rw[aL,<-DA key ZC Hk i ZS,<-hS];have hSi:S.getD (4+i) 0<4294967296:=by rw[hS,DA key ZC Hk i ZS];exact iy sk.byte _
  have c1:QQ g ⟨h.size+1,4+i,Q⟩ (t D (S.getD (4+i) 0:Nat))=_:=Yv (f:=wv) hx (i:=4+i) (by rw[fl _ (by omega)];omega) _ rfl;rw[QU S mh (4+i) (by omega) hSZ]at c1;simp +contextual -implicitDefEqProofs only[go_sem,f7,f17,t5,c1];refine⟨⟨hg.Zs (by omega) _,f0,f1,f2,f6,f7,i+1,ZS,rfl,?_⟩,?_⟩
  .exact Yc hx
  .simp only[vi,Zq,↓reduceIte,f17];omega
 .have Xv:¬(i:Int)<8:=by omega
  obtain rfl:i=8:=by omega
  have c1:QQ g ⟨h.size+1,12,Q⟩ (t D (S.getD 12 0:Nat))=_:=Yv (f:=wv) hx (i:=12) (by rw[fl _ (by omega)];omega) _ rfl;have s12:S.getD 12 0=Hk:=by rw[hS];rfl
  rw[QU S mh 12 (by omega) hSZ,s12]at c1;have hx:=Yc (o:=J ((S.take 13++mh.drop 13).map wv++[]).toArray 167) hx;have hg:=hg.Zs (b:=h.size+1) (by omega) (J ((S.take 13++mh.drop 13).map wv++[]).toArray 167);simp +contextual -implicitDefEqProofs only[go_sem,f0,f1,f7,f17,Xv,c1];obtain⟨G,hG⟩:=ZN (g.setIfInBounds (h.size+1) (J ((S.take 13++mh.drop 13).map wv++[]).toArray 167):Hp);rw[<-hG]at hx hg ⊢;clear hG c1 s12;refine VS.Yk (fun F g=>Zj (h.size+1) (h.push (J ((R 64 0).map bv).toArray 143)) g/\F 2=M q 12 d/\F 6=L (O ⟨h.size,0,Q⟩)/\F 7=L (O ⟨h.size+1,0,Q⟩)/\∃i:Nat,i<=3/\F 31=t A i/\g[h.size+1]? = O (J ((S.take (13+i)++mh.drop (13+i)).map wv++[]).toArray 167))
   (fun F _=>3-(vi (F 31)).toNat) rfl ⟨hg,f2,f6,f7,0,by omega,rfl,hx⟩ ?_
  clear f0 f1 f2 f6 f7 f17 hg hx F;rintro F g ⟨hg,f2,f6,f7,i,hi,f31,hx⟩;by_cases ZS:i<3
  .have Z7:(i:Int)<3:=by omega
   have t4:(4*(i:Int)).toNat=4*i:=by omega
   have t5:((13:Int)+i).toNat=13+i:=by omega
   simp +contextual -implicitDefEqProofs only[go_sem,f2,f7,f31,Z7,t4,t5,WO];have ui:=O0 (sn.Yz ((Zj.push (aa _) _).trans (hg.mono (by omega)))) hn (k:=4*i) (by omega) cn (d-4*i);refine (mf T _ _ _ ui (by rw[aw];omega)).pure ?_;rw[aL,<-aN key ZC Hk i ZS,<-hS];have c1:QQ g ⟨h.size+1,13+i,Q⟩ (t D (S.getD (13+i) 0:Nat))=_:=Yv (f:=wv) hx (i:=13+i) (by rw[fl _ (by omega)];omega) _ rfl;rw[QU S mh (13+i) (by omega) hSZ]at c1;simp +contextual -implicitDefEqProofs only[go_sem,f7,f31,t5,c1];refine⟨⟨hg.Zs (by omega) _,f2,f6,f7,i+1,ZS,rfl,?_⟩,?_⟩
   .exact Yc hx
   .simp only[vi,Zq,↓reduceIte,f31];omega
  .have Xv:¬(i:Int)<3:=by omega
   obtain rfl:i=3:=by omega
   have e16:S.take (13+3)++mh.drop (13+3)=S:=by
    have:=Km S mh hSZ;rw[iB]at this;exact this
   rw[e16]at hx;have y1:=Zz (n:=16) hx (by simp[iB]);have xM:(S.map wv++[]).length=16:=by simp[iB]
   have Hd:(S.map wv++[]).all YD=true:=by simp[wv,YD]
   have hl3:Y8 (mh.map wv) 0 (S.map wv++[])=S.map wv++[]:=Z4 (by rw[xM];rfl);have hl3:Y8 [Value.int D 0,Value.int D 0,Value.int D 0,Value.int D 0,Value.int D 0,Value.int D 0,Value.int D 0,Value.int D 0,Value.int D 0,Value.int D 0,Value.int D 0,Value.int D 0,Value.int D 0,Value.int D 0,Value.int D 0,Value.int D 0] 0 (S.map wv++[])=S.map wv++[]:=hl3;have wS:OZ S:=by rw[hS];exact pT sk.byte sn.byte hc
   have Oo:=Za hx;simp +contextual -implicitDefEqProofs only[go_sem,f6,f7,f31,Xv,y1,xM,Hd,hl3];clear hl3 y1;obtain⟨G,hG⟩:=ZN (g.push (J (S.map wv++[]).toArray 167):Hp);have hxG:G[g.size]? = O (J ((On S 0).map wv++[]).toArray 167):=by rw[hG];exact Zc
   have hGb:Zj g.size g G:=by rw[hG];exact Zj.push (aa _) _
   rw[<-hG];clear hG;refine VS.Yk (fun F g'=>Zj g.size g g'/\F 6=L (O ⟨h.size,0,Q⟩)/\F 7=L (O ⟨h.size+1,0,Q⟩)/\F 10=L (O ⟨g.size,0,Q⟩)/\∃r:Nat,r<=10/\F 44=t A r/\g'[g.size]? = O (J ((On S r).map wv++[]).toArray 167))
    (fun F _=>10-(vi (F 44)).toNat) rfl ⟨hGb,f6,f7,rfl,0,by omega,rfl,hxG⟩ ?_
   clear f2 f6 f7 f31 hxG hGb G F;rintro F g1 ⟨b1,f6,f7,f10,r,hr,f44,Wi⟩;by_cases Hl:r<10
   .have Zlc:(r:Int)<10:=by omega
    obtain⟨wr,lr⟩:=mg wS r;rw[iB]at lr;simp +contextual -implicitDefEqProofs only[go_sem,f44,Zlc];refine VS.Yk (fun F g'=>Zj g.size g g'/\F 6=L (O ⟨h.size,0,Q⟩)/\F 7=L (O ⟨h.size+1,0,Q⟩)/\F 10=L (O ⟨g.size,0,Q⟩)/\F 44=t A r/\∃i:Nat,i<=4/\F 46=t A i/\g'[g.size]? = O (J ((iA (On S r) i).map wv++[]).toArray 167))
     (fun F _=>4-(vi (F 46)).toNat) rfl ⟨b1,f6,f7,f10,f44,0,by omega,rfl,Wi⟩ ?_
    clear f6 f7 f10 f44 b1 Wi F g1;rintro F g1 ⟨b1,f6,f7,f10,f44,i,hi,f46,Wi⟩;by_cases pU:i<4
    .have Zld:(i:Int)<4:=by omega
     obtain⟨wc,lc⟩:=Bl wr i;rw[lr]at lc;have t1:(4:Int)+i=((4+i:Nat):Int):=by omega
     have t2:(8:Int)+i=((8+i:Nat):Int):=by omega
     have t3:(12:Int)+i=((12+i:Nat):Int):=by omega
     simp +contextual -implicitDefEqProofs only[go_sem,f10,f46,Zld,t1,t2,t3];refine (GR T g1 g.size _ i (4+i) (8+i) (12+i) lc wc (by omega) (by omega) (by omega) (by omega) Wi).use ?_;rintro _ _ rfl;simp +contextual -implicitDefEqProofs only[go_sem,f46];refine⟨⟨b1.Zs (aa _) _,f6,f7,f10,f44,i+1,pU,rfl,?_⟩,?_⟩
     .exact Yc Wi
     .simp only[vi,Zq,↓reduceIte,f46];omega
    .have Zle:¬(i:Int)<4:=by omega
     obtain rfl:i=4:=by omega
     obtain⟨wc,lc⟩:=Bl wr 4;rw[lr]at lc;simp +contextual -implicitDefEqProofs only[go_sem,f46,Zle];refine VS.Yk (fun F g'=>Zj g.size g g'/\F 6=L (O ⟨h.size,0,Q⟩)/\F 7=L (O ⟨h.size+1,0,Q⟩)/\F 10=L (O ⟨g.size,0,Q⟩)/\F 44=t A r/\∃i:Nat,i<=4/\F 58=t A i/\g'[g.size]? = O (J ((diags (iA (On S r) 4) i).map wv++[]).toArray 167))
      (fun F _=>4-(vi (F 58)).toNat) rfl ⟨b1,f6,f7,f10,f44,0,by omega,rfl,Wi⟩ ?_
     clear f6 f7 f10 f44 f46 pU Zle hi b1 Wi F g1;rintro F g1 ⟨b1,f6,f7,f10,f44,i,hi,f58,Wi⟩;by_cases pV:i<4
     .have DB:(i:Int)<4:=by omega
      obtain⟨wd,ld⟩:=aM wc i;rw[lc]at ld;have t1:(4:Int)+((i:Int)+1).tmod 4=((4+(i+1)%4:Nat):Int):=by
       have:((i:Int)+1).tmod 4=(((i+1)%4:Nat):Int):=rfl;omega
      have t2:(8:Int)+((i:Int)+2).tmod 4=((8+(i+2)%4:Nat):Int):=by
       have:((i:Int)+2).tmod 4=(((i+2)%4:Nat):Int):=rfl;omega
      have t3:(12:Int)+((i:Int)+3).tmod 4=((12+(i+3)%4:Nat):Int):=by
       have:((i:Int)+3).tmod 4=(((i+3)%4:Nat):Int):=rfl;omega
      have m1:((i:Int)+1).tmod 4=(((i+1)%4:Nat):Int):=rfl;have m2:((i:Int)+2).tmod 4=(((i+2)%4:Nat):Int):=rfl;have m3:((i:Int)+3).tmod 4=(((i+3)%4:Nat):Int):=rfl;rw[m1]at t1;rw[m2]at t2;rw[m3]at t3;have k1:(i+1)%4<4:=am _ (by decide);have k2:(i+2)%4<4:=am _ (by decide);have k3:(i+3)%4<4:=am _ (by decide);simp +contextual -implicitDefEqProofs only[go_sem,f10,f58,DB,m1,m2,m3,t1,t2,t3];refine (GR T g1 g.size _ i (4+(i+1)%4) (8+(i+2)%4) (12+(i+3)%4) ld wd (by omega) (by omega) (by omega) (by omega) Wi).use ?_;rintro _ _ rfl;simp +contextual -implicitDefEqProofs only[go_sem,f58];refine⟨⟨b1.Zs (aa _) _,f6,f7,f10,f44,i+1,pV,rfl,?_⟩,?_⟩
      .exact Yc Wi
      .simp only[vi,Zq,↓reduceIte,f58];omega
     .have ZgL:¬(i:Int)<4:=by omega
      obtain rfl:i=4:=by omega
      simp +contextual -implicitDefEqProofs only[go_sem,f44,f58,ZgL];refine⟨⟨b1,f6,f7,f10,r+1,Hl,rfl,Wi⟩,?_⟩;simp only[vi,Zq,↓reduceIte,f44];omega
   .have Zlf:¬(r:Int)<10:=by omega
    obtain rfl:r=10:=by omega
    obtain⟨wr,lr⟩:=mg wS 10;rw[iB]at lr;have hxs:=b1.get Oo hx;have z0:h.size+1<g.size:=Oo;have z1:=Za Wi;simp +contextual -implicitDefEqProofs only[go_sem,f44,Zlf];obtain⟨X,hX⟩:=ZN (EQ (On S 10) S);have pW:(H X)=64:=by rw[hX];simp[EQ]
    have hXZ:(H X)=(R 64 0).length:=by rw[pW];rfl
    refine VS.Yk (fun F g'=>Zj g1.size g1 g'/\F 6=L (O ⟨h.size,0,Q⟩)/\F 7=L (O ⟨h.size+1,0,Q⟩)/\F 10=L (O ⟨g.size,0,Q⟩)/\F 13=L (O ⟨g1.size,0,Q⟩)/\∃i:Nat,i<=16/\F 77=t A i/\g'[g1.size]? = O (J ((X.take (4*i)++(R 64 0).drop (4*i)).map bv++[]).toArray 143))
     (fun F _=>16-(vi (F 77)).toNat) rfl ⟨Zj.push (aa _) _,f6,f7,f10,rfl,0,by omega,rfl,?_⟩ ?_
    .exact Zc
    clear f6 f7 f10 f44 Zlf hr Hl F;rintro F g2 ⟨b2,f6,f7,f10,f13,i,hi,f77,Mj⟩;by_cases iC:i<16
    .have xN:(i:Int)<16:=by omega
     have u1:=Z6 (b2.get (by omega) hxs) (i:=i) (by omega);have u2:=Z6 (b2.get z1 Wi) (i:=i) (by omega);have v1:=wS.getD i;have v2:=wr.getD i;have e1:((On S 10).getD i 0+S.getD i 0:Int)%4294967296=(((On S 10).getD i 0+S.getD i 0)%4294967296:Nat):=by omega
     unfold wv at u1 u2;obtain⟨n,NH⟩:=ZN (((On S 10).getD i 0+S.getD i 0)%4294967296);have ZsZ:n<4294967296:=by omega
     rw[<-NH]at e1;have x0:X.getD (4*i) 0=n%256:=by have:=O1 (On S 10) S i 0 iC (by omega);rw[show (256:Nat) ^ 0=1 from rfl,Nat.div_one]at this;rw[hX,NH];exact this
     have x1:X.getD (4*i+1) 0=n/256%256:=by have:=O1 (On S 10) S i 1 iC (by omega);rw[show (256:Nat) ^ 1=256 from rfl]at this;rw[hX,NH];exact this
     have x2:X.getD (4*i+2) 0=n/65536%256:=by have:=O1 (On S 10) S i 2 iC (by omega);rw[show (256:Nat) ^ 2=65536 from rfl]at this;rw[hX,NH];exact this
     have x3:X.getD (4*i+3) 0=n/16777216%256:=by have:=O1 (On S 10) S i 3 iC (by omega);rw[show (256:Nat) ^ 3=16777216 from rfl]at this;rw[hX,NH];exact this
     have t0:(4*(i:Int)).toNat=4*i:=by omega
     have t1:(4*(i:Int)+1).toNat=4*i+1:=by omega
     have t2:(4*(i:Int)+2).toNat=4*i+2:=by omega
     have t3:(4*(i:Int)+3).toNat=4*i+3:=by omega
     have s0:(n:Int)%256=((n%256:Nat):Int):=by omega
     have s1:XA D (n:Int) 8%256=((n/256%256:Nat):Int):=by rw[show (8:Int)=((8:Nat):Int) from rfl,Vc n 8 (by omega)];omega
     have s2:XA D (n:Int) 16%256=((n/65536%256:Nat):Int):=by rw[show (16:Int)=((16:Nat):Int) from rfl,Vc n 16 (by omega)];omega
     have s3:XA D (n:Int) 24%256=((n/16777216%256:Nat):Int):=by rw[show (24:Int)=((24:Nat):Int) from rfl,Vc n 24 (by omega)];omega
     rw[<-x0]at s0;rw[<-x1]at s1;rw[<-x2]at s2;rw[<-x3]at s3;simp +contextual -implicitDefEqProofs only[go_sem,f7,f10,f77,xN];refine VS.q mixed (by kernel_rfl) ?_;have xl:∀k,k<=64->(X.take k++(R 64 0).drop k).length=64:=fun k hk=>by rw[Se _ _ _ (by omega) hXZ,pW]
     have c0:QQ g2 ⟨g1.size,4*i,Q⟩ (t .u8 (X.getD (4*i) 0:Nat))=_:=Yv (f:=bv) Mj (i:=4*i) (by rw[xl _ (by omega)];omega) _ rfl;rw[QU X _ (4*i) (by omega) hXZ]at c0;have c1:QQ _ ⟨g1.size,4*i+1,Q⟩ (t .u8 (X.getD (4*i+1) 0:Nat))=_:=Yv (f:=bv) (Yc (o:=J ((X.take (4*i+1)++(R 64 0).drop (4*i+1)).map bv++[]).toArray 143) Mj) (i:=4*i+1) (by rw[xl _ (by omega)];omega) _ rfl;rw[QU X _ (4*i+1) (by omega) hXZ,set_set]at c1;have c2:QQ _ ⟨g1.size,4*i+2,Q⟩ (t .u8 (X.getD (4*i+2) 0:Nat))=_:=Yv (f:=bv) (Yc (o:=J ((X.take (4*i+2)++(R 64 0).drop (4*i+2)).map bv++[]).toArray 143) Mj) (i:=4*i+2) (by rw[xl _ (by omega)];omega) _ rfl;rw[QU X _ (4*i+2) (by omega) hXZ,set_set]at c2;have c3:QQ _ ⟨g1.size,4*i+3,Q⟩ (t .u8 (X.getD (4*i+3) 0:Nat))=_:=Yv (f:=bv) (Yc (o:=J ((X.take (4*i+3)++(R 64 0).drop (4*i+3)).map bv++[]).toArray 143) Mj) (i:=4*i+3) (by rw[xl _ (by omega)];omega) _ rfl;rw[QU X _ (4*i+3) (by omega) hXZ,set_set]at c3;simp +contextual -implicitDefEqProofs only[go_sem,f7,f10,f13,f77,u1,u2,e1,t0,t1,t2,t3,s0,s1,s2,s3,c0,c1,c2,c3];refine⟨⟨b2.Zs (aa _) _,f6,f7,f10,f13,i+1,iC,rfl,?_⟩,?_⟩
     .exact Yc Mj
     .simp only[vi,Zq,↓reduceIte,f77];omega
    .have ZcP:¬(i:Int)<16:=by omega
     obtain rfl:i=16:=by omega
     have e64:X.take (4*16)++(R 64 0).drop (4*16)=X:=by
      have:=Km X (R 64 0) hXZ;rw[pW]at this;exact this
     rw[e64,List.append_nil]at Mj;have GW:(X.map bv).length=64:=by simp[pW]
     have tk:=XB GW;have y1:=Zz (n:=64) Mj GW;have y0:(h.push (J ((R 64 0).map bv).toArray 143))[h.size]? = O (J ((R 64 0).map bv).toArray 143):=Zc;have y2:=b2.get (by omega) (b1.get (by omega) (hg.get (by omega) y0));have y3:=Yd y2 0 (X.map bv);rw[Z4 (by simp[pW]),if_pos ⟨by simp[pW],RP X⟩]at y3;have z2:h.size<g2.size:=Za y2;have hB:Zj h.size h g2:=((Zj.push (aa _) _).trans (hg.mono (by omega))).trans ((b1.mono (by omega)).trans (b2.mono (by omega)));have hbx:Jq key Hk ZC=X:=by rw[hX,hS];rfl
     rw[hbx];simp +contextual -implicitDefEqProofs only[go_sem,f6,f13,f77,ZcP,y1,y3,GW,tk,z2];exact hB.Zs (aa _) _
def JT(key:List Nat)(k:Int)(ZC:List Nat):Int:=if (H key)≠32\/(H ZC)≠12 then 1 else if k<0\/1073741824<k then 2 else 0
def aO(B:Nat)(h':Hp)(v':Y)(key:List Nat)(k:Int)(ZC:List Nat):Prop:=∃w,v'=.tuple [w,t A (JT key k ZC)].toArray/\Yx B 5 h' w (if JT key k ZC=0 then Jq key k.toNat ZC else [])
theorem xO(T:aU)(h:Hp)(v u:Y)(key ZC:List Nat)(k:Int)(sk:Bs h v key)(sn:Bs h u ZC)(ck:PM v)(cn:PM u):
  Zd ab T 60 #[v,t A k,u] h fun v' h'=>aO h.size h' v' key k ZC/\Zj h.size h h':=by
 obtain⟨p,c,rfl,_⟩:=sk.open;obtain⟨q,d,rfl,_⟩:=sn.open;refine Zd.XT [_,_,_] Tryz.func60 ?_;unfold aO;simp +contextual -implicitDefEqProofs only[go_sem];refine (Iz T _ _ _ _ _ _ _ _).pure ?_;rw[show (if (H key)≠32\/(H ZC)≠12 then (1:Int) else if k<0\/1073741824<k then 2 else 0)=JT key k ZC from rfl];by_cases e:JT key k ZC=0
 .have hb:(H key)=32/\(H ZC)=12/\0<=k/\k<=1073741824:=by
   unfold JT at e
   repeat' split at e
   all_goals first|omega|cases e
  obtain⟨hk,hn,k0,k1⟩:=hb;obtain⟨m,rfl⟩:∃m:Nat,k=m:=⟨k.toNat,nT⟩
  have m1:(m:Int)%4294967296=(m:Int):=nT;simp +contextual -implicitDefEqProofs only[go_sem,e,m1];refine (Ln T _ _ _ key ZC m sk sn hk hn nT ck cn).use ?_;rintro _ h1 ⟨rfl,b1⟩;have GW:((Jq key m ZC).map bv).length=64:=by simp[Jq,EQ]
  have XW:=RP (Jq key m ZC);have ZEB:Y8 ((R 64 0).map bv) 0 ((Jq key m ZC).map bv)=(Jq key m ZC).map bv:=Z4 (by rw[GW];simp);have hsm:∀x∈Jq key m ZC,x<256:=GV _ _;have hlb:(Jq key m ZC).length=64:=by simpa using GW
  generalize Jq key m ZC=X at *;simp +contextual -implicitDefEqProofs only[go_sem,GW,XW,Z4];have Zs0:Bs (h1.push (J (X.map bv).toArray 143)) (M (O ⟨h1.size,0,Q⟩) 64 64) X:=by
   have:=Bs.made (h:=h1) (E:=143) hsm 64;rw[hlb]at this;exact this
  have b1s:=b1.size;refine ZJ (E:=5) (B:=h.size) Xd Tryz.underlying26 Tv Si Sh (Yx.nil _ _ _) Ig Zs0 (by simp[hlb]) ?_;intro v' h' Me J9 _;simp +contextual -implicitDefEqProofs only[go_sem];exact⟨⟨_,rfl,by simpa using Me⟩,(b1.YU b1s _).trans J9⟩
 .simp +contextual -implicitDefEqProofs only[go_sem,e];exact⟨_,rfl,Yx.nil _ _ _⟩
def Mo(key:List Nat):List Nat:=if 64<(H key) then TX key else key
theorem Sk(key:List Nat):(Mo key).length<=64:=by
 unfold Mo;split
 .rw[Qj];omega
 .omega
theorem pZ{key:List Nat}(h:Ns key):Ns (Mo key):=by
 unfold Mo;split
 .exact pS _
 .exact h
def VW(key:List Nat):List Nat:=Mo key++R (64-(Mo key).length) 0
theorem Qk(key:List Nat):(VW key).length=64:=by
 have:=Sk key;simp[VW];omega
theorem Kt{key:List Nat}(h:Ns key):Ns (VW key):=by
 intro x hx;simp only[VW,al,List.mem_replicate]at hx;rcases hx with hx|⟨_,rfl⟩
 .exact pZ h x hx
 .omega
def TY(key:List Nat)(w:Nat):List Nat:=(VW key).map (· ^^^ w)
theorem Ys(key:List Nat)(w:Nat):(TY key w).length=64:=by simp[TY,Qk]
theorem DC{key:List Nat}(h:Ns key){w:Nat}(hw:w<256):Ns (TY key w):=by
 intro x hx;obtain⟨y,hy,rfl⟩:=bc.1 hx;exact ZsY (Kt h y hy) hw
theorem DD(key:List Nat)(w:Nat){i:Nat}(hi:i<64):(TY key w).getD i 0=(VW key).getD i 0 ^^^ w:=by
 rw[N,N,TY,a9,W (by rw[Qk];exact hi)];rfl
def Lp(key b:List Nat):List Nat:=TX (TY key 92++TX (TY key 54++b))
theorem Sm(key b:List Nat):(Lp key b).length=32:=Qj _
def NM(key info:List Nat):Nat->List Nat
 | 0=>[]
 | i+1=>Lp key (NM key info i++info++[(i+1)%256])
def Sn(key info:List Nat):Nat->List Nat
 | 0=>[]
 | i+1=>Sn key info i++NM key info (i+1)
theorem RU(key info:List Nat)(i:Nat):(NM key info (i+1)).length=32:=Sm _ _
theorem xP(key info:List Nat):∀i,(NM key info i).length<=32
 | 0=>Nat.zero_le _
 | i+1=>Nat.le_of_eq (RU key info i)
theorem VX(key info:List Nat):∀i,(Sn key info i).length=32*i
 | 0=>rfl
 | i+1=>by rw[Sn,aq,VX key info i,RU];omega
theorem GX(key info:List Nat)(n:Nat):∀(i j:Nat),n<=32*i->i<=j->(Sn key info j).take n=(Sn key info i).take n
 | i,0,h,hj=>by
  obtain rfl:i=0:=nT;rfl
 | i,j+1,h,hj=>by
  by_cases e:i=j+1
  .rw[e]
  .rw[Sn,List.take_append_of_le_length (by rw[VX];omega)];exact GX key info n i j h nT
def GY(JN TZ info:List Nat)(n:Nat):List Nat:=(Sn (Lp TZ JN) info 16).take n
theorem Lq(JN TZ info:List Nat){n:Nat}(hn:n<=512):(GY JN TZ info n).length=n:=by
 rw[GY,List.length_take,VX];omega
def GZ(k n a b:Int)(d:Y):List Y:=[t A k,t A n,t A a,t A b,d]
def YP(k:Int):List (Nat × Int):=
 if k=1\/k=2\/k=3\/k=9 then [(1,4)] else if k=4\/k=5\/k=6 then [(2,1048576)] else if k=8 then [(1,4),(3,100000)] else []
def Oq(b:Nat)(x:Nat × Int):List Y:=[L (O ⟨b,x.1,Q⟩),t A x.2]
set_option maxHeartbeats 2000000 in
theorem aP(T:aU)(h:Hp)(b:Nat)(k n a c:Int)(d:Y)(hb:h[b]? = O (J (GZ k n a c d).toArray 36)):
  Zd ab T 46 #[L (O ⟨b,0,Q⟩)] h fun v' h'=>∃w,v'=.tuple [w,.bool (decide (1<=k/\k<=9))].toArray/\Qv h.size 126 (Oq b) 2 h' w (YP k)/\Zj h.size h h':=by
 refine Zd.XT [_] Tryz.func46 ?_;have b0:=Za hb;have x0:hc h ⟨b,0,Q⟩=O (t A k):=by rw[Zl hb];rfl
 simp +contextual -implicitDefEqProofs (maxSteps:=2000000) only[go_sem];refine VS.w (h.size) [11] (.q 0 (.q 1 (.q 2 (.q 3 (.q 4 (.q 5 (.q 6 (.q 7 (.or 8 (.s 9 (.s 10 (.w 11 .nil))) (.s 9 (.s 8 (.s 10 (.w 11 .nil))))))))))))) mixed uj ?_;unfold YP;have one:∀(g:Hp) (x:Nat × Int),h.size+2=g.size->Qv h.size 126 (Oq b) 2 (g.push (J [L (O ⟨b,x.1,Q⟩),t A x.2].toArray 126)) (M (O ⟨h.size+2,0,Q⟩) 1 1) [x]:=fun g x e=>by rw[e];exact Qv.one (enc:=Oq b) x (fun _=>rfl) nT
 have two:∀(g:Hp),h.size+2=g.size->Qv h.size 126 (Oq b) 2 (g.push (J [L (O ⟨b,1,Q⟩),t A 4,L (O ⟨b,3,Q⟩),t A 100000].toArray 126)) (M (O ⟨h.size+2,0,Q⟩) 2 2) [(1,4),(3,100000)]:=fun g e=>by rw[e];exact Qv.made (enc:=Oq b) (fun _=>rfl) [(1,4),(3,100000)] nT
 by_cases k1:k=1
 .have hk:decide (1<=k/\k<=9)=true:=by rw[decide_eq_true_eq];omega
  simp +contextual -implicitDefEqProofs (maxSteps:=2000000) only[go_sem,x0,k1];refine⟨⟨_,rfl,one _ (1,4) uK,?_⟩,⟨_,rfl,one _ (1,4) uK,?_⟩⟩<;>(repeat' (first|exact Zj.refl _ _|assumption|refine Zj.add ?_ _|refine Zj.Zs ?_ aaa _|refine Zj.trans aab ?_))
 ·
  by_cases k2:k=2
  .have hk:decide (1<=k/\k<=9)=true:=by rw[decide_eq_true_eq];omega
   simp +contextual -implicitDefEqProofs (maxSteps:=2000000) only[go_sem,x0,k2];refine⟨⟨_,rfl,one _ (1,4) uK,?_⟩,⟨_,rfl,one _ (1,4) uK,?_⟩⟩<;>(repeat' (first|exact Zj.refl _ _|assumption|refine Zj.add ?_ _|refine Zj.Zs ?_ aaa _|refine Zj.trans aab ?_))
  ·
   by_cases k3:k=3
   .have hk:decide (1<=k/\k<=9)=true:=by rw[decide_eq_true_eq];omega
    simp +contextual -implicitDefEqProofs (maxSteps:=2000000) only[go_sem,x0,k3];refine⟨⟨_,rfl,one _ (1,4) uK,?_⟩,⟨_,rfl,one _ (1,4) uK,?_⟩⟩<;>(repeat' (first|exact Zj.refl _ _|assumption|refine Zj.add ?_ _|refine Zj.Zs ?_ aaa _|refine Zj.trans aab ?_))
   ·
    by_cases k9:k=9
    .have hk:decide (1<=k/\k<=9)=true:=by rw[decide_eq_true_eq];omega
     simp +contextual -implicitDefEqProofs (maxSteps:=2000000) only[go_sem,x0,k9];refine⟨⟨_,rfl,one _ (1,4) uK,?_⟩,⟨_,rfl,one _ (1,4) uK,?_⟩⟩<;>(repeat' (first|exact Zj.refl _ _|assumption|refine Zj.add ?_ _|refine Zj.Zs ?_ aaa _|refine Zj.trans aab ?_))
    ·
     by_cases k4:k=4
     .have hk:decide (1<=k/\k<=9)=true:=by rw[decide_eq_true_eq];omega
      simp +contextual -implicitDefEqProofs (maxSteps:=2000000) only[go_sem,x0,k4];refine⟨⟨_,rfl,one _ (2,1048576) uK,?_⟩,⟨_,rfl,one _ (2,1048576) uK,?_⟩⟩<;>(repeat' (first|exact Zj.refl _ _|assumption|refine Zj.add ?_ _|refine Zj.Zs ?_ aaa _|refine Zj.trans aab ?_))
     ·
      by_cases k5:k=5
      .have hk:decide (1<=k/\k<=9)=true:=by rw[decide_eq_true_eq];omega
       simp +contextual -implicitDefEqProofs (maxSteps:=2000000) only[go_sem,x0,k5];refine⟨⟨_,rfl,one _ (2,1048576) uK,?_⟩,⟨_,rfl,one _ (2,1048576) uK,?_⟩⟩<;>(repeat' (first|exact Zj.refl _ _|assumption|refine Zj.add ?_ _|refine Zj.Zs ?_ aaa _|refine Zj.trans aab ?_))
      ·
       by_cases k6:k=6
       .have hk:decide (1<=k/\k<=9)=true:=by rw[decide_eq_true_eq];omega
        simp +contextual -implicitDefEqProofs (maxSteps:=2000000) only[go_sem,x0,k6];refine⟨⟨_,rfl,one _ (2,1048576) uK,?_⟩,⟨_,rfl,one _ (2,1048576) uK,?_⟩⟩<;>(repeat' (first|exact Zj.refl _ _|assumption|refine Zj.add ?_ _|refine Zj.Zs ?_ aaa _|refine Zj.trans aab ?_))
       ·
        by_cases k7:k=7
        .have hk:decide (1<=k/\k<=9)=true:=by rw[decide_eq_true_eq];omega
         simp +contextual -implicitDefEqProofs (maxSteps:=2000000) only[go_sem,x0,k7];exact⟨⟨_,rfl,Qv.nil _ _ _ _ _⟩,⟨_,rfl,Qv.nil _ _ _ _ _⟩⟩
        ·
         by_cases k8:k=8
         .have hk:decide (1<=k/\k<=9)=true:=by rw[decide_eq_true_eq];omega
          simp +contextual -implicitDefEqProofs (maxSteps:=2000000) only[go_sem,x0,k8];refine⟨?_,?_⟩
          .refine VS.b (h.size+2) [(0,true),(1,true),(2,true),(3,true),(4,true),(5,false),(6,true),(7,true)] mixed uj ?_;simp +contextual -implicitDefEqProofs (maxSteps:=2000000) only[go_sem];refine⟨(Zj.refl _ _).YU uK _,_,rfl,two _ uK,?_⟩
           (repeat' (first|exact Zj.refl _ _|assumption|refine Zj.add ?_ _|refine Zj.Zs ?_ aaa _|refine Zj.trans aab ?_))
          .refine VS.b (h.size+2) [(0,true),(1,true),(2,true),(3,true),(4,true),(5,false),(6,true),(7,true)] mixed uj ?_;simp +contextual -implicitDefEqProofs (maxSteps:=2000000) only[go_sem];refine⟨(Zj.refl _ _).YU uK _,_,rfl,two _ uK,?_⟩
           (repeat' (first|exact Zj.refl _ _|assumption|refine Zj.add ?_ _|refine Zj.Zs ?_ aaa _|refine Zj.trans aab ?_))
         ·
          have hk:¬(1<=k/\k<=9):=nT;simp +contextual -implicitDefEqProofs (maxSteps:=2000000) only[go_sem,x0,k1,k2,k3,k9,k4,k5,k6,k7,k8,hk];exact⟨⟨_,rfl,Qv.nil _ _ _ _ _⟩,⟨_,rfl,Qv.nil _ _ _ _ _⟩⟩
def Jh(k:Int):Prop:=k=1\/k=2\/k=3\/k=9\/k=8
def UZ(k:Int):Prop:=4<=k/\k<=6
instance (k:Int):Decidable (Jh k):=by unfold Jh;infer_instance
instance (k:Int):Decidable (UZ k):=by unfold UZ;infer_instance
def Wl(k n a b:Int)(len:Nat):Int:=
 if ¬(1<=k/\k<=9) then 4 else
 if (Jh k/\¬(0<=n/\n<=4))\/(UZ k/\¬(0<=a/\a<=1048576))\/(k=8/\¬(0<=b/\b<=100000)) then 2 else
 if 2000<len then 1 else
 if (¬Jh k/\n≠0)\/(¬UZ k/\a≠0)\/(k≠8/\b≠0)\/(k≠1/\0<len) then 3 else 0
def SE(k n a b:Int)(p:Nat):Int:=[k,n,a,b].getD p 0
def SF(k n a b:Int)(x:Nat × Int):Prop:=0<=SE k n a b x.1/\SE k n a b x.1<=x.2
theorem IA{k:Int}:∀x∈YP k,x.1<4/\0<x.1:=by
 intro x hx;unfold YP at hx
 repeat' split at hx
 all_goals simp at hx
 all_goals rcases hx with rfl|rfl<;>simp
theorem qa(k:Int):(YP k).length<=2:=by
 unfold YP
 repeat' split
 all_goals simp
theorem DF{k n a b:Int}{len:Nat}(h1:1<=k/\k<=9){x:Nat × Int}(hx:x∈YP k)(hb:¬SF k n a b x):Wl k n a b len=2:=by
 unfold Wl;rw[if_neg nT,if_pos];unfold Jh UZ;unfold YP at hx;unfold SF SE at hb;split at hx
 .simp at hx;subst hx;simp at hb;left;omega
 .split at hx
  .simp at hx;subst hx;simp at hb;right;left;omega
  .split at hx
   .simp at hx;rcases hx with rfl|rfl
    .simp at hb;left;omega
    .simp at hb;right;right;omega
   .cases hx
theorem iE{k n a b:Int}(hg:∀x∈YP k,SF k n a b x):¬((Jh k/\¬(0<=n/\n<=4))\/(UZ k/\¬(0<=a/\a<=1048576))\/(k=8/\¬(0<=b/\b<=100000))):=by
 unfold Jh UZ;unfold YP at hg;split at hg
 .have:=hg (1,4) uK;simp[SF,SE]at this;omega
 .split at hg
  .have:=hg (2,1048576) uK;simp[SF,SE]at this;omega
  .split at hg
   .have:=hg (1,4) uK;have h2:=hg (3,100000) uK;simp[SF,SE]at this h2;omega
   .omega
def RV(xs:List (Nat × Int))(cs:List Y):List Y:=xs.foldl (fun cs x=>cs.set x.1 (t A 0)) cs
theorem aQ(xs:List (Nat × Int))(x:Nat × Int)(cs:List Y):RV (xs++[x]) cs=(RV xs cs).set x.1 (t A 0):=by simp[RV]
theorem ER(xs:List (Nat × Int)):∀cs,(RV xs cs).length=(H cs):=by
 induction xs with
 | nil=>intro cs;rfl
 | cons x xs ih=>intro cs;simp only[RV,List.foldl_cons]at *;rw[ih];simp
theorem iF{k n a b:Int}{d:Y}(h1:1<=k/\k<=9):RV (YP k) (GZ k n a b d)=GZ k (if Jh k then 0 else n) (if UZ k then 0 else a) (if k=8 then 0 else b) d:=by
 unfold YP;split
 .rw[if_pos (by unfold Jh;omega),if_neg (by unfold UZ;omega),if_neg nT];rfl
 .split
  .rw[if_neg (by unfold Jh;omega),if_pos (by unfold UZ;omega),if_neg nT];rfl
  .split
   .rw[if_pos (by unfold Jh;omega),if_neg (by unfold UZ;omega)];rfl
   .rw[if_neg (by unfold Jh;omega),if_neg (by unfold UZ;omega)];rfl
theorem iG(k n a b:Int)(d:Y)(p:Nat)(hp:p<4):nth (GZ k n a b d) p=O (t A (SE k n a b p)):=by
 rcases p with _|_|_|_|p<;>first|rfl|omega
theorem ES(T:aU)(h:Hp)(k n a b:Int)(p:Option Addr)(len c:Nat):
  Zd ab T 33 #[.agg (GZ k n a b (M p len c)).toArray] h fun v' h'=>v'=t A (Wl k n a b len)/\Zj h.size h h':=by
 refine Zd.XT [_] Tryz.func33 ?_;unfold GZ;simp +contextual -implicitDefEqProofs only[go_sem];refine (aP T _ h.size k n a b (M p len c) Zc).use ?_;rintro _ h1 ⟨w,rfl,hw,b1⟩;have hlen:=qa k;by_cases hk:1<=k/\k<=9
 .obtain⟨pw,cw,rfl,XI⟩:=Qv.Zkh (enc:=Oq h.size) (n:=2) (fun _=>rfl) Iw hw;have x0:h1[h.size]? = O (J (GZ k n a b (M p len c)).toArray 36):=b1.get uK Zc;have z1:=Za x0;have Wf:Zj h.size h h1:=((Zj.refl h.size h).add _).trans (b1.mono uK);simp +contextual -implicitDefEqProofs only[go_sem,hk];refine VS.Yk (fun F g=>Zj h1.size h1 g/\F 1=L (O ⟨h.size,0,Q⟩)/\F 3=M pw (YP k).length cw/\F 15=M pw (YP k).length cw/\F 16=t A (YP k).length/\∃i:Nat,i<=(YP k).length/\F 17=t A i/\∀x∈(YP k).take i,SF k n a b x)
   (fun F _=>(YP k).length-(vi (F 17)).toNat) rfl ⟨Zj.refl _ _,rfl,rfl,rfl,rfl,0,nT,rfl,fun x hx=>by cases hx⟩ ?_
  rintro F g ⟨hg,f1,f3,f15,f16,i,hi,f17,Jc⟩;have Oo:=hg.size;by_cases ZS:i<(YP k).length
  .have Z7:(i:Int)<(YP k).length:=nT;obtain⟨bb,oo,rfl,HM,T5,XI⟩:=XI (by intro e;rw[e]at ZS;simp at ZS);have hx:=be ZS;have hsm:=IA _ hx;have r1:=((XI i ZS).Yz hg T5).rd (by simp[Oq]) (m:=2) rfl;obtain⟨x,hxe⟩:=ZN ((YP k)[i]);rw[<-hxe]at hx hsm r1;have v1:hc g ⟨h.size,x.1,Q⟩=O (t A (SE k n a b x.1)):=by
    rw[hg.hc z1,Zl x0,iG _ _ _ _ _ _ hsm.1]
   unfold Oq at r1;simp +contextual -implicitDefEqProofs only[go_sem,f1,f15,f16,f17,Z7,r1];refine VS.q mixed uj ?_;by_cases c1:SE k n a b x.1<0
   .have e:=DF (len:=len) hk hx (n:=n) (a:=a) (b:=b) (by unfold SF;omega);simp +contextual -implicitDefEqProofs only[go_sem,v1,c1,e];exact Wf.trans ((hg.mono nT).YU nT _)
   .by_cases c2:x.2<SE k n a b x.1
    .have e:=DF (len:=len) hk hx (n:=n) (a:=a) (b:=b) (by unfold SF;omega);simp +contextual -implicitDefEqProofs only[go_sem,v1,c1,c2,e];exact Wf.trans ((hg.mono nT).YU nT _)
    .simp +contextual -implicitDefEqProofs only[go_sem,f1,f3,f15,f16,f17,v1,c1,c2];refine⟨⟨hg.YU nT _,f1,f3,f15,f16,i+1,nT,rfl,fun y hy=>?_⟩,?_⟩
     .rw[Y1 _ i ZS]at hy;rcases al.1 hy with hy|hy
      .exact Jc y hy
      .simp at hy;rw[hy,<-hxe];unfold SF;omega
     .simp only[vi,Zq,↓reduceIte,f17];omega
  .have Xv:¬(i:Int)<(YP k).length:=nT;obtain rfl:i=(YP k).length:=nT;rw[bf]at Jc;have RW:=iE Jc;have x0g:=hg.get z1 x0;have y4:hc g ⟨h.size,4,Q⟩=O (M p len c):=by rw[Zl x0g];rfl
   have Bn:Zj h.size h g:=Wf.trans (hg.mono nT);by_cases c1:2000<len
   .have c1':2000<(len:Int):=nT;have e:Wl k n a b len=1:=by unfold Wl;rw[if_neg nT,if_neg RW,if_pos c1]
    simp +contextual -implicitDefEqProofs only[go_sem,f1,f3,f15,f16,f17,Xv,y4,c1',e,Bn]
   .have c1':¬2000<(len:Int):=nT;simp +contextual -implicitDefEqProofs only[go_sem,f1,f3,f15,f16,f17,Xv,y4,c1'];have xg:g[h.size]? = O (J (RV ((YP k).take 0) (GZ k n a b (M p len c))).toArray 36):=x0g;clear y4 Jc hi ZS Xv;refine VS.Yk (fun F g'=>Zj h.size h g'/\(∀q,q≠h.size->q<h1.size->g'[q]? = h1[q]?)/\h1.size<=g'.size/\F 1=L (O ⟨h.size,0,Q⟩)/\F 40=M pw (YP k).length cw/\F 41=t A (YP k).length/\∃i:Nat,i<=(YP k).length/\F 42=t A i/\g'[h.size]? = O (J (RV ((YP k).take i) (GZ k n a b (M p len c))).toArray 36))
     (fun F _=>(YP k).length-(vi (F 42)).toNat) rfl ⟨Bn,fun q _ hq=>hg.block q hq,Oo,f1,rfl,rfl,0,Nat.zero_le _,rfl,xg⟩ ?_
    clear xg x0g Bn Oo hg g f1 f3 f15 f16 f17 F;rintro F g ⟨Bn,Zlg,Oo,f1,f40,f41,i,hi,f42,xg⟩;by_cases ZS:i<(YP k).length
    .have Z7:(i:Int)<(YP k).length:=nT;obtain⟨bb,oo,rfl,HM,T5,XI⟩:=XI (by intro e;rw[e]at ZS;simp at ZS);have hx:=be ZS;have hsm:=IA _ hx;have r1:=(XI i ZS).rd (by simp[Oq]) (m:=2) rfl;have Zlh:bb≠h.size:=by simp at HM;omega
     obtain⟨x,hxe⟩:=ZN ((YP k)[i]);rw[<-hxe]at hx hsm r1;have r2:rd g ⟨bb,oo+i*2,Q⟩ 2=O (Oq h.size x):=by
      rw[<-r1];unfold rd;rw[Zlg _ Zlh T5]
     have fv:(RV ((YP k).take i) (GZ k n a b (M p len c))).length=5:=by rw[ER];rfl
     have zg:=Za xg;have w1:=Xh xg x.1 (t A 0);rw[if_pos ⟨by rw[fv];omega,rfl⟩]at w1;unfold Oq at r2;simp +contextual -implicitDefEqProofs only[go_sem,f1,f40,f41,f42,Z7,r2];rw[w1];simp +contextual -implicitDefEqProofs only[go_sem,f42];refine⟨⟨(Bn.Zs (aa _) _).YU Ig _,fun q hq hq1=>?_,Ig,f1,f40,f41,i+1,nT,rfl,?_⟩,?_⟩
     .rw[a5,if_neg Ig,U,if_neg (fun e=>hq e.symm)];exact Zlg q hq hq1
     .rw[a5,if_neg Ig,U,if_pos rfl,if_pos zg,Y1 _ i ZS,aQ,<-hxe]
     .simp only[vi,Zq,↓reduceIte,f42];omega
    .have Xv:¬(i:Int)<(YP k).length:=nT;obtain rfl:i=(YP k).length:=nT;rw[bf,iF hk]at xg;have e:Wl k n a b len=if (¬Jh k/\n≠0)\/(¬UZ k/\a≠0)\/(k≠8/\b≠0)\/(k≠1/\0<len) then 3 else 0:=by unfold Wl;rw[if_neg nT,if_neg RW,if_neg c1]
     rw[e];clear e RW XI hw;obtain⟨n',NH⟩:=ZN (if Jh k then 0 else n);obtain⟨a',ha'⟩:=ZN (if UZ k then 0 else a);obtain⟨b',J9⟩:=ZN (if k=8 then 0 else b);rw[<-NH,<-ha',<-J9]at xg;have y0:hc g ⟨h.size,0,Q⟩=O (t A k):=by rw[Zl xg];rfl
     have y1:hc g ⟨h.size,1,Q⟩=O (t A n'):=by rw[Zl xg];rfl
     have y2:hc g ⟨h.size,2,Q⟩=O (t A a'):=by rw[Zl xg];rfl
     have y3:hc g ⟨h.size,3,Q⟩=O (t A b'):=by rw[Zl xg];rfl
     have y4:hc g ⟨h.size,4,Q⟩=O (M p len c):=by rw[Zl xg];rfl
     have en:(¬Jh k/\n≠0)↔n'≠0:=by rw[NH];by_cases q:Jh k<;>simp[q]
     have ea:(¬UZ k/\a≠0)↔a'≠0:=by rw[ha'];by_cases q:UZ k<;>simp[q]
     have eb:(k≠8/\b≠0)↔b'≠0:=by rw[J9];by_cases q:k=8<;>simp[q]
     simp only[en,ea,eb];by_cases q1:n'=0
     .by_cases q2:a'=0
      .by_cases q3:b'=0
       .by_cases q4:k=1
        .simp +contextual -implicitDefEqProofs only[go_sem,f1,f40,f41,f42,Xv,y0,y1,y2,y3,q1,q2,q3,q4,Bn]
        .by_cases q5:0<len
         .have q5':0<(len:Int):=nT;simp +contextual -implicitDefEqProofs only[go_sem,f1,f40,f41,f42,Xv,y0,y1,y2,y3,y4,q1,q2,q3,q4,q5,q5',Bn]
         .have q5':¬0<(len:Int):=nT;simp +contextual -implicitDefEqProofs only[go_sem,f1,f40,f41,f42,Xv,y0,y1,y2,y3,y4,q1,q2,q3,q4,q5,q5',Bn]
       .simp +contextual -implicitDefEqProofs only[go_sem,f1,f40,f41,f42,Xv,y0,y1,y2,y3,q1,q2,q3,Bn]
      .simp +contextual -implicitDefEqProofs only[go_sem,f1,f40,f41,f42,Xv,y0,y1,y2,q1,q2,Bn]
     .simp +contextual -implicitDefEqProofs only[go_sem,f1,f40,f41,f42,Xv,y0,y1,q1,Bn]
 .have e:Wl k n a b len=4:=by unfold Wl;rw[if_pos hk]
  simp +contextual -implicitDefEqProofs only[go_sem,hk,e];exact ((Zj.refl h.size h).add _).trans (b1.mono uK)
end Go.Proofs.YtdapjaalaomghaaGreatDoor
