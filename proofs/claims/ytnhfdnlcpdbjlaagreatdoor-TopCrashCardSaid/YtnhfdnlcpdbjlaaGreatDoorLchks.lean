/- Part Lchks. -/
import Derived.Test.YtnhfdnlcpdbjlaaGreatDoorVst
import Derived.Test.YtnhfdnlcpdbjlaaGreatDoorW11
import Derived.Test.YtnhfdnlcpdbjlaaGreatDoorBytes
import Derived.Test.YtnhfdnlcpdbjlaaGreatDoorW6
import Derived.Test.YtnhfdnlcpdbjlaaGreatDoorW8
open Go.Value renaming int→A,pointer→J,slice→N,agg→aa
open Go.IntKind renaming i64→t,u32→H
open Go.Obj renaming cells→L
open Go.Proofs.Tryz renaming prog→al,underlying34→bc
open List renaming length→D,getD_eq_getElem?_getD→Q,replicate→U,getElem?_eq_getElem→W,mem_append→an,length_append→aI,not_mem_nil→aU,length_drop→aX,mem_cons→a5,range→a8,getElem?_map→a9,mem_map→bd,length_take→bf,getElem_mem→bg,take_length→bh
open Nat renaming le_refl→Y,mod_eq_of_lt→ak,testBit_and→am,mod_lt→aw,lt_of_le_of_lt→aF,shiftRight_eq_div_pow→aK,mul_mod_mul_right→a0,div_lt_iff_lt_mul→a1,pow_add→a2,eq_of_testBit_eq→a3,pow_le_pow_right→a4,xor_lt_two_pow→a7,add_zero→ba,pow_pos→bj,or_comm→bl,div_le_self→bn,testBit_xor→bp
open Option renaming some→M,none→O
open Array renaming getElem?_setIfInBounds→R,getElem?_push→au,ext_getElem?→a6,size_push→bo
open Go renaming Value→Z
namespace Go.Proofs.YtnhfdnlcpdbjlaaGreatDoor
open Go Go.V
set_option linter.all false
set_option maxRecDepth 100000
variable(T:World){b:Nat}{s:List Nat}
def rotl(x n:Nat):Nat:=x*2 ^ n%4294967296+x/2 ^ (32-n)
theorem AJ{n:Nat}(hn:n<=32):2 ^ (32-n)*2 ^ n=4294967296:=by
 rw[<-a2,show 32-n+n=32 by omega]
theorem ku{x n:Nat}(hx:x<4294967296)(hn:n<=32):rotl x n<4294967296:=by
 unfold rotl;have h1:x*2 ^ n%4294967296=(x%2 ^ (32-n))*2 ^ n:=by
  rw[<-AJ hn,a0]
 have h2:x/2 ^ (32-n)<2 ^ n:=by
  rw[a1 (bj mD),<-a2,show n+(32-n)=32 by omega];exact hx
 have h3:x%2 ^ (32-n)<2 ^ (32-n):=aw _ (bj mD);rw[h1];have h4:(x%2 ^ (32-n)+1)*2 ^ n<=2 ^ (32-n)*2 ^ n:=Nat.mul_le_mul_right _ h3;rw[<-a2,show 32-n+n=32 by omega,Nat.add_mul]at h4;omega
theorem kw{x n:Nat}(hx:x<4294967296)(hn:n<=32):x*2 ^ n%4294967296 ||| x/2 ^ (32-n)=rotl x n:=by
 unfold rotl;refine Ua (k:=n) ?_ ?_
 .rw[a1 (bj mD),<-a2,show n+(32-n)=32 by omega];exact hx
 .rw[<-AJ hn,a0,Nat.mul_mod_left]
theorem Hb(x n:Nat)(hn:n<=32):Xq H (x:Int) (n:Int)=((x*2 ^ n%4294967296:Nat):Int):=by
 rw[D8 H x n (by show n<=32;omega),MH];rfl
theorem Wy(x n:Nat)(hn:n<=32):Jc H (x:Int) (n:Int)=((x/2 ^ n:Nat):Int):=by
 rw[OF H x n (by show n<=32;omega),aK]
theorem gz(h:Hp)(x n:Nat)(hx:x<4294967296)(hn:n<=32):
  Zg al T 136 #[A H x,A t n] h fun v' h'=>v'=A H (rotl x n:Nat)/\h'=h:=by
 refine Zg.XK [_,_] Tryz.func136 ?_;have e1:=Hb x n hn;have e2:=Wy x (32-n) mD;have e3:(32:Int)-n=((32-n:Nat):Int):=mD;have e4:=PA (x*2 ^ n%4294967296) (x/2 ^ (32-n)) mD (aF (bn _ _) hx);rw[kw hx hn]at e4;have e5:¬(n:Int)<0:=mD;have e6:¬((32-n:Nat):Int)<0:=mD;simp +contextual -implicitDefEqProofs only[go_sem];refine VS.q mixed sV ?_;simp +contextual -implicitDefEqProofs only[go_sem,e3,e1,e2,e4,e5,e6]
def wv(x:Nat):Z:=A H (x:Nat)
def nv(x:Nat):Z:=A t (x:Nat)
def OJ(s:List Nat):Prop:=∀x∈s,x<4294967296
theorem OJ.getD(w:OJ s)(i:Nat):s.getD i 0<4294967296:=by
 rw[Q]
 cases hx:s[i]? with
 | none=>simp
 | some x=>exact w x (List.mem_of_getElem? hx)
theorem OJ.set(w:OJ s)(i:Nat){y:Nat}(hy:y<4294967296):OJ (s.set i y):=by
 intro x hx;rcases List.mem_or_eq_of_mem_set hx with h|h
 .exact w x h
 .rw[h];exact hy
theorem Z7{f:Nat->Z}{g:Hp}{E:TypeId}{sp:List Z}(hx:g[b]? = M (L (s.map f++sp).toArray E)){i:Nat}(hi:i<(D s)):hc g ⟨b,i,O⟩=M (f (s.getD i 0)):=by
 rw[Zn hx,Y7,List.getElem?_append_left (by simpa using hi),a9,Q,W hi];rfl
theorem Yz{f:Nat->Z}{g:Hp}{E:TypeId}{sp:List Z}(hx:g[b]? = M (L (s.map f++sp).toArray E)){i:Nat}(hi:i<(D s))(y:Nat)(ho:YN (f y)=true):
  QF g ⟨b,i,O⟩ (f y)=M (g.setIfInBounds b (L ((s.set i y).map f++sp).toArray E)):=by
 rw[Xk hx,if_pos ⟨vI,ho⟩,List.set_append_left _ _ (by simpa using hi),List.map_set]
theorem Yd{g:Hp}{o o':Obj}(hx:g[b]? = M o'):(g.setIfInBounds b o)[b]? = M o:=by
 rw[R,if_pos rfl,if_pos (Za hx)]
theorem WK{g:Hp}{o:Obj}(hx:g[b]? = M o):g.setIfInBounds b o=g:=by
 apply a6;intro i;rw[R];by_cases hb:b=i
 .subst hb;rw[if_pos rfl,if_pos (Za hx),hx]
 .rw[if_neg hb]
theorem set_set(g:Hp)(b:Nat)(o o':Obj):(g.setIfInBounds b o).setIfInBounds b o'=g.setIfInBounds b o':=by
 apply a6;intro i;rw[R,R,R,Array.size_setIfInBounds];by_cases hb:b=i
 .rw[if_pos hb,if_pos hb]
 .rw[if_neg hb,if_neg hb,if_neg hb]
def Nr(s:List Nat)(a b d n:Nat):List Nat:=
 (s.set a ((s.getD a 0+s.getD b 0)%4294967296)).set d (rotl ((s.set a ((s.getD a 0+s.getD b 0)%4294967296)).getD d 0 ^^^ (s.set a ((s.getD a 0+s.getD b 0)%4294967296)).getD a 0) n)
def NY(s:List Nat)(a b c d:Nat):List Nat:=Nr (Nr (Nr (Nr s a b d 16) c d b 12) a b d 8) c d b 7
theorem VW{a:Nat}(ha:a<4294967296)(hb:b<4294967296):a ^^^ b<4294967296:=a7 (n:=32) ha hb
theorem SP(w:OJ s)(a b d n:Nat)(hn:n<=32):OJ (Nr s a b d n):=by
 unfold Nr;have w1:=w.set a (y:=(s.getD a 0+s.getD b 0)%4294967296) mD;exact w1.set d (ku (VW (w1.getD d) (w1.getD a)) hn)
theorem MR(s:List Nat)(a b d n:Nat):(Nr s a b d n).length=(D s):=by simp[Nr]
theorem Ge(w:OJ s)(a b c d:Nat):OJ (NY s a b c d):=
 SP (SP (SP (SP w _ _ _ _ mD) _ _ _ _ mD) _ _ _ _ mD) _ _ _ _ mD
theorem Ns(s:List Nat)(a b c d:Nat):(NY s a b c d).length=(D s):=by simp[NY,MR]
def pv(j x y:Nat):Nat:=if j%2=0 then x else y
def pn(j:Nat):Nat:=[16,12,8,7].getD j 0
def vV(s:List Nat)(a b c d:Nat):Nat->List Nat
 | 0=>s
 | j+1=>Nr (vV s a b c d j) (pv j a c) (pv j b d) (pv j d b) (pn j)
theorem vW(s:List Nat)(a b c d:Nat):vV s a b c d 4=NY s a b c d:=rfl
theorem Zf0(j:Nat)(hj:j<4):nth [Value.int t 16,A t 12,A t 8,A t 7] j=M (A t (pn j:Nat)):=by
 rcases j with _|_|_|_|j<;>first|rfl|omega
theorem ZeB(j:Nat)(hj:j<4):pn j<=32:=by
 rcases j with _|_|_|_|j<;>first|decide|omega
theorem Hc(j x y:Nat):pv (j+1) x y=pv j y x:=by
 unfold pv;by_cases h:j%2=0
 .rw[if_pos h,if_neg mD]
 .rw[if_neg h,if_pos mD]
theorem Zf1(w:OJ s)(a b c d:Nat):∀j,j<=4->OJ (vV s a b c d j)/\(vV s a b c d j).length=(D s):=by
 intro j
 induction j with
 | zero=>intro _;exact⟨w,rfl⟩
 | succ j ih=>
  intro hj;obtain⟨h1,h2⟩:=ih mD;exact⟨SP h1 _ _ _ _ (ZeB j mD),by rw[vV,MR,h2]⟩
theorem Gf(h:Hp)(bk:Nat)(s:List Nat)(a b c d:Nat)(hs:(D s)=16)(w:OJ s)(ha:a<16)(hb:b<16)(hc:c<16)(hd:d<16)(hx:h[bk]? = M (L (s.map wv++[]).toArray 221)):
  Zg al T 133 #[J (M ⟨bk,0,O⟩),A t a,A t b,A t c,A t d] h fun v' h'=>h'=h.setIfInBounds bk (L ((NY s a b c d).map wv++[]).toArray 221):=by
 refine Zg.XK [_,_,_,_,_] Tryz.func133 ?_;simp +contextual -implicitDefEqProofs only[go_sem];refine VS.Yq (fun F g=>∃j:Nat,j<=4/\F 0=J (M ⟨bk,0,O⟩)/\F 1=A t (pv j a c:Nat)/\F 2=A t (pv j b d:Nat)/\F 3=A t (pv j c a:Nat)/\F 4=A t (pv j d b:Nat)/\F 12=aa [A t 16,A t 12,A t 8,A t 7].toArray/\F 13=A t j/\g=h.setIfInBounds bk (L ((vV s a b c d j).map wv++[]).toArray 221))
  (fun F _=>4-(vi (F 13)).toNat) rfl ⟨0,mD,rfl,rfl,rfl,rfl,rfl,rfl,rfl,?_⟩ ?_
 .exact (WK hx).symm
 rintro F g ⟨j,hj,f0,f1,f2,f3,f4,f12,f13,rfl⟩;by_cases ZV:j<4
 .have Z4:(j:Int)<4:=mD;have n1:=Zf0 j ZV;have n2:=ZeB j ZV;obtain⟨w1,l1⟩:=Zf1 w a b c d j hj;rw[hs]at l1;have q1:pv j a c<16:=by unfold pv;split<;>assumption
  have q2:pv j b d<16:=by unfold pv;split<;>assumption
  have q4:pv j d b<16:=by unfold pv;split<;>assumption
  have UO:=Yd (o:=L ((vV s a b c d j).map wv++[]).toArray 221) hx;obtain⟨G,hG⟩:=ZP (h.setIfInBounds bk (L ((vV s a b c d j).map wv++[]).toArray 221));rw[<-hG]at UO ⊢;generalize hst:vV s a b c d j=st at *;simp +contextual -implicitDefEqProofs only[go_sem,f12,f13,Z4,n1];refine VS.z (bk+1) [13] (.p 0 (.p 1 (.p 2 (.p 3 (.q 4 (.p 5 (.p 6 (.p 7 (.p 8 (.q 9 (.p 10 (.p 11 (.p 12 (.w 13 .nil)))))))))))))) mixed sV ?_;have g1:=Z7 UO (i:=pv j a c) mD;have g2:=Z7 UO (i:=pv j b d) mD;have c1:QF G ⟨bk,pv j a c,O⟩ (A H ((((st.getD (pv j a c) 0+st.getD (pv j b d) 0)%4294967296:Nat)):Int))=_:=Yz (f:=wv) UO (i:=pv j a c) mD _ rfl;have e1:((st.getD (pv j a c) 0:Int)+(st.getD (pv j b d) 0:Int))%4294967296=(((st.getD (pv j a c) 0+st.getD (pv j b d) 0)%4294967296:Nat):Int):=mD;unfold wv at g1 g2;obtain⟨y,hy⟩:=ZP ((st.getD (pv j a c) 0+st.getD (pv j b d) 0)%4294967296);have Zr9:y<4294967296:=mD;rw[<-hy]at c1 e1;simp +contextual -implicitDefEqProofs only[go_sem,f0,f1,f2,g1,g2,e1,c1];have NX:=Yd (o:=L ((st.set (pv j a c) y).map wv++[]).toArray 221) UO;have w2:=w1.set (pv j a c) Zr9;have l2:(st.set (pv j a c) y).length=16:=by rw[List.length_set,l1]
  have Zsa:vV s a b c d (j+1)=(st.set (pv j a c) y).set (pv j d b) (rotl ((st.set (pv j a c) y).getD (pv j d b) 0 ^^^ (st.set (pv j a c) y).getD (pv j a c) 0) (pn j)):=by
   rw[vV,hst,Nr,<-hy]
  rw[hG];generalize st.set (pv j a c) y=st2 at *;refine VS.z (bk+1) [17] (.p 0 (.p 1 (.p 2 (.p 3 (.p 4 (.p 5 (.q 6 (.p 7 (.p 8 (.p 9 (.p 10 (.q 11 (.p 12 (.p 13 (.p 15 (.s 14 (.p 16 (.w 17 .nil)))))))))))))))))) mixed sV ?_;clear NX;rw[set_set];have NX:(h.setIfInBounds bk (L (st2.map wv++[]).toArray 221))[bk]? = M (L (st2.map wv++[]).toArray 221):=Yd hx;obtain⟨G2,ky⟩:=ZP (h.setIfInBounds bk (L (st2.map wv++[]).toArray 221));rw[<-ky]at NX ⊢;have g3:=Z7 NX (i:=pv j d b) mD;have g4:=Z7 NX (i:=pv j a c) mD;unfold wv at g3 g4;have e2:=Q0 (st2.getD (pv j d b) 0) (st2.getD (pv j a c) 0) (w2.getD _) (w2.getD _);have hz:=VW (w2.getD (pv j d b)) (w2.getD (pv j a c));generalize st2.getD (pv j d b) 0 ^^^ st2.getD (pv j a c) 0=z at *;simp +contextual -implicitDefEqProofs only[go_sem,f0,f1,f4,g3,g4,e2];refine (gz T _ z (pn j) hz n2).pure ?_;have c2:QF G2 ⟨bk,pv j d b,O⟩ (A H ((rotl z (pn j):Nat):Int))=_:=Yz (f:=wv) NX (i:=pv j d b) mD _ rfl;simp +contextual -implicitDefEqProofs only[go_sem,c2,f1,f2,f3,f4,f12,f13];refine⟨⟨j+1,mD,f0,?_,?_,?_,?_,f12,rfl,?_⟩,?_⟩
  .rw[Hc];rfl
  .rw[Hc];rfl
  .rw[Hc];rfl
  .rw[Hc];rfl
  .rw[ky,set_set,Zsa]
  .simp only[vi,Zt,↓reduceIte,f13];omega
 .have Xw:¬(j:Int)<4:=mD;obtain rfl:j=4:=mD;simp +contextual -implicitDefEqProofs only[go_sem,f12,f13,Xw];rw[vW]
theorem Zb6{h:Hp}{v:Z}{l:List Nat}(s:Ts (fun x=>[nv x]) 1 h v l):∃p cap,v=N p (D l) cap/\(l≠[]->∃b o,p=M ⟨b,o,O⟩/\b<h.size/\∀i,i<(D l)->hc h ⟨b,o+i,O⟩=M (A t (l.getD i 0:Nat))):=by
 obtain⟨p,cap,hv,Vx⟩:=Ts.open (enc:=fun x=>[nv x]) (n:=1) (fun _=>rfl) Nat.one_ne_zero s;refine⟨p,cap,hv,fun Xb=>?_⟩;obtain⟨b,o,hp,hb,XH⟩:=Vx Xb;refine⟨b,o,hp,hb,fun i hi=>?_⟩;have:=(XH i hi).hc (i:=0) rfl;rw[Nat.mul_one,ba]at this;rw[this,Q,W hi];rfl
def JR(n:Nat):List Nat:=[n/16777216%256,n/65536%256,n/256%256,n%256]
theorem VX(n:Nat):∀x∈JR n,x<256:=by
 intro x hx;simp only[JR,a5,aU,or_false]at hx;omega
theorem Rz(n k:Nat)(hk:k<=64):Jc t (n:Int) (k:Int)=((n/2 ^ k:Nat):Int):=by
 rw[OF t n k hk,aK]
theorem kA(h:Hp)(B:Nat)(v:Z)(l:List Nat)(n:Nat)(o:YB B 5 h v l)(hB:B<=h.size)(hl:(D l)<=1000)(hn:n<=1073741824):
  Zg al T 51 #[v,A t n] h fun v' h'=>YB B 5 h' v' (l++JR n)/\Zk B h h':=by
 obtain⟨p,c,rfl,hc⟩:=o.open;refine Zg.XK [_,_] Tryz.func51 ?_;have e1:Jc t (n:Int) 24%256=((n/16777216%256:Nat):Int):=by rw[show (24:Int)=((24:Nat):Int) from rfl,Rz n 24 mD];omega
 have e2:Jc t (n:Int) 16%256=((n/65536%256:Nat):Int):=by rw[show (16:Int)=((16:Nat):Int) from rfl,Rz n 16 mD];omega
 have e3:Jc t (n:Int) 8%256=((n/256%256:Nat):Int):=by rw[show (8:Int)=((8:Nat):Int) from rfl,Rz n 8 mD];omega
 have e4:(n:Int)%256=((n%256:Nat):Int):=mD;simp +contextual -implicitDefEqProofs only[go_sem,e1,e2,e3,e4];refine ZR (E:=5) (B:=B) Xn bc TX SN SM (o.push _) vI (Bs.made (l:=JR n) (VX n) 4) (by simp[JR];omega) ?_;intro v' h' NP JU _;simp +contextual -implicitDefEqProofs only[go_sem];exact⟨NP,(Zk.push hB _).trans JU⟩
theorem Gg(h:Hp)(b:Nat):
  Zg al T 55 #[J (M ⟨b,0,O⟩)] h fun v' h'=>v'=aa [J (M ⟨b,0,O⟩),J (M ⟨b,1,O⟩),J (M ⟨b,2,O⟩),J (M ⟨b,3,O⟩),J (M ⟨b,4,O⟩)].toArray/\Zk h.size h h':=by
 refine Zg.XK [_] Tryz.func55 ?_;simp +contextual -implicitDefEqProofs only[go_sem];refine VS.z (h.size) [16] (.p 0 (.p 1 (.p 2 (.p 3 (.p 4 (.p 5 (.p 6 (.p 7 (.p 8 (.p 9 (.p 10 (.p 11 (.p 12 (.p 13 (.p 14 (.p 15 (.w 16 .nil))))))))))))))))) mixed sV ?_;simp +contextual -implicitDefEqProofs only[go_sem]
 all_goals first|exact⟨Zk.pp (Y _) _ _,Zk.push (Y _) _⟩|exact Zk.pp (Y _) _ _|exact Zk.push (Y _) _
def ZK(xs:List Nat):List Nat:=xs.flatMap JR
theorem Eh(xs:List Nat)(i:Nat)(hi:i<(D xs)):ZK (xs.take (i+1))=ZK (xs.take i)++JR xs[i]:=by
 unfold ZK;rw[Y0 xs i hi,List.flatMap_append];simp
theorem ZW(xs:List Nat):(ZK xs).length=4*(D xs):=by
 unfold ZK
 induction xs with
 | nil=>rfl
 | cons x l ih=>simp[ih,JR];omega
def Zf3(b:Nat):List Z:=[J (M ⟨b,0,O⟩),J (M ⟨b,1,O⟩),J (M ⟨b,2,O⟩),J (M ⟨b,3,O⟩),J (M ⟨b,4,O⟩)]
theorem AK(b i:Nat)(hi:i<5):nth (Zf3 b) i=M (J (M ⟨b,i,O⟩)):=by
 rcases i with _|_|_|_|_|i<;>first|rfl|omega
theorem KT{k c s n v:Int}(h:XB k c s n v=0):∃k' c' s' n' v':Nat,k=k'/\c=c'/\s=s'/\n=n'/\v=v'/\k'<=1073741824/\c'<=1073741824/\s'<=1073741824/\n'<=1073741824/\v'<=1073741824:=by
 have:0<=k/\k<=3/\0<=c/\c<=7/\0<=s/\s<=1048576/\0<=n/\n<=7/\0<=v/\v<=1073741824:=by
  unfold XB at h
  repeat' split at h
  all_goals omega
 exact⟨k.toNat,c.toNat,s.toNat,n.toNat,v.toNat,mD,mD,mD,mD,mD,mD,mD,mD,mD,mD⟩
def gC(h':Hp)(v':Z)(k c s n v:Int):Prop:=
 ∃w,v'=.tuple [w,A t (XB k c s n v)].toArray/\Bs h' w (if XB k c s n v=0 then ZK [k.toNat,c.toNat,s.toNat,n.toNat,v.toNat] else [])
theorem EX(h:Hp)(k c s n v:Int):
  Zg al T 33 #[aa (UL k c s n v).toArray] h fun v' h'=>gC h' v' k c s n v/\Zk h.size h h':=by
 refine Zg.XK [_] Tryz.func33 ?_;unfold UL;simp +contextual -implicitDefEqProofs only[go_sem];refine (Uk T _ k c s n v).use ?_;rintro v1 h1 ⟨rfl,rfl⟩;unfold UL gC;by_cases q:XB k c s n v=0
 .simp +contextual -implicitDefEqProofs only[go_sem,q];refine (Gg T _ h.size).use ?_;rintro v1 h1 ⟨rfl,b1⟩;obtain⟨k,c,s,n,v,rfl,rfl,rfl,rfl,rfl,y1,y2,y3,y4,y5⟩:=KT q;simp only[Int.toNat_natCast];have z1:h.size+2<=h1.size:=by have:=b1.size;simp at this;omega
  obtain⟨xs,hxs⟩:∃xs:List Nat,xs=[k,c,s,n,v]:=⟨_,rfl⟩
  have hlen:(D xs)=5:=by rw[hxs];rfl
  have cells:∀i (hi:i<5),hc h1 ⟨h.size,i,O⟩=M (A t ((xs[i]'mD:Nat):Int))/\xs[i]'mD<=1073741824:=by
   intro i hi;rw[b1.hc vI,OD,if_neg sW,OD,if_pos rfl];subst hxs;rcases i with _|_|_|_|_|i
   .exact⟨rfl,y1⟩
   .exact⟨rfl,y2⟩
   .exact⟨rfl,y3⟩
   .exact⟨rfl,y4⟩
   .exact⟨rfl,y5⟩
   .omega
  rw[<-hxs];simp +contextual -implicitDefEqProofs only[go_sem];refine VS.Yq (fun F g=>Zk h1.size h1 g/\F 13=aa (Zf3 h.size).toArray/\∃i:Nat,i<=5/\F 14=A t i/\YB h1.size 5 g (F 5) (ZK (xs.take i)))
   (fun F _=>5-(vi (F 14)).toNat) rfl ⟨Zk.refl _ _,rfl,0,mD,rfl,YB.nil _ _ _⟩ ?_
  rintro F g ⟨hb,f13,i,hi,f14,ho⟩;by_cases ZV:i<5
  .have Z4:(i:Int)<5:=mD;obtain⟨c1,c2⟩:=cells i ZV;have g1:hc g ⟨h.size,i,O⟩=M (A t ((xs[i]'mD:Nat):Int)):=by rw[hb.hc vI];exact c1
   have p1:=AK h.size i ZV;simp +contextual -implicitDefEqProofs only[go_sem,f13,f14,Z4,p1,g1];refine (kA T _ h1.size _ _ _ ho hb.size (by rw[ZW,bf];omega) c2).use ?_;rintro w h2 ⟨o2,b2⟩;simp +contextual -implicitDefEqProofs only[go_sem,f13,f14];refine⟨⟨hb.trans b2,f13,i+1,ZV,rfl,?_⟩,?_⟩
   .rw[Eh xs i mD];exact o2
   .simp only[vi,Zt,↓reduceIte,f14];omega
  .have Xw:¬(i:Int)<5:=mD;obtain rfl:i=5:=mD;have e5:xs.take 5=xs:=Ji hlen;rw[e5]at ho;simp +contextual -implicitDefEqProofs only[go_sem,f13,f14,Xw];refine⟨⟨_,rfl,ho.bs⟩,?_⟩;exact (((Zk.refl _ _).add _).add _).trans (b1.mono vI) |>.trans (hb.mono mD)
 .simp +contextual -implicitDefEqProofs only[go_sem,q]
  first|exact⟨⟨_,rfl,(YB.nil 0 5 _).bs⟩,((Zk.refl _ _).add _).add _⟩|exact⟨_,rfl,(YB.nil 0 5 _).bs⟩|exact ((Zk.refl _ _).add _).add _
def XZ(l:List Nat)(i:Nat):Nat:=l.getD i 0*16777216+l.getD (i+1) 0*65536+l.getD (i+2) 0*256+l.getD (i+3) 0
theorem Cu{a c d:Nat}(ha:a<256)(hb:b<256)(hc:c<256)(hd:d<256):
  YL .or t (YL .or t (YL .or t (Xq t a 24) (Xq t b 16)) (Xq t c 8)) d=((a*16777216+b*65536+c*256+d:Nat):Int):=by
 have e1:Xq t (a:Int) 24=((a*16777216:Nat):Int):=SK ha 24 mD;have e2:Xq t (b:Int) 16=((b*65536:Nat):Int):=SK hb 16 mD;have e3:Xq t (c:Int) 8=((c*256:Nat):Int):=SK hc 8 mD;have f1:a*16777216 ||| b*65536=a*16777216+b*65536:=Ua (k:=24) mD mD
 have f2:(a*16777216+b*65536) ||| c*256=a*16777216+b*65536+c*256:=Ua (k:=16) mD mD
 rw[e1,e2,e3,NO _ _ mD mD,f1,NO _ _ mD mD,f2,NO _ _ mD mD,Ua (k:=8) mD mD]
def IR:List Z:=UL 0 0 0 0 0
def Qx(l:List Nat):Int:=if (D l)=20 then XB (XZ l 0) (XZ l 4) (XZ l 8) (XZ l 12) (XZ l 16) else 1
def Gi(l:List Nat):List Z:=if Qx l=0 then UL (XZ l 0) (XZ l 4) (XZ l 8) (XZ l 12) (XZ l 16) else IR
theorem EY(h:Hp)(v:Z)(l:List Nat)(s:Bs h v l)(hl:(D l)<=140737488355328):
  Zg al T 63 #[v] h fun v' h'=>v'=.tuple [aa (Gi l).toArray,A t (Qx l)].toArray/\Zk h.size h h':=by
 obtain⟨p,c,rfl,Vx⟩:=s.Vn;refine Zg.XK [_] Tryz.func63 ?_;by_cases vX:(D l)=20
 .have Zf4:((D l):Int)=20:=mD;obtain⟨b,o,rfl,hb,XH⟩:=Vx (by intro e;subst e;simp at vX);simp +contextual -implicitDefEqProofs only[go_sem,Zf4,vX];refine (Gg T _ (h.size+1)).use ?_;rintro v1 h1 ⟨rfl,b1⟩;have b1':Zk (h.size+2) _ h1:=b1.mono sW;have z1:h.size+2<=h1.size:=by have:=b1.size;simp at this;omega
  have x0:h1[h.size]? = M (L IR.toArray 49):=b1'.get mD (by rw[ZF sW,Zd];rfl);have x1:h1[h.size+1]? = M (L IR.toArray 49):=b1'.get mD (by have:=Zd (h:=h.push (L IR.toArray 49)) (o:=L IR.toArray 49);rw[bo]at this;exact this);have ZeC:Zk h.size h h1:=(((Zk.refl h.size h).add _).add _).trans (b1.mono vI);clear b1 b1';obtain⟨xs,hxs⟩:∃xs:List Z,xs=UL (XZ l 0) (XZ l 4) (XZ l 8) (XZ l 12) (XZ l 16):=⟨_,rfl⟩
  have hx5:(D xs)=5:=by rw[hxs];rfl
  have hxi:∀i (hi:i<5),xs[i]'mD=A t (XZ l (4*i):Nat):=by
   intro i hi;subst hxs;rcases i with _|_|_|_|_|i<;>first|rfl|omega
  simp +contextual -implicitDefEqProofs only[go_sem];refine VS.Yq (fun F g=>Zk (h.size+1) h1 g/\F 0=N (M ⟨b,o,O⟩) 20 c/\F 2=J (M ⟨h.size,0,O⟩)/\F 4=J (M ⟨h.size+1,0,O⟩)/\F 12=aa (Zf3 (h.size+1)).toArray/\∃i:Nat,i<=5/\F 13=A t i/\g[h.size+1]? = M (L (xs.take i++IR.drop i).toArray 49))
   (fun F _=>5-(vi (F 13)).toNat) rfl ⟨Zk.refl _ _,rfl,rfl,rfl,rfl,0,mD,rfl,by rw[EP];exact x1⟩ ?_
  rintro F g ⟨JU,f0,f2,f4,f12,i,hi,f13,hg⟩;by_cases ZV:i<5
  .have Z4:(i:Int)<5:=mD;have p1:=AK (h.size+1) i ZV;simp +contextual -implicitDefEqProofs only[go_sem,f0,f4,f12,f13,Z4,p1];refine VS.z (h.size+1) [35] (.p 0 (.p 1 (.p 2 (.p 3 (.p 4 (.q 5 (.p 6 (.p 7 (.p 8 (.p 9 (.p 10 (.p 11 (.p 12 (.q 13 (.p 14 (.p 15 (.p 16 (.p 17 (.p 18 (.p 19 (.p 20 (.p 21 (.q 22 (.p 23 (.p 24 (.p 25 (.p 26 (.p 27 (.p 28 (.p 29 (.p 30 (.q 31 (.p 32 (.p 33 (.p 34 (.w 35 .nil)))))))))))))))))))))))))))))))))))) mixed sV ?_;have g0:∀i,i<20->hc g ⟨b,o+i,O⟩=M (A .u8 (l.getD i 0:Nat)):=fun i hi=>by rw[JU.hc (by show b<h.size+1;omega),ZeC.hc (by exact hb)];exact XH i mD
   have e0:=g0 (4*i) mD;have e1:=g0 (4*i+1) mD;have e2:=g0 (4*i+2) mD;have e3:=g0 (4*i+3) mD;have b0:=Z3 s.byte (4*i);have b1:=Z3 s.byte (4*i+1);have b2:=Z3 s.byte (4*i+2);have b3:=Z3 s.byte (4*i+3);have t0:(4*(i:Int)).toNat=4*i:=mD;have t1:(4*(i:Int)+1).toNat=4*i+1:=mD;have t2:(4*(i:Int)+2).toNat=4*i+2:=mD;have t3:(4*(i:Int)+3).toNat=4*i+3:=mD;have r1:i+1<6:=mD;have hlen:(xs.take i++IR.drop i).length=5:=by rw[TQ _ _ _ mD (by rw[hx5];rfl),hx5]
   have eo:=Cu b0 b1 b2 b3;rw[show l.getD (4*i) 0*16777216+l.getD (4*i+1) 0*65536+l.getD (4*i+2) 0*256+l.getD (4*i+3) 0=XZ l (4*i) from rfl]at eo;simp +contextual -implicitDefEqProofs only[go_sem,f0,f4,e0,e1,e2,e3,t0,t1,t2,t3,eo];rw[Xk hg,if_pos ⟨mD,rfl⟩];simp +contextual -implicitDefEqProofs only[go_sem,f13];refine⟨⟨JU.Zu mD _,f0,f2,f4,f12,i+1,ZV,rfl,?_⟩,?_⟩
   .rw[<-hxi i ZV,LW _ _ _ mD (by rw[hx5];rfl),R,if_pos rfl,if_pos (Za hg)]
   .simp only[vi,Zt,↓reduceIte,f13];omega
  .have Xw:¬(i:Int)<5:=mD;obtain rfl:i=5:=mD;rw[<-hx5,LX _ _ (by rw[hx5];rfl)]at hg;have UO:rd g ⟨h.size+1,0,O⟩ 5=M (UL (XZ l 0) (XZ l 4) (XZ l 8) (XZ l 12) (XZ l 16)):=by rw[<-hxs];exact ZA hg hx5
   simp +contextual -implicitDefEqProofs only[go_sem,f2,f4,f12,f13,Xw,UO];refine (Uk T _ _ _ _ _ _).use ?_;rintro v1 h2 ⟨rfl,rfl⟩;have y0:g[h.size]? = M (L IR.toArray 49):=JU.get mD x0;have y1:rd g ⟨h.size,0,O⟩ 5=M IR:=ZA y0 rfl;unfold Gi Qx;rw[if_pos vX];have zg:h.size+2<=g.size:=Nat.le_trans z1 JU.size;have hB:=ZeC.trans (JU.mono mD);have y2:=Yh y0 0;unfold IR UL at *;by_cases q:XB (XZ l 0) (XZ l 4) (XZ l 8) (XZ l 12) (XZ l 16)=0
   .rw[if_pos q];simp +contextual -implicitDefEqProofs only[go_sem,q,f2,f4,UO,y1,y2];exact (hB.Zu (Y _) _).Y1 vI _
   .simp only[if_neg q];simp +contextual -implicitDefEqProofs only[go_sem,q,f2,f4,UO,y1,y2];exact (hB.Zu (Y _) _).Y1 vI _
 .have Zf4:¬((D l):Int)=20:=mD;unfold Gi Qx IR UL;simp +contextual -implicitDefEqProofs only[go_sem,Zf4,vX]
  (repeat' (first|exact Zk.refl _ _|assumption|refine Zk.add ?_ _|refine Zk.Zu ?_ IX _|refine Zk.trans KO ?_))
def rr(x n:Nat):Nat:=rotl x (32-n)
theorem U7{x n:Nat}(hx:x<4294967296):rr x n<4294967296:=ku hx mD
def sg0(x:Nat):Nat:=rr x 7 ^^^ rr x 18 ^^^ x/8
def sg1(x:Nat):Nat:=rr x 17 ^^^ rr x 19 ^^^ x/1024
def bg0(x:Nat):Nat:=rr x 2 ^^^ rr x 13 ^^^ rr x 22
def bg1(x:Nat):Nat:=rr x 6 ^^^ rr x 11 ^^^ rr x 25
theorem Zsb{a:Nat}(ha:a<256)(hb:b<256):a ^^^ b<256:=a7 (n:=8) ha hb
theorem UQ{a:Nat}(ha:a<4294967296):a &&& b<4294967296:=aF Nat.and_le_left ha
theorem ZeD{e:Nat}(he:e<4294967296):4294967295 ^^^ e=4294967295-e:=by
 have h1:(BitVec.allOnes 32 ^^^ BitVec.ofNat 32 e).toNat=(~~~ (BitVec.ofNat 32 e)).toNat:=by rw[BitVec.allOnes_xor]
 rw[BitVec.toNat_xor,BitVec.toNat_not,BitVec.toNat_allOnes,BitVec.toNat_ofNat,ak mD]at h1;exact h1
theorem nV{a:Nat}(ha:a<4294967296)(hb:b<4294967296)(h:a &&& b=0):a ^^^ b=a+b:=by
 have hx:BitVec.ofNat 33 a &&& BitVec.ofNat 33 b=0#33:=by
  apply BitVec.eq_of_toNat_eq;rw[BitVec.toNat_and,BitVec.toNat_ofNat,BitVec.toNat_ofNat,ak mD,ak mD,h];rfl
 have h1:=BitVec.add_eq_or_of_and_eq_zero _ _ hx;have h2:BitVec.ofNat 33 a ||| BitVec.ofNat 33 b=BitVec.ofNat 33 a ^^^ BitVec.ofNat 33 b:=by
  apply BitVec.eq_of_getLsbD_eq;intro i hi;have:=congrArg (·.getLsbD i) hx
  simp only[BitVec.getLsbD_and,BitVec.getLsbD_zero]at this;rw[BitVec.getLsbD_or,BitVec.getLsbD_xor]
  revert this
  cases (BitVec.ofNat 33 a).getLsbD i<;>cases (BitVec.ofNat 33 b).getLsbD i<;>simp
 have h3:=congrArg BitVec.toNat (h1.trans h2);rw[BitVec.toNat_add,BitVec.toNat_xor,BitVec.toNat_ofNat,BitVec.toNat_ofNat,ak (by omega:a<2 ^ 33),ak (by omega:b<2 ^ 33),ak (by omega:a+b<2 ^ 33)]at h3;exact h3.symm
def chw(e f g:Nat):Nat:=(e &&& f)+((4294967295-e) &&& g)
def nW(a b c:Nat):Nat:=(a &&& b) ||| (a &&& c) ||| (b &&& c)
theorem vY{e f g:Nat}(he:e<4294967296):(e &&& f) &&& ((4294967295-e) &&& g)=0:=by
 rw[<-ZeD he];apply a3;intro i;rw[am,am,am,bp,Nat.zero_testBit];by_cases hi:i<32
 .have:Nat.testBit 4294967295 i=true:=by
   rw[show (4294967295:Nat)=2 ^ 32-1 from rfl,Nat.testBit_two_pow_sub_one];simpa using hi
  rw[this]
  cases e.testBit i<;>simp
 .have:e.testBit i=false:=Nat.testBit_lt_two_pow (Nat.lt_of_lt_of_le he (a4 (n:=2) mD (by omega:32<=i)));rw[this];simp
theorem Zb8{e f g:Nat}(he:e<4294967296)(hg:g<4294967296):(e &&& f) ^^^ ((4294967295-e) &&& g)=chw e f g:=
 nV (UQ he) (UQ mD) (vY he)
theorem vZ(a b c:Nat):(a &&& b) ^^^ (a &&& c) ^^^ (b &&& c)=nW a b c:=by
 unfold nW;apply a3;intro i;simp only[bp,Nat.testBit_or,am]
 cases a.testBit i<;>cases b.testBit i<;>cases c.testBit i<;>rfl
theorem AL{a k:Nat}(ha:a<4294967296):a/k<4294967296:=aF (bn _ _) ha
theorem AM(e:Nat):4294967295-e<4294967296:=mD
theorem Zkb{a:Nat}(ha:a<4294967296):a<9223372036854775808:=Nat.lt_trans ha KC
theorem r64{a:Nat}(ha:a<4294967296)(hb:b<4294967296):YL .or t (a:Int) (b:Int)=((a ||| b:Nat):Int):=NO a b (Zkb ha) (Zkb hb)
theorem Zb9{e:Nat}(he:e<4294967296):YL .xor H (4294967295:Int) (e:Int)=((4294967295-e:Nat):Int):=by
 have:=Q0 4294967295 e KC he;rw[ZeD he]at this;exact this
theorem Zf7{e f g:Nat}(he:e<4294967296)(hg:g<4294967296):YL .xor H ((e &&& f:Nat):Int) (((4294967295-e) &&& g:Nat):Int)=((chw e f g:Nat):Int):=by
 rw[Q0 _ _ (UQ he) (UQ (AM e)),Zb8 he hg]
theorem Zca{a c:Nat}(ha:a<4294967296)(hb:b<4294967296):YL .xor H (((a &&& b) ^^^ (a &&& c):Nat):Int) ((b &&& c:Nat):Int)=((nW a b c:Nat):Int):=by
 rw[Q0 _ _ (VW (UQ ha) (UQ ha)) (UQ hb),vZ]
def kN:List Nat:=[
 1116352408,1899447441,3049323471,3921009573,961987163,1508970993,2453635748,2870763221,
 3624381080,310598401,607225278,1426881987,1925078388,2162078206,2614888103,3248222580,
 3835390401,4022224774,264347078,604807628,770255983,1249150122,1555081692,1996064986,
 2554220882,2821834349,2952996808,3210313671,3336571891,3584528711,113926993,338241895,
 666307205,773529912,1294757372,1396182291,1695183700,1986661051,2177026350,2456956037,
 2730485921,2820302411,3259730800,3345764771,3516065817,3600352804,4094571909,275423344,
 430227734,506948616,659060556,883997877,958139571,1322822218,1537002063,1747873779,
 1955562222,2024104815,2227730452,2361852424,2428436474,2756734187,3204031479,3329325298]
theorem Zf8:OJ kN:=by unfold OJ;decide +kernel
def Cv(b s:List Nat):Nat:=if (D s)<16 then XZ b (4*(D s)) else (s.getD ((D s)-16) 0+sg0 (s.getD ((D s)-15) 0)+s.getD ((D s)-7) 0+sg1 (s.getD ((D s)-2) 0))%4294967296
def Ul(b:List Nat):Nat->List Nat
 | 0=>[]
 | n+1=>Ul b n++[Cv b (Ul b n)]
theorem Qc(b:List Nat):∀n,(Ul b n).length=n
 | 0=>rfl
 | n+1=>by rw[Ul,aI,Qc b n];rfl
def Nb(l:List Nat):Prop:=∀x∈l,x<256
theorem Zf9{b:List Nat}(hb:Nb b)(i:Nat):XZ b i<4294967296:=by
 have h0:=Z3 hb i;have h1:=Z3 hb (i+1);have h2:=Z3 hb (i+2);have h3:=Z3 hb (i+3);unfold XZ;omega
theorem Zcb{b:List Nat}(hb:Nb b)(s:List Nat):Cv b s<4294967296:=by
 unfold Cv;split
 .exact Zf9 hb _
 .omega
theorem Gj{b:List Nat}(hb:Nb b):∀n,OJ (Ul b n)
 | 0=>fun x hx=>by cases hx
 | n+1=>fun x hx=>by
  rw[Ul,an,List.mem_singleton]at hx;rcases hx with hx|rfl
  .exact Gj hb n x hx
  .exact Zcb hb _
def upw(e f g h k w:Nat):Nat:=(h+bg1 e+chw e f g+k+w)%4294967296
def wh(v:List Nat)(k w:Nat):List Nat:=
 match v with
 | [a,b,c,d,e,f,g,h]=>[(upw e f g h k w+bg0 a+nW a b c)%4294967296,a,b,c,(d+upw e f g h k w)%4294967296,e,f,g]
 | v=>v
theorem eight{v:List Nat}(h:(D v)=8):∃a b c d e f g k,v=[a,b,c,d,e,f,g,k]:=by
 match v,h with
 | [a,b,c,d,e,f,g,k],_=>exact⟨a,b,c,d,e,f,g,k,rfl⟩
theorem AN{v:List Nat}(h:(D v)=8)(k w:Nat):(wh v k w).length=8:=by
 obtain⟨a,b,c,d,e,f,g,j,rfl⟩:=eight h;rfl
theorem wm{v:List Nat}(h:(D v)=8)(hv:OJ v)(k w:Nat):OJ (wh v k w):=by
 obtain⟨a,b,c,d,e,f,g,j,rfl⟩:=eight h;intro x hx;simp only[wh,a5,aU,or_false]at hx;rcases hx with rfl|rfl|rfl|rfl|rfl|rfl|rfl|rfl
 all_goals first|exact aw _ mD|exact hv _ sW
def Um(b v:List Nat):Nat->List Nat
 | 0=>v
 | i+1=>wh (Um b v i) (kN.getD i 0) ((Ul b 64).getD i 0)
theorem PK{b v:List Nat}(h:(D v)=8)(hv:OJ v):∀i,(Um b v i).length=8/\OJ (Um b v i)
 | 0=>⟨h,hv⟩
 | i+1=>⟨AN (PK h hv i).1 _ _,wm (PK h hv i).1 (PK h hv i).2 _ _⟩
def Pk(d v:List Nat):List Nat:=List.zipWith (fun x y=>(x+y)%4294967296) d v
theorem PM{d v:List Nat}(h:(D d)=8)(k:(D v)=8):(Pk d v).length=8:=by simp[Pk,h,k]
theorem wn(d v:List Nat):OJ (Pk d v):=by
 intro x hx;unfold Pk at hx;rw[List.zipWith_eq_zipWith_take_min]at hx;obtain⟨i,hi,rfl⟩:=List.mem_iff_getElem.1 hx;rw[List.getElem_zipWith];omega
theorem nX{d v:List Nat}(h:(D d)=8)(k:(D v)=8){i:Nat}(hi:i<8):(Pk d v).getD i 0=(d.getD i 0+v.getD i 0)%4294967296:=by
 have e1:i<(Pk d v).length:=by rw[PM h k];exact hi
 rw[Q,W e1,Q,Q,W (show i<(D d) by omega),W (show i<(D v) by omega)];simp[Pk]
def AO(d b:List Nat):List Nat:=Pk d (Um b d 64)
theorem wo{d b:List Nat}(h:(D d)=8)(hv:OJ d):(AO d b).length=8/\OJ (AO d b):=⟨PM h (PK h hv 64).1,wn _ _⟩
def wq:List Nat:=[1779033703,3144134277,1013904242,2773480762,1359893119,2600822924,528734635,1541459225]
theorem wu:OJ wq:=by unfold OJ;decide
def AP(p:List Nat):Nat->List Nat
 | 0=>wq
 | j+1=>AO (AP p j) ((p.drop (64*j)).take 64)
theorem MS(p:List Nat):∀j,(AP p j).length=8/\OJ (AP p j)
 | 0=>⟨rfl,wu⟩
 | j+1=>wo (MS p j).1 (MS p j).2
def Ei(n:Nat):Nat:=(119-n%64)%64
def PO(l:List Nat)(j:Nat):List Nat:=l++128 :: U j 0
def TY(l:List Nat):List Nat:=PO l (Ei (D l))++(0 :: 0 :: 0 :: 0 :: JR (8*(D l)))
def nY(n:Nat):Nat:=(n+72)/64
theorem MT(l:List Nat)(j:Nat):(PO l j).length=(D l)+j+1:=by simp[PO];omega
theorem Cw(l:List Nat):(TY l).length=64*nY (D l):=by
 rw[TY,aI,MT];simp only[JR,List.length_cons,List.length_nil,Ei,nY];omega
theorem AQ{n j:Nat}(hj:j<=Ei n):(n+j+1)%64=56↔j=Ei n:=by unfold Ei at *;omega
theorem gD(l:List Nat)(j:Nat):PO l (j+1)=PO l j++[0]:=by
 unfold PO;rw[List.append_assoc,List.cons_append,List.replicate_succ']
def TC(l:List Nat):List Nat:=ZK (AP (TY l) (nY (D l)))
theorem QM(l:List Nat):(TC l).length=32:=by rw[TC,ZW,(MS _ _).1]
theorem Ej(xs:List Nat):Nb (ZK xs):=by
 intro x hx;unfold ZK at hx;obtain⟨y,_,hy⟩:=List.mem_flatMap.1 hx;exact VX y x hy
theorem nZ(l:List Nat):Nb (TC l):=Ej _
theorem UB(h:Hp)(v:Z)(n:Int)(l:List Nat)(s:Bs h v l)(hl:(D l)<=140737488355328):
  Zg al T 45 #[aa [v,A t n].toArray] h fun v' h'=>Zk h.size h h' /\
   (if (D l)<=100000/\0<=n/\n<=(D l) then ∃w,v'=.tuple [aa [w,A t n].toArray,.bool true].toArray/\YB h.size 5 h' w l
     else v'=.tuple [aa [N O 0 0,A t 0].toArray,.bool false].toArray):=by
 obtain⟨p,c,rfl,Vx⟩:=s.open;refine Zg.XK [_] Tryz.func45 ?_;by_cases q1:n<0
 .have q:¬((D l)<=100000/\0<=n/\n<=(D l)):=mD;simp +contextual -implicitDefEqProofs only[go_sem,q1,q]
  try exact ((Zk.refl _ _).add _).add _
 .by_cases q2:((D l):Int)<n
  .have q:¬((D l)<=100000/\0<=n/\n<=(D l)):=mD;simp +contextual -implicitDefEqProofs only[go_sem,q1,q2,q]
   try exact ((Zk.refl _ _).add _).add _
  .by_cases q3:(100000:Int)<(D l)
   .have q:¬((D l)<=100000/\0<=n/\n<=(D l)):=mD;simp +contextual -implicitDefEqProofs only[go_sem,q1,q2,q3,q]
    try exact ((Zk.refl _ _).add _).add _
   .have q:((D l)<=100000/\0<=n/\n<=(D l)):=mD;simp +contextual -implicitDefEqProofs only[go_sem,q1,q2,q3];refine VS.z (h.size+1) [] (.p 0 (.q 1 (.p 3 (.q 4 (.s 2 (.p 5 (.s 6 (.p 7 .nil)))))))) mixed sV ?_;simp +contextual -implicitDefEqProofs only[go_sem,q1,q2,q3];refine (Gc T _ _ l (s.YJ (((Zk.refl _ _).add _).add _)) hl).use ?_;rintro v1 h1 ⟨o1,b1⟩;have z1:h.size+1<h1.size:=by have:=b1.size;simp at this;omega
    have r1:=b1.get (k:=h.size+1) sW (by rw[au,if_pos sW]);have w1:=Yh r1;obtain⟨p1,c1,rfl,_⟩:=o1.bs.open;simp +contextual -implicitDefEqProofs only[go_sem,w1,z1];have c0:Zk (h.size+1) _ h1:=b1.mono sW;refine⟨c0,c0.Zu (Y _) _,?_,_,rfl,?_⟩
    .exact (((Zk.refl _ _).add _).add _ |>.trans (b1.mono vI)).Zu mD _
    .exact (o1.Yi sW _).mono vI
def ww(l:List Nat)(i:Nat):Nat:=l.getD i 0+256*l.getD (i+1) 0+65536*l.getD (i+2) 0+16777216*l.getD (i+3) 0
theorem gE{l:List Nat}(hb:∀x∈l,x<256)(i:Nat):ww l i<4294967296:=by
 have b0:=Z3 hb i;have b1:=Z3 hb (i+1);have b2:=Z3 hb (i+2);have b3:=Z3 hb (i+3);unfold ww;omega
theorem AS(l:List Nat)(k:Nat):ww (l.drop k) 0=ww l k:=by
 unfold ww;simp only[Q,List.getElem?_drop,ba,Nat.zero_add]
theorem NZ{x k:Nat}(hx:x<256)(hk:k<=24):Xq H (x:Int) (k:Int)=((x*2 ^ k:Nat):Int):=by
 rw[Hb x k mD,ak];have:2 ^ k<=2 ^ 24:=a4 mD hk;have h2:x*2 ^ k<=255*2 ^ 24:=Nat.mul_le_mul mD this;omega
theorem Zcc{a c d:Nat}(ha:a<256)(hb:b<256)(hc:c<256)(hd:d<256):
  YL .or H (YL .or H (YL .or H (a:Int) (Xq H b 8)) (Xq H c 16)) (Xq H d 24)=((a+256*b+65536*c+16777216*d:Nat):Int):=by
 have e1:Xq H (b:Int) 8=((b*256:Nat):Int):=NZ (k:=8) hb mD;have e2:Xq H (c:Int) 16=((c*65536:Nat):Int):=NZ (k:=16) hc mD;have e3:Xq H (d:Int) 24=((d*16777216:Nat):Int):=NZ (k:=24) hd mD;have f1:a ||| b*256=a+256*b:=by rw[bl,Ua (k:=8) mD mD];omega
 have f2:(a+256*b) ||| c*65536=a+256*b+65536*c:=by rw[bl,Ua (k:=16) mD mD];omega
 have f3:(a+256*b+65536*c) ||| d*16777216=a+256*b+65536*c+16777216*d:=by rw[bl,Ua (k:=24) mD mD];omega
 rw[e1,e2,e3,PA _ _ mD mD,f1,PA _ _ mD mD,f2,PA _ _ mD mD,f3]
theorem kC(h:Hp)(v:Z)(l:List Nat)(s:Bs h v l)(hi:4<=(D l)):
  Zg al T 132 #[v] h fun v' h'=>v'=A H (ww l 0:Nat)/\h'=h:=by
 obtain⟨p,c,rfl,Vx⟩:=s.Vn;obtain⟨b,o,rfl,hb,XH⟩:=Vx (by intro e;subst e;simp at hi);refine Zg.XK [_] Tryz.func132 ?_;have e0:=XH 0 mD;have e1:=XH 1 mD;have e2:=XH 2 mD;have e3:=XH 3 mD;have b0:=Z3 s.byte 0;have b1:=Z3 s.byte 1;have b2:=Z3 s.byte 2;have b3:=Z3 s.byte 3;rw[ba]at e0;have eo:=Zcc b0 b1 b2 b3;rw[show l.getD 0 0+256*l.getD 1 0+65536*l.getD 2 0+16777216*l.getD 3 0=ww l 0 from rfl]at eo;simp +contextual -implicitDefEqProofs only[go_sem];refine VS.q mixed sV ?_;have m0:((l.getD 0 0:Nat):Int)%4294967296=(l.getD 0 0:Nat):=mD;have m1:((l.getD 1 0:Nat):Int)%4294967296=(l.getD 1 0:Nat):=mD;have m2:((l.getD 2 0:Nat):Int)%4294967296=(l.getD 2 0:Nat):=mD;have m3:((l.getD 3 0:Nat):Int)%4294967296=(l.getD 3 0:Nat):=mD;simp +contextual -implicitDefEqProofs only[go_sem,e0,e1,e2,e3,m0,m1,m2,m3,eo]
def gF(a:Option Addr)(n cap l:Nat):Option Addr:=if cap=l then a else a.map (·.add (l*n))
theorem Wj{K:Z->Hp->Prop}{h:Hp}{a:Option Addr}{n cap l:Nat}:Nl a n cap b (M l) K h=K (N (gF a n cap l) (b-l) (cap-l)) h:=rfl
theorem OK{h:Hp}{p:Option Addr}{c m:Nat}{l:List Nat}(s:Bs h (N p m c) l)(hm:(D l)=m){k:Nat}(hk:k<=m)(U3:m<=c)(c':Nat):Bs h (N (gF p 1 c k) (m-k) c') (l.drop k):=by
 subst hm;unfold gF;refine⟨?_,fun x hx=>s.byte x (List.mem_of_mem_drop hx)⟩;obtain⟨p',cap,hv,hl,hc⟩:=s.sl;simp only[Value.slice.injEq]at hv;obtain⟨rfl,_,rfl⟩:=hv;refine⟨_,c',by rw[aX],sW,fun Xb=>?_⟩;have ZV:k<(D l):=by
  rw[<-List.length_pos_iff]at Xb;simp at Xb;omega
 obtain⟨b,o,rfl,XH⟩:=hc (by intro e;simp at e;subst e;simp at ZV);refine⟨b,o+k,?_,fun i hi=>?_⟩
 .rw[if_neg mD];simp only[Option.map_some,XL,Nat.mul_one]
 .have ki:i<(D l)-k:=by simpa using hi
  rw[show o+k+i=o+(k+i) by omega,XH (k+i) vI];simp
def Nt(key:List Nat)(IS:Nat)(ZD:List Nat):List Nat:=[1634760805,857760878,2036477234,1797285236]++(a8 8).map (fun i=>ww key (4*i))++(IS :: (a8 3).map (fun i=>ww ZD (4*i)))
def gG(s:List Nat):Nat->List Nat
 | 0=>s
 | i+1=>NY (gG s i) i (4+i) (8+i) (12+i)
def diags(s:List Nat):Nat->List Nat
 | 0=>s
 | i+1=>NY (diags s i) i (4+(i+1)%4) (8+(i+2)%4) (12+(i+3)%4)
def PP(s:List Nat):Nat->List Nat
 | 0=>s
 | r+1=>diags (gG (PP s r) 4) 4
def Zkc(x s:List Nat)(k:Nat):Nat:=(x.getD (k/4) 0+s.getD (k/4) 0)%4294967296/256 ^ (k%4)%256
def Ek(x s:List Nat):List Nat:=(a8 64).map (Zkc x s)
def Jm(key:List Nat)(IS:Nat)(ZD:List Nat):List Nat:=Ek (PP (Nt key IS ZD) 10) (Nt key IS ZD)
theorem Cx(w:OJ s):∀i,OJ (gG s i)/\(gG s i).length=(D s):=by
 intro i
 induction i with
 | zero=>exact⟨w,rfl⟩
 | succ i ih=>exact⟨Ge ih.1 _ _ _ _,by rw[gG,Ns,ih.2]⟩
theorem AT(w:OJ s):∀i,OJ (diags s i)/\(diags s i).length=(D s):=by
 intro i
 induction i with
 | zero=>exact⟨w,rfl⟩
 | succ i ih=>exact⟨Ge ih.1 _ _ _ _,by rw[diags,Ns,ih.2]⟩
theorem kD(w:OJ s):∀i,OJ (PP s i)/\(PP s i).length=(D s):=by
 intro i
 induction i with
 | zero=>exact⟨w,rfl⟩
 | succ i ih=>
  obtain⟨c1,c2⟩:=Cx ih.1 4;obtain⟨d1,d2⟩:=AT c1 4;exact⟨d1,by rw[PP,d2,c2,ih.2]⟩
theorem Cy(key:List Nat)(IS:Nat)(ZD:List Nat):(Nt key IS ZD).length=16:=by simp[Nt]
theorem oe{key ZD:List Nat}{IS:Nat}(hk:∀x∈key,x<256)(hn:∀x∈ZD,x<256)(hc:IS<4294967296):OJ (Nt key IS ZD):=by
 intro x hx;unfold Nt at hx;simp only[an,a5,bd,List.mem_range,aU,or_false]at hx;rcases hx with ((rfl|rfl|rfl|rfl)|⟨i,_,rfl⟩)|rfl|⟨i,_,rfl⟩
 .omega
 .omega
 .omega
 .omega
 .exact gE hk _
 .exact hc
 .exact gE hn _
theorem QN(xs zs:List Nat)(i:Nat)(hi:i<(D xs))(hz:(D xs)=(D zs)):(xs.take i++zs.drop i).set i (xs.getD i 0)=xs.take (i+1)++zs.drop (i+1):=by
 rw[<-LW xs zs i hi hz,Q,W hi];rfl
theorem EZ(key ZD:List Nat)(IS i:Nat)(hi:i<8):(Nt key IS ZD).getD (4+i) 0=ww key (4*i):=by
 rcases i with _|_|_|_|_|_|_|_|i<;>first|rfl|omega
theorem AU(key ZD:List Nat)(IS i:Nat)(hi:i<3):(Nt key IS ZD).getD (13+i) 0=ww ZD (4*i):=by
 rcases i with _|_|_|i<;>first|rfl|omega
theorem Gk(f:Nat->Nat){m k:Nat}(hk:k<m):((a8 m).map f).getD k 0=f k:=by
 simp[Q,hk]
theorem OL(x s:List Nat)(i j:Nat)(hi:i<16)(hj:j<4):(Ek x s).getD (4*i+j) 0=(x.getD i 0+s.getD i 0)%4294967296/256 ^ j%256:=by
 unfold Ek;rw[Gk _ mD];unfold Zkc;rw[show (4*i+j)/4=i by omega,show (4*i+j)%4=j by omega]
theorem Gl(x s:List Nat):∀y∈Ek x s,y<256:=by
 intro y hy;unfold Ek at hy;obtain⟨k,_,rfl⟩:=bd.1 hy;exact aw _ KC
def kE:List Nat:=U 16 0
theorem KU(h:Hp)(p q:Option Addr)(m n c d:Nat)(k:Int):
  Zg al T 113 #[N p m c,A t k,N q n d] h fun v' h'=>v'=A t (if m≠32\/n≠12 then 1 else if k<0\/1073741824<k then 2 else 0)/\h'=h:=by
 refine Zg.XK [_,_,_] Tryz.func113 ?_;by_cases q1:(m:Int)=32
 .by_cases q2:(n:Int)=12
  .rw[if_neg mD];by_cases q3:k<0
   .rw[if_pos mD];simp +contextual -implicitDefEqProofs only[go_sem,q1,q2,q3]
   .by_cases q4:1073741824<k
    .rw[if_pos mD];simp +contextual -implicitDefEqProofs only[go_sem,q1,q2,q3,q4]
    .rw[if_neg mD];simp +contextual -implicitDefEqProofs only[go_sem,q1,q2,q3,q4]
  .rw[if_pos mD];simp +contextual -implicitDefEqProofs only[go_sem,q1,q2]
 .rw[if_pos mD];simp +contextual -implicitDefEqProofs only[go_sem,q1]
theorem MU(h:Hp)(v u:Z)(key ZD:List Nat)(IS:Nat)(sk:Bs h v key)(sn:Bs h u ZD)(hk:(D key)=32)(hn:(D ZD)=12)(hc:IS<4294967296)(ck:Pj v)(cn:Pj u):
  Zg al T 114 #[v,A H IS,u] h fun v' h'=>v'=aa ((Jm key IS ZD).map bv).toArray/\Zk h.size h h':=by
 obtain⟨p,c,rfl,_⟩:=sk.open;obtain⟨q,d,rfl,_⟩:=sn.open;rw[hk]at sk ck ⊢;rw[hn]at sn cn ⊢;have ck:32<=c:=ck;have cn:12<=d:=cn;refine Zg.XK [_,_,_] Tryz.func114 ?_;obtain⟨S,hS⟩:=ZP (Nt key IS ZD);have gH:(D S)=16:=by rw[hS];exact Cy _ _ _
 have hSZ:(D S)=(D kE):=gH;have fl:∀k,k<=16->(S.take k++kE.drop k).length=16:=fun k hk=>by rw[TQ _ _ _ (by omega) hSZ,gH]
 simp +contextual -implicitDefEqProofs only[go_sem];refine VS.Yq (fun F g=>Zk (h.size+1) (h.push (L ((U 64 0).map bv).toArray 201)) g/\F 0=N p 32 c/\F 1=A H IS/\F 2=N q 12 d/\F 6=J (M ⟨h.size,0,O⟩)/\F 7=J (M ⟨h.size+1,0,O⟩)/\∃i:Nat,i<=8/\F 17=A t i/\g[h.size+1]? = M (L ((S.take (4+i)++kE.drop (4+i)).map wv++[]).toArray 221))
  (fun F _=>8-(vi (F 17)).toNat) rfl ⟨Zk.push (by simp) _,rfl,rfl,rfl,rfl,rfl,0,by omega,rfl,?_⟩ ?_
 .subst hS;have e:=Zd (h:=h.push (L ((U 64 0).map bv).toArray 201)) (o:=L ((List.take (4+0) (Nt key IS ZD)++List.drop (4+0) kE).map wv++[]).toArray 221);rw[bo]at e;exact e
 rintro F g ⟨hg,f0,f1,f2,f6,f7,i,hi,f17,hx⟩;by_cases ZV:i<8
 .have Z4:(i:Int)<8:=by omega
  have t4:(4*(i:Int)).toNat=4*i:=by omega
  have t5:((4:Int)+i).toNat=4+i:=by omega
  simp +contextual -implicitDefEqProofs only[go_sem,f0,f7,f17,Z4,t4,t5,Wj];have sU:=OK (sk.YJ ((Zk.push (Y _) _).trans (hg.mono (by omega)))) hk (k:=4*i) (by omega) ck (c-4*i);refine (kC T _ _ _ sU (by rw[aX];omega)).pure ?_;rw[AS,<-EZ key ZD IS i ZV,<-hS];have hSi:S.getD (4+i) 0<4294967296:=by rw[hS,EZ key ZD IS i ZV];exact gE sk.byte _
  have c1:QF g ⟨h.size+1,4+i,O⟩ (A H (S.getD (4+i) 0:Nat))=_:=Yz (f:=wv) hx (i:=4+i) (by rw[fl _ (by omega)];omega) _ rfl;rw[QN S kE (4+i) (by omega) hSZ]at c1;simp +contextual -implicitDefEqProofs only[go_sem,f7,f17,t5,c1];refine⟨⟨hg.Zu (by omega) _,f0,f1,f2,f6,f7,i+1,ZV,rfl,?_⟩,?_⟩
  .exact Yd hx
  .simp only[vi,Zt,↓reduceIte,f17];omega
 .have Xw:¬(i:Int)<8:=by omega
  obtain rfl:i=8:=by omega
  have c1:QF g ⟨h.size+1,12,O⟩ (A H (S.getD 12 0:Nat))=_:=Yz (f:=wv) hx (i:=12) (by rw[fl _ (by omega)];omega) _ rfl;have s12:S.getD 12 0=IS:=by rw[hS];rfl
  rw[QN S kE 12 (by omega) hSZ,s12]at c1;have hx:=Yd (o:=L ((S.take 13++kE.drop 13).map wv++[]).toArray 221) hx;have hg:=hg.Zu (b:=h.size+1) (by omega) (L ((S.take 13++kE.drop 13).map wv++[]).toArray 221);simp +contextual -implicitDefEqProofs only[go_sem,f0,f1,f7,f17,Xw,c1];obtain⟨G,hG⟩:=ZP (g.setIfInBounds (h.size+1) (L ((S.take 13++kE.drop 13).map wv++[]).toArray 221):Hp);rw[<-hG]at hx hg ⊢;clear hG c1 s12;refine VS.Yq (fun F g=>Zk (h.size+1) (h.push (L ((U 64 0).map bv).toArray 201)) g/\F 2=N q 12 d/\F 6=J (M ⟨h.size,0,O⟩)/\F 7=J (M ⟨h.size+1,0,O⟩)/\∃i:Nat,i<=3/\F 31=A t i/\g[h.size+1]? = M (L ((S.take (13+i)++kE.drop (13+i)).map wv++[]).toArray 221))
   (fun F _=>3-(vi (F 31)).toNat) rfl ⟨hg,f2,f6,f7,0,by omega,rfl,hx⟩ ?_
  clear f0 f1 f2 f6 f7 f17 hg hx F;rintro F g ⟨hg,f2,f6,f7,i,hi,f31,hx⟩;by_cases ZV:i<3
  .have Z4:(i:Int)<3:=by omega
   have t4:(4*(i:Int)).toNat=4*i:=by omega
   have t5:((13:Int)+i).toNat=13+i:=by omega
   simp +contextual -implicitDefEqProofs only[go_sem,f2,f7,f31,Z4,t4,t5,Wj];have sU:=OK (sn.YJ ((Zk.push (Y _) _).trans (hg.mono (by omega)))) hn (k:=4*i) (by omega) cn (d-4*i);refine (kC T _ _ _ sU (by rw[aX];omega)).pure ?_;rw[AS,<-AU key ZD IS i ZV,<-hS];have c1:QF g ⟨h.size+1,13+i,O⟩ (A H (S.getD (13+i) 0:Nat))=_:=Yz (f:=wv) hx (i:=13+i) (by rw[fl _ (by omega)];omega) _ rfl;rw[QN S kE (13+i) (by omega) hSZ]at c1;simp +contextual -implicitDefEqProofs only[go_sem,f7,f31,t5,c1];refine⟨⟨hg.Zu (by omega) _,f2,f6,f7,i+1,ZV,rfl,?_⟩,?_⟩
   .exact Yd hx
   .simp only[vi,Zt,↓reduceIte,f31];omega
  .have Xw:¬(i:Int)<3:=by omega
   obtain rfl:i=3:=by omega
   have e16:S.take (13+3)++kE.drop (13+3)=S:=by
    have:=LX S kE hSZ;rw[gH]at this;exact this
   rw[e16]at hx;have y1:=ZA (n:=16) hx (by simp[gH]);have wy:(S.map wv++[]).length=16:=by simp[gH]
   have FT:(S.map wv++[]).all YN=true:=by simp[wv,YN]
   have hl3:Xd (kE.map wv) 0 (S.map wv++[])=S.map wv++[]:=Yb (by rw[wy];rfl);have hl3:Xd [Value.int H 0,Value.int H 0,Value.int H 0,Value.int H 0,Value.int H 0,Value.int H 0,Value.int H 0,Value.int H 0,Value.int H 0,Value.int H 0,Value.int H 0,Value.int H 0,Value.int H 0,Value.int H 0,Value.int H 0,Value.int H 0] 0 (S.map wv++[])=S.map wv++[]:=hl3;have wS:OJ S:=by rw[hS];exact oe sk.byte sn.byte hc
   have PQ:=Za hx;simp +contextual -implicitDefEqProofs only[go_sem,f6,f7,f31,Xw,y1,wy,FT,hl3];clear hl3 y1;obtain⟨G,hG⟩:=ZP (g.push (L (S.map wv++[]).toArray 221):Hp);have hxG:G[g.size]? = M (L ((PP S 0).map wv++[]).toArray 221):=by rw[hG];exact Zd
   have hGb:Zk g.size g G:=by rw[hG];exact Zk.push (Y _) _
   rw[<-hG];clear hG;refine VS.Yq (fun F g'=>Zk g.size g g'/\F 6=J (M ⟨h.size,0,O⟩)/\F 7=J (M ⟨h.size+1,0,O⟩)/\F 10=J (M ⟨g.size,0,O⟩)/\∃r:Nat,r<=10/\F 44=A t r/\g'[g.size]? = M (L ((PP S r).map wv++[]).toArray 221))
    (fun F _=>10-(vi (F 44)).toNat) rfl ⟨hGb,f6,f7,rfl,0,by omega,rfl,hxG⟩ ?_
   clear f2 f6 f7 f31 hxG hGb G F;rintro F g1 ⟨b1,f6,f7,f10,r,hr,f44,UO⟩;by_cases L9:r<10
   .have Zke:(r:Int)<10:=by omega
    obtain⟨wr,lr⟩:=kD wS r;rw[gH]at lr;simp +contextual -implicitDefEqProofs only[go_sem,f44,Zke];refine VS.Yq (fun F g'=>Zk g.size g g'/\F 6=J (M ⟨h.size,0,O⟩)/\F 7=J (M ⟨h.size+1,0,O⟩)/\F 10=J (M ⟨g.size,0,O⟩)/\F 44=A t r/\∃i:Nat,i<=4/\F 46=A t i/\g'[g.size]? = M (L ((gG (PP S r) i).map wv++[]).toArray 221))
     (fun F _=>4-(vi (F 46)).toNat) rfl ⟨b1,f6,f7,f10,f44,0,by omega,rfl,UO⟩ ?_
    clear f6 f7 f10 f44 b1 UO F g1;rintro F g1 ⟨b1,f6,f7,f10,f44,i,hi,f46,UO⟩;by_cases om:i<4
    .have Zkf:(i:Int)<4:=by omega
     obtain⟨wc,lc⟩:=Cx wr i;rw[lr]at lc;have t1:(4:Int)+i=((4+i:Nat):Int):=by omega
     have t2:(8:Int)+i=((8+i:Nat):Int):=by omega
     have t3:(12:Int)+i=((12+i:Nat):Int):=by omega
     simp +contextual -implicitDefEqProofs only[go_sem,f10,f46,Zkf,t1,t2,t3];refine (Gf T g1 g.size _ i (4+i) (8+i) (12+i) lc wc (by omega) (by omega) (by omega) (by omega) UO).use ?_;rintro _ _ rfl;simp +contextual -implicitDefEqProofs only[go_sem,f46];refine⟨⟨b1.Zu (Y _) _,f6,f7,f10,f44,i+1,om,rfl,?_⟩,?_⟩
     .exact Yd UO
     .simp only[vi,Zt,↓reduceIte,f46];omega
    .have Zkg:¬(i:Int)<4:=by omega
     obtain rfl:i=4:=by omega
     obtain⟨wc,lc⟩:=Cx wr 4;rw[lr]at lc;simp +contextual -implicitDefEqProofs only[go_sem,f46,Zkg];refine VS.Yq (fun F g'=>Zk g.size g g'/\F 6=J (M ⟨h.size,0,O⟩)/\F 7=J (M ⟨h.size+1,0,O⟩)/\F 10=J (M ⟨g.size,0,O⟩)/\F 44=A t r/\∃i:Nat,i<=4/\F 58=A t i/\g'[g.size]? = M (L ((diags (gG (PP S r) 4) i).map wv++[]).toArray 221))
      (fun F _=>4-(vi (F 58)).toNat) rfl ⟨b1,f6,f7,f10,f44,0,by omega,rfl,UO⟩ ?_
     clear f6 f7 f10 f44 f46 om Zkg hi b1 UO F g1;rintro F g1 ⟨b1,f6,f7,f10,f44,i,hi,f58,UO⟩;by_cases oq:i<4
     .have E6:(i:Int)<4:=by omega
      obtain⟨wd,ld⟩:=AT wc i;rw[lc]at ld;have t1:(4:Int)+((i:Int)+1).tmod 4=((4+(i+1)%4:Nat):Int):=by
       have:((i:Int)+1).tmod 4=(((i+1)%4:Nat):Int):=rfl;omega
      have t2:(8:Int)+((i:Int)+2).tmod 4=((8+(i+2)%4:Nat):Int):=by
       have:((i:Int)+2).tmod 4=(((i+2)%4:Nat):Int):=rfl;omega
      have t3:(12:Int)+((i:Int)+3).tmod 4=((12+(i+3)%4:Nat):Int):=by
       have:((i:Int)+3).tmod 4=(((i+3)%4:Nat):Int):=rfl;omega
      have m1:((i:Int)+1).tmod 4=(((i+1)%4:Nat):Int):=rfl;have m2:((i:Int)+2).tmod 4=(((i+2)%4:Nat):Int):=rfl;have m3:((i:Int)+3).tmod 4=(((i+3)%4:Nat):Int):=rfl;rw[m1]at t1;rw[m2]at t2;rw[m3]at t3;have k1:(i+1)%4<4:=aw _ (by decide);have k2:(i+2)%4<4:=aw _ (by decide);have k3:(i+3)%4<4:=aw _ (by decide);simp +contextual -implicitDefEqProofs only[go_sem,f10,f58,E6,m1,m2,m3,t1,t2,t3];refine (Gf T g1 g.size _ i (4+(i+1)%4) (8+(i+2)%4) (12+(i+3)%4) ld wd (by omega) (by omega) (by omega) (by omega) UO).use ?_;rintro _ _ rfl;simp +contextual -implicitDefEqProofs only[go_sem,f58];refine⟨⟨b1.Zu (Y _) _,f6,f7,f10,f44,i+1,oq,rfl,?_⟩,?_⟩
      .exact Yd UO
      .simp only[vi,Zt,↓reduceIte,f58];omega
     .have Zga:¬(i:Int)<4:=by omega
      obtain rfl:i=4:=by omega
      simp +contextual -implicitDefEqProofs only[go_sem,f44,f58,Zga];refine⟨⟨b1,f6,f7,f10,r+1,L9,rfl,UO⟩,?_⟩;simp only[vi,Zt,↓reduceIte,f44];omega
   .have Zcd:¬(r:Int)<10:=by omega
    obtain rfl:r=10:=by omega
    obtain⟨wr,lr⟩:=kD wS 10;rw[gH]at lr;have hxs:=b1.get PQ hx;have z0:h.size+1<g.size:=PQ;have z1:=Za UO;simp +contextual -implicitDefEqProofs only[go_sem,f44,Zcd];obtain⟨X,hX⟩:=ZP (Ek (PP S 10) S);have ov:(D X)=64:=by rw[hX];simp[Ek]
    have hXZ:(D X)=(U 64 0).length:=by rw[ov];rfl
    refine VS.Yq (fun F g'=>Zk g1.size g1 g'/\F 6=J (M ⟨h.size,0,O⟩)/\F 7=J (M ⟨h.size+1,0,O⟩)/\F 10=J (M ⟨g.size,0,O⟩)/\F 13=J (M ⟨g1.size,0,O⟩)/\∃i:Nat,i<=16/\F 77=A t i/\g'[g1.size]? = M (L ((X.take (4*i)++(U 64 0).drop (4*i)).map bv++[]).toArray 201))
     (fun F _=>16-(vi (F 77)).toNat) rfl ⟨Zk.push (Y _) _,f6,f7,f10,rfl,0,by omega,rfl,?_⟩ ?_
    .exact Zd
    clear f6 f7 f10 f44 Zcd hr L9 F;rintro F g2 ⟨b2,f6,f7,f10,f13,i,hi,f77,NX⟩;by_cases gI:i<16
    .have wC:(i:Int)<16:=by omega
     have u1:=Z7 (b2.get (by omega) hxs) (i:=i) (by omega);have u2:=Z7 (b2.get z1 UO) (i:=i) (by omega);have v1:=wS.getD i;have v2:=wr.getD i;have e1:((PP S 10).getD i 0+S.getD i 0:Int)%4294967296=(((PP S 10).getD i 0+S.getD i 0)%4294967296:Nat):=by omega
     unfold wv at u1 u2;obtain⟨n,Nq⟩:=ZP (((PP S 10).getD i 0+S.getD i 0)%4294967296);have Zsc:n<4294967296:=by omega
     rw[<-Nq]at e1;have x0:X.getD (4*i) 0=n%256:=by have:=OL (PP S 10) S i 0 gI (by omega);rw[show (256:Nat) ^ 0=1 from rfl,Nat.div_one]at this;rw[hX,Nq];exact this
     have x1:X.getD (4*i+1) 0=n/256%256:=by have:=OL (PP S 10) S i 1 gI (by omega);rw[show (256:Nat) ^ 1=256 from rfl]at this;rw[hX,Nq];exact this
     have x2:X.getD (4*i+2) 0=n/65536%256:=by have:=OL (PP S 10) S i 2 gI (by omega);rw[show (256:Nat) ^ 2=65536 from rfl]at this;rw[hX,Nq];exact this
     have x3:X.getD (4*i+3) 0=n/16777216%256:=by have:=OL (PP S 10) S i 3 gI (by omega);rw[show (256:Nat) ^ 3=16777216 from rfl]at this;rw[hX,Nq];exact this
     have t0:(4*(i:Int)).toNat=4*i:=by omega
     have t1:(4*(i:Int)+1).toNat=4*i+1:=by omega
     have t2:(4*(i:Int)+2).toNat=4*i+2:=by omega
     have t3:(4*(i:Int)+3).toNat=4*i+3:=by omega
     have s0:(n:Int)%256=((n%256:Nat):Int):=by omega
     have s1:Jc H (n:Int) 8%256=((n/256%256:Nat):Int):=by rw[show (8:Int)=((8:Nat):Int) from rfl,Wy n 8 (by omega)];omega
     have s2:Jc H (n:Int) 16%256=((n/65536%256:Nat):Int):=by rw[show (16:Int)=((16:Nat):Int) from rfl,Wy n 16 (by omega)];omega
     have s3:Jc H (n:Int) 24%256=((n/16777216%256:Nat):Int):=by rw[show (24:Int)=((24:Nat):Int) from rfl,Wy n 24 (by omega)];omega
     rw[<-x0]at s0;rw[<-x1]at s1;rw[<-x2]at s2;rw[<-x3]at s3;simp +contextual -implicitDefEqProofs only[go_sem,f7,f10,f77,wC];refine VS.q mixed (by kernel_rfl) ?_;have xl:∀k,k<=64->(X.take k++(U 64 0).drop k).length=64:=fun k hk=>by rw[TQ _ _ _ (by omega) hXZ,ov]
     have c0:QF g2 ⟨g1.size,4*i,O⟩ (A .u8 (X.getD (4*i) 0:Nat))=_:=Yz (f:=bv) NX (i:=4*i) (by rw[xl _ (by omega)];omega) _ rfl;rw[QN X _ (4*i) (by omega) hXZ]at c0;have c1:QF _ ⟨g1.size,4*i+1,O⟩ (A .u8 (X.getD (4*i+1) 0:Nat))=_:=Yz (f:=bv) (Yd (o:=L ((X.take (4*i+1)++(U 64 0).drop (4*i+1)).map bv++[]).toArray 201) NX) (i:=4*i+1) (by rw[xl _ (by omega)];omega) _ rfl;rw[QN X _ (4*i+1) (by omega) hXZ,set_set]at c1;have c2:QF _ ⟨g1.size,4*i+2,O⟩ (A .u8 (X.getD (4*i+2) 0:Nat))=_:=Yz (f:=bv) (Yd (o:=L ((X.take (4*i+2)++(U 64 0).drop (4*i+2)).map bv++[]).toArray 201) NX) (i:=4*i+2) (by rw[xl _ (by omega)];omega) _ rfl;rw[QN X _ (4*i+2) (by omega) hXZ,set_set]at c2;have c3:QF _ ⟨g1.size,4*i+3,O⟩ (A .u8 (X.getD (4*i+3) 0:Nat))=_:=Yz (f:=bv) (Yd (o:=L ((X.take (4*i+3)++(U 64 0).drop (4*i+3)).map bv++[]).toArray 201) NX) (i:=4*i+3) (by rw[xl _ (by omega)];omega) _ rfl;rw[QN X _ (4*i+3) (by omega) hXZ,set_set]at c3;simp +contextual -implicitDefEqProofs only[go_sem,f7,f10,f13,f77,u1,u2,e1,t0,t1,t2,t3,s0,s1,s2,s3,c0,c1,c2,c3];refine⟨⟨b2.Zu (Y _) _,f6,f7,f10,f13,i+1,gI,rfl,?_⟩,?_⟩
     .exact Yd NX
     .simp only[vi,Zt,↓reduceIte,f77];omega
    .have Zce:¬(i:Int)<16:=by omega
     obtain rfl:i=16:=by omega
     have e64:X.take (4*16)++(U 64 0).drop (4*16)=X:=by
      have:=LX X (U 64 0) hXZ;rw[ov]at this;exact this
     rw[e64,List.append_nil]at NX;have Gm:(X.map bv).length=64:=by simp[ov]
     have tk:=Ji Gm;have y1:=ZA (n:=64) NX Gm;have y0:(h.push (L ((U 64 0).map bv).toArray 201))[h.size]? = M (L ((U 64 0).map bv).toArray 201):=Zd;have y2:=b2.get (by omega) (b1.get (by omega) (hg.get (by omega) y0));have y3:=Yh y2 0 (X.map bv);rw[Yb (by simp[ov]),if_pos ⟨by simp[ov],Ru X⟩]at y3;have z2:h.size<g2.size:=Za y2;have hB:Zk h.size h g2:=((Zk.push (Y _) _).trans (hg.mono (by omega))).trans ((b1.mono (by omega)).trans (b2.mono (by omega)));have hbx:Jm key IS ZD=X:=by rw[hX,hS];rfl
     rw[hbx];simp +contextual -implicitDefEqProofs only[go_sem,f6,f13,f77,Zce,y1,y3,Gm,tk,z2];exact hB.Zu (Y _) _
def JJ(key:List Nat)(k:Int)(ZD:List Nat):Int:=if (D key)≠32\/(D ZD)≠12 then 1 else if k<0\/1073741824<k then 2 else 0
def AV(B:Nat)(h':Hp)(v':Z)(key:List Nat)(k:Int)(ZD:List Nat):Prop:=∃w,v'=.tuple [w,A t (JJ key k ZD)].toArray/\YB B 5 h' w (if JJ key k ZD=0 then Jm key k.toNat ZD else [])
theorem wE(h:Hp)(v u:Z)(key ZD:List Nat)(k:Int)(sk:Bs h v key)(sn:Bs h u ZD)(ck:Pj v)(cn:Pj u):
  Zg al T 115 #[v,A t k,u] h fun v' h'=>AV h.size h' v' key k ZD/\Zk h.size h h':=by
 obtain⟨p,c,rfl,_⟩:=sk.open;obtain⟨q,d,rfl,_⟩:=sn.open;refine Zg.XK [_,_,_] Tryz.func115 ?_;unfold AV;simp +contextual -implicitDefEqProofs only[go_sem];refine (KU T _ _ _ _ _ _ _ _).pure ?_;rw[show (if (D key)≠32\/(D ZD)≠12 then (1:Int) else if k<0\/1073741824<k then 2 else 0)=JJ key k ZD from rfl];by_cases e:JJ key k ZD=0
 .have hb:(D key)=32/\(D ZD)=12/\0<=k/\k<=1073741824:=by
   unfold JJ at e
   repeat' split at e
   all_goals first|omega|cases e
  obtain⟨hk,hn,k0,k1⟩:=hb;obtain⟨m,rfl⟩:∃m:Nat,k=m:=⟨k.toNat,mD⟩
  have m1:(m:Int)%4294967296=(m:Int):=mD;simp +contextual -implicitDefEqProofs only[go_sem,e,m1];refine (MU T _ _ _ key ZD m sk sn hk hn mD ck cn).use ?_;rintro _ h1 ⟨rfl,b1⟩;have Gm:((Jm key m ZD).map bv).length=64:=by simp[Jm,Ek]
  have X1:=Ru (Jm key m ZD);have ZDU:Xd ((U 64 0).map bv) 0 ((Jm key m ZD).map bv)=(Jm key m ZD).map bv:=Yb (by rw[Gm];simp);have hsm:∀x∈Jm key m ZD,x<256:=Gl _ _;have sX:(Jm key m ZD).length=64:=by simpa using Gm
  generalize Jm key m ZD=X at *;simp +contextual -implicitDefEqProofs only[go_sem,Gm,X1,Yb];have Zsd:Bs (h1.push (L (X.map bv).toArray 201)) (N (M ⟨h1.size,0,O⟩) 64 64) X:=by
   have:=Bs.made (h:=h1) (E:=201) hsm 64;rw[sX]at this;exact this
  have b1s:=b1.size;refine ZR (E:=5) (B:=h.size) Xn bc TX SN SM (YB.nil _ _ _) vI Zsd (by simp[sX]) ?_;intro v' h' NP JU _;simp +contextual -implicitDefEqProofs only[go_sem];exact⟨⟨_,rfl,by simpa using NP⟩,(b1.Y1 b1s _).trans JU⟩
 .simp +contextual -implicitDefEqProofs only[go_sem,e];exact⟨_,rfl,YB.nil _ _ _⟩
def N0(key:List Nat):List Nat:=if 64<(D key) then TC key else key
theorem TZ(key:List Nat):(N0 key).length<=64:=by
 unfold N0;split
 .rw[QM];omega
 .omega
theorem oy{key:List Nat}(h:Nb key):Nb (N0 key):=by
 unfold N0;split
 .exact nZ _
 .exact h
def VA(key:List Nat):List Nat:=N0 key++U (64-(N0 key).length) 0
theorem Qd(key:List Nat):(VA key).length=64:=by
 have:=TZ key;simp[VA];omega
theorem Ka{key:List Nat}(h:Nb key):Nb (VA key):=by
 intro x hx;simp only[VA,an,List.mem_replicate]at hx;rcases hx with hx|⟨_,rfl⟩
 .exact oy h x hx
 .omega
def TD(key:List Nat)(w:Nat):List Nat:=(VA key).map (· ^^^ w)
theorem Yy(key:List Nat)(w:Nat):(TD key w).length=64:=by simp[TD,Qd]
theorem E7{key:List Nat}(h:Nb key){w:Nat}(hw:w<256):Nb (TD key w):=by
 intro x hx;obtain⟨y,hy,rfl⟩:=bd.1 hx;exact Zsb (Ka h y hy) hw
theorem E8(key:List Nat)(w:Nat){i:Nat}(hi:i<64):(TD key w).getD i 0=(VA key).getD i 0 ^^^ w:=by
 rw[Q,Q,TD,a9,W (by rw[Qd];exact hi)];rfl
def Kb(key b:List Nat):List Nat:=TC (TD key 92++TC (TD key 54++b))
theorem T3(key b:List Nat):(Kb key b).length=32:=QM _
def Nu(key info:List Nat):Nat->List Nat
 | 0=>[]
 | i+1=>Kb key (Nu key info i++info++[(i+1)%256])
def T4(key info:List Nat):Nat->List Nat
 | 0=>[]
 | i+1=>T4 key info i++Nu key info (i+1)
theorem RC(key info:List Nat)(i:Nat):(Nu key info (i+1)).length=32:=T3 _ _
theorem wF(key info:List Nat):∀i,(Nu key info i).length<=32
 | 0=>Nat.zero_le _
 | i+1=>Nat.le_of_eq (RC key info i)
theorem VB(key info:List Nat):∀i,(T4 key info i).length=32*i
 | 0=>rfl
 | i+1=>by rw[T4,aI,VB key info i,RC];omega
theorem Gn(key info:List Nat)(n:Nat):∀(i j:Nat),n<=32*i->i<=j->(T4 key info j).take n=(T4 key info i).take n
 | i,0,h,hj=>by
  obtain rfl:i=0:=mD;rfl
 | i,j+1,h,hj=>by
  by_cases e:i=j+1
  .rw[e]
  .rw[T4,List.take_append_of_le_length (by rw[VB];omega)];exact Gn key info n i j h mD
def Gp(JE TE info:List Nat)(n:Nat):List Nat:=(T4 (Kb TE JE) info 16).take n
theorem MV(JE TE info:List Nat){n:Nat}(hn:n<=512):(Gp JE TE info n).length=n:=by
 rw[Gp,bf,VB];omega
def Gq(k n a b:Int)(d:Z):List Z:=[A t k,A t n,A t a,A t b,d]
def YP(k:Int):List (Nat × Int):=
 if k=1\/k=2\/k=3\/k=9 then [(1,4)] else if k=4\/k=5\/k=6 then [(2,1048576)] else if k=8 then [(1,4),(3,100000)] else []
def PS(b:Nat)(x:Nat × Int):List Z:=[J (M ⟨b,x.1,O⟩),A t x.2]
set_option maxHeartbeats 2000000 in
theorem AW(h:Hp)(b:Nat)(k n a c:Int)(d:Z)(hb:h[b]? = M (L (Gq k n a c d).toArray 36)):
  Zg al T 21 #[J (M ⟨b,0,O⟩)] h fun v' h'=>∃w,v'=.tuple [w,.bool (decide (1<=k/\k<=9))].toArray/\Qw h.size 91 (PS b) 2 h' w (YP k)/\Zk h.size h h':=by
 refine Zg.XK [_] Tryz.func21 ?_;have b0:=Za hb;have x0:hc h ⟨b,0,O⟩=M (A t k):=by rw[Zn hb];rfl
 simp +contextual -implicitDefEqProofs (maxSteps:=2000000) only[go_sem];refine VS.z (h.size) [11] (.p 0 (.p 1 (.p 2 (.p 3 (.p 4 (.p 5 (.p 6 (.p 7 (.or 8 (.s 9 (.s 10 (.w 11 .nil))) (.s 9 (.s 8 (.s 10 (.w 11 .nil))))))))))))) mixed sV ?_;unfold YP;have one:∀(g:Hp) (x:Nat × Int),h.size+2=g.size->Qw h.size 91 (PS b) 2 (g.push (L [J (M ⟨b,x.1,O⟩),A t x.2].toArray 91)) (N (M ⟨h.size+2,0,O⟩) 1 1) [x]:=fun g x e=>by rw[e];exact Qw.one (enc:=PS b) x (fun _=>rfl) mD
 have two:∀(g:Hp),h.size+2=g.size->Qw h.size 91 (PS b) 2 (g.push (L [J (M ⟨b,1,O⟩),A t 4,J (M ⟨b,3,O⟩),A t 100000].toArray 91)) (N (M ⟨h.size+2,0,O⟩) 2 2) [(1,4),(3,100000)]:=fun g e=>by rw[e];exact Qw.made (enc:=PS b) (fun _=>rfl) [(1,4),(3,100000)] mD
 by_cases k1:k=1
 .have hk:decide (1<=k/\k<=9)=true:=by rw[decide_eq_true_eq];omega
  simp +contextual -implicitDefEqProofs (maxSteps:=2000000) only[go_sem,x0,k1];refine⟨⟨_,rfl,one _ (1,4) sW,?_⟩,⟨_,rfl,one _ (1,4) sW,?_⟩⟩<;>(repeat' (first|exact Zk.refl _ _|assumption|refine Zk.add ?_ _|refine Zk.Zu ?_ IX _|refine Zk.trans KO ?_))
 ·
  by_cases k2:k=2
  .have hk:decide (1<=k/\k<=9)=true:=by rw[decide_eq_true_eq];omega
   simp +contextual -implicitDefEqProofs (maxSteps:=2000000) only[go_sem,x0,k2];refine⟨⟨_,rfl,one _ (1,4) sW,?_⟩,⟨_,rfl,one _ (1,4) sW,?_⟩⟩<;>(repeat' (first|exact Zk.refl _ _|assumption|refine Zk.add ?_ _|refine Zk.Zu ?_ IX _|refine Zk.trans KO ?_))
  ·
   by_cases k3:k=3
   .have hk:decide (1<=k/\k<=9)=true:=by rw[decide_eq_true_eq];omega
    simp +contextual -implicitDefEqProofs (maxSteps:=2000000) only[go_sem,x0,k3];refine⟨⟨_,rfl,one _ (1,4) sW,?_⟩,⟨_,rfl,one _ (1,4) sW,?_⟩⟩<;>(repeat' (first|exact Zk.refl _ _|assumption|refine Zk.add ?_ _|refine Zk.Zu ?_ IX _|refine Zk.trans KO ?_))
   ·
    by_cases k9:k=9
    .have hk:decide (1<=k/\k<=9)=true:=by rw[decide_eq_true_eq];omega
     simp +contextual -implicitDefEqProofs (maxSteps:=2000000) only[go_sem,x0,k9];refine⟨⟨_,rfl,one _ (1,4) sW,?_⟩,⟨_,rfl,one _ (1,4) sW,?_⟩⟩<;>(repeat' (first|exact Zk.refl _ _|assumption|refine Zk.add ?_ _|refine Zk.Zu ?_ IX _|refine Zk.trans KO ?_))
    ·
     by_cases k4:k=4
     .have hk:decide (1<=k/\k<=9)=true:=by rw[decide_eq_true_eq];omega
      simp +contextual -implicitDefEqProofs (maxSteps:=2000000) only[go_sem,x0,k4];refine⟨⟨_,rfl,one _ (2,1048576) sW,?_⟩,⟨_,rfl,one _ (2,1048576) sW,?_⟩⟩<;>(repeat' (first|exact Zk.refl _ _|assumption|refine Zk.add ?_ _|refine Zk.Zu ?_ IX _|refine Zk.trans KO ?_))
     ·
      by_cases k5:k=5
      .have hk:decide (1<=k/\k<=9)=true:=by rw[decide_eq_true_eq];omega
       simp +contextual -implicitDefEqProofs (maxSteps:=2000000) only[go_sem,x0,k5];refine⟨⟨_,rfl,one _ (2,1048576) sW,?_⟩,⟨_,rfl,one _ (2,1048576) sW,?_⟩⟩<;>(repeat' (first|exact Zk.refl _ _|assumption|refine Zk.add ?_ _|refine Zk.Zu ?_ IX _|refine Zk.trans KO ?_))
      ·
       by_cases k6:k=6
       .have hk:decide (1<=k/\k<=9)=true:=by rw[decide_eq_true_eq];omega
        simp +contextual -implicitDefEqProofs (maxSteps:=2000000) only[go_sem,x0,k6];refine⟨⟨_,rfl,one _ (2,1048576) sW,?_⟩,⟨_,rfl,one _ (2,1048576) sW,?_⟩⟩<;>(repeat' (first|exact Zk.refl _ _|assumption|refine Zk.add ?_ _|refine Zk.Zu ?_ IX _|refine Zk.trans KO ?_))
       ·
        by_cases k7:k=7
        .have hk:decide (1<=k/\k<=9)=true:=by rw[decide_eq_true_eq];omega
         simp +contextual -implicitDefEqProofs (maxSteps:=2000000) only[go_sem,x0,k7];exact⟨⟨_,rfl,Qw.nil _ _ _ _ _⟩,⟨_,rfl,Qw.nil _ _ _ _ _⟩⟩
        ·
         by_cases k8:k=8
         .have hk:decide (1<=k/\k<=9)=true:=by rw[decide_eq_true_eq];omega
          simp +contextual -implicitDefEqProofs (maxSteps:=2000000) only[go_sem,x0,k8];refine⟨?_,?_⟩
          .refine VS.z (h.size+2) [] (.q 0 (.p 1 (.p 2 (.p 3 (.p 4 (.s 5 (.p 6 (.p 7 .nil)))))))) mixed sV ?_;simp +contextual -implicitDefEqProofs (maxSteps:=2000000) only[go_sem];refine⟨(Zk.refl _ _).Y1 sW _,_,rfl,two _ sW,?_⟩
           (repeat' (first|exact Zk.refl _ _|assumption|refine Zk.add ?_ _|refine Zk.Zu ?_ IX _|refine Zk.trans KO ?_))
          .refine VS.z (h.size+2) [] (.q 0 (.p 1 (.p 2 (.p 3 (.p 4 (.s 5 (.p 6 (.p 7 .nil)))))))) mixed sV ?_;simp +contextual -implicitDefEqProofs (maxSteps:=2000000) only[go_sem];refine⟨(Zk.refl _ _).Y1 sW _,_,rfl,two _ sW,?_⟩
           (repeat' (first|exact Zk.refl _ _|assumption|refine Zk.add ?_ _|refine Zk.Zu ?_ IX _|refine Zk.trans KO ?_))
         ·
          have hk:¬(1<=k/\k<=9):=mD;simp +contextual -implicitDefEqProofs (maxSteps:=2000000) only[go_sem,x0,k1,k2,k3,k9,k4,k5,k6,k7,k8,hk];exact⟨⟨_,rfl,Qw.nil _ _ _ _ _⟩,⟨_,rfl,Qw.nil _ _ _ _ _⟩⟩
def Xx(k:Int):Prop:=k=1\/k=2\/k=3\/k=9\/k=8
def Qs(k:Int):Prop:=4<=k/\k<=6
instance (k:Int):Decidable (Xx k):=by unfold Xx;infer_instance
instance (k:Int):Decidable (Qs k):=by unfold Qs;infer_instance
def Us(k n a b:Int)(len:Nat):Int:=
 if ¬(1<=k/\k<=9) then 4 else
 if (Xx k/\¬(0<=n/\n<=4))\/(Qs k/\¬(0<=a/\a<=1048576))\/(k=8/\¬(0<=b/\b<=100000)) then 2 else
 if 2000<len then 1 else
 if (¬Xx k/\n≠0)\/(¬Qs k/\a≠0)\/(k≠8/\b≠0)\/(k≠1/\0<len) then 3 else 0
def Si(k n a b:Int)(p:Nat):Int:=[k,n,a,b].getD p 0
def Sj(k n a b:Int)(x:Nat × Int):Prop:=0<=Si k n a b x.1/\Si k n a b x.1<=x.2
theorem KV{k:Int}:∀x∈YP k,x.1<4/\0<x.1:=by
 intro x hx;unfold YP at hx
 repeat' split at hx
 all_goals simp at hx
 all_goals rcases hx with rfl|rfl<;>simp
theorem oB(k:Int):(YP k).length<=2:=by
 unfold YP
 repeat' split
 all_goals simp
theorem E9{k n a b:Int}{len:Nat}(h1:1<=k/\k<=9){x:Nat × Int}(hx:x∈YP k)(hb:¬Sj k n a b x):Us k n a b len=2:=by
 unfold Us;rw[if_neg mD,if_pos];unfold Xx Qs;unfold YP at hx;unfold Sj Si at hb;split at hx
 .simp at hx;subst hx;simp at hb;left;omega
 .split at hx
  .simp at hx;subst hx;simp at hb;right;left;omega
  .split at hx
   .simp at hx;rcases hx with rfl|rfl
    .simp at hb;left;omega
    .simp at hb;right;right;omega
   .cases hx
theorem gJ{k n a b:Int}(hg:∀x∈YP k,Sj k n a b x):¬((Xx k/\¬(0<=n/\n<=4))\/(Qs k/\¬(0<=a/\a<=1048576))\/(k=8/\¬(0<=b/\b<=100000))):=by
 unfold Xx Qs;unfold YP at hg;split at hg
 .have:=hg (1,4) sW;simp[Sj,Si]at this;omega
 .split at hg
  .have:=hg (2,1048576) sW;simp[Sj,Si]at this;omega
  .split at hg
   .have:=hg (1,4) sW;have h2:=hg (3,100000) sW;simp[Sj,Si]at this h2;omega
   .omega
def RD(xs:List (Nat × Int))(cs:List Z):List Z:=xs.foldl (fun cs x=>cs.set x.1 (A t 0)) cs
theorem AX(xs:List (Nat × Int))(x:Nat × Int)(cs:List Z):RD (xs++[x]) cs=(RD xs cs).set x.1 (A t 0):=by simp[RD]
theorem El(xs:List (Nat × Int)):∀cs,(RD xs cs).length=(D cs):=by
 induction xs with
 | nil=>intro cs;rfl
 | cons x xs ih=>intro cs;simp only[RD,List.foldl_cons]at *;rw[ih];simp
theorem gK{k n a b:Int}{d:Z}(h1:1<=k/\k<=9):RD (YP k) (Gq k n a b d)=Gq k (if Xx k then 0 else n) (if Qs k then 0 else a) (if k=8 then 0 else b) d:=by
 unfold YP;split
 .rw[if_pos (by unfold Xx;omega),if_neg (by unfold Qs;omega),if_neg mD];rfl
 .split
  .rw[if_neg (by unfold Xx;omega),if_pos (by unfold Qs;omega),if_neg mD];rfl
  .split
   .rw[if_pos (by unfold Xx;omega),if_neg (by unfold Qs;omega)];rfl
   .rw[if_neg (by unfold Xx;omega),if_neg (by unfold Qs;omega)];rfl
theorem gL(k n a b:Int)(d:Z)(p:Nat)(hp:p<4):nth (Gq k n a b d) p=M (A t (Si k n a b p)):=by
 rcases p with _|_|_|_|p<;>first|rfl|omega
theorem Em(h:Hp)(k n a b:Int)(p:Option Addr)(len c:Nat):
  Zg al T 15 #[aa (Gq k n a b (N p len c)).toArray] h fun v' h'=>v'=A t (Us k n a b len)/\Zk h.size h h':=by
 refine Zg.XK [_] Tryz.func15 ?_;unfold Gq;simp +contextual -implicitDefEqProofs only[go_sem];refine (AW T _ h.size k n a b (N p len c) Zd).use ?_;rintro _ h1 ⟨w,rfl,hw,b1⟩;have hlen:=oB k;by_cases hk:1<=k/\k<=9
 .obtain⟨pw,cw,rfl,XH⟩:=Qw.Zjs (enc:=PS h.size) (n:=2) (fun _=>rfl) KC hw;have x0:h1[h.size]? = M (L (Gq k n a b (N p len c)).toArray 36):=b1.get sW Zd;have z1:=Za x0;have WC:Zk h.size h h1:=((Zk.refl h.size h).add _).trans (b1.mono sW);simp +contextual -implicitDefEqProofs only[go_sem,hk];refine VS.Yq (fun F g=>Zk h1.size h1 g/\F 1=J (M ⟨h.size,0,O⟩)/\F 3=N pw (YP k).length cw/\F 15=N pw (YP k).length cw/\F 16=A t (YP k).length/\∃i:Nat,i<=(YP k).length/\F 17=A t i/\∀x∈(YP k).take i,Sj k n a b x)
   (fun F _=>(YP k).length-(vi (F 17)).toNat) rfl ⟨Zk.refl _ _,rfl,rfl,rfl,rfl,0,mD,rfl,fun x hx=>by cases hx⟩ ?_
  rintro F g ⟨hg,f1,f3,f15,f16,i,hi,f17,XT⟩;have PQ:=hg.size;by_cases ZV:i<(YP k).length
  .have Z4:(i:Int)<(YP k).length:=mD;obtain⟨bb,oo,rfl,Ha,Tu,XH⟩:=XH (by intro e;rw[e]at ZV;simp at ZV);have hx:=bg ZV;have hsm:=KV _ hx;have r1:=((XH i ZV).YJ hg Tu).rd (by simp[PS]) (m:=2) rfl;obtain⟨x,hxe⟩:=ZP ((YP k)[i]);rw[<-hxe]at hx hsm r1;have v1:hc g ⟨h.size,x.1,O⟩=M (A t (Si k n a b x.1)):=by
    rw[hg.hc z1,Zn x0,gL _ _ _ _ _ _ hsm.1]
   unfold PS at r1;simp +contextual -implicitDefEqProofs only[go_sem,f1,f15,f16,f17,Z4,r1];refine VS.q mixed sV ?_;by_cases c1:Si k n a b x.1<0
   .have e:=E9 (len:=len) hk hx (n:=n) (a:=a) (b:=b) (by unfold Sj;omega);simp +contextual -implicitDefEqProofs only[go_sem,v1,c1,e];exact WC.trans ((hg.mono mD).Y1 mD _)
   .by_cases c2:x.2<Si k n a b x.1
    .have e:=E9 (len:=len) hk hx (n:=n) (a:=a) (b:=b) (by unfold Sj;omega);simp +contextual -implicitDefEqProofs only[go_sem,v1,c1,c2,e];exact WC.trans ((hg.mono mD).Y1 mD _)
    .simp +contextual -implicitDefEqProofs only[go_sem,f1,f3,f15,f16,f17,v1,c1,c2];refine⟨⟨hg.Y1 mD _,f1,f3,f15,f16,i+1,mD,rfl,fun y hy=>?_⟩,?_⟩
     .rw[Y0 _ i ZV]at hy;rcases an.1 hy with hy|hy
      .exact XT y hy
      .simp at hy;rw[hy,<-hxe];unfold Sj;omega
     .simp only[vi,Zt,↓reduceIte,f17];omega
  .have Xw:¬(i:Int)<(YP k).length:=mD;obtain rfl:i=(YP k).length:=mD;rw[bh]at XT;have RE:=gJ XT;have x0g:=hg.get z1 x0;have y4:hc g ⟨h.size,4,O⟩=M (N p len c):=by rw[Zn x0g];rfl
   have Cz:Zk h.size h g:=WC.trans (hg.mono mD);by_cases c1:2000<len
   .have c1':2000<(len:Int):=mD;have e:Us k n a b len=1:=by unfold Us;rw[if_neg mD,if_neg RE,if_pos c1]
    simp +contextual -implicitDefEqProofs only[go_sem,f1,f3,f15,f16,f17,Xw,y4,c1',e,Cz]
   .have c1':¬2000<(len:Int):=mD;simp +contextual -implicitDefEqProofs only[go_sem,f1,f3,f15,f16,f17,Xw,y4,c1'];have xg:g[h.size]? = M (L (RD ((YP k).take 0) (Gq k n a b (N p len c))).toArray 36):=x0g;clear y4 XT hi ZV Xw;refine VS.Yq (fun F g'=>Zk h.size h g'/\(∀q,q≠h.size->q<h1.size->g'[q]? = h1[q]?)/\h1.size<=g'.size/\F 1=J (M ⟨h.size,0,O⟩)/\F 40=N pw (YP k).length cw/\F 41=A t (YP k).length/\∃i:Nat,i<=(YP k).length/\F 42=A t i/\g'[h.size]? = M (L (RD ((YP k).take i) (Gq k n a b (N p len c))).toArray 36))
     (fun F _=>(YP k).length-(vi (F 42)).toNat) rfl ⟨Cz,fun q _ hq=>hg.block q hq,PQ,f1,rfl,rfl,0,Nat.zero_le _,rfl,xg⟩ ?_
    clear xg x0g Cz PQ hg g f1 f3 f15 f16 f17 F;rintro F g ⟨Cz,Zkh,PQ,f1,f40,f41,i,hi,f42,xg⟩;by_cases ZV:i<(YP k).length
    .have Z4:(i:Int)<(YP k).length:=mD;obtain⟨bb,oo,rfl,Ha,Tu,XH⟩:=XH (by intro e;rw[e]at ZV;simp at ZV);have hx:=bg ZV;have hsm:=KV _ hx;have r1:=(XH i ZV).rd (by simp[PS]) (m:=2) rfl;have Zki:bb≠h.size:=by simp at Ha;omega
     obtain⟨x,hxe⟩:=ZP ((YP k)[i]);rw[<-hxe]at hx hsm r1;have r2:rd g ⟨bb,oo+i*2,O⟩ 2=M (PS h.size x):=by
      rw[<-r1];unfold rd;rw[Zkh _ Zki Tu]
     have dH:(RD ((YP k).take i) (Gq k n a b (N p len c))).length=5:=by rw[El];rfl
     have zg:=Za xg;have w1:=Xk xg x.1 (A t 0);rw[if_pos ⟨by rw[dH];omega,rfl⟩]at w1;unfold PS at r2;simp +contextual -implicitDefEqProofs only[go_sem,f1,f40,f41,f42,Z4,r2];rw[w1];simp +contextual -implicitDefEqProofs only[go_sem,f42];refine⟨⟨(Cz.Zu (Y _) _).Y1 vI _,fun q hq hq1=>?_,vI,f1,f40,f41,i+1,mD,rfl,?_⟩,?_⟩
     .rw[au,if_neg vI,R,if_neg (fun e=>hq e.symm)];exact Zkh q hq hq1
     .rw[au,if_neg vI,R,if_pos rfl,if_pos zg,Y0 _ i ZV,AX,<-hxe]
     .simp only[vi,Zt,↓reduceIte,f42];omega
    .have Xw:¬(i:Int)<(YP k).length:=mD;obtain rfl:i=(YP k).length:=mD;rw[bh,gK hk]at xg;have e:Us k n a b len=if (¬Xx k/\n≠0)\/(¬Qs k/\a≠0)\/(k≠8/\b≠0)\/(k≠1/\0<len) then 3 else 0:=by unfold Us;rw[if_neg mD,if_neg RE,if_neg c1]
     rw[e];clear e RE XH hw;obtain⟨n',Nq⟩:=ZP (if Xx k then 0 else n);obtain⟨a',ha'⟩:=ZP (if Qs k then 0 else a);obtain⟨b',JU⟩:=ZP (if k=8 then 0 else b);rw[<-Nq,<-ha',<-JU]at xg;have y0:hc g ⟨h.size,0,O⟩=M (A t k):=by rw[Zn xg];rfl
     have y1:hc g ⟨h.size,1,O⟩=M (A t n'):=by rw[Zn xg];rfl
     have y2:hc g ⟨h.size,2,O⟩=M (A t a'):=by rw[Zn xg];rfl
     have y3:hc g ⟨h.size,3,O⟩=M (A t b'):=by rw[Zn xg];rfl
     have y4:hc g ⟨h.size,4,O⟩=M (N p len c):=by rw[Zn xg];rfl
     have en:(¬Xx k/\n≠0)↔n'≠0:=by rw[Nq];by_cases q:Xx k<;>simp[q]
     have ea:(¬Qs k/\a≠0)↔a'≠0:=by rw[ha'];by_cases q:Qs k<;>simp[q]
     have eb:(k≠8/\b≠0)↔b'≠0:=by rw[JU];by_cases q:k=8<;>simp[q]
     simp only[en,ea,eb];by_cases q1:n'=0
     .by_cases q2:a'=0
      .by_cases q3:b'=0
       .by_cases q4:k=1
        .simp +contextual -implicitDefEqProofs only[go_sem,f1,f40,f41,f42,Xw,y0,y1,y2,y3,q1,q2,q3,q4,Cz]
        .by_cases q5:0<len
         .have q5':0<(len:Int):=mD;simp +contextual -implicitDefEqProofs only[go_sem,f1,f40,f41,f42,Xw,y0,y1,y2,y3,y4,q1,q2,q3,q4,q5,q5',Cz]
         .have q5':¬0<(len:Int):=mD;simp +contextual -implicitDefEqProofs only[go_sem,f1,f40,f41,f42,Xw,y0,y1,y2,y3,y4,q1,q2,q3,q4,q5,q5',Cz]
       .simp +contextual -implicitDefEqProofs only[go_sem,f1,f40,f41,f42,Xw,y0,y1,y2,y3,q1,q2,q3,Cz]
      .simp +contextual -implicitDefEqProofs only[go_sem,f1,f40,f41,f42,Xw,y0,y1,y2,q1,q2,Cz]
     .simp +contextual -implicitDefEqProofs only[go_sem,f1,f40,f41,f42,Xw,y0,y1,q1,Cz]
 .have e:Us k n a b len=4:=by unfold Us;rw[if_pos hk]
  simp +contextual -implicitDefEqProofs only[go_sem,hk,e];exact ((Zk.refl h.size h).add _).trans (b1.mono sW)
end Go.Proofs.YtnhfdnlcpdbjlaaGreatDoor
