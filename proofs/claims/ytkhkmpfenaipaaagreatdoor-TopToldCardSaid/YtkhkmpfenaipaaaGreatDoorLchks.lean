/- Part Lchks. -/
import Derived.Test.YtkhkmpfenaipaaaGreatDoorVst
import Derived.Test.YtkhkmpfenaipaaaGreatDoorW11
import Derived.Test.YtkhkmpfenaipaaaGreatDoorBytes
import Derived.Test.YtkhkmpfenaipaaaGreatDoorW6
import Derived.Test.YtkhkmpfenaipaaaGreatDoorW8
open Go.Value renaming int→A,pointer→J,slice→N,agg→Y
open Go.IntKind renaming i64→t,u32→H
open Go.Obj renaming cells→L
open Go.Proofs.Tryz renaming prog→Z,underlying39→aL
open List renaming length→D,replicate→Q,toArray→aa,length_append→ak,range→aI,length_take→aS,getElem_mem→aW,take_length→aX,length_set→a3,mem_append→a5
open Nat renaming le_refl→U,lt_of_le_of_lt→ae,shiftRight_eq_div_pow→al,mod_eq_of_lt→am,mod_lt→an,testBit_and→aq,mul_mod_mul_right→aw,div_lt_iff_lt_mul→ax,eq_of_testBit_eq→aC,pow_le_pow_right→aF,xor_lt_two_pow→aH,pow_add→a0,or_comm→a1,div_le_self→a2
open Option renaming some→M,none→O
open Array renaming setIfInBounds→R,size_push→a4
open Go renaming Value→W
namespace Go.Proofs.YtkhkmpfenaipaaaGreatDoor
open Go Go.V
set_option linter.all false
set_option maxRecDepth 100000
variable(T:World){b:Nat}{s:List Nat}
def rotl(x n:Nat):Nat:=x*2 ^ n%4294967296+x/2 ^ (32-n)
theorem fB{n:Nat}(a:n<=32):2 ^ (32-n)*2 ^ n=4294967296:=by
 rw[<-a0,show 32-n+n=32 by omega]
theorem qZ{x n:Nat}(a:x<4294967296)(c:n<=32):rotl x n<4294967296:=by
 unfold rotl;have f:x*2 ^ n%4294967296=(x%2 ^ (32-n))*2 ^ n:=by
  rw[<-fB c,aw]
 have g:x/2 ^ (32-n)<2 ^ n:=by
  rw[ax (Nat.pow_pos uh),<-a0,show n+(32-n)=32 by omega];exact a
 have e:x%2 ^ (32-n)<2 ^ (32-n):=an _ (Nat.pow_pos uh);rw[f];have d:(x%2 ^ (32-n)+1)*2 ^ n<=2 ^ (32-n)*2 ^ n:=Nat.mul_le_mul_right _ e;rw[<-a0,show 32-n+n=32 by omega,Nat.add_mul]at d;omega
theorem rh{x n:Nat}(a:x<4294967296)(c:n<=32):x*2 ^ n%4294967296 ||| x/2 ^ (32-n)=rotl x n:=by
 grind [rotl,UT,ax,fB,aw,Nat.mul_mod_left]
theorem FA(x n:Nat)(a:n<=32):XV H (x:Int) (n:Int)=((x*2 ^ n%4294967296:Nat):Int):=by
 rw[au H x n (by show n<=32;omega),Ki];rfl
theorem Vu(x n:Nat)(a:n<=32):Xn H (x:Int) (n:Int)=((x/2 ^ n:Nat):Int):=by
 rw[Mi H x n (by show n<=32;omega),al]
theorem mi(h:Hp)(x n:Nat)(a:x<4294967296)(c:n<=32):
  Zg Z T 131 #[A H x,A t n] h fun e h'=>e=A H (rotl x n:Nat)/\h'=h:=by
 refine Zg.X8 [_,_] Tryz.func131 ?_;have k:=FA x n c;have j:=Vu x (32-n) uh;have i:(32:Int)-n=((32-n:Nat):Int):=uh;have d:=Na (x*2 ^ n%4294967296) (x/2 ^ (32-n)) uh (ae (a2 _ _) a);rw[rh a c]at d;have g:¬(n:Int)<0:=uh;have f:¬((32-n:Nat):Int)<0:=uh;simp +contextual -implicitDefEqProofs only[go_sem];refine VS.q mixed zI ?_;simp +contextual -implicitDefEqProofs only[go_sem,i,k,j,d,g,f]
def wv(x:Nat):W:=A H (x:Nat)
def nv(x:Nat):W:=A t (x:Nat)
def OW(s:List Nat):Prop:=∀x∈s,x<4294967296
theorem OW.getD(w:OW s)(i:Nat):s.getD i 0<4294967296:=by
 rw[List.getD_eq_getElem?_getD]
 cases a:s[i]? with
 | none=>simp
 | some x=>exact w x (List.mem_of_getElem? a)
theorem OW.set(w:OW s)(i:Nat){y:Nat}(c:y<4294967296):OW (s.set i y):=by
 intro x a;rcases List.mem_or_eq_of_mem_set a with h|h
 .exact w x h
 grind
theorem Yk{f:Nat->W}{g:Hp}{E:TypeId}{sp:List W}(a:g[b]? = M (L (s.map f++sp).toArray E)){i:Nat}(hi:i<(D s)):hc g ⟨b,i,O⟩=M (f (s.getD i 0)):=by
 grind [hc]
theorem YN{f:Nat->W}{g:Hp}{E:TypeId}{sp:List W}(a:g[b]? = M (L (s.map f++sp).toArray E)){i:Nat}(hi:i<(D s))(y:Nat)(c:YV (f y)=true):
  Uf g ⟨b,i,O⟩ (f y)=M (R g b (L ((s.set i y).map f++sp).toArray E)):=by
 grind [Uf,List.map_set]
theorem YB{g:Hp}{o a:Obj}(c:g[b]? = M a):(R g b o)[b]? = M o:=by
 grind
theorem VI{g:Hp}{o:Obj}(a:g[b]? = M o):R g b o=g:=by
 grind
theorem set_set(g:Hp)(b:Nat)(o a:Obj):(R g b o).setIfInBounds b a=R g b a:=by
 grind
def MT(s:List Nat)(a b d n:Nat):List Nat:=
 (s.set a ((s.getD a 0+s.getD b 0)%4294967296)).set d (rotl ((s.set a ((s.getD a 0+s.getD b 0)%4294967296)).getD d 0 ^^^ (s.set a ((s.getD a 0+s.getD b 0)%4294967296)).getD a 0) n)
def Lp(s:List Nat)(a b c d:Nat):List Nat:=MT (MT (MT (MT s a b d 16) c d b 12) a b d 8) c d b 7
theorem T9{a:Nat}(c:a<4294967296)(hb:b<4294967296):a ^^^ b<4294967296:=aH (n:=32) c hb
theorem Pf(w:OW s)(a b d n:Nat)(c:n<=32):OW (MT s a b d n):=by
 grind [MT,OW.set,qZ,T9,OW.getD]
theorem Kz(s:List Nat)(a b d n:Nat):(MT s a b d n).length=(D s):=by simp[MT]
theorem Es(w:OW s)(a b c d:Nat):OW (Lp s a b c d):=
 Pf (Pf (Pf (Pf w _ _ _ _ uh) _ _ _ _ uh) _ _ _ _ uh) _ _ _ _ uh
theorem MU(s:List Nat)(a b c d:Nat):(Lp s a b c d).length=(D s):=by simp[Lp,Kz]
def pv(j x y:Nat):Nat:=if j%2=0 then x else y
def pn(j:Nat):Nat:=[16,12,8,7].getD j 0
def pst(s:List Nat)(a b c d:Nat):Nat->List Nat
 | 0=>s
 | j+1=>MT (pst s a b c d j) (pv j a c) (pv j b d) (pv j d b) (pn j)
theorem Zbu(s:List Nat)(a b c d:Nat):pst s a b c d 4=Lp s a b c d:=rfl
theorem Zkh(j:Nat)(a:j<4):nth [Value.int t 16,A t 12,A t 8,A t 7] j=M (A t (pn j:Nat)):=by
 rcases j with _|_|_|_|j<;>first|rfl|omega
theorem ZiY(j:Nat)(a:j<4):pn j<=32:=by
 rcases j with _|_|_|_|j<;>first|decide|omega
theorem FB(j x y:Nat):pv (j+1) x y=pv j y x:=by
 grind [pv]
theorem Zki(w:OW s)(a b c d:Nat):∀j,j<=4->OW (pst s a b c d j)/\(pst s a b c d j).length=(D s):=by
 intro j
 induction j with
 | zero=>intro _;exact⟨w,rfl⟩
 | succ j e=>
  grind [Pf,ZiY,pst.eq_2,Kz]
theorem Et(h:Hp)(bk:Nat)(s:List Nat)(a b c d:Nat)(X:(D s)=16)(w:OW s)(ha:a<16)(hb:b<16)(hc:c<16)(hd:d<16)(l:h[bk]? = M (L (s.map wv++[]).toArray 191)):
  Zg Z T 105 #[J (M ⟨bk,0,O⟩),A t a,A t b,A t c,A t d] h fun v' h'=>h'=R h bk (L ((Lp s a b c d).map wv++[]).toArray 191):=by
 refine Zg.X8 [_,_,_,_,_] Tryz.func105 ?_;simp +contextual -implicitDefEqProofs only[go_sem];refine VS.YC (fun F g=>∃j:Nat,j<=4/\F 0=J (M ⟨bk,0,O⟩)/\F 1=A t (pv j a c:Nat)/\F 2=A t (pv j b d:Nat)/\F 3=A t (pv j c a:Nat)/\F 4=A t (pv j d b:Nat)/\F 12=Y [A t 16,A t 12,A t 8,A t 7].toArray/\F 13=A t j/\g=R h bk (L ((pst s a b c d j).map wv++[]).toArray 191))
  (fun F _=>4-(vi (F 13)).toNat) rfl ⟨0,uh,rfl,rfl,rfl,rfl,rfl,rfl,rfl,?_⟩ ?_
 .exact (VI l).symm
 rintro F g ⟨j,hj,m,f1,f2,f3,B,f12,f13,rfl⟩;by_cases I:j<4
 .have Yh:(j:Int)<4:=uh;have P:=Zkh j I;have n2:=ZiY j I;let⟨w1,p⟩:=Zki w a b c d j hj;rw[X]at p;have q1:pv j a c<16:=by unfold pv;split<;>assumption
  have q2:pv j b d<16:=by unfold pv;split<;>assumption
  have q4:pv j d b<16:=by unfold pv;split<;>assumption
  have k:=YB (o:=L ((pst s a b c d j).map wv++[]).toArray 191) l;let⟨G,r⟩:=ZO (R h bk (L ((pst s a b c d j).map wv++[]).toArray 191));rw[<-r]at k ⊢;generalize S:pst s a b c d j=st at *;simp +contextual -implicitDefEqProofs only[go_sem,f12,f13,Yh,P];refine VS.z (bk+1) [13] (.p 0 (.p 1 (.p 2 (.p 3 (.q 4 (.p 5 (.p 6 (.p 7 (.p 8 (.q 9 (.p 10 (.p 11 (.p 12 (.w 13 .nil)))))))))))))) mixed zI ?_;have g1:=Yk k (i:=pv j a c) uh;have x:=Yk k (i:=pv j b d) uh;have E:Uf G ⟨bk,pv j a c,O⟩ (A H ((((st.getD (pv j a c) 0+st.getD (pv j b d) 0)%4294967296:Nat)):Int))=_:=YN (f:=wv) k (i:=pv j a c) uh _ rfl;have C:((st.getD (pv j a c) 0:Int)+(st.getD (pv j b d) 0:Int))%4294967296=(((st.getD (pv j a c) 0+st.getD (pv j b d) 0)%4294967296:Nat):Int):=uh;unfold wv at g1 x;let⟨y,q⟩:=ZO ((st.getD (pv j a c) 0+st.getD (pv j b d) 0)%4294967296);have n:y<4294967296:=uh;rw[<-q]at E C;simp +contextual -implicitDefEqProofs only[go_sem,m,f1,f2,g1,x,C,E];have e:=YB (o:=L ((st.set (pv j a c) y).map wv++[]).toArray 191) k;have w2:=w1.set (pv j a c) n;have l2:(st.set (pv j a c) y).length=16:=by rw[a3,p]
  have a6:pst s a b c d (j+1)=(st.set (pv j a c) y).set (pv j d b) (rotl ((st.set (pv j a c) y).getD (pv j d b) 0 ^^^ (st.set (pv j a c) y).getD (pv j a c) 0) (pn j)):=by
   rw[pst,S,MT,<-q]
  rw[r];generalize st.set (pv j a c) y=st2 at *;refine VS.z (bk+1) [17] (.p 0 (.p 1 (.p 2 (.p 3 (.p 4 (.p 5 (.q 6 (.p 7 (.p 8 (.p 9 (.p 10 (.q 11 (.p 12 (.p 13 (.p 15 (.s 14 (.p 16 (.w 17 .nil)))))))))))))))))) mixed zI ?_;clear e;rw[set_set];have e:(R h bk (L (st2.map wv++[]).toArray 191))[bk]? = M (L (st2.map wv++[]).toArray 191):=YB l;let⟨G2,K⟩:=ZO (R h bk (L (st2.map wv++[]).toArray 191));rw[<-K]at e ⊢;have v:=Yk e (i:=pv j d b) uh;have u:=Yk e (i:=pv j a c) uh;unfold wv at v u;have e2:=UL (st2.getD (pv j d b) 0) (st2.getD (pv j a c) 0) (w2.getD _) (w2.getD _);have V:=T9 (w2.getD (pv j d b)) (w2.getD (pv j a c));generalize st2.getD (pv j d b) 0 ^^^ st2.getD (pv j a c) 0=z at *;simp +contextual -implicitDefEqProofs only[go_sem,m,f1,B,v,u,e2];refine (mi T _ z (pn j) V n2).pure ?_;have c2:Uf G2 ⟨bk,pv j d b,O⟩ (A H ((rotl z (pn j):Nat):Int))=_:=YN (f:=wv) e (i:=pv j d b) uh _ rfl;simp +contextual -implicitDefEqProofs only[go_sem,c2,f1,f2,f3,B,f12,f13];refine⟨⟨j+1,uh,m,?_,?_,?_,?_,f12,rfl,?_⟩,?_⟩
  .rw[FB];rfl
  .rw[FB];rfl
  .rw[FB];rfl
  .rw[FB];rfl
  .grind
  .simp only[vi,Zu,↓reduceIte,f13];omega
 .have XX:¬(j:Int)<4:=uh;obtain rfl:j=4:=uh;simp +contextual -implicitDefEqProofs only[go_sem,f12,f13,XX];rw[Zbu]
theorem Zgb{h:Hp}{v:W}{l:List Nat}(s:Ts (fun x=>[nv x]) 1 h v l):∃p cap,v=N p (D l) cap/\(l≠[]->∃b o,p=M ⟨b,o,O⟩/\b<h.size/\∀i,i<(D l)->hc h ⟨b,o+i,O⟩=M (A t (l.getD i 0:Nat))):=by
 let⟨p,cap,a,e⟩:=Ts.open (enc:=fun x=>[nv x]) (n:=1) (fun _=>rfl) Nat.one_ne_zero s;refine⟨p,cap,a,fun d=>?_⟩;let⟨b,o,c,hb,f⟩:=e d;refine⟨b,o,c,hb,fun i hi=>?_⟩;have:=(f i hi).hc (i:=0) rfl
 grind [nv]
def X7(n:Nat):List Nat:=[n/16777216%256,n/65536%256,n/256%256,n%256]
theorem Sa(n:Nat):∀x∈X7 n,x<256:=by
 grind [X7]
theorem UN(n k:Nat)(a:k<=64):Xn t (n:Int) (k:Int)=((n/2 ^ k:Nat):Int):=by
 rw[Mi t n k a,al]
theorem rn(h:Hp)(B:Nat)(v:W)(l:List Nat)(n:Nat)(o:YL B 5 h v l)(d:B<=h.size)(q:(D l)<=1000)(m:n<=1073741824):
  Zg Z T 67 #[v,A t n] h fun a h'=>YL B 5 h' a (l++X7 n)/\Zm B h h':=by
 obtain⟨p,c,rfl,hc⟩:=o.open;refine Zg.X8 [_,_] Tryz.func67 ?_;have i:Xn t (n:Int) 24%256=((n/16777216%256:Nat):Int):=by rw[show (24:Int)=((24:Nat):Int) from rfl,UN n 24 uh];omega
 have g:Xn t (n:Int) 16%256=((n/65536%256:Nat):Int):=by rw[show (16:Int)=((16:Nat):Int) from rfl,UN n 16 uh];omega
 have f:Xn t (n:Int) 8%256=((n/256%256:Nat):Int):=by rw[show (8:Int)=((8:Nat):Int) from rfl,UN n 8 uh];omega
 have e:(n:Int)%256=((n%256:Nat):Int):=uh;simp +contextual -implicitDefEqProofs only[go_sem,i,g,f,e];refine ZP (E:=5) (B:=B) XD aL T8 SU SQ (o.push _) Fo (Bs.made (l:=X7 n) (Sa n) 4) (by simp[X7];omega) ?_;intro a h' k j _;simp +contextual -implicitDefEqProofs only[go_sem];exact⟨k,(Zm.push d _).trans j⟩
theorem Eu(h:Hp)(b:Nat):
  Zg Z T 42 #[J (M ⟨b,0,O⟩)] h fun a h'=>a=Y [J (M ⟨b,0,O⟩),J (M ⟨b,1,O⟩),J (M ⟨b,2,O⟩),J (M ⟨b,3,O⟩),J (M ⟨b,4,O⟩)].toArray/\Zm h.size h h':=by
 refine Zg.X8 [_] Tryz.func42 ?_;simp +contextual -implicitDefEqProofs only[go_sem];refine VS.z (h.size) [16] (.p 0 (.p 1 (.p 2 (.p 3 (.p 4 (.p 5 (.p 6 (.p 7 (.p 8 (.p 9 (.p 10 (.p 11 (.p 12 (.p 13 (.p 14 (.p 15 (.w 16 .nil))))))))))))))))) mixed zI ?_;simp +contextual -implicitDefEqProofs only[go_sem]
 all_goals first|exact⟨Zm.pp (U _) _ _,Zm.push (U _) _⟩|exact Zm.pp (U _) _ _|exact Zm.push (U _) _
def ZI(xs:List Nat):List Nat:=xs.flatMap X7
theorem CJ(xs:List Nat)(i:Nat)(hi:i<(D xs)):ZI (xs.take (i+1))=ZI (xs.take i)++X7 xs[i]:=by
 grind [ZI,Xg]
theorem ZV(xs:List Nat):(ZI xs).length=4*(D xs):=by
 unfold ZI
 induction xs with
 | nil=>rfl
 | cons x l a=>simp[a,X7];omega
def Zkk(b:Nat):List W:=[J (M ⟨b,0,O⟩),J (M ⟨b,1,O⟩),J (M ⟨b,2,O⟩),J (M ⟨b,3,O⟩),J (M ⟨b,4,O⟩)]
theorem fE(b i:Nat)(hi:i<5):nth (Zkk b) i=M (J (M ⟨b,i,O⟩)):=by
 rcases i with _|_|_|_|_|i<;>first|rfl|omega
theorem HW{k c s n v:Int}(h:Xy k c s n v=0):∃k' c' d n' a:Nat,k=k'/\c=c'/\s=d/\n=n'/\v=a/\k'<=1073741824/\c'<=1073741824/\d<=1073741824/\n'<=1073741824/\a<=1073741824:=by
 have:0<=k/\k<=3/\0<=c/\c<=7/\0<=s/\s<=1048576/\0<=n/\n<=7/\0<=v/\v<=1073741824:=by
  unfold Xy at h
  repeat' split at h
  all_goals omega
 exact⟨k.toNat,c.toNat,s.toNat,n.toNat,v.toNat,uh,uh,uh,uh,uh,uh,uh,uh,uh,uh⟩
def mm(h':Hp)(a:W)(k c s n v:Int):Prop:=
 ∃w,a=.tuple [w,A t (Xy k c s n v)].toArray/\Bs h' w (if Xy k c s n v=0 then ZI [k.toNat,c.toNat,s.toNat,n.toNat,v.toNat] else [])
theorem IT(h:Hp)(k c s n v:Int):
  Zg Z T 46 #[Y (Wg k c s n v).toArray] h fun u h'=>mm h' u k c s n v/\Zm h.size h h':=by
 refine Zg.X8 [_] Tryz.func46 ?_;unfold Wg;simp +contextual -implicitDefEqProofs only[go_sem];refine (U9 T _ k c s n v).use ?_;rintro v1 d ⟨rfl,rfl⟩;unfold Wg mm;by_cases q:Xy k c s n v=0
 .simp +contextual -implicitDefEqProofs only[go_sem,q];refine (Eu T _ h.size).use ?_;rintro v1 d ⟨rfl,f⟩;obtain⟨k,c,s,n,v,rfl,rfl,rfl,rfl,rfl,r,p,o,m,l⟩:=HW q;simp only[Int.toNat_natCast];have z1:h.size+2<=d.size:=by have:=f.size;simp at this;omega
  obtain⟨xs,a⟩:∃xs:List Nat,xs=[k,c,s,n,v]:=⟨_,rfl⟩
  have hlen:(D xs)=5:=by rw[a];rfl
  have cells:∀i (hi:i<5),hc d ⟨h.size,i,O⟩=M (A t ((xs[i]'uh:Nat):Int))/\xs[i]'uh<=1073741824:=by
   intro i hi;rw[f.hc Fo,SI,if_neg zX,SI,if_pos rfl];subst a;rcases i with _|_|_|_|_|i
   .exact⟨rfl,r⟩
   .exact⟨rfl,p⟩
   .exact⟨rfl,o⟩
   .exact⟨rfl,m⟩
   .exact⟨rfl,l⟩
   .omega
  rw[<-a];simp +contextual -implicitDefEqProofs only[go_sem];refine VS.YC (fun F g=>Zm d.size d g/\F 13=Y (Zkk h.size).toArray/\∃i:Nat,i<=5/\F 14=A t i/\YL d.size 5 g (F 5) (ZI (xs.take i)))
   (fun F _=>5-(vi (F 14)).toNat) rfl ⟨Zm.refl _ _,rfl,0,uh,rfl,YL.nil _ _ _⟩ ?_
  rintro F g ⟨hb,f13,i,hi,f14,e⟩;by_cases j:i<5
  .have E:(i:Int)<5:=uh;let⟨B,z⟩:=cells i j;have g1:hc g ⟨h.size,i,O⟩=M (A t ((xs[i]'uh:Nat):Int)):=by rw[hb.hc Fo];exact B
   have p1:=fE h.size i j;simp +contextual -implicitDefEqProofs only[go_sem,f13,f14,E,p1,g1];refine (rn T _ d.size _ _ _ e hb.size (by rw[ZV,aS];omega) z).use ?_;rintro w I ⟨x,C⟩;simp +contextual -implicitDefEqProofs only[go_sem,f13,f14];refine⟨⟨hb.trans C,f13,i+1,j,rfl,?_⟩,?_⟩
   .rw[CJ xs i uh];exact x
   .simp only[vi,Zu,↓reduceIte,f14];omega
  .have G:¬(i:Int)<5:=uh;obtain rfl:i=5:=uh;have y:xs.take 5=xs:=Ja hlen;rw[y]at e;simp +contextual -implicitDefEqProofs only[go_sem,f13,f14,G];refine⟨⟨_,rfl,e.bs⟩,?_⟩;exact (((Zm.refl _ _).add _).add _).trans (f.mono Fo) |>.trans (hb.mono uh)
 .simp +contextual -implicitDefEqProofs only[go_sem,q]
  first|exact⟨⟨_,rfl,(YL.nil 0 5 _).bs⟩,((Zm.refl _ _).add _).add _⟩|exact⟨_,rfl,(YL.nil 0 5 _).bs⟩|exact ((Zm.refl _ _).add _).add _
def JE(l:List Nat)(i:Nat):Nat:=l.getD i 0*16777216+l.getD (i+1) 0*65536+l.getD (i+2) 0*256+l.getD (i+3) 0
theorem aP{a c d:Nat}(e:a<256)(hb:b<256)(hc:c<256)(i:d<256):
  Y1 .or t (Y1 .or t (Y1 .or t (XV t a 24) (XV t b 16)) (XV t c 8)) d=((a*16777216+b*65536+c*256+d:Nat):Int):=by
 have h:XV t (a:Int) 24=((a*16777216:Nat):Int):=R7 e 24 uh;have g:XV t (b:Int) 16=((b*65536:Nat):Int):=R7 hb 16 uh;have f:XV t (c:Int) 8=((c*256:Nat):Int):=R7 hc 8 uh;have f1:a*16777216 ||| b*65536=a*16777216+b*65536:=UT (k:=24) uh uh
 have f2:(a*16777216+b*65536) ||| c*256=a*16777216+b*65536+c*256:=UT (k:=16) uh uh
 rw[h,g,f,Lk _ _ uh uh,f1,Lk _ _ uh uh,f2,Lk _ _ uh uh,UT (k:=8) uh uh]
def Fg:List W:=Wg 0 0 0 0 0
def Uh(l:List Nat):Int:=if (D l)=20 then Xy (JE l 0) (JE l 4) (JE l 8) (JE l 12) (JE l 16) else 1
def Ev(l:List Nat):List W:=if Uh l=0 then Wg (JE l 0) (JE l 4) (JE l 8) (JE l 12) (JE l 16) else Fg
theorem BK(h:Hp)(v:W)(l:List Nat)(s:Bs h v l)(hl:(D l)<=140737488355328):
  Zg Z T 23 #[v] h fun S h'=>S=.tuple [Y (Ev l).toArray,A t (Uh l)].toArray/\Zm h.size h h':=by
 obtain⟨p,c,rfl,TZ⟩:=s.Th;refine Zg.X8 [_] Tryz.func23 ?_;by_cases e:(D l)=20
 .have j:((D l):Int)=20:=uh;obtain⟨b,o,rfl,hb,Jx⟩:=TZ zK;simp +contextual -implicitDefEqProofs only[go_sem,j,e];refine (Eu T _ (h.size+1)).use ?_;rintro v1 k ⟨rfl,n⟩;have f:Zm (h.size+2) _ k:=n.mono zX;have z1:h.size+2<=k.size:=by have:=n.size;simp at this;omega
  have P:k[h.size]? = M (L (aa Fg) 43):=f.get uh (by rw[ZX zX,Zf];rfl);have x1:k[h.size+1]? = M (L (aa Fg) 43):=f.get uh (by have:=Zf (h:=h.push (L (aa Fg) 43)) (o:=L (aa Fg) 43);rw[a4]at this;exact this);have r:Zm h.size h k:=(((Zm.refl h.size h).add _).add _).trans (n.mono Fo);clear n f;obtain⟨xs,d⟩:∃xs:List W,xs=Wg (JE l 0) (JE l 4) (JE l 8) (JE l 12) (JE l 16):=⟨_,rfl⟩
  have a:(D xs)=5:=by rw[d];rfl
  have a6:∀i (hi:i<5),xs[i]'uh=A t (JE l (4*i):Nat):=by
   intro i hi;subst d;rcases i with _|_|_|_|_|i<;>first|rfl|omega
  simp +contextual -implicitDefEqProofs only[go_sem];refine VS.YC (fun F g=>Zm (h.size+1) k g/\F 0=N (M ⟨b,o,O⟩) 20 c/\F 2=J (M ⟨h.size,0,O⟩)/\F 4=J (M ⟨h.size+1,0,O⟩)/\F 12=Y (Zkk (h.size+1)).toArray/\∃i:Nat,i<=5/\F 13=A t i/\g[h.size+1]? = M (L (xs.take i++Fg.drop i).toArray 43))
   (fun F _=>5-(vi (F 13)).toNat) rfl ⟨Zm.refl _ _,rfl,rfl,rfl,rfl,0,uh,rfl,zK⟩ ?_
  rintro F g ⟨u,y,f2,m,f12,i,hi,f13,x⟩;by_cases K:i<5
  .have Yh:(i:Int)<5:=uh;have p1:=fE (h.size+1) i K;simp +contextual -implicitDefEqProofs only[go_sem,y,m,f12,f13,Yh,p1];refine VS.z (h.size+1) [35] (.p 0 (.p 1 (.p 2 (.p 3 (.p 4 (.q 5 (.p 6 (.p 7 (.p 8 (.p 9 (.p 10 (.p 11 (.p 12 (.q 13 (.p 14 (.p 15 (.p 16 (.p 17 (.p 18 (.p 19 (.p 20 (.p 21 (.q 22 (.p 23 (.p 24 (.p 25 (.p 26 (.p 27 (.p 28 (.p 29 (.p 30 (.q 31 (.p 32 (.p 33 (.p 34 (.w 35 .nil)))))))))))))))))))))))))))))))))))) mixed zI ?_;have w:∀i,i<20->hc g ⟨b,o+i,O⟩=M (A .u8 (l.getD i 0:Nat)):=fun i hi=>by rw[u.hc zK,r.hc (by exact hb)];grind
   have e0:=w (4*i) uh;have e1:=w (4*i+1) uh;have e2:=w (4*i+2) uh;have e3:=w (4*i+3) uh;have b0:=Yn s.byte (4*i);have n:=Yn s.byte (4*i+1);have b2:=Yn s.byte (4*i+2);have b3:=Yn s.byte (4*i+3);have t0:(4*(i:Int)).toNat=4*i:=uh;have t1:(4*(i:Int)+1).toNat=4*i+1:=uh;have X:(4*(i:Int)+2).toNat=4*i+2:=uh;have V:(4*(i:Int)+3).toNat=4*i+3:=uh;have r1:i+1<6:=uh;have hlen:(xs.take i++Fg.drop i).length=5:=by rw[Ng _ _ _ uh (by rw[a];rfl),a]
   have I:=aP b0 n b2 b3;rw[show l.getD (4*i) 0*16777216+l.getD (4*i+1) 0*65536+l.getD (4*i+2) 0*256+l.getD (4*i+3) 0=JE l (4*i) from rfl]at I;simp +contextual -implicitDefEqProofs only[go_sem,y,m,e0,e1,e2,e3,t0,t1,X,V,I];rw[XZ x,if_pos ⟨uh,rfl⟩];simp +contextual -implicitDefEqProofs only[go_sem,f13];refine⟨⟨u.ZA uh _,y,f2,m,f12,i+1,K,rfl,?_⟩,?_⟩
   .grind [IJ]
   .simp only[vi,Zu,↓reduceIte,f13];omega
  .have XX:¬(i:Int)<5:=uh;obtain rfl:i=5:=uh;rw[<-a,IK _ _ (by rw[a];rfl)]at x;have z:rd g ⟨h.size+1,0,O⟩ 5=M (Wg (JE l 0) (JE l 4) (JE l 8) (JE l 12) (JE l 16)):=by rw[<-d];exact ZB x a
   simp +contextual -implicitDefEqProofs only[go_sem,f2,m,f12,f13,XX,z];refine (U9 T _ _ _ _ _ _).use ?_;rintro v1 h2 ⟨rfl,rfl⟩;have E:g[h.size]? = M (L (aa Fg) 43):=u.get uh P;have C:rd g ⟨h.size,0,O⟩ 5=M Fg:=ZB E rfl;unfold Ev Uh;rw[if_pos e];have zg:h.size+2<=g.size:=Nat.le_trans z1 u.size;have G:=r.trans (u.mono uh);have B:=Yr E 0;unfold Fg Wg at *;by_cases q:Xy (JE l 0) (JE l 4) (JE l 8) (JE l 12) (JE l 16)=0
   .rw[if_pos q];simp +contextual -implicitDefEqProofs only[go_sem,q,f2,m,z,C,B];exact (G.ZA (U _) _).Xj Fo _
   .simp only[if_neg q];simp +contextual -implicitDefEqProofs only[go_sem,q,f2,m,z,C,B];exact (G.ZA (U _) _).Xj Fo _
 .have j:¬((D l):Int)=20:=uh;unfold Ev Uh Fg Wg;simp +contextual -implicitDefEqProofs only[go_sem,j,e]
  all_goals exact aaf
def rr(x n:Nat):Nat:=rotl x (32-n)
theorem Vd{x n:Nat}(a:x<4294967296):rr x n<4294967296:=qZ a uh
def sg0(x:Nat):Nat:=rr x 7 ^^^ rr x 18 ^^^ x/8
def sg1(x:Nat):Nat:=rr x 17 ^^^ rr x 19 ^^^ x/1024
def bg0(x:Nat):Nat:=rr x 2 ^^^ rr x 13 ^^^ rr x 22
def bg1(x:Nat):Nat:=rr x 6 ^^^ rr x 11 ^^^ rr x 25
theorem Zxg{a:Nat}(c:a<256)(hb:b<256):a ^^^ b<256:=aH (n:=8) c hb
theorem Pg{a:Nat}(c:a<4294967296):a &&& b<4294967296:=ae Nat.and_le_left c
theorem Zi0{e:Nat}(a:e<4294967296):4294967295 ^^^ e=4294967295-e:=by
 have c:(BitVec.allOnes 32 ^^^ BitVec.ofNat 32 e).toNat=(~~~ (BitVec.ofNat 32 e)).toNat:=by rw[BitVec.allOnes_xor]
 grind
theorem vB{a:Nat}(d:a<4294967296)(hb:b<4294967296)(h:a &&& b=0):a ^^^ b=a+b:=by
 have c:BitVec.ofNat 33 a &&& BitVec.ofNat 33 b=0#33:=by
  apply BitVec.eq_of_toNat_eq;rw[BitVec.toNat_and,BitVec.toNat_ofNat,BitVec.toNat_ofNat,am uh,am uh,h];rfl
 have f:=BitVec.add_eq_or_of_and_eq_zero _ _ c;have e:BitVec.ofNat 33 a ||| BitVec.ofNat 33 b=BitVec.ofNat 33 a ^^^ BitVec.ofNat 33 b:=by
  apply BitVec.eq_of_getLsbD_eq;intro i hi;have:=congrArg (·.getLsbD i) c
  simp only[BitVec.getLsbD_and,BitVec.getLsbD_zero]at this;rw[BitVec.getLsbD_or,BitVec.getLsbD_xor]
  revert this
  cases (BitVec.ofNat 33 a).getLsbD i<;>cases (BitVec.ofNat 33 b).getLsbD i<;>simp
 grind [BitVec.toNat_xor]
def chw(e f g:Nat):Nat:=(e &&& f)+((4294967295-e) &&& g)
def vC(a b c:Nat):Nat:=(a &&& b) ||| (a &&& c) ||| (b &&& c)
theorem Zbv{e f g:Nat}(a:e<4294967296):(e &&& f) &&& ((4294967295-e) &&& g)=0:=by
 rw[<-Zi0 a];apply aC;intro i;rw[aq,aq,aq,Nat.testBit_xor,Nat.zero_testBit];by_cases hi:i<32
 .have:Nat.testBit 4294967295 i=true:=by
   rw[show (4294967295:Nat)=2 ^ 32-1 from rfl,Nat.testBit_two_pow_sub_one];simpa using hi
  grind
 .have:e.testBit i=false:=Nat.testBit_lt_two_pow (Nat.lt_of_lt_of_le a (aF (n:=2) uh (by omega:32<=i)))
  grind
theorem Zgf{e f g:Nat}(a:e<4294967296)(c:g<4294967296):(e &&& f) ^^^ ((4294967295-e) &&& g)=chw e f g:=
 vB (Pg a) (Pg uh) (Zbv a)
theorem Zbw(a b c:Nat):(a &&& b) ^^^ (a &&& c) ^^^ (b &&& c)=vC a b c:=by
 unfold vC;apply aC
 grind
theorem fF{a k:Nat}(c:a<4294967296):a/k<4294967296:=ae (a2 _ _) c
theorem Zbx(e:Nat):4294967295-e<4294967296:=uh
theorem ZoO{a:Nat}(c:a<4294967296):a<9223372036854775808:=Nat.lt_trans c HE
theorem r64{a:Nat}(c:a<4294967296)(hb:b<4294967296):Y1 .or t (a:Int) (b:Int)=((a ||| b:Nat):Int):=Lk a b (ZoO c) (ZoO hb)
theorem Zgg{e:Nat}(a:e<4294967296):Y1 .xor H (4294967295:Int) (e:Int)=((4294967295-e:Nat):Int):=by
 grind [Y1,UL,Zi0]
theorem Zkn{e f g:Nat}(c:e<4294967296)(a:g<4294967296):Y1 .xor H ((e &&& f:Nat):Int) (((4294967295-e) &&& g:Nat):Int)=((chw e f g:Nat):Int):=by
 grind [UL,Pg,Zgf]
theorem Zgh{a c:Nat}(d:a<4294967296)(hb:b<4294967296):Y1 .xor H (((a &&& b) ^^^ (a &&& c):Nat):Int) ((b &&& c:Nat):Int)=((vC a b c:Nat):Int):=by
 grind [UL,T9,Pg,Zbw]
def kN:List Nat:=[
 1116352408,1899447441,3049323471,3921009573,961987163,1508970993,2453635748,2870763221,
 3624381080,310598401,607225278,1426881987,1925078388,2162078206,2614888103,3248222580,
 3835390401,4022224774,264347078,604807628,770255983,1249150122,1555081692,1996064986,
 2554220882,2821834349,2952996808,3210313671,3336571891,3584528711,113926993,338241895,
 666307205,773529912,1294757372,1396182291,1695183700,1986661051,2177026350,2456956037,
 2730485921,2820302411,3259730800,3345764771,3516065817,3600352804,4094571909,275423344,
 430227734,506948616,659060556,883997877,958139571,1322822218,1537002063,1747873779,
 1955562222,2024104815,2227730452,2361852424,2428436474,2756734187,3204031479,3329325298]
theorem Zko:OW kN:=by unfold OW;decide +kernel
def aQ(b s:List Nat):Nat:=if (D s)<16 then JE b (4*(D s)) else (s.getD ((D s)-16) 0+sg0 (s.getD ((D s)-15) 0)+s.getD ((D s)-7) 0+sg1 (s.getD ((D s)-2) 0))%4294967296
def Wa(b:List Nat):Nat->List Nat
 | 0=>[]
 | n+1=>Wa b n++[aQ b (Wa b n)]
theorem Uw(b:List Nat):∀n,(Wa b n).length=n
 | 0=>rfl
 | n+1=>by rw[Wa,ak,Uw b n];rfl
def MG(l:List Nat):Prop:=∀x∈l,x<256
theorem Zkp{b:List Nat}(hb:MG b)(i:Nat):JE b i<4294967296:=by
 have e:=Yn hb i;have d:=Yn hb (i+1);have c:=Yn hb (i+2);have a:=Yn hb (i+3);unfold JE;omega
theorem Zgi{b:List Nat}(hb:MG b)(s:List Nat):aQ b s<4294967296:=by
 unfold aQ;split
 .exact Zkp hb _
 .omega
theorem Ew{b:List Nat}(hb:MG b):∀n,OW (Wa b n)
 | 0=>fun x a=>by cases a
 | n+1=>fun x a=>by
  rw[Wa,a5,List.mem_singleton]at a;rcases a with a|rfl
  .exact Ew hb n x a
  .exact Zgi hb _
def upw(e f g h k w:Nat):Nat:=(h+bg1 e+chw e f g+k+w)%4294967296
def Zby(v:List Nat)(k w:Nat):List Nat:=
 match v with
 | [a,b,c,d,e,f,g,h]=>[(upw e f g h k w+bg0 a+vC a b c)%4294967296,a,b,c,(d+upw e f g h k w)%4294967296,e,f,g]
 | v=>v
theorem eight{v:List Nat}(h:(D v)=8):∃a b c d e f g k,v=[a,b,c,d,e,f,g,k]:=by
 match v,h with
 | [a,b,c,d,e,f,g,k],_=>grind
theorem fG{v:List Nat}(h:(D v)=8)(k w:Nat):(Zby v k w).length=8:=by
 obtain⟨a,b,c,d,e,f,g,j,rfl⟩:=eight h;rfl
theorem Zbz{v:List Nat}(h:(D v)=8)(l:OW v)(k w:Nat):OW (Zby v k w):=by
 obtain⟨a,b,c,d,e,f,g,j,rfl⟩:=eight h;intro x i;simp only[Zby,List.mem_cons,List.not_mem_nil,or_false]at i;rcases i with rfl|rfl|rfl|rfl|rfl|rfl|rfl|rfl
 all_goals first|exact an _ uh|exact l _ zX
def Wb(b v:List Nat):Nat->List Nat
 | 0=>v
 | i+1=>Zby (Wb b v i) (kN.getD i 0) ((Wa b 64).getD i 0)
theorem Nl{b v:List Nat}(h:(D v)=8)(a:OW v):∀i,(Wb b v i).length=8/\OW (Wb b v i)
 | 0=>⟨h,a⟩
 | i+1=>⟨fG (Nl h a i).1 _ _,Zbz (Nl h a i).1 (Nl h a i).2 _ _⟩
def MH(d v:List Nat):List Nat:=List.zipWith (fun x y=>(x+y)%4294967296) d v
theorem HX{d v:List Nat}(h:(D d)=8)(k:(D v)=8):(MH d v).length=8:=by simp[MH,h,k]
theorem ZbA(d v:List Nat):OW (MH d v):=by
 intro x a;unfold MH at a
 grind [List.mem_iff_getElem]
theorem vD{d v:List Nat}(h:(D d)=8)(k:(D v)=8){i:Nat}(hi:i<8):(MH d v).getD i 0=(d.getD i 0+v.getD i 0)%4294967296:=by
 grind [MH]
def fH(d b:List Nat):List Nat:=MH d (Wb b d 64)
theorem ZbB{d b:List Nat}(h:(D d)=8)(a:OW d):(fH d b).length=8/\OW (fH d b):=⟨HX h (Nl h a 64).1,ZbA _ _⟩
def ZbC:List Nat:=[1779033703,3144134277,1013904242,2773480762,1359893119,2600822924,528734635,1541459225]
theorem ZbD:OW ZbC:=by unfold OW;decide
def fI(p:List Nat):Nat->List Nat
 | 0=>ZbC
 | j+1=>fH (fI p j) ((p.drop (64*j)).take 64)
theorem KA(p:List Nat):∀j,(fI p j).length=8/\OW (fI p j)
 | 0=>⟨rfl,ZbD⟩
 | j+1=>ZbB (KA p j).1 (KA p j).2
def CK(n:Nat):Nat:=(119-n%64)%64
def Nm(l:List Nat)(j:Nat):List Nat:=l++128 :: Q j 0
def SW(l:List Nat):List Nat:=Nm l (CK (D l))++(0 :: 0 :: 0 :: 0 :: X7 (8*(D l)))
def vE(n:Nat):Nat:=(n+72)/64
theorem KC(l:List Nat)(j:Nat):(Nm l j).length=(D l)+j+1:=by simp[Nm];omega
theorem aR(l:List Nat):(SW l).length=64*vE (D l):=by
 rw[SW,ak,KC];simp only[X7,List.length_cons,List.length_nil,CK,vE];omega
theorem fJ{n j:Nat}(a:j<=CK n):(n+j+1)%64=56↔j=CK n:=by unfold CK at *;omega
theorem mo(l:List Nat)(j:Nat):Nm l (j+1)=Nm l j++[0]:=by
 grind [Nm,List.replicate_succ']
def Ro(l:List Nat):List Nat:=ZI (fI (SW l) (vE (D l)))
theorem QH(l:List Nat):(Ro l).length=32:=by rw[Ro,ZV,(KA _ _).1]
theorem CL(xs:List Nat):MG (ZI xs):=by
 intro x a;unfold ZI at a
 grind [X7]
theorem vF(l:List Nat):MG (Ro l):=CL _
theorem Wp(h:Hp)(v:W)(n:Int)(l:List Nat)(s:Bs h v l)(r:(D l)<=140737488355328):
  Zg Z T 78 #[Y [v,A t n].toArray] h fun g h'=>Zm h.size h h' /\
   (if (D l)<=100000/\0<=n/\n<=(D l) then ∃w,g=.tuple [Y [w,A t n].toArray,.bool true].toArray/\YL h.size 5 h' w l
     else g=.tuple [Y [N O 0 0,A t 0].toArray,.bool false].toArray):=by
 obtain⟨p,c,rfl,x⟩:=s.open;refine Zg.X8 [_] Tryz.func78 ?_;by_cases a:n<0
 .have q:¬((D l)<=100000/\0<=n/\n<=(D l)):=uh;simp +contextual -implicitDefEqProofs only[go_sem,a,q]
  try exact ((Zm.refl _ _).add _).add _
 .by_cases d:((D l):Int)<n
  .have q:¬((D l)<=100000/\0<=n/\n<=(D l)):=uh;simp +contextual -implicitDefEqProofs only[go_sem,a,d,q]
   try exact ((Zm.refl _ _).add _).add _
  .by_cases f:(100000:Int)<(D l)
   .have q:¬((D l)<=100000/\0<=n/\n<=(D l)):=uh;simp +contextual -implicitDefEqProofs only[go_sem,a,d,f,q]
    try exact ((Zm.refl _ _).add _).add _
   .have q:((D l)<=100000/\0<=n/\n<=(D l)):=uh;simp +contextual -implicitDefEqProofs only[go_sem,a,d,f];refine VS.z (h.size+1) [] (.p 0 (.q 1 (.p 3 (.q 4 (.s 2 (.p 5 (.s 6 (.p 7 .nil)))))))) mixed zI ?_;simp +contextual -implicitDefEqProofs only[go_sem,a,d,f];refine (Nk T _ _ l (s.YQ (((Zm.refl _ _).add _).add _)) r).use ?_;rintro v1 j ⟨i,e⟩;have z1:h.size+1<j.size:=by have:=e.size;simp at this;omega
    have o:=e.get (k:=h.size+1) zX (by rw[Array.getElem?_push,if_pos zX]);have w1:=Yr o;obtain⟨p1,u,rfl,_⟩:=i.bs.open;simp +contextual -implicitDefEqProofs only[go_sem,w1,z1];have m:Zm (h.size+1) _ j:=e.mono zX;refine⟨m,m.ZA (U _) _,?_,_,rfl,?_⟩
    .exact (((Zm.refl _ _).add _).add _ |>.trans (e.mono Fo)).ZA uh _
    .exact (i.Ym zX _).mono Fo
def le4(l:List Nat)(i:Nat):Nat:=l.getD i 0+256*l.getD (i+1) 0+65536*l.getD (i+2) 0+16777216*l.getD (i+3) 0
theorem ZbF{l:List Nat}(hb:∀x∈l,x<256)(i:Nat):le4 l i<4294967296:=by
 grind [Yn,le4]
theorem fK(l:List Nat)(k:Nat):le4 (l.drop k) 0=le4 l k:=by
 grind [le4]
theorem Lq{x k:Nat}(c:x<256)(a:k<=24):XV H (x:Int) (k:Int)=((x*2 ^ k:Nat):Int):=by
 rw[FA x k uh,am];have:2 ^ k<=2 ^ 24:=aF uh a;have d:x*2 ^ k<=255*2 ^ 24:=Nat.mul_le_mul uh this;omega
theorem Zgj{a c d:Nat}(j:a<256)(hb:b<256)(hc:c<256)(e:d<256):
  Y1 .or H (Y1 .or H (Y1 .or H (a:Int) (XV H b 8)) (XV H c 16)) (XV H d 24)=((a+256*b+65536*c+16777216*d:Nat):Int):=by
 have i:XV H (b:Int) 8=((b*256:Nat):Int):=Lq (k:=8) hb uh;have h:XV H (c:Int) 16=((c*65536:Nat):Int):=Lq (k:=16) hc uh;have g:XV H (d:Int) 24=((d*16777216:Nat):Int):=Lq (k:=24) e uh;have f1:a ||| b*256=a+256*b:=by rw[a1,UT (k:=8) uh uh];omega
 have f2:(a+256*b) ||| c*65536=a+256*b+65536*c:=by rw[a1,UT (k:=16) uh uh];omega
 have f:(a+256*b+65536*c) ||| d*16777216=a+256*b+65536*c+16777216*d:=by rw[a1,UT (k:=24) uh uh];omega
 rw[i,h,g,Na _ _ uh uh,f1,Na _ _ uh uh,f2,Na _ _ uh uh,f]
theorem rq(h:Hp)(v:W)(l:List Nat)(s:Bs h v l)(hi:4<=(D l)):
  Zg Z T 104 #[v] h fun f h'=>f=A H (le4 l 0:Nat)/\h'=h:=by
 obtain⟨p,c,rfl,y⟩:=s.Th;obtain⟨b,o,rfl,hb,a⟩:=y zK;refine Zg.X8 [_] Tryz.func104 ?_;have e:=a 0 uh;have q:=a 1 uh;have n:=a 2 uh;have m:=a 3 uh;have x:=Yn s.byte 0;have w:=Yn s.byte 1;have u:=Yn s.byte 2;have r:=Yn s.byte 3;rw[Nat.add_zero]at e;have d:=Zgj x w u r;rw[show l.getD 0 0+256*l.getD 1 0+65536*l.getD 2 0+16777216*l.getD 3 0=le4 l 0 from rfl]at d;simp +contextual -implicitDefEqProofs only[go_sem];refine VS.q mixed zI ?_;have k:((l.getD 0 0:Nat):Int)%4294967296=(l.getD 0 0:Nat):=uh;have j:((l.getD 1 0:Nat):Int)%4294967296=(l.getD 1 0:Nat):=uh;have i:((l.getD 2 0:Nat):Int)%4294967296=(l.getD 2 0:Nat):=uh;have g:((l.getD 3 0:Nat):Int)%4294967296=(l.getD 3 0:Nat):=uh;simp +contextual -implicitDefEqProofs only[go_sem,e,q,n,m,k,j,i,g,d]
def mw(a:Option Addr)(n cap l:Nat):Option Addr:=if cap=l then a else a.map (·.add (l*n))
theorem Vj{K:W->Hp->Prop}{h:Hp}{a:Option Addr}{n cap l:Nat}:MQ a n cap b (M l) K h=K (N (mw a n cap l) (b-l) (cap-l)) h:=rfl
theorem Mk{h:Hp}{p:Option Addr}{c m:Nat}{l:List Nat}(s:Bs h (N p m c) l)(f:(D l)=m){k:Nat}(r:k<=m)(v:m<=c)(c':Nat):Bs h (N (mw p 1 c k) (m-k) c') (l.drop k):=by
 subst f;unfold mw;refine⟨?_,fun x e=>s.byte x (List.mem_of_mem_drop e)⟩;let⟨n,cap,a,q,hc⟩:=s.sl;simp only[Value.slice.injEq]at a;obtain⟨rfl,_,rfl⟩:=a;refine⟨_,c',by rw[List.length_drop],zX,fun d=>?_⟩;have u:k<(D l):=by
  rw[<-List.length_pos_iff]at d;simp at d;omega
 obtain⟨b,o,rfl,j⟩:=hc zK;refine⟨b,o+k,?_,fun i hi=>?_⟩
 .grind [X9]
 .have g:i<(D l)-k:=by simpa using hi
  rw[show o+k+i=o+(k+i) by omega,j (k+i) Fo];simp
def MV(key:List Nat)(c:Nat)(a:List Nat):List Nat:=[1634760805,857760878,2036477234,1797285236]++(aI 8).map (fun i=>le4 key (4*i))++(c :: (aI 3).map (fun i=>le4 a (4*i)))
def my(s:List Nat):Nat->List Nat
 | 0=>s
 | i+1=>Lp (my s i) i (4+i) (8+i) (12+i)
def diags(s:List Nat):Nat->List Nat
 | 0=>s
 | i+1=>Lp (diags s i) i (4+(i+1)%4) (8+(i+2)%4) (12+(i+3)%4)
def No(s:List Nat):Nat->List Nat
 | 0=>s
 | r+1=>diags (my (No s r) 4) 4
def Zkq(x s:List Nat)(k:Nat):Nat:=(x.getD (k/4) 0+s.getD (k/4) 0)%4294967296/256 ^ (k%4)%256
def CM(x s:List Nat):List Nat:=(aI 64).map (Zkq x s)
def JP(key:List Nat)(c:Nat)(a:List Nat):List Nat:=CM (No (MV key c a) 10) (MV key c a)
theorem aT(w:OW s):∀i,OW (my s i)/\(my s i).length=(D s):=by
 intro i
 induction i with
 | zero=>exact⟨w,rfl⟩
 | succ i a=>grind [Es,my.eq_2,MU]
theorem fL(w:OW s):∀i,OW (diags s i)/\(diags s i).length=(D s):=by
 intro i
 induction i with
 | zero=>exact⟨w,rfl⟩
 | succ i a=>grind [Es,diags.eq_2,MU]
theorem ru(w:OW s):∀i,OW (No s i)/\(No s i).length=(D s):=by
 intro i
 induction i with
 | zero=>exact⟨w,rfl⟩
 | succ i a=>
  grind [aT,fL,No.eq_2]
theorem aU(key:List Nat)(c:Nat)(a:List Nat):(MV key c a).length=16:=by simp[MV]
theorem vG{key a:List Nat}{c:Nat}(f:∀x∈key,x<256)(e:∀x∈a,x<256)(hc:c<4294967296):OW (MV key c a):=by
 intro x d;unfold MV at d
 grind [ZbF]
theorem Ux(xs zs:List Nat)(i:Nat)(hi:i<(D xs))(a:(D xs)=(D zs)):(xs.take i++zs.drop i).set i (xs.getD i 0)=xs.take (i+1)++zs.drop (i+1):=by
 grind [IJ]
theorem BL(key a:List Nat)(c i:Nat)(hi:i<8):(MV key c a).getD (4+i) 0=le4 key (4*i):=by
 rcases i with _|_|_|_|_|_|_|_|i<;>first|rfl|omega
theorem fM(key a:List Nat)(c i:Nat)(hi:i<3):(MV key c a).getD (13+i) 0=le4 a (4*i):=by
 rcases i with _|_|_|i<;>first|rfl|omega
theorem mB(f:Nat->Nat){m k:Nat}(a:k<m):((aI m).map f).getD k 0=f k:=by
 grind
theorem Ml(x s:List Nat)(i j:Nat)(hi:i<16)(a:j<4):(CM x s).getD (4*i+j) 0=(x.getD i 0+s.getD i 0)%4294967296/256 ^ j%256:=by
 grind [CM,Zkq]
theorem Ex(x s:List Nat):∀y∈CM x s,y<256:=by
 grind [CM,Zkq]
def rD:List Nat:=Q 16 0
theorem HY(h:Hp)(p q:Option Addr)(m n c d:Nat)(k:Int):
  Zg Z T 85 #[N p m c,A t k,N q n d] h fun i h'=>i=A t (if m≠32\/n≠12 then 1 else if k<0\/1073741824<k then 2 else 0)/\h'=h:=by
 refine Zg.X8 [_,_,_] Tryz.func85 ?_;by_cases a:(m:Int)=32
 .by_cases e:(n:Int)=12
  .rw[if_neg uh];by_cases f:k<0
   .rw[if_pos uh];simp +contextual -implicitDefEqProofs only[go_sem,a,e,f]
   .by_cases g:1073741824<k
    .rw[if_pos uh];simp +contextual -implicitDefEqProofs only[go_sem,a,e,f,g]
    .rw[if_neg uh];simp +contextual -implicitDefEqProofs only[go_sem,a,e,f,g]
  .rw[if_pos uh];simp +contextual -implicitDefEqProofs only[go_sem,a,e]
 .rw[if_pos uh];simp +contextual -implicitDefEqProofs only[go_sem,a]
theorem KD(h:Hp)(v u:W)(key I:List Nat)(B:Nat)(sk:Bs h v key)(sn:Bs h u I)(hk:(D key)=32)(hn:(D I)=12)(hc:B<4294967296)(ck:RT v)(cn:RT u):
  Zg Z T 86 #[v,A H B,u] h fun v' h'=>v'=Y ((JP key B I).map bv).toArray/\Zm h.size h h':=by
 obtain⟨p,c,rfl,_⟩:=sk.open;obtain⟨q,d,rfl,_⟩:=sn.open;rw[hk]at sk ck ⊢;rw[hn]at sn cn ⊢;have ck:32<=c:=ck;have cn:12<=d:=cn;refine Zg.X8 [_,_,_] Tryz.func86 ?_;let⟨S,hS⟩:=ZO (MV key B I);have vH:(D S)=16:=by rw[hS];exact aU _ _ _
 have E:(D S)=(D rD):=vH;have fl:∀k,k<=16->(S.take k++rD.drop k).length=16:=fun k hk=>by grind
 simp +contextual -implicitDefEqProofs only[go_sem];refine VS.YC (fun F g=>Zm (h.size+1) (h.push (L ((Q 64 0).map bv).toArray 174)) g/\F 0=N p 32 c/\F 1=A H B/\F 2=N q 12 d/\F 6=J (M ⟨h.size,0,O⟩)/\F 7=J (M ⟨h.size+1,0,O⟩)/\∃i:Nat,i<=8/\F 17=A t i/\g[h.size+1]? = M (L ((S.take (4+i)++rD.drop (4+i)).map wv++[]).toArray 191))
  (fun F _=>8-(vi (F 17)).toNat) rfl ⟨Zm.push (by simp) _,rfl,rfl,rfl,rfl,rfl,0,by omega,rfl,?_⟩ ?_
 .subst hS;have e:=Zf (h:=h.push (L ((Q 64 0).map bv).toArray 174)) (o:=L ((List.take (4+0) (MV key B I)++List.drop (4+0) rD).map wv++[]).toArray 191);rw[a4]at e;exact e
 rintro F g ⟨x,f0,f1,f2,j,a,i,hi,f17,l⟩;by_cases Ye:i<8
 .have Yh:(i:Int)<8:=by omega
  have t4:(4*(i:Int)).toNat=4*i:=by omega
  have t5:((4:Int)+i).toNat=4+i:=by omega
  simp +contextual -implicitDefEqProofs only[go_sem,f0,a,f17,Yh,t4,t5,Vj];have qO:=Mk (sk.YQ ((Zm.push (U _) _).trans (x.mono (by omega)))) hk (k:=4*i) (by omega) ck (c-4*i);refine (rq T _ _ _ qO (by grind)).pure ?_;rw[fK,<-BL key I B i Ye,<-hS];have bb:S.getD (4+i) 0<4294967296:=by rw[hS,BL key I B i Ye];exact ZbF sk.byte _
  have y:Uf g ⟨h.size+1,4+i,O⟩ (A H (S.getD (4+i) 0:Nat))=_:=YN (f:=wv) l (i:=4+i) (by grind) _ rfl;rw[Ux S rD (4+i) (by omega) E]at y;simp +contextual -implicitDefEqProofs only[go_sem,a,f17,t5,y];refine⟨⟨x.ZA (by omega) _,f0,f1,f2,j,a,i+1,Ye,rfl,?_⟩,?_⟩
  .grind
  .simp only[vi,Zu,↓reduceIte,f17];omega
 .have XX:¬(i:Int)<8:=by omega
  obtain rfl:i=8:=by omega
  have y:Uf g ⟨h.size+1,12,O⟩ (A H (S.getD 12 0:Nat))=_:=YN (f:=wv) l (i:=12) (by grind) _ rfl;have a6:S.getD 12 0=B:=by rw[hS];rfl
  rw[Ux S rD 12 (by omega) E,a6]at y;have l:=YB (o:=L ((S.take 13++rD.drop 13).map wv++[]).toArray 191) l;have x:=x.ZA (b:=h.size+1) (by omega) (L ((S.take 13++rD.drop 13).map wv++[]).toArray 191);simp +contextual -implicitDefEqProofs only[go_sem,f0,f1,a,f17,XX,y];let⟨G,K⟩:=ZO (R g (h.size+1) (L ((S.take 13++rD.drop 13).map wv++[]).toArray 191):Hp);rw[<-K]at l x ⊢;clear K y a6;refine VS.YC (fun F g=>Zm (h.size+1) (h.push (L ((Q 64 0).map bv).toArray 174)) g/\F 2=N q 12 d/\F 6=J (M ⟨h.size,0,O⟩)/\F 7=J (M ⟨h.size+1,0,O⟩)/\∃i:Nat,i<=3/\F 31=A t i/\g[h.size+1]? = M (L ((S.take (13+i)++rD.drop (13+i)).map wv++[]).toArray 191))
   (fun F _=>3-(vi (F 31)).toNat) rfl ⟨x,f2,j,a,0,by omega,rfl,l⟩ ?_
  clear f0 f1 f2 j a f17 x l F;rintro F g ⟨x,f2,j,a,i,hi,f31,l⟩;by_cases Ye:i<3
  .have Yh:(i:Int)<3:=by omega
   have t4:(4*(i:Int)).toNat=4*i:=by omega
   have t5:((13:Int)+i).toNat=13+i:=by omega
   simp +contextual -implicitDefEqProofs only[go_sem,f2,a,f31,Yh,t4,t5,Vj];have qO:=Mk (sn.YQ ((Zm.push (U _) _).trans (x.mono (by omega)))) hn (k:=4*i) (by omega) cn (d-4*i);refine (rq T _ _ _ qO (by grind)).pure ?_;rw[fK,<-fM key I B i Ye,<-hS];have y:Uf g ⟨h.size+1,13+i,O⟩ (A H (S.getD (13+i) 0:Nat))=_:=YN (f:=wv) l (i:=13+i) (by grind) _ rfl;rw[Ux S rD (13+i) (by omega) E]at y;simp +contextual -implicitDefEqProofs only[go_sem,a,f31,t5,y];refine⟨⟨x.ZA (by omega) _,f2,j,a,i+1,Ye,rfl,?_⟩,?_⟩
   .grind
   .simp only[vi,Zu,↓reduceIte,f31];omega
  .have XX:¬(i:Int)<3:=by omega
   obtain rfl:i=3:=by omega
   have b5:S.take (13+3)++rD.drop (13+3)=S:=by
    have:=IK S rD E;rw[vH]at this;exact this
   rw[b5]at l;have y1:=ZB (n:=16) l (by simp[vH]);have a8:(S.map wv++[]).length=16:=by simp[vH]
   have Cj:(S.map wv++[]).all YV=true:=by simp[wv,YV]
   have C:XB (rD.map wv) 0 (S.map wv++[])=S.map wv++[]:=Yf (by rw[a8];rfl);have C:XB [Value.int H 0,Value.int H 0,Value.int H 0,Value.int H 0,Value.int H 0,Value.int H 0,Value.int H 0,Value.int H 0,Value.int H 0,Value.int H 0,Value.int H 0,Value.int H 0,Value.int H 0,Value.int H 0,Value.int H 0,Value.int H 0] 0 (S.map wv++[])=S.map wv++[]:=C;have wS:OW S:=by rw[hS];exact vG sk.byte sn.byte hc
   have Mm:=Zb l;simp +contextual -implicitDefEqProofs only[go_sem,j,a,f31,XX,y1,a8,Cj,C];clear C y1;let⟨G,K⟩:=ZO (g.push (L (S.map wv++[]).toArray 191):Hp);have a7:G[g.size]? = M (L ((No S 0).map wv++[]).toArray 191):=by rw[K];exact Zf
   have a9:Zm g.size g G:=by rw[K];exact Zm.push (U _) _
   rw[<-K];clear K;refine VS.YC (fun F g'=>Zm g.size g g'/\F 6=J (M ⟨h.size,0,O⟩)/\F 7=J (M ⟨h.size+1,0,O⟩)/\F 10=J (M ⟨g.size,0,O⟩)/\∃r:Nat,r<=10/\F 44=A t r/\g'[g.size]? = M (L ((No S r).map wv++[]).toArray 191))
    (fun F _=>10-(vi (F 44)).toNat) rfl ⟨a9,j,a,rfl,0,by omega,rfl,a7⟩ ?_
   clear f2 j a f31 a7 a9 G F;rintro F g1 ⟨z,j,a,f10,r,hr,f44,w⟩;by_cases Lr:r<10
   .have b7:(r:Int)<10:=by omega
    let⟨wr,lr⟩:=ru wS r;rw[vH]at lr;simp +contextual -implicitDefEqProofs only[go_sem,f44,b7];refine VS.YC (fun F g'=>Zm g.size g g'/\F 6=J (M ⟨h.size,0,O⟩)/\F 7=J (M ⟨h.size+1,0,O⟩)/\F 10=J (M ⟨g.size,0,O⟩)/\F 44=A t r/\∃i:Nat,i<=4/\F 46=A t i/\g'[g.size]? = M (L ((my (No S r) i).map wv++[]).toArray 191))
     (fun F _=>4-(vi (F 46)).toNat) rfl ⟨z,j,a,f10,f44,0,by omega,rfl,w⟩ ?_
    clear j a f10 f44 z w F g1;rintro F g1 ⟨z,j,a,f10,f44,i,hi,f46,w⟩;by_cases vI:i<4
    .have b6:(i:Int)<4:=by omega
     let⟨wc,lc⟩:=aT wr i;rw[lr]at lc;have t1:(4:Int)+i=((4+i:Nat):Int):=by omega
     have t2:(8:Int)+i=((8+i:Nat):Int):=by omega
     have t3:(12:Int)+i=((12+i:Nat):Int):=by omega
     simp +contextual -implicitDefEqProofs only[go_sem,f10,f46,b6,t1,t2,t3];refine (Et T g1 g.size _ i (4+i) (8+i) (12+i) lc wc (by omega) (by omega) (by omega) (by omega) w).use ?_;rintro _ _ rfl;simp +contextual -implicitDefEqProofs only[go_sem,f46];refine⟨⟨z.ZA (U _) _,j,a,f10,f44,i+1,vI,rfl,?_⟩,?_⟩
     .exact YB w
     .simp only[vi,Zu,↓reduceIte,f46];omega
    .have aV:¬(i:Int)<4:=by omega
     obtain rfl:i=4:=by omega
     let⟨wc,lc⟩:=aT wr 4;rw[lr]at lc;simp +contextual -implicitDefEqProofs only[go_sem,f46,aV];refine VS.YC (fun F g'=>Zm g.size g g'/\F 6=J (M ⟨h.size,0,O⟩)/\F 7=J (M ⟨h.size+1,0,O⟩)/\F 10=J (M ⟨g.size,0,O⟩)/\F 44=A t r/\∃i:Nat,i<=4/\F 58=A t i/\g'[g.size]? = M (L ((diags (my (No S r) 4) i).map wv++[]).toArray 191))
      (fun F _=>4-(vi (F 58)).toNat) rfl ⟨z,j,a,f10,f44,0,by omega,rfl,w⟩ ?_
     clear j a f10 f44 f46 vI aV hi z w F g1;rintro F g1 ⟨z,j,a,f10,f44,i,hi,f58,w⟩;by_cases vJ:i<4
     .have BM:(i:Int)<4:=by omega
      let⟨wd,ld⟩:=fL wc i;rw[lc]at ld;have t1:(4:Int)+((i:Int)+1).tmod 4=((4+(i+1)%4:Nat):Int):=by
       have:((i:Int)+1).tmod 4=(((i+1)%4:Nat):Int):=rfl;omega
      have t2:(8:Int)+((i:Int)+2).tmod 4=((8+(i+2)%4:Nat):Int):=by
       have:((i:Int)+2).tmod 4=(((i+2)%4:Nat):Int):=rfl;omega
      have t3:(12:Int)+((i:Int)+3).tmod 4=((12+(i+3)%4:Nat):Int):=by
       have:((i:Int)+3).tmod 4=(((i+3)%4:Nat):Int):=rfl;omega
      have m1:((i:Int)+1).tmod 4=(((i+1)%4:Nat):Int):=rfl;have m2:((i:Int)+2).tmod 4=(((i+2)%4:Nat):Int):=rfl;have m3:((i:Int)+3).tmod 4=(((i+3)%4:Nat):Int):=rfl;rw[m1]at t1;rw[m2]at t2;rw[m3]at t3;have k1:(i+1)%4<4:=an _ (by decide);have k2:(i+2)%4<4:=an _ (by decide);have k3:(i+3)%4<4:=an _ (by decide);simp +contextual -implicitDefEqProofs only[go_sem,f10,f58,BM,m1,m2,m3,t1,t2,t3];refine (Et T g1 g.size _ i (4+(i+1)%4) (8+(i+2)%4) (12+(i+3)%4) ld wd (by omega) (by omega) (by omega) (by omega) w).use ?_;rintro _ _ rfl;simp +contextual -implicitDefEqProofs only[go_sem,f58];refine⟨⟨z.ZA (U _) _,j,a,f10,f44,i+1,vJ,rfl,?_⟩,?_⟩
      .exact YB w
      .simp only[vi,Zu,↓reduceIte,f58];omega
     .have b8:¬(i:Int)<4:=by omega
      obtain rfl:i=4:=by omega
      simp +contextual -implicitDefEqProofs only[go_sem,f44,f58,b8];refine⟨⟨z,j,a,f10,r+1,Lr,rfl,w⟩,?_⟩;simp only[vi,Zu,↓reduceIte,f44];omega
   .have ao:¬(r:Int)<10:=by omega
    obtain rfl:r=10:=by omega
    let⟨wr,lr⟩:=ru wS 10;rw[vH]at lr;have b0:=z.get Mm l;have z0:h.size+1<g.size:=Mm;have z1:=Zb w;simp +contextual -implicitDefEqProofs only[go_sem,f44,ao];let⟨X,hX⟩:=ZO (CM (No S 10) S);have V:(D X)=64:=by rw[hX];simp[CM]
    have m:(D X)=(Q 64 0).length:=by rw[V];rfl
    refine VS.YC (fun F g'=>Zm g1.size g1 g'/\F 6=J (M ⟨h.size,0,O⟩)/\F 7=J (M ⟨h.size+1,0,O⟩)/\F 10=J (M ⟨g.size,0,O⟩)/\F 13=J (M ⟨g1.size,0,O⟩)/\∃i:Nat,i<=16/\F 77=A t i/\g'[g1.size]? = M (L ((X.take (4*i)++(Q 64 0).drop (4*i)).map bv++[]).toArray 174))
     (fun F _=>16-(vi (F 77)).toNat) rfl ⟨Zm.push (U _) _,j,a,f10,rfl,0,by omega,rfl,?_⟩ ?_
    .exact Zf
    clear j a f10 f44 ao hr Lr F;rintro F g2 ⟨b2,j,a,f10,f13,i,hi,f77,P⟩;by_cases mC:i<16
    .have ba:(i:Int)<16:=by omega
     have u1:=Yk (b2.get (by omega) b0) (i:=i) (by omega);have u2:=Yk (b2.get z1 w) (i:=i) (by omega);have v1:=wS.getD i;have v2:=wr.getD i;have e1:((No S 10).getD i 0+S.getD i 0:Int)%4294967296=(((No S 10).getD i 0+S.getD i 0)%4294967296:Nat):=by omega
     unfold wv at u1 u2;let⟨n,Kt⟩:=ZO (((No S 10).getD i 0+S.getD i 0)%4294967296);have bc:n<4294967296:=by omega
     rw[<-Kt]at e1;have x0:X.getD (4*i) 0=n%256:=by have:=Ml (No S 10) S i 0 mC (by omega);rw[show (256:Nat) ^ 0=1 from rfl,Nat.div_one]at this;rw[hX,Kt];exact this
     have x1:X.getD (4*i+1) 0=n/256%256:=by have:=Ml (No S 10) S i 1 mC (by omega);rw[show (256:Nat) ^ 1=256 from rfl]at this;rw[hX,Kt];exact this
     have x2:X.getD (4*i+2) 0=n/65536%256:=by have:=Ml (No S 10) S i 2 mC (by omega);rw[show (256:Nat) ^ 2=65536 from rfl]at this;rw[hX,Kt];exact this
     have x3:X.getD (4*i+3) 0=n/16777216%256:=by have:=Ml (No S 10) S i 3 mC (by omega);rw[show (256:Nat) ^ 3=16777216 from rfl]at this;rw[hX,Kt];exact this
     have t0:(4*(i:Int)).toNat=4*i:=by omega
     have t1:(4*(i:Int)+1).toNat=4*i+1:=by omega
     have t2:(4*(i:Int)+2).toNat=4*i+2:=by omega
     have t3:(4*(i:Int)+3).toNat=4*i+3:=by omega
     have s0:(n:Int)%256=((n%256:Nat):Int):=by omega
     have s1:Xn H (n:Int) 8%256=((n/256%256:Nat):Int):=by rw[show (8:Int)=((8:Nat):Int) from rfl,Vu n 8 (by omega)];omega
     have s2:Xn H (n:Int) 16%256=((n/65536%256:Nat):Int):=by rw[show (16:Int)=((16:Nat):Int) from rfl,Vu n 16 (by omega)];omega
     have s3:Xn H (n:Int) 24%256=((n/16777216%256:Nat):Int):=by rw[show (24:Int)=((24:Nat):Int) from rfl,Vu n 24 (by omega)];omega
     rw[<-x0]at s0;rw[<-x1]at s1;rw[<-x2]at s2;rw[<-x3]at s3;simp +contextual -implicitDefEqProofs only[go_sem,a,f10,f77,ba];refine VS.q mixed (by kernel_rfl) ?_;have xl:∀k,k<=64->(X.take k++(Q 64 0).drop k).length=64:=fun k hk=>by rw[Ng _ _ _ (by omega) m,V]
     have c0:Uf g2 ⟨g1.size,4*i,O⟩ (A .u8 (X.getD (4*i) 0:Nat))=_:=YN (f:=bv) P (i:=4*i) (by rw[xl _ (by omega)];omega) _ rfl;rw[Ux X _ (4*i) (by omega) m]at c0;have y:Uf _ ⟨g1.size,4*i+1,O⟩ (A .u8 (X.getD (4*i+1) 0:Nat))=_:=YN (f:=bv) (YB (o:=L ((X.take (4*i+1)++(Q 64 0).drop (4*i+1)).map bv++[]).toArray 174) P) (i:=4*i+1) (by rw[xl _ (by omega)];omega) _ rfl;rw[Ux X _ (4*i+1) (by omega) m,set_set]at y;have c2:Uf _ ⟨g1.size,4*i+2,O⟩ (A .u8 (X.getD (4*i+2) 0:Nat))=_:=YN (f:=bv) (YB (o:=L ((X.take (4*i+2)++(Q 64 0).drop (4*i+2)).map bv++[]).toArray 174) P) (i:=4*i+2) (by rw[xl _ (by omega)];omega) _ rfl;rw[Ux X _ (4*i+2) (by omega) m,set_set]at c2;have c3:Uf _ ⟨g1.size,4*i+3,O⟩ (A .u8 (X.getD (4*i+3) 0:Nat))=_:=YN (f:=bv) (YB (o:=L ((X.take (4*i+3)++(Q 64 0).drop (4*i+3)).map bv++[]).toArray 174) P) (i:=4*i+3) (by rw[xl _ (by omega)];omega) _ rfl;rw[Ux X _ (4*i+3) (by omega) m,set_set]at c3;simp +contextual -implicitDefEqProofs only[go_sem,a,f10,f13,f77,u1,u2,e1,t0,t1,t2,t3,s0,s1,s2,s3,c0,y,c2,c3];refine⟨⟨b2.ZA (U _) _,j,a,f10,f13,i+1,mC,rfl,?_⟩,?_⟩
     .exact YB P
     .simp only[vi,Zu,↓reduceIte,f77];omega
    .have b9:¬(i:Int)<16:=by omega
     obtain rfl:i=16:=by omega
     have b4:X.take (4*16)++(Q 64 0).drop (4*16)=X:=by
      have:=IK X (Q 64 0) m;rw[V]at this;exact this
     rw[b4,List.append_nil]at P;have CN:(X.map bv).length=64:=by simp[V]
     have tk:=Ja CN;have y1:=ZB (n:=64) P CN;have y0:(h.push (L ((Q 64 0).map bv).toArray 174))[h.size]? = M (L ((Q 64 0).map bv).toArray 174):=Zf;have y2:=b2.get (by omega) (z.get (by omega) (x.get (by omega) y0));have y3:=Yr y2 0 (X.map bv);rw[Yf (by simp[V]),if_pos ⟨by simp[V],Oe X⟩]at y3;have z2:h.size<g2.size:=Zb y2;have hB:Zm h.size h g2:=((Zm.push (U _) _).trans (x.mono (by omega))).trans ((z.mono (by omega)).trans (b2.mono (by omega)));have b3:JP key B I=X:=by rw[hX,hS];rfl
     rw[b3];simp +contextual -implicitDefEqProofs only[go_sem,j,f13,f77,b9,y1,y3,CN,tk,z2];exact hB.ZA (U _) _
def Qi(key:List Nat)(k:Int)(a:List Nat):Int:=if (D key)≠32\/(D a)≠12 then 1 else if k<0\/1073741824<k then 2 else 0
def fN(B:Nat)(h':Hp)(c:W)(key:List Nat)(k:Int)(a:List Nat):Prop:=∃w,c=.tuple [w,A t (Qi key k a)].toArray/\YL B 5 h' w (if Qi key k a=0 then JP key k.toNat a else [])
theorem ZbI(h:Hp)(v u:W)(key a:List Nat)(k:Int)(o:Bs h v key)(n:Bs h u a)(I:RT v)(G:RT u):
  Zg Z T 81 #[v,A t k,u] h fun l h'=>fN h.size h' l key k a/\Zm h.size h h':=by
 obtain⟨p,c,rfl,_⟩:=o.open;obtain⟨q,d,rfl,_⟩:=n.open;refine Zg.X8 [_,_,_] Tryz.func81 ?_;unfold fN;simp +contextual -implicitDefEqProofs only[go_sem];refine (HY T _ _ _ _ _ _ _ _).pure ?_;rw[show (if (D key)≠32\/(D a)≠12 then (1:Int) else if k<0\/1073741824<k then 2 else 0)=Qi key k a from rfl];by_cases e:Qi key k a=0
 .have hb:(D key)=32/\(D a)=12/\0<=k/\k<=1073741824:=by
   unfold Qi at e
   repeat' split at e
   all_goals first|omega|cases e
  let⟨F,C,k0,V⟩:=hb;obtain⟨m,rfl⟩:∃m:Nat,k=m:=⟨k.toNat,uh⟩
  have z:(m:Int)%4294967296=(m:Int):=uh;simp +contextual -implicitDefEqProofs only[go_sem,e,z];refine (KD T _ _ _ key a m o n F C uh I G).use ?_;rintro _ g ⟨rfl,r⟩;have w:((JP key m a).map bv).length=64:=by simp[JP,CM]
  have S:=Oe (JP key m a);have K:XB ((Q 64 0).map bv) 0 ((JP key m a).map bv)=(JP key m a).map bv:=Yf zK;have f:∀x∈JP key m a,x<256:=Ex _ _;have y:(JP key m a).length=64:=by simpa using w
  generalize JP key m a=X at *;simp +contextual -implicitDefEqProofs only[go_sem,w,S,Yf];have j:Bs (g.push (L (X.map bv).toArray 174)) (N (M ⟨g.size,0,O⟩) 64 64) X:=by
   have:=Bs.made (h:=g) (E:=174) f 64;rw[y]at this;exact this
  have i:=r.size;refine ZP (E:=5) (B:=h.size) XD aL T8 SU SQ (YL.nil _ _ _) Fo j (by simp[y]) ?_;intro l h' IS P _;simp +contextual -implicitDefEqProofs only[go_sem];exact⟨⟨_,rfl,zK⟩,(r.Xj i _).trans P⟩
 .simp +contextual -implicitDefEqProofs only[go_sem,e];exact⟨_,rfl,YL.nil _ _ _⟩
def Ls(key:List Nat):List Nat:=if 64<(D key) then Ro key else key
theorem SY(key:List Nat):(Ls key).length<=64:=by
 unfold Ls;split
 .rw[QH];omega
 .omega
theorem vL{key:List Nat}(h:MG key):MG (Ls key):=by
 unfold Ls;split
 .exact vF _
 .exact h
def Tq(key:List Nat):List Nat:=Ls key++Q (64-(Ls key).length) 0
theorem QI(key:List Nat):(Tq key).length=64:=by
 have:=SY key;simp[Tq];omega
theorem IU{key:List Nat}(h:MG key):MG (Tq key):=by
 intro x a;simp only[Tq,a5,List.mem_replicate]at a;rcases a with a|⟨_,rfl⟩
 .exact vL h x a
 .omega
def Sz(key:List Nat)(w:Nat):List Nat:=(Tq key).map (· ^^^ w)
theorem Xe(key:List Nat)(w:Nat):(Sz key w).length=64:=by simp[Sz,QI]
theorem BO{key:List Nat}(h:MG key){w:Nat}(hw:w<256):MG (Sz key w):=by
 intro x c;obtain⟨y,a,rfl⟩:=List.mem_map.1 c;exact Zxg (IU h y a) hw
theorem BP(key:List Nat)(w:Nat){i:Nat}(hi:i<64):(Sz key w).getD i 0=(Tq key).getD i 0 ^^^ w:=by
 grind [Sz.eq_1,QI]
def IV(key b:List Nat):List Nat:=Ro (Sz key 92++Ro (Sz key 54++b))
theorem SZ(key b:List Nat):(IV key b).length=32:=QH _
def MW(key info:List Nat):Nat->List Nat
 | 0=>[]
 | i+1=>IV key (MW key info i++info++[(i+1)%256])
def S3(key info:List Nat):Nat->List Nat
 | 0=>[]
 | i+1=>S3 key info i++MW key info (i+1)
theorem Ok(key info:List Nat)(i:Nat):(MW key info (i+1)).length=32:=SZ _ _
theorem ZbJ(key info:List Nat):∀i,(MW key info i).length<=32
 | 0=>Nat.zero_le _
 | i+1=>Nat.le_of_eq (Ok key info i)
theorem Tt(key info:List Nat):∀i,(S3 key info i).length=32*i
 | 0=>rfl
 | i+1=>by rw[S3,ak,Tt key info i,Ok];omega
theorem Ey(key info:List Nat)(n:Nat):∀(i j:Nat),n<=32*i->i<=j->(S3 key info j).take n=(S3 key info i).take n
 | i,0,h,hj=>by
  grind
 | i,j+1,h,hj=>by
  by_cases e:i=j+1
  .rw[e]
  .rw[S3,List.take_append_of_le_length (by rw[Tt];omega)];exact Ey key info n i j h uh
def Ez(c a info:List Nat)(n:Nat):List Nat:=(S3 (IV a c) info 16).take n
theorem KF(c a info:List Nat){n:Nat}(d:n<=512):(Ez c a info n).length=n:=by
 rw[Ez,aS,Tt];omega
def IW(k n a b:Int)(d:W):List W:=[A t k,A t n,A t a,A t b,d]
def Y8(k:Int):List (Nat × Int):=
 if k=1\/k=2\/k=3\/k=9 then [(1,4)] else if k=4\/k=5\/k=6 then [(2,1048576)] else if k=8 then [(1,4),(3,100000)] else []
def Np(b:Nat)(x:Nat × Int):List W:=[J (M ⟨b,x.1,O⟩),A t x.2]
set_option maxHeartbeats 2000000 in
theorem fO(h:Hp)(b:Nat)(k n a c:Int)(d:W)(hb:h[b]? = M (L (IW k n a c d).toArray 41)):
  Zg Z T 50 #[J (M ⟨b,0,O⟩)] h fun y h'=>∃w,y=.tuple [w,.bool (decide (1<=k/\k<=9))].toArray/\QY h.size 135 (Np b) 2 h' w (Y8 k)/\Zm h.size h h':=by
 refine Zg.X8 [_] Tryz.func50 ?_;have z:=Zb hb;have f:hc h ⟨b,0,O⟩=M (A t k):=by rw[Zr hb];rfl
 simp +contextual -implicitDefEqProofs (maxSteps:=2000000) only[go_sem];refine VS.z (h.size) [11] (.p 0 (.p 1 (.p 2 (.p 3 (.p 4 (.p 5 (.p 6 (.p 7 (.or 8 (.s 9 (.s 10 (.w 11 .nil))) (.s 9 (.s 8 (.s 10 (.w 11 .nil))))))))))))) mixed zI ?_;unfold Y8;have one:∀(g:Hp) (x:Nat × Int),h.size+2=g.size->QY h.size 135 (Np b) 2 (g.push (L [J (M ⟨b,x.1,O⟩),A t x.2].toArray 135)) (N (M ⟨h.size+2,0,O⟩) 1 1) [x]:=fun g x e=>by grind [Np,QY.one]
 have two:∀(g:Hp),h.size+2=g.size->QY h.size 135 (Np b) 2 (g.push (L [J (M ⟨b,1,O⟩),A t 4,J (M ⟨b,3,O⟩),A t 100000].toArray 135)) (N (M ⟨h.size+2,0,O⟩) 2 2) [(1,4),(3,100000)]:=fun g e=>by rw[e];exact QY.made (enc:=Np b) (fun _=>rfl) [(1,4),(3,100000)] uh
 by_cases v:k=1
 .have i:decide (1<=k/\k<=9)=true:=by rw[decide_eq_true_eq];omega
  simp +contextual -implicitDefEqProofs (maxSteps:=2000000) only[go_sem,f,v];refine⟨⟨_,rfl,one _ (1,4) zX,?_⟩,⟨_,rfl,one _ (1,4) zX,?_⟩⟩<;>all_goals exact aaf
 ·
  by_cases u:k=2
  .have i:decide (1<=k/\k<=9)=true:=by rw[decide_eq_true_eq];omega
   simp +contextual -implicitDefEqProofs (maxSteps:=2000000) only[go_sem,f,u];refine⟨⟨_,rfl,one _ (1,4) zX,?_⟩,⟨_,rfl,one _ (1,4) zX,?_⟩⟩<;>all_goals exact aaf
  ·
   by_cases r:k=3
   .have i:decide (1<=k/\k<=9)=true:=by rw[decide_eq_true_eq];omega
    simp +contextual -implicitDefEqProofs (maxSteps:=2000000) only[go_sem,f,r];refine⟨⟨_,rfl,one _ (1,4) zX,?_⟩,⟨_,rfl,one _ (1,4) zX,?_⟩⟩<;>all_goals exact aaf
   ·
    by_cases j:k=9
    .have i:decide (1<=k/\k<=9)=true:=by rw[decide_eq_true_eq];omega
     simp +contextual -implicitDefEqProofs (maxSteps:=2000000) only[go_sem,f,j];refine⟨⟨_,rfl,one _ (1,4) zX,?_⟩,⟨_,rfl,one _ (1,4) zX,?_⟩⟩<;>all_goals exact aaf
    ·
     by_cases q:k=4
     .have i:decide (1<=k/\k<=9)=true:=by rw[decide_eq_true_eq];omega
      simp +contextual -implicitDefEqProofs (maxSteps:=2000000) only[go_sem,f,q];refine⟨⟨_,rfl,one _ (2,1048576) zX,?_⟩,⟨_,rfl,one _ (2,1048576) zX,?_⟩⟩<;>all_goals exact aaf
     ·
      by_cases p:k=5
      .have i:decide (1<=k/\k<=9)=true:=by rw[decide_eq_true_eq];omega
       simp +contextual -implicitDefEqProofs (maxSteps:=2000000) only[go_sem,f,p];refine⟨⟨_,rfl,one _ (2,1048576) zX,?_⟩,⟨_,rfl,one _ (2,1048576) zX,?_⟩⟩<;>all_goals exact aaf
      ·
       by_cases o:k=6
       .have i:decide (1<=k/\k<=9)=true:=by rw[decide_eq_true_eq];omega
        simp +contextual -implicitDefEqProofs (maxSteps:=2000000) only[go_sem,f,o];refine⟨⟨_,rfl,one _ (2,1048576) zX,?_⟩,⟨_,rfl,one _ (2,1048576) zX,?_⟩⟩<;>all_goals exact aaf
       ·
        by_cases m:k=7
        .have i:decide (1<=k/\k<=9)=true:=by rw[decide_eq_true_eq];omega
         simp +contextual -implicitDefEqProofs (maxSteps:=2000000) only[go_sem,f,m]
         grind [QY.nil]
        ·
         by_cases l:k=8
         .have i:decide (1<=k/\k<=9)=true:=by rw[decide_eq_true_eq];omega
          simp +contextual -implicitDefEqProofs (maxSteps:=2000000) only[go_sem,f,l];refine⟨?_,?_⟩
          .refine VS.z (h.size+2) [] (.q 0 (.p 1 (.p 2 (.p 3 (.p 4 (.s 5 (.p 6 (.p 7 .nil)))))))) mixed zI ?_;simp +contextual -implicitDefEqProofs (maxSteps:=2000000) only[go_sem]
           grind [Zm.refl,Zm.add]
          .refine VS.z (h.size+2) [] (.q 0 (.p 1 (.p 2 (.p 3 (.p 4 (.s 5 (.p 6 (.p 7 .nil)))))))) mixed zI ?_;simp +contextual -implicitDefEqProofs (maxSteps:=2000000) only[go_sem]
           grind [Zm.refl,Zm.add]
         ·
          have i:¬(1<=k/\k<=9):=uh;simp +contextual -implicitDefEqProofs (maxSteps:=2000000) only[go_sem,f,v,u,r,j,q,p,o,m,l,i]
          grind [QY.nil]
def JQ(k:Int):Prop:=k=1\/k=2\/k=3\/k=9\/k=8
def WP(k:Int):Prop:=4<=k/\k<=6
instance (k:Int):Decidable (JQ k):=by unfold JQ;infer_instance
instance (k:Int):Decidable (WP k):=by unfold WP;infer_instance
def WQ(k n a b:Int)(len:Nat):Int:=
 if ¬(1<=k/\k<=9) then 4 else
 if (JQ k/\¬(0<=n/\n<=4))\/(WP k/\¬(0<=a/\a<=1048576))\/(k=8/\¬(0<=b/\b<=100000)) then 2 else
 if 2000<len then 1 else
 if (¬JQ k/\n≠0)\/(¬WP k/\a≠0)\/(k≠8/\b≠0)\/(k≠1/\0<len) then 3 else 0
def Rp(k n a b:Int)(p:Nat):Int:=[k,n,a,b].getD p 0
def Rt(k n a b:Int)(x:Nat × Int):Prop:=0<=Rp k n a b x.1/\Rp k n a b x.1<=x.2
theorem H4{k:Int}:∀x∈Y8 k,x.1<4/\0<x.1:=by
 grind [Y8]
theorem vM(k:Int):(Y8 k).length<=2:=by
 unfold Y8
 grind
theorem BQ{k n a b:Int}{len:Nat}(d:1<=k/\k<=9){x:Nat × Int}(c:x∈Y8 k)(hb:¬Rt k n a b x):WQ k n a b len=2:=by
 unfold WQ;rw[if_neg uh,if_pos];unfold JQ WP;unfold Y8 at c;unfold Rt Rp at hb
 grind
theorem mE{k n a b:Int}(c:∀x∈Y8 k,Rt k n a b x):¬((JQ k/\¬(0<=n/\n<=4))\/(WP k/\¬(0<=a/\a<=1048576))\/(k=8/\¬(0<=b/\b<=100000))):=by
 unfold JQ WP;unfold Y8 at c;split at c
 .have:=c (1,4) zX;simp[Rt,Rp]at this;omega
 .split at c
  .have:=c (2,1048576) zX;simp[Rt,Rp]at this;omega
  .split at c
   .have:=c (1,4) zX;have d:=c (3,100000) zX;simp[Rt,Rp]at this d;omega
   .omega
def Td(xs:List (Nat × Int))(cs:List W):List W:=xs.foldl (fun cs x=>cs.set x.1 (A t 0)) cs
theorem fP(xs:List (Nat × Int))(x:Nat × Int)(cs:List W):Td (xs++[x]) cs=(Td xs cs).set x.1 (A t 0):=by simp[Td]
theorem CO(xs:List (Nat × Int)):∀cs,(Td xs cs).length=(D cs):=by
 induction xs with
 | nil=>intro cs;rfl
 | cons x xs a=>grind [Td,a3]
theorem mF{k n a b:Int}{d:W}(c:1<=k/\k<=9):Td (Y8 k) (IW k n a b d)=IW k (if JQ k then 0 else n) (if WP k then 0 else a) (if k=8 then 0 else b) d:=by
 unfold Y8;split
 .grind [Td,IW,JQ,WP]
 .split
  .grind [Td,IW,JQ,WP]
  .split
   .rw[if_pos (by unfold JQ;omega),if_neg (by unfold WP;omega)];rfl
   grind [Td,JQ,WP]
theorem mG(k n a b:Int)(d:W)(p:Nat)(c:p<4):nth (IW k n a b d) p=M (A t (Rp k n a b p)):=by
 rcases p with _|_|_|_|p<;>first|rfl|omega
theorem CP(h:Hp)(k n a b:Int)(p:Option Addr)(len c:Nat):
  Zg Z T 29 #[Y (IW k n a b (N p len c)).toArray] h fun v' h'=>v'=A t (WQ k n a b len)/\Zm h.size h h':=by
 refine Zg.X8 [_] Tryz.func29 ?_;unfold IW;simp +contextual -implicitDefEqProofs only[go_sem];refine (fO T _ h.size k n a b (N p len c) Zf).use ?_;rintro _ B ⟨w,rfl,hw,b1⟩;have hlen:=vM k;by_cases V:1<=k/\k<=9
 .obtain⟨pw,cw,rfl,E⟩:=QY.ZnZ (enc:=Np h.size) (n:=2) (fun _=>rfl) HE hw;have x0:B[h.size]? = M (L (IW k n a b (N p len c)).toArray 41):=b1.get zX Zf;have z1:=Zb x0;have Tb:Zm h.size h B:=((Zm.refl h.size h).add _).trans (b1.mono zX);simp +contextual -implicitDefEqProofs only[go_sem,V];refine VS.YC (fun F g=>Zm B.size B g/\F 1=J (M ⟨h.size,0,O⟩)/\F 3=N pw (Y8 k).length cw/\F 15=N pw (Y8 k).length cw/\F 16=A t (Y8 k).length/\∃i:Nat,i<=(Y8 k).length/\F 17=A t i/\∀x∈(Y8 k).take i,Rt k n a b x)
   (fun F _=>(Y8 k).length-(vi (F 17)).toNat) rfl ⟨Zm.refl _ _,rfl,rfl,rfl,rfl,0,uh,rfl,fun x o=>by cases o⟩ ?_
  rintro F g ⟨j,f1,f3,f15,f16,i,hi,f17,QV⟩;have Mm:=j.size;by_cases Ye:i<(Y8 k).length
  .have Yh:(i:Int)<(Y8 k).length:=uh;obtain⟨bb,oo,rfl,ao,Sb,E⟩:=E zK;have o:=aW Ye;have r:=H4 _ o;have P:=((E i Ye).YQ j Sb).rd (by simp[Np]) (m:=2) rfl;obtain⟨x,z⟩:=ZO ((Y8 k)[i]);rw[<-z]at o r P;have v1:hc g ⟨h.size,x.1,O⟩=M (A t (Rp k n a b x.1)):=by
    rw[j.hc z1,Zr x0,mG _ _ _ _ _ _ r.1]
   unfold Np at P;simp +contextual -implicitDefEqProofs only[go_sem,f1,f15,f16,f17,Yh,P];refine VS.q mixed zI ?_;by_cases X:Rp k n a b x.1<0
   .have e:=BQ (len:=len) V o (n:=n) (a:=a) (b:=b) (by unfold Rt;omega);simp +contextual -implicitDefEqProofs only[go_sem,v1,X,e];exact Tb.trans ((j.mono uh).Xj uh _)
   .by_cases c2:x.2<Rp k n a b x.1
    .have e:=BQ (len:=len) V o (n:=n) (a:=a) (b:=b) (by unfold Rt;omega);simp +contextual -implicitDefEqProofs only[go_sem,v1,X,c2,e];exact Tb.trans ((j.mono uh).Xj uh _)
    .simp +contextual -implicitDefEqProofs only[go_sem,f1,f3,f15,f16,f17,v1,X,c2];refine⟨⟨j.Xj uh _,f1,f3,f15,f16,i+1,uh,rfl,fun y hy=>?_⟩,?_⟩
     .grind [Rt,Xg]
     .simp only[vi,Zu,↓reduceIte,f17];omega
  .have l:¬(i:Int)<(Y8 k).length:=uh;obtain rfl:i=(Y8 k).length:=uh;rw[aX]at QV;have Nq:=mE QV;have u:=j.get z1 x0;have G:hc g ⟨h.size,4,O⟩=M (N p len c):=by rw[Zr u];rfl
   have f:Zm h.size h g:=Tb.trans (j.mono uh);by_cases X:2000<len
   .have C:2000<(len:Int):=uh;have e:WQ k n a b len=1:=by unfold WQ;rw[if_neg uh,if_neg Nq,if_pos X]
    simp +contextual -implicitDefEqProofs only[go_sem,f1,f3,f15,f16,f17,l,G,C,e,f]
   .have C:¬2000<(len:Int):=uh;simp +contextual -implicitDefEqProofs only[go_sem,f1,f3,f15,f16,f17,l,G,C];have d:g[h.size]? = M (L (Td ((Y8 k).take 0) (IW k n a b (N p len c))).toArray 41):=u;clear G QV hi Ye l;refine VS.YC (fun F g'=>Zm h.size h g'/\(∀q,q≠h.size->q<B.size->g'[q]? = B[q]?)/\B.size<=g'.size/\F 1=J (M ⟨h.size,0,O⟩)/\F 40=N pw (Y8 k).length cw/\F 41=A t (Y8 k).length/\∃i:Nat,i<=(Y8 k).length/\F 42=A t i/\g'[h.size]? = M (L (Td ((Y8 k).take i) (IW k n a b (N p len c))).toArray 41))
     (fun F _=>(Y8 k).length-(vi (F 42)).toNat) rfl ⟨f,fun q _ hq=>j.block q hq,Mm,f1,rfl,rfl,0,Nat.zero_le _,rfl,d⟩ ?_
    clear d u f Mm j g f1 f3 f15 f16 f17 F;rintro F g ⟨f,a7,Mm,f1,f40,f41,i,hi,f42,d⟩;by_cases Ye:i<(Y8 k).length
    .have Yh:(i:Int)<(Y8 k).length:=uh;obtain⟨bb,oo,rfl,ao,Sb,E⟩:=E zK;have o:=aW Ye;have r:=H4 _ o;have P:=(E i Ye).rd (by simp[Np]) (m:=2) rfl;have a8:bb≠h.size:=by simp at ao;omega
     obtain⟨x,z⟩:=ZO ((Y8 k)[i]);rw[<-z]at o r P;have r2:rd g ⟨bb,oo+i*2,O⟩ 2=M (Np h.size x):=by
      rw[<-P];unfold rd;rw[a7 _ a8 Sb]
     have a9:(Td ((Y8 k).take i) (IW k n a b (N p len c))).length=5:=by rw[CO];rfl
     have zg:=Zb d;have w1:=XZ d x.1 (A t 0);rw[if_pos ⟨zK,rfl⟩]at w1;unfold Np at r2;simp +contextual -implicitDefEqProofs only[go_sem,f1,f40,f41,f42,Yh,r2];rw[w1];simp +contextual -implicitDefEqProofs only[go_sem,f42];refine⟨⟨(f.ZA (U _) _).Xj Fo _,fun q hq b0=>?_,Fo,f1,f40,f41,i+1,uh,rfl,?_⟩,?_⟩
     .grind
     .grind [Xg,fP]
     .simp only[vi,Zu,↓reduceIte,f42];omega
    .have l:¬(i:Int)<(Y8 k).length:=uh;obtain rfl:i=(Y8 k).length:=uh;rw[aX,mF V]at d;have e:WQ k n a b len=if (¬JQ k/\n≠0)\/(¬WP k/\a≠0)\/(k≠8/\b≠0)\/(k≠1/\0<len) then 3 else 0:=by unfold WQ;rw[if_neg uh,if_neg Nq,if_neg X]
     rw[e];clear e Nq E hw;obtain⟨n',Kt⟩:=ZO (if JQ k then 0 else n);obtain⟨a',a6⟩:=ZO (if WP k then 0 else a);obtain⟨b',QW⟩:=ZO (if k=8 then 0 else b);rw[<-Kt,<-a6,<-QW]at d;have K:hc g ⟨h.size,0,O⟩=M (A t k):=by rw[Zr d];rfl
     have I:hc g ⟨h.size,1,O⟩=M (A t n'):=by rw[Zr d];rfl
     have y2:hc g ⟨h.size,2,O⟩=M (A t a'):=by rw[Zr d];rfl
     have y3:hc g ⟨h.size,3,O⟩=M (A t b'):=by rw[Zr d];rfl
     have G:hc g ⟨h.size,4,O⟩=M (N p len c):=by rw[Zr d];rfl
     have en:(¬JQ k/\n≠0)↔n'≠0:=by rw[Kt];by_cases q:JQ k<;>simp[q]
     have ea:(¬WP k/\a≠0)↔a'≠0:=by rw[a6];by_cases q:WP k<;>simp[q]
     have eb:(k≠8/\b≠0)↔b'≠0:=by rw[QW];by_cases q:k=8<;>simp[q]
     simp only[en,ea,eb];by_cases S:n'=0
     .by_cases q2:a'=0
      .by_cases q3:b'=0
       .by_cases q4:k=1
        .simp +contextual -implicitDefEqProofs only[go_sem,f1,f40,f41,f42,l,K,I,y2,y3,S,q2,q3,q4,f]
        .by_cases q5:0<len
         .have v:0<(len:Int):=uh;simp +contextual -implicitDefEqProofs only[go_sem,f1,f40,f41,f42,l,K,I,y2,y3,G,S,q2,q3,q4,q5,v,f]
         .have v:¬0<(len:Int):=uh;simp +contextual -implicitDefEqProofs only[go_sem,f1,f40,f41,f42,l,K,I,y2,y3,G,S,q2,q3,q4,q5,v,f]
       .simp +contextual -implicitDefEqProofs only[go_sem,f1,f40,f41,f42,l,K,I,y2,y3,S,q2,q3,f]
      .simp +contextual -implicitDefEqProofs only[go_sem,f1,f40,f41,f42,l,K,I,y2,S,q2,f]
     .simp +contextual -implicitDefEqProofs only[go_sem,f1,f40,f41,f42,l,K,I,S,f]
 .have e:WQ k n a b len=4:=by unfold WQ;rw[if_pos V]
  simp +contextual -implicitDefEqProofs only[go_sem,V,e];exact ((Zm.refl h.size h).add _).trans (b1.mono zX)
end Go.Proofs.YtkhkmpfenaipaaaGreatDoor
