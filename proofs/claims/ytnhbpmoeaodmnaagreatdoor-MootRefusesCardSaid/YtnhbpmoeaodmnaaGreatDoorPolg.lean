/- The program's clamped key, its blocks' numbers and its last bytes, in plain numbers; no condition but those in the statements. -/
import Derived.Test.YtnhbpmoeaodmnaaGreatDoorPik
import Derived.Test.YtnhbpmoeaodmnaaGreatDoorW14
namespace Go.Proofs.YtnhbpmoeaodmnaaGreatDoor
open Go Go.V
set_option linter.unusedSimpArgs false
set_option linter.unusedVariables false
set_option maxRecDepth 100000
def clA (l:List Nat):Nat→List Nat
 | 0=>l
 | i+1=>(clA l i).set (4*i+3) ((clA l i).getD (4*i+3) 0 % 16)
def clB (l:List Nat):Nat→List Nat
 | 0=>l
 | i+1=>(clB l i).set (4*i+4) ((clB l i).getD (4*i+4) 0 / 4*4)
theorem clA_length (l:List Nat):∀ i,(clA l i).length=l.length
 | 0=>rfl
 | i+1=>by rw [clA,List.length_set,clA_length l i]
theorem clB_length (l:List Nat):∀ i,(clB l i).length=l.length
 | 0=>rfl
 | i+1=>by rw [clB,List.length_set,clB_length l i]
theorem clA_dg {l:List Nat} (w:Dg l):∀ i,Dg (clA l i)
 | 0=>w
 | i+1=>(clA_dg w i).set _ (by have:=(clA_dg w i).getD (4*i+3); omega)
theorem clB_dg {l:List Nat} (w:Dg l):∀ i,Dg (clB l i)
 | 0=>w
 | i+1=>(clB_dg w i).set _ (by have:=(clB_dg w i).getD (4*i+4); omega)
theorem clamp16 {l:List Nat} (hl:l.length=16):clB (clA l 4) 3=clampL l:=by
 match l,hl with
 | [a0,a1,a2,a3,a4,a5,a6,a7,a8,a9,a10,a11,a12,a13,a14,a15],_=>rfl
theorem clampL_take (key:List Nat):clampL key=clampL (key.take 16):=by
 unfold clampL
 apply List.map_congr_left
 intro i hi
 have hi':i<16:=by simpa using hi
 have e:(key.take 16).getD i 0=key.getD i 0:=by
  rw [List.getD_eq_getElem?_getD,List.getElem?_take,if_pos hi',List.getD_eq_getElem?_getD]
 unfold clampD
 rw [e]
theorem clamp_law {key:List Nat} (hk:key.length=32):clB (clA (key.take 16) 4) 3=clampL key:=by
 rw [clampL_take]; exact clamp16 (by rw [List.length_take]; omega)
theorem valD_lt16 {l:List Nat} (w:Dg l) (hl:l.length=16):valD l<340282366920938463463374607431768211456:=by
 have:=valD_lt_of w (n:=16) (by omega)
 exact this
theorem numL_length (n t:Nat):(numL n t).length=5:=rfl
theorem numL_lt {n t:Nat} (hn:n<340282366920938463463374607431768211456) (ht:t≤1):LtAll 67108864 (numL n t):=
 LtAll.five (by omega) (by omega) (by omega) (by omega) (by omega)
theorem numL_val {n t:Nat} (hn:n<340282366920938463463374607431768211456):val26 (numL n t)=n+340282366920938463463374607431768211456*t:=by
 simp only [numL,val26]; omega
def addN (a x:List Nat):Nat→List Nat
 | 0=>a
 | i+1=>(addN a x i).set i ((addN a x i).getD i 0+x.getD i 0)
theorem addN_length (a x:List Nat):∀ i,(addN a x i).length=a.length
 | 0=>rfl
 | i+1=>by rw [addN,List.length_set,addN_length a x i]
theorem addN_lt {a x:List Nat} {K L:Nat} (wa:LtAll K a) (wx:LtAll L x) (hK:0<K) (hL:0<L):∀ i,LtAll (K+i*L) (addN a x i)
 | 0=>by rw [Nat.zero_mul]; exact wa
 | i+1=>by
  have h:=addN_lt wa wx hK hL i
  have q1:=h.getD (by omega) i
  have q2:=wx.getD hL i
  rw [addN,Nat.add_mul,Nat.one_mul]
  exact (h.mono (by omega)).set _ _ (by omega)
theorem addN_law {a x:List Nat} (ha:a.length=5) (hx:x.length=5) (wa:LtAll 134217728 a) (wx:LtAll 67108864 x):LtAll 268435456 (addN a x 5)∧val26 (addN a x 5)=val26 a+val26 x:=by
 obtain ⟨a0,a1,a2,a3,a4,rfl⟩:=five ha
 obtain ⟨x0,x1,x2,x3,x4,rfl⟩:=five hx
 obtain ⟨w0,w1,w2,w3,w4⟩:=wa.all5
 obtain ⟨u0,u1,u2,u3,u4⟩:=wx.all5
 have e:addN [a0,a1,a2,a3,a4] [x0,x1,x2,x3,x4] 5=[a0+x0,a1+x1,a2+x2,a3+x3,a4+x4]:=rfl
 rw [e]
 exact ⟨LtAll.five (by omega) (by omega) (by omega) (by omega) (by omega),by simp only [val26]; omega⟩
theorem valD_app (a b:List Nat):valD (a++b)=valD a+256 ^ a.length*valD b:=by
 induction a with
 | nil=>simp [valD]
 | cons x a ih=>simp only [List.cons_append,valD,ih,List.length_cons,Nat.pow_succ,Nat.mul_add,Nat.add_assoc]; congr 2; rw [← Nat.mul_assoc,Nat.mul_comm 256]
theorem valD_zeros (n:Nat):valD (List.replicate n 0)=0:=by
 induction n with
 | zero=>rfl
 | succ n ih=>rw [List.replicate_succ,valD,ih]
def blk17 (l:List Nat):List Nat:=l++[1]++List.replicate (16 - l.length) 0
theorem blk17_length {l:List Nat} (hl:l.length≤16):(blk17 l).length=17:=by simp [blk17]; omega
theorem blk17_val {l:List Nat} (hl:l.length≤16):valD ((blk17 l).take 16)+340282366920938463463374607431768211456*(blk17 l).getD 16 0=valD (l++[1]):=by
 by_cases h:l.length=16
 ·have e1:(blk17 l).take 16=l:=by unfold blk17; rw [List.append_assoc,List.take_left' h]
  have e2:(blk17 l).getD 16 0=1:=by
   unfold blk17
   rw [List.getD_eq_getElem?_getD,List.append_assoc,List.getElem?_append_right (by omega),h]; rfl
  rw [e1,e2,valD_app,h]; rfl
 ·have e2:(blk17 l).getD 16 0=0:=by
   unfold blk17
   rw [List.getD_eq_getElem?_getD,List.getElem?_append_right (by simp; omega),List.getElem?_replicate]
   split <;> rfl
  have e1:(blk17 l).take 16=(l++[1])++List.replicate (15 - l.length) 0:=by
   unfold blk17
   rw [List.take_append,List.take_of_length_le (by simp; omega),List.take_replicate]
   congr 2
   simp; omega
  rw [e1,e2,valD_app,valD_zeros]; omega
theorem blk17_top {l:List Nat} (hl:l.length≤16):(blk17 l).getD 16 0≤1:=by
 by_cases h:l.length=16
 ·have e2:(blk17 l).getD 16 0=1:=by
   unfold blk17
   rw [List.getD_eq_getElem?_getD,List.append_assoc,List.getElem?_append_right (by omega),h]; rfl
  omega
 ·have e2:(blk17 l).getD 16 0=0:=by
   unfold blk17
   rw [List.getD_eq_getElem?_getD,List.getElem?_append_right (by simp; omega),List.getElem?_replicate]
   split <;> rfl
  omega
theorem blk17_dg {l:List Nat} (w:Dg l):Dg (blk17 l):=by
 intro x hx
 unfold blk17 at hx
 simp only [List.mem_append,List.mem_singleton,List.mem_replicate] at hx
 rcases hx with (h | h) | h
 ·exact w x h
 ·omega
 ·omega
theorem blk17_set {l:List Nat} (hl:l.length≤16):(l++List.replicate (17 - l.length) 0).set l.length 1=blk17 l:=by
 have e:List.replicate (17 - l.length) 0=0 :: List.replicate (16 - l.length) 0:=by rw [← List.replicate_succ]; congr 1; omega
 rw [e,List.set_append_right _ _ (Nat.le_refl _),Nat.sub_self,List.set_cons_zero]
 unfold blk17; rw [List.append_assoc]; rfl
def restV:List Nat→List Nat→Nat
 | x :: l,y :: k=>(x+y)+67108864*restV l k
 | _,_=>0
theorem restV_eq:∀ (l k:List Nat),l.length=k.length→restV l k=val26 l+val26 k
 | [],[],_=>rfl
 | x :: l,y :: k,h=>by simp only [restV,val26]; rw [restV_eq l k (by simpa using h)]; omega
theorem tag_bytes {out:List Nat} {t R:Nat} (w:Dg out) (hl:out.length=16) (h:t=valD out+256 ^ 16*R):out=(List.range 16).map fun i=>t / 256 ^ i % 256:=by
 apply List.ext_getElem?
 intro i
 by_cases hi:i<16
 ·rw [List.getElem?_map,List.getElem?_range hi]
  have e:=valD_digit w i
  rw [List.getD_eq_getElem?_getD,List.getElem?_eq_getElem (by omega)] at e
  rw [List.getElem?_eq_getElem (by omega)]
  simp only [Option.map_some,Option.some.injEq]
  simp only [Option.getD_some] at e
  rw [e,h]
  have e2:256 ^ 16*R=256 ^ i*(256*(256 ^ (15 - i)*R)):=by
   rw [← Nat.mul_assoc 256,← Nat.mul_assoc,← Nat.pow_succ',← Nat.pow_add]
   congr 2; omega
  rw [e2,Nat.add_mul_div_left _ _ (Nat.pow_pos (by omega)),Nat.add_mul_mod_self_left]
 ·rw [List.getElem?_eq_none (by omega),List.getElem?_eq_none (by simp; omega)]
theorem emit_law {T v n s B R:Nat} (hB:256≤B) (hd:B % 256=0) (h:T=v+n*(s+B*R)):T=v+n*(s % 256)+n*256*(s / 256+B / 256*R):=by
 have e:s+B*R=s % 256+256*(s / 256+B / 256*R):=by
  have e1:B=256*(B / 256):=by omega
  have e2:B*R=256*(B / 256*R):=by rw [← Nat.mul_assoc,← e1]
  have e3:=Nat.mod_add_div s 256
  rw [Nat.mul_add,e2]; omega
 rw [h,e,Nat.mul_add,← Nat.mul_assoc,← Nat.add_assoc]
theorem nth_fourA {i:Nat} (hi:i<4):nth [Value.int .i64 3,.int .i64 7,.int .i64 11,.int .i64 15] i=some (.int .i64 ((4*i+3:Nat):Int)):=by
 match i,hi with
 | 0,_=>rfl
 | 1,_=>rfl
 | 2,_=>rfl
 | 3,_=>rfl
theorem nth_fourB {i:Nat} (hi:i<3):nth [Value.int .i64 4,.int .i64 8,.int .i64 12] i=some (.int .i64 ((4*i+4:Nat):Int)):=by
 match i,hi with
 | 0,_=>rfl
 | 1,_=>rfl
 | 2,_=>rfl
theorem and15 (x:Nat) (hx:x<256):bitOp .and .u8 (x:Int) 15=((x % 16:Nat):Int):=by
 have h:=and_u8 x 15 hx (by decide)
 have e:x &&& 15=x % 16:=Nat.and_two_pow_sub_one_eq_mod x 4
 rw [e] at h; exact h
theorem and252 (x:Nat) (hx:x<256):bitOp .and .u8 (x:Int) 252=((x / 4*4:Nat):Int):=by
 have h:=and_u8 x 252 hx (by decide)
 have e:x &&& 252=x / 4*4:=by
  have:∀ y:Fin 256,y.val &&& 252=y.val / 4*4:=by decide
  exact this ⟨x,hx⟩
 rw [e] at h; exact h
def vlen:Value→Nat
 | .slice _ l _=>l
 | _=>0
theorem lput_fill (n:Nat) (vs:List Nat) (h:vs.length≤n):lput ((List.replicate n 0).map bv) 0 (vs.map bv)=(vs++List.replicate (n - vs.length) 0).map bv:=by
 rw [lput_zero _ _ (by simpa using h),List.length_map,← List.map_drop,List.drop_replicate,List.map_append]
theorem restV_drop {M S:List Nat} {i:Nat} (hM:i<M.length) (hS:i<S.length):restV (M.drop i) (S.drop i)=(M.getD i 0+S.getD i 0)+67108864*restV (M.drop (i+1)) (S.drop (i+1)):=by
 rw [List.drop_eq_getElem_cons hM,List.drop_eq_getElem_cons hS,restV,List.getD_eq_getElem?_getD,List.getD_eq_getElem?_getD,List.getElem?_eq_getElem hM,List.getElem?_eq_getElem hS]; rfl
theorem add_law {T v n s b c R:Nat} (h:T=v+n*(s+2 ^ b*(c+67108864*R))):T=v+n*(s+c*2 ^ b+2 ^ (b+26)*R):=by
 rw [h,Nat.mul_add (2 ^ b),Nat.mul_comm (2 ^ b) c,Nat.pow_add,← Nat.mul_assoc (2 ^ b),Nat.add_assoc]
theorem pow_small {b:Nat} (h:b<8):2 ^ b≤128:=by
 have:=Nat.pow_le_pow_right (show 0<2 by decide) (show b≤7 by omega)
 exact this
theorem sum_bound {s c b:Nat} (hs:s<8*2 ^ b) (hc:c<268435456):s+c*2 ^ b<8*2 ^ (b+26):=by
 have h1:c*2 ^ b≤268435455*2 ^ b:=Nat.mul_le_mul_right _ (by omega)
 rw [Nat.pow_add]
 have:2 ^ 26=67108864:=rfl
 rw [this]; omega
theorem cut_bound {s b:Nat} (hs:s<8*2 ^ b) (hb:8≤b):s / 256<8*2 ^ (b - 8):=by
 have:2 ^ b=2 ^ (b - 8)*256:=by
  have e:b=b - 8+8:=by omega
  rw [e,Nat.pow_add,Nat.add_sub_cancel]
 rw [this] at hs; omega
theorem emit_pow {T v n s b R:Nat} (hb:8≤b) (h:T=v+256 ^ n*(s+2 ^ b*R)):T=v+256 ^ n*(s % 256)+256 ^ (n+1)*(s / 256+2 ^ (b - 8)*R):=by
 have e:2 ^ b=2 ^ (b - 8)*256:=by
  have e:b=b - 8+8:=by omega
  rw [e,Nat.pow_add,Nat.add_sub_cancel]
 have hp:0<2 ^ (b - 8):=Nat.pow_pos (by omega)
 have:=emit_law (B:=2 ^ b) (by rw [e]; omega) (by rw [e]; omega) h
 rw [show 2 ^ b / 256=2 ^ (b - 8) by rw [e,Nat.mul_div_cancel _ (by omega)]] at this
 rw [Nat.pow_succ]; exact this
theorem valD_snoc2 (l:List Nat) (x:Nat):valD (l++[x])=valD l+256 ^ l.length*x:=by rw [valD_app]; rfl
theorem zero16:(zrep 16 [Value.int .u8 0])=(List.replicate 16 0).map bv:=rfl
set_option maxHeartbeats 2000000 in
theorem polyTag_ok (T:World) (h:Hp) (v u:Value) (key data:List Nat) (sk:Bs h v key) (sd:Bs h u data) (hk:key.length=32) (hd:data.length≤4000) (ck:Cap v) (cu:Cap u) :
  CallsH Tryz.prog T 140 #[v,u] h fun v' h'=>OBs h.size 5 h' v' (tagL key data)∧Bel h.size h h':=by
 have wk:=sk.byte
 have wd:=sd.byte
 obtain ⟨p,c,rfl,hkc⟩:=sk.opend
 have ck:key.length≤c:=ck
 have l16:(key.take 16).length=16:=by rw [List.length_take]; omega
 have s16:=Bs_take sk (m:=16) (by omega) c
 have c16:(16:Int)≤c:=by omega
 refine CallsH.of_code' (args:=[_,_]) Tryz.func140 rfl rfl rfl rfl ?_
 simp -implicitDefEqProofs (maxSteps:=2000000) only [go_sem,↓reduceIte,c16]
 refine append_bytes (E:=5) (B:=h.size) tsl44 Tryz.underlying44 tn5 tz5 tb5 (OBs.nil _ _ _) (Nat.le_refl _) (by rw [hk] at sk; simpa using s16) (by rw [l16]; decide) ?_
 intro v1 h1 o1 b1 _
 rw [List.nil_append] at o1
 have o1n:=o1.own
 rcases o1n with ⟨_,hm,_⟩ | ⟨bc,cap,spare,hbc,rfl,hcell,hcl,hsp,hcap⟩
 ·omega
 obtain ⟨L,hL⟩:∃ L,L=key.take 16:=⟨_,rfl⟩
 have wL:Dg L:=by rw [hL]; exact fun x hx=>wk x (List.mem_of_mem_take hx)
 have hlaw:clB (clA L 4) 3=clampL key:=by rw [hL]; exact clamp_law hk
 rw [← hL] at l16 hcell hcl hsp hcap ⊢
 clear o1 s16 hL
 have hbc1:=lt_of_get hcell
 simp -implicitDefEqProofs (maxSteps:=2000000) only [go_sem,↓reduceIte]
 refine VS.loop' (fun F g=>F 0=.slice p key.length c∧F 1=u∧F 5=.slice (some ⟨bc,0,none⟩) L.length cap∧F 25=.agg #[.int .i64 3,.int .i64 7,.int .i64 11,.int .i64 15]∧∃ i:Nat,i≤4∧F 26=.int .i64 i∧g=h1.setIfInBounds bc (.cells ((clA L i).map bv++spare).toArray 5))
  (fun F _=>4 - (vi (F 26)).toNat) rfl ⟨rfl,rfl,rfl,rfl,0,by omega,rfl,(set_same hcell).symm⟩ ?_
 rintro F g ⟨f0,f1,f5,f25,i,hi,f26,rfl⟩
 have hx:=cells_new (o:=.cells ((clA L i).map bv++spare).toArray 5) hcell
 have wA:=clA_dg wL i
 have lA:=clA_length L i
 by_cases hlt:i<4
 ·have hlt':(i:Int)<4:=by omega
  have hnext:clA L (i+1)=(clA L i).set (4*i+3) ((clA L i).getD (4*i+3) 0 % 16):=rfl
  obtain ⟨r,hr⟩:∃ r,r=clA L i:=⟨_,rfl⟩
  rw [← hr] at hx wA lA hnext ⊢
  obtain ⟨G,hG⟩:∃ G,G=h1.setIfInBounds bc (.cells (r.map bv++spare).toArray 5):=⟨_,rfl⟩
  rw [← hG] at hx ⊢
  have n1:=nth_fourA hlt
  have g1:=cells_get hx (i:=4*i+3) (by omega)
  have x1:=wA.getD (4*i+3)
  unfold bv at g1
  obtain ⟨x,hxx⟩:∃ x,x=r.getD (4*i+3) 0:=⟨_,rfl⟩
  rw [← hxx] at g1 x1 hnext
  have e1:=and15 x x1
  have hi1:((4*i+3:Nat):Int)<L.length:=by omega
  have c1:wr1 G ⟨bc,4*i+3,none⟩ (.int .u8 (x % 16:Nat))=_:=cells_set (f:=bv) hx (i:=4*i+3) (by omega) (x % 16) rfl
  simp -implicitDefEqProofs (maxSteps:=2000000) only [go_sem,↓reduceIte,f0,f1,f5,f25,f26,hlt',Int.toNat_natCast,Nat.zero_add,n1,hi1,g1,e1,c1]
  refine ⟨⟨f0,f1,f5,f25,i+1,hlt,rfl,?_⟩,?_⟩
  ·rw [hG,set_set,hnext]
  ·simp only [vi,updo_some,↓reduceIte,f26]; omega
 ·have hge:¬ (i:Int)<4:=by omega
  obtain rfl:i=4:=by omega
  have c4:((4:Nat):Int)=4:=rfl
  rw [c4] at f26 hge
  obtain ⟨L2,hL2⟩:∃ L2,L2=clA L 4:=⟨_,rfl⟩
  rw [← hL2] at hx wA lA hlaw ⊢
  have B2:Bel h.size h (h1.setIfInBounds bc (.cells (L2.map bv++spare).toArray 5)):=b1.addSet hbc _
  generalize h1.setIfInBounds bc (.cells (L2.map bv++spare).toArray 5)=h2 at *
  clear hL2
  simp -implicitDefEqProofs (maxSteps:=2000000) only [go_sem,↓reduceIte,f0,f1,f5,f25,f26,hge]
  refine VS.loop' (fun F g=>F 0=.slice p key.length c∧F 1=u∧F 5=.slice (some ⟨bc,0,none⟩) L.length cap∧F 36=.agg #[.int .i64 4,.int .i64 8,.int .i64 12]∧∃ i:Nat,i≤3∧F 37=.int .i64 i∧g=h2.setIfInBounds bc (.cells ((clB L2 i).map bv++spare).toArray 5))
   (fun F _=>3 - (vi (F 37)).toNat) rfl ⟨f0,f1,f5,rfl,0,by omega,rfl,(set_same hx).symm⟩ ?_
  clear f0 f1 f5 f25 f26 hge F
  rintro F g ⟨f0,f1,f5,f36,i,hi,f37,rfl⟩
  have hx3:=cells_new (o:=.cells ((clB L2 i).map bv++spare).toArray 5) hx
  have wB:=clB_dg wA i
  have lB:=clB_length L2 i
  by_cases hlt:i<3
  ·have hlt':(i:Int)<3:=by omega
   have hnext:clB L2 (i+1)=(clB L2 i).set (4*i+4) ((clB L2 i).getD (4*i+4) 0 / 4*4):=rfl
   obtain ⟨r,hr⟩:∃ r,r=clB L2 i:=⟨_,rfl⟩
   rw [← hr] at hx3 wB lB hnext ⊢
   obtain ⟨G,hG⟩:∃ G,G=h2.setIfInBounds bc (.cells (r.map bv++spare).toArray 5):=⟨_,rfl⟩
   rw [← hG] at hx3 ⊢
   have n1:=nth_fourB hlt
   have g1:=cells_get hx3 (i:=4*i+4) (by omega)
   have x1:=wB.getD (4*i+4)
   unfold bv at g1
   obtain ⟨x,hxx⟩:∃ x,x=r.getD (4*i+4) 0:=⟨_,rfl⟩
   rw [← hxx] at g1 x1 hnext
   have e1:=and252 x x1
   have hi1:((4*i+4:Nat):Int)<L.length:=by omega
   have c1:wr1 G ⟨bc,4*i+4,none⟩ (.int .u8 (x / 4*4:Nat))=_:=cells_set (f:=bv) hx3 (i:=4*i+4) (by omega) (x / 4*4) rfl
   simp -implicitDefEqProofs (maxSteps:=2000000) only [go_sem,↓reduceIte,f0,f1,f5,f36,f37,hlt',Int.toNat_natCast,Nat.zero_add,n1,hi1,g1,e1,c1]
   refine ⟨⟨f0,f1,f5,f36,i+1,hlt,rfl,?_⟩,?_⟩
   ·rw [hG,set_set,hnext]
   ·simp only [vi,updo_some,↓reduceIte,f37]; omega
  ·have hge:¬ (i:Int)<3:=by omega
   obtain rfl:i=3:=by omega
   have c3:((3:Nat):Int)=3:=rfl
   rw [c3] at f37 hge
   rw [hlaw] at hx3 wB lB ⊢
   have B3:Bel h.size h (h2.setIfInBounds bc (.cells ((clampL key).map bv++spare).toArray 5)):=B2.addSet hbc _
   generalize h2.setIfInBounds bc (.cells ((clampL key).map bv++spare).toArray 5)=h3 at *
   have lc16:=clampL_length key
   have oc:OBs h.size 5 h3 (.slice (some ⟨bc,0,none⟩) L.length cap) (clampL key):=
    ⟨.inr ⟨bc,cap,spare,hbc,by rw [l16,lc16],hx3,by simp,by rw [hsp,l16,lc16],by omega⟩,wB⟩
   simp -implicitDefEqProofs (maxSteps:=2000000) only [go_sem,↓reduceIte,f0,f1,f5,f36,f37,hge]
   refine (number_ok T _ _ (clampL key) 0 oc.bs lc16 (by omega)).use ?_
   rintro _ h4 ⟨rfl,b4⟩
   have B4:Bel h.size h h4:=B3.trans (b4.mono B3.size)
   have hR:=valD_lt16 wB lc16
   have hrv:val26 (numL (valD (clampL key)) 0)=valD (clampL key):=by rw [numL_val hR,Nat.mul_zero,Nat.add_zero]
   have hrl:=numL_lt (t:=0) hR (by omega)
   have hrn:=numL_length (valD (clampL key)) 0
   obtain ⟨R,hRR⟩:∃ R,R=numL (valD (clampL key)) 0:=⟨_,rfl⟩
   rw [← hRR] at hrv hrl hrn ⊢
   have lR:(R.map uv).length=5:=by simpa using hrn
   have hoR:(R.map uv).all oneC=true:=by simp [uv,oneC]
   have lp:lput [Value.int .u64 0,.int .u64 0,.int .u64 0,.int .u64 0,.int .u64 0] 0 (R.map uv)=R.map uv:=lput_full lR
   simp -implicitDefEqProofs (maxSteps:=2000000) only [go_sem,↓reduceIte,f0,f1,f5,f36,f37,lR,hoR,lp]
   obtain ⟨bR,hbR⟩:∃ b,b=h4.size:=⟨_,rfl⟩
   obtain ⟨bA,hbA⟩:∃ b,b=h4.size+1:=⟨_,rfl⟩
   obtain ⟨H,hH⟩:∃ H:Hp,H=((h4.push (.cells (R.map uv).toArray 236)).push (.cells #[.int .u64 0,.int .u64 0,.int .u64 0,.int .u64 0,.int .u64 0] 236)):=⟨_,rfl⟩
   have HB:Bel h.size h H:=by rw [hH]; exact (B4.addP B4.size _).addP (by have:=B4.size; simp; omega) _
   have HR:H[bR]? = some (limC R):=by
    rw [hH,hbR,get_push_ne (by simp),get_push_last]; unfold limC; rw [List.append_nil]
   have HA:H[bA]? = some (limC [0,0,0,0,0]):=by
    have:=get_push_last (h:=(h4.push (.cells (R.map uv).toArray 236))) (o:=.cells #[.int .u64 0,.int .u64 0,.int .u64 0,.int .u64 0,.int .u64 0] 236)
    rw [Array.size_push] at this
    rw [hH,hbA,this]; rfl
   have hlow:h.size≤bR:=by have:=B4.size; omega
   rw [← hH,← hbA,← hbR]
   have hbAR:bA=bR+1:=by omega
   clear hH hbA hbR
   have sd0:Bs h (F 1) (data.drop (16*0)):=by rw [f1]; exact sd
   have cu0:Cap (F 1):=by rw [f1]; exact cu
   refine VS.loop' (fun F g=>F 0=.slice p key.length c∧F 10=.pointer (some ⟨bR,0,none⟩)∧F 11=.pointer (some ⟨bA,0,none⟩)∧Bel h.size h g∧g[bR]? = some (limC R)∧∃ (k:Nat) (A:List Nat),16*k<data.length+16∧Bs h (F 1) (data.drop (16*k))∧Cap (F 1)∧g[bA]? = some (limC A)∧A.length=5∧LtAll 134217728 A∧val26 A % P130=accN (valD (clampL key)) data k)
    (fun F _=>vlen (F 1)) rfl ⟨f0,rfl,rfl,HB,HR,0,[0,0,0,0,0],by omega,sd0,cu0,HA,rfl,LtAll.five (by omega) (by omega) (by omega) (by omega) (by omega),rfl⟩ ?_
   clear f0 f1 f5 f36 f37 hge sd0 cu0 F HB HR HA H
   rintro F g ⟨f0,f10,f11,hg,gR,k,A,hk16,s1,cap1,gA,lA5,wA5,hacc⟩
   obtain ⟨q,d,f1,hqc⟩:=s1.open
   rw [f1] at s1 cap1
   have cap1:(data.drop (16*k)).length≤d:=cap1
   have hrl2:(data.drop (16*k)).length=data.length - 16*k:=List.length_drop
   by_cases hlt:16*k<data.length
   ·have hgt:(0:Int)<((data.drop (16*k)).length:Int):=by omega
    obtain ⟨rest,hrest⟩:∃ rest,rest=data.drop (16*k):=⟨_,rfl⟩
    have hblk:blkD data k=rest.take 16++[1]:=by rw [hrest]; rfl
    have hnext:data.drop (16*(k+1))=rest.drop 16:=by rw [hrest,List.drop_drop]; congr 1
    have wrest:Dg rest:=by rw [hrest]; exact fun x hx=>wd x (List.mem_of_mem_drop hx)
    rw [← hrest] at f1 s1 cap1 hqc hgt hrl2
    clear hrest
    have z17:(#[Value.int .u8 0,.int .u8 0,.int .u8 0,.int .u8 0,.int .u8 0,.int .u8 0,.int .u8 0,.int .u8 0,.int .u8 0,.int .u8 0,.int .u8 0,.int .u8 0,.int .u8 0,.int .u8 0,.int .u8 0,.int .u8 0,.int .u8 0]:Array Value)=((List.replicate 17 0).map bv).toArray:=rfl
    simp -implicitDefEqProofs (maxSteps:=2000000) only [go_sem,↓reduceIte,f0,f1,f10,f11,hgt,z17]
    have hone:=bv_one rest
    refine copy_one (E:=5) (E':=238) (c:=(List.replicate 17 0).map bv) tsl44 tn5 get_push_last ((s1.bel hg).bel (Bel.push (Nat.le_refl _) _)).sl hone (by simp; omega) ?_
    obtain ⟨n,hn⟩:∃ n,n=min rest.length 16:=⟨_,rfl⟩
    have hB:(rest.map bv).take n=(rest.take n).map bv:=List.map_take.symm
    have hBl:(rest.take n).length=n:=by rw [List.length_take]; omega
    have hB16:rest.take n=rest.take 16:=by
     by_cases hc:rest.length≤16
     ·rw [List.take_of_length_le (by omega),List.take_of_length_le (by omega)]
     ·rw [hn,Nat.min_eq_right (by omega)]
    rw [← hn,hB,lput_fill 17 _ (by omega),hBl,hB16]
    rw [hB16] at hBl
    have wB16:Dg (rest.take 16):=fun x hx=>wrest x (List.mem_of_mem_take hx)
    obtain ⟨B,hBB⟩:∃ B,B=rest.take 16:=⟨_,rfl⟩
    rw [← hBB] at hBl hblk wB16 ⊢
    have e17:(B++List.replicate (17 - n) 0).set n 1=blk17 B:=by rw [← hBl]; exact blk17_set (by omega)
    have hn17:(n:Int)<17:=by omega
    have hsetm:((B++List.replicate (17 - n) 0).map bv).set n (.int .u8 1)=(blk17 B).map bv:=by rw [← e17,List.map_set]; rfl
    have hl17:(B++List.replicate (17 - n) 0).length=17:=by simp; omega
    have hgsz:=hg.size
    have hbRlt:=lt_of_get gR
    have hbAlt:=lt_of_get gA
    obtain ⟨bw,hbw⟩:∃ bw,bw=g.size:=⟨_,rfl⟩
    have hGR:∀ o,((g.push o).setIfInBounds bw (.cells ((B++List.replicate (17 - n) 0).map bv).toArray 238))[bR]? = some (limC R):=fun o=>by
     rw [Array.getElem?_setIfInBounds,if_neg (by omega),get_push_ne (by omega)]; exact gR
    have hGA:∀ o,((g.push o).setIfInBounds bw (.cells ((B++List.replicate (17 - n) 0).map bv).toArray 238))[bA]? = some (limC A):=fun o=>by
     rw [Array.getElem?_setIfInBounds,if_neg (by omega),get_push_ne (by omega)]; exact gA
    have hGW:∀ o,((g.push o).setIfInBounds bw (.cells ((B++List.replicate (17 - n) 0).map bv).toArray 238))[bw]? = some (.cells ((B++List.replicate (17 - n) 0).map bv++[]).toArray 238):=fun o=>by
     rw [List.append_nil,hbw]; exact cells_new get_push_last
    have hGB:∀ o,Bel h.size h ((g.push o).setIfInBounds bw (.cells ((B++List.replicate (17 - n) 0).map bv).toArray 238)):=fun o=>(hg.addP hgsz _).addSet (by omega) _
    have hGS:∀ o,((g.push o).setIfInBounds bw (.cells ((B++List.replicate (17 - n) 0).map bv).toArray 238)).size=bw+1:=fun o=>by rw [Array.size_setIfInBounds,Array.size_push,hbw]
    rw [← hbw]
    specialize hGR (.cells ((List.replicate 17 0).map bv).toArray 238)
    specialize hGA (.cells ((List.replicate 17 0).map bv).toArray 238)
    specialize hGW (.cells ((List.replicate 17 0).map bv).toArray 238)
    specialize hGB (.cells ((List.replicate 17 0).map bv).toArray 238)
    specialize hGS (.cells ((List.replicate 17 0).map bv).toArray 238)
    obtain ⟨G1,hG1⟩:∃ G1,G1=((g.push (.cells ((List.replicate 17 0).map bv).toArray 238)).setIfInBounds bw (.cells ((B++List.replicate (17 - n) 0).map bv).toArray 238)):=⟨_,rfl⟩
    rw [← hG1] at hGR hGA hGW hGB hGS ⊢
    clear hG1
    have c1:wr1 G1 ⟨bw,n,none⟩ (.int .u8 1)=_:=cells_set (f:=bv) hGW (i:=n) (by rw [hl17]; omega) 1 rfl
    rw [e17] at c1
    have hW2:=cells_new (o:=.cells ((blk17 B).map bv++[]).toArray 238) hGW
    have hR2:(G1.setIfInBounds bw (.cells ((blk17 B).map bv++[]).toArray 238))[bR]? = some (limC R):=by rw [Array.getElem?_setIfInBounds,if_neg (by omega)]; exact hGR
    have hA2:(G1.setIfInBounds bw (.cells ((blk17 B).map bv++[]).toArray 238))[bA]? = some (limC A):=by rw [Array.getElem?_setIfInBounds,if_neg (by omega)]; exact hGA
    have hB2:Bel h.size h (G1.setIfInBounds bw (.cells ((blk17 B).map bv++[]).toArray 238)):=hGB.addSet (by omega) _
    have hS2:(G1.setIfInBounds bw (.cells ((blk17 B).map bv++[]).toArray 238)).size=bw+1:=by rw [Array.size_setIfInBounds,hGS]
    obtain ⟨G2,hG2⟩:∃ G2,G2=G1.setIfInBounds bw (.cells ((blk17 B).map bv++[]).toArray 238):=⟨_,rfl⟩
    rw [← hG2] at c1 hW2 hR2 hA2 hB2 hS2
    clear hG2 hGR hGA hGW hGB hGS
    have l17:=blk17_length (l:=B) (by omega)
    have w17:=blk17_dg wB16
    have o17:OBs h.size 238 G2 (.slice (some ⟨bw,0,none⟩) 17 17) (blk17 B):=
     ⟨.inr ⟨bw,17,[],by omega,by rw [l17],hW2,by simp,by rw [l17]; rfl,by omega⟩,w17⟩
    have s17:=Bs_take o17.bs (m:=16) (by omega) 17
    have t17:((blk17 B).take 16).length=16:=by rw [List.length_take]; omega
    have g16:=cells_get hW2 (i:=16) (by omega)
    unfold bv at g16
    have top1:=blk17_top (l:=B) (by omega)
    have hval:=blk17_val (l:=B) (by omega)
    have wt:=valD_lt16 (l:=(blk17 B).take 16) (fun x hx=>w17 x (List.mem_of_mem_take hx)) t17
    obtain ⟨top,htop⟩:∃ top,top=(blk17 B).getD 16 0:=⟨_,rfl⟩
    rw [← htop] at g16 top1 hval
    have em:((top:Nat):Int) % 18446744073709551616=(top:Nat):=by omega
    simp -implicitDefEqProofs (maxSteps:=2000000) only [go_sem,↓reduceIte,f0,f1,f10,f11,hn17,Int.toNat_natCast,hl17,c1]
    refine VS.w (bw+1) [] (.q 0 (.q 1 (.q 2 (.q 3 (.q 5 (.s 4 .nil)))))) mixed (by kernel_rfl) ?_
    simp -implicitDefEqProofs (maxSteps:=2000000) only [go_sem,↓reduceIte,g16,em]
    refine (number_ok T _ _ ((blk17 B).take 16) top s17 t17 top1).use ?_
    rintro _ G3 ⟨rfl,b3⟩
    rw [hS2] at b3
    have hR3:=b3.get (k:=bR) (by omega) hR2
    have hA3:=b3.get (k:=bA) (by omega) hA2
    have hB3:Bel h.size h G3:=hB2.trans (b3.mono (by omega))
    have hxv:=numL_val (t:=top) wt
    rw [hval] at hxv
    have hxl:=numL_lt (t:=top) wt top1
    have hxn:=numL_length (valD ((blk17 B).take 16)) top
    obtain ⟨X,hX⟩:∃ X,X=numL (valD ((blk17 B).take 16)) top:=⟨_,rfl⟩
    rw [← hX] at hxv hxl hxn ⊢
    rw [← hblk] at hxv
    have b3T:Bel (bw+1) G2 G3=True:=eq_true b3
    simp -implicitDefEqProofs (maxSteps:=2000000) only [go_sem,↓reduceIte,b3T]
    refine VS.loop' (fun F g=>F 0=.slice p key.length c∧F 1=.slice q rest.length d∧F 10=.pointer (some ⟨bR,0,none⟩)∧F 11=.pointer (some ⟨bA,0,none⟩)∧F 66=.agg (X.map uv).toArray∧∃ i:Nat,i≤5∧F 67=.int .i64 i∧g=G3.setIfInBounds bA (limC (addN A X i)))
     (fun F _=>5 - (vi (F 67)).toNat) rfl ⟨f0,f1,f10,f11,rfl,0,by omega,rfl,(set_same hA3).symm⟩ ?_
    clear f0 f1 f10 f11 F gR gA hg
    rintro F g' ⟨f0,f1,f10,f11,f66,i,hi,f67,rfl⟩
    have hx4:(G3.setIfInBounds bA (limC (addN A X i)))[bA]? = some (limC (addN A X i)):=cells_new hA3
    have lN:(addN A X i).length=5:=by rw [addN_length,lA5]
    have wN:=addN_lt wA5 hxl (by omega) (by omega) i
    by_cases hlt5:i<5
    ·have hlt5':(i:Int)<5:=by omega
     have hnx:addN A X (i+1)=(addN A X i).set i ((addN A X i).getD i 0+X.getD i 0):=rfl
     obtain ⟨r,hr⟩:∃ r,r=addN A X i:=⟨_,rfl⟩
     rw [← hr] at hx4 lN wN hnx ⊢
     obtain ⟨G,hG⟩:∃ G,G=G3.setIfInBounds bA (limC r):=⟨_,rfl⟩
     rw [← hG] at hx4 ⊢
     have n1:=nth_uv (l:=X) (i:=i) (by omega)
     have g1:=cells_get hx4 (i:=i) (by omega)
     unfold uv at g1
     have y1:=wN.getD (by omega) i
     have y2:=hxl.getD (by omega) i
     obtain ⟨a,ha⟩:∃ a,a=r.getD i 0:=⟨_,rfl⟩
     obtain ⟨b,hb⟩:∃ b,b=X.getD i 0:=⟨_,rfl⟩
     rw [← ha] at g1 y1 hnx
     rw [← hb] at n1 y2 hnx
     have e1:(a:Int)+(b:Int)=((a+b:Nat):Int):=rfl
     have e2:((a+b:Nat):Int) % 18446744073709551616=((a+b:Nat):Int):=by omega
     have c2:wr1 G ⟨bA,i,none⟩ (.int .u64 (a+b:Nat))=_:=cells_set (f:=uv) hx4 (i:=i) (by omega) (a+b) rfl
     simp -implicitDefEqProofs (maxSteps:=2000000) only [go_sem,↓reduceIte,f0,f1,f10,f11,f66,f67,hlt5',Int.toNat_natCast,Nat.zero_add,n1,g1,e1,e2,c2]
     refine ⟨⟨f0,f1,f10,f11,f66,i+1,hlt5,rfl,?_⟩,?_⟩
     ·rw [hG,set_set,hnx]; rfl
     ·simp only [vi,updo_some,↓reduceIte,f67]; omega
    ·have hge5:¬ (i:Int)<5:=by omega
     obtain rfl:i=5:=by omega
     have c5:((5:Nat):Int)=5:=rfl
     rw [c5] at f67 hge5
     obtain ⟨wN5,vN5⟩:=addN_law lA5 hxn wA5 hxl
     have hR4:(G3.setIfInBounds bA (limC (addN A X 5)))[bR]? = some (limC R):=by rw [Array.getElem?_setIfInBounds,if_neg (by omega)]; exact hR3
     have hB4:Bel h.size h (G3.setIfInBounds bA (limC (addN A X 5))):=hB3.addSet (by omega) _
     obtain ⟨N,hN⟩:∃ N,N=addN A X 5:=⟨_,rfl⟩
     rw [← hN] at hx4 lN wN5 vN5 hR4 hB4 ⊢
     generalize G3.setIfInBounds bA (limC N)=G4 at *
     have r1:=rd_lim lN hx4
     have r2:=rd_lim hrn hR4
     have lNm:(N.map uv).length=5:=by simpa using lN
     have tN:(N.map uv).take 5=N.map uv:=List.take_of_length_le (by omega)
     have tR:(R.map uv).take 5=R.map uv:=List.take_of_length_le (by omega)
     simp -implicitDefEqProofs (maxSteps:=2000000) only [go_sem,↓reduceIte,f0,f1,f10,f11,f66,f67,hge5,r1,r2]
     refine (limTimes_ok T G4 N R lN hrn wN5 hrl).use ?_
     rintro _ G5 ⟨rfl,b5⟩
     obtain ⟨w1,w2,w3⟩:=times_law lN hrn wN5 hrl
     obtain ⟨m1,m2,m3,_⟩:=carry_law w2 w1
     obtain ⟨M,hM⟩:∃ M,M=carryL (tmat N R 5):=⟨_,rfl⟩
     rw [← hM] at m1 m2 m3 ⊢
     have hA5:=b5.get (lt_of_get hx4) hx4
     have hR5:=b5.get (lt_of_get hR4) hR4
     have hB5:Bel h.size h G5:=hB4.trans (b5.mono hB4.size)
     have lM:(M.map uv).length=5:=by simpa using m1
     have hoM:(M.map uv).all oneC=true:=by simp [uv,oneC]
     have w5:=wr_get (h:=G5) (b:=bA) (l:=(N.map uv)) (by unfold limC at hA5; rw [List.append_nil] at hA5; exact hA5) 0 (M.map uv)
     rw [if_pos ⟨by simp [lM,lNm],hoM⟩,lput_full (by simp [lM,lNm])] at w5
     have hcap:(rest.length:Int)≤d:=by omega
     obtain ⟨mn,hmn⟩:∃ mn,mn=min 16 rest.length:=⟨_,rfl⟩
     have hmin:(if (rest.length:Int)<16 then (rest.length:Int) else 16)=((mn:Nat):Int):=by split <;> omega
     have hmle:(mn:Int)≤rest.length:=by omega
     have hdrop:rest.drop mn=data.drop (16*(k+1)):=by
      rw [hnext]
      by_cases hc:rest.length≤16
      ·rw [List.drop_of_length_le (by omega),List.drop_of_length_le (by omega)]
      ·rw [hmn,Nat.min_eq_left (by omega)]
     have s2:=Bs_back s1 rfl (k:=mn) (by omega) cap1 (d - mn)
     rw [hdrop] at s2
     have hval2:val26 M % P130=accN (valD (clampL key)) data (k+1):=by
      rw [m3,w3,vN5,hxv,hrv,accN,← hacc,Nat.mul_mod,← Nat.mod_add_mod,← Nat.mul_mod]
     simp -implicitDefEqProofs (maxSteps:=2000000) only [go_sem,↓reduceIte,f0,f1,f10,f11,w5,lM,hmin,hmle,Int.toNat_natCast,vSlcL_sub]
     refine ⟨⟨f0,f10,f11,hB5.addSet (by omega) _,?_,k+1,M,by omega,s2,?_,?_,m1,m2,hval2⟩,?_⟩
     ·rw [Array.getElem?_setIfInBounds,if_neg (by omega)]; exact hR5
     ·show rest.length - mn≤d - mn; omega
     ·have:=cells_new (o:=.cells (M.map uv).toArray 236) hA5
      unfold limC; rw [List.append_nil]; exact this
     ·show rest.length - mn<rest.length; omega
   ·have hngt:¬ (0:Int)<((data.drop (16*k)).length:Int):=by omega
    have hk2:k=(data.length+15) / 16:=by omega
    rw [hk2] at hacc
    obtain ⟨rest,hrest⟩:∃ rest,rest=data.drop (16*k):=⟨_,rfl⟩
    rw [← hrest] at f1 hngt
    have r1:=rd_lim lA5 gA
    have tA:(A.map uv).take 5=A.map uv:=List.take_of_length_le (by simp [lA5])
    simp -implicitDefEqProofs (maxSteps:=2000000) only [go_sem,↓reduceIte,f0,f1,f10,f11,hngt,r1]
    refine (limWhole_ok T g A lA5 (wA5.mono (by decide))).use ?_
    rintro _ g6 ⟨rfl,b6⟩
    obtain ⟨m1,m2,m3,m4⟩:=carry_law lA5 (wA5.mono (by decide))
    obtain ⟨q1,q2,q3⟩:=whole_law m1 m2 m4
    rw [m3,hacc] at q3
    obtain ⟨M,hM⟩:∃ M,M=wholeL (carryL A):=⟨_,rfl⟩
    rw [← hM] at q1 q2 q3 ⊢
    have hA6:=b6.get (lt_of_get gA) gA
    have hB6:Bel h.size h g6:=hg.trans (b6.mono hg.size)
    have lM:(M.map uv).length=5:=by simpa using q1
    have lAm:(A.map uv).length=5:=by simpa using lA5
    have hoM:(M.map uv).all oneC=true:=by simp [uv,oneC]
    have w5:=wr_get (h:=g6) (b:=bA) (l:=(A.map uv)) (by unfold limC at hA6; rw [List.append_nil] at hA6; exact hA6) 0 (M.map uv)
    rw [if_pos ⟨by simp [lM,lAm],hoM⟩,lput_full (by simp [lM,lAm])] at w5
    have hB7:Bel h.size h (g6.setIfInBounds bA (.cells (M.map uv).toArray 236)):=hB6.addSet (by omega) _
    have hA7:(g6.setIfInBounds bA (.cells (M.map uv).toArray 236))[bA]? = some (limC M):=by
     have:=cells_new (o:=.cells (M.map uv).toArray 236) hA6
     unfold limC; rw [List.append_nil]; exact this
    obtain ⟨g7,hg7⟩:∃ g7,g7=g6.setIfInBounds bA (.cells (M.map uv).toArray 236):=⟨_,rfl⟩
    rw [← hg7] at w5 hB7 hA7
    clear hg7
    have sm:Bs g7 (.slice (subA p 1 c 16) 16 (c - 16)) ((key.drop 16).take 16):=Bs_mid (sk.bel hB7) rfl (by omega) ck _
    have l16k:((key.drop 16).take 16).length=16:=by rw [List.length_take,List.length_drop]; omega
    have u2:(32:Int)≤c:=by omega
    have wkl:Dg ((key.drop 16).take 16):=fun x hx=>wk x (List.mem_of_mem_drop (List.mem_of_mem_take hx))
    simp -implicitDefEqProofs (maxSteps:=2000000) only [go_sem,↓reduceIte,f0,f1,f10,f11,w5,lM,u2,vSlcL_sub]
    refine (number_ok T _ _ _ 0 sm l16k (by omega)).use ?_
    rintro _ g8 ⟨rfl,b8⟩
    have hSv:=numL_val (t:=0) (valD_lt16 wkl l16k)
    rw [Nat.mul_zero,Nat.add_zero] at hSv
    have hSl:=numL_lt (t:=0) (valD_lt16 wkl l16k) (by omega)
    have hSn:=numL_length (valD ((key.drop 16).take 16)) 0
    obtain ⟨S,hS⟩:∃ S,S=numL (valD ((key.drop 16).take 16)) 0:=⟨_,rfl⟩
    rw [← hS] at hSv hSl hSn ⊢
    clear hS
    have hA8:=b8.get (lt_of_get hA7) hA7
    have hB8:Bel h.size h g8:=hB7.trans (b8.mono hB7.size)
    have lS:(S.map uv).length=5:=by simpa using hSn
    have hoS:(S.map uv).all oneC=true:=by simp [uv,oneC]
    have lpS:lput [Value.int .u64 0,.int .u64 0,.int .u64 0,.int .u64 0,.int .u64 0] 0 (S.map uv)=S.map uv:=lput_full lS
    simp -implicitDefEqProofs (maxSteps:=2000000) only [go_sem,↓reduceIte,f0,f1,f10,f11,lS,hoS,lpS,zero16]
    have T0:tagN key data=val26 M+val26 S:=by rw [q3,hSv]; rfl
    have hB9:Bel (g8.size+1) (g8.push (.cells (S.map uv).toArray 236)) ((g8.push (.cells (S.map uv).toArray 236)).push (.cells ((List.replicate 16 0).map bv).toArray 5)):=Bel.push (by simp) _
    have hS9:(g8.push (.cells (S.map uv).toArray 236))[g8.size]? = some (limC S):=by rw [get_push_last]; unfold limC; rw [List.append_nil]
    have hA9:(g8.push (.cells (S.map uv).toArray 236))[bA]? = some (limC M):=by rw [get_push_ne (lt_of_get hA8)]; exact hA8
    have hH9:Bel h.size h (g8.push (.cells (S.map uv).toArray 236)):=hB8.addP hB8.size _
    have o9:OBs (g8.size+1) 5 ((g8.push (.cells (S.map uv).toArray 236)).push (.cells ((List.replicate 16 0).map bv).toArray 5)) (.slice (some ⟨g8.size+1,0,none⟩) 0 16) []:=by
     refine ⟨.inr ⟨g8.size+1,16,(List.replicate 16 0).map bv,Nat.le_refl _,rfl,?_,rfl,by simp,Nat.zero_le _⟩,fun x hx=>by cases hx⟩
     have:=get_push_last (h:=g8.push (.cells (S.map uv).toArray 236)) (o:=.cells ((List.replicate 16 0).map bv).toArray 5)
     rw [Array.size_push] at this
     exact this
    have hbA8:=lt_of_get hA8
    have hlow8:=hB8.size
    have hz9:(g8.push (.cells (S.map uv).toArray 236)).size=g8.size+1:=by simp
    obtain ⟨bS,hbS⟩:∃ b,b=g8.size:=⟨_,rfl⟩
    rw [← hbS] at hB9 hS9 o9 hbA8 hlow8 hz9 ⊢
    obtain ⟨J,hJ⟩:∃ J,J=g8.push (.cells (S.map uv).toArray 236):=⟨_,rfl⟩
    rw [← hJ] at hB9 hS9 hA9 hH9 o9 hz9 ⊢
    clear hJ
    refine VS.loop' (fun F g=>F 11=.pointer (some ⟨bA,0,none⟩)∧F 16=.pointer (some ⟨bS,0,none⟩)∧Bel (bS+1) J g∧∃ (i n sum bits:Nat) (out:List Nat),i≤5∧F 87=.int .i64 i∧F 18=.int .u64 sum∧F 19=.int .u64 bits∧F 20=.int .i64 n∧OBs (bS+1) 5 g (F 17) out∧out.length=n∧bits<8∧26*i=8*n+bits∧sum<8*2 ^ bits∧tagN key data=valD out+256 ^ n*(sum+2 ^ bits*restV (M.drop i) (S.drop i)))
     (fun F _=>5 - (vi (F 87)).toNat) rfl ⟨f11,rfl,hB9,0,0,0,0,[],by omega,rfl,rfl,rfl,rfl,o9,rfl,by omega,by omega,by omega,by rw [T0,List.drop_zero,List.drop_zero,restV_eq _ _ (by omega)]; simp [valD]⟩ ?_
    clear f0 f1 f10 f11 F hB9 o9
    rintro F g' ⟨f11,f16,hg',i,n,sum,bits,out,hi,f87,f18,f19,f20,ho,hol,hb8,hbn,hsum,hT⟩
    have gA':=hg'.get (k:=bA) (by omega) hA9
    have gS':=hg'.get (k:=bS) (by omega) hS9
    have hgs':=hg'.size
    by_cases hlt:i<5
    ·have hlt':(i:Int)<5:=by omega
     rw [restV_drop (by omega) (by omega)] at hT
     have g1:=cells_get gA' (i:=i) (by omega)
     have g2:=cells_get gS' (i:=i) (by omega)
     unfold uv at g1 g2
     have y1:=q2.getD (by omega) i
     have y2:=hSl.getD (by omega) i
     obtain ⟨a,ha⟩:∃ a,a=M.getD i 0:=⟨_,rfl⟩
     obtain ⟨b,hb⟩:∃ b,b=S.getD i 0:=⟨_,rfl⟩
     rw [← ha] at g1 y1 hT
     rw [← hb] at g2 y2 hT
     have hT2:=add_law hT
     have hsum2:=sum_bound (c:=a+b) hsum (by omega)
     have p8:=pow_small hb8
     have hcb:(a+b)*2 ^ bits≤268435455*128:=Nat.mul_le_mul (by omega) p8
     have hs40:sum<1024:=by omega
     have e1:(a:Int)+(b:Int)=((a+b:Nat):Int):=rfl
     have e2:((a+b:Nat):Int) % 18446744073709551616=((a+b:Nat):Int):=by omega
     have e3:shlOp .u64 ((a+b:Nat):Int) (bits:Int)=(((a+b)*2 ^ bits:Nat):Int):=by
      rw [shl_u64 _ _ (by omega),Nat.mod_eq_of_lt (by omega)]
     obtain ⟨cc,hcc⟩:∃ cc,cc=(a+b)*2 ^ bits:=⟨_,rfl⟩
     rw [← hcc] at e3 hcb hT2 hsum2
     have e4:(sum:Int)+(cc:Int)=((sum+cc:Nat):Int):=rfl
     have e5:((sum+cc:Nat):Int) % 18446744073709551616=((sum+cc:Nat):Int):=by omega
     have e6:(bits:Int)+26=((bits+26:Nat):Int):=rfl
     have e7:((bits+26:Nat):Int) % 18446744073709551616=((bits+26:Nat):Int):=by omega
     have e8:¬ (bits:Int)<0:=by omega
     simp -implicitDefEqProofs (maxSteps:=2000000) only [go_sem,↓reduceIte,f11,f16,f18,f19,f20,f87,hlt']
     refine VS.q mixed (by kernel_rfl) ?_
     simp -implicitDefEqProofs (maxSteps:=2000000) only [go_sem,↓reduceIte,f11,f16,f18,f19,f20,f87,hlt',Int.toNat_natCast,Nat.zero_add,g1,g2,e1,e2,e3,e4,e5,e6,e7,e8]
     refine VS.loop' (fun F g=>F 11=.pointer (some ⟨bA,0,none⟩)∧F 16=.pointer (some ⟨bS,0,none⟩)∧F 87=.int .i64 i∧Bel (bS+1) J g∧∃ (n sum bits:Nat) (out:List Nat),F 18=.int .u64 sum∧F 19=.int .u64 bits∧F 20=.int .i64 n∧OBs (bS+1) 5 g (F 17) out∧out.length=n∧bits<34∧26*(i+1)=8*n+bits∧sum<8*2 ^ bits∧tagN key data=valD out+256 ^ n*(sum+2 ^ bits*restV (M.drop (i+1)) (S.drop (i+1))))
      (fun F _=>(vi (F 19)).toNat) rfl ⟨f11,f16,f87,hg',n,sum+cc,bits+26,out,rfl,rfl,f20,ho,hol,by omega,by omega,hsum2,hT2⟩ ?_
     clear f11 f16 f18 f19 f20 f87 ho hol hT hT2 hsum hsum2 hbn hb8 hg' gA' gS' hgs' g1 g2 e3 e4 e5 e6 e7 e8 p8 hcb hcc hs40 F cc
     clear n sum bits out g'
     rintro F g' ⟨f11,f16,f87,hg',n,sum,bits,out,f18,f19,f20,ho,hol,hb8,hbn,hsum,hT⟩
     have hgs':=hg'.size
     by_cases hb:8≤bits
     ·have hb1:(8:Int)≤bits:=by omega
      have hn1:(n:Int)<16:=by omega
      have hsum2:=cut_bound hsum hb
      have hT2:=emit_pow hb hT
      have hp:2 ^ bits≤2 ^ 34:=Nat.pow_le_pow_right (by decide) (by omega)
      have hs':sum<18446744073709551616:=Nat.lt_of_lt_of_le hsum (Nat.le_trans (Nat.mul_le_mul_left 8 hp) (by decide))
      have em:((sum:Nat):Int) % 256=((sum % 256:Nat):Int):=rfl
      have es:shrOp .u64 (sum:Int) 8=((sum / 256:Nat):Int):=shr_u64 sum 8 (by decide)
      have eb:(bits:Int) - 8=((bits - 8:Nat):Int):=by omega
      have eb2:((bits - 8:Nat):Int) % 18446744073709551616=((bits - 8:Nat):Int):=by omega
      simp -implicitDefEqProofs (maxSteps:=2000000) only [go_sem,↓reduceIte,f11,f16,f18,f19,f20,f87,hb1,hn1,em]
      have hX:sum % 256<256:=by omega
      refine append_bytes (E:=5) (B:=bS+1) tsl44 Tryz.underlying44 tn5 tz5 tb5 (ho.push _) (by simp; omega) (Bs.one hX 1) (by simp; omega) ?_
      intro v' h' ho' hb' _
      simp -implicitDefEqProofs (maxSteps:=2000000) only [go_sem,↓reduceIte,f11,f16,f18,f19,f20,f87,es,eb,eb2]
      refine ⟨⟨f11,f16,f87,(hg'.addP (by omega) _).trans hb',n+1,sum / 256,bits - 8,out++[sum % 256],rfl,rfl,rfl,ho',by simp [hol],by omega,by omega,hsum2,?_⟩,?_⟩
      ·rw [hT2,valD_snoc2,hol]
      ·simp only [vi,updo_some,↓reduceIte,Nat.reduceEqDiff,f19]; omega
     ·have hb1:¬ (8:Int)≤bits:=by omega
      have e9:(i:Int)+1=((i+1:Nat):Int):=rfl
      simp -implicitDefEqProofs (maxSteps:=2000000) only [go_sem,↓reduceIte,f11,f16,f18,f19,f20,f87,hb1,e9]
      refine ⟨⟨f11,f16,hg',i+1,n,sum,bits,out,hlt,rfl,f18,f19,f20,ho,hol,by omega,hbn,hsum,hT⟩,?_⟩
      simp only [vi,updo_some,↓reduceIte,f87]; omega
    ·have hge:¬ (i:Int)<5:=by omega
     obtain rfl:i=5:=by omega
     have c5:((5:Nat):Int)=5:=rfl
     rw [c5] at f87 hge
     obtain rfl:n=16:=by omega
     have e0:restV (M.drop 5) (S.drop 5)=0:=by rw [List.drop_of_length_le (by omega),List.drop_of_length_le (by omega)]; rfl
     rw [e0,Nat.mul_zero,Nat.add_zero] at hT
     have hfin:=tag_bytes ho.byte hol hT
     have htl:tagL key data=out:=hfin.symm
     simp -implicitDefEqProofs (maxSteps:=2000000) only [go_sem,↓reduceIte,f11,f16,f18,f19,f20,f87,hge]
     rw [htl]
     exact ⟨ho.mono (by omega),hH9.trans (hg'.mono (by omega))⟩
theorem polyTagE_ok (T:World) (h:Hp) (v u:Value) (key data:List Nat) (sk:Bs h v key) (sd:Bs h u data) (ck:Cap v) (cu:Cap u) :
  CallsH Tryz.prog T 136 #[v,u] h fun v' h'=>TagRes h.size h' v' key data∧Bel h.size h h':=by
 obtain ⟨p,c,rfl,hkc⟩:=sk.open
 obtain ⟨q,d,rfl,hdc⟩:=sd.open
 refine CallsH.of_code' (args:=[_,_]) Tryz.func136 rfl rfl rfl rfl ?_
 unfold TagRes
 by_cases hk:key.length=32
 ·by_cases hd:4000<data.length
  ·have hd':4000<(data.length:Int):=by omega
   have hk':(key.length:Int)=32:=by omega
   have e:tagErr key data=1:=by unfold tagErr; rw [if_pos (.inr hd)]
   rw [e]
   simp -implicitDefEqProofs (maxSteps:=2000000) only [go_sem,↓reduceIte,hd',hk']
   exact ⟨_,rfl,OBs.nil _ _ _⟩
  ·have hd':¬ 4000<(data.length:Int):=by omega
   have hk':(key.length:Int)=32:=by omega
   have e:tagErr key data=0:=by unfold tagErr; rw [if_neg (by omega)]
   rw [e,if_pos rfl]
   simp -implicitDefEqProofs (maxSteps:=2000000) only [go_sem,↓reduceIte,hd',hk']
   refine (polyTag_ok T _ _ _ key data sk sd hk (by omega) ck cu).use ?_
   rintro v1 h1 ⟨o1,b1⟩
   simp -implicitDefEqProofs (maxSteps:=2000000) only [go_sem,↓reduceIte]
   exact ⟨⟨_,rfl,o1⟩,b1⟩
 ·have hk':¬ (key.length:Int)=32:=by omega
  have e:tagErr key data=1:=by unfold tagErr; rw [if_pos (.inl hk)]
  rw [e]
  simp -implicitDefEqProofs (maxSteps:=2000000) only [go_sem,↓reduceIte,hk']
  exact ⟨_,rfl,OBs.nil _ _ _⟩
end Go.Proofs.YtnhbpmoeaodmnaaGreatDoor
