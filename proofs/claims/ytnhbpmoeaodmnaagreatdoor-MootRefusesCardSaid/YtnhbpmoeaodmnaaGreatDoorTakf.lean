/- Bytes padded to sixteen, lengths in eight bytes, and the tag of what is sealed, on both sides; no condition but those in the statements. -/
import Derived.Test.YtnhbpmoeaodmnaaGreatDoorPolg
import Derived.Test.YtnhbpmoeaodmnaaGreatDoorMix
import Derived.Test.YtnhbpmoeaodmnaaGreatDoorBytes
import Derived.Test.YtnhbpmoeaodmnaaGreatDoorVst
import Derived.Test.YtnhbpmoeaodmnaaGreatDoorW15
import Derived.Test.YtnhbpmoeaodmnaaGreatDoorLine
import Derived.Test.YtnhbpmoeaodmnaaGreatDoorW13
namespace Go.Proofs.YtnhbpmoeaodmnaaGreatDoor
open Go Go.V
set_option linter.unusedSimpArgs false
set_option linter.unusedVariables false
set_option maxRecDepth 100000
def padS (l:List Nat):List Nat:=l++List.replicate ((16 - l.length % 16) % 16) 0
def lowS (n:Nat):List Nat:=(List.range 8).map fun i=>n / 256 ^ i % 256
def sealData (known sealed:List Nat):List Nat:=padS known++padS sealed++lowS known.length++lowS sealed.length
def sealTagS (key nonce known sealed:List Nat):List Nat:=tagL ((blockS key 0 nonce).take 32) (sealData known sealed)
theorem padS_length (l:List Nat):(padS l).length=l.length+(16 - l.length % 16) % 16:=by simp [padS]
theorem padS_le (l:List Nat):(padS l).length≤l.length+15:=by rw [padS_length]; omega
theorem lowS_length (n:Nat):(lowS n).length=8:=by simp [lowS]
theorem padded_ok (T:World) (h:Hp) (v:Value) (l:List Nat) (s:Bs h v l) (hl:l.length≤4000) :
  CallsH Tryz.prog T 134 #[v] h fun v' h'=>OBs h.size 5 h' v' (padS l)∧Bel h.size h h':=by
 obtain ⟨p,c,rfl,hc1⟩:=s.open
 refine CallsH.of_code' (args:=[_]) Tryz.func134 rfl rfl rfl rfl ?_
 simp -implicitDefEqProofs (maxSteps:=2000000) only [go_sem,↓reduceIte]
 refine append_bytes (E:=5) (B:=h.size) tsl44 Tryz.underlying44 tn5 tz5 tb5 (OBs.nil _ _ _) (Nat.le_refl _) s (by simp; omega) ?_
 intro v1 h1 o1 b1 _
 rw [List.nil_append] at o1
 have e1:((l.length:Nat):Int).tmod 16=((l.length % 16:Nat):Int):=rfl
 have e2:(16:Int) - ((l.length % 16:Nat):Int)=((16 - l.length % 16:Nat):Int):=by omega
 have e3:((16 - l.length % 16:Nat):Int).tmod 16=(((16 - l.length % 16) % 16:Nat):Int):=rfl
 simp -implicitDefEqProofs (maxSteps:=2000000) only [go_sem,↓reduceIte,e1,e2,e3]
 refine append_noughts (E:=5) (B:=h.size) tsl44 Tryz.underlying3 tn5 tz5 tb5 o1 b1.size (by omega) ?_
 intro v2 h2 o2 b2 _
 simp -implicitDefEqProofs (maxSteps:=2000000) only [go_sem,↓reduceIte]
 exact ⟨o2,b1.trans b2⟩
theorem length_ok (T:World) (h:Hp) (n:Nat) (hn:n<9223372036854775808) :
  CallsH Tryz.prog T 135 #[.int .i64 n] h fun v' h'=>OBs h.size 5 h' v' (lowS n)∧Bel h.size h h':=by
 refine CallsH.of_code' (args:=[_]) Tryz.func135 rfl rfl rfl rfl ?_
 simp -implicitDefEqProofs (maxSteps:=2000000) only [go_sem,↓reduceIte]
 refine VS.loop' (fun F g=>Bel h.size h g∧F 0=.int .i64 n∧∃ j:Nat,j≤8∧F 4=.int .i64 (8*j:Nat)∧OBs h.size 5 g (F 3) ((lowS n).take j))
  (fun F _=>64 - (vi (F 4)).toNat) rfl ⟨Bel.refl _ _,rfl,0,by omega,rfl,OBs.nil _ _ _⟩ ?_
 rintro F g ⟨hg,f0,j,hj,f4,ho⟩
 have hgs:=hg.size
 by_cases hlt:j<8
 ·have hlt':((8*j:Nat):Int)<64:=by omega
  have e1:shrOp .i64 (n:Int) ((8*j:Nat):Int)=((n / 256 ^ j:Nat):Int):=by
   rw [shr_nat .i64 n (8*j) (by show 8*j≤64; omega),Nat.shiftRight_eq_div_pow,Nat.pow_mul]
  have e2:((n / 256 ^ j:Nat):Int) % 256=((n / 256 ^ j % 256:Nat):Int):=rfl
  have e3:¬ ((8*j:Nat):Int)<0:=by omega
  have e4:((8*j:Nat):Int)+8=((8*(j+1):Nat):Int):=by omega
  simp -implicitDefEqProofs (maxSteps:=2000000) only [go_sem,↓reduceIte,f0,f4,hlt',e1,e2,e3]
  have hX:n / 256 ^ j % 256<256:=Nat.mod_lt _ (by decide)
  refine append_bytes (E:=5) (B:=h.size) tsl44 Tryz.underlying44 tn5 tz5 tb5 (ho.push _) (by simp; omega) (Bs.one hX 1) (by simp [lowS_length]; omega) ?_
  intro v' h' ho' hb' _
  simp -implicitDefEqProofs (maxSteps:=2000000) only [go_sem,↓reduceIte,f0,f4,e4]
  refine ⟨⟨(hg.addP hgs _).trans hb',f0,j+1,hlt,rfl,?_⟩,?_⟩
  ·rw [take_snoc _ j (by rw [lowS_length]; exact hlt)]
   have e:(lowS n)[j]'(by rw [lowS_length]; exact hlt)=n / 256 ^ j % 256:=by simp [lowS]
   rw [e]; exact ho'
  ·simp only [vi,updo_some,↓reduceIte,f4]; omega
 ·have hge:¬ ((8*j:Nat):Int)<64:=by omega
  obtain rfl:j=8:=by omega
  rw [List.take_of_length_le (by rw [lowS_length]; exact Nat.le_refl _)] at ho
  simp -implicitDefEqProofs (maxSteps:=2000000) only [go_sem,↓reduceIte,f0,f4,hge]
  exact ⟨ho,hg⟩
theorem blockErr_fine {key nonce:List Nat} {k:Int} (hk:key.length=32) (hn:nonce.length=12) (h0:0≤k) (h1:k≤1073741824):blockErr key k nonce=0:=by
 unfold blockErr
 rw [if_neg (by omega),if_neg (by omega)]
theorem blockS_length (key:List Nat) (k:Nat) (nonce:List Nat):(blockS key k nonce).length=64:=by simp [blockS,outB]
theorem sealData_le {known sealed:List Nat} (hk:known.length≤256) (hs:sealed.length≤2000):(sealData known sealed).length≤2400:=by
 unfold sealData
 have h1:=padS_le known
 have h2:=padS_le sealed
 simp only [List.length_append,lowS_length]; omega
theorem tagErr_fine {key data:List Nat} (hk:key.length=32) (hd:data.length≤4000):tagErr key data=0:=by
 unfold tagErr; rw [if_neg (by omega)]
set_option maxHeartbeats 1000000 in
theorem sealTagP_ok (T:World) (h:Hp) (v u kn sv:Value) (key nonce known sealed:List Nat) (sk:Bs h v key) (sn:Bs h u nonce) (sw:Bs h kn known) (ss:Bs h sv sealed) (hk:key.length=32) (hn:nonce.length=12) (hw:known.length≤256) (hs:sealed.length≤2000) (ck:Cap v) (cn:Cap u) :
  CallsH Tryz.prog T 116 #[v,u,kn,sv] h fun v' h'=>OBs h.size 5 h' v' (sealTagS key nonce known sealed)∧Bel h.size h h':=by
 obtain ⟨pw,cw,rfl,_⟩:=sw.open
 obtain ⟨ps,cs,rfl,_⟩:=ss.open
 refine CallsH.of_code' (args:=[_,_,_,_]) Tryz.func116 rfl rfl rfl rfl ?_
 simp -implicitDefEqProofs (maxSteps:=2000000) only [go_sem,↓reduceIte]
 refine (block_ok T _ _ _ key nonce 0 sk sn ck cn).use ?_
 rintro _ h1 ⟨⟨w1,rfl,o1⟩,b1⟩
 have e0:=blockErr_fine (k:=0) hk hn (by decide) (by decide)
 rw [e0,if_pos rfl] at o1
 rw [e0]
 have o1:OBs h.size 5 h1 w1 (blockS key 0 nonce):=o1
 have z1:=b1.size
 simp -implicitDefEqProofs (maxSteps:=2000000) only [go_sem,↓reduceIte]
 refine (padded_ok T _ _ known (sw.bel b1) (by omega)).use ?_
 rintro v2 h2 ⟨o2,b2⟩
 have z2:=b2.size
 have B2:=b1.trans (b2.mono z1)
 simp -implicitDefEqProofs (maxSteps:=2000000) only [go_sem,↓reduceIte]
 refine (padded_ok T _ _ sealed (ss.bel B2) (by omega)).use ?_
 rintro v3 h3 ⟨o3,b3⟩
 have z3:=b3.size
 have B3:=B2.trans (b3.mono (by omega))
 have l1:=padS_le known
 have l2:=padS_le sealed
 simp -implicitDefEqProofs (maxSteps:=2000000) only [go_sem,↓reduceIte]
 refine append_bytes (E:=5) (B:=h1.size) tsl44 Tryz.underlying44 tn5 tz5 tb5 (o2.bel b3 (Nat.le_refl _)) (by omega) o3.bs (by omega) ?_
 intro v4 h4 o4 b4 _
 have z4:=b4.size
 simp -implicitDefEqProofs (maxSteps:=2000000) only [go_sem,↓reduceIte]
 refine (length_ok T _ known.length (by omega)).use ?_
 rintro v5 h5 ⟨o5,b5⟩
 have z5:=b5.size
 simp -implicitDefEqProofs (maxSteps:=2000000) only [go_sem,↓reduceIte]
 refine append_bytes (E:=5) (B:=h1.size) tsl44 Tryz.underlying44 tn5 tz5 tb5 (o4.bel b5 (Nat.le_refl _)) (by omega) o5.bs (by simp only [List.length_append,lowS_length]; omega) ?_
 intro v6 h6 o6 b6 _
 have z6:=b6.size
 simp -implicitDefEqProofs (maxSteps:=2000000) only [go_sem,↓reduceIte]
 refine (length_ok T _ sealed.length (by omega)).use ?_
 rintro v7 h7 ⟨o7,b7⟩
 have z7:=b7.size
 simp -implicitDefEqProofs (maxSteps:=2000000) only [go_sem,↓reduceIte]
 refine append_bytes (E:=5) (B:=h1.size) tsl44 Tryz.underlying44 tn5 tz5 tb5 (o6.bel b7 (Nat.le_refl _)) (by omega) o7.bs (by simp only [List.length_append,lowS_length]; omega) ?_
 intro v8 h8 o8 b8 _
 have z8:=b8.size
 have o8:OBs h1.size 5 h8 v8 (sealData known sealed):=o8
 have B8:Bel h1.size h1 h8:=(((((b2.trans (b3.mono z2)).trans b4).trans (b5.mono (by omega))).trans b6).trans (b7.mono (by omega))).trans b8
 have o1':=o1.bel B8 (Nat.le_refl _)
 have hlb:=blockS_length key 0 nonce
 obtain ⟨pb,cb,rfl,hcb⟩:=o1'.open
 rw [hlb] at hcb o1' ⊢
 have s32:=Bs_take o1'.bs (m:=32) (by omega) cb
 have c32:(32:Int)≤cb:=by omega
 have l32:((blockS key 0 nonce).take 32).length=32:=by rw [List.length_take]; omega
 have hd:=sealData_le hw hs
 simp -implicitDefEqProofs (maxSteps:=2000000) only [go_sem,↓reduceIte,c32]
 refine (polyTagE_ok T _ _ _ ((blockS key 0 nonce).take 32) (sealData known sealed) s32 o8.bs (show 32≤cb by omega) o8.cap).use ?_
 rintro _ h9 ⟨⟨w9,rfl,o9⟩,b9⟩
 have e9:=tagErr_fine (data:=sealData known sealed) l32 (by omega)
 rw [e9,if_pos rfl] at o9
 rw [e9]
 simp -implicitDefEqProofs (maxSteps:=2000000) only [go_sem,↓reduceIte]
 exact ⟨o9.mono (by omega),(b1.trans (B8.mono z1)).trans (b9.mono (by omega))⟩
def sealErr (k n w m most:Nat):Int:=if k≠32∨n≠12∨256<w∨most<m then 1 else 0
theorem sealErr_zero {k n w m most:Nat} (e:sealErr k n w m most=0):k=32∧n=12∧w≤256∧m≤most:=by
 unfold sealErr at e
 split at e
 ·cases e
 ·omega
theorem sealErr_one {k n w m most:Nat} (e:¬ sealErr k n w m most=0):sealErr k n w m most=1:=by
 unfold sealErr at e ⊢
 split
 ·rfl
 ·rename_i h; rw [if_neg h] at e; exact (e rfl).elim
theorem sealCheck_ok (T:World) (h:Hp) (p q r s:Option Addr) (k n w m c1 c2 c3 c4 most:Nat) :
  CallsH Tryz.prog T 115 #[.slice p k c1,.slice q n c2,.slice r w c3,.slice s m c4,.int .i64 most] h fun v' h'=>v'=.int .i64 (sealErr k n w m most)∧h'=h:=by
 refine CallsH.of_code' (args:=[_,_,_,_,_]) Tryz.func115 rfl rfl rfl rfl ?_
 unfold sealErr
 by_cases q0:k=32
 ·
  by_cases q1:n=12
  ·
   by_cases q2:w≤256
   ·
    by_cases q3:m≤most
    ·
     have c0:(k:Int)=32∨¬ (k:Int)=32:=by omega
     have c1:(n:Int)=12∨¬ (n:Int)=12:=by omega
     have c2:256<(w:Int)∨¬ 256<(w:Int):=by omega
     have c3:(most:Int)<(m:Int)∨¬ (most:Int)<(m:Int):=by omega
     rcases c0 with c0 | c0 <;> rcases c1 with c1 | c1 <;> rcases c2 with c2 | c2 <;> rcases c3 with c3 | c3 <;> first
      | (exfalso; omega)
      | (rw [if_neg (by omega)]; simp -implicitDefEqProofs (maxSteps:=2000000) only [go_sem,↓reduceIte,c0,c1,c2,c3])
      | (rw [if_pos (by omega)]; simp -implicitDefEqProofs (maxSteps:=2000000) only [go_sem,↓reduceIte,c0,c1,c2,c3])
    ·
     have c0:(k:Int)=32∨¬ (k:Int)=32:=by omega
     have c1:(n:Int)=12∨¬ (n:Int)=12:=by omega
     have c2:256<(w:Int)∨¬ 256<(w:Int):=by omega
     have c3:(most:Int)<(m:Int)∨¬ (most:Int)<(m:Int):=by omega
     rcases c0 with c0 | c0 <;> rcases c1 with c1 | c1 <;> rcases c2 with c2 | c2 <;> rcases c3 with c3 | c3 <;> first
      | (exfalso; omega)
      | (rw [if_neg (by omega)]; simp -implicitDefEqProofs (maxSteps:=2000000) only [go_sem,↓reduceIte,c0,c1,c2,c3])
      | (rw [if_pos (by omega)]; simp -implicitDefEqProofs (maxSteps:=2000000) only [go_sem,↓reduceIte,c0,c1,c2,c3])
   ·
    have c0:(k:Int)=32∨¬ (k:Int)=32:=by omega
    have c1:(n:Int)=12∨¬ (n:Int)=12:=by omega
    have c2:256<(w:Int)∨¬ 256<(w:Int):=by omega
    have c3:(most:Int)<(m:Int)∨¬ (most:Int)<(m:Int):=by omega
    rcases c0 with c0 | c0 <;> rcases c1 with c1 | c1 <;> rcases c2 with c2 | c2 <;> rcases c3 with c3 | c3 <;> first
     | (exfalso; omega)
     | (rw [if_neg (by omega)]; simp -implicitDefEqProofs (maxSteps:=2000000) only [go_sem,↓reduceIte,c0,c1,c2,c3])
     | (rw [if_pos (by omega)]; simp -implicitDefEqProofs (maxSteps:=2000000) only [go_sem,↓reduceIte,c0,c1,c2,c3])
  ·
   have c0:(k:Int)=32∨¬ (k:Int)=32:=by omega
   have c1:(n:Int)=12∨¬ (n:Int)=12:=by omega
   have c2:256<(w:Int)∨¬ 256<(w:Int):=by omega
   have c3:(most:Int)<(m:Int)∨¬ (most:Int)<(m:Int):=by omega
   rcases c0 with c0 | c0 <;> rcases c1 with c1 | c1 <;> rcases c2 with c2 | c2 <;> rcases c3 with c3 | c3 <;> first
    | (exfalso; omega)
    | (rw [if_neg (by omega)]; simp -implicitDefEqProofs (maxSteps:=2000000) only [go_sem,↓reduceIte,c0,c1,c2,c3])
    | (rw [if_pos (by omega)]; simp -implicitDefEqProofs (maxSteps:=2000000) only [go_sem,↓reduceIte,c0,c1,c2,c3])
 ·
  have c0:(k:Int)=32∨¬ (k:Int)=32:=by omega
  have c1:(n:Int)=12∨¬ (n:Int)=12:=by omega
  have c2:256<(w:Int)∨¬ 256<(w:Int):=by omega
  have c3:(most:Int)<(m:Int)∨¬ (most:Int)<(m:Int):=by omega
  rcases c0 with c0 | c0 <;> rcases c1 with c1 | c1 <;> rcases c2 with c2 | c2 <;> rcases c3 with c3 | c3 <;> first
   | (exfalso; omega)
   | (rw [if_neg (by omega)]; simp -implicitDefEqProofs (maxSteps:=2000000) only [go_sem,↓reduceIte,c0,c1,c2,c3])
   | (rw [if_pos (by omega)]; simp -implicitDefEqProofs (maxSteps:=2000000) only [go_sem,↓reduceIte,c0,c1,c2,c3])
theorem mixErr_fine {key nonce:List Nat} {k:Int} {n:Nat} (hk:key.length=32) (hn:nonce.length=12) (h0:0≤k) (h1:k≤1073741824) (hm:n≤2000):mixErr key k nonce n=0:=by
 unfold mixErr
 rw [blockErr_fine hk hn h0 h1,if_neg (by simp),if_neg (by omega)]
theorem tagL_le (key data:List Nat):(tagL key data).length≤16:=by rw [tagL_length]; exact Nat.le_refl _
theorem subA_zero (a:Option Addr) (c:Nat):subA a 1 c 0=a:=by
 unfold subA
 split
 ·rfl
 ·cases a with
  | none=>rfl
  | some a=>simp [Addr.add]
def openErr (key nonce known data:List Nat):Int:=if sealErr key.length nonce.length known.length data.length 2016≠0 then 1 else if data.length<16 then 13 else if sealTagS key nonce known (data.take (data.length - 16))≠data.drop (data.length - 16) then 6 else 0
def openS (key nonce data:List Nat):List Nat:=mixB key 1 nonce (data.take (data.length - 16))
def OpenRes (B:Nat) (h':Hp) (v':Value) (key nonce known data:List Nat):Prop:=∃ w,v'=.tuple [w,.int .i64 (openErr key nonce known data)].toArray∧OBs B 5 h' w (if openErr key nonce known data=0 then openS key nonce data else [])
theorem open_ok (T:World) (h:Hp) (v u kn sv:Value) (key nonce known data:List Nat) (sk:Bs h v key) (sn:Bs h u nonce) (sw:Bs h kn known) (ss:Bs h sv data) (ck:Cap v) (cn:Cap u) (cs:Cap sv) :
  CallsH Tryz.prog T 81 #[v,u,kn,sv] h fun v' h'=>OpenRes h.size h' v' key nonce known data∧Bel h.size h h':=by
 obtain ⟨p,c,rfl,_⟩:=sk.open
 obtain ⟨q,d,rfl,_⟩:=sn.open
 obtain ⟨pw,cw,rfl,_⟩:=sw.open
 obtain ⟨ps,cd,rfl,_⟩:=ss.open
 have cs:data.length≤cd:=cs
 refine CallsH.of_code' (args:=[_,_,_,_]) Tryz.func81 rfl rfl rfl rfl ?_
 unfold OpenRes
 simp -implicitDefEqProofs (maxSteps:=2000000) only [go_sem,↓reduceIte]
 refine (sealCheck_ok T _ _ _ _ _ _ _ _ _ _ _ _ _ 2016).pure ?_
 have hoe:openErr key nonce known data=if sealErr key.length nonce.length known.length data.length 2016≠0 then 1 else if data.length<16 then 13 else if sealTagS key nonce known (data.take (data.length - 16))≠data.drop (data.length - 16) then 6 else 0:=rfl
 by_cases e:sealErr key.length nonce.length known.length data.length 2016=0
 ·obtain ⟨hk,hn,hw,hs⟩:=sealErr_zero e
  rw [if_neg (by simp [e])] at hoe
  by_cases h16:data.length<16
  ·rw [if_pos h16] at hoe
   rw [hoe]
   have n0:(data.length:Int) - 16<0:=by omega
   simp -implicitDefEqProofs (maxSteps:=2000000) only [go_sem,↓reduceIte,e,n0]
   exact ⟨_,rfl,OBs.nil _ _ _⟩
  ·rw [if_neg h16] at hoe
   have n0:¬ ((data.length - 16:Nat):Int)<0:=by omega
   have n1:(data.length:Int) - 16=((data.length - 16:Nat):Int):=by omega
   have sfr:=Bs_take ss (m:=data.length - 16) (by omega) cd
   have sbk:=Bs_back ss rfl (k:=data.length - 16) (by omega) cs (cd - (data.length - 16))
   have lfr:(data.take (data.length - 16)).length=data.length - 16:=by rw [List.length_take]; omega
   have hle1:((data.length - 16:Nat):Int)≤cd:=by omega
   have hle2:((data.length - 16:Nat):Int)≤data.length:=by omega
   simp -implicitDefEqProofs (maxSteps:=2000000) only [go_sem,↓reduceIte,e,n1,n0]
   refine VS.w (h.size) [] (.q 0 (.q 1 (.q 2 (.q 3 (.q 4 (.q 5 (.q 7 (.q 8 (.q 9 (.s 6 (.s 10 (.q 11 .nil)))))))))))) mixed (by kernel_rfl) ?_
   simp -implicitDefEqProofs (maxSteps:=2000000) only [go_sem,↓reduceIte,hle1,hle2,Int.toNat_natCast,vSlcL_sub,subA_zero]
   refine (sealTagP_ok T _ _ _ _ _ key nonce known (data.take (data.length - 16)) sk sn sw sfr hk hn hw (by omega) ck cn).use ?_
   rintro v1 h1 ⟨o1,b1⟩
   have l1:(sealTagS key nonce known (data.take (data.length - 16))).length≤16:=tagL_le _ _
   simp -implicitDefEqProofs (maxSteps:=2000000) only [go_sem,↓reduceIte,b1]
   refine (same_ok T _ _ _ _ _ o1.bs (sbk.bel b1) (by omega)).pure ?_
   obtain ⟨S,hS⟩:∃ S,S=sealTagS key nonce known (data.take (data.length - 16)):=⟨_,rfl⟩
   rw [← hS] at hoe ⊢
   by_cases ht:S=data.drop (data.length - 16)
   ·rw [if_neg (by simp [ht])] at hoe
    rw [hoe,if_pos rfl]
    have ht':decide (S=data.drop (data.length - 16))=true:=decide_eq_true ht
    simp -implicitDefEqProofs (maxSteps:=2000000) only [go_sem,↓reduceIte,b1,ht',hle1,vSlcL_sub,subA_zero]
    refine (mix_ok T _ _ _ _ key nonce (data.take (data.length - 16)) 1 (sk.bel b1) (sn.bel b1) (sfr.bel b1) ck cn).use ?_
    rintro _ h2 ⟨⟨w2,rfl,o2⟩,b2⟩
    have e2:=mixErr_fine (k:=1) hk hn (by decide) (by decide) (show (data.take (data.length - 16)).length≤2000 by omega)
    rw [e2,if_pos rfl] at o2
    rw [e2]
    have o2:OBs h1.size 5 h2 w2 (openS key nonce data):=o2
    simp -implicitDefEqProofs (maxSteps:=2000000) only [go_sem,↓reduceIte]
    exact ⟨⟨_,rfl,o2.mono b1.size⟩,b1.trans (b2.mono b1.size)⟩
   ·rw [if_pos ht] at hoe
    rw [hoe]
    have ht':decide (S=data.drop (data.length - 16))=false:=decide_eq_false ht
    simp -implicitDefEqProofs (maxSteps:=2000000) only [go_sem,↓reduceIte,b1,ht']
    exact ⟨_,rfl,OBs.nil _ _ _⟩
 ·have e1:=sealErr_one e
  rw [if_pos e] at hoe
  rw [hoe]
  simp -implicitDefEqProofs (maxSteps:=2000000) only [go_sem,↓reduceIte,e1]
  exact ⟨_,rfl,OBs.nil _ _ _⟩
def head4 (n:Nat):List Nat:=[n / 16777216 % 256,n / 65536 % 256,n / 256 % 256,n % 256]
def nonceS (l:List Nat):List Nat:=List.replicate 8 0++l
theorem zero12:(zrep 12 [Value.int .u8 0])=(List.replicate 12 0).map bv:=rfl
theorem lineNonce_ok (T:World) (h:Hp) (v:Value) (l:List Nat) (s:Bs h v l) (hl:l.length≤1000) :
  CallsH Tryz.prog T 82 #[v] h fun v' h'=>OBs h.size 5 h' v' (nonceS l)∧Bel h.size h h':=by
 refine CallsH.of_code' (args:=[_]) Tryz.func82 rfl rfl rfl rfl ?_
 simp -implicitDefEqProofs (maxSteps:=2000000) only [go_sem,↓reduceIte,zero12]
 have o1:OBs h.size 5 (h.push (.cells ((List.replicate 12 0).map bv).toArray 5)) (.slice (some ⟨h.size,0,none⟩) 8 12) (List.replicate 8 0):=by
  refine ⟨.inr ⟨h.size,12,(List.replicate 4 0).map bv,Nat.le_refl _,rfl,?_,by simp,by simp,by simp⟩,fun x hx=>by rw [List.eq_of_mem_replicate hx]; decide⟩
  rw [get_push_last,← List.map_append]; rfl
 refine append_bytes (E:=5) (B:=h.size) tsl44 Tryz.underlying44 tn5 tz5 tb5 o1 (by simp) (s.bel (Bel.push (Nat.le_refl _) _)) (by simp; omega) ?_
 intro v' h' ho' hb' _
 simp -implicitDefEqProofs (maxSteps:=2000000) only [go_sem,↓reduceIte]
 exact ⟨ho',(Bel.push (Nat.le_refl _) _).trans hb'⟩
def noSeen:List Bool:=[false,false,false,false,false,false,false,false]
def ChanW (B:Nat) (h':Hp) (cw:Value) (e:Int) (kl:List Nat) (sent top:Int) (s:List Bool):Prop:=ChanRes B h' cw (if e=0 then kl else []) (if e=0 then sent else 0) (if e=0 then top else 0) (if e=0 then s else noSeen)
theorem chanErr_five (n:Nat) (sent top:Int) (s:List Bool):chanErr n sent top s=0∨chanErr n sent top s=5:=by
 unfold chanErr
 repeat' split
 all_goals simp
theorem chanErr_zero {n:Nat} {sent top:Int} {s:List Bool} (e:chanErr n sent top s=0):n=32∧0≤sent∧sent≤1073741824∧0≤top∧top≤1073741824:=by
 unfold chanErr at e
 split at e
 ·cases e
 ·omega
theorem wrZ {G:Hp} {b:Nat} (hx:G[b]? = some (.cells chanZ.toArray 138)) {w:List Value} (h11:w.length=11) (h1:w.all oneC=true):wr G ⟨b,0,none⟩ w=some (G.setIfInBounds b (.cells w.toArray 138)):=by
 rw [wr_get hx 0 w,lput_full (by rw [h11]; rfl),if_pos ⟨by rw [h11]; exact Nat.le_refl _,h1⟩]
def metB (top:Int) (s:List Bool) (n:Nat):Bool:=decide ((n:Int)<top - 8) || (decide ((n:Int)<top) && s.getD ((n:Int) - (top - 8)).toNat false)
theorem met_ok (T:World) (h:Hp) (k:Value) (sent top:Int) (s:List Bool) (n:Nat) (hs:s.length=8) (t0:0≤top) (t1:top≤1073741824) (hn:n<1073741824) :
  CallsH Tryz.prog T 80 #[.agg (chanC k sent top s).toArray,.int .i64 n] h fun v' h'=>v'=.bool (metB top s n)∧Bel h.size h h':=by
 have hC11:=chanC_length k sent top s hs
 have tk:=take_len hC11
 have n2:nth (chanC k sent top s) 2=some (.int .i64 top):=rfl
 refine CallsH.of_code' (args:=[_,_]) Tryz.func80 rfl rfl rfl rfl ?_
 unfold metB
 by_cases q1:(n:Int)<top - 8
 ·have d1:decide ((n:Int)<top - 8)=true:=decide_eq_true q1
  simp -implicitDefEqProofs (maxSteps:=2000000) only [go_sem,↓reduceIte,hC11,tk,n2,q1,d1,Bool.true_or]
 ·have d1:decide ((n:Int)<top - 8)=false:=decide_eq_false q1
  by_cases q2:(n:Int)<top
  ·have d2:decide ((n:Int)<top)=true:=decide_eq_true q2
   obtain ⟨i,hi⟩:∃ i:Nat,(n:Int) - (top - 8)=i:=⟨((n:Int) - (top - 8)).toNat,by omega⟩
   have hi8:i<8:=by omega
   have hi8':(i:Int)<8:=by omega
   have n3:nth (chanC k sent top s) (3+i)=some (.bool (s.getD i false)):=by
    have:=bools_nth s i (by omega)
    rw [nth_eq] at this ⊢
    rw [← this]
    show (k :: .int .i64 sent :: .int .i64 top :: s.map Value.bool)[3+i]? = _
    rw [Nat.add_comm]; rfl
   simp -implicitDefEqProofs (maxSteps:=2000000) only [go_sem,↓reduceIte,hC11,tk,n2,q1,q2,d1,d2,hi,hi8',Int.toNat_natCast,n3,Bool.false_or]
  ·have d2:decide ((n:Int)<top)=false:=decide_eq_false q2
   simp -implicitDefEqProofs (maxSteps:=2000000) only [go_sem,↓reduceIte,hC11,tk,n2,q1,q2,d1,d2,Bool.false_or]
theorem lput_three (k:Value) (sent top:Int) (s t:List Bool) (hs:s.length=8) (ht:t.length=8):lput (chanC k sent top s) 3 (t.map Value.bool)=chanC k sent top t:=by
 have:=lput_app [k,.int .i64 sent,.int .i64 top] (s.map Value.bool) (t.map Value.bool)
 rw [lput_full (by simp [hs,ht])] at this
 exact this
set_option maxHeartbeats 1000000 in
theorem with_ok (T:World) (h:Hp) (k:Value) (kl:List Nat) (sent top:Int) (s:List Bool) (n:Nat) (hs:s.length=8) (sk:Bs h k kl) (hk:kl.length≤140737488355328) (t0:0≤top) (t1:top≤1073741824) (hn:n<1073741824) (hm:¬ (n:Int)<top - 8) :
  CallsH Tryz.prog T 83 #[.agg (chanC k sent top s).toArray,.int .i64 n] h fun v' h'=>ChanRes h.size h' v' kl sent (max top (n+1)) (seenOf (metN top s 8++[(n:Int)]) (max top (n+1)))∧Bel h.size h h':=by
 obtain ⟨p,c,rfl,_⟩:=sk.open
 have hC11:=chanC_length (.slice p kl.length c) sent top s hs
 have tk:=take_len hC11
 refine CallsH.of_code2 (args:=[_,_]) Tryz.func83 rfl rfl rfl rfl ?_
 simp -implicitDefEqProofs (maxSteps:=2000000) only [go_sem,↓reduceIte,hC11,tk]
 have hpush:Bel h.size h ((h.push (.cells (chanC (.slice p kl.length c) sent top s).toArray 138)).push (.cells chanZ.toArray 138)):=by (repeat' (first | exact Bel.refl _ _ | assumption | refine Bel.add ?_ _ | refine Bel.addSet ?_ (by first | omega | (simp; omega)) _ | refine Bel.trans (by assumption) ?_))
 refine (own_ok T _ _ kl sent top s hs (sk.bel hpush) hk).use ?_
 rintro _ g1 ⟨⟨w,rfl,o1⟩,b1⟩
 have x0:g1[h.size]? = some (.cells (chanC (.slice p kl.length c) sent top s).toArray 138):=b1.get (by simp only [Array.size_push]; omega) (by simp only [Array.getElem?_push,Array.size_push,IntWalk.iteOmega,↓reduceIte])
 have x1:g1[h.size+1]? = some (.cells chanZ.toArray 138):=b1.get (by simp only [Array.size_push]; omega) (by simp only [Array.getElem?_push,Array.size_push,IntWalk.iteOmega,↓reduceIte] <;> rfl)
 have hB1:Bel h.size h g1:=hpush.trans (b1.mono (by simp; omega))
 have z1:=lt_of_get x1
 simp only [Array.size_push] at o1
 obtain ⟨pw,cw,rfl,_⟩:=o1.open
 clear b1 hpush
 have y2:V.hc g1 ⟨h.size,2,none⟩=some (.int .i64 top):=by rw [hc_last x0]; rfl
 have hD11:=chanC_length (.slice pw kl.length cw) sent top s hs
 have tkD:=take_len hD11
 have oD:=chanC_one (p:=pw) (n:=kl.length) (c:=cw) sent top s
 have lpD:∀ v,lput [v,.int .i64 0,.int .i64 0,.bool false,.bool false,.bool false,.bool false,.bool false,.bool false,.bool false,.bool false] 0 (chanC (.slice pw kl.length cw) sent top s)=chanC (.slice pw kl.length cw) sent top s:=fun v=>lput_full hD11
 have e1:(n:Int)+1=((n+1:Nat):Int):=rfl
 obtain ⟨TP,hTP⟩:∃ TP:Int,TP=max top (n+1):=⟨_,rfl⟩
 have hmax:(if ((n+1:Nat):Int) > top then ((n+1:Nat):Int) else top)=TP:=by rw [hTP]; split <;> omega
 have sD:(chanC (.slice pw kl.length cw) sent top s).set 2 (.int .i64 TP)=chanC (.slice pw kl.length cw) sent TP s:=rfl
 have hE11:=chanC_length (.slice pw kl.length cw) sent TP s hs
 have lE:lput (chanC (.slice pw kl.length cw) sent TP s) 3 [.bool false,.bool false,.bool false,.bool false,.bool false,.bool false,.bool false,.bool false]=chanC (.slice pw kl.length cw) sent TP (seenOf (metN top s 0) TP):=lput_three (.slice pw kl.length cw) sent TP s noSeen hs rfl
 have y0r:rd g1 ⟨h.size,3,none⟩ 8=some (s.map Value.bool):=by
  have hs':(s.map Value.bool).length=8:=by rw [List.length_map,hs]
  have:=rd_part x0 (o:=3) (n:=8) (by rw [hC11]; omega)
  rw [this]
  have e:(chanC (.slice p kl.length c) sent top s).drop 3=s.map Value.bool:=rfl
  rw [e,take_len hs']
 rw [← hTP]
 simp -implicitDefEqProofs (maxSteps:=2000000) only [go_sem,↓reduceIte,hD11,tkD,oD,lpD,y2,e1,hmax,sD,hE11,lE,y0r]
 obtain ⟨bo,hbo⟩:∃ b,b=g1.size:=⟨_,rfl⟩
 obtain ⟨J,hJ⟩:∃ J,J=g1.push (.cells (chanC (.slice pw kl.length cw) sent TP (seenOf (metN top s 0) TP)).toArray 138):=⟨_,rfl⟩
 have J5:J[bo]? = some (.cells (chanC (.slice pw kl.length cw) sent TP (seenOf (metN top s 0) TP)).toArray 138):=by rw [hJ,hbo]; exact get_push_last
 have J0:J[h.size]? = some (.cells (chanC (.slice p kl.length c) sent top s).toArray 138):=by rw [hJ,get_push_ne (by omega)]; exact x0
 have J1:J[h.size+1]? = some (.cells chanZ.toArray 138):=by rw [hJ,get_push_ne (by omega)]; exact x1
 have JB:Bel h.size h J:=by rw [hJ]; exact hB1.addP hB1.size _
 have Jo:OBs (h.size+1+1) 5 J (.slice pw kl.length cw) kl:=by rw [hJ]; exact o1.push _
 have Jlt:∀ b,blkOf (.slice pw kl.length cw)=some b→b<bo:=fun b hb=>by have:=o1.own.lt b hb; omega
 have Jsz:J.size=bo+1:=by rw [hJ,Array.size_push,hbo]
 rw [← hJ,← hbo]
 clear hJ
 refine VS.loop' (fun F g=>F 1=.int .i64 n∧F 2=.pointer (some ⟨h.size,0,none⟩)∧F 4=.pointer (some ⟨h.size+1,0,none⟩)∧F 5=.pointer (some ⟨bo,0,none⟩)∧F 20=.agg (s.map Value.bool).toArray∧∃ i:Nat,i≤8∧F 21=.int .i64 i∧g=J.setIfInBounds bo (.cells (chanC (.slice pw kl.length cw) sent TP (seenOf (metN top s i) TP)).toArray 138))
  (fun F _=>8 - (vi (F 21)).toNat) rfl ⟨rfl,rfl,rfl,rfl,rfl,0,by omega,rfl,(set_same J5).symm⟩ ?_
 rintro F g ⟨f1,f2,f4,f5,f20,i,hi,f21,rfl⟩
 have hx:=cells_new (o:=.cells (chanC (.slice pw kl.length cw) sent TP (seenOf (metN top s i) TP)).toArray 138) J5
 have hx0:(J.setIfInBounds bo (.cells (chanC (.slice pw kl.length cw) sent TP (seenOf (metN top s i) TP)).toArray 138))[h.size]? = some (.cells (chanC (.slice p kl.length c) sent top s).toArray 138):=by rw [Array.getElem?_setIfInBounds,if_neg (by omega)]; exact J0
 have sl8:=seenOf_length (metN top s i) TP
 have hnext:=metN_succ top s i
 obtain ⟨SS,hSS⟩:∃ SS,SS=seenOf (metN top s i) TP:=⟨_,rfl⟩
 by_cases hlt:i<8
 ·have hlt':(i:Int)<8:=by omega
  rw [← hSS] at hx hx0 sl8 ⊢
  obtain ⟨G,hG⟩:∃ G,G=J.setIfInBounds bo (.cells (chanC (.slice pw kl.length cw) sent TP SS).toArray 138):=⟨_,rfl⟩
  rw [← hG] at hx hx0 ⊢
  have n1:=bools_nth s i (by omega)
  have y2:V.hc G ⟨h.size,2,none⟩=some (.int .i64 top):=by rw [hc_last hx0]; rfl
  have y5:V.hc G ⟨bo,2,none⟩=some (.int .i64 TP):=by rw [hc_last hx]; rfl
  obtain ⟨b,hb⟩:∃ b,b=s.getD i false:=⟨_,rfl⟩
  rw [← hb] at n1 hnext
  cases b with
  | false=>
   rw [if_neg (by decide),List.append_nil] at hnext
   simp -implicitDefEqProofs (maxSteps:=2000000) only [go_sem,↓reduceIte,f1,f2,f4,f5,f20,f21,hlt',Int.toNat_natCast,n1,y2,y5]
   refine ⟨⟨f1,f2,f4,f5,f20,i+1,hlt,rfl,?_⟩,?_⟩
   ·rw [hnext,hG,hSS]
   ·simp only [vi,updo_some,↓reduceIte,f21]; omega
  | true=>
   rw [if_pos rfl] at hnext
   have hsn:=seenOf_snoc (metN top s i) TP (top - 8+(i:Int)) (by omega)
   rw [← hnext,← hSS] at hsn
   have ex:top - 8+(i:Int) - TP+8=top+(i:Int) - TP:=by omega
   rw [ex] at hsn
   by_cases hk0:0≤top+(i:Int) - TP
   ·rw [if_pos hk0] at hsn
    obtain ⟨j,hj⟩:∃ j:Nat,top+(i:Int) - TP=j:=⟨(top+(i:Int) - TP).toNat,by omega⟩
    rw [hj,Int.toNat_natCast] at hsn
    have hj8:(j:Int)<8:=by omega
    have hj0:(0:Int)≤(j:Int):=by omega
    have hj8':j<8:=by omega
    have hlen:=chanC_length (.slice pw kl.length cw) sent TP SS sl8
    have w1:wr1 G ⟨bo,3+j,none⟩ (.bool true)=some (G.setIfInBounds bo (.cells (chanC (.slice pw kl.length cw) sent TP (SS.set j true)).toArray 138)):=by
     rw [wr1_get hx,if_pos ⟨by rw [hlen]; omega,rfl⟩,chan_set]
    simp -implicitDefEqProofs (maxSteps:=2000000) only [go_sem,↓reduceIte,f1,f2,f4,f5,f20,f21,hlt',Int.toNat_natCast,n1,y2,y5,hj,hj0,hj8,w1]
    refine ⟨⟨f1,f2,f4,f5,f20,i+1,hlt,rfl,?_⟩,?_⟩
    ·rw [hsn,hG,set_set]
    ·simp only [vi,updo_some,↓reduceIte,f21]; omega
   ·rw [if_neg hk0] at hsn
    simp -implicitDefEqProofs (maxSteps:=2000000) only [go_sem,↓reduceIte,f1,f2,f4,f5,f20,f21,hlt',Int.toNat_natCast,n1,y2,y5,hk0]
    refine ⟨⟨f1,f2,f4,f5,f20,i+1,hlt,rfl,?_⟩,?_⟩
    ·rw [hsn,hG]
    ·simp only [vi,updo_some,↓reduceIte,f21]; omega
 ·have hge:¬ (i:Int)<8:=by omega
  obtain rfl:i=8:=by omega
  have c8:((8:Nat):Int)=8:=rfl
  rw [c8] at f21 hge
  have hsn:=seenOf_snoc (metN top s 8) TP (n:Int) (by omega)
  rw [if_pos (by omega),← hSS] at hsn
  have hx1:(J.setIfInBounds bo (.cells (chanC (.slice pw kl.length cw) sent TP (seenOf (metN top s 8) TP)).toArray 138))[h.size+1]? = some (.cells chanZ.toArray 138):=by rw [Array.getElem?_setIfInBounds,if_neg (by omega)]; exact J1
  have HB:=JB.addSet (b:=bo) (by omega) (.cells (chanC (.slice pw kl.length cw) sent TP (seenOf (metN top s 8) TP)).toArray 138)
  have HO:OBs (h.size+1+1) 5 (J.setIfInBounds bo (.cells (chanC (.slice pw kl.length cw) sent TP (seenOf (metN top s 8) TP)).toArray 138)) (.slice pw kl.length cw) kl:=
   Jo.but (x:=some bo) ⟨by simp,fun b hb hne=>by rw [Array.getElem?_setIfInBounds,if_neg (fun e=>hne (by rw [e]))]⟩ (fun b hb e=>by have:=Jlt b hb; simp at e; omega)
  rw [← hSS] at hx hx1 HB HO sl8 ⊢
  obtain ⟨j,hj⟩:∃ j:Nat,(n:Int) - (TP - 8)=j:=⟨((n:Int) - (TP - 8)).toNat,by omega⟩
  have hj2:(n:Int) - TP+8=j:=by omega
  rw [hj2,Int.toNat_natCast] at hsn
  have hj8:(j:Int)<8:=by omega
  have hlen:=chanC_length (.slice pw kl.length cw) sent TP SS sl8
  obtain ⟨G,hG⟩:∃ G,G=J.setIfInBounds bo (.cells (chanC (.slice pw kl.length cw) sent TP SS).toArray 138):=⟨_,rfl⟩
  rw [← hG] at hx hx1 HB HO ⊢
  have y5:V.hc G ⟨bo,2,none⟩=some (.int .i64 TP):=by rw [hc_last hx]; rfl
  have w1:wr1 G ⟨bo,3+j,none⟩ (.bool true)=some (G.setIfInBounds bo (.cells (chanC (.slice pw kl.length cw) sent TP (SS.set j true)).toArray 138)):=by
   rw [wr1_get hx,if_pos ⟨by rw [hlen]; omega,rfl⟩,chan_set]
  rw [hsn]
  have sl8':(SS.set j true).length=8:=by rw [List.length_set]; exact sl8
  obtain ⟨S2,hS2⟩:∃ S2,S2=SS.set j true:=⟨_,rfl⟩
  rw [← hS2] at w1 sl8' ⊢
  have hlen2:=chanC_length (.slice pw kl.length cw) sent TP S2 sl8'
  have o2:=chanC_one (p:=pw) (n:=kl.length) (c:=cw) sent TP S2
  have tk2:=take_len hlen2
  have hxb:=cells_new (o:=.cells (chanC (.slice pw kl.length cw) sent TP S2).toArray 138) hx
  have rb:=rd_last hxb hlen2
  have hx1b:(G.setIfInBounds bo (.cells (chanC (.slice pw kl.length cw) sent TP S2).toArray 138))[h.size+1]? = some (.cells chanZ.toArray 138):=by rw [Array.getElem?_setIfInBounds,if_neg (by omega)]; exact hx1
  have w2:=wrZ hx1b hlen2 o2
  have k5:=lt_of_get hx1
  have HO2:OBs (h.size+1+1) 5 (G.setIfInBounds bo (.cells (chanC (.slice pw kl.length cw) sent TP S2).toArray 138)) (.slice pw kl.length cw) kl:=
   HO.but (x:=some bo) ⟨by simp,fun b hb hne=>by rw [Array.getElem?_setIfInBounds,if_neg (fun e=>hne (by rw [e]))]⟩ (fun b hb e=>by have:=Jlt b hb; simp at e; omega)
  have HB2:=(HB.addSet (b:=bo) (by omega) (.cells (chanC (.slice pw kl.length cw) sent TP S2).toArray 138)).addSet (b:=h.size+1) (by omega) (.cells (chanC (.slice pw kl.length cw) sent TP S2).toArray 138)
  simp -implicitDefEqProofs (maxSteps:=2000000) only [go_sem,↓reduceIte,f1,f2,f4,f5,f20,f21,hge,y5,hj,hj8,Int.toNat_natCast,w1,rb,w2,hlen2,tk2,k5]
  exact ⟨⟨_,rfl,(HO2.setLow (by omega) _).mono (by omega)⟩,HB2⟩
theorem shifted4 {a b c d:Nat} (ha:a<256) (hb:b<256) (hc:c<256) (hd:d<256):bitOp .or .i64 (bitOp .or .i64 (bitOp .or .i64 (shlOp .i64 (a:Int) 24) (shlOp .i64 (b:Int) 16)) (shlOp .i64 (c:Int) 8)) (d:Int)=((16777216*a+65536*b+256*c+d:Nat):Int):=by
 have e1:shlOp .i64 (a:Int) 24=((a*16777216:Nat):Int):=shl_byte ha 24 (by omega)
 have e2:shlOp .i64 (b:Int) 16=((b*65536:Nat):Int):=shl_byte hb 16 (by omega)
 have e3:shlOp .i64 (c:Int) 8=((c*256:Nat):Int):=shl_byte hc 8 (by omega)
 have f1:a*16777216 ||| b*65536=a*16777216+b*65536:=or_add (k:=24) (by omega) (by omega)
 have f2:(a*16777216+b*65536) ||| c*256=a*16777216+b*65536+c*256:=or_add (k:=16) (by omega) (by omega)
 rw [e1,e2,e3,or_i64 _ _ (by omega) (by omega),f1,or_i64 _ _ (by omega) (by omega),f2,or_i64 _ _ (by omega) (by omega),or_add (k:=8) (by omega) (by omega)]
 congr 1; omega
def rec4 (l:List Nat):Nat:=16777216*l.getD 0 0+65536*l.getD 1 0+256*l.getD 2 0+l.getD 3 0
theorem head4_rec4 {l:List Nat} (w:∀ x∈l,x<256) (hl:4≤l.length):head4 (rec4 l)=l.take 4:=by
 match l,hl with
 | a :: b :: c :: d :: l,_=>
  have h1:=w a (by simp)
  have h2:=w b (by simp)
  have h3:=w c (by simp)
  have h4:=w d (by simp)
  show [_,_,_,_]=[a,b,c,d]
  have e:rec4 (a :: b :: c :: d :: l)=16777216*a+65536*b+256*c+d:=rfl
  rw [e]
  congr 1
  ·omega
  ·congr 1
   ·omega
   ·congr 1
    ·omega
    ·congr 1
     omega
theorem bound4 {a b c d:Nat} (ha:a<256) (hb:b<256) (hc:c<256) (hd:d<256):16777216*a+65536*b+256*c+d<4294967296:=by omega
theorem rec4_eq (l:List Nat):rec4 l=16777216*l.getD 0 0+65536*l.getD 1 0+256*l.getD 2 0+l.getD 3 0:=by unfold rec4; rfl
def takeErr (kl:List Nat) (sent top:Int) (s:List Bool) (rc:List Nat):Int:=
 if chanErr kl.length sent top s≠0 then 5 else if 2020<rc.length then 1 else if rc.length<20 then 13 else if 1073741824≤rec4 rc then 2 else
 if metB top s (rec4 rc)=true then 7 else openErr kl (nonceS (head4 (rec4 rc))) (head4 (rec4 rc)) (rc.drop 4)
def takeS (kl rc:List Nat):List Nat:=openS kl (nonceS (head4 (rec4 rc))) (rc.drop 4)
def seenT (top:Int) (s:List Bool) (n:Nat):List Bool:=seenOf (metN top s 8++[(n:Int)]) (max top (n+1))
def TakeRes (B:Nat) (h':Hp) (v':Value) (kl:List Nat) (sent top:Int) (s:List Bool) (rc:List Nat):Prop:=∃ cw w,v'=.tuple [cw,w,.int .i64 (takeErr kl sent top s rc)].toArray ∧
 ChanW B h' cw (takeErr kl sent top s rc) kl sent (max top (rec4 rc+1)) (seenT top s (rec4 rc))∧OBs B 5 h' w (if takeErr kl sent top s rc=0 then takeS kl rc else [])
theorem metB_low {top:Int} {s:List Bool} {n:Nat} (h:¬ metB top s n=true):¬ (n:Int)<top - 8:=by
 intro hlt
 apply h
 unfold metB
 rw [decide_eq_true hlt]; rfl
set_option maxHeartbeats 2000000 in
theorem lineTake_ok (T:World) (h:Hp) (k u:Value) (kl rc:List Nat) (sent top:Int) (s:List Bool) (hs:s.length=8) (sk:Bs h k kl) (sp:Bs h u rc) (ck:Cap k) (cu:Cap u) :
  CallsH Tryz.prog T 53 #[.agg (chanC k sent top s).toArray,u] h fun v' h'=>TakeRes h.size h' v' kl sent top s rc∧Bel h.size h h':=by
 have wr':=sp.byte
 obtain ⟨p,c,rfl,_⟩:=sk.open
 obtain ⟨q,d,rfl,hqc⟩:=sp.opend
 have cu:rc.length≤d:=cu
 have hC11:=chanC_length (.slice p kl.length c) sent top s hs
 have tk:=take_len hC11
 refine CallsH.of_code2 (args:=[_,_]) Tryz.func53 rfl rfl rfl rfl ?_
 simp -implicitDefEqProofs (maxSteps:=2000000) only [go_sem,↓reduceIte,hC11,tk]
 have hpush:Bel h.size h ((h.push (.cells (chanC (.slice p kl.length c) sent top s).toArray 138)).push (.cells chanZ.toArray 138)):=by (repeat' (first | exact Bel.refl _ _ | assumption | refine Bel.add ?_ _ | refine Bel.addSet ?_ (by first | omega | (simp; omega)) _ | refine Bel.trans (by assumption) ?_))
 refine (lineCheck_ok T _ p kl.length c sent top s hs).use ?_
 rintro _ g1 ⟨rfl,b1⟩
 have x0:g1[h.size]? = some (.cells (chanC (.slice p kl.length c) sent top s).toArray 138):=b1.get (by simp only [Array.size_push]; omega) (by simp only [Array.getElem?_push,Array.size_push,IntWalk.iteOmega,↓reduceIte])
 have x1:g1[h.size+1]? = some (.cells chanZ.toArray 138):=b1.get (by simp only [Array.size_push]; omega) (by simp only [Array.getElem?_push,Array.size_push,IntWalk.iteOmega,↓reduceIte] <;> rfl)
 have hB1:Bel h.size h g1:=hpush.trans (b1.mono (by simp; omega))
 have z1:=lt_of_get x1
 clear b1 hpush
 have hse:takeErr kl sent top s rc=if chanErr kl.length sent top s≠0 then 5 else if 2020<rc.length then 1 else if rc.length<20 then 13 else if 1073741824≤rec4 rc then 2 else
 if metB top s (rec4 rc)=true then 7 else openErr kl (nonceS (head4 (rec4 rc))) (head4 (rec4 rc)) (rc.drop 4):=rfl
 unfold TakeRes ChanW takeS
 have hbe:rec4 rc=16777216*rc.getD 0 0+65536*rc.getD 1 0+256*rc.getD 2 0+rc.getD 3 0:=rec4_eq rc
 have h4:4≤rc.length→head4 (rec4 rc)=rc.take 4:=fun hl=>head4_rec4 wr' hl
 obtain ⟨E,hE⟩:∃ E,E=takeErr kl sent top s rc:=⟨_,rfl⟩
 rw [← hE] at hse ⊢
 clear hE
 obtain ⟨n,hn⟩:∃ n,n=rec4 rc:=⟨_,rfl⟩
 rw [← hn] at hse hbe h4 ⊢
 clear hn
 have wz:∀ g:Hp,g[h.size+1]? = some (.cells chanZ.toArray 138)→wr g ⟨h.size+1,0,none⟩ [.slice none 0 0,.int .i64 0,.int .i64 0,.bool false,.bool false,.bool false,.bool false,.bool false,.bool false,.bool false,.bool false]=some (g.setIfInBounds (h.size+1) (.cells [.slice none 0 0,.int .i64 0,.int .i64 0,.bool false,.bool false,.bool false,.bool false,.bool false,.bool false,.bool false,.bool false].toArray 138)):=fun g hg=>wrZ hg rfl rfl
 have hBz:∀ g:Hp,Bel h.size h g→Bel h.size h (g.setIfInBounds (h.size+1) (.cells #[.slice none 0 0,.int .i64 0,.int .i64 0,.bool false,.bool false,.bool false,.bool false,.bool false,.bool false,.bool false,.bool false] 138)):=fun g hg=>hg.addSet (by omega) _
 have wz1:=wz g1 x1
 by_cases e0:chanErr kl.length sent top s=0
 ·obtain ⟨hk,s0,s1,t0,t1⟩:=chanErr_zero e0
  rw [if_neg (by simp [e0])] at hse
  by_cases hm:2020<rc.length
  ·rw [if_pos hm] at hse
   have hm':2020<(rc.length:Int):=by omega
   simp -implicitDefEqProofs (maxSteps:=2000000) only [go_sem,↓reduceIte,e0,hm',wz1,z1]
   exact ⟨⟨_,_,by rw [hse]; rfl,⟨_,rfl,OBs.nil _ _ _⟩,OBs.nil _ _ _⟩,hBz _ hB1⟩
  ·rw [if_neg hm] at hse
   have hm':¬ 2020<(rc.length:Int):=by omega
   by_cases hm2:rc.length<20
   ·rw [if_pos hm2] at hse
    have hm2':(rc.length:Int)<20:=by omega
    simp -implicitDefEqProofs (maxSteps:=2000000) only [go_sem,↓reduceIte,e0,hm',hm2',wz1,z1]
    exact ⟨⟨_,_,by rw [hse]; rfl,⟨_,rfl,OBs.nil _ _ _⟩,OBs.nil _ _ _⟩,hBz _ hB1⟩
   ·rw [if_neg hm2] at hse
    have hm2':¬ (rc.length:Int)<20:=by omega
    obtain ⟨bb,oo,rfl,hbb,hqc⟩:=hqc (by intro e; rw [e] at hm2; simp at hm2)
    have u0:V.hc g1 ⟨bb,oo+0,none⟩=some (.int .u8 (rc.getD 0 0:Nat)):=by rw [hB1.hc (by exact hbb)]; exact hqc 0 (by omega)
    have u1:V.hc g1 ⟨bb,oo+1,none⟩=some (.int .u8 (rc.getD 1 0:Nat)):=by rw [hB1.hc (by exact hbb)]; exact hqc 1 (by omega)
    have u2:V.hc g1 ⟨bb,oo+2,none⟩=some (.int .u8 (rc.getD 2 0:Nat)):=by rw [hB1.hc (by exact hbb)]; exact hqc 2 (by omega)
    have u3:V.hc g1 ⟨bb,oo+3,none⟩=some (.int .u8 (rc.getD 3 0:Nat)):=by rw [hB1.hc (by exact hbb)]; exact hqc 3 (by omega)
    rw [Nat.add_zero] at u0
    have w0:=getD_byte wr' 0
    have w1:=getD_byte wr' 1
    have w2:=getD_byte wr' 2
    have w3:=getD_byte wr' 3
    have h4:=h4 (by omega)
    have s4:=Bs_take sp (m:=4) (by omega) 4
    rw [← h4] at s4
    generalize rc.getD 0 0=r0 at *
    generalize rc.getD 1 0=r1 at *
    generalize rc.getD 2 0=r2 at *
    generalize rc.getD 3 0=r3 at *
    have hseU:Unit→_:=fun _=>hse
    clear hse
    have hn32:n<4294967296:=by rw [hbe]; exact bound4 w0 w1 w2 w3
    have d4:(4:Int)≤d:=by omega
    have sh:Unit→bitOp .or .i64 (bitOp .or .i64 (bitOp .or .i64 (shlOp .i64 (r0:Int) 24) (shlOp .i64 (r1:Int) 16)) (shlOp .i64 (r2:Int) 8)) (r3:Int)=(n:Int):=fun _=>by rw [shifted4 w0 w1 w2 w3,hbe]
    clear hbe
    simp -implicitDefEqProofs (maxSteps:=2000000) only [go_sem,↓reduceIte,e0,hm',hm2',d4]
    refine VS.mono (N:=fun F g=>g1=g∧F 1=.slice (some ⟨bb,oo,none⟩) rc.length d∧F 2=.pointer (some ⟨h.size,0,none⟩)∧F 4=.pointer (some ⟨h.size+1,0,none⟩)∧F 8=.slice (some ⟨bb,oo,none⟩) 4 4∧F 9=.int .i64 n) ?_ ?_ (fun _ _ _ h=>h) (fun _ _ h=>h)
    ·refine VS.q mixed (by kernel_rfl) ?_
     simp -implicitDefEqProofs (maxSteps:=2000000) only [go_sem,↓reduceIte,u0,u1,u2,u3]
     exact congrArg _ (sh ())
    clear sh w0 w1 w2 w3
    have hse:=hseU ()
    clear hseU
    rintro F _ ⟨rfl,f1,f2,f4,f8,f9⟩
    by_cases hb:1073741824≤n
    ·rw [if_pos hb] at hse
     have hb':(1073741824:Int)≤(n:Int):=by clear hse; omega
     simp -implicitDefEqProofs (maxSteps:=2000000) only [go_sem,↓reduceIte,f1,f2,f4,f8,f9,hb',wz1,z1]
     exact ⟨⟨_,_,by rw [hse]; rfl,⟨_,rfl,OBs.nil _ _ _⟩,OBs.nil _ _ _⟩,hBz _ hB1⟩
    ·rw [if_neg hb] at hse
     have hb':¬ (1073741824:Int)≤(n:Int):=by clear hse; omega
     have rC:rd g1 ⟨h.size,0,none⟩ 11=some (chanC (.slice p kl.length c) sent top s):=rd_last x0 hC11
     simp -implicitDefEqProofs (maxSteps:=2000000) only [go_sem,↓reduceIte,f1,f2,f4,f8,f9,hb',rC]
     refine (met_ok T _ _ sent top s n hs t0 t1 (by clear hse; omega)).use ?_
     rintro _ g2 ⟨rfl,b2⟩
     have x02:=b2.get (Nat.lt_of_succ_lt z1) x0
     have x12:=b2.get z1 x1
     have z2:=b2.size
     have hB2:=hB1.trans (b2.mono hB1.size)
     have wz2:=wz g2 x12
     have zl2:=lt_of_get x12
     by_cases hmet:metB top s n=true
     ·rw [if_pos hmet] at hse
      simp -implicitDefEqProofs (maxSteps:=2000000) only [go_sem,↓reduceIte,f1,f2,f4,f8,f9,hmet,wz2,zl2]
      exact ⟨⟨_,_,by rw [hse]; rfl,⟨_,rfl,OBs.nil _ _ _⟩,OBs.nil _ _ _⟩,hBz _ hB2⟩
     ·rw [if_neg hmet] at hse
      have hlow:=metB_low hmet
      have hmet':metB top s n=false:=by simpa using hmet
      have y0:V.hc g2 ⟨h.size,0,none⟩=some (.slice p kl.length c):=by rw [hc_last x02]; rfl
      have zl0:=lt_of_get x02
      have l4:(head4 n).length=4:=rfl
      have l12:(nonceS (head4 n)).length≤1000:=by simp [nonceS,head4]
      have sbk:=Bs_back sp rfl (k:=4) (by omega) cu (d - 4)
      have hle4:(4:Int)≤rc.length:=by clear hse; omega
      simp -implicitDefEqProofs (maxSteps:=2000000) only [go_sem,↓reduceIte,f1,f2,f4,f8,f9,hmet']
      refine VS.w (g2.size) [] (.q 0 (.q 1 (.q 2 (.q 4 (.q 5 (.q 6 (.s 3 (.s 7 (.q 8 (.q 9 (.q 10 (.q 11 (.q 12 .nil))))))))))))) mixed (by kernel_rfl) ?_
      simp -implicitDefEqProofs (maxSteps:=2000000) only [go_sem,↓reduceIte,f1,f2,f4,f8,f9,y0,zl0,hle4,vSlcL_sub]
      refine (lineNonce_ok T _ _ _ (s4.bel hB2) (by rw [l4]; decide)).use ?_
      rintro vn g3 ⟨on,b3⟩
      have z3:=b3.size
      have b3T:Bel g2.size g2 g3=True:=eq_true b3
      have hB3:=hB2.trans (b3.mono hB2.size)
      simp -implicitDefEqProofs (maxSteps:=2000000) only [go_sem,↓reduceIte,f1,f2,f4,f8,f9,b3T]
      refine (open_ok T _ _ _ _ _ kl (nonceS (head4 n)) (head4 n) (rc.drop 4) (sk.bel hB3) on.bs (s4.bel hB3) (sbk.bel hB3) ck on.cap (show rc.length - 4≤d - 4 by omega)).use ?_
      rintro _ g4 ⟨⟨w4,rfl,o4⟩,b4⟩
      have z4:=b4.size
      have b34:Bel g2.size g2 g4:=b3.trans (b4.mono z3)
      have b34T:Bel g2.size g2 g4=True:=eq_true b34
      rw [← hse] at o4 ⊢
      have x14:=b34.get zl2 x12
      have x04:=b34.get zl0 x02
      have hB4:=hB2.trans (b34.mono hB2.size)
      have wz4:=wz g4 x14
      have zl4:=lt_of_get x14
      clear hse
      by_cases hE0:E=0
      ·subst hE0
       rw [if_pos rfl] at o4
       have rC4:rd g4 ⟨h.size,0,none⟩ 11=some (chanC (.slice p kl.length c) sent top s):=rd_last x04 hC11
       simp -implicitDefEqProofs (maxSteps:=2000000) only [go_sem,↓reduceIte,f1,f2,f4,f8,f9,b34T,rC4]
       refine (with_ok T _ _ kl sent top s n hs (sk.bel hB4) (by omega) t0 t1 (by omega) hlow).use ?_
       rintro _ g5 ⟨⟨w5,rfl,o5⟩,b5⟩
       have x15:=b5.get zl4 x14
       have z5:=b5.size
       obtain ⟨pw,cw,rfl,_⟩:=o5.open
       have l8:(seenT top s n).length=8:=seenOf_length _ _
       have hD11:=chanC_length (.slice pw kl.length cw) sent (max top ((n:Int)+1)) (seenT top s n) l8
       have oD:=chanC_one (p:=pw) (n:=kl.length) (c:=cw) sent (max top ((n:Int)+1)) (seenT top s n)
       have tkD:=take_len hD11
       have wD:=wrZ x15 hD11 oD
       have zl5:=lt_of_get x15
       rw [show seenOf (metN top s 8++[(n:Int)]) (max top ((n:Int)+1))=seenT top s n from rfl]
       have o4':=o4.bel b5 (Nat.le_refl _)
       obtain ⟨C5,hC5⟩:∃ C5,C5=chanC (.slice pw kl.length cw) sent (max top ((n:Int)+1)) (seenT top s n):=⟨_,rfl⟩
       rw [← hC5] at hD11 oD tkD wD ⊢
       simp -implicitDefEqProofs (maxSteps:=2000000) only [go_sem,↓reduceIte,f1,f2,f4,f8,f9,b34T,wD,hD11,tkD,zl5]
       exact ⟨⟨_,_,rfl,⟨_,by rw [hC5],(o5.setLow (by omega) _).mono (by omega)⟩,(o4'.setLow (by omega) _).mono (by omega)⟩,(hB4.trans (b5.mono hB4.size)).addSet (by omega) _⟩
      ·rw [if_neg hE0] at o4
       simp -implicitDefEqProofs (maxSteps:=2000000) only [go_sem,↓reduceIte,f1,f2,f4,f8,f9,b34T,hE0,wz4,zl4]
       exact ⟨⟨_,_,rfl,⟨_,rfl,OBs.nil _ _ _⟩,OBs.nil _ _ _⟩,hBz _ hB4⟩
 ·rw [if_pos e0] at hse
  have e5:=(chanErr_five kl.length sent top s).resolve_left e0
  simp -implicitDefEqProofs (maxSteps:=2000000) only [go_sem,↓reduceIte,e5,wz1,z1]
  exact ⟨⟨_,_,by rw [hse]; rfl,⟨_,rfl,OBs.nil _ _ _⟩,OBs.nil _ _ _⟩,hBz _ hB1⟩
end Go.Proofs.YtnhbpmoeaodmnaaGreatDoor
