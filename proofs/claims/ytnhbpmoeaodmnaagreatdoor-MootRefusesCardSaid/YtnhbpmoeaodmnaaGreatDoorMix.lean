/- Syncing a tape, and what a crash leaves of it: what the program computes; no condition but those in the statements. -/
import Derived.Test.YtnhbpmoeaodmnaaGreatDoorTape
import Derived.Test.YtnhbpmoeaodmnaaGreatDoorW12
import Derived.Test.YtnhbpmoeaodmnaaGreatDoorLchks
namespace Go.Proofs.YtnhbpmoeaodmnaaGreatDoor
open Go Go.V
set_option linter.unusedSimpArgs false
set_option linter.unusedVariables false
set_option maxRecDepth 100000
def Synced (B:Nat) (h':Hp) (v':Value) (l:List Nat) (n:Int):Prop:=
 if l.length≤100000∧0≤n∧n≤l.length then ∃ w,v'=.tuple [.agg [w,.int .i64 l.length].toArray,.int .i64 0].toArray∧OBs B 5 h' w l
 else v'=.tuple [.agg [.slice none 0 0,.int .i64 0].toArray,.int .i64 5].toArray
theorem sync_ok (T:World) (h:Hp) (v:Value) (n:Int) (l:List Nat) (s:Bs h v l) (hl:l.length≤140737488355328) :
  CallsH Tryz.prog T 40 #[.agg [v,.int .i64 n].toArray] h fun v' h'=>Bel h.size h h'∧Synced h.size h' v' l n:=by
 obtain ⟨p,c,rfl,hc1⟩:=s.open
 refine CallsH.of_code' (args:=[_]) Tryz.func40 rfl rfl rfl rfl ?_
 simp +contextual -implicitDefEqProofs (maxSteps:=2000000) only [go_sem,↓reduceIte]
 refine (tapeOpen_ok T _ _ n l (s.bel (((Bel.refl _ _).add _).add _)) hl).use ?_
 rintro v1 h1 ⟨b1,o1⟩
 have z1:h.size+1<h1.size:=by have:=b1.size; simp at this; omega
 have r1:=b1.get (k:=h.size+1) (by simp) (by rw [Array.getElem?_push,if_pos (by simp)])
 have w1:=wr_get r1
 have bb:Bel h.size h h1:=((Bel.refl _ _).add _).add _ |>.trans (b1.mono (by simp; omega))
 unfold Synced
 by_cases q:l.length≤100000∧0≤n∧n≤l.length
 ·rw [if_pos q] at o1
  obtain ⟨w,rfl,o1⟩:=o1
  obtain ⟨p1,c1,rfl,_⟩:=o1.bs.open
  simp +contextual -implicitDefEqProofs (maxSteps:=2000000) only [go_sem,↓reduceIte,w1,z1]
  refine ⟨(bb.addSet (by omega) _).add _,_,rfl,?_⟩
  exact ((o1.setLow (by simp) _).push _).mono (by simp; omega)
 ·rw [if_neg q] at o1
  subst o1
  simp +contextual -implicitDefEqProofs (maxSteps:=2000000) only [go_sem,↓reduceIte,w1,z1]
  exact (bb.addSet (by omega) _).add _
def crashLen (l:List Nat) (n k:Int):Int:=n+(if (l.length:Int) - n<k then (l.length:Int) - n else k)
def crashRes (l:List Nat) (n k:Int):List Nat × Int × Int:=
 if l.length≤100000∧0≤n∧n≤l.length then (if k<0 then ([],0,2) else (l.take (crashLen l n k).toNat,crashLen l n k,0)) else ([],0,5)
def Crashed (B:Nat) (h':Hp) (v':Value) (r:List Nat × Int × Int):Prop:=
 ∃ p c L Z E,r=(L,Z,E)∧v'=.tuple [.agg [.slice p L.length c,.int .i64 Z].toArray,.int .i64 E].toArray∧Bs h' (.slice p L.length c) L∧L.length≤c∧∀ b,blkOf (.slice p L.length c)=some b→B≤b∧b<h'.size
theorem crash_ok (T:World) (h:Hp) (v:Value) (n k:Int) (l:List Nat) (s:Bs h v l) (hl:l.length≤140737488355328) :
  CallsH Tryz.prog T 28 #[.agg [v,.int .i64 n].toArray,.int .i64 k] h fun v' h'=>Bel h.size h h'∧Crashed h.size h' v' (crashRes l n k):=by
 obtain ⟨p,c,rfl,hc1⟩:=s.open
 refine CallsH.of_code' (args:=[_,_]) Tryz.func28 rfl rfl rfl rfl ?_
 simp +contextual -implicitDefEqProofs (maxSteps:=2000000) only [go_sem,↓reduceIte]
 refine (tapeOpen_ok T _ _ n l (s.bel (((Bel.refl _ _).add _).add _)) hl).use ?_
 rintro v1 h1 ⟨b1,o1⟩
 have z1:h.size+1<h1.size:=by have:=b1.size; simp at this; omega
 have r1:=b1.get (k:=h.size+1) (by simp) (by rw [Array.getElem?_push,if_pos (by simp)])
 have w1:=wr_get r1
 have bb:Bel h.size h h1:=((Bel.refl _ _).add _).add _ |>.trans (b1.mono (by simp; omega))
 unfold crashRes
 by_cases q:l.length≤100000∧0≤n∧n≤l.length
 ·rw [if_pos q] at o1
  obtain ⟨w,rfl,o1⟩:=o1
  obtain ⟨p1,c1,rfl,g1⟩:=o1.open
  by_cases q1:k<0
  ·simp +contextual -implicitDefEqProofs (maxSteps:=2000000) only [go_sem,↓reduceIte,w1,z1,q1]
   exact ⟨(bb.addSet (by omega) _).add _,none,0,[],_,_,rfl,rfl,(OBs.nil 0 5 _).bs,Nat.le_refl _,fun b hb=>by simp [blkOf] at hb⟩
  ·have e1:0≤crashLen l n k∧crashLen l n k≤l.length:=by unfold crashLen; split <;> omega
   have e2:(n+(if (l.length:Int) - n<k then (l.length:Int) - n else k))=crashLen l n k:=rfl
   have e3:((crashLen l n k).toNat:Int)=crashLen l n k:=by omega
   have e4:(l.take (crashLen l n k).toNat).length=(crashLen l n k).toNat:=by rw [List.length_take]; omega
   simp +contextual -implicitDefEqProofs (maxSteps:=2000000) only [go_sem,↓reduceIte,w1,z1,q1,e2,e3]
   refine ⟨(bb.addSet (by omega) _).add _,p1,(crashLen l n k).toNat,_,_,_,rfl,by rw [e4],?_⟩
   rw [e4]
   have o2:=(o1.setLow (b:=h.size+1) (o:=.cells [.slice p1 l.length c1,.int .i64 n].toArray 58) (by simp)).push (.cells [.slice none 0 0,.int .i64 0].toArray 58)
   refine ⟨(((o1.setLow (by simp) _).push _).bs).fore (by omega) _,Nat.le_refl _,fun b hb=>?_⟩
   have hb2:blkOf (.slice p1 l.length c1)=some b:=by
    cases p1 with
    | none=>simp [blkOf] at hb
    | some A=>
     by_cases z:(crashLen l n k).toNat=0
     ·rw [z] at hb; simp [blkOf] at hb
     ·have hc0:c1≠0:=by have:=g1; omega
      simp [blkOf,z] at hb
      simp [blkOf,hc0,hb]
   have h1b:=o1.own.blk b hb2
   have h2b:=o1.own.lt b hb2
   simp only [Array.size_push,Array.size_setIfInBounds]
   simp at h1b
   omega
 ·rw [if_neg q] at o1
  subst o1
  simp +contextual -implicitDefEqProofs (maxSteps:=2000000) only [go_sem,↓reduceIte,w1,z1]
  exact ⟨(bb.addSet (by omega) _).add _,none,0,[],_,_,rfl,rfl,(OBs.nil 0 5 _).bs,Nat.le_refl _,fun b hb=>by simp [blkOf] at hb⟩
def mixErr (key:List Nat) (k:Int) (nonce:List Nat) (n:Nat):Int:=if blockErr key k nonce≠0 then blockErr key k nonce else if 2000<n then 1 else 0
def mixF (key:List Nat) (k:Nat) (nonce data:List Nat) (i:Nat):Nat:=data.getD i 0 ^^^ (blockS key (k+i / 64) nonce).getD (i % 64) 0
def mixB (key:List Nat) (k:Nat) (nonce data:List Nat):List Nat:=(List.range data.length).map (mixF key k nonce data)
theorem blockS_byte (key:List Nat) (k:Nat) (nonce:List Nat) (i:Nat):(blockS key k nonce).getD i 0<256:=getD_byte (outB_small _ _) i
theorem xor_byte {a b:Nat} (ha:a<256) (hb:b<256):a ^^^ b<256:=Nat.xor_lt_two_pow (n:=8) ha hb
theorem mixB_length (key:List Nat) (k:Nat) (nonce data:List Nat):(mixB key k nonce data).length=data.length:=by simp [mixB]
theorem mixB_byte {key:List Nat} {k:Nat} {nonce data:List Nat} (hd:∀ x∈data,x<256):∀ x∈mixB key k nonce data,x<256:=by
 intro x hx
 obtain ⟨i,_,rfl⟩:=List.mem_map.1 hx
 exact xor_byte (getD_byte hd _) (blockS_byte _ _ _ _)
theorem mixB_getD {key:List Nat} {k:Nat} {nonce data:List Nat} {i:Nat} (hi:i<data.length):(mixB key k nonce data).getD i 0=mixF key k nonce data i:=range_getD _ hi
def MixRes (B:Nat) (h':Hp) (v':Value) (key:List Nat) (k:Int) (nonce data:List Nat):Prop:=∃ w,v'=.tuple [w,.int .i64 (mixErr key k nonce data.length)].toArray∧OBs B 5 h' w (if mixErr key k nonce data.length=0 then mixB key k.toNat nonce data else [])
theorem blockErr_zero {key:List Nat} {k:Int} {nonce:List Nat} (e:blockErr key k nonce=0):key.length=32∧nonce.length=12∧0≤k∧k≤1073741824:=by
 unfold blockErr at e
 repeat' split at e
 all_goals first | omega | cases e
theorem zrep_bytes (n:Nat):zrep n [Value.int .u8 0]=(List.replicate n 0).map bv:=by
 induction n with
 | zero=>rfl
 | succ n ih=>rw [zrep,ih]; rfl
theorem mix_ok (T:World) (h:Hp) (v u d:Value) (key nonce data:List Nat) (k:Int) (sk:Bs h v key) (sn:Bs h u nonce) (sd:Bs h d data) (ck:Cap v) (cn:Cap u) :
  CallsH Tryz.prog T 117 #[v,.int .i64 k,u,d] h fun v' h'=>MixRes h.size h' v' key k nonce data∧Bel h.size h h':=by
 obtain ⟨p,c,rfl,_⟩:=sk.open
 obtain ⟨q,cn',rfl,_⟩:=sn.open
 obtain ⟨pd,cd,rfl,hcd⟩:=sd.opend
 refine CallsH.of_code' (args:=[_,_,_,_]) Tryz.func117 rfl rfl rfl rfl ?_
 unfold MixRes
 simp +contextual -implicitDefEqProofs (maxSteps:=2000000) only [go_sem,↓reduceIte]
 refine (chaCheck_ok T _ _ _ _ _ _ _ _).pure ?_
 rw [show (if key.length≠32∨nonce.length≠12 then (1:Int) else if k<0∨1073741824<k then 2 else 0)=blockErr key k nonce from rfl]
 by_cases e:blockErr key k nonce=0
 ·by_cases el:2000<data.length
  ·have el':2000<(data.length:Int):=by omega
   have em:mixErr key k nonce data.length=1:=by unfold mixErr; rw [if_neg (by rw [e]; decide),if_pos el]
   simp +contextual -implicitDefEqProofs (maxSteps:=2000000) only [go_sem,↓reduceIte,e,el',em]
   exact ⟨_,rfl,OBs.nil _ _ _⟩
  ·have el':¬ 2000<(data.length:Int):=by omega
   have em:mixErr key k nonce data.length=0:=by unfold mixErr; rw [if_neg (by rw [e]; decide),if_neg el]
   obtain ⟨hk,hn,k0,k1⟩:=blockErr_zero e
   obtain ⟨m,rfl⟩:∃ m:Nat,k=m:=⟨k.toNat,by omega⟩
   rw [em,Int.toNat_natCast]
   obtain ⟨X,hX⟩:∃ X,X=mixB key m nonce data:=⟨_,rfl⟩
   have hXl:X.length=data.length:=by rw [hX,mixB_length]
   have hXb:∀ x∈X,x<256:=by rw [hX]; exact mixB_byte sd.byte
   have hXZ:X.length=(List.replicate data.length 0).length:=by simp [hXl]
   have xl:∀ j,(X.take j++(List.replicate data.length 0).drop j).length=data.length:=fun j=>by simp [hXl]; omega
   rw [← hX]
   simp +contextual -implicitDefEqProofs (maxSteps:=2000000) only [go_sem,↓reduceIte,e,el',zrep_bytes]
   obtain ⟨G,hG⟩:∃ G:Hp,G=h.push (.cells ((List.replicate data.length 0).map bv).toArray 5):=⟨_,rfl⟩
   have hx0:G[h.size]? = some (.cells ((X.take (64*0)++(List.replicate data.length 0).drop (64*0)).map bv++[]).toArray 5):=by
    rw [hG,Nat.mul_zero,fill_none,List.append_nil]; exact get_push_last
   have hb0:Bel h.size h G:=by rw [hG]; exact Bel.push (Nat.le_refl _) _
   rw [← hG]
   clear hG
   refine VS.loop' (fun F g=>Bel h.size h g∧F 0=.slice p key.length c∧F 1=.int .i64 m∧F 2=.slice q nonce.length cn'∧F 3=.slice pd data.length cd∧F 11=.slice (some ⟨h.size,0,none⟩) data.length data.length∧∃ j:Nat,64*j<data.length+64∧F 12=.int .i64 (64*j:Nat)∧g[h.size]? = some (.cells ((X.take (64*j)++(List.replicate data.length 0).drop (64*j)).map bv++[]).toArray 5))
    (fun F _=>data.length+64 - (vi (F 12)).toNat) rfl ⟨hb0,rfl,rfl,rfl,rfl,rfl,0,by omega,rfl,hx0⟩ ?_
   clear hx0 hb0 G
   rintro F g ⟨hg,f0,f1,f2,f3,f11,j,hj,f12,hx⟩
   have hgs:=lt_of_get hx
   by_cases hlt:64*j<data.length
   ·have hlt':((64*j:Nat):Int)<data.length:=by omega
    have d1:((64*j:Nat):Int).tdiv 64=(j:Int):=by
     have:((64*j:Nat):Int).tdiv 64=((64*j / 64:Nat):Int):=rfl
     rw [this]; omega
    have d2:(m:Int)+(j:Int)=((m+j:Nat):Int):=by omega
    have d3:((m+j:Nat):Int) % 4294967296=((m+j:Nat):Int):=by omega
    simp +contextual -implicitDefEqProofs (maxSteps:=2000000) only [go_sem,↓reduceIte,f0,f1,f2,f3,f12,hlt',d1,d2,d3]
    refine (blockHead_ok T _ _ _ key nonce (m+j) (sk.bel hg) (sn.bel hg) hk hn (by omega) ck cn).use ?_
    rintro _ g1 ⟨rfl,b1⟩
    have hl64:((blockS key (m+j) nonce).map bv).length=64:=by simp [blockS,outB]
    have hone:=bv_one (blockS key (m+j) nonce)
    have hlb:(blockS key (m+j) nonce).length=64:=by simpa using hl64
    have hx1:=b1.get hgs hx
    have hB1:=hg.trans (b1.mono hg.size)
    have b1s:=b1.size
    obtain ⟨W,hW⟩:∃ W,W=blockS key (m+j) nonce:=⟨_,rfl⟩
    have hWb:∀ i,W.getD i 0<256:=fun i=>by rw [hW]; exact blockS_byte _ _ _ _
    rw [← hW] at hl64 hone hlb ⊢
    simp +contextual -implicitDefEqProofs (maxSteps:=2000000) only [go_sem,↓reduceIte,hl64,hone,lput_full,f12]
    have hxw:(g1.push (.cells (W.map bv++[]).toArray 225))[g1.size]? = some (.cells (W.map bv++[]).toArray 225):=get_push_last
    rw [List.append_nil] at hxw
    have hx2:(g1.push (.cells (W.map bv).toArray 225))[h.size]? = some (.cells ((X.take (64*j)++(List.replicate data.length 0).drop (64*j)).map bv++[]).toArray 5):=by rw [get_push_ne (by omega)]; exact hx1
    have hB2:Bel h.size h (g1.push (.cells (W.map bv).toArray 225)):=hB1.addP (by omega) _
    generalize g1.push (.cells (W.map bv).toArray 225)=G at *
    refine VS.loop' (fun F g=>Bel h.size h g∧F 0=.slice p key.length c∧F 1=.int .i64 m∧F 2=.slice q nonce.length cn'∧F 3=.slice pd data.length cd∧F 11=.slice (some ⟨h.size,0,none⟩) data.length data.length∧F 12=.int .i64 (64*j:Nat)∧F 13=.pointer (some ⟨g1.size,0,none⟩)∧g[g1.size]? = some (.cells (W.map bv).toArray 225)∧∃ i:Nat,64*j≤i∧i≤64*j+64∧i≤data.length∧F 14=.int .i64 i∧g[h.size]? = some (.cells ((X.take i++(List.replicate data.length 0).drop i).map bv++[]).toArray 5))
     (fun F _=>data.length - (vi (F 14)).toNat) rfl ⟨hB2,f0,f1,f2,f3,f11,f12,rfl,hxw,64*j,by omega,by omega,by omega,rfl,hx2⟩ ?_
    clear f0 f1 f2 f3 f11 f12 hxw hx2 hx1 hB2 hx hB1
    rintro F g2 ⟨hg2,f0,f1,f2,f3,f11,f12,f13,hxw,i,i1,i2,i3,f14,hx⟩
    by_cases hlt2:i<64*j+64∧i<data.length
    ·obtain ⟨l1,l2⟩:=hlt2
     obtain ⟨bd,od,rfl,hbd,hcd⟩:=hcd (by intro e; rw [e] at hlt; simp at hlt)
     have hmin:(i:Int)<min (((64*j:Nat):Int)+64) (data.length:Int):=by omega
     have u1:V.hc g2 ⟨bd,od+i,none⟩=some (.int .u8 (data.getD i 0:Nat)):=by rw [hg2.hc (by exact hbd)]; exact hcd i l2
     have hik:i - 64*j<64:=by omega
     have u2:V.hc g2 ⟨g1.size,i - 64*j,none⟩=some (.int .u8 (W.getD (i - 64*j) 0:Nat)):=by
      rw [← List.append_nil (W.map bv)] at hxw
      exact cells_get hxw (i:=i - 64*j) (by omega)
     have t1:(i:Int) - ((64*j:Nat):Int)=((i - 64*j:Nat):Int):=by omega
     have xb:=getD_byte sd.byte i
     have ex:=xor_u8 (data.getD i 0) (W.getD (i - 64*j) 0) xb (hWb _)
     have exX:X.getD i 0=data.getD i 0 ^^^ W.getD (i - 64*j) 0:=by
      rw [hX,mixB_getD l2,hW]
      unfold mixF
      rw [show i / 64=j by omega,show i % 64=i - 64*j by omega]
     rw [← exX] at ex
     have cs:wr1 g2 ⟨h.size,i,none⟩ (.int .u8 (X.getD i 0:Nat))=_:=cells_set (f:=bv) hx (i:=i) (by rw [xl]; exact l2) _ rfl
     rw [fill_stepD X _ i (by omega) hXZ] at cs
     simp +contextual -implicitDefEqProofs (maxSteps:=2000000) only [go_sem,↓reduceIte,f3,f12,f14,hmin]
     have l2':(i:Int)<data.length:=by omega
     have t1':0≤(i:Int) - ((64*j:Nat):Int):=by omega
     refine VS.w (g2.size) [13] (.q 0 (.q 1 (.q 2 (.q 3 (.q 4 (.q 5 (.q 6 (.q 7 (.q 8 (.q 9 (.q 10 (.q 11 (.q 12 (.w 13 .nil)))))))))))))) mixed (by kernel_rfl) ?_
     have hbd2:bd<g2.size:=Nat.lt_of_lt_of_le hbd hg2.size
     have hgw:=lt_of_get hxw
     simp +contextual -implicitDefEqProofs (maxSteps:=2000000) only [go_sem,↓reduceIte,f3,f11,f12,f13,f14,t1,hbd2,hgw,u1,u2,ex,cs]
     refine ⟨⟨hg2.addSet (Nat.le_refl _) _,f0,f1,f2,f3,f11,f12,f13,?_,i+1,by omega,by omega,by omega,rfl,?_⟩,?_⟩
     ·rw [Array.getElem?_setIfInBounds,if_neg (by omega)]; exact hxw
     ·exact cells_new hx
     ·simp only [vi,updo_some,↓reduceIte,f14]; omega
    ·have hmin:¬ (i:Int)<min (((64*j:Nat):Int)+64) (data.length:Int):=by omega
     simp +contextual -implicitDefEqProofs (maxSteps:=2000000) only [go_sem,↓reduceIte,f3,f12,f14,hmin]
     have e12:((64*j:Nat):Int)+64=((64*(j+1):Nat):Int):=by omega
     refine ⟨⟨hg2,f0,f1,f2,f3,f11,j+1,by omega,by rw [← e12]; rfl,?_⟩,?_⟩
     ·by_cases c1:i=64*j+64
      ·rw [show 64*(j+1)=i by omega]; exact hx
      ·have e3:i=data.length:=by omega
       rw [List.take_of_length_le (show X.length≤64*(j+1) by omega),List.drop_of_length_le (show (List.replicate data.length 0).length≤64*(j+1) by simp; omega)]
       rw [List.take_of_length_le (show X.length≤i by omega),List.drop_of_length_le (show (List.replicate data.length 0).length≤i by simp; omega)] at hx
       exact hx
     ·simp only [vi,updo_some,↓reduceIte,f12]; omega
   ·have hge:¬ ((64*j:Nat):Int)<data.length:=by omega
    have e1:X.take (64*j)=X:=List.take_of_length_le (by omega)
    have e2:(List.replicate data.length 0).drop (64*j)=[]:=List.drop_of_length_le (by simp; omega)
    rw [e1,e2,List.append_nil,List.append_nil] at hx
    simp +contextual -implicitDefEqProofs (maxSteps:=2000000) only [go_sem,↓reduceIte,f3,f11,f12,hge,hg]
    refine ⟨_,rfl,⟨.inr ⟨h.size,data.length,[],Nat.le_refl _,by rw [hXl],by rw [List.append_nil]; exact hx,by simp,by rw [hXl]; simp,by rw [hXl]; exact Nat.le_refl _⟩,hXb⟩⟩
 ·have em:mixErr key k nonce data.length=blockErr key k nonce:=by unfold mixErr; rw [if_pos e]
  rw [em]
  simp +contextual -implicitDefEqProofs (maxSteps:=2000000) only [go_sem,↓reduceIte,e]
  exact ⟨_,rfl,OBs.nil _ _ _⟩
end Go.Proofs.YtnhbpmoeaodmnaaGreatDoor
