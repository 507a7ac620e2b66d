/- OrderEncodes holds: order.Encode answers what the document says, at every argument; without any condition. -/
import Derived.Test.YtnhbpmoeaodmnaaGreatDoorVst
import Derived.Test.YtnhbpmoeaodmnaaGreatDoorBytes
import Derived.Test.YtnhbpmoeaodmnaaGreatDoorW6
namespace Go.Proofs.YtnhbpmoeaodmnaaGreatDoor
open Go Go.V
set_option linter.unusedSimpArgs false
set_option linter.unusedVariables false
set_option maxRecDepth 100000
def high4 (n:Nat):List Nat:=[n / 16777216 % 256,n / 65536 % 256,n / 256 % 256,n % 256]
theorem high4_byte (n:Nat):∀ x∈high4 n,x<256:=by
 intro x hx
 simp only [high4,List.mem_cons,List.not_mem_nil,or_false] at hx
 omega
theorem shr_i64 (n k:Nat) (hk:k≤64):shrOp .i64 (n:Int) (k:Int)=((n / 2 ^ k:Nat):Int):=by
 rw [shr_nat .i64 n k hk,Nat.shiftRight_eq_div_pow]
theorem four_ok (T:World) (h:Hp) (B:Nat) (v:Value) (l:List Nat) (n:Nat) (o:OBs B 5 h v l) (hB:B≤h.size) (hl:l.length≤1000) (hn:n≤1073741824) :
  CallsH Tryz.prog T 110 #[v,.int .i64 n] h fun v' h'=>OBs B 5 h' v' (l++high4 n)∧Bel B h h':=by
 obtain ⟨p,c,rfl,hc⟩:=o.open
 refine CallsH.of_code' (args:=[_,_]) Tryz.func110 rfl rfl rfl rfl ?_
 have e1:shrOp .i64 (n:Int) 24 % 256=((n / 16777216 % 256:Nat):Int):=by rw [show (24:Int)=((24:Nat):Int) from rfl,shr_i64 n 24 (by omega)]; omega
 have e2:shrOp .i64 (n:Int) 16 % 256=((n / 65536 % 256:Nat):Int):=by rw [show (16:Int)=((16:Nat):Int) from rfl,shr_i64 n 16 (by omega)]; omega
 have e3:shrOp .i64 (n:Int) 8 % 256=((n / 256 % 256:Nat):Int):=by rw [show (8:Int)=((8:Nat):Int) from rfl,shr_i64 n 8 (by omega)]; omega
 have e4:(n:Int) % 256=((n % 256:Nat):Int):=by omega
 simp +contextual -implicitDefEqProofs (maxSteps:=2000000) only [go_sem,↓reduceIte,e1,e2,e3,e4]
 refine append_bytes (E:=5) (B:=B) tsl44 Tryz.underlying44 tn5 tz5 tb5 (o.push _) (by simp; omega) (Bs.made (l:=high4 n) (high4_byte n) 4) (by simp [high4]; omega) ?_
 intro v' h' ho' hb' _
 simp +contextual -implicitDefEqProofs (maxSteps:=2000000) only [go_sem,↓reduceIte]
 exact ⟨ho',(Bel.push hB _).trans hb'⟩
theorem numbers_ok (T:World) (h:Hp) (b:Nat) :
  CallsH Tryz.prog T 86 #[.pointer (some ⟨b,0,none⟩)] h fun v' h'=>v'=.agg [.pointer (some ⟨b,0,none⟩),.pointer (some ⟨b,1,none⟩),.pointer (some ⟨b,2,none⟩),.pointer (some ⟨b,3,none⟩),.pointer (some ⟨b,4,none⟩)].toArray∧Bel h.size h h':=by
 refine CallsH.of_code' (args:=[_]) Tryz.func86 rfl rfl rfl rfl ?_
 simp +contextual -implicitDefEqProofs (maxSteps:=2000000) only [go_sem,↓reduceIte]
 refine VS.b h.size [(0,true),(1,true),(2,true),(3,true),(4,true),(5,true),(6,true),(7,true),(8,true),(9,true),(10,true),(11,true),(12,true),(13,true),(14,true),(15,true),(16,false)] mixed (by kernel_rfl) ?_
 simp +contextual -implicitDefEqProofs (maxSteps:=2000000) only [go_sem,↓reduceIte]
 first | exact ⟨Bel.pp (Nat.le_refl _) _ _,Bel.push (Nat.le_refl _) _⟩ | exact Bel.pp (Nat.le_refl _) _ _ | exact Bel.push (Nat.le_refl _) _
def cmdBytes (xs:List Nat):List Nat:=xs.flatMap high4
theorem cmdBytes_snoc (xs:List Nat) (i:Nat) (hi:i<xs.length):cmdBytes (xs.take (i+1))=cmdBytes (xs.take i)++high4 xs[i]:=by
 unfold cmdBytes
 rw [take_snoc xs i hi,List.flatMap_append]
 simp
theorem cmdBytes_length (xs:List Nat):(cmdBytes xs).length=4*xs.length:=by
 unfold cmdBytes
 induction xs with
 | nil=>rfl
 | cons x l ih=>simp [ih,high4]; omega
def ptrs (b:Nat):List Value:=[.pointer (some ⟨b,0,none⟩),.pointer (some ⟨b,1,none⟩),.pointer (some ⟨b,2,none⟩),.pointer (some ⟨b,3,none⟩),.pointer (some ⟨b,4,none⟩)]
theorem ptrs_nth (b i:Nat) (hi:i<5):nth (ptrs b) i=some (.pointer (some ⟨b,i,none⟩)):=by
 rcases i with _ | _ | _ | _ | _ | i <;> first | rfl | omega
theorem cmdErr_zero {k c s n v:Int} (h:cmdErr k c s n v=0):∃ k' c' s' n' v':Nat,k=k'∧c=c'∧s=s'∧n=n'∧v=v'∧k'≤1073741824∧c'≤1073741824∧s'≤1073741824∧n'≤1073741824∧v'≤1073741824:=by
 have:0≤k∧k≤3∧0≤c∧c≤7∧0≤s∧s≤1048576∧0≤n∧n≤7∧0≤v∧v≤1073741824:=by
  unfold cmdErr at h
  repeat' split at h
  all_goals omega
 exact ⟨k.toNat,c.toNat,s.toNat,n.toNat,v.toNat,by omega,by omega,by omega,by omega,by omega,by omega,by omega,by omega,by omega,by omega⟩
def EncRes (h':Hp) (v':Value) (k c s n v:Int):Prop:=
 ∃ w,v'=.tuple [w,.int .i64 (cmdErr k c s n v)].toArray∧Bs h' w (if cmdErr k c s n v=0 then cmdBytes [k.toNat,c.toNat,s.toNat,n.toNat,v.toNat] else [])
theorem encode_ok (T:World) (h:Hp) (k c s n v:Int) :
  CallsH Tryz.prog T 76 #[.agg (cmdC k c s n v).toArray] h fun v' h'=>EncRes h' v' k c s n v∧Bel h.size h h':=by
 refine CallsH.of_code' (args:=[_]) Tryz.func76 rfl rfl rfl rfl ?_
 unfold cmdC
 simp +contextual -implicitDefEqProofs (maxSteps:=2000000) only [go_sem,↓reduceIte]
 refine (orderCheck_ok T _ k c s n v).use ?_
 rintro v1 h1 ⟨rfl,rfl⟩
 unfold cmdC EncRes
 by_cases q:cmdErr k c s n v=0
 ·simp +contextual -implicitDefEqProofs (maxSteps:=2000000) only [go_sem,↓reduceIte,q]
  refine (numbers_ok T _ h.size).use ?_
  rintro v1 h1 ⟨rfl,b1⟩
  obtain ⟨k,c,s,n,v,rfl,rfl,rfl,rfl,rfl,y1,y2,y3,y4,y5⟩:=cmdErr_zero q
  simp only [Int.toNat_natCast]
  have z1:h.size+2≤h1.size:=by have:=b1.size; simp at this; omega
  obtain ⟨xs,hxs⟩:∃ xs:List Nat,xs=[k,c,s,n,v]:=⟨_,rfl⟩
  have hlen:xs.length=5:=by rw [hxs]; rfl
  have cells:∀ i (hi:i<5),hc h1 ⟨h.size,i,none⟩=some (.int .i64 ((xs[i]'(by omega):Nat):Int))∧xs[i]'(by omega)≤1073741824:=by
   intro i hi
   rw [b1.hc (by simp; omega),hc_push,if_neg (by simp),hc_push,if_pos rfl]
   subst hxs
   rcases i with _ | _ | _ | _ | _ | i
   ·exact ⟨rfl,y1⟩
   ·exact ⟨rfl,y2⟩
   ·exact ⟨rfl,y3⟩
   ·exact ⟨rfl,y4⟩
   ·exact ⟨rfl,y5⟩
   ·omega
  rw [← hxs]
  simp +contextual -implicitDefEqProofs (maxSteps:=2000000) only [go_sem,↓reduceIte]
  refine VS.loop' (fun F g=>Bel h1.size h1 g∧F 13=.agg (ptrs h.size).toArray∧∃ i:Nat,i≤5∧F 14=.int .i64 i∧OBs h1.size 5 g (F 5) (cmdBytes (xs.take i)))
   (fun F _=>5 - (vi (F 14)).toNat) rfl ⟨Bel.refl _ _,rfl,0,by omega,rfl,OBs.nil _ _ _⟩ ?_
  rintro F g ⟨hb,f13,i,hi,f14,ho⟩
  by_cases hlt:i<5
  ·have hlt':(i:Int)<5:=by omega
   obtain ⟨c1,c2⟩:=cells i hlt
   have g1:hc g ⟨h.size,i,none⟩=some (.int .i64 ((xs[i]'(by omega):Nat):Int)):=by rw [hb.hc (by simp; omega)]; exact c1
   have p1:=ptrs_nth h.size i hlt
   simp +contextual -implicitDefEqProofs (maxSteps:=2000000) only [go_sem,↓reduceIte,f13,f14,hlt',p1,g1]
   refine (four_ok T _ h1.size _ _ _ ho hb.size (by rw [cmdBytes_length,List.length_take]; omega) c2).use ?_
   rintro w h2 ⟨o2,b2⟩
   simp +contextual -implicitDefEqProofs (maxSteps:=2000000) only [go_sem,↓reduceIte,f13,f14]
   refine ⟨⟨hb.trans b2,f13,i+1,hlt,rfl,?_⟩,?_⟩
   ·rw [cmdBytes_snoc xs i (by omega)]; exact o2
   ·simp only [vi,updo_some,↓reduceIte,f14]; omega
  ·have hge:¬ (i:Int)<5:=by omega
   obtain rfl:i=5:=by omega
   have e5:xs.take 5=xs:=take_len hlen
   rw [e5] at ho
   simp +contextual -implicitDefEqProofs (maxSteps:=2000000) only [go_sem,↓reduceIte,f13,f14,hge]
   refine ⟨⟨_,rfl,ho.bs⟩,?_⟩
   exact (((Bel.refl _ _).add _).add _).trans (b1.mono (by simp; omega)) |>.trans (hb.mono (by omega))
 ·simp +contextual -implicitDefEqProofs (maxSteps:=2000000) only [go_sem,↓reduceIte,q]
  first | exact ⟨⟨_,rfl,(OBs.nil 0 5 _).bs⟩,((Bel.refl _ _).add _).add _⟩ | exact ⟨_,rfl,(OBs.nil 0 5 _).bs⟩ | exact ((Bel.refl _ _).add _).add _
theorem tapeOpen_ok (T:World) (h:Hp) (v:Value) (n:Int) (l:List Nat) (s:Bs h v l) (hl:l.length≤140737488355328) :
  CallsH Tryz.prog T 44 #[.agg [v,.int .i64 n].toArray] h fun v' h'=>Bel h.size h h' ∧
   (if l.length≤100000∧0≤n∧n≤l.length then ∃ w,v'=.tuple [.agg [w,.int .i64 n].toArray,.bool true].toArray∧OBs h.size 5 h' w l
     else v'=.tuple [.agg [.slice none 0 0,.int .i64 0].toArray,.bool false].toArray):=by
 obtain ⟨p,c,rfl,hc1⟩:=s.open
 refine CallsH.of_code' (args:=[_]) Tryz.func44 rfl rfl rfl rfl ?_
 by_cases q1:n<0
 ·have q:¬ (l.length≤100000∧0≤n∧n≤l.length):=by omega
  simp +contextual -implicitDefEqProofs (maxSteps:=2000000) only [go_sem,↓reduceIte,q1,q]
  try exact ((Bel.refl _ _).add _).add _
 ·by_cases q2:(l.length:Int)<n
  ·have q:¬ (l.length≤100000∧0≤n∧n≤l.length):=by omega
   simp +contextual -implicitDefEqProofs (maxSteps:=2000000) only [go_sem,↓reduceIte,q1,q2,q]
   try exact ((Bel.refl _ _).add _).add _
  ·by_cases q3:(100000:Int)<l.length
   ·have q:¬ (l.length≤100000∧0≤n∧n≤l.length):=by omega
    simp +contextual -implicitDefEqProofs (maxSteps:=2000000) only [go_sem,↓reduceIte,q1,q2,q3,q]
    try exact ((Bel.refl _ _).add _).add _
   ·have q:(l.length≤100000∧0≤n∧n≤l.length):=by omega
    simp +contextual -implicitDefEqProofs (maxSteps:=2000000) only [go_sem,↓reduceIte,q1,q2,q3]
    refine VS.b (h.size+1) [(0,true),(1,true),(3,true),(4,true),(2,false),(5,true),(6,false),(7,true)] mixed (by kernel_rfl) ?_
    simp +contextual -implicitDefEqProofs (maxSteps:=2000000) only [go_sem,↓reduceIte,q1,q2,q3]
    refine (clone_ok T _ _ l (s.bel (((Bel.refl _ _).add _).add _)) hl).use ?_
    rintro v1 h1 ⟨o1,b1⟩
    have z1:h.size+1<h1.size:=by have:=b1.size; simp at this; omega
    have r1:=b1.get (k:=h.size+1) (by simp) (by rw [Array.getElem?_push,if_pos (by simp)])
    have w1:=wr_get r1
    obtain ⟨p1,c1,rfl,_⟩:=o1.bs.open
    simp +contextual -implicitDefEqProofs (maxSteps:=2000000) only [go_sem,↓reduceIte,w1,z1]
    have c0:Bel (h.size+1) _ h1:=b1.mono (by simp)
    refine ⟨c0,c0.addSet (Nat.le_refl _) _,?_,_,rfl,?_⟩
    ·exact (((Bel.refl _ _).add _).add _ |>.trans (b1.mono (by simp; omega))).addSet (by omega) _
    ·exact (o1.setLow (by simp) _).mono (by simp; omega)
end Go.Proofs.YtnhbpmoeaodmnaaGreatDoor
