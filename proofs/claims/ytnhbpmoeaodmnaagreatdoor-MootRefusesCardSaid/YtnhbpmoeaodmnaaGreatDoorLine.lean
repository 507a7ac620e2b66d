/- OrderDecodes holds: order.Decode answers what the document says, at every argument; without any condition. -/
import Derived.Test.YtnhbpmoeaodmnaaGreatDoorTape
import Derived.Test.YtnhbpmoeaodmnaaGreatDoorW8
import Derived.Test.YtnhbpmoeaodmnaaGreatDoorVst
import Derived.Test.YtnhbpmoeaodmnaaGreatDoorBytes
namespace Go.Proofs.YtnhbpmoeaodmnaaGreatDoor
open Go Go.V
set_option linter.unusedSimpArgs false
set_option linter.unusedVariables false
set_option maxRecDepth 100000
def be4 (l:List Nat) (i:Nat):Nat:=l.getD i 0*16777216+l.getD (i+1) 0*65536+l.getD (i+2) 0*256+l.getD (i+3) 0
theorem or4_i64 {a b c d:Nat} (ha:a<256) (hb:b<256) (hc:c<256) (hd:d<256) :
  bitOp .or .i64 (bitOp .or .i64 (bitOp .or .i64 (shlOp .i64 a 24) (shlOp .i64 b 16)) (shlOp .i64 c 8)) d=((a*16777216+b*65536+c*256+d:Nat):Int):=by
 have e1:shlOp .i64 (a:Int) 24=((a*16777216:Nat):Int):=shl_byte ha 24 (by omega)
 have e2:shlOp .i64 (b:Int) 16=((b*65536:Nat):Int):=shl_byte hb 16 (by omega)
 have e3:shlOp .i64 (c:Int) 8=((c*256:Nat):Int):=shl_byte hc 8 (by omega)
 have f1:a*16777216 ||| b*65536=a*16777216+b*65536:=or_add (k:=24) (by omega) (by omega)
 have f2:(a*16777216+b*65536) ||| c*256=a*16777216+b*65536+c*256:=or_add (k:=16) (by omega) (by omega)
 rw [e1,e2,e3,or_i64 _ _ (by omega) (by omega),f1,or_i64 _ _ (by omega) (by omega),f2,or_i64 _ _ (by omega) (by omega),or_add (k:=8) (by omega) (by omega)]
def cmdZ:List Value:=cmdC 0 0 0 0 0
def decErr (l:List Nat):Int:=if l.length=20 then cmdErr (be4 l 0) (be4 l 4) (be4 l 8) (be4 l 12) (be4 l 16) else 1
def decC (l:List Nat):List Value:=if decErr l=0 then cmdC (be4 l 0) (be4 l 4) (be4 l 8) (be4 l 12) (be4 l 16) else cmdZ
theorem decode_ok (T:World) (h:Hp) (v:Value) (l:List Nat) (s:Bs h v l) (hl:l.length≤140737488355328) :
  CallsH Tryz.prog T 56 #[v] h fun v' h'=>v'=.tuple [.agg (decC l).toArray,.int .i64 (decErr l)].toArray∧Bel h.size h h':=by
 obtain ⟨p,c,rfl,hc1⟩:=s.opend
 refine CallsH.of_code' (args:=[_]) Tryz.func56 rfl rfl rfl rfl ?_
 by_cases h20:l.length=20
 ·have h20':(l.length:Int)=20:=by omega
  obtain ⟨b,o,rfl,hb,hcs⟩:=hc1 (by intro e; subst e; simp at h20)
  simp +contextual -implicitDefEqProofs (maxSteps:=2000000) only [go_sem,↓reduceIte,h20',h20]
  refine (numbers_ok T _ (h.size+1)).use ?_
  rintro v1 h1 ⟨rfl,b1⟩
  have b1':Bel (h.size+2) _ h1:=b1.mono (by simp)
  have z1:h.size+2≤h1.size:=by have:=b1.size; simp at this; omega
  have x0:h1[h.size]? = some (.cells cmdZ.toArray 77):=b1'.get (by omega) (by rw [get_push_ne (by simp),get_push_last]; rfl)
  have x1:h1[h.size+1]? = some (.cells cmdZ.toArray 77):=b1'.get (by omega) (by have:=get_push_last (h:=h.push (.cells cmdZ.toArray 77)) (o:=.cells cmdZ.toArray 77); rw [Array.size_push] at this; exact this)
  have hbel1:Bel h.size h h1:=(((Bel.refl h.size h).add _).add _).trans (b1.mono (by simp; omega))
  clear b1 b1'
  obtain ⟨xs,hxs⟩:∃ xs:List Value,xs=cmdC (be4 l 0) (be4 l 4) (be4 l 8) (be4 l 12) (be4 l 16):=⟨_,rfl⟩
  have hx5:xs.length=5:=by rw [hxs]; rfl
  have hxi:∀ i (hi:i<5),xs[i]'(by omega)=.int .i64 (be4 l (4*i):Nat):=by
   intro i hi
   subst hxs
   rcases i with _ | _ | _ | _ | _ | i <;> first | rfl | omega
  simp +contextual -implicitDefEqProofs (maxSteps:=2000000) only [go_sem,↓reduceIte]
  refine VS.loop' (fun F g=>Bel (h.size+1) h1 g∧F 0=.slice (some ⟨b,o,none⟩) 20 c∧F 2=.pointer (some ⟨h.size,0,none⟩)∧F 4=.pointer (some ⟨h.size+1,0,none⟩)∧F 12=.agg (ptrs (h.size+1)).toArray∧∃ i:Nat,i≤5∧F 13=.int .i64 i∧g[h.size+1]? = some (.cells (xs.take i++cmdZ.drop i).toArray 77))
   (fun F _=>5 - (vi (F 13)).toNat) rfl ⟨Bel.refl _ _,rfl,rfl,rfl,rfl,0,by omega,rfl,by rw [fill_none]; exact x1⟩ ?_
  rintro F g ⟨hb',f0,f2,f4,f12,i,hi,f13,hg⟩
  by_cases hlt:i<5
  ·have hlt':(i:Int)<5:=by omega
   have p1:=ptrs_nth (h.size+1) i hlt
   simp +contextual -implicitDefEqProofs (maxSteps:=2000000) only [go_sem,↓reduceIte,f0,f4,f12,f13,hlt',p1]
   refine VS.b (h.size+1) [(0,true),(1,true),(2,true),(3,true),(4,true),(5,true),(6,true),(7,true),(8,true),(9,true),(10,true),(11,true),(12,true),(13,true),(14,true),(15,true),(16,true),(17,true),(18,true),(19,true),(20,true),(21,true),(22,true),(23,true),(24,true),(25,true),(26,true),(27,true),(28,true),(29,true),(30,true),(31,true),(32,true),(33,true),(34,true),(35,false)] mixed (by kernel_rfl) ?_
   have g0:∀ i,i<20→hc g ⟨b,o+i,none⟩=some (.int .u8 (l.getD i 0:Nat)):=fun i hi=>by rw [hb'.hc (by show b<h.size+1; omega),hbel1.hc (by exact hb)]; exact hcs i (by omega)
   have e0:=g0 (4*i) (by omega)
   have e1:=g0 (4*i+1) (by omega)
   have e2:=g0 (4*i+2) (by omega)
   have e3:=g0 (4*i+3) (by omega)
   have b0:=getD_byte s.byte (4*i)
   have b1:=getD_byte s.byte (4*i+1)
   have b2:=getD_byte s.byte (4*i+2)
   have b3:=getD_byte s.byte (4*i+3)
   have t0:(4*(i:Int)).toNat=4*i:=by omega
   have t1:(4*(i:Int)+1).toNat=4*i+1:=by omega
   have t2:(4*(i:Int)+2).toNat=4*i+2:=by omega
   have t3:(4*(i:Int)+3).toNat=4*i+3:=by omega
   have r1:i+1<6:=by omega
   have hlen:(xs.take i++cmdZ.drop i).length=5:=by rw [fill_length _ _ _ (by omega) (by rw [hx5]; rfl),hx5]
   have eo:=or4_i64 b0 b1 b2 b3
   rw [show l.getD (4*i) 0*16777216+l.getD (4*i+1) 0*65536+l.getD (4*i+2) 0*256+l.getD (4*i+3) 0=be4 l (4*i) from rfl] at eo
   simp +contextual -implicitDefEqProofs (maxSteps:=2000000) only [go_sem,↓reduceIte,f0,f4,e0,e1,e2,e3,t0,t1,t2,t3,eo]
   rw [wr1_get hg,if_pos ⟨by omega,rfl⟩]
   simp +contextual -implicitDefEqProofs (maxSteps:=2000000) only [go_sem,↓reduceIte,f13]
   refine ⟨(Bel.refl _ _).addSet (by omega) _,⟨hb'.addSet (by omega) _,f0,f2,f4,f12,i+1,hlt,rfl,?_⟩,?_⟩
   ·rw [← hxi i hlt,fill_step _ _ _ (by omega) (by rw [hx5]; rfl),Array.getElem?_setIfInBounds,if_pos rfl,if_pos (lt_of_get hg)]
   ·simp only [vi,updo_some,↓reduceIte,f13]; omega
  ·have hge:¬ (i:Int)<5:=by omega
   obtain rfl:i=5:=by omega
   rw [← hx5,fill_done _ _ (by rw [hx5]; rfl)] at hg
   have hx1:rd g ⟨h.size+1,0,none⟩ 5=some (cmdC (be4 l 0) (be4 l 4) (be4 l 8) (be4 l 12) (be4 l 16)):=by rw [← hxs]; exact rd_last hg hx5
   simp +contextual -implicitDefEqProofs (maxSteps:=2000000) only [go_sem,↓reduceIte,f2,f4,f12,f13,hge,hx1]
   refine (orderCheck_ok T _ _ _ _ _ _).use ?_
   rintro v1 h2 ⟨rfl,rfl⟩
   have y0:g[h.size]? = some (.cells cmdZ.toArray 77):=hb'.get (by omega) x0
   have y1:rd g ⟨h.size,0,none⟩ 5=some cmdZ:=rd_last y0 rfl
   unfold decC decErr
   rw [if_pos h20]
   have zg:h.size+2≤g.size:=Nat.le_trans z1 hb'.size
   have hB:=hbel1.trans (hb'.mono (by omega))
   have y2:=wr_get y0 0
   unfold cmdZ cmdC at *
   by_cases q:cmdErr (be4 l 0) (be4 l 4) (be4 l 8) (be4 l 12) (be4 l 16)=0
   ·rw [if_pos q]
    simp +contextual -implicitDefEqProofs (maxSteps:=2000000) only [go_sem,↓reduceIte,q,f2,f4,hx1,y1,y2]
    exact (hB.addSet (Nat.le_refl _) _).addP (by simp; omega) _
   ·simp only [if_neg q]
    simp +contextual -implicitDefEqProofs (maxSteps:=2000000) only [go_sem,↓reduceIte,q,f2,f4,hx1,y1,y2]
    exact (hB.addSet (Nat.le_refl _) _).addP (by simp; omega) _
 ·have h20':¬ (l.length:Int)=20:=by omega
  unfold decC decErr cmdZ cmdC
  simp +contextual -implicitDefEqProofs (maxSteps:=2000000) only [go_sem,↓reduceIte,h20',h20]
  (repeat' (first | exact Bel.refl _ _ | assumption | refine Bel.add ?_ _ | refine Bel.addSet ?_ (by first | omega | (simp; omega)) _ | refine Bel.trans (by assumption) ?_))
def chanC (k:Value) (sent top:Int) (s:List Bool):List Value:=k :: .int .i64 sent :: .int .i64 top :: s.map Value.bool
def iv (x:Int):List Value:=[.int .i64 x]
def early (top:Int) (s:List Bool) (n:Nat):Bool:=(List.range n).any fun i=>s.getD i false && decide (top - 8+i<0)
def chanErr (n:Nat) (sent top:Int) (s:List Bool):Int:=
 if n≠32∨sent<0∨1073741824<sent∨top<0∨1073741824<top then 5 else
 if early top s 8=true then 5 else if 0<top∧s.getD 7 false=false then 5 else 0
theorem bools_nth (s:List Bool) (i:Nat) (hi:i<s.length):nth (s.map Value.bool) i=some (.bool (s.getD i false)):=by
 rw [nth_eq,List.getElem?_map,List.getD_eq_getElem?_getD,List.getElem?_eq_getElem hi]; rfl
theorem early_succ (top:Int) (s:List Bool) (i:Nat):early top s (i+1)=(early top s i || (s.getD i false && decide (top - 8+i<0))):=by
 simp [early,List.range_succ]
theorem early_more {top:Int} {s:List Bool} {i:Nat} (hi:i<8) (h1:s.getD i false=true) (h2:top - 8+i<0):early top s 8=true:=by
 unfold early
 rw [List.any_eq_true]
 exact ⟨i,List.mem_range.2 hi,by simp only [h1,Bool.true_and,decide_eq_true_eq]; exact h2⟩
theorem lineCheck_ok (T:World) (h:Hp) (p:Option Addr) (n c:Nat) (sent top:Int) (s:List Bool) (hs:s.length=8) :
  CallsH Tryz.prog T 79 #[.agg (chanC (.slice p n c) sent top s).toArray] h fun v' h'=>v'=.int .i64 (chanErr n sent top s)∧Bel h.size h h':=by
 refine CallsH.of_code' (args:=[_]) Tryz.func79 rfl rfl rfl rfl ?_
 have hs':(s.map Value.bool).length=8:=by rw [List.length_map,hs]
 have tk:(s.map Value.bool).take 8=s.map Value.bool:=take_len hs'
 have n7:=bools_nth s 7 (by omega)
 unfold chanC
 by_cases q:n≠32∨sent<0∨1073741824<sent∨top<0∨1073741824<top
 ·have e:chanErr n sent top s=5:=by unfold chanErr; rw [if_pos q]
  rw [e]
  by_cases q1:(n:Int)=32
  ·by_cases q2:sent<0
   ·simp +contextual -implicitDefEqProofs (maxSteps:=2000000) only [go_sem,↓reduceIte,q1,q2]
    (repeat' (first | exact Bel.refl _ _ | assumption | refine Bel.add ?_ _ | refine Bel.addSet ?_ (by first | omega | (simp; omega)) _ | refine Bel.trans (by assumption) ?_))
   ·by_cases q3:1073741824<sent
    ·simp +contextual -implicitDefEqProofs (maxSteps:=2000000) only [go_sem,↓reduceIte,q1,q2,q3]
     (repeat' (first | exact Bel.refl _ _ | assumption | refine Bel.add ?_ _ | refine Bel.addSet ?_ (by first | omega | (simp; omega)) _ | refine Bel.trans (by assumption) ?_))
    ·by_cases q4:top<0
     ·simp +contextual -implicitDefEqProofs (maxSteps:=2000000) only [go_sem,↓reduceIte,q1,q2,q3,q4]
      (repeat' (first | exact Bel.refl _ _ | assumption | refine Bel.add ?_ _ | refine Bel.addSet ?_ (by first | omega | (simp; omega)) _ | refine Bel.trans (by assumption) ?_))
     ·have q5:1073741824<top:=by omega
      simp +contextual -implicitDefEqProofs (maxSteps:=2000000) only [go_sem,↓reduceIte,q1,q2,q3,q4,q5]
      (repeat' (first | exact Bel.refl _ _ | assumption | refine Bel.add ?_ _ | refine Bel.addSet ?_ (by first | omega | (simp; omega)) _ | refine Bel.trans (by assumption) ?_))
  ·simp +contextual -implicitDefEqProofs (maxSteps:=2000000) only [go_sem,↓reduceIte,q1]
   (repeat' (first | exact Bel.refl _ _ | assumption | refine Bel.add ?_ _ | refine Bel.addSet ?_ (by first | omega | (simp; omega)) _ | refine Bel.trans (by assumption) ?_))
 ·have q1:(n:Int)=32:=by omega
  have q2:¬ sent<0:=by omega
  have q3:¬ 1073741824<sent:=by omega
  have q4:¬ top<0:=by omega
  have q5:¬ 1073741824<top:=by omega
  simp +contextual -implicitDefEqProofs (maxSteps:=2000000) only [go_sem,↓reduceIte,q1,q2,q3,q4,q5,hs',tk]
  obtain ⟨H,hH⟩:∃ H:Hp,H=h.push (.cells (.slice p n c :: .int .i64 sent :: .int .i64 top :: s.map Value.bool).toArray 138):=⟨_,rfl⟩
  have hb:Bel h.size h H:=by rw [hH]; exact (Bel.refl _ _).add _
  have x1:H[h.size]? = some (.cells (.slice p n c :: .int .i64 sent :: .int .i64 top :: s.map Value.bool).toArray 138):=by rw [hH]; exact get_push_last
  have x2:hc H ⟨h.size,2,none⟩=some (.int .i64 top):=by rw [hc_last x1]; rfl
  have x7:hc H ⟨h.size,3+7,none⟩=some (.bool (s.getD 7 false)):=by rw [hc_last x1]; exact n7
  rw [← hH]
  refine VS.loop' (fun F g=>g=H∧F 1=.pointer (some ⟨h.size,0,none⟩)∧F 30=.agg (s.map Value.bool).toArray∧∃ i:Nat,i≤8∧F 31=.int .i64 i∧early top s i=false)
   (fun F _=>8 - (vi (F 31)).toNat) rfl ⟨rfl,rfl,rfl,0,by omega,rfl,rfl⟩ ?_
  rintro F g ⟨rfl,f1,f30,i,hi,f31,he⟩
  by_cases hlt:i<8
  ·have hlt':(i:Int)<8:=by omega
   have ni:=bools_nth s i (by omega)
   by_cases c1:s.getD i false=true
   ·rw [c1] at ni
    by_cases c2:top - 8+i<0
    ·have e:chanErr n sent top s=5:=by unfold chanErr; rw [if_neg q,if_pos (early_more hlt c1 c2)]
     rw [e]
     simp +contextual -implicitDefEqProofs (maxSteps:=2000000) only [go_sem,↓reduceIte,f1,f30,f31,hlt',ni,x2,c2,hb]
    ·simp +contextual -implicitDefEqProofs (maxSteps:=2000000) only [go_sem,↓reduceIte,f1,f30,f31,hlt',ni,x2,c2]
     refine ⟨⟨rfl,f1,f30,i+1,hlt,rfl,by rw [early_succ,he,c1]; simpa using c2⟩,?_⟩
     simp only [vi,updo_some,↓reduceIte,f31]; omega
   ·have c1:s.getD i false=false:=by simpa using c1
    rw [c1] at ni
    simp +contextual -implicitDefEqProofs (maxSteps:=2000000) only [go_sem,↓reduceIte,f1,f30,f31,hlt',ni]
    refine ⟨⟨rfl,f1,f30,i+1,hlt,rfl,by rw [early_succ,he,c1]; rfl⟩,?_⟩
    simp only [vi,updo_some,↓reduceIte,f31]; omega
  ·have hge:¬ (i:Int)<8:=by omega
   obtain rfl:i=8:=by omega
   have e:chanErr n sent top s=if 0<top∧s.getD 7 false=false then 5 else 0:=by unfold chanErr; rw [if_neg q,he]; rfl
   rw [e]
   by_cases c1:0<top
   ·by_cases c2:s.getD 7 false=true
    ·rw [c2] at x7
     simp +contextual -implicitDefEqProofs (maxSteps:=2000000) only [go_sem,↓reduceIte,f1,f30,f31,hge,x2,x7,c1,c2,hb]
    ·have c2:s.getD 7 false=false:=by simpa using c2
     rw [c2] at x7
     simp +contextual -implicitDefEqProofs (maxSteps:=2000000) only [go_sem,↓reduceIte,f1,f30,f31,hge,x2,x7,c1,c2,hb]
   ·simp +contextual -implicitDefEqProofs (maxSteps:=2000000) only [go_sem,↓reduceIte,f1,f30,f31,hge,x2,c1,hb]
def metN (top:Int) (s:List Bool) (n:Nat):List Int:=((List.range n).filter fun i=>s.getD i false).map fun i:Nat=>top - 8+(i:Int)
theorem metN_succ (top:Int) (s:List Bool) (i:Nat):metN top s (i+1)=metN top s i++(if s.getD i false=true then [top - 8+(i:Int)] else []):=by
 unfold metN
 rw [List.range_succ,List.filter_append,List.map_append]
 congr 1
 by_cases h:s.getD i false=true
 ·rw [List.filter_cons_of_pos (by simpa using h),if_pos h]; rfl
 ·rw [List.filter_cons_of_neg (by simpa using h),if_neg h]; rfl
def seenOf (l:List Int) (t:Int):List Bool:=(List.range 8).map fun k:Nat=>l.any fun x=>x - t+8 == (k:Int)
theorem seenOf_length (l:List Int) (t:Int):(seenOf l t).length=8:=by simp [seenOf]
theorem seenOf_snoc (l:List Int) (t x:Int) (hx:x - t+8<8):seenOf (l++[x]) t=if 0≤x - t+8 then (seenOf l t).set (x - t+8).toNat true else seenOf l t:=by
 apply List.ext_getElem
 ·split <;> simp [seenOf]
 ·intro k h1 h2
  have hk:k<8:=by simpa [seenOf] using h1
  by_cases h0:0≤x - t+8
  ·simp only [if_pos h0,List.getElem_set]
   by_cases e:(x - t+8).toNat=k
   ·rw [if_pos e]
    simp only [seenOf,List.getElem_map,List.getElem_range,List.any_append,List.any_cons,List.any_nil,Bool.or_false,Bool.or_eq_true]
    right
    simp only [beq_iff_eq]; omega
   ·rw [if_neg e]
    simp only [seenOf,List.getElem_map,List.getElem_range,List.any_append,List.any_cons,List.any_nil,Bool.or_false]
    have:(x - t+8 == (k:Int))=false:=by simp only [beq_eq_false_iff_ne,ne_eq]; omega
    rw [this,Bool.or_false]
  ·simp only [if_neg h0]
   simp only [seenOf,List.getElem_map,List.getElem_range,List.any_append,List.any_cons,List.any_nil,Bool.or_false]
   have:(x - t+8 == (k:Int))=false:=by simp only [beq_eq_false_iff_ne,ne_eq]; omega
   rw [this,Bool.or_false]
def chanZ:List Value:=[.slice none 0 0,.int .i64 0,.int .i64 0,.bool false,.bool false,.bool false,.bool false,.bool false,.bool false,.bool false,.bool false]
theorem chan_set (k:Value) (sent top:Int) (s:List Bool) (i:Nat):(chanC k sent top s).set (3+i) (.bool true)=chanC k sent top (s.set i true):=by
 rw [show 3+i=i+1+1+1 by omega]
 simp [chanC,List.map_set]
def ChanRes (B:Nat) (h':Hp) (v':Value) (kl:List Nat) (sent top:Int) (s:List Bool):Prop:=∃ w,v'=.agg (chanC w sent top s).toArray∧OBs B 5 h' w kl
theorem chanC_length (k:Value) (sent top:Int) (s:List Bool) (hs:s.length=8):(chanC k sent top s).length=11:=by simp [chanC,hs]
theorem chanC_one {p:Option Addr} {n c:Nat} (sent top:Int) (s:List Bool):(chanC (.slice p n c) sent top s).all oneC=true:=by simp [chanC,oneC]
theorem chan_first (k w:Value) (sent top:Int) (s:List Bool):(chanC k sent top s).set 0 w=chanC w sent top s:=rfl
theorem chan_copy {h h2:Hp} {kl:List Nat} {p:Option Addr} {c:Nat} {k:Value} {sent top:Int} {s:List Bool} (hs:s.length=8) (b:Bel (h.size+2) ((h.push (.cells (chanC k sent top s).toArray 138)).push (.cells chanZ.toArray 138)) h2) :
  wr1 h2 ⟨h.size,0,none⟩ (.slice p kl.length c)=some (h2.setIfInBounds h.size (.cells (chanC (.slice p kl.length c) sent top s).toArray 138))∧h2[h.size+1]? = some (.cells chanZ.toArray 138)∧h.size+2≤h2.size:=by
 have x0:h2[h.size]? = some (.cells (chanC k sent top s).toArray 138):=b.get (by omega) (by rw [get_push_ne (by simp),get_push_last])
 have x1:h2[h.size+1]? = some (.cells chanZ.toArray 138):=b.get (by omega) (by have:=get_push_last (h:=h.push (.cells (chanC k sent top s).toArray 138)) (o:=.cells chanZ.toArray 138); rw [Array.size_push] at this; exact this)
 have z:=b.size
 simp at z
 refine ⟨?_,x1,by omega⟩
 rw [wr1_get x0,if_pos ⟨by rw [chanC_length _ _ _ _ hs]; omega,rfl⟩,chan_first]
theorem own_ok (T:World) (h:Hp) (k:Value) (kl:List Nat) (sent top:Int) (s:List Bool) (hs:s.length=8) (sk:Bs h k kl) (hk:kl.length≤140737488355328) :
  CallsH Tryz.prog T 113 #[.agg (chanC k sent top s).toArray] h fun v' h'=>ChanRes h.size h' v' kl sent top s∧Bel h.size h h':=by
 obtain ⟨p,c,rfl,_⟩:=sk.open
 refine CallsH.of_code' (args:=[_]) Tryz.func113 rfl rfl rfl rfl ?_
 have hs':(s.map Value.bool).length=8:=by rw [List.length_map,hs]
 unfold chanC
 simp +contextual -implicitDefEqProofs (maxSteps:=2000000) only [go_sem,↓reduceIte]
 refine (clone_ok T _ _ kl (sk.bel ((Bel.refl h.size h).add _ |>.add _)) hk).use ?_
 rintro w h2 ⟨ow,b2⟩
 have b2':Bel (h.size+2) _ h2:=b2.mono (by simp)
 have hB:Bel h.size h h2:=((Bel.refl h.size h).add _ |>.add _).trans (b2.mono (by simp; omega))
 obtain ⟨pw,cw,rfl,_⟩:=ow.open
 obtain ⟨y1,y2,y3⟩:=chan_copy (kl:=kl) (p:=pw) (c:=cw) hs b2'
 have ow:=ow.mono (B':=h.size+2) (by simp)
 have y4:=wr_get y2 0 (chanC (.slice pw kl.length cw) sent top s)
 rw [lput_full (chanC_length _ _ _ _ hs),if_pos ⟨by rw [chanC_length _ _ _ _ hs]; exact Nat.le_refl _,chanC_one _ _ _⟩] at y4
 obtain ⟨C,hC⟩:∃ C,C=chanC (.slice pw kl.length cw) sent top s:=⟨_,rfl⟩
 have hC11:C.length=11:=by rw [hC]; exact chanC_length _ _ _ _ hs
 have tk:=take_len hC11
 rw [← hC] at y1 y4
 have y5:=wr_get (h:=h2.setIfInBounds h.size (.cells C.toArray 138)) (b:=h.size+1) (l:=chanZ) (t:=138) (by rw [Array.getElem?_setIfInBounds,if_neg (by omega)]; exact y2) 0 C
 have hone:C.all oneC=true:=by rw [hC]; exact chanC_one _ _ _
 rw [lput_full (by rw [hC11]; rfl),if_pos ⟨by rw [hC11]; exact Nat.le_refl _,hone⟩] at y5
 clear y4
 simp +contextual -implicitDefEqProofs (maxSteps:=2000000) only [go_sem,↓reduceIte,y1,y5,hC11,tk]
 refine ⟨⟨_,by rw [hC],?_⟩,(hB.addSet (by omega) _).addSet (by omega) _⟩
 exact ((ow.setLow (by omega) _).setLow (by omega) _).mono (by omega)
end Go.Proofs.YtnhbpmoeaodmnaaGreatDoor
