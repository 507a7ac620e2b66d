/- A vote, laid among votes that stand by slots: what the program computes; no condition but those in the statements. -/
import Derived.Test.YtnhbpmoeaodmnaaGreatDoorPik
import Derived.Test.YtnhbpmoeaodmnaaGreatDoorW21
import Derived.Test.YtnhbpmoeaodmnaaGreatDoorChw
import Derived.Test.YtnhbpmoeaodmnaaGreatDoorTape
import Derived.Test.YtnhbpmoeaodmnaaGreatDoorVst
import Derived.Test.YtnhbpmoeaodmnaaGreatDoorTakf
import Derived.Test.YtnhbpmoeaodmnaaGreatDoorKey
import Derived.Test.YtnhbpmoeaodmnaaGreatDoorTab
namespace Go.Proofs.YtnhbpmoeaodmnaaGreatDoor
open Go Go.V
set_option linter.unusedSimpArgs false
set_option linter.unusedVariables false
set_option maxRecDepth 100000
theorem accCmp_ok (T:World) (h:Hp) (x y:Vt):CallsH Tryz.prog T 107 #[.agg (voteC x).toArray,.agg (voteC y).toArray] h fun v' h'=>v'=.int .i64 (icmp x.slot y.slot)∧Bel h.size h h':=by
 refine CallsH.of_code' (args:=[_,_]) Tryz.func107 rfl rfl rfl rfl ?_
 unfold voteC
 simp -implicitDefEqProofs (maxSteps:=2000000) only [go_sem,↓reduceIte]
 refine (cmpCompare_ok T _ _ _).pure ?_
 simp -implicitDefEqProofs (maxSteps:=2000000) only [go_sem,↓reduceIte]
 (repeat' (first | exact Bel.refl _ _ | assumption | refine Bel.add ?_ _ | refine Bel.addSet ?_ (by first | omega | (simp; omega)) _ | refine Bel.trans (by assumption) ?_))
def Found (l:List Vt) (s:Int) (i:Nat) (b:Bool):Prop:=(b=true∧∃ hi:i<l.length,l[i].slot=s)∨(b=false∧(∀ j (hj:j<l.length),j<i→l[j].slot<s)∧∀ j (hj:j<l.length),i≤j→s<l[j].slot)
theorem icmp_neg (a b:Int):icmp a b<0↔a<b:=by unfold icmp; split <;> (try split) <;> omega
theorem icmp_zero (a b:Int):icmp a b=0↔a=b:=by unfold icmp; split <;> (try split) <;> omega
theorem half_u64 {x:Nat}:shrOp .u64 (x:Int) 1=((x / 2:Nat):Int):=by
 rw [show (1:Int)=((1:Nat):Int) from rfl,shr_nat .u64 x 1 (by decide),Nat.shiftRight_eq_div_pow]
theorem bsearch_ok (T:World) (h:Hp) (u:Value) (l:List Vt) (v:Vt) (s:Ts voteC 8 h u l) (hs:Srt l) (hl:l.length≤2199023255552) :
  CallsH Tryz.prog T 106 #[u,.agg (voteC v).toArray,.func (.func 107) #[] #[]] h fun v' h'=>(∃ (i:Nat) (b:Bool),i≤l.length∧v'=.tuple [.int .i64 i,.bool b].toArray∧Found l v.slot i b)∧Bel h.size h h':=by
 obtain ⟨p,c,rfl,hcs⟩:=votes_open s
 refine CallsH.of_code' (args:=[_,_,_]) Tryz.func106 rfl rfl rfl rfl ?_
 unfold voteC
 simp -implicitDefEqProofs (maxSteps:=2000000) only [go_sem,↓reduceIte]
 refine VS.loop' (fun F g=>Bel h.size h g∧g[h.size]? = some (.cells (voteC v).toArray 96)∧F 0=.slice p l.length c∧F 2=.func (.func 107) #[] #[]∧F 4=.pointer (some ⟨h.size,0,none⟩)∧F 8=.int .i64 l.length∧∃ i j:Nat,i≤j∧j≤l.length∧F 9=.int .i64 i∧F 10=.int .i64 j∧(∀ k (hk:k<l.length),k<i→l[k].slot<v.slot)∧(∀ k (hk:k<l.length),j≤k→v.slot≤l[k].slot))
  (fun F _=>(vi (F 10)).toNat - (vi (F 9)).toNat) rfl ⟨(Bel.refl _ _).add _,get_push_last,rfl,rfl,rfl,rfl,0,l.length,by omega,by omega,rfl,rfl,fun k _ hk=>by omega,fun k hk hk'=>by omega⟩ ?_
 rintro F g ⟨hg,hx,f0,f2,f4,f8,i,j,hij,hj,f9,f10,lo,hi⟩
 have hgs:=hg.size
 have hz:=lt_of_get hx
 have rx:rd g ⟨h.size,0,none⟩ 8=some (voteC v):=rd_last hx rfl
 unfold voteC at rx
 by_cases hlt:i<j
 ·have hlt':(i:Int)<j:=by omega
  have e1:(i:Int)+(j:Int)=((i+j:Nat):Int):=by omega
  have e2:((i+j:Nat):Int) % 18446744073709551616=((i+j:Nat):Int):=by omega
  have e3:=half_u64 (x:=i+j)
  obtain ⟨m,hm⟩:∃ m,m=(i+j) / 2:=⟨_,rfl⟩
  rw [← hm] at e3
  have hml:m<l.length:=by omega
  have hml':(m:Int)<l.length:=by omega
  obtain ⟨bb,oo,rfl,hbb,_,hcs⟩:=hcs (by intro e; rw [e] at hml; simp at hml)
  have rm:rd g ⟨bb,oo+m*8,none⟩ 8=some (voteC l[m]):=by rw [rd_bel hg (by exact hbb)]; exact hcs m hml
  obtain ⟨y,hy⟩:∃ y,y=l[m]:=⟨_,rfl⟩
  rw [← hy] at rm
  unfold voteC at rm
  simp -implicitDefEqProofs (maxSteps:=2000000) only [go_sem,↓reduceIte,f9,f10,hlt',e1,e2,e3]
  refine VS.w (g.size) [] (.q 0 (.q 1 (.q 2 (.q 3 (.q 4 (.q 5 (.s 6 (.q 7 .nil)))))))) mixed (by kernel_rfl) ?_
  have q1:bb<g.size:=by omega
  simp -implicitDefEqProofs (maxSteps:=2000000) only [go_sem,↓reduceIte,f0,f2,f4,hml',rm,rx,hz,q1]
  refine (accCmp_ok T g y v).use ?_
  rintro _ g1 ⟨rfl,b1⟩
  have hg1:=hg.trans (b1.mono hgs)
  have hx1:=b1.get hz hx
  by_cases q:y.slot<v.slot
  ·have q':=(icmp_neg _ _).2 q
   simp -implicitDefEqProofs (maxSteps:=2000000) only [go_sem,↓reduceIte,q',f0,f2,f4,f8,f9,f10]
   refine ⟨b1,⟨hg1,hx1,f0,f2,f4,f8,m+1,j,by omega,hj,rfl,f10,fun k hk hkm=>?_,hi⟩,?_⟩
   ·by_cases e:k=m
    ·subst e; rw [← hy]; exact q
    ·have:=hs k m hk hml (by omega); rw [← hy] at this; omega
   ·simp only [vi,updo_some,↓reduceIte,Nat.reduceEqDiff,f9,f10]; omega
  ·have q':¬ icmp y.slot v.slot<0:=fun h=>q ((icmp_neg _ _).1 h)
   simp -implicitDefEqProofs (maxSteps:=2000000) only [go_sem,↓reduceIte,q',f0,f2,f4,f8,f9,f10]
   refine ⟨b1,⟨hg1,hx1,f0,f2,f4,f8,i,m,by omega,by omega,f9,rfl,lo,fun k hk hkm=>?_⟩,?_⟩
   ·by_cases e:k=m
    ·subst e; rw [← hy]; omega
    ·have:=hs m k hml hk (by omega); rw [← hy] at this; omega
   ·simp only [vi,updo_some,↓reduceIte,Nat.reduceEqDiff,f9,f10]; omega
 ·have hlt':¬ (i:Int)<j:=by omega
  obtain rfl:i=j:=by omega
  by_cases hil:i<l.length
  ·have hil':(i:Int)<l.length:=by omega
   obtain ⟨bb,oo,rfl,hbb,_,hcs⟩:=hcs (by intro e; rw [e] at hil; simp at hil)
   have rm:rd g ⟨bb,oo+i*8,none⟩ 8=some (voteC l[i]):=by rw [rd_bel hg (by exact hbb)]; exact hcs i hil
   have hge:=hi i hil (Nat.le_refl _)
   obtain ⟨y,hy⟩:∃ y,y=l[i]:=⟨_,rfl⟩
   rw [← hy] at rm hge
   unfold voteC at rm
   simp -implicitDefEqProofs (maxSteps:=2000000) only [go_sem,↓reduceIte,f9,f10,hlt']
   refine VS.w (g.size) [] (.q 0 (.q 1 (.q 2 (.q 3 (.q 4 (.q 5 (.q 6 (.q 7 (.q 8 (.q 9 (.q 10 (.s 11 (.q 12 (.q 13 (.q 14 (.q 15 .nil)))))))))))))))) mixed (by kernel_rfl) ?_
   have q1:bb<g.size:=by omega
   simp -implicitDefEqProofs (maxSteps:=2000000) only [go_sem,↓reduceIte,f0,f2,f4,f8,f9,f10,hil',rm,rx,hz,q1]
   refine (accCmp_ok T g y v).use ?_
   rintro _ g1 ⟨rfl,b1⟩
   have hg1:=hg.trans (b1.mono hgs)
   by_cases q:y.slot=v.slot
   ·have q':=(icmp_zero _ _).2 q
    simp -implicitDefEqProofs (maxSteps:=2000000) only [go_sem,↓reduceIte,q']
    exact ⟨b1,⟨i,true,by omega,rfl,.inl ⟨rfl,hil,by rw [← hy]; exact q⟩⟩,hg1⟩
   ·have q':¬ icmp y.slot v.slot=0:=fun h=>q ((icmp_zero _ _).1 h)
    simp -implicitDefEqProofs (maxSteps:=2000000) only [go_sem,↓reduceIte,q']
    refine ⟨b1,⟨i,false,by omega,rfl,.inr ⟨rfl,fun k hk hkm=>lo k hk hkm,fun k hk hkm=>?_⟩⟩,hg1⟩
    by_cases e:k=i
    ·subst e; rw [← hy]; omega
    ·have:=hs i k hil hk (by omega); rw [← hy] at this; omega
  ·have hil':¬ (i:Int)<l.length:=by omega
   simp -implicitDefEqProofs (maxSteps:=2000000) only [go_sem,↓reduceIte,f9,f10,hlt']
   refine VS.w (g.size) [] (.q 0 (.q 1 (.q 2 (.q 3 (.q 4 (.q 5 (.q 6 (.q 7 (.q 8 (.q 9 (.q 10 (.s 11 (.q 12 (.q 13 (.q 14 (.q 15 .nil)))))))))))))))) mixed (by kernel_rfl) ?_
   simp -implicitDefEqProofs (maxSteps:=2000000) only [go_sem,↓reduceIte,f0,f2,f4,f8,f9,f10,hil']
   exact ⟨⟨i,false,by omega,rfl,.inr ⟨rfl,fun k hk hkm=>lo k hk hkm,fun k hk hkm=>by omega⟩⟩,hg⟩
theorem encV_length (l:List Vt):(encs voteC l).length=l.length*8:=encs_length (n:=8) (fun _=>rfl) l
theorem encV_one (l:List Vt):(encs voteC l).all oneC=true:=by
 induction l with
 | nil=>rfl
 | cons x l ih=>rw [encs,List.all_append,ih]; rfl
theorem zeroV (k:Nat):(Builtin.zeroCells (rep 8 [Value.int .i64 0]).toArray k).toList.length=k*8:=by rw [Array.length_toList,zeroCells_size]; rfl
theorem zeroV_one (k:Nat):(Builtin.zeroCells (rep 8 [Value.int .i64 0]).toArray k).toList.all oneC=true:=by
 unfold Builtin.zeroCells
 rw [List.all_eq_true]
 intro x hx
 simp only [Array.toList_map,Array.toList_range,List.mem_map] at hx
 obtain ⟨j,_,rfl⟩:=hx
 have:j % 8<8:=Nat.mod_lt _ (by decide)
 show oneC ((rep 8 [Value.int .i64 0]).toArray[j % 8]!)=true
 rcases (by omega:j % 8=0∨j % 8=1∨j % 8=2∨j % 8=3∨j % 8=4∨j % 8=5∨j % 8=6∨j % 8=7) with e | e | e | e | e | e | e | e <;> rw [e] <;> rfl
theorem overlapsFn:Extern.findNext Tryz.f130=none∧Extern.find Tryz.f130=some (Extern.SlicesOverlaps.overlaps #[61,61] #[4]):=⟨by kernel_rfl,by kernel_rfl⟩
theorem insert_ok (T:World) (h:Hp) (B:Nat) (p:Option Addr) (cap i:Nat) (l:List Vt) (x:Vt) (bv:Nat) (own:Ots B 96 voteC 8 h (.slice p l.length cap) l) (hB:B≤h.size) (hi:i≤l.length) (hl:l.length≤1000000)
  (hx:h[bv]? = some (.cells (voteC x).toArray 96)) (hne:cap≠0→∀ b o,p=some ⟨b,o,none⟩→b≠bv) :
  CallsH Tryz.prog T 109 #[.slice p l.length cap,.int .i64 i,.slice (some ⟨bv,0,none⟩) 1 1] h fun v' h'=>Ots B 96 voteC 8 h' v' (l.take i++x :: l.drop i)∧Bel B h h':=by
 refine CallsH.of_code' (args:=[_,_,_]) Tryz.func109 rfl rfl rfl rfl ?_
 have hlc:l.length≤cap:=by
  obtain ⟨_,_,e,h⟩:=own.open
  simp only [Value.slice.injEq] at e
  omega
 have n1:(0:Int)≤(i:Int):=by omega
 have n2:(i:Int)≤(l.length:Int):=by omega
 have sx:Ts voteC 8 h (.slice (some ⟨bv,0,none⟩) 1 1) [x]:=⟨by
  have:=sl_of_get (pre:=[]) (cs:=voteC x) (post:=[]) (m:=1) (n:=8) (c:=1) (by rw [List.append_nil,List.nil_append]; exact hx) rfl rfl
  simpa [encs] using this⟩
 by_cases hin:i=l.length
 ·subst hin
  have k1:((1:Nat):Int)=1:=rfl
  by_cases c0:cap=0
  ·obtain rfl:l=[]:=List.eq_nil_of_length_eq_zero (by omega)
   subst c0
   rw [List.length_nil] at own ⊢
   have k0:((0:Nat):Int)=0:=rfl
   simp -implicitDefEqProofs (maxSteps:=2000000) only [go_sem,↓reduceIte,k0,k1]
   refine append_ts (E:=96) (B:=B) (n:=8) (bytes:=64) tsl61 Tryz.underlying61 tn96 tz96 rfl tb96 (fun _=>rfl) own hB sx (by simp only [List.length_singleton,List.length_nil]; omega) (by omega) ?_
   intro v' h' ho hb _
   simp -implicitDefEqProofs (maxSteps:=2000000) only [go_sem,↓reduceIte]
   exact ⟨ho,hb⟩
  ·obtain ⟨b,spare,hBb,rfl,hg,_,hsp,_⟩:=own.own.spare c0
   have hz:(l.length:Int)≤(l.length:Int):=Int.le_refl _
   simp -implicitDefEqProofs (maxSteps:=2000000) only [go_sem,↓reduceIte,n1,n2,k1,Int.toNat_natCast]
   refine append_ts (E:=96) (B:=B) (n:=8) (bytes:=64) tsl61 Tryz.underlying61 tn96 tz96 rfl tb96 (fun _=>rfl) own hB sx (by simp only [List.length_singleton]; omega) (by omega) ?_
   intro v' h' ho hb _
   simp -implicitDefEqProofs (maxSteps:=2000000) only [go_sem,↓reduceIte]
   rw [List.take_length,List.drop_length]
   exact ⟨ho,hb⟩
 have hil:i<l.length:=by omega
 have hi':¬ (i:Int)=(l.length:Int):=by omega
 have c0:cap≠0:=by omega
 obtain ⟨b,spare,hBb,rfl,hg,_,hsp,_⟩:=own.own.spare c0
 have hbv:b≠bv:=hne c0 b 0 rfl
 have et:l=l.take i++(l[i] :: l.drop (i+1)):=by
  conv=>lhs; rw [← List.take_append_drop i l,List.drop_eq_getElem_cons hil]
 have ed:encs voteC (l.drop i)=voteC l[i]++encs voteC (l.drop (i+1)):=by
  rw [List.drop_eq_getElem_cons hil]; rfl
 have ee:encs voteC l=encs voteC (l.take i)++encs voteC (l.drop i):=by rw [← encs_append,List.take_append_drop]
 have lt:(encs voteC (l.take i)).length=i*8:=by rw [encV_length,List.length_take]; congr 1; omega
 have ld:(encs voteC (l.drop i)).length=(l.length - i)*8:=by rw [encV_length,List.length_drop]
 have efin:encs voteC (l.take i++x :: l.drop i)=encs voteC (l.take i)++(voteC x++encs voteC (l.drop i)):=by rw [encs_append]; rfl
 have lfin:(l.take i++x :: l.drop i).length=l.length+1:=by rw [List.length_append,List.length_take,List.length_cons,List.length_drop]; omega
 have c1:¬ cap=i:=by omega
 have m1:(l.length:Int)+1=((l.length+1:Nat):Int):=by omega
 have m2:((l.length+1:Nat):Int) - (i:Int)=((l.length+1 - i:Nat):Int):=by omega
 have m3:(i:Int)+1=((i+1:Nat):Int):=by omega
 have k1:((1:Nat):Int)=1:=rfl
 by_cases hcap:cap<l.length+1
 ·have hcap':(cap:Int)<((l.length+1:Nat):Int):=by omega
  have n3:(i:Int)≤(cap:Int):=by omega
  simp -implicitDefEqProofs (maxSteps:=2000000) only [go_sem,↓reduceIte,n1,n2,n3,k1,hi',m1,hcap',m2,Int.toNat_natCast]
  have own2:Own B 96 8 h (.slice (some ⟨b,0,none⟩) i cap) i (encs voteC (l.take i)):=by
   have:=own.own.fore hi
   rw [ee,List.take_left' lt] at this
   exact this
  refine append_made2 (E:=96) (B:=B) (n:=8) (m:=i) (k:=l.length+1 - i) (bytes:=64) (zs:=rep 8 [Value.int .i64 0]) tsl61 Tryz.underlying3 tn96 tz96 rfl (by decide) tb96 own2 hB (zeroV_one _) (by omega) (by omega) ?_
  intro w g ow _ hnew
  obtain ⟨hbg,c2,rfl⟩:=hnew _ _ rfl (by omega)
  obtain ⟨Z,hZ⟩:∃ Z,Z=(Builtin.zeroCells (rep 8 [Value.int .i64 0]).toArray (l.length+1 - i)).toList:=⟨_,rfl⟩
  have lZ:=zeroV (l.length+1 - i)
  rw [← hZ] at ow lZ
  have ec:i+(l.length+1 - i)=l.length+1:=by omega
  rw [ec] at ow ⊢
  rcases ow with ⟨_,h0,_⟩ | ⟨b2,cap2,sp2,_,hv2,hg2,_,hs2,hc2⟩
  ·omega
  simp only [Value.slice.injEq,Option.some.injEq,Addr.mk.injEq,true_and,and_true] at hv2
  obtain ⟨rfl,rfl⟩:=hv2
  have d1:¬ c2=i:=by omega
  have d2:(i:Int)≤((l.length+1:Nat):Int):=by omega
  have hbl:=lt_of_get hg
  have hvl:=lt_of_get hx
  have hgb:g[b]? = _:=hbg.get hbl hg
  have hgv:g[bv]? = _:=hbg.get hvl hx
  have sx1:Sl 8 g (.slice (some ⟨bv,0,none⟩) 1 1) 1 (voteC x):=sl_of_get (pre:=[]) (post:=[]) (by rw [List.append_nil,List.nil_append]; exact hgv) rfl rfl
  have min1:min 1 (l.length+1 - i)=1:=by omega
  have eZ:encs voteC (l.take i)++Z++sp2=encs voteC (l.take i)++(Z.take 8++(Z.drop 8++sp2)):=by rw [List.append_assoc,← List.append_assoc (Z.take 8),List.take_append_drop]
  have lz8:(Z.take 8).length=8:=by rw [List.length_take]; omega
  have ldz:(Z.drop 8).length=(l.length - i)*8:=by rw [List.length_drop]; omega
  have ec1:lput (encs voteC (l.take i)++Z++sp2) (i*8) ((voteC x).take (1*8))=(encs voteC (l.take i)++voteC x)++(Z.drop 8++sp2):=by
   rw [show (voteC x).take (1*8)=voteC x from rfl,eZ,lput_at lt.symm (by rw [lz8]; rfl),List.append_assoc]
  simp -implicitDefEqProofs (maxSteps:=2000000) only [go_sem,↓reduceIte,n1,d1,d2,Int.toNat_natCast,Nat.zero_add]
  refine copy_many (E:=96) (n:=8) tsl61 tn96 hg2 sx1 rfl ?_ ?_
  ·rw [min1,List.length_append,List.length_append,lt,lZ]; omega
  rw [min1,ec1]
  obtain ⟨g2,hg2e⟩:∃ g2:Hp,g2=g.setIfInBounds h.size (.cells ((encs voteC (l.take i)++voteC x)++(Z.drop 8++sp2)).toArray 96):=⟨_,rfl⟩
  rw [← hg2e]
  have g2n:g2[h.size]? = some (.cells ((encs voteC (l.take i)++voteC x)++(Z.drop 8++sp2)).toArray 96):=by rw [hg2e]; exact get_set hg2
  have g2b:g2[b]? = some (.cells (encs voteC (l.take i)++(encs voteC (l.drop i)++spare)).toArray 96):=by rw [hg2e,get_set_ne (by omega),hgb,ee,List.append_assoc]
  have bg2:Bel h.size h g2:=by rw [hg2e]; exact hbg.addSet (Nat.le_refl _) _
  clear hg2e
  have m4:(i:Int)+1=((i+1:Nat):Int):=by omega
  have d3:¬ c2=i+1:=by omega
  have d4:((i+1:Nat):Int)≤((l.length+1:Nat):Int):=by omega
  have d5:(0:Int)≤((i+1:Nat):Int):=by omega
  simp -implicitDefEqProofs (maxSteps:=2000000) only [go_sem,↓reduceIte]
  refine VS.w (h.size) [8] (.q 0 (.q 1 (.q 2 (.q 3 (.q 4 (.q 5 (.q 6 (.q 7 (.w 8 .nil))))))))) mixed (by kernel_rfl) ?_
  simp -implicitDefEqProofs (maxSteps:=2000000) only [go_sem,↓reduceIte,n1,n2,m4,k1,d3,d4,d5,c1,Int.toNat_natCast,Nat.zero_add]
  have ss:Sl 8 g2 (.slice (some ⟨b,i*8,none⟩) (l.length - i) (cap - i)) (l.length - i) (encs voteC (l.drop i)):=sl_of_get g2b ld lt.symm
  have min2:min (l.length - i) (l.length+1 - (i+1))=l.length - i:=by omega
  have etk:(encs voteC (l.drop i)).take ((l.length - i)*8)=encs voteC (l.drop i):=List.take_of_length_le (by omega)
  have ec2:lput ((encs voteC (l.take i)++voteC x)++(Z.drop 8++sp2)) ((i+1)*8) ((encs voteC (l.drop i)).take ((l.length - i)*8))=encs voteC (l.take i++x :: l.drop i)++sp2:=by
   rw [etk,lput_at (by rw [List.length_append,lt]; show (i+1)*8=i*8+8; omega) (by rw [ld,ldz]),efin]
   simp only [List.append_assoc]
  refine copy_many (E:=96) (n:=8) tsl61 tn96 g2n ss (encV_one _) ?_ ?_
  ·rw [min2,List.length_append,List.length_append,List.length_append,lt,ldz]; show _≤i*8+8+_; omega
  rw [min2,ec2]
  simp -implicitDefEqProofs (maxSteps:=2000000) only [go_sem,↓reduceIte]
  refine ⟨⟨?_⟩,(bg2.addSet (Nat.le_refl _) _).mono hB⟩
  rw [lfin]
  exact Own.of_get hB (get_set g2n) (by rw [encV_length,lfin]) hs2 hc2
 ·have hcap':¬ (cap:Int)<((l.length+1:Nat):Int):=by omega
  have hcap2:((l.length+1:Nat):Int)≤(cap:Int):=by omega
  have n4:(0:Int)≤((l.length+1:Nat):Int):=by omega
  have m4:(i:Int)+1=((i+1:Nat):Int):=by omega
  have d4:((i+1:Nat):Int)≤((l.length+1:Nat):Int):=by omega
  have d5:(0:Int)≤((i+1:Nat):Int):=by omega
  have d3:¬ cap=i+1:=by omega
  simp -implicitDefEqProofs (maxSteps:=2000000) only [go_sem,↓reduceIte,n1,n2,n4,k1,c1,hi',m1,hcap',hcap2,m4,d3,d4,d5,Int.toNat_natCast,Nat.zero_add]
  have gB:h[b]? = some (.cells (encs voteC l++spare).toArray 96 (0,0)):=hg
  have gA:h[bv]? = some (.cells (voteC x).toArray 96 (0,0)):=hx
  have lsp:8≤spare.length:=by
   rw [hsp]
   have:=Nat.mul_le_mul_right 8 (show 1≤cap - l.length by omega)
   omega
  refine vCall_extern Tryz.func130 (by decide) rfl overlapsFn.1 overlapsFn.2 ?_
  refine run_overlaps (size:=8) Tryz.underlying61 tn96 (fun e=>hbv e.symm) gA gB (by intro e; have:=congrArg List.length e; rw [List.length_append,List.length_nil] at this; omega) ?_
  simp -implicitDefEqProofs (maxSteps:=2000000) only [go_sem,↓reduceIte]
  refine VS.w (B) [8] (.q 0 (.q 1 (.q 2 (.q 3 (.q 4 (.q 5 (.q 6 (.q 7 (.w 8 .nil))))))))) mixed (by kernel_rfl) ?_
  simp -implicitDefEqProofs (maxSteps:=2000000) only [go_sem,↓reduceIte,n1,n2,m4,k1,d3,d4,d5,c1,Int.toNat_natCast,Nat.zero_add]
  have ss:Sl 8 h (.slice (some ⟨b,i*8,none⟩) (l.length+1 - i) (cap - i)) (l.length+1 - i) (encs voteC (l.drop i)++spare.take 8):=sl_of_get (post:=spare.drop 8) (by rw [hg,ee,List.append_assoc,List.append_assoc,List.take_append_drop]) (by rw [List.length_append,ld,List.length_take]; omega) lt.symm
  have min2:min (l.length+1 - i) (l.length+1 - (i+1))=l.length - i:=by omega
  have etk:(encs voteC (l.drop i)++spare.take 8).take ((l.length - i)*8)=encs voteC (l.drop i):=List.take_left' ld
  have ld1:(encs voteC (l.drop (i+1))).length=(l.length - (i+1))*8:=by rw [encV_length,List.length_drop]
  have ecc:encs voteC l++spare=(encs voteC (l.take i)++voteC l[i])++((encs voteC (l.drop (i+1))++spare.take 8)++spare.drop 8):=by
   rw [ee,ed]
   simp only [List.append_assoc,List.take_append_drop]
  have ec1:lput (encs voteC l++spare) ((i+1)*8) (encs voteC (l.drop i))=encs voteC (l.take i)++(voteC l[i]++(encs voteC (l.drop i)++spare.drop 8)):=by
   rw [ecc,lput_at (by rw [List.length_append,lt]; show (i+1)*8=i*8+8; omega) (by rw [ld,List.length_append,ld1,List.length_take]; omega),List.append_assoc]
  refine copy_part (E:=96) (n:=8) tsl61 tn96 gB ss (by rw [min2,etk]; exact encV_one _) ?_ ?_
  ·rw [min2,List.length_append,encV_length]; omega
  rw [min2,etk,ec1]
  obtain ⟨g2,hg2e⟩:∃ g2:Hp,g2=h.setIfInBounds b (.cells (encs voteC (l.take i)++(voteC l[i]++(encs voteC (l.drop i)++spare.drop 8))).toArray 96):=⟨_,rfl⟩
  rw [← hg2e]
  have g2n:g2[b]? = some (.cells (encs voteC (l.take i)++(voteC l[i]++(encs voteC (l.drop i)++spare.drop 8))).toArray 96):=by rw [hg2e]; exact get_set hg
  have g2v:g2[bv]? = some (.cells (voteC x).toArray 96):=by rw [hg2e,get_set_ne hbv]; exact hx
  have bg2:Bel B h g2:=by rw [hg2e]; exact Bel.set hBb _
  clear hg2e
  have sx1:Sl 8 g2 (.slice (some ⟨bv,0,none⟩) 1 1) 1 (voteC x):=sl_of_get (pre:=[]) (post:=[]) (by rw [List.append_nil,List.nil_append]; exact g2v) rfl rfl
  have min1:min 1 (l.length+1 - i)=1:=by omega
  have ec2:lput (encs voteC (l.take i)++(voteC l[i]++(encs voteC (l.drop i)++spare.drop 8))) (i*8) ((voteC x).take (1*8))=encs voteC (l.take i++x :: l.drop i)++spare.drop 8:=by
   rw [show (voteC x).take (1*8)=voteC x from rfl,lput_at lt.symm (show (voteC x).length=(voteC l[i]).length from rfl),efin]
   simp only [List.append_assoc]
  simp -implicitDefEqProofs (maxSteps:=2000000) only [go_sem,↓reduceIte,n1,n2,m4,k1,d3,d4,d5,c1,Int.toNat_natCast,Nat.zero_add]
  refine copy_many (E:=96) (n:=8) tsl61 tn96 g2n sx1 rfl ?_ ?_
  ·rw [min1,List.length_append,List.length_append,lt]; show i*8+1*8≤i*8+(8+_); omega
  rw [min1,ec2]
  simp -implicitDefEqProofs (maxSteps:=2000000) only [go_sem,↓reduceIte]
  refine ⟨⟨?_⟩,bg2.trans (Bel.set hBb _)⟩
  rw [lfin]
  exact Own.of_get hBb (get_set g2n) (by rw [encV_length,lfin]) (by rw [List.length_drop,hsp]; omega) (by omega)
theorem srt_low {l:List Vt} (hs:Srt l) (hm:∀ x∈l,voteMay x):∀ i (hi:i<l.length),(i:Int)≤l[i].slot:=by
 intro i
 induction i with
 | zero=>intro hi; have:=(hm _ (List.getElem_mem hi)).1.1; omega
 | succ i ih=>
  intro hi
  have h1:=ih (by omega)
  have h2:=hs i (i+1) (by omega) hi (by omega)
  omega
theorem srt_few {l:List Vt} (hs:Srt l) (hm:∀ x∈l,voteMay x):l.length≤40:=by
 by_cases h:l.length≤40
 ·exact h
 ·have h1:=srt_low hs hm 40 (by omega)
  have h2:=(hm _ (List.getElem_mem (show 40<l.length by omega))).1.2
  omega
def acErr (p:Bal) (l:List Vt) (x:Vt):Int:=if accErr p l≠0 then 5 else if ¬ voteMay x then 2 else if below x.b p then 7 else 0
def AcRes (B:Nat) (h':Hp) (v':Value) (p:Bal) (l:List Vt) (x:Vt):Prop:=∃ w,v'=.tuple [.agg (accC (if acErr p l x=0 then x.b else ⟨0,0⟩) w).toArray,.int .i64 (acErr p l x)].toArray ∧
 Ots B 96 voteC 8 h' w (if acErr p l x=0 then insV l x else [])
theorem accept_ok (T:World) (h:Hp) (p:Bal) (u:Value) (l:List Vt) (x:Vt) (s:Ts voteC 8 h u l) (hl:l.length≤2199023255552) :
  CallsH Tryz.prog T 74 #[.agg (accC p u).toArray,.agg (voteC x).toArray] h fun v' h'=>AcRes h.size h' v' p l x∧Bel h.size h h':=by
 obtain ⟨pu,cu,rfl,_⟩:=votes_open s
 refine CallsH.of_code2 (args:=[_,_]) Tryz.func74 rfl rfl rfl rfl ?_
 unfold accC voteC
 simp -implicitDefEqProofs (maxSteps:=2000000) only [go_sem,↓reduceIte]
 obtain ⟨h0,hh0⟩:∃ h0:Hp,h0=((h.push (.cells (accC p (.slice pu l.length cu)).toArray 63)).push (.cells (voteC x).toArray 96)).push (.cells [.int .i64 0,.int .i64 0,.slice none 0 0].toArray 63):=⟨_,rfl⟩
 have b0:Bel h.size h h0:=by rw [hh0]; exact (((Bel.refl _ _).add _).add _).add _
 have s0:h0.size=h.size+3:=by rw [hh0]; simp
 have x0:h0[h.size]? = some (.cells (accC p (.slice pu l.length cu)).toArray 63):=by
  rw [hh0,Array.getElem?_push,if_neg (by simp; omega),Array.getElem?_push,if_neg (by simp),get_push_last]
 have y0:h0[h.size+1]? = some (.cells (voteC x).toArray 96):=by
  rw [hh0,Array.getElem?_push,if_neg (by simp),Array.getElem?_push,if_pos (by simp)]
 have z0:h0[h.size+2]? = some (.cells [.int .i64 0,.int .i64 0,.slice none 0 0].toArray 63):=by
  rw [hh0,Array.getElem?_push,if_pos (by simp)]
 have e0:((h.push (.cells #[Value.int .i64 p.r,.int .i64 p.n,.slice pu l.length cu] 63)).push (.cells #[Value.int .i64 x.slot,.int .i64 x.b.r,.int .i64 x.b.n,.int .i64 x.k,.int .i64 x.c,.int .i64 x.s,.int .i64 x.nm,.int .i64 x.v] 96)).push (.cells #[Value.int .i64 0,.int .i64 0,.slice none 0 0] 63)=h0:=hh0.symm
 rw [e0]
 clear e0 hh0
 refine (paxosCheck_ok T h0 p _ l (s.bel b0) (by omega)).use ?_
 rintro _ h1 ⟨rfl,b1⟩
 have s1:=b1.size
 have B1:Bel h.size h h1:=b0.trans (b1.mono (by omega))
 have x1:=b1.get (by omega) x0
 have y1:=b1.get (by omega) y0
 have z1:=b1.get (by omega) z0
 have fin:∀ (G:Hp) (w:List Value),w.length=3→w.all oneC=true→G[h.size+2]? = some (.cells [.int .i64 0,.int .i64 0,.slice none 0 0].toArray 63)→wr G ⟨h.size+1+1,0,none⟩ w=some (G.setIfInBounds (h.size+1+1) (.cells w.toArray 63)):=by
  intro G w h3 h1 hx
  rw [wr_get (b:=h.size+1+1) hx 0 w,lput_full (by rw [h3]; rfl),if_pos ⟨by rw [h3]; simp,h1⟩]
 have hlt1:h.size+2<h1.size:=by omega
 unfold AcRes
 rcases accErr_five p l with e0 | e0
 case inr=>
  have e:acErr p l x=5:=by unfold acErr; rw [if_pos (by rw [e0]; decide)]
  have w2:=fin h1 [.int .i64 0,.int .i64 0,.slice none 0 0] rfl rfl z1
  simp -implicitDefEqProofs (maxSteps:=2000000) only [go_sem,↓reduceIte,e0,e,w2,hlt1]
  exact ⟨⟨_,rfl,Ots.nil _ _ _ _ _⟩,B1.addSet (by omega) _⟩
 have r1:rd h1 ⟨h.size+1,0,none⟩ 8=some (voteC x):=rd_last y1 rfl
 unfold voteC at r1
 simp -implicitDefEqProofs (maxSteps:=2000000) only [go_sem,↓reduceIte,e0,r1]
 refine (vote_ok T h1 x).use ?_
 rintro _ h2 ⟨rfl,b2⟩
 have s2:=b2.size
 have B2:=B1.trans (b2.mono (by omega))
 have x2:=b2.get (by omega) x1
 have y2:=b2.get (by omega) y1
 have z2:=b2.get (by omega) z1
 have hlt2:h.size+2<h2.size:=by omega
 by_cases q1:voteMay x
 case neg=>
  have e:acErr p l x=2:=by unfold acErr; rw [if_neg (by rw [e0]; decide),if_pos q1]
  have w2:=fin h2 [.int .i64 0,.int .i64 0,.slice none 0 0] rfl rfl z2
  simp -implicitDefEqProofs (maxSteps:=2000000) only [go_sem,↓reduceIte,q1,e,w2,hlt2]
  exact ⟨⟨_,rfl,Ots.nil _ _ _ _ _⟩,B2.addSet (by omega) _⟩
 have rb:rd h2 ⟨h.size+1,1,none⟩ 2=some [.int .i64 x.b.r,.int .i64 x.b.n]:=by rw [rd_part y2 (by simp [voteC])]; rfl
 have rp:rd h2 ⟨h.size,0,none⟩ 2=some [.int .i64 p.r,.int .i64 p.n]:=by rw [rd_part x2 (by simp [accC])]; rfl
 simp -implicitDefEqProofs (maxSteps:=2000000) only [go_sem,↓reduceIte,q1,rb,rp]
 refine (compare_ok T h2 x.b p).use ?_
 rintro _ h3 ⟨rfl,b3⟩
 have s3:=b3.size
 have B3:=B2.trans (b3.mono (by omega))
 have x3:=b3.get (by omega) x2
 have y3:=b3.get (by omega) y2
 have z3:=b3.get (by omega) z2
 have hlt3:h.size+2<h3.size:=by omega
 by_cases q2:below x.b p
 case pos=>
  have e:acErr p l x=7:=by unfold acErr; rw [if_neg (by rw [e0]; decide),if_neg (fun h=>h q1),if_pos q2]
  have w2:=fin h3 [.int .i64 0,.int .i64 0,.slice none 0 0] rfl rfl z3
  have c2':bcmp x.b p<0:=(bcmp_neg x.b p).2 q2
  simp -implicitDefEqProofs (maxSteps:=2000000) only [go_sem,↓reduceIte,c2',e,w2,hlt3]
  exact ⟨⟨_,rfl,Ots.nil _ _ _ _ _⟩,B3.addSet (by omega) _⟩
 have e:acErr p l x=0:=by unfold acErr; rw [if_neg (by rw [e0]; decide),if_neg (fun h=>h q1),if_neg q2]
 have c2':¬ bcmp x.b p<0:=fun h=>q2 ((bcmp_neg x.b p).1 h)
 have srt:=accErr_srt e0
 have few:=srt_few srt (accErr_may e0)
 have rv:hc h3 ⟨h.size,2,none⟩=some (.slice pu l.length cu):=by rw [hc_last x3]; rfl
 simp -implicitDefEqProofs (maxSteps:=2000000) only [go_sem,↓reduceIte,c2',rv]
 refine (cloneVotes_ok T h3 _ l (s.bel B3) hl).use ?_
 rintro w4 h4 ⟨o4,b4⟩
 have s4:=b4.size
 have B4:=B3.trans (b4.mono (by omega))
 have y4:=b4.get (by omega) y3
 have z4:=b4.get (by omega) z3
 have r4:rd h4 ⟨h.size+1,0,none⟩ 8=some (voteC x):=rd_last y4 rfl
 unfold voteC at r4
 simp -implicitDefEqProofs (maxSteps:=2000000) only [go_sem,↓reduceIte,r4]
 refine (bsearch_ok T h4 w4 l x o4.ts srt hl).use ?_
 rintro _ h5 ⟨⟨i,b,hi,rfl,hf⟩,b5⟩
 have s5:=b5.size
 have B5:=B4.trans (b5.mono (by omega))
 have y5:=b5.get (by omega) y4
 have z5:=b5.get (by omega) z4
 have o5:=o4.bel b5 (Nat.le_refl _)
 have r5:rd h5 ⟨h.size+1,0,none⟩ 8=some (voteC x):=rd_last y5 rfl
 unfold voteC at r5
 have n1:(0:Int)≤(i:Int):=by omega
 obtain ⟨p4,c4,rfl,hc4⟩:=o4.open
 rcases hf with ⟨rfl,hil,heq⟩ | ⟨rfl,hlo,hhi⟩
 ·have hil':(i:Int)<(l.length:Int):=by omega
  have c0:c4≠0:=by omega
  obtain ⟨b,spare,hBb,rfl,hg,_,hsp,_⟩:=o5.own.spare c0
  have et:l=l.take i++(l[i] :: l.drop (i+1)):=by
   conv=>lhs; rw [← List.take_append_drop i l,List.drop_eq_getElem_cons hil]
  have es:l.set i x=l.take i++(x :: l.drop (i+1)):=by rw [List.set_eq_take_append_cons_drop,if_pos hil]
  have ee:encs voteC l=encs voteC (l.take i)++(voteC l[i]++encs voteC (l.drop (i+1))):=by
   have:=congrArg (encs voteC) et
   rw [encs_append] at this
   exact this
  have eset:encs voteC (l.set i x)=encs voteC (l.take i)++(voteC x++encs voteC (l.drop (i+1))):=by
   have:=congrArg (encs voteC) es
   rw [encs_append] at this
   exact this
  have lt:(encs voteC (l.take i)).length=i*8:=by rw [encV_length,List.length_take]; congr 1; omega
  have hw:wr h5 ⟨b,i*8,none⟩ (voteC x)=some (h5.setIfInBounds b (.cells (encs voteC (l.set i x)++spare).toArray 96)):=by
   have ll:=encV_length l
   have hmul:i*8+8≤l.length*8:=by omega
   rw [wr_get hg,if_pos ⟨by rw [List.length_append,ll]; show i*8+8≤_; omega,rfl⟩,ee,List.append_assoc,List.append_assoc,lput_at lt.symm (show (voteC x).length=(voteC l[i]).length from rfl),eset,List.append_assoc,List.append_assoc]
  have hbz:b<h5.size:=lt_of_get hg
  have hne1:¬ h.size+1=b:=by omega
  have hne2:¬ h.size+2=b:=by omega
  have rb5:rd h5 ⟨h.size+1,1,none⟩ 2=some [.int .i64 x.b.r,.int .i64 x.b.n]:=by rw [rd_part y5 (by simp [voteC])]; rfl
  obtain ⟨h6,hh6⟩:∃ h6:Hp,h6=h5.setIfInBounds b (.cells (encs voteC (l.set i x)++spare).toArray 96):=⟨_,rfl⟩
  rw [← hh6] at hw
  unfold voteC at hw
  have y6:h6[h.size+1]? = some (.cells (voteC x).toArray 96):=by rw [hh6,get_set_ne (by omega)]; exact y5
  have z6:h6[h.size+2]? = some (.cells [.int .i64 0,.int .i64 0,.slice none 0 0].toArray 63):=by rw [hh6,get_set_ne (by omega)]; exact z5
  have B6:Bel h.size h h6:=by rw [hh6]; exact B5.addSet (by omega) _
  have o6:Ots (h.size+3) 96 voteC 8 h6 (.slice (some ⟨b,0,none⟩) l.length c4) (l.set i x):=by
   refine ⟨?_⟩
   rw [List.length_set]
   exact Own.of_get (by omega) (by rw [hh6]; exact get_set hg) (by rw [encV_length,List.length_set]) hsp hc4
  have rb6:rd h6 ⟨h.size+1,1,none⟩ 2=some [.int .i64 x.b.r,.int .i64 x.b.n]:=by rw [rd_part y6 (by simp [voteC])]; rfl
  have w6:=fin h6 [.int .i64 x.b.r,.int .i64 x.b.n,.slice (some ⟨b,0,none⟩) l.length c4] rfl rfl z6
  have hlt6:h.size+2<h6.size:=lt_of_get z6
  simp -implicitDefEqProofs (maxSteps:=2000000) only [go_sem,↓reduceIte,n1,hil',r5,Int.toNat_natCast,Nat.zero_add,hw,rb6,w6,hlt6,e]
  refine ⟨⟨_,rfl,?_⟩,B6.addSet (by omega) _⟩
  rw [insV_old srt hil heq]
  exact (o6.setLow (by omega) _).mono (by omega)
 ·have hn:insV l x=l.take i++x :: l.drop i:=insV_new srt hi hlo hhi
  simp -implicitDefEqProofs (maxSteps:=2000000) only [go_sem,↓reduceIte,r5]
  obtain ⟨h6,hh6⟩:∃ h6:Hp,h6=h5.push (.cells (voteC x).toArray 96):=⟨_,rfl⟩
  have e6:h5.push (.cells #[Value.int .i64 x.slot,.int .i64 x.b.r,.int .i64 x.b.n,.int .i64 x.k,.int .i64 x.c,.int .i64 x.s,.int .i64 x.nm,.int .i64 x.v] 96)=h6:=hh6.symm
  rw [e6]
  have b6:Bel h5.size h5 h6:=by rw [hh6]; exact Bel.push (Nat.le_refl _) _
  have s6:h6.size=h5.size+1:=by rw [hh6]; simp
  have v6:h6[h5.size]? = some (.cells (voteC x).toArray 96):=by rw [hh6]; exact get_push_last
  clear e6 hh6
  have B6:=B5.trans (b6.mono (by omega))
  have o6:=(o5.bel b6 (Nat.le_refl _)).mono (B':=h.size+3) (by omega)
  have hne:c4≠0→∀ b o,p4=some ⟨b,o,none⟩→b≠h5.size:=by
   intro c0 b o hp
   subst hp
   obtain ⟨b',_,_,hb',hg',_⟩:=o5.own.spare c0
   simp only [Option.some.injEq,Addr.mk.injEq] at hb'
   have:=lt_of_get hg'
   omega
  refine (insert_ok T h6 (h.size+3) p4 c4 i l x h5.size o6 (by omega) hi (by omega) v6 hne).use ?_
  rintro w7 h7 ⟨o7,b7⟩
  obtain ⟨p7,c7,rfl,_⟩:=o7.open
  have s7:=b7.size
  have B7:=B6.trans (b7.mono (by omega))
  have y7:=b7.get (by omega) (b6.get (by omega) y5)
  have z7:=b7.get (by omega) (b6.get (by omega) z5)
  have rb7:rd h7 ⟨h.size+1,1,none⟩ 2=some [.int .i64 x.b.r,.int .i64 x.b.n]:=by rw [rd_part y7 (by simp [voteC])]; rfl
  obtain ⟨L,hL⟩:∃ L,L=l.take i++x :: l.drop i:=⟨_,rfl⟩
  rw [← hL] at o7 hn ⊢
  have w7:=fin h7 [.int .i64 x.b.r,.int .i64 x.b.n,.slice p7 L.length c7] rfl rfl z7
  have hlt7:h.size+2<h7.size:=lt_of_get z7
  simp -implicitDefEqProofs (maxSteps:=2000000) only [go_sem,↓reduceIte,rb7,w7,hlt7,e]
  refine ⟨⟨_,rfl,?_⟩,B7.addSet (by omega) _⟩
  rw [hn]
  exact (o7.setLow (by omega) _).mono (by omega)
def votErr (l:List Nat) (n:Int) (x:Vt):Int:=if ¬ tapeOk l n then 5 else if ¬ voteMay x then 2 else wrtErr l n 33
def votB (x:Vt):List Nat:=2 :: (cmdBytes [x.slot.toNat,x.b.r.toNat,x.b.n.toNat]++cmdBytes [x.k.toNat,x.c.toNat,x.s.toNat,x.nm.toNat,x.v.toNat])
theorem acErr_none (x:Vt):acErr ⟨0,0⟩ [] x=if voteMay x then 0 else 2:=by
 have e:accErr ⟨0,0⟩ []=0:=rfl
 unfold acErr
 rw [if_neg (by rw [e]; decide)]
 by_cases q:voteMay x
 ·rw [if_neg (fun hn=>hn q),if_pos q,if_neg]
  intro hb
  have q1:=q.2.1.1.1
  rcases hb with hb | ⟨hb,_⟩ <;> simp at hb <;> omega
 ·rw [if_pos q,if_neg q]
theorem sVote_ok (T:World) (h:Hp) (v:Value) (n:Int) (l:List Nat) (x:Vt) (s:Bs h v l) (hl:l.length≤140737488355328) (tk:Tk h) :
  CallsH Tryz.prog T 95 #[.agg [v,.int .i64 n].toArray,.agg (voteC x).toArray] h fun v' h'=>WrtRes h.size h' v' l n (votErr l n x) (frmS (votB x))∧Bel h.size h h':=by
 obtain ⟨p,c,rfl,_⟩:=s.open
 refine CallsH.of_code' (args:=[_,_]) Tryz.func95 rfl rfl rfl rfl ?_
 unfold WrtRes voteC
 simp -implicitDefEqProofs (maxSteps:=2000000) only [go_sem,↓reduceIte]
 obtain ⟨h0,hh0⟩:∃ h0:Hp,h0=((h.push (.cells [.slice p l.length c,.int .i64 n].toArray 58)).push (.cells (voteC x).toArray 96)).push (.cells [.slice none 0 0,.int .i64 0].toArray 58):=⟨_,rfl⟩
 have b0:Bel h.size h h0:=by rw [hh0]; exact (((Bel.refl _ _).add _).add _).add _
 have s0:h0.size=h.size+3:=by rw [hh0]; simp
 have t0:h0[h.size]? = some (.cells [.slice p l.length c,.int .i64 n].toArray 58):=by
  rw [hh0,Array.getElem?_push,if_neg (by simp; omega),Array.getElem?_push,if_neg (by simp),get_push_last]
 have t1:h0[h.size+1]? = some (.cells (voteC x).toArray 96):=by
  rw [hh0,Array.getElem?_push,if_neg (by simp),Array.getElem?_push,if_pos (by simp)]
 have x0:h0[h.size+2]? = some (.cells [.slice none 0 0,.int .i64 0].toArray 58):=by
  rw [hh0,Array.getElem?_push,if_pos (by simp)]
 have e0:((h.push (.cells #[Value.slice p l.length c,.int .i64 n] 58)).push (.cells #[Value.int .i64 x.slot,.int .i64 x.b.r,.int .i64 x.b.n,.int .i64 x.k,.int .i64 x.c,.int .i64 x.s,.int .i64 x.nm,.int .i64 x.v] 96)).push (.cells #[Value.slice none 0 0,.int .i64 0] 58)=h0:=hh0.symm
 rw [e0]
 clear e0 hh0
 refine (tapeOpen_ok T h0 _ n l (s.bel b0) hl).use ?_
 rintro _ h1 ⟨b1,o1⟩
 have s1:=b1.size
 have B1:Bel h.size h h1:=b0.trans (b1.mono (by omega))
 have x1:=b1.get (by omega) x0
 by_cases ok:tapeOk l n
 case neg=>
  have ee:votErr l n x=5:=by unfold votErr; rw [if_pos ok]
  rw [if_neg (show ¬ (l.length≤100000∧0≤n∧n≤l.length) from ok)] at o1
  subst o1
  rw [ee]
  have y2:=wr_get x1 0
  have hlt:h.size+2<h1.size:=by omega
  have hne:¬ h.size+2=h1.size:=by omega
  simp -implicitDefEqProofs (maxSteps:=2000000) only [go_sem,↓reduceIte,y2,hne,hlt]
  exact ⟨⟨_,rfl,OBs.nil _ _ _⟩,(B1.addSet (by omega) _).addP (by simp; omega) _⟩
 rw [if_pos (show (l.length≤100000∧0≤n∧n≤l.length) from ok)] at o1
 obtain ⟨w,rfl,o1⟩:=o1
 obtain ⟨pw,cw,rfl,_⟩:=o1.open
 have bt1:=b1.get (by omega) t1
 have r1:rd h1 ⟨h.size+1,0,none⟩ 8=some (voteC x):=rd_last bt1 rfl
 unfold voteC at r1
 have hne1:¬ h.size+1=h1.size:=by omega
 simp -implicitDefEqProofs (maxSteps:=2000000) only [go_sem,↓reduceIte,r1,hne1]
 have b2:Bel h1.size h1 (h1.push (.cells [.slice pw l.length cw,.int .i64 n].toArray 58)):=Bel.push (Nat.le_refl _) _
 refine (accept_ok T _ ⟨0,0⟩ (.slice none 0 0) [] x (Ots.nil 0 96 voteC 8 _).ts (by simp)).use ?_
 rintro _ h3 ⟨⟨w1,rfl,q1⟩,b3⟩
 have B3:Bel h1.size h1 h3:=b2.trans (b3.mono b2.size)
 rw [acErr_none] at q1 ⊢
 obtain ⟨p1,c1,hw1,_⟩:=q1.open
 have s3:=B3.size
 have x3:=B3.get (by omega) x1
 have Bh3:=B1.trans (B3.mono (by omega))
 by_cases may:voteMay x
 case neg=>
  have ee:votErr l n x=2:=by unfold votErr; rw [if_neg (fun hn=>hn ok),if_pos may]
  rw [if_neg may] at hw1
  rw [ee,if_neg may]
  subst hw1
  have y2:=wr_get x3 0
  have hlt:h.size+2<h3.size:=by omega
  have hne:¬ h.size+2=h3.size:=by omega
  unfold accC
  simp -implicitDefEqProofs (maxSteps:=2000000) only [go_sem,↓reduceIte,y2,hne,hlt]
  exact ⟨⟨_,rfl,OBs.nil _ _ _⟩,(Bh3.addSet (by omega) _).addP (by simp; omega) _⟩
 have ee:votErr l n x=wrtErr l n 33:=by unfold votErr; rw [if_neg (fun hn=>hn ok),if_neg (fun hn=>hn may)]
 rw [if_pos may] at hw1
 rw [ee,if_pos may]
 obtain ⟨⟨m1,m2⟩,⟨⟨m3,m4⟩,m5,m6⟩,mc⟩:=may
 obtain ⟨xs,⟨br,bn⟩,xk,xc,xss,xn,xv⟩:=x
 simp only at m1 m2 m3 m4 m5 m6 mc
 obtain ⟨k,c2,s2,nm,vv,rfl,rfl,rfl,rfl,rfl,_⟩:=cmdErr_zero mc
 obtain ⟨sl,rfl⟩:∃ r:Nat,xs=r:=⟨xs.toNat,by omega⟩
 obtain ⟨r,rfl⟩:∃ r:Nat,br=r:=⟨br.toNat,by omega⟩
 obtain ⟨m,rfl⟩:∃ m:Nat,bn=m:=⟨bn.toNat,by omega⟩
 unfold votB
 rw [if_pos rfl] at hw1
 subst hw1
 unfold accC
 have t3:=B3.get (by omega) (b1.get (by omega) t0)
 have t13:=B3.get (by omega) bt1
 have rc:rd h3 ⟨h.size+1,3,none⟩ 5=some (cmdC k c2 s2 nm vv):=by rw [rd_part t13 (by simp [voteC])]; rfl
 unfold cmdC at rc
 have hne3:¬ h.size+1=h3.size:=by omega
 simp -implicitDefEqProofs (maxSteps:=2000000) only [go_sem,↓reduceIte,rc,hne3]
 obtain ⟨g0,hg0⟩:∃ g0:Hp,g0=h3.push (.cells [.int .i64 (r:Nat),.int .i64 (m:Nat),.slice p1 (insV [] ⟨sl,⟨r,m⟩,k,c2,s2,nm,vv⟩).length c1].toArray 63):=⟨_,rfl⟩
 have e3:h3.push (.cells #[Value.int .i64 (r:Nat),.int .i64 (m:Nat),.slice p1 (insV [] ⟨sl,⟨r,m⟩,k,c2,s2,nm,vv⟩).length c1] 63)=g0:=hg0.symm
 rw [e3]
 have bg0:Bel h3.size h3 g0:=by rw [hg0]; exact Bel.push (Nat.le_refl _) _
 have sg0:g0.size=h3.size+1:=by rw [hg0]; simp
 clear e3 hg0
 refine (encode_ok T g0 k c2 s2 nm vv).use ?_
 rintro _ g ⟨⟨wc,rfl,sC⟩,bg1⟩
 rw [mc,if_pos rfl] at sC
 simp only [Int.toNat_natCast] at sC ⊢
 rw [mc]
 have lC:(cmdBytes [k,c2,s2,nm,vv]).length=20:=by rw [cmdBytes_length]; rfl
 generalize cmdBytes [k,c2,s2,nm,vv]=CB at *
 obtain ⟨pc,cc,rfl,_⟩:=sC.open
 have bg:Bel h3.size h3 g:=bg0.trans (bg1.mono (by omega))
 have sg:h3.size+1≤g.size:=by have:=bg1.size; omega
 have Bg:Bel h.size h g:=Bh3.trans (bg.mono (by omega))
 have x4g:=bg.get (by omega) x3
 have t4:=bg.get (by omega) t3
 have t14:=bg.get (by omega) t13
 have r0:rd g ⟨h.size,0,none⟩ 2=some [.slice p l.length c,.int .i64 n]:=rd_last t4 rfl
 have c0:V.hc g ⟨h.size+1,0,none⟩=some (.int .i64 (sl:Nat)):=by rw [hc_last t14]; rfl
 have c1':V.hc g ⟨h.size+1,1,none⟩=some (.int .i64 (r:Nat)):=by rw [hc_last t14]; rfl
 have c2':V.hc g ⟨h.size+1,2,none⟩=some (.int .i64 (m:Nat)):=by rw [hc_last t14]; rfl
 have k0:h.size<g.size:=by omega
 have k1:h.size+1<g.size:=by omega
 simp -implicitDefEqProofs (maxSteps:=2000000) only [go_sem,↓reduceIte]
 refine VS.w (g.size) [18,19] (.q 0 (.q 2 (.q 3 (.q 4 (.q 5 (.q 6 (.q 7 (.q 8 (.q 9 (.q 13 (.or 1 (.s 10 (.s 11 (.s 12 (.s 14 (.s 15 (.q 16 (.q 17 (.w 18 (.w 19 .nil))))))))) (.s 10 (.or 1 (.s 11 (.s 12 (.s 14 (.s 15 (.q 16 (.q 17 (.w 18 (.w 19 .nil)))))))) (.s 11 (.s 1 (.s 12 (.s 14 (.s 15 (.q 16 (.q 17 (.w 18 (.w 19 .nil)))))))))))))))))))))) mixed (by kernel_rfl) ?_
 simp -implicitDefEqProofs (maxSteps:=2000000) only [go_sem,↓reduceIte,r0,c0,c1',c2',k0,k1]
 refine ⟨?_,?_,?_⟩
 ·have o0:OBs g.size 5 (g.push (.cells (([2]:List Nat).map bv).toArray 5)) (.slice (some ⟨g.size,0,none⟩) 1 1) [2]:=OBs.made (by decide) (Nat.le_refl _)
  have B0:Bel g.size g ((g.push (.cells (([2]:List Nat).map bv).toArray 5)).push (.cells (([sl,r,m]:List Nat).map nv).toArray 3)):=(Bel.push (Nat.le_refl _) _).addP (by simp) _
  have o00:=o0.push (.cells (([sl,r,m]:List Nat).map nv).toArray 3)
  have si:NT ((g.push (.cells (([2]:List Nat).map bv).toArray 5)).push (.cells (([sl,r,m]:List Nat).map nv).toArray 3)) (.slice (some ⟨(g.push (.cells (([2]:List Nat).map bv).toArray 5)).size,0,none⟩) 3 3) [sl,r,m]:=ints_made _ _
  have e1:(g.push (.cells (([2]:List Nat).map bv).toArray 5)).size=g.size+1:=by simp
  rw [e1] at si
  refine (sfour_ok T _ _ [sl,r,m] si (by simp) (by intro x hx; simp only [List.mem_cons,List.not_mem_nil,or_false] at hx; omega)).use ?_
  rintro w5 h5 ⟨o5,b5⟩
  have BB:=B0.trans (b5.mono B0.size)
  have o1:=o00.bel b5 (Nat.le_refl _)
  have s4:=o5.bs
  simp -implicitDefEqProofs (maxSteps:=2000000) only [go_sem,↓reduceIte,BB]
  refine append_bytes (E:=5) (B:=g.size) tsl44 Tryz.underlying44 tn5 tz5 tb5 o1 BB.size s4 (by rw [cmdBytes_length]; simp) ?_
  intro w6 h6 o6 b6 _
  have B6:Bel g.size g h6:=BB.trans b6
  have o6':OBs g.size 5 h6 w6 (2 :: cmdBytes [sl,r,m]):=o6
  have l6:(2 :: cmdBytes [sl,r,m]).length=13:=by simp only [List.length_cons,cmdBytes_length,List.length_nil]
  simp -implicitDefEqProofs (maxSteps:=2000000) only [go_sem,↓reduceIte,B6]
  refine append_bytes (E:=5) (B:=g.size) tsl44 Tryz.underlying44 tn5 tz5 tb5 o6' B6.size (sC.bel B6) (by omega) ?_
  intro w7 h7 o7 b7 _
  have B7:Bel g.size g h7:=B6.trans b7
  have Bh7:=Bg.trans (B7.mono (by omega))
  have o7':OBs g.size 5 h7 w7 (2 :: (cmdBytes [sl,r,m]++CB)):=o7
  have el:(2 :: (cmdBytes [sl,r,m]++CB)).length=33:=by rw [List.length_cons,List.length_append,lC,cmdBytes_length]; rfl
  simp -implicitDefEqProofs (maxSteps:=2000000) only [go_sem,↓reduceIte,B7]
  refine (write_ok T h7 _ w7 n l (2 :: (cmdBytes [sl,r,m]++CB)) (s.bel Bh7) hl o7'.bs (by omega) (tk.bels Bh7)).use ?_
  rintro _ h8 ⟨⟨w8,rfl,o8⟩,b8⟩
  rw [el] at o8 ⊢
  have B8:Bel g.size g h8:=B7.trans (b8.mono B7.size)
  have Bh8:=Bh7.trans (b8.mono Bh7.size)
  have x8:=B8.get (by omega) x4g
  have y8:=wr_get x8 0
  have hlt8:h.size+2<h8.size:=lt_of_get x8
  generalize frmS (2 :: (cmdBytes [sl,r,m]++CB))=FR at *
  obtain ⟨E,hE⟩:∃ E,E=wrtErr l n 33:=⟨_,rfl⟩
  rw [← hE] at o8 ⊢
  obtain ⟨z,hz⟩:∃ z:Int,z=if E=0 then n else 0:=⟨_,rfl⟩
  rw [← hz]
  obtain ⟨pz,cz,rfl,_⟩:=o8.open
  simp -implicitDefEqProofs (maxSteps:=2000000) only [go_sem,↓reduceIte,B8,y8,hlt8]
  refine ⟨⟨_,rfl,?_⟩,Bh8.addSet (by omega) _⟩
  exact (o8.setLow (by have:=B7.size; omega) _).mono (by have:=B7.size; omega)
 ·have B0a:Bel g.size g (g.push (.cells (([sl,r,m]:List Nat).map nv).toArray 3)):=Bel.push (Nat.le_refl _) _
  have o0:OBs g.size 5 ((g.push (.cells (([sl,r,m]:List Nat).map nv).toArray 3)).push (.cells (([2]:List Nat).map bv).toArray 5)) (.slice (some ⟨(g.push (.cells (([sl,r,m]:List Nat).map nv).toArray 3)).size,0,none⟩) 1 1) [2]:=(OBs.made (by decide) (Nat.le_refl _)).mono (by simp)
  have B0:Bel g.size g ((g.push (.cells (([sl,r,m]:List Nat).map nv).toArray 3)).push (.cells (([2]:List Nat).map bv).toArray 5)):=B0a.addP (by simp) _
  have si0:NT (g.push (.cells (([sl,r,m]:List Nat).map nv).toArray 3)) (.slice (some ⟨g.size,0,none⟩) 3 3) [sl,r,m]:=ints_made _ _
  have si:=si0.bel (Bel.push (Nat.le_refl _) (.cells (([2]:List Nat).map bv).toArray 5))
  have e1:(g.push (.cells (([sl,r,m]:List Nat).map nv).toArray 3)).size=g.size+1:=by simp
  rw [e1] at o0
  refine (sfour_ok T _ _ [sl,r,m] si (by simp) (by intro x hx; simp only [List.mem_cons,List.not_mem_nil,or_false] at hx; omega)).use ?_
  rintro w5 h5 ⟨o5,b5⟩
  have BB:=B0.trans (b5.mono B0.size)
  have o1:=o0.bel b5 (Nat.le_refl _)
  have s4:=o5.bs
  simp -implicitDefEqProofs (maxSteps:=2000000) only [go_sem,↓reduceIte,BB]
  refine append_bytes (E:=5) (B:=g.size) tsl44 Tryz.underlying44 tn5 tz5 tb5 o1 BB.size s4 (by rw [cmdBytes_length]; simp) ?_
  intro w6 h6 o6 b6 _
  have B6:Bel g.size g h6:=BB.trans b6
  have o6':OBs g.size 5 h6 w6 (2 :: cmdBytes [sl,r,m]):=o6
  have l6:(2 :: cmdBytes [sl,r,m]).length=13:=by simp only [List.length_cons,cmdBytes_length,List.length_nil]
  simp -implicitDefEqProofs (maxSteps:=2000000) only [go_sem,↓reduceIte,B6]
  refine append_bytes (E:=5) (B:=g.size) tsl44 Tryz.underlying44 tn5 tz5 tb5 o6' B6.size (sC.bel B6) (by omega) ?_
  intro w7 h7 o7 b7 _
  have B7:Bel g.size g h7:=B6.trans b7
  have Bh7:=Bg.trans (B7.mono (by omega))
  have o7':OBs g.size 5 h7 w7 (2 :: (cmdBytes [sl,r,m]++CB)):=o7
  have el:(2 :: (cmdBytes [sl,r,m]++CB)).length=33:=by rw [List.length_cons,List.length_append,lC,cmdBytes_length]; rfl
  simp -implicitDefEqProofs (maxSteps:=2000000) only [go_sem,↓reduceIte,B7]
  refine (write_ok T h7 _ w7 n l (2 :: (cmdBytes [sl,r,m]++CB)) (s.bel Bh7) hl o7'.bs (by omega) (tk.bels Bh7)).use ?_
  rintro _ h8 ⟨⟨w8,rfl,o8⟩,b8⟩
  rw [el] at o8 ⊢
  have B8:Bel g.size g h8:=B7.trans (b8.mono B7.size)
  have Bh8:=Bh7.trans (b8.mono Bh7.size)
  have x8:=B8.get (by omega) x4g
  have y8:=wr_get x8 0
  have hlt8:h.size+2<h8.size:=lt_of_get x8
  generalize frmS (2 :: (cmdBytes [sl,r,m]++CB))=FR at *
  obtain ⟨E,hE⟩:∃ E,E=wrtErr l n 33:=⟨_,rfl⟩
  rw [← hE] at o8 ⊢
  obtain ⟨z,hz⟩:∃ z:Int,z=if E=0 then n else 0:=⟨_,rfl⟩
  rw [← hz]
  obtain ⟨pz,cz,rfl,_⟩:=o8.open
  simp -implicitDefEqProofs (maxSteps:=2000000) only [go_sem,↓reduceIte,B8,y8,hlt8]
  refine ⟨⟨_,rfl,?_⟩,Bh8.addSet (by omega) _⟩
  exact (o8.setLow (by have:=B7.size; omega) _).mono (by have:=B7.size; omega)
 ·have B0a:Bel g.size g (g.push (.cells (([sl,r,m]:List Nat).map nv).toArray 3)):=Bel.push (Nat.le_refl _) _
  have si:NT (g.push (.cells (([sl,r,m]:List Nat).map nv).toArray 3)) (.slice (some ⟨g.size,0,none⟩) 3 3) [sl,r,m]:=ints_made _ _
  refine (sfour_ok T _ _ [sl,r,m] si (by simp) (by intro x hx; simp only [List.mem_cons,List.not_mem_nil,or_false] at hx; omega)).use ?_
  rintro w5 h5 ⟨o5,b5⟩
  have BB5:=B0a.trans (b5.mono B0a.size)
  have BB:Bel g.size g (h5.push (.cells (([2]:List Nat).map bv).toArray 5)):=BB5.addP BB5.size _
  have o1:OBs g.size 5 (h5.push (.cells (([2]:List Nat).map bv).toArray 5)) (.slice (some ⟨h5.size,0,none⟩) 1 1) [2]:=(OBs.made (by decide) (Nat.le_refl _)).mono BB5.size
  have s4:=o5.bs.bel (Bel.push (Nat.le_refl h5.size) (.cells (([2]:List Nat).map bv).toArray 5))
  simp -implicitDefEqProofs (maxSteps:=2000000) only [go_sem,↓reduceIte,BB5,BB]
  refine append_bytes (E:=5) (B:=g.size) tsl44 Tryz.underlying44 tn5 tz5 tb5 o1 BB.size s4 (by rw [cmdBytes_length]; simp) ?_
  intro w6 h6 o6 b6 _
  have B6:Bel g.size g h6:=BB.trans b6
  have o6':OBs g.size 5 h6 w6 (2 :: cmdBytes [sl,r,m]):=o6
  have l6:(2 :: cmdBytes [sl,r,m]).length=13:=by simp only [List.length_cons,cmdBytes_length,List.length_nil]
  simp -implicitDefEqProofs (maxSteps:=2000000) only [go_sem,↓reduceIte,B6]
  refine append_bytes (E:=5) (B:=g.size) tsl44 Tryz.underlying44 tn5 tz5 tb5 o6' B6.size (sC.bel B6) (by omega) ?_
  intro w7 h7 o7 b7 _
  have B7:Bel g.size g h7:=B6.trans b7
  have Bh7:=Bg.trans (B7.mono (by omega))
  have o7':OBs g.size 5 h7 w7 (2 :: (cmdBytes [sl,r,m]++CB)):=o7
  have el:(2 :: (cmdBytes [sl,r,m]++CB)).length=33:=by rw [List.length_cons,List.length_append,lC,cmdBytes_length]; rfl
  simp -implicitDefEqProofs (maxSteps:=2000000) only [go_sem,↓reduceIte,B7]
  refine (write_ok T h7 _ w7 n l (2 :: (cmdBytes [sl,r,m]++CB)) (s.bel Bh7) hl o7'.bs (by omega) (tk.bels Bh7)).use ?_
  rintro _ h8 ⟨⟨w8,rfl,o8⟩,b8⟩
  rw [el] at o8 ⊢
  have B8:Bel g.size g h8:=B7.trans (b8.mono B7.size)
  have Bh8:=Bh7.trans (b8.mono Bh7.size)
  have x8:=B8.get (by omega) x4g
  have y8:=wr_get x8 0
  have hlt8:h.size+2<h8.size:=lt_of_get x8
  generalize frmS (2 :: (cmdBytes [sl,r,m]++CB))=FR at *
  obtain ⟨E,hE⟩:∃ E,E=wrtErr l n 33:=⟨_,rfl⟩
  rw [← hE] at o8 ⊢
  obtain ⟨z,hz⟩:∃ z:Int,z=if E=0 then n else 0:=⟨_,rfl⟩
  rw [← hz]
  obtain ⟨pz,cz,rfl,_⟩:=o8.open
  simp -implicitDefEqProofs (maxSteps:=2000000) only [go_sem,↓reduceIte,B8,y8,hlt8]
  refine ⟨⟨_,rfl,?_⟩,Bh8.addSet (by omega) _⟩
  exact (o8.setLow (by have:=B7.size; omega) _).mono (by have:=B7.size; omega)
structure Acp where
 p:Bal
 l:List Vt
def cmdAt (b:List Nat):Vt→Vt:=fun v=>⟨v.slot,v.b,be4 b 0,be4 b 4,be4 b 8,be4 b 12,be4 b 16⟩
def bodyS (a:Acp) (b:List Nat):Option Acp:=
 if b.length=9∧b.getD 0 0=1 then (if prErr a.p a.l ⟨be4 b 1,be4 b 5⟩=0 then some ⟨⟨be4 b 1,be4 b 5⟩,a.l⟩ else none)
 else if b.length=33∧b.getD 0 0=2 then (if decErr (b.drop 13)≠0 then none else
  if acErr a.p a.l (cmdAt (b.drop 13) ⟨be4 b 1,⟨be4 b 5,be4 b 9⟩,0,0,0,0,0⟩)=0 then some ⟨⟨be4 b 5,be4 b 9⟩,insV a.l (cmdAt (b.drop 13) ⟨be4 b 1,⟨be4 b 5,be4 b 9⟩,0,0,0,0,0⟩)⟩ else none)
 else none
def BodyRes (B:Nat) (h':Hp) (v':Value) (a:Acp) (b:List Nat):Prop:=∃ P p m c,v'=.tuple [.agg (accC P (.slice p m c)).toArray,.bool (bodyS a b).isSome].toArray∧∀ x,bodyS a b=some x→P=x.p∧Ots B 96 voteC 8 h' (.slice p m c) x.l
theorem be4_drop (l:List Nat) (k i:Nat):be4 (l.drop k) i=be4 l (k+i):=by
 have e:∀ j,(l.drop k).getD j 0=l.getD (k+j) 0:=fun j=>by rw [List.getD_eq_getElem?_getD,List.getD_eq_getElem?_getD,List.getElem?_drop]
 unfold be4
 rw [e,e,e,e]; rfl
theorem get4_ok (T:World) (h:Hp) (v:Value) (l:List Nat) (s:Bs h v l) (hi:4≤l.length) (hl:l.length≤140737488355328) :
  CallsH Tryz.prog T 73 #[v] h fun v' h'=>v'=.int .i64 (be4 l 0:Nat)∧h'=h:=by
 obtain ⟨p,c,rfl,hc1⟩:=s.opend
 refine CallsH.of_code' (args:=[_]) Tryz.func73 rfl rfl rfl rfl ?_
 obtain ⟨b,o,rfl,hb,hcs⟩:=hc1 (by intro e; subst e; simp at hi)
 have c0:=hcs 0 (by omega)
 have c1:=hcs 1 (by omega)
 have c2:=hcs 2 (by omega)
 have c3:=hcs 3 (by omega)
 have w0:=getD_byte s.byte 0
 have w1:=getD_byte s.byte 1
 have w2:=getD_byte s.byte 2
 have w3:=getD_byte s.byte 3
 have e4:=or4_i64 w0 w1 w2 w3
 have n0:(0:Int)<l.length:=by omega
 have n1:(1:Int)<l.length:=by omega
 have n2:(2:Int)<l.length:=by omega
 have n3:(3:Int)<l.length:=by omega
 rw [Nat.add_zero] at c0
 unfold be4
 rw [Nat.zero_add,Nat.zero_add,Nat.zero_add]
 generalize l.getD 0 0=a0 at *
 generalize l.getD 1 0=a1 at *
 generalize l.getD 2 0=a2 at *
 generalize l.getD 3 0=a3 at *
 simp -implicitDefEqProofs (maxSteps:=2000000) only [go_sem,↓reduceIte]
 refine VS.q mixed (by kernel_rfl) ?_
 simp -implicitDefEqProofs (maxSteps:=2000000) only [go_sem,↓reduceIte,c0,c1,c2,c3,n0,n1,n2,n3,e4]
 trace_state
theorem get4d_ok (T:World) (h:Hp) (bb oo d d' m m0:Nat) (b:List Nat) (k:Nat) (s:Bs h (.slice (some ⟨bb,oo,none⟩) m0 d) b) (hm0:b.length=m0) (hk:k+4≤m0) (hm:m=m0 - k) (hl:m0≤100000) :
  CallsH Tryz.prog T 73 #[.slice (some ⟨bb,oo+k,none⟩) m d'] h fun v' h'=>v'=.int .i64 (be4 b k:Nat)∧h'=h:=by
 subst hm
 have s1:=bs_cutF s (k:=k) (by omega) hm0 d'
 have:=get4_ok T h _ (b.drop k) s1 (by rw [List.length_drop]; omega) (by rw [List.length_drop]; omega)
 rw [be4_drop] at this
 exact this
theorem decC_cells (l:List Nat) (h:decErr l=0):decC l=[.int .i64 (be4 l 0),.int .i64 (be4 l 4),.int .i64 (be4 l 8),.int .i64 (be4 l 12),.int .i64 (be4 l 16)]:=by
 unfold decC; rw [if_pos h]; rfl
theorem decC_none (l:List Nat) (h:¬ decErr l=0):decC l=[.int .i64 0,.int .i64 0,.int .i64 0,.int .i64 0,.int .i64 0]:=by
 unfold decC; rw [if_neg h]; rfl
set_option maxHeartbeats 1000000 in
theorem apply_ok (T:World) (h:Hp) (P:Bal) (pv:Option Addr) (cv:Nat) (l:List Vt) (q:Option Addr) (m d:Nat) (b:List Nat) (s:Ts voteC 8 h (.slice pv l.length cv) l) (sb:Bs h (.slice q m d) b) (hm:b.length=m) (hl:l.length≤1000000) (hb:m≤1000) (hd:m≤d) :
  CallsH Tryz.prog T 48 #[.agg (accC P (.slice pv l.length cv)).toArray,.slice q m d] h fun v' h'=>BodyRes h.size h' v' ⟨P,l⟩ b∧Bel h.size h h':=by
 refine CallsH.of_code2 (args:=[_,_]) Tryz.func48 rfl rfl rfl rfl ?_
 unfold accC
 simp -implicitDefEqProofs (maxSteps:=2000000) only [go_sem,↓reduceIte]
 obtain ⟨h0,hh0⟩:∃ h0:Hp,h0=(h.push (.cells (accC P (.slice pv l.length cv)).toArray 63)).push (.cells [.int .i64 0,.int .i64 0,.slice none 0 0].toArray 63):=⟨_,rfl⟩
 have b0:Bel h.size h h0:=by rw [hh0]; exact ((Bel.refl _ _).add _).add _
 have s0:h0.size=h.size+2:=by rw [hh0]; simp
 have x0:h0[h.size]? = some (.cells (accC P (.slice pv l.length cv)).toArray 63):=by
  rw [hh0,Array.getElem?_push,if_neg (by simp),get_push_last]
 have z0:h0[h.size+1]? = some (.cells [.int .i64 0,.int .i64 0,.slice none 0 0].toArray 63):=by
  rw [hh0,Array.getElem?_push,if_pos (by simp)]
 have e0:(h.push (.cells #[Value.int .i64 P.r,.int .i64 P.n,.slice pv l.length cv] 63)).push (.cells #[Value.int .i64 0,.int .i64 0,.slice none 0 0] 63)=h0:=hh0.symm
 rw [e0]
 clear e0 hh0
 have fin:∀ (G:Hp) (k:Nat) (w:List Value),w.length=3→w.all oneC=true→G[k]? = some (.cells [.int .i64 0,.int .i64 0,.slice none 0 0].toArray 63)→wr G ⟨k,0,none⟩ w=some (G.setIfInBounds k (.cells w.toArray 63)):=by
  intro G k w h3 h1 hx
  rw [wr_get (b:=k) hx 0 w,lput_full (by rw [h3]; rfl),if_pos ⟨by rw [h3]; simp,h1⟩]
 have sb0:=sb.bel b0
 have s0':=s.bel b0
 have r0:rd h0 ⟨h.size,0,none⟩ 3=some [.int .i64 P.r,.int .i64 P.n,.slice pv l.length cv]:=rd_last x0 rfl
 have k0:h.size<h0.size:=by omega
 have k1:h.size+1<h0.size:=by omega
 unfold BodyRes
 by_cases n9:m=9
 ·subst n9
  have k9:((9:Nat):Int)=9:=rfl
  obtain ⟨q',d',hv,hh⟩:=sb0.opend
  simp only [Value.slice.injEq] at hv
  obtain ⟨rfl,_,rfl⟩:=hv
  obtain ⟨bb,oo,rfl,hbb,hcs⟩:=hh (by intro e; subst e; simp at hm)
  have c0:=hcs 0 (by omega)
  rw [Nat.add_zero] at c0
  by_cases q1:b.getD 0 0=1
  case neg=>
   have q1':¬ ((b.getD 0 0:Nat):Int)=1:=by omega
   have e:bodyS ⟨P,l⟩ b=none:=by
    unfold bodyS
    rw [if_neg (fun hn=>q1 hn.2),if_neg (fun hn=>by omega)]
   have wz:=fin h0 (h.size+1) [.int .i64 P.r,.int .i64 P.n,.slice pv l.length cv] rfl rfl z0
   simp -implicitDefEqProofs (maxSteps:=2000000) only [go_sem,↓reduceIte,k9,c0,q1',e,r0,wz,k1]
   exact ⟨⟨P,pv,l.length,cv,rfl,by simp⟩,b0.addSet (by omega) _⟩
  rw [q1] at c0
  have e1:((1:Nat):Int)=1:=rfl
  rw [e1] at c0
  obtain ⟨X,hX⟩:∃ X:Bal,X=⟨be4 b 1,be4 b 5⟩:=⟨_,rfl⟩
  have e:bodyS ⟨P,l⟩ b=if prErr P l X=0 then some ⟨X,l⟩ else none:=by
   unfold bodyS
   rw [if_pos ⟨hm,q1⟩,hX]
  have call:∀ G,Ts voteC 8 G (.slice pv l.length cv) l→CallsH Tryz.prog T 72 #[.agg #[.int .i64 P.r,.int .i64 P.n,.slice pv l.length cv],.agg #[.int .i64 (be4 b 1:Nat),.int .i64 (be4 b 5:Nat)]] G fun v' h'=>PrRes G.size h' v' P l X∧Bel G.size G h':=fun G sG=>by
   rw [hX]; exact promise_ok T G P _ l _ sG (by omega)
  clear hX
  have d1:¬ d=1:=by omega
  have d5:¬ d=5:=by omega
  have sbx:=sb0
  simp -implicitDefEqProofs (maxSteps:=2000000) only [go_sem,↓reduceIte,k9,c0]
  refine VS.mono (N:=fun F' g'=>Bel h0.size h0 g'∧F' 4=.pointer (some ⟨h.size+1,0,none⟩)∧F' 8=.int .i64 (prErr P l X)∧∃ A p1 c1,h0.size≤A∧F' 6=.pointer (some ⟨A,0,none⟩)∧g'[A]? = some (.cells (accC (if prErr P l X=0 then X else ⟨0,0⟩) (.slice p1 (if prErr P l X=0 then l else []).length c1)).toArray 63)∧Ots h0.size 96 voteC 8 g' (.slice p1 (if prErr P l X=0 then l else []).length c1) (if prErr P l X=0 then l else [])) ?_ ?_ (fun _ _ _ h=>h) (fun _ _ h=>h)
  ·refine VS.w (h0.size) [] (.q 0 (.q 1 (.q 2 (.q 4 (.q 5 (.or 3 (.or 6 (.q 7 (.or 8 (.q 9 (.q 10 (.q 11 (.q 12 (.s 13 (.s 14 (.q 15 (.q 16 .nil)))))))) (.s 13 (.s 8 (.q 9 (.q 10 (.q 11 (.q 12 (.s 14 (.q 15 (.q 16 .nil))))))))))) (.s 13 (.s 6 (.q 7 (.s 8 (.q 9 (.q 10 (.q 11 (.q 12 (.s 14 (.q 15 (.q 16 .nil)))))))))))) (.s 13 (.s 3 (.s 6 (.q 7 (.s 8 (.q 9 (.q 10 (.q 11 (.q 12 (.s 14 (.q 15 (.q 16 .nil)))))))))))))))))) mixed (by kernel_rfl) ?_
   simp -implicitDefEqProofs (maxSteps:=2000000) only [go_sem,↓reduceIte,r0,k0,k9,d1,d5,c0,Int.toNat_natCast]
   repeat' (first
     | with_reducible exact Bel.refl _ _
     | with_reducible exact Bel.push (by omega) _
     | (with_reducible refine (get4d_ok T _ bb oo d _ _ _ b 1 (by first | exact sbx | exact sbx.bel (Bel.push (Nat.le_refl _) _)) hm (by omega) rfl (by omega)).pure ?_; simp -implicitDefEqProofs (maxSteps:=2000000) only [go_sem,↓reduceIte,r0,k0,c0,Int.toNat_natCast])
     | (with_reducible refine (get4d_ok T _ bb oo d _ _ _ b 5 (by first | exact sbx | exact sbx.bel (Bel.push (Nat.le_refl _) _)) hm (by omega) rfl (by omega)).pure ?_; simp -implicitDefEqProofs (maxSteps:=2000000) only [go_sem,↓reduceIte,r0,k0,c0,Int.toNat_natCast])
     | with_reducible refine And.intro ?_ ?_)
   all_goals first
    | (refine (call h0 s0').use ?_
       rintro _ g1 ⟨⟨w1,w2,rfl,o1,o2⟩,b1⟩
       obtain ⟨p1,c1,rfl,_⟩:=o1.open
       obtain ⟨p2,c2,rfl,_⟩:=o2.open
       generalize (if prErr P l X=0 then X else ⟨0,0⟩)=Y at *
       generalize (if prErr P l X=0 then l else [])=L at *
       generalize prErr P l X=E at *
       have s1:=b1.size
       unfold accC
       simp -implicitDefEqProofs (maxSteps:=2000000) only [go_sem,↓reduceIte,b1]
       exact ⟨_,_,_,s1,rfl,get_push_last,o1.push _⟩)
    | (refine (call (h0.push (.cells [.int .i64 0,.int .i64 0,.slice none 0 0].toArray 63)) (s0'.bel (Bel.push (Nat.le_refl _) _))).use ?_
       rintro _ g1 ⟨⟨w1,w2,rfl,o1,o2⟩,b1⟩
       obtain ⟨p1,c1,rfl,_⟩:=o1.open
       obtain ⟨p2,c2,rfl,_⟩:=o2.open
       generalize (if prErr P l X=0 then X else ⟨0,0⟩)=Y at *
       generalize (if prErr P l X=0 then l else [])=L at *
       generalize prErr P l X=E at *
       have B1:Bel h0.size h0 g1:=(Bel.push (Nat.le_refl _) _).trans (b1.mono (by simp))
       have xA:=b1.get (by simp) get_push_last
       have yA:=fin g1 h0.size [.int .i64 Y.r,.int .i64 Y.n,.slice p1 L.length c1] rfl rfl xA
       have hz:=lt_of_get xA
       unfold accC
       simp -implicitDefEqProofs (maxSteps:=2000000) only [go_sem,↓reduceIte,B1,yA,hz]
       exact ⟨_,_,_,Nat.le_refl _,rfl,get_set xA,(o1.setLow (b:=h0.size) (by simp) _).mono (by simp)⟩)
  ·rintro F' g' ⟨hB,f4,f8,A,p1,c1,hA,f6,xA,oA⟩
   have z1:=hB.get (by omega) z0
   have k1':=lt_of_get z1
   have rA:rd g' ⟨A,0,none⟩ 3=_:=rd_last xA rfl
   generalize hY:(if prErr P l X=0 then X else ⟨0,0⟩)=Y at *
   generalize hL:(if prErr P l X=0 then l else [])=L at *
   generalize prErr P l X=E at *
   unfold accC at rA
   have wz:=fin g' (h.size+1) [.int .i64 Y.r,.int .i64 Y.n,.slice p1 L.length c1] rfl rfl z1
   have bb':Bel h.size h (g'.setIfInBounds (h.size+1) (.cells [.int .i64 Y.r,.int .i64 Y.n,.slice p1 L.length c1].toArray 63)):=(b0.trans (hB.mono (by omega))).addSet (by omega) _
   by_cases q:E=0
   ·rw [if_pos q] at e hY hL
    simp -implicitDefEqProofs (maxSteps:=2000000) only [go_sem,↓reduceIte,f4,f6,f8,rA,wz,k1',q,e]
    refine ⟨⟨Y,p1,L.length,c1,rfl,fun x hx=>?_⟩,bb'⟩
    cases hx
    exact ⟨hY.symm,by rw [hL]; exact (oA.setLow (by omega) _).mono (by omega)⟩
   ·rw [if_neg q] at e
    simp -implicitDefEqProofs (maxSteps:=2000000) only [go_sem,↓reduceIte,f4,f6,f8,rA,wz,k1',q,e]
    exact ⟨⟨Y,p1,L.length,c1,rfl,by simp⟩,bb'⟩
 have n9':¬ (m:Int)=9:=by omega
 by_cases n33:m=33
 case neg=>
  have n33':¬ (m:Int)=33:=by omega
  have e:bodyS ⟨P,l⟩ b=none:=by
   unfold bodyS
   rw [if_neg (fun hn=>by omega),if_neg (fun hn=>by omega)]
  have wz:=fin h0 (h.size+1) [.int .i64 P.r,.int .i64 P.n,.slice pv l.length cv] rfl rfl z0
  simp -implicitDefEqProofs (maxSteps:=2000000) only [go_sem,↓reduceIte,n9',n33',e,r0,wz,k1]
  exact ⟨⟨P,pv,l.length,cv,rfl,by simp⟩,b0.addSet (by omega) _⟩
 subst n33
 have k33:((33:Nat):Int)=33:=rfl
 clear n9'
 obtain ⟨q',d',hv,hh⟩:=sb0.opend
 simp only [Value.slice.injEq] at hv
 obtain ⟨rfl,_,rfl⟩:=hv
 obtain ⟨bb,oo,rfl,hbb,hcs⟩:=hh (by intro e; subst e; simp at hm)
 have c0:=hcs 0 (by omega)
 rw [Nat.add_zero] at c0
 by_cases q2:b.getD 0 0=2
 case neg=>
  have q2':¬ ((b.getD 0 0:Nat):Int)=2:=by omega
  have e:bodyS ⟨P,l⟩ b=none:=by
   unfold bodyS
   rw [if_neg (fun hn=>by omega),if_neg (fun hn=>q2 hn.2)]
  have wz:=fin h0 (h.size+1) [.int .i64 P.r,.int .i64 P.n,.slice pv l.length cv] rfl rfl z0
  simp -implicitDefEqProofs (maxSteps:=2000000) only [go_sem,↓reduceIte,k33,c0,q2',e,r0,wz,k1]
  exact ⟨⟨P,pv,l.length,cv,rfl,by simp⟩,b0.addSet (by omega) _⟩
 rw [q2] at c0
 have e2:((2:Nat):Int)=2:=rfl
 rw [e2] at c0
 have d13:¬ d=13:=by omega
 have d33:(33:Int)≤(d:Int):=by omega
 have s13:=fun c'=>bs_cutF sb0 (k:=13) (by omega) hm c'
 simp -implicitDefEqProofs (maxSteps:=2000000) only [go_sem,↓reduceIte,k33,c0,d13,d33,Int.toNat_natCast]
 refine (decode_ok T h0 _ (b.drop 13) (s13 _) (by rw [List.length_drop]; omega)).use ?_
 rintro _ g ⟨rfl,bg⟩
 have sg:=bg.size
 by_cases q3:decErr (b.drop 13)=0
 case neg=>
  have e:bodyS ⟨P,l⟩ b=none:=by
   unfold bodyS
   rw [if_neg (fun hn=>by omega),if_pos ⟨hm,q2⟩,if_pos q3]
  rw [decC_none _ q3]
  have zg:=bg.get k1 z0
  have xg:=bg.get k0 x0
  have rg:rd g ⟨h.size,0,none⟩ 3=some [.int .i64 P.r,.int .i64 P.n,.slice pv l.length cv]:=rd_last xg rfl
  have wz:=fin g (h.size+1) [.int .i64 P.r,.int .i64 P.n,.slice pv l.length cv] rfl rfl zg
  have hne0:¬ h.size=g.size:=by omega
  have hne1:¬ h.size+1=g.size:=by omega
  have hlt1:h.size+1<g.size:=by omega
  simp -implicitDefEqProofs (maxSteps:=2000000) only [go_sem,↓reduceIte,q3,e,rg,wz,hne0,hne1,hlt1]
  exact ⟨⟨P,pv,l.length,cv,rfl,by simp⟩,((b0.trans (bg.mono (by omega))).addSet (by omega) _).addP (by simp; omega) _⟩
 rw [decC_cells _ q3,q3]
 obtain ⟨X,hX⟩:∃ X:Vt,X=cmdAt (b.drop 13) ⟨be4 b 1,⟨be4 b 5,be4 b 9⟩,0,0,0,0,0⟩:=⟨_,rfl⟩
 have e:bodyS ⟨P,l⟩ b=if acErr P l X=0 then some ⟨X.b,insV l X⟩ else none:=by
  unfold bodyS
  rw [if_neg (fun hn=>by omega),if_pos ⟨hm,q2⟩,if_neg (fun hn=>hn q3),← hX]
  rw [show (⟨((be4 b 5:Nat):Int),((be4 b 9:Nat):Int)⟩:Bal)=X.b by rw [hX]; rfl]
 have call:∀ G,Ts voteC 8 G (.slice pv l.length cv) l→CallsH Tryz.prog T 74 #[.agg #[.int .i64 P.r,.int .i64 P.n,.slice pv l.length cv],.agg #[.int .i64 (be4 b 1:Nat),.int .i64 (be4 b 5:Nat),.int .i64 (be4 b 9:Nat),.int .i64 (be4 (b.drop 13) 0:Nat),.int .i64 (be4 (b.drop 13) 4:Nat),.int .i64 (be4 (b.drop 13) 8:Nat),.int .i64 (be4 (b.drop 13) 12:Nat),.int .i64 (be4 (b.drop 13) 16:Nat)]] G fun v' h'=>AcRes G.size h' v' P l X∧Bel G.size G h':=fun G sG=>by
  rw [hX]; exact accept_ok T G P _ l _ sG (by omega)
 clear hX
 generalize be4 (b.drop 13) 0=y0 at *
 generalize be4 (b.drop 13) 4=y4 at *
 generalize be4 (b.drop 13) 8=y8 at *
 generalize be4 (b.drop 13) 12=y12 at *
 generalize be4 (b.drop 13) 16=y16 at *
 obtain ⟨h1,hh1⟩:∃ h1:Hp,h1=g.push (.cells [.int .i64 (y0:Nat),.int .i64 (y4:Nat),.int .i64 (y8:Nat),.int .i64 (y12:Nat),.int .i64 (y16:Nat)].toArray 77):=⟨_,rfl⟩
 have e1:g.push (.cells #[Value.int .i64 (y0:Nat),.int .i64 (y4:Nat),.int .i64 (y8:Nat),.int .i64 (y12:Nat),.int .i64 (y16:Nat)] 77)=h1:=hh1.symm
 simp -implicitDefEqProofs (maxSteps:=2000000) only [go_sem,↓reduceIte]
 rw [e1]
 have b1:Bel h0.size h0 h1:=by rw [hh1]; exact bg.addP sg _
 have s1h:h1.size=g.size+1:=by rw [hh1]; simp
 have c1h:h1[g.size]? = some (.cells [.int .i64 (y0:Nat),.int .i64 (y4:Nat),.int .i64 (y8:Nat),.int .i64 (y12:Nat),.int .i64 (y16:Nat)].toArray 77):=by rw [hh1]; exact get_push_last
 clear e1 hh1
 have x1:=b1.get k0 x0
 have z1h:=b1.get k1 z0
 have r1:rd h1 ⟨h.size,0,none⟩ 3=some [.int .i64 P.r,.int .i64 P.n,.slice pv l.length cv]:=rd_last x1 rfl
 have rc1:rd h1 ⟨g.size,0,none⟩ 5=some [.int .i64 (y0:Nat),.int .i64 (y4:Nat),.int .i64 (y8:Nat),.int .i64 (y12:Nat),.int .i64 (y16:Nat)]:=rd_last c1h rfl
 have c0h:hc h1 ⟨bb,oo,none⟩=some (.int .u8 2):=by rw [b1.hc (by exact hbb)]; exact c0
 have k0h:h.size<h1.size:=by omega
 have kch:g.size<h1.size:=by omega
 have sbx:=sb0.bel b1
 have s1':=s0'.bel b1
 have d1:¬ d=1:=by omega
 have d5:¬ d=5:=by omega
 have d9:¬ d=9:=by omega
 have B1:Bel h.size h h1:=b0.trans (b1.mono (by omega))
 refine VS.mono (N:=fun F' g'=>Bel h1.size h1 g'∧F' 4=.pointer (some ⟨h.size+1,0,none⟩)∧F' 10=.int .i64 (acErr P l X)∧∃ A p1 c1,h1.size≤A∧F' 11=.pointer (some ⟨A,0,none⟩)∧g'[A]? = some (.cells (accC (if acErr P l X=0 then X.b else ⟨0,0⟩) (.slice p1 (if acErr P l X=0 then insV l X else []).length c1)).toArray 63)∧Ots h1.size 96 voteC 8 g' (.slice p1 (if acErr P l X=0 then insV l X else []).length c1) (if acErr P l X=0 then insV l X else [])) ?_ ?_ (fun _ _ _ h=>h) (fun _ _ h=>h)
 ·refine VS.w (h1.size) [] (.q 0 (.q 1 (.q 2 (.q 4 (.q 5 (.q 7 (.q 8 (.q 11 (.or 3 (.or 6 (.or 9 (.q 10 (.q 12 (.or 13 (.q 14 (.q 15 (.q 16 (.s 17 (.s 18 (.q 19 .nil)))))) (.s 17 (.s 13 (.q 14 (.q 15 (.q 16 (.s 18 (.q 19 .nil)))))))))) (.s 17 (.s 9 (.q 10 (.q 12 (.s 13 (.q 14 (.q 15 (.q 16 (.s 18 (.q 19 .nil))))))))))) (.s 17 (.s 6 (.s 9 (.q 10 (.q 12 (.s 13 (.q 14 (.q 15 (.q 16 (.s 18 (.q 19 .nil)))))))))))) (.s 17 (.s 3 (.s 6 (.s 9 (.q 10 (.q 12 (.s 13 (.q 14 (.q 15 (.q 16 (.s 18 (.q 19 .nil))))))))))))))))))))) mixed (by kernel_rfl) ?_
  simp -implicitDefEqProofs (maxSteps:=2000000) only [go_sem,↓reduceIte,r1,rc1,k0h,kch,k33,d1,d5,d9,c0h,Int.toNat_natCast]
  repeat' (first
    | with_reducible exact Bel.refl _ _
    | with_reducible exact Bel.push (by omega) _
    | (with_reducible refine (get4d_ok T _ bb oo d _ _ _ b 1 (by first | exact sbx | exact sbx.bel (Bel.push (Nat.le_refl _) _)) hm (by omega) rfl (by omega)).pure ?_; simp -implicitDefEqProofs (maxSteps:=2000000) only [go_sem,↓reduceIte,r1,rc1,k0h,kch,c0h,Int.toNat_natCast])
    | (with_reducible refine (get4d_ok T _ bb oo d _ _ _ b 5 (by first | exact sbx | exact sbx.bel (Bel.push (Nat.le_refl _) _)) hm (by omega) rfl (by omega)).pure ?_; simp -implicitDefEqProofs (maxSteps:=2000000) only [go_sem,↓reduceIte,r1,rc1,k0h,kch,c0h,Int.toNat_natCast])
    | (with_reducible refine (get4d_ok T _ bb oo d _ _ _ b 9 (by first | exact sbx | exact sbx.bel (Bel.push (Nat.le_refl _) _)) hm (by omega) rfl (by omega)).pure ?_; simp -implicitDefEqProofs (maxSteps:=2000000) only [go_sem,↓reduceIte,r1,rc1,k0h,kch,c0h,Int.toNat_natCast])
    | with_reducible refine And.intro ?_ ?_)
  all_goals first
   | (refine (call h1 s1').use ?_
      rintro _ g1 ⟨⟨w1,rfl,o1⟩,b1⟩
      obtain ⟨p1,c1,rfl,_⟩:=o1.open
      generalize (if acErr P l X=0 then X.b else ⟨0,0⟩)=Y at *
      generalize (if acErr P l X=0 then insV l X else [])=L at *
      generalize acErr P l X=E at *
      have s1:=b1.size
      unfold accC
      simp -implicitDefEqProofs (maxSteps:=2000000) only [go_sem,↓reduceIte,b1]
      exact ⟨_,_,_,s1,rfl,get_push_last,o1.push _⟩)
   | (refine (call (h1.push (.cells [.int .i64 0,.int .i64 0,.slice none 0 0].toArray 63)) (s1'.bel (Bel.push (Nat.le_refl _) _))).use ?_
      rintro _ g1 ⟨⟨w1,rfl,o1⟩,b1⟩
      obtain ⟨p1,c1,rfl,_⟩:=o1.open
      generalize (if acErr P l X=0 then X.b else ⟨0,0⟩)=Y at *
      generalize (if acErr P l X=0 then insV l X else [])=L at *
      generalize acErr P l X=E at *
      have B1:Bel h1.size h1 g1:=(Bel.push (Nat.le_refl _) _).trans (b1.mono (by simp))
      have xA:=b1.get (by simp) get_push_last
      have yA:=fin g1 h1.size [.int .i64 Y.r,.int .i64 Y.n,.slice p1 L.length c1] rfl rfl xA
      have hz:=lt_of_get xA
      unfold accC
      simp -implicitDefEqProofs (maxSteps:=2000000) only [go_sem,↓reduceIte,B1,yA,hz]
      exact ⟨_,_,_,Nat.le_refl _,rfl,get_set xA,(o1.setLow (b:=h1.size) (by simp) _).mono (by simp)⟩)
 ·rintro F' g' ⟨hB,f4,f8,A,p1,c1,hA,f6,xA,oA⟩
  have z1:=hB.get (by omega) z1h
  have k1':=lt_of_get z1
  have rA:rd g' ⟨A,0,none⟩ 3=_:=rd_last xA rfl
  generalize hY:(if acErr P l X=0 then X.b else ⟨0,0⟩)=Y at *
  generalize hL:(if acErr P l X=0 then insV l X else [])=L at *
  generalize acErr P l X=E at *
  unfold accC at rA
  have wz:=fin g' (h.size+1) [.int .i64 Y.r,.int .i64 Y.n,.slice p1 L.length c1] rfl rfl z1
  have bb':Bel h.size h (g'.setIfInBounds (h.size+1) (.cells [.int .i64 Y.r,.int .i64 Y.n,.slice p1 L.length c1].toArray 63)):=(B1.trans (hB.mono (by omega))).addSet (by omega) _
  by_cases q:E=0
  ·rw [if_pos q] at e hY hL
   simp -implicitDefEqProofs (maxSteps:=2000000) only [go_sem,↓reduceIte,f4,f6,f8,rA,wz,k1',q,e]
   refine ⟨⟨Y,p1,L.length,c1,rfl,fun x hx=>?_⟩,bb'⟩
   cases hx
   exact ⟨hY.symm,by rw [hL]; exact (oA.setLow (by omega) _).mono (by omega)⟩
  ·rw [if_neg q] at e
   simp -implicitDefEqProofs (maxSteps:=2000000) only [go_sem,↓reduceIte,f4,f6,f8,rA,wz,k1',q,e]
   exact ⟨⟨Y,p1,L.length,c1,rfl,by simp⟩,bb'⟩
theorem bs_mid {h:Hp} {bp op m c k n off m' c':Nat} {l:List Nat} (s:Bs h (.slice (some ⟨bp,op,none⟩) m c) l) (hm:l.length=m) (hk:k+n≤m) (ho:off=op+k) (hm':m'=n):Bs h (.slice (some ⟨bp,off,none⟩) m' c') ((l.drop k).take n):=by
 subst ho; subst hm'
 have s1:=bs_cutF s (k:=k) (by omega) hm c'
 have e:m - k=(l.drop k).length:=by rw [List.length_drop]; omega
 rw [e] at s1
 exact s1.fore (by rw [List.length_drop]; omega) c'
def recN (l:List Nat) (k:Nat):Nat:=1+l.getD k 0
def recStep (l:List Nat) (a:Acp) (k:Nat):Option (Acp × Nat):=
 if k<l.length∧k+recN l k+4≤l.length∧(shaS ((l.drop k).take (recN l k))).take 4=(l.drop (k+recN l k)).take 4 then
  (bodyS a ((l.drop (k+1)).take (recN l k - 1))).map fun x=>(x,k+(recN l k+4))
 else none
inductive Rec (l:List Nat):Acp→Nat→Acp→Nat→Prop
 | stop {a:Acp} {k:Nat}:recStep l a k=none→Rec l a k a k
 | go {a a' r:Acp} {k k' j:Nat}:recStep l a k=some (a',k')→Rec l a' k' r j→Rec l a k r j
def acp0:Acp:=⟨⟨0,0⟩,[]⟩
def RecRes (B:Nat) (h':Hp) (v':Value) (l:List Nat) (n:Int):Prop:=∃ (r:Acp) (k:Nat) (E:Int) (w:Value),v'=.tuple [.agg (accC r.p w).toArray,.int .i64 k,.int .i64 E].toArray∧Ots B 96 voteC 8 h' w r.l∧k≤l.length∧r.l.length≤k ∧
 if tapeOk l n then E=0∧Rec l acp0 0 r k else E=5∧r=acp0∧k=0
theorem insV_length {l:List Vt} (hs:Srt l) (v:Vt):(insV l v).length≤l.length+1:=by
 have:∀ l:List Vt,(l.filter (fun x=>decide (x.slot<v.slot))).length+(l.filter (fun x=>decide (v.slot<x.slot))).length≤l.length:=by
  intro l
  induction l with
  | nil=>simp
  | cons x l ih=>
   simp only [List.filter_cons,List.length_cons]
   by_cases q1:x.slot<v.slot
   ·rw [if_pos (by simpa using q1),if_neg (by simp; omega),List.length_cons]; omega
   ·rw [if_neg (by simpa using q1)]
    by_cases q2:v.slot<x.slot
    ·rw [if_pos (by simpa using q2),List.length_cons]; omega
    ·rw [if_neg (by simpa using q2)]; omega
 have:=this l
 unfold insV
 rw [List.length_append,List.length_cons]; omega
theorem bodyS_length {a x:Acp} {b:List Nat} (h:bodyS a b=some x):x.l.length≤a.l.length+1:=by
 unfold bodyS at h
 split at h
 ·split at h
  ·cases h; simp
  ·cases h
 ·split at h
  ·split at h
   ·cases h
   ·split at h
    ·rename_i q
     cases h
     have:accErr a.p a.l=0:=by
      unfold acErr at q
      split at q
      ·cases q
      ·rename_i hn; simpa using hn
     exact insV_length (accErr_srt this) _
    ·cases h
  ·cases h
set_option maxHeartbeats 2000000 in
theorem recover_ok (T:World) (h:Hp) (v:Value) (n:Int) (l:List Nat) (s:Bs h v l) (hl:l.length≤140737488355328) (tk:Tk h) :
  CallsH Tryz.prog T 30 #[.agg [v,.int .i64 n].toArray] h fun v' h'=>RecRes h.size h' v' l n∧Bel h.size h h':=by
 obtain ⟨p,c,rfl,_⟩:=s.open
 refine CallsH.of_code2 (args:=[_]) Tryz.func30 rfl rfl rfl rfl ?_
 unfold RecRes
 simp -implicitDefEqProofs (maxSteps:=2000000) only [go_sem,↓reduceIte]
 obtain ⟨h0,hh0⟩:∃ h0:Hp,h0=(h.push (.cells [.slice p l.length c,.int .i64 n].toArray 58)).push (.cells [.int .i64 0,.int .i64 0,.slice none 0 0].toArray 63):=⟨_,rfl⟩
 have b0:Bel h.size h h0:=by rw [hh0]; exact ((Bel.refl _ _).add _).add _
 have s0:h0.size=h.size+2:=by rw [hh0]; simp
 have z0:h0[h.size+1]? = some (.cells [.int .i64 0,.int .i64 0,.slice none 0 0].toArray 63):=by
  rw [hh0,Array.getElem?_push,if_pos (by simp)]
 have e0:(h.push (.cells #[Value.slice p l.length c,.int .i64 n] 58)).push (.cells #[Value.int .i64 0,.int .i64 0,.slice none 0 0] 63)=h0:=hh0.symm
 rw [e0]
 clear e0 hh0
 have fin:∀ (G:Hp) (w:List Value),w.length=3→w.all oneC=true→G[h.size+1]? = some (.cells [.int .i64 0,.int .i64 0,.slice none 0 0].toArray 63)→wr G ⟨h.size+1,0,none⟩ w=some (G.setIfInBounds (h.size+1) (.cells w.toArray 63)):=by
  intro G w h3 h1 hx
  rw [wr_get (b:=h.size+1) hx 0 w,lput_full (by rw [h3]; rfl),if_pos ⟨by rw [h3]; simp,h1⟩]
 refine (tapeOpen_ok T h0 _ n l (s.bel b0) hl).use ?_
 rintro _ h1 ⟨b1,o1⟩
 have s1:=b1.size
 have B1:Bel h.size h h1:=b0.trans (b1.mono (by omega))
 have z1:=b1.get (by omega) z0
 by_cases ok:tapeOk l n
 case neg=>
  rw [if_neg (show ¬ (l.length≤100000∧0≤n∧n≤l.length) from ok)] at o1
  subst o1
  have y2:=fin h1 [.int .i64 0,.int .i64 0,.slice none 0 0] rfl rfl z1
  have hlt:h.size+1<h1.size:=by omega
  have hne:¬ h.size+1=h1.size:=by omega
  simp -implicitDefEqProofs (maxSteps:=2000000) only [go_sem,↓reduceIte,y2,hne,hlt]
  refine ⟨⟨acp0,0,5,.slice none 0 0,rfl,Ots.nil _ _ _ _ _,Nat.zero_le _,Nat.le_refl _,?_⟩,(B1.addSet (by omega) _).addP (by simp; omega) _⟩
  rw [if_neg ok]
  exact ⟨rfl,rfl,rfl⟩
 rw [if_pos (show (l.length≤100000∧0≤n∧n≤l.length) from ok)] at o1
 obtain ⟨w,rfl,o1⟩:=o1
 obtain ⟨pw,cw,rfl,hcw⟩:=o1.open
 have l1:=ok.1
 obtain ⟨h2,hh2⟩:∃ h2:Hp,h2=(h1.push (.cells [.slice pw l.length cw,.int .i64 n].toArray 58)).push (.cells [.int .i64 0,.int .i64 0,.slice none 0 0].toArray 63):=⟨_,rfl⟩
 have e2:(h1.push (.cells #[Value.slice pw l.length cw,.int .i64 n] 58)).push (.cells #[Value.int .i64 0,.int .i64 0,.slice none 0 0] 63)=h2:=hh2.symm
 simp -implicitDefEqProofs (maxSteps:=2000000) only [go_sem,↓reduceIte]
 rw [e2]
 have b2:Bel h1.size h1 h2:=by rw [hh2]; exact ((Bel.refl _ _).add _).add _
 have s2:h2.size=h1.size+2:=by rw [hh2]; simp
 have t2:h2[h1.size]? = some (.cells [.slice pw l.length cw,.int .i64 n].toArray 58):=by
  rw [hh2,Array.getElem?_push,if_neg (by simp),get_push_last]
 have a2:h2[h1.size+1]? = some (.cells [.int .i64 0,.int .i64 0,.slice none 0 0].toArray 63):=by
  rw [hh2,Array.getElem?_push,if_pos (by simp)]
 clear e2 hh2
 have z2:=b2.get (by omega) z1
 obtain ⟨A,hA⟩:∃ A,A=h1.size+1:=⟨_,rfl⟩
 rw [← hA] at a2 ⊢
 have sw:=o1.bs.bel b2
 have B2:Bel h.size h h2:=B1.trans (b2.mono (by omega))
 have tk2:Tk h2:=tk.bels B2
 have blo:=o1.own.blk
 refine VS.loop' (fun F g=>Bel A h2 g∧F 2=.pointer (some ⟨h.size+1,0,none⟩)∧F 5=.pointer (some ⟨h1.size,0,none⟩)∧F 7=.pointer (some ⟨A,0,none⟩)∧∃ (k:Nat) (a:Acp) (p1:Option Addr) (c1:Nat),k≤l.length∧F 8=.int .i64 k∧g[A]? = some (.cells (accC a.p (.slice p1 a.l.length c1)).toArray 63)∧Ots (A+1) 96 voteC 8 g (.slice p1 a.l.length c1) a.l∧a.l.length≤k∧∀ r j,Rec l a k r j→Rec l acp0 0 r j)
  (fun F _=>l.length - (vi (F 8)).toNat) rfl ⟨Bel.refl _ _,rfl,rfl,rfl,0,acp0,none,0,Nat.zero_le _,rfl,a2,Ots.nil _ _ _ _ _,Nat.zero_le _,fun _ _ h=>h⟩ ?_
 rintro F g ⟨hg,f2,f5,f7,k,a,p1,c1,hk,f8,xa,oa,hal,hrec⟩
 have tg:=hg.get (by omega) t2
 have zg:=hg.get (by omega) z2
 have hzA:=lt_of_get xa
 have fact:∀ G,Bel g.size g G→V.hc G ⟨h1.size,0,none⟩=some (.slice pw l.length cw)∧rd G ⟨A,0,none⟩ 3=some [.int .i64 a.p.r,.int .i64 a.p.n,.slice p1 a.l.length c1] ∧
   wr G ⟨h.size+1,0,none⟩ [.int .i64 a.p.r,.int .i64 a.p.n,.slice p1 a.l.length c1]=some (G.setIfInBounds (h.size+1) (.cells [.int .i64 a.p.r,.int .i64 a.p.n,.slice p1 a.l.length c1].toArray 63))∧h.size+1<G.size∧Bel A h2 G ∧
   G[A]? = some (.cells (accC a.p (.slice p1 a.l.length c1)).toArray 63)∧Ots (A+1) 96 voteC 8 G (.slice p1 a.l.length c1) a.l∧Bs G (.slice pw l.length cw) l:=by
  intro G hG
  have tG:=hG.get (by omega) tg
  have zG:=hG.get (by omega) zg
  have xG:=hG.get (by omega) xa
  have bG:Bel A h2 G:=hg.trans (hG.mono (by omega))
  exact ⟨by rw [hc_last tG]; rfl,rd_last xG rfl,fin G _ rfl rfl zG,lt_of_get zG,bG,xG,oa.bel hG (Nat.le_refl _),o1.bs.bel (b2.trans (bG.mono (by omega)))⟩
 have done:∀ G,Bel g.size g G→recStep l a k=none→(∃ (r:Acp) (k':Nat) (E:Int) (w:Value),Value.tuple [.agg (accC a.p (.slice p1 a.l.length c1)).toArray,.int .i64 (k:Nat),.int .i64 0].toArray=.tuple [.agg (accC r.p w).toArray,.int .i64 (k':Nat),.int .i64 E].toArray∧Ots h.size 96 voteC 8 (G.setIfInBounds (h.size+1) (.cells [.int .i64 a.p.r,.int .i64 a.p.n,.slice p1 a.l.length c1].toArray 63)) w r.l∧k'≤l.length∧r.l.length≤k'∧if tapeOk l n then E=0∧Rec l acp0 0 r k' else E=5∧r=acp0∧k'=0)∧Bel h.size h (G.setIfInBounds (h.size+1) (.cells [.int .i64 a.p.r,.int .i64 a.p.n,.slice p1 a.l.length c1].toArray 63)):=by
  intro G hG e
  obtain ⟨_,_,_,_,bG,_,oG,_⟩:=fact G hG
  refine ⟨⟨a,k,0,_,rfl,(oG.setLow (by omega) _).mono (by omega),hk,hal,?_⟩,(B2.trans (bG.mono (by omega))).addSet (by omega) _⟩
  rw [if_pos ok]
  exact ⟨rfl,hrec _ _ (.stop e)⟩
 obtain ⟨rt,ra,wf,hlz,_,_,_,swg⟩:=fact g (Bel.refl _ _)
 by_cases hlt:k<l.length
 case neg=>
  have hlt':¬ (k:Int)<l.length:=by omega
  have e:recStep l a k=none:=by unfold recStep; rw [if_neg (fun hn=>hlt hn.1)]
  simp -implicitDefEqProofs (maxSteps:=2000000) only [go_sem,↓reduceIte,f2,f5,f7,f8,rt,hlt',ra,wf,hlz]
  exact done g (Bel.refl _ _) e
 have hlt':(k:Int)<l.length:=by omega
 obtain ⟨q',d',hv,hh⟩:=swg.opend
 simp only [Value.slice.injEq,true_and] at hv
 obtain ⟨rfl,rfl⟩:=hv
 obtain ⟨bx,ox,rfl,hbx,hcs⟩:=hh (by intro e; subst e; simp at hlt)
 have rx:=hcs k hlt
 have hx:=getD_byte swg.byte k
 obtain ⟨N,hN⟩:∃ N,N=recN l k:=⟨_,rfl⟩
 have hN':N=1+l.getD k 0:=hN
 have e1:(1:Int)+((l.getD k 0:Nat):Int)=(N:Int):=by omega
 have e2:(N:Int)+4=((N+4:Nat):Int):=by omega
 have d1:¬ cw=k:=by omega
 have n0:(0:Int)<((l.length - k:Nat):Int):=by omega
 have n1:(0:Int)≤(k:Int):=by omega
 have n2:(k:Int)≤(l.length:Int):=by omega
 by_cases hsh:l.length - k<N+4
 case pos=>
  have hsh':((l.length - k:Nat):Int)<((N+4:Nat):Int):=by omega
  have e:recStep l a k=none:=by unfold recStep; rw [← hN,if_neg (fun hn=>by omega)]
  simp -implicitDefEqProofs (maxSteps:=2000000) only [go_sem,↓reduceIte,f2,f5,f7,f8,rt,hlt',ra,wf,hlz,rx,e1,e2,d1,n0,n1,n2,hsh',Int.toNat_natCast]
  exact done g (Bel.refl _ _) e
 have hsh':¬ ((l.length - k:Nat):Int)<((N+4:Nat):Int):=by omega
 have n3:(0:Int)≤(N:Int):=by omega
 have n4:(N:Int)≤((cw - k:Nat):Int):=by omega
 simp -implicitDefEqProofs (maxSteps:=2000000) only [go_sem,↓reduceIte,f2,f5,f7,f8,rt,hlt',rx,e1,e2,d1,n0,n1,n2,n3,n4,hsh',Int.toNat_natCast]
 have sN:Bs g (.slice (some ⟨bx,ox+k,none⟩) N (cw - k)) ((l.drop k).take N):=bs_mid swg rfl (by omega) rfl rfl
 have Bg:Bel h.size h g:=B2.trans (hg.mono (by omega))
 refine (shaSum_ok T g _ _ sN (tk.bels Bg)).use ?_
 rintro _ g1 ⟨⟨w5,rfl,o5⟩,b5⟩
 have e0:sumErr ((l.drop k).take N).length=0:=by unfold sumErr; rw [List.length_take,List.length_drop,if_neg (by omega)]
 rw [e0,if_pos rfl] at o5
 rw [e0]
 have ml:=shaS_length ((l.drop k).take N)
 obtain ⟨M,hM⟩:∃ M,M=shaS ((l.drop k).take N):=⟨_,rfl⟩
 rw [← hM] at o5 ml
 obtain ⟨p5,c5,rfl,hc5⟩:=o5.open
 have sM:=o5.bs
 obtain ⟨rt1,ra1,wf1,hlz1,bA1,xA1,oA1,sw1⟩:=fact g1 b5
 have s5:=b5.size
 have h4:(4:Int)≤(c5:Int):=by omega
 have n5:((N+4:Nat):Int)≤((cw - k:Nat):Int):=by omega
 have n6:(N:Int)≤((N+4:Nat):Int):=by omega
 have n7:(0:Int)≤((N+4:Nat):Int):=by omega
 have d2:¬ cw - k=N:=by omega
 have hMd:Bs g1 (.slice p5 4 c5) (M.take 4):=sM.fore (by omega) c5
 have hRd:Bs g1 (.slice (some ⟨bx,ox+k+N,none⟩) (N+4 - N) (cw - k - N)) ((l.drop (k+N)).take 4):=bs_mid sw1 rfl (by omega) (by omega) (by omega)
 simp -implicitDefEqProofs (maxSteps:=2000000) only [go_sem,↓reduceIte,f2,f5,f7,f8]
 refine VS.w (g1.size) [] (.q 0 (.q 1 (.q 2 (.q 3 (.q 4 (.q 5 (.q 6 (.s 7 (.q 8 .nil))))))))) mixed (by kernel_rfl) ?_
 simp -implicitDefEqProofs (maxSteps:=2000000) only [go_sem,↓reduceIte,f2,f5,f7,f8,h4,e2,n3,n5,n6,n7,d2,Int.toNat_natCast]
 refine (same_ok T g1 _ _ (M.take 4) ((l.drop (k+N)).take 4) hMd hRd (by rw [List.length_take]; omega)).pure ?_
 have eR:(l.drop (k+N)).take 4=(l.drop (k+recN l k)).take 4:=by rw [← hN]
 by_cases heq:M.take 4=(l.drop (k+N)).take 4
 case neg=>
  have hd:decide (M.take 4=(l.drop (k+N)).take 4)=false:=decide_eq_false heq
  have e:recStep l a k=none:=by
   unfold recStep
   rw [← hN,← hM,if_neg (fun hn=>heq hn.2.2)]
  rw [hd]
  simp -implicitDefEqProofs (maxSteps:=2000000) only [go_sem,↓reduceIte,f2,f5,f7,f8,ra1,wf1,hlz1]
  exact done g1 b5 e
 have hd:decide (M.take 4=(l.drop (k+N)).take 4)=true:=decide_eq_true heq
 rw [hd]
 obtain ⟨bd,hbd⟩:∃ bd,bd=(l.drop (k+1)).take (N - 1):=⟨_,rfl⟩
 have estep:recStep l a k=(bodyS a bd).map fun x=>(x,k+(N+4)):=by
  unfold recStep
  rw [← hN,← hM,if_pos ⟨hlt,by omega,heq⟩,hbd]
 have lbd:bd.length=N - 1:=by rw [hbd,List.length_take,List.length_drop]; omega
 have sbd:Bs g1 (.slice (some ⟨bx,ox+k+1,none⟩) (N - 1) (cw - k - 1)) bd:=by rw [hbd]; exact bs_mid sw1 rfl (by omega) (by omega) rfl
 have call:∀ G,Bel g1.size g1 G→CallsH Tryz.prog T 48 #[.agg #[.int .i64 a.p.r,.int .i64 a.p.n,.slice p1 a.l.length c1],.slice (some ⟨bx,ox+k+1,none⟩) (N - 1) (cw - k - 1)] G fun v' h'=>BodyRes G.size h' v' a bd∧Bel G.size G h':=fun G hG=>
  apply_ok T G a.p p1 c1 a.l _ (N - 1) (cw - k - 1) bd (oA1.ts.bel hG) (sbd.bel hG) lbd (by omega) (by omega) (by omega)
 have n8:(1:Int)≤(N:Int):=by omega
 have d3:¬ cw - k=1:=by omega
 have q1:A<g1.size:=by omega
 have zfin:∀ (G:Hp) (b:Nat) (z w:List Value),z.length=3→w.length=3→w.all oneC=true→G[b]? = some (.cells z.toArray 63)→wr G ⟨b,0,none⟩ w=some (G.setIfInBounds b (.cells w.toArray 63)):=by
  intro G b z w hz h3 h1 hx
  rw [wr_get (b:=b) hx 0 w,lput_full (by rw [h3,hz]),if_pos ⟨by rw [h3,hz]; simp,h1⟩]
 simp -implicitDefEqProofs (maxSteps:=2000000) only [go_sem,↓reduceIte,f2,f5,f7,f8]
 refine VS.mono (N:=fun F' g'=>Bel g1.size g1 g'∧F' 2=.pointer (some ⟨h.size+1,0,none⟩)∧F' 5=.pointer (some ⟨h1.size,0,none⟩)∧F' 7=.pointer (some ⟨A,0,none⟩)∧F' 8=.int .i64 k∧F' 10=.int .i64 N∧F' 14=.bool (bodyS a bd).isSome∧∃ (A':Nat) (P:Bal) (p m:_) (c:Nat),g1.size≤A'∧F' 13=.pointer (some ⟨A',0,none⟩)∧g'[A']? = some (.cells (accC P (.slice p m c)).toArray 63)∧∀ x,bodyS a bd=some x→P=x.p∧Ots g1.size 96 voteC 8 g' (.slice p m c) x.l) ?_ ?_ (fun _ _ _ h=>h) (fun _ _ h=>h)
 ·refine VS.w (g1.size) [] (.q 0 (.q 1 (.q 2 (.q 3 (.or 4 (.q 5 (.q 6 (.q 7 (.s 8 (.s 9 (.q 10 .nil)))))) (.s 8 (.s 4 (.q 5 (.q 6 (.q 7 (.s 9 (.q 10 .nil)))))))))))) mixed (by kernel_rfl) ?_
  simp -implicitDefEqProofs (maxSteps:=2000000) only [go_sem,↓reduceIte,f2,f5,f7,f8,ra1,q1,n3,n4,n8,d3,Int.toNat_natCast]
  refine ⟨?_,?_⟩
  ·refine (call g1 (Bel.refl _ _)).use ?_
   rintro _ g2 ⟨⟨P,p2,m2,c2,rfl,h2x⟩,b6⟩
   have s6:=b6.size
   unfold accC
   simp -implicitDefEqProofs (maxSteps:=2000000) only [go_sem,↓reduceIte,f2,f5,f7,f8,b6]
   exact ⟨_,_,_,_,_,s6,rfl,get_push_last,fun x hx=>⟨(h2x x hx).1,(h2x x hx).2.push _⟩⟩
  ·refine (call (g1.push (.cells [.int .i64 0,.int .i64 0,.slice none 0 0].toArray 63)) (Bel.push (Nat.le_refl _) _)).use ?_
   rintro _ g2 ⟨⟨P,p2,m2,c2,rfl,h2x⟩,b6⟩
   have B6:Bel g1.size g1 g2:=(Bel.push (Nat.le_refl _) _).trans (b6.mono (by simp))
   have xA:=b6.get (by simp) get_push_last
   have yA:=zfin g2 g1.size _ [.int .i64 P.r,.int .i64 P.n,.slice p2 m2 c2] rfl rfl rfl xA
   have hz:=lt_of_get xA
   unfold accC
   simp -implicitDefEqProofs (maxSteps:=2000000) only [go_sem,↓reduceIte,f2,f5,f7,f8,B6,yA,hz]
   exact ⟨_,_,_,_,_,Nat.le_refl _,rfl,get_set xA,fun x hx=>⟨(h2x x hx).1,((h2x x hx).2.setLow (b:=g1.size) (by simp) _).mono (by simp)⟩⟩
 rintro F' g' ⟨hB,f2,f5,f7,f8,f10,f14,A',P,p2,m2,c2,hA',f13,xA',hx'⟩
 have sB:=hB.size
 have hgG:Bel g.size g g':=b5.trans (hB.mono s5)
 obtain ⟨rt2,ra2,wf2,hlz2,bA2,xA2,oA2,sw2⟩:=fact g' hgG
 cases hbs:bodyS a bd with
 | none=>
  have e:recStep l a k=none:=by rw [estep,hbs]; rfl
  rw [hbs] at f14
  simp -implicitDefEqProofs (maxSteps:=2000000) only [go_sem,↓reduceIte,f2,f5,f7,f8,f10,f14,ra2,wf2,hlz2]
  exact done g' hgG e
 | some x=>
  obtain ⟨rfl,ox2⟩:=hx' x hbs
  obtain ⟨p3,c3,e3,_⟩:=ox2.open
  simp only [Value.slice.injEq] at e3
  obtain ⟨rfl,rfl,rfl⟩:=e3
  have e:recStep l a k=some (x,k+(N+4)):=by rw [estep,hbs]; rfl
  have rA':rd g' ⟨A',0,none⟩ 3=some [.int .i64 x.p.r,.int .i64 x.p.n,.slice p2 x.l.length c2]:=rd_last xA' rfl
  have wA:=zfin g' A _ [.int .i64 x.p.r,.int .i64 x.p.n,.slice p2 x.l.length c2] rfl rfl rfl xA2
  have zA:=lt_of_get xA2
  have e4:(k:Int)+((N+4:Nat):Int)=((k+(N+4):Nat):Int):=by omega
  have lx:=bodyS_length hbs
  rw [hbs] at f14
  simp -implicitDefEqProofs (maxSteps:=2000000) only [go_sem,↓reduceIte,f2,f5,f7,f8,f10,f13,f14,rA',wA,zA,e2,e4]
  refine ⟨⟨bA2.addSet (Nat.le_refl _) _,f2,f5,f7,k+(N+4),x,p2,c2,by omega,rfl,get_set xA2,(ox2.setLow (by omega) _).mono (by omega),by omega,fun r j hr=>hrec r j (.go e hr)⟩,?_⟩
  simp only [vi,updo_some,↓reduceIte,f8]; omega
def RepRes (B:Nat) (h':Hp) (v':Value) (l:List Nat) (n:Int):Prop:=∃ (r:Acp) (k:Nat) (E:Int) (w:Value),v'=.tuple [.agg [w,.int .i64 (if E=0 then (if (k:Int)<n then (k:Int) else n) else 0)].toArray,.int .i64 E].toArray∧OBs B 5 h' w (if E=0 then l.take k else [])∧k≤l.length ∧
 if tapeOk l n then E=0∧Rec l acp0 0 r k else E=5∧r=acp0∧k=0
theorem repair_ok (T:World) (h:Hp) (v:Value) (n:Int) (l:List Nat) (s:Bs h v l) (hcap:Cap v) (hl:l.length≤140737488355328) (tk:Tk h) :
  CallsH Tryz.prog T 29 #[.agg [v,.int .i64 n].toArray] h fun v' h'=>RepRes h.size h' v' l n∧Bel h.size h h':=by
 obtain ⟨p,c,rfl,_⟩:=s.open
 have hcap:l.length≤c:=hcap
 refine CallsH.of_code2 (args:=[_]) Tryz.func29 rfl rfl rfl rfl ?_
 unfold RepRes
 simp -implicitDefEqProofs (maxSteps:=2000000) only [go_sem,↓reduceIte]
 obtain ⟨h0,hh0⟩:∃ h0:Hp,h0=(h.push (.cells [.slice p l.length c,.int .i64 n].toArray 58)).push (.cells [.slice none 0 0,.int .i64 0].toArray 58):=⟨_,rfl⟩
 have b0:Bel h.size h h0:=by rw [hh0]; exact ((Bel.refl _ _).add _).add _
 have s0:h0.size=h.size+2:=by rw [hh0]; simp
 have t0:h0[h.size]? = some (.cells [.slice p l.length c,.int .i64 n].toArray 58):=by
  rw [hh0,Array.getElem?_push,if_neg (by simp),get_push_last]
 have z0:h0[h.size+1]? = some (.cells [.slice none 0 0,.int .i64 0].toArray 58):=by
  rw [hh0,Array.getElem?_push,if_pos (by simp)]
 have e0:(h.push (.cells #[Value.slice p l.length c,.int .i64 n] 58)).push (.cells #[Value.slice none 0 0,.int .i64 0] 58)=h0:=hh0.symm
 have e0':(h.push (.cells [Value.slice p l.length c,.int .i64 n].toArray 58)).push (.cells [Value.slice none 0 0,.int .i64 0].toArray 58)=h0:=hh0.symm
 first | rw [e0] | rw [e0']
 clear e0 e0' hh0
 refine (recover_ok T h0 _ n l (s.bel b0) hl (tk.bels b0)).use ?_
 rintro _ h1 ⟨⟨r,k,E,w1,rfl,o1,hk,hr,q⟩,b1⟩
 have s1:=b1.size
 obtain ⟨p1,c1,rfl,_⟩:=o1.open
 unfold accC
 obtain ⟨h2,hh2⟩:∃ h2:Hp,h2=h1.push (.cells [.int .i64 r.p.r,.int .i64 r.p.n,.slice p1 r.l.length c1].toArray 63):=⟨_,rfl⟩
 have b2:Bel h1.size h1 h2:=by rw [hh2]; exact Bel.push (Nat.le_refl _) _
 have s2:h2.size=h1.size+1:=by rw [hh2]; simp
 have B2:Bel h.size h h2:=b0.trans ((b1.mono (by omega)).trans (b2.mono (by omega)))
 have t2:=b2.get (by omega) (b1.get (by omega) t0)
 have z2:=b2.get (by omega) (b1.get (by omega) z0)
 have y2:=wr_get z2 0
 have hlt2:h.size+1<h2.size:=by omega
 have eh2:h1.push (.cells #[Value.int .i64 r.p.r,.int .i64 r.p.n,.slice p1 r.l.length c1] 63)=h2:=hh2.symm
 clear hh2
 by_cases ok:tapeOk l n
 case neg=>
  have q0:=q
  rw [if_neg ok] at q
  obtain ⟨rfl,rfl,rfl⟩:=q
  have z1:=b1.get (by omega) z0
  have y1:=wr_get z1 0
  have hne:¬ h.size+1=h1.size:=by omega
  have hlt1:h.size+1<h1.size:=by omega
  have B1:Bel h.size h h1:=b0.trans (b1.mono (by omega))
  simp -implicitDefEqProofs (maxSteps:=2000000) only [go_sem,↓reduceIte,y1,hne,hlt1]
  refine ⟨⟨acp0,0,5,.slice none 0 0,rfl,OBs.nil _ _ _,Nat.zero_le _,q0⟩,?_⟩
  exact (B1.addSet (by omega) _).addP (by simp; omega) _
 have q0:=q
 rw [if_pos ok] at q
 obtain ⟨rfl,q⟩:=q
 have l1:=ok.1
 have r2:V.hc h2 ⟨h.size,0,none⟩=some (.slice p l.length c):=by rw [hc_last t2]; rfl
 have n2:V.hc h2 ⟨h.size,1,none⟩=some (.int .i64 n):=by rw [hc_last t2]; rfl
 have k1:(0:Int)≤(k:Int):=by omega
 have k2:(k:Int)≤(c:Int):=by omega
 have q1:h.size<h2.size:=by omega
 simp -implicitDefEqProofs (maxSteps:=2000000) only [go_sem,↓reduceIte]
 rw [eh2]
 refine VS.w (h2.size) [10,11] (.q 0 (.q 1 (.q 2 (.q 3 (.q 5 (.q 6 (.q 7 (.q 8 (.s 4 (.q 9 (.w 10 (.w 11 .nil)))))))))))) mixed (by kernel_rfl) ?_
 simp -implicitDefEqProofs (maxSteps:=2000000) only [go_sem,↓reduceIte,r2,n2,k1,k2,q1,Int.toNat_natCast]
 refine (clone_ok T h2 _ (l.take k) ((s.bel B2).fore hk c) (by rw [List.length_take]; omega)).use ?_
 rintro w3 h3 ⟨o3,b3⟩
 obtain ⟨p3,c3,rfl,_⟩:=o3.open
 have s3:=b3.size
 have z3:=b3.get (by omega) z2
 have hlt3:h.size+1<h3.size:=by omega
 have y3:=wr_get z3 0
 simp -implicitDefEqProofs (maxSteps:=2000000) only [go_sem,↓reduceIte,b3,y3,hlt3]
 refine ⟨⟨r,k,0,_,rfl,?_,hk,q0⟩,(B2.trans (b3.mono (by omega))).addSet (by omega) _⟩
 exact (o3.setLow (by omega) _).mono (by omega)
def opnPl (rc:List Nat):List Nat:=takeS (cliS (rc.getD 0 0)) (rc.drop 1)
def cmdI (l:List Nat) (i:Nat):Int:=((be4 l (4*i):Nat):Int)
def opnA (PL:List Nat) (now:Int):Int:=alErr ((PL.take 22).getD 0 0:Nat) ((PL.take 22).getD 1 0:Nat) (be4 (PL.take 22) 2:Nat) (cmdI (PL.drop 22) 0) (cmdI (PL.drop 22) 1) (cmdI (PL.drop 22) 2) (cmdI (PL.drop 22) 3) (cmdI (PL.drop 22) 4) now
def opnE4 (PL:List Nat) (X:Nat) (now:Int):Int:=if cmdI (PL.drop 22) 0≠0∧cmdI (PL.drop 22) 1≠(X:Nat) then 11 else opnA PL now
def opnE3 (PL:List Nat) (X:Nat) (now:Int):Int:=if decErr (PL.drop 22)≠0 then decErr (PL.drop 22) else opnE4 PL X now
def opnE2 (PL:List Nat) (X:Nat) (now:Int):Int:=if prvErr issS (PL.take 22)≠0 then prvErr issS (PL.take 22) else opnE3 PL X now
def opnE1 (PL:List Nat) (X:Nat) (now:Int):Int:=if PL.length≠42 then 3 else opnE2 PL X now
def opnE0 (te:Int) (PL:List Nat) (X:Nat) (now:Int):Int:=if te≠0 then te else opnE1 PL X now
def opnErr (rc:List Nat) (now:Int):Int:=
 if rc.length=0 then 13 else if keyErr (rc.getD 0 0:Nat)≠0 then keyErr (rc.getD 0 0:Nat) else
 opnE0 (takeErr (cliS (rc.getD 0 0)) 0 0 noSeen (rc.drop 1)) (opnPl rc) (rc.getD 0 0) now
def opnC (rc:List Nat) (now:Int):List Value:=if opnErr rc now=0 then cmdC (cmdI ((opnPl rc).drop 22) 0) (cmdI ((opnPl rc).drop 22) 1) (cmdI ((opnPl rc).drop 22) 2) (cmdI ((opnPl rc).drop 22) 3) (cmdI ((opnPl rc).drop 22) 4) else cmdZ
theorem prvT_cells {key l:List Nat} (h:prvErr key l=0):prvT key l=[.int .i64 (l.getD 0 0:Nat),.int .i64 (l.getD 1 0:Nat),.int .i64 (be4 l 2:Nat)]:=by unfold prvT; rw [if_pos h]; rfl
theorem prvT_none {key l:List Nat} (h:¬ prvErr key l=0):prvT key l=[.int .i64 0,.int .i64 0,.int .i64 0]:=by unfold prvT; rw [if_neg h]; rfl
theorem decC_some {l:List Nat} (h:decErr l=0):decC l=[.int .i64 (cmdI l 0),.int .i64 (cmdI l 1),.int .i64 (cmdI l 2),.int .i64 (cmdI l 3),.int .i64 (cmdI l 4)]:=by unfold decC; rw [if_pos h]; rfl
theorem decC_zero {l:List Nat} (h:¬ decErr l=0):decC l=[.int .i64 0,.int .i64 0,.int .i64 0,.int .i64 0,.int .i64 0]:=by unfold decC; rw [if_neg h]; rfl
theorem opnC_zero {rc:List Nat} {now:Int} (h:¬ opnErr rc now=0):opnC rc now=[.int .i64 0,.int .i64 0,.int .i64 0,.int .i64 0,.int .i64 0]:=by unfold opnC; rw [if_neg h]; rfl
theorem opnC_some {rc:List Nat} {now:Int} (h:opnErr rc now=0):opnC rc now=[.int .i64 (cmdI ((opnPl rc).drop 22) 0),.int .i64 (cmdI ((opnPl rc).drop 22) 1),.int .i64 (cmdI ((opnPl rc).drop 22) 2),.int .i64 (cmdI ((opnPl rc).drop 22) 3),.int .i64 (cmdI ((opnPl rc).drop 22) 4)]:=by unfold opnC; rw [if_pos h]; rfl
set_option maxHeartbeats 2000000 in
theorem open2_ok (T:World) (h:Hp) (v:Value) (rc:List Nat) (now:Int) (s:Bs h v rc) (hcap:Cap v) (hrl:rc.length≤140737488355328) (tk:Tk h) (tn:Tab 0 niv needN h) :
  CallsH Tryz.prog T 35 #[v,.int .i64 now] h fun v' h'=>v'=.tuple [.agg (opnC rc now).toArray,.int .i64 (opnErr rc now)].toArray∧Bel h.size h h':=by
 obtain ⟨p,c,rfl,_⟩:=s.open
 have hc0:rc.length≤c:=hcap
 refine CallsH.of_code2 (args:=[_,_]) Tryz.func35 rfl rfl rfl rfl ?_
 simp -implicitDefEqProofs (maxSteps:=2000000) only [go_sem,↓reduceIte]
 obtain ⟨h0,hh0⟩:∃ h0:Hp,h0=h.push (.cells [.int .i64 0,.int .i64 0,.int .i64 0,.int .i64 0,.int .i64 0].toArray 77):=⟨_,rfl⟩
 have b0:Bel h.size h h0:=by rw [hh0]; exact (Bel.refl _ _).add _
 have s0:h0.size=h.size+1:=by rw [hh0]; simp
 have z0:h0[h.size]? = some (.cells [.int .i64 0,.int .i64 0,.int .i64 0,.int .i64 0,.int .i64 0].toArray 77):=by rw [hh0]; exact get_push_last
 have e0:h.push (.cells #[Value.int .i64 0,.int .i64 0,.int .i64 0,.int .i64 0,.int .i64 0] 77)=h0:=hh0.symm
 have e0':h.push (.cells [Value.int .i64 0,.int .i64 0,.int .i64 0,.int .i64 0,.int .i64 0].toArray 77)=h0:=hh0.symm
 first | rw [e0] | rw [e0']
 clear e0 e0' hh0
 have fin:∀ (G:Hp) (w:List Value),w.length=5→w.all oneC=true→G[h.size]? = some (.cells [.int .i64 0,.int .i64 0,.int .i64 0,.int .i64 0,.int .i64 0].toArray 77)→wr G ⟨h.size,0,none⟩ w=some (G.setIfInBounds h.size (.cells w.toArray 77)):=by
  intro G w h3 h1 hx
  rw [wr_get (b:=h.size) hx 0 w,lput_full (by rw [h3]; rfl),if_pos ⟨by rw [h3]; simp,h1⟩]
 by_cases l0:rc.length=0
 case pos=>
  have l0':(rc.length:Int)=0:=by omega
  have ee:=show opnErr rc now=13 by unfold opnErr; rw [if_pos l0]
  rw [opnC_zero (by rw [ee]; exact (by decide)),ee]
  have yz:=fin h0 [.int .i64 0,.int .i64 0,.int .i64 0,.int .i64 0,.int .i64 0] rfl rfl z0
  have hz:=lt_of_get z0
  simp -implicitDefEqProofs (maxSteps:=2000000) only [go_sem,↓reduceIte,l0',yz,hz]
  try exact (b0).addSet (Nat.le_refl _) _
 have l0':¬ (rc.length:Int)=0:=by omega
 have n0:(0:Int)<(rc.length:Int):=by omega
 have n1:(1:Int)≤(rc.length:Int):=by omega
 obtain ⟨q',d',hv,hh⟩:=(s.bel b0).opend
 simp only [Value.slice.injEq,true_and] at hv
 obtain ⟨rfl,rfl⟩:=hv
 obtain ⟨bb,oo,rfl,hbb,hcs⟩:=hh (by intro e; subst e; simp at l0)
 have x0:=hcs 0 (by omega)
 rw [Nat.add_zero] at x0
 have hx0:=getD_byte s.byte 0
 obtain ⟨X,hX⟩:∃ X,X=rc.getD 0 0:=⟨_,rfl⟩
 rw [← hX] at x0 hx0
 obtain ⟨PL,hPL⟩:∃ PL,PL=takeS (cliS X) (rc.drop 1):=⟨_,rfl⟩
 obtain ⟨te,hte⟩:∃ te,te=takeErr (cliS X) 0 0 noSeen (rc.drop 1):=⟨_,rfl⟩
 have ePL:opnPl rc=PL:=by rw [hPL,hX]; rfl
 have E00:opnErr rc now=if keyErr (X:Nat)≠0 then keyErr (X:Nat) else opnE0 te PL X now:=by
  unfold opnErr
  rw [if_neg l0,← hX,← hte,ePL]
 simp -implicitDefEqProofs (maxSteps:=2000000) only [go_sem,↓reduceIte,l0',n0,x0]
 refine (mootKey_ok T h0 _ (tk.bels b0)).use ?_
 rintro _ h1 ⟨⟨w1,rfl,k1,o1,f1⟩,b1⟩
 have B1:=b0.trans (b1.mono b0.size)
 have s1:=b1.size
 have z1:=b1.get (by omega) z0
 by_cases ke:keyErr (X:Nat)=0
 case neg=>
  generalize keyErr (X:Nat)=KE at *
  have ee:=show opnErr rc now=KE by rw [E00,if_pos ke]
  rw [opnC_zero (by rw [ee]; exact ke),ee]
  have yz:=fin h1 [.int .i64 0,.int .i64 0,.int .i64 0,.int .i64 0,.int .i64 0] rfl rfl z1
  have hz:=lt_of_get z1
  simp -implicitDefEqProofs (maxSteps:=2000000) only [go_sem,↓reduceIte,ke,yz,hz]
  try exact (B1).addSet (Nat.le_refl _) _
 have E0:opnErr rc now=opnE0 te PL X now:=by rw [E00,if_neg (fun hn=>hn ke)]
 rw [ke,if_pos rfl,Int.toNat_natCast] at o1
 rw [ke]
 have x7:X≤7:=by unfold keyErr at ke; split at ke <;> omega
 obtain ⟨p1,c1,rfl,hc1⟩:=o1.open
 have lk:=cliS_length X
 obtain ⟨P1,hP1⟩:∃ P1,P1=if c=1 then some (⟨bb,oo,none⟩:Addr) else some ⟨bb,oo+1,none⟩:=⟨_,rfl⟩
 have sD:Bs h1 (.slice P1 (rc.length - 1) (c - 1)) (rc.drop 1):=by
  have sb1:=(s.bel b0).bel b1
  by_cases hc:c=1
  ·have hl1:rc.length=1:=by omega
   have hd:rc.drop 1=[]:=List.drop_eq_nil_of_le (by omega)
   rw [hd,hl1,hc]
   exact ⟨(Own.nil' 0 0 1 h1 P1).sl,fun x hx=>by cases hx⟩
  ·rw [hP1,if_neg hc]
   exact bs_cutF sb1 (k:=1) (by omega) rfl _
 have capD:Cap (.slice P1 (rc.length - 1) (c - 1)):=by show rc.length - 1≤c - 1; omega
 have htk:CallsH Tryz.prog T 53 #[.agg #[.slice p1 (cliS X).length c1,.int .i64 0,.int .i64 0,.bool false,.bool false,.bool false,.bool false,.bool false,.bool false,.bool false,.bool false],.slice P1 (rc.length - 1) (c - 1)] h1 fun v' h'=>TakeRes h1.size h' v' (cliS X) 0 0 noSeen (rc.drop 1)∧Bel h1.size h1 h':=lineTake_ok T h1 _ _ (cliS X) (rc.drop 1) 0 0 noSeen rfl o1 sD k1 capD
 simp -implicitDefEqProofs (maxSteps:=2000000) only [go_sem,↓reduceIte,n1]
 try rw [← hP1]
 refine htk.use ?_
 rintro _ h2 ⟨⟨cw,w2,rfl,⟨w3,rfl,o3⟩,o2⟩,b2⟩
 rw [← hte] at o2 o3 ⊢
 rw [← hPL] at o2
 have B2:=B1.trans (b2.mono B1.size)
 have s2:=b2.size
 have z2:=b2.get (by omega) z1
 obtain ⟨CC,hCC⟩:∃ CC,CC=chanC w3 (if te=0 then 0 else 0) (if te=0 then max 0 (((rec4 (rc.drop 1):Nat):Int)+1) else 0) (if te=0 then seenT 0 noSeen (rec4 (rc.drop 1)) else noSeen):=⟨_,rfl⟩
 obtain ⟨p3,c3,rfl,_⟩:=o3.open
 have lsn:(if te=0 then seenT 0 noSeen (rec4 (rc.drop 1)) else noSeen).length=8:=by
  split
  ·exact seenOf_length _ _
  ·rfl
 have hCl:CC.length=11:=by rw [hCC]; exact chanC_length _ _ _ _ lsn
 have hCo:CC.all oneC=true:=by rw [hCC]; exact chanC_one _ _ _
 have hCp:lput [Value.slice none 0 0,.int .i64 0,.int .i64 0,.bool false,.bool false,.bool false,.bool false,.bool false,.bool false,.bool false,.bool false] 0 CC=CC:=lput_full (by rw [hCl]; rfl)
 have hCle:CC.length≤11:=by omega
 rw [← hCC]
 obtain ⟨h3,hh3⟩:∃ h3:Hp,h3=h2.push (.cells CC.toArray 138):=⟨_,rfl⟩
 have b3:Bel h2.size h2 h3:=by rw [hh3]; exact Bel.push (Nat.le_refl _) _
 have s3:h3.size=h2.size+1:=by rw [hh3]; simp
 have z3:=b3.get (by omega) z2
 have B3:=B2.trans (b3.mono B2.size)
 have o23:=o2.bel b3 (Nat.le_refl _)
 obtain ⟨p2,c2,rfl,hc2⟩:=o2.open
 have yz2:=fin h2 [.int .i64 0,.int .i64 0,.int .i64 0,.int .i64 0,.int .i64 0] rfl rfl z2
 have hne2:¬ h.size=h2.size:=by omega
 have hlt2:h.size<h2.size:=by omega
 by_cases te0:te=0
 case neg=>
  have ee:opnErr rc now=te:=by rw [E0]; unfold opnE0; rw [if_pos te0]
  rw [opnC_zero (by rw [ee]; exact te0),ee]
  simp -implicitDefEqProofs (maxSteps:=2000000) only [go_sem,↓reduceIte,hCl,hCo,hCp,hCle,te0,yz2,hne2,hlt2]
  try exact (B2.addSet (Nat.le_refl _) _).addP (by simp; omega) _
 have E1:opnErr rc now=opnE1 PL X now:=by rw [E0]; unfold opnE0; rw [if_neg (fun hn=>hn te0)]
 rw [if_pos te0] at o23 hc2
 try simp only [if_pos te0]
 by_cases l42:PL.length=42
 case neg=>
  have l42':¬ (PL.length:Int)=42:=by omega
  have ee:opnErr rc now=3:=by rw [E1]; unfold opnE1; rw [if_pos l42]
  rw [opnC_zero (by rw [ee]; decide),ee]
  simp -implicitDefEqProofs (maxSteps:=2000000) only [go_sem,↓reduceIte,hCl,hCo,hCp,hCle,te0,l42',yz2,hne2,hlt2]
  try exact (B2.addSet (Nat.le_refl _) _).addP (by simp; omega) _
 have l42':(PL.length:Int)=42:=by omega
 have E2:opnErr rc now=opnE2 PL X now:=by rw [E1]; unfold opnE1; rw [if_neg (fun hn=>hn l42)]
 simp -implicitDefEqProofs (maxSteps:=2000000) only [go_sem,↓reduceIte,hCl,hCo,hCp,hCle,te0,l42']
 rw [← hh3]
 clear hh3 hCC o2 o3 hte
 have n22:(22:Int)≤(c2:Int):=by omega
 have sPL:=o23.bs
 have sT:Bs h3 (.slice p2 22 c2) (PL.take 22):=sPL.fore (by omega) c2
 have cT:Cap (.slice p2 22 c2):=by show 22≤c2; omega
 obtain ⟨PE,hPE⟩:∃ PE,PE=prvErr issS (PL.take 22):=⟨_,rfl⟩
 obtain ⟨tc,tr,tu,hT,hTok⟩:∃ tc tr tu:Int,prvT issS (PL.take 22)=[.int .i64 tc,.int .i64 tr,.int .i64 tu]∧(PE=0→tc=((PL.take 22).getD 0 0:Nat)∧tr=((PL.take 22).getD 1 0:Nat)∧tu=(be4 (PL.take 22) 2:Nat)):=by
  rw [hPE]
  by_cases q:prvErr issS (PL.take 22)=0
  ·exact ⟨_,_,_,prvT_cells q,fun _=>⟨rfl,rfl,rfl⟩⟩
  ·exact ⟨_,_,_,prvT_none q,fun hn=>(q hn).elim⟩
 have tk3:=tk.bels B3
 try simp -implicitDefEqProofs (maxSteps:=2000000) only [go_sem,↓reduceIte,l42']
 refine VS.mono (N:=fun F' g'=>Bel h3.size h3 g'∧F' 0=.slice (some ⟨bb,oo,none⟩) rc.length c∧F' 1=.int .i64 now∧F' 4=.pointer (some ⟨h.size,0,none⟩)∧F' 9=.slice p2 PL.length c2∧F' 7=.int .i64 PE∧∃ A,h3.size≤A∧F' 10=.pointer (some ⟨A,0,none⟩)∧g'[A]? = some (.cells [.int .i64 tc,.int .i64 tr,.int .i64 tu].toArray 134)) ?_ ?_ (fun _ _ _ h=>h) (fun _ _ h=>h)
 ·refine VS.w (h3.size) [] (.q 1 (.q 2 (.or 0 (.or 3 (.q 4 (.q 5 (.q 6 (.s 7 (.s 8 (.q 9 .nil)))))) (.s 7 (.s 3 (.q 4 (.q 5 (.q 6 (.s 8 (.q 9 .nil)))))))) (.s 7 (.s 0 (.s 3 (.q 4 (.q 5 (.q 6 (.s 8 (.q 9 .nil))))))))))) mixed (by kernel_rfl) ?_
  simp -implicitDefEqProofs (maxSteps:=2000000) only [go_sem,↓reduceIte,n22]
  have zt:∀ (G:Hp) (k:Nat) (w:List Value),w.length=3→w.all oneC=true→G[k]? = some (.cells [.int .i64 0,.int .i64 0,.int .i64 0].toArray 134)→wr G ⟨k,0,none⟩ w=some (G.setIfInBounds k (.cells w.toArray 134)):=by
   intro G k w h3 h1 hx
   rw [wr_get (b:=k) hx 0 w,lput_full (by rw [h3]; rfl),if_pos ⟨by rw [h3]; simp,h1⟩]
  refine ⟨?_,?_⟩
  ·refine (issuer_ok T h3 tk3).use ?_
   rintro w4 h4 ⟨⟨k4,o4⟩,b4⟩
   have s4:=b4.size
   simp -implicitDefEqProofs (maxSteps:=2000000) only [go_sem,↓reduceIte,b4,n22]
   refine ⟨?_,?_⟩
   ·refine (prove_ok T h4 _ _ issS (PL.take 22) o4 (sT.bel b4) cT (tk3.bels b4)).use ?_
    rintro _ h5 ⟨rfl,b5⟩
    have s5:=b5.size
    have b35:Bel h3.size h3 h5:=b4.trans (b5.mono s4)
    rw [hT,← hPE]
    simp -implicitDefEqProofs (maxSteps:=2000000) only [go_sem,↓reduceIte,b35]
    exact ⟨_,by omega,rfl,get_push_last⟩
   ·have bp:Bel h4.size h4 (h4.push (.cells [.int .i64 0,.int .i64 0,.int .i64 0].toArray 134)):=Bel.push (Nat.le_refl _) _
    have bp3:Bel h3.size h3 (h4.push (.cells [.int .i64 0,.int .i64 0,.int .i64 0].toArray 134)):=b4.trans (bp.mono s4)
    first | refine ⟨bp3,?_⟩ | skip
    refine (prove_ok T (h4.push (.cells [.int .i64 0,.int .i64 0,.int .i64 0].toArray 134)) _ _ issS (PL.take 22) (o4.bel bp) ((sT.bel b4).bel bp) cT ((tk3.bels b4).bels bp)).use ?_
    rintro _ h5 ⟨rfl,b5⟩
    have s5:=b5.size
    have b35:Bel h3.size h3 h5:=bp3.trans (b5.mono (by simp; omega))
    have xA:=b5.get (by simp) get_push_last
    have yA:=zt h5 h4.size [.int .i64 tc,.int .i64 tr,.int .i64 tu] rfl rfl xA
    have hz:=lt_of_get xA
    rw [hT,← hPE]
    simp -implicitDefEqProofs (maxSteps:=2000000) only [go_sem,↓reduceIte,b35,yA,hz]
    first
     | exact ⟨b35.addSet (by omega) _,b35.addSet (by omega) _,_,by omega,rfl,get_set xA⟩
     | exact ⟨b35.addSet (by omega) _,_,by omega,rfl,get_set xA⟩
     | exact ⟨_,by omega,rfl,get_set xA⟩
  ·have bp3:Bel h3.size h3 (h3.push (.cells [.int .i64 0,.int .i64 0,.int .i64 0].toArray 134)):=Bel.push (Nat.le_refl _) _
   first | refine ⟨bp3,?_⟩ | skip
   refine (issuer_ok T (h3.push (.cells [.int .i64 0,.int .i64 0,.int .i64 0].toArray 134)) (tk3.bels bp3)).use ?_
   rintro w4 h4 ⟨⟨k4,o4⟩,b4⟩
   have s4:=b4.size
   have b34:Bel h3.size h3 h4:=bp3.trans (b4.mono (by simp))
   simp -implicitDefEqProofs (maxSteps:=2000000) only [go_sem,↓reduceIte,b34,n22]
   refine (prove_ok T h4 _ _ issS (PL.take 22) o4 (sT.bel b34) cT (tk3.bels b34)).use ?_
   rintro _ h5 ⟨rfl,b5⟩
   have s5:=b5.size
   have b35:Bel h3.size h3 h5:=b34.trans (b5.mono b34.size)
   have xA:=b5.get (by simp at s4; omega) (b4.get (by simp) get_push_last)
   have yA:=zt h5 h3.size [.int .i64 tc,.int .i64 tr,.int .i64 tu] rfl rfl xA
   have hz:=lt_of_get xA
   rw [hT,← hPE]
   simp -implicitDefEqProofs (maxSteps:=2000000) only [go_sem,↓reduceIte,b35,yA,hz]
   first
    | exact ⟨b35.addSet (by omega) _,b35.addSet (by omega) _,_,by omega,rfl,get_set xA⟩
    | exact ⟨b35.addSet (by omega) _,_,by omega,rfl,get_set xA⟩
    | exact ⟨_,by omega,rfl,get_set xA⟩
 rintro F h6 ⟨b6,f0,f1,f4,f9,f7,A,hA3,f10,t6⟩
 have hA6:=lt_of_get t6
 have z6:=b6.get (by omega) z3
 have B6:=B3.trans (b6.mono B3.size)
 by_cases pe:PE=0
 case neg=>
  have ee:=show opnErr rc now=PE by rw [E2]; unfold opnE2; rw [← hPE,if_pos pe]
  rw [opnC_zero (by rw [ee]; exact pe),ee]
  have yz:=fin h6 [.int .i64 0,.int .i64 0,.int .i64 0,.int .i64 0,.int .i64 0] rfl rfl z6
  have hz:=lt_of_get z6
  simp -implicitDefEqProofs (maxSteps:=2000000) only [go_sem,↓reduceIte,f0,f1,f4,f9,f7,f10,pe,yz,hz]
  try exact (B6).addSet (Nat.le_refl _) _
 have E3:opnErr rc now=opnE3 PL X now:=by rw [E2]; unfold opnE2; rw [← hPE,if_neg (fun hn=>hn pe)]
 obtain ⟨rfl,rfl,rfl⟩:=hTok pe
 have n42:(22:Int)≤(PL.length:Int):=by omega
 obtain ⟨q2,d2,hv2,hh2⟩:=sPL.opend
 simp only [Value.slice.injEq,true_and] at hv2
 obtain ⟨rfl,rfl⟩:=hv2
 obtain ⟨b22,o22,rfl,_,_⟩:=hh2 (by intro e; rw [e] at l42; cases l42)
 have d22:¬ c2=22:=by omega
 have sB:=bs_cutF (sPL.bel b6) (k:=22) (by omega) rfl (c2 - 22)
 simp -implicitDefEqProofs (maxSteps:=2000000) only [go_sem,↓reduceIte,f0,f1,f4,f9,f7,f10,pe,n42,d22]
 refine (decode_ok T h6 _ (PL.drop 22) sB (by rw [List.length_drop]; omega)).use ?_
 rintro _ h7 ⟨rfl,b7⟩
 have s7:=b7.size
 have z7:=b7.get (by omega) z6
 have t7:=b7.get hA6 t6
 have B7:=B6.trans (b7.mono B6.size)
 obtain ⟨DE,hDE⟩:∃ DE,DE=decErr (PL.drop 22):=⟨_,rfl⟩
 have hne:¬ h.size=h7.size:=by omega
 have hlt7:h.size<h7.size:=by omega
 by_cases de:DE=0
 case neg=>
  have ee:opnErr rc now=DE:=by rw [E3]; unfold opnE3; rw [← hDE,if_pos de]
  rw [opnC_zero (by rw [ee]; exact de),ee,decC_zero (by rw [← hDE]; exact de),← hDE]
  have yz:=fin h7 [.int .i64 0,.int .i64 0,.int .i64 0,.int .i64 0,.int .i64 0] rfl rfl z7
  simp -implicitDefEqProofs (maxSteps:=2000000) only [go_sem,↓reduceIte,f0,f1,f4,f9,f7,f10,de,yz,hne,hlt7]
  try exact (B7.addSet (Nat.le_refl _) _).addP (by simp; omega) _
 have E4:opnErr rc now=opnE4 PL X now:=by rw [E3]; unfold opnE3; rw [← hDE,if_neg (fun hn=>hn de)]
 rw [decC_some (by rw [← hDE]; exact de),← hDE,de]
 have eA:opnA PL now=alErr ((PL.take 22).getD 0 0:Nat) ((PL.take 22).getD 1 0:Nat) (be4 (PL.take 22) 2:Nat) (cmdI (PL.drop 22) 0) (cmdI (PL.drop 22) 1) (cmdI (PL.drop 22) 2) (cmdI (PL.drop 22) 3) (cmdI (PL.drop 22) 4) now:=rfl
 have eC:opnErr rc now=0→opnC rc now=[.int .i64 (cmdI (PL.drop 22) 0),.int .i64 (cmdI (PL.drop 22) 1),.int .i64 (cmdI (PL.drop 22) 2),.int .i64 (cmdI (PL.drop 22) 3),.int .i64 (cmdI (PL.drop 22) 4)]:=fun e=>by rw [opnC_some e,ePL]
 have e4:opnE4 PL X now=if cmdI (PL.drop 22) 0≠0∧cmdI (PL.drop 22) 1≠(X:Nat) then 11 else opnA PL now:=rfl
 generalize cmdI (PL.drop 22) 0=y0 at *
 generalize cmdI (PL.drop 22) 1=y1 at *
 generalize cmdI (PL.drop 22) 2=y2 at *
 generalize cmdI (PL.drop 22) 3=y3 at *
 generalize cmdI (PL.drop 22) 4=y4 at *
 obtain ⟨h8,hh8⟩:∃ h8:Hp,h8=h7.push (.cells [.int .i64 y0,.int .i64 y1,.int .i64 y2,.int .i64 y3,.int .i64 y4].toArray 77):=⟨_,rfl⟩
 have e8:h7.push (.cells #[Value.int .i64 y0,.int .i64 y1,.int .i64 y2,.int .i64 y3,.int .i64 y4] 77)=h8:=hh8.symm
 try simp -implicitDefEqProofs (maxSteps:=2000000) only [go_sem,↓reduceIte,f0,f1,f4,f9,f7,f10,de]
 rw [e8]
 have b8:Bel h7.size h7 h8:=by rw [hh8]; exact Bel.push (Nat.le_refl _) _
 have s8:h8.size=h7.size+1:=by rw [hh8]; simp
 have c8:h8[h7.size]? = some (.cells [.int .i64 y0,.int .i64 y1,.int .i64 y2,.int .i64 y3,.int .i64 y4].toArray 77):=by rw [hh8]; exact get_push_last
 clear e8 hh8
 have z8:=b8.get (by omega) z7
 have t8:=b8.get (by omega) t7
 have B8:=B7.trans (b8.mono B7.size)
 have k80:V.hc h8 ⟨h7.size,0,none⟩=some (.int .i64 y0):=by rw [hc_last c8]; rfl
 have k81:V.hc h8 ⟨h7.size,1,none⟩=some (.int .i64 y1):=by rw [hc_last c8]; rfl
 have rT8:rd h8 ⟨A,0,none⟩ 3=_:=rd_last t8 rfl
 have rC8:rd h8 ⟨h7.size,0,none⟩ 5=_:=rd_last c8 rfl
 have b18:Bel h1.size h1 h8:=(b2.trans ((b3.mono s2).trans ((b6.mono (by omega)).trans ((b7.mono (by omega)).trans (b8.mono (by omega))))))
 have x8:V.hc h8 ⟨bb,oo,none⟩=some (.int .u8 (X:Nat)):=by
  rw [b18.hc (by show bb<h1.size; omega),b1.hc (by exact hbb)]; exact x0
 have yz8:=fin h8 [.int .i64 0,.int .i64 0,.int .i64 0,.int .i64 0,.int .i64 0] rfl rfl z8
 have yc8:=fin h8 [.int .i64 y0,.int .i64 y1,.int .i64 y2,.int .i64 y3,.int .i64 y4] rfl rfl z8
 have hz8:=lt_of_get z8
 refine VS.mono (N:=fun F' g'=>g'=h8∧F' 0=.slice (some ⟨bb,oo,none⟩) rc.length c∧F' 1=.int .i64 now∧F' 4=.pointer (some ⟨h.size,0,none⟩)∧F' 10=.pointer (some ⟨A,0,none⟩)∧F' 11=.pointer (some ⟨h7.size,0,none⟩)∧F' 78=.bool (decide (y0≠0∧y1≠(X:Nat)))) ?_ ?_ (fun _ _ _ h=>h) (fun _ _ h=>h)
 ·refine VS.q mixed (by kernel_rfl) ?_
  by_cases w0:y0=0
  ·have hd:decide (y0≠0∧y1≠(X:Nat))=false:=decide_eq_false (fun hn=>hn.1 w0)
   rw [hd]
   simp -implicitDefEqProofs (maxSteps:=2000000) only [go_sem,↓reduceIte,f0,f1,f4,f9,f7,f10,k80,w0]
  ·by_cases w1:y1=(X:Nat)
   ·have hd:decide (y0≠0∧y1≠(X:Nat))=false:=decide_eq_false (fun hn=>hn.2 w1)
    rw [hd]
    simp -implicitDefEqProofs (maxSteps:=2000000) only [go_sem,↓reduceIte,f0,f1,f4,f9,f7,f10,k80,k81,x8,n0,w0,w1]
   ·have hd:decide (y0≠0∧y1≠(X:Nat))=true:=decide_eq_true ⟨w0,w1⟩
    rw [hd]
    simp -implicitDefEqProofs (maxSteps:=2000000) only [go_sem,↓reduceIte,f0,f1,f4,f9,f7,f10,k80,k81,x8,n0,w0,w1]
 rintro F' g8 ⟨hg8,g0,g1,g4,gt,gc,gb⟩
 rw [hg8]
 clear hg8
 by_cases wr':y0≠0∧y1≠(X:Nat)
 case pos=>
  have ee:opnErr rc now=11:=by rw [E4,e4,if_pos wr']
  rw [decide_eq_true wr'] at gb
  rw [opnC_zero (by rw [ee]; decide),ee]
  simp -implicitDefEqProofs (maxSteps:=2000000) only [go_sem,↓reduceIte,g4,gb,yz8,hz8]
  try exact B8.addSet (Nat.le_refl _) _
 have E5:opnErr rc now=opnA PL now:=by rw [E4,e4,if_neg wr']
 rw [decide_eq_false wr'] at gb
 have hal:CallsH Tryz.prog T 57 #[.agg #[.int .i64 ((PL.take 22).getD 0 0:Nat),.int .i64 ((PL.take 22).getD 1 0:Nat),.int .i64 (be4 (PL.take 22) 2:Nat)],.agg #[.int .i64 y0,.int .i64 y1,.int .i64 y2,.int .i64 y3,.int .i64 y4],.int .i64 now] h8 fun v' h'=>v'=.int .i64 (opnA PL now)∧Bel h8.size h8 h':=by
  rw [eA]
  exact allows_ok T h8 _ _ _ y0 y1 y2 y3 y4 now (tn.bels B8)
 simp -implicitDefEqProofs (maxSteps:=2000000) only [go_sem,↓reduceIte,g0,g1,g4,gt,gc,gb,rT8,rC8]
 refine hal.use ?_
 rintro _ h9 ⟨rfl,b9⟩
 have s9:=b9.size
 have z9:=b9.get (by omega) z8
 have c9:=b9.get (by omega) c8
 have rC9:rd h9 ⟨h7.size,0,none⟩ 5=_:=rd_last c9 rfl
 have B9:=B8.trans (b9.mono B8.size)
 have yz9:=fin h9 [.int .i64 0,.int .i64 0,.int .i64 0,.int .i64 0,.int .i64 0] rfl rfl z9
 have yc9:=fin h9 [.int .i64 y0,.int .i64 y1,.int .i64 y2,.int .i64 y3,.int .i64 y4] rfl rfl z9
 have hz9:=lt_of_get z9
 generalize opnA PL now=OA at *
 by_cases oa:OA=0
 ·have ee:opnErr rc now=0:=by rw [E5,oa]
  rw [eC ee,ee]
  simp -implicitDefEqProofs (maxSteps:=2000000) only [go_sem,↓reduceIte,g4,gc,oa,rC9,yc9,hz9]
  try exact B9.addSet (Nat.le_refl _) _
 ·rw [opnC_zero (by rw [E5]; exact oa),E5]
  simp -implicitDefEqProofs (maxSteps:=2000000) only [go_sem,↓reduceIte,g4,gc,oa,yz9,hz9]
  try exact B9.addSet (Nat.le_refl _) _
end Go.Proofs.YtnhbpmoeaodmnaaGreatDoor
