/- A vote, laid among votes that stand by slots: what the program computes; no condition but those in the statements. -/
import Derived.Test.YtkfhncfkagcamaaGreatDoorPik
import Derived.Test.YtkfhncfkagcamaaGreatDoorW21
import Derived.Test.YtkfhncfkagcamaaGreatDoorChw
import Derived.Test.YtkfhncfkagcamaaGreatDoorTape
import Derived.Test.YtkfhncfkagcamaaGreatDoorVst
import Derived.Test.YtkfhncfkagcamaaGreatDoorTakf
import Derived.Test.YtkfhncfkagcamaaGreatDoorPak
import Derived.Test.YtkfhncfkagcamaaGreatDoorTab
namespace Go.Proofs.YtkfhncfkagcamaaGreatDoor
open Go Go.V
set_option linter.unusedSimpArgs false
set_option linter.unusedVariables false
set_option maxRecDepth 100000
theorem Hw (T:World) (h:Hp) (x y:Vt):Zd Tryz.prog T 140 #[.agg (Zm x).toArray,.agg (Zm y).toArray] h fun v' h'=>v'=.int .i64 (SQ x.slot y.slot)∧Ze h.size h h':=by
 refine Zd.Zi (args:=[_,_]) Tryz.func140 rfl rfl rfl rfl ?_
 unfold Zm
 simp -implicitDefEqProofs only[go_sem,↓reduceIte]
 refine (WU T _ _ _).pure ?_
 simp -implicitDefEqProofs only[go_sem,↓reduceIte]
 (repeat' (first|exact Ze.refl _ _|assumption|refine Ze.add ?_ _|refine Ze.Zk ?_ (by first|omega|(simp;omega)) _|refine Ze.trans (by assumption) ?_))
def Found (l:List Vt) (s:Int) (i:Nat) (b:Bool):Prop:=(b=true∧∃hi:i<l.length,l[i].slot=s)∨(b=false∧(∀j (hj:j<l.length),j<i→l[j].slot<s)∧∀j (hj:j<l.length),i≤j→s<l[j].slot)
theorem DA (a b:Int):SQ a b<0↔a<b:=by unfold SQ;split<;>(try split)<;>omega
theorem Hx (a b:Int):SQ a b=0↔a=b:=by unfold SQ;split<;>(try split)<;>omega
theorem nx {x:Nat}:Xa .u64 (x:Int) 1=((x/2:Nat):Int):=by
 rw[show (1:Int)=((1:Nat):Int) from rfl,Sx .u64 x 1 (by decide),Nat.shiftRight_eq_div_pow]
theorem AV (T:World) (h:Hp) (u:Value) (l:List Vt) (v:Vt) (s:Ts Zm 8 h u l) (hs:zT l) (hl:l.length≤2199023255552) :
  Zd Tryz.prog T 139 #[u,.agg (Zm v).toArray,.func (.func 140) #[] #[]] h fun v' h'=>(∃(i:Nat) (b:Bool),i≤l.length∧v'=.tuple [.int .i64 i,.bool b].toArray∧Found l v.slot i b)∧Ze h.size h h':=by
 obtain⟨p,c,rfl,Yx⟩:=QR s
 refine Zd.Zi (args:=[_,_,_]) Tryz.func139 rfl rfl rfl rfl ?_
 unfold Zm
 simp -implicitDefEqProofs only[go_sem,↓reduceIte]
 refine VS.ZU (fun F g=>Ze h.size h g∧g[h.size]? = some (.cells (Zm v).toArray 161)∧F 0=.slice p l.length c∧F 2=.func (.func 140) #[] #[]∧F 4=.pointer (some ⟨h.size,0,none⟩)∧F 8=.int .i64 l.length∧∃i j:Nat,i≤j∧j≤l.length∧F 9=.int .i64 i∧F 10=.int .i64 j∧(∀k (hk:k<l.length),k<i→l[k].slot<v.slot)∧(∀k (hk:k<l.length),j≤k→v.slot≤l[k].slot))
  (fun F _=>(vi (F 10)).toNat-(vi (F 9)).toNat) rfl ⟨(Ze.refl _ _).add _,Zb,rfl,rfl,rfl,rfl,0,l.length,by omega,by omega,rfl,rfl,fun k _ hk=>by omega,fun k hk Pv=>by omega⟩ ?_
 rintro F g ⟨hg,hx,f0,f2,f4,f8,i,j,ji,hj,f9,f10,lo,hi⟩
 have S8:=hg.size
 have hz:=Za hx
 have rx:rd g ⟨h.size,0,none⟩ 8=some (Zm v):=Zo hx rfl
 unfold Zm at rx
 by_cases ZA:i<j
 ·have ZH:(i:Int)<j:=by omega
  have e1:(i:Int)+(j:Int)=((i+j:Nat):Int):=by omega
  have e2:((i+j:Nat):Int)%18446744073709551616=((i+j:Nat):Int):=by omega
  have e3:=nx (x:=i+j)
  obtain⟨m,hm⟩:=Zu ((i+j)/2)
  rw[←hm]at e3
  have jv:m<l.length:=by omega
  have Zny:(m:Int)<l.length:=by omega
  obtain⟨bb,oo,rfl,Ut,_,Yx⟩:=Yx (by intro e;rw[e]at jv;simp at jv)
  have rm:rd g ⟨bb,oo+m*8,none⟩ 8=some (Zm l[m]):=by rw[XB hg (by exact Ut)];exact Yx m jv
  obtain⟨y,hy⟩:=Zu (l[m])
  rw[←hy]at rm
  unfold Zm at rm
  simp -implicitDefEqProofs only[go_sem,↓reduceIte,f9,f10,ZH,e1,e2,e3]
  refine VS.w (g.size) [] (.q 0 (.q 1 (.q 2 (.q 3 (.q 4 (.q 5 (.s 6 (.q 7 .nil)))))))) mixed (by kernel_rfl) ?_
  have q1:bb<g.size:=by omega
  simp -implicitDefEqProofs only[go_sem,↓reduceIte,f0,f2,f4,Zny,rm,rx,hz,q1]
  refine (Hw T g y v).use ?_
  rintro _ g1 ⟨rfl,b1⟩
  have Om:=hg.trans (b1.mono S8)
  have Qm:=b1.get hz hx
  by_cases q:y.slot<v.slot
  ·have q':=(DA _ _).2 q
   simp -implicitDefEqProofs only[go_sem,↓reduceIte,q',f0,f2,f4,f8,f9,f10]
   refine⟨b1,⟨Om,Qm,f0,f2,f4,f8,m+1,j,by omega,hj,rfl,f10,fun k hk hkm=>?_,hi⟩,?_⟩
   ·by_cases e:k=m
    ·subst e;rw[←hy];exact q
    ·have:=hs k m hk jv (by omega);rw[←hy]at this;omega
   ·simp only[vi,Zh,↓reduceIte,Nat.reduceEqDiff,f9,f10];omega
  ·have q':¬SQ y.slot v.slot<0:=fun h=>q ((DA _ _).1 h)
   simp -implicitDefEqProofs only[go_sem,↓reduceIte,q',f0,f2,f4,f8,f9,f10]
   refine⟨b1,⟨Om,Qm,f0,f2,f4,f8,i,m,by omega,by omega,f9,rfl,lo,fun k hk hkm=>?_⟩,?_⟩
   ·by_cases e:k=m
    ·subst e;rw[←hy];omega
    ·have:=hs m k jv hk (by omega);rw[←hy]at this;omega
   ·simp only[vi,Zh,↓reduceIte,Nat.reduceEqDiff,f9,f10];omega
 ·have ZH:¬(i:Int)<j:=by omega
  obtain rfl:i=j:=by omega
  by_cases CM:i<l.length
  ·have ny:(i:Int)<l.length:=by omega
   obtain⟨bb,oo,rfl,Ut,_,Yx⟩:=Yx (by intro e;rw[e]at CM;simp at CM)
   have rm:rd g ⟨bb,oo+i*8,none⟩ 8=some (Zm l[i]):=by rw[XB hg (by exact Ut)];exact Yx i CM
   have YE:=hi i CM (Nat.le_refl _)
   obtain⟨y,hy⟩:=Zu (l[i])
   rw[←hy]at rm YE
   unfold Zm at rm
   simp -implicitDefEqProofs only[go_sem,↓reduceIte,f9,f10,ZH]
   refine VS.w (g.size) [] (.q 0 (.q 1 (.q 2 (.q 3 (.q 4 (.q 5 (.q 6 (.q 7 (.q 8 (.q 9 (.q 10 (.s 11 (.q 12 (.q 13 (.q 14 (.q 15 .nil)))))))))))))))) mixed (by kernel_rfl) ?_
   have q1:bb<g.size:=by omega
   simp -implicitDefEqProofs only[go_sem,↓reduceIte,f0,f2,f4,f8,f9,f10,ny,rm,rx,hz,q1]
   refine (Hw T g y v).use ?_
   rintro _ g1 ⟨rfl,b1⟩
   have Om:=hg.trans (b1.mono S8)
   by_cases q:y.slot=v.slot
   ·have q':=(Hx _ _).2 q
    simp -implicitDefEqProofs only[go_sem,↓reduceIte,q']
    exact⟨b1,⟨i,true,by omega,rfl,.inl ⟨rfl,CM,by rw[←hy];exact q⟩⟩,Om⟩
   ·have q':¬SQ y.slot v.slot=0:=fun h=>q ((Hx _ _).1 h)
    simp -implicitDefEqProofs only[go_sem,↓reduceIte,q']
    refine⟨b1,⟨i,false,by omega,rfl,.inr ⟨rfl,fun k hk hkm=>lo k hk hkm,fun k hk hkm=>?_⟩⟩,Om⟩
    by_cases e:k=i
    ·subst e;rw[←hy];omega
    ·have:=hs i k CM hk (by omega);rw[←hy]at this;omega
  ·have ny:¬(i:Int)<l.length:=by omega
   simp -implicitDefEqProofs only[go_sem,↓reduceIte,f9,f10,ZH]
   refine VS.w (g.size) [] (.q 0 (.q 1 (.q 2 (.q 3 (.q 4 (.q 5 (.q 6 (.q 7 (.q 8 (.q 9 (.q 10 (.s 11 (.q 12 (.q 13 (.q 14 (.q 15 .nil)))))))))))))))) mixed (by kernel_rfl) ?_
   simp -implicitDefEqProofs only[go_sem,↓reduceIte,f0,f2,f4,f8,f9,f10,ny]
   exact⟨⟨i,false,by omega,rfl,.inr ⟨rfl,fun k hk hkm=>lo k hk hkm,fun k hk hkm=>by omega⟩⟩,hg⟩
theorem Xy (l:List Vt):(Zz Zm l).length=l.length*8:=Jw (n:=8) (fun _=>rfl) l
theorem DB (l:List Vt):(Zz Zm l).all Z5=true:=by
 induction l with
 | nil=>rfl
 | cons x l ih=>rw[Zz,List.all_append,ih];rfl
theorem zeroV (k:Nat):(Builtin.zeroCells (rep 8 [Value.int .i64 0]).toArray k).toList.length=k*8:=by rw[Array.length_toList,YA];rfl
theorem gL (k:Nat):(Builtin.zeroCells (rep 8 [Value.int .i64 0]).toArray k).toList.all Z5=true:=by
 unfold Builtin.zeroCells
 rw[List.all_eq_true]
 intro x hx
 simp only[Array.toList_map,Array.toList_range,List.mem_map]at hx
 obtain⟨j,_,rfl⟩:=hx
 have:j%8<8:=Nat.mod_lt _ (by decide)
 show Z5 ((rep 8 [Value.int .i64 0]).toArray[j%8]!)=true
 rcases (by omega:j%8=0∨j%8=1∨j%8=2∨j%8=3∨j%8=4∨j%8=5∨j%8=6∨j%8=7) with e|e|e|e|e|e|e|e<;>rw[e]<;>rfl
theorem Kg:Extern.findNext Tryz.f154=none∧Extern.find Tryz.f154=some (Extern.SlicesOverlaps.overlaps #[129,129] #[4]):=⟨by kernel_rfl,by kernel_rfl⟩
theorem gM (T:World) (h:Hp) (B:Nat) (p:Option Addr) (cap i:Nat) (l:List Vt) (x:Vt) (bv:Nat) (own:Jh B 161 Zm 8 h (.slice p l.length cap) l) (hB:B≤h.size) (hi:i≤l.length) (hl:l.length≤1000000)
  (hx:h[bv]? = some (.cells (Zm x).toArray 161)) (Yr:cap≠0→∀b o,p=some ⟨b,o,none⟩→b≠bv) :
  Zd Tryz.prog T 142 #[.slice p l.length cap,.int .i64 i,.slice (some ⟨bv,0,none⟩) 1 1] h fun v' h'=>Jh B 161 Zm 8 h' v' (l.take i++x :: l.drop i)∧Ze B h h':=by
 refine Zd.Zi (args:=[_,_,_]) Tryz.func142 rfl rfl rfl rfl ?_
 have wu:l.length≤cap:=by
  obtain⟨_,_,e,h⟩:=own.open
  simp only[Value.slice.injEq]at e
  omega
 have n1:(0:Int)≤(i:Int):=by omega
 have n2:(i:Int)≤(l.length:Int):=by omega
 have sx:Ts Zm 8 h (.slice (some ⟨bv,0,none⟩) 1 1) [x]:=⟨by
  have:=UM (pre:=[]) (cs:=Zm x) (post:=[]) (m:=1) (n:=8) (c:=1) (by rw[List.append_nil,List.nil_append];exact hx) rfl rfl
  simpa [Zz] using this⟩
 by_cases hin:i=l.length
 ·subst hin
  have k1:((1:Nat):Int)=1:=rfl
  by_cases c0:cap=0
  ·obtain rfl:l=[]:=List.eq_nil_of_length_eq_zero (by omega)
   subst c0
   rw[List.length_nil]at own ⊢
   have k0:((0:Nat):Int)=0:=rfl
   simp -implicitDefEqProofs only[go_sem,↓reduceIte,k0,k1]
   refine Sy (E:=161) (B:=B) (n:=8) (bytes:=64) TU Tryz.underlying129 PB bT rfl bQ (fun _=>rfl) own hB sx (by simp only[List.length_singleton,List.length_nil];omega) (by omega) ?_
   intro v' h' ho hb _
   simp -implicitDefEqProofs only[go_sem,↓reduceIte]
   exact⟨ho,hb⟩
  ·obtain⟨b,spare,MF,rfl,hg,_,SY,_⟩:=own.own.spare c0
   have hz:(l.length:Int)≤(l.length:Int):=Int.le_refl _
   simp -implicitDefEqProofs only[go_sem,↓reduceIte,n1,n2,k1,Int.toNat_natCast]
   refine Sy (E:=161) (B:=B) (n:=8) (bytes:=64) TU Tryz.underlying129 PB bT rfl bQ (fun _=>rfl) own hB sx (by simp only[List.length_singleton];omega) (by omega) ?_
   intro v' h' ho hb _
   simp -implicitDefEqProofs only[go_sem,↓reduceIte]
   rw[List.take_length,List.drop_length]
   exact⟨ho,hb⟩
 have CM:i<l.length:=by omega
 have bJ:¬(i:Int)=(l.length:Int):=by omega
 have c0:cap≠0:=by omega
 obtain⟨b,spare,MF,rfl,hg,_,SY,_⟩:=own.own.spare c0
 have hbv:b≠bv:=Yr c0 b 0 rfl
 have et:l=l.take i++(l[i] :: l.drop (i+1)):=by
  conv=>lhs;rw[←List.take_append_drop i l,List.drop_eq_getElem_cons CM]
 have ed:Zz Zm (l.drop i)=Zm l[i]++Zz Zm (l.drop (i+1)):=by
  rw[List.drop_eq_getElem_cons CM];rfl
 have ee:Zz Zm l=Zz Zm (l.take i)++Zz Zm (l.drop i):=by rw[←Ye,List.take_append_drop]
 have lt:(Zz Zm (l.take i)).length=i*8:=by rw[Xy,List.length_take];congr 1;omega
 have ld:(Zz Zm (l.drop i)).length=(l.length-i)*8:=by rw[Xy,List.length_drop]
 have Zfa:Zz Zm (l.take i++x :: l.drop i)=Zz Zm (l.take i)++(Zm x++Zz Zm (l.drop i)):=by rw[Ye];rfl
 have uo:(l.take i++x :: l.drop i).length=l.length+1:=by rw[List.length_append,List.length_take,List.length_cons,List.length_drop];omega
 have c1:¬cap=i:=by omega
 have m1:(l.length:Int)+1=((l.length+1:Nat):Int):=by omega
 have m2:((l.length+1:Nat):Int)-(i:Int)=((l.length+1-i:Nat):Int):=by omega
 have m3:(i:Int)+1=((i+1:Nat):Int):=by omega
 have k1:((1:Nat):Int)=1:=rfl
 by_cases Jg:cap<l.length+1
 ·have DC:(cap:Int)<((l.length+1:Nat):Int):=by omega
  have n3:(i:Int)≤(cap:Int):=by omega
  simp -implicitDefEqProofs only[go_sem,↓reduceIte,n1,n2,n3,k1,bJ,m1,DC,m2,Int.toNat_natCast]
  have Znz:Ql B 161 8 h (.slice (some ⟨b,0,none⟩) i cap) i (Zz Zm (l.take i)):=by
   have:=own.own.TN hi
   rw[ee,List.take_left' lt]at this
   exact this
  refine Gs (E:=161) (B:=B) (n:=8) (m:=i) (k:=l.length+1-i) (bytes:=64) (zs:=rep 8 [Value.int .i64 0]) TU Tryz.underlying3 PB bT rfl (by decide) bQ Znz hB (gL _) (by omega) (by omega) ?_
  intro w g ow _ AW
  obtain⟨hbg,c2,rfl⟩:=AW _ _ rfl (by omega)
  obtain⟨Z,hZ⟩:=Zu ((Builtin.zeroCells (rep 8 [Value.int .i64 0]).toArray (l.length+1-i)).toList)
  have lZ:=zeroV (l.length+1-i)
  rw[←hZ]at ow lZ
  have ec:i+(l.length+1-i)=l.length+1:=by omega
  rw[ec]at ow ⊢
  rcases ow with⟨_,h0,_⟩|⟨b2,Zzd,xH,_,ng,QD,_,hs2,I4⟩
  ·omega
  simp only[Value.slice.injEq,Option.some.injEq,Addr.mk.injEq,true_and,and_true]at ng
  obtain⟨rfl,rfl⟩:=ng
  have d1:¬c2=i:=by omega
  have d2:(i:Int)≤((l.length+1:Nat):Int):=by omega
  have qB:=Za hg
  have nz:=Za hx
  have cR:g[b]? = _:=hbg.get qB hg
  have hgv:g[bv]? = _:=hbg.get nz hx
  have sx1:Sl 8 g (.slice (some ⟨bv,0,none⟩) 1 1) 1 (Zm x):=UM (pre:=[]) (post:=[]) (by rw[List.append_nil,List.nil_append];exact hgv) rfl rfl
  have nA:min 1 (l.length+1-i)=1:=by omega
  have eZ:Zz Zm (l.take i)++Z++xH=Zz Zm (l.take i)++(Z.take 8++(Z.drop 8++xH)):=by rw[List.append_assoc,←List.append_assoc (Z.take 8),List.take_append_drop]
  have lz8:(Z.take 8).length=8:=by rw[List.length_take];omega
  have ldz:(Z.drop 8).length=(l.length-i)*8:=by rw[List.length_drop];omega
  have ec1:Yl (Zz Zm (l.take i)++Z++xH) (i*8) ((Zm x).take (1*8))=(Zz Zm (l.take i)++Zm x)++(Z.drop 8++xH):=by
   rw[show (Zm x).take (1*8)=Zm x from rfl,eZ,Wt lt.symm (by rw[lz8];rfl),List.append_assoc]
  simp -implicitDefEqProofs only[go_sem,↓reduceIte,n1,d1,d2,Int.toNat_natCast,Nat.zero_add]
  refine Oz (E:=161) (n:=8) TU PB QD sx1 rfl ?_ ?_
  ·rw[nA,List.length_append,List.length_append,lt,lZ];omega
  rw[nA,ec1]
  obtain⟨g2,Kh⟩:=Zu (g.setIfInBounds h.size (.cells ((Zz Zm (l.take i)++Zm x)++(Z.drop 8++xH)).toArray 161):Hp)
  rw[←Kh]
  have g2n:g2[h.size]? = some (.cells ((Zz Zm (l.take i)++Zm x)++(Z.drop 8++xH)).toArray 161):=by rw[Kh];exact Zw QD
  have g2b:g2[b]? = some (.cells (Zz Zm (l.take i)++(Zz Zm (l.drop i)++spare)).toArray 161):=by rw[Kh,Yh (by omega),cR,ee,List.append_assoc]
  have uq:Ze h.size h g2:=by rw[Kh];exact hbg.Zk (Nat.le_refl _) _
  clear Kh
  have m4:(i:Int)+1=((i+1:Nat):Int):=by omega
  have d3:¬c2=i+1:=by omega
  have d4:((i+1:Nat):Int)≤((l.length+1:Nat):Int):=by omega
  have d5:(0:Int)≤((i+1:Nat):Int):=by omega
  simp -implicitDefEqProofs only[go_sem,↓reduceIte]
  refine VS.w (h.size) [8] (.q 0 (.q 1 (.q 2 (.q 3 (.q 4 (.q 5 (.q 6 (.q 7 (.w 8 .nil))))))))) mixed (by kernel_rfl) ?_
  simp -implicitDefEqProofs only[go_sem,↓reduceIte,n1,n2,m4,k1,d3,d4,d5,c1,Int.toNat_natCast,Nat.zero_add]
  have ss:Sl 8 g2 (.slice (some ⟨b,i*8,none⟩) (l.length-i) (cap-i)) (l.length-i) (Zz Zm (l.drop i)):=UM g2b ld lt.symm
  have min2:min (l.length-i) (l.length+1-(i+1))=l.length-i:=by omega
  have etk:(Zz Zm (l.drop i)).take ((l.length-i)*8)=Zz Zm (l.drop i):=List.take_of_length_le (by omega)
  have ec2:Yl ((Zz Zm (l.take i)++Zm x)++(Z.drop 8++xH)) ((i+1)*8) ((Zz Zm (l.drop i)).take ((l.length-i)*8))=Zz Zm (l.take i++x :: l.drop i)++xH:=by
   rw[etk,Wt (by rw[List.length_append,lt];show (i+1)*8=i*8+8;omega) (by rw[ld,ldz]),Zfa]
   simp only[List.append_assoc]
  refine Oz (E:=161) (n:=8) TU PB g2n ss (DB _) ?_ ?_
  ·rw[min2,List.length_append,List.length_append,List.length_append,lt,ldz];show _≤i*8+8+_;omega
  rw[min2,ec2]
  simp -implicitDefEqProofs only[go_sem,↓reduceIte]
  refine⟨⟨?_⟩,(uq.Zk (Nat.le_refl _) _).mono hB⟩
  rw[uo]
  exact Ql.BI hB (Zw g2n) (by rw[Xy,uo]) hs2 I4
 ·have DC:¬(cap:Int)<((l.length+1:Nat):Int):=by omega
  have Zfc:((l.length+1:Nat):Int)≤(cap:Int):=by omega
  have n4:(0:Int)≤((l.length+1:Nat):Int):=by omega
  have m4:(i:Int)+1=((i+1:Nat):Int):=by omega
  have d4:((i+1:Nat):Int)≤((l.length+1:Nat):Int):=by omega
  have d5:(0:Int)≤((i+1:Nat):Int):=by omega
  have d3:¬cap=i+1:=by omega
  simp -implicitDefEqProofs only[go_sem,↓reduceIte,n1,n2,n4,k1,c1,bJ,m1,DC,Zfc,m4,d3,d4,d5,Int.toNat_natCast,Nat.zero_add]
  have gB:h[b]? = some (.cells (Zz Zm l++spare).toArray 161 (0,0)):=hg
  have gA:h[bv]? = some (.cells (Zm x).toArray 161 (0,0)):=hx
  have lsp:8≤spare.length:=by
   rw[SY]
   have:=Nat.mul_le_mul_right 8 (show 1≤cap-l.length by omega)
   omega
  refine Gt Tryz.func154 (by decide) rfl Kg.1 Kg.2 ?_
  refine Gq (size:=8) Tryz.underlying129 PB (fun e=>hbv e.symm) gA gB (by intro e;have:=congrArg List.length e;rw[List.length_append,List.length_nil]at this;omega) ?_
  simp -implicitDefEqProofs only[go_sem,↓reduceIte]
  refine VS.w (B) [8] (.q 0 (.q 1 (.q 2 (.q 3 (.q 4 (.q 5 (.q 6 (.q 7 (.w 8 .nil))))))))) mixed (by kernel_rfl) ?_
  simp -implicitDefEqProofs only[go_sem,↓reduceIte,n1,n2,m4,k1,d3,d4,d5,c1,Int.toNat_natCast,Nat.zero_add]
  have ss:Sl 8 h (.slice (some ⟨b,i*8,none⟩) (l.length+1-i) (cap-i)) (l.length+1-i) (Zz Zm (l.drop i)++spare.take 8):=UM (post:=spare.drop 8) (by rw[hg,ee,List.append_assoc,List.append_assoc,List.take_append_drop]) (by rw[List.length_append,ld,List.length_take];omega) lt.symm
  have min2:min (l.length+1-i) (l.length+1-(i+1))=l.length-i:=by omega
  have etk:(Zz Zm (l.drop i)++spare.take 8).take ((l.length-i)*8)=Zz Zm (l.drop i):=List.take_left' ld
  have ld1:(Zz Zm (l.drop (i+1))).length=(l.length-(i+1))*8:=by rw[Xy,List.length_drop]
  have ecc:Zz Zm l++spare=(Zz Zm (l.take i)++Zm l[i])++((Zz Zm (l.drop (i+1))++spare.take 8)++spare.drop 8):=by
   rw[ee,ed]
   simp only[List.append_assoc,List.take_append_drop]
  have ec1:Yl (Zz Zm l++spare) ((i+1)*8) (Zz Zm (l.drop i))=Zz Zm (l.take i)++(Zm l[i]++(Zz Zm (l.drop i)++spare.drop 8)):=by
   rw[ecc,Wt (by rw[List.length_append,lt];show (i+1)*8=i*8+8;omega) (by rw[ld,List.length_append,ld1,List.length_take];omega),List.append_assoc]
  refine fu (E:=161) (n:=8) TU PB gB ss (by rw[min2,etk];exact DB _) ?_ ?_
  ·rw[min2,List.length_append,Xy];omega
  rw[min2,etk,ec1]
  obtain⟨g2,Kh⟩:=Zu (h.setIfInBounds b (.cells (Zz Zm (l.take i)++(Zm l[i]++(Zz Zm (l.drop i)++spare.drop 8))).toArray 161):Hp)
  rw[←Kh]
  have g2n:g2[b]? = some (.cells (Zz Zm (l.take i)++(Zm l[i]++(Zz Zm (l.drop i)++spare.drop 8))).toArray 161):=by rw[Kh];exact Zw hg
  have g2v:g2[bv]? = some (.cells (Zm x).toArray 161):=by rw[Kh,Yh hbv];exact hx
  have uq:Ze B h g2:=by rw[Kh];exact Ze.set MF _
  clear Kh
  have sx1:Sl 8 g2 (.slice (some ⟨bv,0,none⟩) 1 1) 1 (Zm x):=UM (pre:=[]) (post:=[]) (by rw[List.append_nil,List.nil_append];exact g2v) rfl rfl
  have nA:min 1 (l.length+1-i)=1:=by omega
  have ec2:Yl (Zz Zm (l.take i)++(Zm l[i]++(Zz Zm (l.drop i)++spare.drop 8))) (i*8) ((Zm x).take (1*8))=Zz Zm (l.take i++x :: l.drop i)++spare.drop 8:=by
   rw[show (Zm x).take (1*8)=Zm x from rfl,Wt lt.symm (show (Zm x).length=(Zm l[i]).length from rfl),Zfa]
   simp only[List.append_assoc]
  simp -implicitDefEqProofs only[go_sem,↓reduceIte,n1,n2,m4,k1,d3,d4,d5,c1,Int.toNat_natCast,Nat.zero_add]
  refine Oz (E:=161) (n:=8) TU PB g2n sx1 rfl ?_ ?_
  ·rw[nA,List.length_append,List.length_append,lt];show i*8+1*8≤i*8+(8+_);omega
  rw[nA,ec2]
  simp -implicitDefEqProofs only[go_sem,↓reduceIte]
  refine⟨⟨?_⟩,uq.trans (Ze.set MF _)⟩
  rw[uo]
  exact Ql.BI MF (Zw g2n) (by rw[Xy,uo]) (by rw[List.length_drop,SY];omega) (by omega)
theorem ur {l:List Vt} (hs:zT l) (hm:∀x∈l,Yb x):∀i (hi:i<l.length),(i:Int)≤l[i].slot:=by
 intro i
 induction i with
 | zero=>intro hi;have:=(hm _ (List.getElem_mem hi)).1.1;omega
 | succ i ih=>
  intro hi
  have h1:=ih (by omega)
  have h2:=hs i (i+1) (by omega) hi (by omega)
  omega
theorem uw {l:List Vt} (hs:zT l) (hm:∀x∈l,Yb x):l.length≤40:=by
 by_cases h:l.length≤40
 ·exact h
 ·have h1:=ur hs hm 40 (by omega)
  have h2:=(hm _ (List.getElem_mem (show 40<l.length by omega))).1.2
  omega
def YX (p:XO) (l:List Vt) (x:Vt):Int:=if XE p l≠0 then 5 else if ¬Yb x then 2 else if below x.b p then 7 else 0
def cV (B:Nat) (h':Hp) (v':Value) (p:XO) (l:List Vt) (x:Vt):Prop:=∃w,v'=.tuple [.agg (YJ (if YX p l x=0 then x.b else ⟨0,0⟩) w).toArray,.int .i64 (YX p l x)].toArray ∧
 Jh B 161 Zm 8 h' w (if YX p l x=0 then QF l x else [])
theorem OP (T:World) (h:Hp) (p:XO) (u:Value) (l:List Vt) (x:Vt) (s:Ts Zm 8 h u l) (hl:l.length≤2199023255552) :
  Zd Tryz.prog T 116 #[.agg (YJ p u).toArray,.agg (Zm x).toArray] h fun v' h'=>cV h.size h' v' p l x∧Ze h.size h h':=by
 obtain⟨pu,cu,rfl,_⟩:=QR s
 refine Zd.XM (args:=[_,_]) Tryz.func116 rfl rfl rfl rfl ?_
 unfold YJ Zm
 simp -implicitDefEqProofs only[go_sem,↓reduceIte]
 obtain⟨h0,XR⟩:=Zu (((h.push (.cells (YJ p (.slice pu l.length cu)).toArray 131)).push (.cells (Zm x).toArray 161)).push (.cells [.int .i64 0,.int .i64 0,.slice none 0 0].toArray 131):Hp)
 have b0:Ze h.size h h0:=by rw[XR];exact (((Ze.refl _ _).add _).add _).add _
 have s0:h0.size=h.size+3:=by rw[XR];simp
 have x0:h0[h.size]? = some (.cells (YJ p (.slice pu l.length cu)).toArray 131):=by
  rw[XR,Array.getElem?_push,if_neg (by simp;omega),Array.getElem?_push,if_neg (by simp),Zb]
 have y0:h0[h.size+1]? = some (.cells (Zm x).toArray 161):=by
  rw[XR,Array.getElem?_push,if_neg (by simp),Array.getElem?_push,if_pos (by simp)]
 have z0:h0[h.size+2]? = some (.cells [.int .i64 0,.int .i64 0,.slice none 0 0].toArray 131):=by
  rw[XR,Array.getElem?_push,if_pos (by simp)]
 have e0:((h.push (.cells #[Value.int .i64 p.r,.int .i64 p.n,.slice pu l.length cu] 131)).push (.cells #[Value.int .i64 x.slot,.int .i64 x.b.r,.int .i64 x.b.n,.int .i64 x.k,.int .i64 x.c,.int .i64 x.s,.int .i64 x.nm,.int .i64 x.v] 161)).push (.cells #[Value.int .i64 0,.int .i64 0,.slice none 0 0] 131)=h0:=XR.symm
 rw[e0]
 clear e0 XR
 refine (Rc T h0 p _ l (s.Z4 b0) (by omega)).use ?_
 rintro _ h1 ⟨rfl,b1⟩
 have s1:=b1.size
 have B1:Ze h.size h h1:=b0.trans (b1.mono (by omega))
 have x1:=b1.get (by omega) x0
 have y1:=b1.get (by omega) y0
 have z1:=b1.get (by omega) z0
 have fin:∀(G:Hp) (w:List Value),w.length=3→w.all Z5=true→G[h.size+2]? = some (.cells [.int .i64 0,.int .i64 0,.slice none 0 0].toArray 131)→wr G ⟨h.size+1+1,0,none⟩ w=some (G.setIfInBounds (h.size+1+1) (.cells w.toArray 131)):=by
  intro G w h3 h1 hx
  rw[ZP (b:=h.size+1+1) hx 0 w,ZK (by rw[h3];rfl),if_pos ⟨by rw[h3];simp,h1⟩]
 have nC:h.size+2<h1.size:=by omega
 unfold cV
 rcases Nx p l with e0|e0
 case inr=>
  have e:YX p l x=5:=by unfold YX;rw[if_pos (by rw[e0];decide)]
  have w2:=fin h1 [.int .i64 0,.int .i64 0,.slice none 0 0] rfl rfl z1
  simp -implicitDefEqProofs only[go_sem,↓reduceIte,e0,e,w2,nC]
  exact⟨⟨_,rfl,Jh.nil _ _ _ _ _⟩,B1.Zk (by omega) _⟩
 have r1:rd h1 ⟨h.size+1,0,none⟩ 8=some (Zm x):=Zo y1 rfl
 unfold Zm at r1
 simp -implicitDefEqProofs only[go_sem,↓reduceIte,e0,r1]
 refine (MK T h1 x).use ?_
 rintro _ h2 ⟨rfl,b2⟩
 have s2:=b2.size
 have B2:=B1.trans (b2.mono (by omega))
 have x2:=b2.get (by omega) x1
 have y2:=b2.get (by omega) y1
 have z2:=b2.get (by omega) z1
 have RD:h.size+2<h2.size:=by omega
 by_cases q1:Yb x
 case neg=>
  have e:YX p l x=2:=by unfold YX;rw[if_neg (by rw[e0];decide),if_pos q1]
  have w2:=fin h2 [.int .i64 0,.int .i64 0,.slice none 0 0] rfl rfl z2
  simp -implicitDefEqProofs only[go_sem,↓reduceIte,q1,e,w2,RD]
  exact⟨⟨_,rfl,Jh.nil _ _ _ _ _⟩,B2.Zk (by omega) _⟩
 have rb:rd h2 ⟨h.size+1,1,none⟩ 2=some [.int .i64 x.b.r,.int .i64 x.b.n]:=by rw[Z0 y2 (by simp[Zm])];rfl
 have rp:rd h2 ⟨h.size,0,none⟩ 2=some [.int .i64 p.r,.int .i64 p.n]:=by rw[Z0 x2 (by simp[YJ])];rfl
 simp -implicitDefEqProofs only[go_sem,↓reduceIte,q1,rb,rp]
 refine (UZ T h2 x.b p).use ?_
 rintro _ h3 ⟨rfl,b3⟩
 have s3:=b3.size
 have B3:=B2.trans (b3.mono (by omega))
 have x3:=b3.get (by omega) x2
 have y3:=b3.get (by omega) y2
 have z3:=b3.get (by omega) z2
 have fK:h.size+2<h3.size:=by omega
 by_cases q2:below x.b p
 case pos=>
  have e:YX p l x=7:=by unfold YX;rw[if_neg (by rw[e0];decide),if_neg (fun h=>h q1),if_pos q2]
  have w2:=fin h3 [.int .i64 0,.int .i64 0,.slice none 0 0] rfl rfl z3
  have tq:OH x.b p<0:=(PK x.b p).2 q2
  simp -implicitDefEqProofs only[go_sem,↓reduceIte,tq,e,w2,fK]
  exact⟨⟨_,rfl,Jh.nil _ _ _ _ _⟩,B3.Zk (by omega) _⟩
 have e:YX p l x=0:=by unfold YX;rw[if_neg (by rw[e0];decide),if_neg (fun h=>h q1),if_neg q2]
 have tq:¬OH x.b p<0:=fun h=>q2 ((PK x.b p).1 h)
 have srt:=LV e0
 have few:=uw srt (Ao e0)
 have rv:hc h3 ⟨h.size,2,none⟩=some (.slice pu l.length cu):=by rw[Zg x3];rfl
 simp -implicitDefEqProofs only[go_sem,↓reduceIte,tq,rv]
 refine (WW T h3 _ l (s.Z4 B3) hl).use ?_
 rintro w4 h4 ⟨o4,b4⟩
 have s4:=b4.size
 have B4:=B3.trans (b4.mono (by omega))
 have y4:=b4.get (by omega) y3
 have z4:=b4.get (by omega) z3
 have r4:rd h4 ⟨h.size+1,0,none⟩ 8=some (Zm x):=Zo y4 rfl
 unfold Zm at r4
 simp -implicitDefEqProofs only[go_sem,↓reduceIte,r4]
 refine (AV T h4 w4 l x o4.ts srt hl).use ?_
 rintro _ h5 ⟨⟨i,b,hi,rfl,hf⟩,b5⟩
 have s5:=b5.size
 have B5:=B4.trans (b5.mono (by omega))
 have y5:=b5.get (by omega) y4
 have z5:=b5.get (by omega) z4
 have o5:=o4.Z4 b5 (Nat.le_refl _)
 have r5:rd h5 ⟨h.size+1,0,none⟩ 8=some (Zm x):=Zo y5 rfl
 unfold Zm at r5
 have n1:(0:Int)≤(i:Int):=by omega
 obtain⟨p4,c4,rfl,hc4⟩:=o4.open
 rcases hf with⟨rfl,CM,heq⟩|⟨rfl,hlo,hhi⟩
 ·have ny:(i:Int)<(l.length:Int):=by omega
  have c0:c4≠0:=by omega
  obtain⟨b,spare,MF,rfl,hg,_,SY,_⟩:=o5.own.spare c0
  have et:l=l.take i++(l[i] :: l.drop (i+1)):=by
   conv=>lhs;rw[←List.take_append_drop i l,List.drop_eq_getElem_cons CM]
  have es:l.set i x=l.take i++(x :: l.drop (i+1)):=by rw[List.set_eq_take_append_cons_drop,if_pos CM]
  have ee:Zz Zm l=Zz Zm (l.take i)++(Zm l[i]++Zz Zm (l.drop (i+1))):=by
   have:=congrArg (Zz Zm) et
   rw[Ye]at this
   exact this
  have ZnD:Zz Zm (l.set i x)=Zz Zm (l.take i)++(Zm x++Zz Zm (l.drop (i+1))):=by
   have:=congrArg (Zz Zm) es
   rw[Ye]at this
   exact this
  have lt:(Zz Zm (l.take i)).length=i*8:=by rw[Xy,List.length_take];congr 1;omega
  have hw:wr h5 ⟨b,i*8,none⟩ (Zm x)=some (h5.setIfInBounds b (.cells (Zz Zm (l.set i x)++spare).toArray 161)):=by
   have ll:=Xy l
   have hmul:i*8+8≤l.length*8:=by omega
   rw[ZP hg,if_pos ⟨by rw[List.length_append,ll];show i*8+8≤_;omega,rfl⟩,ee,List.append_assoc,List.append_assoc,Wt lt.symm (show (Zm x).length=(Zm l[i]).length from rfl),ZnD,List.append_assoc,List.append_assoc]
  have hbz:b<h5.size:=Za hg
  have Ds:¬h.size+1=b:=by omega
  have Zay:¬h.size+2=b:=by omega
  have rb5:rd h5 ⟨h.size+1,1,none⟩ 2=some [.int .i64 x.b.r,.int .i64 x.b.n]:=by rw[Z0 y5 (by simp[Zm])];rfl
  obtain⟨h6,nE⟩:=Zu (h5.setIfInBounds b (.cells (Zz Zm (l.set i x)++spare).toArray 161):Hp)
  rw[←nE]at hw
  unfold Zm at hw
  have y6:h6[h.size+1]? = some (.cells (Zm x).toArray 161):=by rw[nE,Yh (by omega)];exact y5
  have z6:h6[h.size+2]? = some (.cells [.int .i64 0,.int .i64 0,.slice none 0 0].toArray 131):=by rw[nE,Yh (by omega)];exact z5
  have B6:Ze h.size h h6:=by rw[nE];exact B5.Zk (by omega) _
  have o6:Jh (h.size+3) 161 Zm 8 h6 (.slice (some ⟨b,0,none⟩) l.length c4) (l.set i x):=by
   refine⟨?_⟩
   rw[List.length_set]
   exact Ql.BI (by omega) (by rw[nE];exact Zw hg) (by rw[Xy,List.length_set]) SY hc4
  have rb6:rd h6 ⟨h.size+1,1,none⟩ 2=some [.int .i64 x.b.r,.int .i64 x.b.n]:=by rw[Z0 y6 (by simp[Zm])];rfl
  have w6:=fin h6 [.int .i64 x.b.r,.int .i64 x.b.n,.slice (some ⟨b,0,none⟩) l.length c4] rfl rfl z6
  have ZnE:h.size+2<h6.size:=Za z6
  simp -implicitDefEqProofs only[go_sem,↓reduceIte,n1,ny,r5,Int.toNat_natCast,Nat.zero_add,hw,rb6,w6,ZnE,e]
  refine⟨⟨_,rfl,?_⟩,B6.Zk (by omega) _⟩
  rw[mH srt CM heq]
  exact (o6.ZQ (by omega) _).mono (by omega)
 ·have hn:QF l x=l.take i++x :: l.drop i:=mI srt hi hlo hhi
  simp -implicitDefEqProofs only[go_sem,↓reduceIte,r5]
  obtain⟨h6,nE⟩:=Zu (h5.push (.cells (Zm x).toArray 161):Hp)
  have e6:h5.push (.cells #[Value.int .i64 x.slot,.int .i64 x.b.r,.int .i64 x.b.n,.int .i64 x.k,.int .i64 x.c,.int .i64 x.s,.int .i64 x.nm,.int .i64 x.v] 161)=h6:=nE.symm
  rw[e6]
  have b6:Ze h5.size h5 h6:=by rw[nE];exact Ze.push (Nat.le_refl _) _
  have s6:h6.size=h5.size+1:=by rw[nE];simp
  have v6:h6[h5.size]? = some (.cells (Zm x).toArray 161):=by rw[nE];exact Zb
  clear e6 nE
  have B6:=B5.trans (b6.mono (by omega))
  have o6:=(o5.Z4 b6 (Nat.le_refl _)).mono (B':=h.size+3) (by omega)
  have Yr:c4≠0→∀b o,p4=some ⟨b,o,none⟩→b≠h5.size:=by
   intro c0 b o hp
   subst hp
   obtain⟨b',_,_,X3,Db,_⟩:=o5.own.spare c0
   simp only[Option.some.injEq,Addr.mk.injEq]at X3
   have:=Za Db
   omega
  refine (gM T h6 (h.size+3) p4 c4 i l x h5.size o6 (by omega) hi (by omega) v6 Yr).use ?_
  rintro w7 h7 ⟨o7,b7⟩
  obtain⟨p7,c7,rfl,_⟩:=o7.open
  have s7:=b7.size
  have B7:=B6.trans (b7.mono (by omega))
  have y7:=b7.get (by omega) (b6.get (by omega) y5)
  have z7:=b7.get (by omega) (b6.get (by omega) z5)
  have rb7:rd h7 ⟨h.size+1,1,none⟩ 2=some [.int .i64 x.b.r,.int .i64 x.b.n]:=by rw[Z0 y7 (by simp[Zm])];rfl
  obtain⟨L,hL⟩:=Zu (l.take i++x :: l.drop i)
  rw[←hL]at o7 hn ⊢
  have w7:=fin h7 [.int .i64 x.b.r,.int .i64 x.b.n,.slice p7 L.length c7] rfl rfl z7
  have L9:h.size+2<h7.size:=Za z7
  simp -implicitDefEqProofs only[go_sem,↓reduceIte,rb7,w7,L9,e]
  refine⟨⟨_,rfl,?_⟩,B7.Zk (by omega) _⟩
  rw[hn]
  exact (o7.ZQ (by omega) _).mono (by omega)
def Un (l:List Nat) (n:Int) (x:Vt):Int:=if ¬Y5 l n then 5 else if ¬Yb x then 2 else JD l n 33
def SU (x:Vt):List Nat:=2 :: (Zx [x.slot.toNat,x.b.r.toNat,x.b.n.toNat]++Zx [x.k.toNat,x.c.toNat,x.s.toNat,x.nm.toNat,x.v.toNat])
theorem AX (x:Vt):YX ⟨0,0⟩ [] x=if Yb x then 0 else 2:=by
 have e:XE ⟨0,0⟩ []=0:=rfl
 unfold YX
 rw[if_neg (by rw[e];decide)]
 by_cases q:Yb x
 ·rw[if_neg (fun hn=>hn q),if_pos q,if_neg]
  intro hb
  have q1:=q.2.1.1.1
  rcases hb with hb|⟨hb,_⟩<;>simp at hb<;>omega
 ·rw[if_pos q,if_neg q]
theorem nF (T:World) (h:Hp) (v:Value) (n:Int) (l:List Nat) (x:Vt) (s:Bs h v l) (hl:l.length≤140737488355328) (tk:Tk h) :
  Zd Tryz.prog T 129 #[.agg [v,.int .i64 n].toArray,.agg (Zm x).toArray] h fun v' h'=>Te h.size h' v' l n (Un l n x) (Y4 (SU x))∧Ze h.size h h':=by
 obtain⟨p,c,rfl,_⟩:=s.open
 refine Zd.Zi (args:=[_,_]) Tryz.func129 rfl rfl rfl rfl ?_
 unfold Te Zm
 simp -implicitDefEqProofs only[go_sem,↓reduceIte]
 obtain⟨h0,XR⟩:=Zu (((h.push (.cells [.slice p l.length c,.int .i64 n].toArray 126)).push (.cells (Zm x).toArray 161)).push (.cells [.slice none 0 0,.int .i64 0].toArray 126):Hp)
 have b0:Ze h.size h h0:=by rw[XR];exact (((Ze.refl _ _).add _).add _).add _
 have s0:h0.size=h.size+3:=by rw[XR];simp
 have t0:h0[h.size]? = some (.cells [.slice p l.length c,.int .i64 n].toArray 126):=by
  rw[XR,Array.getElem?_push,if_neg (by simp;omega),Array.getElem?_push,if_neg (by simp),Zb]
 have t1:h0[h.size+1]? = some (.cells (Zm x).toArray 161):=by
  rw[XR,Array.getElem?_push,if_neg (by simp),Array.getElem?_push,if_pos (by simp)]
 have x0:h0[h.size+2]? = some (.cells [.slice none 0 0,.int .i64 0].toArray 126):=by
  rw[XR,Array.getElem?_push,if_pos (by simp)]
 have e0:((h.push (.cells #[Value.slice p l.length c,.int .i64 n] 126)).push (.cells #[Value.int .i64 x.slot,.int .i64 x.b.r,.int .i64 x.b.n,.int .i64 x.k,.int .i64 x.c,.int .i64 x.s,.int .i64 x.nm,.int .i64 x.v] 161)).push (.cells #[Value.slice none 0 0,.int .i64 0] 126)=h0:=XR.symm
 rw[e0]
 clear e0 XR
 refine (Qc T h0 _ n l (s.Z4 b0) hl).use ?_
 rintro _ h1 ⟨b1,o1⟩
 have s1:=b1.size
 have B1:Ze h.size h h1:=b0.trans (b1.mono (by omega))
 have x1:=b1.get (by omega) x0
 by_cases ok:Y5 l n
 case neg=>
  have ee:Un l n x=5:=by unfold Un;rw[if_pos ok]
  rw[if_neg (show ¬(l.length≤100000∧0≤n∧n≤l.length) from ok)]at o1
  subst o1
  rw[ee]
  have y2:=ZP x1 0
  have ZA:h.size+2<h1.size:=by omega
  have Yr:¬h.size+2=h1.size:=by omega
  simp -implicitDefEqProofs only[go_sem,↓reduceIte,y2,Yr,ZA]
  exact⟨⟨_,rfl,Z1.nil _ _ _⟩,(B1.Zk (by omega) _).Yg (by simp;omega) _⟩
 rw[if_pos (show (l.length≤100000∧0≤n∧n≤l.length) from ok)]at o1
 obtain⟨w,rfl,o1⟩:=o1
 obtain⟨pw,cw,rfl,_⟩:=o1.open
 have bt1:=b1.get (by omega) t1
 have r1:rd h1 ⟨h.size+1,0,none⟩ 8=some (Zm x):=Zo bt1 rfl
 unfold Zm at r1
 have Ds:¬h.size+1=h1.size:=by omega
 simp -implicitDefEqProofs only[go_sem,↓reduceIte,r1,Ds]
 have b2:Ze h1.size h1 (h1.push (.cells [.slice pw l.length cw,.int .i64 n].toArray 126)):=Ze.push (Nat.le_refl _) _
 refine (OP T _ ⟨0,0⟩ (.slice none 0 0) [] x (Jh.nil 0 161 Zm 8 _).ts (by simp)).use ?_
 rintro _ h3 ⟨⟨w1,rfl,q1⟩,b3⟩
 have B3:Ze h1.size h1 h3:=b2.trans (b3.mono b2.size)
 rw[AX]at q1 ⊢
 obtain⟨p1,c1,ER,_⟩:=q1.open
 have s3:=B3.size
 have x3:=B3.get (by omega) x1
 have jt:=B1.trans (B3.mono (by omega))
 by_cases may:Yb x
 case neg=>
  have ee:Un l n x=2:=by unfold Un;rw[if_neg (fun hn=>hn ok),if_pos may]
  rw[if_neg may]at ER
  rw[ee,if_neg may]
  subst ER
  have y2:=ZP x3 0
  have ZA:h.size+2<h3.size:=by omega
  have Yr:¬h.size+2=h3.size:=by omega
  unfold YJ
  simp -implicitDefEqProofs only[go_sem,↓reduceIte,y2,Yr,ZA]
  exact⟨⟨_,rfl,Z1.nil _ _ _⟩,(jt.Zk (by omega) _).Yg (by simp;omega) _⟩
 have ee:Un l n x=JD l n 33:=by unfold Un;rw[if_neg (fun hn=>hn ok),if_neg (fun hn=>hn may)]
 rw[if_pos may]at ER
 rw[ee,if_pos may]
 obtain⟨⟨m1,m2⟩,⟨⟨m3,m4⟩,m5,m6⟩,mc⟩:=may
 obtain⟨xs,⟨br,bn⟩,xk,xc,xss,xn,xv⟩:=x
 simp only at m1 m2 m3 m4 m5 m6 mc
 obtain⟨k,c2,s2,nm,vv,rfl,rfl,rfl,rfl,rfl,_⟩:=Nr mc
 obtain⟨sl,rfl⟩:∃r:Nat,xs=r:=⟨xs.toNat,by omega⟩
 obtain⟨r,rfl⟩:∃r:Nat,br=r:=⟨br.toNat,by omega⟩
 obtain⟨m,rfl⟩:∃m:Nat,bn=m:=⟨bn.toNat,by omega⟩
 unfold SU
 rw[if_pos rfl]at ER
 subst ER
 unfold YJ
 have t3:=B3.get (by omega) (b1.get (by omega) t0)
 have t13:=B3.get (by omega) bt1
 have rc:rd h3 ⟨h.size+1,3,none⟩ 5=some (Qi k c2 s2 nm vv):=by rw[Z0 t13 (by simp[Zm])];rfl
 unfold Qi at rc
 have ZnF:¬h.size+1=h3.size:=by omega
 simp -implicitDefEqProofs only[go_sem,↓reduceIte,rc,ZnF]
 obtain⟨g0,xI⟩:=Zu (h3.push (.cells [.int .i64 (r:Nat),.int .i64 (m:Nat),.slice p1 (QF [] ⟨sl,⟨r,m⟩,k,c2,s2,nm,vv⟩).length c1].toArray 131):Hp)
 have e3:h3.push (.cells #[Value.int .i64 (r:Nat),.int .i64 (m:Nat),.slice p1 (QF [] ⟨sl,⟨r,m⟩,k,c2,s2,nm,vv⟩).length c1] 131)=g0:=xI.symm
 rw[e3]
 have bg0:Ze h3.size h3 g0:=by rw[xI];exact Ze.push (Nat.le_refl _) _
 have sg0:g0.size=h3.size+1:=by rw[xI];simp
 clear e3 xI
 refine (Hc T g0 k c2 s2 nm vv).use ?_
 rintro _ g ⟨⟨wc,rfl,sC⟩,zI⟩
 rw[mc,if_pos rfl]at sC
 simp only[Int.toNat_natCast]at sC ⊢
 rw[mc]
 have lC:(Zx [k,c2,s2,nm,vv]).length=20:=by rw[ZB];rfl
 generalize Zx [k,c2,s2,nm,vv]=CB at *
 obtain⟨pc,cc,rfl,_⟩:=sC.open
 have bg:Ze h3.size h3 g:=bg0.trans (zI.mono (by omega))
 have sg:h3.size+1≤g.size:=by have:=zI.size;omega
 have Bg:Ze h.size h g:=jt.trans (bg.mono (by omega))
 have x4g:=bg.get (by omega) x3
 have t4:=bg.get (by omega) t3
 have t14:=bg.get (by omega) t13
 have r0:rd g ⟨h.size,0,none⟩ 2=some [.slice p l.length c,.int .i64 n]:=Zo t4 rfl
 have c0:V.hc g ⟨h.size+1,0,none⟩=some (.int .i64 (sl:Nat)):=by rw[Zg t14];rfl
 have zQ:V.hc g ⟨h.size+1,1,none⟩=some (.int .i64 (r:Nat)):=by rw[Zg t14];rfl
 have tq:V.hc g ⟨h.size+1,2,none⟩=some (.int .i64 (m:Nat)):=by rw[Zg t14];rfl
 have k0:h.size<g.size:=by omega
 have k1:h.size+1<g.size:=by omega
 simp -implicitDefEqProofs only[go_sem,↓reduceIte]
 refine VS.w (g.size) [18,19] (.q 0 (.q 2 (.q 3 (.q 4 (.q 5 (.q 6 (.q 7 (.q 8 (.q 9 (.q 13 (.or 1 (.s 10 (.s 11 (.s 12 (.s 14 (.s 15 (.q 16 (.q 17 (.w 18 (.w 19 .nil))))))))) (.s 10 (.or 1 (.s 11 (.s 12 (.s 14 (.s 15 (.q 16 (.q 17 (.w 18 (.w 19 .nil)))))))) (.s 11 (.s 1 (.s 12 (.s 14 (.s 15 (.q 16 (.q 17 (.w 18 (.w 19 .nil)))))))))))))))))))))) mixed (by kernel_rfl) ?_
 simp -implicitDefEqProofs only[go_sem,↓reduceIte,r0,c0,zQ,tq,k0,k1]
 refine⟨?_,?_,?_⟩
 ·have o0:Z1 g.size 5 (g.push (.cells (([2]:List Nat).map bv).toArray 5)) (.slice (some ⟨g.size,0,none⟩) 1 1) [2]:=Z1.made (by decide) (Nat.le_refl _)
  have B0:Ze g.size g ((g.push (.cells (([2]:List Nat).map bv).toArray 5)).push (.cells (([sl,r,m]:List Nat).map nv).toArray 3)):=(Ze.push (Nat.le_refl _) _).Yg (by simp) _
  have o00:=o0.push (.cells (([sl,r,m]:List Nat).map nv).toArray 3)
  have si:NT ((g.push (.cells (([2]:List Nat).map bv).toArray 5)).push (.cells (([sl,r,m]:List Nat).map nv).toArray 3)) (.slice (some ⟨(g.push (.cells (([2]:List Nat).map bv).toArray 5)).size,0,none⟩) 3 3) [sl,r,m]:=UN _ _
  have e1:(g.push (.cells (([2]:List Nat).map bv).toArray 5)).size=g.size+1:=by simp
  rw[e1]at si
  refine (VF T _ _ [sl,r,m] si (by simp) (by intro x hx;simp only[List.mem_cons,List.not_mem_nil,or_false]at hx;omega)).use ?_
  rintro w5 h5 ⟨o5,b5⟩
  have BB:=B0.trans (b5.mono B0.size)
  have o1:=o00.Z4 b5 (Nat.le_refl _)
  have s4:=o5.bs
  simp -implicitDefEqProofs only[go_sem,↓reduceIte,BB]
  refine Zv (E:=5) (B:=g.size) Yt Tryz.underlying34 Wf Vh Vg o1 BB.size s4 (by rw[ZB];simp) ?_
  intro w6 h6 o6 b6 _
  have B6:Ze g.size g h6:=BB.trans b6
  have nj:Z1 g.size 5 h6 w6 (2 :: Zx [sl,r,m]):=o6
  have l6:(2 :: Zx [sl,r,m]).length=13:=by simp only[List.length_cons,ZB,List.length_nil]
  simp -implicitDefEqProofs only[go_sem,↓reduceIte,B6]
  refine Zv (E:=5) (B:=g.size) Yt Tryz.underlying34 Wf Vh Vg nj B6.size (sC.Z4 B6) (by omega) ?_
  intro w7 h7 o7 b7 _
  have B7:Ze g.size g h7:=B6.trans b7
  have KY:=Bg.trans (B7.mono (by omega))
  have o7':Z1 g.size 5 h7 w7 (2 :: (Zx [sl,r,m]++CB)):=o7
  have el:(2 :: (Zx [sl,r,m]++CB)).length=33:=by rw[List.length_cons,List.length_append,lC,ZB];rfl
  simp -implicitDefEqProofs only[go_sem,↓reduceIte,B7]
  refine (VE T h7 _ w7 n l (2 :: (Zx [sl,r,m]++CB)) (s.Z4 KY) hl o7'.bs (by omega) (tk.Js KY)).use ?_
  rintro _ h8 ⟨⟨w8,rfl,o8⟩,b8⟩
  rw[el]at o8 ⊢
  have B8:Ze g.size g h8:=B7.trans (b8.mono B7.size)
  have Bh8:=KY.trans (b8.mono KY.size)
  have x8:=B8.get (by omega) x4g
  have y8:=ZP x8 0
  have nG:h.size+2<h8.size:=Za x8
  generalize Y4 (2 :: (Zx [sl,r,m]++CB))=FR at *
  obtain⟨E,hE⟩:=Zu (JD l n 33)
  rw[←hE]at o8 ⊢
  obtain⟨z,hz⟩:∃z:Int,z=if E=0 then n else 0:=⟨_,rfl⟩
  rw[←hz]
  obtain⟨pz,cz,rfl,_⟩:=o8.open
  simp -implicitDefEqProofs only[go_sem,↓reduceIte,B8,y8,nG]
  refine⟨⟨_,rfl,?_⟩,Bh8.Zk (by omega) _⟩
  exact (o8.ZQ (by have:=B7.size;omega) _).mono (by have:=B7.size;omega)
 ·have uh:Ze g.size g (g.push (.cells (([sl,r,m]:List Nat).map nv).toArray 3)):=Ze.push (Nat.le_refl _) _
  have o0:Z1 g.size 5 ((g.push (.cells (([sl,r,m]:List Nat).map nv).toArray 3)).push (.cells (([2]:List Nat).map bv).toArray 5)) (.slice (some ⟨(g.push (.cells (([sl,r,m]:List Nat).map nv).toArray 3)).size,0,none⟩) 1 1) [2]:=(Z1.made (by decide) (Nat.le_refl _)).mono (by simp)
  have B0:Ze g.size g ((g.push (.cells (([sl,r,m]:List Nat).map nv).toArray 3)).push (.cells (([2]:List Nat).map bv).toArray 5)):=uh.Yg (by simp) _
  have si0:NT (g.push (.cells (([sl,r,m]:List Nat).map nv).toArray 3)) (.slice (some ⟨g.size,0,none⟩) 3 3) [sl,r,m]:=UN _ _
  have si:=si0.Z4 (Ze.push (Nat.le_refl _) (.cells (([2]:List Nat).map bv).toArray 5))
  have e1:(g.push (.cells (([sl,r,m]:List Nat).map nv).toArray 3)).size=g.size+1:=by simp
  rw[e1]at o0
  refine (VF T _ _ [sl,r,m] si (by simp) (by intro x hx;simp only[List.mem_cons,List.not_mem_nil,or_false]at hx;omega)).use ?_
  rintro w5 h5 ⟨o5,b5⟩
  have BB:=B0.trans (b5.mono B0.size)
  have o1:=o0.Z4 b5 (Nat.le_refl _)
  have s4:=o5.bs
  simp -implicitDefEqProofs only[go_sem,↓reduceIte,BB]
  refine Zv (E:=5) (B:=g.size) Yt Tryz.underlying34 Wf Vh Vg o1 BB.size s4 (by rw[ZB];simp) ?_
  intro w6 h6 o6 b6 _
  have B6:Ze g.size g h6:=BB.trans b6
  have nj:Z1 g.size 5 h6 w6 (2 :: Zx [sl,r,m]):=o6
  have l6:(2 :: Zx [sl,r,m]).length=13:=by simp only[List.length_cons,ZB,List.length_nil]
  simp -implicitDefEqProofs only[go_sem,↓reduceIte,B6]
  refine Zv (E:=5) (B:=g.size) Yt Tryz.underlying34 Wf Vh Vg nj B6.size (sC.Z4 B6) (by omega) ?_
  intro w7 h7 o7 b7 _
  have B7:Ze g.size g h7:=B6.trans b7
  have KY:=Bg.trans (B7.mono (by omega))
  have o7':Z1 g.size 5 h7 w7 (2 :: (Zx [sl,r,m]++CB)):=o7
  have el:(2 :: (Zx [sl,r,m]++CB)).length=33:=by rw[List.length_cons,List.length_append,lC,ZB];rfl
  simp -implicitDefEqProofs only[go_sem,↓reduceIte,B7]
  refine (VE T h7 _ w7 n l (2 :: (Zx [sl,r,m]++CB)) (s.Z4 KY) hl o7'.bs (by omega) (tk.Js KY)).use ?_
  rintro _ h8 ⟨⟨w8,rfl,o8⟩,b8⟩
  rw[el]at o8 ⊢
  have B8:Ze g.size g h8:=B7.trans (b8.mono B7.size)
  have Bh8:=KY.trans (b8.mono KY.size)
  have x8:=B8.get (by omega) x4g
  have y8:=ZP x8 0
  have nG:h.size+2<h8.size:=Za x8
  generalize Y4 (2 :: (Zx [sl,r,m]++CB))=FR at *
  obtain⟨E,hE⟩:=Zu (JD l n 33)
  rw[←hE]at o8 ⊢
  obtain⟨z,hz⟩:∃z:Int,z=if E=0 then n else 0:=⟨_,rfl⟩
  rw[←hz]
  obtain⟨pz,cz,rfl,_⟩:=o8.open
  simp -implicitDefEqProofs only[go_sem,↓reduceIte,B8,y8,nG]
  refine⟨⟨_,rfl,?_⟩,Bh8.Zk (by omega) _⟩
  exact (o8.ZQ (by have:=B7.size;omega) _).mono (by have:=B7.size;omega)
 ·have uh:Ze g.size g (g.push (.cells (([sl,r,m]:List Nat).map nv).toArray 3)):=Ze.push (Nat.le_refl _) _
  have si:NT (g.push (.cells (([sl,r,m]:List Nat).map nv).toArray 3)) (.slice (some ⟨g.size,0,none⟩) 3 3) [sl,r,m]:=UN _ _
  refine (VF T _ _ [sl,r,m] si (by simp) (by intro x hx;simp only[List.mem_cons,List.not_mem_nil,or_false]at hx;omega)).use ?_
  rintro w5 h5 ⟨o5,b5⟩
  have ui:=uh.trans (b5.mono uh.size)
  have BB:Ze g.size g (h5.push (.cells (([2]:List Nat).map bv).toArray 5)):=ui.Yg ui.size _
  have o1:Z1 g.size 5 (h5.push (.cells (([2]:List Nat).map bv).toArray 5)) (.slice (some ⟨h5.size,0,none⟩) 1 1) [2]:=(Z1.made (by decide) (Nat.le_refl _)).mono ui.size
  have s4:=o5.bs.Z4 (Ze.push (Nat.le_refl h5.size) (.cells (([2]:List Nat).map bv).toArray 5))
  simp -implicitDefEqProofs only[go_sem,↓reduceIte,ui,BB]
  refine Zv (E:=5) (B:=g.size) Yt Tryz.underlying34 Wf Vh Vg o1 BB.size s4 (by rw[ZB];simp) ?_
  intro w6 h6 o6 b6 _
  have B6:Ze g.size g h6:=BB.trans b6
  have nj:Z1 g.size 5 h6 w6 (2 :: Zx [sl,r,m]):=o6
  have l6:(2 :: Zx [sl,r,m]).length=13:=by simp only[List.length_cons,ZB,List.length_nil]
  simp -implicitDefEqProofs only[go_sem,↓reduceIte,B6]
  refine Zv (E:=5) (B:=g.size) Yt Tryz.underlying34 Wf Vh Vg nj B6.size (sC.Z4 B6) (by omega) ?_
  intro w7 h7 o7 b7 _
  have B7:Ze g.size g h7:=B6.trans b7
  have KY:=Bg.trans (B7.mono (by omega))
  have o7':Z1 g.size 5 h7 w7 (2 :: (Zx [sl,r,m]++CB)):=o7
  have el:(2 :: (Zx [sl,r,m]++CB)).length=33:=by rw[List.length_cons,List.length_append,lC,ZB];rfl
  simp -implicitDefEqProofs only[go_sem,↓reduceIte,B7]
  refine (VE T h7 _ w7 n l (2 :: (Zx [sl,r,m]++CB)) (s.Z4 KY) hl o7'.bs (by omega) (tk.Js KY)).use ?_
  rintro _ h8 ⟨⟨w8,rfl,o8⟩,b8⟩
  rw[el]at o8 ⊢
  have B8:Ze g.size g h8:=B7.trans (b8.mono B7.size)
  have Bh8:=KY.trans (b8.mono KY.size)
  have x8:=B8.get (by omega) x4g
  have y8:=ZP x8 0
  have nG:h.size+2<h8.size:=Za x8
  generalize Y4 (2 :: (Zx [sl,r,m]++CB))=FR at *
  obtain⟨E,hE⟩:=Zu (JD l n 33)
  rw[←hE]at o8 ⊢
  obtain⟨z,hz⟩:∃z:Int,z=if E=0 then n else 0:=⟨_,rfl⟩
  rw[←hz]
  obtain⟨pz,cz,rfl,_⟩:=o8.open
  simp -implicitDefEqProofs only[go_sem,↓reduceIte,B8,y8,nG]
  refine⟨⟨_,rfl,?_⟩,Bh8.Zk (by omega) _⟩
  exact (o8.ZQ (by have:=B7.size;omega) _).mono (by have:=B7.size;omega)
structure Vi where
 p:XO
 l:List Vt
def nH (b:List Nat):Vt→Vt:=fun v=>⟨v.slot,v.b,Xp b 0,Xp b 4,Xp b 8,Xp b 12,Xp b 16⟩
def Jp (a:Vi) (b:List Nat):Option Vi:=
 if b.length=9∧b.getD 0 0=1 then (if Yv a.p a.l ⟨Xp b 1,Xp b 5⟩=0 then some ⟨⟨Xp b 1,Xp b 5⟩,a.l⟩ else none)
 else if b.length=33∧b.getD 0 0=2 then (if J4 (b.drop 13)≠0 then none else
  if YX a.p a.l (nH (b.drop 13) ⟨Xp b 1,⟨Xp b 5,Xp b 9⟩,0,0,0,0,0⟩)=0 then some ⟨⟨Xp b 5,Xp b 9⟩,QF a.l (nH (b.drop 13) ⟨Xp b 1,⟨Xp b 5,Xp b 9⟩,0,0,0,0,0⟩)⟩ else none)
 else none
def G6 (B:Nat) (h':Hp) (v':Value) (a:Vi) (b:List Nat):Prop:=∃P p m c,v'=.tuple [.agg (YJ P (.slice p m c)).toArray,.bool (Jp a b).isSome].toArray∧∀x,Jp a b=some x→P=x.p∧Jh B 161 Zm 8 h' (.slice p m c) x.l
theorem nI (l:List Nat) (k i:Nat):Xp (l.drop k) i=Xp l (k+i):=by
 have e:∀j,(l.drop k).getD j 0=l.getD (k+j) 0:=fun j=>by rw[List.getD_eq_getElem?_getD,List.getD_eq_getElem?_getD,List.getElem?_drop]
 unfold Xp
 rw[e,e,e,e];rfl
theorem uy (T:World) (h:Hp) (v:Value) (l:List Nat) (s:Bs h v l) (hi:4≤l.length) (hl:l.length≤140737488355328) :
  Zd Tryz.prog T 115 #[v] h fun v' h'=>v'=.int .i64 (Xp l 0:Nat)∧h'=h:=by
 obtain⟨p,c,rfl,UA⟩:=s.Us
 refine Zd.Zi (args:=[_]) Tryz.func115 rfl rfl rfl rfl ?_
 obtain⟨b,o,rfl,hb,Yx⟩:=UA (by intro e;subst e;simp at hi)
 have c0:=Yx 0 (by omega)
 have c1:=Yx 1 (by omega)
 have c2:=Yx 2 (by omega)
 have c3:=Yx 3 (by omega)
 have w0:=ZF s.byte 0
 have w1:=ZF s.byte 1
 have w2:=ZF s.byte 2
 have w3:=ZF s.byte 3
 have e4:=GB w0 w1 w2 w3
 have n0:(0:Int)<l.length:=by omega
 have n1:(1:Int)<l.length:=by omega
 have n2:(2:Int)<l.length:=by omega
 have n3:(3:Int)<l.length:=by omega
 rw[Nat.add_zero]at c0
 unfold Xp
 rw[Nat.zero_add,Nat.zero_add,Nat.zero_add]
 generalize l.getD 0 0=a0 at *
 generalize l.getD 1 0=a1 at *
 generalize l.getD 2 0=a2 at *
 generalize l.getD 3 0=a3 at *
 simp -implicitDefEqProofs only[go_sem,↓reduceIte]
 refine VS.q mixed (by kernel_rfl) ?_
 simp -implicitDefEqProofs only[go_sem,↓reduceIte,c0,c1,c2,c3,n0,n1,n2,n3,e4]
 trace_state
theorem Sc (T:World) (h:Hp) (bb oo d d' m m0:Nat) (b:List Nat) (k:Nat) (s:Bs h (.slice (some ⟨bb,oo,none⟩) m0 d) b) (hm0:b.length=m0) (hk:k+4≤m0) (hm:m=m0-k) (hl:m0≤100000) :
  Zd Tryz.prog T 115 #[.slice (some ⟨bb,oo+k,none⟩) m d'] h fun v' h'=>v'=.int .i64 (Xp b k:Nat)∧h'=h:=by
 subst hm
 have s1:=Td s (k:=k) (by omega) hm0 d'
 have:=uy T h _ (b.drop k) s1 (by rw[List.length_drop];omega) (by rw[List.length_drop];omega)
 rw[nI]at this
 exact this
theorem AY (l:List Nat) (h:J4 l=0):LC l=[.int .i64 (Xp l 0),.int .i64 (Xp l 4),.int .i64 (Xp l 8),.int .i64 (Xp l 12),.int .i64 (Xp l 16)]:=by
 unfold LC;rw[if_pos h];rfl
theorem gN (l:List Nat) (h:¬J4 l=0):LC l=[.int .i64 0,.int .i64 0,.int .i64 0,.int .i64 0,.int .i64 0]:=by
 unfold LC;rw[if_neg h];rfl
set_option maxHeartbeats 1000000 in
theorem nJ (T:World) (h:Hp) (P:XO) (pv:Option Addr) (cv:Nat) (l:List Vt) (q:Option Addr) (m d:Nat) (b:List Nat) (s:Ts Zm 8 h (.slice pv l.length cv) l) (sb:Bs h (.slice q m d) b) (hm:b.length=m) (hl:l.length≤1000000) (hb:m≤1000) (hd:m≤d) :
  Zd Tryz.prog T 99 #[.agg (YJ P (.slice pv l.length cv)).toArray,.slice q m d] h fun v' h'=>G6 h.size h' v' ⟨P,l⟩ b∧Ze h.size h h':=by
 refine Zd.XM (args:=[_,_]) Tryz.func99 rfl rfl rfl rfl ?_
 unfold YJ
 simp -implicitDefEqProofs only[go_sem,↓reduceIte]
 obtain⟨h0,XR⟩:=Zu ((h.push (.cells (YJ P (.slice pv l.length cv)).toArray 131)).push (.cells [.int .i64 0,.int .i64 0,.slice none 0 0].toArray 131):Hp)
 have b0:Ze h.size h h0:=by rw[XR];exact ((Ze.refl _ _).add _).add _
 have s0:h0.size=h.size+2:=by rw[XR];simp
 have x0:h0[h.size]? = some (.cells (YJ P (.slice pv l.length cv)).toArray 131):=by
  rw[XR,Array.getElem?_push,if_neg (by simp),Zb]
 have z0:h0[h.size+1]? = some (.cells [.int .i64 0,.int .i64 0,.slice none 0 0].toArray 131):=by
  rw[XR,Array.getElem?_push,if_pos (by simp)]
 have e0:(h.push (.cells #[Value.int .i64 P.r,.int .i64 P.n,.slice pv l.length cv] 131)).push (.cells #[Value.int .i64 0,.int .i64 0,.slice none 0 0] 131)=h0:=XR.symm
 rw[e0]
 clear e0 XR
 have fin:∀(G:Hp) (k:Nat) (w:List Value),w.length=3→w.all Z5=true→G[k]? = some (.cells [.int .i64 0,.int .i64 0,.slice none 0 0].toArray 131)→wr G ⟨k,0,none⟩ w=some (G.setIfInBounds k (.cells w.toArray 131)):=by
  intro G k w h3 h1 hx
  rw[ZP (b:=k) hx 0 w,ZK (by rw[h3];rfl),if_pos ⟨by rw[h3];simp,h1⟩]
 have sb0:=sb.Z4 b0
 have s0':=s.Z4 b0
 have r0:rd h0 ⟨h.size,0,none⟩ 3=some [.int .i64 P.r,.int .i64 P.n,.slice pv l.length cv]:=Zo x0 rfl
 have k0:h.size<h0.size:=by omega
 have k1:h.size+1<h0.size:=by omega
 unfold G6
 by_cases n9:m=9
 ·subst n9
  have k9:((9:Nat):Int)=9:=rfl
  obtain⟨q',d',hv,hh⟩:=sb0.Us
  simp only[Value.slice.injEq]at hv
  obtain⟨rfl,_,rfl⟩:=hv
  obtain⟨bb,oo,rfl,Ut,Yx⟩:=hh (by intro e;subst e;simp at hm)
  have c0:=Yx 0 (by omega)
  rw[Nat.add_zero]at c0
  by_cases q1:b.getD 0 0=1
  case neg=>
   have qC:¬((b.getD 0 0:Nat):Int)=1:=by omega
   have e:Jp ⟨P,l⟩ b=none:=by
    unfold Jp
    rw[if_neg (fun hn=>q1 hn.2),if_neg (fun hn=>by omega)]
   have wz:=fin h0 (h.size+1) [.int .i64 P.r,.int .i64 P.n,.slice pv l.length cv] rfl rfl z0
   simp -implicitDefEqProofs only[go_sem,↓reduceIte,k9,c0,qC,e,r0,wz,k1]
   exact⟨⟨P,pv,l.length,cv,rfl,by simp⟩,b0.Zk (by omega) _⟩
  rw[q1]at c0
  have e1:((1:Nat):Int)=1:=rfl
  rw[e1]at c0
  obtain⟨X,hX⟩:∃X:XO,X=⟨Xp b 1,Xp b 5⟩:=⟨_,rfl⟩
  have e:Jp ⟨P,l⟩ b=if Yv P l X=0 then some ⟨X,l⟩ else none:=by
   unfold Jp
   rw[if_pos ⟨hm,q1⟩,hX]
  have call:∀G,Ts Zm 8 G (.slice pv l.length cv) l→Zd Tryz.prog T 114 #[.agg #[.int .i64 P.r,.int .i64 P.n,.slice pv l.length cv],.agg #[.int .i64 (Xp b 1:Nat),.int .i64 (Xp b 5:Nat)]] G fun v' h'=>EN G.size h' v' P l X∧Ze G.size G h':=fun G sG=>by
   rw[hX];exact Tc T G P _ l _ sG (by omega)
  clear hX
  have d1:¬d=1:=by omega
  have d5:¬d=5:=by omega
  have nK:=sb0
  simp -implicitDefEqProofs only[go_sem,↓reduceIte,k9,c0]
  refine VS.mono (N:=fun F' g'=>Ze h0.size h0 g'∧F' 4=.pointer (some ⟨h.size+1,0,none⟩)∧F' 8=.int .i64 (Yv P l X)∧∃A p1 c1,h0.size≤A∧F' 6=.pointer (some ⟨A,0,none⟩)∧g'[A]? = some (.cells (YJ (if Yv P l X=0 then X else ⟨0,0⟩) (.slice p1 (if Yv P l X=0 then l else []).length c1)).toArray 131)∧Jh h0.size 161 Zm 8 g' (.slice p1 (if Yv P l X=0 then l else []).length c1) (if Yv P l X=0 then l else [])) ?_ ?_ (fun _ _ _ h=>h) (fun _ _ h=>h)
  ·refine VS.w (h0.size) [] (.q 0 (.q 1 (.q 2 (.q 4 (.q 5 (.or 3 (.or 6 (.q 7 (.or 8 (.q 9 (.q 10 (.q 11 (.q 12 (.s 13 (.s 14 (.q 15 (.q 16 .nil)))))))) (.s 13 (.s 8 (.q 9 (.q 10 (.q 11 (.q 12 (.s 14 (.q 15 (.q 16 .nil))))))))))) (.s 13 (.s 6 (.q 7 (.s 8 (.q 9 (.q 10 (.q 11 (.q 12 (.s 14 (.q 15 (.q 16 .nil)))))))))))) (.s 13 (.s 3 (.s 6 (.q 7 (.s 8 (.q 9 (.q 10 (.q 11 (.q 12 (.s 14 (.q 15 (.q 16 .nil)))))))))))))))))) mixed (by kernel_rfl) ?_
   simp -implicitDefEqProofs only[go_sem,↓reduceIte,r0,k0,k9,d1,d5,c0,Int.toNat_natCast]
   repeat' (first
     | with_reducible exact Ze.refl _ _
     | with_reducible exact Ze.push (by omega) _
     | (with_reducible refine (Sc T _ bb oo d _ _ _ b 1 (by first|exact nK|exact nK.Z4 (Ze.push (Nat.le_refl _) _)) hm (by omega) rfl (by omega)).pure ?_;simp -implicitDefEqProofs only[go_sem,↓reduceIte,r0,k0,c0,Int.toNat_natCast])
     | (with_reducible refine (Sc T _ bb oo d _ _ _ b 5 (by first|exact nK|exact nK.Z4 (Ze.push (Nat.le_refl _) _)) hm (by omega) rfl (by omega)).pure ?_;simp -implicitDefEqProofs only[go_sem,↓reduceIte,r0,k0,c0,Int.toNat_natCast])
     | with_reducible refine And.intro ?_ ?_)
   all_goals first
    | (refine (call h0 s0').use ?_
       rintro _ g1 ⟨⟨w1,w2,rfl,o1,o2⟩,b1⟩
       obtain⟨p1,c1,rfl,_⟩:=o1.open
       obtain⟨p2,c2,rfl,_⟩:=o2.open
       generalize (if Yv P l X=0 then X else ⟨0,0⟩)=Y at *
       generalize (if Yv P l X=0 then l else [])=L at *
       generalize Yv P l X=E at *
       have s1:=b1.size
       unfold YJ
       simp -implicitDefEqProofs only[go_sem,↓reduceIte,b1]
       exact⟨_,_,_,s1,rfl,Zb,o1.push _⟩)
    | (refine (call (h0.push (.cells [.int .i64 0,.int .i64 0,.slice none 0 0].toArray 131)) (s0'.Z4 (Ze.push (Nat.le_refl _) _))).use ?_
       rintro _ g1 ⟨⟨w1,w2,rfl,o1,o2⟩,b1⟩
       obtain⟨p1,c1,rfl,_⟩:=o1.open
       obtain⟨p2,c2,rfl,_⟩:=o2.open
       generalize (if Yv P l X=0 then X else ⟨0,0⟩)=Y at *
       generalize (if Yv P l X=0 then l else [])=L at *
       generalize Yv P l X=E at *
       have B1:Ze h0.size h0 g1:=(Ze.push (Nat.le_refl _) _).trans (b1.mono (by simp))
       have xA:=b1.get (by simp) Zb
       have yA:=fin g1 h0.size [.int .i64 Y.r,.int .i64 Y.n,.slice p1 L.length c1] rfl rfl xA
       have hz:=Za xA
       unfold YJ
       simp -implicitDefEqProofs only[go_sem,↓reduceIte,B1,yA,hz]
       exact⟨_,_,_,Nat.le_refl _,rfl,Zw xA,(o1.ZQ (b:=h0.size) (by simp) _).mono (by simp)⟩)
  ·rintro F' g' ⟨hB,f4,f8,A,p1,c1,hA,f6,xA,oA⟩
   have z1:=hB.get (by omega) z0
   have k1':=Za z1
   have rA:rd g' ⟨A,0,none⟩ 3=_:=Zo xA rfl
   generalize hY:(if Yv P l X=0 then X else ⟨0,0⟩)=Y at *
   generalize hL:(if Yv P l X=0 then l else [])=L at *
   generalize Yv P l X=E at *
   unfold YJ at rA
   have wz:=fin g' (h.size+1) [.int .i64 Y.r,.int .i64 Y.n,.slice p1 L.length c1] rfl rfl z1
   have bb':Ze h.size h (g'.setIfInBounds (h.size+1) (.cells [.int .i64 Y.r,.int .i64 Y.n,.slice p1 L.length c1].toArray 131)):=(b0.trans (hB.mono (by omega))).Zk (by omega) _
   by_cases q:E=0
   ·rw[if_pos q]at e hY hL
    simp -implicitDefEqProofs only[go_sem,↓reduceIte,f4,f6,f8,rA,wz,k1',q,e]
    refine⟨⟨Y,p1,L.length,c1,rfl,fun x hx=>?_⟩,bb'⟩
    cases hx
    exact⟨hY.symm,by rw[hL];exact (oA.ZQ (by omega) _).mono (by omega)⟩
   ·rw[if_neg q]at e
    simp -implicitDefEqProofs only[go_sem,↓reduceIte,f4,f6,f8,rA,wz,k1',q,e]
    exact⟨⟨Y,p1,L.length,c1,rfl,by simp⟩,bb'⟩
 have n9':¬(m:Int)=9:=by omega
 by_cases n33:m=33
 case neg=>
  have ZnH:¬(m:Int)=33:=by omega
  have e:Jp ⟨P,l⟩ b=none:=by
   unfold Jp
   rw[if_neg (fun hn=>by omega),if_neg (fun hn=>by omega)]
  have wz:=fin h0 (h.size+1) [.int .i64 P.r,.int .i64 P.n,.slice pv l.length cv] rfl rfl z0
  simp -implicitDefEqProofs only[go_sem,↓reduceIte,n9',ZnH,e,r0,wz,k1]
  exact⟨⟨P,pv,l.length,cv,rfl,by simp⟩,b0.Zk (by omega) _⟩
 subst n33
 have k33:((33:Nat):Int)=33:=rfl
 clear n9'
 obtain⟨q',d',hv,hh⟩:=sb0.Us
 simp only[Value.slice.injEq]at hv
 obtain⟨rfl,_,rfl⟩:=hv
 obtain⟨bb,oo,rfl,Ut,Yx⟩:=hh (by intro e;subst e;simp at hm)
 have c0:=Yx 0 (by omega)
 rw[Nat.add_zero]at c0
 by_cases q2:b.getD 0 0=2
 case neg=>
  have xw:¬((b.getD 0 0:Nat):Int)=2:=by omega
  have e:Jp ⟨P,l⟩ b=none:=by
   unfold Jp
   rw[if_neg (fun hn=>by omega),if_neg (fun hn=>q2 hn.2)]
  have wz:=fin h0 (h.size+1) [.int .i64 P.r,.int .i64 P.n,.slice pv l.length cv] rfl rfl z0
  simp -implicitDefEqProofs only[go_sem,↓reduceIte,k33,c0,xw,e,r0,wz,k1]
  exact⟨⟨P,pv,l.length,cv,rfl,by simp⟩,b0.Zk (by omega) _⟩
 rw[q2]at c0
 have e2:((2:Nat):Int)=2:=rfl
 rw[e2]at c0
 have d13:¬d=13:=by omega
 have d33:(33:Int)≤(d:Int):=by omega
 have s13:=fun c'=>Td sb0 (k:=13) (by omega) hm c'
 simp -implicitDefEqProofs only[go_sem,↓reduceIte,k33,c0,d13,d33,Int.toNat_natCast]
 refine (Hd T h0 _ (b.drop 13) (s13 _) (by rw[List.length_drop];omega)).use ?_
 rintro _ g ⟨rfl,bg⟩
 have sg:=bg.size
 by_cases q3:J4 (b.drop 13)=0
 case neg=>
  have e:Jp ⟨P,l⟩ b=none:=by
   unfold Jp
   rw[if_neg (fun hn=>by omega),if_pos ⟨hm,q2⟩,if_pos q3]
  rw[gN _ q3]
  have zg:=bg.get k1 z0
  have xg:=bg.get k0 x0
  have rg:rd g ⟨h.size,0,none⟩ 3=some [.int .i64 P.r,.int .i64 P.n,.slice pv l.length cv]:=Zo xg rfl
  have wz:=fin g (h.size+1) [.int .i64 P.r,.int .i64 P.n,.slice pv l.length cv] rfl rfl zg
  have ZnJ:¬h.size=g.size:=by omega
  have Ds:¬h.size+1=g.size:=by omega
  have nC:h.size+1<g.size:=by omega
  simp -implicitDefEqProofs only[go_sem,↓reduceIte,q3,e,rg,wz,ZnJ,Ds,nC]
  exact⟨⟨P,pv,l.length,cv,rfl,by simp⟩,((b0.trans (bg.mono (by omega))).Zk (by omega) _).Yg (by simp;omega) _⟩
 rw[AY _ q3,q3]
 obtain⟨X,hX⟩:∃X:Vt,X=nH (b.drop 13) ⟨Xp b 1,⟨Xp b 5,Xp b 9⟩,0,0,0,0,0⟩:=⟨_,rfl⟩
 have e:Jp ⟨P,l⟩ b=if YX P l X=0 then some ⟨X.b,QF l X⟩ else none:=by
  unfold Jp
  rw[if_neg (fun hn=>by omega),if_pos ⟨hm,q2⟩,if_neg (fun hn=>hn q3),←hX]
  rw[show (⟨((Xp b 5:Nat):Int),((Xp b 9:Nat):Int)⟩:XO)=X.b by rw[hX];rfl]
 have call:∀G,Ts Zm 8 G (.slice pv l.length cv) l→Zd Tryz.prog T 116 #[.agg #[.int .i64 P.r,.int .i64 P.n,.slice pv l.length cv],.agg #[.int .i64 (Xp b 1:Nat),.int .i64 (Xp b 5:Nat),.int .i64 (Xp b 9:Nat),.int .i64 (Xp (b.drop 13) 0:Nat),.int .i64 (Xp (b.drop 13) 4:Nat),.int .i64 (Xp (b.drop 13) 8:Nat),.int .i64 (Xp (b.drop 13) 12:Nat),.int .i64 (Xp (b.drop 13) 16:Nat)]] G fun v' h'=>cV G.size h' v' P l X∧Ze G.size G h':=fun G sG=>by
  rw[hX];exact OP T G P _ l _ sG (by omega)
 clear hX
 generalize Xp (b.drop 13) 0=y0 at *
 generalize Xp (b.drop 13) 4=y4 at *
 generalize Xp (b.drop 13) 8=y8 at *
 generalize Xp (b.drop 13) 12=y12 at *
 generalize Xp (b.drop 13) 16=y16 at *
 obtain⟨h1,YF⟩:=Zu (g.push (.cells [.int .i64 (y0:Nat),.int .i64 (y4:Nat),.int .i64 (y8:Nat),.int .i64 (y12:Nat),.int .i64 (y16:Nat)].toArray 47):Hp)
 have e1:g.push (.cells #[Value.int .i64 (y0:Nat),.int .i64 (y4:Nat),.int .i64 (y8:Nat),.int .i64 (y12:Nat),.int .i64 (y16:Nat)] 47)=h1:=YF.symm
 simp -implicitDefEqProofs only[go_sem,↓reduceIte]
 rw[e1]
 have b1:Ze h0.size h0 h1:=by rw[YF];exact bg.Yg sg _
 have s1h:h1.size=g.size+1:=by rw[YF];simp
 have c1h:h1[g.size]? = some (.cells [.int .i64 (y0:Nat),.int .i64 (y4:Nat),.int .i64 (y8:Nat),.int .i64 (y12:Nat),.int .i64 (y16:Nat)].toArray 47):=by rw[YF];exact Zb
 clear e1 YF
 have x1:=b1.get k0 x0
 have z1h:=b1.get k1 z0
 have r1:rd h1 ⟨h.size,0,none⟩ 3=some [.int .i64 P.r,.int .i64 P.n,.slice pv l.length cv]:=Zo x1 rfl
 have rc1:rd h1 ⟨g.size,0,none⟩ 5=some [.int .i64 (y0:Nat),.int .i64 (y4:Nat),.int .i64 (y8:Nat),.int .i64 (y12:Nat),.int .i64 (y16:Nat)]:=Zo c1h rfl
 have c0h:hc h1 ⟨bb,oo,none⟩=some (.int .u8 2):=by rw[b1.hc (by exact Ut)];exact c0
 have k0h:h.size<h1.size:=by omega
 have kch:g.size<h1.size:=by omega
 have nK:=sb0.Z4 b1
 have s1':=s0'.Z4 b1
 have d1:¬d=1:=by omega
 have d5:¬d=5:=by omega
 have d9:¬d=9:=by omega
 have B1:Ze h.size h h1:=b0.trans (b1.mono (by omega))
 refine VS.mono (N:=fun F' g'=>Ze h1.size h1 g'∧F' 4=.pointer (some ⟨h.size+1,0,none⟩)∧F' 10=.int .i64 (YX P l X)∧∃A p1 c1,h1.size≤A∧F' 11=.pointer (some ⟨A,0,none⟩)∧g'[A]? = some (.cells (YJ (if YX P l X=0 then X.b else ⟨0,0⟩) (.slice p1 (if YX P l X=0 then QF l X else []).length c1)).toArray 131)∧Jh h1.size 161 Zm 8 g' (.slice p1 (if YX P l X=0 then QF l X else []).length c1) (if YX P l X=0 then QF l X else [])) ?_ ?_ (fun _ _ _ h=>h) (fun _ _ h=>h)
 ·refine VS.w (h1.size) [] (.q 0 (.q 1 (.q 2 (.q 4 (.q 5 (.q 7 (.q 8 (.q 11 (.or 3 (.or 6 (.or 9 (.q 10 (.q 12 (.or 13 (.q 14 (.q 15 (.q 16 (.s 17 (.s 18 (.q 19 .nil)))))) (.s 17 (.s 13 (.q 14 (.q 15 (.q 16 (.s 18 (.q 19 .nil)))))))))) (.s 17 (.s 9 (.q 10 (.q 12 (.s 13 (.q 14 (.q 15 (.q 16 (.s 18 (.q 19 .nil))))))))))) (.s 17 (.s 6 (.s 9 (.q 10 (.q 12 (.s 13 (.q 14 (.q 15 (.q 16 (.s 18 (.q 19 .nil)))))))))))) (.s 17 (.s 3 (.s 6 (.s 9 (.q 10 (.q 12 (.s 13 (.q 14 (.q 15 (.q 16 (.s 18 (.q 19 .nil))))))))))))))))))))) mixed (by kernel_rfl) ?_
  simp -implicitDefEqProofs only[go_sem,↓reduceIte,r1,rc1,k0h,kch,k33,d1,d5,d9,c0h,Int.toNat_natCast]
  repeat' (first
    | with_reducible exact Ze.refl _ _
    | with_reducible exact Ze.push (by omega) _
    | (with_reducible refine (Sc T _ bb oo d _ _ _ b 1 (by first|exact nK|exact nK.Z4 (Ze.push (Nat.le_refl _) _)) hm (by omega) rfl (by omega)).pure ?_;simp -implicitDefEqProofs only[go_sem,↓reduceIte,r1,rc1,k0h,kch,c0h,Int.toNat_natCast])
    | (with_reducible refine (Sc T _ bb oo d _ _ _ b 5 (by first|exact nK|exact nK.Z4 (Ze.push (Nat.le_refl _) _)) hm (by omega) rfl (by omega)).pure ?_;simp -implicitDefEqProofs only[go_sem,↓reduceIte,r1,rc1,k0h,kch,c0h,Int.toNat_natCast])
    | (with_reducible refine (Sc T _ bb oo d _ _ _ b 9 (by first|exact nK|exact nK.Z4 (Ze.push (Nat.le_refl _) _)) hm (by omega) rfl (by omega)).pure ?_;simp -implicitDefEqProofs only[go_sem,↓reduceIte,r1,rc1,k0h,kch,c0h,Int.toNat_natCast])
    | with_reducible refine And.intro ?_ ?_)
  all_goals first
   | (refine (call h1 s1').use ?_
      rintro _ g1 ⟨⟨w1,rfl,o1⟩,b1⟩
      obtain⟨p1,c1,rfl,_⟩:=o1.open
      generalize (if YX P l X=0 then X.b else ⟨0,0⟩)=Y at *
      generalize (if YX P l X=0 then QF l X else [])=L at *
      generalize YX P l X=E at *
      have s1:=b1.size
      unfold YJ
      simp -implicitDefEqProofs only[go_sem,↓reduceIte,b1]
      exact⟨_,_,_,s1,rfl,Zb,o1.push _⟩)
   | (refine (call (h1.push (.cells [.int .i64 0,.int .i64 0,.slice none 0 0].toArray 131)) (s1'.Z4 (Ze.push (Nat.le_refl _) _))).use ?_
      rintro _ g1 ⟨⟨w1,rfl,o1⟩,b1⟩
      obtain⟨p1,c1,rfl,_⟩:=o1.open
      generalize (if YX P l X=0 then X.b else ⟨0,0⟩)=Y at *
      generalize (if YX P l X=0 then QF l X else [])=L at *
      generalize YX P l X=E at *
      have B1:Ze h1.size h1 g1:=(Ze.push (Nat.le_refl _) _).trans (b1.mono (by simp))
      have xA:=b1.get (by simp) Zb
      have yA:=fin g1 h1.size [.int .i64 Y.r,.int .i64 Y.n,.slice p1 L.length c1] rfl rfl xA
      have hz:=Za xA
      unfold YJ
      simp -implicitDefEqProofs only[go_sem,↓reduceIte,B1,yA,hz]
      exact⟨_,_,_,Nat.le_refl _,rfl,Zw xA,(o1.ZQ (b:=h1.size) (by simp) _).mono (by simp)⟩)
 ·rintro F' g' ⟨hB,f4,f8,A,p1,c1,hA,f6,xA,oA⟩
  have z1:=hB.get (by omega) z1h
  have k1':=Za z1
  have rA:rd g' ⟨A,0,none⟩ 3=_:=Zo xA rfl
  generalize hY:(if YX P l X=0 then X.b else ⟨0,0⟩)=Y at *
  generalize hL:(if YX P l X=0 then QF l X else [])=L at *
  generalize YX P l X=E at *
  unfold YJ at rA
  have wz:=fin g' (h.size+1) [.int .i64 Y.r,.int .i64 Y.n,.slice p1 L.length c1] rfl rfl z1
  have bb':Ze h.size h (g'.setIfInBounds (h.size+1) (.cells [.int .i64 Y.r,.int .i64 Y.n,.slice p1 L.length c1].toArray 131)):=(B1.trans (hB.mono (by omega))).Zk (by omega) _
  by_cases q:E=0
  ·rw[if_pos q]at e hY hL
   simp -implicitDefEqProofs only[go_sem,↓reduceIte,f4,f6,f8,rA,wz,k1',q,e]
   refine⟨⟨Y,p1,L.length,c1,rfl,fun x hx=>?_⟩,bb'⟩
   cases hx
   exact⟨hY.symm,by rw[hL];exact (oA.ZQ (by omega) _).mono (by omega)⟩
  ·rw[if_neg q]at e
   simp -implicitDefEqProofs only[go_sem,↓reduceIte,f4,f6,f8,rA,wz,k1',q,e]
   exact⟨⟨Y,p1,L.length,c1,rfl,by simp⟩,bb'⟩
theorem AZ {h:Hp} {bp op m c k n off m' c':Nat} {l:List Nat} (s:Bs h (.slice (some ⟨bp,op,none⟩) m c) l) (hm:l.length=m) (hk:k+n≤m) (ho:off=op+k) (My:m'=n):Bs h (.slice (some ⟨bp,off,none⟩) m' c') ((l.drop k).take n):=by
 subst ho;subst My
 have s1:=Td s (k:=k) (by omega) hm c'
 have e:m-k=(l.drop k).length:=by rw[List.length_drop];omega
 rw[e]at s1
 exact s1.TN (by rw[List.length_drop];omega) c'
def DD (l:List Nat) (k:Nat):Nat:=1+l.getD k 0
def Xz (l:List Nat) (a:Vi) (k:Nat):Option (Vi × Nat):=
 if k<l.length∧k+DD l k+4≤l.length∧(TZ ((l.drop k).take (DD l k))).take 4=(l.drop (k+DD l k)).take 4 then
  (Jp a ((l.drop (k+1)).take (DD l k-1))).map fun x=>(x,k+(DD l k+4))
 else none
inductive Rec (l:List Nat):Vi→Nat→Vi→Nat→Prop
 | stop {a:Vi} {k:Nat}:Xz l a k=none→Rec l a k a k
 | go {a a' r:Vi} {k k' j:Nat}:Xz l a k=some (a',k')→Rec l a' k' r j→Rec l a k r j
def QG:Vi:=⟨⟨0,0⟩,[]⟩
def nL (B:Nat) (h':Hp) (v':Value) (l:List Nat) (n:Int):Prop:=∃(r:Vi) (k:Nat) (E:Int) (w:Value),v'=.tuple [.agg (YJ r.p w).toArray,.int .i64 k,.int .i64 E].toArray∧Jh B 161 Zm 8 h' w r.l∧k≤l.length∧r.l.length≤k ∧
 if Y5 l n then E=0∧Rec l QG 0 r k else E=5∧r=QG∧k=0
theorem DF {l:List Vt} (hs:zT l) (v:Vt):(QF l v).length≤l.length+1:=by
 have:∀l:List Vt,(l.filter (fun x=>decide (x.slot<v.slot))).length+(l.filter (fun x=>decide (v.slot<x.slot))).length≤l.length:=by
  intro l
  induction l with
  | nil=>simp
  | cons x l ih=>
   simp only[List.filter_cons,List.length_cons]
   by_cases q1:x.slot<v.slot
   ·rw[if_pos (by simpa using q1),if_neg (by simp;omega),List.length_cons];omega
   ·rw[if_neg (by simpa using q1)]
    by_cases q2:v.slot<x.slot
    ·rw[if_pos (by simpa using q2),List.length_cons];omega
    ·rw[if_neg (by simpa using q2)];omega
 have:=this l
 unfold QF
 rw[List.length_append,List.length_cons];omega
theorem G7 {a x:Vi} {b:List Nat} (h:Jp a b=some x):x.l.length≤a.l.length+1:=by
 unfold Jp at h
 split at h
 ·split at h
  ·cases h;simp
  ·cases h
 ·split at h
  ·split at h
   ·cases h
   ·split at h
    ·rename_i q
     cases h
     have:XE a.p a.l=0:=by
      unfold YX at q
      split at q
      ·cases q
      ·rename_i hn;simpa using hn
     exact DF (LV this) _
    ·cases h
  ·cases h
set_option maxHeartbeats 2000000 in
theorem Ki (T:World) (h:Hp) (v:Value) (n:Int) (l:List Nat) (s:Bs h v l) (hl:l.length≤140737488355328) (tk:Tk h) :
  Zd Tryz.prog T 82 #[.agg [v,.int .i64 n].toArray] h fun v' h'=>nL h.size h' v' l n∧Ze h.size h h':=by
 obtain⟨p,c,rfl,_⟩:=s.open
 refine Zd.XM (args:=[_]) Tryz.func82 rfl rfl rfl rfl ?_
 unfold nL
 simp -implicitDefEqProofs only[go_sem,↓reduceIte]
 obtain⟨h0,XR⟩:=Zu ((h.push (.cells [.slice p l.length c,.int .i64 n].toArray 126)).push (.cells [.int .i64 0,.int .i64 0,.slice none 0 0].toArray 131):Hp)
 have b0:Ze h.size h h0:=by rw[XR];exact ((Ze.refl _ _).add _).add _
 have s0:h0.size=h.size+2:=by rw[XR];simp
 have z0:h0[h.size+1]? = some (.cells [.int .i64 0,.int .i64 0,.slice none 0 0].toArray 131):=by
  rw[XR,Array.getElem?_push,if_pos (by simp)]
 have e0:(h.push (.cells #[Value.slice p l.length c,.int .i64 n] 126)).push (.cells #[Value.int .i64 0,.int .i64 0,.slice none 0 0] 131)=h0:=XR.symm
 rw[e0]
 clear e0 XR
 have fin:∀(G:Hp) (w:List Value),w.length=3→w.all Z5=true→G[h.size+1]? = some (.cells [.int .i64 0,.int .i64 0,.slice none 0 0].toArray 131)→wr G ⟨h.size+1,0,none⟩ w=some (G.setIfInBounds (h.size+1) (.cells w.toArray 131)):=by
  intro G w h3 h1 hx
  rw[ZP (b:=h.size+1) hx 0 w,ZK (by rw[h3];rfl),if_pos ⟨by rw[h3];simp,h1⟩]
 refine (Qc T h0 _ n l (s.Z4 b0) hl).use ?_
 rintro _ h1 ⟨b1,o1⟩
 have s1:=b1.size
 have B1:Ze h.size h h1:=b0.trans (b1.mono (by omega))
 have z1:=b1.get (by omega) z0
 by_cases ok:Y5 l n
 case neg=>
  rw[if_neg (show ¬(l.length≤100000∧0≤n∧n≤l.length) from ok)]at o1
  subst o1
  have y2:=fin h1 [.int .i64 0,.int .i64 0,.slice none 0 0] rfl rfl z1
  have ZA:h.size+1<h1.size:=by omega
  have Yr:¬h.size+1=h1.size:=by omega
  simp -implicitDefEqProofs only[go_sem,↓reduceIte,y2,Yr,ZA]
  refine⟨⟨QG,0,5,.slice none 0 0,rfl,Jh.nil _ _ _ _ _,Nat.zero_le _,Nat.le_refl _,?_⟩,(B1.Zk (by omega) _).Yg (by simp;omega) _⟩
  rw[if_neg ok]
  exact⟨rfl,rfl,rfl⟩
 rw[if_pos (show (l.length≤100000∧0≤n∧n≤l.length) from ok)]at o1
 obtain⟨w,rfl,o1⟩:=o1
 obtain⟨pw,cw,rfl,hcw⟩:=o1.open
 have l1:=ok.1
 obtain⟨h2,Wb⟩:=Zu ((h1.push (.cells [.slice pw l.length cw,.int .i64 n].toArray 126)).push (.cells [.int .i64 0,.int .i64 0,.slice none 0 0].toArray 131):Hp)
 have e2:(h1.push (.cells #[Value.slice pw l.length cw,.int .i64 n] 126)).push (.cells #[Value.int .i64 0,.int .i64 0,.slice none 0 0] 131)=h2:=Wb.symm
 simp -implicitDefEqProofs only[go_sem,↓reduceIte]
 rw[e2]
 have b2:Ze h1.size h1 h2:=by rw[Wb];exact ((Ze.refl _ _).add _).add _
 have s2:h2.size=h1.size+2:=by rw[Wb];simp
 have t2:h2[h1.size]? = some (.cells [.slice pw l.length cw,.int .i64 n].toArray 126):=by
  rw[Wb,Array.getElem?_push,if_neg (by simp),Zb]
 have a2:h2[h1.size+1]? = some (.cells [.int .i64 0,.int .i64 0,.slice none 0 0].toArray 131):=by
  rw[Wb,Array.getElem?_push,if_pos (by simp)]
 clear e2 Wb
 have z2:=b2.get (by omega) z1
 obtain⟨A,hA⟩:=Zu (h1.size+1)
 rw[←hA]at a2 ⊢
 have sw:=o1.bs.Z4 b2
 have B2:Ze h.size h h2:=B1.trans (b2.mono (by omega))
 have tk2:Tk h2:=tk.Js B2
 have blo:=o1.own.ZD
 refine VS.ZU (fun F g=>Ze A h2 g∧F 2=.pointer (some ⟨h.size+1,0,none⟩)∧F 5=.pointer (some ⟨h1.size,0,none⟩)∧F 7=.pointer (some ⟨A,0,none⟩)∧∃(k:Nat) (a:Vi) (p1:Option Addr) (c1:Nat),k≤l.length∧F 8=.int .i64 k∧g[A]? = some (.cells (YJ a.p (.slice p1 a.l.length c1)).toArray 131)∧Jh (A+1) 161 Zm 8 g (.slice p1 a.l.length c1) a.l∧a.l.length≤k∧∀r j,Rec l a k r j→Rec l QG 0 r j)
  (fun F _=>l.length-(vi (F 8)).toNat) rfl ⟨Ze.refl _ _,rfl,rfl,rfl,0,QG,none,0,Nat.zero_le _,rfl,a2,Jh.nil _ _ _ _ _,Nat.zero_le _,fun _ _ h=>h⟩ ?_
 rintro F g ⟨hg,f2,f5,f7,k,a,p1,c1,hk,f8,xa,oa,hal,Zfh⟩
 have tg:=hg.get (by omega) t2
 have zg:=hg.get (by omega) z2
 have hzA:=Za xa
 have fact:∀G,Ze g.size g G→V.hc G ⟨h1.size,0,none⟩=some (.slice pw l.length cw)∧rd G ⟨A,0,none⟩ 3=some [.int .i64 a.p.r,.int .i64 a.p.n,.slice p1 a.l.length c1] ∧
   wr G ⟨h.size+1,0,none⟩ [.int .i64 a.p.r,.int .i64 a.p.n,.slice p1 a.l.length c1]=some (G.setIfInBounds (h.size+1) (.cells [.int .i64 a.p.r,.int .i64 a.p.n,.slice p1 a.l.length c1].toArray 131))∧h.size+1<G.size∧Ze A h2 G ∧
   G[A]? = some (.cells (YJ a.p (.slice p1 a.l.length c1)).toArray 131)∧Jh (A+1) 161 Zm 8 G (.slice p1 a.l.length c1) a.l∧Bs G (.slice pw l.length cw) l:=by
  intro G hG
  have tG:=hG.get (by omega) tg
  have zG:=hG.get (by omega) zg
  have xG:=hG.get (by omega) xa
  have bG:Ze A h2 G:=hg.trans (hG.mono (by omega))
  exact⟨by rw[Zg tG];rfl,Zo xG rfl,fin G _ rfl rfl zG,Za zG,bG,xG,oa.Z4 hG (Nat.le_refl _),o1.bs.Z4 (b2.trans (bG.mono (by omega)))⟩
 have done:∀G,Ze g.size g G→Xz l a k=none→(∃(r:Vi) (k':Nat) (E:Int) (w:Value),Value.tuple [.agg (YJ a.p (.slice p1 a.l.length c1)).toArray,.int .i64 (k:Nat),.int .i64 0].toArray=.tuple [.agg (YJ r.p w).toArray,.int .i64 (k':Nat),.int .i64 E].toArray∧Jh h.size 161 Zm 8 (G.setIfInBounds (h.size+1) (.cells [.int .i64 a.p.r,.int .i64 a.p.n,.slice p1 a.l.length c1].toArray 131)) w r.l∧k'≤l.length∧r.l.length≤k'∧if Y5 l n then E=0∧Rec l QG 0 r k' else E=5∧r=QG∧k'=0)∧Ze h.size h (G.setIfInBounds (h.size+1) (.cells [.int .i64 a.p.r,.int .i64 a.p.n,.slice p1 a.l.length c1].toArray 131)):=by
  intro G hG e
  obtain⟨_,_,_,_,bG,_,oG,_⟩:=fact G hG
  refine⟨⟨a,k,0,_,rfl,(oG.ZQ (by omega) _).mono (by omega),hk,hal,?_⟩,(B2.trans (bG.mono (by omega))).Zk (by omega) _⟩
  rw[if_pos ok]
  exact⟨rfl,Zfh _ _ (.stop e)⟩
 obtain⟨rt,ra,wf,hlz,_,_,_,swg⟩:=fact g (Ze.refl _ _)
 by_cases ZA:k<l.length
 case neg=>
  have ZH:¬(k:Int)<l.length:=by omega
  have e:Xz l a k=none:=by unfold Xz;rw[if_neg (fun hn=>ZA hn.1)]
  simp -implicitDefEqProofs only[go_sem,↓reduceIte,f2,f5,f7,f8,rt,ZH,ra,wf,hlz]
  exact done g (Ze.refl _ _) e
 have ZH:(k:Int)<l.length:=by omega
 obtain⟨q',d',hv,hh⟩:=swg.Us
 simp only[Value.slice.injEq,true_and]at hv
 obtain⟨rfl,rfl⟩:=hv
 obtain⟨bx,ox,rfl,tj,Yx⟩:=hh (by intro e;subst e;simp at ZA)
 have rx:=Yx k ZA
 have hx:=ZF swg.byte k
 obtain⟨N,hN⟩:=Zu (DD l k)
 have hN':N=1+l.getD k 0:=hN
 have e1:(1:Int)+((l.getD k 0:Nat):Int)=(N:Int):=by omega
 have e2:(N:Int)+4=((N+4:Nat):Int):=by omega
 have d1:¬cw=k:=by omega
 have n0:(0:Int)<((l.length-k:Nat):Int):=by omega
 have n1:(0:Int)≤(k:Int):=by omega
 have n2:(k:Int)≤(l.length:Int):=by omega
 by_cases hsh:l.length-k<N+4
 case pos=>
  have Zaz:((l.length-k:Nat):Int)<((N+4:Nat):Int):=by omega
  have e:Xz l a k=none:=by unfold Xz;rw[←hN,if_neg (fun hn=>by omega)]
  simp -implicitDefEqProofs only[go_sem,↓reduceIte,f2,f5,f7,f8,rt,ZH,ra,wf,hlz,rx,e1,e2,d1,n0,n1,n2,Zaz,Int.toNat_natCast]
  exact done g (Ze.refl _ _) e
 have Zaz:¬((l.length-k:Nat):Int)<((N+4:Nat):Int):=by omega
 have n3:(0:Int)≤(N:Int):=by omega
 have n4:(N:Int)≤((cw-k:Nat):Int):=by omega
 simp -implicitDefEqProofs only[go_sem,↓reduceIte,f2,f5,f7,f8,rt,ZH,rx,e1,e2,d1,n0,n1,n2,n3,n4,Zaz,Int.toNat_natCast]
 have sN:Bs g (.slice (some ⟨bx,ox+k,none⟩) N (cw-k)) ((l.drop k).take N):=AZ swg rfl (by omega) rfl rfl
 have Bg:Ze h.size h g:=B2.trans (hg.mono (by omega))
 refine (Hv T g _ _ sN (tk.Js Bg)).use ?_
 rintro _ g1 ⟨⟨w5,rfl,o5⟩,b5⟩
 have e0:RJ ((l.drop k).take N).length=0:=by unfold RJ;rw[List.length_take,List.length_drop,if_neg (by omega)]
 rw[e0,if_pos rfl]at o5
 rw[e0]
 have ml:=Jx ((l.drop k).take N)
 obtain⟨M,hM⟩:=Zu (TZ ((l.drop k).take N))
 rw[←hM]at o5 ml
 obtain⟨p5,c5,rfl,hc5⟩:=o5.open
 have sM:=o5.bs
 obtain⟨rt1,ra1,wf1,ZnL,bA1,xA1,oA1,sw1⟩:=fact g1 b5
 have s5:=b5.size
 have h4:(4:Int)≤(c5:Int):=by omega
 have n5:((N+4:Nat):Int)≤((cw-k:Nat):Int):=by omega
 have n6:(N:Int)≤((N+4:Nat):Int):=by omega
 have n7:(0:Int)≤((N+4:Nat):Int):=by omega
 have d2:¬cw-k=N:=by omega
 have hMd:Bs g1 (.slice p5 4 c5) (M.take 4):=sM.TN (by omega) c5
 have hRd:Bs g1 (.slice (some ⟨bx,ox+k+N,none⟩) (N+4-N) (cw-k-N)) ((l.drop (k+N)).take 4):=AZ sw1 rfl (by omega) (by omega) (by omega)
 simp -implicitDefEqProofs only[go_sem,↓reduceIte,f2,f5,f7,f8]
 refine VS.w (g1.size) [] (.q 0 (.q 1 (.q 2 (.q 3 (.q 4 (.q 5 (.q 6 (.s 7 (.q 8 .nil))))))))) mixed (by kernel_rfl) ?_
 simp -implicitDefEqProofs only[go_sem,↓reduceIte,f2,f5,f7,f8,h4,e2,n3,n5,n6,n7,d2,Int.toNat_natCast]
 refine (Gz T g1 _ _ (M.take 4) ((l.drop (k+N)).take 4) hMd hRd (by rw[List.length_take];omega)).pure ?_
 have eR:(l.drop (k+N)).take 4=(l.drop (k+DD l k)).take 4:=by rw[←hN]
 by_cases heq:M.take 4=(l.drop (k+N)).take 4
 case neg=>
  have hd:decide (M.take 4=(l.drop (k+N)).take 4)=false:=decide_eq_false heq
  have e:Xz l a k=none:=by
   unfold Xz
   rw[←hN,←hM,if_neg (fun hn=>heq hn.2.2)]
  rw[hd]
  simp -implicitDefEqProofs only[go_sem,↓reduceIte,f2,f5,f7,f8,ra1,wf1,ZnL]
  exact done g1 b5 e
 have hd:decide (M.take 4=(l.drop (k+N)).take 4)=true:=decide_eq_true heq
 rw[hd]
 obtain⟨bd,Ak⟩:=Zu ((l.drop (k+1)).take (N-1))
 have xK:Xz l a k=(Jp a bd).map fun x=>(x,k+(N+4)):=by
  unfold Xz
  rw[←hN,←hM,if_pos ⟨ZA,by omega,heq⟩,Ak]
 have lbd:bd.length=N-1:=by rw[Ak,List.length_take,List.length_drop];omega
 have sbd:Bs g1 (.slice (some ⟨bx,ox+k+1,none⟩) (N-1) (cw-k-1)) bd:=by rw[Ak];exact AZ sw1 rfl (by omega) (by omega) rfl
 have call:∀G,Ze g1.size g1 G→Zd Tryz.prog T 99 #[.agg #[.int .i64 a.p.r,.int .i64 a.p.n,.slice p1 a.l.length c1],.slice (some ⟨bx,ox+k+1,none⟩) (N-1) (cw-k-1)] G fun v' h'=>G6 G.size h' v' a bd∧Ze G.size G h':=fun G hG=>
  nJ T G a.p p1 c1 a.l _ (N-1) (cw-k-1) bd (oA1.ts.Z4 hG) (sbd.Z4 hG) lbd (by omega) (by omega) (by omega)
 have n8:(1:Int)≤(N:Int):=by omega
 have d3:¬cw-k=1:=by omega
 have q1:A<g1.size:=by omega
 have Zfj:∀(G:Hp) (b:Nat) (z w:List Value),z.length=3→w.length=3→w.all Z5=true→G[b]? = some (.cells z.toArray 131)→wr G ⟨b,0,none⟩ w=some (G.setIfInBounds b (.cells w.toArray 131)):=by
  intro G b z w hz h3 h1 hx
  rw[ZP (b:=b) hx 0 w,ZK (by rw[h3,hz]),if_pos ⟨by rw[h3,hz];simp,h1⟩]
 simp -implicitDefEqProofs only[go_sem,↓reduceIte,f2,f5,f7,f8]
 refine VS.mono (N:=fun F' g'=>Ze g1.size g1 g'∧F' 2=.pointer (some ⟨h.size+1,0,none⟩)∧F' 5=.pointer (some ⟨h1.size,0,none⟩)∧F' 7=.pointer (some ⟨A,0,none⟩)∧F' 8=.int .i64 k∧F' 10=.int .i64 N∧F' 14=.bool (Jp a bd).isSome∧∃(A':Nat) (P:XO) (p m:_) (c:Nat),g1.size≤A'∧F' 13=.pointer (some ⟨A',0,none⟩)∧g'[A']? = some (.cells (YJ P (.slice p m c)).toArray 131)∧∀x,Jp a bd=some x→P=x.p∧Jh g1.size 161 Zm 8 g' (.slice p m c) x.l) ?_ ?_ (fun _ _ _ h=>h) (fun _ _ h=>h)
 ·refine VS.w (g1.size) [] (.q 0 (.q 1 (.q 2 (.q 3 (.or 4 (.q 5 (.q 6 (.q 7 (.s 8 (.s 9 (.q 10 .nil)))))) (.s 8 (.s 4 (.q 5 (.q 6 (.q 7 (.s 9 (.q 10 .nil)))))))))))) mixed (by kernel_rfl) ?_
  simp -implicitDefEqProofs only[go_sem,↓reduceIte,f2,f5,f7,f8,ra1,q1,n3,n4,n8,d3,Int.toNat_natCast]
  refine⟨?_,?_⟩
  ·refine (call g1 (Ze.refl _ _)).use ?_
   rintro _ g2 ⟨⟨P,p2,m2,c2,rfl,h2x⟩,b6⟩
   have s6:=b6.size
   unfold YJ
   simp -implicitDefEqProofs only[go_sem,↓reduceIte,f2,f5,f7,f8,b6]
   exact⟨_,_,_,_,_,s6,rfl,Zb,fun x hx=>⟨(h2x x hx).1,(h2x x hx).2.push _⟩⟩
  ·refine (call (g1.push (.cells [.int .i64 0,.int .i64 0,.slice none 0 0].toArray 131)) (Ze.push (Nat.le_refl _) _)).use ?_
   rintro _ g2 ⟨⟨P,p2,m2,c2,rfl,h2x⟩,b6⟩
   have B6:Ze g1.size g1 g2:=(Ze.push (Nat.le_refl _) _).trans (b6.mono (by simp))
   have xA:=b6.get (by simp) Zb
   have yA:=Zfj g2 g1.size _ [.int .i64 P.r,.int .i64 P.n,.slice p2 m2 c2] rfl rfl rfl xA
   have hz:=Za xA
   unfold YJ
   simp -implicitDefEqProofs only[go_sem,↓reduceIte,f2,f5,f7,f8,B6,yA,hz]
   exact⟨_,_,_,_,_,Nat.le_refl _,rfl,Zw xA,fun x hx=>⟨(h2x x hx).1,((h2x x hx).2.ZQ (b:=g1.size) (by simp) _).mono (by simp)⟩⟩
 rintro F' g' ⟨hB,f2,f5,f7,f8,f10,f14,A',P,p2,m2,c2,hA',f13,xA',hx'⟩
 have sB:=hB.size
 have hgG:Ze g.size g g':=b5.trans (hB.mono s5)
 obtain⟨rt2,A0,wf2,ZnM,bA2,xA2,oA2,sw2⟩:=fact g' hgG
 cases CI:Jp a bd with
 | none=>
  have e:Xz l a k=none:=by rw[xK,CI];rfl
  rw[CI]at f14
  simp -implicitDefEqProofs only[go_sem,↓reduceIte,f2,f5,f7,f8,f10,f14,A0,wf2,ZnM]
  exact done g' hgG e
 | some x=>
  obtain⟨rfl,ox2⟩:=hx' x CI
  obtain⟨p3,c3,e3,_⟩:=ox2.open
  simp only[Value.slice.injEq]at e3
  obtain⟨rfl,rfl,rfl⟩:=e3
  have e:Xz l a k=some (x,k+(N+4)):=by rw[xK,CI];rfl
  have rA':rd g' ⟨A',0,none⟩ 3=some [.int .i64 x.p.r,.int .i64 x.p.n,.slice p2 x.l.length c2]:=Zo xA' rfl
  have wA:=Zfj g' A _ [.int .i64 x.p.r,.int .i64 x.p.n,.slice p2 x.l.length c2] rfl rfl rfl xA2
  have zA:=Za xA2
  have e4:(k:Int)+((N+4:Nat):Int)=((k+(N+4):Nat):Int):=by omega
  have lx:=G7 CI
  rw[CI]at f14
  simp -implicitDefEqProofs only[go_sem,↓reduceIte,f2,f5,f7,f8,f10,f13,f14,rA',wA,zA,e2,e4]
  refine⟨⟨bA2.Zk (Nat.le_refl _) _,f2,f5,f7,k+(N+4),x,p2,c2,by omega,rfl,Zw xA2,(ox2.ZQ (by omega) _).mono (by omega),by omega,fun r j hr=>Zfh r j (.go e hr)⟩,?_⟩
  simp only[vi,Zh,↓reduceIte,f8];omega
def nM (B:Nat) (h':Hp) (v':Value) (l:List Nat) (n:Int):Prop:=∃(r:Vi) (k:Nat) (E:Int) (w:Value),v'=.tuple [.agg [w,.int .i64 (if E=0 then (if (k:Int)<n then (k:Int) else n) else 0)].toArray,.int .i64 E].toArray∧Z1 B 5 h' w (if E=0 then l.take k else [])∧k≤l.length ∧
 if Y5 l n then E=0∧Rec l QG 0 r k else E=5∧r=QG∧k=0
theorem gO (T:World) (h:Hp) (v:Value) (n:Int) (l:List Nat) (s:Bs h v l) (Jg:WO v) (hl:l.length≤140737488355328) (tk:Tk h) :
  Zd Tryz.prog T 81 #[.agg [v,.int .i64 n].toArray] h fun v' h'=>nM h.size h' v' l n∧Ze h.size h h':=by
 obtain⟨p,c,rfl,_⟩:=s.open
 have Jg:l.length≤c:=Jg
 refine Zd.XM (args:=[_]) Tryz.func81 rfl rfl rfl rfl ?_
 unfold nM
 simp -implicitDefEqProofs only[go_sem,↓reduceIte]
 obtain⟨h0,XR⟩:=Zu ((h.push (.cells [.slice p l.length c,.int .i64 n].toArray 126)).push (.cells [.slice none 0 0,.int .i64 0].toArray 126):Hp)
 have b0:Ze h.size h h0:=by rw[XR];exact ((Ze.refl _ _).add _).add _
 have s0:h0.size=h.size+2:=by rw[XR];simp
 have t0:h0[h.size]? = some (.cells [.slice p l.length c,.int .i64 n].toArray 126):=by
  rw[XR,Array.getElem?_push,if_neg (by simp),Zb]
 have z0:h0[h.size+1]? = some (.cells [.slice none 0 0,.int .i64 0].toArray 126):=by
  rw[XR,Array.getElem?_push,if_pos (by simp)]
 have e0:(h.push (.cells #[Value.slice p l.length c,.int .i64 n] 126)).push (.cells #[Value.slice none 0 0,.int .i64 0] 126)=h0:=XR.symm
 have qs:(h.push (.cells [Value.slice p l.length c,.int .i64 n].toArray 126)).push (.cells [Value.slice none 0 0,.int .i64 0].toArray 126)=h0:=XR.symm
 first|rw[e0]|rw[qs]
 clear e0 qs XR
 refine (Ki T h0 _ n l (s.Z4 b0) hl (tk.Js b0)).use ?_
 rintro _ h1 ⟨⟨r,k,E,w1,rfl,o1,hk,hr,q⟩,b1⟩
 have s1:=b1.size
 obtain⟨p1,c1,rfl,_⟩:=o1.open
 unfold YJ
 obtain⟨h2,Wb⟩:=Zu (h1.push (.cells [.int .i64 r.p.r,.int .i64 r.p.n,.slice p1 r.l.length c1].toArray 131):Hp)
 have b2:Ze h1.size h1 h2:=by rw[Wb];exact Ze.push (Nat.le_refl _) _
 have s2:h2.size=h1.size+1:=by rw[Wb];simp
 have B2:Ze h.size h h2:=b0.trans ((b1.mono (by omega)).trans (b2.mono (by omega)))
 have t2:=b2.get (by omega) (b1.get (by omega) t0)
 have z2:=b2.get (by omega) (b1.get (by omega) z0)
 have y2:=ZP z2 0
 have RD:h.size+1<h2.size:=by omega
 have eh2:h1.push (.cells #[Value.int .i64 r.p.r,.int .i64 r.p.n,.slice p1 r.l.length c1] 131)=h2:=Wb.symm
 clear Wb
 by_cases ok:Y5 l n
 case neg=>
  have q0:=q
  rw[if_neg ok]at q
  obtain⟨rfl,rfl,rfl⟩:=q
  have z1:=b1.get (by omega) z0
  have y1:=ZP z1 0
  have Yr:¬h.size+1=h1.size:=by omega
  have nC:h.size+1<h1.size:=by omega
  have B1:Ze h.size h h1:=b0.trans (b1.mono (by omega))
  simp -implicitDefEqProofs only[go_sem,↓reduceIte,y1,Yr,nC]
  refine⟨⟨QG,0,5,.slice none 0 0,rfl,Z1.nil _ _ _,Nat.zero_le _,q0⟩,?_⟩
  exact (B1.Zk (by omega) _).Yg (by simp;omega) _
 have q0:=q
 rw[if_pos ok]at q
 obtain⟨rfl,q⟩:=q
 have l1:=ok.1
 have r2:V.hc h2 ⟨h.size,0,none⟩=some (.slice p l.length c):=by rw[Zg t2];rfl
 have n2:V.hc h2 ⟨h.size,1,none⟩=some (.int .i64 n):=by rw[Zg t2];rfl
 have k1:(0:Int)≤(k:Int):=by omega
 have k2:(k:Int)≤(c:Int):=by omega
 have q1:h.size<h2.size:=by omega
 simp -implicitDefEqProofs only[go_sem,↓reduceIte]
 rw[eh2]
 refine VS.w (h2.size) [10,11] (.q 0 (.q 1 (.q 2 (.q 3 (.q 5 (.q 6 (.q 7 (.q 8 (.s 4 (.q 9 (.w 10 (.w 11 .nil)))))))))))) mixed (by kernel_rfl) ?_
 simp -implicitDefEqProofs only[go_sem,↓reduceIte,r2,n2,k1,k2,q1,Int.toNat_natCast]
 refine (LA T h2 _ (l.take k) ((s.Z4 B2).TN hk c) (by rw[List.length_take];omega)).use ?_
 rintro w3 h3 ⟨o3,b3⟩
 obtain⟨p3,c3,rfl,_⟩:=o3.open
 have s3:=b3.size
 have z3:=b3.get (by omega) z2
 have fK:h.size+1<h3.size:=by omega
 have y3:=ZP z3 0
 simp -implicitDefEqProofs only[go_sem,↓reduceIte,b3,y3,fK]
 refine⟨⟨r,k,0,_,rfl,?_,hk,q0⟩,(B2.trans (b3.mono (by omega))).Zk (by omega) _⟩
 exact (o3.ZQ (by omega) _).mono (by omega)
def YR (rc:List Nat):List Nat:=NN (QT (rc.getD 0 0)) (rc.drop 1)
def Xc (l:List Nat) (i:Nat):Int:=((Xp l (4*i):Nat):Int)
def DG (PL:List Nat) (now:Int):Int:=VD ((PL.take 22).getD 0 0:Nat) ((PL.take 22).getD 1 0:Nat) (Xp (PL.take 22) 2:Nat) (Xc (PL.drop 22) 0) (Xc (PL.drop 22) 1) (Xc (PL.drop 22) 2) (Xc (PL.drop 22) 3) (Xc (PL.drop 22) 4) now
def cW (PL:List Nat) (X:Nat) (now:Int):Int:=if Xc (PL.drop 22) 0≠0∧Xc (PL.drop 22) 1≠(X:Nat) then 11 else DG PL now
def DH (PL:List Nat) (X:Nat) (now:Int):Int:=if J4 (PL.drop 22)≠0 then J4 (PL.drop 22) else cW PL X now
def DI (PL:List Nat) (X:Nat) (now:Int):Int:=if JE WY (PL.take 22)≠0 then JE WY (PL.take 22) else DH PL X now
def DJ (PL:List Nat) (X:Nat) (now:Int):Int:=if PL.length≠42 then 3 else DI PL X now
def Hy (te:Int) (PL:List Nat) (X:Nat) (now:Int):Int:=if te≠0 then te else DJ PL X now
def ZX (rc:List Nat) (now:Int):Int:=
 if rc.length=0 then 13 else if X2 (rc.getD 0 0:Nat)≠0 then X2 (rc.getD 0 0:Nat) else
 Hy (UH (QT (rc.getD 0 0)) 0 0 X1 (rc.drop 1)) (YR rc) (rc.getD 0 0) now
def IK (rc:List Nat) (now:Int):List Value:=if ZX rc now=0 then Qi (Xc ((YR rc).drop 22) 0) (Xc ((YR rc).drop 22) 1) (Xc ((YR rc).drop 22) 2) (Xc ((YR rc).drop 22) 3) (Xc ((YR rc).drop 22) 4) else Mm
theorem A7 {key l:List Nat} (h:JE key l=0):GZ key l=[.int .i64 (l.getD 0 0:Nat),.int .i64 (l.getD 1 0:Nat),.int .i64 (Xp l 2:Nat)]:=by unfold GZ;rw[if_pos h];rfl
theorem gP {key l:List Nat} (h:¬JE key l=0):GZ key l=[.int .i64 0,.int .i64 0,.int .i64 0]:=by unfold GZ;rw[if_neg h];rfl
theorem gQ {l:List Nat} (h:J4 l=0):LC l=[.int .i64 (Xc l 0),.int .i64 (Xc l 1),.int .i64 (Xc l 2),.int .i64 (Xc l 3),.int .i64 (Xc l 4)]:=by unfold LC;rw[if_pos h];rfl
theorem gS {l:List Nat} (h:¬J4 l=0):LC l=[.int .i64 0,.int .i64 0,.int .i64 0,.int .i64 0,.int .i64 0]:=by unfold LC;rw[if_neg h];rfl
theorem Je {rc:List Nat} {now:Int} (h:¬ZX rc now=0):IK rc now=[.int .i64 0,.int .i64 0,.int .i64 0,.int .i64 0,.int .i64 0]:=by unfold IK;rw[if_neg h];rfl
theorem OQ {rc:List Nat} {now:Int} (h:ZX rc now=0):IK rc now=[.int .i64 (Xc ((YR rc).drop 22) 0),.int .i64 (Xc ((YR rc).drop 22) 1),.int .i64 (Xc ((YR rc).drop 22) 2),.int .i64 (Xc ((YR rc).drop 22) 3),.int .i64 (Xc ((YR rc).drop 22) 4)]:=by unfold IK;rw[if_pos h];rfl
set_option maxHeartbeats 2000000 in
theorem Kj (T:World) (h:Hp) (v:Value) (rc:List Nat) (now:Int) (s:Bs h v rc) (Jg:WO v) (AH:rc.length≤140737488355328) (tk:Tk h) (tn:En 0 niv TA h) :
  Zd Tryz.prog T 19 #[v,.int .i64 now] h fun v' h'=>v'=.tuple [.agg (IK rc now).toArray,.int .i64 (ZX rc now)].toArray∧Ze h.size h h':=by
 obtain⟨p,c,rfl,_⟩:=s.open
 have bH:rc.length≤c:=Jg
 refine Zd.XM (args:=[_,_]) Tryz.func19 rfl rfl rfl rfl ?_
 simp -implicitDefEqProofs only[go_sem,↓reduceIte]
 obtain⟨h0,XR⟩:=Zu (h.push (.cells [.int .i64 0,.int .i64 0,.int .i64 0,.int .i64 0,.int .i64 0].toArray 47):Hp)
 have b0:Ze h.size h h0:=by rw[XR];exact (Ze.refl _ _).add _
 have s0:h0.size=h.size+1:=by rw[XR];simp
 have z0:h0[h.size]? = some (.cells [.int .i64 0,.int .i64 0,.int .i64 0,.int .i64 0,.int .i64 0].toArray 47):=by rw[XR];exact Zb
 have e0:h.push (.cells #[Value.int .i64 0,.int .i64 0,.int .i64 0,.int .i64 0,.int .i64 0] 47)=h0:=XR.symm
 have qs:h.push (.cells [Value.int .i64 0,.int .i64 0,.int .i64 0,.int .i64 0,.int .i64 0].toArray 47)=h0:=XR.symm
 first|rw[e0]|rw[qs]
 clear e0 qs XR
 have fin:∀(G:Hp) (w:List Value),w.length=5→w.all Z5=true→G[h.size]? = some (.cells [.int .i64 0,.int .i64 0,.int .i64 0,.int .i64 0,.int .i64 0].toArray 47)→wr G ⟨h.size,0,none⟩ w=some (G.setIfInBounds h.size (.cells w.toArray 47)):=by
  intro G w h3 h1 hx
  rw[ZP (b:=h.size) hx 0 w,ZK (by rw[h3];rfl),if_pos ⟨by rw[h3];simp,h1⟩]
 by_cases l0:rc.length=0
 case pos=>
  have l0':(rc.length:Int)=0:=by omega
  have ee:=show ZX rc now=13 by unfold ZX;rw[if_pos l0]
  rw[Je (by rw[ee];exact (by decide)),ee]
  have yz:=fin h0 [.int .i64 0,.int .i64 0,.int .i64 0,.int .i64 0,.int .i64 0] rfl rfl z0
  have hz:=Za z0
  simp -implicitDefEqProofs only[go_sem,↓reduceIte,l0',yz,hz]
  try exact (b0).Zk (Nat.le_refl _) _
 have l0':¬(rc.length:Int)=0:=by omega
 have n0:(0:Int)<(rc.length:Int):=by omega
 have n1:(1:Int)≤(rc.length:Int):=by omega
 obtain⟨q',d',hv,hh⟩:=(s.Z4 b0).Us
 simp only[Value.slice.injEq,true_and]at hv
 obtain⟨rfl,rfl⟩:=hv
 obtain⟨bb,oo,rfl,Ut,Yx⟩:=hh (by intro e;subst e;simp at l0)
 have x0:=Yx 0 (by omega)
 rw[Nat.add_zero]at x0
 have Tb:=ZF s.byte 0
 obtain⟨X,hX⟩:=Zu (rc.getD 0 0)
 rw[←hX]at x0 Tb
 obtain⟨PL,hPL⟩:=Zu (NN (QT X) (rc.drop 1))
 obtain⟨te,hte⟩:=Zu (UH (QT X) 0 0 X1 (rc.drop 1))
 have ePL:YR rc=PL:=by rw[hPL,hX];rfl
 have E00:ZX rc now=if X2 (X:Nat)≠0 then X2 (X:Nat) else Hy te PL X now:=by
  unfold ZX
  rw[if_neg l0,←hX,←hte,ePL]
 simp -implicitDefEqProofs only[go_sem,↓reduceIte,l0',n0,x0]
 refine (Kf T h0 _ (tk.Js b0)).use ?_
 rintro _ h1 ⟨⟨w1,rfl,k1,o1,f1⟩,b1⟩
 have B1:=b0.trans (b1.mono b0.size)
 have s1:=b1.size
 have z1:=b1.get (by omega) z0
 by_cases ke:X2 (X:Nat)=0
 case neg=>
  generalize X2 (X:Nat)=KE at *
  have ee:=show ZX rc now=KE by rw[E00,if_pos ke]
  rw[Je (by rw[ee];exact ke),ee]
  have yz:=fin h1 [.int .i64 0,.int .i64 0,.int .i64 0,.int .i64 0,.int .i64 0] rfl rfl z1
  have hz:=Za z1
  simp -implicitDefEqProofs only[go_sem,↓reduceIte,ke,yz,hz]
  try exact (B1).Zk (Nat.le_refl _) _
 have E0:ZX rc now=Hy te PL X now:=by rw[E00,if_neg (fun hn=>hn ke)]
 rw[ke,if_pos rfl,Int.toNat_natCast]at o1
 rw[ke]
 have x7:X≤7:=by unfold X2 at ke;split at ke<;>omega
 obtain⟨p1,c1,rfl,UA⟩:=o1.open
 have lk:=NV X
 obtain⟨P1,hP1⟩:=Zu (if c=1 then some (⟨bb,oo,none⟩:Addr) else some ⟨bb,oo+1,none⟩)
 have sD:Bs h1 (.slice P1 (rc.length-1) (c-1)) (rc.drop 1):=by
  have sb1:=(s.Z4 b0).Z4 b1
  by_cases hc:c=1
  ·have mq:rc.length=1:=by omega
   have hd:rc.drop 1=[]:=List.drop_eq_nil_of_le (by omega)
   rw[hd,mq,hc]
   exact⟨(Ql.Ip 0 0 1 h1 P1).sl,fun x hx=>by cases hx⟩
  ·rw[hP1,if_neg hc]
   exact Td sb1 (k:=1) (by omega) rfl _
 have ZnR:WO (.slice P1 (rc.length-1) (c-1)):=by show rc.length-1≤c-1;omega
 have htk:Zd Tryz.prog T 32 #[.agg #[.slice p1 (QT X).length c1,.int .i64 0,.int .i64 0,.bool false,.bool false,.bool false,.bool false,.bool false,.bool false,.bool false,.bool false],.slice P1 (rc.length-1) (c-1)] h1 fun v' h'=>GW h1.size h' v' (QT X) 0 0 X1 (rc.drop 1)∧Ze h1.size h1 h':=Dn T h1 _ _ (QT X) (rc.drop 1) 0 0 X1 rfl o1 sD k1 ZnR
 simp -implicitDefEqProofs only[go_sem,↓reduceIte,n1]
 try rw[←hP1]
 refine htk.use ?_
 rintro _ h2 ⟨⟨cw,w2,rfl,⟨w3,rfl,o3⟩,o2⟩,b2⟩
 rw[←hte]at o2 o3 ⊢
 rw[←hPL]at o2
 have B2:=B1.trans (b2.mono B1.size)
 have s2:=b2.size
 have z2:=b2.get (by omega) z1
 obtain⟨CC,hCC⟩:=Zu (ZN w3 (if te=0 then 0 else 0) (if te=0 then max 0 (((UG (rc.drop 1):Nat):Int)+1) else 0) (if te=0 then NO 0 X1 (UG (rc.drop 1)) else X1))
 obtain⟨p3,c3,rfl,_⟩:=o3.open
 have lsn:(if te=0 then NO 0 X1 (UG (rc.drop 1)) else X1).length=8:=by
  split
  ·exact WQ _ _
  ·rfl
 have nN:CC.length=11:=by rw[hCC];exact Ya _ _ _ _ lsn
 have hCo:CC.all Z5=true:=by rw[hCC];exact Qd _ _ _
 have hCp:Yl [Value.slice none 0 0,.int .i64 0,.int .i64 0,.bool false,.bool false,.bool false,.bool false,.bool false,.bool false,.bool false,.bool false] 0 CC=CC:=ZK (by rw[nN];rfl)
 have ZaB:CC.length≤11:=by omega
 rw[←hCC]
 obtain⟨h3,qD⟩:=Zu (h2.push (.cells CC.toArray 84):Hp)
 have b3:Ze h2.size h2 h3:=by rw[qD];exact Ze.push (Nat.le_refl _) _
 have s3:h3.size=h2.size+1:=by rw[qD];simp
 have z3:=b3.get (by omega) z2
 have B3:=B2.trans (b3.mono B2.size)
 have o23:=o2.Z4 b3 (Nat.le_refl _)
 obtain⟨p2,c2,rfl,I4⟩:=o2.open
 have yz2:=fin h2 [.int .i64 0,.int .i64 0,.int .i64 0,.int .i64 0,.int .i64 0] rfl rfl z2
 have Zay:¬h.size=h2.size:=by omega
 have RD:h.size<h2.size:=by omega
 by_cases xM:te=0
 case neg=>
  have ee:ZX rc now=te:=by rw[E0];unfold Hy;rw[if_pos xM]
  rw[Je (by rw[ee];exact xM),ee]
  simp -implicitDefEqProofs only[go_sem,↓reduceIte,nN,hCo,hCp,ZaB,xM,yz2,Zay,RD]
  try exact (B2.Zk (Nat.le_refl _) _).Yg (by simp;omega) _
 have E1:ZX rc now=DJ PL X now:=by rw[E0];unfold Hy;rw[if_neg (fun hn=>hn xM)]
 rw[if_pos xM]at o23 I4
 try simp only[if_pos xM]
 by_cases l42:PL.length=42
 case neg=>
  have uz:¬(PL.length:Int)=42:=by omega
  have ee:ZX rc now=3:=by rw[E1];unfold DJ;rw[if_pos l42]
  rw[Je (by rw[ee];decide),ee]
  simp -implicitDefEqProofs only[go_sem,↓reduceIte,nN,hCo,hCp,ZaB,xM,uz,yz2,Zay,RD]
  try exact (B2.Zk (Nat.le_refl _) _).Yg (by simp;omega) _
 have uz:(PL.length:Int)=42:=by omega
 have E2:ZX rc now=DI PL X now:=by rw[E1];unfold DJ;rw[if_neg (fun hn=>hn l42)]
 simp -implicitDefEqProofs only[go_sem,↓reduceIte,nN,hCo,hCp,ZaB,xM,uz]
 rw[←qD]
 clear qD hCC o2 o3 hte
 have n22:(22:Int)≤(c2:Int):=by omega
 have sPL:=o23.bs
 have sT:Bs h3 (.slice p2 22 c2) (PL.take 22):=sPL.TN (by omega) c2
 have cT:WO (.slice p2 22 c2):=by show 22≤c2;omega
 obtain⟨PE,hPE⟩:=Zu (JE WY (PL.take 22))
 obtain⟨tc,tr,tu,hT,ZnW⟩:∃tc tr tu:Int,GZ WY (PL.take 22)=[.int .i64 tc,.int .i64 tr,.int .i64 tu]∧(PE=0→tc=((PL.take 22).getD 0 0:Nat)∧tr=((PL.take 22).getD 1 0:Nat)∧tu=(Xp (PL.take 22) 2:Nat)):=by
  rw[hPE]
  by_cases q:JE WY (PL.take 22)=0
  ·exact⟨_,_,_,A7 q,fun _=>⟨rfl,rfl,rfl⟩⟩
  ·exact⟨_,_,_,gP q,fun hn=>(q hn).elim⟩
 have tk3:=tk.Js B3
 try simp -implicitDefEqProofs only[go_sem,↓reduceIte,uz]
 refine VS.mono (N:=fun F' g'=>Ze h3.size h3 g'∧F' 0=.slice (some ⟨bb,oo,none⟩) rc.length c∧F' 1=.int .i64 now∧F' 4=.pointer (some ⟨h.size,0,none⟩)∧F' 9=.slice p2 PL.length c2∧F' 7=.int .i64 PE∧∃A,h3.size≤A∧F' 10=.pointer (some ⟨A,0,none⟩)∧g'[A]? = some (.cells [.int .i64 tc,.int .i64 tr,.int .i64 tu].toArray 75)) ?_ ?_ (fun _ _ _ h=>h) (fun _ _ h=>h)
 ·refine VS.w (h3.size) [] (.q 1 (.q 2 (.or 0 (.or 3 (.q 4 (.q 5 (.q 6 (.s 7 (.s 8 (.q 9 .nil)))))) (.s 7 (.s 3 (.q 4 (.q 5 (.q 6 (.s 8 (.q 9 .nil)))))))) (.s 7 (.s 0 (.s 3 (.q 4 (.q 5 (.q 6 (.s 8 (.q 9 .nil))))))))))) mixed (by kernel_rfl) ?_
  simp -implicitDefEqProofs only[go_sem,↓reduceIte,n22]
  have zt:∀(G:Hp) (k:Nat) (w:List Value),w.length=3→w.all Z5=true→G[k]? = some (.cells [.int .i64 0,.int .i64 0,.int .i64 0].toArray 75)→wr G ⟨k,0,none⟩ w=some (G.setIfInBounds k (.cells w.toArray 75)):=by
   intro G k w h3 h1 hx
   rw[ZP (b:=k) hx 0 w,ZK (by rw[h3];rfl),if_pos ⟨by rw[h3];simp,h1⟩]
  refine⟨?_,?_⟩
  ·refine (OO T h3 tk3).use ?_
   rintro w4 h4 ⟨⟨k4,o4⟩,b4⟩
   have s4:=b4.size
   simp -implicitDefEqProofs only[go_sem,↓reduceIte,b4,n22]
   refine⟨?_,?_⟩
   ·refine (Kd T h4 _ _ WY (PL.take 22) o4 (sT.Z4 b4) cT (tk3.Js b4)).use ?_
    rintro _ h5 ⟨rfl,b5⟩
    have s5:=b5.size
    have nO:Ze h3.size h3 h5:=b4.trans (b5.mono s4)
    rw[hT,←hPE]
    simp -implicitDefEqProofs only[go_sem,↓reduceIte,nO]
    exact⟨_,by omega,rfl,Zb⟩
   ·have bp:Ze h4.size h4 (h4.push (.cells [.int .i64 0,.int .i64 0,.int .i64 0].toArray 75)):=Ze.push (Nat.le_refl _) _
    have bp3:Ze h3.size h3 (h4.push (.cells [.int .i64 0,.int .i64 0,.int .i64 0].toArray 75)):=b4.trans (bp.mono s4)
    first|refine⟨bp3,?_⟩|skip
    refine (Kd T (h4.push (.cells [.int .i64 0,.int .i64 0,.int .i64 0].toArray 75)) _ _ WY (PL.take 22) (o4.Z4 bp) ((sT.Z4 b4).Z4 bp) cT ((tk3.Js b4).Js bp)).use ?_
    rintro _ h5 ⟨rfl,b5⟩
    have s5:=b5.size
    have nO:Ze h3.size h3 h5:=bp3.trans (b5.mono (by simp;omega))
    have xA:=b5.get (by simp) Zb
    have yA:=zt h5 h4.size [.int .i64 tc,.int .i64 tr,.int .i64 tu] rfl rfl xA
    have hz:=Za xA
    rw[hT,←hPE]
    simp -implicitDefEqProofs only[go_sem,↓reduceIte,nO,yA,hz]
    first
     | exact⟨nO.Zk (by omega) _,nO.Zk (by omega) _,_,by omega,rfl,Zw xA⟩
     | exact⟨nO.Zk (by omega) _,_,by omega,rfl,Zw xA⟩
     | exact⟨_,by omega,rfl,Zw xA⟩
  ·have bp3:Ze h3.size h3 (h3.push (.cells [.int .i64 0,.int .i64 0,.int .i64 0].toArray 75)):=Ze.push (Nat.le_refl _) _
   first|refine⟨bp3,?_⟩|skip
   refine (OO T (h3.push (.cells [.int .i64 0,.int .i64 0,.int .i64 0].toArray 75)) (tk3.Js bp3)).use ?_
   rintro w4 h4 ⟨⟨k4,o4⟩,b4⟩
   have s4:=b4.size
   have CK:Ze h3.size h3 h4:=bp3.trans (b4.mono (by simp))
   simp -implicitDefEqProofs only[go_sem,↓reduceIte,CK,n22]
   refine (Kd T h4 _ _ WY (PL.take 22) o4 (sT.Z4 CK) cT (tk3.Js CK)).use ?_
   rintro _ h5 ⟨rfl,b5⟩
   have s5:=b5.size
   have nO:Ze h3.size h3 h5:=CK.trans (b5.mono CK.size)
   have xA:=b5.get (by simp at s4;omega) (b4.get (by simp) Zb)
   have yA:=zt h5 h3.size [.int .i64 tc,.int .i64 tr,.int .i64 tu] rfl rfl xA
   have hz:=Za xA
   rw[hT,←hPE]
   simp -implicitDefEqProofs only[go_sem,↓reduceIte,nO,yA,hz]
   first
    | exact⟨nO.Zk (by omega) _,nO.Zk (by omega) _,_,by omega,rfl,Zw xA⟩
    | exact⟨nO.Zk (by omega) _,_,by omega,rfl,Zw xA⟩
    | exact⟨_,by omega,rfl,Zw xA⟩
 rintro F h6 ⟨b6,f0,f1,f4,f9,f7,A,hA3,f10,t6⟩
 have hA6:=Za t6
 have z6:=b6.get (by omega) z3
 have B6:=B3.trans (b6.mono B3.size)
 by_cases pe:PE=0
 case neg=>
  have ee:=show ZX rc now=PE by rw[E2];unfold DI;rw[←hPE,if_pos pe]
  rw[Je (by rw[ee];exact pe),ee]
  have yz:=fin h6 [.int .i64 0,.int .i64 0,.int .i64 0,.int .i64 0,.int .i64 0] rfl rfl z6
  have hz:=Za z6
  simp -implicitDefEqProofs only[go_sem,↓reduceIte,f0,f1,f4,f9,f7,f10,pe,yz,hz]
  try exact (B6).Zk (Nat.le_refl _) _
 have E3:ZX rc now=DH PL X now:=by rw[E2];unfold DI;rw[←hPE,if_neg (fun hn=>hn pe)]
 obtain⟨rfl,rfl,rfl⟩:=ZnW pe
 have n42:(22:Int)≤(PL.length:Int):=by omega
 obtain⟨q2,d2,ng,Wb⟩:=sPL.Us
 simp only[Value.slice.injEq,true_and]at ng
 obtain⟨rfl,rfl⟩:=ng
 obtain⟨b22,o22,rfl,_,_⟩:=Wb (by intro e;rw[e]at l42;cases l42)
 have d22:¬c2=22:=by omega
 have sB:=Td (sPL.Z4 b6) (k:=22) (by omega) rfl (c2-22)
 simp -implicitDefEqProofs only[go_sem,↓reduceIte,f0,f1,f4,f9,f7,f10,pe,n42,d22]
 refine (Hd T h6 _ (PL.drop 22) sB (by rw[List.length_drop];omega)).use ?_
 rintro _ h7 ⟨rfl,b7⟩
 have s7:=b7.size
 have z7:=b7.get (by omega) z6
 have t7:=b7.get hA6 t6
 have B7:=B6.trans (b7.mono B6.size)
 obtain⟨DE,hDE⟩:=Zu (J4 (PL.drop 22))
 have Yr:¬h.size=h7.size:=by omega
 have L9:h.size<h7.size:=by omega
 by_cases de:DE=0
 case neg=>
  have ee:ZX rc now=DE:=by rw[E3];unfold DH;rw[←hDE,if_pos de]
  rw[Je (by rw[ee];exact de),ee,gS (by rw[←hDE];exact de),←hDE]
  have yz:=fin h7 [.int .i64 0,.int .i64 0,.int .i64 0,.int .i64 0,.int .i64 0] rfl rfl z7
  simp -implicitDefEqProofs only[go_sem,↓reduceIte,f0,f1,f4,f9,f7,f10,de,yz,Yr,L9]
  try exact (B7.Zk (Nat.le_refl _) _).Yg (by simp;omega) _
 have E4:ZX rc now=cW PL X now:=by rw[E3];unfold DH;rw[←hDE,if_neg (fun hn=>hn de)]
 rw[gQ (by rw[←hDE];exact de),←hDE,de]
 have eA:DG PL now=VD ((PL.take 22).getD 0 0:Nat) ((PL.take 22).getD 1 0:Nat) (Xp (PL.take 22) 2:Nat) (Xc (PL.drop 22) 0) (Xc (PL.drop 22) 1) (Xc (PL.drop 22) 2) (Xc (PL.drop 22) 3) (Xc (PL.drop 22) 4) now:=rfl
 have eC:ZX rc now=0→IK rc now=[.int .i64 (Xc (PL.drop 22) 0),.int .i64 (Xc (PL.drop 22) 1),.int .i64 (Xc (PL.drop 22) 2),.int .i64 (Xc (PL.drop 22) 3),.int .i64 (Xc (PL.drop 22) 4)]:=fun e=>by rw[OQ e,ePL]
 have e4:cW PL X now=if Xc (PL.drop 22) 0≠0∧Xc (PL.drop 22) 1≠(X:Nat) then 11 else DG PL now:=rfl
 generalize Xc (PL.drop 22) 0=y0 at *
 generalize Xc (PL.drop 22) 1=y1 at *
 generalize Xc (PL.drop 22) 2=y2 at *
 generalize Xc (PL.drop 22) 3=y3 at *
 generalize Xc (PL.drop 22) 4=y4 at *
 obtain⟨h8,hh8⟩:=Zu (h7.push (.cells [.int .i64 y0,.int .i64 y1,.int .i64 y2,.int .i64 y3,.int .i64 y4].toArray 47):Hp)
 have e8:h7.push (.cells #[Value.int .i64 y0,.int .i64 y1,.int .i64 y2,.int .i64 y3,.int .i64 y4] 47)=h8:=hh8.symm
 try simp -implicitDefEqProofs only[go_sem,↓reduceIte,f0,f1,f4,f9,f7,f10,de]
 rw[e8]
 have b8:Ze h7.size h7 h8:=by rw[hh8];exact Ze.push (Nat.le_refl _) _
 have s8:h8.size=h7.size+1:=by rw[hh8];simp
 have c8:h8[h7.size]? = some (.cells [.int .i64 y0,.int .i64 y1,.int .i64 y2,.int .i64 y3,.int .i64 y4].toArray 47):=by rw[hh8];exact Zb
 clear e8 hh8
 have z8:=b8.get (by omega) z7
 have t8:=b8.get (by omega) t7
 have B8:=B7.trans (b8.mono B7.size)
 have k80:V.hc h8 ⟨h7.size,0,none⟩=some (.int .i64 y0):=by rw[Zg c8];rfl
 have k81:V.hc h8 ⟨h7.size,1,none⟩=some (.int .i64 y1):=by rw[Zg c8];rfl
 have rT8:rd h8 ⟨A,0,none⟩ 3=_:=Zo t8 rfl
 have rC8:rd h8 ⟨h7.size,0,none⟩ 5=_:=Zo c8 rfl
 have b18:Ze h1.size h1 h8:=(b2.trans ((b3.mono s2).trans ((b6.mono (by omega)).trans ((b7.mono (by omega)).trans (b8.mono (by omega))))))
 have x8:V.hc h8 ⟨bb,oo,none⟩=some (.int .u8 (X:Nat)):=by
  rw[b18.hc (by show bb<h1.size;omega),b1.hc (by exact Ut)];exact x0
 have yz8:=fin h8 [.int .i64 0,.int .i64 0,.int .i64 0,.int .i64 0,.int .i64 0] rfl rfl z8
 have yc8:=fin h8 [.int .i64 y0,.int .i64 y1,.int .i64 y2,.int .i64 y3,.int .i64 y4] rfl rfl z8
 have hz8:=Za z8
 refine VS.mono (N:=fun F' g'=>g'=h8∧F' 0=.slice (some ⟨bb,oo,none⟩) rc.length c∧F' 1=.int .i64 now∧F' 4=.pointer (some ⟨h.size,0,none⟩)∧F' 10=.pointer (some ⟨A,0,none⟩)∧F' 11=.pointer (some ⟨h7.size,0,none⟩)∧F' 78=.bool (decide (y0≠0∧y1≠(X:Nat)))) ?_ ?_ (fun _ _ _ h=>h) (fun _ _ h=>h)
 ·refine VS.q mixed (by kernel_rfl) ?_
  by_cases w0:y0=0
  ·have hd:decide (y0≠0∧y1≠(X:Nat))=false:=decide_eq_false (fun hn=>hn.1 w0)
   rw[hd]
   simp -implicitDefEqProofs only[go_sem,↓reduceIte,f0,f1,f4,f9,f7,f10,k80,w0]
  ·by_cases w1:y1=(X:Nat)
   ·have hd:decide (y0≠0∧y1≠(X:Nat))=false:=decide_eq_false (fun hn=>hn.2 w1)
    rw[hd]
    simp -implicitDefEqProofs only[go_sem,↓reduceIte,f0,f1,f4,f9,f7,f10,k80,k81,x8,n0,w0,w1]
   ·have hd:decide (y0≠0∧y1≠(X:Nat))=true:=decide_eq_true ⟨w0,w1⟩
    rw[hd]
    simp -implicitDefEqProofs only[go_sem,↓reduceIte,f0,f1,f4,f9,f7,f10,k80,k81,x8,n0,w0,w1]
 rintro F' g8 ⟨IL,g0,g1,g4,gt,gc,gb⟩
 rw[IL]
 clear IL
 by_cases qv:y0≠0∧y1≠(X:Nat)
 case pos=>
  have ee:ZX rc now=11:=by rw[E4,e4,if_pos qv]
  rw[decide_eq_true qv]at gb
  rw[Je (by rw[ee];decide),ee]
  simp -implicitDefEqProofs only[go_sem,↓reduceIte,g4,gb,yz8,hz8]
  try exact B8.Zk (Nat.le_refl _) _
 have E5:ZX rc now=DG PL now:=by rw[E4,e4,if_neg qv]
 rw[decide_eq_false qv]at gb
 have hal:Zd Tryz.prog T 36 #[.agg #[.int .i64 ((PL.take 22).getD 0 0:Nat),.int .i64 ((PL.take 22).getD 1 0:Nat),.int .i64 (Xp (PL.take 22) 2:Nat)],.agg #[.int .i64 y0,.int .i64 y1,.int .i64 y2,.int .i64 y3,.int .i64 y4],.int .i64 now] h8 fun v' h'=>v'=.int .i64 (DG PL now)∧Ze h8.size h8 h':=by
  rw[eA]
  exact gy T h8 _ _ _ y0 y1 y2 y3 y4 now (tn.Js B8)
 simp -implicitDefEqProofs only[go_sem,↓reduceIte,g0,g1,g4,gt,gc,gb,rT8,rC8]
 refine hal.use ?_
 rintro _ h9 ⟨rfl,b9⟩
 have s9:=b9.size
 have z9:=b9.get (by omega) z8
 have c9:=b9.get (by omega) c8
 have rC9:rd h9 ⟨h7.size,0,none⟩ 5=_:=Zo c9 rfl
 have B9:=B8.trans (b9.mono B8.size)
 have yz9:=fin h9 [.int .i64 0,.int .i64 0,.int .i64 0,.int .i64 0,.int .i64 0] rfl rfl z9
 have yc9:=fin h9 [.int .i64 y0,.int .i64 y1,.int .i64 y2,.int .i64 y3,.int .i64 y4] rfl rfl z9
 have hz9:=Za z9
 generalize DG PL now=OA at *
 by_cases oa:OA=0
 ·have ee:ZX rc now=0:=by rw[E5,oa]
  rw[eC ee,ee]
  simp -implicitDefEqProofs only[go_sem,↓reduceIte,g4,gc,oa,rC9,yc9,hz9]
  try exact B9.Zk (Nat.le_refl _) _
 ·rw[Je (by rw[E5];exact oa),E5]
  simp -implicitDefEqProofs only[go_sem,↓reduceIte,g4,gc,oa,yz9,hz9]
  try exact B9.Zk (Nat.le_refl _) _
end Go.Proofs.YtkfhncfkagcamaaGreatDoor
