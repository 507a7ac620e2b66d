/- A vote, laid among votes that stand by slots: what the program computes; no condition but those in the statements. -/
import Derived.Test.YtboeoomhjbcecaaGreatDoorPik
import Derived.Test.YtboeoomhjbcecaaGreatDoorW21
import Derived.Test.YtboeoomhjbcecaaGreatDoorChw
import Derived.Test.YtboeoomhjbcecaaGreatDoorTape
import Derived.Test.YtboeoomhjbcecaaGreatDoorVst
import Derived.Test.YtboeoomhjbcecaaGreatDoorTakf
import Derived.Test.YtboeoomhjbcecaaGreatDoorPak
import Derived.Test.YtboeoomhjbcecaaGreatDoorTab
namespace Go.Proofs.YtboeoomhjbcecaaGreatDoor
open Go Go.V
set_option linter.unusedSimpArgs false
set_option linter.unusedVariables false
set_option maxRecDepth 100000
theorem Gt (T:World) (h:Hp) (x y:Vt):Zc Tryz.prog T 107 #[.agg (Zo x).toArray,.agg (Zo y).toArray] h fun v' h'=>v'=.int .i64 (Rp x.slot y.slot)∧Zf h.size h h':=by
 refine Zc.Zk (args:=[_,_]) Tryz.func107 rfl rfl rfl rfl ?_;unfold Zo;simp -implicitDefEqProofs only[go_sem,↓reduceIte];refine (Vq T _ _ _).pure ?_;simp -implicitDefEqProofs only[go_sem,↓reduceIte]
 (repeat' (first|exact Zf.refl _ _|assumption|refine Zf.add ?_ _|refine Zf.Zm ?_ (by first|omega|(simp;omega)) _|refine Zf.trans (by assumption) ?_))
def Found (l:List Vt) (s:Int) (i:Nat) (b:Bool):Prop:=(b=true∧∃hi:i<l.length,l[i].slot=s)∨(b=false∧(∀j (hj:j<l.length),j<i→l[j].slot<s)∧∀j (hj:j<l.length),i≤j→s<l[j].slot)
theorem Cj (a b:Int):Rp a b<0↔a<b:=by unfold Rp;split<;>(try split)<;>omega
theorem Gu (a b:Int):Rp a b=0↔a=b:=by unfold Rp;split<;>(try split)<;>omega
theorem qe {x:Nat}:YV .u64 (x:Int) 1=((x/2:Nat):Int):=by
 rw[show (1:Int)=((1:Nat):Int) from rfl,SX .u64 x 1 (by decide),Nat.shiftRight_eq_div_pow]
theorem aW (T:World) (h:Hp) (u:Value) (l:List Vt) (v:Vt) (s:Ts Zo 8 h u l) (hs:Srt l) (hl:l.length≤2199023255552) :
  Zc Tryz.prog T 106 #[u,.agg (Zo v).toArray,.func (.func 107) #[] #[]] h fun v' h'=>(∃(i:Nat) (b:Bool),i≤l.length∧v'=.tuple [.int .i64 i,.bool b].toArray∧Found l v.slot i b)∧Zf h.size h h':=by
 obtain⟨p,c,rfl,YS⟩:=Q7 s;refine Zc.Zk (args:=[_,_,_]) Tryz.func106 rfl rfl rfl rfl ?_;unfold Zo;simp -implicitDefEqProofs only[go_sem,↓reduceIte];refine VS.ZW (fun F g=>Zf h.size h g∧g[h.size]? = some (.cells (Zo v).toArray 109)∧F 0=.slice p l.length c∧F 2=.func (.func 107) #[] #[]∧F 4=.pointer (some ⟨h.size,0,none⟩)∧F 8=.int .i64 l.length∧∃i j:Nat,i≤j∧j≤l.length∧F 9=.int .i64 i∧F 10=.int .i64 j∧(∀k (hk:k<l.length),k<i→l[k].slot<v.slot)∧(∀k (hk:k<l.length),j≤k→v.slot≤l[k].slot))
  (fun F _=>(vi (F 10)).toNat-(vi (F 9)).toNat) rfl ⟨(Zf.refl _ _).add _,Zb,rfl,rfl,rfl,rfl,0,l.length,by omega,by omega,rfl,rfl,fun k _ hk=>by omega,fun k hk Oh=>by omega⟩ ?_
 rintro F g ⟨hg,hx,f0,f2,f4,f8,i,j,kO,hj,f9,f10,lo,hi⟩;have T7:=hg.size;have hz:=Za hx;have rx:rd g ⟨h.size,0,none⟩ 8=some (Zo v):=Zq hx rfl;unfold Zo at rx;by_cases ZD:i<j
 ·have ZL:(i:Int)<j:=by omega
  have e1:(i:Int)+(j:Int)=((i+j:Nat):Int):=by omega
  have e2:((i+j:Nat):Int)%18446744073709551616=((i+j:Nat):Int):=by omega
  have e3:=qe (x:=i+j);obtain⟨m,hm⟩:=Zx ((i+j)/2);rw[←hm]at e3;have eI:m<l.length:=by omega
  have Zpf:(m:Int)<l.length:=by omega
  obtain⟨bb,oo,rfl,Wi,_,YS⟩:=YS (by intro e;rw[e]at eI;simp at eI);have rm:rd g ⟨bb,oo+m*8,none⟩ 8=some (Zo l[m]):=by rw[JQ hg (by exact Wi)];exact YS m eI
  obtain⟨y,hy⟩:=Zx (l[m]);rw[←hy]at rm;unfold Zo at rm;simp -implicitDefEqProofs only[go_sem,↓reduceIte,f9,f10,ZL,e1,e2,e3];refine VS.w (g.size) [] (.q 0 (.q 1 (.q 2 (.q 3 (.q 4 (.q 5 (.s 6 (.q 7 .nil)))))))) mixed (by kernel_rfl) ?_;have q1:bb<g.size:=by omega
  simp -implicitDefEqProofs only[go_sem,↓reduceIte,f0,f2,f4,Zpf,rm,rx,hz,q1];refine (Gt T g y v).use ?_;rintro _ g1 ⟨rfl,b1⟩;have Ni:=hg.trans (b1.mono T7);have QL:=b1.get hz hx;by_cases q:y.slot<v.slot
  ·have q':=(Cj _ _).2 q;simp -implicitDefEqProofs only[go_sem,↓reduceIte,q',f0,f2,f4,f8,f9,f10];refine⟨b1,⟨Ni,QL,f0,f2,f4,f8,m+1,j,by omega,hj,rfl,f10,fun k hk zS=>?_,hi⟩,?_⟩
   ·by_cases e:k=m
    ·subst e;rw[←hy];exact q
    ·have:=hs k m hk eI (by omega);rw[←hy]at this;omega
   ·simp only[vi,Zi,↓reduceIte,Nat.reduceEqDiff,f9,f10];omega
  ·have q':¬Rp y.slot v.slot<0:=fun h=>q ((Cj _ _).1 h);simp -implicitDefEqProofs only[go_sem,↓reduceIte,q',f0,f2,f4,f8,f9,f10];refine⟨b1,⟨Ni,QL,f0,f2,f4,f8,i,m,by omega,by omega,f9,rfl,lo,fun k hk zS=>?_⟩,?_⟩
   ·by_cases e:k=m
    ·subst e;rw[←hy];omega
    ·have:=hs m k eI hk (by omega);rw[←hy]at this;omega
   ·simp only[vi,Zi,↓reduceIte,Nat.reduceEqDiff,f9,f10];omega
 ·have ZL:¬(i:Int)<j:=by omega
  obtain rfl:i=j:=by omega
  by_cases Bx:i<l.length
  ·have qf:(i:Int)<l.length:=by omega
   obtain⟨bb,oo,rfl,Wi,_,YS⟩:=YS (by intro e;rw[e]at Bx;simp at Bx);have rm:rd g ⟨bb,oo+i*8,none⟩ 8=some (Zo l[i]):=by rw[JQ hg (by exact Wi)];exact YS i Bx
   have YJ:=hi i Bx (Nat.le_refl _);obtain⟨y,hy⟩:=Zx (l[i]);rw[←hy]at rm YJ;unfold Zo at rm;simp -implicitDefEqProofs only[go_sem,↓reduceIte,f9,f10,ZL];refine VS.w (g.size) [] (.q 0 (.q 1 (.q 2 (.q 3 (.q 4 (.q 5 (.q 6 (.q 7 (.q 8 (.q 9 (.q 10 (.s 11 (.q 12 (.q 13 (.q 14 (.q 15 .nil)))))))))))))))) mixed (by kernel_rfl) ?_;have q1:bb<g.size:=by omega
   simp -implicitDefEqProofs only[go_sem,↓reduceIte,f0,f2,f4,f8,f9,f10,qf,rm,rx,hz,q1];refine (Gt T g y v).use ?_;rintro _ g1 ⟨rfl,b1⟩;have Ni:=hg.trans (b1.mono T7);by_cases q:y.slot=v.slot
   ·have q':=(Gu _ _).2 q;simp -implicitDefEqProofs only[go_sem,↓reduceIte,q'];exact⟨b1,⟨i,true,by omega,rfl,.inl ⟨rfl,Bx,by rw[←hy];exact q⟩⟩,Ni⟩
   ·have q':¬Rp y.slot v.slot=0:=fun h=>q ((Gu _ _).1 h);simp -implicitDefEqProofs only[go_sem,↓reduceIte,q'];refine⟨b1,⟨i,false,by omega,rfl,.inr ⟨rfl,fun k hk zS=>lo k hk zS,fun k hk zS=>?_⟩⟩,Ni⟩;by_cases e:k=i
    ·subst e;rw[←hy];omega
    ·have:=hs i k Bx hk (by omega);rw[←hy]at this;omega
  ·have qf:¬(i:Int)<l.length:=by omega
   simp -implicitDefEqProofs only[go_sem,↓reduceIte,f9,f10,ZL];refine VS.w (g.size) [] (.q 0 (.q 1 (.q 2 (.q 3 (.q 4 (.q 5 (.q 6 (.q 7 (.q 8 (.q 9 (.q 10 (.s 11 (.q 12 (.q 13 (.q 14 (.q 15 .nil)))))))))))))))) mixed (by kernel_rfl) ?_;simp -implicitDefEqProofs only[go_sem,↓reduceIte,f0,f2,f4,f8,f9,f10,qf];exact⟨⟨i,false,by omega,rfl,.inr ⟨rfl,fun k hk zS=>lo k hk zS,fun k hk zS=>by omega⟩⟩,hg⟩
theorem XP (l:List Vt):(Zz Zo l).length=l.length*8:=X6 (n:=8) (fun _=>rfl) l
theorem Ck (l:List Vt):(Zz Zo l).all Z7=true:=by
 induction l with
 | nil=>rfl
 | cons x l ih=>rw[Zz,List.all_append,ih];rfl
theorem zeroV (k:Nat):(Builtin.zeroCells (rep 8 [Value.int .i64 0]).toArray k).toList.length=k*8:=by rw[Array.length_toList,YM];rfl
theorem jn (k:Nat):(Builtin.zeroCells (rep 8 [Value.int .i64 0]).toArray k).toList.all Z7=true:=by
 unfold Builtin.zeroCells;rw[List.all_eq_true];intro x hx;simp only[Array.toList_map,Array.toList_range,List.mem_map]at hx;obtain⟨j,_,rfl⟩:=hx;have:j%8<8:=Nat.mod_lt _ (by decide);show Z7 ((rep 8 [Value.int .i64 0]).toArray[j%8]!)=true;rcases (by omega:j%8=0∨j%8=1∨j%8=2∨j%8=3∨j%8=4∨j%8=5∨j%8=6∨j%8=7) with e|e|e|e|e|e|e|e<;>rw[e]<;>rfl
theorem Ic:Extern.findNext Tryz.f125=none∧Extern.find Tryz.f125=some (Extern.SlicesOverlaps.overlaps #[79,79] #[4]):=⟨by kernel_rfl,by kernel_rfl⟩
theorem jo (T:World) (h:Hp) (B:Nat) (p:Option Addr) (cap i:Nat) (l:List Vt) (x:Vt) (bv:Nat) (own:Jn B 109 Zo 8 h (.slice p l.length cap) l) (hB:B≤h.size) (hi:i≤l.length) (hl:l.length≤1000000)
  (hx:h[bv]? = some (.cells (Zo x).toArray 109)) (YA:cap≠0→∀b o,p=some ⟨b,o,none⟩→b≠bv) :
  Zc Tryz.prog T 109 #[.slice p l.length cap,.int .i64 i,.slice (some ⟨bv,0,none⟩) 1 1] h fun v' h'=>Jn B 109 Zo 8 h' v' (l.take i++x :: l.drop i)∧Zf B h h':=by
 refine Zc.Zk (args:=[_,_,_]) Tryz.func109 rfl rfl rfl rfl ?_;have hlc:l.length≤cap:=by
  obtain⟨_,_,e,h⟩:=own.open;simp only[Value.slice.injEq]at e;omega
 have n1:(0:Int)≤(i:Int):=by omega
 have n2:(i:Int)≤(l.length:Int):=by omega
 have sx:Ts Zo 8 h (.slice (some ⟨bv,0,none⟩) 1 1) [x]:=⟨by
  have:=U2 (pre:=[]) (cs:=Zo x) (post:=[]) (m:=1) (n:=8) (c:=1) (by rw[List.append_nil,List.nil_append];exact hx) rfl rfl
  simpa [Zz] using this⟩
 by_cases qg:i=l.length
 ·subst qg;have k1:((1:Nat):Int)=1:=rfl;by_cases c0:cap=0
  ·obtain rfl:l=[]:=List.eq_nil_of_length_eq_zero (by omega);subst c0;rw[List.length_nil]at own ⊢;have k0:((0:Nat):Int)=0:=rfl;simp -implicitDefEqProofs only[go_sem,↓reduceIte,k0,k1];refine VT (E:=109) (B:=B) (n:=8) (bytes:=64) Mr Tryz.underlying79 On dD rfl dC (fun _=>rfl) own hB sx (by simp only[List.length_singleton,List.length_nil];omega) (by omega) ?_;intro v' h' ho hb _;simp -implicitDefEqProofs only[go_sem,↓reduceIte];exact⟨ho,hb⟩
  ·obtain⟨b,spare,Lv,rfl,hg,_,Ry,_⟩:=own.own.spare c0;have hz:(l.length:Int)≤(l.length:Int):=Int.le_refl _;simp -implicitDefEqProofs only[go_sem,↓reduceIte,n1,n2,k1,Int.toNat_natCast];refine VT (E:=109) (B:=B) (n:=8) (bytes:=64) Mr Tryz.underlying79 On dD rfl dC (fun _=>rfl) own hB sx (by simp only[List.length_singleton];omega) (by omega) ?_;intro v' h' ho hb _;simp -implicitDefEqProofs only[go_sem,↓reduceIte];rw[List.take_length,List.drop_length];exact⟨ho,hb⟩
 have Bx:i<l.length:=by omega
 have Da:¬(i:Int)=(l.length:Int):=by omega
 have c0:cap≠0:=by omega
 obtain⟨b,spare,Lv,rfl,hg,_,Ry,_⟩:=own.own.spare c0;have hbv:b≠bv:=YA c0 b 0 rfl;have et:l=l.take i++(l[i] :: l.drop (i+1)):=by
  conv=>lhs;rw[←List.take_append_drop i l,List.drop_eq_getElem_cons Bx]
 have ed:Zz Zo (l.drop i)=Zo l[i]++Zz Zo (l.drop (i+1)):=by
  rw[List.drop_eq_getElem_cons Bx];rfl
 have ee:Zz Zo l=Zz Zo (l.take i)++Zz Zo (l.drop i):=by rw[←Yj,List.take_append_drop]
 have lt:(Zz Zo (l.take i)).length=i*8:=by rw[XP,List.length_take];congr 1;omega
 have ld:(Zz Zo (l.drop i)).length=(l.length-i)*8:=by rw[XP,List.length_drop]
 have ZgF:Zz Zo (l.take i++x :: l.drop i)=Zz Zo (l.take i)++(Zo x++Zz Zo (l.drop i)):=by rw[Yj];rfl
 have wJ:(l.take i++x :: l.drop i).length=l.length+1:=by rw[List.length_append,List.length_take,List.length_cons,List.length_drop];omega
 have c1:¬cap=i:=by omega
 have m1:(l.length:Int)+1=((l.length+1:Nat):Int):=by omega
 have m2:((l.length+1:Nat):Int)-(i:Int)=((l.length+1-i:Nat):Int):=by omega
 have m3:(i:Int)+1=((i+1:Nat):Int):=by omega
 have k1:((1:Nat):Int)=1:=rfl;by_cases QO:cap<l.length+1
 ·have Cl:(cap:Int)<((l.length+1:Nat):Int):=by omega
  have n3:(i:Int)≤(cap:Int):=by omega
  simp -implicitDefEqProofs only[go_sem,↓reduceIte,n1,n2,n3,k1,Da,m1,Cl,m2,Int.toNat_natCast];have Zpg:Qv B 109 8 h (.slice (some ⟨b,0,none⟩) i cap) i (Zz Zo (l.take i)):=by
   have:=own.own.Rl hi;rw[ee,List.take_left' lt]at this;exact this
  refine Fo (E:=109) (B:=B) (n:=8) (m:=i) (k:=l.length+1-i) (bytes:=64) (zs:=rep 8 [Value.int .i64 0]) Mr Tryz.underlying3 On dD rfl (by decide) dC Zpg hB (jn _) (by omega) (by omega) ?_;intro w g ow _ F6;obtain⟨hbg,c2,rfl⟩:=F6 _ _ rfl (by omega);obtain⟨Z,hZ⟩:=Zx ((Builtin.zeroCells (rep 8 [Value.int .i64 0]).toArray (l.length+1-i)).toList);have lZ:=zeroV (l.length+1-i);rw[←hZ]at ow lZ;have ec:i+(l.length+1-i)=l.length+1:=by omega
  rw[ec]at ow ⊢;rcases ow with⟨_,h0,_⟩|⟨b2,Zo6,wH,_,pL,QW,_,hs2,HU⟩
  ·omega
  simp only[Value.slice.injEq,Option.some.injEq,Addr.mk.injEq,true_and,and_true]at pL;obtain⟨rfl,rfl⟩:=pL;have d1:¬c2=i:=by omega
  have d2:(i:Int)≤((l.length+1:Nat):Int):=by omega
  have zT:=Za hg;have qh:=Za hx;have ew:g[b]? = _:=hbg.get zT hg;have hgv:g[bv]? = _:=hbg.get qh hx;have sx1:Sl 8 g (.slice (some ⟨bv,0,none⟩) 1 1) 1 (Zo x):=U2 (pre:=[]) (post:=[]) (by rw[List.append_nil,List.nil_append];exact hgv) rfl rfl;have qi:min 1 (l.length+1-i)=1:=by omega
  have eZ:Zz Zo (l.take i)++Z++wH=Zz Zo (l.take i)++(Z.take 8++(Z.drop 8++wH)):=by rw[List.append_assoc,←List.append_assoc (Z.take 8),List.take_append_drop]
  have lz8:(Z.take 8).length=8:=by rw[List.length_take];omega
  have ldz:(Z.drop 8).length=(l.length-i)*8:=by rw[List.length_drop];omega
  have ec1:Yw (Zz Zo (l.take i)++Z++wH) (i*8) ((Zo x).take (1*8))=(Zz Zo (l.take i)++Zo x)++(Z.drop 8++wH):=by
   rw[show (Zo x).take (1*8)=Zo x from rfl,eZ,WV lt.symm (by rw[lz8];rfl),List.append_assoc]
  simp -implicitDefEqProofs only[go_sem,↓reduceIte,n1,d1,d2,Int.toNat_natCast,Nat.zero_add];refine Nr (E:=109) (n:=8) Mr On QW sx1 rfl ?_ ?_
  ·rw[qi,List.length_append,List.length_append,lt,lZ];omega
  rw[qi,ec1];obtain⟨g2,Ie⟩:=Zx (g.setIfInBounds h.size (.cells ((Zz Zo (l.take i)++Zo x)++(Z.drop 8++wH)).toArray 109):Hp);rw[←Ie];have g2n:g2[h.size]? = some (.cells ((Zz Zo (l.take i)++Zo x)++(Z.drop 8++wH)).toArray 109):=by rw[Ie];exact Zy QW
  have g2b:g2[b]? = some (.cells (Zz Zo (l.take i)++(Zz Zo (l.drop i)++spare)).toArray 109):=by rw[Ie,Yf (by omega),ew,ee,List.append_assoc]
  have bg2:Zf h.size h g2:=by rw[Ie];exact hbg.Zm (Nat.le_refl _) _
  clear Ie;have m4:(i:Int)+1=((i+1:Nat):Int):=by omega
  have d3:¬c2=i+1:=by omega
  have d4:((i+1:Nat):Int)≤((l.length+1:Nat):Int):=by omega
  have d5:(0:Int)≤((i+1:Nat):Int):=by omega
  simp -implicitDefEqProofs only[go_sem,↓reduceIte];refine VS.w (h.size) [8] (.q 0 (.q 1 (.q 2 (.q 3 (.q 4 (.q 5 (.q 6 (.q 7 (.w 8 .nil))))))))) mixed (by kernel_rfl) ?_;simp -implicitDefEqProofs only[go_sem,↓reduceIte,n1,n2,m4,k1,d3,d4,d5,c1,Int.toNat_natCast,Nat.zero_add];have ss:Sl 8 g2 (.slice (some ⟨b,i*8,none⟩) (l.length-i) (cap-i)) (l.length-i) (Zz Zo (l.drop i)):=U2 g2b ld lt.symm;have min2:min (l.length-i) (l.length+1-(i+1))=l.length-i:=by omega
  have etk:(Zz Zo (l.drop i)).take ((l.length-i)*8)=Zz Zo (l.drop i):=List.take_of_length_le (by omega);have ec2:Yw ((Zz Zo (l.take i)++Zo x)++(Z.drop 8++wH)) ((i+1)*8) ((Zz Zo (l.drop i)).take ((l.length-i)*8))=Zz Zo (l.take i++x :: l.drop i)++wH:=by
   rw[etk,WV (by rw[List.length_append,lt];show (i+1)*8=i*8+8;omega) (by rw[ld,ldz]),ZgF];simp only[List.append_assoc]
  refine Nr (E:=109) (n:=8) Mr On g2n ss (Ck _) ?_ ?_
  ·rw[min2,List.length_append,List.length_append,List.length_append,lt,ldz];show _≤i*8+8+_;omega
  rw[min2,ec2];simp -implicitDefEqProofs only[go_sem,↓reduceIte];refine⟨⟨?_⟩,(bg2.Zm (Nat.le_refl _) _).mono hB⟩;rw[wJ];exact Qv.AJ hB (Zy g2n) (by rw[XP,wJ]) hs2 HU
 ·have Cl:¬(cap:Int)<((l.length+1:Nat):Int):=by omega
  have ZgI:((l.length+1:Nat):Int)≤(cap:Int):=by omega
  have n4:(0:Int)≤((l.length+1:Nat):Int):=by omega
  have m4:(i:Int)+1=((i+1:Nat):Int):=by omega
  have d4:((i+1:Nat):Int)≤((l.length+1:Nat):Int):=by omega
  have d5:(0:Int)≤((i+1:Nat):Int):=by omega
  have d3:¬cap=i+1:=by omega
  simp -implicitDefEqProofs only[go_sem,↓reduceIte,n1,n2,n4,k1,c1,Da,m1,Cl,ZgI,m4,d3,d4,d5,Int.toNat_natCast,Nat.zero_add];have gB:h[b]? = some (.cells (Zz Zo l++spare).toArray 109 (0,0)):=hg;have gA:h[bv]? = some (.cells (Zo x).toArray 109 (0,0)):=hx;have lsp:8≤spare.length:=by
   rw[Ry];have:=Nat.mul_le_mul_right 8 (show 1≤cap-l.length by omega);omega
  refine Fp Tryz.func125 (by decide) rfl Ic.1 Ic.2 ?_;refine Fm (size:=8) Tryz.underlying79 On (fun e=>hbv e.symm) gA gB (by intro e;have:=congrArg List.length e;rw[List.length_append,List.length_nil]at this;omega) ?_;simp -implicitDefEqProofs only[go_sem,↓reduceIte];refine VS.w (B) [8] (.q 0 (.q 1 (.q 2 (.q 3 (.q 4 (.q 5 (.q 6 (.q 7 (.w 8 .nil))))))))) mixed (by kernel_rfl) ?_;simp -implicitDefEqProofs only[go_sem,↓reduceIte,n1,n2,m4,k1,d3,d4,d5,c1,Int.toNat_natCast,Nat.zero_add];have ss:Sl 8 h (.slice (some ⟨b,i*8,none⟩) (l.length+1-i) (cap-i)) (l.length+1-i) (Zz Zo (l.drop i)++spare.take 8):=U2 (post:=spare.drop 8) (by rw[hg,ee,List.append_assoc,List.append_assoc,List.take_append_drop]) (by rw[List.length_append,ld,List.length_take];omega) lt.symm;have min2:min (l.length+1-i) (l.length+1-(i+1))=l.length-i:=by omega
  have etk:(Zz Zo (l.drop i)++spare.take 8).take ((l.length-i)*8)=Zz Zo (l.drop i):=List.take_left' ld;have ld1:(Zz Zo (l.drop (i+1))).length=(l.length-(i+1))*8:=by rw[XP,List.length_drop]
  have ecc:Zz Zo l++spare=(Zz Zo (l.take i)++Zo l[i])++((Zz Zo (l.drop (i+1))++spare.take 8)++spare.drop 8):=by
   rw[ee,ed];simp only[List.append_assoc,List.take_append_drop]
  have ec1:Yw (Zz Zo l++spare) ((i+1)*8) (Zz Zo (l.drop i))=Zz Zo (l.take i)++(Zo l[i]++(Zz Zo (l.drop i)++spare.drop 8)):=by
   rw[ecc,WV (by rw[List.length_append,lt];show (i+1)*8=i*8+8;omega) (by rw[ld,List.length_append,ld1,List.length_take];omega),List.append_assoc]
  refine gW (E:=109) (n:=8) Mr On gB ss (by rw[min2,etk];exact Ck _) ?_ ?_
  ·rw[min2,List.length_append,XP];omega
  rw[min2,etk,ec1];obtain⟨g2,Ie⟩:=Zx (h.setIfInBounds b (.cells (Zz Zo (l.take i)++(Zo l[i]++(Zz Zo (l.drop i)++spare.drop 8))).toArray 109):Hp);rw[←Ie];have g2n:g2[b]? = some (.cells (Zz Zo (l.take i)++(Zo l[i]++(Zz Zo (l.drop i)++spare.drop 8))).toArray 109):=by rw[Ie];exact Zy hg
  have g2v:g2[bv]? = some (.cells (Zo x).toArray 109):=by rw[Ie,Yf hbv];exact hx
  have bg2:Zf B h g2:=by rw[Ie];exact Zf.set Lv _
  clear Ie;have sx1:Sl 8 g2 (.slice (some ⟨bv,0,none⟩) 1 1) 1 (Zo x):=U2 (pre:=[]) (post:=[]) (by rw[List.append_nil,List.nil_append];exact g2v) rfl rfl;have qi:min 1 (l.length+1-i)=1:=by omega
  have ec2:Yw (Zz Zo (l.take i)++(Zo l[i]++(Zz Zo (l.drop i)++spare.drop 8))) (i*8) ((Zo x).take (1*8))=Zz Zo (l.take i++x :: l.drop i)++spare.drop 8:=by
   rw[show (Zo x).take (1*8)=Zo x from rfl,WV lt.symm (show (Zo x).length=(Zo l[i]).length from rfl),ZgF];simp only[List.append_assoc]
  simp -implicitDefEqProofs only[go_sem,↓reduceIte,n1,n2,m4,k1,d3,d4,d5,c1,Int.toNat_natCast,Nat.zero_add];refine Nr (E:=109) (n:=8) Mr On g2n sx1 rfl ?_ ?_
  ·rw[qi,List.length_append,List.length_append,lt];show i*8+1*8≤i*8+(8+_);omega
  rw[qi,ec2];simp -implicitDefEqProofs only[go_sem,↓reduceIte];refine⟨⟨?_⟩,bg2.trans (Zf.set Lv _)⟩;rw[wJ];exact Qv.AJ Lv (Zy g2n) (by rw[XP,wJ]) (by rw[List.length_drop,Ry];omega) (by omega)
theorem wK {l:List Vt} (hs:Srt l) (hm:∀x∈l,Ya x):∀i (hi:i<l.length),(i:Int)≤l[i].slot:=by
 intro i
 induction i with
 | zero=>intro hi;have:=(hm _ (List.getElem_mem hi)).1.1;omega
 | succ i ih=>
  intro hi;have h1:=ih (by omega);have h2:=hs i (i+1) (by omega) hi (by omega);omega
theorem wM {l:List Vt} (hs:Srt l) (hm:∀x∈l,Ya x):l.length≤40:=by
 by_cases h:l.length≤40
 ·exact h
 ·have h1:=wK hs hm 40 (by omega);have h2:=(hm _ (List.getElem_mem (show 40<l.length by omega))).1.2;omega
def YQ (p:YN) (l:List Vt) (x:Vt):Int:=if XD p l≠0 then 5 else if ¬Ya x then 2 else if below x.b p then 7 else 0
def eJ (B:Nat) (h':Hp) (v':Value) (p:YN) (l:List Vt) (x:Vt):Prop:=∃w,v'=.tuple [.agg (YT (if YQ p l x=0 then x.b else ⟨0,0⟩) w).toArray,.int .i64 (YQ p l x)].toArray ∧
 Jn B 109 Zo 8 h' w (if YQ p l x=0 then JP l x else [])
theorem NS (T:World) (h:Hp) (p:YN) (u:Value) (l:List Vt) (x:Vt) (s:Ts Zo 8 h u l) (hl:l.length≤2199023255552) :
  Zc Tryz.prog T 76 #[.agg (YT p u).toArray,.agg (Zo x).toArray] h fun v' h'=>eJ h.size h' v' p l x∧Zf h.size h h':=by
 obtain⟨pu,cu,rfl,_⟩:=Q7 s;refine Zc.XM (args:=[_,_]) Tryz.func76 rfl rfl rfl rfl ?_;unfold YT Zo;simp -implicitDefEqProofs only[go_sem,↓reduceIte];obtain⟨h0,XR⟩:=Zx (((h.push (.cells (YT p (.slice pu l.length cu)).toArray 81)).push (.cells (Zo x).toArray 109)).push (.cells [.int .i64 0,.int .i64 0,.slice none 0 0].toArray 81):Hp);have b0:Zf h.size h h0:=by rw[XR];exact (((Zf.refl _ _).add _).add _).add _
 have s0:h0.size=h.size+3:=by rw[XR];simp
 have x0:h0[h.size]? = some (.cells (YT p (.slice pu l.length cu)).toArray 81):=by
  rw[XR,Array.getElem?_push,if_neg (by simp;omega),Array.getElem?_push,if_neg (by simp),Zb]
 have y0:h0[h.size+1]? = some (.cells (Zo x).toArray 109):=by
  rw[XR,Array.getElem?_push,if_neg (by simp),Array.getElem?_push,if_pos (by simp)]
 have z0:h0[h.size+2]? = some (.cells [.int .i64 0,.int .i64 0,.slice none 0 0].toArray 81):=by
  rw[XR,Array.getElem?_push,if_pos (by simp)]
 have e0:((h.push (.cells #[Value.int .i64 p.r,.int .i64 p.n,.slice pu l.length cu] 81)).push (.cells #[Value.int .i64 x.slot,.int .i64 x.b.r,.int .i64 x.b.n,.int .i64 x.k,.int .i64 x.c,.int .i64 x.s,.int .i64 x.nm,.int .i64 x.v] 109)).push (.cells #[Value.int .i64 0,.int .i64 0,.slice none 0 0] 81)=h0:=XR.symm;rw[e0];clear e0 XR;refine (RL T h0 p _ l (s.Z2 b0) (by omega)).use ?_;rintro _ h1 ⟨rfl,b1⟩;have s1:=b1.size;have B1:Zf h.size h h1:=b0.trans (b1.mono (by omega));have x1:=b1.get (by omega) x0;have y1:=b1.get (by omega) y0;have z1:=b1.get (by omega) z0;have fin:∀(G:Hp) (w:List Value),w.length=3→w.all Z7=true→G[h.size+2]? = some (.cells [.int .i64 0,.int .i64 0,.slice none 0 0].toArray 81)→wr G ⟨h.size+1+1,0,none⟩ w=some (G.setIfInBounds (h.size+1+1) (.cells w.toArray 81)):=by
  intro G w h3 h1 hx;rw[ZU (b:=h.size+1+1) hx 0 w,ZJ (by rw[h3];rfl),if_pos ⟨by rw[h3];simp,h1⟩]
 have qj:h.size+2<h1.size:=by omega
 unfold eJ;rcases Mx p l with e0|e0
 case inr=>
  have e:YQ p l x=5:=by unfold YQ;rw[if_pos (by rw[e0];decide)]
  have w2:=fin h1 [.int .i64 0,.int .i64 0,.slice none 0 0] rfl rfl z1;simp -implicitDefEqProofs only[go_sem,↓reduceIte,e0,e,w2,qj];exact⟨⟨_,rfl,Jn.nil _ _ _ _ _⟩,B1.Zm (by omega) _⟩
 have r1:rd h1 ⟨h.size+1,0,none⟩ 8=some (Zo x):=Zq y1 rfl;unfold Zo at r1;simp -implicitDefEqProofs only[go_sem,↓reduceIte,e0,r1];refine (Ly T h1 x).use ?_;rintro _ h2 ⟨rfl,b2⟩;have s2:=b2.size;have B2:=B1.trans (b2.mono (by omega));have x2:=b2.get (by omega) x1;have y2:=b2.get (by omega) y1;have z2:=b2.get (by omega) z1;have Nw:h.size+2<h2.size:=by omega
 by_cases q1:Ya x
 case neg=>
  have e:YQ p l x=2:=by unfold YQ;rw[if_neg (by rw[e0];decide),if_pos q1]
  have w2:=fin h2 [.int .i64 0,.int .i64 0,.slice none 0 0] rfl rfl z2;simp -implicitDefEqProofs only[go_sem,↓reduceIte,q1,e,w2,Nw];exact⟨⟨_,rfl,Jn.nil _ _ _ _ _⟩,B2.Zm (by omega) _⟩
 have rb:rd h2 ⟨h.size+1,1,none⟩ 2=some [.int .i64 x.b.r,.int .i64 x.b.n]:=by rw[Z9 y2 (by simp[Zo])];rfl
 have rp:rd h2 ⟨h.size,0,none⟩ 2=some [.int .i64 p.r,.int .i64 p.n]:=by rw[Z9 x2 (by simp[YT])];rfl
 simp -implicitDefEqProofs only[go_sem,↓reduceIte,q1,rb,rp];refine (Wk T h2 x.b p).use ?_;rintro _ h3 ⟨rfl,b3⟩;have s3:=b3.size;have B3:=B2.trans (b3.mono (by omega));have x3:=b3.get (by omega) x2;have y3:=b3.get (by omega) y2;have z3:=b3.get (by omega) z2;have iq:h.size+2<h3.size:=by omega
 by_cases q2:below x.b p
 case pos=>
  have e:YQ p l x=7:=by unfold YQ;rw[if_neg (by rw[e0];decide),if_neg (fun h=>h q1),if_pos q2]
  have w2:=fin h3 [.int .i64 0,.int .i64 0,.slice none 0 0] rfl rfl z3;have vB:Nz x.b p<0:=(OB x.b p).2 q2;simp -implicitDefEqProofs only[go_sem,↓reduceIte,vB,e,w2,iq];exact⟨⟨_,rfl,Jn.nil _ _ _ _ _⟩,B3.Zm (by omega) _⟩
 have e:YQ p l x=0:=by unfold YQ;rw[if_neg (by rw[e0];decide),if_neg (fun h=>h q1),if_neg q2]
 have vB:¬Nz x.b p<0:=fun h=>q2 ((OB x.b p).1 h);have srt:=KL e0;have few:=wM srt (ao e0);have rv:hc h3 ⟨h.size,2,none⟩=some (.slice pu l.length cu):=by rw[Zh x3];rfl
 simp -implicitDefEqProofs only[go_sem,↓reduceIte,vB,rv];refine (Vs T h3 _ l (s.Z2 B3) hl).use ?_;rintro w4 h4 ⟨o4,b4⟩;have s4:=b4.size;have B4:=B3.trans (b4.mono (by omega));have y4:=b4.get (by omega) y3;have z4:=b4.get (by omega) z3;have r4:rd h4 ⟨h.size+1,0,none⟩ 8=some (Zo x):=Zq y4 rfl;unfold Zo at r4;simp -implicitDefEqProofs only[go_sem,↓reduceIte,r4];refine (aW T h4 w4 l x o4.ts srt hl).use ?_;rintro _ h5 ⟨⟨i,b,hi,rfl,hf⟩,b5⟩;have s5:=b5.size;have B5:=B4.trans (b5.mono (by omega));have y5:=b5.get (by omega) y4;have z5:=b5.get (by omega) z4;have o5:=o4.Z2 b5 (Nat.le_refl _);have r5:rd h5 ⟨h.size+1,0,none⟩ 8=some (Zo x):=Zq y5 rfl;unfold Zo at r5;have n1:(0:Int)≤(i:Int):=by omega
 obtain⟨p4,c4,rfl,hc4⟩:=o4.open;rcases hf with⟨rfl,Bx,heq⟩|⟨rfl,hlo,hhi⟩
 ·have qf:(i:Int)<(l.length:Int):=by omega
  have c0:c4≠0:=by omega
  obtain⟨b,spare,Lv,rfl,hg,_,Ry,_⟩:=o5.own.spare c0;have et:l=l.take i++(l[i] :: l.drop (i+1)):=by
   conv=>lhs;rw[←List.take_append_drop i l,List.drop_eq_getElem_cons Bx]
  have es:l.set i x=l.take i++(x :: l.drop (i+1)):=by rw[List.set_eq_take_append_cons_drop,if_pos Bx]
  have ee:Zz Zo l=Zz Zo (l.take i)++(Zo l[i]++Zz Zo (l.drop (i+1))):=by
   have:=congrArg (Zz Zo) et;rw[Yj]at this;exact this
  have Zpl:Zz Zo (l.set i x)=Zz Zo (l.take i)++(Zo x++Zz Zo (l.drop (i+1))):=by
   have:=congrArg (Zz Zo) es;rw[Yj]at this;exact this
  have lt:(Zz Zo (l.take i)).length=i*8:=by rw[XP,List.length_take];congr 1;omega
  have hw:wr h5 ⟨b,i*8,none⟩ (Zo x)=some (h5.setIfInBounds b (.cells (Zz Zo (l.set i x)++spare).toArray 109)):=by
   have ll:=XP l;have hmul:i*8+8≤l.length*8:=by omega
   rw[ZU hg,if_pos ⟨by rw[List.length_append,ll];show i*8+8≤_;omega,rfl⟩,ee,List.append_assoc,List.append_assoc,WV lt.symm (show (Zo x).length=(Zo l[i]).length from rfl),Zpl,List.append_assoc,List.append_assoc]
  have hbz:b<h5.size:=Za hg;have Hw:¬h.size+1=b:=by omega
  have Zca:¬h.size+2=b:=by omega
  have rb5:rd h5 ⟨h.size+1,1,none⟩ 2=some [.int .i64 x.b.r,.int .i64 x.b.n]:=by rw[Z9 y5 (by simp[Zo])];rfl
  obtain⟨h6,qm⟩:=Zx (h5.setIfInBounds b (.cells (Zz Zo (l.set i x)++spare).toArray 109):Hp);rw[←qm]at hw;unfold Zo at hw;have y6:h6[h.size+1]? = some (.cells (Zo x).toArray 109):=by rw[qm,Yf (by omega)];exact y5
  have z6:h6[h.size+2]? = some (.cells [.int .i64 0,.int .i64 0,.slice none 0 0].toArray 81):=by rw[qm,Yf (by omega)];exact z5
  have B6:Zf h.size h h6:=by rw[qm];exact B5.Zm (by omega) _
  have o6:Jn (h.size+3) 109 Zo 8 h6 (.slice (some ⟨b,0,none⟩) l.length c4) (l.set i x):=by
   refine⟨?_⟩;rw[List.length_set];exact Qv.AJ (by omega) (by rw[qm];exact Zy hg) (by rw[XP,List.length_set]) Ry hc4
  have rb6:rd h6 ⟨h.size+1,1,none⟩ 2=some [.int .i64 x.b.r,.int .i64 x.b.n]:=by rw[Z9 y6 (by simp[Zo])];rfl
  have w6:=fin h6 [.int .i64 x.b.r,.int .i64 x.b.n,.slice (some ⟨b,0,none⟩) l.length c4] rfl rfl z6;have Zpm:h.size+2<h6.size:=Za z6;simp -implicitDefEqProofs only[go_sem,↓reduceIte,n1,qf,r5,Int.toNat_natCast,Nat.zero_add,hw,rb6,w6,Zpm,e];refine⟨⟨_,rfl,?_⟩,B6.Zm (by omega) _⟩;rw[oP srt Bx heq];exact (o6.ZP (by omega) _).mono (by omega)
 ·have hn:JP l x=l.take i++x :: l.drop i:=oQ srt hi hlo hhi;simp -implicitDefEqProofs only[go_sem,↓reduceIte,r5];obtain⟨h6,qm⟩:=Zx (h5.push (.cells (Zo x).toArray 109):Hp);have e6:h5.push (.cells #[Value.int .i64 x.slot,.int .i64 x.b.r,.int .i64 x.b.n,.int .i64 x.k,.int .i64 x.c,.int .i64 x.s,.int .i64 x.nm,.int .i64 x.v] 109)=h6:=qm.symm;rw[e6];have b6:Zf h5.size h5 h6:=by rw[qm];exact Zf.push (Nat.le_refl _) _
  have s6:h6.size=h5.size+1:=by rw[qm];simp
  have v6:h6[h5.size]? = some (.cells (Zo x).toArray 109):=by rw[qm];exact Zb
  clear e6 qm;have B6:=B5.trans (b6.mono (by omega));have o6:=(o5.Z2 b6 (Nat.le_refl _)).mono (B':=h.size+3) (by omega);have YA:c4≠0→∀b o,p4=some ⟨b,o,none⟩→b≠h5.size:=by
   intro c0 b o hp;subst hp;obtain⟨b',_,_,XH,IU,_⟩:=o5.own.spare c0;simp only[Option.some.injEq,Addr.mk.injEq]at XH;have:=Za IU;omega
  refine (jo T h6 (h.size+3) p4 c4 i l x h5.size o6 (by omega) hi (by omega) v6 YA).use ?_;rintro w7 h7 ⟨o7,b7⟩;obtain⟨p7,c7,rfl,_⟩:=o7.open;have s7:=b7.size;have B7:=B6.trans (b7.mono (by omega));have y7:=b7.get (by omega) (b6.get (by omega) y5);have z7:=b7.get (by omega) (b6.get (by omega) z5);have rb7:rd h7 ⟨h.size+1,1,none⟩ 2=some [.int .i64 x.b.r,.int .i64 x.b.n]:=by rw[Z9 y7 (by simp[Zo])];rfl
  obtain⟨L,hL⟩:=Zx (l.take i++x :: l.drop i);rw[←hL]at o7 hn ⊢;have w7:=fin h7 [.int .i64 x.b.r,.int .i64 x.b.n,.slice p7 L.length c7] rfl rfl z7;have KW:h.size+2<h7.size:=Za z7;simp -implicitDefEqProofs only[go_sem,↓reduceIte,rb7,w7,KW,e];refine⟨⟨_,rfl,?_⟩,B7.Zm (by omega) _⟩;rw[hn];exact (o7.ZP (by omega) _).mono (by omega)
def Uc (l:List Nat) (n:Int) (x:Vt):Int:=if ¬YU l n then 5 else if ¬Ya x then 2 else JU l n 33
def QJ (x:Vt):List Nat:=2 :: (Zr [x.slot.toNat,x.b.r.toNat,x.b.n.toNat]++Zr [x.k.toNat,x.c.toNat,x.s.toNat,x.nm.toNat,x.v.toNat])
theorem aX (x:Vt):YQ ⟨0,0⟩ [] x=if Ya x then 0 else 2:=by
 have e:XD ⟨0,0⟩ []=0:=rfl;unfold YQ;rw[if_neg (by rw[e];decide)];by_cases q:Ya x
 ·rw[if_neg (fun hn=>hn q),if_pos q,if_neg];intro hb;have q1:=q.2.1.1.1;rcases hb with hb|⟨hb,_⟩<;>simp at hb<;>omega
 ·rw[if_pos q,if_neg q]
theorem qn (T:World) (h:Hp) (v:Value) (n:Int) (l:List Nat) (x:Vt) (s:Bs h v l) (hl:l.length≤140737488355328) (tk:Tk h) :
  Zc Tryz.prog T 96 #[.agg [v,.int .i64 n].toArray,.agg (Zo x).toArray] h fun v' h'=>TK h.size h' v' l n (Uc l n x) (Yo (QJ x))∧Zf h.size h h':=by
 obtain⟨p,c,rfl,_⟩:=s.open;refine Zc.Zk (args:=[_,_]) Tryz.func96 rfl rfl rfl rfl ?_;unfold TK Zo;simp -implicitDefEqProofs only[go_sem,↓reduceIte];obtain⟨h0,XR⟩:=Zx (((h.push (.cells [.slice p l.length c,.int .i64 n].toArray 76)).push (.cells (Zo x).toArray 109)).push (.cells [.slice none 0 0,.int .i64 0].toArray 76):Hp);have b0:Zf h.size h h0:=by rw[XR];exact (((Zf.refl _ _).add _).add _).add _
 have s0:h0.size=h.size+3:=by rw[XR];simp
 have t0:h0[h.size]? = some (.cells [.slice p l.length c,.int .i64 n].toArray 76):=by
  rw[XR,Array.getElem?_push,if_neg (by simp;omega),Array.getElem?_push,if_neg (by simp),Zb]
 have t1:h0[h.size+1]? = some (.cells (Zo x).toArray 109):=by
  rw[XR,Array.getElem?_push,if_neg (by simp),Array.getElem?_push,if_pos (by simp)]
 have x0:h0[h.size+2]? = some (.cells [.slice none 0 0,.int .i64 0].toArray 76):=by
  rw[XR,Array.getElem?_push,if_pos (by simp)]
 have e0:((h.push (.cells #[Value.slice p l.length c,.int .i64 n] 76)).push (.cells #[Value.int .i64 x.slot,.int .i64 x.b.r,.int .i64 x.b.n,.int .i64 x.k,.int .i64 x.c,.int .i64 x.s,.int .i64 x.nm,.int .i64 x.v] 109)).push (.cells #[Value.slice none 0 0,.int .i64 0] 76)=h0:=XR.symm;rw[e0];clear e0 XR;refine (QB T h0 _ n l (s.Z2 b0) hl).use ?_;rintro _ h1 ⟨b1,o1⟩;have s1:=b1.size;have B1:Zf h.size h h1:=b0.trans (b1.mono (by omega));have x1:=b1.get (by omega) x0;by_cases ok:YU l n
 case neg=>
  have ee:Uc l n x=5:=by unfold Uc;rw[if_pos ok]
  rw[if_neg (show ¬(l.length≤100000∧0≤n∧n≤l.length) from ok)]at o1;subst o1;rw[ee];have y2:=ZU x1 0;have ZD:h.size+2<h1.size:=by omega
  have YA:¬h.size+2=h1.size:=by omega
  simp -implicitDefEqProofs only[go_sem,↓reduceIte,y2,YA,ZD];exact⟨⟨_,rfl,Z0.nil _ _ _⟩,(B1.Zm (by omega) _).Yi (by simp;omega) _⟩
 rw[if_pos (show (l.length≤100000∧0≤n∧n≤l.length) from ok)]at o1;obtain⟨w,rfl,o1⟩:=o1;obtain⟨pw,cw,rfl,_⟩:=o1.open;have bt1:=b1.get (by omega) t1;have r1:rd h1 ⟨h.size+1,0,none⟩ 8=some (Zo x):=Zq bt1 rfl;unfold Zo at r1;have Hw:¬h.size+1=h1.size:=by omega
 simp -implicitDefEqProofs only[go_sem,↓reduceIte,r1,Hw];have b2:Zf h1.size h1 (h1.push (.cells [.slice pw l.length cw,.int .i64 n].toArray 76)):=Zf.push (Nat.le_refl _) _;refine (NS T _ ⟨0,0⟩ (.slice none 0 0) [] x (Jn.nil 0 109 Zo 8 _).ts (by simp)).use ?_;rintro _ h3 ⟨⟨w1,rfl,q1⟩,b3⟩;have B3:Zf h1.size h1 h3:=b2.trans (b3.mono b2.size);rw[aX]at q1 ⊢;obtain⟨p1,c1,au,_⟩:=q1.open;have s3:=B3.size;have x3:=B3.get (by omega) x1;have Bw:=B1.trans (B3.mono (by omega));by_cases may:Ya x
 case neg=>
  have ee:Uc l n x=2:=by unfold Uc;rw[if_neg (fun hn=>hn ok),if_pos may]
  rw[if_neg may]at au;rw[ee,if_neg may];subst au;have y2:=ZU x3 0;have ZD:h.size+2<h3.size:=by omega
  have YA:¬h.size+2=h3.size:=by omega
  unfold YT;simp -implicitDefEqProofs only[go_sem,↓reduceIte,y2,YA,ZD];exact⟨⟨_,rfl,Z0.nil _ _ _⟩,(Bw.Zm (by omega) _).Yi (by simp;omega) _⟩
 have ee:Uc l n x=JU l n 33:=by unfold Uc;rw[if_neg (fun hn=>hn ok),if_neg (fun hn=>hn may)]
 rw[if_pos may]at au;rw[ee,if_pos may];obtain⟨⟨m1,m2⟩,⟨⟨m3,m4⟩,m5,m6⟩,mc⟩:=may;obtain⟨xs,⟨br,bn⟩,xk,xc,xss,xn,xv⟩:=x;simp only at m1 m2 m3 m4 m5 m6 mc;obtain⟨k,c2,s2,nm,vv,rfl,rfl,rfl,rfl,rfl,_⟩:=Ms mc;obtain⟨sl,rfl⟩:∃r:Nat,xs=r:=⟨xs.toNat,by omega⟩
 obtain⟨r,rfl⟩:∃r:Nat,br=r:=⟨br.toNat,by omega⟩
 obtain⟨m,rfl⟩:∃m:Nat,bn=m:=⟨bn.toNat,by omega⟩
 unfold QJ;rw[if_pos rfl]at au;subst au;unfold YT;have t3:=B3.get (by omega) (b1.get (by omega) t0);have t13:=B3.get (by omega) bt1;have rc:rd h3 ⟨h.size+1,3,none⟩ 5=some (Qp k c2 s2 nm vv):=by rw[Z9 t13 (by simp[Zo])];rfl
 unfold Qp at rc;have Zpn:¬h.size+1=h3.size:=by omega
 simp -implicitDefEqProofs only[go_sem,↓reduceIte,rc,Zpn];obtain⟨g0,zU⟩:=Zx (h3.push (.cells [.int .i64 (r:Nat),.int .i64 (m:Nat),.slice p1 (JP [] ⟨sl,⟨r,m⟩,k,c2,s2,nm,vv⟩).length c1].toArray 81):Hp);have e3:h3.push (.cells #[Value.int .i64 (r:Nat),.int .i64 (m:Nat),.slice p1 (JP [] ⟨sl,⟨r,m⟩,k,c2,s2,nm,vv⟩).length c1] 81)=g0:=zU.symm;rw[e3];have bg0:Zf h3.size h3 g0:=by rw[zU];exact Zf.push (Nat.le_refl _) _
 have sg0:g0.size=h3.size+1:=by rw[zU];simp
 clear e3 zU;refine (Nv T g0 k c2 s2 nm vv).use ?_;rintro _ g ⟨⟨wc,rfl,sC⟩,bg1⟩;rw[mc,if_pos rfl]at sC;simp only[Int.toNat_natCast]at sC ⊢;rw[mc];have lC:(Zr [k,c2,s2,nm,vv]).length=20:=by rw[ZC];rfl
 generalize Zr [k,c2,s2,nm,vv]=CB at *;obtain⟨pc,cc,rfl,_⟩:=sC.open;have bg:Zf h3.size h3 g:=bg0.trans (bg1.mono (by omega));have sg:h3.size+1≤g.size:=by have:=bg1.size;omega
 have Bg:Zf h.size h g:=Bw.trans (bg.mono (by omega));have x4g:=bg.get (by omega) x3;have t4:=bg.get (by omega) t3;have t14:=bg.get (by omega) t13;have r0:rd g ⟨h.size,0,none⟩ 2=some [.slice p l.length c,.int .i64 n]:=Zq t4 rfl;have c0:V.hc g ⟨h.size+1,0,none⟩=some (.int .i64 (sl:Nat)):=by rw[Zh t14];rfl
 have c1':V.hc g ⟨h.size+1,1,none⟩=some (.int .i64 (r:Nat)):=by rw[Zh t14];rfl
 have vB:V.hc g ⟨h.size+1,2,none⟩=some (.int .i64 (m:Nat)):=by rw[Zh t14];rfl
 have k0:h.size<g.size:=by omega
 have k1:h.size+1<g.size:=by omega
 simp -implicitDefEqProofs only[go_sem,↓reduceIte];refine VS.w (g.size) [18,19] (.q 0 (.q 2 (.q 3 (.q 4 (.q 5 (.q 6 (.q 7 (.q 8 (.q 9 (.q 13 (.or 1 (.s 10 (.s 11 (.s 12 (.s 14 (.s 15 (.q 16 (.q 17 (.w 18 (.w 19 .nil))))))))) (.s 10 (.or 1 (.s 11 (.s 12 (.s 14 (.s 15 (.q 16 (.q 17 (.w 18 (.w 19 .nil)))))))) (.s 11 (.s 1 (.s 12 (.s 14 (.s 15 (.q 16 (.q 17 (.w 18 (.w 19 .nil)))))))))))))))))))))) mixed (by kernel_rfl) ?_;simp -implicitDefEqProofs only[go_sem,↓reduceIte,r0,c0,c1',vB,k0,k1];refine⟨?_,?_,?_⟩
 ·have o0:Z0 g.size 5 (g.push (.cells (([2]:List Nat).map bv).toArray 5)) (.slice (some ⟨g.size,0,none⟩) 1 1) [2]:=Z0.made (by decide) (Nat.le_refl _);have B0:Zf g.size g ((g.push (.cells (([2]:List Nat).map bv).toArray 5)).push (.cells (([sl,r,m]:List Nat).map nv).toArray 3)):=(Zf.push (Nat.le_refl _) _).Yi (by simp) _;have o00:=o0.push (.cells (([sl,r,m]:List Nat).map nv).toArray 3);have si:NT ((g.push (.cells (([2]:List Nat).map bv).toArray 5)).push (.cells (([sl,r,m]:List Nat).map nv).toArray 3)) (.slice (some ⟨(g.push (.cells (([2]:List Nat).map bv).toArray 5)).size,0,none⟩) 3 3) [sl,r,m]:=U3 _ _;have e1:(g.push (.cells (([2]:List Nat).map bv).toArray 5)).size=g.size+1:=by simp
  rw[e1]at si;refine (Tc T _ _ [sl,r,m] si (by simp) (by intro x hx;simp only[List.mem_cons,List.not_mem_nil,or_false]at hx;omega)).use ?_;rintro w5 h5 ⟨o5,b5⟩;have BB:=B0.trans (b5.mono B0.size);have o1:=o00.Z2 b5 (Nat.le_refl _);have s4:=o5.bs;simp -implicitDefEqProofs only[go_sem,↓reduceIte,BB];refine Zv (E:=5) (B:=g.size) YD Tryz.underlying48 Wg WY WX o1 BB.size s4 (by rw[ZC];simp) ?_;intro w6 h6 o6 b6 _;have B6:Zf g.size g h6:=BB.trans b6;have pN:Z0 g.size 5 h6 w6 (2 :: Zr [sl,r,m]):=o6;have l6:(2 :: Zr [sl,r,m]).length=13:=by simp only[List.length_cons,ZC,List.length_nil]
  simp -implicitDefEqProofs only[go_sem,↓reduceIte,B6];refine Zv (E:=5) (B:=g.size) YD Tryz.underlying48 Wg WY WX pN B6.size (sC.Z2 B6) (by omega) ?_;intro w7 h7 o7 b7 _;have B7:Zf g.size g h7:=B6.trans b7;have IV:=Bg.trans (B7.mono (by omega));have o7':Z0 g.size 5 h7 w7 (2 :: (Zr [sl,r,m]++CB)):=o7;have el:(2 :: (Zr [sl,r,m]++CB)).length=33:=by rw[List.length_cons,List.length_append,lC,ZC];rfl
  simp -implicitDefEqProofs only[go_sem,↓reduceIte,B7];refine (Tb T h7 _ w7 n l (2 :: (Zr [sl,r,m]++CB)) (s.Z2 IV) hl o7'.bs (by omega) (tk.Je IV)).use ?_;rintro _ h8 ⟨⟨w8,rfl,o8⟩,b8⟩;rw[el]at o8 ⊢;have B8:Zf g.size g h8:=B7.trans (b8.mono B7.size);have Bh8:=IV.trans (b8.mono IV.size);have x8:=B8.get (by omega) x4g;have y8:=ZU x8 0;have qo:h.size+2<h8.size:=Za x8;generalize Yo (2 :: (Zr [sl,r,m]++CB))=FR at *;obtain⟨E,hE⟩:=Zx (JU l n 33);rw[←hE]at o8 ⊢;obtain⟨z,hz⟩:∃z:Int,z=if E=0 then n else 0:=⟨_,rfl⟩
  rw[←hz];obtain⟨pz,cz,rfl,_⟩:=o8.open;simp -implicitDefEqProofs only[go_sem,↓reduceIte,B8,y8,qo];refine⟨⟨_,rfl,?_⟩,Bh8.Zm (by omega) _⟩;exact (o8.ZP (by have:=B7.size;omega) _).mono (by have:=B7.size;omega)
 ·have wy:Zf g.size g (g.push (.cells (([sl,r,m]:List Nat).map nv).toArray 3)):=Zf.push (Nat.le_refl _) _;have o0:Z0 g.size 5 ((g.push (.cells (([sl,r,m]:List Nat).map nv).toArray 3)).push (.cells (([2]:List Nat).map bv).toArray 5)) (.slice (some ⟨(g.push (.cells (([sl,r,m]:List Nat).map nv).toArray 3)).size,0,none⟩) 1 1) [2]:=(Z0.made (by decide) (Nat.le_refl _)).mono (by simp);have B0:Zf g.size g ((g.push (.cells (([sl,r,m]:List Nat).map nv).toArray 3)).push (.cells (([2]:List Nat).map bv).toArray 5)):=wy.Yi (by simp) _;have si0:NT (g.push (.cells (([sl,r,m]:List Nat).map nv).toArray 3)) (.slice (some ⟨g.size,0,none⟩) 3 3) [sl,r,m]:=U3 _ _;have si:=si0.Z2 (Zf.push (Nat.le_refl _) (.cells (([2]:List Nat).map bv).toArray 5));have e1:(g.push (.cells (([sl,r,m]:List Nat).map nv).toArray 3)).size=g.size+1:=by simp
  rw[e1]at o0;refine (Tc T _ _ [sl,r,m] si (by simp) (by intro x hx;simp only[List.mem_cons,List.not_mem_nil,or_false]at hx;omega)).use ?_;rintro w5 h5 ⟨o5,b5⟩;have BB:=B0.trans (b5.mono B0.size);have o1:=o0.Z2 b5 (Nat.le_refl _);have s4:=o5.bs;simp -implicitDefEqProofs only[go_sem,↓reduceIte,BB];refine Zv (E:=5) (B:=g.size) YD Tryz.underlying48 Wg WY WX o1 BB.size s4 (by rw[ZC];simp) ?_;intro w6 h6 o6 b6 _;have B6:Zf g.size g h6:=BB.trans b6;have pN:Z0 g.size 5 h6 w6 (2 :: Zr [sl,r,m]):=o6;have l6:(2 :: Zr [sl,r,m]).length=13:=by simp only[List.length_cons,ZC,List.length_nil]
  simp -implicitDefEqProofs only[go_sem,↓reduceIte,B6];refine Zv (E:=5) (B:=g.size) YD Tryz.underlying48 Wg WY WX pN B6.size (sC.Z2 B6) (by omega) ?_;intro w7 h7 o7 b7 _;have B7:Zf g.size g h7:=B6.trans b7;have IV:=Bg.trans (B7.mono (by omega));have o7':Z0 g.size 5 h7 w7 (2 :: (Zr [sl,r,m]++CB)):=o7;have el:(2 :: (Zr [sl,r,m]++CB)).length=33:=by rw[List.length_cons,List.length_append,lC,ZC];rfl
  simp -implicitDefEqProofs only[go_sem,↓reduceIte,B7];refine (Tb T h7 _ w7 n l (2 :: (Zr [sl,r,m]++CB)) (s.Z2 IV) hl o7'.bs (by omega) (tk.Je IV)).use ?_;rintro _ h8 ⟨⟨w8,rfl,o8⟩,b8⟩;rw[el]at o8 ⊢;have B8:Zf g.size g h8:=B7.trans (b8.mono B7.size);have Bh8:=IV.trans (b8.mono IV.size);have x8:=B8.get (by omega) x4g;have y8:=ZU x8 0;have qo:h.size+2<h8.size:=Za x8;generalize Yo (2 :: (Zr [sl,r,m]++CB))=FR at *;obtain⟨E,hE⟩:=Zx (JU l n 33);rw[←hE]at o8 ⊢;obtain⟨z,hz⟩:∃z:Int,z=if E=0 then n else 0:=⟨_,rfl⟩
  rw[←hz];obtain⟨pz,cz,rfl,_⟩:=o8.open;simp -implicitDefEqProofs only[go_sem,↓reduceIte,B8,y8,qo];refine⟨⟨_,rfl,?_⟩,Bh8.Zm (by omega) _⟩;exact (o8.ZP (by have:=B7.size;omega) _).mono (by have:=B7.size;omega)
 ·have wy:Zf g.size g (g.push (.cells (([sl,r,m]:List Nat).map nv).toArray 3)):=Zf.push (Nat.le_refl _) _;have si:NT (g.push (.cells (([sl,r,m]:List Nat).map nv).toArray 3)) (.slice (some ⟨g.size,0,none⟩) 3 3) [sl,r,m]:=U3 _ _;refine (Tc T _ _ [sl,r,m] si (by simp) (by intro x hx;simp only[List.mem_cons,List.not_mem_nil,or_false]at hx;omega)).use ?_;rintro w5 h5 ⟨o5,b5⟩;have wC:=wy.trans (b5.mono wy.size);have BB:Zf g.size g (h5.push (.cells (([2]:List Nat).map bv).toArray 5)):=wC.Yi wC.size _;have o1:Z0 g.size 5 (h5.push (.cells (([2]:List Nat).map bv).toArray 5)) (.slice (some ⟨h5.size,0,none⟩) 1 1) [2]:=(Z0.made (by decide) (Nat.le_refl _)).mono wC.size;have s4:=o5.bs.Z2 (Zf.push (Nat.le_refl h5.size) (.cells (([2]:List Nat).map bv).toArray 5));simp -implicitDefEqProofs only[go_sem,↓reduceIte,wC,BB];refine Zv (E:=5) (B:=g.size) YD Tryz.underlying48 Wg WY WX o1 BB.size s4 (by rw[ZC];simp) ?_;intro w6 h6 o6 b6 _;have B6:Zf g.size g h6:=BB.trans b6;have pN:Z0 g.size 5 h6 w6 (2 :: Zr [sl,r,m]):=o6;have l6:(2 :: Zr [sl,r,m]).length=13:=by simp only[List.length_cons,ZC,List.length_nil]
  simp -implicitDefEqProofs only[go_sem,↓reduceIte,B6];refine Zv (E:=5) (B:=g.size) YD Tryz.underlying48 Wg WY WX pN B6.size (sC.Z2 B6) (by omega) ?_;intro w7 h7 o7 b7 _;have B7:Zf g.size g h7:=B6.trans b7;have IV:=Bg.trans (B7.mono (by omega));have o7':Z0 g.size 5 h7 w7 (2 :: (Zr [sl,r,m]++CB)):=o7;have el:(2 :: (Zr [sl,r,m]++CB)).length=33:=by rw[List.length_cons,List.length_append,lC,ZC];rfl
  simp -implicitDefEqProofs only[go_sem,↓reduceIte,B7];refine (Tb T h7 _ w7 n l (2 :: (Zr [sl,r,m]++CB)) (s.Z2 IV) hl o7'.bs (by omega) (tk.Je IV)).use ?_;rintro _ h8 ⟨⟨w8,rfl,o8⟩,b8⟩;rw[el]at o8 ⊢;have B8:Zf g.size g h8:=B7.trans (b8.mono B7.size);have Bh8:=IV.trans (b8.mono IV.size);have x8:=B8.get (by omega) x4g;have y8:=ZU x8 0;have qo:h.size+2<h8.size:=Za x8;generalize Yo (2 :: (Zr [sl,r,m]++CB))=FR at *;obtain⟨E,hE⟩:=Zx (JU l n 33);rw[←hE]at o8 ⊢;obtain⟨z,hz⟩:∃z:Int,z=if E=0 then n else 0:=⟨_,rfl⟩
  rw[←hz];obtain⟨pz,cz,rfl,_⟩:=o8.open;simp -implicitDefEqProofs only[go_sem,↓reduceIte,B8,y8,qo];refine⟨⟨_,rfl,?_⟩,Bh8.Zm (by omega) _⟩;exact (o8.ZP (by have:=B7.size;omega) _).mono (by have:=B7.size;omega)
structure QK where
 p:YN
 l:List Vt
def Cn (b:List Nat):Vt→Vt:=fun v=>⟨v.slot,v.b,Xf b 0,Xf b 4,Xf b 8,Xf b 12,Xf b 16⟩
def XE (a:QK) (b:List Nat):Option QK:=
 if b.length=9∧b.getD 0 0=1 then (if Yu a.p a.l ⟨Xf b 1,Xf b 5⟩=0 then some ⟨⟨Xf b 1,Xf b 5⟩,a.l⟩ else none)
 else if b.length=33∧b.getD 0 0=2 then (if JC (b.drop 13)≠0 then none else
  if YQ a.p a.l (Cn (b.drop 13) ⟨Xf b 1,⟨Xf b 5,Xf b 9⟩,0,0,0,0,0⟩)=0 then some ⟨⟨Xf b 5,Xf b 9⟩,JP a.l (Cn (b.drop 13) ⟨Xf b 1,⟨Xf b 5,Xf b 9⟩,0,0,0,0,0⟩)⟩ else none)
 else none
def F8 (B:Nat) (h':Hp) (v':Value) (a:QK) (b:List Nat):Prop:=∃P p m c,v'=.tuple [.agg (YT P (.slice p m c)).toArray,.bool (XE a b).isSome].toArray∧∀x,XE a b=some x→P=x.p∧Jn B 109 Zo 8 h' (.slice p m c) x.l
theorem JX (l:List Nat) (k i:Nat):Xf (l.drop k) i=Xf l (k+i):=by
 have e:∀j,(l.drop k).getD j 0=l.getD (k+j) 0:=fun j=>by rw[List.getD_eq_getElem?_getD,List.getD_eq_getElem?_getD,List.getElem?_drop]
 unfold Xf;rw[e,e,e,e];rfl
theorem wP (T:World) (h:Hp) (v:Value) (l:List Nat) (s:Bs h v l) (hi:4≤l.length) (hl:l.length≤140737488355328) :
  Zc Tryz.prog T 75 #[v] h fun v' h'=>v'=.int .i64 (Xf l 0:Nat)∧h'=h:=by
 obtain⟨p,c,rfl,Us⟩:=s.UL;refine Zc.Zk (args:=[_]) Tryz.func75 rfl rfl rfl rfl ?_;obtain⟨b,o,rfl,hb,YS⟩:=Us (by intro e;subst e;simp at hi);have c0:=YS 0 (by omega);have c1:=YS 1 (by omega);have c2:=YS 2 (by omega);have c3:=YS 3 (by omega);have w0:=ZI s.byte 0;have w1:=ZI s.byte 1;have w2:=ZI s.byte 2;have w3:=ZI s.byte 3;have e4:=Fw w0 w1 w2 w3;have n0:(0:Int)<l.length:=by omega
 have n1:(1:Int)<l.length:=by omega
 have n2:(2:Int)<l.length:=by omega
 have n3:(3:Int)<l.length:=by omega
 rw[Nat.add_zero]at c0;unfold Xf;rw[Nat.zero_add,Nat.zero_add,Nat.zero_add];generalize l.getD 0 0=a0 at *;generalize l.getD 1 0=a1 at *;generalize l.getD 2 0=a2 at *;generalize l.getD 3 0=a3 at *;simp -implicitDefEqProofs only[go_sem,↓reduceIte];refine VS.q mixed (by kernel_rfl) ?_;simp -implicitDefEqProofs only[go_sem,↓reduceIte,c0,c1,c2,c3,n0,n1,n2,n3,e4]
 trace_state
theorem SA (T:World) (h:Hp) (bb oo d d' m m0:Nat) (b:List Nat) (k:Nat) (s:Bs h (.slice (some ⟨bb,oo,none⟩) m0 d) b) (hm0:b.length=m0) (hk:k+4≤m0) (hm:m=m0-k) (hl:m0≤100000) :
  Zc Tryz.prog T 75 #[.slice (some ⟨bb,oo+k,none⟩) m d'] h fun v' h'=>v'=.int .i64 (Xf b k:Nat)∧h'=h:=by
 subst hm;have s1:=TH s (k:=k) (by omega) hm0 d';have:=wP T h _ (b.drop k) s1 (by rw[List.length_drop];omega) (by rw[List.length_drop];omega);rw[JX]at this;exact this
theorem aY (l:List Nat) (h:JC l=0):Kx l=[.int .i64 (Xf l 0),.int .i64 (Xf l 4),.int .i64 (Xf l 8),.int .i64 (Xf l 12),.int .i64 (Xf l 16)]:=by
 unfold Kx;rw[if_pos h];rfl
theorem jq (l:List Nat) (h:¬JC l=0):Kx l=[.int .i64 0,.int .i64 0,.int .i64 0,.int .i64 0,.int .i64 0]:=by
 unfold Kx;rw[if_neg h];rfl
set_option maxHeartbeats 1000000 in
theorem qp (T:World) (h:Hp) (P:YN) (pv:Option Addr) (cv:Nat) (l:List Vt) (q:Option Addr) (m d:Nat) (b:List Nat) (s:Ts Zo 8 h (.slice pv l.length cv) l) (sb:Bs h (.slice q m d) b) (hm:b.length=m) (hl:l.length≤1000000) (hb:m≤1000) (hd:m≤d) :
  Zc Tryz.prog T 54 #[.agg (YT P (.slice pv l.length cv)).toArray,.slice q m d] h fun v' h'=>F8 h.size h' v' ⟨P,l⟩ b∧Zf h.size h h':=by
 refine Zc.XM (args:=[_,_]) Tryz.func54 rfl rfl rfl rfl ?_;unfold YT;simp -implicitDefEqProofs only[go_sem,↓reduceIte];obtain⟨h0,XR⟩:=Zx ((h.push (.cells (YT P (.slice pv l.length cv)).toArray 81)).push (.cells [.int .i64 0,.int .i64 0,.slice none 0 0].toArray 81):Hp);have b0:Zf h.size h h0:=by rw[XR];exact ((Zf.refl _ _).add _).add _
 have s0:h0.size=h.size+2:=by rw[XR];simp
 have x0:h0[h.size]? = some (.cells (YT P (.slice pv l.length cv)).toArray 81):=by
  rw[XR,Array.getElem?_push,if_neg (by simp),Zb]
 have z0:h0[h.size+1]? = some (.cells [.int .i64 0,.int .i64 0,.slice none 0 0].toArray 81):=by
  rw[XR,Array.getElem?_push,if_pos (by simp)]
 have e0:(h.push (.cells #[Value.int .i64 P.r,.int .i64 P.n,.slice pv l.length cv] 81)).push (.cells #[Value.int .i64 0,.int .i64 0,.slice none 0 0] 81)=h0:=XR.symm;rw[e0];clear e0 XR;have fin:∀(G:Hp) (k:Nat) (w:List Value),w.length=3→w.all Z7=true→G[k]? = some (.cells [.int .i64 0,.int .i64 0,.slice none 0 0].toArray 81)→wr G ⟨k,0,none⟩ w=some (G.setIfInBounds k (.cells w.toArray 81)):=by
  intro G k w h3 h1 hx;rw[ZU (b:=k) hx 0 w,ZJ (by rw[h3];rfl),if_pos ⟨by rw[h3];simp,h1⟩]
 have sb0:=sb.Z2 b0;have s0':=s.Z2 b0;have r0:rd h0 ⟨h.size,0,none⟩ 3=some [.int .i64 P.r,.int .i64 P.n,.slice pv l.length cv]:=Zq x0 rfl;have k0:h.size<h0.size:=by omega
 have k1:h.size+1<h0.size:=by omega
 unfold F8;by_cases n9:m=9
 ·subst n9;have k9:((9:Nat):Int)=9:=rfl;obtain⟨q',d',hv,hh⟩:=sb0.UL;simp only[Value.slice.injEq]at hv;obtain⟨rfl,_,rfl⟩:=hv;obtain⟨bb,oo,rfl,Wi,YS⟩:=hh (by intro e;subst e;simp at hm);have c0:=YS 0 (by omega);rw[Nat.add_zero]at c0;by_cases q1:b.getD 0 0=1
  case neg=>
   have q1':¬((b.getD 0 0:Nat):Int)=1:=by omega
   have e:XE ⟨P,l⟩ b=none:=by
    unfold XE;rw[if_neg (fun hn=>q1 hn.2),if_neg (fun hn=>by omega)]
   have wz:=fin h0 (h.size+1) [.int .i64 P.r,.int .i64 P.n,.slice pv l.length cv] rfl rfl z0;simp -implicitDefEqProofs only[go_sem,↓reduceIte,k9,c0,q1',e,r0,wz,k1];exact⟨⟨P,pv,l.length,cv,rfl,by simp⟩,b0.Zm (by omega) _⟩
  rw[q1]at c0;have e1:((1:Nat):Int)=1:=rfl;rw[e1]at c0;obtain⟨X,hX⟩:∃X:YN,X=⟨Xf b 1,Xf b 5⟩:=⟨_,rfl⟩
  have e:XE ⟨P,l⟩ b=if Yu P l X=0 then some ⟨X,l⟩ else none:=by
   unfold XE;rw[if_pos ⟨hm,q1⟩,hX]
  have call:∀G,Ts Zo 8 G (.slice pv l.length cv) l→Zc Tryz.prog T 74 #[.agg #[.int .i64 P.r,.int .i64 P.n,.slice pv l.length cv],.agg #[.int .i64 (Xf b 1:Nat),.int .i64 (Xf b 5:Nat)]] G fun v' h'=>DH G.size h' v' P l X∧Zf G.size G h':=fun G sG=>by
   rw[hX];exact TG T G P _ l _ sG (by omega)
  clear hX;have d1:¬d=1:=by omega
  have d5:¬d=5:=by omega
  have qs:=sb0;simp -implicitDefEqProofs only[go_sem,↓reduceIte,k9,c0];refine VS.mono (N:=fun F' g'=>Zf h0.size h0 g'∧F' 4=.pointer (some ⟨h.size+1,0,none⟩)∧F' 8=.int .i64 (Yu P l X)∧∃A p1 c1,h0.size≤A∧F' 6=.pointer (some ⟨A,0,none⟩)∧g'[A]? = some (.cells (YT (if Yu P l X=0 then X else ⟨0,0⟩) (.slice p1 (if Yu P l X=0 then l else []).length c1)).toArray 81)∧Jn h0.size 109 Zo 8 g' (.slice p1 (if Yu P l X=0 then l else []).length c1) (if Yu P l X=0 then l else [])) ?_ ?_ (fun _ _ _ h=>h) (fun _ _ h=>h)
  ·refine VS.w (h0.size) [] (.q 0 (.q 1 (.q 2 (.q 4 (.q 5 (.or 3 (.or 6 (.q 7 (.or 8 (.q 9 (.q 10 (.q 11 (.q 12 (.s 13 (.s 14 (.q 15 (.q 16 .nil)))))))) (.s 13 (.s 8 (.q 9 (.q 10 (.q 11 (.q 12 (.s 14 (.q 15 (.q 16 .nil))))))))))) (.s 13 (.s 6 (.q 7 (.s 8 (.q 9 (.q 10 (.q 11 (.q 12 (.s 14 (.q 15 (.q 16 .nil)))))))))))) (.s 13 (.s 3 (.s 6 (.q 7 (.s 8 (.q 9 (.q 10 (.q 11 (.q 12 (.s 14 (.q 15 (.q 16 .nil)))))))))))))))))) mixed (by kernel_rfl) ?_;simp -implicitDefEqProofs only[go_sem,↓reduceIte,r0,k0,k9,d1,d5,c0,Int.toNat_natCast]
   repeat' (first
     | with_reducible exact Zf.refl _ _
     | with_reducible exact Zf.push (by omega) _
     | (with_reducible refine (SA T _ bb oo d _ _ _ b 1 (by first|exact qs|exact qs.Z2 (Zf.push (Nat.le_refl _) _)) hm (by omega) rfl (by omega)).pure ?_;simp -implicitDefEqProofs only[go_sem,↓reduceIte,r0,k0,c0,Int.toNat_natCast])
     | (with_reducible refine (SA T _ bb oo d _ _ _ b 5 (by first|exact qs|exact qs.Z2 (Zf.push (Nat.le_refl _) _)) hm (by omega) rfl (by omega)).pure ?_;simp -implicitDefEqProofs only[go_sem,↓reduceIte,r0,k0,c0,Int.toNat_natCast])
     | with_reducible refine And.intro ?_ ?_)
   all_goals first
    | (refine (call h0 s0').use ?_
       rintro _ g1 ⟨⟨w1,w2,rfl,o1,o2⟩,b1⟩;obtain⟨p1,c1,rfl,_⟩:=o1.open;obtain⟨p2,c2,rfl,_⟩:=o2.open;generalize (if Yu P l X=0 then X else ⟨0,0⟩)=Y at *;generalize (if Yu P l X=0 then l else [])=L at *;generalize Yu P l X=E at *;have s1:=b1.size;unfold YT;simp -implicitDefEqProofs only[go_sem,↓reduceIte,b1];exact⟨_,_,_,s1,rfl,Zb,o1.push _⟩)
    | (refine (call (h0.push (.cells [.int .i64 0,.int .i64 0,.slice none 0 0].toArray 81)) (s0'.Z2 (Zf.push (Nat.le_refl _) _))).use ?_
       rintro _ g1 ⟨⟨w1,w2,rfl,o1,o2⟩,b1⟩;obtain⟨p1,c1,rfl,_⟩:=o1.open;obtain⟨p2,c2,rfl,_⟩:=o2.open;generalize (if Yu P l X=0 then X else ⟨0,0⟩)=Y at *;generalize (if Yu P l X=0 then l else [])=L at *;generalize Yu P l X=E at *;have B1:Zf h0.size h0 g1:=(Zf.push (Nat.le_refl _) _).trans (b1.mono (by simp));have xA:=b1.get (by simp) Zb;have yA:=fin g1 h0.size [.int .i64 Y.r,.int .i64 Y.n,.slice p1 L.length c1] rfl rfl xA;have hz:=Za xA;unfold YT;simp -implicitDefEqProofs only[go_sem,↓reduceIte,B1,yA,hz];exact⟨_,_,_,Nat.le_refl _,rfl,Zy xA,(o1.ZP (b:=h0.size) (by simp) _).mono (by simp)⟩)
  ·rintro F' g' ⟨hB,f4,f8,A,p1,c1,hA,f6,xA,oA⟩;have z1:=hB.get (by omega) z0;have k1':=Za z1;have rA:rd g' ⟨A,0,none⟩ 3=_:=Zq xA rfl;generalize hY:(if Yu P l X=0 then X else ⟨0,0⟩)=Y at *;generalize hL:(if Yu P l X=0 then l else [])=L at *;generalize Yu P l X=E at *;unfold YT at rA;have wz:=fin g' (h.size+1) [.int .i64 Y.r,.int .i64 Y.n,.slice p1 L.length c1] rfl rfl z1;have bb':Zf h.size h (g'.setIfInBounds (h.size+1) (.cells [.int .i64 Y.r,.int .i64 Y.n,.slice p1 L.length c1].toArray 81)):=(b0.trans (hB.mono (by omega))).Zm (by omega) _;by_cases q:E=0
   ·rw[if_pos q]at e hY hL;simp -implicitDefEqProofs only[go_sem,↓reduceIte,f4,f6,f8,rA,wz,k1',q,e];refine⟨⟨Y,p1,L.length,c1,rfl,fun x hx=>?_⟩,bb'⟩
    cases hx
    exact⟨hY.symm,by rw[hL];exact (oA.ZP (by omega) _).mono (by omega)⟩
   ·rw[if_neg q]at e;simp -implicitDefEqProofs only[go_sem,↓reduceIte,f4,f6,f8,rA,wz,k1',q,e];exact⟨⟨Y,p1,L.length,c1,rfl,by simp⟩,bb'⟩
 have n9':¬(m:Int)=9:=by omega
 by_cases n33:m=33
 case neg=>
  have Zpp:¬(m:Int)=33:=by omega
  have e:XE ⟨P,l⟩ b=none:=by
   unfold XE;rw[if_neg (fun hn=>by omega),if_neg (fun hn=>by omega)]
  have wz:=fin h0 (h.size+1) [.int .i64 P.r,.int .i64 P.n,.slice pv l.length cv] rfl rfl z0;simp -implicitDefEqProofs only[go_sem,↓reduceIte,n9',Zpp,e,r0,wz,k1];exact⟨⟨P,pv,l.length,cv,rfl,by simp⟩,b0.Zm (by omega) _⟩
 subst n33;have k33:((33:Nat):Int)=33:=rfl;clear n9';obtain⟨q',d',hv,hh⟩:=sb0.UL;simp only[Value.slice.injEq]at hv;obtain⟨rfl,_,rfl⟩:=hv;obtain⟨bb,oo,rfl,Wi,YS⟩:=hh (by intro e;subst e;simp at hm);have c0:=YS 0 (by omega);rw[Nat.add_zero]at c0;by_cases q2:b.getD 0 0=2
 case neg=>
  have q2':¬((b.getD 0 0:Nat):Int)=2:=by omega
  have e:XE ⟨P,l⟩ b=none:=by
   unfold XE;rw[if_neg (fun hn=>by omega),if_neg (fun hn=>q2 hn.2)]
  have wz:=fin h0 (h.size+1) [.int .i64 P.r,.int .i64 P.n,.slice pv l.length cv] rfl rfl z0;simp -implicitDefEqProofs only[go_sem,↓reduceIte,k33,c0,q2',e,r0,wz,k1];exact⟨⟨P,pv,l.length,cv,rfl,by simp⟩,b0.Zm (by omega) _⟩
 rw[q2]at c0;have e2:((2:Nat):Int)=2:=rfl;rw[e2]at c0;have d13:¬d=13:=by omega
 have d33:(33:Int)≤(d:Int):=by omega
 have s13:=fun c'=>TH sb0 (k:=13) (by omega) hm c';simp -implicitDefEqProofs only[go_sem,↓reduceIte,k33,c0,d13,d33,Int.toNat_natCast];refine (H9 T h0 _ (b.drop 13) (s13 _) (by rw[List.length_drop];omega)).use ?_;rintro _ g ⟨rfl,bg⟩;have sg:=bg.size;by_cases q3:JC (b.drop 13)=0
 case neg=>
  have e:XE ⟨P,l⟩ b=none:=by
   unfold XE;rw[if_neg (fun hn=>by omega),if_pos ⟨hm,q2⟩,if_pos q3]
  rw[jq _ q3];have zg:=bg.get k1 z0;have xg:=bg.get k0 x0;have rg:rd g ⟨h.size,0,none⟩ 3=some [.int .i64 P.r,.int .i64 P.n,.slice pv l.length cv]:=Zq xg rfl;have wz:=fin g (h.size+1) [.int .i64 P.r,.int .i64 P.n,.slice pv l.length cv] rfl rfl zg;have Zpr:¬h.size=g.size:=by omega
  have Hw:¬h.size+1=g.size:=by omega
  have qj:h.size+1<g.size:=by omega
  simp -implicitDefEqProofs only[go_sem,↓reduceIte,q3,e,rg,wz,Zpr,Hw,qj];exact⟨⟨P,pv,l.length,cv,rfl,by simp⟩,((b0.trans (bg.mono (by omega))).Zm (by omega) _).Yi (by simp;omega) _⟩
 rw[aY _ q3,q3];obtain⟨X,hX⟩:∃X:Vt,X=Cn (b.drop 13) ⟨Xf b 1,⟨Xf b 5,Xf b 9⟩,0,0,0,0,0⟩:=⟨_,rfl⟩
 have e:XE ⟨P,l⟩ b=if YQ P l X=0 then some ⟨X.b,JP l X⟩ else none:=by
  unfold XE;rw[if_neg (fun hn=>by omega),if_pos ⟨hm,q2⟩,if_neg (fun hn=>hn q3),←hX];rw[show (⟨((Xf b 5:Nat):Int),((Xf b 9:Nat):Int)⟩:YN)=X.b by rw[hX];rfl]
 have call:∀G,Ts Zo 8 G (.slice pv l.length cv) l→Zc Tryz.prog T 76 #[.agg #[.int .i64 P.r,.int .i64 P.n,.slice pv l.length cv],.agg #[.int .i64 (Xf b 1:Nat),.int .i64 (Xf b 5:Nat),.int .i64 (Xf b 9:Nat),.int .i64 (Xf (b.drop 13) 0:Nat),.int .i64 (Xf (b.drop 13) 4:Nat),.int .i64 (Xf (b.drop 13) 8:Nat),.int .i64 (Xf (b.drop 13) 12:Nat),.int .i64 (Xf (b.drop 13) 16:Nat)]] G fun v' h'=>eJ G.size h' v' P l X∧Zf G.size G h':=fun G sG=>by
  rw[hX];exact NS T G P _ l _ sG (by omega)
 clear hX;generalize Xf (b.drop 13) 0=y0 at *;generalize Xf (b.drop 13) 4=y4 at *;generalize Xf (b.drop 13) 8=y8 at *;generalize Xf (b.drop 13) 12=y12 at *;generalize Xf (b.drop 13) 16=y16 at *;obtain⟨h1,YK⟩:=Zx (g.push (.cells [.int .i64 (y0:Nat),.int .i64 (y4:Nat),.int .i64 (y8:Nat),.int .i64 (y12:Nat),.int .i64 (y16:Nat)].toArray 47):Hp);have e1:g.push (.cells #[Value.int .i64 (y0:Nat),.int .i64 (y4:Nat),.int .i64 (y8:Nat),.int .i64 (y12:Nat),.int .i64 (y16:Nat)] 47)=h1:=YK.symm;simp -implicitDefEqProofs only[go_sem,↓reduceIte];rw[e1];have b1:Zf h0.size h0 h1:=by rw[YK];exact bg.Yi sg _
 have s1h:h1.size=g.size+1:=by rw[YK];simp
 have c1h:h1[g.size]? = some (.cells [.int .i64 (y0:Nat),.int .i64 (y4:Nat),.int .i64 (y8:Nat),.int .i64 (y12:Nat),.int .i64 (y16:Nat)].toArray 47):=by rw[YK];exact Zb
 clear e1 YK;have x1:=b1.get k0 x0;have z1h:=b1.get k1 z0;have r1:rd h1 ⟨h.size,0,none⟩ 3=some [.int .i64 P.r,.int .i64 P.n,.slice pv l.length cv]:=Zq x1 rfl;have rc1:rd h1 ⟨g.size,0,none⟩ 5=some [.int .i64 (y0:Nat),.int .i64 (y4:Nat),.int .i64 (y8:Nat),.int .i64 (y12:Nat),.int .i64 (y16:Nat)]:=Zq c1h rfl;have c0h:hc h1 ⟨bb,oo,none⟩=some (.int .u8 2):=by rw[b1.hc (by exact Wi)];exact c0
 have k0h:h.size<h1.size:=by omega
 have kch:g.size<h1.size:=by omega
 have qs:=sb0.Z2 b1;have s1':=s0'.Z2 b1;have d1:¬d=1:=by omega
 have d5:¬d=5:=by omega
 have d9:¬d=9:=by omega
 have B1:Zf h.size h h1:=b0.trans (b1.mono (by omega));refine VS.mono (N:=fun F' g'=>Zf h1.size h1 g'∧F' 4=.pointer (some ⟨h.size+1,0,none⟩)∧F' 10=.int .i64 (YQ P l X)∧∃A p1 c1,h1.size≤A∧F' 11=.pointer (some ⟨A,0,none⟩)∧g'[A]? = some (.cells (YT (if YQ P l X=0 then X.b else ⟨0,0⟩) (.slice p1 (if YQ P l X=0 then JP l X else []).length c1)).toArray 81)∧Jn h1.size 109 Zo 8 g' (.slice p1 (if YQ P l X=0 then JP l X else []).length c1) (if YQ P l X=0 then JP l X else [])) ?_ ?_ (fun _ _ _ h=>h) (fun _ _ h=>h)
 ·refine VS.w (h1.size) [] (.q 0 (.q 1 (.q 2 (.q 4 (.q 5 (.q 7 (.q 8 (.q 11 (.or 3 (.or 6 (.or 9 (.q 10 (.q 12 (.or 13 (.q 14 (.q 15 (.q 16 (.s 17 (.s 18 (.q 19 .nil)))))) (.s 17 (.s 13 (.q 14 (.q 15 (.q 16 (.s 18 (.q 19 .nil)))))))))) (.s 17 (.s 9 (.q 10 (.q 12 (.s 13 (.q 14 (.q 15 (.q 16 (.s 18 (.q 19 .nil))))))))))) (.s 17 (.s 6 (.s 9 (.q 10 (.q 12 (.s 13 (.q 14 (.q 15 (.q 16 (.s 18 (.q 19 .nil)))))))))))) (.s 17 (.s 3 (.s 6 (.s 9 (.q 10 (.q 12 (.s 13 (.q 14 (.q 15 (.q 16 (.s 18 (.q 19 .nil))))))))))))))))))))) mixed (by kernel_rfl) ?_;simp -implicitDefEqProofs only[go_sem,↓reduceIte,r1,rc1,k0h,kch,k33,d1,d5,d9,c0h,Int.toNat_natCast]
  repeat' (first
    | with_reducible exact Zf.refl _ _
    | with_reducible exact Zf.push (by omega) _
    | (with_reducible refine (SA T _ bb oo d _ _ _ b 1 (by first|exact qs|exact qs.Z2 (Zf.push (Nat.le_refl _) _)) hm (by omega) rfl (by omega)).pure ?_;simp -implicitDefEqProofs only[go_sem,↓reduceIte,r1,rc1,k0h,kch,c0h,Int.toNat_natCast])
    | (with_reducible refine (SA T _ bb oo d _ _ _ b 5 (by first|exact qs|exact qs.Z2 (Zf.push (Nat.le_refl _) _)) hm (by omega) rfl (by omega)).pure ?_;simp -implicitDefEqProofs only[go_sem,↓reduceIte,r1,rc1,k0h,kch,c0h,Int.toNat_natCast])
    | (with_reducible refine (SA T _ bb oo d _ _ _ b 9 (by first|exact qs|exact qs.Z2 (Zf.push (Nat.le_refl _) _)) hm (by omega) rfl (by omega)).pure ?_;simp -implicitDefEqProofs only[go_sem,↓reduceIte,r1,rc1,k0h,kch,c0h,Int.toNat_natCast])
    | with_reducible refine And.intro ?_ ?_)
  all_goals first
   | (refine (call h1 s1').use ?_
      rintro _ g1 ⟨⟨w1,rfl,o1⟩,b1⟩;obtain⟨p1,c1,rfl,_⟩:=o1.open;generalize (if YQ P l X=0 then X.b else ⟨0,0⟩)=Y at *;generalize (if YQ P l X=0 then JP l X else [])=L at *;generalize YQ P l X=E at *;have s1:=b1.size;unfold YT;simp -implicitDefEqProofs only[go_sem,↓reduceIte,b1];exact⟨_,_,_,s1,rfl,Zb,o1.push _⟩)
   | (refine (call (h1.push (.cells [.int .i64 0,.int .i64 0,.slice none 0 0].toArray 81)) (s1'.Z2 (Zf.push (Nat.le_refl _) _))).use ?_
      rintro _ g1 ⟨⟨w1,rfl,o1⟩,b1⟩;obtain⟨p1,c1,rfl,_⟩:=o1.open;generalize (if YQ P l X=0 then X.b else ⟨0,0⟩)=Y at *;generalize (if YQ P l X=0 then JP l X else [])=L at *;generalize YQ P l X=E at *;have B1:Zf h1.size h1 g1:=(Zf.push (Nat.le_refl _) _).trans (b1.mono (by simp));have xA:=b1.get (by simp) Zb;have yA:=fin g1 h1.size [.int .i64 Y.r,.int .i64 Y.n,.slice p1 L.length c1] rfl rfl xA;have hz:=Za xA;unfold YT;simp -implicitDefEqProofs only[go_sem,↓reduceIte,B1,yA,hz];exact⟨_,_,_,Nat.le_refl _,rfl,Zy xA,(o1.ZP (b:=h1.size) (by simp) _).mono (by simp)⟩)
 ·rintro F' g' ⟨hB,f4,f8,A,p1,c1,hA,f6,xA,oA⟩;have z1:=hB.get (by omega) z1h;have k1':=Za z1;have rA:rd g' ⟨A,0,none⟩ 3=_:=Zq xA rfl;generalize hY:(if YQ P l X=0 then X.b else ⟨0,0⟩)=Y at *;generalize hL:(if YQ P l X=0 then JP l X else [])=L at *;generalize YQ P l X=E at *;unfold YT at rA;have wz:=fin g' (h.size+1) [.int .i64 Y.r,.int .i64 Y.n,.slice p1 L.length c1] rfl rfl z1;have bb':Zf h.size h (g'.setIfInBounds (h.size+1) (.cells [.int .i64 Y.r,.int .i64 Y.n,.slice p1 L.length c1].toArray 81)):=(B1.trans (hB.mono (by omega))).Zm (by omega) _;by_cases q:E=0
  ·rw[if_pos q]at e hY hL;simp -implicitDefEqProofs only[go_sem,↓reduceIte,f4,f6,f8,rA,wz,k1',q,e];refine⟨⟨Y,p1,L.length,c1,rfl,fun x hx=>?_⟩,bb'⟩
   cases hx
   exact⟨hY.symm,by rw[hL];exact (oA.ZP (by omega) _).mono (by omega)⟩
  ·rw[if_neg q]at e;simp -implicitDefEqProofs only[go_sem,↓reduceIte,f4,f6,f8,rA,wz,k1',q,e];exact⟨⟨Y,p1,L.length,c1,rfl,by simp⟩,bb'⟩
theorem aZ {h:Hp} {bp op m c k n off m' c':Nat} {l:List Nat} (s:Bs h (.slice (some ⟨bp,op,none⟩) m c) l) (hm:l.length=m) (hk:k+n≤m) (ho:off=op+k) (Ln:m'=n):Bs h (.slice (some ⟨bp,off,none⟩) m' c') ((l.drop k).take n):=by
 subst ho;subst Ln;have s1:=TH s (k:=k) (by omega) hm c';have e:m-k=(l.drop k).length:=by rw[List.length_drop];omega
 rw[e]at s1;exact s1.Rl (by rw[List.length_drop];omega) c'
def UB (l:List Nat) (k:Nat):Nat:=1+l.getD k 0
def Yp (l:List Nat) (a:QK) (k:Nat):Option (QK × Nat):=
 if k<l.length∧k+UB l k+4≤l.length∧(WH ((l.drop k).take (UB l k))).take 4=(l.drop (k+UB l k)).take 4 then
  (XE a ((l.drop (k+1)).take (UB l k-1))).map fun x=>(x,k+(UB l k+4))
 else none
inductive Rec (l:List Nat):QK→Nat→QK→Nat→Prop
 | stop {a:QK} {k:Nat}:Yp l a k=none→Rec l a k a k
 | go {a a' r:QK} {k k' j:Nat}:Yp l a k=some (a',k')→Rec l a' k' r j→Rec l a k r j
def X4:QK:=⟨⟨0,0⟩,[]⟩
def qt (B:Nat) (h':Hp) (v':Value) (l:List Nat) (n:Int):Prop:=∃(r:QK) (k:Nat) (E:Int) (w:Value),v'=.tuple [.agg (YT r.p w).toArray,.int .i64 k,.int .i64 E].toArray∧Jn B 109 Zo 8 h' w r.l∧k≤l.length∧r.l.length≤k ∧
 if YU l n then E=0∧Rec l X4 0 r k else E=5∧r=X4∧k=0
theorem Co {l:List Vt} (hs:Srt l) (v:Vt):(JP l v).length≤l.length+1:=by
 have:∀l:List Vt,(l.filter (fun x=>decide (x.slot<v.slot))).length+(l.filter (fun x=>decide (v.slot<x.slot))).length≤l.length:=by
  intro l
  induction l with
  | nil=>simp
  | cons x l ih=>
   simp only[List.filter_cons,List.length_cons];by_cases q1:x.slot<v.slot
   ·rw[if_pos (by simpa using q1),if_neg (by simp;omega),List.length_cons];omega
   ·rw[if_neg (by simpa using q1)];by_cases q2:v.slot<x.slot
    ·rw[if_pos (by simpa using q2),List.length_cons];omega
    ·rw[if_neg (by simpa using q2)];omega
 have:=this l;unfold JP;rw[List.length_append,List.length_cons];omega
theorem F9 {a x:QK} {b:List Nat} (h:XE a b=some x):x.l.length≤a.l.length+1:=by
 unfold XE at h;split at h
 ·split at h
  ·cases h;simp
  ·cases h
 ·split at h
  ·split at h
   ·cases h
   ·split at h
    ·rename_i q
     cases h
     have:XD a.p a.l=0:=by
      unfold YQ at q;split at q
      ·cases q
      ·rename_i hn;simpa using hn
     exact Co (KL this) _
    ·cases h
  ·cases h
set_option maxHeartbeats 2000000 in
theorem Ig (T:World) (h:Hp) (v:Value) (n:Int) (l:List Nat) (s:Bs h v l) (hl:l.length≤140737488355328) (tk:Tk h) :
  Zc Tryz.prog T 37 #[.agg [v,.int .i64 n].toArray] h fun v' h'=>qt h.size h' v' l n∧Zf h.size h h':=by
 obtain⟨p,c,rfl,_⟩:=s.open;refine Zc.XM (args:=[_]) Tryz.func37 rfl rfl rfl rfl ?_;unfold qt;simp -implicitDefEqProofs only[go_sem,↓reduceIte];obtain⟨h0,XR⟩:=Zx ((h.push (.cells [.slice p l.length c,.int .i64 n].toArray 76)).push (.cells [.int .i64 0,.int .i64 0,.slice none 0 0].toArray 81):Hp);have b0:Zf h.size h h0:=by rw[XR];exact ((Zf.refl _ _).add _).add _
 have s0:h0.size=h.size+2:=by rw[XR];simp
 have z0:h0[h.size+1]? = some (.cells [.int .i64 0,.int .i64 0,.slice none 0 0].toArray 81):=by
  rw[XR,Array.getElem?_push,if_pos (by simp)]
 have e0:(h.push (.cells #[Value.slice p l.length c,.int .i64 n] 76)).push (.cells #[Value.int .i64 0,.int .i64 0,.slice none 0 0] 81)=h0:=XR.symm;rw[e0];clear e0 XR;have fin:∀(G:Hp) (w:List Value),w.length=3→w.all Z7=true→G[h.size+1]? = some (.cells [.int .i64 0,.int .i64 0,.slice none 0 0].toArray 81)→wr G ⟨h.size+1,0,none⟩ w=some (G.setIfInBounds (h.size+1) (.cells w.toArray 81)):=by
  intro G w h3 h1 hx;rw[ZU (b:=h.size+1) hx 0 w,ZJ (by rw[h3];rfl),if_pos ⟨by rw[h3];simp,h1⟩]
 refine (QB T h0 _ n l (s.Z2 b0) hl).use ?_;rintro _ h1 ⟨b1,o1⟩;have s1:=b1.size;have B1:Zf h.size h h1:=b0.trans (b1.mono (by omega));have z1:=b1.get (by omega) z0;by_cases ok:YU l n
 case neg=>
  rw[if_neg (show ¬(l.length≤100000∧0≤n∧n≤l.length) from ok)]at o1;subst o1;have y2:=fin h1 [.int .i64 0,.int .i64 0,.slice none 0 0] rfl rfl z1;have ZD:h.size+1<h1.size:=by omega
  have YA:¬h.size+1=h1.size:=by omega
  simp -implicitDefEqProofs only[go_sem,↓reduceIte,y2,YA,ZD];refine⟨⟨X4,0,5,.slice none 0 0,rfl,Jn.nil _ _ _ _ _,Nat.zero_le _,Nat.le_refl _,?_⟩,(B1.Zm (by omega) _).Yi (by simp;omega) _⟩;rw[if_neg ok];exact⟨rfl,rfl,rfl⟩
 rw[if_pos (show (l.length≤100000∧0≤n∧n≤l.length) from ok)]at o1;obtain⟨w,rfl,o1⟩:=o1;obtain⟨pw,cw,rfl,hcw⟩:=o1.open;have l1:=ok.1;obtain⟨h2,Uz⟩:=Zx ((h1.push (.cells [.slice pw l.length cw,.int .i64 n].toArray 76)).push (.cells [.int .i64 0,.int .i64 0,.slice none 0 0].toArray 81):Hp);have e2:(h1.push (.cells #[Value.slice pw l.length cw,.int .i64 n] 76)).push (.cells #[Value.int .i64 0,.int .i64 0,.slice none 0 0] 81)=h2:=Uz.symm;simp -implicitDefEqProofs only[go_sem,↓reduceIte];rw[e2];have b2:Zf h1.size h1 h2:=by rw[Uz];exact ((Zf.refl _ _).add _).add _
 have s2:h2.size=h1.size+2:=by rw[Uz];simp
 have t2:h2[h1.size]? = some (.cells [.slice pw l.length cw,.int .i64 n].toArray 76):=by
  rw[Uz,Array.getElem?_push,if_neg (by simp),Zb]
 have a2:h2[h1.size+1]? = some (.cells [.int .i64 0,.int .i64 0,.slice none 0 0].toArray 81):=by
  rw[Uz,Array.getElem?_push,if_pos (by simp)]
 clear e2 Uz;have z2:=b2.get (by omega) z1;obtain⟨A,hA⟩:=Zx (h1.size+1);rw[←hA]at a2 ⊢;have sw:=o1.bs.Z2 b2;have B2:Zf h.size h h2:=B1.trans (b2.mono (by omega));have tk2:Tk h2:=tk.Je B2;have blo:=o1.own.ZG;refine VS.ZW (fun F g=>Zf A h2 g∧F 2=.pointer (some ⟨h.size+1,0,none⟩)∧F 5=.pointer (some ⟨h1.size,0,none⟩)∧F 7=.pointer (some ⟨A,0,none⟩)∧∃(k:Nat) (a:QK) (p1:Option Addr) (c1:Nat),k≤l.length∧F 8=.int .i64 k∧g[A]? = some (.cells (YT a.p (.slice p1 a.l.length c1)).toArray 81)∧Jn (A+1) 109 Zo 8 g (.slice p1 a.l.length c1) a.l∧a.l.length≤k∧∀r j,Rec l a k r j→Rec l X4 0 r j)
  (fun F _=>l.length-(vi (F 8)).toNat) rfl ⟨Zf.refl _ _,rfl,rfl,rfl,0,X4,none,0,Nat.zero_le _,rfl,a2,Jn.nil _ _ _ _ _,Nat.zero_le _,fun _ _ h=>h⟩ ?_
 rintro F g ⟨hg,f2,f5,f7,k,a,p1,c1,hk,f8,xa,oa,zO,ZgN⟩;have tg:=hg.get (by omega) t2;have zg:=hg.get (by omega) z2;have hzA:=Za xa;have fact:∀G,Zf g.size g G→V.hc G ⟨h1.size,0,none⟩=some (.slice pw l.length cw)∧rd G ⟨A,0,none⟩ 3=some [.int .i64 a.p.r,.int .i64 a.p.n,.slice p1 a.l.length c1] ∧
   wr G ⟨h.size+1,0,none⟩ [.int .i64 a.p.r,.int .i64 a.p.n,.slice p1 a.l.length c1]=some (G.setIfInBounds (h.size+1) (.cells [.int .i64 a.p.r,.int .i64 a.p.n,.slice p1 a.l.length c1].toArray 81))∧h.size+1<G.size∧Zf A h2 G ∧
   G[A]? = some (.cells (YT a.p (.slice p1 a.l.length c1)).toArray 81)∧Jn (A+1) 109 Zo 8 G (.slice p1 a.l.length c1) a.l∧Bs G (.slice pw l.length cw) l:=by
  intro G hG;have tG:=hG.get (by omega) tg;have zG:=hG.get (by omega) zg;have xG:=hG.get (by omega) xa;have bG:Zf A h2 G:=hg.trans (hG.mono (by omega));exact⟨by rw[Zh tG];rfl,Zq xG rfl,fin G _ rfl rfl zG,Za zG,bG,xG,oa.Z2 hG (Nat.le_refl _),o1.bs.Z2 (b2.trans (bG.mono (by omega)))⟩
 have done:∀G,Zf g.size g G→Yp l a k=none→(∃(r:QK) (k':Nat) (E:Int) (w:Value),Value.tuple [.agg (YT a.p (.slice p1 a.l.length c1)).toArray,.int .i64 (k:Nat),.int .i64 0].toArray=.tuple [.agg (YT r.p w).toArray,.int .i64 (k':Nat),.int .i64 E].toArray∧Jn h.size 109 Zo 8 (G.setIfInBounds (h.size+1) (.cells [.int .i64 a.p.r,.int .i64 a.p.n,.slice p1 a.l.length c1].toArray 81)) w r.l∧k'≤l.length∧r.l.length≤k'∧if YU l n then E=0∧Rec l X4 0 r k' else E=5∧r=X4∧k'=0)∧Zf h.size h (G.setIfInBounds (h.size+1) (.cells [.int .i64 a.p.r,.int .i64 a.p.n,.slice p1 a.l.length c1].toArray 81)):=by
  intro G hG e;obtain⟨_,_,_,_,bG,_,oG,_⟩:=fact G hG;refine⟨⟨a,k,0,_,rfl,(oG.ZP (by omega) _).mono (by omega),hk,zO,?_⟩,(B2.trans (bG.mono (by omega))).Zm (by omega) _⟩;rw[if_pos ok];exact⟨rfl,ZgN _ _ (.stop e)⟩
 obtain⟨rt,ra,wf,hlz,_,_,_,swg⟩:=fact g (Zf.refl _ _);by_cases ZD:k<l.length
 case neg=>
  have ZL:¬(k:Int)<l.length:=by omega
  have e:Yp l a k=none:=by unfold Yp;rw[if_neg (fun hn=>ZD hn.1)]
  simp -implicitDefEqProofs only[go_sem,↓reduceIte,f2,f5,f7,f8,rt,ZL,ra,wf,hlz];exact done g (Zf.refl _ _) e
 have ZL:(k:Int)<l.length:=by omega
 obtain⟨q',d',hv,hh⟩:=swg.UL;simp only[Value.slice.injEq,true_and]at hv;obtain⟨rfl,rfl⟩:=hv;obtain⟨bx,ox,rfl,hbx,YS⟩:=hh (by intro e;subst e;simp at ZD);have rx:=YS k ZD;have hx:=ZI swg.byte k;obtain⟨N,hN⟩:=Zx (UB l k);have hN':N=1+l.getD k 0:=hN;have e1:(1:Int)+((l.getD k 0:Nat):Int)=(N:Int):=by omega
 have e2:(N:Int)+4=((N+4:Nat):Int):=by omega
 have d1:¬cw=k:=by omega
 have n0:(0:Int)<((l.length-k:Nat):Int):=by omega
 have n1:(0:Int)≤(k:Int):=by omega
 have n2:(k:Int)≤(l.length:Int):=by omega
 by_cases hsh:l.length-k<N+4
 case pos=>
  have Zcb:((l.length-k:Nat):Int)<((N+4:Nat):Int):=by omega
  have e:Yp l a k=none:=by unfold Yp;rw[←hN,if_neg (fun hn=>by omega)]
  simp -implicitDefEqProofs only[go_sem,↓reduceIte,f2,f5,f7,f8,rt,ZL,ra,wf,hlz,rx,e1,e2,d1,n0,n1,n2,Zcb,Int.toNat_natCast];exact done g (Zf.refl _ _) e
 have Zcb:¬((l.length-k:Nat):Int)<((N+4:Nat):Int):=by omega
 have n3:(0:Int)≤(N:Int):=by omega
 have n4:(N:Int)≤((cw-k:Nat):Int):=by omega
 simp -implicitDefEqProofs only[go_sem,↓reduceIte,f2,f5,f7,f8,rt,ZL,rx,e1,e2,d1,n0,n1,n2,n3,n4,Zcb,Int.toNat_natCast];have sN:Bs g (.slice (some ⟨bx,ox+k,none⟩) N (cw-k)) ((l.drop k).take N):=aZ swg rfl (by omega) rfl rfl;have Bg:Zf h.size h g:=B2.trans (hg.mono (by omega));refine (NJ T g _ _ sN (tk.Je Bg)).use ?_;rintro _ g1 ⟨⟨w5,rfl,o5⟩,b5⟩;have e0:TJ ((l.drop k).take N).length=0:=by unfold TJ;rw[List.length_take,List.length_drop,if_neg (by omega)]
 rw[e0,if_pos rfl]at o5;rw[e0];have ml:=X9 ((l.drop k).take N);obtain⟨M,hM⟩:=Zx (WH ((l.drop k).take N));rw[←hM]at o5 ml;obtain⟨p5,c5,rfl,hc5⟩:=o5.open;have sM:=o5.bs;obtain⟨rt1,ra1,wf1,Zpt,bA1,xA1,oA1,sw1⟩:=fact g1 b5;have s5:=b5.size;have h4:(4:Int)≤(c5:Int):=by omega
 have n5:((N+4:Nat):Int)≤((cw-k:Nat):Int):=by omega
 have n6:(N:Int)≤((N+4:Nat):Int):=by omega
 have n7:(0:Int)≤((N+4:Nat):Int):=by omega
 have d2:¬cw-k=N:=by omega
 have hMd:Bs g1 (.slice p5 4 c5) (M.take 4):=sM.Rl (by omega) c5;have hRd:Bs g1 (.slice (some ⟨bx,ox+k+N,none⟩) (N+4-N) (cw-k-N)) ((l.drop (k+N)).take 4):=aZ sw1 rfl (by omega) (by omega) (by omega);simp -implicitDefEqProofs only[go_sem,↓reduceIte,f2,f5,f7,f8];refine VS.w (g1.size) [] (.q 0 (.q 1 (.q 2 (.q 3 (.q 4 (.q 5 (.q 6 (.s 7 (.q 8 .nil))))))))) mixed (by kernel_rfl) ?_;simp -implicitDefEqProofs only[go_sem,↓reduceIte,f2,f5,f7,f8,h4,e2,n3,n5,n6,n7,d2,Int.toNat_natCast];refine (Fv T g1 _ _ (M.take 4) ((l.drop (k+N)).take 4) hMd hRd (by rw[List.length_take];omega)).pure ?_;have eR:(l.drop (k+N)).take 4=(l.drop (k+UB l k)).take 4:=by rw[←hN]
 by_cases heq:M.take 4=(l.drop (k+N)).take 4
 case neg=>
  have hd:decide (M.take 4=(l.drop (k+N)).take 4)=false:=decide_eq_false heq;have e:Yp l a k=none:=by
   unfold Yp;rw[←hN,←hM,if_neg (fun hn=>heq hn.2.2)]
  rw[hd];simp -implicitDefEqProofs only[go_sem,↓reduceIte,f2,f5,f7,f8,ra1,wf1,Zpt];exact done g1 b5 e
 have hd:decide (M.take 4=(l.drop (k+N)).take 4)=true:=decide_eq_true heq;rw[hd];obtain⟨bd,ai⟩:=Zx ((l.drop (k+1)).take (N-1));have zW:Yp l a k=(XE a bd).map fun x=>(x,k+(N+4)):=by
  unfold Yp;rw[←hN,←hM,if_pos ⟨ZD,by omega,heq⟩,ai]
 have lbd:bd.length=N-1:=by rw[ai,List.length_take,List.length_drop];omega
 have sbd:Bs g1 (.slice (some ⟨bx,ox+k+1,none⟩) (N-1) (cw-k-1)) bd:=by rw[ai];exact aZ sw1 rfl (by omega) (by omega) rfl
 have call:∀G,Zf g1.size g1 G→Zc Tryz.prog T 54 #[.agg #[.int .i64 a.p.r,.int .i64 a.p.n,.slice p1 a.l.length c1],.slice (some ⟨bx,ox+k+1,none⟩) (N-1) (cw-k-1)] G fun v' h'=>F8 G.size h' v' a bd∧Zf G.size G h':=fun G hG=>
  qp T G a.p p1 c1 a.l _ (N-1) (cw-k-1) bd (oA1.ts.Z2 hG) (sbd.Z2 hG) lbd (by omega) (by omega) (by omega)
 have n8:(1:Int)≤(N:Int):=by omega
 have d3:¬cw-k=1:=by omega
 have q1:A<g1.size:=by omega
 have ZgP:∀(G:Hp) (b:Nat) (z w:List Value),z.length=3→w.length=3→w.all Z7=true→G[b]? = some (.cells z.toArray 81)→wr G ⟨b,0,none⟩ w=some (G.setIfInBounds b (.cells w.toArray 81)):=by
  intro G b z w hz h3 h1 hx;rw[ZU (b:=b) hx 0 w,ZJ (by rw[h3,hz]),if_pos ⟨by rw[h3,hz];simp,h1⟩]
 simp -implicitDefEqProofs only[go_sem,↓reduceIte,f2,f5,f7,f8];refine VS.mono (N:=fun F' g'=>Zf g1.size g1 g'∧F' 2=.pointer (some ⟨h.size+1,0,none⟩)∧F' 5=.pointer (some ⟨h1.size,0,none⟩)∧F' 7=.pointer (some ⟨A,0,none⟩)∧F' 8=.int .i64 k∧F' 10=.int .i64 N∧F' 14=.bool (XE a bd).isSome∧∃(A':Nat) (P:YN) (p m:_) (c:Nat),g1.size≤A'∧F' 13=.pointer (some ⟨A',0,none⟩)∧g'[A']? = some (.cells (YT P (.slice p m c)).toArray 81)∧∀x,XE a bd=some x→P=x.p∧Jn g1.size 109 Zo 8 g' (.slice p m c) x.l) ?_ ?_ (fun _ _ _ h=>h) (fun _ _ h=>h)
 ·refine VS.w (g1.size) [] (.q 0 (.q 1 (.q 2 (.q 3 (.or 4 (.q 5 (.q 6 (.q 7 (.s 8 (.s 9 (.q 10 .nil)))))) (.s 8 (.s 4 (.q 5 (.q 6 (.q 7 (.s 9 (.q 10 .nil)))))))))))) mixed (by kernel_rfl) ?_;simp -implicitDefEqProofs only[go_sem,↓reduceIte,f2,f5,f7,f8,ra1,q1,n3,n4,n8,d3,Int.toNat_natCast];refine⟨?_,?_⟩
  ·refine (call g1 (Zf.refl _ _)).use ?_;rintro _ g2 ⟨⟨P,p2,m2,c2,rfl,h2x⟩,b6⟩;have s6:=b6.size;unfold YT;simp -implicitDefEqProofs only[go_sem,↓reduceIte,f2,f5,f7,f8,b6];exact⟨_,_,_,_,_,s6,rfl,Zb,fun x hx=>⟨(h2x x hx).1,(h2x x hx).2.push _⟩⟩
  ·refine (call (g1.push (.cells [.int .i64 0,.int .i64 0,.slice none 0 0].toArray 81)) (Zf.push (Nat.le_refl _) _)).use ?_;rintro _ g2 ⟨⟨P,p2,m2,c2,rfl,h2x⟩,b6⟩;have B6:Zf g1.size g1 g2:=(Zf.push (Nat.le_refl _) _).trans (b6.mono (by simp));have xA:=b6.get (by simp) Zb;have yA:=ZgP g2 g1.size _ [.int .i64 P.r,.int .i64 P.n,.slice p2 m2 c2] rfl rfl rfl xA;have hz:=Za xA;unfold YT;simp -implicitDefEqProofs only[go_sem,↓reduceIte,f2,f5,f7,f8,B6,yA,hz];exact⟨_,_,_,_,_,Nat.le_refl _,rfl,Zy xA,fun x hx=>⟨(h2x x hx).1,((h2x x hx).2.ZP (b:=g1.size) (by simp) _).mono (by simp)⟩⟩
 rintro F' g' ⟨hB,f2,f5,f7,f8,f10,f14,A',P,p2,m2,c2,hA',f13,xA',hx'⟩;have sB:=hB.size;have hgG:Zf g.size g g':=b5.trans (hB.mono s5);obtain⟨rt2,jr,wf2,Zpu,bA2,xA2,oA2,sw2⟩:=fact g' hgG
 cases dz:XE a bd with
 | none=>
  have e:Yp l a k=none:=by rw[zW,dz];rfl
  rw[dz]at f14;simp -implicitDefEqProofs only[go_sem,↓reduceIte,f2,f5,f7,f8,f10,f14,jr,wf2,Zpu];exact done g' hgG e
 | some x=>
  obtain⟨rfl,ox2⟩:=hx' x dz;obtain⟨p3,c3,e3,_⟩:=ox2.open;simp only[Value.slice.injEq]at e3;obtain⟨rfl,rfl,rfl⟩:=e3;have e:Yp l a k=some (x,k+(N+4)):=by rw[zW,dz];rfl
  have rA':rd g' ⟨A',0,none⟩ 3=some [.int .i64 x.p.r,.int .i64 x.p.n,.slice p2 x.l.length c2]:=Zq xA' rfl;have wA:=ZgP g' A _ [.int .i64 x.p.r,.int .i64 x.p.n,.slice p2 x.l.length c2] rfl rfl rfl xA2;have zA:=Za xA2;have e4:(k:Int)+((N+4:Nat):Int)=((k+(N+4):Nat):Int):=by omega
  have lx:=F9 dz;rw[dz]at f14;simp -implicitDefEqProofs only[go_sem,↓reduceIte,f2,f5,f7,f8,f10,f13,f14,rA',wA,zA,e2,e4];refine⟨⟨bA2.Zm (Nat.le_refl _) _,f2,f5,f7,k+(N+4),x,p2,c2,by omega,rfl,Zy xA2,(ox2.ZP (by omega) _).mono (by omega),by omega,fun r j hr=>ZgN r j (.go e hr)⟩,?_⟩;simp only[vi,Zi,↓reduceIte,f8];omega
def qu (B:Nat) (h':Hp) (v':Value) (l:List Nat) (n:Int):Prop:=∃(r:QK) (k:Nat) (E:Int) (w:Value),v'=.tuple [.agg [w,.int .i64 (if E=0 then (if (k:Int)<n then (k:Int) else n) else 0)].toArray,.int .i64 E].toArray∧Z0 B 5 h' w (if E=0 then l.take k else [])∧k≤l.length ∧
 if YU l n then E=0∧Rec l X4 0 r k else E=5∧r=X4∧k=0
theorem jt (T:World) (h:Hp) (v:Value) (n:Int) (l:List Nat) (s:Bs h v l) (QO:VR v) (hl:l.length≤140737488355328) (tk:Tk h) :
  Zc Tryz.prog T 36 #[.agg [v,.int .i64 n].toArray] h fun v' h'=>qu h.size h' v' l n∧Zf h.size h h':=by
 obtain⟨p,c,rfl,_⟩:=s.open;have QO:l.length≤c:=QO;refine Zc.XM (args:=[_]) Tryz.func36 rfl rfl rfl rfl ?_;unfold qu;simp -implicitDefEqProofs only[go_sem,↓reduceIte];obtain⟨h0,XR⟩:=Zx ((h.push (.cells [.slice p l.length c,.int .i64 n].toArray 76)).push (.cells [.slice none 0 0,.int .i64 0].toArray 76):Hp);have b0:Zf h.size h h0:=by rw[XR];exact ((Zf.refl _ _).add _).add _
 have s0:h0.size=h.size+2:=by rw[XR];simp
 have t0:h0[h.size]? = some (.cells [.slice p l.length c,.int .i64 n].toArray 76):=by
  rw[XR,Array.getElem?_push,if_neg (by simp),Zb]
 have z0:h0[h.size+1]? = some (.cells [.slice none 0 0,.int .i64 0].toArray 76):=by
  rw[XR,Array.getElem?_push,if_pos (by simp)]
 have e0:(h.push (.cells #[Value.slice p l.length c,.int .i64 n] 76)).push (.cells #[Value.slice none 0 0,.int .i64 0] 76)=h0:=XR.symm;have tH:(h.push (.cells [Value.slice p l.length c,.int .i64 n].toArray 76)).push (.cells [Value.slice none 0 0,.int .i64 0].toArray 76)=h0:=XR.symm
 first|rw[e0]|rw[tH]
 clear e0 tH XR;refine (Ig T h0 _ n l (s.Z2 b0) hl (tk.Je b0)).use ?_;rintro _ h1 ⟨⟨r,k,E,w1,rfl,o1,hk,hr,q⟩,b1⟩;have s1:=b1.size;obtain⟨p1,c1,rfl,_⟩:=o1.open;unfold YT;obtain⟨h2,Uz⟩:=Zx (h1.push (.cells [.int .i64 r.p.r,.int .i64 r.p.n,.slice p1 r.l.length c1].toArray 81):Hp);have b2:Zf h1.size h1 h2:=by rw[Uz];exact Zf.push (Nat.le_refl _) _
 have s2:h2.size=h1.size+1:=by rw[Uz];simp
 have B2:Zf h.size h h2:=b0.trans ((b1.mono (by omega)).trans (b2.mono (by omega)));have t2:=b2.get (by omega) (b1.get (by omega) t0);have z2:=b2.get (by omega) (b1.get (by omega) z0);have y2:=ZU z2 0;have Nw:h.size+1<h2.size:=by omega
 have eh2:h1.push (.cells #[Value.int .i64 r.p.r,.int .i64 r.p.n,.slice p1 r.l.length c1] 81)=h2:=Uz.symm;clear Uz;by_cases ok:YU l n
 case neg=>
  have q0:=q;rw[if_neg ok]at q;obtain⟨rfl,rfl,rfl⟩:=q;have z1:=b1.get (by omega) z0;have y1:=ZU z1 0;have YA:¬h.size+1=h1.size:=by omega
  have qj:h.size+1<h1.size:=by omega
  have B1:Zf h.size h h1:=b0.trans (b1.mono (by omega));simp -implicitDefEqProofs only[go_sem,↓reduceIte,y1,YA,qj];refine⟨⟨X4,0,5,.slice none 0 0,rfl,Z0.nil _ _ _,Nat.zero_le _,q0⟩,?_⟩;exact (B1.Zm (by omega) _).Yi (by simp;omega) _
 have q0:=q;rw[if_pos ok]at q;obtain⟨rfl,q⟩:=q;have l1:=ok.1;have r2:V.hc h2 ⟨h.size,0,none⟩=some (.slice p l.length c):=by rw[Zh t2];rfl
 have n2:V.hc h2 ⟨h.size,1,none⟩=some (.int .i64 n):=by rw[Zh t2];rfl
 have k1:(0:Int)≤(k:Int):=by omega
 have k2:(k:Int)≤(c:Int):=by omega
 have q1:h.size<h2.size:=by omega
 simp -implicitDefEqProofs only[go_sem,↓reduceIte];rw[eh2];refine VS.w (h2.size) [10,11] (.q 0 (.q 1 (.q 2 (.q 3 (.q 5 (.q 6 (.q 7 (.q 8 (.s 4 (.q 9 (.w 10 (.w 11 .nil)))))))))))) mixed (by kernel_rfl) ?_;simp -implicitDefEqProofs only[go_sem,↓reduceIte,r2,n2,k1,k2,q1,Int.toNat_natCast];refine (Sk T h2 _ (l.take k) ((s.Z2 B2).Rl hk c) (by rw[List.length_take];omega)).use ?_;rintro w3 h3 ⟨o3,b3⟩;obtain⟨p3,c3,rfl,_⟩:=o3.open;have s3:=b3.size;have z3:=b3.get (by omega) z2;have iq:h.size+1<h3.size:=by omega
 have y3:=ZU z3 0;simp -implicitDefEqProofs only[go_sem,↓reduceIte,b3,y3,iq];refine⟨⟨r,k,0,_,rfl,?_,hk,q0⟩,(B2.trans (b3.mono (by omega))).Zm (by omega) _⟩;exact (o3.ZP (by omega) _).mono (by omega)
def Xv (rc:List Nat):List Nat:=eu (UA (rc.getD 0 0)) (rc.drop 1)
def Xq (l:List Nat) (i:Nat):Int:=((Xf l (4*i):Nat):Int)
def bj (PL:List Nat) (now:Int):Int:=T4 ((PL.take 22).getD 0 0:Nat) ((PL.take 22).getD 1 0:Nat) (Xf (PL.take 22) 2:Nat) (Xq (PL.drop 22) 0) (Xq (PL.drop 22) 1) (Xq (PL.drop 22) 2) (Xq (PL.drop 22) 3) (Xq (PL.drop 22) 4) now
def eK (PL:List Nat) (X:Nat) (now:Int):Int:=if Xq (PL.drop 22) 0≠0∧Xq (PL.drop 22) 1≠(X:Nat) then 11 else bj PL now
def Cp (PL:List Nat) (X:Nat) (now:Int):Int:=if JC (PL.drop 22)≠0 then JC (PL.drop 22) else eK PL X now
def Cq (PL:List Nat) (X:Nat) (now:Int):Int:=if JV Vx (PL.take 22)≠0 then JV Vx (PL.take 22) else Cp PL X now
def Cr (PL:List Nat) (X:Nat) (now:Int):Int:=if PL.length≠42 then 3 else Cq PL X now
def Gv (te:Int) (PL:List Nat) (X:Nat) (now:Int):Int:=if te≠0 then te else Cr PL X now
def Yy (rc:List Nat) (now:Int):Int:=
 if rc.length=0 then 13 else if Jm (rc.getD 0 0:Nat)≠0 then Jm (rc.getD 0 0:Nat) else
 Gv (UX (UA (rc.getD 0 0)) 0 0 Jl (rc.drop 1)) (Xv rc) (rc.getD 0 0) now
def Cs (rc:List Nat) (now:Int):List Value:=if Yy rc now=0 then Qp (Xq ((Xv rc).drop 22) 0) (Xq ((Xv rc).drop 22) 1) (Xq ((Xv rc).drop 22) 2) (Xq ((Xv rc).drop 22) 3) (Xq ((Xv rc).drop 22) 4) else Lb
theorem bm {key l:List Nat} (h:JV key l=0):FX key l=[.int .i64 (l.getD 0 0:Nat),.int .i64 (l.getD 1 0:Nat),.int .i64 (Xf l 2:Nat)]:=by unfold FX;rw[if_pos h];rfl
theorem ju {key l:List Nat} (h:¬JV key l=0):FX key l=[.int .i64 0,.int .i64 0,.int .i64 0]:=by unfold FX;rw[if_neg h];rfl
theorem jv {l:List Nat} (h:JC l=0):Kx l=[.int .i64 (Xq l 0),.int .i64 (Xq l 1),.int .i64 (Xq l 2),.int .i64 (Xq l 3),.int .i64 (Xq l 4)]:=by unfold Kx;rw[if_pos h];rfl
theorem jw {l:List Nat} (h:¬JC l=0):Kx l=[.int .i64 0,.int .i64 0,.int .i64 0,.int .i64 0,.int .i64 0]:=by unfold Kx;rw[if_neg h];rfl
theorem QF {rc:List Nat} {now:Int} (h:¬Yy rc now=0):Cs rc now=[.int .i64 0,.int .i64 0,.int .i64 0,.int .i64 0,.int .i64 0]:=by unfold Cs;rw[if_neg h];rfl
theorem jx {rc:List Nat} {now:Int} (h:Yy rc now=0):Cs rc now=[.int .i64 (Xq ((Xv rc).drop 22) 0),.int .i64 (Xq ((Xv rc).drop 22) 1),.int .i64 (Xq ((Xv rc).drop 22) 2),.int .i64 (Xq ((Xv rc).drop 22) 3),.int .i64 (Xq ((Xv rc).drop 22) 4)]:=by unfold Cs;rw[if_pos h];rfl
set_option maxHeartbeats 2000000 in
theorem qv (T:World) (h:Hp) (v:Value) (rc:List Nat) (now:Int) (s:Bs h v rc) (QO:VR v) (tI:rc.length≤140737488355328) (tk:Tk h) (tn:Dh 1 niv T5 h) :
  Zc Tryz.prog T 44 #[v,.int .i64 now] h fun v' h'=>v'=.tuple [.agg (Cs rc now).toArray,.int .i64 (Yy rc now)].toArray∧Zf h.size h h':=by
 obtain⟨p,c,rfl,_⟩:=s.open;have dm:rc.length≤c:=QO;refine Zc.XM (args:=[_,_]) Tryz.func44 rfl rfl rfl rfl ?_;simp -implicitDefEqProofs only[go_sem,↓reduceIte];obtain⟨h0,XR⟩:=Zx (h.push (.cells [.int .i64 0,.int .i64 0,.int .i64 0,.int .i64 0,.int .i64 0].toArray 47):Hp);have b0:Zf h.size h h0:=by rw[XR];exact (Zf.refl _ _).add _
 have s0:h0.size=h.size+1:=by rw[XR];simp
 have z0:h0[h.size]? = some (.cells [.int .i64 0,.int .i64 0,.int .i64 0,.int .i64 0,.int .i64 0].toArray 47):=by rw[XR];exact Zb
 have e0:h.push (.cells #[Value.int .i64 0,.int .i64 0,.int .i64 0,.int .i64 0,.int .i64 0] 47)=h0:=XR.symm;have tH:h.push (.cells [Value.int .i64 0,.int .i64 0,.int .i64 0,.int .i64 0,.int .i64 0].toArray 47)=h0:=XR.symm
 first|rw[e0]|rw[tH]
 clear e0 tH XR;have fin:∀(G:Hp) (w:List Value),w.length=5→w.all Z7=true→G[h.size]? = some (.cells [.int .i64 0,.int .i64 0,.int .i64 0,.int .i64 0,.int .i64 0].toArray 47)→wr G ⟨h.size,0,none⟩ w=some (G.setIfInBounds h.size (.cells w.toArray 47)):=by
  intro G w h3 h1 hx;rw[ZU (b:=h.size) hx 0 w,ZJ (by rw[h3];rfl),if_pos ⟨by rw[h3];simp,h1⟩]
 by_cases l0:rc.length=0
 case pos=>
  have l0':(rc.length:Int)=0:=by omega
  have ee:=show Yy rc now=13 by unfold Yy;rw[if_pos l0]
  rw[QF (by rw[ee];exact (by decide)),ee];have yz:=fin h0 [.int .i64 0,.int .i64 0,.int .i64 0,.int .i64 0,.int .i64 0] rfl rfl z0;have hz:=Za z0;simp -implicitDefEqProofs only[go_sem,↓reduceIte,l0',yz,hz]
  try exact (b0).Zm (Nat.le_refl _) _
 have l0':¬(rc.length:Int)=0:=by omega
 have n0:(0:Int)<(rc.length:Int):=by omega
 have n1:(1:Int)≤(rc.length:Int):=by omega
 obtain⟨q',d',hv,hh⟩:=(s.Z2 b0).UL;simp only[Value.slice.injEq,true_and]at hv;obtain⟨rfl,rfl⟩:=hv;obtain⟨bb,oo,rfl,Wi,YS⟩:=hh (by intro e;subst e;simp at l0);have x0:=YS 0 (by omega);rw[Nat.add_zero]at x0;have S6:=ZI s.byte 0;obtain⟨X,hX⟩:=Zx (rc.getD 0 0);rw[←hX]at x0 S6;obtain⟨PL,hPL⟩:=Zx (eu (UA X) (rc.drop 1));obtain⟨te,hte⟩:=Zx (UX (UA X) 0 0 Jl (rc.drop 1));have ePL:Xv rc=PL:=by rw[hPL,hX];rfl
 have E00:Yy rc now=if Jm (X:Nat)≠0 then Jm (X:Nat) else Gv te PL X now:=by
  unfold Yy;rw[if_neg l0,←hX,←hte,ePL]
 simp -implicitDefEqProofs only[go_sem,↓reduceIte,l0',n0,x0];refine (Ib T h0 _ (tk.Je b0)).use ?_;rintro _ h1 ⟨⟨w1,rfl,k1,o1,f1⟩,b1⟩;have B1:=b0.trans (b1.mono b0.size);have s1:=b1.size;have z1:=b1.get (by omega) z0;by_cases ke:Jm (X:Nat)=0
 case neg=>
  generalize Jm (X:Nat)=KE at *;have ee:=show Yy rc now=KE by rw[E00,if_pos ke]
  rw[QF (by rw[ee];exact ke),ee];have yz:=fin h1 [.int .i64 0,.int .i64 0,.int .i64 0,.int .i64 0,.int .i64 0] rfl rfl z1;have hz:=Za z1;simp -implicitDefEqProofs only[go_sem,↓reduceIte,ke,yz,hz]
  try exact (B1).Zm (Nat.le_refl _) _
 have E0:Yy rc now=Gv te PL X now:=by rw[E00,if_neg (fun hn=>hn ke)]
 rw[ke,if_pos rfl,Int.toNat_natCast]at o1;rw[ke];have x7:X≤7:=by unfold Jm at ke;split at ke<;>omega
 obtain⟨p1,c1,rfl,Us⟩:=o1.open;have lk:=MM X;obtain⟨P1,hP1⟩:=Zx (if c=1 then some (⟨bb,oo,none⟩:Addr) else some ⟨bb,oo+1,none⟩);have sD:Bs h1 (.slice P1 (rc.length-1) (c-1)) (rc.drop 1):=by
  have sb1:=(s.Z2 b0).Z2 b1;by_cases hc:c=1
  ·have oB:rc.length=1:=by omega
   have hd:rc.drop 1=[]:=List.drop_eq_nil_of_le (by omega);rw[hd,oB,hc];exact⟨(Qv.I9 0 0 1 h1 P1).sl,fun x hx=>by cases hx⟩
  ·rw[hP1,if_neg hc];exact TH sb1 (k:=1) (by omega) rfl _
 have Zpz:VR (.slice P1 (rc.length-1) (c-1)):=by show rc.length-1≤c-1;omega
 have htk:Zc Tryz.prog T 60 #[.agg #[.slice p1 (UA X).length c1,.int .i64 0,.int .i64 0,.bool false,.bool false,.bool false,.bool false,.bool false,.bool false,.bool false,.bool false],.slice P1 (rc.length-1) (c-1)] h1 fun v' h'=>FU h1.size h' v' (UA X) 0 0 Jl (rc.drop 1)∧Zf h1.size h1 h':=D6 T h1 _ _ (UA X) (rc.drop 1) 0 0 Jl rfl o1 sD k1 Zpz;simp -implicitDefEqProofs only[go_sem,↓reduceIte,n1]
 try rw[←hP1]
 refine htk.use ?_;rintro _ h2 ⟨⟨cw,w2,rfl,⟨w3,rfl,o3⟩,o2⟩,b2⟩;rw[←hte]at o2 o3 ⊢;rw[←hPL]at o2;have B2:=B1.trans (b2.mono B1.size);have s2:=b2.size;have z2:=b2.get (by omega) z1;obtain⟨CC,hCC⟩:=Zx (ZS w3 (if te=0 then 0 else 0) (if te=0 then max 0 (((Vv (rc.drop 1):Nat):Int)+1) else 0) (if te=0 then ME 0 Jl (Vv (rc.drop 1)) else Jl));obtain⟨p3,c3,rfl,_⟩:=o3.open;have lsn:(if te=0 then ME 0 Jl (Vv (rc.drop 1)) else Jl).length=8:=by
  split
  ·exact Vm _ _
  ·rfl
 have wU:CC.length=11:=by rw[hCC];exact Yd _ _ _ _ lsn
 have hCo:CC.all Z7=true:=by rw[hCC];exact QC _ _ _
 have hCp:Yw [Value.slice none 0 0,.int .i64 0,.int .i64 0,.bool false,.bool false,.bool false,.bool false,.bool false,.bool false,.bool false,.bool false] 0 CC=CC:=ZJ (by rw[wU];rfl);have Zcd:CC.length≤11:=by omega
 rw[←hCC];obtain⟨h3,FZ⟩:=Zx (h2.push (.cells CC.toArray 150):Hp);have b3:Zf h2.size h2 h3:=by rw[FZ];exact Zf.push (Nat.le_refl _) _
 have s3:h3.size=h2.size+1:=by rw[FZ];simp
 have z3:=b3.get (by omega) z2;have B3:=B2.trans (b3.mono B2.size);have o23:=o2.Z2 b3 (Nat.le_refl _);obtain⟨p2,c2,rfl,HU⟩:=o2.open;have yz2:=fin h2 [.int .i64 0,.int .i64 0,.int .i64 0,.int .i64 0,.int .i64 0] rfl rfl z2;have Zca:¬h.size=h2.size:=by omega
 have Nw:h.size<h2.size:=by omega
 by_cases zX:te=0
 case neg=>
  have ee:Yy rc now=te:=by rw[E0];unfold Gv;rw[if_pos zX]
  rw[QF (by rw[ee];exact zX),ee];simp -implicitDefEqProofs only[go_sem,↓reduceIte,wU,hCo,hCp,Zcd,zX,yz2,Zca,Nw]
  try exact (B2.Zm (Nat.le_refl _) _).Yi (by simp;omega) _
 have E1:Yy rc now=Cr PL X now:=by rw[E0];unfold Gv;rw[if_neg (fun hn=>hn zX)]
 rw[if_pos zX]at o23 HU
 try simp only[if_pos zX]
 by_cases l42:PL.length=42
 case neg=>
  have wX:¬(PL.length:Int)=42:=by omega
  have ee:Yy rc now=3:=by rw[E1];unfold Cr;rw[if_pos l42]
  rw[QF (by rw[ee];decide),ee];simp -implicitDefEqProofs only[go_sem,↓reduceIte,wU,hCo,hCp,Zcd,zX,wX,yz2,Zca,Nw]
  try exact (B2.Zm (Nat.le_refl _) _).Yi (by simp;omega) _
 have wX:(PL.length:Int)=42:=by omega
 have E2:Yy rc now=Cq PL X now:=by rw[E1];unfold Cr;rw[if_neg (fun hn=>hn l42)]
 simp -implicitDefEqProofs only[go_sem,↓reduceIte,wU,hCo,hCp,Zcd,zX,wX];rw[←FZ];clear FZ hCC o2 o3 hte;have n22:(22:Int)≤(c2:Int):=by omega
 have sPL:=o23.bs;have sT:Bs h3 (.slice p2 22 c2) (PL.take 22):=sPL.Rl (by omega) c2;have cT:VR (.slice p2 22 c2):=by show 22≤c2;omega
 obtain⟨PE,hPE⟩:=Zx (JV Vx (PL.take 22));obtain⟨tc,tr,tu,hT,ZpE⟩:∃tc tr tu:Int,FX Vx (PL.take 22)=[.int .i64 tc,.int .i64 tr,.int .i64 tu]∧(PE=0→tc=((PL.take 22).getD 0 0:Nat)∧tr=((PL.take 22).getD 1 0:Nat)∧tu=(Xf (PL.take 22) 2:Nat)):=by
  rw[hPE];by_cases q:JV Vx (PL.take 22)=0
  ·exact⟨_,_,_,bm q,fun _=>⟨rfl,rfl,rfl⟩⟩
  ·exact⟨_,_,_,ju q,fun hn=>(q hn).elim⟩
 have tk3:=tk.Je B3
 try simp -implicitDefEqProofs only[go_sem,↓reduceIte,wX]
 refine VS.mono (N:=fun F' g'=>Zf h3.size h3 g'∧F' 0=.slice (some ⟨bb,oo,none⟩) rc.length c∧F' 1=.int .i64 now∧F' 4=.pointer (some ⟨h.size,0,none⟩)∧F' 9=.slice p2 PL.length c2∧F' 7=.int .i64 PE∧∃A,h3.size≤A∧F' 10=.pointer (some ⟨A,0,none⟩)∧g'[A]? = some (.cells [.int .i64 tc,.int .i64 tr,.int .i64 tu].toArray 121)) ?_ ?_ (fun _ _ _ h=>h) (fun _ _ h=>h)
 ·refine VS.w (h3.size) [] (.q 1 (.q 2 (.or 0 (.or 3 (.q 4 (.q 5 (.q 6 (.s 7 (.s 8 (.q 9 .nil)))))) (.s 7 (.s 3 (.q 4 (.q 5 (.q 6 (.s 8 (.q 9 .nil)))))))) (.s 7 (.s 0 (.s 3 (.q 4 (.q 5 (.q 6 (.s 8 (.q 9 .nil))))))))))) mixed (by kernel_rfl) ?_;simp -implicitDefEqProofs only[go_sem,↓reduceIte,n22];have zt:∀(G:Hp) (k:Nat) (w:List Value),w.length=3→w.all Z7=true→G[k]? = some (.cells [.int .i64 0,.int .i64 0,.int .i64 0].toArray 121)→wr G ⟨k,0,none⟩ w=some (G.setIfInBounds k (.cells w.toArray 121)):=by
   intro G k w h3 h1 hx;rw[ZU (b:=k) hx 0 w,ZJ (by rw[h3];rfl),if_pos ⟨by rw[h3];simp,h1⟩]
  refine⟨?_,?_⟩
  ·refine (NQ T h3 tk3).use ?_;rintro w4 h4 ⟨⟨k4,o4⟩,b4⟩;have s4:=b4.size;simp -implicitDefEqProofs only[go_sem,↓reduceIte,b4,n22];refine⟨?_,?_⟩
   ·refine (KZ T h4 _ _ Vx (PL.take 22) o4 (sT.Z2 b4) cT (tk3.Je b4)).use ?_;rintro _ h5 ⟨rfl,b5⟩;have s5:=b5.size;have qw:Zf h3.size h3 h5:=b4.trans (b5.mono s4);rw[hT,←hPE];simp -implicitDefEqProofs only[go_sem,↓reduceIte,qw];exact⟨_,by omega,rfl,Zb⟩
   ·have bp:Zf h4.size h4 (h4.push (.cells [.int .i64 0,.int .i64 0,.int .i64 0].toArray 121)):=Zf.push (Nat.le_refl _) _;have bp3:Zf h3.size h3 (h4.push (.cells [.int .i64 0,.int .i64 0,.int .i64 0].toArray 121)):=b4.trans (bp.mono s4)
    first|refine⟨bp3,?_⟩|skip
    refine (KZ T (h4.push (.cells [.int .i64 0,.int .i64 0,.int .i64 0].toArray 121)) _ _ Vx (PL.take 22) (o4.Z2 bp) ((sT.Z2 b4).Z2 bp) cT ((tk3.Je b4).Je bp)).use ?_;rintro _ h5 ⟨rfl,b5⟩;have s5:=b5.size;have qw:Zf h3.size h3 h5:=bp3.trans (b5.mono (by simp;omega));have xA:=b5.get (by simp) Zb;have yA:=zt h5 h4.size [.int .i64 tc,.int .i64 tr,.int .i64 tu] rfl rfl xA;have hz:=Za xA;rw[hT,←hPE];simp -implicitDefEqProofs only[go_sem,↓reduceIte,qw,yA,hz]
    first
     | exact⟨qw.Zm (by omega) _,qw.Zm (by omega) _,_,by omega,rfl,Zy xA⟩
     | exact⟨qw.Zm (by omega) _,_,by omega,rfl,Zy xA⟩
     | exact⟨_,by omega,rfl,Zy xA⟩
  ·have bp3:Zf h3.size h3 (h3.push (.cells [.int .i64 0,.int .i64 0,.int .i64 0].toArray 121)):=Zf.push (Nat.le_refl _) _
   first|refine⟨bp3,?_⟩|skip
   refine (NQ T (h3.push (.cells [.int .i64 0,.int .i64 0,.int .i64 0].toArray 121)) (tk3.Je bp3)).use ?_;rintro w4 h4 ⟨⟨k4,o4⟩,b4⟩;have s4:=b4.size;have Bv:Zf h3.size h3 h4:=bp3.trans (b4.mono (by simp));simp -implicitDefEqProofs only[go_sem,↓reduceIte,Bv,n22];refine (KZ T h4 _ _ Vx (PL.take 22) o4 (sT.Z2 Bv) cT (tk3.Je Bv)).use ?_;rintro _ h5 ⟨rfl,b5⟩;have s5:=b5.size;have qw:Zf h3.size h3 h5:=Bv.trans (b5.mono Bv.size);have xA:=b5.get (by simp at s4;omega) (b4.get (by simp) Zb);have yA:=zt h5 h3.size [.int .i64 tc,.int .i64 tr,.int .i64 tu] rfl rfl xA;have hz:=Za xA;rw[hT,←hPE];simp -implicitDefEqProofs only[go_sem,↓reduceIte,qw,yA,hz]
   first
    | exact⟨qw.Zm (by omega) _,qw.Zm (by omega) _,_,by omega,rfl,Zy xA⟩
    | exact⟨qw.Zm (by omega) _,_,by omega,rfl,Zy xA⟩
    | exact⟨_,by omega,rfl,Zy xA⟩
 rintro F h6 ⟨b6,f0,f1,f4,f9,f7,A,hA3,f10,t6⟩;have hA6:=Za t6;have z6:=b6.get (by omega) z3;have B6:=B3.trans (b6.mono B3.size);by_cases pe:PE=0
 case neg=>
  have ee:=show Yy rc now=PE by rw[E2];unfold Cq;rw[←hPE,if_pos pe]
  rw[QF (by rw[ee];exact pe),ee];have yz:=fin h6 [.int .i64 0,.int .i64 0,.int .i64 0,.int .i64 0,.int .i64 0] rfl rfl z6;have hz:=Za z6;simp -implicitDefEqProofs only[go_sem,↓reduceIte,f0,f1,f4,f9,f7,f10,pe,yz,hz]
  try exact (B6).Zm (Nat.le_refl _) _
 have E3:Yy rc now=Cp PL X now:=by rw[E2];unfold Cq;rw[←hPE,if_neg (fun hn=>hn pe)]
 obtain⟨rfl,rfl,rfl⟩:=ZpE pe;have n42:(22:Int)≤(PL.length:Int):=by omega
 obtain⟨q2,d2,pL,Uz⟩:=sPL.UL;simp only[Value.slice.injEq,true_and]at pL;obtain⟨rfl,rfl⟩:=pL;obtain⟨b22,o22,rfl,_,_⟩:=Uz (by intro e;rw[e]at l42;cases l42);have d22:¬c2=22:=by omega
 have sB:=TH (sPL.Z2 b6) (k:=22) (by omega) rfl (c2-22);simp -implicitDefEqProofs only[go_sem,↓reduceIte,f0,f1,f4,f9,f7,f10,pe,n42,d22];refine (H9 T h6 _ (PL.drop 22) sB (by rw[List.length_drop];omega)).use ?_;rintro _ h7 ⟨rfl,b7⟩;have s7:=b7.size;have z7:=b7.get (by omega) z6;have t7:=b7.get hA6 t6;have B7:=B6.trans (b7.mono B6.size);obtain⟨DE,hDE⟩:=Zx (JC (PL.drop 22));have YA:¬h.size=h7.size:=by omega
 have KW:h.size<h7.size:=by omega
 by_cases de:DE=0
 case neg=>
  have ee:Yy rc now=DE:=by rw[E3];unfold Cp;rw[←hDE,if_pos de]
  rw[QF (by rw[ee];exact de),ee,jw (by rw[←hDE];exact de),←hDE];have yz:=fin h7 [.int .i64 0,.int .i64 0,.int .i64 0,.int .i64 0,.int .i64 0] rfl rfl z7;simp -implicitDefEqProofs only[go_sem,↓reduceIte,f0,f1,f4,f9,f7,f10,de,yz,YA,KW]
  try exact (B7.Zm (Nat.le_refl _) _).Yi (by simp;omega) _
 have E4:Yy rc now=eK PL X now:=by rw[E3];unfold Cp;rw[←hDE,if_neg (fun hn=>hn de)]
 rw[jv (by rw[←hDE];exact de),←hDE,de];have eA:bj PL now=T4 ((PL.take 22).getD 0 0:Nat) ((PL.take 22).getD 1 0:Nat) (Xf (PL.take 22) 2:Nat) (Xq (PL.drop 22) 0) (Xq (PL.drop 22) 1) (Xq (PL.drop 22) 2) (Xq (PL.drop 22) 3) (Xq (PL.drop 22) 4) now:=rfl;have eC:Yy rc now=0→Cs rc now=[.int .i64 (Xq (PL.drop 22) 0),.int .i64 (Xq (PL.drop 22) 1),.int .i64 (Xq (PL.drop 22) 2),.int .i64 (Xq (PL.drop 22) 3),.int .i64 (Xq (PL.drop 22) 4)]:=fun e=>by rw[jx e,ePL]
 have e4:eK PL X now=if Xq (PL.drop 22) 0≠0∧Xq (PL.drop 22) 1≠(X:Nat) then 11 else bj PL now:=rfl
 generalize Xq (PL.drop 22) 0=y0 at *;generalize Xq (PL.drop 22) 1=y1 at *;generalize Xq (PL.drop 22) 2=y2 at *;generalize Xq (PL.drop 22) 3=y3 at *;generalize Xq (PL.drop 22) 4=y4 at *;obtain⟨h8,hh8⟩:=Zx (h7.push (.cells [.int .i64 y0,.int .i64 y1,.int .i64 y2,.int .i64 y3,.int .i64 y4].toArray 47):Hp);have e8:h7.push (.cells #[Value.int .i64 y0,.int .i64 y1,.int .i64 y2,.int .i64 y3,.int .i64 y4] 47)=h8:=hh8.symm
 try simp -implicitDefEqProofs only[go_sem,↓reduceIte,f0,f1,f4,f9,f7,f10,de]
 rw[e8];have b8:Zf h7.size h7 h8:=by rw[hh8];exact Zf.push (Nat.le_refl _) _
 have s8:h8.size=h7.size+1:=by rw[hh8];simp
 have c8:h8[h7.size]? = some (.cells [.int .i64 y0,.int .i64 y1,.int .i64 y2,.int .i64 y3,.int .i64 y4].toArray 47):=by rw[hh8];exact Zb
 clear e8 hh8;have z8:=b8.get (by omega) z7;have t8:=b8.get (by omega) t7;have B8:=B7.trans (b8.mono B7.size);have k80:V.hc h8 ⟨h7.size,0,none⟩=some (.int .i64 y0):=by rw[Zh c8];rfl
 have k81:V.hc h8 ⟨h7.size,1,none⟩=some (.int .i64 y1):=by rw[Zh c8];rfl
 have rT8:rd h8 ⟨A,0,none⟩ 3=_:=Zq t8 rfl;have rC8:rd h8 ⟨h7.size,0,none⟩ 5=_:=Zq c8 rfl;have b18:Zf h1.size h1 h8:=(b2.trans ((b3.mono s2).trans ((b6.mono (by omega)).trans ((b7.mono (by omega)).trans (b8.mono (by omega))))))
 have x8:V.hc h8 ⟨bb,oo,none⟩=some (.int .u8 (X:Nat)):=by
  rw[b18.hc (by show bb<h1.size;omega),b1.hc (by exact Wi)];exact x0
 have yz8:=fin h8 [.int .i64 0,.int .i64 0,.int .i64 0,.int .i64 0,.int .i64 0] rfl rfl z8;have yc8:=fin h8 [.int .i64 y0,.int .i64 y1,.int .i64 y2,.int .i64 y3,.int .i64 y4] rfl rfl z8;have hz8:=Za z8;refine VS.mono (N:=fun F' g'=>g'=h8∧F' 0=.slice (some ⟨bb,oo,none⟩) rc.length c∧F' 1=.int .i64 now∧F' 4=.pointer (some ⟨h.size,0,none⟩)∧F' 10=.pointer (some ⟨A,0,none⟩)∧F' 11=.pointer (some ⟨h7.size,0,none⟩)∧F' 78=.bool (decide (y0≠0∧y1≠(X:Nat)))) ?_ ?_ (fun _ _ _ h=>h) (fun _ _ h=>h)
 ·refine VS.q mixed (by kernel_rfl) ?_;by_cases w0:y0=0
  ·have hd:decide (y0≠0∧y1≠(X:Nat))=false:=decide_eq_false (fun hn=>hn.1 w0);rw[hd];simp -implicitDefEqProofs only[go_sem,↓reduceIte,f0,f1,f4,f9,f7,f10,k80,w0]
  ·by_cases w1:y1=(X:Nat)
   ·have hd:decide (y0≠0∧y1≠(X:Nat))=false:=decide_eq_false (fun hn=>hn.2 w1);rw[hd];simp -implicitDefEqProofs only[go_sem,↓reduceIte,f0,f1,f4,f9,f7,f10,k80,k81,x8,n0,w0,w1]
   ·have hd:decide (y0≠0∧y1≠(X:Nat))=true:=decide_eq_true ⟨w0,w1⟩;rw[hd];simp -implicitDefEqProofs only[go_sem,↓reduceIte,f0,f1,f4,f9,f7,f10,k80,k81,x8,n0,w0,w1]
 rintro F' g8 ⟨Hz,g0,g1,g4,gt,gc,gb⟩;rw[Hz];clear Hz;by_cases tL:y0≠0∧y1≠(X:Nat)
 case pos=>
  have ee:Yy rc now=11:=by rw[E4,e4,if_pos tL]
  rw[decide_eq_true tL]at gb;rw[QF (by rw[ee];decide),ee];simp -implicitDefEqProofs only[go_sem,↓reduceIte,g4,gb,yz8,hz8]
  try exact B8.Zm (Nat.le_refl _) _
 have E5:Yy rc now=bj PL now:=by rw[E4,e4,if_neg tL]
 rw[decide_eq_false tL]at gb;have zO:Zc Tryz.prog T 63 #[.agg #[.int .i64 ((PL.take 22).getD 0 0:Nat),.int .i64 ((PL.take 22).getD 1 0:Nat),.int .i64 (Xf (PL.take 22) 2:Nat)],.agg #[.int .i64 y0,.int .i64 y1,.int .i64 y2,.int .i64 y3,.int .i64 y4],.int .i64 now] h8 fun v' h'=>v'=.int .i64 (bj PL now)∧Zf h8.size h8 h':=by
  rw[eA];exact iZ T h8 _ _ _ y0 y1 y2 y3 y4 now (tn.Je B8)
 simp -implicitDefEqProofs only[go_sem,↓reduceIte,g0,g1,g4,gt,gc,gb,rT8,rC8];refine zO.use ?_;rintro _ h9 ⟨rfl,b9⟩;have s9:=b9.size;have z9:=b9.get (by omega) z8;have c9:=b9.get (by omega) c8;have rC9:rd h9 ⟨h7.size,0,none⟩ 5=_:=Zq c9 rfl;have B9:=B8.trans (b9.mono B8.size);have yz9:=fin h9 [.int .i64 0,.int .i64 0,.int .i64 0,.int .i64 0,.int .i64 0] rfl rfl z9;have yc9:=fin h9 [.int .i64 y0,.int .i64 y1,.int .i64 y2,.int .i64 y3,.int .i64 y4] rfl rfl z9;have hz9:=Za z9;generalize bj PL now=OA at *;by_cases oa:OA=0
 ·have ee:Yy rc now=0:=by rw[E5,oa]
  rw[eC ee,ee];simp -implicitDefEqProofs only[go_sem,↓reduceIte,g4,gc,oa,rC9,yc9,hz9]
  try exact B9.Zm (Nat.le_refl _) _
 ·rw[QF (by rw[E5];exact oa),E5];simp -implicitDefEqProofs only[go_sem,↓reduceIte,g4,gc,oa,yz9,hz9]
  try exact B9.Zm (Nat.le_refl _) _
end Go.Proofs.YtboeoomhjbcecaaGreatDoor
