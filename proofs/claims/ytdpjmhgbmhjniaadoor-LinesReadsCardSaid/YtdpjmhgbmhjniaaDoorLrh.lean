/- Part Lrh. -/
import Derived.Test.YtdpjmhgbmhjniaaDoorBase
import Derived.Test.YtdpjmhgbmhjniaaDoorW31
import Derived.Shelf.Small.Strs
import Derived.Shelf.Strings.Prefix
import Derived.Shelf.Strings.Split
import Derived.Shelf.Strconv.AtoiAll
import Derived.Shelf.Strconv.Itoa3
import Derived.Test.YtdpjmhgbmhjniaaDoorLchks
import Derived.Lib.ItoaLen
import Derived.Lib.ItoaMem
namespace Go.Proofs.YtdpjmhgbmhjniaaDoor
open Go Go.V
set_option linter.unusedSimpArgs false
set_option linter.unusedVariables false
set_option maxRecDepth 100000
def Mn:Go.Shelf.Ren:=⟨fun|137=>14|217=>28|266=>36|n=>n,fun|9=>9|5=>5|3=>3|n=>n,fun|n=>n⟩
theorem Fx:Lays.n137 Tryd.prog Mn:={
 mixed:=by kernel_rfl,
 f137:=Tryd.func14.trans (congrArg some (by kernel_rfl)),
 f217:=Tryd.func28.trans (congrArg some (by kernel_rfl)),
 f266:=Tryd.func36.trans (congrArg some (by kernel_rfl)),
 t3:=Tryd.underlying3,
 a3:=Tryd.isAgg3,
 z3:=Tryd.sizeOf3,
 v3:=Tryd.zeroValue3,
 t5:=Tryd.underlying5,
 a5:=Tryd.isAgg5,
 z5:=Tryd.sizeOf5,
 v5:=Tryd.zeroValue5,
 t9:=Tryd.underlying9,
 a9:=Tryd.isAgg9,
 z9:=Tryd.sizeOf9,
 v9:=Tryd.zeroValue9 }
theorem Sf (T:World) (h:Hp) (s:ByteArray) (c:Int):Zf Tryd.prog T 14 #[.string s,.int .u8 c] h fun v' h'=>v'=.int .i64 (Lib.indexByte s.data.toList c.toNat.toUInt8)∧h'=h:=by
 refine Zf.XY fun w hs=>?_
 refine (Any.strings_IndexByte Fx s c w).mono ?_
 rintro e w' ⟨rfl,rfl⟩
 exact⟨_,rfl,rfl,rfl,rfl,rfl,hs.heap⟩
theorem OK:∀(l:List UInt8) (c:UInt8),Lib.indexByte l c<l.length:=by
 intro l c
 induction l with
 | nil=>unfold Lib.indexByte;simp
 | cons b l ih=>
  unfold Lib.indexByte
  simp only[List.length_cons]
  split
  ·omega
  ·split
   ·omega
   ·omega
def UU (s:ByteArray):Int:=Lib.indexByte s.data.toList 10
def Y4 (s:ByteArray):ByteArray:=if 0≤UU s then s.extract 0 ((UU s).toNat+1) else s
def Y5 (s:ByteArray):ByteArray:=if 0≤UU s then s.extract ((UU s).toNat+1) s.size else ⟨#[]⟩
theorem M8 (s:ByteArray):UU s<s.size:=by
 have:=OK s.data.toList 10
 simpa [UU] using this
theorem SO {s:ByteArray} (h:0<s.size):(Y5 s).size<s.size:=by
 have:=M8 s
 unfold Y5
 split
 ·rw[ByteArray.size_extract];omega
 ·exact h
def RN (sb:Nat) (s:ByteArray) (h:Hp):Prop:=h[sb]? = some (.cells [Value.string s].toArray 9)
def Sg (sb:Nat) (s:ByteArray) (h:Hp):Hp:=h.setIfInBounds sb (.cells [Value.string s].toArray 9)
def Fy (sb:Nat) (h:Hp):Nat:=match hc h ⟨sb,0,none⟩ with|some (Value.string r)=>r.size|_=>0
theorem RN.sz {sb:Nat} {s:ByteArray} {h:Hp} (b:RN sb s h):Fy sb h=s.size:=by
 unfold Fy
 rw[show hc h ⟨sb,0,none⟩=some (Value.string s) from Zs b]
set_option maxHeartbeats 4000000 in
theorem OL (T:World) (h:Hp) (lp sb:Nat) (s:ByteArray) (J:ByteArray→Hp→Prop) (Jx:Hp→Prop) (hs:s.size≤4611686018427387904) (hJ:∀r h,J r h→RN sb r h)
  (hY:∀r h,J r h→0<r.size→Xv Tryd.prog T lp (.string (Y4 r)) (fun b h'=>if b=true then J (Y5 r) h' else Jx h') (Sg sb (Y5 r) h))
  (h0:J s h):Zf Tryd.prog T 13 #[.func (.yield lp) #[] #[],.pointer (some ⟨sb,0,none⟩)] h fun _ h'=>J ⟨#[]⟩ h'∨Jx h':=by
 refine Zf.IW (args:=#[_,_]) (l:=[]) Tryd.func13 rfl rfl rfl ?_
 refine ZS _ _ _ _ _ _ rfl ?_
 simp -implicitDefEqProofs only[go_sem,↓reduceIte]
 refine VR.loop (fun F g=>F 0=.func (.yield lp) #[] #[]∧F 1=.pointer (some ⟨sb,0,none⟩)∧∃r:ByteArray,r.size≤s.size∧J r g)
  (fun F g=>Fy sb g) ⟨rfl,rfl,s,Nat.le_refl _,h0⟩ ?_
 rintro F g ⟨f0,f1,r,hr,hj⟩
 have bx:=hJ r g hj
 have c0:hc g ⟨sb,0,none⟩=some (.string r):=Zs bx
 have lt:=Zb bx
 refine VR.seq (ZS _ _ _ _ _ _ rfl ?_)
 by_cases hp:0<r.size
 case neg=>
  have hz:r.size=0:=by omega
  have Fz:¬(0:Int)<r.size:=by omega
  obtain rfl:r=⟨#[]⟩:=by
   have:r.data.size=0:=hz
   cases r;rename_i d
   rw[Array.size_eq_zero_iff]at this
   subst this;rfl
  simp -implicitDefEqProofs only[go_sem,↓reduceIte,f0,f1,c0,lt,Fz]
  first|exact .inl hj|(rw[if_neg (by decide)];exact .inl hj)|(rw[if_neg (by simp)];exact .inl hj)
 have Fz:(0:Int)<r.size:=by omega
 have ix:=Sf T g r 10
 have hY:=hY r g hj hp
 have AH:=M8 r
 have Rl:=SO hp
 have Rz:RN sb (Y5 r) (Sg sb (Y5 r) g):=by
  unfold RN Sg
  rw[Array.getElem?_setIfInBounds,if_pos rfl,if_pos lt]
 obtain⟨ln,LY⟩:=ZE (Y4 r)
 obtain⟨rs,Pm⟩:=ZE (Y5 r)
 rw[←LY,←Pm]at hY
 rw[←Pm]at Rl Rz
 unfold Y4 at LY
 unfold Y5 at Pm
 simp -implicitDefEqProofs only[go_sem,↓reduceIte,f0,f1,c0,lt,Fz]
 refine VR.block (VR.seq (ZS _ _ _ _ _ _ rfl ?_))
 simp -implicitDefEqProofs only[go_sem,↓reduceIte]
 refine VR.seq (ZS _ _ _ _ _ _ rfl ?_)
 simp -implicitDefEqProofs only[go_sem,↓reduceIte,f0,f1,c0,lt]
 refine ix.pure ?_
 have hn:Lib.indexByte r.data.toList (Int.toNat 10).toUInt8=UU r:=rfl
 rw[hn]
 by_cases q:0≤UU r
 ·rw[if_pos q]at LY Pm
  have e1:∀(K:Value→Hp→Prop) h,XH r none (some (UU r+1).toNat) K h=K (.string ln) h:=fun K h=>by
   rw[LY,show (UU r+1).toNat=(UU r).toNat+1 by omega]
   rfl
  have e2:∀(K:Value→Hp→Prop) h,XH r (some (.int .i64 (UU r+1))) (some r.size) K h=K (.string rs) h:=fun K h=>by
   have e:V.sb (some (.int .i64 (UU r+1))) 0 r.size=some ((UU r).toNat+1):=by
    simp only[V.sb]
    rw[if_pos (by omega)]
    simp only[Option.some.injEq];omega
   unfold XH
   simp only[e]
   rw[Pm]
  have w1:XN g ⟨sb,0,none⟩ (.string rs)=some (Sg sb rs g):=by
   rw[ZA bx 0 _,if_pos ⟨by simp,rfl⟩]
   rfl
  simp -implicitDefEqProofs only[go_sem,↓reduceIte,f0,f1,c0,lt,q]
  refine VR.w (g.size) [9] (.q 0 (.q 1 (.q 2 (.q 3 (.q 4 (.q 5 (.q 6 (.q 7 (.q 8 (.w 9 .nil)))))))))) mixed (by kernel_rfl) ?_
  simp -implicitDefEqProofs only[go_sem,↓reduceIte,f0,f1,c0,lt,q,e1,e2,w1]
  refine VR.seq (VR.yield (lp:=lp) (x:=.string ln) (by decide) (by simp[Zl,Jo,f0]) (by simp[Zl,Jo]) ?_)
  refine hY.mono ?_
  rintro b h' hk
  refine ZS _ _ _ _ _ _ rfl ?_
  cases b
  ·simp only[Bool.false_eq_true,if_false]at hk
   simp -implicitDefEqProofs only[go_sem,↓reduceIte]
   exact .inr hk
  ·simp only[if_true]at hk
   simp -implicitDefEqProofs only[go_sem,↓reduceIte,f0,f1]
   refine⟨⟨rs,by omega,hk⟩,?_⟩
   rw[(hJ rs h' hk).sz,bx.sz]
   omega
 ·rw[if_neg q]at LY Pm
  have w1:XN g ⟨sb,0,none⟩ (.string rs)=some (Sg sb rs g):=by
   rw[ZA bx 0 _,if_pos ⟨by simp,rfl⟩]
   rfl
  rw[Pm]at w1
  simp -implicitDefEqProofs only[go_sem,↓reduceIte,f0,f1,c0,lt,q,w1]
  refine VR.seq (VR.yield (lp:=lp) (x:=.string ln) (by decide) (by simp[Zl,Jo,f0]) (by simp[Zl,Jo,LY]) ?_)
  rw[←Pm]
  refine hY.mono ?_
  rintro b h' hk
  refine ZS _ _ _ _ _ _ rfl ?_
  cases b
  ·simp only[Bool.false_eq_true,if_false]at hk
   simp -implicitDefEqProofs only[go_sem,↓reduceIte]
   exact .inr hk
  ·simp only[if_true]at hk
   simp -implicitDefEqProofs only[go_sem,↓reduceIte,f0,f1]
   refine⟨⟨rs,by omega,hk⟩,?_⟩
   rw[(hJ rs h' hk).sz,bx.sz]
   omega
def bl (s:ByteArray):List Nat:=s.data.toList.map UInt8.toNat
theorem Yz (s:ByteArray):(bl s).length=s.size:=by
 unfold bl
 rw[List.length_map]
 simp
theorem Wd (s:ByteArray) (i:Nat):(s.data.toList.getD i 0).toNat=(bl s).getD i 0:=by
 unfold bl
 rw[List.getD_eq_getElem?_getD,List.getD_eq_getElem?_getD,List.getElem?_map]
 cases s.data.toList[i]?<;>rfl
theorem SP (s:ByteArray):∀x∈bl s,x<256:=by
 intro x hx
 unfold bl at hx
 obtain⟨y,_,rfl⟩:=List.mem_map.1 hx
 exact y.toNat_lt
def YI (x:Nat):Int:=if 48≤x∧x≤57 then x-48 else if 97≤x∧x≤102 then x-87 else -1
theorem SQ (T:World) (h:Hp) (x:Nat) (hx:x<256):Zf Tryd.prog T 26 #[.int .u8 x] h fun v' h'=>v'=.int .i64 (YI x)∧h'=h:=by
 refine Zf.WT [_] Tryd.func26 ?_
 obtain⟨z,hz⟩:=ZE (YI x)
 rw[←hz]
 unfold YI at hz
 by_cases q1:(48:Int)≤x
 ·by_cases q2:(x:Int)≤57
  ·rw[if_pos (by omega)]at hz
   simp -implicitDefEqProofs only[go_sem,↓reduceIte,q1,q2]
   rw[hz]
   congr 1;omega
  ·rw[if_neg (by omega)]at hz
   by_cases q3:(97:Int)≤x
   ·by_cases q4:(x:Int)≤102
    ·rw[if_pos (by omega)]at hz
     simp -implicitDefEqProofs only[go_sem,↓reduceIte,q1,q2,q3,q4]
     rw[hz]
     congr 1;omega
    ·rw[if_neg (by omega)]at hz
     simp -implicitDefEqProofs only[go_sem,↓reduceIte,q1,q2,q3,q4]
     rw[hz]
   ·rw[if_neg (by omega)]at hz
    simp -implicitDefEqProofs only[go_sem,↓reduceIte,q1,q2,q3]
    rw[hz]
 ·rw[if_neg (by omega),if_neg (by omega)]at hz
  have q3:¬(97:Int)≤x:=by omega
  simp -implicitDefEqProofs only[go_sem,↓reduceIte,q1,q3]
  rw[hz]
def YC:List Nat→Int→Int
 | [],n=>n
 | b :: l,n=>if b<48∨57<b then -1 else YC l (10*n+(b-48:Int))
theorem VG (n:Int):YC [] n=n:=rfl
theorem Xx (b:Nat) (l:List Nat) (n:Int):YC (b :: l) n=if b<48∨57<b then -1 else YC l (10*n+(b-48:Int)):=rfl
def Zq (l:List Nat):Int:=if l.length=0∨7<l.length∨(l.getD 0 0=48∧1<l.length) then -1 else YC l 0
set_option maxHeartbeats 4000000 in
theorem Ys (T:World) (h:Hp) (s:ByteArray) (hs:s.size≤4611686018427387904):Zf Tryd.prog T 25 #[.string s] h fun v' h'=>v'=.int .i64 (Zq (bl s))∧h'=h:=by
 refine Zf.WT [_] Tryd.func25 ?_
 have hl:=Yz s
 have hb:=SP s
 obtain⟨l,hL⟩:=ZE (bl s)
 have Nv:∀i:Nat,((s.data.toList.getD i 0).toNat:Int)=(l.getD i 0:Nat):=fun i=>by rw[hL,Wd]
 rw[←hL]at hl hb ⊢
 by_cases q0:l.length=0∨7<l.length∨(l.getD 0 0=48∧1<l.length)
 ·have e:Zq l = -1:=by unfold Zq;rw[if_pos q0]
  rw[e]
  by_cases q1:s.size=0
  ·have p1:(s.size:Int)=0:=by omega
   simp -implicitDefEqProofs only[go_sem,↓reduceIte,p1]
  have p1:¬(s.size:Int)=0:=by omega
  by_cases q2:7<s.size
  ·have p2:(7:Int)<s.size:=by omega
   simp -implicitDefEqProofs only[go_sem,↓reduceIte,p1,p2]
  have p2:¬(7:Int)<s.size:=by omega
  have p3:(0:Int)<s.size:=by omega
  have p4:(1:Int)<s.size:=by omega
  have p5:((l.getD 0 0:Nat):Int)=48:=by omega
  have a0:=Nv 0
  rw[p5]at a0
  simp -implicitDefEqProofs only[go_sem,↓reduceIte,p1,p2,p3,p4,a0]
 have p1:¬(s.size:Int)=0:=by omega
 have p2:¬(7:Int)<s.size:=by omega
 have p3:(0:Int)<s.size:=by omega
 have a0:=Nv 0
 have e:Zq l=YC l 0:=by unfold Zq;rw[if_neg q0]
 rw[e]
 by_cases q3:l.getD 0 0=48
 case' pos=>
  have p4:¬(1:Int)<s.size:=by omega
  have p5:((l.getD 0 0:Nat):Int)=48:=by omega
  rw[p5]at a0
  simp -implicitDefEqProofs only[go_sem,↓reduceIte,p1,p2,p3,p4,a0]
 case' neg=>
  have p5:¬((l.getD 0 0:Nat):Int)=48:=by omega
  simp -implicitDefEqProofs only[go_sem,↓reduceIte,p1,p2,p3,a0,p5]
 all_goals
  refine VS.XF (fun F g=>g=h∧F 0=.string s∧∃(i n:Nat),i≤l.length∧n<10 ^ i∧F 4=.int .i64 i∧F 3=.int .i64 n∧YC (l.drop i) n=YC l 0)
   (fun F _=>l.length-(vi (F 4)).toNat) rfl ⟨rfl,rfl,0,0,Nat.zero_le _,by decide,rfl,rfl,rfl⟩ ?_
  rintro F g ⟨rfl,f0,i,n,hi,hn,f4,f3,hw⟩
  have h7:(10:Nat) ^ i≤10 ^ 7:=Nat.pow_le_pow_right (by omega) (by omega)
  by_cases ZH:i<l.length
  ·have ZV:(i:Int)<s.size:=by omega
   have ai:=Nv i
   have hc:l.drop i=l.getD i 0 :: l.drop (i+1):=by
    rw[List.drop_eq_getElem_cons ZH,List.getD_eq_getElem?_getD,List.getElem?_eq_getElem ZH];rfl
   have hx:l.getD i 0<256:=by
    rw[List.getD_eq_getElem?_getD,List.getElem?_eq_getElem ZH]
    exact hb _ (List.getElem_mem ZH)
   obtain⟨x,Gw⟩:=ZE (l.getD i 0)
   rw[←Gw]at ai hc hx
   rw[hc,Xx]at hw
   by_cases r1:(x:Int)<48
   ·rw[if_pos (by omega)]at hw
    simp -implicitDefEqProofs only[go_sem,↓reduceIte,f0,f3,f4,ZV,ai,r1]
    rw[←hw]
   ·by_cases r2:(57:Int)<x
    ·rw[if_pos (by omega)]at hw
     simp -implicitDefEqProofs only[go_sem,↓reduceIte,f0,f3,f4,ZV,ai,r1,r2]
     rw[←hw]
    ·rw[if_neg (by omega)]at hw
     have hp:10 ^ (i+1)=10 ^ i*10:=Nat.pow_succ ..
     simp -implicitDefEqProofs only[go_sem,↓reduceIte,f0,f3,f4,ZV,ai,r1,r2]
     unfold YS
     refine⟨⟨rfl,f0,i+1,10*n+(x-48),ZH,by omega,rfl,?_,?_⟩,?_⟩
     ·simp only[Zl,Jo,Nat.reduceEqDiff,↓reduceIte,Value.int.injEq,true_and]
      omega
     ·rw[←hw]
      congr 1
      omega
     ·simp only[vi,Zl,Jo,Nat.reduceEqDiff,↓reduceIte]
      omega
  ·have ZV:¬(i:Int)<s.size:=by omega
   rw[List.drop_eq_nil_of_le (by omega),VG]at hw
   simp -implicitDefEqProofs only[go_sem,↓reduceIte,f0,f3,f4,ZV]
   rw[hw]
def glue (cur:List Nat):List (List Nat)→List (List Nat)
 | []=>[cur]
 | w :: k=>(cur++w) :: k
def Zo:List Nat→List (List Nat)
 | []=>[[]]
 | b :: l=>if b=32 then [] :: Zo l else glue [b] (Zo l)
theorem VH {k:List (List Nat)} (h:k≠[]):glue [] k=k:=by
 cases k with
 | nil=>exact absurd rfl h
 | cons w k=>rfl
theorem RO (a b:List Nat) (k:List (List Nat)):glue a (glue b k)=glue (a++b) k:=by
 cases k with
 | nil=>rfl
 | cons w k=>simp[glue]
theorem YA (l:List Nat):Zo l≠[]:=by
 cases l with
 | nil=>simp[Zo]
 | cons b l=>
  unfold Zo
  split
  ·simp
  ·cases Zo l<;>simp[glue]
theorem Yj (s:ByteArray) (a b:Nat):bl (s.extract a b)=((bl s).drop a).take (b-a):=by
 unfold bl
 rw[Lib.extract_data s a b,←List.map_drop,←List.map_take]
def WK (w:ByteArray):List Value:=[.string w]
set_option maxHeartbeats 4000000 in
theorem OM (T:World) (h:Hp) (s:ByteArray) (hs:s.size≤8000000):Zf Tryd.prog T 22 #[.string s] h fun v' h'=>Zj h.size h h'∧∃ws:List ByteArray,ws.map bl=Zo (bl s)∧Ts WK 1 h' v' ws:=by
 refine Zf.WT [_] Tryd.func22 ?_
 have hl:=Yz s
 obtain⟨l,hL⟩:=ZE (bl s)
 have Nv:∀i:Nat,((s.data.toList.getD i 0).toNat:Int)=(l.getD i 0:Nat):=fun i=>by rw[hL,Wd]
 rw[←hL]at hl ⊢
 simp -implicitDefEqProofs only[go_sem,↓reduceIte]
 refine VS.XF (fun F g=>Zj h.size h g∧F 0=.string s∧∃(i fr:Nat) (ws:List ByteArray),i≤l.length+1∧ws.length≤i∧F 5=.int .i64 i∧F 4=.int .i64 fr∧Jk h.size 9 WK 1 g (F 3) ws ∧
   (i≤l.length→fr≤i∧ws.map bl++glue ((l.drop fr).take (i-fr)) (Zo (l.drop i))=Zo l)∧(i=l.length+1→ws.map bl=Zo l))
  (fun F _=>l.length+1-(vi (F 5)).toNat) rfl ⟨Zj.refl _ _,rfl,0,0,[],Nat.zero_le _,Nat.zero_le _,rfl,rfl,?_,fun _=>⟨Nat.le_refl _,?_⟩,fun e=>by omega⟩ ?_
 ·exact Jk.nil _ _ _ _ _
 ·simp only[List.map_nil,List.nil_append,List.drop_zero,Nat.sub_self,List.take_zero]
  exact VH (YA l)
 rintro F g ⟨bg,f0,i,fr,ws,hi,RP,f5,f4,ow,hw,he⟩
 obtain⟨pv,cv,f3,CZ⟩:=ow.open
 by_cases hle:i≤l.length
 case neg=>
  have Y9:¬(i:Int)≤s.size:=by omega
  simp -implicitDefEqProofs only[go_sem,↓reduceIte,f0,f3,f4,f5,Y9]
  rw[f3]at ow
  exact⟨bg,ws,he (by omega),ow.ts⟩
 have Y9:(i:Int)≤s.size:=by omega
 obtain⟨NA,hw⟩:=hw hle
 rw[f3]at ow
 -- a word ends
 have ex:∀(K:Value→Hp→Prop) h,XH s (some (.int .i64 fr)) (some i) K h=K (.string (s.extract fr i)) h:=fun K h=>by
  have e:V.sb (some (.int .i64 (fr:Int))) 0 i=some fr:=by
   simp only[V.sb]
   rw[if_pos (by omega)]
   simp
  unfold XH
  simp only[e]
 have be:=Yj s fr i
 rw[←hL]at be
 have one:Ts WK 1 (g.push (.cells #[.string (s.extract fr i)] 9)) (.slice (some ⟨g.size,0,none⟩) 1 1) [s.extract fr i]:=Ts.one (enc:=WK) (E:=9) (s.extract fr i) (fun _=>rfl) 1
 by_cases FA:i=l.length
 ·have q1:(i:Int)=s.size:=by omega
  have I5:(ws++[s.extract fr i]).map bl=Zo l:=by
   rw[←hw,List.map_append,List.map_cons,List.map_nil,be,FA,List.drop_length]
   simp[Zo,glue]
  have C0:((i:Int)=s.size)=True:=eq_true q1
  have q0:(0:Int)≤i:=by omega
  simp -implicitDefEqProofs only[go_sem,↓reduceIte,f0,f3,f4,f5,Y9,C0,q0,Int.toNat_natCast,ex]
  refine U7 (E:=9) (B:=h.size) (n:=1) (bytes:=16) M6 Tryd.underlying39 E1 E3 rfl E2 (fun _=>rfl) (ow.push _) (by have:=bg.size;simp;omega) one (by simp only[List.length_singleton];omega) (by omega) ?_
  intro v' h' FB b' _
  have FC:Zj h.size h h':=(bg.add _).trans b'
  simp -implicitDefEqProofs only[go_sem,↓reduceIte,f0,f4,f5]
  unfold YS
  refine⟨⟨FC,f0,i+1,i+1,ws++[s.extract fr i],by omega,by simp;omega,rfl,rfl,FB,fun e=>by omega,fun _=>I5⟩,?_⟩
  simp only[vi,Zl,Jo,Nat.reduceEqDiff,↓reduceIte]
  omega
 ·have ZH:i<l.length:=by omega
  have q1:¬(i:Int)=s.size:=by omega
  have ZV:(i:Int)<s.size:=by omega
  have ai:=Nv i
  have hc:l.drop i=l.getD i 0 :: l.drop (i+1):=by
   rw[List.drop_eq_getElem_cons ZH,List.getD_eq_getElem?_getD,List.getElem?_eq_getElem ZH];rfl
  obtain⟨x,Gw⟩:=ZE (l.getD i 0)
  rw[←Gw]at ai hc
  by_cases q2:(x:Int)=32
  ·have q0:(0:Int)≤i:=by omega
   simp -implicitDefEqProofs only[go_sem,↓reduceIte,f0,f3,f4,f5,Y9,q1,ZV,ai,q2,ex,q0,Int.toNat_natCast]
   refine U7 (E:=9) (B:=h.size) (n:=1) (bytes:=16) M6 Tryd.underlying39 E1 E3 rfl E2 (fun _=>rfl) (ow.push _) (by have:=bg.size;simp;omega) one (by simp only[List.length_singleton];omega) (by omega) ?_
   intro v' h' FB b' _
   have FC:Zj h.size h h':=(bg.add _).trans b'
   simp -implicitDefEqProofs only[go_sem,↓reduceIte,f0,f4,f5]
   unfold YS
   refine⟨⟨FC,f0,i+1,i+1,ws++[s.extract fr i],by omega,by simp;omega,rfl,rfl,FB,fun _=>⟨Nat.le_refl _,?_⟩,fun e=>by omega⟩,?_⟩
   ·rw[←hw,List.map_append,List.map_cons,List.map_nil,be,hc,Nat.sub_self,List.take_zero,VH (YA _),Zo,if_pos (by omega),List.append_assoc]
    simp[glue]
   ·simp only[vi,Zl,Jo,Nat.reduceEqDiff,↓reduceIte]
    omega
  ·simp -implicitDefEqProofs only[go_sem,↓reduceIte,f0,f3,f4,f5,Y9,q1,ZV,ai,q2]
   unfold YS
   refine⟨⟨bg,f0,i+1,fr,ws,by omega,by omega,rfl,f4,by rw[←f3]at ow;exact ow,fun _=>⟨by omega,?_⟩,fun e=>by omega⟩,?_⟩
   ·rw[←hw,hc,Zo,if_neg (by omega),RO]
    congr 2
    have:i+1-fr=(i-fr)+1:=by omega
    rw[this,List.take_add_one,List.getElem?_drop]
    congr 1
    rw[show fr+(i-fr)=i by omega,List.getElem?_eq_getElem ZH,Gw,List.getD_eq_getElem?_getD,List.getElem?_eq_getElem ZH]
    rfl
   ·simp only[vi,Zl,Jo,Nat.reduceEqDiff,↓reduceIte]
    omega
def ON:Go.Shelf.Ren:=⟨fun|102=>16|209=>30|207=>40|n=>n,fun|9=>9|4=>4|3=>3|n=>n,fun|n=>n⟩
theorem I7:Lays.n102 Tryd.prog ON:={
 mixed:=by kernel_rfl,
 f102:=Tryd.func16.trans (congrArg some (by kernel_rfl)),
 f207:=Tryd.func40.trans (congrArg some (by kernel_rfl)),
 f209:=Tryd.func30.trans (congrArg some (by kernel_rfl)),
 t3:=Tryd.underlying3,
 a3:=Tryd.isAgg3,
 z3:=Tryd.sizeOf3,
 v3:=Tryd.zeroValue3,
 t4:=Tryd.underlying4,
 a4:=Tryd.isAgg4,
 z4:=Tryd.sizeOf4,
 v4:=Tryd.zeroValue4,
 t9:=Tryd.underlying9,
 a9:=Tryd.isAgg9,
 z9:=Tryd.sizeOf9,
 v9:=Tryd.zeroValue9 }
def RQ:Go.Shelf.Ren:=⟨fun|146=>15|221=>29|268=>37|138=>38|143=>39|195=>48|197=>49|218=>50|219=>51|260=>59|217=>28|225=>60|224=>61|267=>62|266=>36|314=>70|n=>n,fun|9=>9|31=>39|3=>3|4=>4|0=>0|105=>81|21=>21|5=>5|46=>54|119=>106|139=>109|138=>108|146=>110|51=>102|n=>n,fun|1=>1|3=>5|4=>6|n=>n⟩
theorem LZ:Lays.n146 Tryd.prog RQ:={
 mixed:=by kernel_rfl,
 f138:=Tryd.func38.trans (congrArg some (by kernel_rfl)),
 f143:=Tryd.func39.trans (congrArg some (by kernel_rfl)),
 f146:=Tryd.func15.trans (congrArg some (by kernel_rfl)),
 f195:=Tryd.func48.trans (congrArg some (by kernel_rfl)),
 f197:=Tryd.func49.trans (congrArg some (by kernel_rfl)),
 f217:=Tryd.func28.trans (congrArg some (by kernel_rfl)),
 f218:=Tryd.func50.trans (congrArg some (by kernel_rfl)),
 f219:=Tryd.func51.trans (congrArg some (by kernel_rfl)),
 f221:=Tryd.func29.trans (congrArg some (by kernel_rfl)),
 f224:=Tryd.func61.trans (congrArg some (by kernel_rfl)),
 f225:=Tryd.func60.trans (congrArg some (by kernel_rfl)),
 f260:=Tryd.func59.trans (congrArg some (by kernel_rfl)),
 f266:=Tryd.func36.trans (congrArg some (by kernel_rfl)),
 f267:=Tryd.func62.trans (congrArg some (by kernel_rfl)),
 f268:=Tryd.func37.trans (congrArg some (by kernel_rfl)),
 f314:=Tryd.func70.trans (congrArg some (by kernel_rfl)),
 t0:=Tryd.underlying0,
 a0:=Tryd.isAgg0,
 z0:=Tryd.sizeOf0,
 v0:=Tryd.zeroValue0,
 t3:=Tryd.underlying3,
 a3:=Tryd.isAgg3,
 z3:=Tryd.sizeOf3,
 v3:=Tryd.zeroValue3,
 t4:=Tryd.underlying4,
 a4:=Tryd.isAgg4,
 z4:=Tryd.sizeOf4,
 v4:=Tryd.zeroValue4,
 t5:=Tryd.underlying5,
 a5:=Tryd.isAgg5,
 z5:=Tryd.sizeOf5,
 v5:=Tryd.zeroValue5,
 t9:=Tryd.underlying9,
 a9:=Tryd.isAgg9,
 z9:=Tryd.sizeOf9,
 v9:=Tryd.zeroValue9,
 t21:=Tryd.underlying21,
 a21:=Tryd.isAgg21,
 z21:=Tryd.sizeOf21,
 v21:=Tryd.zeroValue21,
 t31:=Tryd.underlying39,
 a31:=Tryd.isAgg39,
 z31:=Tryd.sizeOf39,
 v31:=Tryd.zeroValue39,
 t46:=Tryd.underlying54,
 a46:=Tryd.isAgg54,
 z46:=Tryd.sizeOf54,
 v46:=Tryd.zeroValue54,
 t51:=Tryd.underlying102,
 a51:=Tryd.isAgg102,
 z51:=Tryd.sizeOf102,
 v51:=Tryd.zeroValue102,
 t105:=Tryd.underlying81,
 a105:=Tryd.isAgg81,
 z105:=Tryd.sizeOf81,
 v105:=Tryd.zeroValue81,
 t119:=Tryd.underlying106,
 a119:=Tryd.isAgg106,
 z119:=Tryd.sizeOf106,
 t138:=Tryd.underlying108,
 a138:=Tryd.isAgg108,
 z138:=Tryd.sizeOf108,
 v138:=Tryd.zeroValue108,
 t139:=Tryd.underlying109,
 a139:=Tryd.isAgg109,
 z139:=Tryd.sizeOf109,
 v139:=Tryd.zeroValue109,
 t146:=Tryd.underlying110,
 a146:=Tryd.isAgg110,
 z146:=Tryd.sizeOf110,
 v146:=Tryd.zeroValue110,
 g1:=by kernel_rfl,
 g3:=by kernel_rfl,
 g4:=by kernel_rfl }
theorem Mo (T:World) (h:Hp) (s p:ByteArray) (hs:s.size≤4611686018427387904):Zf Tryd.prog T 16 #[.string s,.string p] h fun v' h'=>v'=.string ⟨(Lib.trimSuffix s.data.toList p.data.toList).toArray⟩∧h'=h:=by
 refine Zf.XY fun w X3=>?_
 refine (Any.strings_TrimSuffix I7 s p w (by omega)).mono ?_
 rintro e w' ⟨rfl,rfl⟩
 exact⟨_,rfl,rfl,rfl,rfl,rfl,X3.heap⟩
def WL (h:Hp):Prop:=∃m,hc h ⟨1,0,none⟩=some (.int .i64 m)
def QR:ByteArray:=⟨#[32]⟩
theorem OO (T:World) (h:Hp) (s:ByteArray) (hs:s.size≤8000000) (hm:WL h):Zf Tryd.prog T 15 #[.string s,.string QR] h fun v' h'=>Ts WK 1 h' v' (Lib.splitB QR 0 (Lib.countB s QR) s)∧Zj h.size h h':=by
 obtain⟨m,hm⟩:=hm
 refine Zf.XY fun w X3=>?_
 refine (Any.strings_Split LZ (by kernel_rfl) s QR m w (by omega) (by rw[←hm,←X3.heap];rfl) (by decide)).mono ?_
 rintro e w' ⟨rfl,rfl⟩
 refine⟨_,rfl,rfl,rfl,rfl,?_,?_⟩
 ·have hl:=Lib.splitB_all QR (by decide) 0 _ s rfl
  have e:∀l:List ByteArray,l.map Value.string=Yh WK l:=by
   intro l
   induction l with
   | nil=>rfl
   | cons a l ih=>rw[List.map_cons,ih];rfl
  have:=Ts.made (h:=w.heap) (E:=9) (enc:=WK) (n:=1) (fun _=>rfl) (Lib.splitB QR 0 (Lib.countB s QR) s) (Lib.countB s QR+1)
  rw[hl]at this
  rw[e]
  exact this
 ·rw[←X3.heap]
  exact (Zj.refl _ _).add _
theorem RR:∀l:List UInt8,(Lib.indexByte l 32 = -1→Zo (l.map UInt8.toNat)=[l.map UInt8.toNat])∧∀i:Nat,Lib.indexByte l 32=i→Zo (l.map UInt8.toNat)=(l.take i).map UInt8.toNat :: Zo ((l.drop (i+1)).map UInt8.toNat):=by
 intro l
 induction l with
 | nil=>exact⟨fun _=>rfl,fun i h=>by unfold Lib.indexByte at h;omega⟩
 | cons b l ih=>
  obtain⟨i1,i2⟩:=ih
  have UA:=Lib.indexByte_ge l 32
  rw[List.map_cons,Zo]
  unfold Lib.indexByte
  by_cases q:b=32
  ·subst q
   rw[if_pos (show UInt8.toNat 32=32 from rfl)]
   refine⟨fun h=>by simp at h,fun i h=>?_⟩
   simp only[beq_self_eq_true,if_true]at h
   obtain rfl:i=0:=by omega
   rfl
  ·have q':(b == 32)=false:=by simpa using q
   have q2:¬b.toNat=32:=fun e=>q (UInt8.toNat_inj.1 e)
   rw[if_neg q2]
   simp only[q',Bool.false_eq_true,if_false]
   by_cases r:Lib.indexByte l 32 = -1
   ·rw[r,i1 r]
    refine⟨fun _=>rfl,fun i h=>?_⟩
    simp at h
   ·have r':(Lib.indexByte l 32 == -1)=false:=by simpa using r
    simp only[r',Bool.false_eq_true,if_false]
    refine⟨fun h=>by omega,fun i h=>?_⟩
    obtain⟨j,rfl⟩:∃j,i=j+1:=⟨i-1,by omega⟩
    rw[i2 j (by omega)]
    rfl
theorem VI:∀(n:Nat) (s:ByteArray),s.size<n→(Lib.splitB QR 0 (Lib.countB s QR) s).map bl=Zo (bl s):=by
 intro n
 induction n with
 | zero=>
  intro s hs
  omega
 | succ n ih=>
  intro s hs
  have e1:Lib.indexB s QR=Lib.indexByte s.data.toList 32:=Lib.one s QR rfl
  obtain⟨w1,w2⟩:=RR s.data.toList
  have UA:=Lib.indexByte_ge s.data.toList 32
  by_cases q:Lib.indexByte s.data.toList 32 = -1
  ·rw[Lib.countB_miss s QR (by rw[e1,q]),Lib.splitB_zero]
   exact (w1 q).symm
  ·obtain⟨i,hi⟩:∃i:Nat,Lib.indexByte s.data.toList 32=i:=⟨(Lib.indexByte s.data.toList 32).toNat,by omega⟩
   have ZH:=OK s.data.toList 32
   have U0:s.data.toList.length=s.size:=(Lib.size_eq s).symm
   rw[Lib.countB_hit s QR i (by decide) (by rw[e1,hi]),Nat.add_comm 1,Lib.splitB_hit QR 0 _ s i (by rw[e1,hi]),List.map_cons]
   have hr:(s.extract (i+QR.size) s.size).size<n:=by
    rw[ByteArray.size_extract]
    have:QR.size=1:=rfl
    omega
   rw[ih _ hr]
   have e2:bl s=s.data.toList.map UInt8.toNat:=rfl
   rw[e2,w2 i hi,Yj,Yj]
   have:QR.size=1:=rfl
   rw[this,e2]
   simp only[Nat.add_zero,List.drop_zero,Nat.sub_zero]
   rw[List.map_take,List.map_drop,List.take_of_length_le (l:=List.drop _ _)]
   simp
def OP:Go.Shelf.Ren:=⟨fun|172=>18|244=>31|245=>32|247=>41|279=>42|280=>43|281=>44|282=>45|287=>52|316=>53|171=>20|205=>54|321=>63|322=>64|243=>34|246=>47|283=>55|284=>56|285=>57|286=>58|129=>66|317=>65|318=>67|319=>68|320=>69|337=>71|338=>72|n=>n,fun|9=>9|3=>3|75=>51|76=>52|4=>4|5=>5|167=>72|37=>31|0=>0|85=>73|2=>2|168=>75|53=>83|175=>84|46=>54|210=>88|127=>67|145=>99|143=>97|21=>21|171=>90|173=>93|212=>101|51=>102|20=>20|213=>103|232=>113|233=>114|80=>59|n=>n,fun|15=>2|16=>3|17=>4|18=>7|19=>8|n=>n⟩
theorem OQ:LaysC.n172 Tryd.prog OP:={
 mixed:=by kernel_rfl,
 f129:=Tryd.func66.trans (congrArg some (by kernel_rfl)),
 f171:=Tryd.func20.trans (congrArg some (by kernel_rfl)),
 f172:=Tryd.func18.trans (congrArg some (by kernel_rfl)),
 f205:=Tryd.func54.trans (congrArg some (by kernel_rfl)),
 f243:=Tryd.func34.trans (congrArg some (by kernel_rfl)),
 f244:=Tryd.func31.trans (congrArg some (by kernel_rfl)),
 f245:=Tryd.func32.trans (congrArg some (by kernel_rfl)),
 f246:=Tryd.func47.trans (congrArg some (by kernel_rfl)),
 f247:=Tryd.func41.trans (congrArg some (by kernel_rfl)),
 f279:=Tryd.func42.trans (congrArg some (by kernel_rfl)),
 f280:=Tryd.func43.trans (congrArg some (by kernel_rfl)),
 f281:=Tryd.func44.trans (congrArg some (by kernel_rfl)),
 f282:=Tryd.func45.trans (congrArg some (by kernel_rfl)),
 f283:=Tryd.func55.trans (congrArg some (by kernel_rfl)),
 f284:=Tryd.func56.trans (congrArg some (by kernel_rfl)),
 f285:=Tryd.func57.trans (congrArg some (by kernel_rfl)),
 f286:=Tryd.func58.trans (congrArg some (by kernel_rfl)),
 f287:=Tryd.func52.trans (congrArg some (by kernel_rfl)),
 f316:=Tryd.func53.trans (congrArg some (by kernel_rfl)),
 f317:=Tryd.func65.trans (congrArg some (by kernel_rfl)),
 f318:=Tryd.func67.trans (congrArg some (by kernel_rfl)),
 f319:=Tryd.func68.trans (congrArg some (by kernel_rfl)),
 f320:=Tryd.func69.trans (congrArg some (by kernel_rfl)),
 f321:=Tryd.func63.trans (congrArg some (by kernel_rfl)),
 f322:=Tryd.func64.trans (congrArg some (by kernel_rfl)),
 f337:=Tryd.func71.trans (congrArg some (by kernel_rfl)),
 f338:=Tryd.func72.trans (congrArg some (by kernel_rfl)),
 t0:=Tryd.underlying0,
 a0:=Tryd.isAgg0,
 z0:=Tryd.sizeOf0,
 v0:=Tryd.zeroValue0,
 t2:=Tryd.underlying2,
 a2:=Tryd.isAgg2,
 z2:=Tryd.sizeOf2,
 v2:=Tryd.zeroValue2,
 t3:=Tryd.underlying3,
 a3:=Tryd.isAgg3,
 z3:=Tryd.sizeOf3,
 v3:=Tryd.zeroValue3,
 t4:=Tryd.underlying4,
 a4:=Tryd.isAgg4,
 z4:=Tryd.sizeOf4,
 v4:=Tryd.zeroValue4,
 t5:=Tryd.underlying5,
 a5:=Tryd.isAgg5,
 z5:=Tryd.sizeOf5,
 v5:=Tryd.zeroValue5,
 t9:=Tryd.underlying9,
 a9:=Tryd.isAgg9,
 z9:=Tryd.sizeOf9,
 v9:=Tryd.zeroValue9,
 t20:=Tryd.underlying20,
 a20:=Tryd.isAgg20,
 z20:=Tryd.sizeOf20,
 v20:=Tryd.zeroValue20,
 t21:=Tryd.underlying21,
 a21:=Tryd.isAgg21,
 z21:=Tryd.sizeOf21,
 v21:=Tryd.zeroValue21,
 t37:=Tryd.underlying31,
 a37:=Tryd.isAgg31,
 z37:=Tryd.sizeOf31,
 v37:=Tryd.zeroValue31,
 t46:=Tryd.underlying54,
 a46:=Tryd.isAgg54,
 z46:=Tryd.sizeOf54,
 v46:=Tryd.zeroValue54,
 t51:=Tryd.underlying102,
 a51:=Tryd.isAgg102,
 z51:=Tryd.sizeOf102,
 v51:=Tryd.zeroValue102,
 t53:=Tryd.underlying83,
 a53:=Tryd.isAgg83,
 z53:=Tryd.sizeOf83,
 v53:=Tryd.zeroValue83,
 t75:=Tryd.underlying51,
 a75:=Tryd.isAgg51,
 z75:=Tryd.sizeOf51,
 v75:=Tryd.zeroValue51,
 t76:=Tryd.underlying52,
 a76:=Tryd.isAgg52,
 z76:=Tryd.sizeOf52,
 v76:=Tryd.zeroValue52,
 t85:=Tryd.underlying73,
 a85:=Tryd.isAgg73,
 z85:=Tryd.sizeOf73,
 v85:=Tryd.zeroValue73,
 t127:=Tryd.underlying67,
 a127:=Tryd.isAgg67,
 z127:=Tryd.sizeOf67,
 v127:=Tryd.zeroValue67,
 t143:=Tryd.underlying97,
 a143:=Tryd.isAgg97,
 z143:=Tryd.sizeOf97,
 v143:=Tryd.zeroValue97,
 t145:=Tryd.underlying99,
 a145:=Tryd.isAgg99,
 z145:=Tryd.sizeOf99,
 v145:=Tryd.zeroValue99,
 t167:=Tryd.underlying72,
 a167:=Tryd.isAgg72,
 z167:=Tryd.sizeOf72,
 v167:=Tryd.zeroValue72,
 t168:=Tryd.underlying75,
 a168:=Tryd.isAgg75,
 z168:=Tryd.sizeOf75,
 v168:=Tryd.zeroValue75,
 t171:=Tryd.underlying90,
 a171:=Tryd.isAgg90,
 z171:=Tryd.sizeOf90,
 v171:=Tryd.zeroValue90,
 t173:=Tryd.underlying93,
 a173:=Tryd.isAgg93,
 z173:=Tryd.sizeOf93,
 v173:=Tryd.zeroValue93,
 t175:=Tryd.underlying84,
 a175:=Tryd.isAgg84,
 z175:=Tryd.sizeOf84,
 v175:=Tryd.zeroValue84,
 t210:=Tryd.underlying88,
 a210:=Tryd.isAgg88,
 z210:=Tryd.sizeOf88,
 v210:=Tryd.zeroValue88,
 t212:=Tryd.underlying101,
 a212:=Tryd.isAgg101,
 z212:=Tryd.sizeOf101,
 v212:=Tryd.zeroValue101,
 t213:=Tryd.underlying103,
 a213:=Tryd.isAgg103,
 z213:=Tryd.sizeOf103,
 t232:=Tryd.underlying113,
 a232:=Tryd.isAgg113,
 z232:=Tryd.sizeOf113,
 v232:=Tryd.zeroValue113,
 t233:=Tryd.underlying114,
 a233:=Tryd.isAgg114,
 z233:=Tryd.sizeOf114,
 v233:=Tryd.zeroValue114,
 g15:=by kernel_rfl,
 g16:=by kernel_rfl,
 g17:=by kernel_rfl,
 g18:=by kernel_rfl,
 g19:=by kernel_rfl,
 t80:=Tryd.underlying59,
 a80:=Tryd.isAgg59,
 z80:=Tryd.sizeOf59,
 v80:=Tryd.zeroValue59,
 i0:=by kernel_rfl,
 i2:=by kernel_rfl,
 i3:=by kernel_rfl,
 i4:=by kernel_rfl,
 i5:=by kernel_rfl,
 i9:=by kernel_rfl,
 i20:=by kernel_rfl,
 i21:=by kernel_rfl,
 i37:=by kernel_rfl,
 i46:=by kernel_rfl,
 i51:=by kernel_rfl,
 i53:=by kernel_rfl,
 i75:=by kernel_rfl,
 i76:=by kernel_rfl,
 i80:=by kernel_rfl,
 i85:=by kernel_rfl,
 i127:=by kernel_rfl,
 i143:=by kernel_rfl,
 i145:=by kernel_rfl,
 i167:=by kernel_rfl,
 i168:=by kernel_rfl,
 i171:=by kernel_rfl,
 i173:=by kernel_rfl,
 i175:=by kernel_rfl,
 i210:=by kernel_rfl,
 i212:=by kernel_rfl,
 i232:=by kernel_rfl,
 i233:=by kernel_rfl,
 m15:=by kernel_rfl,
 m16:=by kernel_rfl,
 m17:=by kernel_rfl,
 m18:=by kernel_rfl,
 m19:=by kernel_rfl,
 c0:=by kernel_rfl,
 c2:=by kernel_rfl,
 c3:=by kernel_rfl,
 c4:=by kernel_rfl,
 c5:=by kernel_rfl,
 c9:=by kernel_rfl,
 c20:=by kernel_rfl,
 c21:=by kernel_rfl,
 c37:=by kernel_rfl,
 c46:=by kernel_rfl,
 c51:=by kernel_rfl,
 c53:=by kernel_rfl,
 c75:=by kernel_rfl,
 c76:=by kernel_rfl,
 c80:=by kernel_rfl,
 c85:=by kernel_rfl,
 c127:=by kernel_rfl,
 c143:=by kernel_rfl,
 c145:=by kernel_rfl,
 c167:=by kernel_rfl,
 c168:=by kernel_rfl,
 c171:=by kernel_rfl,
 c173:=by kernel_rfl,
 c175:=by kernel_rfl,
 c210:=by kernel_rfl,
 c212:=by kernel_rfl,
 c213:=by kernel_rfl,
 c232:=by kernel_rfl,
 c233:=by kernel_rfl }
def Jy (g:Nat) (h:Hp):Prop:=∃ev,hc h ⟨g,0,none⟩=some ev∧(ev=.nilIface∨∃te pe,ev=.iface te pe)
theorem OR {l:List UInt8} {v:Int} (h:Lib.atoiAll l=.ok v) : -9223372036854775808≤v∧v≤9223372036854775807:=by
 unfold Lib.atoiAll at h
 cases l with
 | nil=>cases h
 | cons c r=>
  simp only at h
  split at h
  ·cases h
  ·cases h
  ·split at h
   ·cases h
   ·split at h
    ·cases h
    ·cases h
     split<;>omega
theorem Mp (T:World) (h:Hp) (s:ByteArray) (hs:s.size≤8000000) (h1:Jy 2 h) (h2:Jy 3 h) :
  Zf Tryd.prog T 18 #[.string s] h fun v' h'=>(∃n e,v'=.tuple [.int .i64 n,e].toArray∧(-9223372036854775808≤n∧n≤9223372036854775807)∧∀m,Lib.atoiAll s.data.toList=.ok m→n=m)∧Zj h.size h h':=by
 obtain⟨v1,a1,b1⟩:=h1
 obtain⟨v2,a2,b2⟩:=h2
 refine Zf.XY fun w X3=>?_
 have OS:∀a,w.cell? a=hc w.heap a:=fun a=>rfl
 rcases q:Lib.atoiAll s.data.toList with v|_|_
 ·refine (Any.strconv_Atoi_ok OQ s (by omega) v q w).mono ?_
  rintro e w' ⟨rfl,hw⟩
  have bw:Go.RowKit.Below w.heap.size w w':=by
   rcases hw with rfl|⟨t,rfl⟩
   ·exact Go.RowKit.Below.refl _ _
   ·exact Lib.bytesWorld_below w _ t
  refine⟨_,rfl,bw.tape,bw.os,bw.output,⟨v,_,rfl,OR q,fun m e=>by cases e;rfl⟩,?_⟩
  rw[←X3.heap]
  exact⟨bw.size,fun b hb=>bw.block b hb⟩
 ·refine (Any.strconv_Atoi_syntax OQ s (by omega) q v1 w (by rw[OS,X3.heap];exact a1) b1).mono ?_
  rintro e w' ⟨N,rfl,_,_,bw⟩
  refine⟨_,rfl,bw.tape,bw.os,bw.output,⟨0,_,rfl,by decide,fun m e=>by cases e⟩,?_⟩
  rw[←X3.heap]
  exact⟨bw.size,fun b hb=>bw.block b hb⟩
 ·refine (Any.strconv_Atoi_range OQ s (by omega) q v2 w (by rw[OS,X3.heap];exact a2) b2).mono ?_
  rintro e w' ⟨N,rfl,_,_,bw⟩
  refine⟨_,rfl,bw.tape,bw.os,bw.output,⟨Lib.atoiSat s.data.toList,_,rfl,?_,fun m e=>by cases e⟩,?_⟩
  ·unfold Lib.atoiSat
   split<;>decide
  rw[←X3.heap]
  exact⟨bw.size,fun b hb=>bw.block b hb⟩
def OT:Go.Shelf.Ren:=⟨fun|171=>20|243=>34|246=>47|283=>55|284=>56|285=>57|286=>58|129=>66|317=>65|318=>67|319=>68|320=>69|337=>71|338=>72|n=>n,fun|3=>3|9=>9|2=>2|4=>4|171=>90|0=>0|53=>83|37=>31|5=>5|173=>93|212=>101|51=>102|20=>20|213=>103|46=>54|232=>113|233=>114|n=>n,fun|17=>4|18=>7|19=>8|n=>n⟩
theorem I8:LaysM.n171 Tryd.prog OT:={
 mixed:=by kernel_rfl,
 f129:=Tryd.func66.trans (congrArg some (by kernel_rfl)),
 f171:=Tryd.func20.trans (congrArg some (by kernel_rfl)),
 f243:=Tryd.func34.trans (congrArg some (by kernel_rfl)),
 f246:=Tryd.func47.trans (congrArg some (by kernel_rfl)),
 f283:=Tryd.func55.trans (congrArg some (by kernel_rfl)),
 f284:=Tryd.func56.trans (congrArg some (by kernel_rfl)),
 f285:=Tryd.func57.trans (congrArg some (by kernel_rfl)),
 f286:=Tryd.func58.trans (congrArg some (by kernel_rfl)),
 f317:=Tryd.func65.trans (congrArg some (by kernel_rfl)),
 f318:=Tryd.func67.trans (congrArg some (by kernel_rfl)),
 f319:=Tryd.func68.trans (congrArg some (by kernel_rfl)),
 f320:=Tryd.func69.trans (congrArg some (by kernel_rfl)),
 f337:=Tryd.func71.trans (congrArg some (by kernel_rfl)),
 f338:=Tryd.func72.trans (congrArg some (by kernel_rfl)),
 t0:=Tryd.underlying0,
 a0:=Tryd.isAgg0,
 z0:=Tryd.sizeOf0,
 v0:=Tryd.zeroValue0,
 t2:=Tryd.underlying2,
 a2:=Tryd.isAgg2,
 z2:=Tryd.sizeOf2,
 v2:=Tryd.zeroValue2,
 t3:=Tryd.underlying3,
 a3:=Tryd.isAgg3,
 z3:=Tryd.sizeOf3,
 v3:=Tryd.zeroValue3,
 t4:=Tryd.underlying4,
 a4:=Tryd.isAgg4,
 z4:=Tryd.sizeOf4,
 v4:=Tryd.zeroValue4,
 t5:=Tryd.underlying5,
 a5:=Tryd.isAgg5,
 z5:=Tryd.sizeOf5,
 v5:=Tryd.zeroValue5,
 t9:=Tryd.underlying9,
 a9:=Tryd.isAgg9,
 z9:=Tryd.sizeOf9,
 v9:=Tryd.zeroValue9,
 t20:=Tryd.underlying20,
 a20:=Tryd.isAgg20,
 z20:=Tryd.sizeOf20,
 v20:=Tryd.zeroValue20,
 t37:=Tryd.underlying31,
 a37:=Tryd.isAgg31,
 z37:=Tryd.sizeOf31,
 v37:=Tryd.zeroValue31,
 t46:=Tryd.underlying54,
 a46:=Tryd.isAgg54,
 z46:=Tryd.sizeOf54,
 v46:=Tryd.zeroValue54,
 t51:=Tryd.underlying102,
 a51:=Tryd.isAgg102,
 z51:=Tryd.sizeOf102,
 v51:=Tryd.zeroValue102,
 t53:=Tryd.underlying83,
 a53:=Tryd.isAgg83,
 z53:=Tryd.sizeOf83,
 v53:=Tryd.zeroValue83,
 t171:=Tryd.underlying90,
 a171:=Tryd.isAgg90,
 z171:=Tryd.sizeOf90,
 v171:=Tryd.zeroValue90,
 t173:=Tryd.underlying93,
 a173:=Tryd.isAgg93,
 z173:=Tryd.sizeOf93,
 v173:=Tryd.zeroValue93,
 t212:=Tryd.underlying101,
 a212:=Tryd.isAgg101,
 z212:=Tryd.sizeOf101,
 v212:=Tryd.zeroValue101,
 t213:=Tryd.underlying103,
 a213:=Tryd.isAgg103,
 z213:=Tryd.sizeOf103,
 t232:=Tryd.underlying113,
 a232:=Tryd.isAgg113,
 z232:=Tryd.sizeOf113,
 v232:=Tryd.zeroValue113,
 t233:=Tryd.underlying114,
 a233:=Tryd.isAgg114,
 z233:=Tryd.sizeOf114,
 v233:=Tryd.zeroValue114,
 g17:=by kernel_rfl,
 g18:=by kernel_rfl,
 g19:=by kernel_rfl,
 i0:=by kernel_rfl,
 i2:=by kernel_rfl,
 i3:=by kernel_rfl,
 i4:=by kernel_rfl,
 i5:=by kernel_rfl,
 i9:=by kernel_rfl,
 i20:=by kernel_rfl,
 i37:=by kernel_rfl,
 i46:=by kernel_rfl,
 i51:=by kernel_rfl,
 i53:=by kernel_rfl,
 i171:=by kernel_rfl,
 i173:=by kernel_rfl,
 i212:=by kernel_rfl,
 i232:=by kernel_rfl,
 i233:=by kernel_rfl,
 m17:=by kernel_rfl,
 m18:=by kernel_rfl,
 m19:=by kernel_rfl }
def X0 (h:Hp):Prop:=∃e fr,h[(4:Nat)]? = some (.cells (Lib.pow10Tab.map fun z=>Value.int .u64 z).toArray e fr)
theorem Mq (T:World) (h:Hp) (n:Int) (h0 : -9223372036854775808≤n) (h1:n≤9223372036854775807) (C1:X0 h) :
  Zf Tryd.prog T 20 #[.int .i64 n] h fun v h'=>v=.string ⟨(Lib.itoa n).toArray⟩∧Zj h.size h h':=by
 refine Zf.XY fun w hs=>?_
 have ht:Lib.TabIs Tryd.prog w "internal/strconv.uint64pow10" .u64 Lib.pow10Tab:=by
  obtain⟨e,fr,ht⟩:=C1
  show (Tryd.prog.globalNamed "internal/strconv.uint64pow10").bind _=_
  rw[show Tryd.prog.globalNamed "internal/strconv.uint64pow10" = some 4 by kernel_rfl]
  simp only[Option.bind_some,hs.heap,ht]
 refine (Any.strconv_Itoa I8 n h0 h1 w ht).mono ?_
 rintro e w' ⟨rfl,k,os,rfl⟩
 refine⟨_,rfl,rfl,rfl,rfl,rfl,?_⟩
 have hh:(Go.Sort.grow (w.drewN k) os).heap=h++os:=by rw[←hs.heap];rfl
 rw[hh]
 exact Zj.app os (Nat.le_refl _)
@[go_sem] theorem C2:IP Tryd.prog 55=true:=by kernel_rfl
theorem SR:Extern.findNext Tryd.f46=none∧Extern.find Tryd.f46=some Extern.AbiNoEscape.same:=⟨by kernel_rfl,by kernel_rfl⟩
theorem I9:liesAt Tryd.prog Tryd.prog.depth 57 (2/Tryd.prog.cellsOf 57) 0 57 1=true:=by kernel_rfl
theorem Mr:Tryd.prog.cellsOf 5=1:=by kernel_rfl
theorem Xn.set {h:Hp} {b:Nat} (o:Obj):Xn (some b) h (h.setIfInBounds b o):=⟨by simp,fun k hk ZC=>by rw[Array.getElem?_setIfInBounds,if_neg (fun e=>ZC (by rw[e]))]⟩
theorem Vz {P:Program} {x:Value} {Q:Value→Hp→Prop} {h:Hp}:hw P (Extern.AbiNoEscape.same #[x]) Q h=Q x h:=rfl
theorem WM (T:World) (h:Hp) (b:Nat) (p:Option Addr) (v:Value) (hp:p=none∨p=some ⟨b,0,none⟩) (hb:h[b]? = some (.cells [.pointer p,v].toArray 57)) :
  Zf Tryd.prog T 33 #[.pointer (some ⟨b,0,none⟩)] h fun v' h'=>h'[b]? = some (.cells [.pointer (some ⟨b,0,none⟩),v].toArray 57)∧h'.size=h.size∧Xn (some b) h h':=by
 refine Zf.WT [_] Tryd.func33 ?_
 have x0:hc h ⟨b,0,none⟩=some (.pointer p):=by rw[Zs hb];rfl
 have V7:Z5 h b=some (57,2):=by unfold Z5;rw[hb];rfl
 rcases hp with rfl|rfl
 ·simp +contextual -implicitDefEqProofs only[go_sem,↓reduceIte,x0]
  refine Uk Tryd.underlying55 Tryd.underlying78 LU (by decide) V7 (show 0<2 by decide) ?_
  simp +contextual -implicitDefEqProofs only[go_sem,↓reduceIte,x0]
  refine WB Tryd.func46 (by decide) rfl SR.1 SR.2 ?_
  rw[Vz]
  simp +contextual -implicitDefEqProofs only[go_sem,↓reduceIte,x0]
  refine Qj Tryd.underlying78 Tryd.underlying55 LU V7 I9 ?_
  have ws:=ZA hb 0 (.pointer (some ⟨b,0,none⟩))
  simp +contextual -implicitDefEqProofs only[go_sem,↓reduceIte,x0,ws]
  exact⟨by simp[Zb hb],Xn.set _⟩
 ·simp +contextual -implicitDefEqProofs only[go_sem,↓reduceIte,x0]
  refine WE Tryd.underlying55 LU ?_
  simp +contextual -implicitDefEqProofs only[go_sem,↓reduceIte,x0]
  exact⟨hb,Xn.refl⟩
structure Pn (b:Nat) (v:Value) (h:Hp) (l:List Nat):Prop where
 Mb:∃p,(p=none∨p=some ⟨b,0,none⟩)∧h[b]? = some (.cells [.pointer p,v].toArray 57)
 ZJ:Y8 (b+1) 5 h v l
structure Kept (b:Nat) (x:Option Nat) (h h':Hp):Prop where
 size:h.size≤h'.size
 block:∀k,k<h.size→k≠b→x≠some k→h'[k]? = h[k]?
theorem Y6 (T:World) (h:Hp) (b:Nat) (v:Value) (l k:List Nat) (bl:Pn b v h l) (hk:∀x∈k,x<256) (Xd:l.length+k.length≤140737488355328) :
  Zf Tryd.prog T 19 #[.pointer (some ⟨b,0,none⟩),.string ⟨(k.map UInt8.ofNat).toArray⟩] h fun v' h'=>∃w,Pn b w h' (l++k)∧Kept b (Zt v) h h'∧(∀x,Zt w=some x→Zt v=some x∨h.size≤x):=by
 obtain⟨⟨p,hp,hb⟩,ZJ⟩:=bl
 have ZC:Zt v≠some b:=fun e=>by have:=ZJ.ZJ.Mb b e;omega
 have FD:=Zb hb
 refine Zf.WT [_,_] Tryd.func19 ?_
 simp +contextual -implicitDefEqProofs only[go_sem,↓reduceIte]
 refine (WM T h b p v hp hb).use ?_
 rintro _ h1 ⟨MP,De,c1⟩
 have FE:Y8 (b+1) 5 h1 v l:=ZJ.X7 c1 (fun x hx e=>ZC (by rw[hx,←e]))
 have x1:hc h1 ⟨b,1,none⟩=some v:=by rw[Zs MP];rfl
 simp +contextual -implicitDefEqProofs only[go_sem,↓reduceIte,x1]
 refine T7 (E:=5) OE Tryd.underlying9 G6 G8 G7 FE (by rw[De];omega) hk Xd ?_
 intro v2 h2 Ha RS Xm RH
 obtain⟨p2,c2,rfl,_⟩:=Ha.open
 have HQ:h2[b]? = some (.cells [.pointer (some ⟨b,0,none⟩),v].toArray 57):=(Xm.block b (by rw[De];exact FD) ZC).trans MP
 have ws:=ZA HQ 1 (.slice p2 (l++k).length c2)
 simp +contextual -implicitDefEqProofs only[go_sem,↓reduceIte,ws]
 have FF:Zt (.slice p2 (l++k).length c2)≠some b:=fun e=>by
  rcases RH b e with h3|h3
  ·exact ZC h3
  ·omega
 refine⟨_,⟨⟨_,.inr rfl,by rw[Array.getElem?_setIfInBounds,if_pos rfl,if_pos (Zb HQ)]⟩,Ha.X7 (Xn.set _) (fun x hx e=>FF (by rw[hx,←e]))⟩,⟨?_,fun j hj h3 h4=>?_⟩,fun x hx=>?_⟩
 ·have:=Xm.size;simp;omega
 ·rw[Array.getElem?_setIfInBounds,if_neg (fun e=>h3 e.symm),Xm.block j (by omega) h4,c1.block j hj (fun e=>h3 (by cases e;rfl))]
 ·rcases RH x hx with h3|h3
  ·exact .inl h3
  ·exact .inr (by omega)
theorem We (T:World) (h:Hp) (b:Nat) (v:Value) (l:List Nat) (bl:Pn b v h l) (ZC:l≠[]) (hlen:l.length≤140737488355328) :
  Zf Tryd.prog T 21 #[.pointer (some ⟨b,0,none⟩)] h fun v' h'=>v'=.string ⟨(l.map UInt8.ofNat).toArray⟩∧Kept b (Zt v) h h':=by
 obtain⟨⟨p,hp,hb⟩,ZJ⟩:=bl
 refine Zf.WT [_] Tryd.func21 ?_
 have x1:hc h ⟨b,1,none⟩=some v:=by rw[Zs hb];rfl
 obtain⟨p2,c2,rfl,hle⟩:=ZJ.open
 simp +contextual -implicitDefEqProofs only[go_sem,↓reduceIte,x1]
 refine VS.w ((b+1)) [] (.q 0 (.q 1 (.q 2 (.q 3 (.q 5 (.q 6 (.q 7 (.q 8 (.q 9 (.s 4 (.s 10 (.q 11 .nil)))))))))))) mixed (by kernel_rfl) ?_
 simp -implicitDefEqProofs only[go_sem,↓reduceIte,x1]
 refine WG ZJ ZC ?_
 intro g cap he hg
 obtain⟨rfl,_,rfl⟩:p2=some ⟨g,0,none⟩∧True∧c2=cap:=by
  simp only[Value.slice.injEq]at he
  exact⟨he.1,trivial,he.2.2⟩
 simp -implicitDefEqProofs only[go_sem,↓reduceIte,x1]
 refine WH ZJ ZC Tryd.underlying67 Mr hlen ?_
 intro h' X7
 have Ms:Zt (.slice (some ⟨g,0,none⟩) l.length c2)=some g:=by
  have:c2≠0:=by
   have h6:l.length≠0:=by simpa using ZC
   omega
  simp[Zt,this]
 have Yu:Zj (b+1) h h':=X7.Yu (Zb hb) (fun x hx=>by cases hx;exact hg)
 simp -implicitDefEqProofs only[go_sem,↓reduceIte,x1,Ms]
 exact⟨Yu,X7.size,fun k hk _ hx=>X7.block k hk hx⟩
theorem Z6 {P:Program} {T:World} {K:Value→Hp→Prop} {h:Hp} {f:FuncId} {x:Value} {l:List Value} (hg:goes P f=true) (H:Zf P T f (x :: l).toArray h K):Qt P T (.func (.func f) #[x] #[]) l K h:=by
 simp only[Qt,hg,↓reduceIte]
 simpa using H
theorem VJ {P:Program} {K:Value→Hp→Prop} {h:Hp} {t:TypeId} {x y:Operand} {u v:List UInt8} (hl:u.length+v.length≤9223372036854775807) (H:K (.string ⟨(u++v).toArray⟩) h):ZI P .add t x y (.string ⟨u.toArray⟩) (.string ⟨v.toArray⟩) K h:=by
 have e:((⟨u.toArray⟩:ByteArray)++(⟨v.toArray⟩:ByteArray))=⟨(u++v).toArray⟩:=by
  apply ByteArray.ext
  simp
 have hs:¬(((⟨u.toArray⟩:ByteArray).size+(⟨v.toArray⟩:ByteArray).size:Nat):Int)>IntKind.i64.max:=by
  have LQ:IntKind.i64.max=9223372036854775807:=rfl
  rw[LQ]
  simp only[ByteArray.size,List.size_toArray]
  omega
 unfold ZI
 rw[Za]
 show hw P (Op.stringOp .add ⟨u.toArray⟩ ⟨v.toArray⟩) K h
 unfold Op.stringOp
 simp only[if_neg hs,e]
 exact H
def Yv (x:Nat):Nat:=if x<10 then 48+x else 87+x
theorem Wf {K:Value→Hp→Prop} {h:Hp} {s:ByteArray} {k:IntKind} {A:Int} {a:Nat} {o:Option Nat} (hA:A=a) (ho:o=some (a+1)) (H:K (.string (s.extract a (a+1))) h):XH s (some (.int k A)) o K h:=by
 subst hA;subst ho
 have e:sb (some (.int k (a:Int))) 0 (a+1)=some a:=by
  simp only[sb]
  rw[if_pos (by omega)]
  simp
 show (match sb (some (.int k (a:Int))) 0 (a+1) with|some l=>K (.string (s.extract l (a+1))) h|none=>False)
 rw[e]
 exact H
theorem VK (x:Nat):P2 .u8 (x:Int) 4=((x/16:Nat):Int):=by
 show (x:Int).fdiv 16=_
 rw[Int.fdiv_eq_ediv_of_nonneg _ (by omega)]
 omega
theorem OU:∀a,a<16→(⟨#[48,49,50,51,52,53,54,55,56,57,97,98,99,100,101,102]⟩:ByteArray).extract a (a+1)=⟨([Yv a].map UInt8.ofNat).toArray⟩:=by
 intro a ha
 apply ByteArray.ext
 rw[ByteArray.data_extract]
 have h9:∀a,a<16→(#[48,49,50,51,52,53,54,55,56,57,97,98,99,100,101,102]:Array UInt8).extract a (a+1)=([Yv a].map UInt8.ofNat).toArray:=by decide
 exact h9 a ha
theorem Qz:∀x:Nat,x<256→XG .and .u8 (x:Int) 15=((x%16:Nat):Int):=by decide
theorem Un:goes Tryd.prog 19=true:=by kernel_rfl
theorem Jb {k:Int}:∀x∈Zg k,x.2≤1048576:=by
 intro x hx
 unfold Zg at hx
 repeat' split at hx
 all_goals simp at hx
 all_goals rcases hx with rfl|rfl<;>simp
def Xr:List (List Nat):=[[],[115,117,98,109,105,116],[108,101,97,100],[115,116,101,112],[99,97,114,114,121],[108,111,115,101],[100,111,117,98,108,101],[97,108,108],[99,114,97,115,104],[115,116,97,114,116]]
def Zr (k:Int):List Nat:=Xr.getD k.toNat []
def WN (l:List Nat):Value:=.string ⟨(l.map UInt8.ofNat).toArray⟩
def Words (h:Hp):Prop:=(0:Nat)<h.size∧∀k,k<10→hc h ⟨0,k,none⟩=some (WN (Xr.getD k []))
def YJ (n:Int):List Nat:=(Lib.itoa n).map UInt8.toNat
def Jz (k n a b:Int) (xs:List (Nat × Int)):List Nat:=(xs.map fun x=>32 :: YJ (Zz k n a b x.1)).flatten
def YB (d:List Nat):List Nat:=(d.map fun x=>[Yv (x/16),Yv (x%16)]).flatten
def J2 (k n a b:Int) (d:List Nat):List Nat:=Zr k++Jz k n a b (Zg k)++(if k=1 then 32 :: YB d else [])++[10]
theorem Uo {k n a b:Int}:∀(xs:List (Nat × Int)),(∀x∈xs,Yc k n a b x∧x.2≤1048576)→(Jz k n a b xs).length≤22*xs.length:=by
 intro xs
 induction xs with
 | nil=>intro _;simp[Jz]
 | cons x xs ih=>
  intro hx
  have h1:=ih (fun y hy=>hx y (List.mem_cons_of_mem _ hy))
  have h2:=hx x (List.mem_cons_self ..)
  unfold Yc at h2
  have h3:=Lib.itoa_length_le (Zz k n a b x.1) (by omega) (by omega)
  have e:Jz k n a b (x :: xs)=(32 :: YJ (Zz k n a b x.1))++Jz k n a b xs:=by simp[Jz]
  rw[e,List.length_append,List.length_cons,List.length_cons]
  unfold YJ
  rw[List.length_map]
  omega
theorem RT {k n a b:Int} (xs:List (Nat × Int)) (x:Nat × Int):Jz k n a b (xs++[x])=Jz k n a b xs++(32 :: YJ (Zz k n a b x.1)):=by simp[Jz]
theorem Wg (v:Int):∀x∈32 :: YJ v,x<256:=by
 intro x hx
 rcases List.mem_cons.1 hx with rfl|hx
 ·omega
 ·unfold YJ at hx
  obtain⟨y,_,rfl⟩:=List.mem_map.1 hx
  exact y.toNat_lt
theorem Kept.Yu {b B:Nat} {x:Option Nat} {h h':Hp} (k:Kept b x h h') (h1:B≤h.size) (h2:B≤b) (h3:∀y,x=some y→B≤y):Zj B h h':=
 ⟨k.size,fun j hj=>k.block j (by omega) (by omega) (fun e=>by have:=h3 _ e;omega)⟩
theorem Pn.low {b:Nat} {v:Value} {h:Hp} {l:List Nat} (s:Pn b v h l):∀y,Zt v=some y→b+1≤y:=s.ZJ.ZJ.Mb
theorem Pn.lt {b:Nat} {v:Value} {h:Hp} {l:List Nat} (s:Pn b v h l):b<h.size:=by
 obtain⟨⟨q,hq,hb⟩,o⟩:=s
 exact Zb hb
theorem Mt (T:World) (h:Hp) (k n a b:Int) (p:Option Addr) (c:Nat) (d:List Nat) (hk:1≤k∧k≤9) (s:Bs h (.slice p d.length c) d) (hd:d.length≤2000) (Up:∀x∈Zg k,Yc k n a b x) (tw:Words h) (tp:X0 h) :
  Zf Tryd.prog T 10 #[.agg (Zc k n a b (.slice p d.length c)).toArray] h fun v' h'=>v'=WN (J2 k n a b d)∧Zj h.size h h':=by
 refine Zf.WT [_] Tryd.func10 ?_
 have KK:(0:Int)≤k∧k<10:=by omega
 obtain⟨wl,RP⟩:=ZE (Zr k)
 have hw:hc h ⟨0,k.toNat,none⟩=some (.string ⟨(wl.map UInt8.ofNat).toArray⟩):=by rw[RP];exact tw.2 k.toNat (by omega)
 have C3:∀x∈wl,x<256:=by
  rw[RP];unfold Zr
  have:k.toNat<10:=by omega
  have h9:∀j,j<10→∀x∈Xr.getD j [],x<256:=by decide
  exact h9 _ this
 have FG:wl.length≤6:=by
  rw[RP];unfold Zr
  have:k.toNat<10:=by omega
  have h9:∀j,j<10→(Xr.getD j []).length≤6:=by decide
  exact h9 _ this
 have Gu:=tw.1
 unfold Zc
 simp +contextual -implicitDefEqProofs only[go_sem,↓reduceIte,KK,hw]
 obtain⟨G,hG⟩:=ZE ((h.push (.cells [.int .i64 k,.int .i64 n,.int .i64 a,.int .i64 b,.slice p d.length c].toArray 33)).push (.cells [.pointer none,.slice none 0 0].toArray 57))
 rw[←hG]
 have gs:G.size=h.size+2:=by rw[hG];simp
 have g0:G[h.size]? = some (.cells (Zc k n a b (.slice p d.length c)).toArray 33):=by rw[hG,Zm (by simp),Zn];rfl
 have g1:Pn (h.size+1) (.slice none 0 0) G []:=by
  refine⟨⟨none,.inl rfl,?_⟩,⟨Own.nil _ _ _ _,fun x hx=>by cases hx⟩⟩
  rw[hG,show h.size+1=(h.push (.cells [.int .i64 k,.int .i64 n,.int .i64 a,.int .i64 b,.slice p d.length c].toArray 33)).size by simp,Zn]
 have gb:Zj h.size h G:=by rw[hG];exact ((Zj.refl _ _).add _).add _
 refine Z6 Un ?_
 refine (Y6 T G _ _ [] wl g1 C3 (by simp;omega)).use ?_
 rintro _ h1 ⟨w1,Gx,FH,AI⟩
 rw[List.nil_append]at Gx
 have kz:=FH.size
 have k0:h1[h.size]? = some (.cells (Zc k n a b (.slice p d.length c)).toArray 33):=(FH.block _ (by omega) (by omega) (by simp[Zt])).trans g0
 have FI:Zj h.size h h1:=⟨by omega,fun j hj=>(FH.block j (by omega) (by omega) (by simp[Zt])).trans (gb.block j hj)⟩
 have KL:∀x,Zt w1=some x→h.size+2≤x∧x<h1.size:=fun x hx=>⟨Gx.ZJ.ZJ.Mb x hx,Gx.ZJ.ZJ.lt x hx⟩
 simp +contextual -implicitDefEqProofs only[go_sem,↓reduceIte]
 refine (XZ T h1 h.size k n a b (.slice p d.length c) k0).use ?_
 rintro _ h2 ⟨wn,rfl,FJ,b2⟩
 obtain⟨pw,cw,rfl,Xc⟩:=Jk.MW (enc:=Yk h.size) (n:=2) (fun _=>rfl) (by decide) FJ
 have C4:Pn (h.size+1) w1 h2 wl:=by
  obtain⟨⟨q,hq,hb⟩,o⟩:=Gx
  exact⟨⟨q,hq,b2.get (Zb hb) hb⟩,o.Yu b2 (Nat.le_refl _)⟩
 have k2:=b2.get (Zb k0) k0
 have RS:Zj h.size h h2:=FI.trans (b2.mono (by omega))
 have hlen:=Qk k
 have C5:decide (1≤k∧k≤9)=true:=by simpa using hk
 simp +contextual -implicitDefEqProofs only[go_sem,↓reduceIte,C5]
 refine VS.XF (fun F g=>Kept (h.size+1) (Zt w1) h2 g∧F 1=.pointer (some ⟨h.size,0,none⟩)∧F 3=.pointer (some ⟨h.size+1,0,none⟩)∧F 4=.func (.func 19) #[.pointer (some ⟨h.size+1,0,none⟩)] #[]∧F 22=.slice pw (Zg k).length cw∧F 23=.int .i64 (Zg k).length∧∃i:Nat,i≤(Zg k).length∧F 24=.int .i64 i∧∃w,(∀x,Zt w=some x→Zt w1=some x∨h2.size≤x)∧Pn (h.size+1) w g (wl++Jz k n a b ((Zg k).take i)))
  (fun F _=>(Zg k).length-(vi (F 24)).toNat) rfl ⟨⟨Nat.le_refl _,fun _ _ _ _=>rfl⟩,rfl,rfl,rfl,rfl,rfl,0,by omega,rfl,w1,fun x hx=>.inl hx,by simpa [Jz] using C4⟩ ?_
 rintro F g ⟨kp,f1,f3,f4,f22,f23,i,hi,f24,w,FK,bl⟩
 have C6:=kp.size
 by_cases ZH:i<(Zg k).length
 ·have ZV:(i:Int)<(Zg k).length:=by omega
  obtain⟨bb,oo,rfl,TT,M7,Xc⟩:=Xc (by intro e;rw[e]at ZH;simp at ZH)
  have hx:=List.getElem_mem ZH
  have Mm:=YH _ hx
  have r1:=(Xc i ZH).rd (by simp[Yk]) (m:=2) rfl
  obtain⟨x,OH⟩:=ZE ((Zg k)[i])
  rw[←OH]at hx Mm r1
  have r2:rd g ⟨bb,oo+i*2,none⟩ 2=some (Yk h.size x):=by
   rw[←r1];unfold rd;rw[kp.block bb M7 (by omega) (fun e=>by have:=KL _ e;omega)]
  have v1:hc g ⟨h.size,x.1,none⟩=some (.int .i64 (Zz k n a b x.1)):=by
   rw[Zs ((kp.block _ (Zb k2) (by omega) (fun e=>by have:=KL _ e;omega)).trans k2),Um _ _ _ _ _ _ Mm.1]
  unfold Yk at r2
  have hv:=Up x hx
  unfold Yc at hv
  have AJ:=Jb _ hx
  have C7:∀o,X0 (g.push o):=fun o=>by
   obtain⟨e,fr,ht⟩:=tp
   have C8:=Zb ht
   refine⟨e,fr,?_⟩
   rw[Zm (by have:=RS.size;omega),kp.block _ (by have:=RS.size;omega) (by omega) (fun e=>by have:=KL _ e;omega),RS.block _ C8,ht]
  simp +contextual -implicitDefEqProofs only[go_sem,↓reduceIte,f1,f4,f22,f23,f24,ZV,r2,v1]
  refine (Mq T _ _ (by omega) (by omega) (C7 _)).use ?_
  rintro _ h3 ⟨rfl,b3⟩
  have AK:=Lib.itoa_length_le (Zz k n a b x.1) (by omega) (by omega)
  simp +contextual -implicitDefEqProofs only[go_sem,↓reduceIte]
  refine VJ (u:=[32]) (v:=Lib.itoa (Zz k n a b x.1)) (by simp;omega) ?_
  have C9:([32]++Lib.itoa (Zz k n a b x.1))=(32 :: YJ (Zz k n a b x.1)).map UInt8.ofNat:=by
   unfold YJ
   simp[List.map_map,Function.comp_def]
  rw[C9]
  simp +contextual -implicitDefEqProofs only[go_sem,↓reduceIte,f4]
  refine Z6 Un ?_
  have gz:=b3.size
  have Ba:Pn (h.size+1) w h3 (wl++Jz k n a b ((Zg k).take i)):=by
   obtain⟨⟨q,hq,hb⟩,o⟩:=bl
   have Ms:=Zb hb
   exact⟨⟨q,hq,b3.get (by simp;omega) (by rw[Zm Ms];exact hb)⟩,(o.push _).Yu b3 (Nat.le_refl _)⟩
  refine (Y6 T h3 _ _ _ (32 :: YJ (Zz k n a b x.1)) Ba ?_ ?_).use ?_
  ·exact Wg _
  ·have hn:=Uo (k:=k) (n:=n) (a:=a) (b:=b) ((Zg k).take i) (fun y hy=>⟨Up y (List.mem_of_mem_take hy),Jb y (List.mem_of_mem_take hy)⟩)
   rw[List.length_append,List.length_cons]
   unfold YJ
   rw[List.length_map]
   rw[List.length_take]at hn
   omega
  rintro _ h4 ⟨w4,Bb,Df,Bc⟩
  have AL:=Df.size
  simp +contextual -implicitDefEqProofs only[go_sem,↓reduceIte,f1,f3,f4,f22,f23,f24]
  refine⟨⟨⟨by simp at gz;omega,fun j hj h5 h6=>?_⟩,f1,f3,f4,f22,f23,i+1,by omega,rfl,w4,fun y hy=>?_,?_⟩,?_⟩
  ·have h7:Zt w≠some j:=fun e=>by
    rcases FK j e with h8|h8
    ·exact h6 h8
    ·omega
   simp at gz
   rw[Df.block j (by omega) h5 h7,b3.block j (by simp;omega),Zm (by omega),kp.block j hj h5 h6]
  ·rcases Bc y hy with h8|h8
   ·exact FK y h8
   ·simp at gz;exact .inr (by omega)
  ·rw[X9 _ i ZH,RT,←OH,←List.append_assoc];exact Bb
  ·simp only[vi,YX,↓reduceIte,f24];omega
 ·have UA:¬(i:Int)<(Zg k).length:=by omega
  obtain rfl:i=(Zg k).length:=by omega
  rw[List.take_length]at bl
  have y0:hc g ⟨h.size,0,none⟩=some (.int .i64 k):=by
   rw[Zs ((kp.block _ (Zb k2) (by omega) (fun e=>by have:=KL _ e;omega)).trans k2)];rfl
  have hn:=Uo (k:=k) (n:=n) (a:=a) (b:=b) (Zg k) (fun y hy=>⟨Up y hy,Jb y hy⟩)
  have Uq:Zj h.size h g:=RS.trans (kp.Yu (by have:=RS.size;omega) (by omega) (fun y hy=>by have:=KL y hy;omega))
  by_cases k1:k=1
  ·have y4:hc g ⟨h.size,4,none⟩=some (.slice p d.length c):=by
    rw[Zs ((kp.block _ (Zb k2) (by omega) (fun e=>by have:=KL _ e;omega)).trans k2)];rfl
   simp +contextual -implicitDefEqProofs only[go_sem,↓reduceIte,f1,f3,f4,f22,f23,f24,UA,y0,k1]
   refine Z6 Un ?_
   refine (Y6 T _ _ _ _ [32] bl (by decide) (by simp only[List.length_append,List.length_cons,List.length_nil];omega)).use ?_
   rintro _ gA ⟨wA,Po,Mu,Gy⟩
   have Ur:Zj h.size h gA:=Uq.trans (Mu.Yu (by have:=Uq.size;omega) (by omega) (fun y hy=>by have:=bl.low y hy;omega))
   have Dg:hc gA ⟨h.size,4,none⟩=some (.slice p d.length c):=by
    have kk:gA[h.size]? = g[h.size]?:=Mu.block _ (by have:=bl.lt;omega) (by omega) (fun e=>by have:=bl.low _ e;omega)
    unfold hc at y4 ⊢
    simp only[kk]
    exact y4
   simp +contextual -implicitDefEqProofs only[go_sem,↓reduceIte,f1,Dg]
   obtain⟨pre,L0⟩:=ZE (wl++Jz k n a b (Zg k)++[32])
   rw[←L0]at Po
   have Dh:pre.length≤100:=by rw[L0];simp only[List.length_append,List.length_cons,List.length_nil];omega
   have Di:=s.byte
   refine VS.XF (fun F g=>Zj h.size h g∧F 3=.pointer (some ⟨h.size+1,0,none⟩)∧F 4=.func (.func 19) #[.pointer (some ⟨h.size+1,0,none⟩)] #[]∧F 43=.slice p d.length c∧F 44=.int .i64 d.length∧∃i:Nat,i≤d.length∧F 45=.int .i64 i∧∃w,Pn (h.size+1) w g (pre++YB (d.take i)))
    (fun F _=>d.length-(vi (F 45)).toNat) rfl ⟨Ur,f3,f4,rfl,rfl,0,by omega,rfl,wA,by simpa [YB] using Po⟩ ?_
   clear y4 Dg Ur Po Mu Gy wA gA UA f1 f3 f4 f22 f23 f24 y0 bl Uq kp C6 FK hi w
   rintro F g ⟨Uq,f3,f4,f43,f44,i,hi,f45,w,bl⟩
   have Dj:∀l:List Nat,(YB l).length=2*l.length:=by
    intro l;induction l with
    | nil=>rfl
    | cons y l ih=>
     have e:YB (y :: l)=[Yv (y/16),Yv (y%16)]++YB l:=by simp[YB]
     rw[e,List.length_append,ih];simp only[List.length_cons,List.length_nil];omega
   by_cases ZH:i<d.length
   ·have ZV:(i:Int)<d.length:=by omega
    have sg:=s.Yu Uq
    have r1:∃bb oo,p=some ⟨bb,oo,none⟩∧hc g ⟨bb,oo+i,none⟩=some (bv (d.getD i 0)):=by
     obtain⟨p',c',hv,Xc⟩:=sg.Ii
     simp only[Value.slice.injEq]at hv
     obtain⟨rfl,_,_⟩:=hv
     obtain⟨bb,oo,hp,_,Xc⟩:=Xc (by intro e;rw[e]at ZH;simp at ZH)
     exact⟨bb,oo,hp,Xc i ZH⟩
    obtain⟨bb,oo,rfl,r1⟩:=r1
    have hx:d.getD i 0<256:=by
     rw[List.getD_eq_getElem?_getD,List.getElem?_eq_getElem ZH];exact Di _ (List.getElem_mem ZH)
    obtain⟨x,OH⟩:=ZE (d.getD i 0)
    rw[←OH]at r1 hx
    unfold bv at r1
    have x1:x/16<16:=by omega
    have x2:x%16<16:=by omega
    have Bd:=Dj (d.take i)
    rw[List.length_take]at Bd
    simp +contextual -implicitDefEqProofs only[go_sem,↓reduceIte,f4,f43,f44,f45,ZV,r1]
    refine Wf (VK x) (by rw[VK,if_pos ⟨by omega,by simp;omega⟩];congr 1;omega) ?_
    rw[OU _ x1]
    simp +contextual -implicitDefEqProofs only[go_sem,↓reduceIte,f4,f43,f44,f45]
    refine Z6 Un ?_
    refine (Y6 T _ _ _ _ [Yv (x/16)] bl ?_ (by simp only[List.length_append,List.length_cons,List.length_nil];omega)).use ?_
    ·intro y hy
     simp only[List.mem_singleton]at hy
     subst hy;unfold Yv;split<;>omega
    rintro _ gA ⟨wA,Po,Mu,Gy⟩
    have Ur:Zj h.size h gA:=Uq.trans (Mu.Yu (by have:=Uq.size;omega) (by omega) (fun y hy=>by have:=bl.low y hy;omega))
    simp +contextual -implicitDefEqProofs only[go_sem,↓reduceIte,f3,f4,f43,f44,f45]
    refine Wf (Qz x hx) (by rw[Qz x hx,if_pos ⟨by omega,by simp;omega⟩];congr 1;omega) ?_
    rw[OU _ x2]
    simp +contextual -implicitDefEqProofs only[go_sem,↓reduceIte,f4,f43,f44,f45]
    refine Z6 Un ?_
    refine (Y6 T _ _ _ _ [Yv (x%16)] Po ?_ (by simp only[List.length_append,List.length_cons,List.length_nil];omega)).use ?_
    ·intro y hy
     simp only[List.mem_singleton]at hy
     subst hy;unfold Yv;split<;>omega
    rintro _ gB ⟨wB,Bf,Hb,AM⟩
    have FL:Zj h.size h gB:=Ur.trans (Hb.Yu (by have:=Ur.size;omega) (by omega) (fun y hy=>by have:=Po.low y hy;omega))
    simp +contextual -implicitDefEqProofs only[go_sem,↓reduceIte,f3,f4,f43,f44,f45]
    refine⟨⟨FL,f3,f4,f43,f44,i+1,by omega,rfl,wB,?_⟩,?_⟩
    ·have e:YB (d.take (i+1))=YB (d.take i)++[Yv (x/16)]++[Yv (x%16)]:=by
      rw[X9 _ i ZH]
      have e2:d[i]=x:=by rw[OH,List.getD_eq_getElem?_getD,List.getElem?_eq_getElem ZH];rfl
      rw[e2]
      simp[YB]
     rw[e,←List.append_assoc,←List.append_assoc]
     exact Bf
    ·simp only[vi,YX,↓reduceIte,f45];omega
   ·have UA:¬(i:Int)<d.length:=by omega
    obtain rfl:i=d.length:=by omega
    rw[List.take_length]at bl
    have hh:=Dj d
    simp +contextual -implicitDefEqProofs only[go_sem,↓reduceIte,f3,f4,f43,f44,f45,UA]
    refine Z6 Un ?_
    refine (Y6 T _ _ _ _ [10] bl (by decide) (by simp only[List.length_append,List.length_cons,List.length_nil];omega)).use ?_
    rintro _ gA ⟨wA,Po,Mu,Gy⟩
    simp +contextual -implicitDefEqProofs only[go_sem,↓reduceIte,f3]
    refine (We T gA _ _ _ Po (by simp) (by simp only[List.length_append,List.length_cons,List.length_nil];omega)).use ?_
    rintro _ gB ⟨rfl,Hb⟩
    simp +contextual -implicitDefEqProofs only[go_sem,↓reduceIte]
    have Ur:Zj h.size h gA:=Uq.trans (Mu.Yu (by have:=Uq.size;omega) (by omega) (fun y hy=>by have:=bl.low y hy;omega))
    refine⟨?_,Ur.trans (Hb.Yu (by have:=Ur.size;omega) (by omega) (fun y hy=>by have:=Po.low y hy;omega))⟩
    rw[L0,RP,k1]
    simp[J2,WN]
  ·simp +contextual -implicitDefEqProofs only[go_sem,↓reduceIte,f1,f3,f4,f22,f23,f24,UA,y0,k1]
   refine Z6 Un ?_
   refine (Y6 T _ _ _ _ [10] bl (by decide) (by simp only[List.length_append,List.length_cons,List.length_nil];omega)).use ?_
   rintro _ gA ⟨wA,Po,Mu,Gy⟩
   simp +contextual -implicitDefEqProofs only[go_sem,↓reduceIte,f3]
   refine (We T gA _ _ _ Po (by simp) (by simp only[List.length_append,List.length_cons,List.length_nil];omega)).use ?_
   rintro _ gB ⟨rfl,Hb⟩
   simp +contextual -implicitDefEqProofs only[go_sem,↓reduceIte]
   have Ur:Zj h.size h gA:=Uq.trans (Mu.Yu (by have:=Uq.size;omega) (by omega) (fun y hy=>by have:=bl.low y hy;omega))
   refine⟨?_,Ur.trans (Hb.Yu (by have:=Ur.size;omega) (by omega) (fun y hy=>by have:=Po.low y hy;omega))⟩
   rw[RP]
   simp[J2,WN,k1]
theorem Sh (T:World) (h:Hp) (k:Int) (hk:1≤k∧k≤9):Zf Tryd.prog T 23 #[.int .i64 k] h fun v' h'=>v'=WN (Zr k)∧h'=h:=by
 refine Zf.WT [_] Tryd.func23 ?_
 have:k=1∨k=2∨k=3∨k=4∨k=5∨k=6∨k=7∨k=8∨k=9:=by omega
 rcases this with rfl|rfl|rfl|rfl|rfl|rfl|rfl|rfl|rfl<;>(simp +contextual -implicitDefEqProofs only[go_sem,↓reduceIte];first|done|rfl|exact⟨rfl,rfl⟩)
def FM (x y:Nat):Int:=XG .or .i64 (P1 .i64 (Lib.indexByte [48,49,50,51,52,53,54,55,56,57,97,98,99,100,101,102] x.toUInt8) 4) (XG .and .i64 (Lib.indexByte [48,49,50,51,52,53,54,55,56,57,97,98,99,100,101,102] y.toUInt8) 15)
def Pp (x y:Nat):Nat:=(FM x y%256).toNat
theorem L3 (x y:Nat):FM x y%256=((Pp x y:Nat):Int):=by unfold Pp;omega
theorem L4 (x y:Nat):Pp x y<256:=by unfold Pp;omega
theorem Mv {r:ByteArray} (hr:2≤r.size) (K:Value→Hp→Prop) (h:Hp):XH r (some (.int .i64 2)) (some r.size) K h=K (.string (r.extract 2 r.size)) h:=by
 have e:V.sb (some (.int .i64 2)) 0 r.size=some 2:=by
  simp only[V.sb]
  rw[if_pos (by omega)]
  simp
 unfold XH
 simp only[e]
def Dk:Value→Nat
 | .string r=>r.size
 | _=>0
def Yt:List Nat→List Nat
 | x :: y :: l=>Pp x y :: Yt l
 | _=>[]
theorem RU {r:ByteArray} (hr:2≤r.size):Yt (bl r)=Pp (r.data.toList.getD 0 0).toNat (r.data.toList.getD 1 0).toNat :: Yt (bl (r.extract 2 r.size)):=by
 have hl:=Yz r
 rw[Yj,Wd,Wd]
 obtain⟨l,e⟩:=ZE (bl r)
 rw[←e]at hl ⊢
 match l,hl with
 | x :: y :: l,hl=>
  simp only[List.length_cons]at hl
  have:((x :: y :: l).drop 2).take (r.size-2)=l:=by
   simp only[List.drop_succ_cons,List.drop_zero]
   exact List.take_of_length_le (by omega)
  rw[this]
  rfl
 | [x],hl=>simp at hl;omega
 | [],hl=>simp at hl;omega
theorem RV {r:ByteArray} (hr:¬2≤r.size):Yt (bl r)=[]:=by
 have hl:=Yz r
 match bl r,hl with
 | x :: y :: l,hl=>simp only[List.length_cons]at hl;omega
 | [x],hl=>rfl
 | [],hl=>rfl
set_option maxHeartbeats 4000000 in
theorem Mw (T:World) {c:Code} (OS:Nu Tryd.f8 [1,1,1,1,1,1,0,1,0,1,0,0]=some c) {N:Env→Hp→Prop} {X:Nat→Env→Hp→Prop} {R:Env→Hp→Prop} {F:Env} {g':Hp} {A B:Nat} {n a e:Int} {W2:ByteArray}
  (f2:F 2=.pointer (some ⟨B,0,none⟩)) (f4:F 4=.pointer (some ⟨A,0,none⟩)) (f11:F 11=.string W2) (y:g'[A]? = some (.cells (Zc 1 n a e (.slice none 0 0)).toArray 33)) (hw:W2.size≤4000000)
  (H:∀F g dv,F 2=.pointer (some ⟨B,0,none⟩)→F 4=.pointer (some ⟨A,0,none⟩)→Xn (some A) g' g→g[A]? = some (.cells (Zc 1 n a e dv).toArray 33)→Y8 g'.size 5 g dv (Yt (bl W2))→X 4 F g) :
  VS Tryd.prog Tryd.f8.ntmps T (.loop c) N X R F g':=by
 have SI:some c=some _:=OS.symm.trans (rfl:Nu Tryd.f8 [1,1,1,1,1,1,0,1,0,1,0,0]=some _)
 obtain rfl:=Option.some.inj SI
 clear OS SI
 refine VS.XF (fun F g=>F 2=.pointer (some ⟨B,0,none⟩)∧F 4=.pointer (some ⟨A,0,none⟩)∧∃(r:ByteArray) (d:List Nat) (dv:Value),r.size≤W2.size∧F 11=.string r∧Xn (some A) g' g ∧
   g[A]? = some (.cells (Zc 1 n a e dv).toArray 33)∧Y8 g'.size 5 g dv d∧d.length*2+r.size≤W2.size∧d++Yt (bl r)=Yt (bl W2))
  (fun F _=>Dk (F 11)) rfl ⟨f2,f4,W2,[],.slice none 0 0,Nat.le_refl _,f11,Xn.refl,y,⟨Own.nil _ _ _ _,fun x hx=>by cases hx⟩,by simp,rfl⟩ ?_
 have Hc:A<g'.size:=Zb y
 clear f2 f4 f11 y F
 rintro F g ⟨f2,f4,r,d,dv,Gt,f11,Xm,yA,od,AN,Si⟩
 by_cases Hd:(1:Int)<r.size
 ·obtain⟨pd,cd,rfl,He⟩:=od.open
  have Hf:hc g ⟨A,4,none⟩=some (.slice pd d.length cd):=Zs yA
  have L5:=Zb yA
  have i0:(0:Int)<r.size:=by omega
  simp -implicitDefEqProofs only[go_sem,↓reduceIte,f11,Hd]
  refine VS.mono (N:=fun F g=>F 2=.pointer (some ⟨B,0,none⟩)∧F 4=.pointer (some ⟨A,0,none⟩)∧F 11=.string r∧∃(dv:Value),Xn (some A) g' g ∧
   g[A]? = some (.cells (Zc 1 n a e dv).toArray 33)∧Y8 g'.size 5 g dv (d++[Pp (r.data.toList.getD 0 0).toNat (r.data.toList.getD 1 0).toNat])) ?_ ?_ (fun _ _ _ h=>h) (fun _ _ h=>h)
  ·refine VS.z (g.size) [13,15] (.p 0 (.q 1 (.p 2 (.p 3 (.p 6 (.p 7 (.s 4 (.p 5 (.s 8 (.p 9 (.p 10 (.p 11 (.s 12 (.w 13 (.p 14 (.w 15 .nil)))))))))))))))) mixed (by kernel_rfl) ?_
   obtain⟨x0,VL⟩:∃x,x=(r.data.toList.getD 0 0).toNat:=⟨_,rfl⟩
   obtain⟨x1,Gz⟩:∃x,x=(r.data.toList.getD 1 0).toNat:=⟨_,rfl⟩
   have AO:((r.data.toList.getD (Int.toNat 0) 0).toNat:Int)=x0:=by rw[VL];rfl
   have AP:((r.data.toList.getD (Int.toNat 1) 0).toNat:Int)=x1:=by rw[Gz];rfl
   simp -implicitDefEqProofs only[go_sem,↓reduceIte,f11,f4,Hf,L5,i0,Hd]
   refine (Sf T g ⟨#[48,49,50,51,52,53,54,55,56,57,97,98,99,100,101,102]⟩ _).use ?_
   rintro _ g1 ⟨rfl,UB⟩
   rw[UB]
   clear UB g1
   simp -implicitDefEqProofs only[go_sem,↓reduceIte,f11,f4,Hf,L5,i0,Hd]
   refine (Sf T _ ⟨#[48,49,50,51,52,53,54,55,56,57,97,98,99,100,101,102]⟩ _).use ?_
   rintro _ g1 ⟨rfl,UB⟩
   rw[UB]
   clear UB g1
   simp -implicitDefEqProofs only[go_sem,↓reduceIte,f11,f4,Hf,L5,i0,Hd]
   have pe:=L3 (r.data.toList.getD 0 0).toNat (r.data.toList.getD 1 0).toNat
   unfold FM at pe
   rw[pe]
   refine Jm (E:=5) (B:=g'.size) OE Tryd.underlying31 G6 G8 G7 (od.push _) (by have:=Xm.size;simp;omega) (Bs.one (x:=Pp _ _) (L4 _ _) 1) (by simp only[List.length_cons,List.length_nil];omega) ?_
   intro v8 g8 OV b8 _ _
   obtain⟨DL,M9⟩:=ZE (d++[Pp (r.data.toList.getD 0 0).toNat (r.data.toList.getD 1 0).toNat])
   rw[←M9]at OV ⊢
   obtain⟨p8,c8,rfl,_⟩:=OV.open
   have y8:g8[A]? = some (.cells (Zc 1 n a e (.slice pd d.length cd)).toArray 33):=b8.get Hc (((Zj.refl _ _).add _).get (Zb yA) yA)
   have w8:XN g8 ⟨A,4,none⟩ (.slice p8 DL.length c8)=some (g8.setIfInBounds A (.cells (Zc 1 n a e (.slice p8 DL.length c8)).toArray 33)):=by
    rw[ZA y8 4 _,if_pos ⟨by simp[Zc],rfl⟩]
    rfl
   have Sj:Xn (some A) g' (g8.setIfInBounds A (.cells (Zc 1 n a e (.slice p8 DL.length c8)).toArray 33)):=by
    refine⟨?_,fun b hb ZC=>?_⟩
    ·rw[Array.size_setIfInBounds]
     have:=b8.size;have:=Xm.size;simp only[Array.size_push]at *;omega
    ·rw[Array.getElem?_setIfInBounds,if_neg (fun e=>ZC (by rw[e])),b8.block b hb,Zm (by have:=Xm.size;omega)]
     exact Xm.block b hb ZC
   have Sk:(g8.setIfInBounds A (.cells (Zc 1 n a e (.slice p8 DL.length c8)).toArray 33))[A]? = some (.cells (Zc 1 n a e (.slice p8 DL.length c8)).toArray 33):=by
    rw[Array.getElem?_setIfInBounds,if_pos rfl,if_pos (Zb y8)]
   have OW:Y8 g'.size 5 (g8.setIfInBounds A (.cells (Zc 1 n a e (.slice p8 DL.length c8)).toArray 33)) (.slice p8 DL.length c8) DL:=⟨OV.ZJ.Qh Hc _,OV.byte⟩
   obtain⟨g9,Mx⟩:=ZE (g8.setIfInBounds A (.cells (Zc 1 n a e (.slice p8 DL.length c8)).toArray 33))
   rw[←Mx]at w8 Sj Sk OW
   simp -implicitDefEqProofs only[go_sem,↓reduceIte,f4,w8]
   exact⟨f2,f11,_,Sj,Sk,OW⟩
  ·rintro F g9 ⟨f2,f4,f11,v8,Sj,y8,OV⟩
   have e2:∀(K:Value→Hp→Prop) h,XH r (some (.int .i64 2)) (some r.size) K h=K (.string (r.extract 2 r.size)) h:=Mv (by omega)
   have Bh:(r.extract 2 r.size).size=r.size-2:=by rw[ByteArray.size_extract];omega
   simp -implicitDefEqProofs only[go_sem,↓reduceIte,f11,e2]
   unfold YS
   refine⟨⟨f2,f4,r.extract 2 r.size,_,v8,by omega,rfl,Sj,y8,OV,?_,?_⟩,?_⟩
   ·rw[List.length_append,List.length_singleton,Bh];omega
   ·rw[List.append_assoc,←Si,RU (r:=r) (by omega)];rfl
   ·simp only[Dk,Zl,Jo,Nat.reduceEqDiff,↓reduceIte,f11]
    omega
 ·rw[RV (by omega),List.append_nil]at Si
  rw[Si]at od
  simp -implicitDefEqProofs only[go_sem,↓reduceIte,f11,Hd]
  exact H _ _ dv f2 f4 Xm yA od
def J3 (k n a b:Int) (d:List Nat):List Nat:=Zr k++(if Ze k then 32 :: YJ n else [])++(if Zk k then 32 :: YJ a else [])++(if k=8 then 32 :: YJ b else [])++(if k=1 then 32 :: YB d else [])
theorem Us {k n a b:Int} {d:List Nat} (hk:1≤k∧k≤9):J2 k n a b d=J3 k n a b d++[10]:=by
 have:k=1∨k=2∨k=3∨k=4∨k=5∨k=6∨k=7∨k=8∨k=9:=by omega
 rcases this with rfl|rfl|rfl|rfl|rfl|rfl|rfl|rfl|rfl<;>simp[J2,J3,Zg,Jz,Ze,Zk,Zz]
inductive Tg where
 | YK (i:Nat)
abbrev Ow:=Nat→Option Tg
structure Im (o:Ow) (n:Nat) (h:Hp) (v:Value) (m:Nat) (cs:List Value):Prop where
 sl:Sl n h v m cs
 fits:∃p c,v=.slice p m c∧m≤c
 free:∀b,Zt v=some b→b<h.size∧o b=none
theorem Im.ZM {S:Tg→Prop} {o o':Ow} {n m:Nat} {h h':Hp} {v:Value} {cs:List Value} (s:Im o n h v m cs) (k:Kp S o h o' h'):Im o' n h' v m cs:=by
 obtain⟨⟨p,c,rfl,hl,Bi⟩,⟨p',c',he,hm⟩,hf⟩:=s
 simp only[Value.slice.injEq,true_and]at he
 obtain⟨rfl,rfl⟩:=he
 have V8:∀b,Zt (.slice p m c)=some b→b<h.size∧o b=none∧h'[b]? = h[b]? ∧ o' b=none:=fun b hb=>by
  obtain⟨h1,h2⟩:=hf b hb
  obtain⟨h3,h4⟩:=k.ZM b h1 fun t ht=>by rw[h2]at ht;cases ht
  exact⟨h1,h2,h3,by rw[h4,h2]⟩
 refine⟨⟨p,c,rfl,hl,fun ZC=>?_⟩,⟨p,c,rfl,hm⟩,fun b hb=>⟨Nat.lt_of_lt_of_le (V8 b hb).1 k.size,(V8 b hb).2.2.2⟩⟩
 obtain⟨b,off,rfl,Xc⟩:=Bi ZC
 have K1:c≠0:=by
  intro e
  have:m=0:=by omega
  subst this
  exact ZC (List.eq_nil_of_length_eq_zero (by simpa using hl))
 have hb:Zt (.slice (some ⟨b,off,none⟩) m c)=some b:=by simp[Zt,K1]
 refine⟨b,off,rfl,fun i hi=>?_⟩
 have:=Xc i hi
 unfold hc at this ⊢
 rw[(V8 b hb).2.2.1]
 exact this
theorem Im.OX {o:Ow} {B n m:Nat} {E:TypeId} {h:Hp} {v:Value} {cs:List Value} (s:Own B E n h v m cs) (hd:∀b,B≤b→o b=none):Im o n h v m cs:=by
 refine⟨s.sl,?_,fun b hb=>?_⟩
 ·rcases s with⟨⟨p,rfl⟩,rfl,_⟩|⟨b,cap,sp,_,rfl,_,_,_,hm⟩
  ·exact⟨p,0,rfl,Nat.le_refl _⟩
  ·exact⟨_,cap,rfl,hm⟩
 ·exact⟨s.lt b hb,hd b (s.Mb b hb)⟩
def OY (o:Ow) (h:Hp) (v:Value) (l:List Nat):Prop:=Im o 1 h v l.length (l.map bv)∧∀x∈l,x<256
theorem OY.bs {o:Ow} {h:Hp} {v:Value} {l:List Nat} (s:OY o h v l):Bs h v l:=⟨s.1.sl,s.2⟩
theorem OY.ZM {S:Tg→Prop} {o o':Ow} {h h':Hp} {v:Value} {l:List Nat} (s:OY o h v l) (k:Kp S o h o' h'):OY o' h' v l:=⟨s.1.ZM k,s.2⟩
def La (t:Tg):Prop:=False
section
variable {S:Tg→Prop} {o o':Ow} {h h':Hp}
theorem VM (d:LP o h) (b:Zj h.size h h'):Kp La o h o h':=Kp.Oz d b _
theorem JA (k:Kp La o h o' h'):Kp S o h o' h':=k.mono fun _ q=>q.elim
theorem WO (d:LP o h) (x:Obj):Kp La o h o (h.push x):=(Kp.refl d _).push x
end
theorem Ub {α:Type} (enc:α→List Value) (x:α):Yh enc [x]=enc x:=by simp[Yh]
structure Raw where
 k:Int
 n:Int
 a:Int
 b:Int
 data:List Nat
def Raw.err (x:Raw):Int:=Zx x.k x.n x.a x.b x.data.length
def Xy (x:Raw × Value):List Value:=Zc x.1.k x.1.n x.1.a x.1.b x.2
theorem Ut (x:Raw × Value):(Xy x).length=5:=rfl
def Xa (xs:List (Raw × Value)):List Raw:=xs.map (·.1)
def KM:Ow:=fun _=>none
theorem L6 (h:Hp):LP KM h:=fun _ _=>rfl
theorem JB {S:Tg→Prop} {h h':Hp} {o':Ow} (k:Kp S KM h o' h'):Zj h.size h h':=
 ⟨k.size,fun b hb=>(k.ZM b hb fun t ht=>by cases ht).1⟩
theorem RW {h:Hp} {v:Value} {l:List (Raw × Value)} (s:Ts Xy 5 h v l):∃p c,v=.slice p l.length c∧(l≠[]→∃b o,p=some ⟨b,o,none⟩∧b<h.size∧∀i (hi:i<l.length),rd h ⟨b,o+i*5,none⟩ 5=some (Xy l[i])):=by
 obtain⟨p,c,hv,hh⟩:=s.open Ut (by decide)
 refine⟨p,c,hv,fun ZC=>?_⟩
 obtain⟨b,o,h1,h2,h3⟩:=hh ZC
 exact⟨b,o,h1,h2,fun i hi=>(h3 i hi).rd (by simp[Xy,Zc]) rfl⟩
theorem Uu {h:Hp} {v:Value} {l:List (Raw × Value)} (s:Ts Xy 5 h v l):∃p c,v=.slice p l.length c:=by
 obtain⟨p,c,h,_⟩:=RW s;exact⟨p,c,h⟩
set_option maxHeartbeats 4000000 in
theorem VN (T:World) (h:Hp) (u v:Value) (xs ys:List (Raw × Value)) (hu:Ts Xy 5 h u xs) (hv:Ts Xy 5 h v ys) (he:Xa xs=Xa ys) (hx:∀x∈xs,Bs h x.2 x.1.data) (hy:∀y∈ys,Bs h y.2 y.1.data) (Bj:xs.length≤2513169434916) :
  Zf Tryd.prog T 6 #[u,v] h fun v' h'=>v'=.bool true∧Zj h.size h h':=by
 obtain⟨p,c,rfl,Xc⟩:=hu.open Ut (by decide)
 obtain⟨q,d,rfl,Bk⟩:=hv.open Ut (by decide)
 have hl:xs.length=ys.length:=by
  have:=congrArg List.length he
  unfold Xa at this
  simpa using this
 refine Zf.WT [_,_] Tryd.func6 ?_
 rw[←hl]
 simp -implicitDefEqProofs only[go_sem,↓reduceIte]
 refine VS.XF (fun F g=>F 0=.slice p xs.length c∧F 1=.slice q xs.length d∧Zj h.size h g∧∃j:Nat,j≤xs.length∧F 5=.int .i64 j)
  (fun F _=>xs.length-(vi (F 5)).toNat) rfl ⟨rfl,rfl,Zj.refl _ _,0,Nat.zero_le _,rfl⟩ ?_
 rintro F2 g2 ⟨f0,f1,b2,j,hj,f5⟩
 by_cases ZH:j<xs.length
 ·have ZV:(j:Int)<xs.length:=by omega
  obtain⟨bb,oo,rfl,M7,L7⟩:=Xc (by intro e;rw[e]at ZH;simp at ZH)
  obtain⟨b3,o3,rfl,Dl,FN⟩:=Bk (by intro e;rw[hl,e]at ZH;simp at ZH)
  obtain⟨x,VL⟩:=ZE (xs[j])
  obtain⟨y,FO⟩:=ZE (ys[j]'(by omega))
  have Bl:x∈xs:=by rw[VL];exact List.getElem_mem ZH
  have Bm:y∈ys:=by rw[FO];exact List.getElem_mem _
  have Hg:x.1=y.1:=by
   have h1:(Xa xs)[j]? = some x.1:=by unfold Xa;rw[List.getElem?_map,List.getElem?_eq_getElem ZH,←VL];rfl
   have h2:(Xa ys)[j]? = some y.1:=by unfold Xa;rw[List.getElem?_map,List.getElem?_eq_getElem (by omega),←FO];rfl
   rw[he,h2]at h1
   exact (Option.some.inj h1).symm
  have FP:=hx x Bl
  have GA:=hy y Bm
  obtain⟨px,cx,Dm,_⟩:=FP.open
  obtain⟨py,cy,FQ,_⟩:=GA.open
  rw[←Hg]at GA FQ
  rw[Dm]at FP
  rw[FQ]at GA
  have c1:ZF g2 bb (oo+j*5) (Xy x):=by rw[VL];exact (L7 j ZH).Yu b2 M7
  have c2:ZF g2 b3 (o3+j*5) (Xy y):=by rw[FO];exact (FN j (by omega)).Yu b2 Dl
  have a0:hc g2 ⟨bb,oo+j*5,none⟩=some (.int .i64 x.1.k):=c1.hc (i:=0) rfl
  have a1:hc g2 ⟨bb,oo+j*5+1,none⟩=some (.int .i64 x.1.n):=c1.hc (i:=1) rfl
  have a2:hc g2 ⟨bb,oo+j*5+2,none⟩=some (.int .i64 x.1.a):=c1.hc (i:=2) rfl
  have a3:hc g2 ⟨bb,oo+j*5+3,none⟩=some (.int .i64 x.1.b):=c1.hc (i:=3) rfl
  have a4:hc g2 ⟨bb,oo+j*5+4,none⟩=some (.slice px x.1.data.length cx):=by rw[←Dm];exact c1.hc (i:=4) rfl
  have d0:hc g2 ⟨b3,o3+j*5,none⟩=some (.int .i64 x.1.k):=by rw[Hg];exact c2.hc (i:=0) rfl
  have d1:hc g2 ⟨b3,o3+j*5+1,none⟩=some (.int .i64 x.1.n):=by rw[Hg];exact c2.hc (i:=1) rfl
  have d2:hc g2 ⟨b3,o3+j*5+2,none⟩=some (.int .i64 x.1.a):=by rw[Hg];exact c2.hc (i:=2) rfl
  have d3:hc g2 ⟨b3,o3+j*5+3,none⟩=some (.int .i64 x.1.b):=by rw[Hg];exact c2.hc (i:=3) rfl
  have d4:hc g2 ⟨b3,o3+j*5+4,none⟩=some (.slice py x.1.data.length cy):=by rw[←FQ];exact c2.hc (i:=4) rfl
  have Bn:bb<g2.size:=Nat.lt_of_lt_of_le M7 b2.size
  have FR:b3<g2.size:=Nat.lt_of_lt_of_le Dl b2.size
  have sb:=WJ T g2 (.slice px x.1.data.length cx) (.slice py x.1.data.length cy) x.1.data x.1.data (FP.Yu b2) (GA.Yu b2)
  simp -implicitDefEqProofs only[go_sem,↓reduceIte,f0,f1,f5,ZV]
  refine VS.mono (N:=fun F' g'=>Zj h.size h g'∧F' 0=.slice (some ⟨bb,oo,none⟩) xs.length c∧F' 1=.slice (some ⟨b3,o3,none⟩) xs.length d∧F' 5=.int .i64 j∧F' 80=.bool false) ?_ ?_ (fun _ _ _ h=>h) (fun _ _ h=>h)
  ·refine VS.z (g2.size) [61] (.p 0 (.p 1 (.p 2 (.p 3 (.q 4 (.p 5 (.p 6 (.p 7 (.p 8 (.q 9 (.p 10 (.p 11 (.p 12 (.p 13 (.p 14 (.p 15 (.q 16 (.p 17 (.p 18 (.p 19 (.p 20 (.q 21 (.p 22 (.p 23 (.p 24 (.p 25 (.p 26 (.p 27 (.p 28 (.q 29 (.p 30 (.p 31 (.p 32 (.p 33 (.q 34 (.p 35 (.p 36 (.p 37 (.p 38 (.p 39 (.p 40 (.p 41 (.q 42 (.p 43 (.p 44 (.p 45 (.p 46 (.q 47 (.p 48 (.p 49 (.p 50 (.p 51 (.p 52 (.p 53 (.p 54 (.q 55 (.p 56 (.p 57 (.p 58 (.p 59 (.q 60 (.w 61 (.p 62 (.p 63 .nil)))))))))))))))))))))))))))))))))))))))))))))))))))))))))))))))) mixed (by kernel_rfl) ?_
   simp -implicitDefEqProofs only[go_sem,↓reduceIte,f0,f1,f5,ZV,a0,a1,a2,a3,a4,d0,d1,d2,d3,d4,Bn,FR]
   refine sb.use ?_
   rintro _ g3 ⟨rfl,hg⟩
   rw[hg]
   simp -implicitDefEqProofs only[go_sem,↓reduceIte]
   first
    | exact b2
    | exact⟨b2,f0,f1,f5⟩
    | exact⟨b2,f0,f1⟩
    | exact⟨Zj.refl _ _,b2,f0,f1,f5⟩
    | exact⟨Zj.refl _ _,b2⟩
  rintro F3 g3 ⟨Bo,f0,f1,f5,f80⟩
  simp -implicitDefEqProofs only[go_sem,↓reduceIte,f80,f5]
  unfold YS
  refine⟨⟨f0,f1,Bo,j+1,ZH,rfl⟩,?_⟩
  simp only[vi,YX,↓reduceIte,f5];omega
 have UA:¬(j:Int)<xs.length:=by omega
 simp -implicitDefEqProofs only[go_sem,↓reduceIte,f0,f5,UA]
 exact b2
theorem Xz (x:Nat) : -1≤YI x∧YI x≤15:=by unfold YI;split<;>(try split)<;>omega
def XA:List Nat→Option (List Nat)
 | x :: y :: l=>if YI x<0∨YI y<0 then none else (XA l).map fun d=>(16*YI x+YI y).toNat :: d
 | []=>some []
 | _=>none
def YL (k:Int):Nat:=if k=8∨k=1 then 3 else if Ze k∨Zk k then 2 else 1
def XB (k:Int) (ws:List (List Nat)):Option Raw:=
 if ws.length≠YL k then none
 else match (if k=1 then XA (ws.getD 2 []) else some []) with
  | none=>none
  | some d=>
   if Zx k (if Ze k then Zq (ws.getD 1 []) else 0) (if Zk k then Zq (ws.getD 1 []) else 0) (if k=8 then Zq (ws.getD 2 []) else 0) d.length≠0 then none
   else some ⟨k,if Ze k then Zq (ws.getD 1 []) else 0,if Zk k then Zq (ws.getD 1 []) else 0,if k=8 then Zq (ws.getD 2 []) else 0,d⟩
def XJ (w:List Nat):Int:=
 if w=Zr 1 then 1 else if w=Zr 2 then 2 else if w=Zr 3 then 3 else if w=Zr 4 then 4 else if w=Zr 5 then 5 else if w=Zr 6 then 6 else if w=Zr 7 then 7 else if w=Zr 8 then 8 else if w=Zr 9 then 9 else 0
def X1 (ws:List (List Nat)):Option Raw:=if XJ (ws.getD 0 [])=0 then none else XB (XJ (ws.getD 0 [])) ws
def Hh (o:Option Raw) (B:Nat) (h:Hp) (v:List Value):Prop:=
 (o=none∧v=Zc 0 0 0 0 (.slice none 0 0))∨∃x dv,o=some x∧v=Xy (x,dv)∧Y8 B 5 h dv x.data
theorem OZ:XA []=some []:=rfl
theorem J4 (x y:Nat) (l:List Nat):XA (x :: y :: l)=if YI x<0∨YI y<0 then none else (XA l).map fun d=>(16*YI x+YI y).toNat :: d:=rfl
theorem O0:∀(n:Nat) (l:List Nat),l.length=2*n+1→XA l=none:=by
 intro n
 induction n with
 | zero=>intro l h;match l,h with|[x],_=>rfl
 | succ n ih=>
  intro l h
  match l,h with
  | x :: y :: l,h=>
   rw[J4,ih l (by simp only[List.length_cons]at h;omega)]
   split<;>rfl
theorem Yi {h:Hp} {rb:Nat} {cs:List Value} (y:h[rb]? = some (.cells (Zc 0 0 0 0 (.slice none 0 0)).toArray 33)) (hl:cs.length=5) (ho:cs.all Yb=true) :
  wr h ⟨rb,0,none⟩ cs=some (h.setIfInBounds rb (.cells cs.toArray 33)):=by
 rw[TY y 0 _,if_pos ⟨by simp[Zc,hl],ho⟩]
 match cs,hl with
 | [a,b,c,d,e],_=>rfl
set_option maxHeartbeats 4000000 in
theorem O1 (T:World) {c:Code} (OS:Nu Tryd.f11 [1,1,0,1,0,0,1,0,0,1,1,1,1,1,1,1,1,1,1,1,0,1,0,1,1,1,0,0]=some c) {N:Env→Hp→Prop} {X:Nat→Env→Hp→Prop} {R:Env→Hp→Prop} {F:Env} {g':Hp} {A B:Nat} {n:Int} {W:ByteArray}
  (f2:F 2=.pointer (some ⟨B,0,none⟩)) (f5:F 5=.pointer (some ⟨A,0,none⟩)) (f11:F 11=.string W) (f12:F 12=.int .i64 0) (y:g'[A]? = some (.cells (Zc 1 n 0 0 (.slice none 0 0)).toArray 33)) (Bp:B≠A)
  (yB:g'[B]? = some (.cells (Zc 0 0 0 0 (.slice none 0 0)).toArray 33)) (hw:W.size≤8000000) (Dn:W.size%2=0)
  (H:∀F g dv d,F 2=.pointer (some ⟨B,0,none⟩)→F 5=.pointer (some ⟨A,0,none⟩)→Xn (some A) g' g→g[A]? = some (.cells (Zc 1 n 0 0 dv).toArray 33)→Y8 g'.size 5 g dv d→XA (bl W)=some d→X 2 F g)
  (HR:∀F g,XA (bl W)=none→F 2=.pointer (some ⟨B,0,none⟩)→Xn (some A) g' g→R F (g.setIfInBounds B (.cells (Zc 0 0 0 0 (.slice none 0 0)).toArray 33))) :
  VS Tryd.prog Tryd.f11.ntmps T (.loop c) N X R F g':=by
 have SI:some c=some _:=OS.symm.trans (rfl:Nu Tryd.f11 [1,1,0,1,0,0,1,0,0,1,1,1,1,1,1,1,1,1,1,1,0,1,0,1,1,1,0,0]=some _)
 obtain rfl:=Option.some.inj SI
 clear OS SI
 have hl:=Yz W
 have Ms:=SP W
 obtain⟨l,hL⟩:=ZE (bl W)
 have Nv:∀i:Nat,((W.data.toList.getD i 0).toNat:Int)=(l.getD i 0:Nat):=fun i=>by rw[hL,Wd]
 rw[←hL]at hl Ms H HR
 have Hc:A<g'.size:=Zb y
 have Bq:B<g'.size:=Zb yB
 refine VS.XF (fun F g=>F 2=.pointer (some ⟨B,0,none⟩)∧F 5=.pointer (some ⟨A,0,none⟩)∧F 11=.string W∧∃(j:Nat) (d:List Nat) (dv:Value),2*j≤W.size∧F 12=.int .i64 (2*j:Nat)∧Xn (some A) g' g ∧
   g[A]? = some (.cells (Zc 1 n 0 0 dv).toArray 33)∧Y8 g'.size 5 g dv d∧d.length=j∧XA l=(XA (l.drop (2*j))).map (d ++ ·))
  (fun F _=>W.size-(vi (F 12)).toNat) rfl ⟨f2,f5,f11,0,[],.slice none 0 0,Nat.zero_le _,f12,Xn.refl,y,⟨Own.nil _ _ _ _,fun x hx=>by cases hx⟩,rfl,by rw[Nat.mul_zero,List.drop_zero];cases XA l<;>rfl⟩ ?_
 clear f2 f5 f11 f12 y F
 rintro F g ⟨f2,f5,f11,j,d,dv,hj,f12,Xm,yA,od,Br,Si⟩
 have Bt:g[B]? = some (.cells (Zc 0 0 0 0 (.slice none 0 0)).toArray 33):=by
  rw[Xm.block B Bq (by intro e;exact Bp (Option.some.inj e).symm)];exact yB
 by_cases ZH:2*j<W.size
 ·have ZV:((2*j:Nat):Int)<W.size:=by omega
  have Lb:((2*j:Nat):Int)+1<W.size:=by omega
  have Dp:(0:Int)≤((2*j:Nat):Int):=by omega
  have Dq:(0:Int)≤((2*j:Nat):Int)+1:=by omega
  have hc:l.drop (2*j)=l.getD (2*j) 0 :: l.getD (2*j+1) 0 :: l.drop (2*(j+1)):=by
   rw[List.drop_eq_getElem_cons (by omega),List.drop_eq_getElem_cons (i:=2*j+1) (by omega),List.getD_eq_getElem?_getD,List.getElem?_eq_getElem (by omega),List.getD_eq_getElem?_getD,List.getElem?_eq_getElem (by omega)];rfl
  have VL:l.getD (2*j) 0<256:=by rw[List.getD_eq_getElem?_getD,List.getElem?_eq_getElem (by omega)];exact Ms _ (List.getElem_mem _)
  have Gz:l.getD (2*j+1) 0<256:=by rw[List.getD_eq_getElem?_getD,List.getElem?_eq_getElem (by omega)];exact Ms _ (List.getElem_mem _)
  have a0:=Nv (2*j)
  have a1:=Nv (2*j+1)
  have e1:(((2*j:Nat):Int)+1)=((2*j+1:Nat):Int):=by omega
  obtain⟨p,hp⟩:=ZE (l.getD (2*j) 0)
  obtain⟨q,hq⟩:=ZE (l.getD (2*j+1) 0)
  rw[←hp]at hc VL a0
  rw[←hq]at hc Gz a1
  rw[hc,J4]at Si
  obtain⟨pd,cd,rfl,He⟩:=od.open
  have Hf:Go.V.hc g ⟨A,4,none⟩=some (.slice pd d.length cd):=Zs yA
  have L5:=Zb yA
  have rp:=Xz p
  have rq:=Xz q
  obtain⟨u,hu⟩:=ZE (YI p)
  obtain⟨v,hv⟩:=ZE (YI q)
  have vp:=SQ T g p VL
  have vq:=SQ T g q Gz
  rw[←hu]at vp rp Si
  rw[←hv]at vq rq Si
  have t1:(((2*j:Nat):Int)+1).toNat=2*j+1:=by omega
  have Bu:((W.data.toList.getD (2*j+1) 0).toNat:Int)=q:=a1
  have zw:wr g ⟨B,0,none⟩ (Zc 0 0 0 0 (.slice none 0 0))=some (g.setIfInBounds B (.cells (Zc 0 0 0 0 (.slice none 0 0)).toArray 33)):=Yi Bt rfl rfl
  unfold Zc at zw
  simp -implicitDefEqProofs only[go_sem,↓reduceIte,f11,f12,ZV,Lb,Dp,Dq,a0]
  refine vp.pure ?_
  simp -implicitDefEqProofs only[go_sem,↓reduceIte,f11,f12,ZV,Lb,Dp,Dq,a0,t1,Bu]
  refine vq.pure ?_
  by_cases GB:u<0
  ·rw[if_pos (.inl GB)]at Si
   simp -implicitDefEqProofs only[go_sem,↓reduceIte,GB,f2,zw]
   exact HR _ g (by rw[Si];rfl) f2 Xm
  ·by_cases FT:v<0
   ·rw[if_pos (.inr FT)]at Si
    simp -implicitDefEqProofs only[go_sem,↓reduceIte,GB,FT,f2,zw]
    exact HR _ g (by rw[Si];rfl) f2 Xm
   ·rw[if_neg (by omega)]at Si
    obtain⟨z,hz⟩:∃z:Nat,(z:Int)=16*u+v:=⟨(16*u+v).toNat,by omega⟩
    have Hj:(16*u+v)%256=z:=by omega
    simp -implicitDefEqProofs only[go_sem,↓reduceIte,GB,FT,f2,f5,Hf,L5,Hj]
    refine Jm (E:=5) (B:=g'.size) OE Tryd.underlying31 G6 G8 G7 (od.push _) (by have:=Xm.size;simp;omega) (Bs.one (x:=z) (by omega) 1) (by simp only[List.length_cons,List.length_nil];omega) ?_
    intro v8 g8 OV b8 _ _
    obtain⟨DL,M9⟩:=ZE (d++[z])
    rw[←M9]at OV
    obtain⟨p8,c8,rfl,_⟩:=OV.open
    have y8:g8[A]? = some (.cells (Zc 1 n 0 0 (.slice pd d.length cd)).toArray 33):=b8.get Hc (((Zj.refl _ _).add _).get (Zb yA) yA)
    have w8:XN g8 ⟨A,4,none⟩ (.slice p8 DL.length c8)=some (g8.setIfInBounds A (.cells (Zc 1 n 0 0 (.slice p8 DL.length c8)).toArray 33)):=by
     rw[ZA y8 4 _,if_pos ⟨by simp[Zc],rfl⟩]
     rfl
    have Sj:Xn (some A) g' (g8.setIfInBounds A (.cells (Zc 1 n 0 0 (.slice p8 DL.length c8)).toArray 33)):=by
     refine⟨?_,fun b hb ZC=>?_⟩
     ·rw[Array.size_setIfInBounds]
      have:=b8.size;have:=Xm.size;simp only[Array.size_push]at *;omega
     ·rw[Array.getElem?_setIfInBounds,if_neg (fun e=>ZC (by rw[e])),b8.block b hb,Zm (by have:=Xm.size;omega)]
      exact Xm.block b hb ZC
    have Sk:(g8.setIfInBounds A (.cells (Zc 1 n 0 0 (.slice p8 DL.length c8)).toArray 33))[A]? = some (.cells (Zc 1 n 0 0 (.slice p8 DL.length c8)).toArray 33):=by
     rw[Array.getElem?_setIfInBounds,if_pos rfl,if_pos (Zb y8)]
    have OW:Y8 g'.size 5 (g8.setIfInBounds A (.cells (Zc 1 n 0 0 (.slice p8 DL.length c8)).toArray 33)) (.slice p8 DL.length c8) DL:=⟨OV.ZJ.Qh Hc _,OV.byte⟩
    obtain⟨g9,Mx⟩:=ZE (g8.setIfInBounds A (.cells (Zc 1 n 0 0 (.slice p8 DL.length c8)).toArray 33))
    rw[←Mx]at w8 Sj Sk OW
    simp -implicitDefEqProofs only[go_sem,↓reduceIte,f5,w8,f12]
    unfold YS
    refine⟨⟨f2,f5,f11,j+1,DL,_,by omega,?_,Sj,Sk,OW,by rw[M9];simp[Br],?_⟩,?_⟩
    ·simp only[Zl,Jo,Nat.reduceEqDiff,↓reduceIte,Value.int.injEq,true_and];omega
    ·rw[Si,M9,Option.map_map]
     congr 1
     funext x
     have:(16*u+v).toNat=z:=by omega
     simp[this]
    ·simp only[vi,Zl,Jo,Nat.reduceEqDiff,↓reduceIte,f12]
     omega
 ·have ZV:¬((2*j:Nat):Int)<W.size:=by omega
  rw[List.drop_eq_nil_of_le (by omega),OZ]at Si
  simp -implicitDefEqProofs only[go_sem,↓reduceIte,f11,f12,ZV]
  exact H _ _ dv d f2 f5 Xm yA od (by rw[Si];simp)
theorem Zw:YL 1=3∧YL 2=2∧YL 3=2∧YL 4=2∧YL 5=2∧YL 6=2∧YL 7=1∧YL 8=3∧YL 9=2:=by
 refine⟨?_,?_,?_,?_,?_,?_,?_,?_,?_⟩<;>unfold YL Ze Zk<;>decide
theorem J5 {k:Int} {L:List (List Nat)} {d:List Nat} {n a b:Int} (hl:L.length=YL k) (hd:(if k=1 then XA (L.getD 2 []) else some [])=some d) (hn:(if Ze k then Zq (L.getD 1 []) else 0)=n) (ha:(if Zk k then Zq (L.getD 1 []) else 0)=a) (hb:(if k=8 then Zq (L.getD 2 []) else 0)=b) :
  XB k L=if Zx k n a b d.length≠0 then none else some ⟨k,n,a,b,d⟩:=by
 unfold XB
 rw[if_neg (by omega),hd,hn,ha,hb]
theorem Hk {L:List (List Nat)} (hd:XA (L.getD 2 [])=none):XB 1 L=none:=by
 unfold XB
 split
 ·rfl
 ·rw[if_pos rfl,hd]
set_option maxHeartbeats 8000000 in
theorem L8 (T:World) {c:Code} (OS:Nu Tryd.f11 [1,1,0,1,0,0,1,0,0,1]=some c) {N:Env→Hp→Prop} {X:Nat→Env→Hp→Prop} {R:Env→Hp→Prop} {F:Env} {g:Hp} {rb bw ow cw:Nat} {k:Int} {ws:List ByteArray} {L:List (List Nat)}
  (hk:1≤k∧k≤9) (f2:F 2=.pointer (some ⟨rb,0,none⟩)) (f3:F 3=.slice (some ⟨bw,ow,none⟩) ws.length cw) (f4:F 4=.int .i64 k) (yr:g[rb]? = some (.cells (Zc 0 0 0 0 (.slice none 0 0)).toArray 33))
  (QQ:ws.map bl=L) (RP:0<ws.length) (U0:∀w∈ws,w.size≤8000000) (QS:bw<g.size) (RY:∀i (hi:i<ws.length) G,Zj g.size g G→hc G ⟨bw,ow+i,none⟩=some (.string ws[i]))
  (H:∀F' G v,F' 2=.pointer (some ⟨rb,0,none⟩)→Xn (some rb) g G→G[rb]? = some (.cells v.toArray 33)→Hh (XB k L) g.size G v→R F' G) :
  VS Tryd.prog Tryd.f11.ntmps T c N X R F g:=by
 have SI:some c=some _:=OS.symm.trans (rfl:Nu Tryd.f11 [1,1,0,1,0,0,1,0,0,1]=some _)
 obtain rfl:=Option.some.inj SI
 clear OS SI
 have hL:L.length=ws.length:=by rw[←QQ];simp
 have RZ:=Zb yr
 obtain⟨A,hA⟩:=ZE (g.size)
 have Bv:rb≠A:=by omega
 obtain⟨g1,UB⟩:=ZE (g.push (.cells (Zc k 0 0 0 (.slice none 0 0)).toArray 33):Hp)
 have e1:=UB.symm
 have b1:Zj g.size g g1:=by rw[UB];exact (Zj.refl _ _).add _
 have y1:g1[A]? = some (.cells (Zc k 0 0 0 (.slice none 0 0)).toArray 33):=by rw[UB,hA];exact Zn
 have AQ:=b1.get RZ yr
 have us:=SN T g1 k
 have l1:=Zb y1
 -- nothing comes of it
 have zero:∀F' G,XB k L=none→F' 2=.pointer (some ⟨rb,0,none⟩)→Zj g.size g G→R F' (G.setIfInBounds rb (.cells (Zc 0 0 0 0 (.slice none 0 0)).toArray 33)):=by
  intro F' G hn f2 bG
  refine H F' _ (Zc 0 0 0 0 (.slice none 0 0)) f2 ⟨by rw[Array.size_setIfInBounds];exact bG.size,fun b hb ZC=>?_⟩ ?_ (.inl ⟨hn,rfl⟩)
  ·rw[Array.getElem?_setIfInBounds,if_neg (fun e=>ZC (by rw[e]))];exact bG.block b hb
  ·rw[Array.getElem?_setIfInBounds,if_pos rfl,if_pos (by have:=bG.size;omega)]
 have zw:∀G,Zj g.size g G→wr G ⟨rb,0,none⟩ (Zc 0 0 0 0 (.slice none 0 0))=some (G.setIfInBounds rb (.cells (Zc 0 0 0 0 (.slice none 0 0)).toArray 33)):=fun G bG=>Yi (bG.get RZ yr) rfl rfl
 unfold Zc at e1
 have ZC:ws.length≠YL k→XB k L=none:=fun q=>by unfold XB;rw[if_pos (by omega)]
 have fin:∀F' G (k' n a b:Int) d dv,XB k L=some ⟨k',n,a,b,d⟩→F' 2=.pointer (some ⟨rb,0,none⟩)→Zj g.size g G→Y8 g.size 5 G dv d→R F' (G.setIfInBounds rb (.cells (Zc k' n a b dv).toArray 33)):=by
  intro F' G k' n a b d dv hn f2 bG od
  refine H F' _ (Zc k' n a b dv) f2 ⟨by rw[Array.size_setIfInBounds];exact bG.size,fun b hb ZC=>?_⟩ ?_ (.inr ⟨_,dv,hn,rfl,od.Qh RZ _⟩)
  ·rw[Array.getElem?_setIfInBounds,if_neg (fun e=>ZC (by rw[e]))];exact bG.block b hb
  ·rw[Array.getElem?_setIfInBounds,if_pos rfl,if_pos (by have:=bG.size;omega)]
 have Dr:ws.length=1→XB 7 L=if Zx 7 0 0 0 ([]:List Nat).length≠0 then none else some ⟨7,0,0,0,[]⟩:=fun m=>by
  refine J5 (by rw[Zw.2.2.2.2.2.2.1];omega) ?_ ?_ ?_ ?_<;>simp[Ze,Zk]
 have Pq:∀(k n a:Int) {z1:Int} {W1:ByteArray},(k=2∨k=3∨k=4∨k=5∨k=6∨k=9)→(if Ze k then z1 else 0)=n→(if Zk k then z1 else 0)=a→ws.length=2→L.getD 1 []=bl W1→z1=Zq (bl W1)→XB k L=if Zx k n a 0 ([]:List Nat).length≠0 then none else some ⟨k,n,a,0,[]⟩:=by
  intro k n a z1 W1 hk hn ha m l1 e
  refine J5 ?_ ?_ ?_ ?_ ?_
  ·rw[hL,m];rcases hk with rfl|rfl|rfl|rfl|rfl|rfl<;>simp[YL,Ze,Zk]
  ·rw[if_neg (by omega)]
  ·rw[l1,←e];exact hn
  ·rw[l1,←e];exact ha
  ·rw[if_neg (by omega)]
 have Ds:∀{z1 z2:Int} {W1 W2:ByteArray},ws.length=3→L.getD 1 []=bl W1→L.getD 2 []=bl W2→z1=Zq (bl W1)→z2=Zq (bl W2)→XB 8 L=if Zx 8 z1 0 z2 ([]:List Nat).length≠0 then none else some ⟨8,z1,0,z2,[]⟩:=by
  intro z1 z2 W1 W2 m l1 l2 e1 e2
  refine J5 (by rw[Zw.2.2.2.2.2.2.2.1];omega) ?_ ?_ ?_ ?_
  ·rw[if_neg (by decide)]
  ·rw[if_pos (by simp[Ze]),l1,e1]
  ·rw[if_neg (by simp[Zk])]
  ·rw[if_pos rfl,l2,e2]
 have Dt:∀{z1:Int} {W1 W2:ByteArray} {D:List Nat},ws.length=3→L.getD 1 []=bl W1→L.getD 2 []=bl W2→z1=Zq (bl W1)→XA (bl W2)=some D→XB 1 L=if Zx 1 z1 0 0 D.length≠0 then none else some ⟨1,z1,0,0,D⟩:=by
  intro z1 W1 W2 D m l1 l2 e1 e2
  refine J5 (by rw[Zw.1];omega) ?_ ?_ ?_ ?_
  ·rw[if_pos rfl,l2,e2]
  ·rw[if_pos (by simp[Ze]),l1,e1]
  ·rw[if_neg (by simp[Zk])]
  ·rw[if_neg (by decide)]
 have Hl:∀{W2:ByteArray},ws.length=3→L.getD 2 []=bl W2→XA (bl W2)=none→XB 1 L=none:=fun _ l2 e=>Hk (by rw[l2];exact e)
 have Du:k=1∨k=2∨k=3∨k=4∨k=5∨k=6∨k=7∨k=8∨k=9:=by omega
 rcases Du with rfl|rfl|rfl|rfl|rfl|rfl|rfl|rfl|rfl
 -- BY Dv
 ·-- VO 1
  refine ZG _ _ _ _ _ _ rfl ?_
  have X2:=zw g1 b1
  unfold Zc at X2
  have hN:decide (Ze 1)=true:=by simp[Ze]
  have hT:decide (Zk 1)=false:=by simp[Zk]
  have h8:decide ((1:Int)=8)=false:=by decide
  by_cases m1:1<ws.length
  case neg=>
   have ZD:¬(1:Int)<((ws.length:Nat):Int):=by omega
   have Z3:¬((ws.length:Nat):Int)=3:=by omega
   simp -implicitDefEqProofs only[go_sem,↓reduceIte,f2,f3,f4,←hA,e1,ZD,Z3,X2]
   refine us.pure ?_
   simp -implicitDefEqProofs only[go_sem,↓reduceIte,hN,hT,h8,f2,f3,f4,l1,ZD,Z3,X2]
   exact zero _ g1 (ZC (by rw[Zw.1];omega)) f2 b1
  have ZD:(1:Int)<((ws.length:Nat):Int):=by omega
  have c1:=RY 1 m1 g1 b1
  have s1:=U0 _ (List.getElem_mem m1)
  have L1:L.getD 1 []=bl ws[1]:=by rw[←QQ,List.getD_eq_getElem?_getD,List.getElem?_map,List.getElem?_eq_getElem m1];rfl
  obtain⟨W1,V6⟩:∃w,w=ws[1]:=⟨_,rfl⟩
  rw[←V6]at c1 s1 L1
  have Jc:=Ys T g1 W1 (by omega)
  obtain⟨z1,JC⟩:∃z,z=Zq (bl W1):=⟨_,rfl⟩
  rw[←JC]at Jc
  obtain⟨g2,YV⟩:=ZE (g1.setIfInBounds A (.cells (Zc 1 z1 0 0 (.slice none 0 0)).toArray 33):Hp)
  have w2:XN g1 ⟨A,1,none⟩ (.int .i64 z1)=some g2:=by rw[ZA y1 1 _,if_pos ⟨by simp[Zc],rfl⟩,YV];rfl
  have y2:g2[A]? = some (.cells (Zc 1 z1 0 0 (.slice none 0 0)).toArray 33):=by rw[YV];exact ZO y1
  have b2:Zj g.size g g2:=by rw[YV];exact⟨by rw[Array.size_setIfInBounds];exact b1.size,fun b hb=>by rw[Array.getElem?_setIfInBounds,if_neg (by omega)];exact b1.block b hb⟩
  have l2:=Zb y2
  have Xb:bw<g1.size:=Nat.lt_of_lt_of_le QS b1.size
  have QH:=zw g2 b2
  unfold Zc at QH
  by_cases m2:2<ws.length
  case neg=>
   have Z3:¬(2:Int)<((ws.length:Nat):Int):=by omega
   have SS:¬((ws.length:Nat):Int)=3:=by omega
   simp -implicitDefEqProofs only[go_sem,↓reduceIte,f2,f3,f4,←hA,e1,ZD,c1,Xb]
   refine us.pure ?_
   simp -implicitDefEqProofs only[go_sem,↓reduceIte,hN,hT,h8,f2,f3,f4,l1,ZD,c1,Xb]
   refine Jc.pure ?_
   simp -implicitDefEqProofs only[go_sem,↓reduceIte,hN,hT,h8,f2,f3,f4,l1,l2,ZD,Z3,SS,w2,QH]
   exact zero _ g2 (ZC (by rw[Zw.1];omega)) f2 b2
  have Z3:(2:Int)<((ws.length:Nat):Int):=by omega
  have c2:=RY 2 m2 g2 b2
  have s2:=U0 _ (List.getElem_mem m2)
  have L2:L.getD 2 []=bl ws[2]:=by rw[←QQ,List.getD_eq_getElem?_getD,List.getElem?_map,List.getElem?_eq_getElem m2];rfl
  obtain⟨W2,Mk⟩:∃w,w=ws[2]:=⟨_,rfl⟩
  rw[←Mk]at c2 s2 L2
  have Hm:bw<g2.size:=Nat.lt_of_lt_of_le QS b2.size
  by_cases m3:ws.length=3
  case neg=>
   have SS:¬((ws.length:Nat):Int)=3:=by omega
   simp -implicitDefEqProofs only[go_sem,↓reduceIte,f2,f3,f4,←hA,e1,ZD,c1,Xb]
   refine us.pure ?_
   simp -implicitDefEqProofs only[go_sem,↓reduceIte,hN,hT,h8,f2,f3,f4,l1,ZD,c1,Xb]
   refine Jc.pure ?_
   simp -implicitDefEqProofs only[go_sem,↓reduceIte,hN,hT,h8,f2,f3,f4,l1,l2,ZD,Z3,SS,w2,QH]
   exact zero _ g2 (ZC (by rw[Zw.1];exact m3)) f2 b2
  have SS:((ws.length:Nat):Int)=3:=by omega
  have GC:=b2.get RZ yr
  by_cases Dn:W2.size%2=0
  case neg=>
   have L9:¬((W2.size:Nat):Int).tmod 2=0:=by rw[Int.tmod_eq_emod_of_nonneg (by omega)];omega
   simp -implicitDefEqProofs only[go_sem,↓reduceIte,f2,f3,f4,←hA,e1,ZD,c1,Xb]
   refine us.pure ?_
   simp -implicitDefEqProofs only[go_sem,↓reduceIte,hN,hT,h8,f2,f3,f4,l1,ZD,c1,Xb]
   refine Jc.pure ?_
   simp -implicitDefEqProofs only[go_sem,↓reduceIte,hN,hT,h8,f2,f3,f4,l1,l2,ZD,Z3,SS,w2,c2,Hm,L9,QH]
   refine zero _ g2 ?_ f2 b2
   rw[Hl m3 L2]
   exact O0 (W2.size/2) _ (by rw[Yz];omega)
  have L9:((W2.size:Nat):Int).tmod 2=0:=by rw[Int.tmod_eq_emod_of_nonneg (by omega)];omega
  simp -implicitDefEqProofs only[go_sem,↓reduceIte,f2,f3,f4,←hA,e1,ZD,c1,Xb]
  refine us.pure ?_
  simp -implicitDefEqProofs only[go_sem,↓reduceIte,hN,hT,h8,f2,f3,f4,l1,ZD,c1,Xb]
  refine Jc.pure ?_
  simp -implicitDefEqProofs only[go_sem,↓reduceIte,hN,hT,h8,f2,f3,f4,l1,l2,ZD,Z3,SS,w2,c2,Hm,L9]
  refine O1 T (c:=_) rfl (B:=rb) (A:=A) (W:=W2) (g':=g2) (n:=z1) f2 rfl rfl rfl y2 Bv GC s2 Dn ?_ ?_
  case refine_2=>
   intro F' G hn f2 X7
   exact zero F' G (Hl m3 L2 hn) f2 (b2.trans (X7.Yu b2.size (fun b e=>by rw[←Option.some.inj e];omega)))
  intro F' G dv D f2 f5 X7 yA od hD
  obtain⟨pd,cd,rfl,He⟩:=od.open
  have bG:Zj g.size g G:=b2.trans (X7.Yu b2.size (fun b e=>by rw[←Option.some.inj e];omega))
  have od:Y8 g.size 5 G (.slice pd D.length cd) D:=od.mono b2.size
  have ck:=ZP T G 1 z1 0 0 pd D.length cd
  have rA:rd G ⟨A,0,none⟩ 5=some (Zc 1 z1 0 0 (.slice pd D.length cd)):=Zu yA rfl
  have lA:=Zb yA
  unfold Zc at rA ck
  simp -implicitDefEqProofs only[go_sem,↓reduceIte,hN,hT,h8,f2,f5,rA,lA]
  refine ck.use ?_
  rintro _ G9 ⟨rfl,b9⟩
  have B9:Zj g.size g G9:=bG.trans (b9.mono bG.size)
  have y9:=b9.get lA yA
  have r9:rd G9 ⟨A,0,none⟩ 5=some (Zc 1 z1 0 0 (.slice pd D.length cd)):=Zu y9 rfl
  have w9:wr G9 ⟨rb,0,none⟩ (Zc 1 z1 0 0 (.slice pd D.length cd))=some (G9.setIfInBounds rb (.cells (Zc 1 z1 0 0 (.slice pd D.length cd)).toArray 33)):=Yi (B9.get RZ yr) rfl rfl
  have z9:=zw G9 B9
  have l9:=Zb y9
  obtain⟨E,hE⟩:=ZE (Zx 1 z1 0 0 D.length)
  rw[←hE]
  by_cases YW:E=0
  ·have al:(Zc 1 z1 0 0 (.slice pd D.length cd)).length=5:=rfl
   have ao:(Zc 1 z1 0 0 (.slice pd D.length cd)).all Yb=true:=rfl
   simp -implicitDefEqProofs only[go_sem,↓reduceIte,YW,hN,hT,h8,f2,f5,r9,l9,w9,al,ao]
   refine fin _ G9 1 z1 0 0 D _ ?_ f2 B9 (od.Yu b9 (Nat.le_refl _))
   rw[Dt m3 L1 L2 JC hD]
   exact if_neg (by rw[←hE];simp[YW])
  ·unfold Zc at z9
   simp -implicitDefEqProofs only[go_sem,↓reduceIte,YW,hN,hT,h8,f2,f5,z9]
   refine zero _ G9 ?_ f2 B9
   rw[Dt m3 L1 L2 JC hD]
   exact if_pos (by rw[←hE];exact YW)
 ·-- VO 2
  refine ZG _ _ _ _ _ _ rfl ?_
  have X2:=zw g1 b1
  unfold Zc at X2
  have hN:decide (Ze 2)=true:=by simp[Ze]
  have hT:decide (Zk 2)=false:=by simp[Zk]
  have h8:decide ((2:Int)=8)=false:=by decide
  by_cases m1:1<ws.length
  case neg=>
   have ZD:¬(1:Int)<((ws.length:Nat):Int):=by omega
   have Z3:¬((ws.length:Nat):Int)=2:=by omega
   simp -implicitDefEqProofs only[go_sem,↓reduceIte,f2,f3,f4,←hA,e1,ZD,Z3,X2]
   refine us.pure ?_
   simp -implicitDefEqProofs only[go_sem,↓reduceIte,hN,hT,h8,f2,f3,f4,l1,ZD,Z3,X2]
   exact zero _ g1 (ZC (by rw[Zw.2.1];omega)) f2 b1
  have ZD:(1:Int)<((ws.length:Nat):Int):=by omega
  have c1:=RY 1 m1 g1 b1
  have s1:=U0 _ (List.getElem_mem m1)
  have L1:L.getD 1 []=bl ws[1]:=by rw[←QQ,List.getD_eq_getElem?_getD,List.getElem?_map,List.getElem?_eq_getElem m1];rfl
  obtain⟨W1,V6⟩:∃w,w=ws[1]:=⟨_,rfl⟩
  rw[←V6]at c1 s1 L1
  have Jc:=Ys T g1 W1 (by omega)
  obtain⟨z1,JC⟩:∃z,z=Zq (bl W1):=⟨_,rfl⟩
  rw[←JC]at Jc
  obtain⟨g2,YV⟩:=ZE (g1.setIfInBounds A (.cells (Zc 2 z1 0 0 (.slice none 0 0)).toArray 33):Hp)
  have w2:XN g1 ⟨A,1,none⟩ (.int .i64 z1)=some g2:=by rw[ZA y1 1 _,if_pos ⟨by simp[Zc],rfl⟩,YV];rfl
  have y2:g2[A]? = some (.cells (Zc 2 z1 0 0 (.slice none 0 0)).toArray 33):=by rw[YV];exact ZO y1
  have b2:Zj g.size g g2:=by rw[YV];exact⟨by rw[Array.size_setIfInBounds];exact b1.size,fun b hb=>by rw[Array.getElem?_setIfInBounds,if_neg (by omega)];exact b1.block b hb⟩
  have l2:=Zb y2
  have Xb:bw<g1.size:=Nat.lt_of_lt_of_le QS b1.size
  have QH:=zw g2 b2
  unfold Zc at QH
  by_cases m2:ws.length=2
  case neg=>
   have Z3:¬((ws.length:Nat):Int)=2:=by omega
   simp -implicitDefEqProofs only[go_sem,↓reduceIte,f2,f3,f4,←hA,e1,ZD,c1,Xb]
   refine us.pure ?_
   simp -implicitDefEqProofs only[go_sem,↓reduceIte,hN,hT,h8,f2,f3,f4,l1,ZD,c1,Xb]
   refine Jc.pure ?_
   simp -implicitDefEqProofs only[go_sem,↓reduceIte,hN,hT,h8,f2,f3,f4,l1,l2,ZD,Z3,w2,QH]
   exact zero _ g2 (ZC (by rw[Zw.2.1];exact m2)) f2 b2
  have Z3:((ws.length:Nat):Int)=2:=by omega
  simp -implicitDefEqProofs only[go_sem,↓reduceIte,f2,f3,f4,←hA,e1,ZD,c1,Xb]
  refine us.pure ?_
  simp -implicitDefEqProofs only[go_sem,↓reduceIte,hN,hT,h8,f2,f3,f4,l1,ZD,c1,Xb]
  refine Jc.pure ?_
  obtain⟨G,hG⟩:=ZE (g2)
  have yA:=y2
  have bG:=b2
  rw[←hG]at w2 yA bG
  have ck:=ZP T G 2 z1 0 0 none 0 0
  have rA:rd G ⟨A,0,none⟩ 5=some (Zc 2 z1 0 0 (.slice none 0 0)):=Zu yA rfl
  have lA:=Zb yA
  unfold Zc at rA ck
  simp -implicitDefEqProofs only[go_sem,↓reduceIte,hN,hT,h8,f2,f3,f4,ZD,Z3,w2,rA,lA]
  refine ck.use ?_
  rintro _ G9 ⟨rfl,b9⟩
  have B9:Zj g.size g G9:=bG.trans (b9.mono bG.size)
  have y9:=b9.get lA yA
  have r9:rd G9 ⟨A,0,none⟩ 5=some (Zc 2 z1 0 0 (.slice none 0 0)):=Zu y9 rfl
  have w9:wr G9 ⟨rb,0,none⟩ (Zc 2 z1 0 0 (.slice none 0 0))=some (G9.setIfInBounds rb (.cells (Zc 2 z1 0 0 (.slice none 0 0)).toArray 33)):=Yi (B9.get RZ yr) rfl rfl
  have z9:=zw G9 B9
  have l9:=Zb y9
  obtain⟨E,hE⟩:=ZE (Zx 2 z1 0 0 0)
  rw[←hE]
  by_cases YW:E=0
  ·have al:(Zc 2 z1 0 0 (.slice none 0 0)).length=5:=rfl
   have ao:(Zc 2 z1 0 0 (.slice none 0 0)).all Yb=true:=rfl
   simp -implicitDefEqProofs only[go_sem,↓reduceIte,YW,hN,hT,h8,f2,f3,f4,ZD,Z3,w2,r9,l9,w9,al,ao]
   refine fin _ G9 2 z1 0 0 [] (.slice none 0 0) ?_ f2 B9 ⟨Own.nil _ _ _ _,fun x hx=>by cases hx⟩
   rw[Pq 2 z1 0 (by decide) (by simp[Ze]) (by simp[Zk]) m2 L1 JC]
   exact if_neg (by rw[List.length_nil,←hE];simp[YW])
  ·unfold Zc at z9
   simp -implicitDefEqProofs only[go_sem,↓reduceIte,YW,hN,hT,h8,f2,f3,f4,ZD,Z3,w2,z9]
   refine zero _ G9 ?_ f2 B9
   rw[Pq 2 z1 0 (by decide) (by simp[Ze]) (by simp[Zk]) m2 L1 JC]
   exact if_pos (by rw[List.length_nil,←hE];exact YW)
 ·-- VO 3
  refine ZG _ _ _ _ _ _ rfl ?_
  have X2:=zw g1 b1
  unfold Zc at X2
  have hN:decide (Ze 3)=true:=by simp[Ze]
  have hT:decide (Zk 3)=false:=by simp[Zk]
  have h8:decide ((3:Int)=8)=false:=by decide
  by_cases m1:1<ws.length
  case neg=>
   have ZD:¬(1:Int)<((ws.length:Nat):Int):=by omega
   have Z3:¬((ws.length:Nat):Int)=2:=by omega
   simp -implicitDefEqProofs only[go_sem,↓reduceIte,f2,f3,f4,←hA,e1,ZD,Z3,X2]
   refine us.pure ?_
   simp -implicitDefEqProofs only[go_sem,↓reduceIte,hN,hT,h8,f2,f3,f4,l1,ZD,Z3,X2]
   exact zero _ g1 (ZC (by rw[Zw.2.2.1];omega)) f2 b1
  have ZD:(1:Int)<((ws.length:Nat):Int):=by omega
  have c1:=RY 1 m1 g1 b1
  have s1:=U0 _ (List.getElem_mem m1)
  have L1:L.getD 1 []=bl ws[1]:=by rw[←QQ,List.getD_eq_getElem?_getD,List.getElem?_map,List.getElem?_eq_getElem m1];rfl
  obtain⟨W1,V6⟩:∃w,w=ws[1]:=⟨_,rfl⟩
  rw[←V6]at c1 s1 L1
  have Jc:=Ys T g1 W1 (by omega)
  obtain⟨z1,JC⟩:∃z,z=Zq (bl W1):=⟨_,rfl⟩
  rw[←JC]at Jc
  obtain⟨g2,YV⟩:=ZE (g1.setIfInBounds A (.cells (Zc 3 z1 0 0 (.slice none 0 0)).toArray 33):Hp)
  have w2:XN g1 ⟨A,1,none⟩ (.int .i64 z1)=some g2:=by rw[ZA y1 1 _,if_pos ⟨by simp[Zc],rfl⟩,YV];rfl
  have y2:g2[A]? = some (.cells (Zc 3 z1 0 0 (.slice none 0 0)).toArray 33):=by rw[YV];exact ZO y1
  have b2:Zj g.size g g2:=by rw[YV];exact⟨by rw[Array.size_setIfInBounds];exact b1.size,fun b hb=>by rw[Array.getElem?_setIfInBounds,if_neg (by omega)];exact b1.block b hb⟩
  have l2:=Zb y2
  have Xb:bw<g1.size:=Nat.lt_of_lt_of_le QS b1.size
  have QH:=zw g2 b2
  unfold Zc at QH
  by_cases m2:ws.length=2
  case neg=>
   have Z3:¬((ws.length:Nat):Int)=2:=by omega
   simp -implicitDefEqProofs only[go_sem,↓reduceIte,f2,f3,f4,←hA,e1,ZD,c1,Xb]
   refine us.pure ?_
   simp -implicitDefEqProofs only[go_sem,↓reduceIte,hN,hT,h8,f2,f3,f4,l1,ZD,c1,Xb]
   refine Jc.pure ?_
   simp -implicitDefEqProofs only[go_sem,↓reduceIte,hN,hT,h8,f2,f3,f4,l1,l2,ZD,Z3,w2,QH]
   exact zero _ g2 (ZC (by rw[Zw.2.2.1];exact m2)) f2 b2
  have Z3:((ws.length:Nat):Int)=2:=by omega
  simp -implicitDefEqProofs only[go_sem,↓reduceIte,f2,f3,f4,←hA,e1,ZD,c1,Xb]
  refine us.pure ?_
  simp -implicitDefEqProofs only[go_sem,↓reduceIte,hN,hT,h8,f2,f3,f4,l1,ZD,c1,Xb]
  refine Jc.pure ?_
  obtain⟨G,hG⟩:=ZE (g2)
  have yA:=y2
  have bG:=b2
  rw[←hG]at w2 yA bG
  have ck:=ZP T G 3 z1 0 0 none 0 0
  have rA:rd G ⟨A,0,none⟩ 5=some (Zc 3 z1 0 0 (.slice none 0 0)):=Zu yA rfl
  have lA:=Zb yA
  unfold Zc at rA ck
  simp -implicitDefEqProofs only[go_sem,↓reduceIte,hN,hT,h8,f2,f3,f4,ZD,Z3,w2,rA,lA]
  refine ck.use ?_
  rintro _ G9 ⟨rfl,b9⟩
  have B9:Zj g.size g G9:=bG.trans (b9.mono bG.size)
  have y9:=b9.get lA yA
  have r9:rd G9 ⟨A,0,none⟩ 5=some (Zc 3 z1 0 0 (.slice none 0 0)):=Zu y9 rfl
  have w9:wr G9 ⟨rb,0,none⟩ (Zc 3 z1 0 0 (.slice none 0 0))=some (G9.setIfInBounds rb (.cells (Zc 3 z1 0 0 (.slice none 0 0)).toArray 33)):=Yi (B9.get RZ yr) rfl rfl
  have z9:=zw G9 B9
  have l9:=Zb y9
  obtain⟨E,hE⟩:=ZE (Zx 3 z1 0 0 0)
  rw[←hE]
  by_cases YW:E=0
  ·have al:(Zc 3 z1 0 0 (.slice none 0 0)).length=5:=rfl
   have ao:(Zc 3 z1 0 0 (.slice none 0 0)).all Yb=true:=rfl
   simp -implicitDefEqProofs only[go_sem,↓reduceIte,YW,hN,hT,h8,f2,f3,f4,ZD,Z3,w2,r9,l9,w9,al,ao]
   refine fin _ G9 3 z1 0 0 [] (.slice none 0 0) ?_ f2 B9 ⟨Own.nil _ _ _ _,fun x hx=>by cases hx⟩
   rw[Pq 3 z1 0 (by decide) (by simp[Ze]) (by simp[Zk]) m2 L1 JC]
   exact if_neg (by rw[List.length_nil,←hE];simp[YW])
  ·unfold Zc at z9
   simp -implicitDefEqProofs only[go_sem,↓reduceIte,YW,hN,hT,h8,f2,f3,f4,ZD,Z3,w2,z9]
   refine zero _ G9 ?_ f2 B9
   rw[Pq 3 z1 0 (by decide) (by simp[Ze]) (by simp[Zk]) m2 L1 JC]
   exact if_pos (by rw[List.length_nil,←hE];exact YW)
 ·-- VO 4
  refine ZG _ _ _ _ _ _ rfl ?_
  have X2:=zw g1 b1
  unfold Zc at X2
  have hN:decide (Ze 4)=false:=by simp[Ze]
  have hT:decide (Zk 4)=true:=by simp[Zk]
  have h8:decide ((4:Int)=8)=false:=by decide
  by_cases m1:1<ws.length
  case neg=>
   have ZD:¬(1:Int)<((ws.length:Nat):Int):=by omega
   have Z3:¬((ws.length:Nat):Int)=2:=by omega
   simp -implicitDefEqProofs only[go_sem,↓reduceIte,f2,f3,f4,←hA,e1,ZD,Z3,X2]
   refine us.pure ?_
   simp -implicitDefEqProofs only[go_sem,↓reduceIte,hN,hT,h8,f2,f3,f4,l1,ZD,Z3,X2]
   exact zero _ g1 (ZC (by rw[Zw.2.2.2.1];omega)) f2 b1
  have ZD:(1:Int)<((ws.length:Nat):Int):=by omega
  have c1:=RY 1 m1 g1 b1
  have s1:=U0 _ (List.getElem_mem m1)
  have L1:L.getD 1 []=bl ws[1]:=by rw[←QQ,List.getD_eq_getElem?_getD,List.getElem?_map,List.getElem?_eq_getElem m1];rfl
  obtain⟨W1,V6⟩:∃w,w=ws[1]:=⟨_,rfl⟩
  rw[←V6]at c1 s1 L1
  have Jc:=Ys T g1 W1 (by omega)
  obtain⟨z1,JC⟩:∃z,z=Zq (bl W1):=⟨_,rfl⟩
  rw[←JC]at Jc
  obtain⟨g2,YV⟩:=ZE (g1.setIfInBounds A (.cells (Zc 4 0 z1 0 (.slice none 0 0)).toArray 33):Hp)
  have w2:XN g1 ⟨A,2,none⟩ (.int .i64 z1)=some g2:=by rw[ZA y1 2 _,if_pos ⟨by simp[Zc],rfl⟩,YV];rfl
  have y2:g2[A]? = some (.cells (Zc 4 0 z1 0 (.slice none 0 0)).toArray 33):=by rw[YV];exact ZO y1
  have b2:Zj g.size g g2:=by rw[YV];exact⟨by rw[Array.size_setIfInBounds];exact b1.size,fun b hb=>by rw[Array.getElem?_setIfInBounds,if_neg (by omega)];exact b1.block b hb⟩
  have l2:=Zb y2
  have Xb:bw<g1.size:=Nat.lt_of_lt_of_le QS b1.size
  have QH:=zw g2 b2
  unfold Zc at QH
  by_cases m2:ws.length=2
  case neg=>
   have Z3:¬((ws.length:Nat):Int)=2:=by omega
   simp -implicitDefEqProofs only[go_sem,↓reduceIte,f2,f3,f4,←hA,e1,ZD,c1,Xb]
   refine us.pure ?_
   simp -implicitDefEqProofs only[go_sem,↓reduceIte,hN,hT,h8,f2,f3,f4,l1,ZD,c1,Xb]
   refine Jc.pure ?_
   simp -implicitDefEqProofs only[go_sem,↓reduceIte,hN,hT,h8,f2,f3,f4,l1,l2,ZD,Z3,w2,QH]
   exact zero _ g2 (ZC (by rw[Zw.2.2.2.1];exact m2)) f2 b2
  have Z3:((ws.length:Nat):Int)=2:=by omega
  simp -implicitDefEqProofs only[go_sem,↓reduceIte,f2,f3,f4,←hA,e1,ZD,c1,Xb]
  refine us.pure ?_
  simp -implicitDefEqProofs only[go_sem,↓reduceIte,hN,hT,h8,f2,f3,f4,l1,ZD,c1,Xb]
  refine Jc.pure ?_
  obtain⟨G,hG⟩:=ZE (g2)
  have yA:=y2
  have bG:=b2
  rw[←hG]at w2 yA bG
  have ck:=ZP T G 4 0 z1 0 none 0 0
  have rA:rd G ⟨A,0,none⟩ 5=some (Zc 4 0 z1 0 (.slice none 0 0)):=Zu yA rfl
  have lA:=Zb yA
  unfold Zc at rA ck
  simp -implicitDefEqProofs only[go_sem,↓reduceIte,hN,hT,h8,f2,f3,f4,ZD,Z3,w2,rA,lA]
  refine ck.use ?_
  rintro _ G9 ⟨rfl,b9⟩
  have B9:Zj g.size g G9:=bG.trans (b9.mono bG.size)
  have y9:=b9.get lA yA
  have r9:rd G9 ⟨A,0,none⟩ 5=some (Zc 4 0 z1 0 (.slice none 0 0)):=Zu y9 rfl
  have w9:wr G9 ⟨rb,0,none⟩ (Zc 4 0 z1 0 (.slice none 0 0))=some (G9.setIfInBounds rb (.cells (Zc 4 0 z1 0 (.slice none 0 0)).toArray 33)):=Yi (B9.get RZ yr) rfl rfl
  have z9:=zw G9 B9
  have l9:=Zb y9
  obtain⟨E,hE⟩:=ZE (Zx 4 0 z1 0 0)
  rw[←hE]
  by_cases YW:E=0
  ·have al:(Zc 4 0 z1 0 (.slice none 0 0)).length=5:=rfl
   have ao:(Zc 4 0 z1 0 (.slice none 0 0)).all Yb=true:=rfl
   simp -implicitDefEqProofs only[go_sem,↓reduceIte,YW,hN,hT,h8,f2,f3,f4,ZD,Z3,w2,r9,l9,w9,al,ao]
   refine fin _ G9 4 0 z1 0 [] (.slice none 0 0) ?_ f2 B9 ⟨Own.nil _ _ _ _,fun x hx=>by cases hx⟩
   rw[Pq 4 0 z1 (by decide) (by simp[Ze]) (by simp[Zk]) m2 L1 JC]
   exact if_neg (by rw[List.length_nil,←hE];simp[YW])
  ·unfold Zc at z9
   simp -implicitDefEqProofs only[go_sem,↓reduceIte,YW,hN,hT,h8,f2,f3,f4,ZD,Z3,w2,z9]
   refine zero _ G9 ?_ f2 B9
   rw[Pq 4 0 z1 (by decide) (by simp[Ze]) (by simp[Zk]) m2 L1 JC]
   exact if_pos (by rw[List.length_nil,←hE];exact YW)
 ·-- VO 5
  refine ZG _ _ _ _ _ _ rfl ?_
  have X2:=zw g1 b1
  unfold Zc at X2
  have hN:decide (Ze 5)=false:=by simp[Ze]
  have hT:decide (Zk 5)=true:=by simp[Zk]
  have h8:decide ((5:Int)=8)=false:=by decide
  by_cases m1:1<ws.length
  case neg=>
   have ZD:¬(1:Int)<((ws.length:Nat):Int):=by omega
   have Z3:¬((ws.length:Nat):Int)=2:=by omega
   simp -implicitDefEqProofs only[go_sem,↓reduceIte,f2,f3,f4,←hA,e1,ZD,Z3,X2]
   refine us.pure ?_
   simp -implicitDefEqProofs only[go_sem,↓reduceIte,hN,hT,h8,f2,f3,f4,l1,ZD,Z3,X2]
   exact zero _ g1 (ZC (by rw[Zw.2.2.2.2.1];omega)) f2 b1
  have ZD:(1:Int)<((ws.length:Nat):Int):=by omega
  have c1:=RY 1 m1 g1 b1
  have s1:=U0 _ (List.getElem_mem m1)
  have L1:L.getD 1 []=bl ws[1]:=by rw[←QQ,List.getD_eq_getElem?_getD,List.getElem?_map,List.getElem?_eq_getElem m1];rfl
  obtain⟨W1,V6⟩:∃w,w=ws[1]:=⟨_,rfl⟩
  rw[←V6]at c1 s1 L1
  have Jc:=Ys T g1 W1 (by omega)
  obtain⟨z1,JC⟩:∃z,z=Zq (bl W1):=⟨_,rfl⟩
  rw[←JC]at Jc
  obtain⟨g2,YV⟩:=ZE (g1.setIfInBounds A (.cells (Zc 5 0 z1 0 (.slice none 0 0)).toArray 33):Hp)
  have w2:XN g1 ⟨A,2,none⟩ (.int .i64 z1)=some g2:=by rw[ZA y1 2 _,if_pos ⟨by simp[Zc],rfl⟩,YV];rfl
  have y2:g2[A]? = some (.cells (Zc 5 0 z1 0 (.slice none 0 0)).toArray 33):=by rw[YV];exact ZO y1
  have b2:Zj g.size g g2:=by rw[YV];exact⟨by rw[Array.size_setIfInBounds];exact b1.size,fun b hb=>by rw[Array.getElem?_setIfInBounds,if_neg (by omega)];exact b1.block b hb⟩
  have l2:=Zb y2
  have Xb:bw<g1.size:=Nat.lt_of_lt_of_le QS b1.size
  have QH:=zw g2 b2
  unfold Zc at QH
  by_cases m2:ws.length=2
  case neg=>
   have Z3:¬((ws.length:Nat):Int)=2:=by omega
   simp -implicitDefEqProofs only[go_sem,↓reduceIte,f2,f3,f4,←hA,e1,ZD,c1,Xb]
   refine us.pure ?_
   simp -implicitDefEqProofs only[go_sem,↓reduceIte,hN,hT,h8,f2,f3,f4,l1,ZD,c1,Xb]
   refine Jc.pure ?_
   simp -implicitDefEqProofs only[go_sem,↓reduceIte,hN,hT,h8,f2,f3,f4,l1,l2,ZD,Z3,w2,QH]
   exact zero _ g2 (ZC (by rw[Zw.2.2.2.2.1];exact m2)) f2 b2
  have Z3:((ws.length:Nat):Int)=2:=by omega
  simp -implicitDefEqProofs only[go_sem,↓reduceIte,f2,f3,f4,←hA,e1,ZD,c1,Xb]
  refine us.pure ?_
  simp -implicitDefEqProofs only[go_sem,↓reduceIte,hN,hT,h8,f2,f3,f4,l1,ZD,c1,Xb]
  refine Jc.pure ?_
  obtain⟨G,hG⟩:=ZE (g2)
  have yA:=y2
  have bG:=b2
  rw[←hG]at w2 yA bG
  have ck:=ZP T G 5 0 z1 0 none 0 0
  have rA:rd G ⟨A,0,none⟩ 5=some (Zc 5 0 z1 0 (.slice none 0 0)):=Zu yA rfl
  have lA:=Zb yA
  unfold Zc at rA ck
  simp -implicitDefEqProofs only[go_sem,↓reduceIte,hN,hT,h8,f2,f3,f4,ZD,Z3,w2,rA,lA]
  refine ck.use ?_
  rintro _ G9 ⟨rfl,b9⟩
  have B9:Zj g.size g G9:=bG.trans (b9.mono bG.size)
  have y9:=b9.get lA yA
  have r9:rd G9 ⟨A,0,none⟩ 5=some (Zc 5 0 z1 0 (.slice none 0 0)):=Zu y9 rfl
  have w9:wr G9 ⟨rb,0,none⟩ (Zc 5 0 z1 0 (.slice none 0 0))=some (G9.setIfInBounds rb (.cells (Zc 5 0 z1 0 (.slice none 0 0)).toArray 33)):=Yi (B9.get RZ yr) rfl rfl
  have z9:=zw G9 B9
  have l9:=Zb y9
  obtain⟨E,hE⟩:=ZE (Zx 5 0 z1 0 0)
  rw[←hE]
  by_cases YW:E=0
  ·have al:(Zc 5 0 z1 0 (.slice none 0 0)).length=5:=rfl
   have ao:(Zc 5 0 z1 0 (.slice none 0 0)).all Yb=true:=rfl
   simp -implicitDefEqProofs only[go_sem,↓reduceIte,YW,hN,hT,h8,f2,f3,f4,ZD,Z3,w2,r9,l9,w9,al,ao]
   refine fin _ G9 5 0 z1 0 [] (.slice none 0 0) ?_ f2 B9 ⟨Own.nil _ _ _ _,fun x hx=>by cases hx⟩
   rw[Pq 5 0 z1 (by decide) (by simp[Ze]) (by simp[Zk]) m2 L1 JC]
   exact if_neg (by rw[List.length_nil,←hE];simp[YW])
  ·unfold Zc at z9
   simp -implicitDefEqProofs only[go_sem,↓reduceIte,YW,hN,hT,h8,f2,f3,f4,ZD,Z3,w2,z9]
   refine zero _ G9 ?_ f2 B9
   rw[Pq 5 0 z1 (by decide) (by simp[Ze]) (by simp[Zk]) m2 L1 JC]
   exact if_pos (by rw[List.length_nil,←hE];exact YW)
 ·-- VO 6
  refine ZG _ _ _ _ _ _ rfl ?_
  have X2:=zw g1 b1
  unfold Zc at X2
  have hN:decide (Ze 6)=false:=by simp[Ze]
  have hT:decide (Zk 6)=true:=by simp[Zk]
  have h8:decide ((6:Int)=8)=false:=by decide
  by_cases m1:1<ws.length
  case neg=>
   have ZD:¬(1:Int)<((ws.length:Nat):Int):=by omega
   have Z3:¬((ws.length:Nat):Int)=2:=by omega
   simp -implicitDefEqProofs only[go_sem,↓reduceIte,f2,f3,f4,←hA,e1,ZD,Z3,X2]
   refine us.pure ?_
   simp -implicitDefEqProofs only[go_sem,↓reduceIte,hN,hT,h8,f2,f3,f4,l1,ZD,Z3,X2]
   exact zero _ g1 (ZC (by rw[Zw.2.2.2.2.2.1];omega)) f2 b1
  have ZD:(1:Int)<((ws.length:Nat):Int):=by omega
  have c1:=RY 1 m1 g1 b1
  have s1:=U0 _ (List.getElem_mem m1)
  have L1:L.getD 1 []=bl ws[1]:=by rw[←QQ,List.getD_eq_getElem?_getD,List.getElem?_map,List.getElem?_eq_getElem m1];rfl
  obtain⟨W1,V6⟩:∃w,w=ws[1]:=⟨_,rfl⟩
  rw[←V6]at c1 s1 L1
  have Jc:=Ys T g1 W1 (by omega)
  obtain⟨z1,JC⟩:∃z,z=Zq (bl W1):=⟨_,rfl⟩
  rw[←JC]at Jc
  obtain⟨g2,YV⟩:=ZE (g1.setIfInBounds A (.cells (Zc 6 0 z1 0 (.slice none 0 0)).toArray 33):Hp)
  have w2:XN g1 ⟨A,2,none⟩ (.int .i64 z1)=some g2:=by rw[ZA y1 2 _,if_pos ⟨by simp[Zc],rfl⟩,YV];rfl
  have y2:g2[A]? = some (.cells (Zc 6 0 z1 0 (.slice none 0 0)).toArray 33):=by rw[YV];exact ZO y1
  have b2:Zj g.size g g2:=by rw[YV];exact⟨by rw[Array.size_setIfInBounds];exact b1.size,fun b hb=>by rw[Array.getElem?_setIfInBounds,if_neg (by omega)];exact b1.block b hb⟩
  have l2:=Zb y2
  have Xb:bw<g1.size:=Nat.lt_of_lt_of_le QS b1.size
  have QH:=zw g2 b2
  unfold Zc at QH
  by_cases m2:ws.length=2
  case neg=>
   have Z3:¬((ws.length:Nat):Int)=2:=by omega
   simp -implicitDefEqProofs only[go_sem,↓reduceIte,f2,f3,f4,←hA,e1,ZD,c1,Xb]
   refine us.pure ?_
   simp -implicitDefEqProofs only[go_sem,↓reduceIte,hN,hT,h8,f2,f3,f4,l1,ZD,c1,Xb]
   refine Jc.pure ?_
   simp -implicitDefEqProofs only[go_sem,↓reduceIte,hN,hT,h8,f2,f3,f4,l1,l2,ZD,Z3,w2,QH]
   exact zero _ g2 (ZC (by rw[Zw.2.2.2.2.2.1];exact m2)) f2 b2
  have Z3:((ws.length:Nat):Int)=2:=by omega
  simp -implicitDefEqProofs only[go_sem,↓reduceIte,f2,f3,f4,←hA,e1,ZD,c1,Xb]
  refine us.pure ?_
  simp -implicitDefEqProofs only[go_sem,↓reduceIte,hN,hT,h8,f2,f3,f4,l1,ZD,c1,Xb]
  refine Jc.pure ?_
  obtain⟨G,hG⟩:=ZE (g2)
  have yA:=y2
  have bG:=b2
  rw[←hG]at w2 yA bG
  have ck:=ZP T G 6 0 z1 0 none 0 0
  have rA:rd G ⟨A,0,none⟩ 5=some (Zc 6 0 z1 0 (.slice none 0 0)):=Zu yA rfl
  have lA:=Zb yA
  unfold Zc at rA ck
  simp -implicitDefEqProofs only[go_sem,↓reduceIte,hN,hT,h8,f2,f3,f4,ZD,Z3,w2,rA,lA]
  refine ck.use ?_
  rintro _ G9 ⟨rfl,b9⟩
  have B9:Zj g.size g G9:=bG.trans (b9.mono bG.size)
  have y9:=b9.get lA yA
  have r9:rd G9 ⟨A,0,none⟩ 5=some (Zc 6 0 z1 0 (.slice none 0 0)):=Zu y9 rfl
  have w9:wr G9 ⟨rb,0,none⟩ (Zc 6 0 z1 0 (.slice none 0 0))=some (G9.setIfInBounds rb (.cells (Zc 6 0 z1 0 (.slice none 0 0)).toArray 33)):=Yi (B9.get RZ yr) rfl rfl
  have z9:=zw G9 B9
  have l9:=Zb y9
  obtain⟨E,hE⟩:=ZE (Zx 6 0 z1 0 0)
  rw[←hE]
  by_cases YW:E=0
  ·have al:(Zc 6 0 z1 0 (.slice none 0 0)).length=5:=rfl
   have ao:(Zc 6 0 z1 0 (.slice none 0 0)).all Yb=true:=rfl
   simp -implicitDefEqProofs only[go_sem,↓reduceIte,YW,hN,hT,h8,f2,f3,f4,ZD,Z3,w2,r9,l9,w9,al,ao]
   refine fin _ G9 6 0 z1 0 [] (.slice none 0 0) ?_ f2 B9 ⟨Own.nil _ _ _ _,fun x hx=>by cases hx⟩
   rw[Pq 6 0 z1 (by decide) (by simp[Ze]) (by simp[Zk]) m2 L1 JC]
   exact if_neg (by rw[List.length_nil,←hE];simp[YW])
  ·unfold Zc at z9
   simp -implicitDefEqProofs only[go_sem,↓reduceIte,YW,hN,hT,h8,f2,f3,f4,ZD,Z3,w2,z9]
   refine zero _ G9 ?_ f2 B9
   rw[Pq 6 0 z1 (by decide) (by simp[Ze]) (by simp[Zk]) m2 L1 JC]
   exact if_pos (by rw[List.length_nil,←hE];exact YW)
 ·-- VO 7
  refine ZG _ _ _ _ _ _ rfl ?_
  have X2:=zw g1 b1
  unfold Zc at X2
  have hN:decide (Ze 7)=false:=by simp[Ze]
  have hT:decide (Zk 7)=false:=by simp[Zk]
  have h8:decide ((7:Int)=8)=false:=by decide
  by_cases m1:ws.length=1
  ·have ZD:((ws.length:Nat):Int)=1:=by omega
   have yA:=y1
   have bG:=b1
   simp -implicitDefEqProofs only[go_sem,↓reduceIte,f2,f3,f4,←hA,e1,ZD]
   refine us.pure ?_
   have ck:=ZP T g1 7 0 0 0 none 0 0
   have rA:rd g1 ⟨A,0,none⟩ 5=some (Zc 7 0 0 0 (.slice none 0 0)):=Zu yA rfl
   have lA:=Zb yA
   unfold Zc at rA ck
   simp -implicitDefEqProofs only[go_sem,↓reduceIte,hN,hT,h8,f2,f3,f4,ZD,rA,lA]
   refine ck.use ?_
   rintro _ G9 ⟨rfl,b9⟩
   have B9:Zj g.size g G9:=bG.trans (b9.mono bG.size)
   have y9:=b9.get lA yA
   have r9:rd G9 ⟨A,0,none⟩ 5=some (Zc 7 0 0 0 (.slice none 0 0)):=Zu y9 rfl
   have w9:wr G9 ⟨rb,0,none⟩ (Zc 7 0 0 0 (.slice none 0 0))=some (G9.setIfInBounds rb (.cells (Zc 7 0 0 0 (.slice none 0 0)).toArray 33)):=Yi (B9.get RZ yr) rfl rfl
   have z9:=zw G9 B9
   have l9:=Zb y9
   obtain⟨E,hE⟩:=ZE (Zx 7 0 0 0 0)
   rw[←hE]
   by_cases YW:E=0
   ·have al:(Zc 7 0 0 0 (.slice none 0 0)).length=5:=rfl
    have ao:(Zc 7 0 0 0 (.slice none 0 0)).all Yb=true:=rfl
    simp -implicitDefEqProofs only[go_sem,↓reduceIte,YW,hN,hT,h8,f2,f3,f4,ZD,r9,l9,w9,al,ao]
    refine fin _ G9 7 0 0 0 [] (.slice none 0 0) ?_ f2 B9 ⟨Own.nil _ _ _ _,fun x hx=>by cases hx⟩
    rw[Dr m1]
    exact if_neg (by rw[List.length_nil,←hE];simp[YW])
   ·unfold Zc at z9
    simp -implicitDefEqProofs only[go_sem,↓reduceIte,YW,hN,hT,h8,f2,f3,f4,ZD,z9]
    refine zero _ G9 ?_ f2 B9
    rw[Dr m1]
    exact if_pos (by rw[List.length_nil,←hE];exact YW)
  ·have ZD:¬((ws.length:Nat):Int)=1:=by omega
   simp -implicitDefEqProofs only[go_sem,↓reduceIte,f2,f3,f4,←hA,e1,ZD,X2]
   refine us.pure ?_
   simp -implicitDefEqProofs only[go_sem,↓reduceIte,hN,hT,h8,f2,f3,f4,l1,ZD,X2]
   exact zero _ g1 (ZC (by rw[Zw.2.2.2.2.2.2.1];exact m1)) f2 b1
 ·-- VO 8
  refine ZG _ _ _ _ _ _ rfl ?_
  have X2:=zw g1 b1
  unfold Zc at X2
  have hN:decide (Ze 8)=true:=by simp[Ze]
  have hT:decide (Zk 8)=false:=by simp[Zk]
  have h8:decide ((8:Int)=8)=true:=by decide
  by_cases m1:1<ws.length
  case neg=>
   have ZD:¬(1:Int)<((ws.length:Nat):Int):=by omega
   have Z3:¬((ws.length:Nat):Int)=3:=by omega
   simp -implicitDefEqProofs only[go_sem,↓reduceIte,f2,f3,f4,←hA,e1,ZD,Z3,X2]
   refine us.pure ?_
   simp -implicitDefEqProofs only[go_sem,↓reduceIte,hN,hT,h8,f2,f3,f4,l1,ZD,Z3,X2]
   exact zero _ g1 (ZC (by rw[Zw.2.2.2.2.2.2.2.1];omega)) f2 b1
  have ZD:(1:Int)<((ws.length:Nat):Int):=by omega
  have c1:=RY 1 m1 g1 b1
  have s1:=U0 _ (List.getElem_mem m1)
  have L1:L.getD 1 []=bl ws[1]:=by rw[←QQ,List.getD_eq_getElem?_getD,List.getElem?_map,List.getElem?_eq_getElem m1];rfl
  obtain⟨W1,V6⟩:∃w,w=ws[1]:=⟨_,rfl⟩
  rw[←V6]at c1 s1 L1
  have Jc:=Ys T g1 W1 (by omega)
  obtain⟨z1,JC⟩:∃z,z=Zq (bl W1):=⟨_,rfl⟩
  rw[←JC]at Jc
  obtain⟨g2,YV⟩:=ZE (g1.setIfInBounds A (.cells (Zc 8 z1 0 0 (.slice none 0 0)).toArray 33):Hp)
  have w2:XN g1 ⟨A,1,none⟩ (.int .i64 z1)=some g2:=by rw[ZA y1 1 _,if_pos ⟨by simp[Zc],rfl⟩,YV];rfl
  have y2:g2[A]? = some (.cells (Zc 8 z1 0 0 (.slice none 0 0)).toArray 33):=by rw[YV];exact ZO y1
  have b2:Zj g.size g g2:=by rw[YV];exact⟨by rw[Array.size_setIfInBounds];exact b1.size,fun b hb=>by rw[Array.getElem?_setIfInBounds,if_neg (by omega)];exact b1.block b hb⟩
  have l2:=Zb y2
  have Xb:bw<g1.size:=Nat.lt_of_lt_of_le QS b1.size
  have QH:=zw g2 b2
  unfold Zc at QH
  by_cases m2:2<ws.length
  case neg=>
   have Z3:¬(2:Int)<((ws.length:Nat):Int):=by omega
   have SS:¬((ws.length:Nat):Int)=3:=by omega
   simp -implicitDefEqProofs only[go_sem,↓reduceIte,f2,f3,f4,←hA,e1,ZD,c1,Xb]
   refine us.pure ?_
   simp -implicitDefEqProofs only[go_sem,↓reduceIte,hN,hT,h8,f2,f3,f4,l1,ZD,c1,Xb]
   refine Jc.pure ?_
   simp -implicitDefEqProofs only[go_sem,↓reduceIte,hN,hT,h8,f2,f3,f4,l1,l2,ZD,Z3,SS,w2,QH]
   exact zero _ g2 (ZC (by rw[Zw.2.2.2.2.2.2.2.1];omega)) f2 b2
  have Z3:(2:Int)<((ws.length:Nat):Int):=by omega
  have c2:=RY 2 m2 g2 b2
  have s2:=U0 _ (List.getElem_mem m2)
  have L2:L.getD 2 []=bl ws[2]:=by rw[←QQ,List.getD_eq_getElem?_getD,List.getElem?_map,List.getElem?_eq_getElem m2];rfl
  obtain⟨W2,Mk⟩:∃w,w=ws[2]:=⟨_,rfl⟩
  rw[←Mk]at c2 s2 L2
  have Hm:bw<g2.size:=Nat.lt_of_lt_of_le QS b2.size
  have Ka:=Ys T g2 W2 (by omega)
  obtain⟨z2,Hj⟩:∃z,z=Zq (bl W2):=⟨_,rfl⟩
  rw[←Hj]at Ka
  obtain⟨g3,Nw⟩:=ZE (g2.setIfInBounds A (.cells (Zc 8 z1 0 z2 (.slice none 0 0)).toArray 33):Hp)
  have w3:XN g2 ⟨A,3,none⟩ (.int .i64 z2)=some g3:=by rw[ZA y2 3 _,if_pos ⟨by simp[Zc],rfl⟩,Nw];rfl
  have y3:g3[A]? = some (.cells (Zc 8 z1 0 z2 (.slice none 0 0)).toArray 33):=by rw[Nw];exact ZO y2
  have b3:Zj g.size g g3:=by rw[Nw];exact⟨by rw[Array.size_setIfInBounds];exact b2.size,fun b hb=>by rw[Array.getElem?_setIfInBounds,if_neg (by omega)];exact b2.block b hb⟩
  have l3:=Zb y3
  have Dw:=zw g3 b3
  unfold Zc at Dw
  by_cases m3:ws.length=3
  case neg=>
   have SS:¬((ws.length:Nat):Int)=3:=by omega
   simp -implicitDefEqProofs only[go_sem,↓reduceIte,f2,f3,f4,←hA,e1,ZD,c1,Xb]
   refine us.pure ?_
   simp -implicitDefEqProofs only[go_sem,↓reduceIte,hN,hT,h8,f2,f3,f4,l1,ZD,c1,Xb]
   refine Jc.pure ?_
   simp -implicitDefEqProofs only[go_sem,↓reduceIte,hN,hT,h8,f2,f3,f4,l1,l2,ZD,Z3,w2,c2,Hm]
   refine Ka.pure ?_
   simp -implicitDefEqProofs only[go_sem,↓reduceIte,hN,hT,h8,f2,f3,f4,l2,l3,ZD,Z3,SS,w3,Dw]
   exact zero _ g3 (ZC (by rw[Zw.2.2.2.2.2.2.2.1];exact m3)) f2 b3
  have SS:((ws.length:Nat):Int)=3:=by omega
  simp -implicitDefEqProofs only[go_sem,↓reduceIte,f2,f3,f4,←hA,e1,ZD,c1,Xb]
  refine us.pure ?_
  simp -implicitDefEqProofs only[go_sem,↓reduceIte,hN,hT,h8,f2,f3,f4,l1,ZD,c1,Xb]
  refine Jc.pure ?_
  simp -implicitDefEqProofs only[go_sem,↓reduceIte,hN,hT,h8,f2,f3,f4,l1,l2,ZD,Z3,w2,c2,Hm]
  refine Ka.pure ?_
  obtain⟨G,hG⟩:=ZE (g3)
  have yA:=y3
  have bG:=b3
  rw[←hG]at w3 yA bG
  have ck:=ZP T G 8 z1 0 z2 none 0 0
  have rA:rd G ⟨A,0,none⟩ 5=some (Zc 8 z1 0 z2 (.slice none 0 0)):=Zu yA rfl
  have lA:=Zb yA
  unfold Zc at rA ck
  simp -implicitDefEqProofs only[go_sem,↓reduceIte,hN,hT,h8,f2,f3,f4,ZD,Z3,SS,w3,l2,rA,lA]
  refine ck.use ?_
  rintro _ G9 ⟨rfl,b9⟩
  have B9:Zj g.size g G9:=bG.trans (b9.mono bG.size)
  have y9:=b9.get lA yA
  have r9:rd G9 ⟨A,0,none⟩ 5=some (Zc 8 z1 0 z2 (.slice none 0 0)):=Zu y9 rfl
  have w9:wr G9 ⟨rb,0,none⟩ (Zc 8 z1 0 z2 (.slice none 0 0))=some (G9.setIfInBounds rb (.cells (Zc 8 z1 0 z2 (.slice none 0 0)).toArray 33)):=Yi (B9.get RZ yr) rfl rfl
  have z9:=zw G9 B9
  have l9:=Zb y9
  obtain⟨E,hE⟩:=ZE (Zx 8 z1 0 z2 0)
  rw[←hE]
  by_cases YW:E=0
  ·have al:(Zc 8 z1 0 z2 (.slice none 0 0)).length=5:=rfl
   have ao:(Zc 8 z1 0 z2 (.slice none 0 0)).all Yb=true:=rfl
   simp -implicitDefEqProofs only[go_sem,↓reduceIte,YW,hN,hT,h8,f2,f3,f4,ZD,Z3,SS,w3,l2,r9,l9,w9,al,ao]
   refine fin _ G9 8 z1 0 z2 [] (.slice none 0 0) ?_ f2 B9 ⟨Own.nil _ _ _ _,fun x hx=>by cases hx⟩
   rw[Ds m3 L1 L2 JC Hj]
   exact if_neg (by rw[List.length_nil,←hE];simp[YW])
  ·unfold Zc at z9
   simp -implicitDefEqProofs only[go_sem,↓reduceIte,YW,hN,hT,h8,f2,f3,f4,ZD,Z3,SS,w3,l2,z9]
   refine zero _ G9 ?_ f2 B9
   rw[Ds m3 L1 L2 JC Hj]
   exact if_pos (by rw[List.length_nil,←hE];exact YW)
 ·-- VO 9
  refine ZG _ _ _ _ _ _ rfl ?_
  have X2:=zw g1 b1
  unfold Zc at X2
  have hN:decide (Ze 9)=true:=by simp[Ze]
  have hT:decide (Zk 9)=false:=by simp[Zk]
  have h8:decide ((9:Int)=8)=false:=by decide
  by_cases m1:1<ws.length
  case neg=>
   have ZD:¬(1:Int)<((ws.length:Nat):Int):=by omega
   have Z3:¬((ws.length:Nat):Int)=2:=by omega
   simp -implicitDefEqProofs only[go_sem,↓reduceIte,f2,f3,f4,←hA,e1,ZD,Z3,X2]
   refine us.pure ?_
   simp -implicitDefEqProofs only[go_sem,↓reduceIte,hN,hT,h8,f2,f3,f4,l1,ZD,Z3,X2]
   exact zero _ g1 (ZC (by rw[Zw.2.2.2.2.2.2.2.2];omega)) f2 b1
  have ZD:(1:Int)<((ws.length:Nat):Int):=by omega
  have c1:=RY 1 m1 g1 b1
  have s1:=U0 _ (List.getElem_mem m1)
  have L1:L.getD 1 []=bl ws[1]:=by rw[←QQ,List.getD_eq_getElem?_getD,List.getElem?_map,List.getElem?_eq_getElem m1];rfl
  obtain⟨W1,V6⟩:∃w,w=ws[1]:=⟨_,rfl⟩
  rw[←V6]at c1 s1 L1
  have Jc:=Ys T g1 W1 (by omega)
  obtain⟨z1,JC⟩:∃z,z=Zq (bl W1):=⟨_,rfl⟩
  rw[←JC]at Jc
  obtain⟨g2,YV⟩:=ZE (g1.setIfInBounds A (.cells (Zc 9 z1 0 0 (.slice none 0 0)).toArray 33):Hp)
  have w2:XN g1 ⟨A,1,none⟩ (.int .i64 z1)=some g2:=by rw[ZA y1 1 _,if_pos ⟨by simp[Zc],rfl⟩,YV];rfl
  have y2:g2[A]? = some (.cells (Zc 9 z1 0 0 (.slice none 0 0)).toArray 33):=by rw[YV];exact ZO y1
  have b2:Zj g.size g g2:=by rw[YV];exact⟨by rw[Array.size_setIfInBounds];exact b1.size,fun b hb=>by rw[Array.getElem?_setIfInBounds,if_neg (by omega)];exact b1.block b hb⟩
  have l2:=Zb y2
  have Xb:bw<g1.size:=Nat.lt_of_lt_of_le QS b1.size
  have QH:=zw g2 b2
  unfold Zc at QH
  by_cases m2:ws.length=2
  case neg=>
   have Z3:¬((ws.length:Nat):Int)=2:=by omega
   simp -implicitDefEqProofs only[go_sem,↓reduceIte,f2,f3,f4,←hA,e1,ZD,c1,Xb]
   refine us.pure ?_
   simp -implicitDefEqProofs only[go_sem,↓reduceIte,hN,hT,h8,f2,f3,f4,l1,ZD,c1,Xb]
   refine Jc.pure ?_
   simp -implicitDefEqProofs only[go_sem,↓reduceIte,hN,hT,h8,f2,f3,f4,l1,l2,ZD,Z3,w2,QH]
   exact zero _ g2 (ZC (by rw[Zw.2.2.2.2.2.2.2.2];exact m2)) f2 b2
  have Z3:((ws.length:Nat):Int)=2:=by omega
  simp -implicitDefEqProofs only[go_sem,↓reduceIte,f2,f3,f4,←hA,e1,ZD,c1,Xb]
  refine us.pure ?_
  simp -implicitDefEqProofs only[go_sem,↓reduceIte,hN,hT,h8,f2,f3,f4,l1,ZD,c1,Xb]
  refine Jc.pure ?_
  obtain⟨G,hG⟩:=ZE (g2)
  have yA:=y2
  have bG:=b2
  rw[←hG]at w2 yA bG
  have ck:=ZP T G 9 z1 0 0 none 0 0
  have rA:rd G ⟨A,0,none⟩ 5=some (Zc 9 z1 0 0 (.slice none 0 0)):=Zu yA rfl
  have lA:=Zb yA
  unfold Zc at rA ck
  simp -implicitDefEqProofs only[go_sem,↓reduceIte,hN,hT,h8,f2,f3,f4,ZD,Z3,w2,rA,lA]
  refine ck.use ?_
  rintro _ G9 ⟨rfl,b9⟩
  have B9:Zj g.size g G9:=bG.trans (b9.mono bG.size)
  have y9:=b9.get lA yA
  have r9:rd G9 ⟨A,0,none⟩ 5=some (Zc 9 z1 0 0 (.slice none 0 0)):=Zu y9 rfl
  have w9:wr G9 ⟨rb,0,none⟩ (Zc 9 z1 0 0 (.slice none 0 0))=some (G9.setIfInBounds rb (.cells (Zc 9 z1 0 0 (.slice none 0 0)).toArray 33)):=Yi (B9.get RZ yr) rfl rfl
  have z9:=zw G9 B9
  have l9:=Zb y9
  obtain⟨E,hE⟩:=ZE (Zx 9 z1 0 0 0)
  rw[←hE]
  by_cases YW:E=0
  ·have al:(Zc 9 z1 0 0 (.slice none 0 0)).length=5:=rfl
   have ao:(Zc 9 z1 0 0 (.slice none 0 0)).all Yb=true:=rfl
   simp -implicitDefEqProofs only[go_sem,↓reduceIte,YW,hN,hT,h8,f2,f3,f4,ZD,Z3,w2,r9,l9,w9,al,ao]
   refine fin _ G9 9 z1 0 0 [] (.slice none 0 0) ?_ f2 B9 ⟨Own.nil _ _ _ _,fun x hx=>by cases hx⟩
   rw[Pq 9 z1 0 (by decide) (by simp[Ze]) (by simp[Zk]) m2 L1 JC]
   exact if_neg (by rw[List.length_nil,←hE];simp[YW])
  ·unfold Zc at z9
   simp -implicitDefEqProofs only[go_sem,↓reduceIte,YW,hN,hT,h8,f2,f3,f4,ZD,Z3,w2,z9]
   refine zero _ G9 ?_ f2 B9
   rw[Pq 9 z1 0 (by decide) (by simp[Ze]) (by simp[Zk]) m2 L1 JC]
   exact if_pos (by rw[List.length_nil,←hE];exact YW)
end Go.Proofs.YtdpjmhgbmhjniaaDoor
