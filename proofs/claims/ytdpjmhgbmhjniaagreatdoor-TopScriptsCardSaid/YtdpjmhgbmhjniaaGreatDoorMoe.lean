/- Part Moe. -/
import Derived.Test.YtdpjmhgbmhjniaaGreatDoorVst
import Derived.Test.YtdpjmhgbmhjniaaGreatDoorW31
import Derived.Shelf.Small.Strs
import Derived.Shelf.Strings.Prefix
import Derived.Shelf.Strings.Split
import Derived.Shelf.Strconv.AtoiAll
import Derived.Shelf.Strconv.Itoa3
import Derived.Test.YtdpjmhgbmhjniaaGreatDoorShaq
import Derived.Lib.ItoaLen
import Derived.Lib.ItoaMem
import Derived.Test.YtdpjmhgbmhjniaaGreatDoorOpn
import Derived.Test.YtdpjmhgbmhjniaaGreatDoorMix
import Derived.Test.YtdpjmhgbmhjniaaGreatDoorChw
import Derived.Test.YtdpjmhgbmhjniaaGreatDoorPik
open Go.Value renaming int→U,slice→aa,pointer→ao,bool→az,agg→bf
open Go.IntKind renaming i64→D
open Go.Obj renaming cells→Y
open Go.Proofs.Tryz renaming prog→av,underlying9→bh,underlying3→bk,zeroValue3→br,zeroValue9→bz,underlying5→bE,underlying4→bG,zeroValue5→bK,zeroValue4→bP,sizeOf3→bT,sizeOf9→bV,underlying127→ca,underlying207→cc,isAgg3→cg,isAgg9→ch,zeroValue127→ck,zeroValue207→cn,underlying39→co,underlying90→cp,underlying0→cq,sizeOf5→ct,sizeOf4→cu,zeroValue0→cz,isAgg5→cP,isAgg4→cS,sizeOf127→cT,sizeOf207→c6,isAgg127→dr,isAgg207→ds,underlying239→du,underlying154→dw,underlying238→dx,underlying242→dE,underlying284→dF,underlying285→dL,underlying313→dT,underlying205→dZ,underlying184→d0,underlying109→d4,sizeOf0→d9,underlying21→ea,underlying20→eb,zeroValue239→ec,zeroValue238→ed,zeroValue242→ef,zeroValue284→eg,zeroValue313→ei,zeroValue205→ej,zeroValue21→ek,underlying2→em,zeroValue20→en,zeroValue39→eo,isAgg0→ep,zeroValue2→et,sizeOf239→eC,sizeOf238→eD,sizeOf242→eE,sizeOf284→eF,sizeOf285→eG,sizeOf313→eM,sizeOf205→eN,sizeOf21→eS,sizeOf20→eT,sizeOf39→eU,isAgg239→eV,isAgg238→eX,isAgg242→eZ,isAgg284→e0,isAgg285→fa,isAgg313→fb,isAgg205→fg
open List renaming length→O,length_append→al,append_assoc→aw,length_cons→ay,length_take→aI,length_drop→a6,take_append_drop→a7,getElem?_eq_getElem→bc,length_nil→bd,getD_eq_getElem?_getD→bg,getElem_mem→bn,all_eq_true→bo,length_map→bL,append_nil→bR,getElem_of_mem→bS,idxOf_lt_length_of_mem→b0,getElem?_append_right→cf,take_length→cr,take_of_length_le→cv,not_of_lt_findIdx→cx,set_append_right→cB,drop_zero→c7,mem_of_mem_take→dc,mem_of_mem_drop→de,drop_drop→dl,drop_succ_cons→dm,filter_eq_self→dn,map_cons→dt,mem_singleton→d1,range→d2,getElem_idxOf→d5,nil_append→eu,length_set→eA,map_drop→eP,map_take→eR,all_cons→fi,take→ft
open Nat renaming mul_le_mul_right→ba,le_refl→be,min_eq_left→bA,sub_mul→bH,succ_mul→cy,lt_of_lt_of_le→d3,add_mul→er
open Int renaming toNat→fo
open Option renaming map_some→ez,some→M,none→Z
open Array renaming getElem?_setIfInBounds→a8
open Bool renaming false_eq_true→bD,eq_iff_iff→cA
open Go renaming Value→am
namespace Go.Proofs.YtdpjmhgbmhjniaaGreatDoor
open Go Go.V
set_option linter.all false
set_option maxRecDepth 100000
variable(T:World){h h':Hp}{v:am}
def yS:Go.Shelf.Ren:=⟨fun|137=>61|217=>87|266=>112|n=>n,fun|9=>9|5=>5|3=>3|n=>n,fun|n=>n⟩
theorem ZqW:Lays.n137 av yS:={
 mixed:=po,
 f137:=Tryz.func61.trans (congrArg M po),
 f217:=Tryz.func87.trans (congrArg M po),
 f266:=Tryz.func112.trans (congrArg M po),
 t3:=bk,
 a3:=cg,
 z3:=bT,
 v3:=br,
 t5:=bE,
 a5:=cP,
 z5:=ct,
 v5:=bK,
 t9:=bh,
 a9:=ch,
 z9:=bV,
 v9:=bz }
theorem da(h:Hp)(s:ByteArray)(c:Int):Zc av T 61 #[.string s,U .u8 c] h fun v' h'=>v'=U D (Lib.indexByte s.data.toList c.toNat.toUInt8)/\h'=h:=by
 refine Zc.SL fun w hs=>?_;refine (Any.strings_IndexByte ZqW s c w).mono ?_;rintro e w' ⟨rfl,rfl⟩;exact⟨_,rfl,rfl,rfl,rfl,rfl,hs.heap⟩
theorem rU:∀(l:List UInt8) (c:UInt8),Lib.indexByte l c<(O l):=by
 intro l c
 induction l with
 | nil=>unfold Lib.indexByte;simp
 | cons b l ih=>
  unfold Lib.indexByte;simp only[ay];split
  .omega
  .split
   .omega
   .omega
def Gp(s:ByteArray):Int:=Lib.indexByte s.data.toList 10
def WH(s:ByteArray):ByteArray:=if 0<=Gp s then s.extract 0 ((Gp s).toNat+1) else s
def WJ(s:ByteArray):ByteArray:=if 0<=Gp s then s.extract ((Gp s).toNat+1) s.size else ⟨#[]⟩
theorem Zbz(s:ByteArray):Gp s<s.size:=by
 have:=rU s.data.toList 10
 simpa [Gp] using this
theorem gi{s:ByteArray}(h:0<s.size):(WJ s).size<s.size:=by
 have:=Zbz s;unfold WJ;split
 .rw[ByteArray.size_extract];omega
 .exact h
def kq(sb:Nat)(s:ByteArray)(h:Hp):Prop:=h[sb]? = M (Y [Value.string s].toArray 9)
def db(sb:Nat)(s:ByteArray)(h:Hp):Hp:=h.setIfInBounds sb (Y [Value.string s].toArray 9)
def szS(sb:Nat)(h:Hp):Nat:=match hc h ⟨sb,0,Z⟩ with|some (Value.string r)=>r.size|_=>0
theorem kq.sz{sb:Nat}{s:ByteArray}(b:kq sb s h):szS sb h=s.size:=by
 unfold szS;rw[show hc h ⟨sb,0,Z⟩=M (Value.string s) from Zg b]
set_option maxHeartbeats 4000000 in
theorem rW(h:Hp)(lp sb:Nat)(s:ByteArray)(J:ByteArray->Hp->Prop)(Jx:Hp->Prop)(hs:s.size<=4611686018427387904)(hJ:∀r h,J r h->kq sb r h)(hY:∀r h,J r h->0<r.size->TO av T lp (.string (WH r)) (fun b h'=>if b=true then J (WJ r) h' else Jx h') (db sb (WJ r) h))(h0:J s h):Zc av T 60 #[.func (.yield lp) #[] #[],ao (M ⟨sb,0,Z⟩)] h fun _ h'=>J ⟨#[]⟩ h'\/Jx h':=by
 refine Zc.ZgB (args:=#[_,_]) (l:=[]) Tryz.func60 rfl rfl rfl ?_;refine Jh _ _ _ _ _ _ rfl ?_;simp -implicitDefEqProofs only[go_sem];refine VR.loop (fun F g=>F 0=.func (.yield lp) #[] #[]/\F 1=ao (M ⟨sb,0,Z⟩)/\∃r:ByteArray,r.size<=s.size/\J r g)
  (fun F g=>szS sb g) ⟨rfl,rfl,s,be _,h0⟩ ?_
 rintro F g ⟨f0,f1,r,hr,hj⟩;have bx:=hJ r g hj;have c0:hc g ⟨sb,0,Z⟩=M (.string r):=Zg bx;have lt:=Za bx;refine VR.seq (Jh _ _ _ _ _ _ rfl ?_);by_cases hp:0<r.size
 case neg=>
  have hz:r.size=0:=gX;have hp':¬(0:Int)<r.size:=gX;obtain rfl:r=⟨#[]⟩:=by
   have:r.data.size=0:=hz
   cases r;rename_i d
   rw[Array.size_eq_zero_iff]at this;subst this;rfl
  simp -implicitDefEqProofs only[go_sem,f0,f1,c0,lt,hp']
  first|exact .inl hj|(rw[if_neg MZ];exact .inl hj)|(rw[if_neg Dq];exact .inl hj)
 have hp':(0:Int)<r.size:=gX;have ix:=da T g r 10;have hY:=hY r g hj hp;have nlt:=Zbz r;have Rl:=gi hp;have Rz:kq sb (WJ r) (db sb (WJ r) g):=by
  unfold kq db;rw[a8,if_pos rfl,if_pos lt]
 obtain⟨ln,mJ⟩:=ZD (WH r);obtain⟨rs,mQ⟩:=ZD (WJ r);rw[<-mJ,<-mQ]at hY;rw[<-mQ]at Rl Rz;unfold WH at mJ;unfold WJ at mQ;simp -implicitDefEqProofs only[go_sem,f0,f1,c0,lt,hp'];refine VR.block (VR.seq (Jh _ _ _ _ _ _ rfl ?_));simp -implicitDefEqProofs only[go_sem];refine VR.seq (Jh _ _ _ _ _ _ rfl ?_);simp -implicitDefEqProofs only[go_sem,f0,f1,c0,lt];refine ix.pure ?_;have hn:Lib.indexByte r.data.toList (fo 10).toUInt8=Gp r:=rfl;rw[hn];by_cases q:0<=Gp r
 .rw[if_pos q]at mJ mQ;have e1:∀(K:am->Hp->Prop) h,MP r Z (M (Gp r+1).toNat) K h=K (.string ln) h:=fun K h=>by
   rw[mJ,show (Gp r+1).toNat=(Gp r).toNat+1 by omega];rfl
  have e2:∀(K:am->Hp->Prop) h,MP r (M (U D (Gp r+1))) (M r.size) K h=K (.string rs) h:=fun K h=>by
   have e:V.sb (M (U D (Gp r+1))) 0 r.size=M ((Gp r).toNat+1):=by
    simp only[V.sb];rw[if_pos gX];simp only[Option.some.injEq];omega
   unfold MP;simp only[e];rw[mQ]
  have w1:Jb g ⟨sb,0,Z⟩ (.string rs)=M (db sb rs g):=by
   rw[Ye bx 0 _,if_pos ⟨Dq,rfl⟩];rfl
  simp -implicitDefEqProofs only[go_sem,f0,f1,c0,lt,q];refine VR.w (g.size) [9] (.q 0 (.q 1 (.q 2 (.q 3 (.q 4 (.q 5 (.q 6 (.q 7 (.q 8 (.w 9 .nil)))))))))) mixed po ?_;simp -implicitDefEqProofs only[go_sem,f0,f1,c0,lt,q,e1,e2,w1];refine VR.seq (VR.yield (lp:=lp) (x:=.string ln) MZ (by simp[Z5,Gz,f0]) (by simp[Z5,Gz]) ?_);refine hY.mono ?_;rintro b h' hk;refine Jh _ _ _ _ _ _ rfl ?_
  cases b
  .simp only[bD,if_false]at hk;simp -implicitDefEqProofs only[go_sem];exact .inr hk
  .simp only[if_true]at hk;simp -implicitDefEqProofs only[go_sem,f0,f1];refine⟨⟨rs,gX,hk⟩,?_⟩;rw[(hJ rs h' hk).sz,bx.sz];omega
 .rw[if_neg q]at mJ mQ;have w1:Jb g ⟨sb,0,Z⟩ (.string rs)=M (db sb rs g):=by
   rw[Ye bx 0 _,if_pos ⟨Dq,rfl⟩];rfl
  rw[mQ]at w1;simp -implicitDefEqProofs only[go_sem,f0,f1,c0,lt,q,w1];refine VR.seq (VR.yield (lp:=lp) (x:=.string ln) MZ (by simp[Z5,Gz,f0]) (by simp[Z5,Gz,mJ]) ?_);rw[<-mQ];refine hY.mono ?_;rintro b h' hk;refine Jh _ _ _ _ _ _ rfl ?_
  cases b
  .simp only[bD,if_false]at hk;simp -implicitDefEqProofs only[go_sem];exact .inr hk
  .simp only[if_true]at hk;simp -implicitDefEqProofs only[go_sem,f0,f1];refine⟨⟨rs,gX,hk⟩,?_⟩;rw[(hJ rs h' hk).sz,bx.sz];omega
def bl(s:ByteArray):List Nat:=s.data.toList.map UInt8.toNat
theorem Oi(s:ByteArray):(bl s).length=s.size:=by
 unfold bl;rw[bL];simp
theorem ZbA(s:ByteArray)(i:Nat):(s.data.toList.getD i 0).toNat=(bl s).getD i 0:=by
 unfold bl;rw[bg,bg,List.getElem?_map]
 cases s.data.toList[i]?<;>rfl
theorem Zit(s:ByteArray):∀x∈bl s,x<256:=by
 intro x hx;unfold bl at hx;obtain⟨y,_,rfl⟩:=List.mem_map.1 hx;exact y.toNat_lt
def VN(x:Nat):Int:=if 48<=x/\x<=57 then x-48 else if 97<=x/\x<=102 then x-87 else -1
def RQ:List Nat->Int->Int
 | [],n=>n
 | b :: l,n=>if b<48\/57<b then -1 else RQ l (10*n+(b-48:Int))
theorem Nu(b:Nat)(l:List Nat)(n:Int):RQ (b :: l) n=if b<48\/57<b then -1 else RQ l (10*n+(b-48:Int)):=rfl
def Xm(l:List Nat):Int:=if (O l)=0\/7<(O l)\/(l.getD 0 0=48/\1<(O l)) then -1 else RQ l 0
def glue(cur:List Nat):List (List Nat)->List (List Nat)
 | []=>[cur]
 | w :: k=>(cur++w) :: k
def Xn:List Nat->List (List Nat)
 | []=>[[]]
 | b :: l=>if b=32 then [] :: Xn l else glue [b] (Xn l)
theorem Mt(l:List Nat):Xn l≠[]:=by
 cases l with
 | nil=>simp[Xn]
 | cons b l=>
  unfold Xn;split
  .simp
  .cases Xn l<;>simp[glue]
theorem WK(s:ByteArray)(a b:Nat):bl (s.extract a b)=((bl s).drop a).take (b-a):=by
 unfold bl;rw[Lib.extract_data s a b,<-eP,<-eR]
def yU(w:ByteArray):List am:=[.string w]
def rX:Go.Shelf.Ren:=⟨fun|102=>63|209=>89|207=>116|n=>n,fun|9=>9|4=>4|3=>3|n=>n,fun|n=>n⟩
theorem Ziu:Lays.n102 av rX:={
 mixed:=po,
 f102:=Tryz.func63.trans (congrArg M po),
 f207:=Tryz.func116.trans (congrArg M po),
 f209:=Tryz.func89.trans (congrArg M po),
 t3:=bk,
 a3:=cg,
 z3:=bT,
 v3:=br,
 t4:=bG,
 a4:=cS,
 z4:=cu,
 v4:=bP,
 t9:=bh,
 a9:=ch,
 z9:=bV,
 v9:=bz }
def kr:Go.Shelf.Ren:=⟨fun|146=>62|221=>88|268=>113|138=>114|143=>115|195=>145|197=>146|218=>147|219=>148|260=>182|217=>87|225=>183|224=>184|267=>185|266=>112|314=>203|n=>n,fun|9=>9|31=>157|3=>3|4=>4|0=>0|105=>245|21=>21|5=>5|46=>127|119=>305|139=>308|138=>307|146=>309|51=>207|n=>n,fun|1=>3|3=>7|4=>8|n=>n⟩
theorem Zdx:Lays.n146 av kr:={
 mixed:=po,
 f138:=Tryz.func114.trans (congrArg M po),
 f143:=Tryz.func115.trans (congrArg M po),
 f146:=Tryz.func62.trans (congrArg M po),
 f195:=Tryz.func145.trans (congrArg M po),
 f197:=Tryz.func146.trans (congrArg M po),
 f217:=Tryz.func87.trans (congrArg M po),
 f218:=Tryz.func147.trans (congrArg M po),
 f219:=Tryz.func148.trans (congrArg M po),
 f221:=Tryz.func88.trans (congrArg M po),
 f224:=Tryz.func184.trans (congrArg M po),
 f225:=Tryz.func183.trans (congrArg M po),
 f260:=Tryz.func182.trans (congrArg M po),
 f266:=Tryz.func112.trans (congrArg M po),
 f267:=Tryz.func185.trans (congrArg M po),
 f268:=Tryz.func113.trans (congrArg M po),
 f314:=Tryz.func203.trans (congrArg M po),
 t0:=cq,
 a0:=ep,
 z0:=d9,
 v0:=cz,
 t3:=bk,
 a3:=cg,
 z3:=bT,
 v3:=br,
 t4:=bG,
 a4:=cS,
 z4:=cu,
 v4:=bP,
 t5:=bE,
 a5:=cP,
 z5:=ct,
 v5:=bK,
 t9:=bh,
 a9:=ch,
 z9:=bV,
 v9:=bz,
 t21:=ea,
 a21:=Tryz.isAgg21,
 z21:=eS,
 v21:=ek,
 t31:=Tryz.underlying157,
 a31:=Tryz.isAgg157,
 z31:=Tryz.sizeOf157,
 v31:=Tryz.zeroValue157,
 t46:=ca,
 a46:=dr,
 z46:=cT,
 v46:=ck,
 t51:=cc,
 a51:=ds,
 z51:=c6,
 v51:=cn,
 t105:=Tryz.underlying245,
 a105:=Tryz.isAgg245,
 z105:=Tryz.sizeOf245,
 v105:=Tryz.zeroValue245,
 t119:=Tryz.underlying305,
 a119:=Tryz.isAgg305,
 z119:=Tryz.sizeOf305,
 t138:=Tryz.underlying307,
 a138:=Tryz.isAgg307,
 z138:=Tryz.sizeOf307,
 v138:=Tryz.zeroValue307,
 t139:=Tryz.underlying308,
 a139:=Tryz.isAgg308,
 z139:=Tryz.sizeOf308,
 v139:=Tryz.zeroValue308,
 t146:=Tryz.underlying309,
 a146:=Tryz.isAgg309,
 z146:=Tryz.sizeOf309,
 v146:=Tryz.zeroValue309,
 g1:=po,
 g3:=po,
 g4:=by kernel_rfl }
theorem yV(h:Hp)(s p:ByteArray)(hs:s.size<=4611686018427387904):Zc av T 63 #[.string s,.string p] h fun v' h'=>v'=.string ⟨(Lib.trimSuffix s.data.toList p.data.toList).toArray⟩/\h'=h:=by
 refine Zc.SL fun w V1=>?_;refine (Any.strings_TrimSuffix Ziu s p w gX).mono ?_;rintro e w' ⟨rfl,rfl⟩;exact⟨_,rfl,rfl,rfl,rfl,rfl,V1.heap⟩
def Gq(h:Hp):Prop:=∃m,hc h ⟨3,0,Z⟩=M (U D m)
def Ko:ByteArray:=⟨#[32]⟩
theorem rY(h:Hp)(s:ByteArray)(hs:s.size<=8000000)(hm:Gq h):Zc av T 62 #[.string s,.string Ko] h fun v' h'=>Ts yU 1 h' v' (Lib.splitB Ko 0 (Lib.countB s Ko) s)/\Zf h.size h h':=by
 obtain⟨m,hm⟩:=hm;refine Zc.SL fun w V1=>?_;refine (Any.strings_Split Zdx po s Ko m w gX (by rw[<-hm,<-V1.heap];rfl) MZ).mono ?_;rintro e w' ⟨rfl,rfl⟩;refine⟨_,rfl,rfl,rfl,rfl,?_,?_⟩
 .have hl:=Lib.splitB_all Ko MZ 0 _ s rfl;have e:∀l:List ByteArray,l.map Value.string=ZK yU l:=by
   intro l
   induction l with
   | nil=>rfl
   | cons a l ih=>rw[dt,ih];rfl
  have:=Ts.made (h:=w.heap) (E:=9) (enc:=yU) (n:=1) (fun _=>rfl) (Lib.splitB Ko 0 (Lib.countB s Ko) s) (Lib.countB s Ko+1);rw[hl]at this;rw[e];exact this
 .rw[<-V1.heap];exact (Zf.refl _ _).add _
theorem ku:∀l:List UInt8,(Lib.indexByte l 32 = -1->Xn (l.map UInt8.toNat)=[l.map UInt8.toNat])/\∀i:Nat,Lib.indexByte l 32=i->Xn (l.map UInt8.toNat)=(l.take i).map UInt8.toNat :: Xn ((l.drop (i+1)).map UInt8.toNat):=by
 intro l
 induction l with
 | nil=>exact⟨fun _=>rfl,fun i h=>by unfold Lib.indexByte at h;omega⟩
 | cons b l ih=>
  obtain⟨i1,i2⟩:=ih;have YU:=Lib.indexByte_ge l 32;rw[dt,Xn];unfold Lib.indexByte;by_cases q:b=32
  .subst q;rw[if_pos (show UInt8.toNat 32=32 from rfl)];refine⟨fun h=>by simp at h,fun i h=>?_⟩;simp only[beq_self_eq_true,if_true]at h;obtain rfl:i=0:=gX;rfl
  .have q':(b == 32)=false:=by simpa using q
   have q2:¬b.toNat=32:=fun e=>q (UInt8.toNat_inj.1 e);rw[if_neg q2];simp only[q',bD,if_false];by_cases r:Lib.indexByte l 32 = -1
   .rw[r,i1 r];refine⟨fun _=>rfl,fun i h=>?_⟩;simp at h
   .have r':(Lib.indexByte l 32 == -1)=false:=by simpa using r
    simp only[r',bD,if_false];refine⟨fun h=>by omega,fun i h=>?_⟩;obtain⟨j,rfl⟩:∃j,i=j+1:=⟨i-1,gX⟩
    rw[i2 j gX];rfl
theorem Bk:∀(n:Nat) (s:ByteArray),s.size<n->(Lib.splitB Ko 0 (Lib.countB s Ko) s).map bl=Xn (bl s):=by
 intro n
 induction n with
 | zero=>
  intro s hs;omega
 | succ n ih=>
  intro s hs;have e1:Lib.indexB s Ko=Lib.indexByte s.data.toList 32:=Lib.one s Ko rfl;obtain⟨w1,w2⟩:=ku s.data.toList;have YU:=Lib.indexByte_ge s.data.toList 32;by_cases q:Lib.indexByte s.data.toList 32 = -1
  .rw[Lib.countB_miss s Ko (by rw[e1,q]),Lib.splitB_zero];exact (w1 q).symm
  .obtain⟨i,hi⟩:∃i:Nat,Lib.indexByte s.data.toList 32=i:=⟨(Lib.indexByte s.data.toList 32).toNat,gX⟩
   have ZL:=rU s.data.toList 32;have vG:(O s.data.toList)=s.size:=(Lib.size_eq s).symm;rw[Lib.countB_hit s Ko i MZ (by rw[e1,hi]),Nat.add_comm 1,Lib.splitB_hit Ko 0 _ s i (by rw[e1,hi]),dt];have hr:(s.extract (i+Ko.size) s.size).size<n:=by
    rw[ByteArray.size_extract];have:Ko.size=1:=rfl;omega
   rw[ih _ hr];have e2:bl s=s.data.toList.map UInt8.toNat:=rfl;rw[e2,w2 i hi,WK,WK];have:Ko.size=1:=rfl;rw[this,e2];simp only[Nat.add_zero,c7,Nat.sub_zero];rw[eR,eP,cv (l:=List.drop _ _)];simp
def rZ:Go.Shelf.Ren:=⟨fun|172=>64|244=>90|245=>91|247=>117|279=>118|280=>119|281=>120|282=>121|287=>149|316=>150|171=>59|205=>151|321=>186|322=>187|243=>86|246=>111|283=>141|284=>142|285=>143|286=>144|129=>178|317=>177|318=>179|319=>180|320=>181|337=>201|338=>202|n=>n,fun|9=>9|3=>3|75=>95|76=>96|4=>4|5=>5|167=>215|37=>39|0=>0|85=>216|2=>2|168=>218|53=>239|175=>247|46=>127|210=>251|127=>154|145=>290|143=>288|21=>21|171=>238|173=>242|212=>284|51=>207|20=>20|213=>285|232=>313|233=>205|80=>99|n=>n,fun|15=>4|16=>5|17=>6|18=>9|19=>10|n=>n⟩
theorem sf:LaysC.n172 av rZ:={
 mixed:=po,
 f129:=Tryz.func178.trans (congrArg M po),
 f171:=Tryz.func59.trans (congrArg M po),
 f172:=Tryz.func64.trans (congrArg M po),
 f205:=Tryz.func151.trans (congrArg M po),
 f243:=Tryz.func86.trans (congrArg M po),
 f244:=Tryz.func90.trans (congrArg M po),
 f245:=Tryz.func91.trans (congrArg M po),
 f246:=Tryz.func111.trans (congrArg M po),
 f247:=Tryz.func117.trans (congrArg M po),
 f279:=Tryz.func118.trans (congrArg M po),
 f280:=Tryz.func119.trans (congrArg M po),
 f281:=Tryz.func120.trans (congrArg M po),
 f282:=Tryz.func121.trans (congrArg M po),
 f283:=Tryz.func141.trans (congrArg M po),
 f284:=Tryz.func142.trans (congrArg M po),
 f285:=Tryz.func143.trans (congrArg M po),
 f286:=Tryz.func144.trans (congrArg M po),
 f287:=Tryz.func149.trans (congrArg M po),
 f316:=Tryz.func150.trans (congrArg M po),
 f317:=Tryz.func177.trans (congrArg M po),
 f318:=Tryz.func179.trans (congrArg M po),
 f319:=Tryz.func180.trans (congrArg M po),
 f320:=Tryz.func181.trans (congrArg M po),
 f321:=Tryz.func186.trans (congrArg M po),
 f322:=Tryz.func187.trans (congrArg M po),
 f337:=Tryz.func201.trans (congrArg M po),
 f338:=Tryz.func202.trans (congrArg M po),
 t0:=cq,
 a0:=ep,
 z0:=d9,
 v0:=cz,
 t2:=em,
 a2:=Tryz.isAgg2,
 z2:=Tryz.sizeOf2,
 v2:=et,
 t3:=bk,
 a3:=cg,
 z3:=bT,
 v3:=br,
 t4:=bG,
 a4:=cS,
 z4:=cu,
 v4:=bP,
 t5:=bE,
 a5:=cP,
 z5:=ct,
 v5:=bK,
 t9:=bh,
 a9:=ch,
 z9:=bV,
 v9:=bz,
 t20:=eb,
 a20:=Tryz.isAgg20,
 z20:=eT,
 v20:=en,
 t21:=ea,
 a21:=Tryz.isAgg21,
 z21:=eS,
 v21:=ek,
 t37:=co,
 a37:=Tryz.isAgg39,
 z37:=eU,
 v37:=eo,
 t46:=ca,
 a46:=dr,
 z46:=cT,
 v46:=ck,
 t51:=cc,
 a51:=ds,
 z51:=c6,
 v51:=cn,
 t53:=du,
 a53:=eV,
 z53:=eC,
 v53:=ec,
 t75:=Tryz.underlying95,
 a75:=Tryz.isAgg95,
 z75:=Tryz.sizeOf95,
 v75:=Tryz.zeroValue95,
 t76:=Tryz.underlying96,
 a76:=Tryz.isAgg96,
 z76:=Tryz.sizeOf96,
 v76:=Tryz.zeroValue96,
 t85:=Tryz.underlying216,
 a85:=Tryz.isAgg216,
 z85:=Tryz.sizeOf216,
 v85:=Tryz.zeroValue216,
 t127:=dw,
 a127:=Tryz.isAgg154,
 z127:=Tryz.sizeOf154,
 v127:=Tryz.zeroValue154,
 t143:=Tryz.underlying288,
 a143:=Tryz.isAgg288,
 z143:=Tryz.sizeOf288,
 v143:=Tryz.zeroValue288,
 t145:=Tryz.underlying290,
 a145:=Tryz.isAgg290,
 z145:=Tryz.sizeOf290,
 v145:=Tryz.zeroValue290,
 t167:=Tryz.underlying215,
 a167:=Tryz.isAgg215,
 z167:=Tryz.sizeOf215,
 v167:=Tryz.zeroValue215,
 t168:=Tryz.underlying218,
 a168:=Tryz.isAgg218,
 z168:=Tryz.sizeOf218,
 v168:=Tryz.zeroValue218,
 t171:=dx,
 a171:=eX,
 z171:=eD,
 v171:=ed,
 t173:=dE,
 a173:=eZ,
 z173:=eE,
 v173:=ef,
 t175:=Tryz.underlying247,
 a175:=Tryz.isAgg247,
 z175:=Tryz.sizeOf247,
 v175:=Tryz.zeroValue247,
 t210:=Tryz.underlying251,
 a210:=Tryz.isAgg251,
 z210:=Tryz.sizeOf251,
 v210:=Tryz.zeroValue251,
 t212:=dF,
 a212:=e0,
 z212:=eF,
 v212:=eg,
 t213:=dL,
 a213:=fa,
 z213:=eG,
 t232:=dT,
 a232:=fb,
 z232:=eM,
 v232:=ei,
 t233:=dZ,
 a233:=fg,
 z233:=eN,
 v233:=ej,
 g15:=po,
 g16:=po,
 g17:=po,
 g18:=po,
 g19:=po,
 t80:=Tryz.underlying99,
 a80:=Tryz.isAgg99,
 z80:=Tryz.sizeOf99,
 v80:=Tryz.zeroValue99,
 i0:=po,
 i2:=po,
 i3:=po,
 i4:=po,
 i5:=po,
 i9:=po,
 i20:=po,
 i21:=po,
 i37:=po,
 i46:=po,
 i51:=po,
 i53:=po,
 i75:=po,
 i76:=po,
 i80:=po,
 i85:=po,
 i127:=po,
 i143:=po,
 i145:=po,
 i167:=po,
 i168:=po,
 i171:=po,
 i173:=po,
 i175:=po,
 i210:=po,
 i212:=po,
 i232:=po,
 i233:=po,
 m15:=po,
 m16:=po,
 m17:=po,
 m18:=po,
 m19:=po,
 c0:=po,
 c2:=po,
 c3:=po,
 c4:=po,
 c5:=po,
 c9:=po,
 c20:=po,
 c21:=po,
 c37:=po,
 c46:=po,
 c51:=po,
 c53:=po,
 c75:=po,
 c76:=po,
 c80:=po,
 c85:=po,
 c127:=po,
 c143:=po,
 c145:=po,
 c167:=po,
 c168:=po,
 c171:=po,
 c173:=po,
 c175:=po,
 c210:=po,
 c212:=po,
 c213:=po,
 c232:=po,
 c233:=by kernel_rfl }
def Ra(g:Nat)(h:Hp):Prop:=∃ev,hc h ⟨g,0,Z⟩=M ev/\(ev=.nilIface\/∃te pe,ev=.iface te pe)
theorem sj{l:List UInt8}{v:Int}(h:Lib.atoiAll l=.ok v): -9223372036854775808<=v/\v<=9223372036854775807:=by
 unfold Lib.atoiAll at h
 cases l with
 | nil=>cases h
 | cons c r=>
  simp only at h;split at h
  .cases h
  .cases h
  .split at h
   .cases h
   .split at h
    .cases h
    .cases h
     split<;>omega
theorem yW(h:Hp)(s:ByteArray)(hs:s.size<=8000000)(h1:Ra 4 h)(h2:Ra 5 h):
  Zc av T 64 #[.string s] h fun v' h'=>(∃n e,v'=.tuple [U D n,e].toArray/\(-9223372036854775808<=n/\n<=9223372036854775807)/\∀m,Lib.atoiAll s.data.toList=.ok m->n=m)/\Zf h.size h h':=by
 obtain⟨v1,a1,b1⟩:=h1;obtain⟨v2,a2,b2⟩:=h2;refine Zc.SL fun w V1=>?_;have yo:∀a,w.cell? a=hc w.heap a:=fun a=>rfl;rcases q:Lib.atoiAll s.data.toList with v|_|_
 .refine (Any.strconv_Atoi_ok sf s gX v q w).mono ?_;rintro e w' ⟨rfl,hw⟩;have bw:Go.RowKit.Below w.heap.size w w':=by
   rcases hw with rfl|⟨t,rfl⟩
   .exact Go.RowKit.Below.refl _ _
   .exact Lib.bytesWorld_below w _ t
  refine⟨_,rfl,bw.tape,bw.os,bw.output,⟨v,_,rfl,sj q,fun m e=>by cases e;rfl⟩,?_⟩;rw[<-V1.heap];exact⟨bw.size,fun b hb=>bw.block b hb⟩
 .refine (Any.strconv_Atoi_syntax sf s gX q v1 w (by rw[yo,V1.heap];exact a1) b1).mono ?_;rintro e w' ⟨N,rfl,_,_,bw⟩;refine⟨_,rfl,bw.tape,bw.os,bw.output,⟨0,_,rfl,MZ,fun m e=>by cases e⟩,?_⟩;rw[<-V1.heap];exact⟨bw.size,fun b hb=>bw.block b hb⟩
 .refine (Any.strconv_Atoi_range sf s gX q v2 w (by rw[yo,V1.heap];exact a2) b2).mono ?_;rintro e w' ⟨N,rfl,_,_,bw⟩;refine⟨_,rfl,bw.tape,bw.os,bw.output,⟨Lib.atoiSat s.data.toList,_,rfl,?_,fun m e=>by cases e⟩,?_⟩
  .unfold Lib.atoiSat;split<;>decide
  rw[<-V1.heap];exact⟨bw.size,fun b hb=>bw.block b hb⟩
def sq:Go.Shelf.Ren:=⟨fun|171=>59|243=>86|246=>111|283=>141|284=>142|285=>143|286=>144|129=>178|317=>177|318=>179|319=>180|320=>181|337=>201|338=>202|n=>n,fun|3=>3|9=>9|2=>2|4=>4|171=>238|0=>0|53=>239|37=>39|5=>5|173=>242|212=>284|51=>207|20=>20|213=>285|46=>127|232=>313|233=>205|n=>n,fun|17=>6|18=>9|19=>10|n=>n⟩
theorem Ziv:LaysM.n171 av sq:={
 mixed:=po,
 f129:=Tryz.func178.trans (congrArg M po),
 f171:=Tryz.func59.trans (congrArg M po),
 f243:=Tryz.func86.trans (congrArg M po),
 f246:=Tryz.func111.trans (congrArg M po),
 f283:=Tryz.func141.trans (congrArg M po),
 f284:=Tryz.func142.trans (congrArg M po),
 f285:=Tryz.func143.trans (congrArg M po),
 f286:=Tryz.func144.trans (congrArg M po),
 f317:=Tryz.func177.trans (congrArg M po),
 f318:=Tryz.func179.trans (congrArg M po),
 f319:=Tryz.func180.trans (congrArg M po),
 f320:=Tryz.func181.trans (congrArg M po),
 f337:=Tryz.func201.trans (congrArg M po),
 f338:=Tryz.func202.trans (congrArg M po),
 t0:=cq,
 a0:=ep,
 z0:=d9,
 v0:=cz,
 t2:=em,
 a2:=Tryz.isAgg2,
 z2:=Tryz.sizeOf2,
 v2:=et,
 t3:=bk,
 a3:=cg,
 z3:=bT,
 v3:=br,
 t4:=bG,
 a4:=cS,
 z4:=cu,
 v4:=bP,
 t5:=bE,
 a5:=cP,
 z5:=ct,
 v5:=bK,
 t9:=bh,
 a9:=ch,
 z9:=bV,
 v9:=bz,
 t20:=eb,
 a20:=Tryz.isAgg20,
 z20:=eT,
 v20:=en,
 t37:=co,
 a37:=Tryz.isAgg39,
 z37:=eU,
 v37:=eo,
 t46:=ca,
 a46:=dr,
 z46:=cT,
 v46:=ck,
 t51:=cc,
 a51:=ds,
 z51:=c6,
 v51:=cn,
 t53:=du,
 a53:=eV,
 z53:=eC,
 v53:=ec,
 t171:=dx,
 a171:=eX,
 z171:=eD,
 v171:=ed,
 t173:=dE,
 a173:=eZ,
 z173:=eE,
 v173:=ef,
 t212:=dF,
 a212:=e0,
 z212:=eF,
 v212:=eg,
 t213:=dL,
 a213:=fa,
 z213:=eG,
 t232:=dT,
 a232:=fb,
 z232:=eM,
 v232:=ei,
 t233:=dZ,
 a233:=fg,
 z233:=eN,
 v233:=ej,
 g17:=po,
 g18:=po,
 g19:=po,
 i0:=po,
 i2:=po,
 i3:=po,
 i4:=po,
 i5:=po,
 i9:=po,
 i20:=po,
 i37:=po,
 i46:=po,
 i51:=po,
 i53:=po,
 i171:=po,
 i173:=po,
 i212:=po,
 i232:=po,
 i233:=po,
 m17:=po,
 m18:=po,
 m19:=by kernel_rfl }
def Tv(h:Hp):Prop:=∃e fr,h[(6:Nat)]? = M (Y (Lib.pow10Tab.map fun z=>Value.int .u64 z).toArray e fr)
theorem yX(h:Hp)(n:Int)(h0 : -9223372036854775808<=n)(h1:n<=9223372036854775807)(tab:Tv h):
  Zc av T 59 #[U D n] h fun v h'=>v=.string ⟨(Lib.itoa n).toArray⟩/\Zf h.size h h':=by
 refine Zc.SL fun w hs=>?_;have ht:Lib.TabIs av w "internal/strconv.uint64pow10" .u64 Lib.pow10Tab:=by
  obtain⟨e,fr,ht⟩:=tab;show (Tryz.prog.globalNamed "internal/strconv.uint64pow10").bind _=_
  rw[show Tryz.prog.globalNamed "internal/strconv.uint64pow10" = M 6 by kernel_rfl]
  simp only[Option.bind_some,hs.heap,ht]
 refine (Any.strconv_Itoa Ziv n h0 h1 w ht).mono ?_;rintro e w' ⟨rfl,k,os,rfl⟩;refine⟨_,rfl,rfl,rfl,rfl,rfl,?_⟩;have hh:(Go.Sort.grow (w.drewN k) os).heap=h++os:=by rw[<-hs.heap];rfl
 rw[hh];exact Zf.app os (be _)
@[go_sem] theorem ZDG:tkp av 90=true:=po
theorem gj:Extern.findNext Tryz.f85=Z/\Extern.find Tryz.f85=M Extern.AbiNoEscape.same:=⟨po,po⟩
theorem Ziw:liesAt av Tryz.prog.depth 92 (2/Tryz.prog.cellsOf 92) 0 92 1=true:=po
theorem yZ:Tryz.prog.cellsOf 5=1:=po
theorem Ue.set{b:Nat}(o:Obj):Ue (M b) h (h.setIfInBounds b o):=⟨Dq,fun k hk Ys=>by rw[a8,if_neg (fun e=>Ys (by rw[e]))]⟩
theorem D5{P:Program}{x:am}{Q:am->Hp->Prop}:hw P (Extern.AbiNoEscape.same #[x]) Q h=Q x h:=rfl
theorem ET(h:Hp)(b:Nat)(p:Option Addr)(v:am)(hp:p=Z\/p=M ⟨b,0,Z⟩)(hb:h[b]? = M (Y [.pointer p,v].toArray 92)):
  Zc av T 58 #[ao (M ⟨b,0,Z⟩)] h fun v' h'=>h'[b]? = M (Y [ao (M ⟨b,0,Z⟩),v].toArray 92)/\h'.size=h.size/\Ue (M b) h h':=by
 refine Zc.Y8 [_] Tryz.func58 ?_;have x0:hc h ⟨b,0,Z⟩=M (.pointer p):=by rw[Zg hb];rfl
 have H7:XN h b=M (92,2):=by unfold XN;rw[hb];rfl
 rcases hp with rfl|rfl
 .simp +contextual -implicitDefEqProofs only[go_sem,x0];refine Ih cp d0 ZcB MZ H7 (show 0<2 by decide) ?_;simp +contextual -implicitDefEqProofs only[go_sem,x0];refine OV Tryz.func85 MZ rfl gj.1 gj.2 ?_;rw[D5];simp +contextual -implicitDefEqProofs only[go_sem,x0];refine Md d0 cp ZcB H7 Ziw ?_;have ws:=Ye hb 0 (ao (M ⟨b,0,Z⟩));simp +contextual -implicitDefEqProofs only[go_sem,x0,ws];exact⟨by simp[Za hb],Ue.set _⟩
 .simp +contextual -implicitDefEqProofs only[go_sem,x0];refine Ek cp ZcB ?_;simp +contextual -implicitDefEqProofs only[go_sem,x0];exact⟨hb,Ue.refl⟩
structure dd(b:Nat)(v:am)(h:Hp)(l:List Nat):Prop where
 ZQ:∃p,(p=Z\/p=M ⟨b,0,Z⟩)/\h[b]? = M (Y [.pointer p,v].toArray 92)
 Zy:Yd (b+1) 5 h v l
structure Kept(b:Nat)(x:Option Nat)(h h':Hp):Prop where
 size:h.size<=h'.size
 block:∀k,k<h.size->k≠b->x≠M k->h'[k]? = h[k]?
theorem Jr(h:Hp)(b:Nat)(v:am)(l k:List Nat)(bl:dd b v h l)(hk:∀x∈k,x<256)(YB:(O l)+(O k)<=140737488355328):
  Zc av T 33 #[ao (M ⟨b,0,Z⟩),.string ⟨(k.map UInt8.ofNat).toArray⟩] h fun v' h'=>∃w,dd b w h' (l++k)/\Kept b (ZJ v) h h'/\(∀x,ZJ w=M x->ZJ v=M x\/h.size<=x):=by
 obtain⟨⟨p,hp,hb⟩,Zy⟩:=bl;have Ys:ZJ v≠M b:=fun e=>by have:=Zy.Zy.ZQ b e;omega
 have Dn:=Za hb;refine Zc.Y8 [_,_] Tryz.func33 ?_;simp +contextual -implicitDefEqProofs only[go_sem];refine (ET T h b p v hp hb).use ?_;rintro _ h1 ⟨KP,yv,c1⟩;have ZqY:Yd (b+1) 5 h1 v l:=Zy.SA c1 (fun x hx e=>Ys (by rw[hx,<-e]));have x1:hc h1 ⟨b,1,Z⟩=M v:=by rw[Zg KP];rfl
 simp +contextual -implicitDefEqProofs only[go_sem,x1];refine aR (E:=5) YN bh WS VC VB ZqY (by rw[yv];omega) hk YB ?_;intro v2 h2 yM Mq LZ H5;obtain⟨p2,c2,rfl,_⟩:=yM.open;have KA:h2[b]? = M (Y [ao (M ⟨b,0,Z⟩),v].toArray 92):=(LZ.block b (by rw[yv];exact Dn) Ys).trans KP;have ws:=Ye KA 1 (aa p2 (l++k).length c2);simp +contextual -implicitDefEqProofs only[go_sem,ws];have rG:ZJ (aa p2 (l++k).length c2)≠M b:=fun e=>by
  rcases H5 b e with h3|h3
  .exact Ys h3
  .omega
 refine⟨_,⟨⟨_,.inr rfl,by rw[a8,if_pos rfl,if_pos (Za KA)]⟩,yM.SA (Ue.set _) (fun x hx e=>rG (by rw[hx,<-e]))⟩,⟨?_,fun j hj h3 h4=>?_⟩,fun x hx=>?_⟩
 .have:=LZ.size;simp;omega
 .rw[a8,if_neg (fun e=>h3 e.symm),LZ.block j gX h4,c1.block j hj (fun e=>h3 (by cases e;rfl))]
 .rcases H5 x hx with h3|h3
  .exact .inl h3
  .exact .inr gX
theorem Mu(h:Hp)(b:Nat)(v:am)(l:List Nat)(bl:dd b v h l)(Ys:l≠[])(hlen:(O l)<=140737488355328):
  Zc av T 35 #[ao (M ⟨b,0,Z⟩)] h fun v' h'=>v'=.string ⟨(l.map UInt8.ofNat).toArray⟩/\Kept b (ZJ v) h h':=by
 obtain⟨⟨p,hp,hb⟩,Zy⟩:=bl;refine Zc.Y8 [_] Tryz.func35 ?_;have x1:hc h ⟨b,1,Z⟩=M v:=by rw[Zg hb];rfl
 obtain⟨p2,c2,rfl,hle⟩:=Zy.open;simp +contextual -implicitDefEqProofs only[go_sem,x1];refine VS.w ((b+1)) [] (.q 0 (.q 1 (.q 2 (.q 3 (.q 5 (.q 6 (.q 7 (.q 8 (.q 9 (.s 4 (.s 10 (.q 11 .nil)))))))))))) mixed po ?_;simp -implicitDefEqProofs only[go_sem,x1];refine El Zy Ys ?_;intro g cap he hg;obtain⟨rfl,_,rfl⟩:p2=M ⟨g,0,Z⟩/\True/\c2=cap:=by
  simp only[Value.slice.injEq]at he;exact⟨he.1,trivial,he.2.2⟩
 simp -implicitDefEqProofs only[go_sem,x1];refine Em Zy Ys dw yZ hlen ?_;intro h' SA;have mP:ZJ (aa (M ⟨g,0,Z⟩) (O l) c2)=M g:=by
  have:c2≠0:=by
   have h6:(O l)≠0:=by simpa using Ys
   omega
  simp[ZJ,this]
 have Yb:Zf (b+1) h h':=SA.Yb (Za hb) (fun x hx=>by cases hx;exact hg);simp -implicitDefEqProofs only[go_sem,x1,mP];exact⟨Yb,SA.size,fun k hk _ hx=>SA.block k hk hx⟩
theorem J9{P:Program}{T:World}{K:am->Hp->Prop}{f:FuncId}{x:am}{l:List am}(hg:goes P f=true)(H:Zc P T f (x :: l).toArray h K):OC P T (.func (.func f) #[x] #[]) l K h:=by
 simp only[OC,hg,↓reduceIte]
 simpa using H
theorem Bl{P:Program}{K:am->Hp->Prop}{t:TypeId}{x y:Operand}{u v:List UInt8}(hl:(O u)+(O v)<=9223372036854775807)(H:K (.string ⟨(u++v).toArray⟩) h):Y1 P .add t x y (.string ⟨u.toArray⟩) (.string ⟨v.toArray⟩) K h:=by
 have e:((⟨u.toArray⟩:ByteArray)++(⟨v.toArray⟩:ByteArray))=⟨(u++v).toArray⟩:=by
  apply ByteArray.ext;simp
 have hs:¬(((⟨u.toArray⟩:ByteArray).size+(⟨v.toArray⟩:ByteArray).size:Nat):Int)>IntKind.i64.max:=by
  have Eb:IntKind.i64.max=9223372036854775807:=rfl;rw[Eb];simp only[ByteArray.size,List.size_toArray];omega
 unfold Y1;rw[Ze];show hw P (Op.stringOp .add ⟨u.toArray⟩ ⟨v.toArray⟩) K h;unfold Op.stringOp;simp only[if_neg hs,e];exact H
def QS(x:Nat):Nat:=if x<10 then 48+x else 87+x
theorem Fl{K:am->Hp->Prop}{s:ByteArray}{k:IntKind}{A:Int}{a:Nat}{o:Option Nat}(hA:A=a)(ho:o=M (a+1))(H:K (.string (s.extract a (a+1))) h):MP s (M (.int k A)) o K h:=by
 subst hA;subst ho;have e:sb (M (.int k (a:Int))) 0 (a+1)=M a:=by
  simp only[sb];rw[if_pos gX];simp
 show (match sb (M (.int k (a:Int))) 0 (a+1) with|some l=>K (.string (s.extract l (a+1))) h|none=>False);rw[e];exact H
theorem Bm(x:Nat):Xw .u8 (x:Int) 4=((x/16:Nat):Int):=by
 show (x:Int).fdiv 16=_;rw[Int.fdiv_eq_ediv_of_nonneg _ gX];omega
theorem sr:∀a,a<16->(⟨#[48,49,50,51,52,53,54,55,56,57,97,98,99,100,101,102]⟩:ByteArray).extract a (a+1)=⟨([QS a].map UInt8.ofNat).toArray⟩:=by
 intro a ha;apply ByteArray.ext;rw[ByteArray.data_extract];have h9:∀a,a<16->(#[48,49,50,51,52,53,54,55,56,57,97,98,99,100,101,102]:Array UInt8).extract a (a+1)=([QS a].map UInt8.ofNat).toArray:=MZ;exact h9 a ha
theorem Ls:∀x:Nat,x<256->Ym .and .u8 (x:Int) 15=((x%16:Nat):Int):=MZ
theorem IX:goes av 33=true:=po
theorem RS{k:Int}:∀x∈ZH k,x.2<=1048576:=by
 intro x hx;unfold ZH at hx
 repeat' split at hx
 all_goals simp at hx
 all_goals rcases hx with rfl|rfl<;>simp
def Tw:List (List Nat):=[[],[115,117,98,109,105,116],[108,101,97,100],[115,116,101,112],[99,97,114,114,121],[108,111,115,101],[100,111,117,98,108,101],[97,108,108],[99,114,97,115,104],[115,116,97,114,116]]
def YF(k:Int):List Nat:=Tw.getD k.toNat []
def Pj(l:List Nat):am:=.string ⟨(l.map UInt8.ofNat).toArray⟩
def Words(h:Hp):Prop:=(1:Nat)<h.size/\∀k,k<10->hc h ⟨1,k,Z⟩=M (Pj (Tw.getD k []))
def Uy(n:Int):List Nat:=(Lib.itoa n).map UInt8.toNat
def WL(k n a b:Int)(xs:List (Nat × Int)):List Nat:=(xs.map fun x=>32 :: Uy (YV k n a b x.1)).flatten
def Uk(d:List Nat):List Nat:=(d.map fun x=>[QS (x/16),QS (x%16)]).flatten
def Rb(k n a b:Int)(d:List Nat):List Nat:=YF k++WL k n a b (ZH k)++(if k=1 then 32 :: Uk d else [])++[10]
theorem Mv{k n a b:Int}:∀(xs:List (Nat × Int)),(∀x∈xs,Qo k n a b x/\x.2<=1048576)->(WL k n a b xs).length<=22*(O xs):=by
 intro xs
 induction xs with
 | nil=>intro _;simp[WL]
 | cons x xs ih=>
  intro hx;have h1:=ih (fun y hy=>hx y (List.mem_cons_of_mem _ hy));have h2:=hx x (List.mem_cons_self ..);unfold Qo at h2;have h3:=Lib.itoa_length_le (YV k n a b x.1) gX gX;have e:WL k n a b (x :: xs)=(32 :: Uy (YV k n a b x.1))++WL k n a b xs:=by simp[WL]
  rw[e,al,ay,ay];unfold Uy;rw[bL];omega
theorem df{k n a b:Int}(xs:List (Nat × Int))(x:Nat × Int):WL k n a b (xs++[x])=WL k n a b xs++(32 :: Uy (YV k n a b x.1)):=by simp[WL]
theorem Fm(v:Int):∀x∈32 :: Uy v,x<256:=by
 intro x hx;rcases List.mem_cons.1 hx with rfl|hx
 .omega
 .unfold Uy at hx;obtain⟨y,_,rfl⟩:=List.mem_map.1 hx;exact y.toNat_lt
theorem Kept.Yb{b B:Nat}{x:Option Nat}(k:Kept b x h h')(h1:B<=h.size)(h2:B<=b)(h3:∀y,x=M y->B<=y):Zf B h h':=
 ⟨k.size,fun j hj=>k.block j gX gX (fun e=>by have:=h3 _ e;omega)⟩
theorem dd.low{b:Nat}{l:List Nat}(s:dd b v h l):∀y,ZJ v=M y->b+1<=y:=s.Zy.Zy.ZQ
theorem dd.lt{b:Nat}{l:List Nat}(s:dd b v h l):b<h.size:=by
 obtain⟨⟨q,hq,hb⟩,o⟩:=s;exact Za hb
theorem gm(h:Hp)(k n a b:Int)(p:Option Addr)(c:Nat)(d:List Nat)(hk:1<=k/\k<=9)(s:Bs h (aa p (O d) c) d)(hd:(O d)<=2000)(IY:∀x∈ZH k,Qo k n a b x)(tw:Words h)(tp:Tv h):
  Zc av T 34 #[bf (YA k n a b (aa p (O d) c)).toArray] h fun v' h'=>v'=Pj (Rb k n a b d)/\Zf h.size h h':=by
 refine Zc.Y8 [_] Tryz.func34 ?_;have hk0:(0:Int)<=k/\k<10:=gX;obtain⟨wl,hwl⟩:=ZD (YF k);have hw:hc h ⟨1,k.toNat,Z⟩=M (.string ⟨(wl.map UInt8.ofNat).toArray⟩):=by rw[hwl];exact tw.2 k.toNat gX
 have Gs:∀x∈wl,x<256:=by
  rw[hwl];unfold YF;have:k.toNat<10:=gX;have h9:∀j,j<10->∀x∈Tw.getD j [],x<256:=MZ;exact h9 _ this
 have hwn:(O wl)<=6:=by
  rw[hwl];unfold YF;have:k.toNat<10:=gX;have h9:∀j,j<10->(Tw.getD j []).length<=6:=MZ;exact h9 _ this
 have Pd:=tw.1;unfold YA;simp +contextual -implicitDefEqProofs only[go_sem,hk0,hw];obtain⟨G,hG⟩:=ZD ((h.push (Y [U D k,U D n,U D a,U D b,aa p (O d) c].toArray 41)).push (Y [ao Z,aa Z 0 0].toArray 92));rw[<-hG];have gs:G.size=h.size+2:=by rw[hG];simp
 have g0:G[h.size]? = M (Y (YA k n a b (aa p (O d) c)).toArray 41):=by rw[hG,Zl Dq,Zb];rfl
 have g1:dd (h.size+1) (aa Z 0 0) G []:=by
  refine⟨⟨Z,.inl rfl,?_⟩,⟨Own.nil _ _ _ _,fun x hx=>by cases hx⟩⟩;rw[hG,show h.size+1=(h.push (Y [U D k,U D n,U D a,U D b,aa p (O d) c].toArray 41)).size by simp,Zb]
 have gb:Zf h.size h G:=by rw[hG];exact ((Zf.refl _ _).add _).add _
 refine J9 IX ?_;refine (Jr T G _ _ [] wl g1 Gs L6).use ?_;rintro _ h1 ⟨w1,bl1,kp1,gw1⟩;rw[eu]at bl1;have kz:=kp1.size;have k0:h1[h.size]? = M (Y (YA k n a b (aa p (O d) c)).toArray 41):=(kp1.block _ gX gX (by simp[ZJ])).trans g0;have Zq1:Zf h.size h h1:=⟨gX,fun j hj=>(kp1.block j gX gX (by simp[ZJ])).trans (gb.block j hj)⟩
 have lw1:∀x,ZJ w1=M x->h.size+2<=x/\x<h1.size:=fun x hx=>⟨bl1.Zy.Zy.ZQ x hx,bl1.Zy.Zy.lt x hx⟩
 simp +contextual -implicitDefEqProofs only[go_sem];refine (SN T h1 h.size k n a b (aa p (O d) c) k0).use ?_;rintro _ h2 ⟨wn,rfl,Zq2,b2⟩;obtain⟨pw,cw,rfl,YR⟩:=JD.ZaW (enc:=QJ h.size) (n:=2) (fun _=>rfl) MZ Zq2;have bl2:dd (h.size+1) w1 h2 wl:=by
  obtain⟨⟨q,hq,hb⟩,o⟩:=bl1;exact⟨⟨q,hq,b2.get (Za hb) hb⟩,o.Yb b2 (be _)⟩
 have k2:=b2.get (Za k0) k0;have Mq:Zf h.size h h2:=Zq1.trans (b2.mono gX);have hlen:=Mg k;have PV:decide (1<=k/\k<=9)=true:=by simpa using hk
 simp +contextual -implicitDefEqProofs only[go_sem,PV];refine VS.Z9 (fun F g=>Kept (h.size+1) (ZJ w1) h2 g/\F 1=ao (M ⟨h.size,0,Z⟩)/\F 3=ao (M ⟨h.size+1,0,Z⟩)/\F 4=.func (.func 33) #[ao (M ⟨h.size+1,0,Z⟩)] #[]/\F 22=aa pw (ZH k).length cw/\F 23=U D (ZH k).length/\∃i:Nat,i<=(ZH k).length/\F 24=U D i/\∃w,(∀x,ZJ w=M x->ZJ w1=M x\/h2.size<=x)/\dd (h.size+1) w g (wl++WL k n a b ((ZH k).take i)))
  (fun F _=>(ZH k).length-(vi (F 24)).toNat) rfl ⟨⟨be _,fun _ _ _ _=>rfl⟩,rfl,rfl,rfl,rfl,rfl,0,gX,rfl,w1,fun x hx=>.inl hx,by simpa [WL] using bl2⟩ ?_
 rintro F g ⟨kp,f1,f3,f4,f22,f23,i,hi,f24,w,hwx,bl⟩;have kgs:=kp.size;by_cases ZL:i<(ZH k).length
 .have ZW:(i:Int)<(ZH k).length:=gX;obtain⟨bb,oo,rfl,OJ,U9,YR⟩:=YR (by intro e;rw[e]at ZL;simp at ZL);have hx:=bn ZL;have xu:=UQ _ hx;have r1:=(YR i ZL).rd (by simp[QJ]) (m:=2) rfl;obtain⟨x,jj⟩:=ZD ((ZH k)[i]);rw[<-jj]at hx xu r1;have r2:rd g ⟨bb,oo+i*2,Z⟩ 2=M (QJ h.size x):=by
   rw[<-r1];unfold rd;rw[kp.block bb U9 gX (fun e=>by have:=lw1 _ e;omega)]
  have v1:hc g ⟨h.size,x.1,Z⟩=M (U D (YV k n a b x.1)):=by
   rw[Zg ((kp.block _ (Za k2) gX (fun e=>by have:=lw1 _ e;omega)).trans k2),Is _ _ _ _ _ _ xu.1]
  unfold QJ at r2;have hv:=IY x hx;unfold Qo at hv;have PA:=RS _ hx;have tpg:∀o,Tv (g.push o):=fun o=>by
   obtain⟨e,fr,ht⟩:=tp;have hgt:=Za ht;refine⟨e,fr,?_⟩;rw[Zl (by have:=Mq.size;omega),kp.block _ (by have:=Mq.size;omega) gX (fun e=>by have:=lw1 _ e;omega),Mq.block _ hgt,ht]
  simp +contextual -implicitDefEqProofs only[go_sem,f1,f4,f22,f23,f24,ZW,r2,v1];refine (yX T _ _ gX gX (tpg _)).use ?_;rintro _ h3 ⟨rfl,b3⟩;have Bb:=Lib.itoa_length_le (YV k n a b x.1) gX gX;simp +contextual -implicitDefEqProofs only[go_sem];refine Bl (u:=[32]) (v:=Lib.itoa (YV k n a b x.1)) L6 ?_;have e32:([32]++Lib.itoa (YV k n a b x.1))=(32 :: Uy (YV k n a b x.1)).map UInt8.ofNat:=by
   unfold Uy;simp[List.map_map,Function.comp_def]
  rw[e32];simp +contextual -implicitDefEqProofs only[go_sem,f4];refine J9 IX ?_;have gz:=b3.size;have bl3:dd (h.size+1) w h3 (wl++WL k n a b ((ZH k).take i)):=by
   obtain⟨⟨q,hq,hb⟩,o⟩:=bl;have mP:=Za hb;exact⟨⟨q,hq,b3.get L6 (by rw[Zl mP];exact hb)⟩,(o.push _).Yb b3 (be _)⟩
  refine (Jr T h3 _ _ _ (32 :: Uy (YV k n a b x.1)) bl3 ?_ ?_).use ?_
  .exact Fm _
  .have hn:=Mv (k:=k) (n:=n) (a:=a) (b:=b) ((ZH k).take i) (fun y hy=>⟨IY y (dc hy),RS y (dc hy)⟩);rw[al,ay];unfold Uy;rw[bL];rw[aI]at hn;omega
  rintro _ h4 ⟨w4,bl4,kp4,gw4⟩;have gz4:=kp4.size;simp +contextual -implicitDefEqProofs only[go_sem,f1,f3,f4,f22,f23,f24];refine⟨⟨⟨by simp at gz;omega,fun j hj h5 h6=>?_⟩,f1,f3,f4,f22,f23,i+1,gX,rfl,w4,fun y hy=>?_,?_⟩,?_⟩
  .have h7:ZJ w≠M j:=fun e=>by
    rcases hwx j e with h8|h8
    .exact h6 h8
    .omega
   simp at gz;rw[kp4.block j gX h5 h7,b3.block j L6,Zl gX,kp.block j hj h5 h6]
  .rcases gw4 y hy with h8|h8
   .exact hwx y h8
   .simp at gz;exact .inr gX
  .rw[Yp _ i ZL,df,<-jj,<-aw];exact bl4
  .simp only[vi,Zk,↓reduceIte,f24];omega
 .have YU:¬(i:Int)<(ZH k).length:=gX;obtain rfl:i=(ZH k).length:=gX;rw[cr]at bl;have y0:hc g ⟨h.size,0,Z⟩=M (U D k):=by
   rw[Zg ((kp.block _ (Za k2) gX (fun e=>by have:=lw1 _ e;omega)).trans k2)];rfl
  have hn:=Mv (k:=k) (n:=n) (a:=a) (b:=b) (ZH k) (fun y hy=>⟨IY y hy,RS y hy⟩);have IZ:Zf h.size h g:=Mq.trans (kp.Yb (by have:=Mq.size;omega) gX (fun y hy=>by have:=lw1 y hy;omega));by_cases k1:k=1
  .have y4:hc g ⟨h.size,4,Z⟩=M (aa p (O d) c):=by
    rw[Zg ((kp.block _ (Za k2) gX (fun e=>by have:=lw1 _ e;omega)).trans k2)];rfl
   simp +contextual -implicitDefEqProofs only[go_sem,f1,f3,f4,f22,f23,f24,YU,y0,k1];refine J9 IX ?_;refine (Jr T _ _ _ _ [32] bl MZ (by simp only[al,ay,bd];omega)).use ?_;rintro _ gA ⟨wA,mR,za,gwA⟩;have I0:Zf h.size h gA:=IZ.trans (za.Yb (by have:=IZ.size;omega) gX (fun y hy=>by have:=bl.low y hy;omega));have y4A:hc gA ⟨h.size,4,Z⟩=M (aa p (O d) c):=by
    have kk:gA[h.size]? = g[h.size]?:=za.block _ (by have:=bl.lt;omega) gX (fun e=>by have:=bl.low _ e;omega);unfold hc at y4 ⊢;simp only[kk];exact y4
   simp +contextual -implicitDefEqProofs only[go_sem,f1,y4A];obtain⟨pre,Zdy⟩:=ZD (wl++WL k n a b (ZH k)++[32]);rw[<-Zdy]at mR;have Zxm:(O pre)<=100:=by rw[Zdy];simp only[al,ay,bd];omega
   have hdb:=s.byte;refine VS.Z9 (fun F g=>Zf h.size h g/\F 3=ao (M ⟨h.size+1,0,Z⟩)/\F 4=.func (.func 33) #[ao (M ⟨h.size+1,0,Z⟩)] #[]/\F 43=aa p (O d) c/\F 44=U D (O d)/\∃i:Nat,i<=(O d)/\F 45=U D i/\∃w,dd (h.size+1) w g (pre++Uk (d.take i)))
    (fun F _=>(O d)-(vi (F 45)).toNat) rfl ⟨I0,f3,f4,rfl,rfl,0,gX,rfl,wA,by simpa [Uk] using mR⟩ ?_
   clear y4 y4A I0 mR za gwA wA gA YU f1 f3 f4 f22 f23 f24 y0 bl IZ kp kgs hwx hi w;rintro F g ⟨IZ,f3,f4,f43,f44,i,hi,f45,w,bl⟩;have hhl:∀l:List Nat,(Uk l).length=2*(O l):=by
    intro l;induction l with
    | nil=>rfl
    | cons y l ih=>
     have e:Uk (y :: l)=[QS (y/16),QS (y%16)]++Uk l:=by simp[Uk]
     rw[e,al,ih];simp only[ay,bd];omega
   by_cases ZL:i<(O d)
   .have ZW:(i:Int)<(O d):=gX;have sg:=s.Yb IZ;have r1:∃bb oo,p=M ⟨bb,oo,Z⟩/\hc g ⟨bb,oo+i,Z⟩=M (bv (d.getD i 0)):=by
     obtain⟨p',c',hv,YR⟩:=sg.UM;simp only[Value.slice.injEq]at hv;obtain⟨rfl,_,_⟩:=hv;obtain⟨bb,oo,hp,_,YR⟩:=YR (by intro e;rw[e]at ZL;simp at ZL);exact⟨bb,oo,hp,YR i ZL⟩
    obtain⟨bb,oo,rfl,r1⟩:=r1;have hx:d.getD i 0<256:=by
     rw[bg,bc ZL];exact hdb _ (bn ZL)
    obtain⟨x,jj⟩:=ZD (d.getD i 0);rw[<-jj]at r1 hx;unfold bv at r1;have x1:x/16<16:=gX;have x2:x%16<16:=gX;have hhi:=hhl (d.take i);rw[aI]at hhi;simp +contextual -implicitDefEqProofs only[go_sem,f4,f43,f44,f45,ZW,r1];refine Fl (Bm x) (by rw[Bm,if_pos ⟨gX,L6⟩];congr 1;omega) ?_;rw[sr _ x1];simp +contextual -implicitDefEqProofs only[go_sem,f4,f43,f44,f45];refine J9 IX ?_;refine (Jr T _ _ _ _ [QS (x/16)] bl ?_ (by simp only[al,ay,bd];omega)).use ?_
    .intro y hy;simp only[d1]at hy;subst hy;unfold QS;split<;>omega
    rintro _ gA ⟨wA,mR,za,gwA⟩;have I0:Zf h.size h gA:=IZ.trans (za.Yb (by have:=IZ.size;omega) gX (fun y hy=>by have:=bl.low y hy;omega));simp +contextual -implicitDefEqProofs only[go_sem,f3,f4,f43,f44,f45];refine Fl (Ls x hx) (by rw[Ls x hx,if_pos ⟨gX,L6⟩];congr 1;omega) ?_;rw[sr _ x2];simp +contextual -implicitDefEqProofs only[go_sem,f4,f43,f44,f45];refine J9 IX ?_;refine (Jr T _ _ _ _ [QS (x%16)] mR ?_ (by simp only[al,ay,bd];omega)).use ?_
    .intro y hy;simp only[d1]at hy;subst hy;unfold QS;split<;>omega
    rintro _ gB ⟨wB,blB,kpB,gwB⟩;have Zq4:Zf h.size h gB:=I0.trans (kpB.Yb (by have:=I0.size;omega) gX (fun y hy=>by have:=mR.low y hy;omega));simp +contextual -implicitDefEqProofs only[go_sem,f3,f4,f43,f44,f45];refine⟨⟨Zq4,f3,f4,f43,f44,i+1,gX,rfl,wB,?_⟩,?_⟩
    .have e:Uk (d.take (i+1))=Uk (d.take i)++[QS (x/16)]++[QS (x%16)]:=by
      rw[Yp _ i ZL];have e2:d[i]=x:=by rw[jj,bg,bc ZL];rfl
      rw[e2];simp[Uk]
     rw[e,<-aw,<-aw];exact blB
    .simp only[vi,Zk,↓reduceIte,f45];omega
   .have YU:¬(i:Int)<(O d):=gX;obtain rfl:i=(O d):=gX;rw[cr]at bl;have hh:=hhl d;simp +contextual -implicitDefEqProofs only[go_sem,f3,f4,f43,f44,f45,YU];refine J9 IX ?_;refine (Jr T _ _ _ _ [10] bl MZ (by simp only[al,ay,bd];omega)).use ?_;rintro _ gA ⟨wA,mR,za,gwA⟩;simp +contextual -implicitDefEqProofs only[go_sem,f3];refine (Mu T gA _ _ _ mR Dq (by simp only[al,ay,bd];omega)).use ?_;rintro _ gB ⟨rfl,kpB⟩;simp +contextual -implicitDefEqProofs only[go_sem];have I0:Zf h.size h gA:=IZ.trans (za.Yb (by have:=IZ.size;omega) gX (fun y hy=>by have:=bl.low y hy;omega));refine⟨?_,I0.trans (kpB.Yb (by have:=I0.size;omega) gX (fun y hy=>by have:=mR.low y hy;omega))⟩;rw[Zdy,hwl,k1];simp[Rb,Pj]
  .simp +contextual -implicitDefEqProofs only[go_sem,f1,f3,f4,f22,f23,f24,YU,y0,k1];refine J9 IX ?_;refine (Jr T _ _ _ _ [10] bl MZ (by simp only[al,ay,bd];omega)).use ?_;rintro _ gA ⟨wA,mR,za,gwA⟩;simp +contextual -implicitDefEqProofs only[go_sem,f3];refine (Mu T gA _ _ _ mR Dq (by simp only[al,ay,bd];omega)).use ?_;rintro _ gB ⟨rfl,kpB⟩;simp +contextual -implicitDefEqProofs only[go_sem];have I0:Zf h.size h gA:=IZ.trans (za.Yb (by have:=IZ.size;omega) gX (fun y hy=>by have:=bl.low y hy;omega));refine⟨?_,I0.trans (kpB.Yb (by have:=I0.size;omega) gX (fun y hy=>by have:=mR.low y hy;omega))⟩;rw[hwl];simp[Rb,Pj,k1]
def pbE(x y:Nat):Int:=Ym .or D (YS D (Lib.indexByte [48,49,50,51,52,53,54,55,56,57,97,98,99,100,101,102] x.toUInt8) 4) (Ym .and D (Lib.indexByte [48,49,50,51,52,53,54,55,56,57,97,98,99,100,101,102] y.toUInt8) 15)
def mS(x y:Nat):Nat:=(pbE x y%256).toNat
theorem Zdz(x y:Nat):pbE x y%256=((mS x y:Nat):Int):=by unfold mS;omega
theorem ZdA(x y:Nat):mS x y<256:=by unfold mS;omega
theorem zb{r:ByteArray}(hr:2<=r.size)(K:am->Hp->Prop)(h:Hp):MP r (M (U D 2)) (M r.size) K h=K (.string (r.extract 2 r.size)) h:=by
 have e:V.sb (M (U D 2)) 0 r.size=M 2:=by
  simp only[V.sb];rw[if_pos gX];simp
 unfold MP;simp only[e]
def szV:am->Nat
 | .string r=>r.size
 | _=>0
def Q8:List Nat->List Nat
 | x :: y :: l=>mS x y :: Q8 l
 | _=>[]
theorem kv{r:ByteArray}(hr:2<=r.size):Q8 (bl r)=mS (r.data.toList.getD 0 0).toNat (r.data.toList.getD 1 0).toNat :: Q8 (bl (r.extract 2 r.size)):=by
 have hl:=Oi r;rw[WK,ZbA,ZbA];obtain⟨l,e⟩:=ZD (bl r);rw[<-e]at hl ⊢
 match l,hl with
 | x :: y :: l,hl=>
  simp only[ay]at hl;have:((x :: y :: l).drop 2).take (r.size-2)=l:=by
   simp only[dm,c7];exact cv gX
  rw[this];rfl
 | [x],hl=>simp at hl;omega
 | [],hl=>simp at hl;omega
theorem kw{r:ByteArray}(hr:¬2<=r.size):Q8 (bl r)=[]:=by
 have hl:=Oi r
 match bl r,hl with
 | x :: y :: l,hl=>simp only[ay]at hl;omega
 | [x],hl=>rfl
 | [],hl=>rfl
set_option maxHeartbeats 4000000 in
theorem zc{c:Code}(yo:fAt Tryz.f37 [1,1,1,1,1,1,0,1,0,1,0,0]=M c){N:Env->Hp->Prop}{X:Nat->Env->Hp->Prop}{R:Env->Hp->Prop}{F:Env}{g':Hp}{A B:Nat}{n a e:Int}{W2:ByteArray}(f2:F 2=ao (M ⟨B,0,Z⟩))(f4:F 4=ao (M ⟨A,0,Z⟩))(f11:F 11=.string W2)(y:g'[A]? = M (Y (YA 1 n a e (aa Z 0 0)).toArray 41))(hw:W2.size<=4000000)(H:∀F g dv,F 2=ao (M ⟨B,0,Z⟩)->F 4=ao (M ⟨A,0,Z⟩)->Ue (M A) g' g->g[A]? = M (Y (YA 1 n a e dv).toArray 41)->Yd g'.size 5 g dv (Q8 (bl W2))->X 4 F g):
  VS av Tryz.f37.ntmps T (.loop c) N X R F g':=by
 have oP:M c=M _:=yo.symm.trans (rfl:fAt Tryz.f37 [1,1,1,1,1,1,0,1,0,1,0,0]=M _);obtain rfl:=Option.some.inj oP;clear yo oP;refine VS.Z9 (fun F g=>F 2=ao (M ⟨B,0,Z⟩)/\F 4=ao (M ⟨A,0,Z⟩)/\∃(r:ByteArray) (d:List Nat) (dv:am),r.size<=W2.size/\F 11=.string r/\Ue (M A) g' g /\
   g[A]? = M (Y (YA 1 n a e dv).toArray 41)/\Yd g'.size 5 g dv d/\(O d)*2+r.size<=W2.size/\d++Q8 (bl r)=Q8 (bl W2))
  (fun F _=>szV (F 11)) rfl ⟨f2,f4,W2,[],aa Z 0 0,be _,f11,Ue.refl,y,⟨Own.nil _ _ _ _,fun x hx=>by cases hx⟩,Dq,rfl⟩ ?_
 have hgA:A<g'.size:=Za y;clear f2 f4 f11 y F;rintro F g ⟨f2,f4,r,d,dv,xm,f11,LZ,yA,od,mM,hdp⟩;by_cases hgo:(1:Int)<r.size
 .obtain⟨pd,cd,rfl,hdc⟩:=od.open;have cd4:hc g ⟨A,4,Z⟩=M (aa pd (O d) cd):=Zg yA;have lA2:=Za yA;have i0:(0:Int)<r.size:=gX;simp -implicitDefEqProofs only[go_sem,f11,hgo];refine VS.mono (N:=fun F g=>F 2=ao (M ⟨B,0,Z⟩)/\F 4=ao (M ⟨A,0,Z⟩)/\F 11=.string r/\∃(dv:am),Ue (M A) g' g /\
   g[A]? = M (Y (YA 1 n a e dv).toArray 41)/\Yd g'.size 5 g dv (d++[mS (r.data.toList.getD 0 0).toNat (r.data.toList.getD 1 0).toNat])) ?_ ?_ (fun _ _ _ h=>h) (fun _ _ h=>h)
  .refine VS.z (g.size) [13,15] (.p 0 (.q 1 (.p 2 (.p 3 (.p 6 (.p 7 (.s 4 (.p 5 (.s 8 (.p 9 (.p 10 (.p 11 (.s 12 (.w 13 (.p 14 (.w 15 .nil)))))))))))))))) mixed po ?_;obtain⟨x0,So⟩:∃x,x=(r.data.toList.getD 0 0).toNat:=⟨_,rfl⟩
   obtain⟨x1,QH⟩:∃x,x=(r.data.toList.getD 1 0).toNat:=⟨_,rfl⟩
   have gx0:((r.data.toList.getD (fo 0) 0).toNat:Int)=x0:=by rw[So];rfl
   have gx1:((r.data.toList.getD (fo 1) 0).toNat:Int)=x1:=by rw[QH];rfl
   simp -implicitDefEqProofs only[go_sem,f11,f4,cd4,lA2,i0,hgo];refine (da T g ⟨#[48,49,50,51,52,53,54,55,56,57,97,98,99,100,101,102]⟩ _).use ?_;rintro _ g1 ⟨rfl,WB⟩;rw[WB];clear WB g1;simp -implicitDefEqProofs only[go_sem,f11,f4,cd4,lA2,i0,hgo];refine (da T _ ⟨#[48,49,50,51,52,53,54,55,56,57,97,98,99,100,101,102]⟩ _).use ?_;rintro _ g1 ⟨rfl,WB⟩;rw[WB];clear WB g1;simp -implicitDefEqProofs only[go_sem,f11,f4,cd4,lA2,i0,hgo];have pe:=Zdz (r.data.toList.getD 0 0).toNat (r.data.toList.getD 1 0).toNat;unfold pbE at pe;rw[pe];refine JJ (E:=5) (B:=g'.size) YN co WS VC VB (od.push _) (by have:=LZ.size;simp;omega) (Bs.one (x:=mS _ _) (ZdA _ _) 1) (by simp only[ay,bd];omega) ?_;intro v8 g8 od8 b8 _ _;obtain⟨DL,hDL⟩:=ZD (d++[mS (r.data.toList.getD 0 0).toNat (r.data.toList.getD 1 0).toNat]);rw[<-hDL]at od8 ⊢;obtain⟨p8,c8,rfl,_⟩:=od8.open;have y8:g8[A]? = M (Y (YA 1 n a e (aa pd (O d) cd)).toArray 41):=b8.get hgA (((Zf.refl _ _).add _).get (Za yA) yA);have w8:Jb g8 ⟨A,4,Z⟩ (aa p8 (O DL) c8)=M (g8.setIfInBounds A (Y (YA 1 n a e (aa p8 (O DL) c8)).toArray 41)):=by
    rw[Ye y8 4 _,if_pos ⟨by simp[YA],rfl⟩];rfl
   have zd:Ue (M A) g' (g8.setIfInBounds A (Y (YA 1 n a e (aa p8 (O DL) c8)).toArray 41)):=by
    refine⟨?_,fun b hb Ys=>?_⟩
    .rw[Array.size_setIfInBounds];have:=b8.size;have:=LZ.size;simp only[Array.size_push]at *;omega
    .rw[a8,if_neg (fun e=>Ys (by rw[e])),b8.block b hb,Zl (by have:=LZ.size;omega)];exact LZ.block b hb Ys
   have LW:(g8.setIfInBounds A (Y (YA 1 n a e (aa p8 (O DL) c8)).toArray 41))[A]? = M (Y (YA 1 n a e (aa p8 (O DL) c8)).toArray 41):=by
    rw[a8,if_pos rfl,if_pos (Za y8)]
   have ZiA:Yd g'.size 5 (g8.setIfInBounds A (Y (YA 1 n a e (aa p8 (O DL) c8)).toArray 41)) (aa p8 (O DL) c8) DL:=⟨od8.Zy.Z3 hgA _,od8.byte⟩
   obtain⟨g9,hg9⟩:=ZD (g8.setIfInBounds A (Y (YA 1 n a e (aa p8 (O DL) c8)).toArray 41));rw[<-hg9]at w8 zd LW ZiA;simp -implicitDefEqProofs only[go_sem,f4,w8];exact⟨f2,f11,_,zd,LW,ZiA⟩
  .rintro F g9 ⟨f2,f4,f11,v8,zd,y8,od8⟩;have e2:∀(K:am->Hp->Prop) h,MP r (M (U D 2)) (M r.size) K h=K (.string (r.extract 2 r.size)) h:=zb gX;have rsz:(r.extract 2 r.size).size=r.size-2:=by rw[ByteArray.size_extract];omega
   simp -implicitDefEqProofs only[go_sem,f11,e2];unfold XB;refine⟨⟨f2,f4,r.extract 2 r.size,_,v8,gX,rfl,zd,y8,od8,?_,?_⟩,?_⟩
   .rw[al,List.length_singleton,rsz];omega
   .rw[aw,<-hdp,kv (r:=r) gX];rfl
   .simp only[szV,Z5,Gz,Nat.reduceEqDiff,↓reduceIte,f11];omega
 .rw[kw gX,bR]at hdp;rw[hdp]at od;simp -implicitDefEqProofs only[go_sem,f11,hgo];exact H _ _ dv f2 f4 LZ yA od
deriving instance DecidableEq for Ji
deriving instance DecidableEq for Vt
deriving instance DecidableEq for QA
abbrev Cm:=QA
variable{l:List Cm}
def vm:Cm:=⟨0,0,0,0,0⟩
def QA.C(x:QA):List am:=QR x.k x.c x.s x.n x.v
def QA.err(x:QA):Int:=Y9 x.k x.c x.s x.n x.v
def Vt.cm(v:Vt):Cm:=⟨v.k,v.c,v.s,v.nm,v.v⟩
def Sp(s:Int)(b:Ji)(x:Cm):Vt:=⟨s,b,x.k,x.c,x.s,x.n,x.v⟩
def Qh:Ji:=⟨0,0⟩
structure XR where
 YI:Int
 JU:Int
 to:Int
 b:Ji
 v:Vt
 vs:List Vt
structure Q9 where
 b:Ji
 Yw:List (Int × List Vt)
 Rc:Bool
 Xf:List (Int × Cm)
 JV:List (Int × List (Int × Unit))
inductive mT where
 | EU (a:V0) (to:Int) (b:Ji) (vs:List Vt)
 | EV (a:V0) (to:Int) (v:Vt)
 | Zy (a:V0) (vs:List Vt) (cur:Bool)
structure Nd where
 me:Nat
 up:Bool
 data:List Nat
 XW:Int
 Zy:V0
 YH:Ji
 Zi:Option Q9
 Zp:List (Int × Cm)
 ZP:List Cm
 store:List am
 Zw:List Cm
 Zh:List Cm
 Zt:List XR
 Z8:Option mT
 XK:Int
structure Pk where
 Yf:Int
 c:Int
 s:Int
 code:Int
 val:Int
structure Wd where
 Zm:Nat->Nd
 Zo:List XR
 Yj:Nat->Int
 ZB:List Pk
structure Out where
 n:Nd
 ls:List XR
 ts:List Pk
def XC(n:Nd)(l:XR):Out:=
 if YT n.Zy.p n.Zy.l l.b≠0 then ⟨n,[⟨7,n.me,l.JU,n.Zy.p,S5,[]⟩],[]⟩
 else if n.Zy.p=l.b then ⟨n,[⟨1,n.me,l.JU,l.b,S5,n.Zy.l⟩],[]⟩
 else if Q6 n.data n.XW l.b≠0 then ⟨n,[],[]⟩
 else ⟨{ n with data:=n.data++Xt (Q7 l.b),Z8:=M (.EU ⟨l.b,n.Zy.l⟩ l.JU l.b n.Zy.l) },[],[]⟩
def asked(n:Nd)(l:XR):Out:=
 if Xk n.Zy.p n.Zy.l l.v≠0 then ⟨n,[⟨7,n.me,l.JU,n.Zy.p,S5,[]⟩],[]⟩
 else if l.v∈n.Zy.l then ⟨n,[⟨3,n.me,l.JU,Qh,l.v,[]⟩],[]⟩
 else if U6 n.data n.XW l.v≠0 then ⟨n,[],[]⟩
 else ⟨{ n with data:=n.data++Xt (Ph l.v),Z8:=M (.EV ⟨l.v.b,Ui n.Zy.l l.v⟩ l.JU l.v) },[],[]⟩
def EW(st:List am)(x:Cm):List am:=if Nt st x=0 then (Tu st x).cells else J2
def Oj(st:List am)(x:Cm):Int:=if Nt st x=0 then (Tu st x).code else 0
def I1(st:List am)(x:Cm):Int:=if Nt st x=0 then (Tu st x).val else 0
def VO(n:Nd)(x:Cm):Nd:={ n with ZP:=n.ZP++[x],store:=EW n.store x,Zw:=n.Zw.filter (fun y=>decide (y≠x)),Zh:=n.Zh.erase x }
def T3(n:Nd)(x:Cm):List Pk:=if x∈n.Zh then [⟨n.me,x.c,x.s,Oj n.store x,I1 n.store x⟩] else []
def Xq:Nat->Nd->Nd × List Pk
 | 0,n=>(n,[])
 | k+1,n=>match XD n.Zp n.ZP.length with
  | none=>(n,[])
  | some x=>((Xq k (VO n x)).1,T3 n x++(Xq k (VO n x)).2)
def WM(n:Nd)(s:Int)(x:Cm):Nd:={ n with Zp:=ins n.Zp s x }
def Vu(n:Nd)(s:Int)(x:Cm):Out:=
 ⟨(Xq ((WM n s x).Zp.length+1) (WM n s x)).1,[],(Xq ((WM n s x).Zp.length+1) (WM n s x)).2⟩
def ZdC(n:Nd)(r:Q9)(l:XR):Nd:={ n with Zi:=M { r with Yw:=ins r.Yw l.JU l.vs } }
def Sq(r:Q9)(l:XR):List (Int × Unit):=ins ((XD r.JV l.v.ZA).getD []) l.JU ()
def I3(n:Nd)(r:Q9)(l:XR):Nd:={ n with Zi:=M { r with JV:=ins r.JV l.v.ZA (Sq r l) } }
def Y6(n:Nd)(l:XR):Out:=
 match n.Zi with
 | none=>⟨n,[],[]⟩
 | some r=>
  if l.YI=1 then (if l.b=r.b then ⟨ZdC n r l,[],[]⟩ else ⟨n,[],[]⟩)
  else if l.v.b≠r.b then ⟨n,[],[]⟩
  else if 5<2*(Sq r l).length then Vu (I3 n r l) l.v.ZA l.v.cm
  else ⟨I3 n r l,[],[]⟩
def add(n:Nd)(x:Cm):Nd:=if x∈n.Zw\/x∈n.ZP then n else { n with Zw:=n.Zw++[x] }
def Qa(n:Nd)(l:XR):Nd:=if Y4 n.YH l.b then { n with YH:=l.b } else n
def Tx(n:Nd)(l:XR):Out:=
 match XD n.Zp l.v.ZA with
 | some x=>⟨Qa n l,[⟨6,n.me,l.JU,Qh,Sp l.v.ZA Qh x,[]⟩],[]⟩
 | none=>⟨Qa n l,[],[]⟩
def Yn(n:Nd)(l:XR):Out:=
 if l.YI=0 then XC n l else if l.YI=1\/l.YI=3 then Y6 n l else if l.YI=2 then asked n l
 else if l.YI=4 then ⟨add n l.v.cm,[],[]⟩ else if l.YI=5 then Tx n l else if l.YI=6 then Vu n l.v.ZA l.v.cm else ⟨Qa n l,[],[]⟩
def Ja(r:Q9):List (List Vt):=(d2 5).map fun (m:Nat)=>(XD r.Yw (m:Int)).getD []
def Bn(l:List Vt):Int:=l.foldl (fun t v=>if t<v.ZA then v.ZA else t) (-1)
def Bo(LL:List (List Vt))(s:Int):Cm:=if RO s LL.flatten=0 then (WE s LL.flatten).cm else vm
def Uz(n:Nd)(LL:List (List Vt))(pr:List (Int × Cm))(s:Nat):List (Int × Cm):=if XD n.Zp (s:Int)=Z then ins pr (s:Int) (Bo LL s) else pr
def Rd(n:Nd)(r:Q9):Q9:=
 { r with Xf:=(List.range' n.ZP.length ((Bn (Ja r).flatten+1).toNat-n.ZP.length)).foldl (Uz n (Ja r)) r.Xf,Rc:=true }
def U7(n:Nd)(r:Q9)(x:Cm):Nat->Nat->Option Nat
 | 0,_=>Z
 | k+1,s=>if XD r.Xf (s:Int)=M x\/XD n.Zp (s:Int)=M x then Z
  else if XD r.Xf (s:Int)=Z/\XD n.Zp (s:Int)=Z then M s else U7 n r x k (s+1)
def free(n:Nd)(r:Q9)(x:Cm):Option Nat:=U7 n r x (40-n.ZP.length) n.ZP.length
def TA(n:Nd)(r:Q9)(x:Cm):Q9:=match free n r x with|some s=>{ r with Xf:=ins r.Xf (s:Int) x }|none=>r
def Qi(n:Nd)(r:Q9)(l:List Cm):Q9:=l.foldl (TA n) r
def I4(n:Nd)(r:Q9):List XR:=(d2 5).flatMap fun (m:Nat)=>if XD r.Yw (m:Int)=Z then [⟨0,n.me,m,r.b,S5,[]⟩] else []
def Nv(n:Nd)(r:Q9)(s:Nat)(x:Cm)(m:Nat):List XR:=if XD ((XD r.JV (s:Int)).getD []) (m:Int)=Z then [⟨2,n.me,m,Qh,Sp s r.b x,[]⟩] else []
def VP(n:Nd)(r:Q9)(s:Nat):List XR:=match XD r.Xf (s:Int) with
 | some x=>if XD n.Zp (s:Int)=Z then (d2 5).flatMap (Nv n r s x) else []
 | none=>[]
def I5(n:Nd)(r:Q9):List XR:=(d2 40).flatMap (VP n r)
def I7(n:Nd)(r:Q9):Q9:=Qi n (if r.Rc=true then r else Rd n r) n.Zw
def UU(n:Nd)(r:Q9):Out:=
 if Y4 n.Zy.p r.b then
  (if Q6 n.data n.XW r.b≠0 then ⟨n,[],[]⟩ else
    ⟨{ n with data:=n.data++Xt (Q7 r.b),Z8:=M (.Zy (if YT n.Zy.p n.Zy.l r.b=0 then ⟨r.b,n.Zy.l⟩ else Uj) (if YT n.Zy.p n.Zy.l r.b=0 then n.Zy.l else []) true) },[],[]⟩)
 else if ¬5<2*r.Yw.length then ⟨n,I4 n r,[]⟩
 else ⟨{ n with Zi:=M (I7 n r) },I5 n (I7 n r),[]⟩
def Zu(n:Nd):Nd:=match n.Zi with|some r=>if Y4 r.b n.Zy.p then { n with Zi:=Z } else n|none=>n
def Re(n:Nd):List XR:=n.Zw.map fun x=>⟨4,n.me,n.Zy.p.n,Qh,Sp 0 Qh x,[]⟩
def YY(n:Nd):Out:=match n.Zi with
 | some r=>UU n r
 | none=>if 0<n.Zy.p.r/\n.Zy.p.n≠n.me then ⟨n,Re n,[]⟩ else ⟨n,[],[]⟩
def Wa(n:Nd):Ji:=if Y4 n.Zy.p n.YH then n.YH else n.Zy.p
def UA(n:Nd):Nd:={ n with XK:=(n.XK+1)%5 }
def Rg(n:Nd):List XR:=if n.XK≠n.me/\n.ZP.length<40 then [⟨5,n.me,n.XK,Wa n,Sp n.ZP.length Qh vm,[]⟩] else []
def Sr(n:Nd):Out:=
 if (YY (Zu n)).n.Z8.isSome=true then YY (Zu n)
 else ⟨UA (YY (Zu n)).n,(YY (Zu n)).ls++Rg (UA (YY (Zu n)).n),[]⟩
def Xo(n:Nd):Nd:={ n with data:=if Xu n.data n.XW then n.data else [],XW:=if Xu n.data n.XW then ((O n.data):Int) else 0,Z8:=Z }
def QB(n:Nd):mT->Out
 | .EU a to b vs=>⟨{ n with Zy:=a },[⟨1,n.me,to,b,S5,vs⟩],[]⟩
 | .EV a to v=>⟨{ n with Zy:=a },[⟨3,n.me,to,Qh,v,[]⟩],[]⟩
 | .Zy a vs cur=>⟨{ n with Zy:=a,Zi:=if cur=true then n.Zi.map (fun r=>{ r with Yw:=ins r.Yw n.me vs }) else n.Zi },[],[]⟩
def Xr:Nd->List XR->Out
 | n,[]=>⟨{ n with Zt:=[] },[],[]⟩
 | n,l :: k=>if n.Z8.isSome=true then ⟨{ n with Zt:=l :: k },[],[]⟩
  else ⟨(Xr (Yn { n with Zt:=k } l).n k).n,(Yn { n with Zt:=k } l).ls++(Xr (Yn { n with Zt:=k } l).n k).ls,(Yn { n with Zt:=k } l).ts++(Xr (Yn { n with Zt:=k } l).n k).ts⟩
def step(n:Nd):Out:=
 if n.up=true then (match n.Z8 with
  | some p=>QB (Xo n) p
  | none=>if (Xr n n.Zt).n.Z8.isSome=true then Xr n n.Zt
   else ⟨(Sr (Xr n n.Zt).n).n,(Xr n n.Zt).ls++(Sr (Xr n n.Zt).n).ls,(Xr n n.Zt).ts++(Sr (Xr n n.Zt).n).ts⟩)
 else ⟨n,[],[]⟩
def Qw(i:Nat)(up:Bool)(data:List Nat)(XW:Int)(Zy:V0):Nd:=⟨i,up,data,XW,Zy,Qh,Z,[],[],J2,[],[],[],Z,0⟩
def QL(n:Nd):Ji:=⟨match n.Zi with
 | some r=>max (max n.Zy.p.r n.YH.r+1) (r.b.r+1)
 | none=>max n.Zy.p.r n.YH.r+1,n.me⟩
def XL:Option mT->Option mT
 | some (.Zy a vs _)=>M (.Zy a vs false)
 | p=>p
def lead(n:Nd):Nd:=if n.up=false\/65536<(QL n).r then n else { n with Zi:=M ⟨QL n,[],false,[],[]⟩,Z8:=XL n.Z8 }
def Si(rc:List Nat)(now:Int):Cm:=if XF rc now=0 then ⟨XQ ((Qm rc).drop 22) 0,XQ ((Qm rc).drop 22) 1,XQ ((Qm rc).drop 22) 2,XQ ((Qm rc).drop 22) 3,XQ ((Qm rc).drop 22) 4⟩ else vm
def I8(l:List Nat):Nat->V0->Nat->V0 × Nat
 | 0,a,k=>(a,k)
 | f+1,a,k=>match X4 l a k with
  | none=>(a,k)
  | some x=>I8 l f x.1 x.2
def Rh(l:List Nat):V0 × Nat:=I8 l ((O l)+1) Uj 0
def gn(l:List Nat)(n k:Int):Int:=n+(if ((O l):Int)-n<k then ((O l):Int)-n else k)
def Ua(i:Nat)(n:Nd)(Zd:Int):Nd:=
 if n.up=true then (if Xu n.data n.XW/\0<=Zd then Qw i false (n.data.take (gn n.data n.XW Zd).toNat) (gn n.data n.XW Zd) Uj else Qw i false [] 0 Uj) else n
def dh(l:List Nat)(n:Int):List Nat:=if Xu l n then l.take (Rh l).2 else []
def ze(l:List Nat)(n:Int):Int:=if Xu l n then (if ((Rh l).2:Int)<n then ((Rh l).2:Int) else n) else 0
def started(i:Nat)(n:Nd):Nd:=
 if n.up=true then n else Qw i true (dh n.data n.XW) (ze n.data n.XW) (if Xu (dh n.data n.XW) (ze n.data n.XW) then (Rh (dh n.data n.XW)).1 else Uj)
structure Ac where
 YI:Int
 Yf:Nat
 at':Nat
 Zd:Int
 data:List Nat
def Wd.set(w:Wd)(i:Nat)(n:Nd):Wd:={ w with Zm:=fun j=>if j=i then n else w.Zm j }
def Wd.out(w:Wd)(i:Nat)(o:Out):Wd:={ Zm:=fun j=>if j=i then o.n else w.Zm j,Zo:=w.Zo++o.ls,Yj:=w.Yj,ZB:=w.ZB++o.ts }
def Ss(w:Wd)(l:XR):Wd:=if (w.Zm l.to.toNat).up=true then w.set l.to.toNat { w.Zm l.to.toNat with Zt:=(w.Zm l.to.toNat).Zt++[l] } else w
def pick(w:Wd)(at':Nat)(comes stays:Bool):Wd:=
 match w.Zo[at'%w.Zo.length]? with
 | none=>w
 | some l=>if comes=true then Ss (if stays=true then w else { w with Zo:=w.Zo.eraseIdx (at'%w.Zo.length) }) l else (if stays=true then w else { w with Zo:=w.Zo.eraseIdx (at'%w.Zo.length) })
def Gt(n:Nd)(x:Cm):Nd:=if x∈n.Zh then n else { n with Zh:=n.Zh++[x] }
def Mw(w:Wd)(i:Nat)(data:List Nat):Wd:=
 if (w.Zm i).up=true then
  (if XF data (w.Zm i).ZP.length≠0 then { w with Yj:=fun j=>if j=i then w.Yj i+1 else w.Yj j }
  else if Si data (w.Zm i).ZP.length∈(w.Zm i).ZP then
   { w with ZB:=w.ZB++[⟨(w.Zm i).me,(Si data (w.Zm i).ZP.length).c,(Si data (w.Zm i).ZP.length).s,Oj (w.Zm i).store (Si data (w.Zm i).ZP.length),I1 (w.Zm i).store (Si data (w.Zm i).ZP.length)⟩] }
  else w.set i (Gt (add (w.Zm i) (Si data (w.Zm i).ZP.length)) (Si data (w.Zm i).ZP.length)))
 else w
def act(w:Wd)(a:Ac):Wd:=
 if a.YI=1 then Mw w a.Yf a.data
 else if a.YI=2 then w.set a.Yf (lead (w.Zm a.Yf))
 else if a.YI=3 then w.out a.Yf (step (w.Zm a.Yf))
 else if a.YI=4\/a.YI=5\/a.YI=6 then pick w a.at' (decide (a.YI≠5)) (decide (a.YI=6))
 else if a.YI=7 then w.Zo.foldl Ss { w with Zo:=[] }
 else if a.YI=8 then w.set a.Yf (Ua a.Yf (w.Zm a.Yf) a.Zd)
 else w.set a.Yf (started a.Yf (w.Zm a.Yf))
def Ri:Wd:=⟨fun i=>Qw i true [] 0 Uj,[],fun _=>0,[]⟩
def Mx(l:List Ac):Wd:=l.foldl act Ri
@[go_sem] theorem TC:fj av 121=M 43:=po
@[go_sem] theorem Lt:fj av 191=M 117:=po
@[go_sem] theorem I9:fj av 192=M 254:=po
@[go_sem] theorem Fo:fj av 254=M 255:=po
@[go_sem] theorem sy:fj av 222=M 221:=po
@[go_sem] theorem Nw:tzv av 43=M (bf vm.C.toArray):=po
@[go_sem] theorem sA:tzv av 117=M (aa Z 0 0):=po
@[go_sem] theorem Fp:tzv av 254=M (.map Z):=po
@[go_sem] theorem ZbB:tzv av 255=M (bf #[]):=po
@[go_sem] theorem ZiB:tzv av 221=M .nilFunc:=po
@[go_sem] theorem ZDQ:tkp av 120=true:=po
@[go_sem] theorem ZDR:tkm av 254=true:=po
@[go_sem] theorem ZDS:xj av 1=true:=po
inductive Tg where
 | world
 | Zm
 | Zo
 | ZB
 | Yf (i:Nat)
 | Zp (i:Nat)
 | ZP (i:Nat)
 | Zw (i:Nat)
 | Zh (i:Nat)
 | Zt (i:Nat)
 | Zi (i:Nat)
 | Yw (i:Nat)
 | Xf (i:Nat)
 | JV (i:Nat)
 | T4 (i:Nat) (s:Int)
 | XL (i:Nat)
variable{S:Tg->Prop}
def Tg.of:Tg->Option Nat
 | .world=>Z
 | .Zm=>Z
 | .Zo=>Z
 | .ZB=>Z
 | .Yf i=>M i
 | .Zp i=>M i
 | .ZP i=>M i
 | .Zw i=>M i
 | .Zh i=>M i
 | .Zt i=>M i
 | .Zi i=>M i
 | .Yw i=>M i
 | .Xf i=>M i
 | .JV i=>M i
 | .T4 i _=>M i
 | .XL i=>M i
abbrev Ow:=Nat->Option Tg
variable{o o':Ow}
structure Im(o:Ow)(n:Nat)(h:Hp)(v:am)(m:Nat)(cs:List am):Prop where
 sl:Sl n h v m cs
 fits:∃p c,v=aa p m c/\m<=c
 free:∀b,ZJ v=M b->b<h.size/\o b=Z
theorem Im.Zd{n m:Nat}{cs:List am}(s:Im o n h v m cs)(k:Kp S o h o' h'):Im o' n h' v m cs:=by
 obtain⟨⟨p,c,rfl,hl,uX⟩,⟨p',c',he,hm⟩,hf⟩:=s;simp only[Value.slice.injEq,true_and]at he;obtain⟨rfl,rfl⟩:=he;have mE:∀b,ZJ (aa p m c)=M b->b<h.size/\o b=Z/\h'[b]? = h[b]? /\ o' b=Z:=fun b hb=>by
  obtain⟨h1,h2⟩:=hf b hb;obtain⟨h3,h4⟩:=k.Zd b h1 fun t ht=>by rw[h2]at ht;cases ht
  exact⟨h1,h2,h3,by rw[h4,h2]⟩
 refine⟨⟨p,c,rfl,hl,fun Ys=>?_⟩,⟨p,c,rfl,hm⟩,fun b hb=>⟨d3 (mE b hb).1 k.size,(mE b hb).2.2.2⟩⟩;obtain⟨b,off,rfl,YR⟩:=uX Ys;have At:c≠0:=by
  intro e;have:m=0:=gX;subst this;exact Ys (List.eq_nil_of_length_eq_zero (by simpa using hl))
 have hb:ZJ (aa (M ⟨b,off,Z⟩) m c)=M b:=by simp[ZJ,At]
 refine⟨b,off,rfl,fun i hi=>?_⟩;have:=YR i hi;unfold hc at this ⊢;rw[(mE b hb).2.2.1];exact this
theorem Im.Ub{B n m:Nat}{E:TypeId}{cs:List am}(s:Own B E n h v m cs)(hd:∀b,B<=b->o b=Z):Im o n h v m cs:=by
 refine⟨s.sl,?_,fun b hb=>?_⟩
 .rcases s with⟨⟨p,rfl⟩,rfl,_⟩|⟨b,cap,sp,_,rfl,_,_,_,hm⟩
  .exact⟨p,0,rfl,be _⟩
  .exact⟨_,cap,rfl,hm⟩
 .exact⟨s.lt b hb,hd b (s.ZQ b hb)⟩
theorem Im.nil(o:Ow)(n:Nat)(h:Hp)(p:Option Addr):Im o n h (aa p 0 0) 0 []:=
 ⟨⟨p,0,rfl,Dq,fun Ys=>absurd rfl Ys⟩,⟨p,0,rfl,be _⟩,fun b hb=>by cases p<;>simp[ZJ]at hb⟩
def WU(o:Ow)(h:Hp)(v:am)(l:List Vt):Prop:=Im o 8 h v (O l) (ZK Zn l)
def TD(o:Ow)(h:Hp)(v:am)(l:List Nat):Prop:=Im o 1 h v (O l) (l.map bv)/\∀x∈l,x<256
theorem WU.ts{l:List Vt}(s:WU o h v l):Ts Zn 8 h v l:=⟨Im.sl s⟩
theorem TD.bs{l:List Nat}(s:TD o h v l):Bs h v l:=⟨s.1.sl,s.2⟩
theorem WU.Zd{l:List Vt}(s:WU o h v l)(k:Kp S o h o' h'):WU o' h' v l:=Im.Zd s k
theorem TD.Zd{l:List Nat}(s:TD o h v l)(k:Kp S o h o' h'):TD o' h' v l:=⟨s.1.Zd k,s.2⟩
def Xg(l:XR)(w:am):List am:=[U D l.YI,U D l.JU,U D l.to,U D l.b.r,U D l.b.n,U D l.v.ZA,U D l.v.b.r,U D l.v.b.n,U D l.v.k,U D l.v.c,U D l.v.s,U D l.v.nm,U D l.v.v,w]
def Lu(x:XR × am):List am:=Xg x.1 x.2
def Ha(t:Pk):List am:=[U D t.Yf,U D t.c,U D t.s,U D t.code,U D t.val]
def Zr(b:Nat):am:=ao (M ⟨b,0,Z⟩)
def Vv(x:Cm):am:=bf x.C.toArray
def Uc(o:Ow)(t:Tg)(h:Hp)(v:am)(l:List Cm):Prop:=YP o t 43 5 h v (O l) (ZK QA.C l)
def Up(o:Ow)(t:Tg)(h:Hp)(v:am)(l:List XR):Prop:=
 ∃xs:List (XR × am),xs.map (·.1)=l/\YP o t 170 14 h v (O xs) (ZK Lu xs)/\∀x∈xs,WU o h x.2 x.1.vs
theorem Uc.Zd{t:Tg}(s:Uc o t h v l)(k:Kp S o h o' h')(hn:¬S t):Uc o' t h' v l:=YP.Zd s k hn
theorem Up.Zd{t:Tg}{l:List XR}(s:Up o t h v l)(k:Kp S o h o' h')(hn:¬S t):Up o' t h' v l:=by
 obtain⟨xs,h1,h2,h3⟩:=s;exact⟨xs,h1,h2.Zd k hn,fun x hx=>(h3 x hx).Zd k⟩
def QN(o:Ow)(t:Tg)(h:Hp)(b:Nat)(l:List (Int × am)):Prop:=o b=M t/\h[b]? = M (XJ l)
theorem QN.Zd{t:Tg}{b:Nat}{l:List (Int × am)}(s:QN o t h b l)(k:Kp S o h o' h')(hn:¬S t):QN o' t h' b l:=by
 have Pz:∀u,o b=M u->¬S u:=fun u hu=>by rw[s.1]at hu;cases hu;exact hn
 exact⟨by rw[k.Zy s.2 Pz,s.1],k.get s.2 Pz⟩
def Uq(o:Ow)(t:Tg)(h:Hp)(b:Nat)(x:Obj):Prop:=o b=M t/\h[b]? = M x
theorem Uq.Zd{t:Tg}{b:Nat}{x:Obj}(s:Uq o t h b x)(k:Kp S o h o' h')(hn:¬S t):Uq o' t h' b x:=by
 have Pz:∀u,o b=M u->¬S u:=fun u hu=>by rw[s.1]at hu;cases hu;exact hn
 exact⟨by rw[k.Zy s.2 Pz,s.1],k.get s.2 Pz⟩
def ZY(o:Ow)(h:Hp)(b:Nat)(x:Obj):Prop:=o b=Z/\h[b]? = M x
theorem ZY.Zd{b:Nat}{x:Obj}(s:ZY o h b x)(k:Kp S o h o' h'):ZY o' h' b x:=(k.free s.2 s.1).symm
def UB(o:Ow)(h:Hp)(pv:List (Int × am))(pr:List (Int × List Vt)):Prop:=D8 (fun x y=>x.1=y.1/\WU o h x.2 y.2) pv pr
theorem UB.Zd{pv:List (Int × am)}{pr:List (Int × List Vt)}(s:UB o h pv pr)(k:Kp S o h o' h'):UB o' h' pv pr:=by
 induction s with
 | nil=>exact .nil
 | cons a _ ih=>exact .cons ⟨a.1,a.2.Zd k⟩ ih
def L0(l:List (Int × Unit)):List (Int × am):=U2 (fun _=>bf #[]) l
def Ur(o:Ow)(i:Nat)(h:Hp)(sv:List (Int × Nat))(vt:List (Int × List (Int × Unit))):Prop:=D8 (fun x y=>x.1=y.1/\QN o (.T4 i y.1) h x.2 (L0 y.2)) sv vt
theorem Ur.Zd{i:Nat}{sv:List (Int × Nat)}{vt:List (Int × List (Int × Unit))}(s:Ur o i h sv vt)(k:Kp S o h o' h')(hn:∀s,¬S (.T4 i s)):Ur o' i h' sv vt:=by
 induction s with
 | nil=>exact .nil
 | cons a _ ih=>exact .cons ⟨a.1,a.2.Zd k (hn _)⟩ ih
def vo(b:Nat):am:=.map (M b)
structure RA where
 rb:Nat
 pb:Nat
 qb:Nat
 vb:Nat
 pv:List (Int × am)
 sv:List (Int × Nat)
def di(r:Q9)(a:RA):List am:=[U D r.b.r,U D r.b.n,.map (M a.pb),az r.Rc,.map (M a.qb),.map (M a.vb)]
structure YZ(o:Ow)(i:Nat)(h:Hp)(a:RA)(r:Q9):Prop where
 ZQ:Uq o (.Zi i) h a.rb (Y (di r a).toArray 194)
 Yw:QN o (.Yw i) h a.pb a.pv
 Rj:UB o h a.pv r.Yw
 Xf:QN o (.Xf i) h a.qb (U2 Vv r.Xf)
 JV:QN o (.JV i) h a.vb (U2 vo a.sv)
 T5:Ur o i h a.sv r.JV
 keys:(a.sv.map (·.1)).Nodup
def X6(i:Nat)(t:Tg):Prop:=t=.Zi i\/t=.Yw i\/t=.Xf i\/t=.JV i\/∃s,t=.T4 i s
theorem YZ.Zd{i:Nat}{a:RA}{r:Q9}(s:YZ o i h a r)(k:Kp S o h o' h')(hn:∀t,X6 i t->¬S t):YZ o' i h' a r:=
 ⟨s.ZQ.Zd k (hn _ (.inl rfl)),s.Yw.Zd k (hn _ (.inr (.inl rfl))),s.Rj.Zd k,s.Xf.Zd k (hn _ (.inr (.inr (.inl rfl)))),s.JV.Zd k (hn _ (.inr (.inr (.inr (.inl rfl))))),s.T5.Zd k (fun s=>hn _ (.inr (.inr (.inr (.inr ⟨s,rfl⟩))))),s.keys⟩
def Ok:Option RA->am
 | some a=>Zr a.rb
 | none=>ao Z
def zf(o:Ow)(i:Nat)(h:Hp):Option RA->Option Q9->Prop
 | some a,M r=>YZ o i h a r
 | none,Z=>True
 | _,_=>False
theorem zf.Zd{i:Nat}{a:Option RA}{r:Option Q9}(s:zf o i h a r)(k:Kp S o h o' h')(hn:∀t,X6 i t->¬S t):zf o' i h' a r:=by
 cases a<;>cases r<;>first|exact s|exact YZ.Zd s k hn
def WZ(f:FuncId)(l:List Nat):am:=.func (.func f) #[] (l.map Zr).toArray
def sE(o:Ow)(h:Hp)(wb nb:Nat)(v:am)(to:Int)(b:Ji)(vs:List Vt):Prop:=
 ∃b3 b4 b5 b7 l w5 w,v=WZ 152 [b3,b4,b5,b7]/\ZY o h b3 (Y [Zr wb].toArray 105)/\ZY o h b4 (Y [Zr nb].toArray 112) /\
  ZY o h b5 (Y (Xg l w5).toArray 170)/\l.JU=to/\l.b=b/\ZY o h b7 (Y [w].toArray 117)/\WU o h w vs
def sF(o:Ow)(h:Hp)(wb nb:Nat)(v:am)(to:Int)(x:Vt):Prop:=
 ∃b3 b4 b5 l w5,v=WZ 157 [b3,b4,b5]/\ZY o h b3 (Y [Zr wb].toArray 105)/\ZY o h b4 (Y [Zr nb].toArray 112) /\
  ZY o h b5 (Y (Xg l w5).toArray 170)/\l.JU=to/\l.v=x
theorem sE.Zd{wb nb:Nat}{to:Int}{b:Ji}{vs:List Vt}(s:sE o h wb nb v to b vs)(k:Kp S o h o' h'):sE o' h' wb nb v to b vs:=by
 obtain⟨b3,b4,b5,b7,l,w5,w,h1,h2,h3,h4,h5,h6,h7,h8⟩:=s;exact⟨b3,b4,b5,b7,l,w5,w,h1,h2.Zd k,h3.Zd k,h4.Zd k,h5,h6,h7.Zd k,h8.Zd k⟩
theorem sF.Zd{wb nb:Nat}{to:Int}{x:Vt}(s:sF o h wb nb v to x)(k:Kp S o h o' h'):sF o' h' wb nb v to x:=by
 obtain⟨b3,b4,b5,l,w5,h1,h2,h3,h4,h5,h6⟩:=s;exact⟨b3,b4,b5,l,w5,h1,h2.Zd k,h3.Zd k,h4.Zd k,h5,h6⟩
def Rk(o:Ow)(h:Hp)(b:Nat)(a:V0):Prop:=∃w,ZY o h b (Y (Y0 a.p w).toArray 119)/\WU o h w a.l
theorem Rk.Zd{b:Nat}{a:V0}(s:Rk o h b a)(k:Kp S o h o' h'):Rk o' h' b a:=by
 obtain⟨w,h1,h2⟩:=s;exact⟨w,h1.Zd k,h2.Zd k⟩
def ZiC(o:Ow)(h:Hp)(i nb:Nat)(ra:Option RA)(v:am)(a:V0)(vs:List Vt)(cur:Bool):Prop:=
 ∃b6 b4 b7 b5 w rb,v=WZ 161 [b6,b4,b7,b5]/\Rk o h b6 a/\ZY o h b4 (Y [Zr nb].toArray 112)/\ZY o h b7 (Y [w].toArray 117)/\WU o h w vs /\
  ZY o h b5 (Y [Zr rb].toArray 120) /\
  (if cur=true then ∃a,ra=M a/\a.rb=rb else ∃cs pb pv,Uq o (.XL i) h rb (Y cs 194)/\cs[2]? = M (.map (M pb))/\QN o (.XL i) h pb pv)
def UV(o:Ow)(h:Hp)(wb i nb:Nat)(ra:Option RA):am->Option mT->Prop
 | v,Z=>v=.nilFunc
 | v,M (.EU a to b vs)=>∃b6 b4 b9 u,v=WZ 154 [b6,b4,b9]/\Rk o h b6 a/\ZY o h b4 (Y [Zr nb].toArray 112)/\ZY o h b9 (Y [u].toArray 1)/\sE o h wb nb u to b vs
 | v,M (.EV a to x)=>∃b6 b4 b9 u,v=WZ 160 [b6,b4,b9]/\Rk o h b6 a/\ZY o h b4 (Y [Zr nb].toArray 112)/\ZY o h b9 (Y [u].toArray 1)/\sF o h wb nb u to x
 | v,M (.Zy a vs cur)=>ZiC o h i nb ra v a vs cur
theorem UV.Zd{wb i nb:Nat}{ra:Option RA}{p:Option mT}(s:UV o h wb i nb ra v p)(k:Kp S o h o' h')(hn:¬S (.XL i)):UV o' h' wb i nb ra v p:=by
 match p,s with
 | none,s=>exact s
 | some (.EU a to b vs),⟨b6,b4,b9,u,h1,h2,h3,h4,h5⟩=>exact⟨b6,b4,b9,u,h1,h2.Zd k,h3.Zd k,h4.Zd k,h5.Zd k⟩
 | some (.EV a to x),⟨b6,b4,b9,u,h1,h2,h3,h4,h5⟩=>exact⟨b6,b4,b9,u,h1,h2.Zd k,h3.Zd k,h4.Zd k,h5.Zd k⟩
 | some (.Zy a vs cur),⟨b6,b4,b7,b5,w,rb,h1,h2,h3,h4,h5,h6,h7⟩=>
  refine⟨b6,b4,b7,b5,w,rb,h1,h2.Zd k,h3.Zd k,h4.Zd k,h5.Zd k,h6.Zd k,?_⟩
  cases cur with
  | true=>exact h7
  | false=>
   obtain⟨cs,pb,pv,g1,g2,g3⟩:=h7;exact⟨cs,pb,pv,g1.Zd k hn,g2,g3.Zd k hn⟩
structure NA where
 data:am
 Xh:am
 Zi:Option RA
 Zp:Nat
 ZP:am
 Zw:am
 Zh:am
 Zt:am
 Z8:am
def Wb(n:Nd)(a:NA):List am:=[U D n.me,az n.up,a.data,U D n.XW,U D n.Zy.p.r,U D n.Zy.p.n,a.Xh,U D n.YH.r,U D n.YH.n,Ok a.Zi,.map (M a.Zp),a.ZP]++(n.store++[a.Zw,a.Zh,a.Zt,a.Z8,U D n.XK])
def Xy(n:Nd)(a:NA):Obj:=Y (Wb n a).toArray 123
structure Nx(cs:List am):Prop where
 fit:YM Jw cs=true
 num:∀i,i<32->nth cs i=M (U D (ci cs i))
 yes:∀i,32<=i->i<40->nth cs i=M (az (cb cs i))
structure Z7(o:Ow)(h:Hp)(wb i nb:Nat)(a:NA)(n:Nd):Prop where
 data:TD o h a.data n.data
 Xh:WU o h a.Xh n.Zy.l
 Zi:zf o i h a.Zi n.Zi
 Zp:QN o (.Zp i) h a.Zp (U2 Vv n.Zp)
 ZP:Uc o (.ZP i) h a.ZP n.ZP
 Zw:Uc o (.Zw i) h a.Zw n.Zw
 Zh:Uc o (.Zh i) h a.Zh n.Zh
 Zt:Up o (.Zt i) h a.Zt n.Zt
 Z8:UV o h wb i nb a.Zi a.Z8 n.Z8
 store:Nx n.store
structure ZV(o:Ow)(h:Hp)(wb i nb:Nat)(a:NA)(n:Nd):Prop where
 ZQ:Uq o (.Yf i) h nb (Xy n a)
 pt:Z7 o h wb i nb a n
theorem My{i:Nat}{t:Tg}(h:X6 i t):t.of=M i:=by
 rcases h with rfl|rfl|rfl|rfl|⟨s,rfl⟩<;>rfl
section
variable {S:Tg->Prop} {o o':Ow} {h h':Hp} {wb i nb:Nat} {a:NA} {n:Nd}
theorem Z7.Zd(s:Z7 o h wb i nb a n)(k:Kp S o h o' h')(hn:∀t,S t->t.of≠M i\/t=.Yf i):Z7 o' h' wb i nb a n:=by
 have q:∀t:Tg,t.of=M i->t ≠ .Yf i->¬S t:=fun t ht Ys hs=>(hn t hs).elim (fun q=>q ht) Ys;exact⟨s.data.Zd k,s.Xh.Zd k,s.Zi.Zd k (fun t ht=>q t (My ht) (by rcases ht with rfl|rfl|rfl|rfl|⟨z,rfl⟩<;>intro e<;>cases e)),s.Zp.Zd k (q _ rfl MI),s.ZP.Zd k (q _ rfl MI),s.Zw.Zd k (q _ rfl MI),s.Zh.Zd k (q _ rfl MI),s.Zt.Zd k (q _ rfl MI),s.Z8.Zd k (q _ rfl MI),s.store⟩
theorem ZV.Zd(s:ZV o h wb i nb a n)(k:Kp S o h o' h')(hn:∀t,S t->t.of≠M i):ZV o' h' wb i nb a n:=
 ⟨s.ZQ.Zd k fun q=>hn _ q rfl,s.pt.Zd k fun t ht=>.inl (hn t ht)⟩
theorem Z7.put(s:Z7 o h wb i nb a n)(d:UO o h){x:Obj}(b:Uq o (.Yf i) h nb x):ZV o (h.setIfInBounds nb (Xy n a)) wb i nb a n:=
 ⟨⟨b.1,ZE b.2⟩,s.Zd ((Kp.refl d (fun t=>t=.Yf i)).set b.1 rfl _) fun t ht=>.inr ht⟩
theorem Z7.write(s:Z7 o h wb i nb a n)(d:UO o h){x:Obj}(b:Uq o (.Yf i) h nb x){e:Option Hp}(w:e=M (h.setIfInBounds nb (Xy n a))):∃g,e=M g/\ZV o g wb i nb a n/\Kp (fun t=>t=.Yf i) o h o g:=
 ⟨_,w,s.put d b,(Kp.refl d (fun t=>t=.Yf i)).set b.1 rfl _⟩
theorem Z7.Fq(s:Z7 o h wb i nb a n)(k:Kp (fun t=>t=.Zw i) o h o' h')(hv:Uc o' (.Zw i) h' v l):Z7 o' h' wb i nb { a with Zw:=v } { n with Zw:=l }:=
 ⟨s.data.Zd k,s.Xh.Zd k,s.Zi.Zd k (fun t ht=>by rcases ht with rfl|rfl|rfl|rfl|⟨z,rfl⟩<;>intro e<;>cases e),s.Zp.Zd k MI,s.ZP.Zd k MI,hv,s.Zh.Zd k MI,s.Zt.Zd k MI,s.Z8.Zd k MI,s.store⟩
theorem Z7.zh(s:Z7 o h wb i nb a n)(k:Kp (fun t=>t=.ZP i) o h o' h')(hv:Uc o' (.ZP i) h' v l):Z7 o' h' wb i nb { a with ZP:=v } { n with ZP:=l }:=
 ⟨s.data.Zd k,s.Xh.Zd k,s.Zi.Zd k (fun t ht=>by rcases ht with rfl|rfl|rfl|rfl|⟨z,rfl⟩<;>intro e<;>cases e),s.Zp.Zd k MI,hv,s.Zw.Zd k MI,s.Zh.Zd k MI,s.Zt.Zd k MI,s.Z8.Zd k MI,s.store⟩
theorem Z7.Lv(s:Z7 o h wb i nb a n)(k:Kp (fun t=>t=.Zh i) o h o' h')(hv:Uc o' (.Zh i) h' v l):Z7 o' h' wb i nb { a with Zh:=v } { n with Zh:=l }:=
 ⟨s.data.Zd k,s.Xh.Zd k,s.Zi.Zd k (fun t ht=>by rcases ht with rfl|rfl|rfl|rfl|⟨z,rfl⟩<;>intro e<;>cases e),s.Zp.Zd k MI,s.ZP.Zd k MI,s.Zw.Zd k MI,hv,s.Zt.Zd k MI,s.Z8.Zd k MI,s.store⟩
theorem Z7.ky(s:Z7 o h wb i nb a n)(k:Kp (fun t=>t=.Zt i) o h o' h'){l:List XR}(hv:Up o' (.Zt i) h' v l):Z7 o' h' wb i nb { a with Zt:=v } { n with Zt:=l }:=
 ⟨s.data.Zd k,s.Xh.Zd k,s.Zi.Zd k (fun t ht=>by rcases ht with rfl|rfl|rfl|rfl|⟨z,rfl⟩<;>intro e<;>cases e),s.Zp.Zd k MI,s.ZP.Zd k MI,s.Zw.Zd k MI,s.Zh.Zd k MI,hv,s.Z8.Zd k MI,s.store⟩
theorem Z7.kA(s:Z7 o h wb i nb a n)(k:Kp (fun t=>t=.Zp i) o h o' h'){v:Nat}{l:List (Int × Cm)}(hv:QN o' (.Zp i) h' v (U2 Vv l)):Z7 o' h' wb i nb { a with Zp:=v } { n with Zp:=l }:=
 ⟨s.data.Zd k,s.Xh.Zd k,s.Zi.Zd k (fun t ht=>by rcases ht with rfl|rfl|rfl|rfl|⟨z,rfl⟩<;>intro e<;>cases e),hv,s.ZP.Zd k MI,s.Zw.Zd k MI,s.Zh.Zd k MI,s.Zt.Zd k MI,s.Z8.Zd k MI,s.store⟩
theorem Z7.QO(s:Z7 o h wb i nb a n)(k:Kp (X6 i) o h o' h'){ra ra':RA}{r':Q9}(hr:a.Zi=M ra)(dj:ra'.rb=ra.rb)(hv:YZ o' i h' ra' r'):Z7 o' h' wb i nb { a with Zi:=M ra' } { n with Zi:=M r' }:=by
 have q:∀t,t.of=M i->(¬ ∃u,t=u/\X6 i u)->¬X6 i t:=fun t _ h2 h3=>h2 ⟨t,rfl,h3⟩;have e:∀t:Tg,(t=.Zp i\/t=.ZP i\/t=.Zw i\/t=.Zh i\/t=.Zt i\/t=.XL i)->¬X6 i t:=by
  intro t ht hr;rcases ht with rfl|rfl|rfl|rfl|rfl|rfl<;>rcases hr with e|e|e|e|⟨s,e⟩<;>cases e
 refine⟨s.data.Zd k,s.Xh.Zd k,hv,s.Zp.Zd k (e _ Dq),s.ZP.Zd k (e _ Dq),s.Zw.Zd k (e _ Dq),s.Zh.Zd k (e _ Dq),s.Zt.Zd k (e _ Dq),?_,s.store⟩;have hp:=s.Z8.Zd k (e _ Dq);show UV o' h' wb i nb (M ra') a.Z8 n.Z8;rw[hr]at hp
 match hn:n.Z8,hp with
 | none,hp=>exact hp
 | some (.EU _ _ _ _),hp=>exact hp
 | some (.EV _ _ _),hp=>exact hp
 | some (.Zy _ _ cur),⟨b6,b4,b7,b5,w,rb,h1,h2,h3,h4,h5,h6,h7⟩=>
  refine⟨b6,b4,b7,b5,w,rb,h1,h2,h3,h4,h5,h6,?_⟩
  cases cur with
  | false=>exact h7
  | true=>
   obtain⟨c,hc,hcr⟩:=h7;obtain rfl:=Option.some.inj hc;exact⟨ra',rfl,dj.trans hcr⟩
end
structure WA where
 Zm:am
 Zo:am
 ZB:am
def Xv(Yj:Nat->Int)(a:WA):List am:=[a.Zm,a.Zo,U D 0,az false,az false,az false,az false,az false,aa Z 0 0,U D (Yj 0),U D (Yj 1),U D (Yj 2),U D (Yj 3),U D (Yj 4),a.ZB]
structure ZS(o:Ow)(h:Hp)(wb:Nat)(nb:Nat->Nat)(a:WA)(fl:List XR)(Yj:Nat->Int)(ZB:List Pk):Prop where
 ZQ:Uq o .world h wb (Y (Xv Yj a).toArray 111)
 Zm:YP o .Zm 112 1 h a.Zm 5 [Zr (nb 0),Zr (nb 1),Zr (nb 2),Zr (nb 3),Zr (nb 4)]
 Zo:Up o .Zo h a.Zo fl
 ZB:YP o .ZB 50 5 h a.ZB (O ZB) (ZK Ha ZB)
theorem ZS.Zd{wb:Nat}{nb:Nat->Nat}{a:WA}{fl:List XR}{Yj:Nat->Int}{ZB:List Pk}(s:ZS o h wb nb a fl Yj ZB)(k:Kp S o h o' h')(hn:∀t,S t->t.of≠Z):ZS o' h' wb nb a fl Yj ZB:=
 ⟨s.ZQ.Zd k fun q=>hn _ q rfl,s.Zm.Zd k fun q=>hn _ q rfl,s.Zo.Zd k fun q=>hn _ q rfl,s.ZB.Zd k fun q=>hn _ q rfl⟩
def QC(t:Tg):Prop:=False
section
variable {S:Tg->Prop} {o o':Ow} {h h':Hp}
theorem ZN(d:UO o h)(b:Zf h.size h h'):Kp QC o h o h':=Kp.Ie d b _
theorem ZR(k:Kp QC o h o' h'):Kp S o h o' h':=k.mono fun _ q=>q.elim
theorem ZV.Zu{wb i nb:Nat}{a:NA}{n:Nd}(s:ZV o h wb i nb a n)(k:Kp QC o h o' h'):ZV o' h' wb i nb a n:=s.Zd k fun _ q=>q.elim
theorem ZS.Zu{wb:Nat}{nb:Nat->Nat}{a:WA}{fl:List XR}{Yj:Nat->Int}{ZB:List Pk}(s:ZS o h wb nb a fl Yj ZB)(k:Kp QC o h o' h'):ZS o' h' wb nb a fl Yj ZB:=s.Zd k fun _ q=>q.elim
theorem Yc(d:UO o h)(x:Obj):Kp QC o h o (h.push x):=(Kp.refl d _).push x
end
structure Az(o:Ow)(h:Hp):Prop where
 tk:Tk h
 tn:Dl 0 niv Sh h
 fk:o 2=Z
 fn:o 0=Z
theorem EX{g:Nat}{f:Nat->am}{l:List Nat}(t:Dl g f l h)(hf:o g=Z)(k:Kp S o h o' h'):Dl g f l h'/\o' g=Z:=by
 obtain⟨h1,h2⟩:=k.Zd g t.1 fun t ht=>by rw[hf]at ht;cases ht
 refine⟨⟨d3 t.1 k.size,fun i hi=>?_⟩,by rw[h2,hf]⟩;have:=t.2 i hi;unfold hc at this ⊢;rw[h1];exact this
theorem Az.Zd(t:Az o h)(k:Kp S o h o' h'):Az o' h':=
 ⟨(EX t.tk t.fk k).1,(EX t.tn t.fn k).1,(EX t.tk t.fk k).2,(EX t.tn t.fn k).2⟩
theorem Nx.len{cs:List am}(s:Nx cs):(O cs)=40:=by
 have:=Y3 s.fit;rw[this];rfl
theorem Nx.one{cs:List am}(s:Nx cs):cs.all Yq=true:=KV s.fit
theorem sI(a:Option RA):Yq (Ok a)=true:=by cases a<;>rfl
section
variable {h:Hp} {nb:Nat} {n:Nd} {a:NA}
structure ZdD(h:Hp)(nb:Nat)(n:Nd)(a:NA):Prop where
 me:hc h ⟨nb,0,Z⟩=M (U D n.me)
 up:hc h ⟨nb,1,Z⟩=M (az n.up)
 tape:rd h ⟨nb,2,Z⟩ 2=M [a.data,U D n.XW]
 Zy:rd h ⟨nb,4,Z⟩ 3=M [U D n.Zy.p.r,U D n.Zy.p.n,a.Xh]
 Bp:rd h ⟨nb,4,Z⟩ 2=M [U D n.Zy.p.r,U D n.Zy.p.n]
 Zq8:hc h ⟨nb,4,Z⟩=M (U D n.Zy.p.r)
 ZDU:hc h ⟨nb,5,Z⟩=M (U D n.Zy.p.n)
 Xh:hc h ⟨nb,6,Z⟩=M a.Xh
 YH:rd h ⟨nb,7,Z⟩ 2=M [U D n.YH.r,U D n.YH.n]
 ZdE:hc h ⟨nb,7,Z⟩=M (U D n.YH.r)
 Zi:hc h ⟨nb,9,Z⟩=M (Ok a.Zi)
 Zp:hc h ⟨nb,10,Z⟩=M (.map (M a.Zp))
 ZP:hc h ⟨nb,11,Z⟩=M a.ZP
 store:rd h ⟨nb,12,Z⟩ 40=M n.store
 Zw:hc h ⟨nb,52,Z⟩=M a.Zw
 Zh:hc h ⟨nb,53,Z⟩=M a.Zh
 Zt:hc h ⟨nb,54,Z⟩=M a.Zt
 Z8:hc h ⟨nb,55,Z⟩=M a.Z8
 XK:hc h ⟨nb,56,Z⟩=M (U D n.XK)
theorem Fr(hs:(O n.store)=40):(Wb n a).length=57:=by
 unfold Wb;rw[al,al,hs];rfl
theorem Rm(hs:(O n.store)=40)(k:Nat):nth (Wb n a) (52+k)=nth [a.Zw,a.Zh,a.Zt,a.Z8,U D n.XK] k:=by
 unfold Wb;rw[YE,YE,cf L6,cf L6]
 congr 1
 simp;omega
theorem ZI(H:h[nb]? = M (Xy n a))(hs:(O n.store)=40):ZdD h nb n a:=by
 have l57:=Fr (a:=a) hs;have c:∀k,hc h ⟨nb,k,Z⟩=nth (Wb n a) k:=fun k=>Zg H;have r:∀k m,k+m<=57->rd h ⟨nb,k,Z⟩ m=M (((Wb n a).drop k).take m):=fun k m hk=>Yh H (by rw[l57];exact hk);refine⟨c 0,c 1,r 2 2 gX,r 4 3 gX,r 4 2 gX,c 4,c 5,c 6,r 7 2 gX,c 7,c 9,c 10,c 11,?_,(c 52).trans (Rm hs 0),(c 53).trans (Rm hs 1),(c 54).trans (Rm hs 2),(c 55).trans (Rm hs 3),(c 56).trans (Rm hs 4)⟩;rw[r 12 40 gX]
 congr 1
 unfold Wb;rw[List.drop_append_of_le_length Dq];simp only[dm,List.drop_nil,c7,eu];rw[<-hs,List.take_left'];rfl
structure ZdF(h:Hp)(nb:Nat)(n:Nd)(a:NA):Prop where
 up:∀v,Jb h ⟨nb,1,Z⟩ (az v)=M (h.setIfInBounds nb (Xy { n with up:=v } a))
 tape:∀d s,Yq d=true->wr h ⟨nb,2,Z⟩ [d,U D s]=M (h.setIfInBounds nb (Xy { n with XW:=s } { a with data:=d }))
 Zy:∀r k w,Yq w=true->wr h ⟨nb,4,Z⟩ [U D r,U D k,w]=M (h.setIfInBounds nb (Xy { n with Zy:=⟨⟨r,k⟩,n.Zy.l⟩ } { a with Xh:=w }))
 YH:∀r k,wr h ⟨nb,7,Z⟩ [U D r,U D k]=M (h.setIfInBounds nb (Xy { n with YH:=⟨r,k⟩ } a))
 Zi:∀b,Jb h ⟨nb,9,Z⟩ (Ok b)=M (h.setIfInBounds nb (Xy n { a with Zi:=b }))
 ZP:∀v,Yq v=true->Jb h ⟨nb,11,Z⟩ v=M (h.setIfInBounds nb (Xy n { a with ZP:=v }))
 store:∀cs:List am,(O cs)=40->cs.all Yq=true->wr h ⟨nb,12,Z⟩ cs=M (h.setIfInBounds nb (Xy { n with store:=cs } a))
 Zw:∀v,Yq v=true->Jb h ⟨nb,52,Z⟩ v=M (h.setIfInBounds nb (Xy n { a with Zw:=v }))
 Zh:∀v,Yq v=true->Jb h ⟨nb,53,Z⟩ v=M (h.setIfInBounds nb (Xy n { a with Zh:=v }))
 Zt:∀v,Yq v=true->Jb h ⟨nb,54,Z⟩ v=M (h.setIfInBounds nb (Xy n { a with Zt:=v }))
 Z8:∀v,Yq v=true->Jb h ⟨nb,55,Z⟩ v=M (h.setIfInBounds nb (Xy n { a with Z8:=v }))
 XK:∀k,Jb h ⟨nb,56,Z⟩ (U D k)=M (h.setIfInBounds nb (Xy { n with XK:=k } a))
theorem set_tail(pre mid l:List am)(k:Nat)(v:am)(hk:(O pre)+(O mid)=52):(pre++(mid++l)).set (52+k) v=pre++(mid++l.set k v):=by
 rw[cB _ _ gX,cB _ _ gX]
 congr 3
 omega
theorem Y7(H:h[nb]? = M (Xy n a))(hs:(O n.store)=40):ZdF h nb n a:=by
 have l57:=Fr (a:=a) hs;have w1:∀(k:Nat) (v:am) (n':Nd) (a':NA),k<57->Yq v=true->(Wb n a).set k v=Wb n' a'->Jb h ⟨nb,k,Z⟩ v=M (h.setIfInBounds nb (Xy n' a')):=fun k v n' a' hk hv he=>by
  rw[Ye H,if_pos ⟨by rw[l57];exact hk,hv⟩,he];rfl
 have w:∀(k:Nat) (vs:List am) (n':Nd) (a':NA),k+(O vs)<=57->vs.all Yq=true->YJ (Wb n a) k vs=Wb n' a'->wr h ⟨nb,k,Z⟩ vs=M (h.setIfInBounds nb (Xy n' a')):=fun k vs n' a' hk hv he=>by
  rw[Z2 H,if_pos ⟨by rw[l57];exact hk,hv⟩,he];rfl
 refine⟨fun v=>w1 _ _ _ _ gX rfl rfl,fun d s hd=>w _ _ _ _ Dq (by rw[fi,hd];rfl) rfl,fun r k v hv=>w _ _ _ _ Dq (by simp only[fi,hv];rfl) rfl,fun r k=>w _ _ _ _ Dq (by simp[Yq]) rfl,fun b=>w1 _ _ _ _ gX (sI b) rfl,fun v hv=>w1 _ _ _ _ gX hv rfl,fun cs hl Xz=>w _ _ _ _ gX Xz ?_,
  fun v hv=>w1 _ _ _ _ gX hv ?_,fun v hv=>w1 _ _ _ _ gX hv ?_,fun v hv=>w1 _ _ _ _ gX hv ?_,fun v hv=>w1 _ _ _ _ gX hv ?_,fun k=>w1 _ _ _ _ gX rfl ?_⟩
 .unfold Wb;exact Vg rfl (by rw[hl,hs])
 all_goals
  unfold Wb
  first
   | exact set_tail _ _ _ 0 _ (by rw[hs];rfl)
   | exact set_tail _ _ _ 1 _ (by rw[hs];rfl)
   | exact set_tail _ _ _ 2 _ (by rw[hs];rfl)
   | exact set_tail _ _ _ 3 _ (by rw[hs];rfl)
   | exact set_tail _ _ _ 4 _ (by rw[hs];rfl)
end
section
variable {h:Hp} {wb:Nat} {Yj:Nat->Int} {a:WA}
structure zi(h:Hp)(wb:Nat)(Yj:Nat->Int)(a:WA):Prop where
 Zm:hc h ⟨wb,0,Z⟩=M a.Zm
 Zo:hc h ⟨wb,1,Z⟩=M a.Zo
 ZB:hc h ⟨wb,14,Z⟩=M a.ZB
 out:rd h ⟨wb,2,Z⟩ 13=M [U D 0,az false,az false,az false,az false,az false,aa Z 0 0,U D (Yj 0),U D (Yj 1),U D (Yj 2),U D (Yj 3),U D (Yj 4),a.ZB]
 EY:∀v,Yq v=true->Jb h ⟨wb,1,Z⟩ v=M (h.setIfInBounds wb (Y (Xv Yj { a with Zo:=v }).toArray 111))
 ZbC:∀v,Yq v=true->Jb h ⟨wb,14,Z⟩ v=M (h.setIfInBounds wb (Y (Xv Yj { a with ZB:=v }).toArray 111))
 ZdG:∀v,Yq v=true->Jb h ⟨wb,0,Z⟩ v=M (h.setIfInBounds wb (Y (Xv Yj { a with Zm:=v }).toArray 111))
theorem Xi(H:h[wb]? = M (Y (Xv Yj a).toArray 111)):zi h wb Yj a:=by
 refine⟨Zg H,Zg H,Zg H,Yh H (by simp[Xv]),fun v hv=>?_,fun v hv=>?_,fun v hv=>?_⟩
 all_goals
  rw[Ye H,if_pos ⟨by simp[Xv],hv⟩];rfl
end
theorem Im.ZM{n:Nat}{m:Nat}{cs:List am}(s:Im o n h v m cs):∃p c,v=aa p m c:=by
 obtain⟨p,c,h,_⟩:=s.fits;exact⟨p,c,h⟩
theorem UL{α:Type}(enc:α->List am)(x:α):ZK enc [x]=enc x:=by simp[ZK]
def gq(t:Tg):Prop:=t=.world\/t=.Zo
theorem Wl(h:Hp)(o:Ow)(wb nb:Nat)(Yr:Nat->Nat)(me:Nat)(YW:WA)(fl:List XR)(Yj:Nat->Int)(ZB:List Pk)(to:Int)(l:XR)(w:am)(d:UO o h)(W:ZS o h wb Yr YW fl Yj ZB)(vp:hc h ⟨nb,0,Z⟩=M (U D me))(VZ:nb<h.size)(iv:WU o h w l.vs)(YB:(O fl)<=1000000000000):
  Zc av T 133 #[Zr wb,Zr nb,U D to,bf (Xg l w).toArray] h fun v' h'=>∃o' XS,Kp gq o h o' h'/\(∀b,b<h.size->o' b=o b)/\ZS o' h' wb Yr XS (fl++[⟨l.YI,me,to,l.b,l.v,l.vs⟩]) Yj ZB:=by
 obtain⟨p,c,hw⟩:=iv.ZM;have Xz:Yq w=true:=by rw[hw];rfl
 have Gs:=Za W.ZQ.2;have R0:=Xi W.ZQ.2;refine Zc.Y8 [_,_,_,_] Tryz.func133 ?_;unfold Zr Xg;have e1:nb≠h.size:=gX;have e2:wb≠h.size:=gX;simp -implicitDefEqProofs only[go_sem,Rx,e1,vp];refine VS.z (h.size+1) [7,10] (.p 0 (.p 1 (.p 2 (.p 3 (.q 4 (.q 5 (.s 6 (.w 7 (.p 8 (.p 9 (.w 10 .nil))))))))))) mixed po ?_;simp -implicitDefEqProofs only[go_sem,Rx,eY,e1,e2,vp,R0.Zo,Gs];obtain⟨h1,YX⟩:=ZD (h.push (Y (Xg ⟨l.YI,me,to,l.b,l.v,l.vs⟩ w).toArray 170):Hp);have s1:h1.size=h.size+1:=by rw[YX];simp
 obtain⟨h2,WT⟩:=ZD (h1.push (Y (Xg ⟨l.YI,me,to,l.b,l.v,l.vs⟩ w).toArray 170):Hp);have ee:((h.push (Y (Xg ⟨l.YI,me,to,l.b,l.v,l.vs⟩ w).toArray 170)).push (Y (Xg ⟨l.YI,me,to,l.b,l.v,l.vs⟩ w).toArray 170))=h2:=by rw[WT,YX]
 unfold Xg at ee;simp only at ee;refine⟨Zf.push Dq _,?_⟩;rw[ee];have k2:Kp (fun _=>False) o h o h2:=by rw[WT,YX];exact ((Kp.refl d _).push _).push _
 have W2:=W.Zd k2 (fun _ q=>q.elim);have mU:=iv.Zd k2;obtain⟨xs,QH,PA,bU⟩:=W2.Zo;have Ax:(O xs)=(O fl):=by rw[<-QH,bL]
 have src:Sl 14 h2 (aa (M ⟨h.size+1,0,Z⟩) 1 1) 1 (Xg ⟨l.YI,me,to,l.b,l.v,l.vs⟩ w):=by
  rw[WT,<-s1];exact Sl.made (by simp[Xg]) 1
 refine JX (E:=170) (n:=14) (bytes:=128) (k:=1) Eo d4 pJ fv rfl Zbc PA k2.Ya src (by rw[Xg,bo];intro x hx;simp at hx;rcases hx with rfl|rfl|rfl|rfl|rfl|rfl|rfl|rfl|rfl|rfl|rfl|rfl|rfl|rfl<;>first|rfl|exact Xz) gX gX ?_;intro v' o3 h3 w3 k3 q3;have b3:=W2.ZQ.Zd k3 aai;have R3:=Xi b3.2;obtain⟨p3,c3,rfl,_⟩:=w3.ZM;have hw3:=Za b3.2;have e3:=R3.EY (aa p3 ((O xs)+1) c3) rfl;simp -implicitDefEqProofs only[go_sem,e3];have k4:Kp gq o h o3 h3:=(k2.mono fun _ q=>q.elim).trans (k3.mono fun u q=>.inr q);have k5:=k4.set b3.1 (.inl rfl) (Y (Xv Yj { YW with Zo:=aa p3 ((O xs)+1) c3 }).toArray 111);have kk:Kp (fun u=>u=.world) o3 h3 o3 (h3.setIfInBounds wb (Y (Xv Yj { YW with Zo:=aa p3 ((O xs)+1) c3 }).toArray 111)):=(Kp.refl k3.Ya (fun u=>u=.world)).set b3.1 rfl _;refine⟨o3,{ YW with Zo:=aa p3 ((O xs)+1) c3 },k5,fun b hb=>q3 b (by have:=k2.size;omega),⟨b3.1,ZE b3.2⟩,(W2.Zm.Zd k3 aai).Zd kk aai,⟨xs++[(⟨l.YI,me,to,l.b,l.v,l.vs⟩,w)],?_,?_,fun x hx=>?_⟩,(W2.ZB.Zd k3 aai).Zd kk aai⟩
 .rw[List.map_append,QH];rfl
 .have:=w3.Zd kk aai;rw[YD,UL,al];exact this
 .rcases List.mem_append.1 hx with hx|hx
  .exact ((bU x hx).Zd k3).Zd kk
  .have:x=(⟨l.YI,me,to,l.b,l.v,l.vs⟩,w):=by simpa using hx
   subst this;exact (mU.Zd k3).Zd kk
@[go_sem] theorem Zra(x:Cm):YM [M D,M D,M D,M D,M D] x.C=true:=rfl
@[go_sem] theorem Zrb(x y:Cm):leq x.C y.C=decide (x=y):=by
 obtain⟨a,b,c,d,e⟩:=x;obtain⟨a',b',c',d',e'⟩:=y;unfold QA.C QR;rw[cA];simp[leq,ceq,QA.mk.injEq]
@[go_sem] theorem Ny(x:Cm):x.C.length=5:=rfl
@[go_sem] theorem sJ(x:Cm):x.C.all Yq=true:=rfl
@[go_sem] theorem ZmC(x:Cm):YJ [U D 0,U D 0,U D 0,U D 0,U D 0] 0 x.C=x.C:=rfl
theorem JG(s:Ts QA.C 5 h v l):∃p c,v=aa p (O l) c/\(l≠[]->∃b o,p=M ⟨b,o,Z⟩/\b<h.size/\∀i (hi:i<(O l)),rd h ⟨b,o+i*5,Z⟩ 5=M (l[i]).C):=by
 obtain⟨p,c,hv,hh⟩:=s.open Ny MZ;refine⟨p,c,hv,fun Ys=>?_⟩;obtain⟨b,o,h1,h2,h3⟩:=hh Ys;exact⟨b,o,h1,h2,fun i hi=>(h3 i hi).rd (by simp[QA.C,QR]) rfl⟩
def TE(l:List Cm)(x:Cm):Int:=if x∈l then (l.idxOf x:Int) else -1
theorem sK{x:Cm}{i:Nat}(hi:i<(O l))(he:l[i]=x)(hn:∀j (hj:j<(O l)),j<i->l[j]≠x):l.idxOf x=i:=by
 have hx:x∈l:=he▸bn hi;have h1:l.idxOf x<(O l):=b0 hx;have h2:l[l.idxOf x]=x:=d5 h1;rcases Nat.lt_trichotomy (l.idxOf x) i with h|h|h
 .exact absurd h2 (hn _ h1 h)
 .exact h
 .have:=cx (p:=(· == x)) (xs:=l) (i:=i) h
  simp[he]at this
theorem gu{x:Cm}{i:Nat}(hi:i<(O l))(he:l[i]=x)(hn:∀j (hj:j<(O l)),j<i->l[j]≠x):TE l x=i:=by
 unfold TE;rw[if_pos (he▸bn hi),sK hi he hn]
theorem Fs{x:Cm}(hn:∀j (hj:j<(O l)),l[j]≠x):TE l x = -1:=by
 unfold TE;rw[if_neg fun hm=>by obtain⟨j,hj,he⟩:=bS hm;exact hn j hj he]
theorem Nz(l:List Cm)(x:Cm):0<=TE l x↔x∈l:=by
 unfold TE;split
 .rename_i h;exact⟨fun _=>h,fun _=>by omega⟩
 .rename_i h;exact⟨fun q=>by omega,fun q=>absurd q h⟩
theorem Hb(h:Hp)(v:am)(l:List Cm)(x:Cm)(s:Ts QA.C 5 h v l)(hl:(O l)<=4611686018427387904):
  Zc av T 94 #[v,Vv x] h fun v' h'=>v'=U D (TE l x)/\Zf h.size h h':=by
 obtain⟨p,c,rfl,YR⟩:=JG s;refine Zc.Y8 [_,_] Tryz.func94 ?_;unfold Vv;simp -implicitDefEqProofs only[go_sem];obtain⟨h1,YX⟩:=ZD (h.push (Y x.C.toArray 43):Hp);have b1:Zf h.size h h1:=by rw[YX];exact Zf.push (be _) _
 have x1:h1[h.size]? = M (Y x.C.toArray 43):=by rw[YX];exact Zb
 rw[<-YX];clear YX;refine VS.Z9 (fun F g=>g=h1/\F 0=aa p (O l) c/\F 3=ao (M ⟨h.size,0,Z⟩)/\F 7=U D (O l)/\∃i:Nat,i<=(O l)/\F 8=U D i/\∀j (hj:j<(O l)),j<i->l[j]≠x)
  (fun F _=>(O l)-(vi (F 8)).toNat) rfl ⟨rfl,rfl,rfl,rfl,0,gX,rfl,fun j hj q=>by omega⟩ ?_
 rintro F g ⟨rfl,f0,f3,f7,i,hi,f8,Xc⟩;by_cases ZL:i<(O l)
 .have ZW:(i:Int)<(O l):=gX;obtain⟨bb,oo,rfl,U9,IC⟩:=YR (by intro e;rw[e]at ZL;simp at ZL);have r1:rd g ⟨bb,oo+i*5,Z⟩ 5=M (l[i]).C:=by rw[JW b1 (by exact U9)];exact IC i ZL
  have r0:rd g ⟨h.size,0,Z⟩ 5=M x.C:=Zs x1 rfl;simp -implicitDefEqProofs only[go_sem,f0,f3,f7,f8,ZW];refine VS.q mixed po ?_;simp -implicitDefEqProofs only[go_sem,f0,f3,f7,f8,ZW,r1,r0];by_cases q:l[i]=x
  .have e:=gu ZL q Xc;rw[q];simp -implicitDefEqProofs only[go_sem,e,b1]
  .have q':¬x=l[i]:=fun e=>q e.symm;simp -implicitDefEqProofs only[go_sem,q',f0,f3,f7,f8];refine⟨⟨rfl,f0,f3,f7,i+1,ZL,rfl,fun j hj Vb=>?_⟩,?_⟩
   .by_cases e:j=i
    .subst e;exact q
    .exact Xc j hj gX
   .simp only[vi,Zk,↓reduceIte,f8];omega
 .have YU:¬(i:Int)<(O l):=gX;have e:=Fs (l:=l) (x:=x) fun j hj=>Xc j hj gX;simp -implicitDefEqProofs only[go_sem,f7,f8,YU,e,b1]
theorem VQ(h:Hp)(v:am)(l:List Cm)(x:Cm)(s:Ts QA.C 5 h v l)(hl:(O l)<=4611686018427387904):
  Zc av T 96 #[v,Vv x] h fun v' h'=>v'=az (decide (x∈l))/\Zf h.size h h':=by
 obtain⟨p,c,rfl,YR⟩:=JG s;refine Zc.Y8 [_,_] Tryz.func96 ?_;unfold Vv;simp -implicitDefEqProofs only[go_sem];refine (Hb T _ _ l x (s.Yb ((Zf.refl _ _).add _)) hl).use ?_;rintro _ h2 ⟨rfl,b2⟩;have b:Zf h.size h h2:=((Zf.refl _ _).add _).trans (b2.mono Dq);simp -implicitDefEqProofs only[go_sem,Nz,b]
theorem Ft(h:Hp)(b:Nat)(x y:Cm)(hb:h[b]? = M (Y x.C.toArray 43)):
  Zc av T 190 #[Vv y,Zr b] h fun v' h'=>v'=az (decide (y=x))/\Zf h.size h h':=by
 have ZL:=Za hb;refine Zc.Y8 [_,_] Tryz.func190 ?_;unfold Vv Zr;have Ys:b≠h.size:=gX;have r0:rd (h.push (Y y.C.toArray 43)) ⟨h.size,0,Z⟩ 5=M y.C:=Zs Zb rfl;have r1:rd (h.push (Y y.C.toArray 43)) ⟨b,0,Z⟩ 5=M x.C:=Zs (by rw[Zl ZL];exact hb) rfl;simp -implicitDefEqProofs only[go_sem,r0,r1]
def Lw(b:Nat):am:=WZ 190 [b]
theorem Hc(h:Hp)(v:am)(l:List Cm)(b:Nat)(x:Cm)(s:Ts QA.C 5 h v l)(hb:h[b]? = M (Y x.C.toArray 43))(hl:(O l)<=4611686018427387904):
  Zc av T 192 #[v,Lw b] h fun v' h'=>v'=U D (TE l x)/\Zf h.size h h':=by
 obtain⟨p,c,rfl,YR⟩:=JG s;refine Zc.Y8 [_,_] Tryz.func192 ?_;have ZL:=Za hb;unfold Lw WZ;simp -implicitDefEqProofs only[go_sem];refine VS.Z9 (fun F g=>Zf h.size h g/\F 0=aa p (O l) c/\F 1=Lw b/\F 7=U D (O l)/\∃i:Nat,i<=(O l)/\F 8=U D i/\∀j (hj:j<(O l)),j<i->l[j]≠x)
  (fun F _=>(O l)-(vi (F 8)).toNat) rfl ⟨Zf.refl _ _,rfl,rfl,rfl,0,gX,rfl,fun j hj q=>by omega⟩ ?_
 rintro F g ⟨hg,f0,f1,f7,i,hi,f8,Xc⟩;by_cases ZL:i<(O l)
 .have ZW:(i:Int)<(O l):=gX;obtain⟨bb,oo,rfl,U9,IC⟩:=YR (by intro e;rw[e]at ZL;simp at ZL);have r1:rd g ⟨bb,oo+i*5,Z⟩ 5=M (l[i]).C:=by rw[JW hg (by exact U9)];exact IC i ZL
  unfold Lw WZ at f1;simp only[List.map]at f1;simp -implicitDefEqProofs only[go_sem,f0,f1,f7,f8,ZW,r1];refine (Ft T g b x l[i] (hg.get gX hb)).use ?_;rintro _ g1 ⟨rfl,b1⟩;have WB:Zf h.size h g1:=hg.trans (b1.mono hg.size);by_cases q:l[i]=x
  .have e:=gu ZL q Xc;simp -implicitDefEqProofs only[go_sem,q,f8,e,WB]
  .simp -implicitDefEqProofs only[go_sem,q,f0,f1,f7,f8];refine⟨⟨WB,f0,f1,f7,i+1,ZL,rfl,fun j hj Vb=>?_⟩,?_⟩
   .by_cases e:j=i
    .subst e;exact q
    .exact Xc j hj gX
   .simp only[vi,Zk,↓reduceIte,f8];omega
 .have YU:¬(i:Int)<(O l):=gX;have e:=Fs (l:=l) (x:=x) fun j hj=>Xc j hj gX;simp -implicitDefEqProofs only[go_sem,f7,f8,YU,e,hg]
theorem Bq(h:Hp)(o:Ow)(t:Tg)(v:am)(m i:Nat)(cs:List am)(s:YP o t 43 5 h v m cs)(d:UO o h)(Xz:cs.all Yq=true)(hi:i<m)(hm:m<=4611686018427387904):
  Zc av T 193 #[v,U D i,U D ((i:Int)+1)] h fun v' h'=>YP o t 43 5 h' v' (m-1) (cs.take (i*5)++cs.drop ((i+1)*5))/\Kp (fun u=>u=t) o h o h':=by
 rcases s with⟨⟨p,rfl⟩,rfl,rfl⟩|⟨b,off,cap,pre,Zx,h1,rfl,h3,h4,h5,h6,h7⟩
 .omega
 refine Zc.Y8 [_,_,_] Tryz.func193 ?_;have e1:(i:Int)<=m:=gX;have e2:(i:Int)+1<=m:=gX;have e3:(m:Int)<=cap:=gX;have e4:(i:Int)≠i+1:=gX;have e5:((i:Int)+1).toNat=i+1:=gX;have e6:(0:Int)<=i+1:=gX;have e7:(i:Int)<=i+1:=gX;have e8:(i:Int)<=cap:=gX;have c0:cap≠0:=gX;simp -implicitDefEqProofs only[go_sem,e1,e2,e3,e4,e5,e6,e7,e8];refine VS.z (h.size) [6] (.p 0 (.p 1 (.p 2 (.p 3 (.p 4 (.p 5 (.w 6 (.p 7 .nil)))))))) mixed po ?_;simp -implicitDefEqProofs only[go_sem,e1,e2,e3,e4,e5,e6,e7,e8,c0];have hin:i*5<=m*5:=ba _ gX;have Zrc:(i+1)*5<=m*5:=ba _ gX;have As:m*5<=cap*5:=ba _ h7;have ZQ:h[b]? = M (Y (pre++(cs.take (i*5)++(cs.drop (i*5)++Zx))).toArray 43 (0,0)):=by
  rw[<-aw (ft _ _),a7];exact h3
 have src:Sl 5 h (aa (if cap=i+1 then M ⟨b,off,Z⟩ else M ⟨b,off+(i+1)*5,Z⟩) (m-(i+1)) (cap-(i+1))) (m-(i+1)) (cs.drop ((i+1)*5)):=by
  have:=(YP.tail (k:=i+1) (.inr ⟨b,off,cap,pre,Zx,h1,rfl,h3,h4,h5,h6,h7⟩:YP o t 43 5 h (aa (M ⟨b,off,Z⟩) m cap) m cs) gX).sl;rw[ez,addr_add]at this;exact this
 have nl:(cs.drop ((i+1)*5)).length=(m-(i+1))*5:=by rw[a6,h5,bH]
 refine If (E:=43) (n:=5) (m:=i) (k:=m-(i+1)) (cs:=cs.take (i*5)) Ce Tryz.underlying35 ZcA pI ZQ h4.symm aac src (bo.2 fun x hx=>bo.1 Xz x (de hx)) gX (by rw[al,a6,h5,<-bH];have:(m-(i+1))*5<=(m-i)*5:=ba _ gX;omega) ?_;obtain⟨g,hg⟩:=ZD (h.setIfInBounds b (Y (pre++((cs.take (i*5)++cs.drop ((i+1)*5))++(cs.drop (i*5)++Zx).drop ((m-(i+1))*5))).toArray 43 (0,0)):Hp);rw[<-hg];have kg:Kp (fun u=>u=t) o h o g:=by rw[hg];exact (Kp.refl d (fun u=>u=t)).set h1 rfl _
 have gb:=ZE (o:=Y (pre++((cs.take (i*5)++cs.drop ((i+1)*5))++(cs.drop (i*5)++Zx).drop ((m-(i+1))*5))).toArray 43 (0,0)) h3;rw[<-hg]at gb;have e9:i+(m-(i+1))=m-1:=gX;have f1:((m-1:Nat):Int)<=m:=gX;have f2:(0:Int)<=((m-1:Nat):Int):=gX;have f3:cap≠m-1:=gX;have f4:(((m-1:Nat):Int)).toNat=m-1:=gX;have f5:(0:Int)<=m:=gX;have f6:((m-1:Nat):Int)<=cap:=gX;rw[e9];simp -implicitDefEqProofs only[go_sem,e3,f1,f2,f3,f4,f5,f6];have tl:((cs.drop (i*5)++Zx).drop ((m-(i+1))*5)).length=5+(O Zx):=by
  rw[a6,al,a6,h5];have:(m-(i+1))*5+5=m*5-i*5:=by rw[<-bH,<-cy];congr 1;omega
  omega
 obtain⟨tail,ht⟩:=ZD ((cs.drop (i*5)++Zx).drop ((m-(i+1))*5));rw[<-ht]at gb tl;obtain⟨body,bJ⟩:=ZD (cs.take (i*5)++cs.drop ((i+1)*5));have bl:(O body)=(m-1)*5:=by
  rw[bJ,al,aI,nl,h5,bA hin,<-er];congr 1
 rw[<-bJ]at gb ⊢;have gb2:g[b]? = M (Y ((pre++body)++(tail.take 5++tail.drop 5)).toArray 43 (0,0)):=by
  rw[a7,aw];exact gb
 have e10:m-(m-1)=1:=gX;rw[e10];refine Mc (E:=43) (n:=5) (k:=1) Ce pI rfl rfl gb2 (by rw[al,h4,bl]) aac ?_;intro new cV;simp -implicitDefEqProofs only[go_sem];have kk:=kg.set h1 rfl (Y ((pre++body)++(new++tail.drop 5)).toArray 43 (0,0));refine⟨.inr ⟨b,off,cap,pre,new++tail.drop 5,h1,rfl,?_,h4,bl,?_,gX⟩,kk⟩
 .rw[ZE gb2,aw]
 .rw[al,cV,aI,a6,tl,h6];have:(cap-(m-1))*5=(cap-m)*5+5:=by rw[<-cy];congr 1;omega
  omega
theorem Br(h:Hp)(o:Ow)(t:Tg)(v:am)(m i:Nat)(cs:List am)(s:YP o t 170 14 h v m cs)(d:UO o h)(Xz:cs.all Yq=true)(hi:i<m)(hm:m<=4611686018427387904):
  Zc av T 100 #[v,U D i,U D ((i:Int)+1)] h fun v' h'=>YP o t 170 14 h' v' (m-1) (cs.take (i*14)++cs.drop ((i+1)*14))/\Kp (fun u=>u=t) o h o h':=by
 rcases s with⟨⟨p,rfl⟩,rfl,rfl⟩|⟨b,off,cap,pre,Zx,h1,rfl,h3,h4,h5,h6,h7⟩
 .omega
 refine Zc.Y8 [_,_,_] Tryz.func100 ?_;have e1:(i:Int)<=m:=gX;have e2:(i:Int)+1<=m:=gX;have e3:(m:Int)<=cap:=gX;have e4:(i:Int)≠i+1:=gX;have e5:((i:Int)+1).toNat=i+1:=gX;have e6:(0:Int)<=i+1:=gX;have e7:(i:Int)<=i+1:=gX;have e8:(i:Int)<=cap:=gX;have c0:cap≠0:=gX;simp -implicitDefEqProofs only[go_sem,e1,e2,e3,e4,e5,e6,e7,e8];refine VS.z (h.size) [6] (.p 0 (.p 1 (.p 2 (.p 3 (.p 4 (.p 5 (.w 6 (.p 7 .nil)))))))) mixed po ?_;simp -implicitDefEqProofs only[go_sem,e1,e2,e3,e4,e5,e6,e7,e8,c0];have hin:i*14<=m*14:=ba _ gX;have Zrc:(i+1)*14<=m*14:=ba _ gX;have As:m*14<=cap*14:=ba _ h7;have ZQ:h[b]? = M (Y (pre++(cs.take (i*14)++(cs.drop (i*14)++Zx))).toArray 170 (0,0)):=by
  rw[<-aw (ft _ _),a7];exact h3
 have src:Sl 14 h (aa (if cap=i+1 then M ⟨b,off,Z⟩ else M ⟨b,off+(i+1)*14,Z⟩) (m-(i+1)) (cap-(i+1))) (m-(i+1)) (cs.drop ((i+1)*14)):=by
  have:=(YP.tail (k:=i+1) (.inr ⟨b,off,cap,pre,Zx,h1,rfl,h3,h4,h5,h6,h7⟩:YP o t 170 14 h (aa (M ⟨b,off,Z⟩) m cap) m cs) gX).sl;rw[ez,addr_add]at this;exact this
 have nl:(cs.drop ((i+1)*14)).length=(m-(i+1))*14:=by rw[a6,h5,bH]
 refine If (E:=170) (n:=14) (m:=i) (k:=m-(i+1)) (cs:=cs.take (i*14)) Eo d4 pJ fv ZQ h4.symm aac src (bo.2 fun x hx=>bo.1 Xz x (de hx)) gX (by rw[al,a6,h5,<-bH];have:(m-(i+1))*14<=(m-i)*14:=ba _ gX;omega) ?_;obtain⟨g,hg⟩:=ZD (h.setIfInBounds b (Y (pre++((cs.take (i*14)++cs.drop ((i+1)*14))++(cs.drop (i*14)++Zx).drop ((m-(i+1))*14))).toArray 170 (0,0)):Hp);rw[<-hg];have kg:Kp (fun u=>u=t) o h o g:=by rw[hg];exact (Kp.refl d (fun u=>u=t)).set h1 rfl _
 have gb:=ZE (o:=Y (pre++((cs.take (i*14)++cs.drop ((i+1)*14))++(cs.drop (i*14)++Zx).drop ((m-(i+1))*14))).toArray 170 (0,0)) h3;rw[<-hg]at gb;have e9:i+(m-(i+1))=m-1:=gX;have f1:((m-1:Nat):Int)<=m:=gX;have f2:(0:Int)<=((m-1:Nat):Int):=gX;have f3:cap≠m-1:=gX;have f4:(((m-1:Nat):Int)).toNat=m-1:=gX;have f5:(0:Int)<=m:=gX;have f6:((m-1:Nat):Int)<=cap:=gX;rw[e9];simp -implicitDefEqProofs only[go_sem,e3,f1,f2,f3,f4,f5,f6];have tl:((cs.drop (i*14)++Zx).drop ((m-(i+1))*14)).length=14+(O Zx):=by
  rw[a6,al,a6,h5];have:(m-(i+1))*14+14=m*14-i*14:=by rw[<-bH,<-cy];congr 1;omega
  omega
 obtain⟨tail,ht⟩:=ZD ((cs.drop (i*14)++Zx).drop ((m-(i+1))*14));rw[<-ht]at gb tl;obtain⟨body,bJ⟩:=ZD (cs.take (i*14)++cs.drop ((i+1)*14));have bl:(O body)=(m-1)*14:=by
  rw[bJ,al,aI,nl,h5,bA hin,<-er];congr 1
 rw[<-bJ]at gb ⊢;have gb2:g[b]? = M (Y ((pre++body)++(tail.take 14++tail.drop 14)).toArray 170 (0,0)):=by
  rw[a7,aw];exact gb
 have e10:m-(m-1)=1:=gX;rw[e10];refine Mc (E:=170) (n:=14) (k:=1) Eo fv rfl rfl gb2 (by rw[al,h4,bl]) aac ?_;intro new cV;simp -implicitDefEqProofs only[go_sem];have kk:=kg.set h1 rfl (Y ((pre++body)++(new++tail.drop 14)).toArray 170 (0,0));refine⟨.inr ⟨b,off,cap,pre,new++tail.drop 14,h1,rfl,?_,h4,bl,?_,gX⟩,kk⟩
 .rw[ZE gb2,aw]
 .rw[al,cV,aI,a6,tl,h6];have:(cap-(m-1))*14=(cap-m)*14+14:=by rw[<-cy];congr 1;omega
  omega
section
variable {α:Type} {enc:α->List am} {n:Nat}
theorem RT(QZ:∀x,(enc x).length=n)(l:List α)(i:Nat)(hi:i<=(O l)):(ZK enc l).take (i*n)=ZK enc (l.take i):=by
 have h1:(ZK enc (l.take i)).length=i*n:=by rw[Jn QZ,aI,bA hi]
 have h2:ZK enc l=ZK enc (l.take i)++ZK enc (l.drop i):=by rw[<-YD,a7]
 rw[h2,<-h1,List.take_left]
theorem TF(QZ:∀x,(enc x).length=n)(l:List α)(i:Nat)(hi:i<=(O l)):(ZK enc l).drop (i*n)=ZK enc (l.drop i):=by
 have h1:(ZK enc (l.take i)).length=i*n:=by rw[Jn QZ,aI,bA hi]
 have h2:ZK enc l=ZK enc (l.take i)++ZK enc (l.drop i):=by rw[<-YD,a7]
 rw[h2,<-h1,List.drop_left]
theorem sL(QZ:∀x,(enc x).length=n)(l:List α)(i:Nat)(hi:i<(O l))(y:α):ZK enc (l.set i y)=(ZK enc l).take (i*n)++(enc y++(ZK enc l).drop ((i+1)*n)):=by
 rw[List.set_eq_take_append_cons_drop,if_pos hi,YD,RT QZ _ _ gX,TF QZ _ _ gX];rfl
end
theorem zj(l:List Cm):(ZK QA.C l).all Yq=true:=by
 induction l with
 | nil=>rfl
 | cons x l ih=>rw[ZK,List.all_append,ih];rfl
theorem VT{j:Nat}(hj:j<(O l))(q:Cm->Bool):(l.take (j+1)).filter q=(l.take j).filter q++if q l[j]=true then [l[j]] else []:=by
 rw[Yp l j hj,List.filter_append]
 congr 1
 cases h:q l[j]<;>simp[h]
theorem Bt{x:Cm}{i:Nat}(h:TE l x=i):i<(O l)/\(l.take i).filter (fun y=>decide (y≠x))=l.take i/\l[i]? = M x:=by
 unfold TE at h;split at h
 .rename_i hm;have hi:l.idxOf x=i:=gX;have h1:l.idxOf x<(O l):=b0 hm;refine⟨gX,?_,?_⟩
  .rw[dn];intro y hy;obtain⟨k,hk,rfl⟩:=bS hy;rw[aI]at hk;rw[List.getElem_take];have:=cx (p:=(· == x)) (xs:=l) (i:=k) (show k<List.findIdx (· == x) l by rw[show List.findIdx (· == x) l=l.idxOf x from rfl];omega)
   simpa using this
  .rw[<-hi,bc h1,d5 h1]
 .omega
theorem Bu(h:Hp)(o:Ow)(t:Tg)(v:am)(l:List Cm)(bx:Nat)(x:Cm)(s:Uc o t h v l)(d:UO o h)(hb:ZY o h bx (Y x.C.toArray 43))(hl:(O l)<=4611686018427387904):
  Zc av T 191 #[v,Lw bx] h fun v' h'=>Uc o t h' v' (l.filter fun y=>decide (y≠x))/\Kp (fun u=>u=t) o h o h':=by
 have ts:Ts QA.C 5 h v l:=⟨s.sl⟩
 obtain⟨p,c,rfl,YR⟩:=JG ts;refine Zc.Y8 [_,_] Tryz.func191 ?_;unfold Lw WZ;simp -implicitDefEqProofs only[go_sem];refine (Hc T h _ l bx x ts hb.2 hl).use ?_;rintro _ h1 ⟨rfl,b1⟩;have k1:Kp (fun u=>u=t) o h o h1:=Kp.Ie d b1 _;by_cases hm:x∈l
 case neg=>
  have e:TE l x = -1:=by unfold TE;rw[if_neg hm]
  have e2:(l.filter fun y=>decide (y≠x))=l:=by
   rw[dn];intro y hy;simpa using fun q=>hm (by rw[<-q];exact hy)
  simp -implicitDefEqProofs only[go_sem,e,e2];exact⟨Uc.Zd (S:=fun _=>False) s (Kp.Ie d b1 _) id,k1⟩
 obtain⟨i0,VX⟩:∃i:Nat,TE l x=i:=⟨l.idxOf x,by unfold TE;rw[if_pos hm]⟩
 obtain⟨hi,hf,hx⟩:=Bt VX;rcases s with⟨⟨q,vq⟩,vu,h3'⟩|⟨b,off,cap,pre,Zx,o1,hv,o3,o4,o5,o6,o7⟩
 .omega
 simp only[Value.slice.injEq]at hv;obtain⟨rfl,_,rfl⟩:=hv;have i1:¬((i0:Nat):Int) = -1:=gX;simp -implicitDefEqProofs only[go_sem,VX,i1];obtain⟨q,hq⟩:∃q:Cm->Bool,q=fun y=>decide ¬y=x:=⟨_,rfl⟩
 have hq':(fun y=>decide (y≠x))=q:=by rw[hq]
 have hqx:∀y,q y=decide ¬y=x:=fun y=>by rw[hq]
 rw[hq']at hf;rw[<-hq];have Bb:l[i0]=x:=by rw[bc hi]at hx;exact Option.some.inj hx
 have sl:(O l)<=c:=o7;have el:∀L:List Cm,(ZK QA.C L).length=(O L)*5:=fun L=>Jn (n:=5) Ny L;refine VS.Z9 (fun F g=>F 0=aa (M ⟨b,off,Z⟩) (O l) c/\F 1=Lw bx/\Kp (fun u=>u=t) o h o g/\∃(i j:Nat) (L:List Cm),F 5=U D i/\F 6=U D j/\j<=(O l)/\i<j/\(O L)=(O l)/\L.take i=(l.take j).filter q/\L.drop j=l.drop j/\i=((l.take j).filter q).length /\
   g[b]? = M (Y (pre++(ZK QA.C L++Zx)).toArray 43 (0,0)))
  (fun F _=>(O l)-(vi (F 6)).toNat) rfl ⟨rfl,rfl,k1,i0,i0+1,l,rfl,?_,gX,gX,rfl,?_,rfl,?_,b1.get (Za o3) o3⟩ ?_
 .show Value.int D _=_
  congr 1
 .rw[VT hi,hf,Bb,hqx,if_neg Dq,bR]
 .rw[VT hi,hf,Bb,hqx,if_neg Dq,bR,aI];omega
 rintro F g ⟨f0,f1,kg,i,j,L,f5,f6,hj,HI,hL,hLi,hLj,Dv,gb⟩;unfold Lw WZ at f1;simp only[List.map]at f1;have gl:=Za gb;by_cases ZL:j<(O l)
 .have ZW:(j:Int)<(O l):=gX;have hjL:L[j]? = l[j]?:=by
   have:=congrArg (fun z=>z[0]?) hLj
   simpa using this
  have AL:j<(O L):=gX;have hjE:L[j]=l[j]:=by
   rw[bc AL,bc ZL]at hjL;exact Option.some.inj hjL
  have ow:YP o t 43 5 g (aa (M ⟨b,off,Z⟩) (O L) c) (O L) (ZK QA.C L):=.inr ⟨b,off,c,pre,Zx,o1,rfl,gb,o4,el L,by rw[hL];exact o6,gX⟩;obtain⟨p2,c2,qN,MR⟩:=JG (⟨ow.sl⟩:Ts QA.C 5 g _ L);obtain⟨bb,oo,i7,_,hr⟩:=MR (by intro e;rw[e]at AL;simp at AL);subst i7;simp only[Value.slice.injEq,Option.some.injEq,Addr.mk.injEq]at qN;obtain⟨⟨rfl,rfl,_⟩,_,rfl⟩:=qN;have r1:rd g ⟨b,off+j*5,Z⟩ 5=M (l[j]).C:=by rw[hr j AL,hjE]
  simp -implicitDefEqProofs only[go_sem,f0,f1,f5,f6,ZW,r1];have bxg:=hb.Zd kg;have bxl:bx≠g.size:=by have:=Za bxg.2;omega
  refine (Ft T _ bx x l[j] (by rw[Zl (Za bxg.2)];exact bxg.2)).use ?_;rintro _ g1 ⟨rfl,b1'⟩;have bp:Zf g.size g g1:=(Zf.push (be _) _).trans (b1'.mono Dq);have kg1:Kp (fun u=>u=t) o h o g1:=kg.Yb bp;have gb1:=bp.get gl gb;have Zrg:g1[g.size]? = M (Y (l[j]).C.toArray 43):=b1'.get Dq Zb;have yr:rd g1 ⟨g.size,0,Z⟩ 5=M (l[j]).C:=Zs Zrg rfl;have fs:=VT ZL q;have hd1:∀L':List Cm,L'.drop j=l.drop j->L'.drop (j+1)=l.drop (j+1):=fun L' h=>by
   rw[<-dl,<-dl,h]
  by_cases hxj:l[j]=x
  .have fs':(l.take (j+1)).filter q=(l.take j).filter q:=by rw[fs,hqx,if_neg (by simp[hxj]),bR]
   simp -implicitDefEqProofs only[go_sem,hxj,f0,f1,f5,f6];refine⟨⟨f0,f1,kg1,i,j+1,L,f5,rfl,ZL,gX,hL,by rw[fs'];exact hLi,hd1 L hLj,by rw[fs'];exact Dv,gb1⟩,?_⟩;simp only[vi,Zk,↓reduceIte,f6];omega
  .have fs':(l.take (j+1)).filter q=(l.take j).filter q++[l[j]]:=by rw[fs,hqx,if_pos (by simp[hxj])]
   have i0':(0:Int)<=i:=gX;have i1':(i:Int)<(O l):=gX;have hiL:i<(O L):=gX;have w1:=Z2 gb1 (off+i*5) (l[j]).C;have eL:YJ (pre++(ZK QA.C L++Zx)) (off+i*5) (l[j]).C=pre++(ZK QA.C (L.set i l[j])++Zx):=by
    have e1:ZK QA.C L=(ZK QA.C L).take (i*5)++(((ZK QA.C L).drop (i*5)).take 5++(ZK QA.C L).drop ((i+1)*5)):=by
     have:(ZK QA.C L).drop ((i+1)*5)=((ZK QA.C L).drop (i*5)).drop 5:=by rw[dl];congr 1;omega
     rw[this,a7,a7]
    have hle:(i+1)*5<=(ZK QA.C L).length:=by rw[el];omega
    rw[sL Ny L i hiL]
    conv=>lhs;rw[e1]
    have e2:pre++(((ZK QA.C L).take (i*5)++(((ZK QA.C L).drop (i*5)).take 5++(ZK QA.C L).drop ((i+1)*5)))++Zx)=(pre++(ZK QA.C L).take (i*5))++(((ZK QA.C L).drop (i*5)).take 5++((ZK QA.C L).drop ((i+1)*5)++Zx)):=by simp only[aw]
    rw[e2,Vg (by rw[al,o4,aI];omega) (by rw[aI,a6,Ny];omega)];simp only[aw]
   rw[eL,if_pos ⟨by rw[al,al,o4,el,Ny];omega,sJ _⟩]at w1;simp -implicitDefEqProofs only[go_sem,hxj,f0,f1,f5,f6,yr,i0',i1',w1];refine⟨⟨f0,f1,kg1.set o1 rfl _,i+1,j+1,L.set i l[j],rfl,rfl,ZL,gX,by rw[eA,hL],?_,?_,?_,ZE gb1⟩,?_⟩
   .rw[Yp _ i (by rw[eA];exact hiL),List.take_set_of_le (be _),List.getElem_set_self,fs',<-hLi]
   .refine hd1 _ ?_;rw[<-hLj,List.drop_set_of_lt gX]
   .rw[fs',al,<-Dv];rfl
   .simp only[vi,Zk,↓reduceIte,f6];omega
 .have YU:¬(j:Int)<(O l):=gX;obtain rfl:j=(O l):=gX;rw[cr]at hLi Dv;have hiL:i<=(O L):=gX;have gb2:g[b]? = M (Y ((pre++ZK QA.C (L.take i))++(ZK QA.C (L.drop i)++Zx)).toArray 43 (0,0)):=by
   rw[<-RT Ny L i hiL,<-TF Ny L i hiL];have:(pre++(ZK QA.C L).take (i*5))++((ZK QA.C L).drop (i*5)++Zx)=pre++(ZK QA.C L++Zx):=by
    rw[aw,<-aw (ft _ _),a7]
   rw[this];exact gb
  have tl:(ZK QA.C (L.take i)).length=i*5:=by rw[el,aI,bA hiL]
  simp -implicitDefEqProofs only[go_sem,f0,f5,f6,YU];refine Mc (E:=43) (n:=5) (k:=(O l)-i) Ce pI rfl rfl gb2 (by rw[al,o4,tl]) (by rw[el,a6,hL]) ?_;intro new cV;have i2:(i:Int)<=c:=gX;simp -implicitDefEqProofs only[go_sem,i2,f0,f5];have e:(ZK QA.C (L.take i))=ZK QA.C (l.filter q):=by rw[hLi]
  refine⟨.inr ⟨b,off,c,pre,new++Zx,o1,by rw[<-Dv],?_,o4,el _,?_,gX⟩,kg.set o1 rfl _⟩
  .rw[ZE gb2,<-e,aw]
  .rw[al,cV,el,a6,o6,hL,<-Dv,<-er];congr 1;omega
@[go_sem] theorem Zrh(x:Vt):YM [M D,M D,M D,M D,M D,M D,M D,M D] (Zn x)=true:=rfl
@[go_sem] theorem Zri(x y:Vt):leq (Zn x) (Zn y)=decide (x=y):=by
 obtain⟨a,⟨b,c⟩,d,e,f,g,k⟩:=x;obtain⟨a',⟨b',c'⟩,d',e',f',g',k'⟩:=y;unfold Zn;rw[cA];simp[leq,ceq,Vt.mk.injEq,and_assoc]
@[go_sem] theorem ZmG(x:Ji):YM [M D,M D] (JF x)=true:=rfl
@[go_sem] theorem ZmH(x y:Ji):leq (JF x) (JF y)=decide (x=y):=by
 obtain⟨a,b⟩:=x;obtain⟨a',b'⟩:=y;unfold JF;rw[cA];simp[leq,ceq,Ji.mk.injEq]
@[go_sem] theorem ZiF(x:Vt):(Zn x).length=8:=rfl
theorem Hd{l:List Vt}(s:Ts Zn 8 h v l):∃p c,v=aa p (O l) c/\(l≠[]->∃b o,p=M ⟨b,o,Z⟩/\b<h.size/\∀i (hi:i<(O l)),rd h ⟨b,o+i*8,Z⟩ 8=M (Zn l[i])):=by
 obtain⟨p,c,hv,hh⟩:=s.open ZiF MZ;refine⟨p,c,hv,fun Ys=>?_⟩;obtain⟨b,o,h1,h2,h3⟩:=hh Ys;exact⟨b,o,h1,h2,fun i hi=>(h3 i hi).rd (by simp[Zn]) rfl⟩
theorem dk(h:Hp)(v:am)(l:List Vt)(x:Vt)(s:Ts Zn 8 h v l)(hl:(O l)<=4611686018427387904):
  Zc av T 194 #[v,bf (Zn x).toArray] h fun v' h'=>(∃i:Int,v'=U D i/\(0<=i↔x∈l))/\Zf h.size h h':=by
 obtain⟨p,c,rfl,YR⟩:=Hd s;refine Zc.Y8 [_,_] Tryz.func194 ?_;simp -implicitDefEqProofs only[go_sem];obtain⟨h1,YX⟩:=ZD (h.push (Y (Zn x).toArray 168):Hp);have b1:Zf h.size h h1:=by rw[YX];exact Zf.push (be _) _
 have x1:h1[h.size]? = M (Y (Zn x).toArray 168):=by rw[YX];exact Zb
 rw[<-YX];clear YX;refine VS.Z9 (fun F g=>g=h1/\F 0=aa p (O l) c/\F 3=ao (M ⟨h.size,0,Z⟩)/\F 7=U D (O l)/\∃i:Nat,i<=(O l)/\F 8=U D i/\∀j (hj:j<(O l)),j<i->l[j]≠x)
  (fun F _=>(O l)-(vi (F 8)).toNat) rfl ⟨rfl,rfl,rfl,rfl,0,gX,rfl,fun j hj q=>by omega⟩ ?_
 rintro F g ⟨rfl,f0,f3,f7,i,hi,f8,Xc⟩;by_cases ZL:i<(O l)
 .have ZW:(i:Int)<(O l):=gX;obtain⟨bb,oo,rfl,U9,IC⟩:=YR (by intro e;rw[e]at ZL;simp at ZL);have r1:rd g ⟨bb,oo+i*8,Z⟩ 8=M (Zn l[i]):=by rw[JW b1 (by exact U9)];exact IC i ZL
  have r0:rd g ⟨h.size,0,Z⟩ 8=M (Zn x):=Zs x1 rfl;simp -implicitDefEqProofs only[go_sem,f0,f3,f7,f8,ZW];refine VS.q mixed po ?_;simp -implicitDefEqProofs only[go_sem,f0,f3,f7,f8,ZW,r1,r0];by_cases q:l[i]=x
  .rw[q];simp -implicitDefEqProofs only[go_sem,b1];exact⟨_,rfl,fun _=>q▸bn ZL,fun _=>by omega⟩
  .have q':¬x=l[i]:=fun e=>q e.symm;simp -implicitDefEqProofs only[go_sem,q',f0,f3,f7,f8];refine⟨⟨rfl,f0,f3,f7,i+1,ZL,rfl,fun j hj Vb=>?_⟩,?_⟩
   .by_cases e:j=i
    .subst e;exact q
    .exact Xc j hj gX
   .simp only[vi,Zk,↓reduceIte,f8];omega
 .have YU:¬(i:Int)<(O l):=gX;have hx:x ∉ l:=fun hm=>by obtain⟨j,hj,he⟩:=bS hm;exact Xc j hj gX he
  simp -implicitDefEqProofs only[go_sem,f7,f8,YU,b1,hx];exact⟨-1,rfl,fun q=>by omega,fun q=>q.elim⟩
theorem Gu(h:Hp)(v:am)(l:List Vt)(x:Vt)(s:Ts Zn 8 h v l)(hl:(O l)<=4611686018427387904):
  Zc av T 158 #[v,bf (Zn x).toArray] h fun v' h'=>v'=az (decide (x∈l))/\Zf h.size h h':=by
 obtain⟨p,c,rfl,YR⟩:=Hd s;refine Zc.Y8 [_,_] Tryz.func158 ?_;simp -implicitDefEqProofs only[go_sem];refine (dk T _ _ l x (s.Yb ((Zf.refl _ _).add _)) hl).use ?_;rintro _ h2 ⟨⟨i,rfl,hi⟩,b2⟩;have b:Zf h.size h h2:=((Zf.refl _ _).add _).trans (b2.mono Dq);simp -implicitDefEqProofs only[go_sem,hi,b]
theorem NB(h:Hp)(a b:Ji):Zc av T 131 #[bf (JF a).toArray,bf (JF b).toArray] h fun v' h'=>v'=az (decide (Y4 b a))/\Zf h.size h h':=by
 refine Zc.Y8 [_,_] Tryz.func131 ?_;unfold JF;by_cases q1:b.r<a.r
 .have e:Y4 b a:=.inl q1;simp -implicitDefEqProofs only[go_sem,q1,e]
  (repeat' (first|exact Zf.refl _ _|assumption|refine Zf.add ?_ _|refine Zf.Zj ?_ aaa _|refine Zf.trans aab ?_))
 .by_cases q2:a.r=b.r
  .by_cases q3:b.n<a.n
   .have e:Y4 b a:=.inr ⟨q2.symm,q3⟩;simp -implicitDefEqProofs only[go_sem,q1,q2,q3,e]
    (repeat' (first|exact Zf.refl _ _|assumption|refine Zf.add ?_ _|refine Zf.Zj ?_ aaa _|refine Zf.trans aab ?_))
   .have e:¬Y4 b a:=fun h=>by rcases h with h|⟨_,h⟩<;>omega
    simp -implicitDefEqProofs only[go_sem,q1,q2,q3,e]
    (repeat' (first|exact Zf.refl _ _|assumption|refine Zf.add ?_ _|refine Zf.Zj ?_ aaa _|refine Zf.trans aab ?_))
  .have e:¬Y4 b a:=fun h=>by rcases h with h|⟨h,_⟩<;>omega
   simp -implicitDefEqProofs only[go_sem,q1,q2,e]
   (repeat' (first|exact Zf.refl _ _|assumption|refine Zf.add ?_ _|refine Zf.Zj ?_ aaa _|refine Zf.trans aab ?_))
theorem Kq(h:Hp)(n:Nat)(hn:n<=1000000000000):Zc av T 155 #[U D n] h fun v' h'=>v'=az (decide (5<2*n))/\h'=h:=by
 refine Zc.Y8 [_] Tryz.func155 ?_;have e:((5:Int)<2*(n:Int))=(5<2*n):=by apply propext;omega
 simp -implicitDefEqProofs only[go_sem,e]
end Go.Proofs.YtdpjmhgbmhjniaaGreatDoor
