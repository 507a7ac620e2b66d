/- Part W31. -/
import Derived.Test.YtkhkmpfenaipaaaGreatDoorW21
import Derived.Sort.Grow
import Derived.Deep.Draws
import Derived.Lib.UnsafeStr
import Derived.RangeFuncLeaves
import Derived.RangeFuncRecord
import Derived.OrdersIn
import Derived.TacticsIn
import Derived.RangeFuncSeq
import Derived.RangeFuncBound
open Go.Value renaming slice→J,int→L,bool→U
open Go.IntKind renaming i64→B
open Go.Obj renaming cells→ak
open List renaming length→G,getElem?_toArray→aa,eq_nil_of_length_eq_zero→al,getElem?_cons_zero→aw,getElem?_cons_succ→ax,length_append→aL
open Nat renaming le_refl→ao,mul_le_mul_right→aC,add_zero→aV
open Option renaming some→A,none→O
open Array renaming setIfInBounds→W,length_toList→aH,ext_getElem?→aI
open Bool renaming false_eq_true→aS,not_false→aW
open Go.Builtin renaming zeroCells→Z,append_→ae,clear_→aX
open Go renaming Value→D,TypeId→M,Program→Y,Operand→am,World→aF
namespace Go.V
set_option linter.all false
section
variable {P:Y} {T:aF} {ty:M} {F:Env} {h:Hp} {K:D->Hp->Prop}
def HN(P:Y)(t:M)(m x:D)(c:Bool)(K:D->Hp->Prop)(h:Hp):Prop:=hw P (Instr.lookup t m x c) K h
def Zbi(P:Y)(t:M)(K:D->Hp->Prop)(h:Hp):Prop:=hw P (Instr.makeMap t O) K h
@[go_sem] theorem lV{t:M}{m x:am}{c:Bool}:Sy P T (.lookup t m x c) ty K F h=HN P t (ev F m) (ev F x) c K h:=by
 show hw P (do pure (Next.value (<-Instr.lookup t (ev F m) (ev F x) c))) (JX P T K) h=_;rw[Zk];rfl
@[go_sem] theorem fo{t:M}:Sy P T (.makeMap t O) ty K F h=Zbi P t K h:=by
 show hw P (do pure (Next.value (<-Instr.makeMap t O))) (JX P T K) h=_;rw[Zk];rfl
@[go_sem] theorem Zj4{t:M}{m x:am}{c:Bool}:Bj P T ⟨O,.lookup t m x c,ty, "", #[],O⟩ K F h=HN P t (ev F m) (ev F x) c K h:=lV
@[go_sem] theorem ZiS{t:M}:Bj P T ⟨O,.makeMap t O,ty, "", #[],O⟩ K F h=Zbi P t K h:=fo
@[go_sem] theorem Zow{t:M}:Zbi P t K h=K (.map (A h.size)) (h.push (.map #[] 0)):=rfl
variable {α:Type} [DecidableEq α] {enc:α->List D}
theorem BG{e:M}{v:D}(a:(P.info? e).bind (·.zero)=A v){Q:D->Hp->Prop}:hw P (zeroValue e) Q h=Q v h:=by
 cases hi:P.info? e with
 | none=>rw[hi]at a;cases a
 | some i=>
  rw[hi]at a;unfold zeroValue;rw[Zk,Jp hi];have a:i.zero=A v:=a;simp only[a];rfl
theorem Lm{b:Nat}{es:Array MapEntry}{c:Nat}(a:h[b]? = A (.map es c)){Q:Obj->Hp->Prop}:hw P (getObj b) Q h↔Q (.map es c) h:=
 ⟨fun⟨o,d,_,e⟩=>(by rw[a]at d;cases d;exact e),fun H=>⟨_,a,rfl,H⟩⟩
end
end Go.V
namespace Go.V
set_option linter.all false
variable{b:Nat}{t:M}{x y:am}
def YF{β:Type}:List (Int × β)->Int->Option β
 | [],_=>O
 | (a,v) :: r,k=>if a=k then A v else YF r k
def ins{β:Type}:List (Int × β)->Int->β->List (Int × β)
 | [],k,v=>[(k,v)]
 | (a,x) :: r,k,v=>if a=k then (a,v) :: r else (a,x) :: ins r k v
def T6{β γ:Type}(f:β->γ)(l:List (Int × β)):List (Int × γ):=l.map fun x=>(x.1,f x.2)
theorem JN{β γ:Type}(f:β->γ):∀(l:List (Int × β)) (k:Int),YF (T6 f l) k=(YF l k).map f:=by
 intro l k
 induction l with
 | nil=>rfl
 | cons x l a=>
  grind [YF,T6]
theorem Nh{β γ:Type}(f:β->γ):∀(l:List (Int × β)) (k:Int) (v:β),T6 f (ins l k v)=ins (T6 f l) k (f v):=by
 intro l k v
 induction l with
 | nil=>rfl
 | cons x l a=>
  grind [T6,ins]
theorem HP{β γ:Type}(f:β->γ)(l:List (Int × β)):(T6 f l).length=(G l):=List.length_map ..
theorem Ln{β:Type}:∀(l:List (Int × β)) (k:Int) (v:β),(ins l k v).length=if (YF l k).isSome=true then (G l) else (G l)+1:=by
 intro l k v
 induction l with
 | nil=>rfl
 | cons x l a=>
  grind [ins.eq_def,YF.eq_def]
theorem XQ{β:Type}:∀(l:List (Int × β)) (k j:Int) (v:β),YF (ins l k v) j=if k=j then A v else YF l j:=by
 intro l k j v
 induction l with
 | nil=>rfl
 | cons x l a=>
  grind [ins.eq_def,YF.eq_def]
theorem Zbj{β:Type}{l:List (Int × β)}{k:Int}(h:YF l k=O):∀x∈l,x.1≠k:=by
 induction l with
 | nil=>grind
 | cons y l a=>
  grind [YF.eq_def]
theorem SP{β:Type}{l:List (Int × β)}{k:Int}{v:β}(h:YF l k=A v):(k,v)∈l:=by
 induction l with
 | nil=>cases h
 | cons y l a=>
  grind [YF.eq_def]
section
variable {P:Y} {T:aF} {ty:M} {F:Env} {h:Hp} {K:D->Hp->Prop}
def UR:Nat->List (Int × D)->List MapEntry
 | _,[]=>[]
 | i,(k,v) :: l=>⟨L B k,v,i⟩ :: UR (i+1) l
def JO(l:List (Int × D)):Obj:=.map (UR 0 l).toArray (G l)
theorem Og:∀(l:List (Int × D)) (i:Nat),(UR i l).length=(G l):=by
 intro l
 induction l with
 | nil=>intro i;rfl
 | cons x l a=>intro i;let⟨k,v⟩:=x;simp[UR,a]
def IM(l:List (Int × D))(k:Int):Nat->Option (Nat × D):=fun j=>match l with
 | []=>O
 | (a,v) :: r=>if k=a then A (j,v) else IM r k (j+1)
theorem fp(k:Int):∀(l:List (Int × D)) (i j:Nat),Instr.findNow (.int B) (L B k) (UR i l) j=A (IM l k j):=by
 intro l
 induction l with
 | nil=>intro i j;rfl
 | cons x l d=>
  intro i j;let⟨a,v⟩:=x;unfold UR Instr.findNow IM;simp only[Instr.sameNow,if_true]
  grind
theorem Zbk(k:Int):∀(l:List (Int × D)) (j:Nat),(IM l k j).map (·.2)=YF l k:=by
 intro l
 induction l with
 | nil=>intro j;rfl
 | cons x l a=>
  grind [IM.eq_def,YF.eq_def]
theorem vu{k:Int}:∀{l:List (Int × D)} {j:Nat},IM l k j=O->∀(v:D),ins l k v=l++[(k,v)]:=by
 intro l
 induction l with
 | nil=>intro j _ v;rfl
 | cons x l a=>
  grind [ins.eq_def,IM.eq_def]
theorem lW(k:Int)(v:D):∀(l:List (Int × D)) (i:Nat),UR i (l++[(k,v)])=UR i l++[⟨L B k,v,i+(G l)⟩]:=by
 intro l
 induction l with
 | nil=>intro i;rfl
 | cons x l a=>grind [UR.eq_2]
theorem vw{k:Int}:∀{l:List (Int × D)} {i j:Nat} {n:Nat} {u:D},IM l k j=A (n,u)->∃m,n=m+j/\m<(G l)/\(UR i l)[m]? = A ⟨L B k,u,i+m⟩/\∀v,UR i (ins l k v)=(UR i l).set m ⟨L B k,v,i+m⟩:=by
 intro l
 induction l with
 | nil=>intro i j n u h;cases h
 | cons x l e=>
  intro i j n u h;let⟨a,w⟩:=x;unfold IM at h;by_cases d:k=a
  .subst d;rw[if_pos rfl]at h
   cases h
   grind [UR,ins.eq_def]
  .rw[if_neg d]at h;let⟨m,r,q,p,g⟩:=e (i:=i+1) h;refine⟨m+1,uh,zK,?_,fun v=>?_⟩
   .grind [UR]
   grind [UR,ins.eq_def]
def HQ(P:Y)(t:M)(m k x:D)(K:D->Hp->Prop)(h:Hp):Prop:=hw P (Instr.mapUpdate t m k x) (fun _ h=>K undef h) h
@[go_sem] theorem CI{m k:am}:Sy P T (.mapUpdate t m k x) ty K F h=HQ P t (ev F m) (ev F k) (ev F x) K h:=by
 show hw P (do let _ <-Instr.mapUpdate t (ev F m) (ev F k) (ev F x);pure Next.skip) (JX P T K) h=_;rw[Zk];rfl
@[go_sem] theorem lX{m k:am}:Sy P T (.insert t m k x) ty K F h=HQ P t (ev F m) (ev F k) (ev F x) K h:=by
 show hw P (do let _ <-Instr.mapUpdate t (ev F m) (ev F k) (ev F x);pure Next.skip) (JX P T K) h=_;rw[Zk];rfl
@[go_sem] theorem Ze2{m k:am}:Bj P T ⟨O,.mapUpdate t m k x,ty, "", #[],O⟩ K F h=HQ P t (ev F m) (ev F k) (ev F x) K h:=CI
@[go_sem] theorem Zj5{m k:am}:Bj P T ⟨O,.insert t m k x,ty, "", #[],O⟩ K F h=HQ P t (ev F m) (ev F k) (ev F x) K h:=lX
def qQ(P:Y)(t:M):Option M:=match P.underlying t with
 | some (.map k e)=>(match P.underlying k with|some (.int B)=>A e|_=>O)
 | _=>O
theorem Kr{e:M}(h:qQ P t=A e):∃k,P.underlying t=A (.map k e)/\P.underlying k=A (.int B):=by
 unfold qQ at h
 grind
def tzv(P:Y)(t:M):Option D:=(P.info? t).bind (·.zero)
theorem Lo{k:M}(a:P.underlying k=A (.int B)){b:Bool}{n:Int}{Q:Unit->Hp->Prop}:hw P (Instr.checkKey b 10000 k (L B n)) Q h=Q () h:=by
 show hw P (do
  match <-underlying k,(Value.int B n) with
  | .interface _,.iface d x=>
   let info <-typeInfo d
   if !info.comparable then
    if b then runtimePanic (.unhashable d)
    runtimePanic (.error ("hash of unhashable type " ++ (<-typeStr d)))
   Instr.checkKey b 9999 d x
  | .array len elem,.agg cs=>
   for i in [0:len] do Instr.checkKey b 9999 elem (<-part elem cs (i*(<-sizeOf elem)))
  | .struct fields,.agg cs=>
   for f in fields do
    if f.name ≠ "_" then Instr.checkKey b 9999 f.type (<-part f.type cs f.offset)
  | .interface _,.nilIface=>pure ()
  | .interface _,_|.array _ _,_|.struct _,_=>stuck "map key: not a value of its type"
  | _,_=>pure ()) Q h=_
 rw[Zk,ZL a];rfl
theorem Ni{k:M}(a:P.underlying k=A (.int B)){n:Int}{l:List (Int × D)}{Q:Option (Nat × D)->Hp->Prop}:hw P (Instr.findKey k (L B n) (UR 0 l)) Q h=Q (IM l n 0) h:=by
 unfold Instr.findKey;rw[Zk,ZL a];simp only[fp];rfl
theorem XA{e:M}{z:D}{l:List (Int × D)}{n:Int}{c:Bool}(i:qQ P t=A e)(d:tzv P e=A z)(j:h[b]? = A (JO l)):
  HN P t (.map (A b)) (L B n) c K h=K (if c=true then .tuple #[(YF l n).getD z,U (YF l n).isSome] else (YF l n).getD z) h:=by
 let⟨k,g,a⟩:=Kr i;unfold HN Instr.lookup;rw[Zk,ZL g];simp only;rw[Zk];apply propext;rw[Lm j];simp only;rw[Zk,ZS,Zk,Lo a,Zk,Ni a,<-Zbk n l 0]
 cases IM l n 0 with
 | none=>
  simp only[Option.map_none,Option.getD_none,Option.isSome_none];rw[Zk];have q:=fun {Q:D->Hp->Prop}=>BG (P:=P) (h:=h) (Q:=Q) d;rw[q]
  cases c<;>exact Iff.rfl
 | some p=>cases c<;>exact Iff.rfl
@[go_sem] theorem aK{e:M}{z:D}{n:Int}{c:Bool}(i:qQ P t=A e)(d:tzv P e=A z):
  HN P t (.map O) (L B n) c K h=K (if c=true then .tuple #[z,U false] else z) h:=by
 let⟨k,g,a⟩:=Kr i;unfold HN Instr.lookup;rw[Zk,ZL g];simp only;rw[Zk,ZS,Zk,Lo a,Zk];have:=fun {Q:Option (Nat × D)->Hp->Prop}=>Ni (P:=P) (h:=h) (k:=k) a (n:=n) (l:=[]) (Q:=Q);rw[show (#[]:Array MapEntry).toList=UR 0 [] from rfl,this];simp only[IM];rw[Zk];have j:=fun {Q:D->Hp->Prop}=>BG (P:=P) (h:=h) (Q:=Q) d;rw[j]
 cases c<;>rfl
theorem Qy{e:M}{l:List (Int × D)}{n:Int}{x:D}(s:qQ P t=A e)(a:h[b]? = A (JO l)):
  HQ P t (.map (A b)) (L B n) x K h=K undef (W h b (JO (ins l n x))):=by
 let⟨k,r,d⟩:=Kr s;unfold HQ Instr.mapUpdate;rw[Zk,ZL r];simp only;rw[Zk];apply propext;rw[Lm a];simp only;rw[Zk,Lo d,Zk];show hw P (Instr.findKey k (L B n) (UR 0 l)) _ h↔_;rw[Ni d];have st:∀(es:Array MapEntry) (c:Nat) (Q:Unit->Hp->Prop),hw P (setObj b (.map es c)) Q h↔Q () (W h b (.map es c)):=fun es c Q=>
  ⟨fun H=>H.2,fun H=>⟨⟨_,a,rfl⟩,H⟩⟩
 cases w:IM l n 0 with
 | none=>
  simp only;rw[st]
  grind [JO,vu,lW]
 | some p=>
  let⟨i,u⟩:=p;let⟨m,h1,h2,z,g⟩:=vw (i:=0) w;obtain rfl:i=m:=uh;simp only;rw[Zk];have V:(((UR 0 l).toArray[i]?).map (·.key)).getD (L B n)=L B n:=by
   rw[aa,z];rfl
  have C:∀(Q:D->Hp->Prop),hw P (Instr.keyThatStays (L B n) (L B n)) Q h=Q (L B n) h:=fun Q=>by
   unfold Instr.keyThatStays;have:Instr.sameBits 10000 (L B n) (L B n)=true:=by simp[Instr.sameBits]
   rw[if_pos this];rfl
  rw[V,C,st];have I:(Obj.map ((UR 0 l).toArray.modify i fun e=>{ e with key:=L B n,val:=x }) (G l))=JO (ins l n x):=by
   unfold JO;rw[g x,Nat.zero_add];have hlen:(ins l n x).length=(G l):=by
    have q:(UR 0 (ins l n x)).length=(UR 0 l).length:=by rw[g x];simp
    rw[Og,Og]at q;exact q
   rw[hlen]
   congr 1
   apply aI;intro j;rw[Array.getElem?_modify,aa,aa,List.getElem?_set];by_cases hj:i=j
   .grind
   .grind
  rw[I]
theorem Oh{cs:Array Bool}{e:M}{l:List (Int × D)}(d:qQ P t=A e)(g:h[b]? = A (JO l)):OV P T .len #[t] ty cs [.map (A b)] K h=K (L B (G l)) h:=by
 let⟨k,a,i⟩:=Kr d;show hw P (do pure (.value (<-Builtin.len_ #[t] ty #[.map (A b)]))) (JX P T K) h=_;rw[Zk];show hw P (do
  match <-underlying t,(Value.map (A b)) with
  | .string,.string s=>pure (goInt s.size)
  | .array n _,_=>pure (goInt n)
  | .pointer arr,_=>
   let .array n _ <-underlying arr|stuck "len: pointer to array expected"
   pure (goInt n)
  | .slice _,J _ n _=>pure (goInt n)
  | .map _ _,.map O|.chan _ _,.chan O=>pure (goInt 0)
  | .map _ _,.map (A r)=>
   let .map entries _ <-getObj r|stuck "len: map expected"
   pure (goInt entries.size)
  | .chan _ _,.chan (A r)=>
   let .chan _ buf _ _ _ timer <-getObj r|stuck "len: channel expected"
   pure (goInt (if timer then 0 else buf.size))
  | _,_=>stuck "len: string, array, pointer to array, slice, map or channel expected") K h=_
 rw[Zk,ZL a];simp only;rw[Zk];apply propext;rw[Lm g];simp only[List.size_toArray,Og];exact Iff.rfl
def tkp(P:Y)(t:M):Bool:=match P.underlying t with|some (.pointer _)=>true|_=>false
def tkm(P:Y)(t:M):Bool:=match P.underlying t with|some (.map _ _)=>true|_=>false
def tkf(P:Y)(t:M):Bool:=match P.underlying t with|some (.func _ _ _)=>true|_=>false
theorem Zbl(h:tkp P t=true):∃e,P.underlying t=A (.pointer e):=by
 unfold tkp at h;grind
theorem Zbm(h:tkm P t=true):∃k e,P.underlying t=A (.map k e):=by
 unfold tkm at h;grind
theorem fq(h:tkf P t=true):∃a b c,P.underlying t=A (.func a b c):=by
 unfold tkf at h;grind
theorem Em(g:tkp P t=true){a:Option Addr}{Q:Bool->Hp->Prop}:hw P (Op.equal t (.pointer a) (.pointer O)) Q h=Q a.isNone h:=by
 let⟨e,d⟩:=Zbl g;unfold Op.equal Op.maxDepth Op.equalIn;rw[Zk,ZL d]
 cases a<;>rfl
theorem run_eq_map(g:tkm P t=true){a:Option Nat}{Q:Bool->Hp->Prop}:hw P (Op.equal t (.map a) (.map O)) Q h=Q a.isNone h:=by
 let⟨k,e,d⟩:=Zbm g;unfold Op.equal Op.maxDepth Op.equalIn;rw[Zk,ZL d]
 cases a<;>rfl
theorem BH(e:tkf P t=true){f:Fn}{x y:Array D}{Q:Bool->Hp->Prop}:hw P (Op.equal t (.func f x y) .nilFunc) Q h=Q false h:=by
 let⟨a,b,c,d⟩:=fq e;unfold Op.equal Op.maxDepth Op.equalIn;rw[Zk,ZL d];rfl
theorem BI(e:tkf P t=true){Q:Bool->Hp->Prop}:hw P (Op.equal t .nilFunc .nilFunc) Q h=Q true h:=by
 let⟨a,b,c,d⟩:=fq e;unfold Op.equal Op.maxDepth Op.equalIn;rw[Zk,ZL d];rfl
theorem aM{a b:D}{r:Bool}(d:∀{Q:Unit->Hp->Prop},hw P (eqGuard .eql t x y a b) Q h=Q () h)(hb:binOp .eql t a b=do pure (U (<-Op.equal t a b)))(e:∀{Q:Bool->Hp->Prop},hw P (Op.equal t a b) Q h=Q r h):Ji P .eql t x y a b K h=K (U r) h:=by
 unfold Ji;rw[Zk,d,hb,Zk,e];rfl
theorem l9{a b:D}{r:Bool}(d:∀{Q:Unit->Hp->Prop},hw P (eqGuard .neq t x y a b) Q h=Q () h)(hb:binOp .neq t a b=do pure (U (!(<-Op.equal t a b))))(e:∀{Q:Bool->Hp->Prop},hw P (Op.equal t a b) Q h=Q r h):Ji P .neq t x y a b K h=K (U (!r)) h:=by
 unfold Ji;rw[Zk,d,hb,Zk,e];rfl
@[go_sem] theorem ZiU{a:Option Addr}(d:tkp P t=true):Ji P .eql t x y (.pointer a) (.pointer O) K h=K (U a.isNone) h:=aM rfl rfl (Em d)
@[go_sem] theorem ZiV{a:Option Addr}(d:tkp P t=true):Ji P .neq t x y (.pointer a) (.pointer O) K h=K (U (!a.isNone)) h:=l9 rfl rfl (Em d)
@[go_sem] theorem ZiW{a:Option Nat}(d:tkm P t=true):Ji P .eql t x y (.map a) (.map O) K h=K (U a.isNone) h:=aM rfl rfl (run_eq_map d)
@[go_sem] theorem Zj6{f:Fn}{u v:Array D}(a:tkf P t=true):Ji P .eql t x y (.func f u v) .nilFunc K h=K (U false) h:=aM rfl rfl (BH a)
@[go_sem] theorem Zj7(a:tkf P t=true):Ji P .eql t x y .nilFunc .nilFunc K h=K (U true) h:=aM rfl rfl (BI a)
@[go_sem] theorem Zj8{f:Fn}{u v:Array D}(a:tkf P t=true):Ji P .neq t x y (.func f u v) .nilFunc K h=K (U true) h:=l9 rfl rfl (BH a)
@[go_sem] theorem Zj9(a:tkf P t=true):Ji P .neq t x y .nilFunc .nilFunc K h=K (U false) h:=l9 rfl rfl (BI a)
end
inductive fu{α β:Type}(R:α->β->Prop):List α->List β->Prop
 | nil:fu R [] []
 | cons {a:α} {b:β} {l:List α} {k:List β}:R a b->fu R l k->fu R (a :: l) (b :: k)
section
variable {τ:Type}
structure Kp(S:τ->Prop)(o:Nat->Option τ)(h:Hp)(o':Nat->Option τ)(h':Hp):Prop where
 size:h.size<=h'.size
 Zh:∀b,b<h.size->(∀t,o b=A t->¬S t)->h'[b]? = h[b]? /\ o' b=o b
 stay:∀b,b<h.size->∀t,o b=A t->S t->∃t',o' b=A t'/\S t'
 new:∀b,h.size<=b->∀t,o' b=A t->S t
 YG:∀b,h'.size<=b->o' b=O
variable {S S':τ->Prop} {o o' o'':Nat->Option τ} {h h' G7:Hp}
def V3(o:Nat->Option τ)(h:Hp):Prop:=∀b,h.size<=b->o b=O
theorem Kp.refl(d:V3 o h)(S:τ->Prop):Kp S o h o h:=
 ⟨ao _,fun _ _ _=>⟨rfl,rfl⟩,fun _ _ t a e=>⟨t,a,e⟩,fun b hb t a=>(by rw[d b hb]at a;cases a),d⟩
theorem Kp.mono(k:Kp S o h o' h')(d:∀t,S t->S' t):Kp S' o h o' h':=
 ⟨k.size,fun b hb e=>k.Zh b hb fun t a q=>e t a (d t q),fun b hb t a q=>by
  by_cases p:S t
  .let⟨g,r,j⟩:=k.stay b hb t a p;grind
  .exact⟨t,by rw[(k.Zh b hb fun u i=>by grind).2,a],q⟩,fun b hb t a=>d _ (k.new b hb t a),k.YG⟩
theorem Kp.trans(k:Kp S o h o' h')(l:Kp S o' h' o'' G7):Kp S o h o'' G7:=by
 refine⟨Nat.le_trans k.size l.size,fun b hb r=>?_,fun b hb t a q=>?_,fun b hb t a=>?_,l.YG⟩
 .let⟨e,d⟩:=k.Zh b hb r
  grind [Kp.Zh]
 .let⟨p,e,d⟩:=k.stay b hb t a q;exact l.stay b (Nat.lt_of_lt_of_le hb k.size) p e d
 .by_cases s:h'.size<=b
  .exact l.new b s t a
  .have j:b<h'.size:=uh
   cases i:o' b with
   | none=>
    have:=(l.Zh b j fun u z=>by grind).2
    grind
   | some g=>
    let⟨w,e,d⟩:=l.stay b j g i (k.new b hb g i)
    grind
theorem Kp.get(k:Kp S o h o' h'){x:Obj}(a:h[b]? = A x)(d:∀t,o b=A t->¬S t):h'[b]? = A x:=by
 rw[(k.Zh b (Zb a) d).1,a]
theorem Kp.Zn(k:Kp S o h o' h'){x:Obj}(a:h[b]? = A x)(d:∀t,o b=A t->¬S t):o' b=o b:=(k.Zh b (Zb a) d).2
theorem Kp.free(k:Kp S o h o' h'){x:Obj}(a:h[b]? = A x)(d:o b=O):h'[b]? = A x/\o' b=O:=by
 grind [Kp.get,Kp.Zn]
theorem Kp.En(d:V3 o h)(b:Zm h.size h h')(S:τ->Prop):Kp S o h o h':=
 ⟨b.size,fun k a _=>⟨b.block k a,rfl⟩,fun _ _ t e g=>⟨t,e,g⟩,fun k a t e=>(by rw[d k a]at e;cases e),fun k a=>d k (Nat.le_trans b.size a)⟩
theorem Kp.YQ(k:Kp S o h o' h')(b:Zm h'.size h' G7):Kp S o h o' G7:=k.trans (Kp.En k.YG b S)
theorem Kp.push(k:Kp S o h o' h')(x:Obj):Kp S o h o' (h'.push x):=k.YQ ((Zm.refl _ _).add x)
theorem Kp.set(k:Kp S o h o' h'){t:τ}(hb:o' b=A t)(d:S t)(x:Obj):Kp S o h o' (W h' b x):=by
 refine k.trans ⟨zK,fun c hc e=>⟨?_,rfl⟩,fun _ _ t a d=>⟨t,a,d⟩,fun c hc t a=>(by rw[k.YG c hc]at a;cases a),fun c hc=>k.YG c zK⟩
 grind
theorem Kp.ma(k:Kp S o h o' h')(hb:h.size<=b)(x:Obj):Kp S o h o' (W h' b x):=by
 refine⟨by rw[Array.size_setIfInBounds];exact k.size,fun c hc a=>⟨?_,(k.Zh c hc a).2⟩,k.stay,k.new,fun c hc=>k.YG c zK⟩
 grind [Kp.Zh]
def Up(o:Nat->Option τ)(b:Nat)(t:τ):Nat->Option τ:=fun c=>if c=b then A t else o c
theorem Jh{t:τ}:Up o b t b=A t:=if_pos rfl
theorem Jn{c:Nat}{t:τ}(hc:c≠b):Up o b t c=o c:=if_neg hc
theorem Kp.Nj(k:Kp S o h o' h'){t:τ}(hb:h.size<=b)(i:b<h'.size)(g:S t):Kp S o h (Up o' b t) h':=
 ⟨k.size,fun c hc e=>⟨(k.Zh c hc e).1,by rw[Jn uh];exact (k.Zh c hc e).2⟩,fun c hc u d a=>by rw[Jn uh];exact k.stay c hc u d a,
  fun c hc u d=>by
  grind [Jh,Kp.new,Jn],
  fun c hc=>by rw[Jn uh];exact k.YG c hc⟩
def Xk(o:Nat->Option τ)(t:τ)(E:M)(n:Nat)(h:Hp)(v:D)(m:Nat)(cs:List D):Prop:=
 ((∃p,v=J p 0 0)/\m=0/\cs=[]) \/
 ∃b k cap pre ZT,o b=A t/\v=J (A ⟨b,k,O⟩) m cap/\h[b]? = A (ak (pre++(cs++ZT)).toArray E (0,0))/\(G pre)=k/\(G cs)=m*n/\(G ZT)=(cap-m)*n/\m<=cap
variable {t:τ} {E:M} {n m:Nat} {v:D} {cs:List D}
theorem Xk.nil(o:Nat->Option τ)(t:τ)(E:M)(n:Nat)(h:Hp):Xk o t E n h (J O 0 0) 0 []:=.inl ⟨⟨_,rfl⟩,rfl,rfl⟩
theorem Xk.Zh(s:Xk o t E n h v m cs)(k:Kp S o h o' h')(z:¬S t):Xk o' t E n h' v m cs:=by
 rcases s with s|⟨b,j,cap,pre,ZT,r,q,a,p,i,g,e⟩
 .exact .inl s
 .have d:∀u,o b=A u->¬S u:=fun u w=>by grind
  exact .inr ⟨b,j,cap,pre,ZT,by rw[k.Zn a d,r],q,k.get a d,p,i,g,e⟩
theorem Xk.sl(s:Xk o t E n h v m cs):Sl n h v m cs:=by
 grind [Xk,Sl,TJ]
theorem Xk.length(s:Xk o t E n h v m cs):(G cs)=m*n:=by
 grind [Xk]
theorem Xk.ZR(s:Xk o t E n h v m cs):∃p c,v=J p m c/\m<=c:=by
 grind [Xk]
theorem Xk.tail{p:Option Addr}{c:Nat}(s:Xk o t E n h (J p m c) m cs){k:Nat}(g:k<=m):Xk o t E n h (J (if c=k then p else p.map (·.add (k*n))) (m-k) (c-k)) (m-k) (cs.drop (k*n)):=by
 rcases s with⟨⟨q,d⟩,a,r⟩|⟨b,j,cap,pre,ZT,d,a,r,C,i,z,w⟩
 .grind [Xk]
 .simp only[Value.slice.injEq]at a;obtain⟨rfl,_,rfl⟩:=a;have e:k*n<=m*n:=aC _ g;by_cases hc:c=k
  .have u:m=k:=uh;rw[if_pos hc];refine .inl ⟨⟨A ⟨b,j,O⟩,zK⟩,uh,?_⟩
   grind
  .rw[if_neg hc];refine .inr ⟨b,j+k*n,c-k,pre++cs.take (k*n),ZT,d,by rw[Option.map_some,X9],?_,?_,?_,?_,uh⟩
   .grind [List.take_append_drop]
   .grind
   .rw[List.length_drop,i,Nat.sub_mul]
   grind
variable {P:Y} {T:aF} {K:D->Hp->Prop} {F:Env} {ty:M}
theorem fv{a b c vs:List D}{i:Nat}(hi:i=(G a)+(G b))(d:(G vs)<=(G c)):XB (a++(b++c)) i vs=a++((b++vs)++c.drop (G vs)):=by
 grind [aL,TV,Wn]
theorem QM{V I E' k bytes:Nat}{s:D}{news zs:List D}{cb:Array Bool}(C:Un P V=A E)(an:P.underlying I=A (.slice E'))(hn:tn P E=A n)(hz:tz P E=A zs)(kZ:zs.length=n)(Mg:tb P E=A bytes)(Zn:Xk o t E n h v m cs)(d:V3 o h)(src:Sl n h s k news)(JD:news.all YV=true)(Xq:(m+k)*bytes<=140737488355328)(Ck:1<=bytes)(H:∀v' o' h',Xk o' t E n h' v' (m+k) (cs++news)->Kp (fun u=>u=t) o h o' h'->(∀b,b<h.size->o' b=o b)->K v' h'):OV P T .append #[V,I] ty cb [v,s] K h:=by
 unfold Un at C;split at C
 .rename_i w hu;simp only[Option.some.injEq]at C;subst C;show hw P (do pure (.value (<-ae #[V,I] ty #[v,s]))) (JX P T K) h;rw[Zk];show hw P (ae #[V,I] ty #[v,s]) K h;obtain⟨a,OO⟩:∃i,P.info? w=A i:=by
   unfold tn at hn
   cases hi:P.info? w with
   | none=>grind
   | some i=>grind
  have HJ:a.bytes=bytes:=by unfold tb at Mg;rw[OO]at Mg;simpa using Mg
  obtain⟨z0,Bt,lj⟩:∃z,a.zero=A z/\z.cells.toList=zs:=by
   unfold tz at hz;rw[OO]at hz
   cases a2:a.zero with
   | none=>grind
   | some z=>grind
  let⟨base,cap,hv,zE⟩:=Zn.ZR;subst hv;have uX:∀{Q:D->Hp->Prop} (g:Hp),hw P (zeroValue w) Q g=Q z0 g:=fun {Q} g=>by
   unfold zeroValue;rw[Zk,Jp OO];simp only[Bt];rfl
  have dj:news.length=k*n:=by let⟨_,_,_,hl,_⟩:=src;exact hl
  simp only[ae,aa,aw,ax,Zk,ZS,ZL hu,ZL an,run_sizeOf hn,aS,if_false,src.lenOf,aW,if_true];by_cases WE:m+k<=cap
  .rw[if_pos WE,Zk];refine YW src ?_;rcases Zn with⟨⟨p,r⟩,h2,h3⟩|⟨b,j,Ef,pre,ZT,r,h2,h3,h4,h5,h6,h7⟩
   .simp only[Value.slice.injEq]at r;obtain⟨rfl,rfl,rfl⟩:=r;have hk:k=0:=uh;subst hk;subst h3;have XU:news=[]:=al zK;subst XU;have hK:K (.slice base (0+0) 0) h:=H _ o h (.inl ⟨⟨_,rfl⟩,rfl,rfl⟩) (Kp.refl d _) (fun _ _=>rfl)
    cases base<;>exact hK
   .simp only[Value.slice.injEq]at h2;obtain⟨rfl,_,rfl⟩:=h2;simp only[Zk,X9];have aq:news.length<=ZT.length:=by rw[dj,h6];exact aC _ uh
    refine Xf (e:=w) (lo:=0) (hi:=0) rfl (ao _) news 0 h (pre++(cs++ZT)).toArray h3 ?_ JD ?_
    .grind
    .simp only[ZS,aV];refine H _ o _ (.inr ⟨b,j,cap,pre,ZT.drop news.length,r,rfl,?_,h4,?_,?_,WE⟩) ((Kp.refl d (fun u=>u=t)).set r rfl _) (fun _ _=>rfl)
     .grind [fv]
     .grind
     grind [Nat.sub_mul]
  .rw[if_neg WE];have WF:¬Builtin.nextslicecap (m+k) cap*a.bytes>2 ^ 48:=by
    rw[HJ];have:=TW (m+k) cap bytes uh Xq;omega
   have lq:¬a.bytes=0:=by rw[HJ];omega
   simp only[Zk,Jp OO,lq,or_false,and_false,if_false,if_neg WF];intro q;let⟨c,hc⟩:=ZO (Question.cut (Question.appendCap (m+k) cap w) q);have a1:m+k<=c:=by rw[hc];simp only[Question.cut];omega
   rw[<-hc];have Li:∀{Q:Unit->Hp->Prop} (b:Nat) (g:Hp),Q () g->hw P (askRoom b) Q g:=fun {Q} b g q=>by
    unfold askRoom;split<;>exact q
   refine Li _ _ (YW Zn.sl (YW src ?_));rw[uX];have a0:z0.cells.size=n:=by rw[<-kZ,<-lj];simp
   refine H (.slice (A ⟨h.size,0,O⟩) (m+k) c) (Up o h.size t) _ (.inr ⟨h.size,0,c,[],(Z z0.cells (c-(m+k))).toList,Jh,rfl,?_,rfl,?_,?_,a1⟩) (((Kp.refl d _).push _).Nj (ao _) zX rfl) (fun b hb=>Jn uh)
   .rw[Array.getElem?_push_size];simp
   .rw[aL,Zn.length,dj,Nat.add_mul]
   .rw[aH,XW,a0]
 .cases C
theorem Eo{g d E' k off cap:Nat}{s:D}{pre ZT news zs:List D}{cb:Array Bool}(a:Un P g=A E)(an:P.underlying d=A (.slice E'))(r:tn P E=A n)(q:tz P E=A zs)(hb:h[b]? = A (ak (pre++(cs++ZT)).toArray E (0,0)))(ho:off=(G pre))(u:(G cs)=m*n)(src:Sl n h s k news)(V:news.all YV=true)(I:m+k<=cap)(Xq:k*n<=(G ZT))(H:K (J (A ⟨b,off,O⟩) (m+k) cap) (W h b (ak (pre++((cs++news)++ZT.drop (k*n))).toArray E (0,0)))):OV P T .append #[g,d] ty cb [J (A ⟨b,off,O⟩) m cap,s] K h:=by
 unfold Un at a;split at a
 .rename_i j C;simp only[Option.some.injEq]at a;subst a;show hw P (do pure (.value (<-ae #[g,d] ty #[J (A ⟨b,off,O⟩) m cap,s]))) (JX P T K) h;rw[Zk];show hw P (ae #[g,d] ty #[J (A ⟨b,off,O⟩) m cap,s]) K h;obtain⟨p,Q⟩:∃i,P.info? j=A i:=by
   unfold tn at r
   cases hi:P.info? j with
   | none=>grind
   | some i=>grind
  obtain⟨z0,Bt,lj⟩:∃z,p.zero=A z/\z.cells.toList=zs:=by
   unfold tz at q;rw[Q]at q
   cases w:p.zero with
   | none=>grind
   | some z=>grind
  have dj:(G news)=k*n:=by let⟨_,_,_,u,_⟩:=src;exact u
  simp only[ae,aa,aw,ax,Zk,ZS,ZL C,ZL an,run_sizeOf r,aS,if_false,src.lenOf,aW,if_true];rw[if_pos I,Zk];refine YW src ?_;simp only[Zk,X9];refine Xf (e:=j) (lo:=0) (hi:=0) rfl (ao _) news 0 h (pre++(cs++ZT)).toArray hb ?_ V ?_
  .grind
  .simp only[ZS,aV]
   grind [fv]
 .cases a
theorem IQ{p:M}{zs:List D}{cb:Array Bool}{off k c:Nat}{pre T7 post:List D}(C:Un P p=A E)(V:tz P E=A zs)(kZ:(G zs)=n)(jY:zs.all YV=true)(hb:h[b]? = A (ak (pre++(T7++post)).toArray E (0,0)))(ho:off=(G pre))(hl:(G T7)=k*n)(H:∀new:List D,(G new)=(G T7)->K (.tuple #[]) (W h b (ak (pre++(new++post)).toArray E (0,0)))):OV P T .clear #[p] ty cb [J (A ⟨b,off,O⟩) k c] K h:=by
 unfold Un at C;split at C
 .rename_i w hu;simp only[Option.some.injEq]at C;subst C;show hw P (do pure (.value (<-aX #[p] ty #[J (A ⟨b,off,O⟩) k c]))) (JX P T K) h;rw[Zk];show hw P (aX #[p] ty #[J (A ⟨b,off,O⟩) k c]) K h;have same:W h b (ak (pre++(T7++post)).toArray w (0,0))=h:=by
   apply aI;intro j;rw[Array.getElem?_setIfInBounds];by_cases hj:b=j
   .grind
   .grind
  show hw P (do
   match <-underlying p,(Value.slice (A ⟨b,off,O⟩) k c) with
   | _,.map O|_,J O _ _|_,J _ 0 _=>pure ()
   | _,.map (A r)=>
    let .map _ clock <-getObj r|stuck "clear: map expected"
    setObj r (.map #[] clock)
   | .slice elem,J (A a) n _=>
    storeCells a (Z (<-zeroValue elem).cells n).toList
   | _,_=>stuck "clear: map or slice expected"
   pure (.tuple #[])) K h
  rw[Zk,ZL hu]
  cases k with
  | zero=>
   have h0:T7=[]:=al (by rw[hl];simp);subst h0;have:=H [] rfl;rw[same]at this;exact this
  | succ k=>
   obtain⟨i0,OO⟩:∃i,P.info? w=A i:=by
    unfold tz at V
    cases hi:P.info? w with
    | none=>grind
    | some i=>grind
   obtain⟨d,Bt,lj⟩:∃z,i0.zero=A z/\z.cells.toList=zs:=by
    unfold tz at V;rw[OO]at V
    cases a0:i0.zero with
    | none=>grind
    | some z=>grind
   have uX:∀{Q:D->Hp->Prop} (g:Hp),hw P (zeroValue w) Q g=Q d g:=fun {Q} g=>by
    unfold zeroValue;rw[Zk,Jp OO];simp only[Bt];rfl
   simp only[Zk];rw[uX];have I:d.cells.size=n:=by rw[<-kZ,<-lj];simp
   have s:(Z d.cells (k+1)).toList.length=(G T7):=by rw[aH,XW,I,hl]
   refine Xf (a:=⟨b,off,O⟩) (e:=w) (lo:=0) (hi:=0) rfl (ao _) _ 0 h (pre++(T7++post)).toArray hb ?_ ?_ ?_
   .grind
   .rw[List.all_eq_true];intro x u;have u:x∈Z d.cells (k+1):=by simpa using u
    have LU:x∈zs:=by
     rw[<-lj];unfold Z at u;rw[Array.mem_map]at u;obtain⟨i,hi,rfl⟩:=u;rw[Array.mem_range]at hi;have G9:0<d.cells.size:=by
      rcases Nat.eq_zero_or_pos d.cells.size with q|q
      .grind
      .exact q
     have Ye:i%d.cells.size<d.cells.size:=Nat.mod_lt _ G9;rw[getElem!_pos d.cells _ Ye];simp
    grind
   .simp only[aV];have e1:XB (pre++(T7++post)).toArray.toList off (Z d.cells (k+1)).toList=pre++((Z d.cells (k+1)).toList++post):=SO ho s;rw[e1];exact H _ s
 .cases C
end
section
variable {P:Y} {T:aF} {K:D->Hp->Prop} {F:Env} {h:Hp} {ty:M}
end
section
variable {P:Y} {T:aF} {K:D->Hp->Prop} {F:Env} {h:Hp} {ty:M}
end
section
variable {P:Y} {n:Nat} {T:aF} {N:Env->Hp->Prop} {X:Nat->Env->Hp->Prop} {R:Env->Hp->Prop} {F:Env} {h:Hp}
variable {l:Option Nat}
end
section
variable {P:Y} {n:Nat} {T:aF} {h:Hp}
section
variable {l:Option Nat} {N:Env->Hp->Prop} {X:Nat->Env->Hp->Prop} {R:Env->Hp->Prop} {F:Env}
end
section
variable {f:FuncId} {fn:Func} {c:Code} {l:List ResultVar} {K:D->Hp->Prop}
end
end
end Go.V
