/- Part W31. -/
import Derived.Test.YtnhfdnlcpdbjlaaGreatDoorW21
import Derived.Sort.Grow
import Derived.Deep.Draws
import Derived.Lib.UnsafeStr
import Derived.RangeFuncLeaves
import Derived.RangeFuncRecord
import Derived.OrdersIn
import Derived.TacticsIn
import Derived.RangeFuncSeq
import Derived.RangeFuncBound
open Go.Value renaming int→J,slice→L,bool→U
open Go.IntKind renaming i64→B
open Go.Obj renaming cells→aF
open List renaming length→G,length_append→aa,getElem?_toArray→ak,getElem?_cons_succ→aw,eq_nil_of_length_eq_zero→aI,append_assoc→aU,length_cons→aX,getElem?_cons_zero→a0,size_toArray→a8,length_drop→ba,all_eq_true→bb
open Nat renaming le_refl→au,mul_le_mul_right→a1,lt_of_lt_of_le→a5,zero_add→a7,add_zero→a9
open Option renaming bind_some→am,some→A,none→O
open Array renaming getElem?_setIfInBounds→Z,size_setIfInBounds→al,length_toList→a3,ext_getElem?→a4
open Bool renaming false_eq_true→a6,not_false→bc
open Go.Builtin renaming zeroCells→Y,append_→an,clear_→bd
open Go renaming Value→D,TypeId→M,Program→W,Operand→aK,World→a2
namespace Go.V
set_option linter.all false
section
variable {P:W} {T:a2} {ty:M} {F:Env} {h:Hp} {K:D->Hp->Prop}
def KL(P:W)(t:M)(m x:D)(c:Bool)(K:D->Hp->Prop)(h:Hp):Prop:=hw P (Instr.lookup t m x c) K h
def vJ(P:W)(t:M)(K:D->Hp->Prop)(h:Hp):Prop:=hw P (Instr.makeMap t O) K h
@[go_sem] theorem gj{t:M}{m x:aK}{c:Bool}:TL P T (.lookup t m x c) ty K F h=KL P t (ev F m) (ev F x) c K h:=by
 show hw P (do pure (Next.value (<-Instr.lookup t (ev F m) (ev F x) c))) (Jr P T K) h=_;rw[Zj];rfl
@[go_sem] theorem AB{t:M}:TL P T (.makeMap t O) ty K F h=vJ P t K h:=by
 show hw P (do pure (Next.value (<-Instr.makeMap t O))) (Jr P T K) h=_;rw[Zj];rfl
@[go_sem] theorem ZfM{t:M}{m x:aK}{c:Bool}:EB P T ⟨O,.lookup t m x c,ty, "", #[],O⟩ K F h=KL P t (ev F m) (ev F x) c K h:=gj
@[go_sem] theorem Zeu{t:M}:EB P T ⟨O,.makeMap t O,ty, "", #[],O⟩ K F h=vJ P t K h:=AB
@[go_sem] theorem ZjX{t:M}:vJ P t K h=K (.map (A h.size)) (h.push (.map #[] 0)):=rfl
variable {α:Type} [DecidableEq α] {enc:α->List D}
theorem ET{e:M}{v:D}(hz:(P.info? e).bind (·.zero)=A v){Q:D->Hp->Prop}:hw P (zeroValue e) Q h=Q v h:=by
 cases hi:P.info? e with
 | none=>rw[hi]at hz;cases hz
 | some i=>
  rw[hi]at hz;unfold zeroValue;rw[Zj,X0 hi];have hz:i.zero=A v:=hz;simp only[hz];rfl
theorem NS{b:Nat}{es:Array MapEntry}{c:Nat}(hm:h[b]? = A (.map es c)){Q:Obj->Hp->Prop}:hw P (getObj b) Q h↔Q (.map es c) h:=
 ⟨fun⟨o,h1,_,h2⟩=>(by rw[hm]at h1;cases h1;exact h2),fun H=>⟨_,hm,rfl,H⟩⟩
end
end Go.V
namespace Go.V
set_option linter.all false
variable{b:Nat}{t:M}{x y:aK}
def Yl{β:Type}:List (Int × β)->Int->Option β
 | [],_=>O
 | (a,v) :: r,k=>if a=k then A v else Yl r k
def ins{β:Type}:List (Int × β)->Int->β->List (Int × β)
 | [],k,v=>[(k,v)]
 | (a,x) :: r,k,v=>if a=k then (a,v) :: r else (a,x) :: ins r k v
def Vh{β γ:Type}(f:β->γ)(l:List (Int × β)):List (Int × γ):=l.map fun x=>(x.1,f x.2)
theorem Jj{β γ:Type}(f:β->γ):∀(l:List (Int × β)) (k:Int),Yl (Vh f l) k=(Yl l k).map f:=by
 intro l k
 induction l with
 | nil=>rfl
 | cons x l ih=>
  obtain⟨a,v⟩:=x;show (if a=k then A (f v) else Yl (Vh f l) k)=Option.map f (if a=k then A v else Yl l k);rw[ih];split<;>rfl
theorem PG{β γ:Type}(f:β->γ):∀(l:List (Int × β)) (k:Int) (v:β),Vh f (ins l k v)=ins (Vh f l) k (f v):=by
 intro l k v
 induction l with
 | nil=>rfl
 | cons x l ih=>
  obtain⟨a,u⟩:=x;show Vh f (if a=k then (a,v) :: l else (a,u) :: ins l k v)=if a=k then (a,f v) :: Vh f l else (a,f u) :: ins (Vh f l) k (f v)
  split
  .rfl
  .rw[<-ih];rfl
theorem KM{β γ:Type}(f:β->γ)(l:List (Int × β)):(Vh f l).length=(G l):=List.length_map ..
theorem NU{β:Type}:∀(l:List (Int × β)) (k:Int) (v:β),(ins l k v).length=if (Yl l k).isSome=true then (G l) else (G l)+1:=by
 intro l k v
 induction l with
 | nil=>rfl
 | cons x l ih=>
  obtain⟨a,u⟩:=x;unfold ins Yl;by_cases h:a=k
  .rw[if_pos h,if_pos h];rfl
  .rw[if_neg h,if_neg h,aX,ih,aX];split<;>rfl
theorem Xl{β:Type}:∀(l:List (Int × β)) (k j:Int) (v:β),Yl (ins l k v) j=if k=j then A v else Yl l j:=by
 intro l k j v
 induction l with
 | nil=>rfl
 | cons x l ih=>
  obtain⟨a,u⟩:=x;unfold ins;by_cases h:a=k
  .subst h;rw[if_pos rfl];unfold Yl;by_cases hj:a=j
   .rw[if_pos hj,if_pos hj]
   .rw[if_neg hj,if_neg hj,if_neg hj]
  .rw[if_neg h];show (if a=j then A u else Yl (ins l k v) j)=if k=j then A v else if a=j then A u else Yl l j
   rw[ih];by_cases hj:a=j
   .rw[if_pos hj,if_pos hj,if_neg (fun e=>h (hj.trans e.symm))]
   .rw[if_neg hj,if_neg hj]
theorem vK{β:Type}{l:List (Int × β)}{k:Int}(h:Yl l k=O):∀x∈l,x.1≠k:=by
 induction l with
 | nil=>intro x hx;cases hx
 | cons y l ih=>
  obtain⟨a,u⟩:=y;unfold Yl at h;split at h
  .cases h
  .rename_i Xb;intro x hx;rcases List.mem_cons.1 hx with rfl|hx
   .exact Xb
   .exact ih h x hx
theorem TW{β:Type}{l:List (Int × β)}{k:Int}{v:β}(h:Yl l k=A v):(k,v)∈l:=by
 induction l with
 | nil=>cases h
 | cons y l ih=>
  obtain⟨a,u⟩:=y;unfold Yl at h;split at h
  .rename_i he
   cases h;subst he;exact List.mem_cons_self
  .exact List.mem_cons_of_mem _ (ih h)
section
variable {P:W} {T:a2} {ty:M} {F:Env} {h:Hp} {K:D->Hp->Prop}
def Q7:Nat->List (Int × D)->List MapEntry
 | _,[]=>[]
 | i,(k,v) :: l=>⟨J B k,v,i⟩ :: Q7 (i+1) l
def Jk(l:List (Int × D)):Obj:=.map (Q7 0 l).toArray (G l)
theorem Vz:∀(l:List (Int × D)) (i:Nat),(Q7 i l).length=(G l):=by
 intro l
 induction l with
 | nil=>intro i;rfl
 | cons x l ih=>intro i;obtain⟨k,v⟩:=x;simp[Q7,ih]
def L0(l:List (Int × D))(k:Int):Nat->Option (Nat × D):=fun j=>match l with
 | []=>O
 | (a,v) :: r=>if k=a then A (j,v) else L0 r k (j+1)
theorem AC(k:Int):∀(l:List (Int × D)) (i j:Nat),Instr.findNow (.int B) (J B k) (Q7 i l) j=A (L0 l k j):=by
 intro l
 induction l with
 | nil=>intro i j;rfl
 | cons x l ih=>
  intro i j;obtain⟨a,v⟩:=x;unfold Q7 Instr.findNow L0;simp only[Instr.sameNow,if_true];by_cases hk:k=a
  .subst hk;simp
  .rw[if_neg hk];have:(k == a)=false:=by simpa using hk
   rw[this];exact ih _ _
theorem vL(k:Int):∀(l:List (Int × D)) (j:Nat),(L0 l k j).map (·.2)=Yl l k:=by
 intro l
 induction l with
 | nil=>intro j;rfl
 | cons x l ih=>
  intro j;obtain⟨a,v⟩:=x;unfold L0 Yl;by_cases hk:k=a
  .rw[if_pos hk,if_pos hk.symm];rfl
  .rw[if_neg hk,if_neg (fun e=>hk e.symm)];exact ih _
theorem nO{k:Int}:∀{l:List (Int × D)} {j:Nat},L0 l k j=O->∀(v:D),ins l k v=l++[(k,v)]:=by
 intro l
 induction l with
 | nil=>intro j _ v;rfl
 | cons x l ih=>
  intro j h v;obtain⟨a,u⟩:=x;unfold L0 at h;split at h
  .cases h
  .rename_i hk;unfold ins;rw[if_neg (fun e=>hk e.symm),ih h v];rfl
theorem gk(k:Int)(v:D):∀(l:List (Int × D)) (i:Nat),Q7 i (l++[(k,v)])=Q7 i l++[⟨J B k,v,i+(G l)⟩]:=by
 intro l
 induction l with
 | nil=>intro i;rfl
 | cons x l ih=>intro i;obtain⟨a,u⟩:=x;simp only[List.cons_append,Q7,ih,aX];congr 4;omega
theorem nP{k:Int}:∀{l:List (Int × D)} {i j:Nat} {n:Nat} {u:D},L0 l k j=A (n,u)->∃m,n=m+j/\m<(G l)/\(Q7 i l)[m]? = A ⟨J B k,u,i+m⟩/\∀v,Q7 i (ins l k v)=(Q7 i l).set m ⟨J B k,v,i+m⟩:=by
 intro l
 induction l with
 | nil=>intro i j n u h;cases h
 | cons x l ih=>
  intro i j n u h;obtain⟨a,w⟩:=x;unfold L0 at h;by_cases hk:k=a
  .subst hk;rw[if_pos rfl]at h
   cases h
   exact⟨0,mD,sW,rfl,fun v=>by unfold ins;rw[if_pos rfl];rfl⟩
  .rw[if_neg hk]at h;obtain⟨m,h1,h2,h3,h4⟩:=ih (i:=i+1) h;refine⟨m+1,mD,by simpa using h2,?_,fun v=>?_⟩
   .simp only[Q7,aw];rw[h3];congr 2;omega
   .unfold ins;rw[if_neg (fun e=>hk e.symm)];simp only[Q7,List.set_cons_succ,h4];congr 3;omega
def KN(P:W)(t:M)(m k x:D)(K:D->Hp->Prop)(h:Hp):Prop:=hw P (Instr.mapUpdate t m k x) (fun _ h=>K undef h) h
@[go_sem] theorem Eg{m k:aK}:TL P T (.mapUpdate t m k x) ty K F h=KN P t (ev F m) (ev F k) (ev F x) K h:=by
 show hw P (do let _ <-Instr.mapUpdate t (ev F m) (ev F k) (ev F x);pure Next.skip) (Jr P T K) h=_;rw[Zj];rfl
@[go_sem] theorem gm{m k:aK}:TL P T (.insert t m k x) ty K F h=KN P t (ev F m) (ev F k) (ev F x) K h:=by
 show hw P (do let _ <-Instr.mapUpdate t (ev F m) (ev F k) (ev F x);pure Next.skip) (Jr P T K) h=_;rw[Zj];rfl
@[go_sem] theorem Za0{m k:aK}:EB P T ⟨O,.mapUpdate t m k x,ty, "", #[],O⟩ K F h=KN P t (ev F m) (ev F k) (ev F x) K h:=Eg
@[go_sem] theorem ZfN{m k:aK}:EB P T ⟨O,.insert t m k x,ty, "", #[],O⟩ K F h=KN P t (ev F m) (ev F k) (ev F x) K h:=gm
def kj(P:W)(t:M):Option M:=match P.underlying t with
 | some (.map k e)=>(match P.underlying k with|some (.int B)=>A e|_=>O)
 | _=>O
theorem MP{e:M}(h:kj P t=A e):∃k,P.underlying t=A (.map k e)/\P.underlying k=A (.int B):=by
 unfold kj at h;split at h
 .rename_i k e' hu;split at h
  .rename_i hk
   cases h
   exact⟨k,hu,hk⟩
  .cases h
 .cases h
def tzv(P:W)(t:M):Option D:=(P.info? t).bind (·.zero)
theorem NW{k:M}(hk:P.underlying k=A (.int B)){b:Bool}{n:Int}{Q:Unit->Hp->Prop}:hw P (Instr.checkKey b 10000 k (J B n)) Q h=Q () h:=by
 show hw P (do
  match <-underlying k,(Value.int B n) with
  | .interface _,.iface d x=>
   let info <-typeInfo d
   if !info.comparable then
    if b then runtimePanic (.unhashable d)
    runtimePanic (.error ("hash of unhashable type " ++ (<-typeStr d)))
   Instr.checkKey b 9999 d x
  | .array len elem,.agg cs=>
   for i in [0:len] do Instr.checkKey b 9999 elem (<-part elem cs (i*(<-sizeOf elem)))
  | .struct fields,.agg cs=>
   for f in fields do
    if f.name ≠ "_" then Instr.checkKey b 9999 f.type (<-part f.type cs f.offset)
  | .interface _,.nilIface=>pure ()
  | .interface _,_|.array _ _,_|.struct _,_=>stuck "map key: not a value of its type"
  | _,_=>pure ()) Q h=_
 rw[Zj,ZM hk];rfl
theorem PH{k:M}(hk:P.underlying k=A (.int B)){n:Int}{l:List (Int × D)}{Q:Option (Nat × D)->Hp->Prop}:hw P (Instr.findKey k (J B n) (Q7 0 l)) Q h=Q (L0 l n 0) h:=by
 unfold Instr.findKey;rw[Zj,ZM hk];simp only[AC];rfl
theorem Xe{e:M}{z:D}{l:List (Int × D)}{n:Int}{c:Bool}(ht:kj P t=A e)(hz:tzv P e=A z)(hm:h[b]? = A (Jk l)):
  KL P t (.map (A b)) (J B n) c K h=K (if c=true then .tuple #[(Yl l n).getD z,U (Yl l n).isSome] else (Yl l n).getD z) h:=by
 obtain⟨k,hu,hk⟩:=MP ht;unfold KL Instr.lookup;rw[Zj,ZM hu];simp only;rw[Zj];apply propext;rw[NS hm];simp only;rw[Zj,ZO,Zj,NW hk,Zj,PH hk,<-vL n l 0]
 cases L0 l n 0 with
 | none=>
  simp only[Option.map_none,Option.getD_none,Option.isSome_none];rw[Zj];have BS:=fun {Q:D->Hp->Prop}=>ET (P:=P) (h:=h) (Q:=Q) hz;rw[BS]
  cases c<;>exact Iff.rfl
 | some p=>cases c<;>exact Iff.rfl
@[go_sem] theorem Cl{e:M}{z:D}{n:Int}{c:Bool}(ht:kj P t=A e)(hz:tzv P e=A z):
  KL P t (.map O) (J B n) c K h=K (if c=true then .tuple #[z,U false] else z) h:=by
 obtain⟨k,hu,hk⟩:=MP ht;unfold KL Instr.lookup;rw[Zj,ZM hu];simp only;rw[Zj,ZO,Zj,NW hk,Zj];have:=fun {Q:Option (Nat × D)->Hp->Prop}=>PH (P:=P) (h:=h) (k:=k) hk (n:=n) (l:=[]) (Q:=Q);rw[show (#[]:Array MapEntry).toList=Q7 0 [] from rfl,this];simp only[L0];rw[Zj];have BS:=fun {Q:D->Hp->Prop}=>ET (P:=P) (h:=h) (Q:=Q) hz;rw[BS]
 cases c<;>rfl
theorem JV{e:M}{l:List (Int × D)}{n:Int}{x:D}(ht:kj P t=A e)(hm:h[b]? = A (Jk l)):
  KN P t (.map (A b)) (J B n) x K h=K undef (h.setIfInBounds b (Jk (ins l n x))):=by
 obtain⟨k,hu,hk⟩:=MP ht;unfold KN Instr.mapUpdate;rw[Zj,ZM hu];simp only;rw[Zj];apply propext;rw[NS hm];simp only;rw[Zj,NW hk,Zj];show hw P (Instr.findKey k (J B n) (Q7 0 l)) _ h↔_;rw[PH hk];have st:∀(es:Array MapEntry) (c:Nat) (Q:Unit->Hp->Prop),hw P (setObj b (.map es c)) Q h↔Q () (h.setIfInBounds b (.map es c)):=fun es c Q=>
  ⟨fun H=>H.2,fun H=>⟨⟨_,hm,rfl⟩,H⟩⟩
 cases hp:L0 l n 0 with
 | none=>
  simp only;rw[st];have e1:(Obj.map ((Q7 0 l).toArray.push ⟨J B n,x,(G l)⟩) ((G l)+1))=Jk (ins l n x):=by
   rw[nO hp x];unfold Jk;rw[gk,List.push_toArray,aa,a7];rfl
  rw[e1]
 | some p=>
  obtain⟨i,u⟩:=p;obtain⟨m,h1,h2,h3,h4⟩:=nP (i:=0) hp;obtain rfl:i=m:=mD;simp only;rw[Zj];have e0:(((Q7 0 l).toArray[i]?).map (·.key)).getD (J B n)=J B n:=by
   rw[ak,h3];rfl
  have e2:∀(Q:D->Hp->Prop),hw P (Instr.keyThatStays (J B n) (J B n)) Q h=Q (J B n) h:=fun Q=>by
   unfold Instr.keyThatStays;have:Instr.sameBits 10000 (J B n) (J B n)=true:=by simp[Instr.sameBits]
   rw[if_pos this];rfl
  rw[e0,e2,st];have e1:(Obj.map ((Q7 0 l).toArray.modify i fun e=>{ e with key:=J B n,val:=x }) (G l))=Jk (ins l n x):=by
   unfold Jk;rw[h4 x,a7];have hlen:(ins l n x).length=(G l):=by
    have e5:(Q7 0 (ins l n x)).length=(Q7 0 l).length:=by rw[h4 x];simp
    rw[Vz,Vz]at e5;exact e5
   rw[hlen]
   congr 1
   apply a4;intro j;rw[Array.getElem?_modify,ak,ak,List.getElem?_set];by_cases hj:i=j
   .subst hj;rw[if_pos rfl,if_pos rfl,h3,if_pos (by rw[Vz];exact h2)];rw[a7];rfl
   .rw[if_neg hj,if_neg hj]
  rw[e1]
theorem Rw{cs:Array Bool}{e:M}{l:List (Int × D)}(ht:kj P t=A e)(hm:h[b]? = A (Jk l)):Ps P T .len #[t] ty cs [.map (A b)] K h=K (J B (G l)) h:=by
 obtain⟨k,hu,hk⟩:=MP ht;show hw P (do pure (.value (<-Builtin.len_ #[t] ty #[.map (A b)]))) (Jr P T K) h=_;rw[Zj];show hw P (do
  match <-underlying t,(Value.map (A b)) with
  | .string,.string s=>pure (goInt s.size)
  | .array n _,_=>pure (goInt n)
  | .pointer arr,_=>
   let .array n _ <-underlying arr|stuck "len: pointer to array expected"
   pure (goInt n)
  | .slice _,L _ n _=>pure (goInt n)
  | .map _ _,.map O|.chan _ _,.chan O=>pure (goInt 0)
  | .map _ _,.map (A r)=>
   let .map entries _ <-getObj r|stuck "len: map expected"
   pure (goInt entries.size)
  | .chan _ _,.chan (A r)=>
   let .chan _ buf _ _ _ timer <-getObj r|stuck "len: channel expected"
   pure (goInt (if timer then 0 else buf.size))
  | _,_=>stuck "len: string, array, pointer to array, slice, map or channel expected") K h=_
 rw[Zj,ZM hu];simp only;rw[Zj];apply propext;rw[NS hm];simp only[a8,Vz];exact Iff.rfl
def tkp(P:W)(t:M):Bool:=match P.underlying t with|some (.pointer _)=>true|_=>false
def tkm(P:W)(t:M):Bool:=match P.underlying t with|some (.map _ _)=>true|_=>false
def tkf(P:W)(t:M):Bool:=match P.underlying t with|some (.func _ _ _)=>true|_=>false
theorem vM(h:tkp P t=true):∃e,P.underlying t=A (.pointer e):=by
 unfold tkp at h;split at h
 .exact⟨_,KO⟩
 .cases h
theorem vN(h:tkm P t=true):∃k e,P.underlying t=A (.map k e):=by
 unfold tkm at h;split at h
 .exact⟨_,_,KO⟩
 .cases h
theorem AD(h:tkf P t=true):∃a b c,P.underlying t=A (.func a b c):=by
 unfold tkf at h;split at h
 .exact⟨_,_,_,KO⟩
 .cases h
theorem H7(ht:tkp P t=true){a:Option Addr}{Q:Bool->Hp->Prop}:hw P (Op.equal t (.pointer a) (.pointer O)) Q h=Q a.isNone h:=by
 obtain⟨e,hu⟩:=vM ht;unfold Op.equal Op.maxDepth Op.equalIn;rw[Zj,ZM hu]
 cases a<;>rfl
theorem run_eq_map(ht:tkm P t=true){a:Option Nat}{Q:Bool->Hp->Prop}:hw P (Op.equal t (.map a) (.map O)) Q h=Q a.isNone h:=by
 obtain⟨k,e,hu⟩:=vN ht;unfold Op.equal Op.maxDepth Op.equalIn;rw[Zj,ZM hu]
 cases a<;>rfl
theorem EU(ht:tkf P t=true){f:Fn}{x y:Array D}{Q:Bool->Hp->Prop}:hw P (Op.equal t (.func f x y) .nilFunc) Q h=Q false h:=by
 obtain⟨a,b,c,hu⟩:=AD ht;unfold Op.equal Op.maxDepth Op.equalIn;rw[Zj,ZM hu];rfl
theorem EV(ht:tkf P t=true){Q:Bool->Hp->Prop}:hw P (Op.equal t .nilFunc .nilFunc) Q h=Q true h:=by
 obtain⟨a,b,c,hu⟩:=AD ht;unfold Op.equal Op.maxDepth Op.equalIn;rw[Zj,ZM hu];rfl
theorem Cn{a b:D}{r:Bool}(hg:∀{Q:Unit->Hp->Prop},hw P (eqGuard .eql t x y a b) Q h=Q () h)(hb:binOp .eql t a b=do pure (U (<-Op.equal t a b)))(he:∀{Q:Bool->Hp->Prop},hw P (Op.equal t a b) Q h=Q r h):XS P .eql t x y a b K h=K (U r) h:=by
 unfold XS;rw[Zj,hg,hb,Zj,he];rfl
theorem gn{a b:D}{r:Bool}(hg:∀{Q:Unit->Hp->Prop},hw P (eqGuard .neq t x y a b) Q h=Q () h)(hb:binOp .neq t a b=do pure (U (!(<-Op.equal t a b))))(he:∀{Q:Bool->Hp->Prop},hw P (Op.equal t a b) Q h=Q r h):XS P .neq t x y a b K h=K (U (!r)) h:=by
 unfold XS;rw[Zj,hg,hb,Zj,he];rfl
@[go_sem] theorem Zew{a:Option Addr}(ht:tkp P t=true):XS P .eql t x y (.pointer a) (.pointer O) K h=K (U a.isNone) h:=Cn rfl rfl (H7 ht)
@[go_sem] theorem Zex{a:Option Addr}(ht:tkp P t=true):XS P .neq t x y (.pointer a) (.pointer O) K h=K (U (!a.isNone)) h:=gn rfl rfl (H7 ht)
@[go_sem] theorem Zey{a:Option Nat}(ht:tkm P t=true):XS P .eql t x y (.map a) (.map O) K h=K (U a.isNone) h:=Cn rfl rfl (run_eq_map ht)
@[go_sem] theorem ZfO{f:Fn}{u v:Array D}(ht:tkf P t=true):XS P .eql t x y (.func f u v) .nilFunc K h=K (U false) h:=Cn rfl rfl (EU ht)
@[go_sem] theorem ZfP(ht:tkf P t=true):XS P .eql t x y .nilFunc .nilFunc K h=K (U true) h:=Cn rfl rfl (EV ht)
@[go_sem] theorem ZfQ{f:Fn}{u v:Array D}(ht:tkf P t=true):XS P .neq t x y (.func f u v) .nilFunc K h=K (U true) h:=gn rfl rfl (EU ht)
@[go_sem] theorem ZfR(ht:tkf P t=true):XS P .neq t x y .nilFunc .nilFunc K h=K (U false) h:=gn rfl rfl (EV ht)
end
inductive AE{α β:Type}(R:α->β->Prop):List α->List β->Prop
 | nil:AE R [] []
 | cons {a:α} {b:β} {l:List α} {k:List β}:R a b->AE R l k->AE R (a :: l) (b :: k)
section
variable {τ:Type}
structure Kp(S:τ->Prop)(o:Nat->Option τ)(h:Hp)(o':Nat->Option τ)(h':Hp):Prop where
 size:h.size<=h'.size
 keep:∀b,b<h.size->(∀t,o b=A t->¬S t)->h'[b]? = h[b]? /\ o' b=o b
 stay:∀b,b<h.size->∀t,o b=A t->S t->∃t',o' b=A t'/\S t'
 new:∀b,h.size<=b->∀t,o' b=A t->S t
 Yt:∀b,h'.size<=b->o' b=O
variable {S S':τ->Prop} {o o' o'':Nat->Option τ} {h h' II:Hp}
def WY(o:Nat->Option τ)(h:Hp):Prop:=∀b,h.size<=b->o b=O
theorem Kp.refl(d:WY o h)(S:τ->Prop):Kp S o h o h:=
 ⟨au _,fun _ _ _=>⟨rfl,rfl⟩,fun _ _ t ht hs=>⟨t,ht,hs⟩,fun b hb t ht=>(by rw[d b hb]at ht;cases ht),d⟩
theorem Kp.mono(k:Kp S o h o' h')(hs:∀t,S t->S' t):Kp S' o h o' h':=
 ⟨k.size,fun b hb hn=>k.keep b hb fun t ht q=>hn t ht (hs t q),fun b hb t ht q=>by
  by_cases p:S t
  .obtain⟨t',h1,h2⟩:=k.stay b hb t ht p;exact⟨t',h1,hs _ h2⟩
  .exact⟨t,by rw[(k.keep b hb fun u hu=>by rw[ht]at hu;cases hu;exact p).2,ht],q⟩,fun b hb t ht=>hs _ (k.new b hb t ht),k.Yt⟩
theorem Kp.trans(k:Kp S o h o' h')(l:Kp S o' h' o'' II):Kp S o h o'' II:=by
 refine⟨Nat.le_trans k.size l.size,fun b hb hn=>?_,fun b hb t ht hs=>?_,fun b hb t ht=>?_,l.Yt⟩
 .obtain⟨h1,h2⟩:=k.keep b hb hn;obtain⟨h3,h4⟩:=l.keep b (a5 hb k.size) fun t ht=>hn t (by rw[<-h2];exact ht);exact⟨h3.trans h1,h4.trans h2⟩
 .obtain⟨t',h1,h2⟩:=k.stay b hb t ht hs;exact l.stay b (a5 hb k.size) t' h1 h2
 .by_cases JU:h'.size<=b
  .exact l.new b JU t ht
  .have ZV:b<h'.size:=mD
   cases ho:o' b with
   | none=>
    have:=(l.keep b ZV fun u hu=>by rw[ho]at hu;cases hu).2;rw[this,ho]at ht;cases ht
   | some t1=>
    obtain⟨t2,h1,h2⟩:=l.stay b ZV t1 ho (k.new b hb t1 ho);rw[h1]at ht;cases ht;exact h2
theorem Kp.get(k:Kp S o h o' h'){x:Obj}(hx:h[b]? = A x)(hn:∀t,o b=A t->¬S t):h'[b]? = A x:=by
 rw[(k.keep b (Za hx) hn).1,hx]
theorem Kp.Zr(k:Kp S o h o' h'){x:Obj}(hx:h[b]? = A x)(hn:∀t,o b=A t->¬S t):o' b=o b:=(k.keep b (Za hx) hn).2
theorem Kp.free(k:Kp S o h o' h'){x:Obj}(hx:h[b]? = A x)(hn:o b=O):h'[b]? = A x/\o' b=O:=by
 have Nq:∀t,o b=A t->¬S t:=fun t ht=>by rw[hn]at ht;cases ht
 exact⟨k.get hx Nq,(k.Zr hx Nq).trans hn⟩
theorem Kp.H8(d:WY o h)(b:Zk h.size h h')(S:τ->Prop):Kp S o h o h':=
 ⟨b.size,fun k hk _=>⟨b.block k hk,rfl⟩,fun _ _ t ht hs=>⟨t,ht,hs⟩,fun k hk t ht=>(by rw[d k hk]at ht;cases ht),fun k hk=>d k (Nat.le_trans b.size hk)⟩
theorem Kp.YJ(k:Kp S o h o' h')(b:Zk h'.size h' II):Kp S o h o' II:=k.trans (Kp.H8 k.Yt b S)
theorem Kp.push(k:Kp S o h o' h')(x:Obj):Kp S o h o' (h'.push x):=k.YJ ((Zk.refl _ _).add x)
theorem Kp.set(k:Kp S o h o' h'){t:τ}(hb:o' b=A t)(hs:S t)(x:Obj):Kp S o h o' (h'.setIfInBounds b x):=by
 refine k.trans ⟨by rw[al];exact au _,fun c hc hn=>⟨?_,rfl⟩,fun _ _ t ht hs=>⟨t,ht,hs⟩,fun c hc t ht=>(by rw[k.Yt c hc]at ht;cases ht),fun c hc=>k.Yt c (by rw[al]at hc;exact hc)⟩;rw[Z,if_neg (fun e=>hn t (by rw[<-e];exact hb) hs)]
theorem Kp.gq(k:Kp S o h o' h')(hb:h.size<=b)(x:Obj):Kp S o h o' (h'.setIfInBounds b x):=by
 refine⟨by rw[al];exact k.size,fun c hc hn=>⟨?_,(k.keep c hc hn).2⟩,k.stay,k.new,fun c hc=>k.Yt c (by rw[al]at hc;exact hc)⟩;rw[Z,if_neg (fun e=>by omega)];exact (k.keep c hc hn).1
def QI(o:Nat->Option τ)(b:Nat)(t:τ):Nat->Option τ:=fun c=>if c=b then A t else o c
theorem XR{t:τ}:QI o b t b=A t:=if_pos rfl
theorem XY{c:Nat}{t:τ}(hc:c≠b):QI o b t c=o c:=if_neg hc
theorem Kp.PI(k:Kp S o h o' h'){t:τ}(hb:h.size<=b)(ZV:b<h'.size)(hs:S t):Kp S o h (QI o' b t) h':=
 ⟨k.size,fun c hc hn=>⟨(k.keep c hc hn).1,by rw[XY mD];exact (k.keep c hc hn).2⟩,fun c hc u hu hsu=>by rw[XY mD];exact k.stay c hc u hu hsu,
  fun c hc u hu=>by
  by_cases DX:c=b
  .subst DX;rw[XR]at hu;cases hu;exact hs
  .rw[XY DX]at hu;exact k.new c hc u hu,
  fun c hc=>by rw[XY mD];exact k.Yt c hc⟩
def Xm(o:Nat->Option τ)(t:τ)(E:M)(n:Nat)(h:Hp)(v:D)(m:Nat)(cs:List D):Prop:=
 ((∃p,v=L p 0 0)/\m=0/\cs=[]) \/
 ∃b k cap pre ZE,o b=A t/\v=L (A ⟨b,k,O⟩) m cap/\h[b]? = A (aF (pre++(cs++ZE)).toArray E (0,0))/\(G pre)=k/\(G cs)=m*n/\(G ZE)=(cap-m)*n/\m<=cap
variable {t:τ} {E:M} {n m:Nat} {v:D} {cs:List D}
theorem Xm.nil(o:Nat->Option τ)(t:τ)(E:M)(n:Nat)(h:Hp):Xm o t E n h (L O 0 0) 0 []:=.inl ⟨⟨_,rfl⟩,rfl,rfl⟩
theorem Xm.keep(s:Xm o t E n h v m cs)(k:Kp S o h o' h')(hn:¬S t):Xm o' t E n h' v m cs:=by
 rcases s with s|⟨b,j,cap,pre,ZE,h1,h2,h3,h4,h5,h6,h7⟩
 .exact .inl s
 .have Nq:∀u,o b=A u->¬S u:=fun u hu=>by rw[h1]at hu;cases hu;exact hn
  exact .inr ⟨b,j,cap,pre,ZE,by rw[k.Zr h3 Nq,h1],h2,k.get h3 Nq,h4,h5,h6,h7⟩
theorem Xm.sl(s:Xm o t E n h v m cs):Sl n h v m cs:=by
 rcases s with⟨⟨p,rfl⟩,rfl,rfl⟩|⟨b,j,cap,pre,ZE,h1,rfl,h3,h4,h5,h6,h7⟩
 .exact⟨p,0,rfl,sW,fun Xb=>absurd rfl Xb⟩
 .exact VL h3 h5 h4.symm
theorem Xm.length(s:Xm o t E n h v m cs):(G cs)=m*n:=by
 rcases s with⟨_,rfl,rfl⟩|⟨b,j,cap,pre,ZE,h1,h2,h3,h4,h5,h6,h7⟩
 .simp
 .exact h5
theorem Xm.ZN(s:Xm o t E n h v m cs):∃p c,v=L p m c/\m<=c:=by
 rcases s with⟨⟨p,rfl⟩,rfl,rfl⟩|⟨b,j,cap,pre,ZE,h1,rfl,h3,h4,h5,h6,h7⟩
 .exact⟨p,0,rfl,au _⟩
 .exact⟨_,cap,rfl,h7⟩
theorem Xm.tail{p:Option Addr}{c:Nat}(s:Xm o t E n h (L p m c) m cs){k:Nat}(hk:k<=m):Xm o t E n h (L (if c=k then p else p.map (·.add (k*n))) (m-k) (c-k)) (m-k) (cs.drop (k*n)):=by
 rcases s with⟨⟨q,h1⟩,h2,h3⟩|⟨b,j,cap,pre,ZE,h1,h2,h3,h4,h5,h6,h7⟩
 .simp only[Value.slice.injEq]at h1;obtain⟨rfl,rfl,rfl⟩:=h1;have e:k=0:=mD;subst e;subst h3;exact .inl ⟨⟨_,rfl⟩,rfl,sW⟩
 .simp only[Value.slice.injEq]at h2;obtain⟨rfl,_,rfl⟩:=h2;have hmn:k*n<=m*n:=a1 _ hk;by_cases hc:c=k
  .have hm:m=k:=mD;rw[if_pos hc];refine .inl ⟨⟨A ⟨b,j,O⟩,by rw[hc,hm,Nat.sub_self]⟩,mD,?_⟩;exact List.drop_eq_nil_of_le (by rw[h5,hm];exact au _)
  .rw[if_neg hc];refine .inr ⟨b,j+k*n,c-k,pre++cs.take (k*n),ZE,h1,by rw[Option.map_some,XL],?_,?_,?_,?_,mD⟩
   .rw[aU,<-aU (List.take _ _),List.take_append_drop];exact h3
   .rw[aa,List.length_take,h4,h5];omega
   .rw[ba,h5,Nat.sub_mul]
   .rw[h6];congr 1;omega
variable {P:W} {T:a2} {K:D->Hp->Prop} {F:Env} {ty:M}
theorem AF{a b c vs:List D}{i:Nat}(hi:i=(G a)+(G b))(hv:(G vs)<=(G c)):Xd (a++(b++c)) i vs=a++((b++vs)++c.drop (G vs)):=by
 subst hi;have e1:a++(b++c)=(a++b)++c:=by rw[aU]
 rw[e1,<-aa,VQ,Uy _ _ hv];simp
theorem Qg{sT xT E' k bytes:Nat}{s:D}{news zs:List D}{cb:Array Bool}(Vv:QE P sT=A E)(D5:P.underlying xT=A (.slice E'))(hn:tn P E=A n)(hz:tz P E=A zs)(fO:zs.length=n)(OB:tb P E=A bytes)(Zr:Xm o t E n h v m cs)(d:WY o h)(src:Sl n h s k news)(X1:news.all YN=true)(Xa:(m+k)*bytes<=140737488355328)(D6:1<=bytes)(H:∀v' o' h',Xm o' t E n h' v' (m+k) (cs++news)->Kp (fun u=>u=t) o h o' h'->(∀b,b<h.size->o' b=o b)->K v' h'):Ps P T .append #[sT,xT] ty cb [v,s] K h:=by
 unfold QE at Vv;split at Vv
 .rename_i e' hu;simp only[Option.some.injEq]at Vv;subst Vv;show hw P (do pure (.value (<-an #[sT,xT] ty #[v,s]))) (Jr P T K) h;rw[Zj];show hw P (an #[sT,xT] ty #[v,s]) K h;obtain⟨i0,Ph⟩:∃i,P.info? e'=A i:=by
   unfold tn at hn
   cases hi:P.info? e' with
   | none=>rw[hi]at hn;cases hn
   | some i=>exact⟨i,rfl⟩
  have NL:i0.bytes=bytes:=by unfold tb at OB;rw[Ph]at OB;simpa using OB
  obtain⟨z0,Bz,fP⟩:∃z,i0.zero=A z/\z.cells.toList=zs:=by
   unfold tz at hz;rw[Ph]at hz
   cases I8:i0.zero with
   | none=>rw[am,I8]at hz;cases hz
   | some z=>rw[am,I8]at hz;exact⟨z,rfl,by simpa using hz⟩
  obtain⟨base,cap,hv,sO⟩:=Zr.ZN;subst hv;have nz:∀{Q:D->Hp->Prop} (g:Hp),hw P (zeroValue e') Q g=Q z0 g:=fun {Q} g=>by
   unfold zeroValue;rw[Zj,X0 Ph];simp only[Bz];rfl
  have VT:news.length=k*n:=by obtain⟨_,_,_,hl,_⟩:=src;exact hl
  simp only[an,ak,a0,aw,Zj,ZO,ZM hu,ZM D5,run_sizeOf hn,a6,if_false,src.lenOf,bc,if_true];by_cases QG:m+k<=cap
  .rw[if_pos QG,Zj];refine YE src ?_;rcases Zr with⟨⟨p,h1⟩,h2,h3⟩|⟨b,j,HP,pre,ZE,h1,h2,h3,h4,h5,h6,h7⟩
   .simp only[Value.slice.injEq]at h1;obtain⟨rfl,rfl,rfl⟩:=h1;have hk:k=0:=mD;subst hk;subst h3;have Xb:news=[]:=aI (by simpa using VT);subst Xb;have hK:K (.slice base (0+0) 0) h:=H _ o h (.inl ⟨⟨_,rfl⟩,rfl,rfl⟩) (Kp.refl d _) (fun _ _=>rfl)
    cases base<;>exact hK
   .simp only[Value.slice.injEq]at h2;obtain⟨rfl,_,rfl⟩:=h2;simp only[Zj,XL];have Rt:news.length<=ZE.length:=by rw[VT,h6];exact a1 _ mD
    refine YZ (e:=e') (lo:=0) (hi:=0) rfl (au _) news 0 h (pre++(cs++ZE)).toArray h3 ?_ X1 ?_
    .simp;rw[h4,<-h5];omega
    .simp only[ZO,a9];refine H _ o _ (.inr ⟨b,j,cap,pre,ZE.drop news.length,h1,rfl,?_,h4,?_,?_,QG⟩) ((Kp.refl d (fun u=>u=t)).set h1 rfl _) (fun _ _=>rfl)
     .rw[Z,if_pos rfl,if_pos (Za h3)];rw[AF (by rw[h4,h5]) Rt]
     .rw[aa,h5,VT,Nat.add_mul]
     .rw[ba,h6,VT,<-Nat.sub_mul];congr 1;omega
  .rw[if_neg QG];have U3:¬Builtin.nextslicecap (m+k) cap*i0.bytes>2 ^ 48:=by
    rw[NL];have:=VR (m+k) cap bytes mD Xa;omega
   have fQ:¬i0.bytes=0:=by rw[NL];omega
   simp only[Zj,X0 Ph,fQ,or_false,and_false,if_false,if_neg U3];intro q;obtain⟨c,hc⟩:=ZP (Question.cut (Question.appendCap (m+k) cap e') q);have vg:m+k<=c:=by rw[hc];simp only[Question.cut];omega
   rw[<-hc];have NM:∀{Q:Unit->Hp->Prop} (b:Nat) (g:Hp),Q () g->hw P (askRoom b) Q g:=fun {Q} b g q=>by
    unfold askRoom;split<;>exact q
   refine NM _ _ (YE Zr.sl (YE src ?_));rw[nz];have vj:z0.cells.size=n:=by rw[<-fO,<-fP];simp
   refine H (.slice (A ⟨h.size,0,O⟩) (m+k) c) (QI o h.size t) _ (.inr ⟨h.size,0,c,[],(Y z0.cells (c-(m+k))).toList,XR,rfl,?_,rfl,?_,?_,vg⟩) (((Kp.refl d _).push _).PI (au _) sW rfl) (fun b hb=>XY mD)
   .rw[Array.getElem?_push_size];simp
   .rw[aa,Zr.length,VT,Nat.add_mul]
   .rw[a3,Xr,vj]
 .cases Vv
theorem H9{sT xT E' k off cap:Nat}{s:D}{pre ZE news zs:List D}{cb:Array Bool}(Vv:QE P sT=A E)(D5:P.underlying xT=A (.slice E'))(hn:tn P E=A n)(hz:tz P E=A zs)(hb:h[b]? = A (aF (pre++(cs++ZE)).toArray E (0,0)))(ho:off=(G pre))(hl:(G cs)=m*n)(src:Sl n h s k news)(X1:news.all YN=true)(QG:m+k<=cap)(Xa:k*n<=(G ZE))(H:K (L (A ⟨b,off,O⟩) (m+k) cap) (h.setIfInBounds b (aF (pre++((cs++news)++ZE.drop (k*n))).toArray E (0,0)))):Ps P T .append #[sT,xT] ty cb [L (A ⟨b,off,O⟩) m cap,s] K h:=by
 unfold QE at Vv;split at Vv
 .rename_i e' hu;simp only[Option.some.injEq]at Vv;subst Vv;show hw P (do pure (.value (<-an #[sT,xT] ty #[L (A ⟨b,off,O⟩) m cap,s]))) (Jr P T K) h;rw[Zj];show hw P (an #[sT,xT] ty #[L (A ⟨b,off,O⟩) m cap,s]) K h;obtain⟨i0,Ph⟩:∃i,P.info? e'=A i:=by
   unfold tn at hn
   cases hi:P.info? e' with
   | none=>rw[hi]at hn;cases hn
   | some i=>exact⟨i,rfl⟩
  obtain⟨z0,Bz,fP⟩:∃z,i0.zero=A z/\z.cells.toList=zs:=by
   unfold tz at hz;rw[Ph]at hz
   cases I8:i0.zero with
   | none=>rw[am,I8]at hz;cases hz
   | some z=>rw[am,I8]at hz;exact⟨z,rfl,by simpa using hz⟩
  have VT:(G news)=k*n:=by obtain⟨_,_,_,hl,_⟩:=src;exact hl
  simp only[an,ak,a0,aw,Zj,ZO,ZM hu,ZM D5,run_sizeOf hn,a6,if_false,src.lenOf,bc,if_true];rw[if_pos QG,Zj];refine YE src ?_;simp only[Zj,XL];refine YZ (e:=e') (lo:=0) (hi:=0) rfl (au _) news 0 h (pre++(cs++ZE)).toArray hb ?_ X1 ?_
  .simp;rw[ho,hl.symm];omega
  .simp only[ZO,a9];have e:Xd (pre++(cs++ZE)) (off+m*n) news=pre++((cs++news)++ZE.drop (k*n)):=by
    rw[AF (by rw[ho,hl]) mD,VT]
   rw[e];exact H
 .cases Vv
theorem L4{sT:M}{zs:List D}{cb:Array Bool}{off k c:Nat}{pre Ga post:List D}(Vv:QE P sT=A E)(hz:tz P E=A zs)(fO:(G zs)=n)(Co:zs.all YN=true)(hb:h[b]? = A (aF (pre++(Ga++post)).toArray E (0,0)))(ho:off=(G pre))(hl:(G Ga)=k*n)(H:∀new:List D,(G new)=(G Ga)->K (.tuple #[]) (h.setIfInBounds b (aF (pre++(new++post)).toArray E (0,0)))):Ps P T .clear #[sT] ty cb [L (A ⟨b,off,O⟩) k c] K h:=by
 unfold QE at Vv;split at Vv
 .rename_i e' hu;simp only[Option.some.injEq]at Vv;subst Vv;show hw P (do pure (.value (<-bd #[sT] ty #[L (A ⟨b,off,O⟩) k c]))) (Jr P T K) h;rw[Zj];show hw P (bd #[sT] ty #[L (A ⟨b,off,O⟩) k c]) K h;have same:h.setIfInBounds b (aF (pre++(Ga++post)).toArray e' (0,0))=h:=by
   apply a4;intro j;rw[Z];by_cases hj:b=j
   .subst hj;rw[if_pos rfl,if_pos (Za hb),hb]
   .rw[if_neg hj]
  show hw P (do
   match <-underlying sT,(Value.slice (A ⟨b,off,O⟩) k c) with
   | _,.map O|_,L O _ _|_,L _ 0 _=>pure ()
   | _,.map (A r)=>
    let .map _ clock <-getObj r|stuck "clear: map expected"
    setObj r (.map #[] clock)
   | .slice elem,L (A a) n _=>
    storeCells a (Y (<-zeroValue elem).cells n).toList
   | _,_=>stuck "clear: map or slice expected"
   pure (.tuple #[])) K h
  rw[Zj,ZM hu]
  cases k with
  | zero=>
   have h0:Ga=[]:=aI (by rw[hl];simp);subst h0;have:=H [] rfl;rw[same]at this;exact this
  | succ k=>
   obtain⟨i0,Ph⟩:∃i,P.info? e'=A i:=by
    unfold tz at hz
    cases hi:P.info? e' with
    | none=>rw[hi]at hz;cases hz
    | some i=>exact⟨i,rfl⟩
   obtain⟨z0,Bz,fP⟩:∃z,i0.zero=A z/\z.cells.toList=zs:=by
    unfold tz at hz;rw[Ph]at hz
    cases I8:i0.zero with
    | none=>rw[am,I8]at hz;cases hz
    | some z=>rw[am,I8]at hz;exact⟨z,rfl,by simpa using hz⟩
   have nz:∀{Q:D->Hp->Prop} (g:Hp),hw P (zeroValue e') Q g=Q z0 g:=fun {Q} g=>by
    unfold zeroValue;rw[Zj,X0 Ph];simp only[Bz];rfl
   simp only[Zj];rw[nz];have vj:z0.cells.size=n:=by rw[<-fO,<-fP];simp
   have dH:(Y z0.cells (k+1)).toList.length=(G Ga):=by rw[a3,Xr,vj,hl]
   refine YZ (a:=⟨b,off,O⟩) (e:=e') (lo:=0) (hi:=0) rfl (au _) _ 0 h (pre++(Ga++post)).toArray hb ?_ ?_ ?_
   .simp only[a8,aa,dH];omega
   .rw[bb];intro x hx;have hx:x∈Y z0.cells (k+1):=by simpa using hx
    have NX:x∈zs:=by
     rw[<-fP];unfold Y at hx;rw[Array.mem_map]at hx;obtain⟨i,hi,rfl⟩:=hx;rw[Array.mem_range]at hi;have HE:0<z0.cells.size:=by
      rcases Nat.eq_zero_or_pos z0.cells.size with q|q
      .rw[q,Nat.mul_zero]at hi;omega
      .exact q
     have ZV:i%z0.cells.size<z0.cells.size:=Nat.mod_lt _ HE;rw[getElem!_pos z0.cells _ ZV];simp
    exact bb.1 Co x NX
   .simp only[a9];have e1:Xd (pre++(Ga++post)).toArray.toList off (Y z0.cells (k+1)).toList=pre++((Y z0.cells (k+1)).toList++post):=TV ho dH;rw[e1];exact H _ dH
 .cases Vv
end
section
variable {P:W} {T:a2} {K:D->Hp->Prop} {F:Env} {h:Hp} {ty:M}
end
section
variable {P:W} {T:a2} {K:D->Hp->Prop} {F:Env} {h:Hp} {ty:M}
end
section
variable {P:W} {n:Nat} {T:a2} {N:Env->Hp->Prop} {X:Nat->Env->Hp->Prop} {R:Env->Hp->Prop} {F:Env} {h:Hp}
variable {l:Option Nat}
end
section
variable {P:W} {n:Nat} {T:a2} {h:Hp}
section
variable {l:Option Nat} {N:Env->Hp->Prop} {X:Nat->Env->Hp->Prop} {R:Env->Hp->Prop} {F:Env}
end
section
variable {f:FuncId} {fn:Func} {c:Code} {l:List ResultVar} {K:D->Hp->Prop}
end
end
def rfA:Code->Option Code
 | .rangeFunc _ _ a _=>A a
 | _=>O
end Go.V
