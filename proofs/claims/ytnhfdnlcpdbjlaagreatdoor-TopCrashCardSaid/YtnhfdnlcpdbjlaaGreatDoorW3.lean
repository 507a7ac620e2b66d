/- Part W3. -/
import Derived.Test.YtnhfdnlcpdbjlaaGreatDoorV9
open Go.Value renaming agg→D,bool→L
open List renaming length→w,eq_nil_of_length_eq_zero→E,drop_drop→J,length_take→U,length_drop→W,take_append_drop→X,drop_zero→Y,length_cons→aa,length_nil→al,forIn_cons→au,headD_cons→aw
open Nat renaming add_mul→S,one_mul→ak
open Option renaming map_some→am,some→B,none→M
open Bool renaming false_eq_true→R,and_eq_true→Z,not_false→aF,false_and→aI,not_true→aK,true_and→aU
open Go renaming Value→A,TypeId→G,Program→O
namespace Go.V
set_option linter.all false
variable{P:O}{cs:List A}{h:Hp}{ks:List (Option IntKind)}{t:G}
theorem Cb{k:Nat}{i:IntKind}(ht:P.underlying t=B (.int i))(hf:fit P h k t cs):∃n,cs=[.int i n]/\(Lit.int i n).wf=true:=by
 cases k with
 | zero=>exact hf.elim
 | succ k=>unfold fit at hf;rw[ht]at hf;exact hf
theorem fU{k:Nat}{fs:Array Field}(ht:P.underlying t=B (.struct fs))(hf:fit P h k t cs):
  (w cs)=P.cellsOf t/\∀(i:Nat) (f:Field),fs[i]? = B f->∃k,fit P h k f.type ((cs.drop f.offset).take (P.cellsOf f.type)):=by
 cases k with
 | zero=>exact hf.elim
 | succ k=>
  unfold fit at hf;rw[ht]at hf;exact⟨hf.1,fun i f hi=>⟨k,hf.2 f (by have:=Array.mem_of_getElem? hi;simpa using this)⟩⟩
theorem nH{k:Nat}{e:G}{n:Nat}(ht:P.underlying t=B (.array n e))(hf:fit P h k t cs):
  (w cs)=P.cellsOf t/\∀i,i<n->∃k,fit P h k e ((cs.drop (i*P.cellsOf e)).take (P.cellsOf e)):=by
 cases k with
 | zero=>exact hf.elim
 | succ k=>
  unfold fit at hf;rw[ht]at hf;exact⟨hf.1,fun i hi=>⟨k,hf.2 i hi⟩⟩
def ZT{α:Type}(enc:α->List A):List α->List A
 | []=>[]
 | x :: l=>enc x++ZT enc l
theorem YV{α:Type}(enc:α->List A)(l k:List α):ZT enc (l++k)=ZT enc l++ZT enc k:=by
 induction l with
 | nil=>rfl
 | cons x l ih=>simp[ZT,ih]
theorem QL{α:Type}{enc:α->List A}{n:Nat}(Wh:∀x,(enc x).length=n)(l:List α):(ZT enc l).length=(w l)*n:=by
 induction l with
 | nil=>simp[ZT]
 | cons x l ih=>simp[ZT,ih,Wh,S,Nat.add_comm]
theorem WH{α:Type}(f:α->A)(l:List α):ZT (fun x=>[f x]) l=l.map f:=by
 induction l with
 | nil=>rfl
 | cons x l ih=>simp[ZT,ih]
theorem HS{b o:Nat}{ds:List A}(h1:XX h b o cs)(h2:XX h b (o+(w cs)) ds):XX h b o (cs++ds):=by
 intro i hi;by_cases ZV:i<(w cs)
 .rw[h1 i ZV];simp[ZV]
 .have:=h2 (i-(w cs)) (by simp at hi;omega);rw[show o+(w cs)+(i-(w cs))=o+i by omega]at this;rw[this];simp[List.getElem_append,ZV]
theorem collect{α:Type}{b o n:Nat}{enc:α->List A}{ok:α->Prop}(Wh:∀x,(enc x).length=n):∀len,(∀i,i<len->∃x,ok x/\XX h b (o+i*n) (enc x)) ->
  ∃l:List α,(w l)=len/\XX h b o (ZT enc l)/\∀x∈l,ok x:=by
 intro len
 induction len with
 | zero=>intro _;exact⟨[],rfl,fun i hi=>by simp[ZT]at hi,fun x hx=>by cases hx⟩
 | succ len ih=>
  intro H;obtain⟨l,h1,h2,h3⟩:=ih (fun i hi=>H i mD);obtain⟨x,hx,hc⟩:=H len mD;refine⟨l++[x],by simp[h1],?_,fun y hy=>?_⟩
  .rw[YV];refine HS h2 ?_;rw[QL Wh,h1]
   simpa [ZT] using hc
  .rcases List.mem_append.1 hy with hy|hy
   .exact h3 y hy
   .simp at hy;subst hy;exact hx
theorem nJ{α:Type}{k:Nat}{e:G}{v:A}{n:Nat}{enc:α->List A}{ok:α->Prop}(ht:P.underlying t=B (.slice e))(hn:P.cellsOf e=n)(EM:n≠0)(Wh:∀x,(enc x).length=n)(each:∀k ds,fit P h k e ds->∃x,ok x/\ds=enc x)(hf:fit P h k t [v]):
  ∃l:List α,Sl n h v (w l) (ZT enc l)/\(∀x∈l,ok x)/\(w l)*P.bytesOf e<=140737488355328:=by
 cases k with
 | zero=>exact hf.elim
 | succ k=>
  unfold fit at hf;rw[ht]at hf;obtain⟨p,len,cap,hv,hlc,U3,hel⟩:=hf;simp only[List.cons.injEq,and_true]at hv;subst hv;have ZfA:len*P.bytesOf e<=140737488355328:=Nat.le_trans (Nat.mul_le_mul_right _ hlc) (Nat.le_trans U3 KC);by_cases hl:len=0
  .subst hl;exact⟨[],⟨p,cap,rfl,by simp[ZT],fun h=>(h rfl).elim⟩,fun x hx=>by (cases hx),sW⟩
  .obtain⟨b,o,rfl,hb,XT⟩:=hel hl mD;obtain⟨l,h1,h2,h3⟩:=collect (h:=h) (b:=b) (o:=o) (ok:=ok) Wh len (fun i hi=>by
    obtain⟨ds,hds,hc,hfe⟩:=XT i hi;obtain⟨x,hx,rfl⟩:=each k ds hfe;exact⟨x,hx,by rw[<-hn];exact hc⟩)
   exact⟨l,⟨_,cap,by rw[h1],QL Wh l,fun _=>⟨b,o,rfl,h2⟩⟩,h3,by rw[h1];exact ZfA⟩
theorem wf_i64{n:Int}(h:(Lit.int .i64 n).wf=true): -9223372036854775808<=n/\n<=9223372036854775807:=by
 simp[Lit.wf,IntKind.min,IntKind.max,IntKind.signed,IntKind.bits]at h;omega
theorem fitAll_nil{vs:List A}(hf:fitAll P h [] vs):vs=[]:=by
 cases vs with
 | nil=>rfl
 | cons a l=>exact hf.elim
theorem fitAll_cons{ts:List G}{vs:List A}(hf:fitAll P h (t :: ts) vs):∃v l,vs=v :: l/\(∃k,nA P h k t v)/\fitAll P h ts l:=by
 cases vs with
 | nil=>exact hf.elim
 | cons a l=>exact⟨a,l,rfl,hf.1,hf.2⟩
theorem HT{k:Nat}{v:A}(ha:ta P t=B false)(hf:nA P h k t v):fit P h k t [v]:=by
 unfold nA at hf;rw[ha]at hf;exact hf
section
variable {P:O} {T:World} {K:A->Hp->Prop} {h:Hp}
end
def LS(P:O)(g:G->Option (List (Option IntKind))):List Field->Nat->Option (List (Option IntKind))
 | [],_=>B []
 | f :: fs,o=>match g f.type with
  | some l=>if f.name ≠ "_" /\ f.offset=o/\tn P f.type=B (w l) then (LS P g fs (o+(w l))).map (l ++ ·) else M
  | none=>M
def rep{α:Type}:Nat->List α->List α
 | 0,_=>[]
 | n+1,l=>l++rep n l
def flat(P:O):Nat->G->Option (List (Option IntKind))
 | 0,_=>M
 | k+1,t=>match P.underlying t with
  | some (.int i)=>B [B i]
  | some .bool=>B [M]
  | some (.struct fs)=>if P.stoodInHeld t=true then M else LS P (flat P k) fs.toList 0
  | some (.array n e)=>match flat P k e with
   | some l=>if tn P e=B (w l) then B (rep n l) else M
   | none=>M
  | _=>M
def Ve:Option IntKind->A->Bool
 | some i,.int j _=>i == j
 | none,L _=>true
 | _,_=>false
def Xj:List (Option IntKind)->List A->Bool
 | [],[]=>true
 | k :: ks,v :: vs=>Ve k v&&Xj ks vs
 | _,_=>false
def ceq:A->A->Bool
 | .int _ a,.int _ b=>a == b
 | L a,L b=>a == b
 | _,_=>false
def leq:List A->List A->Bool
 | [],[]=>true
 | a :: l,b :: k=>ceq a b&&leq l k
 | _,_=>false
theorem XD:∀{vs:List A},Xj ks vs=true->(w vs)=(w ks):=by
 induction ks with
 | nil=>intro vs h;cases vs with
  | nil=>rfl
  | cons a l=>simp[Xj]at h
 | cons k ks ih=>intro vs h;cases vs with
  | nil=>simp[Xj]at h
  | cons a l=>simp only[Xj,Z]at h;simp[ih h.2]
theorem TO{js:List (Option IntKind)}:∀{vs:List A},Xj (ks++js) vs=true->Xj ks (vs.take (w ks))=true/\Xj js (vs.drop (w ks))=true:=by
 induction ks with
 | nil=>intro vs h;exact⟨by simp[Xj],by simpa using h⟩
 | cons k ks ih=>
  intro vs h
  cases vs with
  | nil=>simp[Xj]at h
  | cons a l=>
   simp only[List.cons_append,Xj,Z]at h;obtain⟨h1,h2⟩:=ih h.2;exact⟨by simp[Xj,h.1,h1],by simpa using h2⟩
theorem HU(n:Nat):∀{a b:List A},(w a)=(w b)->leq a b=(leq (a.take n) (b.take n)&&leq (a.drop n) (b.drop n)):=by
 induction n with
 | zero=>intro a b h;simp[leq]
 | succ n ih=>
  intro a b h
  cases a with
  | nil=>cases b with
   | nil=>simp[leq]
   | cons y b=>simp at h
  | cons x a=>
   cases b with
   | nil=>simp at h
   | cons y b=>simp only[List.take_succ_cons,List.drop_succ_cons,leq];rw[ih (by simpa using h),Bool.and_assoc]
section
variable {P:O} {h:Hp}
def valOf(P:O)(t:G)(cs:List A):A:=
 match ta P t with
 | some true=>D cs.toArray
 | _=>cs.headD undef
theorem MM{o:Nat}{k:Nat}(hk:flat P k t=B ks)(hn:tn P t=B (w ks))(hc:Xj ks ((cs.drop o).take (w ks))=true){Q:A->Hp->Prop}:
  hw P (part t cs.toArray o) Q h=Q (valOf P t ((cs.drop o).take (w ks))) h:=by
 unfold part valOf;rw[Zj]
 cases k with
 | zero=>simp[flat]at hk
 | succ k=>
  have e:(cs.toArray.extract o (o+(w ks)))=((cs.drop o).take (w ks)).toArray:=by
   apply Array.toList_inj.1;simp[List.extract_eq_take_drop]
  unfold flat at hk;have one:∀{kd:Option IntKind},ks=[kd]->ta P t=B false->hw P (isAgg t) (fun a h'=>hw P (if a=true then do pure (D (cs.toArray.extract o (o+(<-sizeOf t)))) else match cs.toArray[o]? with|some v=>pure v|none=>stuck "part: no such cell") Q h') h=Q (match ta P t with|some true=>D ((cs.drop o).take (w ks)).toArray|_=>((cs.drop o).take (w ks)).headD undef) h:=by
   intro kd hks dK;subst hks;rw[VJ dK,if_neg sW,dK];have hl:=XD hc;simp only[aa,al,U,W]at hl;have ZV:o<(w cs):=mD;have e2:cs.toArray[o]? = B cs[o]:=by simp[ZV]
   have e3:((cs.drop o).take 1).headD undef=cs[o]:=by
    rw[List.headD_eq_head?_getD,List.head?_take];simp[ZV]
   simp only[e2];show Q _ h=Q _ h;simp only[aa,al,Nat.zero_add,e3]
  have agg:ta P t=B true->hw P (isAgg t) (fun a h'=>hw P (if a=true then do pure (D (cs.toArray.extract o (o+(<-sizeOf t)))) else match cs.toArray[o]? with|some v=>pure v|none=>stuck "part: no such cell") Q h') h=Q (match ta P t with|some true=>D ((cs.drop o).take (w ks)).toArray|_=>((cs.drop o).take (w ks)).headD undef) h:=by
   intro dK;rw[VJ dK,if_pos rfl,Zj,run_sizeOf hn,e,dK];rfl
  split at hk
  .rename_i hu;exact one (by simpa using hk.symm) (by simp[ta,hu])
  .rename_i hu;exact one (by simpa using hk.symm) (by simp[ta,hu])
  .rename_i hu;exact agg (by simp[ta,hu])
  .rename_i hu;exact agg (by simp[ta,hu])
  .cases hk
theorem fV{k:Nat}{d:Nat}{a b:List A}(ih:∀(t:G) (ks:List (Option IntKind)) (a b:List A),flat P k t=B ks->Xj ks a=true->Xj ks b=true->∀{Q:Bool->Hp->Prop},hw P (Op.equalIn d t (valOf P t a) (valOf P t b)) Q h=Q (leq a b) h)(Cc:(w a)=(w b)):∀(fs:List Field) (o:Nat) (ks:List (Option IntKind)),LS P (flat P k) fs o=B ks->Xj ks (a.drop o)=true->Xj ks (b.drop o)=true->∀{Q:Option Bool × Unit->Hp->Prop},
  hw P (forIn fs ((M,()):Option Bool × Unit) fun (f:Field) (_:Option Bool × Unit)=>
   if f.name ≠ "_" then do
    let x <-part f.type a.toArray f.offset
    let y <-part f.type b.toArray f.offset
    let r <-Op.equalIn d f.type x y
    if (!r)=true then pure (ForInStep.done (B false,())) else pure (ForInStep.yield (M,()))
   else pure (ForInStep.yield (M,()))) Q h=Q (if leq (a.drop o) (b.drop o)=true then (M,()) else (B false,())) h:=by
 intro fs
 induction fs with
 | nil=>
  intro o ks hk ha hb Q;simp only[LS,Option.some.injEq]at hk;subst hk;have e1:=E (XD ha);have e2:=E (XD hb);rw[e1,e2];rfl
 | cons f fs ihf=>
  intro o ks hk ha hb Q;unfold LS at hk;split at hk
  .rename_i l hl;split at hk
   .rename_i hc;obtain⟨hn,rfl,htn⟩:=hc
    cases hr:LS P (flat P k) fs (f.offset+(w l)) with
    | none=>rw[hr]at hk;cases hk
    | some ks'=>
     rw[hr]at hk;simp only[am,Option.some.injEq]at hk;subst hk;obtain⟨a1,a2⟩:=TO ha;obtain⟨b1,b2⟩:=TO hb;rw[J]at a2 b2;rw[au,Zj,if_pos hn,Zj,MM hl htn a1,Zj,MM hl htn b1,Zj,ih f.type l _ _ hl a1 b1];have el:=HU (w l) (a:=a.drop f.offset) (b:=b.drop f.offset) (by simp[Cc]);rw[J,J]at el;rw[el]
     cases hx:leq ((a.drop f.offset).take (w l)) ((b.drop f.offset).take (w l)) with
     | true=>
      simp only[aK,R,if_false,ZO,aU];exact ihf (f.offset+(w l)) ks' hr a2 b2
     | false=>
      simp only[aF,if_true,ZO,aI,R,if_false]
   .cases hk
  .cases hk
theorem nK{k:Nat}{d e:Nat}{l:List (Option IntKind)}{a b:List A}(ih:∀(t:G) (ks:List (Option IntKind)) (a b:List A),flat P k t=B ks->Xj ks a=true->Xj ks b=true->∀{Q:Bool->Hp->Prop},hw P (Op.equalIn d t (valOf P t a) (valOf P t b)) Q h=Q (leq a b) h)(hl:flat P k e=B l)(htn:tn P e=B (w l))(Cc:(w a)=(w b)):∀(n s:Nat),Xj (rep n l) (a.drop (s*(w l)))=true->Xj (rep n l) (b.drop (s*(w l)))=true->∀{Q:Option Bool × Unit->Hp->Prop},
  hw P (forIn (List.range' s n) ((M,()):Option Bool × Unit) fun (i:Nat) (_:Option Bool × Unit)=>do
    let x <-part e a.toArray (i*(w l))
    let y <-part e b.toArray (i*(w l))
    let r <-Op.equalIn d e x y
    if (!r)=true then pure (ForInStep.done (B false,())) else pure (ForInStep.yield (M,()))) Q h =
   Q (if leq (a.drop (s*(w l))) (b.drop (s*(w l)))=true then (M,()) else (B false,())) h:=by
 intro n
 induction n with
 | zero=>
  intro s ha hb Q;have e1:=E (XD ha);have e2:=E (XD hb);rw[e1,e2];rfl
 | succ n ihn=>
  intro s ha hb Q;obtain⟨a1,a2⟩:=TO ha;obtain⟨b1,b2⟩:=TO hb;have es:s*(w l)+(w l)=(s+1)*(w l):=by rw[S,ak]
  rw[J,es]at a2 b2;rw[List.range'_succ,au,Zj,Zj,MM hl htn a1,Zj,MM hl htn b1,Zj,ih e l _ _ hl a1 b1];have el:=HU (w l) (a:=a.drop (s*(w l))) (b:=b.drop (s*(w l))) (by simp[Cc]);rw[J,J,es]at el;rw[el]
  cases hx:leq ((a.drop (s*(w l))).take (w l)) ((b.drop (s*(w l))).take (w l)) with
  | true=>
   simp only[aK,R,if_false,ZO,aU];exact ihn (s+1) a2 b2
  | false=>
   simp only[aF,if_true,ZO,aI,R,if_false]
theorem KJ:∀(k:Nat) (t:G) (ks:List (Option IntKind)) (a b:List A) (d:Nat),k<=d->flat P k t=B ks->Xj ks a=true->Xj ks b=true->∀{Q:Bool->Hp->Prop},
  hw P (Op.equalIn d t (valOf P t a) (valOf P t b)) Q h=Q (leq a b) h:=by
 intro k
 induction k with
 | zero=>intro t ks a b d _ hk;simp[flat]at hk
 | succ k ih=>
  intro t ks a b d hd hk ha hb Q;obtain⟨d,rfl⟩:∃e,d=e+1:=⟨d-1,mD⟩
  unfold flat at hk;split at hk
  .rename_i i hu;simp only[Option.some.injEq]at hk;subst hk;have dK:ta P t=B false:=by simp[ta,hu]
   obtain⟨n,rfl⟩:∃n,a=[.int i n]:=by
    cases a with
    | nil=>simp[Xj]at ha
    | cons x l=>
     cases l with
     | cons y l=>simp[Xj]at ha
     | nil=>cases x<;>simp[Xj,Ve]at ha<;>subst ha<;>exact⟨_,rfl⟩
   obtain⟨m,rfl⟩:∃n,b=[.int i n]:=by
    cases b with
    | nil=>simp[Xj]at hb
    | cons x l=>
     cases l with
     | cons y l=>simp[Xj]at hb
     | nil=>cases x<;>simp[Xj,Ve]at hb<;>subst hb<;>exact⟨_,rfl⟩
   simp only[valOf,dK,aw,Op.equalIn];rw[Zj,ZM hu];simp[ZO,leq,ceq]
  .rename_i hu;simp only[Option.some.injEq]at hk;subst hk;have dK:ta P t=B false:=by simp[ta,hu]
   obtain⟨n,rfl⟩:∃n,a=[L n]:=by
    cases a with
    | nil=>simp[Xj]at ha
    | cons x l=>
     cases l with
     | cons y l=>simp[Xj]at ha
     | nil=>cases x<;>simp[Xj,Ve]at ha<;>exact⟨_,rfl⟩
   obtain⟨m,rfl⟩:∃n,b=[L n]:=by
    cases b with
    | nil=>simp[Xj]at hb
    | cons x l=>
     cases l with
     | cons y l=>simp[Xj]at hb
     | nil=>cases x<;>simp[Xj,Ve]at hb<;>exact⟨_,rfl⟩
   simp only[valOf,dK,aw,Op.equalIn];rw[Zj,ZM hu];simp[ZO,leq,ceq]
  .rename_i fs hu;split at hk
   .cases hk
   .rename_i hst;have dK:ta P t=B true:=by simp[ta,hu]
    simp only[valOf,dK,Op.equalIn];rw[Zj,ZM hu];simp only;rw[Zj];show hw P (if P.stoodInHeld t=true then _ else _) Q h=_;rw[if_neg hst];have Cc:(w a)=(w b):=by rw[XD ha,XD hb]
    rw[Zj,<-Array.forIn_toList,fV (k:=k) (d:=d) (fun t ks a b h1 h2 h3=>ih t ks a b d mD h1 h2 h3) Cc fs.toList 0 ks hk (by simpa using ha) (by simpa using hb)];simp only[Y]
    cases leq a b<;>rfl
  .rename_i n e hu;split at hk
   .rename_i l hl;split at hk
    .rename_i htn;simp only[Option.some.injEq]at hk;subst hk;have dK:ta P t=B true:=by simp[ta,hu]
     have Cc:(w a)=(w b):=by rw[XD ha,XD hb]
     simp only[valOf,dK,Op.equalIn];rw[Zj,ZM hu];simp only;rw[Zj,run_sizeOf htn,Zj,Std.Legacy.Range.forIn_eq_forIn_range'];simp only[Std.Legacy.Range.size,Nat.sub_zero,Nat.add_sub_cancel,Nat.div_one];rw[nK (k:=k) (d:=d) (h:=h) (fun t ks a b h1 h2 h3=>ih t ks a b d mD h1 h2 h3) hl htn Cc n 0 (by simpa using ha) (by simpa using hb)];simp only[Nat.zero_mul,Y]
     cases leq a b<;>rfl
    .cases hk
   .cases hk
  .cases hk
def teg(P:O)(t:G):Bool:=P.eqGuardType P.depth t
def vr(o:Option (List (Option IntKind)))(a:List A):Bool:=match o with|some ks=>Xj ks a|none=>false
@[go_sem] theorem Zh5{a:List A}:vr (B ks) a=Xj ks a:=rfl
variable {K:A->Hp->Prop}
theorem EN{op:BinOp}{x y:Operand}{a b:Array A}(hg:teg P t=false){Q:Unit->Hp->Prop}:hw P (eqGuard op t x y (D a) (D b)) Q h=Q () h:=by
 unfold teg at hg;have e:hw P (do
   if !(<-program).eqGuardType (<-program).depth t then return
   if <-Op.eqGuardIn Op.maxDepth t (D a) (D b) then unsupported (.noEntry "binop/eql: two nil values of an interface type with methods, in a part of a struct or an array")) Q h=Q () h:=by
  rw[Zj];show hw P (_ >>= _) _ h=_;rw[Zj];show hw P (if (!P.eqGuardType P.depth t)=true then _ else _) _ h=_;rw[hg];rfl
 unfold eqGuard
 cases op<;>first|rfl|exact e
@[go_sem] theorem Zh6{x y:Operand}{a b:List A}(hg:teg P t=false)(ht:ta P t=B true)(ha:vr (flat P 6 t) a=true)(hb:vr (flat P 6 t) b=true):
  XS P .eql t x y (D a.toArray) (D b.toArray) K h=K (L (leq a b)) h:=by
 cases hk:flat P 6 t with
 | none=>rw[hk]at ha;cases ha
 | some ks=>
  rw[hk]at ha hb;unfold XS;rw[Zj,EN hg];have:=KJ (h:=h) 6 t ks a b 10000 mD hk ha hb (Q:=fun r h=>K (L r) h);simp only[valOf,ht]at this;show hw P (Op.equalIn 10000 t (D a.toArray) (D b.toArray) >>= _) K h=_;rw[Zj];exact this
@[go_sem] theorem Zh7{x y:Operand}{a b:List A}(hg:teg P t=false)(ht:ta P t=B true)(ha:vr (flat P 6 t) a=true)(hb:vr (flat P 6 t) b=true):
  XS P .neq t x y (D a.toArray) (D b.toArray) K h=K (L (!(leq a b))) h:=by
 cases hk:flat P 6 t with
 | none=>rw[hk]at ha;cases ha
 | some ks=>
  rw[hk]at ha hb;unfold XS;rw[Zj,EN hg];have:=KJ (h:=h) 6 t ks a b 10000 mD hk ha hb (Q:=fun r h=>K (L (!r)) h);simp only[valOf,ht]at this;show hw P (Op.equalIn 10000 t (D a.toArray) (D b.toArray) >>= _) K h=_;rw[Zj];exact this
end
@[go_sem] theorem Zjc:Xj [] []=true:=rfl
@[go_sem] theorem Zjd{i j:IntKind}{n:Int}{vs:List A}:Xj (B i :: ks) (.int j n :: vs)=(i == j&&Xj ks vs):=rfl
@[go_sem] theorem Zm7:leq [] []=true:=rfl
@[go_sem] theorem Zm8{i j:IntKind}{a b:Int}{l k:List A}:leq (.int i a :: l) (.int j b :: k)=(decide (a=b)&&leq l k):=rfl
section
variable {P:O} {T:World} {F:Env} {h:Hp}
@[go_sem] theorem ZbV{ops l:List Oper}{N:Env->Hp->Prop}{d:Option Tmp}{op:Op}{ty:G}{b:Bool}:eY P T ops N l F d op ty undef b h=MF P T ops N l (YG F d undef) h:=rfl
end
@[go_sem] theorem Zje{α:Type}(l:List α)(n i:Nat):nth (l.take n) i=if i<n then nth l i else M:=by
 rw[Y7,Y7,List.getElem?_take]
@[go_sem] theorem Zjf{α:Type}(l:List α)(n i:Nat):nth (l.drop n) i=nth l (n+i):=by
 rw[Y7,Y7,List.getElem?_drop]
def LU(P:O)(g:G->Option (List G)):List Field->Nat->Option (List G)
 | [],_=>B []
 | f :: fs,o=>match g f.type with
  | some l=>if f.offset=o/\P.cellsOf f.type=(w l) then (LU P g fs (o+(w l))).map (l ++ ·) else M
  | none=>M
def leaf(P:O):Nat->G->Option (List G)
 | 0,_=>M
 | k+1,t=>match P.underlying t with
  | some (.struct fs)=>match LU P (leaf P k) fs.toList 0 with
   | some l=>if P.cellsOf t=(w l) then B l else M
   | none=>M
  | some (.array n e)=>match leaf P k e with
   | some l=>if P.cellsOf e=(w l)/\P.cellsOf t=n*(w l) then B (rep n l) else M
   | none=>M
  | _=>B [t]
def Ed(P:O)(h:Hp):List G->List A->Prop
 | [],[]=>True
 | t :: ts,c :: cs=>(∃k,fit P h k t [c])/\Ed P h ts cs
 | _,_=>False
theorem PC:∀{ts us:List G} {cs ds:List A},Ed P h ts cs->Ed P h us ds->Ed P h (ts++us) (cs++ds)
 | [],us,[],ds,_,h2=>h2
 | t :: ts,us,c :: cs,ds,h1,h2=>⟨h1.1,PC h1.2 h2⟩
 | [],us,c :: cs,ds,h1,_=>h1.elim
 | t :: ts,us,[],ds,h1,_=>h1.elim
theorem HW{α:Type}(l:List α):∀n,(rep n l).length=n*(w l)
 | 0=>by simp[rep]
 | n+1=>by simp[rep,HW l n,S,Nat.add_comm]
theorem vu:∀(j k:Nat) (t:G) (cs:List A) (l:List G),leaf P j t=B l->(w cs)=(w l)->fit P h k t cs->Ed P h l cs:=by
 intro j
 induction j with
 | zero=>intro k t cs l hl;simp[leaf]at hl
 | succ j ih=>
  intro k t cs l hl hlen hf;unfold leaf at hl;split at hl
  .rename_i fs hu;split at hl
   .rename_i l' dI;split at hl
    .rename_i hc;simp only[Option.some.injEq]at hl;subst hl;obtain⟨h1,h2⟩:=fU hu hf;have key:∀(gs:List Field) (o:Nat) (l:List G),LU P (leaf P j) gs o=B l->(∀f∈gs,∃k,fit P h k f.type ((cs.drop f.offset).take (P.cellsOf f.type)))->(cs.drop o).length=(w l)->Ed P h l (cs.drop o):=by
      intro gs
      induction gs with
      | nil=>
       intro o l hl _ hlen;simp only[LU,Option.some.injEq]at hl;subst hl;rw[E hlen];trivial
      | cons f gs ihg=>
       intro o l hl XT hlen;unfold LU at hl;split at hl
       .rename_i lf hlf;split at hl
        .rename_i hcf;obtain⟨rfl,hcf⟩:=hcf
         cases hr:LU P (leaf P j) gs (f.offset+(w lf)) with
         | none=>rw[hr]at hl;cases hl
         | some lr=>
          rw[hr]at hl;simp only[am,Option.some.injEq]at hl;subst hl;simp only[List.length_append]at hlen;have e:cs.drop f.offset=(cs.drop f.offset).take (w lf)++cs.drop (f.offset+(w lf)):=by
           rw[<-J,X]
          obtain⟨k',O9⟩:=XT f sW;rw[hcf]at O9;rw[e];refine PC (ih k' f.type _ lf hlf ?_ O9) (ihg _ lr hr (fun g hg=>XT g (by simp[hg])) ?_)
          .simp only[U];omega
          .rw[<-J,W];omega
        .cases hl
       .cases hl
     have:=key fs.toList 0 l' dI (fun f hf'=>by
      obtain⟨i,hi,BQ⟩:=List.mem_iff_getElem.1 hf';exact h2 i f (by rw[<-Array.getElem?_toList,List.getElem?_eq_getElem hi,BQ])) (by simpa using hlen)
     simpa using this
    .cases hl
   .cases hl
  .rename_i n e hu;split at hl
   .rename_i l' dI;split at hl
    .rename_i hc;obtain⟨Vx,EO⟩:=hc;simp only[Option.some.injEq]at hl;subst hl;obtain⟨h1,h2⟩:=nH hu hf;have key:∀(m s:Nat),s+m=n->(cs.drop (s*(w l'))).length=m*(w l')->Ed P h (rep m l') (cs.drop (s*(w l'))):=by
      intro m
      induction m with
      | zero=>
       intro s _ hlen;have e0:cs.drop (s*(w l'))=[]:=E (by rw[hlen];simp);rw[e0];trivial
      | succ m ihm=>
       intro s hs hlen;have es:s*(w l')+(w l')=(s+1)*(w l'):=by rw[S,ak]
       have ee:cs.drop (s*(w l'))=(cs.drop (s*(w l'))).take (w l')++cs.drop ((s+1)*(w l')):=by
        rw[<-es,<-J,X]
       obtain⟨k',O9⟩:=h2 s mD;rw[Vx]at O9;rw[ee];rw[S,ak]at hlen;refine PC (ih k' e _ l' dI ?_ O9) (ihm (s+1) mD ?_)
       .simp only[U];omega
       .rw[<-es,<-J,W];omega
     have:=key n 0 mD (by rw[Nat.zero_mul,Y,hlen,HW])
     simpa using this
    .cases hl
   .cases hl
  .simp only[Option.some.injEq]at hl;subst hl
   match cs,hlen with
   | [c],_=>exact⟨⟨k,hf⟩,trivial⟩
def ci(cs:List A)(i:Nat):Int:=match nth cs i with|some (.int _ n)=>n|_=>0
def cb(cs:List A)(i:Nat):Bool:=match nth cs i with|some (L b)=>b|_=>false
def Zwo(P:O)(ts:List G)(a n:Nat):Bool:=(List.range n).all fun j=>match nth ts (a+j) with|some t=>(match P.underlying t with|some .bool=>true|_=>false)|none=>false
theorem take_one{l:List A}{i:Nat}{x:A}(h:nth l i=B x):(l.drop i).take 1=[x]:=by
 rw[Y7]at h;obtain⟨hi,rfl⟩:=List.getElem?_eq_some_iff.1 h;rw[List.take_one,List.head?_drop,h];rfl
theorem Ap{l:List A}{i:Nat}{x y:A}(h:nth l i=B x)(h2:nth l (i+1)=B y):(l.drop i).take 2=[x,y]:=by
 have e1:=take_one h;have e2:=take_one h2;have:(l.drop i).take (1+1)=(l.drop i).take 1++((l.drop i).drop 1).take 1:=by rw[List.take_add]
 rw[this,J,e1,e2];rfl
theorem Zk.add{h':Hp}(b:Zk h.size h h')(o:Obj):Zk h.size h (h'.push o):=b.trans (Zk.push b.size o)
theorem Ji{α:Type}{l:List α}{n:Nat}(h:(w l)=n):l.take n=l:=by rw[<-h,List.take_length]
theorem PD{ts:List G}(ht:P.underlying t=B (.int .i64))(hf:Ed P h (t :: ts) cs):
  ∃n l,cs=.int .i64 n :: l /\ -9223372036854775808<=n/\n<=9223372036854775807/\Ed P h ts l:=by
 cases cs with
 | nil=>exact hf.elim
 | cons c l=>
  obtain⟨⟨k,hk⟩,hl⟩:=hf;obtain⟨m,hm,hw⟩:=Cb ht hk;simp only[List.cons.injEq,and_true]at hm;subst hm;exact⟨m,l,rfl,(wf_i64 hw).1,(wf_i64 hw).2,hl⟩
theorem vw(hf:Ed P h [] cs):cs=[]:=by
 cases cs with
 | nil=>rfl
 | cons c l=>exact hf.elim
end Go.V
