/- Part W3. -/
import Derived.Test.YthlfaofofaphfaaGreatDoorV9
open Go.Value renaming agg→D,bool→J
open List renaming length→u,eq_nil_of_length_eq_zero→E,drop_drop→L,length_take→U,length_drop→W,take_append_drop→X,drop_zero→Y,length_cons→ae,length_nil→am,forIn_cons→aD,headD_cons→aN
open Nat renaming add_mul→S,one_mul→al
open Option renaming map_some→aw,some→B,none→M
open Bool renaming false_eq_true→R,and_eq_true→aa,not_false→aO,false_and→a0,not_true→a3,true_and→a4
open Go renaming Value→A,TypeId→G,Program→O,Operand→Z
namespace Go.V
set_option linter.unusedVariables false
set_option linter.unusedSimpArgs false
variable{P:O}{cs:List A}{h:Hp}{ks:List (Option IntKind)}{t:G}
theorem RX{k:Nat}{i:IntKind}(ht:P.underlying t=B (.int i))(hf:fit P h k t cs):∃n,cs=[.int i n]/\(Lit.int i n).wf=true:=by
 cases k with
 | zero=>exact hf.elim
 | succ k=>unfold fit at hf;rw[ht]at hf;exact hf
theorem iy{k:Nat}{fs:Array Field}(ht:P.underlying t=B (.struct fs))(hf:fit P h k t cs):
  (u cs)=P.cellsOf t/\∀(i:Nat) (f:Field),fs[i]? = B f->∃k,fit P h k f.type ((cs.drop f.offset).take (P.cellsOf f.type)):=by
 cases k with
 | zero=>exact hf.elim
 | succ k=>
  unfold fit at hf;rw[ht]at hf;exact⟨hf.1,fun i f hi=>⟨k,hf.2 f (by have:=Array.mem_of_getElem? hi;simpa using this)⟩⟩
theorem qw{k:Nat}{e:G}{n:Nat}(ht:P.underlying t=B (.array n e))(hf:fit P h k t cs):
  (u cs)=P.cellsOf t/\∀i,i<n->∃k,fit P h k e ((cs.drop (i*P.cellsOf e)).take (P.cellsOf e)):=by
 cases k with
 | zero=>exact hf.elim
 | succ k=>
  unfold fit at hf;rw[ht]at hf;exact⟨hf.1,fun i hi=>⟨k,hf.2 i hi⟩⟩
def ZU{α:Type}(enc:α->List A):List α->List A
 | []=>[]
 | x :: l=>enc x++ZU enc l
theorem Y6{α:Type}(enc:α->List A)(l k:List α):ZU enc (l++k)=ZU enc l++ZU enc k:=by
 induction l with
 | nil=>rfl
 | cons x l ih=>simp[ZU,ih]
theorem Qs{α:Type}{enc:α->List A}{n:Nat}(UR:∀x,(enc x).length=n)(l:List α):(ZU enc l).length=(u l)*n:=by
 induction l with
 | nil=>simp[ZU]
 | cons x l ih=>simp[ZU,ih,UR,S,Nat.add_comm]
theorem Tu{α:Type}(f:α->A)(l:List α):ZU (fun x=>[f x]) l=l.map f:=by
 induction l with
 | nil=>rfl
 | cons x l ih=>simp[ZU,ih]
theorem GR{b o:Nat}{ds:List A}(h1:X6 h b o cs)(h2:X6 h b (o+(u cs)) ds):X6 h b o (cs++ds):=by
 intro i hi;by_cases ZT:i<(u cs)
 .rw[h1 i ZT];simp[ZT]
 .have:=h2 (i-(u cs)) (by simp at hi;omega);rw[show o+(u cs)+(i-(u cs))=o+i by omega]at this;rw[this];simp[List.getElem_append,ZT]
theorem collect{α:Type}{b o n:Nat}{enc:α->List A}{ok:α->Prop}(UR:∀x,(enc x).length=n):∀len,(∀i,i<len->∃x,ok x/\X6 h b (o+i*n) (enc x)) ->
  ∃l:List α,(u l)=len/\X6 h b o (ZU enc l)/\∀x∈l,ok x:=by
 intro len
 induction len with
 | zero=>intro _;exact⟨[],rfl,fun i hi=>by simp[ZU]at hi,fun x hx=>by cases hx⟩
 | succ len ih=>
  intro H;obtain⟨l,h1,h2,h3⟩:=ih (fun i hi=>H i pA);obtain⟨x,hx,hc⟩:=H len pA;refine⟨l++[x],by simp[h1],?_,fun y hy=>?_⟩
  .rw[Y6];refine GR h2 ?_;rw[Qs UR,h1]
   simpa [ZU] using hc
  .rcases List.mem_append.1 hy with hy|hy
   .exact h3 y hy
   .simp at hy;subst hy;exact hx
theorem qx{α:Type}{k:Nat}{e:G}{v:A}{n:Nat}{enc:α->List A}{ok:α->Prop}(ht:P.underlying t=B (.slice e))(hn:P.cellsOf e=n)(DK:n≠0)(UR:∀x,(enc x).length=n)(each:∀k ds,fit P h k e ds->∃x,ok x/\ds=enc x)(hf:fit P h k t [v]):
  ∃l:List α,Sl n h v (u l) (ZU enc l)/\(∀x∈l,ok x)/\(u l)*P.bytesOf e<=140737488355328:=by
 cases k with
 | zero=>exact hf.elim
 | succ k=>
  unfold fit at hf;rw[ht]at hf;obtain⟨p,len,cap,hv,hlc,Wx,hel⟩:=hf;simp only[List.cons.injEq,and_true]at hv;subst hv;have ZgE:len*P.bytesOf e<=140737488355328:=Nat.le_trans (Nat.mul_le_mul_right _ hlc) (Nat.le_trans Wx aaa);by_cases hl:len=0
  .subst hl;exact⟨[],⟨p,cap,rfl,by simp[ZU],fun h=>(h rfl).elim⟩,fun x hx=>by (cases hx),IQ⟩
  .obtain⟨b,o,rfl,hb,XO⟩:=hel hl pA;obtain⟨l,h1,h2,h3⟩:=collect (h:=h) (b:=b) (o:=o) (ok:=ok) UR len (fun i hi=>by
    obtain⟨ds,hds,hc,iz⟩:=XO i hi;obtain⟨x,hx,rfl⟩:=each k ds iz;exact⟨x,hx,by rw[<-hn];exact hc⟩)
   exact⟨l,⟨_,cap,by rw[h1],Qs UR l,fun _=>⟨b,o,rfl,h2⟩⟩,h3,by rw[h1];exact ZgE⟩
theorem wf_i64{n:Int}(h:(Lit.int .i64 n).wf=true): -9223372036854775808<=n/\n<=9223372036854775807:=by
 simp[Lit.wf,IntKind.min,IntKind.max,IntKind.signed,IntKind.bits]at h;omega
theorem fitAll_nil{vs:List A}(hf:fitAll P h [] vs):vs=[]:=by
 cases vs with
 | nil=>rfl
 | cons a l=>exact hf.elim
theorem fitAll_cons{ts:List G}{vs:List A}(hf:fitAll P h (t :: ts) vs):∃v l,vs=v :: l/\(∃k,EY P h k t v)/\fitAll P h ts l:=by
 cases vs with
 | nil=>exact hf.elim
 | cons a l=>exact⟨a,l,rfl,hf.1,hf.2⟩
theorem Ri{k:Nat}{v:A}(ha:ta P t=B false)(hf:EY P h k t v):fit P h k t [v]:=by
 unfold EY at hf;rw[ha]at hf;exact hf
theorem aE{k:Nat}{v:A}(ha:ta P t=B true)(hf:EY P h k t v):∃cs:List A,v=D cs.toArray/\fit P h k t cs:=by
 unfold EY at hf;rw[ha]at hf;exact hf
section
variable {P:O} {T:World} {K:A->Hp->Prop} {h:Hp}
@[go_sem] theorem ZgF{x y:Z}{a b:Bool}(ht:ZcQ P t=true):XP P .eql t x y (J a) (J b) K h=K (J (a == b)) h:=qf (qj ht)
end
def Kz(P:O)(g:G->Option (List (Option IntKind))):List Field->Nat->Option (List (Option IntKind))
 | [],_=>B []
 | f :: fs,o=>match g f.type with
  | some l=>if f.name ≠ "_" /\ f.offset=o/\tn P f.type=B (u l) then (Kz P g fs (o+(u l))).map (l ++ ·) else M
  | none=>M
def rep{α:Type}:Nat->List α->List α
 | 0,_=>[]
 | n+1,l=>l++rep n l
def flat(P:O):Nat->G->Option (List (Option IntKind))
 | 0,_=>M
 | k+1,t=>match P.underlying t with
  | some (.int i)=>B [B i]
  | some .bool=>B [M]
  | some (.struct fs)=>if P.stoodInHeld t=true then M else Kz P (flat P k) fs.toList 0
  | some (.array n e)=>match flat P k e with
   | some l=>if tn P e=B (u l) then B (rep n l) else M
   | none=>M
  | _=>M
def WK:Option IntKind->A->Bool
 | some i,.int j _=>i == j
 | none,J _=>true
 | _,_=>false
def Xe:List (Option IntKind)->List A->Bool
 | [],[]=>true
 | k :: ks,v :: vs=>WK k v&&Xe ks vs
 | _,_=>false
def ceq:A->A->Bool
 | .int _ a,.int _ b=>a == b
 | J a,J b=>a == b
 | _,_=>false
def leq:List A->List A->Bool
 | [],[]=>true
 | a :: l,b :: k=>ceq a b&&leq l k
 | _,_=>false
theorem Ys:∀{vs:List A},Xe ks vs=true->(u vs)=(u ks):=by
 induction ks with
 | nil=>intro vs h;cases vs with
  | nil=>rfl
  | cons a l=>simp[Xe]at h
 | cons k ks ih=>intro vs h;cases vs with
  | nil=>simp[Xe]at h
  | cons a l=>simp only[Xe,aa]at h;simp[ih h.2]
theorem Sh{js:List (Option IntKind)}:∀{vs:List A},Xe (ks++js) vs=true->Xe ks (vs.take (u ks))=true/\Xe js (vs.drop (u ks))=true:=by
 induction ks with
 | nil=>intro vs h;exact⟨by simp[Xe],by simpa using h⟩
 | cons k ks ih=>
  intro vs h
  cases vs with
  | nil=>simp[Xe]at h
  | cons a l=>
   simp only[List.cons_append,Xe,aa]at h;obtain⟨h1,h2⟩:=ih h.2;exact⟨by simp[Xe,h.1,h1],by simpa using h2⟩
theorem GS(n:Nat):∀{a b:List A},(u a)=(u b)->leq a b=(leq (a.take n) (b.take n)&&leq (a.drop n) (b.drop n)):=by
 induction n with
 | zero=>intro a b h;simp[leq]
 | succ n ih=>
  intro a b h
  cases a with
  | nil=>cases b with
   | nil=>simp[leq]
   | cons y b=>simp at h
  | cons x a=>
   cases b with
   | nil=>simp at h
   | cons y b=>simp only[List.take_succ_cons,List.drop_succ_cons,leq];rw[ih (by simpa using h),Bool.and_assoc]
section
variable {P:O} {h:Hp}
def valOf(P:O)(t:G)(cs:List A):A:=
 match ta P t with
 | some true=>D cs.toArray
 | _=>cs.headD undef
theorem Lm{o:Nat}{k:Nat}(hk:flat P k t=B ks)(hn:tn P t=B (u ks))(hc:Xe ks ((cs.drop o).take (u ks))=true){Q:A->Hp->Prop}:
  hw P (part t cs.toArray o) Q h=Q (valOf P t ((cs.drop o).take (u ks))) h:=by
 unfold part valOf;rw[Zm]
 cases k with
 | zero=>simp[flat]at hk
 | succ k=>
  have e:(cs.toArray.extract o (o+(u ks)))=((cs.drop o).take (u ks)).toArray:=by
   apply Array.toList_inj.1;simp[List.extract_eq_take_drop]
  unfold flat at hk;have one:∀{kd:Option IntKind},ks=[kd]->ta P t=B false->hw P (isAgg t) (fun a h'=>hw P (if a=true then do pure (D (cs.toArray.extract o (o+(<-sizeOf t)))) else match cs.toArray[o]? with|some v=>pure v|none=>stuck "part: no such cell") Q h') h=Q (match ta P t with|some true=>D ((cs.drop o).take (u ks)).toArray|_=>((cs.drop o).take (u ks)).headD undef) h:=by
   intro kd hks fV;subst hks;rw[Td fV,if_neg IQ,fV];have hl:=Ys hc;simp only[ae,am,U,W]at hl;have ZT:o<(u cs):=pA;have e2:cs.toArray[o]? = B cs[o]:=by simp[ZT]
   have e3:((cs.drop o).take 1).headD undef=cs[o]:=by
    rw[List.headD_eq_head?_getD,List.head?_take];simp[ZT]
   simp only[e2];show Q _ h=Q _ h;simp only[ae,am,Nat.zero_add,e3]
  have agg:ta P t=B true->hw P (isAgg t) (fun a h'=>hw P (if a=true then do pure (D (cs.toArray.extract o (o+(<-sizeOf t)))) else match cs.toArray[o]? with|some v=>pure v|none=>stuck "part: no such cell") Q h') h=Q (match ta P t with|some true=>D ((cs.drop o).take (u ks)).toArray|_=>((cs.drop o).take (u ks)).headD undef) h:=by
   intro fV;rw[Td fV,if_pos rfl,Zm,run_sizeOf hn,e,fV];rfl
  split at hk
  .rename_i hu;exact one (by simpa using hk.symm) (by simp[ta,hu])
  .rename_i hu;exact one (by simpa using hk.symm) (by simp[ta,hu])
  .rename_i hu;exact agg (by simp[ta,hu])
  .rename_i hu;exact agg (by simp[ta,hu])
  .cases hk
theorem iA{k:Nat}{d:Nat}{a b:List A}(ih:∀(t:G) (ks:List (Option IntKind)) (a b:List A),flat P k t=B ks->Xe ks a=true->Xe ks b=true->∀{Q:Bool->Hp->Prop},hw P (Op.equalIn d t (valOf P t a) (valOf P t b)) Q h=Q (leq a b) h)(Bi:(u a)=(u b)):∀(fs:List Field) (o:Nat) (ks:List (Option IntKind)),Kz P (flat P k) fs o=B ks->Xe ks (a.drop o)=true->Xe ks (b.drop o)=true->∀{Q:Option Bool × Unit->Hp->Prop},
  hw P (forIn fs ((M,()):Option Bool × Unit) fun (f:Field) (_:Option Bool × Unit)=>
   if f.name ≠ "_" then do
    let x <-part f.type a.toArray f.offset
    let y <-part f.type b.toArray f.offset
    let r <-Op.equalIn d f.type x y
    if (!r)=true then pure (ForInStep.done (B false,())) else pure (ForInStep.yield (M,()))
   else pure (ForInStep.yield (M,()))) Q h=Q (if leq (a.drop o) (b.drop o)=true then (M,()) else (B false,())) h:=by
 intro fs
 induction fs with
 | nil=>
  intro o ks hk ha hb Q;simp only[Kz,Option.some.injEq]at hk;subst hk;have e1:=E (Ys ha);have e2:=E (Ys hb);rw[e1,e2];rfl
 | cons f fs ihf=>
  intro o ks hk ha hb Q;unfold Kz at hk;split at hk
  .rename_i l hl;split at hk
   .rename_i hc;obtain⟨hn,rfl,htn⟩:=hc
    cases hr:Kz P (flat P k) fs (f.offset+(u l)) with
    | none=>rw[hr]at hk;cases hk
    | some ks'=>
     rw[hr]at hk;simp only[aw,Option.some.injEq]at hk;subst hk;obtain⟨a1,a2⟩:=Sh ha;obtain⟨b1,b2⟩:=Sh hb;rw[L]at a2 b2;rw[aD,Zm,if_pos hn,Zm,Lm hl htn a1,Zm,Lm hl htn b1,Zm,ih f.type l _ _ hl a1 b1];have el:=GS (u l) (a:=a.drop f.offset) (b:=b.drop f.offset) (by simp[Bi]);rw[L,L]at el;rw[el]
     cases hx:leq ((a.drop f.offset).take (u l)) ((b.drop f.offset).take (u l)) with
     | true=>
      simp only[a3,R,if_false,ZO,a4];exact ihf (f.offset+(u l)) ks' hr a2 b2
     | false=>
      simp only[aO,if_true,ZO,a0,R,if_false]
   .cases hk
  .cases hk
theorem qA{k:Nat}{d e:Nat}{l:List (Option IntKind)}{a b:List A}(ih:∀(t:G) (ks:List (Option IntKind)) (a b:List A),flat P k t=B ks->Xe ks a=true->Xe ks b=true->∀{Q:Bool->Hp->Prop},hw P (Op.equalIn d t (valOf P t a) (valOf P t b)) Q h=Q (leq a b) h)(hl:flat P k e=B l)(htn:tn P e=B (u l))(Bi:(u a)=(u b)):∀(n s:Nat),Xe (rep n l) (a.drop (s*(u l)))=true->Xe (rep n l) (b.drop (s*(u l)))=true->∀{Q:Option Bool × Unit->Hp->Prop},
  hw P (forIn (List.range' s n) ((M,()):Option Bool × Unit) fun (i:Nat) (_:Option Bool × Unit)=>do
    let x <-part e a.toArray (i*(u l))
    let y <-part e b.toArray (i*(u l))
    let r <-Op.equalIn d e x y
    if (!r)=true then pure (ForInStep.done (B false,())) else pure (ForInStep.yield (M,()))) Q h =
   Q (if leq (a.drop (s*(u l))) (b.drop (s*(u l)))=true then (M,()) else (B false,())) h:=by
 intro n
 induction n with
 | zero=>
  intro s ha hb Q;have e1:=E (Ys ha);have e2:=E (Ys hb);rw[e1,e2];rfl
 | succ n ihn=>
  intro s ha hb Q;obtain⟨a1,a2⟩:=Sh ha;obtain⟨b1,b2⟩:=Sh hb;have es:s*(u l)+(u l)=(s+1)*(u l):=by rw[S,al]
  rw[L,es]at a2 b2;rw[List.range'_succ,aD,Zm,Zm,Lm hl htn a1,Zm,Lm hl htn b1,Zm,ih e l _ _ hl a1 b1];have el:=GS (u l) (a:=a.drop (s*(u l))) (b:=b.drop (s*(u l))) (by simp[Bi]);rw[L,L,es]at el;rw[el]
  cases hx:leq ((a.drop (s*(u l))).take (u l)) ((b.drop (s*(u l))).take (u l)) with
  | true=>
   simp only[a3,R,if_false,ZO,a4];exact ihn (s+1) a2 b2
  | false=>
   simp only[aO,if_true,ZO,a0,R,if_false]
theorem IF:∀(k:Nat) (t:G) (ks:List (Option IntKind)) (a b:List A) (d:Nat),k<=d->flat P k t=B ks->Xe ks a=true->Xe ks b=true->∀{Q:Bool->Hp->Prop},
  hw P (Op.equalIn d t (valOf P t a) (valOf P t b)) Q h=Q (leq a b) h:=by
 intro k
 induction k with
 | zero=>intro t ks a b d _ hk;simp[flat]at hk
 | succ k ih=>
  intro t ks a b d hd hk ha hb Q;obtain⟨d,rfl⟩:∃e,d=e+1:=⟨d-1,pA⟩
  unfold flat at hk;split at hk
  .rename_i i hu;simp only[Option.some.injEq]at hk;subst hk;have fV:ta P t=B false:=by simp[ta,hu]
   obtain⟨n,rfl⟩:∃n,a=[.int i n]:=by
    cases a with
    | nil=>simp[Xe]at ha
    | cons x l=>
     cases l with
     | cons y l=>simp[Xe]at ha
     | nil=>cases x<;>simp[Xe,WK]at ha<;>subst ha<;>exact⟨_,rfl⟩
   obtain⟨m,rfl⟩:∃n,b=[.int i n]:=by
    cases b with
    | nil=>simp[Xe]at hb
    | cons x l=>
     cases l with
     | cons y l=>simp[Xe]at hb
     | nil=>cases x<;>simp[Xe,WK]at hb<;>subst hb<;>exact⟨_,rfl⟩
   simp only[valOf,fV,aN,Op.equalIn];rw[Zm,ZH hu];simp[ZO,leq,ceq]
  .rename_i hu;simp only[Option.some.injEq]at hk;subst hk;have fV:ta P t=B false:=by simp[ta,hu]
   obtain⟨n,rfl⟩:∃n,a=[J n]:=by
    cases a with
    | nil=>simp[Xe]at ha
    | cons x l=>
     cases l with
     | cons y l=>simp[Xe]at ha
     | nil=>cases x<;>simp[Xe,WK]at ha<;>exact⟨_,rfl⟩
   obtain⟨m,rfl⟩:∃n,b=[J n]:=by
    cases b with
    | nil=>simp[Xe]at hb
    | cons x l=>
     cases l with
     | cons y l=>simp[Xe]at hb
     | nil=>cases x<;>simp[Xe,WK]at hb<;>exact⟨_,rfl⟩
   simp only[valOf,fV,aN,Op.equalIn];rw[Zm,ZH hu];simp[ZO,leq,ceq]
  .rename_i fs hu;split at hk
   .cases hk
   .rename_i ag;have fV:ta P t=B true:=by simp[ta,hu]
    simp only[valOf,fV,Op.equalIn];rw[Zm,ZH hu];simp only;rw[Zm];show hw P (if P.stoodInHeld t=true then _ else _) Q h=_;rw[if_neg ag];have Bi:(u a)=(u b):=by rw[Ys ha,Ys hb]
    rw[Zm,<-Array.forIn_toList,iA (k:=k) (d:=d) (fun t ks a b h1 h2 h3=>ih t ks a b d pA h1 h2 h3) Bi fs.toList 0 ks hk (by simpa using ha) (by simpa using hb)];simp only[Y]
    cases leq a b<;>rfl
  .rename_i n e hu;split at hk
   .rename_i l hl;split at hk
    .rename_i htn;simp only[Option.some.injEq]at hk;subst hk;have fV:ta P t=B true:=by simp[ta,hu]
     have Bi:(u a)=(u b):=by rw[Ys ha,Ys hb]
     simp only[valOf,fV,Op.equalIn];rw[Zm,ZH hu];simp only;rw[Zm,run_sizeOf htn,Zm,Std.Legacy.Range.forIn_eq_forIn_range'];simp only[Std.Legacy.Range.size,Nat.sub_zero,Nat.add_sub_cancel,Nat.div_one];rw[qA (k:=k) (d:=d) (h:=h) (fun t ks a b h1 h2 h3=>ih t ks a b d pA h1 h2 h3) hl htn Bi n 0 (by simpa using ha) (by simpa using hb)];simp only[Nat.zero_mul,Y]
     cases leq a b<;>rfl
    .cases hk
   .cases hk
  .cases hk
def teg(P:O)(t:G):Bool:=P.eqGuardType P.depth t
def xX(o:Option (List (Option IntKind)))(a:List A):Bool:=match o with|some ks=>Xe ks a|none=>false
@[go_sem] theorem Zjl{a:List A}:xX (B ks) a=Xe ks a:=rfl
variable {K:A->Hp->Prop}
theorem DL{op:BinOp}{x y:Z}{a b:Array A}(hg:teg P t=false){Q:Unit->Hp->Prop}:hw P (eqGuard op t x y (D a) (D b)) Q h=Q () h:=by
 unfold teg at hg;have e:hw P (do
   if !(<-program).eqGuardType (<-program).depth t then return
   if <-Op.eqGuardIn Op.maxDepth t (D a) (D b) then unsupported (.noEntry "binop/eql: two nil values of an interface type with methods, in a part of a struct or an array")) Q h=Q () h:=by
  rw[Zm];show hw P (_ >>= _) _ h=_;rw[Zm];show hw P (if (!P.eqGuardType P.depth t)=true then _ else _) _ h=_;rw[hg];rfl
 unfold eqGuard
 cases op<;>first|rfl|exact e
@[go_sem] theorem Zjm{x y:Z}{a b:List A}(hg:teg P t=false)(ht:ta P t=B true)(ha:xX (flat P 6 t) a=true)(hb:xX (flat P 6 t) b=true):
  XP P .eql t x y (D a.toArray) (D b.toArray) K h=K (J (leq a b)) h:=by
 cases hk:flat P 6 t with
 | none=>rw[hk]at ha;cases ha
 | some ks=>
  rw[hk]at ha hb;unfold XP;rw[Zm,DL hg];have:=IF (h:=h) 6 t ks a b 10000 pA hk ha hb (Q:=fun r h=>K (J r) h);simp only[valOf,ht]at this;show hw P (Op.equalIn 10000 t (D a.toArray) (D b.toArray) >>= _) K h=_;rw[Zm];exact this
@[go_sem] theorem Zjn{x y:Z}{a b:List A}(hg:teg P t=false)(ht:ta P t=B true)(ha:xX (flat P 6 t) a=true)(hb:xX (flat P 6 t) b=true):
  XP P .neq t x y (D a.toArray) (D b.toArray) K h=K (J (!(leq a b))) h:=by
 cases hk:flat P 6 t with
 | none=>rw[hk]at ha;cases ha
 | some ks=>
  rw[hk]at ha hb;unfold XP;rw[Zm,DL hg];have:=IF (h:=h) 6 t ks a b 10000 pA hk ha hb (Q:=fun r h=>K (J (!r)) h);simp only[valOf,ht]at this;show hw P (Op.equalIn 10000 t (D a.toArray) (D b.toArray) >>= _) K h=_;rw[Zm];exact this
end
@[go_sem] theorem Zkn:Xe [] []=true:=rfl
@[go_sem] theorem Zko{i j:IntKind}{n:Int}{vs:List A}:Xe (B i :: ks) (.int j n :: vs)=(i == j&&Xe ks vs):=rfl
@[go_sem] theorem Zod:leq [] []=true:=rfl
@[go_sem] theorem Zoe{i j:IntKind}{a b:Int}{l k:List A}:leq (.int i a :: l) (.int j b :: k)=(decide (a=b)&&leq l k):=rfl
section
variable {P:O} {T:World} {F:Env} {h:Hp}
@[go_sem] theorem Zc3{ops l:List Oper}{N:Env->Hp->Prop}{d:Option Tmp}{op:Op}{ty:G}{b:Bool}:gG P T ops N l F d op ty undef b h=Lf P T ops N l (YD F d undef) h:=rfl
end
@[go_sem] theorem Zkp{α:Type}(l:List α)(n i:Nat):nth (l.take n) i=if i<n then nth l i else M:=by
 rw[YU,YU,List.getElem?_take]
@[go_sem] theorem Zkq{α:Type}(l:List α)(n i:Nat):nth (l.drop n) i=nth l (n+i):=by
 rw[YU,YU,List.getElem?_drop]
def KA(P:O)(g:G->Option (List G)):List Field->Nat->Option (List G)
 | [],_=>B []
 | f :: fs,o=>match g f.type with
  | some l=>if f.offset=o/\P.cellsOf f.type=(u l) then (KA P g fs (o+(u l))).map (l ++ ·) else M
  | none=>M
def leaf(P:O):Nat->G->Option (List G)
 | 0,_=>M
 | k+1,t=>match P.underlying t with
  | some (.struct fs)=>match KA P (leaf P k) fs.toList 0 with
   | some l=>if P.cellsOf t=(u l) then B l else M
   | none=>M
  | some (.array n e)=>match leaf P k e with
   | some l=>if P.cellsOf e=(u l)/\P.cellsOf t=n*(u l) then B (rep n l) else M
   | none=>M
  | _=>B [t]
def EZ(P:O)(h:Hp):List G->List A->Prop
 | [],[]=>True
 | t :: ts,c :: cs=>(∃k,fit P h k t [c])/\EZ P h ts cs
 | _,_=>False
theorem Oi:∀{ts us:List G} {cs ds:List A},EZ P h ts cs->EZ P h us ds->EZ P h (ts++us) (cs++ds)
 | [],us,[],ds,_,h2=>h2
 | t :: ts,us,c :: cs,ds,h1,h2=>⟨h1.1,Oi h1.2 h2⟩
 | [],us,c :: cs,ds,h1,_=>h1.elim
 | t :: ts,us,[],ds,h1,_=>h1.elim
theorem GU{α:Type}(l:List α):∀n,(rep n l).length=n*(u l)
 | 0=>by simp[rep]
 | n+1=>by simp[rep,GU l n,S,Nat.add_comm]
theorem aF:∀(j k:Nat) (t:G) (cs:List A) (l:List G),leaf P j t=B l->(u cs)=(u l)->fit P h k t cs->EZ P h l cs:=by
 intro j
 induction j with
 | zero=>intro k t cs l hl;simp[leaf]at hl
 | succ j ih=>
  intro k t cs l hl hlen hf;unfold leaf at hl;split at hl
  .rename_i fs hu;split at hl
   .rename_i l' fU;split at hl
    .rename_i hc;simp only[Option.some.injEq]at hl;subst hl;obtain⟨h1,h2⟩:=iy hu hf;have key:∀(gs:List Field) (o:Nat) (l:List G),KA P (leaf P j) gs o=B l->(∀f∈gs,∃k,fit P h k f.type ((cs.drop f.offset).take (P.cellsOf f.type)))->(cs.drop o).length=(u l)->EZ P h l (cs.drop o):=by
      intro gs
      induction gs with
      | nil=>
       intro o l hl _ hlen;simp only[KA,Option.some.injEq]at hl;subst hl;rw[E hlen];trivial
      | cons f gs ihg=>
       intro o l hl XO hlen;unfold KA at hl;split at hl
       .rename_i lf hlf;split at hl
        .rename_i hcf;obtain⟨rfl,hcf⟩:=hcf
         cases hr:KA P (leaf P j) gs (f.offset+(u lf)) with
         | none=>rw[hr]at hl;cases hl
         | some lr=>
          rw[hr]at hl;simp only[aw,Option.some.injEq]at hl;subst hl;simp only[List.length_append]at hlen;have e:cs.drop f.offset=(cs.drop f.offset).take (u lf)++cs.drop (f.offset+(u lf)):=by
           rw[<-L,X]
          obtain⟨k',Ln⟩:=XO f IQ;rw[hcf]at Ln;rw[e];refine Oi (ih k' f.type _ lf hlf ?_ Ln) (ihg _ lr hr (fun g hg=>XO g (by simp[hg])) ?_)
          .simp only[U];omega
          .rw[<-L,W];omega
        .cases hl
       .cases hl
     have:=key fs.toList 0 l' fU (fun f hf'=>by
      obtain⟨i,hi,ab⟩:=List.mem_iff_getElem.1 hf';exact h2 i f (by rw[<-Array.getElem?_toList,List.getElem?_eq_getElem hi,ab])) (by simpa using hlen)
     simpa using this
    .cases hl
   .cases hl
  .rename_i n e hu;split at hl
   .rename_i l' fU;split at hl
    .rename_i hc;obtain⟨WB,EJ⟩:=hc;simp only[Option.some.injEq]at hl;subst hl;obtain⟨h1,h2⟩:=qw hu hf;have key:∀(m s:Nat),s+m=n->(cs.drop (s*(u l'))).length=m*(u l')->EZ P h (rep m l') (cs.drop (s*(u l'))):=by
      intro m
      induction m with
      | zero=>
       intro s _ hlen;have e0:cs.drop (s*(u l'))=[]:=E (by rw[hlen];simp);rw[e0];trivial
      | succ m ihm=>
       intro s hs hlen;have es:s*(u l')+(u l')=(s+1)*(u l'):=by rw[S,al]
       have ee:cs.drop (s*(u l'))=(cs.drop (s*(u l'))).take (u l')++cs.drop ((s+1)*(u l')):=by
        rw[<-es,<-L,X]
       obtain⟨k',Ln⟩:=h2 s pA;rw[WB]at Ln;rw[ee];rw[S,al]at hlen;refine Oi (ih k' e _ l' fU ?_ Ln) (ihm (s+1) pA ?_)
       .simp only[U];omega
       .rw[<-es,<-L,W];omega
     have:=key n 0 pA (by rw[Nat.zero_mul,Y,hlen,GU])
     simpa using this
    .cases hl
   .cases hl
  .simp only[Option.some.injEq]at hl;subst hl
   match cs,hlen with
   | [c],_=>exact⟨⟨k,hf⟩,trivial⟩
def ci(cs:List A)(i:Nat):Int:=match nth cs i with|some (.int _ n)=>n|_=>0
def cb(cs:List A)(i:Nat):Bool:=match nth cs i with|some (J b)=>b|_=>false
def ZxE(P:O)(ts:List G)(a n:Nat):Bool:=(List.range n).all fun j=>match nth ts (a+j) with|some t=>(match P.underlying t with|some .bool=>true|_=>false)|none=>false
theorem take_one{l:List A}{i:Nat}{x:A}(h:nth l i=B x):(l.drop i).take 1=[x]:=by
 rw[YU]at h;obtain⟨hi,rfl⟩:=List.getElem?_eq_some_iff.1 h;rw[List.take_one,List.head?_drop,h];rfl
theorem aG{l:List A}{i:Nat}{x y:A}(h:nth l i=B x)(h2:nth l (i+1)=B y):(l.drop i).take 2=[x,y]:=by
 have e1:=take_one h;have e2:=take_one h2;have:(l.drop i).take (1+1)=(l.drop i).take 1++((l.drop i).drop 1).take 1:=by rw[List.take_add]
 rw[this,L,e1,e2];rfl
theorem Zj.add{h':Hp}(b:Zj h.size h h')(o:Obj):Zj h.size h (h'.push o):=b.trans (Zj.push b.size o)
theorem Xt{α:Type}{l:List α}{n:Nat}(h:(u l)=n):l.take n=l:=by rw[<-h,List.take_length]
theorem UE{ts:List G}(ht:P.underlying t=B (.int .i64))(hf:EZ P h (t :: ts) cs):
  ∃n l,cs=.int .i64 n :: l /\ -9223372036854775808<=n/\n<=9223372036854775807/\EZ P h ts l:=by
 cases cs with
 | nil=>exact hf.elim
 | cons c l=>
  obtain⟨⟨k,hk⟩,hl⟩:=hf;obtain⟨m,hm,hw⟩:=RX ht hk;simp only[List.cons.injEq,and_true]at hm;subst hm;exact⟨m,l,rfl,(wf_i64 hw).1,(wf_i64 hw).2,hl⟩
theorem aH(hf:EZ P h [] cs):cs=[]:=by
 cases cs with
 | nil=>rfl
 | cons c l=>exact hf.elim
end Go.V
