/- Part W3. -/
import Derived.Test.YtdpjmhgbmhjniaaGreatDoorV9
open Go.Value renaming agg→D,bool→J
open List renaming length→u,eq_nil_of_length_eq_zero→E,drop_drop→L,length_take→U,length_drop→W,take_append_drop→X,drop_zero→Y,length_cons→aa,length_nil→am,forIn_cons→av,headD_cons→aw
open Nat renaming add_mul→S,one_mul→al
open Option renaming map_some→ao,some→B,none→M
open Bool renaming false_eq_true→R,and_eq_true→Z,not_false→ay,false_and→az,not_true→aI,true_and→a0
open Go renaming Value→A,TypeId→G,Program→O
namespace Go.V
set_option linter.all false
variable{P:O}{cs:List A}{h:Hp}{ks:List (Option IntKind)}{t:G}
theorem wP{k:Nat}{i:IntKind}(ht:P.underlying t=B (.int i))(hf:fit P h k t cs):∃n,cs=[.int i n]/\(Lit.int i n).wf=true:=by
 cases k with
 | zero=>exact hf.elim
 | succ k=>unfold fit at hf;rw[ht]at hf;exact hf
theorem aC{k:Nat}{fs:Array Field}(ht:P.underlying t=B (.struct fs))(hf:fit P h k t cs):
  (u cs)=P.cellsOf t/\∀(i:Nat) (f:Field),fs[i]? = B f->∃k,fit P h k f.type ((cs.drop f.offset).take (P.cellsOf f.type)):=by
 cases k with
 | zero=>exact hf.elim
 | succ k=>
  unfold fit at hf;rw[ht]at hf;exact⟨hf.1,fun i f hi=>⟨k,hf.2 f (by have:=Array.mem_of_getElem? hi;simpa using this)⟩⟩
theorem iX{k:Nat}{e:G}{n:Nat}(ht:P.underlying t=B (.array n e))(hf:fit P h k t cs):
  (u cs)=P.cellsOf t/\∀i,i<n->∃k,fit P h k e ((cs.drop (i*P.cellsOf e)).take (P.cellsOf e)):=by
 cases k with
 | zero=>exact hf.elim
 | succ k=>
  unfold fit at hf;rw[ht]at hf;exact⟨hf.1,fun i hi=>⟨k,hf.2 i hi⟩⟩
def ZK{α:Type}(enc:α->List A):List α->List A
 | []=>[]
 | x :: l=>enc x++ZK enc l
theorem YD{α:Type}(enc:α->List A)(l k:List α):ZK enc (l++k)=ZK enc l++ZK enc k:=by
 induction l with
 | nil=>rfl
 | cons x l ih=>simp[ZK,ih]
theorem Jn{α:Type}{enc:α->List A}{n:Nat}(QZ:∀x,(enc x).length=n)(l:List α):(ZK enc l).length=(u l)*n:=by
 induction l with
 | nil=>simp[ZK]
 | cons x l ih=>simp[ZK,ih,QZ,S,Nat.add_comm]
theorem UL{α:Type}(f:α->A)(l:List α):ZK (fun x=>[f x]) l=l.map f:=by
 induction l with
 | nil=>rfl
 | cons x l ih=>simp[ZK,ih]
theorem KR{b o:Nat}{ds:List A}(h1:Xd h b o cs)(h2:Xd h b (o+(u cs)) ds):Xd h b o (cs++ds):=by
 intro i hi;by_cases ZL:i<(u cs)
 .rw[h1 i ZL];simp[ZL]
 .have:=h2 (i-(u cs)) (by simp at hi;omega);rw[show o+(u cs)+(i-(u cs))=o+i by omega]at this;rw[this];simp[List.getElem_append,ZL]
theorem collect{α:Type}{b o n:Nat}{enc:α->List A}{ok:α->Prop}(QZ:∀x,(enc x).length=n):∀len,(∀i,i<len->∃x,ok x/\Xd h b (o+i*n) (enc x)) ->
  ∃l:List α,(u l)=len/\Xd h b o (ZK enc l)/\∀x∈l,ok x:=by
 intro len
 induction len with
 | zero=>intro _;exact⟨[],rfl,fun i hi=>by simp[ZK]at hi,fun x hx=>by cases hx⟩
 | succ len ih=>
  intro H;obtain⟨l,h1,h2,h3⟩:=ih (fun i hi=>H i gX);obtain⟨x,hx,hc⟩:=H len gX;refine⟨l++[x],by simp[h1],?_,fun y hy=>?_⟩
  .rw[YD];refine KR h2 ?_;rw[Jn QZ,h1]
   simpa [ZK] using hc
  .rcases List.mem_append.1 hy with hy|hy
   .exact h3 y hy
   .simp at hy;subst hy;exact hx
theorem iY{α:Type}{k:Nat}{e:G}{v:A}{n:Nat}{enc:α->List A}{ok:α->Prop}(ht:P.underlying t=B (.slice e))(hn:P.cellsOf e=n)(RC:n≠0)(QZ:∀x,(enc x).length=n)(each:∀k ds,fit P h k e ds->∃x,ok x/\ds=enc x)(hf:fit P h k t [v]):
  ∃l:List α,Sl n h v (u l) (ZK enc l)/\(∀x∈l,ok x)/\(u l)*P.bytesOf e<=140737488355328:=by
 cases k with
 | zero=>exact hf.elim
 | succ k=>
  unfold fit at hf;rw[ht]at hf;obtain⟨p,len,cap,hv,uO,QQ,hel⟩:=hf;simp only[List.cons.injEq,and_true]at hv;subst hv;have Zcf:len*P.bytesOf e<=140737488355328:=Nat.le_trans (Nat.mul_le_mul_right _ uO) (Nat.le_trans QQ MZ);by_cases hl:len=0
  .subst hl;exact⟨[],⟨p,cap,rfl,by simp[ZK],fun h=>(h rfl).elim⟩,fun x hx=>by (cases hx),Dq⟩
  .obtain⟨b,o,rfl,hb,Xc⟩:=hel hl gX;obtain⟨l,h1,h2,h3⟩:=collect (h:=h) (b:=b) (o:=o) (ok:=ok) QZ len (fun i hi=>by
    obtain⟨ds,hds,hc,hfe⟩:=Xc i hi;obtain⟨x,hx,rfl⟩:=each k ds hfe;exact⟨x,hx,by rw[<-hn];exact hc⟩)
   exact⟨l,⟨_,cap,by rw[h1],Jn QZ l,fun _=>⟨b,o,rfl,h2⟩⟩,h3,by rw[h1];exact Zcf⟩
theorem wf_i64{n:Int}(h:(Lit.int .i64 n).wf=true): -9223372036854775808<=n/\n<=9223372036854775807:=by
 simp[Lit.wf,IntKind.min,IntKind.max,IntKind.signed,IntKind.bits]at h;omega
theorem fitAll_nil{vs:List A}(hf:fitAll P h [] vs):vs=[]:=by
 cases vs with
 | nil=>rfl
 | cons a l=>exact hf.elim
theorem fitAll_cons{ts:List G}{vs:List A}(hf:fitAll P h (t :: ts) vs):∃v l,vs=v :: l/\(∃k,iQ P h k t v)/\fitAll P h ts l:=by
 cases vs with
 | nil=>exact hf.elim
 | cons a l=>exact⟨a,l,rfl,hf.1,hf.2⟩
theorem oS{k:Nat}{v:A}(ha:ta P t=B false)(hf:iQ P h k t v):fit P h k t [v]:=by
 unfold iQ at hf;rw[ha]at hf;exact hf
section
variable {P:O} {T:World} {K:A->Hp->Prop} {h:Hp}
end
def NY(P:O)(g:G->Option (List (Option IntKind))):List Field->Nat->Option (List (Option IntKind))
 | [],_=>B []
 | f :: fs,o=>match g f.type with
  | some l=>if f.name ≠ "_" /\ f.offset=o/\tn P f.type=B (u l) then (NY P g fs (o+(u l))).map (l ++ ·) else M
  | none=>M
def rep{α:Type}:Nat->List α->List α
 | 0,_=>[]
 | n+1,l=>l++rep n l
def flat(P:O):Nat->G->Option (List (Option IntKind))
 | 0,_=>M
 | k+1,t=>match P.underlying t with
  | some (.int i)=>B [B i]
  | some .bool=>B [M]
  | some (.struct fs)=>if P.stoodInHeld t=true then M else NY P (flat P k) fs.toList 0
  | some (.array n e)=>match flat P k e with
   | some l=>if tn P e=B (u l) then B (rep n l) else M
   | none=>M
  | _=>M
def U1:Option IntKind->A->Bool
 | some i,.int j _=>i == j
 | none,J _=>true
 | _,_=>false
def YM:List (Option IntKind)->List A->Bool
 | [],[]=>true
 | k :: ks,v :: vs=>U1 k v&&YM ks vs
 | _,_=>false
def ceq:A->A->Bool
 | .int _ a,.int _ b=>a == b
 | J a,J b=>a == b
 | _,_=>false
def leq:List A->List A->Bool
 | [],[]=>true
 | a :: l,b :: k=>ceq a b&&leq l k
 | _,_=>false
theorem Y3:∀{vs:List A},YM ks vs=true->(u vs)=(u ks):=by
 induction ks with
 | nil=>intro vs h;cases vs with
  | nil=>rfl
  | cons a l=>simp[YM]at h
 | cons k ks ih=>intro vs h;cases vs with
  | nil=>simp[YM]at h
  | cons a l=>simp only[YM,Z]at h;simp[ih h.2]
theorem Ve{js:List (Option IntKind)}:∀{vs:List A},YM (ks++js) vs=true->YM ks (vs.take (u ks))=true/\YM js (vs.drop (u ks))=true:=by
 induction ks with
 | nil=>intro vs h;exact⟨by simp[YM],by simpa using h⟩
 | cons k ks ih=>
  intro vs h
  cases vs with
  | nil=>simp[YM]at h
  | cons a l=>
   simp only[List.cons_append,YM,Z]at h;obtain⟨h1,h2⟩:=ih h.2;exact⟨by simp[YM,h.1,h1],by simpa using h2⟩
theorem KT(n:Nat):∀{a b:List A},(u a)=(u b)->leq a b=(leq (a.take n) (b.take n)&&leq (a.drop n) (b.drop n)):=by
 induction n with
 | zero=>intro a b h;simp[leq]
 | succ n ih=>
  intro a b h
  cases a with
  | nil=>cases b with
   | nil=>simp[leq]
   | cons y b=>simp at h
  | cons x a=>
   cases b with
   | nil=>simp at h
   | cons y b=>simp only[List.take_succ_cons,List.drop_succ_cons,leq];rw[ih (by simpa using h),Bool.and_assoc]
section
variable {P:O} {h:Hp}
def valOf(P:O)(t:G)(cs:List A):A:=
 match ta P t with
 | some true=>D cs.toArray
 | _=>cs.headD undef
theorem OO{o:Nat}{k:Nat}(hk:flat P k t=B ks)(hn:tn P t=B (u ks))(hc:YM ks ((cs.drop o).take (u ks))=true){Q:A->Hp->Prop}:
  hw P (part t cs.toArray o) Q h=Q (valOf P t ((cs.drop o).take (u ks))) h:=by
 unfold part valOf;rw[Ze]
 cases k with
 | zero=>simp[flat]at hk
 | succ k=>
  have e:(cs.toArray.extract o (o+(u ks)))=((cs.drop o).take (u ks)).toArray:=by
   apply Array.toList_inj.1;simp[List.extract_eq_take_drop]
  unfold flat at hk;have one:∀{kd:Option IntKind},ks=[kd]->ta P t=B false->hw P (isAgg t) (fun a h'=>hw P (if a=true then do pure (D (cs.toArray.extract o (o+(<-sizeOf t)))) else match cs.toArray[o]? with|some v=>pure v|none=>stuck "part: no such cell") Q h') h=Q (match ta P t with|some true=>D ((cs.drop o).take (u ks)).toArray|_=>((cs.drop o).take (u ks)).headD undef) h:=by
   intro kd hks Au;subst hks;rw[Wm Au,if_neg Dq,Au];have hl:=Y3 hc;simp only[aa,am,U,W]at hl;have ZL:o<(u cs):=gX;have e2:cs.toArray[o]? = B cs[o]:=by simp[ZL]
   have e3:((cs.drop o).take 1).headD undef=cs[o]:=by
    rw[List.headD_eq_head?_getD,List.head?_take];simp[ZL]
   simp only[e2];show Q _ h=Q _ h;simp only[aa,am,Nat.zero_add,e3]
  have agg:ta P t=B true->hw P (isAgg t) (fun a h'=>hw P (if a=true then do pure (D (cs.toArray.extract o (o+(<-sizeOf t)))) else match cs.toArray[o]? with|some v=>pure v|none=>stuck "part: no such cell") Q h') h=Q (match ta P t with|some true=>D ((cs.drop o).take (u ks)).toArray|_=>((cs.drop o).take (u ks)).headD undef) h:=by
   intro Au;rw[Wm Au,if_pos rfl,Ze,run_sizeOf hn,e,Au];rfl
  split at hk
  .rename_i hu;exact one (by simpa using hk.symm) (by simp[ta,hu])
  .rename_i hu;exact one (by simpa using hk.symm) (by simp[ta,hu])
  .rename_i hu;exact agg (by simp[ta,hu])
  .rename_i hu;exact agg (by simp[ta,hu])
  .cases hk
theorem aD{k:Nat}{d:Nat}{a b:List A}(ih:∀(t:G) (ks:List (Option IntKind)) (a b:List A),flat P k t=B ks->YM ks a=true->YM ks b=true->∀{Q:Bool->Hp->Prop},hw P (Op.equalIn d t (valOf P t a) (valOf P t b)) Q h=Q (leq a b) h)(FY:(u a)=(u b)):∀(fs:List Field) (o:Nat) (ks:List (Option IntKind)),NY P (flat P k) fs o=B ks->YM ks (a.drop o)=true->YM ks (b.drop o)=true->∀{Q:Option Bool × Unit->Hp->Prop},
  hw P (forIn fs ((M,()):Option Bool × Unit) fun (f:Field) (_:Option Bool × Unit)=>
   if f.name ≠ "_" then do
    let x <-part f.type a.toArray f.offset
    let y <-part f.type b.toArray f.offset
    let r <-Op.equalIn d f.type x y
    if (!r)=true then pure (ForInStep.done (B false,())) else pure (ForInStep.yield (M,()))
   else pure (ForInStep.yield (M,()))) Q h=Q (if leq (a.drop o) (b.drop o)=true then (M,()) else (B false,())) h:=by
 intro fs
 induction fs with
 | nil=>
  intro o ks hk ha hb Q;simp only[NY,Option.some.injEq]at hk;subst hk;have e1:=E (Y3 ha);have e2:=E (Y3 hb);rw[e1,e2];rfl
 | cons f fs ihf=>
  intro o ks hk ha hb Q;unfold NY at hk;split at hk
  .rename_i l hl;split at hk
   .rename_i hc;obtain⟨hn,rfl,htn⟩:=hc
    cases hr:NY P (flat P k) fs (f.offset+(u l)) with
    | none=>rw[hr]at hk;cases hk
    | some ks'=>
     rw[hr]at hk;simp only[ao,Option.some.injEq]at hk;subst hk;obtain⟨a1,a2⟩:=Ve ha;obtain⟨b1,b2⟩:=Ve hb;rw[L]at a2 b2;rw[av,Ze,if_pos hn,Ze,OO hl htn a1,Ze,OO hl htn b1,Ze,ih f.type l _ _ hl a1 b1];have el:=KT (u l) (a:=a.drop f.offset) (b:=b.drop f.offset) (by simp[FY]);rw[L,L]at el;rw[el]
     cases hx:leq ((a.drop f.offset).take (u l)) ((b.drop f.offset).take (u l)) with
     | true=>
      simp only[aI,R,if_false,ZC,a0];exact ihf (f.offset+(u l)) ks' hr a2 b2
     | false=>
      simp only[ay,if_true,ZC,az,R,if_false]
   .cases hk
  .cases hk
theorem iZ{k:Nat}{d e:Nat}{l:List (Option IntKind)}{a b:List A}(ih:∀(t:G) (ks:List (Option IntKind)) (a b:List A),flat P k t=B ks->YM ks a=true->YM ks b=true->∀{Q:Bool->Hp->Prop},hw P (Op.equalIn d t (valOf P t a) (valOf P t b)) Q h=Q (leq a b) h)(hl:flat P k e=B l)(htn:tn P e=B (u l))(FY:(u a)=(u b)):∀(n s:Nat),YM (rep n l) (a.drop (s*(u l)))=true->YM (rep n l) (b.drop (s*(u l)))=true->∀{Q:Option Bool × Unit->Hp->Prop},
  hw P (forIn (List.range' s n) ((M,()):Option Bool × Unit) fun (i:Nat) (_:Option Bool × Unit)=>do
    let x <-part e a.toArray (i*(u l))
    let y <-part e b.toArray (i*(u l))
    let r <-Op.equalIn d e x y
    if (!r)=true then pure (ForInStep.done (B false,())) else pure (ForInStep.yield (M,()))) Q h =
   Q (if leq (a.drop (s*(u l))) (b.drop (s*(u l)))=true then (M,()) else (B false,())) h:=by
 intro n
 induction n with
 | zero=>
  intro s ha hb Q;have e1:=E (Y3 ha);have e2:=E (Y3 hb);rw[e1,e2];rfl
 | succ n ihn=>
  intro s ha hb Q;obtain⟨a1,a2⟩:=Ve ha;obtain⟨b1,b2⟩:=Ve hb;have es:s*(u l)+(u l)=(s+1)*(u l):=by rw[S,al]
  rw[L,es]at a2 b2;rw[List.range'_succ,av,Ze,Ze,OO hl htn a1,Ze,OO hl htn b1,Ze,ih e l _ _ hl a1 b1];have el:=KT (u l) (a:=a.drop (s*(u l))) (b:=b.drop (s*(u l))) (by simp[FY]);rw[L,L,es]at el;rw[el]
  cases hx:leq ((a.drop (s*(u l))).take (u l)) ((b.drop (s*(u l))).take (u l)) with
  | true=>
   simp only[aI,R,if_false,ZC,a0];exact ihn (s+1) a2 b2
  | false=>
   simp only[ay,if_true,ZC,az,R,if_false]
theorem MQ:∀(k:Nat) (t:G) (ks:List (Option IntKind)) (a b:List A) (d:Nat),k<=d->flat P k t=B ks->YM ks a=true->YM ks b=true->∀{Q:Bool->Hp->Prop},
  hw P (Op.equalIn d t (valOf P t a) (valOf P t b)) Q h=Q (leq a b) h:=by
 intro k
 induction k with
 | zero=>intro t ks a b d _ hk;simp[flat]at hk
 | succ k ih=>
  intro t ks a b d hd hk ha hb Q;obtain⟨d,rfl⟩:∃e,d=e+1:=⟨d-1,gX⟩
  unfold flat at hk;split at hk
  .rename_i i hu;simp only[Option.some.injEq]at hk;subst hk;have Au:ta P t=B false:=by simp[ta,hu]
   obtain⟨n,rfl⟩:∃n,a=[.int i n]:=by
    cases a with
    | nil=>simp[YM]at ha
    | cons x l=>
     cases l with
     | cons y l=>simp[YM]at ha
     | nil=>cases x<;>simp[YM,U1]at ha<;>subst ha<;>exact⟨_,rfl⟩
   obtain⟨m,rfl⟩:∃n,b=[.int i n]:=by
    cases b with
    | nil=>simp[YM]at hb
    | cons x l=>
     cases l with
     | cons y l=>simp[YM]at hb
     | nil=>cases x<;>simp[YM,U1]at hb<;>subst hb<;>exact⟨_,rfl⟩
   simp only[valOf,Au,aw,Op.equalIn];rw[Ze,Zv hu];simp[ZC,leq,ceq]
  .rename_i hu;simp only[Option.some.injEq]at hk;subst hk;have Au:ta P t=B false:=by simp[ta,hu]
   obtain⟨n,rfl⟩:∃n,a=[J n]:=by
    cases a with
    | nil=>simp[YM]at ha
    | cons x l=>
     cases l with
     | cons y l=>simp[YM]at ha
     | nil=>cases x<;>simp[YM,U1]at ha<;>exact⟨_,rfl⟩
   obtain⟨m,rfl⟩:∃n,b=[J n]:=by
    cases b with
    | nil=>simp[YM]at hb
    | cons x l=>
     cases l with
     | cons y l=>simp[YM]at hb
     | nil=>cases x<;>simp[YM,U1]at hb<;>exact⟨_,rfl⟩
   simp only[valOf,Au,aw,Op.equalIn];rw[Ze,Zv hu];simp[ZC,leq,ceq]
  .rename_i fs hu;split at hk
   .cases hk
   .rename_i mC;have Au:ta P t=B true:=by simp[ta,hu]
    simp only[valOf,Au,Op.equalIn];rw[Ze,Zv hu];simp only;rw[Ze];show hw P (if P.stoodInHeld t=true then _ else _) Q h=_;rw[if_neg mC];have FY:(u a)=(u b):=by rw[Y3 ha,Y3 hb]
    rw[Ze,<-Array.forIn_toList,aD (k:=k) (d:=d) (fun t ks a b h1 h2 h3=>ih t ks a b d gX h1 h2 h3) FY fs.toList 0 ks hk (by simpa using ha) (by simpa using hb)];simp only[Y]
    cases leq a b<;>rfl
  .rename_i n e hu;split at hk
   .rename_i l hl;split at hk
    .rename_i htn;simp only[Option.some.injEq]at hk;subst hk;have Au:ta P t=B true:=by simp[ta,hu]
     have FY:(u a)=(u b):=by rw[Y3 ha,Y3 hb]
     simp only[valOf,Au,Op.equalIn];rw[Ze,Zv hu];simp only;rw[Ze,run_sizeOf htn,Ze,Std.Legacy.Range.forIn_eq_forIn_range'];simp only[Std.Legacy.Range.size,Nat.sub_zero,Nat.add_sub_cancel,Nat.div_one];rw[iZ (k:=k) (d:=d) (h:=h) (fun t ks a b h1 h2 h3=>ih t ks a b d gX h1 h2 h3) hl htn FY n 0 (by simpa using ha) (by simpa using hb)];simp only[Nat.zero_mul,Y]
     cases leq a b<;>rfl
    .cases hk
   .cases hk
  .cases hk
def uP(P:O)(t:G):Bool:=P.eqGuardType P.depth t
def oU(o:Option (List (Option IntKind)))(a:List A):Bool:=match o with|some ks=>YM ks a|none=>false
@[go_sem] theorem ZeH{a:List A}:oU (B ks) a=YM ks a:=rfl
variable {K:A->Hp->Prop}
theorem GL{op:BinOp}{x y:Operand}{a b:Array A}(hg:uP P t=false){Q:Unit->Hp->Prop}:hw P (eqGuard op t x y (D a) (D b)) Q h=Q () h:=by
 unfold uP at hg;have e:hw P (do
   if !(<-program).eqGuardType (<-program).depth t then return
   if <-Op.eqGuardIn Op.maxDepth t (D a) (D b) then unsupported (.noEntry "binop/eql: two nil values of an interface type with methods, in a part of a struct or an array")) Q h=Q () h:=by
  rw[Ze];show hw P (_ >>= _) _ h=_;rw[Ze];show hw P (if (!P.eqGuardType P.depth t)=true then _ else _) _ h=_;rw[hg];rfl
 unfold eqGuard
 cases op<;>first|rfl|exact e
@[go_sem] theorem ZeI{x y:Operand}{a b:List A}(hg:uP P t=false)(ht:ta P t=B true)(ha:oU (flat P 6 t) a=true)(hb:oU (flat P 6 t) b=true):
  Y1 P .eql t x y (D a.toArray) (D b.toArray) K h=K (J (leq a b)) h:=by
 cases hk:flat P 6 t with
 | none=>rw[hk]at ha;cases ha
 | some ks=>
  rw[hk]at ha hb;unfold Y1;rw[Ze,GL hg];have:=MQ (h:=h) 6 t ks a b 10000 gX hk ha hb (Q:=fun r h=>K (J r) h);simp only[valOf,ht]at this;show hw P (Op.equalIn 10000 t (D a.toArray) (D b.toArray) >>= _) K h=_;rw[Ze];exact this
@[go_sem] theorem ZeJ{x y:Operand}{a b:List A}(hg:uP P t=false)(ht:ta P t=B true)(ha:oU (flat P 6 t) a=true)(hb:oU (flat P 6 t) b=true):
  Y1 P .neq t x y (D a.toArray) (D b.toArray) K h=K (J (!(leq a b))) h:=by
 cases hk:flat P 6 t with
 | none=>rw[hk]at ha;cases ha
 | some ks=>
  rw[hk]at ha hb;unfold Y1;rw[Ze,GL hg];have:=MQ (h:=h) 6 t ks a b 10000 gX hk ha hb (Q:=fun r h=>K (J (!r)) h);simp only[valOf,ht]at this;show hw P (Op.equalIn 10000 t (D a.toArray) (D b.toArray) >>= _) K h=_;rw[Ze];exact this
end
@[go_sem] theorem ZfN:YM [] []=true:=rfl
@[go_sem] theorem ZfO{i j:IntKind}{n:Int}{vs:List A}:YM (B i :: ks) (.int j n :: vs)=(i == j&&YM ks vs):=rfl
@[go_sem] theorem fc:leq [] []=true:=rfl
@[go_sem] theorem wU{i j:IntKind}{a b:Int}{l k:List A}:leq (.int i a :: l) (.int j b :: k)=(decide (a=b)&&leq l k):=rfl
@[go_sem] theorem oV{a b:Bool}{l k:List A}:leq (J a :: l) (J b :: k)=((a == b)&&leq l k):=rfl
section
variable {P:O} {T:World} {F:Env} {h:Hp}
@[go_sem] theorem wX{ops l:List Oper}{N:Env->Hp->Prop}{d:Option Tmp}{op:Op}{ty:G}{b:Bool}:AQ P T ops N l F d op ty undef b h=Pa P T ops N l (Z5 F d undef) h:=rfl
end
@[go_sem] theorem ZfP{α:Type}(l:List α)(n i:Nat):nth (l.take n) i=if i<n then nth l i else M:=by
 rw[YE,YE,List.getElem?_take]
@[go_sem] theorem ZfQ{α:Type}(l:List α)(n i:Nat):nth (l.drop n) i=nth l (n+i):=by
 rw[YE,YE,List.getElem?_drop]
def NZ(P:O)(g:G->Option (List G)):List Field->Nat->Option (List G)
 | [],_=>B []
 | f :: fs,o=>match g f.type with
  | some l=>if f.offset=o/\P.cellsOf f.type=(u l) then (NZ P g fs (o+(u l))).map (l ++ ·) else M
  | none=>M
def leaf(P:O):Nat->G->Option (List G)
 | 0,_=>M
 | k+1,t=>match P.underlying t with
  | some (.struct fs)=>match NZ P (leaf P k) fs.toList 0 with
   | some l=>if P.cellsOf t=(u l) then B l else M
   | none=>M
  | some (.array n e)=>match leaf P k e with
   | some l=>if P.cellsOf e=(u l)/\P.cellsOf t=n*(u l) then B (rep n l) else M
   | none=>M
  | _=>B [t]
def HY(P:O)(h:Hp):List G->List A->Prop
 | [],[]=>True
 | t :: ts,c :: cs=>(∃k,fit P h k t [c])/\HY P h ts cs
 | _,_=>False
theorem SE:∀{ts us:List G} {cs ds:List A},HY P h ts cs->HY P h us ds->HY P h (ts++us) (cs++ds)
 | [],us,[],ds,_,h2=>h2
 | t :: ts,us,c :: cs,ds,h1,h2=>⟨h1.1,SE h1.2 h2⟩
 | [],us,c :: cs,ds,h1,_=>h1.elim
 | t :: ts,us,[],ds,h1,_=>h1.elim
theorem KU{α:Type}(l:List α):∀n,(rep n l).length=n*(u l)
 | 0=>by simp[rep]
 | n+1=>by simp[rep,KU l n,S,Nat.add_comm]
theorem oW:∀(j k:Nat) (t:G) (cs:List A) (l:List G),leaf P j t=B l->(u cs)=(u l)->fit P h k t cs->HY P h l cs:=by
 intro j
 induction j with
 | zero=>intro k t cs l hl;simp[leaf]at hl
 | succ j ih=>
  intro k t cs l hl hlen hf;unfold leaf at hl;split at hl
  .rename_i fs hu;split at hl
   .rename_i l' Ar;split at hl
    .rename_i hc;simp only[Option.some.injEq]at hl;subst hl;obtain⟨h1,h2⟩:=aC hu hf;have key:∀(gs:List Field) (o:Nat) (l:List G),NZ P (leaf P j) gs o=B l->(∀f∈gs,∃k,fit P h k f.type ((cs.drop f.offset).take (P.cellsOf f.type)))->(cs.drop o).length=(u l)->HY P h l (cs.drop o):=by
      intro gs
      induction gs with
      | nil=>
       intro o l hl _ hlen;simp only[NZ,Option.some.injEq]at hl;subst hl;rw[E hlen];trivial
      | cons f gs ihg=>
       intro o l hl Xc hlen;unfold NZ at hl;split at hl
       .rename_i lf hlf;split at hl
        .rename_i hcf;obtain⟨rfl,hcf⟩:=hcf
         cases hr:NZ P (leaf P j) gs (f.offset+(u lf)) with
         | none=>rw[hr]at hl;cases hl
         | some lr=>
          rw[hr]at hl;simp only[ao,Option.some.injEq]at hl;subst hl;simp only[List.length_append]at hlen;have e:cs.drop f.offset=(cs.drop f.offset).take (u lf)++cs.drop (f.offset+(u lf)):=by
           rw[<-L,X]
          obtain⟨k',PV⟩:=Xc f Dq;rw[hcf]at PV;rw[e];refine SE (ih k' f.type _ lf hlf ?_ PV) (ihg _ lr hr (fun g hg=>Xc g (by simp[hg])) ?_)
          .simp only[U];omega
          .rw[<-L,W];omega
        .cases hl
       .cases hl
     have:=key fs.toList 0 l' Ar (fun f mE=>by
      obtain⟨i,hi,Dv⟩:=List.mem_iff_getElem.1 mE;exact h2 i f (by rw[<-Array.getElem?_toList,List.getElem?_eq_getElem hi,Dv])) (by simpa using hlen)
     simpa using this
    .cases hl
   .cases hl
  .rename_i n e hu;split at hl
   .rename_i l' Ar;split at hl
    .rename_i hc;obtain⟨UX,MR⟩:=hc;simp only[Option.some.injEq]at hl;subst hl;obtain⟨h1,h2⟩:=iX hu hf;have key:∀(m s:Nat),s+m=n->(cs.drop (s*(u l'))).length=m*(u l')->HY P h (rep m l') (cs.drop (s*(u l'))):=by
      intro m
      induction m with
      | zero=>
       intro s _ hlen;have e0:cs.drop (s*(u l'))=[]:=E (by rw[hlen];simp);rw[e0];trivial
      | succ m ihm=>
       intro s hs hlen;have es:s*(u l')+(u l')=(s+1)*(u l'):=by rw[S,al]
       have ee:cs.drop (s*(u l'))=(cs.drop (s*(u l'))).take (u l')++cs.drop ((s+1)*(u l')):=by
        rw[<-es,<-L,X]
       obtain⟨k',PV⟩:=h2 s gX;rw[UX]at PV;rw[ee];rw[S,al]at hlen;refine SE (ih k' e _ l' Ar ?_ PV) (ihm (s+1) gX ?_)
       .simp only[U];omega
       .rw[<-es,<-L,W];omega
     have:=key n 0 gX (by rw[Nat.zero_mul,Y,hlen,KU])
     simpa using this
    .cases hl
   .cases hl
  .simp only[Option.some.injEq]at hl;subst hl
   match cs,hlen with
   | [c],_=>exact⟨⟨k,hf⟩,trivial⟩
def ci(cs:List A)(i:Nat):Int:=match nth cs i with|some (.int _ n)=>n|_=>0
def cb(cs:List A)(i:Nat):Bool:=match nth cs i with|some (J b)=>b|_=>false
def Ztc(P:O)(ts:List G)(a n:Nat):Bool:=(List.range n).all fun j=>match nth ts (a+j) with|some t=>(match P.underlying t with|some .bool=>true|_=>false)|none=>false
theorem take_one{l:List A}{i:Nat}{x:A}(h:nth l i=B x):(l.drop i).take 1=[x]:=by
 rw[YE]at h;obtain⟨hi,rfl⟩:=List.getElem?_eq_some_iff.1 h;rw[List.take_one,List.head?_drop,h];rfl
theorem DU{l:List A}{i:Nat}{x y:A}(h:nth l i=B x)(h2:nth l (i+1)=B y):(l.drop i).take 2=[x,y]:=by
 have e1:=take_one h;have e2:=take_one h2;have:(l.drop i).take (1+1)=(l.drop i).take 1++((l.drop i).drop 1).take 1:=by rw[List.take_add]
 rw[this,L,e1,e2];rfl
theorem Zf.add{h':Hp}(b:Zf h.size h h')(o:Obj):Zf h.size h (h'.push o):=b.trans (Zf.push b.size o)
theorem XH{α:Type}{l:List α}{n:Nat}(h:(u l)=n):l.take n=l:=by rw[<-h,List.take_length]
theorem SF{ts:List G}(ht:P.underlying t=B (.int .i64))(hf:HY P h (t :: ts) cs):
  ∃n l,cs=.int .i64 n :: l /\ -9223372036854775808<=n/\n<=9223372036854775807/\HY P h ts l:=by
 cases cs with
 | nil=>exact hf.elim
 | cons c l=>
  obtain⟨⟨k,hk⟩,hl⟩:=hf;obtain⟨m,hm,hw⟩:=wP ht hk;simp only[List.cons.injEq,and_true]at hm;subst hm;exact⟨m,l,rfl,(wf_i64 hw).1,(wf_i64 hw).2,hl⟩
theorem oX(hf:HY P h [] cs):cs=[]:=by
 cases cs with
 | nil=>rfl
 | cons c l=>exact hf.elim
end Go.V
