/- Part W3. -/
import Derived.Test.YtkhkmpfenaipaaaGreatDoorV9
open Go.Value renaming agg→D,bool→J
open List renaming length→w,toArray→E,eq_nil_of_length_eq_zero→L,drop_drop→M,take_append_drop→U,length_cons→W,length_nil→Y,forIn_cons→aa,headD_cons→ae,drop_zero→am
open Nat renaming add_mul→X
open Option renaming map_some→Z,some→B,none→O
open Bool renaming false_eq_true→S,not_false→ak,false_and→al,not_true→ao,true_and→aq
open Go renaming Value→A,TypeId→G,Program→R
namespace Go.V
set_option linter.all false
variable{P:R}{cs:List A}{h:Hp}{ks:List (Option IntKind)}{t:G}
theorem qM{k:Nat}{i:IntKind}(a:P.underlying t=B (.int i))(b:fit P h k t cs):∃n,cs=[.int i n]/\(Lit.int i n).wf=true:=by
 grind [fit.eq_def]
theorem lD{k:Nat}{a:Array Field}(b:P.underlying t=B (.struct a))(c:fit P h k t cs):
  (w cs)=P.cellsOf t/\∀(i:Nat) (f:Field),a[i]? = B f->∃k,fit P h k f.type ((cs.drop f.offset).take (P.cellsOf f.type)):=by
 grind [fit.eq_def]
theorem vg{k:Nat}{e:G}{n:Nat}(a:P.underlying t=B (.array n e))(b:fit P h k t cs):
  (w cs)=P.cellsOf t/\∀i,i<n->∃k,fit P h k e ((cs.drop (i*P.cellsOf e)).take (P.cellsOf e)):=by
 grind [fit.eq_def]
def ZW{α:Type}(enc:α->List A):List α->List A
 | []=>[]
 | x :: l=>enc x++ZW enc l
theorem Xd{α:Type}(enc:α->List A)(l k:List α):ZW enc (l++k)=ZW enc l++ZW enc k:=by
 induction l with
 | nil=>rfl
 | cons x l a=>simp[ZW,a]
theorem QG{α:Type}{enc:α->List A}{n:Nat}(b:∀x,(enc x).length=n)(l:List α):(ZW enc l).length=(w l)*n:=by
 induction l with
 | nil=>simp[ZW]
 | cons x l a=>simp[ZW,a,b,X,Nat.add_comm]
theorem VH{α:Type}(f:α->A)(l:List α):ZW (fun x=>[f x]) l=l.map f:=by
 induction l with
 | nil=>rfl
 | cons x l a=>simp[ZW,a]
theorem Eh{b o:Nat}{a:List A}(e:YU h b o cs)(d:YU h b (o+(w cs)) a):YU h b o (cs++a):=by
 intro i hi;by_cases c:i<(w cs)
 .rw[e i c];simp[c]
 .have:=d (i-(w cs)) zK
  grind
theorem collect{α:Type}{b o n:Nat}{enc:α->List A}{ok:α->Prop}(j:∀x,(enc x).length=n):∀len,(∀i,i<len->∃x,ok x/\YU h b (o+i*n) (enc x)) ->
  ∃l:List α,(w l)=len/\YU h b o (ZW enc l)/\∀x∈l,ok x:=by
 intro len
 induction len with
 | zero=>intro _;exact⟨[],rfl,fun i hi=>by simp[ZW]at hi,fun x a=>by cases a⟩
 | succ len c=>
  intro H;let⟨l,d,g,f⟩:=c (fun i hi=>H i uh);let⟨x,a,hc⟩:=H len uh;refine⟨l++[x],by simp[d],?_,fun y e=>?_⟩
  .grind [ZW,Xd,Eh,QG]
  grind
theorem vj{α:Type}{k:Nat}{e:G}{v:A}{n:Nat}{enc:α->List A}{ok:α->Prop}(q:P.underlying t=B (.slice e))(z:P.cellsOf e=n)(y:n≠0)(u:∀x,(enc x).length=n)(each:∀k j,fit P h k e j->∃x,ok x/\j=enc x)(a:fit P h k t [v]):
  ∃l:List α,Sl n h v (w l) (ZW enc l)/\(∀x∈l,ok x)/\(w l)*P.bytesOf e<=140737488355328:=by
 cases k with
 | zero=>exact a.elim
 | succ k=>
  unfold fit at a;rw[q]at a;obtain⟨p,len,cap,f,c,s,d⟩:=a;simp only[List.cons.injEq,and_true]at f;subst f;have r:len*P.bytesOf e<=140737488355328:=Nat.le_trans (Nat.mul_le_mul_right _ c) (Nat.le_trans s HE);by_cases g:len=0
  .subst g;exact⟨[],⟨p,cap,rfl,by simp[ZW],fun h=>(h rfl).elim⟩,fun x m=>by (cases m),zX⟩
  .obtain⟨b,o,rfl,hb,N⟩:=d g uh;obtain⟨l,I,H,C⟩:=collect (h:=h) (b:=b) (o:=o) (ok:=ok) u len (fun i hi=>by
    grind)
   grind [Sl,QG]
theorem wf_i64{n:Int}(h:(Lit.int .i64 n).wf=true): -9223372036854775808<=n/\n<=9223372036854775807:=by
 simp[Lit.wf,IntKind.min,IntKind.max,IntKind.signed,IntKind.bits]at h;omega
theorem fitAll_nil{vs:List A}(b:fitAll P h [] vs):vs=[]:=by
 cases vs with
 | nil=>rfl
 | cons a l=>exact b.elim
theorem fitAll_cons{ts:List G}{vs:List A}(b:fitAll P h (t :: ts) vs):∃v l,vs=v :: l/\(∃k,uY P h k t v)/\fitAll P h ts l:=by
 cases vs with
 | nil=>exact b.elim
 | cons a l=>exact⟨a,l,rfl,b.1,b.2⟩
theorem eG{k:Nat}{v:A}(b:ta P t=B false)(a:uY P h k t v):fit P h k t [v]:=by
 unfold uY at a;grind
section
variable {P:R} {T:World} {K:A->Hp->Prop} {h:Hp}
end
def IH(P:R)(g:G->Option (List (Option IntKind))):List Field->Nat->Option (List (Option IntKind))
 | [],_=>B []
 | f :: fs,o=>match g f.type with
  | some l=>if f.name ≠ "_" /\ f.offset=o/\tn P f.type=B (w l) then (IH P g fs (o+(w l))).map (l ++ ·) else O
  | none=>O
def rep{α:Type}:Nat->List α->List α
 | 0,_=>[]
 | n+1,l=>l++rep n l
def flat(P:R):Nat->G->Option (List (Option IntKind))
 | 0,_=>O
 | k+1,t=>match P.underlying t with
  | some (.int i)=>B [B i]
  | some .bool=>B [O]
  | some (.struct fs)=>if P.stoodInHeld t=true then O else IH P (flat P k) fs.toList 0
  | some (.array n e)=>match flat P k e with
   | some l=>if tn P e=B (w l) then B (rep n l) else O
   | none=>O
  | _=>O
def WO:Option IntKind->A->Bool
 | some i,.int j _=>i == j
 | none,J _=>true
 | _,_=>false
def XC:List (Option IntKind)->List A->Bool
 | [],[]=>true
 | k :: ks,v :: vs=>WO k v&&XC ks vs
 | _,_=>false
def ceq:A->A->Bool
 | .int _ a,.int _ b=>a == b
 | J a,J b=>a == b
 | _,_=>false
def leq:List A->List A->Bool
 | [],[]=>true
 | a :: l,b :: k=>ceq a b&&leq l k
 | _,_=>false
theorem YR:∀{vs:List A},XC ks vs=true->(w vs)=(w ks):=by
 induction ks with
 | nil=>grind [XC]
 | cons k ks b=>intro vs h;cases vs with
  | nil=>simp[XC]at h
  | cons a l=>simp only[XC,Bool.and_eq_true]at h;simp[b h.2]
theorem SM{b:List (Option IntKind)}:∀{vs:List A},XC (ks++b) vs=true->XC ks (vs.take (w ks))=true/\XC b (vs.drop (w ks))=true:=by
 induction ks with
 | nil=>intro vs h;exact⟨by simp[XC],by simpa using h⟩
 | cons k ks c=>
  intro vs h
  cases vs with
  | nil=>simp[XC]at h
  | cons a l=>
   grind [XC.eq_2]
theorem Ei(n:Nat):∀{a b:List A},(w a)=(w b)->leq a b=(leq (a.take n) (b.take n)&&leq (a.drop n) (b.drop n)):=by
 induction n with
 | zero=>intro a b h;simp[leq]
 | succ n c=>
  intro a b h
  cases a with
  | nil=>grind
  | cons x a=>
   cases b with
   | nil=>simp at h
   | cons y b=>simp only[List.take_succ_cons,List.drop_succ_cons,leq];rw[c (by simpa using h),Bool.and_assoc]
section
variable {P:R} {h:Hp}
def valOf(P:R)(t:G)(cs:List A):A:=
 match ta P t with
 | some true=>D (E cs)
 | _=>cs.headD undef
theorem Km{o:Nat}{k:Nat}(c:flat P k t=B ks)(j:tn P t=B (w ks))(hc:XC ks ((cs.drop o).take (w ks))=true){Q:A->Hp->Prop}:
  hw P (part t (E cs) o) Q h=Q (valOf P t ((cs.drop o).take (w ks))) h:=by
 unfold part valOf;rw[Zk]
 cases k with
 | zero=>simp[flat]at c
 | succ k=>
  have e:(cs.toArray.extract o (o+(w ks)))=((cs.drop o).take (w ks)).toArray:=by
   apply Array.toList_inj.1;simp[List.extract_eq_take_drop]
  unfold flat at c;have one:∀{g:Option IntKind},ks=[g]->ta P t=B false->hw P (isAgg t) (fun a h'=>hw P (if a=true then do pure (D (cs.toArray.extract o (o+(<-sizeOf t)))) else match (E cs)[o]? with|some v=>pure v|none=>stuck "part: no such cell") Q h') h=Q (match ta P t with|some true=>D ((cs.drop o).take (w ks)).toArray|_=>((cs.drop o).take (w ks)).headD undef) h:=by
   intro g f d;subst f;rw[TG d,if_neg zX,d];have l:=YR hc;simp only[W,Y,List.length_take,List.length_drop]at l;have i:o<(w cs):=uh;have n:(E cs)[o]? = B cs[o]:=by simp[i]
   have m:((cs.drop o).take 1).headD undef=cs[o]:=by
    rw[List.headD_eq_head?_getD,List.head?_take];simp[i]
   simp only[n];show Q _ h=Q _ h;simp only[W,Y,Nat.zero_add,m]
  have agg:ta P t=B true->hw P (isAgg t) (fun a h'=>hw P (if a=true then do pure (D (cs.toArray.extract o (o+(<-sizeOf t)))) else match (E cs)[o]? with|some v=>pure v|none=>stuck "part: no such cell") Q h') h=Q (match ta P t with|some true=>D ((cs.drop o).take (w ks)).toArray|_=>((cs.drop o).take (w ks)).headD undef) h:=by
   intro d;rw[TG d,if_pos rfl,Zk,run_sizeOf j,e,d];rfl
  split at c
  .rename_i b;exact one (by simpa using c.symm) (by simp[ta,b])
  .rename_i b;exact one (by simpa using c.symm) (by simp[ta,b])
  .rename_i b;exact agg (by simp[ta,b])
  .rename_i b;exact agg (by simp[ta,b])
  .cases c
theorem lF{k:Nat}{d:Nat}{a b:List A}(z:∀(t:G) (ks:List (Option IntKind)) (a b:List A),flat P k t=B ks->XC ks a=true->XC ks b=true->∀{Q:Bool->Hp->Prop},hw P (Op.equalIn d t (valOf P t a) (valOf P t b)) Q h=Q (leq a b) h)(N:(w a)=(w b)):∀(e:List Field) (o:Nat) (ks:List (Option IntKind)),IH P (flat P k) e o=B ks->XC ks (a.drop o)=true->XC ks (b.drop o)=true->∀{Q:Option Bool × Unit->Hp->Prop},
  hw P (forIn e ((O,()):Option Bool × Unit) fun (f:Field) (_:Option Bool × Unit)=>
   if f.name ≠ "_" then do
    let x <-part f.type (E a) f.offset
    let y <-part f.type (E b) f.offset
    let r <-Op.equalIn d f.type x y
    if (!r)=true then pure (ForInStep.done (B false,())) else pure (ForInStep.yield (O,()))
   else pure (ForInStep.yield (O,()))) Q h=Q (if leq (a.drop o) (b.drop o)=true then (O,()) else (B false,())) h:=by
 intro e
 induction e with
 | nil=>
  intro o ks c n hb Q;simp only[IH,Option.some.injEq]at c;subst c;have I:=L (YR n);have H:=L (YR hb);rw[I,H];rfl
 | cons f e j=>
  intro o ks c n hb Q;unfold IH at c;split at c
  .rename_i l m;split at c
   .rename_i hc;obtain⟨C,rfl,g⟩:=hc
    cases hr:IH P (flat P k) e (f.offset+(w l)) with
    | none=>rw[hr]at c;cases c
    | some i=>
     rw[hr]at c;simp only[Z,Option.some.injEq]at c;subst c;let⟨v,u⟩:=SM n;let⟨s,q⟩:=SM hb;rw[M]at u q;rw[aa,Zk,if_pos C,Zk,Km m g v,Zk,Km m g s,Zk,z f.type l _ _ m v s];have p:=Ei (w l) (a:=a.drop f.offset) (b:=b.drop f.offset) (by simp[N]);rw[M,M]at p;rw[p]
     cases V:leq ((a.drop f.offset).take (w l)) ((b.drop f.offset).take (w l)) with
     | true=>
      simp only[ao,S,if_false,ZS,aq];exact j (f.offset+(w l)) i hr u q
     | false=>
      simp only[ak,if_true,ZS,al,S,if_false]
   .cases c
  .cases c
theorem vm{k:Nat}{d e:Nat}{l:List (Option IntKind)}{a b:List A}(v:∀(t:G) (ks:List (Option IntKind)) (a b:List A),flat P k t=B ks->XC ks a=true->XC ks b=true->∀{Q:Bool->Hp->Prop},hw P (Op.equalIn d t (valOf P t a) (valOf P t b)) Q h=Q (leq a b) h)(g:flat P k e=B l)(c:tn P e=B (w l))(H:(w a)=(w b)):∀(n s:Nat),XC (rep n l) (a.drop (s*(w l)))=true->XC (rep n l) (b.drop (s*(w l)))=true->∀{Q:Option Bool × Unit->Hp->Prop},
  hw P (forIn (List.range' s n) ((O,()):Option Bool × Unit) fun (i:Nat) (_:Option Bool × Unit)=>do
    let x <-part e (E a) (i*(w l))
    let y <-part e (E b) (i*(w l))
    let r <-Op.equalIn d e x y
    if (!r)=true then pure (ForInStep.done (B false,())) else pure (ForInStep.yield (O,()))) Q h =
   Q (if leq (a.drop (s*(w l))) (b.drop (s*(w l)))=true then (O,()) else (B false,())) h:=by
 intro n
 induction n with
 | zero=>
  intro s j hb Q;have C:=L (YR j);have z:=L (YR hb);rw[C,z];rfl
 | succ n f=>
  intro s j hb Q;let⟨u,q⟩:=SM j;let⟨p,o⟩:=SM hb;have es:s*(w l)+(w l)=(s+1)*(w l):=by rw[X,Nat.one_mul]
  rw[M,es]at q o;rw[List.range'_succ,aa,Zk,Zk,Km g c u,Zk,Km g c p,Zk,v e l _ _ g u p];have m:=Ei (w l) (a:=a.drop (s*(w l))) (b:=b.drop (s*(w l))) (by simp[H]);rw[M,M,es]at m;rw[m]
  cases I:leq ((a.drop (s*(w l))).take (w l)) ((b.drop (s*(w l))).take (w l)) with
  | true=>
   simp only[ao,S,if_false,ZS,aq];exact f (s+1) q o
  | false=>
   simp only[ak,if_true,ZS,al,S,if_false]
theorem HL:∀(k:Nat) (t:G) (ks:List (Option IntKind)) (a b:List A) (d:Nat),k<=d->flat P k t=B ks->XC ks a=true->XC ks b=true->∀{Q:Bool->Hp->Prop},
  hw P (Op.equalIn d t (valOf P t a) (valOf P t b)) Q h=Q (leq a b) h:=by
 intro k
 induction k with
 | zero=>intro t ks a b d _ c;simp[flat]at c
 | succ k u=>
  intro t ks a b d H c g hb Q;obtain⟨d,rfl⟩:∃e,d=e+1:=⟨d-1,uh⟩
  unfold flat at c;split at c
  .rename_i i f;simp only[Option.some.injEq]at c;subst c;have j:ta P t=B false:=by simp[ta,f]
   obtain⟨n,rfl⟩:∃n,a=[.int i n]:=by
    cases a with
    | nil=>simp[XC]at g
    | cons x l=>
     cases l with
     | cons y l=>simp[XC]at g
     | nil=>cases x<;>simp[XC,WO]at g<;>subst g<;>exact⟨_,rfl⟩
   obtain⟨m,rfl⟩:∃n,b=[.int i n]:=by
    cases b with
    | nil=>simp[XC]at hb
    | cons x l=>
     cases l with
     | cons y l=>simp[XC]at hb
     | nil=>cases x<;>simp[XC,WO]at hb<;>subst hb<;>exact⟨_,rfl⟩
   simp only[valOf,j,ae,Op.equalIn];rw[Zk,ZL f];simp[ZS,leq,ceq]
  .rename_i f;simp only[Option.some.injEq]at c;subst c;have j:ta P t=B false:=by simp[ta,f]
   obtain⟨n,rfl⟩:∃n,a=[J n]:=by
    cases a with
    | nil=>simp[XC]at g
    | cons x l=>
     cases l with
     | cons y l=>simp[XC]at g
     | nil=>cases x<;>simp[XC,WO]at g<;>exact⟨_,rfl⟩
   obtain⟨m,rfl⟩:∃n,b=[J n]:=by
    cases b with
    | nil=>simp[XC]at hb
    | cons x l=>
     cases l with
     | cons y l=>simp[XC]at hb
     | nil=>cases x<;>simp[XC,WO]at hb<;>exact⟨_,rfl⟩
   simp only[valOf,j,ae,Op.equalIn];rw[Zk,ZL f];simp[ZS,leq,ceq]
  .rename_i C f;split at c
   .cases c
   .rename_i v;have j:ta P t=B true:=by simp[ta,f]
    simp only[valOf,j,Op.equalIn];rw[Zk,ZL f];simp only;rw[Zk];show hw P (if P.stoodInHeld t=true then _ else _) Q h=_;rw[if_neg v];have s:(w a)=(w b):=by rw[YR g,YR hb]
    rw[Zk,<-Array.forIn_toList,lF (k:=k) (d:=d) (fun t ks a b r q p=>u t ks a b d uh r q p) s C.toList 0 ks c zK zK];simp only[am]
    cases leq a b<;>rfl
  .rename_i n e f;split at c
   .rename_i l z;split at c
    .rename_i o;simp only[Option.some.injEq]at c;subst c;have j:ta P t=B true:=by simp[ta,f]
     have s:(w a)=(w b):=by rw[YR g,YR hb]
     simp only[valOf,j,Op.equalIn];rw[Zk,ZL f];simp only;rw[Zk,run_sizeOf o,Zk,Std.Legacy.Range.forIn_eq_forIn_range'];simp only[Std.Legacy.Range.size,Nat.sub_zero,Nat.add_sub_cancel,Nat.div_one];rw[vm (k:=k) (d:=d) (h:=h) (fun t ks a b r q p=>u t ks a b d uh r q p) z o s n 0 zK zK];simp only[Nat.zero_mul,am]
     cases leq a b<;>rfl
    .cases c
   .cases c
  .cases c
def teg(P:R)(t:G):Bool:=P.eqGuardType P.depth t
def Za5(o:Option (List (Option IntKind)))(a:List A):Bool:=match o with|some ks=>XC ks a|none=>false
@[go_sem] theorem Zmy{a:List A}:Za5 (B ks) a=XC ks a:=rfl
variable {K:A->Hp->Prop}
theorem By{c:BinOp}{x y:Operand}{a b:Array A}(d:teg P t=false){Q:Unit->Hp->Prop}:hw P (eqGuard c t x y (D a) (D b)) Q h=Q () h:=by
 unfold teg at d;have e:hw P (do
   if !(<-program).eqGuardType (<-program).depth t then return
   if <-Op.eqGuardIn Op.maxDepth t (D a) (D b) then unsupported (.noEntry "binop/eql: two nil values of an interface type with methods, in a part of a struct or an array")) Q h=Q () h:=by
  rw[Zk];show hw P (_ >>= _) _ h=_;rw[Zk];show hw P (if (!P.eqGuardType P.depth t)=true then _ else _) _ h=_;rw[d];rfl
 unfold eqGuard
 cases c<;>first|rfl|exact e
@[go_sem] theorem Zmz{x y:Operand}{a b:List A}(f:teg P t=false)(e:ta P t=B true)(c:Za5 (flat P 6 t) a=true)(hb:Za5 (flat P 6 t) b=true):
  Ji P .eql t x y (D (E a)) (D (E b)) K h=K (J (leq a b)) h:=by
 cases d:flat P 6 t with
 | none=>rw[d]at c;cases c
 | some ks=>
  rw[d]at c hb;unfold Ji;rw[Zk,By f];have:=HL (h:=h) 6 t ks a b 10000 uh d c hb (Q:=fun r h=>K (J r) h);simp only[valOf,e]at this;show hw P (Op.equalIn 10000 t (D (E a)) (D (E b)) >>= _) K h=_;rw[Zk];exact this
@[go_sem] theorem ZmA{x y:Operand}{a b:List A}(f:teg P t=false)(e:ta P t=B true)(c:Za5 (flat P 6 t) a=true)(hb:Za5 (flat P 6 t) b=true):
  Ji P .neq t x y (D (E a)) (D (E b)) K h=K (J (!(leq a b))) h:=by
 cases d:flat P 6 t with
 | none=>rw[d]at c;cases c
 | some ks=>
  rw[d]at c hb;unfold Ji;rw[Zk,By f];have:=HL (h:=h) 6 t ks a b 10000 uh d c hb (Q:=fun r h=>K (J (!r)) h);simp only[valOf,e]at this;show hw P (Op.equalIn 10000 t (D (E a)) (D (E b)) >>= _) K h=_;rw[Zk];exact this
end
@[go_sem] theorem ZnL:XC [] []=true:=rfl
@[go_sem] theorem ZnM{i j:IntKind}{n:Int}{vs:List A}:XC (B i :: ks) (.int j n :: vs)=(i == j&&XC ks vs):=rfl
@[go_sem] theorem Zf1:leq [] []=true:=rfl
@[go_sem] theorem Zf2{i j:IntKind}{a b:Int}{l k:List A}:leq (.int i a :: l) (.int j b :: k)=(decide (a=b)&&leq l k):=rfl
section
variable {P:R} {T:World} {F:Env} {h:Hp}
@[go_sem] theorem Zf3{ops l:List Oper}{N:Env->Hp->Prop}{d:Option Tmp}{a:Op}{ty:G}{b:Bool}:kj P T ops N l F d a ty undef b h=Kg P T ops N l (Y5 F d undef) h:=rfl
end
@[go_sem] theorem ZnN{α:Type}(l:List α)(n i:Nat):nth (l.take n) i=if i<n then nth l i else O:=by
 rw[X2,X2,List.getElem?_take]
@[go_sem] theorem ZnO{α:Type}(l:List α)(n i:Nat):nth (l.drop n) i=nth l (n+i):=by
 rw[X2,X2,List.getElem?_drop]
def II(P:R)(g:G->Option (List G)):List Field->Nat->Option (List G)
 | [],_=>B []
 | f :: fs,o=>match g f.type with
  | some l=>if f.offset=o/\P.cellsOf f.type=(w l) then (II P g fs (o+(w l))).map (l ++ ·) else O
  | none=>O
def leaf(P:R):Nat->G->Option (List G)
 | 0,_=>O
 | k+1,t=>match P.underlying t with
  | some (.struct a)=>match II P (leaf P k) a.toList 0 with
   | some l=>if P.cellsOf t=(w l) then B l else O
   | none=>O
  | some (.array n e)=>match leaf P k e with
   | some l=>if P.cellsOf e=(w l)/\P.cellsOf t=n*(w l) then B (rep n l) else O
   | none=>O
  | _=>B [t]
def Fa(P:R)(h:Hp):List G->List A->Prop
 | [],[]=>True
 | t :: ts,c :: cs=>(∃k,fit P h k t [c])/\Fa P h ts cs
 | _,_=>False
theorem Nc:∀{ts a:List G} {cs b:List A},Fa P h ts cs->Fa P h a b->Fa P h (ts++a) (cs++b)
 | [],a,[],b,_,h2=>h2
 | t :: ts,a,c :: cs,b,h1,h2=>⟨h1.1,Nc h1.2 h2⟩
 | [],a,c :: cs,b,h1,_=>h1.elim
 | t :: ts,a,[],b,h1,_=>h1.elim
theorem Za6:∀(j k:Nat) (t:G) (cs:List A) (l:List G),leaf P j t=B l->(w cs)=(w l)->fit P h k t cs->Fa P h l cs:=by
 intro j
 induction j with
 | zero=>intro k t cs l a;simp[leaf]at a
 | succ j ih=>
  intro k t cs l a hlen u;unfold leaf at a;split at a
  .rename_i H q;split at a
   .rename_i l' d;split at a
    .rename_i hc;simp only[Option.some.injEq]at a;subst a;let⟨C,v⟩:=lD q u;have key:∀(b:List Field) (o:Nat) (l:List G),II P (leaf P j) b o=B l->(∀f∈b,∃k,fit P h k f.type ((cs.drop f.offset).take (P.cellsOf f.type)))->(cs.drop o).length=(w l)->Fa P h l (cs.drop o):=by
      intro b
      induction b with
      | nil=>
       grind [II,Fa]
      | cons f b y=>
       intro o l a I hlen;unfold II at a;split at a
       .rename_i p z;split at a
        .rename_i g;obtain⟨rfl,g⟩:=g
         cases hr:II P (leaf P j) b (f.offset+(w p)) with
         | none=>grind
         | some V=>
          rw[hr]at a;simp only[Z,Option.some.injEq]at a;subst a;simp only[List.length_append]at hlen;have e:cs.drop f.offset=(cs.drop f.offset).take (w p)++cs.drop (f.offset+(w p)):=by
           rw[<-M,U]
          let⟨k',N⟩:=I f zX
          grind [Nc]
        .cases a
       .cases a
     have:=key H.toList 0 l' d (fun f r=>by
      let⟨i,hi,Q⟩:=List.mem_iff_getElem.1 r;exact v i f zK) zK
     grind
    .cases a
   .cases a
  .rename_i n e q;split at a
   .rename_i l' d;split at a
    .rename_i hc;let⟨TZ,ax⟩:=hc;simp only[Option.some.injEq]at a;subst a;let⟨C,v⟩:=vg q u;have key:∀(m s:Nat),s+m=n->(cs.drop (s*(w l'))).length=m*(w l')->Fa P h (rep m l') (cs.drop (s*(w l'))):=by
      intro m
      induction m with
      | zero=>
       grind [Fa,rep]
      | succ m x=>
       intro s hs hlen;have es:s*(w l')+(w l')=(s+1)*(w l'):=by rw[X,Nat.one_mul]
       have ee:cs.drop (s*(w l'))=(cs.drop (s*(w l'))).take (w l')++cs.drop ((s+1)*(w l')):=by
        rw[<-es,<-M,U]
       let⟨k',N⟩:=v s uh
       grind [rep,Nc]
     have:=key n 0 uh zK
     grind
    .cases a
   .cases a
  .simp only[Option.some.injEq]at a;subst a
   match cs,hlen with
   | [c],_=>exact⟨⟨k,u⟩,trivial⟩
def ci(cs:List A)(i:Nat):Int:=match nth cs i with|some (.int _ n)=>n|_=>0
def cb(cs:List A)(i:Nat):Bool:=match nth cs i with|some (J b)=>b|_=>false
def ZBC(P:R)(ts:List G)(a n:Nat):Bool:=(List.range n).all fun j=>match nth ts (a+j) with|some t=>(match P.underlying t with|some .bool=>true|_=>false)|none=>false
theorem take_one{l:List A}{i:Nat}{x:A}(h:nth l i=B x):(l.drop i).take 1=[x]:=by
 grind [X2,List.take_one,List.head?_drop]
theorem eI{l:List A}{i:Nat}{x y:A}(h:nth l i=B x)(a:nth l (i+1)=B y):(l.drop i).take 2=[x,y]:=by
 have c:=take_one h;have b:=take_one a;have:(l.drop i).take (1+1)=(l.drop i).take 1++((l.drop i).drop 1).take 1:=by rw[List.take_add]
 rw[this,M,c,b];rfl
theorem Zm.add{h':Hp}(b:Zm h.size h h')(o:Obj):Zm h.size h (h'.push o):=b.trans (Zm.push b.size o)
theorem Ja{α:Type}{l:List α}{n:Nat}(h:(w l)=n):l.take n=l:=zK
theorem Nf{ts:List G}(d:P.underlying t=B (.int .i64))(b:Fa P h (t :: ts) cs):
  ∃n l,cs=.int .i64 n :: l /\ -9223372036854775808<=n/\n<=9223372036854775807/\Fa P h ts l:=by
 cases cs with
 | nil=>exact b.elim
 | cons c l=>
  let⟨⟨k,e⟩,hl⟩:=b;let⟨m,a,hw⟩:=qM d e;simp only[List.cons.injEq,and_true]at a;subst a;exact⟨m,l,rfl,(wf_i64 hw).1,(wf_i64 hw).2,hl⟩
theorem Za7(a:Fa P h [] cs):cs=[]:=by
 cases cs with
 | nil=>rfl
 | cons c l=>exact a.elim
end Go.V
