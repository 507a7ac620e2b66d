/- W1: what fits a type, opened: integers, bools, slices; element by element. -/
import Derived.Test.YtboeoomhjbcecaaGreatDoorV9
namespace Go.V
set_option linter.unusedVariables false
set_option linter.unusedSimpArgs false
theorem dn {P:Program} {h:Hp} {k:Nat} {t:TypeId} {cs:List Value} {i:IntKind} (ht:P.underlying t=some (.int i)) (hf:fit P h k t cs):∃n,cs=[.int i n]∧(Lit.int i n).wf=true:=by
 cases k with
 | zero=>exact hf.elim
 | succ k=>unfold fit at hf;rw[ht]at hf;exact hf
theorem Az {P:Program} {h:Hp} {k:Nat} {t:TypeId} {cs:List Value} {fs:Array Field} (ht:P.underlying t=some (.struct fs)) (hf:fit P h k t cs) :
  cs.length=P.cellsOf t∧∀(i:Nat) (f:Field),fs[i]? = some f→∃k,fit P h k f.type ((cs.drop f.offset).take (P.cellsOf f.type)):=by
 cases k with
 | zero=>exact hf.elim
 | succ k=>
  unfold fit at hf;rw[ht]at hf;exact⟨hf.1,fun i f hi=>⟨k,hf.2 f (by have:=Array.mem_of_getElem? hi;simpa using this)⟩⟩
theorem gQ {P:Program} {h:Hp} {k:Nat} {t e:TypeId} {n:Nat} {cs:List Value} (ht:P.underlying t=some (.array n e)) (hf:fit P h k t cs) :
  cs.length=P.cellsOf t∧∀i,i<n→∃k,fit P h k e ((cs.drop (i*P.cellsOf e)).take (P.cellsOf e)):=by
 cases k with
 | zero=>exact hf.elim
 | succ k=>
  unfold fit at hf;rw[ht]at hf;exact⟨hf.1,fun i hi=>⟨k,hf.2 i hi⟩⟩
def Zz {α:Type} (enc:α→List Value):List α→List Value
 | []=>[]
 | x :: l=>enc x++Zz enc l
theorem Yj {α:Type} (enc:α→List Value) (l k:List α):Zz enc (l++k)=Zz enc l++Zz enc k:=by
 induction l with
 | nil=>rfl
 | cons x l ih=>simp[Zz,ih]
theorem X6 {α:Type} {enc:α→List Value} {n:Nat} (Qw:∀x,(enc x).length=n) (l:List α):(Zz enc l).length=l.length*n:=by
 induction l with
 | nil=>simp[Zz]
 | cons x l ih=>simp[Zz,ih,Qw,Nat.add_mul,Nat.add_comm]
theorem Ur {α:Type} (f:α→Value) (l:List α):Zz (fun x=>[f x]) l=l.map f:=by
 induction l with
 | nil=>rfl
 | cons x l ih=>simp[Zz,ih]
theorem Kj {h:Hp} {b o:Nat} {cs ds:List Value} (h1:YY h b o cs) (h2:YY h b (o+cs.length) ds):YY h b o (cs++ds):=by
 intro i hi;by_cases ZD:i<cs.length
 ·rw[h1 i ZD];simp[ZD]
 ·have:=h2 (i-cs.length) (by simp at hi;omega);rw[show o+cs.length+(i-cs.length)=o+i by omega]at this;rw[this];simp[List.getElem_append,ZD]
theorem collect {α:Type} {h:Hp} {b o n:Nat} {enc:α→List Value} {ok:α→Prop} (Qw:∀x,(enc x).length=n):∀len,(∀i,i<len→∃x,ok x∧YY h b (o+i*n) (enc x)) →
  ∃l:List α,l.length=len∧YY h b o (Zz enc l)∧∀x∈l,ok x:=by
 intro len
 induction len with
 | zero=>intro _;exact⟨[],rfl,fun i hi=>by simp[Zz]at hi,fun x hx=>by cases hx⟩
 | succ len ih=>
  intro H;obtain⟨l,h1,h2,h3⟩:=ih (fun i hi=>H i (by omega));obtain⟨x,hx,hc⟩:=H len (by omega);refine⟨l++[x],by simp[h1],?_,fun y hy=>?_⟩
  ·rw[Yj];refine Kj h2 ?_;rw[X6 Qw,h1]
   simpa [Zz] using hc
  ·rcases List.mem_append.1 hy with hy|hy
   ·exact h3 y hy
   ·simp at hy;subst hy;exact hx
theorem gS {α:Type} {P:Program} {h:Hp} {k:Nat} {t e:TypeId} {v:Value} {n:Nat} {enc:α→List Value} {ok:α→Prop} (ht:P.underlying t=some (.slice e)) (hn:P.cellsOf e=n) (HS:n≠0) (Qw:∀x,(enc x).length=n)
  (each:∀k ds,fit P h k e ds→∃x,ok x∧ds=enc x) (hf:fit P h k t [v]) :
  ∃l:List α,Sl n h v l.length (Zz enc l)∧(∀x∈l,ok x)∧l.length*P.bytesOf e≤140737488355328:=by
 cases k with
 | zero=>exact hf.elim
 | succ k=>
  unfold fit at hf;rw[ht]at hf;obtain⟨p,len,cap,hv,hlc,QO,hel⟩:=hf;simp only[List.cons.injEq,and_true]at hv;subst hv;have ZaP:len*P.bytesOf e≤140737488355328:=Nat.le_trans (Nat.mul_le_mul_right _ hlc) (Nat.le_trans QO (by decide));by_cases hl:len=0
  ·subst hl;exact⟨[],⟨p,cap,rfl,by simp[Zz],fun h=>(h rfl).elim⟩,fun x hx=>by (cases hx),by simp⟩
  ·obtain⟨b,o,rfl,hb,Xk⟩:=hel hl (by omega);obtain⟨l,h1,h2,h3⟩:=collect (h:=h) (b:=b) (o:=o) (ok:=ok) Qw len (fun i hi=>by
    obtain⟨ds,hds,hc,hfe⟩:=Xk i hi;obtain⟨x,hx,rfl⟩:=each k ds hfe;exact⟨x,hx,by rw[←hn];exact hc⟩)
   exact⟨l,⟨_,cap,by rw[h1],X6 Qw l,fun _=>⟨b,o,rfl,h2⟩⟩,h3,by rw[h1];exact ZaP⟩
theorem wf_i64 {n:Int} (h:(Lit.int .i64 n).wf=true) : -9223372036854775808≤n∧n≤9223372036854775807:=by
 simp[Lit.wf,IntKind.min,IntKind.max,IntKind.signed,IntKind.bits]at h;omega
theorem fitAll_nil {P:Program} {h:Hp} {vs:List Value} (hf:fitAll P h [] vs):vs=[]:=by
 cases vs with
 | nil=>rfl
 | cons a l=>exact hf.elim
theorem fitAll_cons {P:Program} {h:Hp} {t:TypeId} {ts:List TypeId} {vs:List Value} (hf:fitAll P h (t :: ts) vs):∃v l,vs=v :: l∧(∃k,gL P h k t v)∧fitAll P h ts l:=by
 cases vs with
 | nil=>exact hf.elim
 | cons a l=>exact⟨a,l,rfl,hf.1,hf.2⟩
theorem EZ {P:Program} {h:Hp} {k:Nat} {t:TypeId} {v:Value} (ha:ta P t=some false) (hf:gL P h k t v):fit P h k t [v]:=by
 unfold gL at hf;rw[ha]at hf;exact hf
section
variable {P:Program} {T:World} {K:Value→Hp→Prop} {h:Hp}
end
def Nl (P:Program) (g:TypeId→Option (List (Option IntKind))):List Field→Nat→Option (List (Option IntKind))
 | [],_=>some []
 | f :: fs,o=>match g f.type with
  | some l=>if f.name ≠ "_" ∧ f.offset=o∧tn P f.type=some l.length then (Nl P g fs (o+l.length)).map (l ++ ·) else none
  | none=>none
def rep {α:Type}:Nat→List α→List α
 | 0,_=>[]
 | n+1,l=>l++rep n l
def flat (P:Program):Nat→TypeId→Option (List (Option IntKind))
 | 0,_=>none
 | k+1,t=>match P.underlying t with
  | some (.int i)=>some [some i]
  | some .bool=>some [none]
  | some (.struct fs)=>if P.stoodInHeld t=true then none else Nl P (flat P k) fs.toList 0
  | some (.array n e)=>match flat P k e with
   | some l=>if tn P e=some l.length then some (rep n l) else none
   | none=>none
  | _=>none
def UI:Option IntKind→Value→Bool
 | some i,.int j _=>i == j
 | none,.bool _=>true
 | _,_=>false
def YB:List (Option IntKind)→List Value→Bool
 | [],[]=>true
 | k :: ks,v :: vs=>UI k v&&YB ks vs
 | _,_=>false
def ceq:Value→Value→Bool
 | .int _ a,.int _ b=>a == b
 | .bool a,.bool b=>a == b
 | _,_=>false
def leq:List Value→List Value→Bool
 | [],[]=>true
 | a :: l,b :: k=>ceq a b&&leq l k
 | _,_=>false
theorem Z6 {ks:List (Option IntKind)}:∀{vs:List Value},YB ks vs=true→vs.length=ks.length:=by
 induction ks with
 | nil=>intro vs h;cases vs with
  | nil=>rfl
  | cons a l=>simp[YB]at h
 | cons k ks ih=>intro vs h;cases vs with
  | nil=>simp[YB]at h
  | cons a l=>simp only[YB,Bool.and_eq_true]at h;simp[ih h.2]
theorem WT {ks js:List (Option IntKind)}:∀{vs:List Value},YB (ks++js) vs=true→YB ks (vs.take ks.length)=true∧YB js (vs.drop ks.length)=true:=by
 induction ks with
 | nil=>intro vs h;exact⟨by simp[YB],by simpa using h⟩
 | cons k ks ih=>
  intro vs h
  cases vs with
  | nil=>simp[YB]at h
  | cons a l=>
   simp only[List.cons_append,YB,Bool.and_eq_true]at h;obtain⟨h1,h2⟩:=ih h.2;exact⟨by simp[YB,h.1,h1],by simpa using h2⟩
theorem Kk (n:Nat):∀{a b:List Value},a.length=b.length→leq a b=(leq (a.take n) (b.take n)&&leq (a.drop n) (b.drop n)):=by
 induction n with
 | zero=>intro a b h;simp[leq]
 | succ n ih=>
  intro a b h
  cases a with
  | nil=>cases b with
   | nil=>simp[leq]
   | cons y b=>simp at h
  | cons x a=>
   cases b with
   | nil=>simp at h
   | cons y b=>simp only[List.take_succ_cons,List.drop_succ_cons,leq];rw[ih (by simpa using h),Bool.and_assoc]
section
variable {P:Program} {h:Hp}
def valOf (P:Program) (t:TypeId) (cs:List Value):Value:=
 match ta P t with
 | some true=>.agg cs.toArray
 | _=>cs.headD undef
theorem Og {t:TypeId} {ks:List (Option IntKind)} {cs:List Value} {o:Nat} {k:Nat} (hk:flat P k t=some ks) (hn:tn P t=some ks.length) (hc:YB ks ((cs.drop o).take ks.length)=true) {Q:Value→Hp→Prop} :
  hw P (part t cs.toArray o) Q h=Q (valOf P t ((cs.drop o).take ks.length)) h:=by
 unfold part valOf;rw[Zg]
 cases k with
 | zero=>simp[flat]at hk
 | succ k=>
  have e:(cs.toArray.extract o (o+ks.length))=((cs.drop o).take ks.length).toArray:=by
   apply Array.toList_inj.1;simp[List.extract_eq_take_drop]
  unfold flat at hk;have one:∀{kd:Option IntKind},ks=[kd]→ta P t=some false→hw P (isAgg t) (fun a h'=>hw P (if a=true then do pure (.agg (cs.toArray.extract o (o+(←sizeOf t)))) else match cs.toArray[o]? with|some v=>pure v|none=>stuck "part: no such cell") Q h') h=Q (match ta P t with|some true=>.agg ((cs.drop o).take ks.length).toArray|_=>((cs.drop o).take ks.length).headD undef) h:=by
   intro kd hks Bt;subst hks;rw[U0 Bt,if_neg (by simp),Bt];have hl:=Z6 hc;simp only[List.length_cons,List.length_nil,List.length_take,List.length_drop]at hl;have ZD:o<cs.length:=by omega
   have e2:cs.toArray[o]? = some cs[o]:=by simp[ZD]
   have e3:((cs.drop o).take 1).headD undef=cs[o]:=by
    rw[List.headD_eq_head?_getD,List.head?_take];simp[ZD]
   simp only[e2];show Q _ h=Q _ h;simp only[List.length_cons,List.length_nil,Nat.zero_add,e3]
  have agg:ta P t=some true→hw P (isAgg t) (fun a h'=>hw P (if a=true then do pure (.agg (cs.toArray.extract o (o+(←sizeOf t)))) else match cs.toArray[o]? with|some v=>pure v|none=>stuck "part: no such cell") Q h') h=Q (match ta P t with|some true=>.agg ((cs.drop o).take ks.length).toArray|_=>((cs.drop o).take ks.length).headD undef) h:=by
   intro Bt;rw[U0 Bt,if_pos rfl,Zg,run_sizeOf hn,e,Bt];rfl
  split at hk
  ·rename_i hu;exact one (by simpa using hk.symm) (by simp[ta,hu])
  ·rename_i hu;exact one (by simpa using hk.symm) (by simp[ta,hu])
  ·rename_i hu;exact agg (by simp[ta,hu])
  ·rename_i hu;exact agg (by simp[ta,hu])
  ·cases hk
theorem AA {k:Nat} {d:Nat} {a b:List Value}
  (ih:∀(t:TypeId) (ks:List (Option IntKind)) (a b:List Value),flat P k t=some ks→YB ks a=true→YB ks b=true→∀{Q:Bool→Hp→Prop},hw P (Op.equalIn d t (valOf P t a) (valOf P t b)) Q h=Q (leq a b) h)
  (Ff:a.length=b.length):∀(fs:List Field) (o:Nat) (ks:List (Option IntKind)),Nl P (flat P k) fs o=some ks→YB ks (a.drop o)=true→YB ks (b.drop o)=true→∀{Q:Option Bool × Unit→Hp→Prop},
  hw P (forIn fs ((none,()):Option Bool × Unit) fun (f:Field) (_:Option Bool × Unit)=>
   if f.name ≠ "_" then do
    let x ←part f.type a.toArray f.offset
    let y ←part f.type b.toArray f.offset
    let r ←Op.equalIn d f.type x y
    if (!r)=true then pure (ForInStep.done (some false,())) else pure (ForInStep.yield (none,()))
   else pure (ForInStep.yield (none,()))) Q h=Q (if leq (a.drop o) (b.drop o)=true then (none,()) else (some false,())) h:=by
 intro fs
 induction fs with
 | nil=>
  intro o ks hk ha hb Q;simp only[Nl,Option.some.injEq]at hk;subst hk;have e1:=List.eq_nil_of_length_eq_zero (Z6 ha);have e2:=List.eq_nil_of_length_eq_zero (Z6 hb);rw[e1,e2];rfl
 | cons f fs ihf=>
  intro o ks hk ha hb Q;unfold Nl at hk;split at hk
  ·rename_i l hl;split at hk
   ·rename_i hc;obtain⟨hn,rfl,yZ⟩:=hc
    cases hr:Nl P (flat P k) fs (f.offset+l.length) with
    | none=>rw[hr]at hk;cases hk
    | some ks'=>
     rw[hr]at hk;simp only[Option.map_some,Option.some.injEq]at hk;subst hk;obtain⟨a1,a2⟩:=WT ha;obtain⟨b1,b2⟩:=WT hb;rw[List.drop_drop]at a2 b2;rw[List.forIn_cons,Zg,if_pos hn,Zg,Og hl yZ a1,Zg,Og hl yZ b1,Zg,ih f.type l _ _ hl a1 b1];have el:=Kk l.length (a:=a.drop f.offset) (b:=b.drop f.offset) (by simp[Ff]);rw[List.drop_drop,List.drop_drop]at el;rw[el]
     cases hx:leq ((a.drop f.offset).take l.length) ((b.drop f.offset).take l.length) with
     | true=>
      simp only[Bool.not_true,Bool.false_eq_true,if_false,Zw,Bool.true_and];exact ihf (f.offset+l.length) ks' hr a2 b2
     | false=>
      simp only[Bool.not_false,if_true,Zw,Bool.false_and,Bool.false_eq_true,if_false]
   ·cases hk
  ·cases hk
theorem gT {k:Nat} {d e:Nat} {l:List (Option IntKind)} {a b:List Value}
  (ih:∀(t:TypeId) (ks:List (Option IntKind)) (a b:List Value),flat P k t=some ks→YB ks a=true→YB ks b=true→∀{Q:Bool→Hp→Prop},hw P (Op.equalIn d t (valOf P t a) (valOf P t b)) Q h=Q (leq a b) h)
  (hl:flat P k e=some l) (yZ:tn P e=some l.length) (Ff:a.length=b.length):∀(n s:Nat),YB (rep n l) (a.drop (s*l.length))=true→YB (rep n l) (b.drop (s*l.length))=true→∀{Q:Option Bool × Unit→Hp→Prop},
  hw P (forIn (List.range' s n) ((none,()):Option Bool × Unit) fun (i:Nat) (_:Option Bool × Unit)=>do
    let x ←part e a.toArray (i*l.length)
    let y ←part e b.toArray (i*l.length)
    let r ←Op.equalIn d e x y
    if (!r)=true then pure (ForInStep.done (some false,())) else pure (ForInStep.yield (none,()))) Q h =
   Q (if leq (a.drop (s*l.length)) (b.drop (s*l.length))=true then (none,()) else (some false,())) h:=by
 intro n
 induction n with
 | zero=>
  intro s ha hb Q;have e1:=List.eq_nil_of_length_eq_zero (Z6 ha);have e2:=List.eq_nil_of_length_eq_zero (Z6 hb);rw[e1,e2];rfl
 | succ n ihn=>
  intro s ha hb Q;obtain⟨a1,a2⟩:=WT ha;obtain⟨b1,b2⟩:=WT hb;have es:s*l.length+l.length=(s+1)*l.length:=by rw[Nat.add_mul,Nat.one_mul]
  rw[List.drop_drop,es]at a2 b2;rw[List.range'_succ,List.forIn_cons,Zg,Zg,Og hl yZ a1,Zg,Og hl yZ b1,Zg,ih e l _ _ hl a1 b1];have el:=Kk l.length (a:=a.drop (s*l.length)) (b:=b.drop (s*l.length)) (by simp[Ff]);rw[List.drop_drop,List.drop_drop,es]at el;rw[el]
  cases hx:leq ((a.drop (s*l.length)).take l.length) ((b.drop (s*l.length)).take l.length) with
  | true=>
   simp only[Bool.not_true,Bool.false_eq_true,if_false,Zw,Bool.true_and];exact ihn (s+1) a2 b2
  | false=>
   simp only[Bool.not_false,if_true,Zw,Bool.false_and,Bool.false_eq_true,if_false]
theorem Mi:∀(k:Nat) (t:TypeId) (ks:List (Option IntKind)) (a b:List Value) (d:Nat),k≤d→flat P k t=some ks→YB ks a=true→YB ks b=true→∀{Q:Bool→Hp→Prop},
  hw P (Op.equalIn d t (valOf P t a) (valOf P t b)) Q h=Q (leq a b) h:=by
 intro k
 induction k with
 | zero=>intro t ks a b d _ hk;simp[flat]at hk
 | succ k ih=>
  intro t ks a b d hd hk ha hb Q;obtain⟨d,rfl⟩:∃e,d=e+1:=⟨d-1,by omega⟩
  unfold flat at hk;split at hk
  ·rename_i i hu;simp only[Option.some.injEq]at hk;subst hk;have Bt:ta P t=some false:=by simp[ta,hu]
   obtain⟨n,rfl⟩:∃n,a=[.int i n]:=by
    cases a with
    | nil=>simp[YB]at ha
    | cons x l=>
     cases l with
     | cons y l=>simp[YB]at ha
     | nil=>cases x<;>simp[YB,UI]at ha<;>subst ha<;>exact⟨_,rfl⟩
   obtain⟨m,rfl⟩:∃n,b=[.int i n]:=by
    cases b with
    | nil=>simp[YB]at hb
    | cons x l=>
     cases l with
     | cons y l=>simp[YB]at hb
     | nil=>cases x<;>simp[YB,UI]at hb<;>subst hb<;>exact⟨_,rfl⟩
   simp only[valOf,Bt,List.headD_cons,Op.equalIn];rw[Zg,Zu hu];simp[Zw,leq,ceq]
  ·rename_i hu;simp only[Option.some.injEq]at hk;subst hk;have Bt:ta P t=some false:=by simp[ta,hu]
   obtain⟨n,rfl⟩:∃n,a=[.bool n]:=by
    cases a with
    | nil=>simp[YB]at ha
    | cons x l=>
     cases l with
     | cons y l=>simp[YB]at ha
     | nil=>cases x<;>simp[YB,UI]at ha<;>exact⟨_,rfl⟩
   obtain⟨m,rfl⟩:∃n,b=[.bool n]:=by
    cases b with
    | nil=>simp[YB]at hb
    | cons x l=>
     cases l with
     | cons y l=>simp[YB]at hb
     | nil=>cases x<;>simp[YB,UI]at hb<;>exact⟨_,rfl⟩
   simp only[valOf,Bt,List.headD_cons,Op.equalIn];rw[Zg,Zu hu];simp[Zw,leq,ceq]
  ·rename_i fs hu;split at hk
   ·cases hk
   ·rename_i Bq;have Bt:ta P t=some true:=by simp[ta,hu]
    simp only[valOf,Bt,Op.equalIn];rw[Zg,Zu hu];simp only;rw[Zg];show hw P (if P.stoodInHeld t=true then _ else _) Q h=_;rw[if_neg Bq];have Ff:a.length=b.length:=by rw[Z6 ha,Z6 hb]
    rw[Zg,←Array.forIn_toList,AA (k:=k) (d:=d) (fun t ks a b h1 h2 h3=>ih t ks a b d (by omega) h1 h2 h3) Ff fs.toList 0 ks hk (by simpa using ha) (by simpa using hb)];simp only[List.drop_zero]
    cases leq a b<;>rfl
  ·rename_i n e hu;split at hk
   ·rename_i l hl;split at hk
    ·rename_i yZ;simp only[Option.some.injEq]at hk;subst hk;have Bt:ta P t=some true:=by simp[ta,hu]
     have Ff:a.length=b.length:=by rw[Z6 ha,Z6 hb]
     simp only[valOf,Bt,Op.equalIn];rw[Zg,Zu hu];simp only;rw[Zg,run_sizeOf yZ,Zg,Std.Legacy.Range.forIn_eq_forIn_range'];simp only[Std.Legacy.Range.size,Nat.sub_zero,Nat.add_sub_cancel,Nat.div_one];rw[gT (k:=k) (d:=d) (h:=h) (fun t ks a b h1 h2 h3=>ih t ks a b d (by omega) h1 h2 h3) hl yZ Ff n 0 (by simpa using ha) (by simpa using hb)];simp only[Nat.zero_mul,List.drop_zero]
     cases leq a b<;>rfl
    ·cases hk
   ·cases hk
  ·cases hk
def zc (P:Program) (t:TypeId):Bool:=P.eqGuardType P.depth t
def nt (o:Option (List (Option IntKind))) (a:List Value):Bool:=match o with|some ks=>YB ks a|none=>false
@[go_sem] theorem Zdi {ks:List (Option IntKind)} {a:List Value}:nt (some ks) a=YB ks a:=rfl
variable {K:Value→Hp→Prop}
theorem HT {op:BinOp} {t:TypeId} {x y:Operand} {a b:Array Value} (hg:zc P t=false) {Q:Unit→Hp→Prop}:hw P (eqGuard op t x y (.agg a) (.agg b)) Q h=Q () h:=by
 unfold zc at hg;have e:hw P (do
   if !(←program).eqGuardType (←program).depth t then return
   if ←Op.eqGuardIn Op.maxDepth t (.agg a) (.agg b) then unsupported (.noEntry "binop/eql: two nil values of an interface type with methods, in a part of a struct or an array")) Q h=Q () h:=by
  rw[Zg];show hw P (_ >>= _) _ h=_;rw[Zg];show hw P (if (!P.eqGuardType P.depth t)=true then _ else _) _ h=_;rw[hg];rfl
 unfold eqGuard
 cases op<;>first|rfl|exact e
@[go_sem] theorem Zdj {t:TypeId} {x y:Operand} {a b:List Value} (hg:zc P t=false) (ht:ta P t=some true) (ha:nt (flat P 6 t) a=true) (hb:nt (flat P 6 t) b=true) :
  Xa P .eql t x y (.agg a.toArray) (.agg b.toArray) K h=K (.bool (leq a b)) h:=by
 cases hk:flat P 6 t with
 | none=>rw[hk]at ha;cases ha
 | some ks=>
  rw[hk]at ha hb;unfold Xa;rw[Zg,HT hg];have:=Mi (h:=h) 6 t ks a b 10000 (by omega) hk ha hb (Q:=fun r h=>K (.bool r) h);simp only[valOf,ht]at this;show hw P (Op.equalIn 10000 t (.agg a.toArray) (.agg b.toArray) >>= _) K h=_;rw[Zg];exact this
@[go_sem] theorem Zdk {t:TypeId} {x y:Operand} {a b:List Value} (hg:zc P t=false) (ht:ta P t=some true) (ha:nt (flat P 6 t) a=true) (hb:nt (flat P 6 t) b=true) :
  Xa P .neq t x y (.agg a.toArray) (.agg b.toArray) K h=K (.bool (!(leq a b))) h:=by
 cases hk:flat P 6 t with
 | none=>rw[hk]at ha;cases ha
 | some ks=>
  rw[hk]at ha hb;unfold Xa;rw[Zg,HT hg];have:=Mi (h:=h) 6 t ks a b 10000 (by omega) hk ha hb (Q:=fun r h=>K (.bool (!r)) h);simp only[valOf,ht]at this;show hw P (Op.equalIn 10000 t (.agg a.toArray) (.agg b.toArray) >>= _) K h=_;rw[Zg];exact this
end
@[go_sem] theorem Zeo:YB [] []=true:=rfl
@[go_sem] theorem Zep {i j:IntKind} {n:Int} {ks:List (Option IntKind)} {vs:List Value}:YB (some i :: ks) (.int j n :: vs)=(i == j&&YB ks vs):=rfl
@[go_sem] theorem Zh2:leq [] []=true:=rfl
@[go_sem] theorem Zh3 {i j:IntKind} {a b:Int} {l k:List Value}:leq (.int i a :: l) (.int j b :: k)=(decide (a=b)&&leq l k):=rfl
section
variable {P:Program} {T:World} {F:Env} {h:Hp}
@[go_sem] theorem uT {ops l:List Oper} {N:Env→Hp→Prop} {d:Option Tmp} {op:Op} {ty:TypeId} {b:Bool}:BQ P T ops N l F d op ty undef b h=P9 P T ops N l (Z3 F d undef) h:=rfl
@[go_sem] theorem uU {ops l:List Oper} {N:Env→Hp→Prop} {d:Option Tmp} {op:Op} {ty:TypeId} {b:Bool}:BT P T ops N l F d op ty undef b h=Oa P T ops N l (Z3 F d undef) h:=rfl
end
@[go_sem] theorem Zeq {α:Type} (l:List α) (n i:Nat):nth (l.take n) i=if i<n then nth l i else none:=by
 rw[Yh,Yh,List.getElem?_take]
@[go_sem] theorem Zer {α:Type} (l:List α) (n i:Nat):nth (l.drop n) i=nth l (n+i):=by
 rw[Yh,Yh,List.getElem?_drop]
def Nm (P:Program) (g:TypeId→Option (List TypeId)):List Field→Nat→Option (List TypeId)
 | [],_=>some []
 | f :: fs,o=>match g f.type with
  | some l=>if f.offset=o∧P.cellsOf f.type=l.length then (Nm P g fs (o+l.length)).map (l ++ ·) else none
  | none=>none
def leaf (P:Program):Nat→TypeId→Option (List TypeId)
 | 0,_=>none
 | k+1,t=>match P.underlying t with
  | some (.struct fs)=>match Nm P (leaf P k) fs.toList 0 with
   | some l=>if P.cellsOf t=l.length then some l else none
   | none=>none
  | some (.array n e)=>match leaf P k e with
   | some l=>if P.cellsOf e=l.length∧P.cellsOf t=n*l.length then some (rep n l) else none
   | none=>none
  | _=>some [t]
def Ha (P:Program) (h:Hp):List TypeId→List Value→Prop
 | [],[]=>True
 | t :: ts,c :: cs=>(∃k,fit P h k t [c])∧Ha P h ts cs
 | _,_=>False
theorem Se {P:Program} {h:Hp}:∀{ts us:List TypeId} {cs ds:List Value},Ha P h ts cs→Ha P h us ds→Ha P h (ts++us) (cs++ds)
 | [],us,[],ds,_,h2=>h2
 | t :: ts,us,c :: cs,ds,h1,h2=>⟨h1.1,Se h1.2 h2⟩
 | [],us,c :: cs,ds,h1,_=>h1.elim
 | t :: ts,us,[],ds,h1,_=>h1.elim
theorem Kl {α:Type} (l:List α):∀n,(rep n l).length=n*l.length
 | 0=>by simp[rep]
 | n+1=>by simp[rep,Kl l n,Nat.add_mul,Nat.add_comm]
theorem nu {P:Program} {h:Hp}:∀(j k:Nat) (t:TypeId) (cs:List Value) (l:List TypeId),leaf P j t=some l→cs.length=l.length→fit P h k t cs→Ha P h l cs:=by
 intro j
 induction j with
 | zero=>intro k t cs l hl;simp[leaf]at hl
 | succ j ih=>
  intro k t cs l hl hlen hf;unfold leaf at hl;split at hl
  ·rename_i fs hu;split at hl
   ·rename_i l' Br;split at hl
    ·rename_i hc;simp only[Option.some.injEq]at hl;subst hl;obtain⟨h1,h2⟩:=Az hu hf;have key:∀(gs:List Field) (o:Nat) (l:List TypeId),Nm P (leaf P j) gs o=some l→(∀f∈gs,∃k,fit P h k f.type ((cs.drop f.offset).take (P.cellsOf f.type)))→(cs.drop o).length=l.length→Ha P h l (cs.drop o):=by
      intro gs
      induction gs with
      | nil=>
       intro o l hl _ hlen;simp only[Nm,Option.some.injEq]at hl;subst hl;rw[List.eq_nil_of_length_eq_zero hlen];trivial
      | cons f gs ihg=>
       intro o l hl Xk hlen;unfold Nm at hl;split at hl
       ·rename_i lf hlf;split at hl
        ·rename_i hcf;obtain⟨rfl,hcf⟩:=hcf
         cases hr:Nm P (leaf P j) gs (f.offset+lf.length) with
         | none=>rw[hr]at hl;cases hl
         | some lr=>
          rw[hr]at hl;simp only[Option.map_some,Option.some.injEq]at hl;subst hl;simp only[List.length_append]at hlen;have e:cs.drop f.offset=(cs.drop f.offset).take lf.length++cs.drop (f.offset+lf.length):=by
           rw[←List.drop_drop,List.take_append_drop]
          obtain⟨k',Oh⟩:=Xk f (by simp);rw[hcf]at Oh;rw[e];refine Se (ih k' f.type _ lf hlf ?_ Oh) (ihg _ lr hr (fun g hg=>Xk g (by simp[hg])) ?_)
          ·simp only[List.length_take];omega
          ·rw[←List.drop_drop,List.length_drop];omega
        ·cases hl
       ·cases hl
     have:=key fs.toList 0 l' Br (fun f hf'=>by
      obtain⟨i,hi,EE⟩:=List.mem_iff_getElem.1 hf';exact h2 i f (by rw[←Array.getElem?_toList,List.getElem?_eq_getElem hi,EE])) (by simpa using hlen)
     simpa using this
    ·cases hl
   ·cases hl
  ·rename_i n e hu;split at hl
   ·rename_i l' Br;split at hl
    ·rename_i hc;obtain⟨Us,HU⟩:=hc;simp only[Option.some.injEq]at hl;subst hl;obtain⟨h1,h2⟩:=gQ hu hf;have key:∀(m s:Nat),s+m=n→(cs.drop (s*l'.length)).length=m*l'.length→Ha P h (rep m l') (cs.drop (s*l'.length)):=by
      intro m
      induction m with
      | zero=>
       intro s _ hlen;have e0:cs.drop (s*l'.length)=[]:=List.eq_nil_of_length_eq_zero (by rw[hlen];simp);rw[e0];trivial
      | succ m ihm=>
       intro s hs hlen;have es:s*l'.length+l'.length=(s+1)*l'.length:=by rw[Nat.add_mul,Nat.one_mul]
       have ee:cs.drop (s*l'.length)=(cs.drop (s*l'.length)).take l'.length++cs.drop ((s+1)*l'.length):=by
        rw[←es,←List.drop_drop,List.take_append_drop]
       obtain⟨k',Oh⟩:=h2 s (by omega);rw[Us]at Oh;rw[ee];rw[Nat.add_mul,Nat.one_mul]at hlen;refine Se (ih k' e _ l' Br ?_ Oh) (ihm (s+1) (by omega) ?_)
       ·simp only[List.length_take];omega
       ·rw[←es,←List.drop_drop,List.length_drop];omega
     have:=key n 0 (by omega) (by rw[Nat.zero_mul,List.drop_zero,hlen,Kl])
     simpa using this
    ·cases hl
   ·cases hl
  ·simp only[Option.some.injEq]at hl;subst hl
   match cs,hlen with
   | [c],_=>exact⟨⟨k,hf⟩,trivial⟩
def ci (cs:List Value) (i:Nat):Int:=match nth cs i with|some (.int _ n)=>n|_=>0
def cb (cs:List Value) (i:Nat):Bool:=match nth cs i with|some (.bool b)=>b|_=>false
def Zen (P:Program) (ts:List TypeId) (a n:Nat):Bool:=(List.range n).all fun j=>match nth ts (a+j) with|some t=>(match P.underlying t with|some .bool=>true|_=>false)|none=>false
theorem take_one {l:List Value} {i:Nat} {x:Value} (h:nth l i=some x):(l.drop i).take 1=[x]:=by
 rw[Yh]at h;obtain⟨hi,rfl⟩:=List.getElem?_eq_some_iff.1 h;rw[List.take_one,List.head?_drop,h];rfl
theorem E6 {l:List Value} {i:Nat} {x y:Value} (h:nth l i=some x) (h2:nth l (i+1)=some y):(l.drop i).take 2=[x,y]:=by
 have e1:=take_one h;have e2:=take_one h2;have:(l.drop i).take (1+1)=(l.drop i).take 1++((l.drop i).drop 1).take 1:=by rw[List.take_add]
 rw[this,List.drop_drop,e1,e2];rfl
theorem Zf.add {h h':Hp} (b:Zf h.size h h') (o:Obj):Zf h.size h (h'.push o):=b.trans (Zf.push b.size o)
theorem YW {α:Type} {l:List α} {n:Nat} (h:l.length=n):l.take n=l:=by rw[←h,List.take_length]
theorem Sf {P:Program} {h:Hp} {t:TypeId} {ts:List TypeId} {cs:List Value} (ht:P.underlying t=some (.int .i64)) (hf:Ha P h (t :: ts) cs) :
  ∃n l,cs=.int .i64 n :: l ∧ -9223372036854775808≤n∧n≤9223372036854775807∧Ha P h ts l:=by
 cases cs with
 | nil=>exact hf.elim
 | cons c l=>
  obtain⟨⟨k,hk⟩,hl⟩:=hf;obtain⟨m,hm,hw⟩:=dn ht hk;simp only[List.cons.injEq,and_true]at hm;subst hm;exact⟨m,l,rfl,(wf_i64 hw).1,(wf_i64 hw).2,hl⟩
theorem nw {P:Program} {h:Hp} {cs:List Value} (hf:Ha P h [] cs):cs=[]:=by
 cases cs with
 | nil=>rfl
 | cons c l=>exact hf.elim
end Go.V
