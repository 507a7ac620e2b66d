/- W1: what fits a type, opened: integers, bools, slices; element by element. -/
import Derived.Test.YthlfaofofaphfaaDoorV9
namespace Go.V
set_option linter.unusedVariables false
set_option linter.unusedSimpArgs false
theorem VF {P:Program} {h:Hp} {k:Nat} {t:TypeId} {cs:List Value} {i:IntKind} (ht:P.underlying t=some (.int i)) (hf:fit P h k t cs):∃n,cs=[.int i n]∧(Lit.int i n).wf=true:=by
 cases k with
 | zero=>exact hf.elim
 | succ k=>unfold fit at hf;rw[ht]at hf;exact hf
theorem WZ {P:Program} {h:Hp} {k:Nat} {t:TypeId} {cs:List Value} {fs:Array Field} (ht:P.underlying t=some (.struct fs)) (hf:fit P h k t cs) :
  cs.length=P.cellsOf t∧∀(i:Nat) (f:Field),fs[i]? = some f→∃k,fit P h k f.type ((cs.drop f.offset).take (P.cellsOf f.type)):=by
 cases k with
 | zero=>exact hf.elim
 | succ k=>
  unfold fit at hf;rw[ht]at hf
  exact⟨hf.1,fun i f hi=>⟨k,hf.2 f (by have:=Array.mem_of_getElem? hi;simpa using this)⟩⟩
theorem Tx {P:Program} {h:Hp} {k:Nat} {t e:TypeId} {n:Nat} {cs:List Value} (ht:P.underlying t=some (.array n e)) (hf:fit P h k t cs) :
  cs.length=P.cellsOf t∧∀i,i<n→∃k,fit P h k e ((cs.drop (i*P.cellsOf e)).take (P.cellsOf e)):=by
 cases k with
 | zero=>exact hf.elim
 | succ k=>
  unfold fit at hf;rw[ht]at hf
  exact⟨hf.1,fun i hi=>⟨k,hf.2 i hi⟩⟩
def Z3 {α:Type} (enc:α→List Value):List α→List Value
 | []=>[]
 | x :: l=>enc x++Z3 enc l
theorem Jp {α:Type} (enc:α→List Value) (l k:List α):Z3 enc (l++k)=Z3 enc l++Z3 enc k:=by
 induction l with
 | nil=>rfl
 | cons x l ih=>simp[Z3,ih]
theorem Y2 {α:Type} {enc:α→List Value} {n:Nat} (YM:∀x,(enc x).length=n) (l:List α):(Z3 enc l).length=l.length*n:=by
 induction l with
 | nil=>simp[Z3]
 | cons x l ih=>simp[Z3,ih,YM,Nat.add_mul,Nat.add_comm]
theorem J4 {α:Type} (f:α→Value) (l:List α):Z3 (fun x=>[f x]) l=l.map f:=by
 induction l with
 | nil=>rfl
 | cons x l ih=>simp[Z3,ih]
theorem J5 {h:Hp} {b o:Nat} {cs ds:List Value} (h1:Zp h b o cs) (h2:Zp h b (o+cs.length) ds):Zp h b o (cs++ds):=by
 intro i hi
 by_cases Zs:i<cs.length
 ·rw[h1 i Zs];simp[Zs]
 ·have:=h2 (i-cs.length) (by simp at hi;omega)
  rw[show o+cs.length+(i-cs.length)=o+i by omega]at this
  rw[this];simp[List.getElem_append,Zs]
theorem collect {α:Type} {h:Hp} {b o n:Nat} {enc:α→List Value} {ok:α→Prop} (YM:∀x,(enc x).length=n):∀len,(∀i,i<len→∃x,ok x∧Zp h b (o+i*n) (enc x)) →
  ∃l:List α,l.length=len∧Zp h b o (Z3 enc l)∧∀x∈l,ok x:=by
 intro len
 induction len with
 | zero=>intro _;exact⟨[],rfl,fun i hi=>by simp[Z3]at hi,fun x hx=>by cases hx⟩
 | succ len ih=>
  intro H
  obtain⟨l,h1,h2,h3⟩:=ih (fun i hi=>H i (by omega))
  obtain⟨x,hx,hc⟩:=H len (by omega)
  refine⟨l++[x],by simp[h1],?_,fun y hy=>?_⟩
  ·rw[Jp]
   refine J5 h2 ?_
   rw[Y2 YM,h1]
   simpa [Z3] using hc
  ·rcases List.mem_append.1 hy with hy|hy
   ·exact h3 y hy
   ·simp at hy;subst hy;exact hx
theorem QM {α:Type} {P:Program} {h:Hp} {k:Nat} {t e:TypeId} {v:Value} {n:Nat} {enc:α→List Value} {ok:α→Prop} (ht:P.underlying t=some (.slice e)) (hn:P.cellsOf e=n) (Mm:n≠0) (YM:∀x,(enc x).length=n)
  (each:∀k ds,fit P h k e ds→∃x,ok x∧ds=enc x) (hf:fit P h k t [v]) :
  ∃l:List α,Sl n h v l.length (Z3 enc l)∧(∀x∈l,ok x)∧l.length*P.bytesOf e≤140737488355328:=by
 cases k with
 | zero=>exact hf.elim
 | succ k=>
  unfold fit at hf
  rw[ht]at hf
  obtain⟨p,len,cap,hv,Kg,Q4,M1⟩:=hf
  simp only[List.cons.injEq,and_true]at hv
  subst hv
  have PU:len*P.bytesOf e≤140737488355328:=Nat.le_trans (Nat.mul_le_mul_right _ Kg) (Nat.le_trans Q4 (by decide))
  by_cases hl:len=0
  ·subst hl
   exact⟨[],⟨p,cap,rfl,by simp[Z3],fun h=>(h rfl).elim⟩,fun x hx=>by (cases hx),by simp⟩
  ·obtain⟨b,o,rfl,hb,YF⟩:=M1 hl (by omega)
   obtain⟨l,h1,h2,h3⟩:=collect (h:=h) (b:=b) (o:=o) (ok:=ok) YM len (fun i hi=>by
    obtain⟨ds,Kk,hc,RU⟩:=YF i hi
    obtain⟨x,hx,rfl⟩:=each k ds RU
    exact⟨x,hx,by rw[←hn];exact hc⟩)
   exact⟨l,⟨_,cap,by rw[h1],Y2 YM l,fun _=>⟨b,o,rfl,h2⟩⟩,h3,by rw[h1];exact PU⟩
theorem wf_u8 {n:Int} (h:(Lit.int .u8 n).wf=true):∃x:Nat,x<256∧n=x:=by
 simp[Lit.wf,IntKind.min,IntKind.max,IntKind.signed,IntKind.bits]at h
 exact⟨n.toNat,by omega,by omega⟩
theorem wf_i64 {n:Int} (h:(Lit.int .i64 n).wf=true) : -9223372036854775808≤n∧n≤9223372036854775807:=by
 simp[Lit.wf,IntKind.min,IntKind.max,IntKind.signed,IntKind.bits]at h
 omega
theorem Ty {P:Program} {h:Hp} {k:Nat} {t e:TypeId} {v:Value} (ht:P.underlying t=some (.slice e)) (he:P.underlying e=some (.int .u8)) (hn:P.cellsOf e=1) (hb:P.bytesOf e=1) (hf:fit P h k t [v]) :
  ∃l,Bs h v l∧l.length≤140737488355328:=by
 obtain⟨l,h1,h2,h3⟩:=QM (α:=Nat) (enc:=fun x=>[bv x]) (ok:=fun x=>x<256) ht hn (by omega) (fun _=>rfl) (fun k ds RU=>by
  obtain⟨n,rfl,hw⟩:=VF he RU
  obtain⟨x,hx,rfl⟩:=wf_u8 hw
  exact⟨x,hx,rfl⟩) hf
 rw[J4]at h1
 exact⟨l,⟨h1,h2⟩,by rw[hb]at h3;omega⟩
theorem fitAll_nil {P:Program} {h:Hp} {vs:List Value} (hf:fitAll P h [] vs):vs=[]:=by
 cases vs with
 | nil=>rfl
 | cons a l=>exact hf.elim
theorem fitAll_cons {P:Program} {h:Hp} {t:TypeId} {ts:List TypeId} {vs:List Value} (hf:fitAll P h (t :: ts) vs):∃v l,vs=v :: l∧(∃k,Tq P h k t v)∧fitAll P h ts l:=by
 cases vs with
 | nil=>exact hf.elim
 | cons a l=>exact⟨a,l,rfl,hf.1,hf.2⟩
theorem SU {P:Program} {h:Hp} {k:Nat} {t:TypeId} {v:Value} (ha:ta P t=some false) (hf:Tq P h k t v):fit P h k t [v]:=by
 unfold Tq at hf;rw[ha]at hf;exact hf
section
variable {P:Program} {T:World} {K:Value→Hp→Prop} {h:Hp}
end
def rep {α:Type}:Nat→List α→List α
 | 0,_=>[]
 | n+1,l=>l++rep n l
def Ig:Value→Value→Bool
 | .int _ a,.int _ b=>a == b
 | .bool a,.bool b=>a == b
 | _,_=>false
def leq:List Value→List Value→Bool
 | [],[]=>true
 | a :: l,b :: k=>Ig a b&&leq l k
 | _,_=>false
section
variable {P:Program} {h:Hp}
variable {K:Value→Hp→Prop}
end
section
variable {P:Program} {T:World} {F:Env} {h:Hp}
@[go_sem] theorem RV {ops l:List Oper} {N:Env→Hp→Prop} {d:Option Tmp} {op:Op} {ty:TypeId} {b:Bool}:Ws P T ops N l F d op ty undef b h=XK P T ops N l (Zi F d undef) h:=rfl
end
def X8 (P:Program) (g:TypeId→Option (List TypeId)):List Field→Nat→Option (List TypeId)
 | [],_=>some []
 | f :: fs,o=>match g f.type with
  | some l=>if f.offset=o∧P.cellsOf f.type=l.length then (X8 P g fs (o+l.length)).map (l ++ ·) else none
  | none=>none
def leaf (P:Program):Nat→TypeId→Option (List TypeId)
 | 0,_=>none
 | k+1,t=>match P.underlying t with
  | some (.struct fs)=>match X8 P (leaf P k) fs.toList 0 with
   | some l=>if P.cellsOf t=l.length then some l else none
   | none=>none
  | some (.array n e)=>match leaf P k e with
   | some l=>if P.cellsOf e=l.length∧P.cellsOf t=n*l.length then some (rep n l) else none
   | none=>none
  | _=>some [t]
def Jy (P:Program) (h:Hp):List TypeId→List Value→Prop
 | [],[]=>True
 | t :: ts,c :: cs=>(∃k,fit P h k t [c])∧Jy P h ts cs
 | _,_=>False
theorem Y3 {P:Program} {h:Hp}:∀{ts us:List TypeId} {cs ds:List Value},Jy P h ts cs→Jy P h us ds→Jy P h (ts++us) (cs++ds)
 | [],us,[],ds,_,h2=>h2
 | t :: ts,us,c :: cs,ds,h1,h2=>⟨h1.1,Y3 h1.2 h2⟩
 | [],us,c :: cs,ds,h1,_=>h1.elim
 | t :: ts,us,[],ds,h1,_=>h1.elim
theorem J6 {α:Type} (l:List α):∀n,(rep n l).length=n*l.length
 | 0=>by simp[rep]
 | n+1=>by simp[rep,J6 l n,Nat.add_mul,Nat.add_comm]
theorem SV {P:Program} {h:Hp}:∀(j k:Nat) (t:TypeId) (cs:List Value) (l:List TypeId),leaf P j t=some l→cs.length=l.length→fit P h k t cs→Jy P h l cs:=by
 intro j
 induction j with
 | zero=>intro k t cs l hl;simp[leaf]at hl
 | succ j ih=>
  intro k t cs l hl hlen hf
  unfold leaf at hl
  split at hl
  ·rename_i fs hu
   split at hl
   ·rename_i l' Pd
    split at hl
    ·rename_i hc
     simp only[Option.some.injEq]at hl
     subst hl
     obtain⟨h1,h2⟩:=WZ hu hf
     have key:∀(gs:List Field) (o:Nat) (l:List TypeId),X8 P (leaf P j) gs o=some l→(∀f∈gs,∃k,fit P h k f.type ((cs.drop f.offset).take (P.cellsOf f.type)))→(cs.drop o).length=l.length→Jy P h l (cs.drop o):=by
      intro gs
      induction gs with
      | nil=>
       intro o l hl _ hlen
       simp only[X8,Option.some.injEq]at hl
       subst hl
       rw[List.eq_nil_of_length_eq_zero hlen]
       trivial
      | cons f gs Ih=>
       intro o l hl YF hlen
       unfold X8 at hl
       split at hl
       ·rename_i lf Ii
        split at hl
        ·rename_i M3
         obtain⟨rfl,M3⟩:=M3
         cases hr:X8 P (leaf P j) gs (f.offset+lf.length) with
         | none=>rw[hr]at hl;cases hl
         | some lr=>
          rw[hr]at hl
          simp only[Option.map_some,Option.some.injEq]at hl
          subst hl
          simp only[List.length_append]at hlen
          have e:cs.drop f.offset=(cs.drop f.offset).take lf.length++cs.drop (f.offset+lf.length):=by
           rw[←List.drop_drop,List.take_append_drop]
          obtain⟨k',PV⟩:=YF f (by simp)
          rw[M3]at PV
          rw[e]
          refine Y3 (ih k' f.type _ lf Ii ?_ PV) (Ih _ lr hr (fun g hg=>YF g (by simp[hg])) ?_)
          ·simp only[List.length_take];omega
          ·rw[←List.drop_drop,List.length_drop];omega
        ·cases hl
       ·cases hl
     have:=key fs.toList 0 l' Pd (fun f O3=>by
      obtain⟨i,hi,T0⟩:=List.mem_iff_getElem.1 O3
      exact h2 i f (by rw[←Array.getElem?_toList,List.getElem?_eq_getElem hi,T0])) (by simpa using hlen)
     simpa using this
    ·cases hl
   ·cases hl
  ·rename_i n e hu
   split at hl
   ·rename_i l' Pd
    split at hl
    ·rename_i hc
     obtain⟨OB,M4⟩:=hc
     simp only[Option.some.injEq]at hl
     subst hl
     obtain⟨h1,h2⟩:=Tx hu hf
     have key:∀(m s:Nat),s+m=n→(cs.drop (s*l'.length)).length=m*l'.length→Jy P h (rep m l') (cs.drop (s*l'.length)):=by
      intro m
      induction m with
      | zero=>
       intro s _ hlen
       have e0:cs.drop (s*l'.length)=[]:=List.eq_nil_of_length_eq_zero (by rw[hlen];simp)
       rw[e0]
       trivial
      | succ m Ij=>
       intro s hs hlen
       have es:s*l'.length+l'.length=(s+1)*l'.length:=by rw[Nat.add_mul,Nat.one_mul]
       have ee:cs.drop (s*l'.length)=(cs.drop (s*l'.length)).take l'.length++cs.drop ((s+1)*l'.length):=by
        rw[←es,←List.drop_drop,List.take_append_drop]
       obtain⟨k',PV⟩:=h2 s (by omega)
       rw[OB]at PV
       rw[ee]
       rw[Nat.add_mul,Nat.one_mul]at hlen
       refine Y3 (ih k' e _ l' Pd ?_ PV) (Ij (s+1) (by omega) ?_)
       ·simp only[List.length_take];omega
       ·rw[←es,←List.drop_drop,List.length_drop];omega
     have:=key n 0 (by omega) (by rw[Nat.zero_mul,List.drop_zero,hlen,J6])
     simpa using this
    ·cases hl
   ·cases hl
  ·simp only[Option.some.injEq]at hl
   subst hl
   match cs,hlen with
   | [c],_=>exact⟨⟨k,hf⟩,trivial⟩
def cb (cs:List Value) (i:Nat):Bool:=match nth cs i with|some (.bool b)=>b|_=>false
def O1 (P:Program) (ts:List TypeId) (a n:Nat):Bool:=(List.range n).all fun j=>match nth ts (a+j) with|some t=>(match P.underlying t with|some .bool=>true|_=>false)|none=>false
theorem Zg.add {h h':Hp} (b:Zg h.size h h') (o:Obj):Zg h.size h (h'.push o):=b.trans (Zg.push b.size o)
theorem XQ {P:Program} {h:Hp} {t:TypeId} {ts:List TypeId} {cs:List Value} (ht:P.underlying t=some (.int .i64)) (hf:Jy P h (t :: ts) cs) :
  ∃n l,cs=.int .i64 n :: l ∧ -9223372036854775808≤n∧n≤9223372036854775807∧Jy P h ts l:=by
 cases cs with
 | nil=>exact hf.elim
 | cons c l=>
  obtain⟨⟨k,hk⟩,hl⟩:=hf
  obtain⟨m,hm,hw⟩:=VF ht hk
  simp only[List.cons.injEq,and_true]at hm
  subst hm
  exact⟨m,l,rfl,(wf_i64 hw).1,(wf_i64 hw).2,hl⟩
theorem SW {P:Program} {h:Hp} {cs:List Value} (hf:Jy P h [] cs):cs=[]:=by
 cases cs with
 | nil=>rfl
 | cons c l=>exact hf.elim
theorem TA {P:Program} {h:Hp} {t:TypeId} {ts:List TypeId} {cs:List Value} (hf:Jy P h (t :: ts) cs):∃c l k,cs=c :: l∧fit P h k t [c]∧Jy P h ts l:=by
 cases cs with
 | nil=>exact hf.elim
 | cons c l=>exact⟨c,l,hf.1.choose,rfl,hf.1.choose_spec,hf.2⟩
end Go.V
