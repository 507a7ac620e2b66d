/- W20: append of zeros, and where its result lies; two slices of two types of elements. -/
import Derived.Test.YtkfhncfkagcamaaGreatDoorW19
namespace Go.V
set_option linter.unusedVariables false
set_option linter.unusedSimpArgs false
section
variable {P:Program} {T:World} {K:Value→Hp→Prop} {F:Env} {h:Hp} {ty:TypeId}
theorem HM {sT xT E B n m k bytes:Nat} {v:Value} {cs zs:List Value} {cb:Array Bool} (Uq:Jg P sT=some E) (Hx:P.underlying xT=some (.int .i64)) (hn:tn P E=some n) (hz:tz P E=some zs) (Cu:zs.length=n) (Is:n≠0) (Sc:tb P E=some bytes)
  (own:Qb B E n h v m cs) (hB:B≤h.size) (Xb:(Builtin.zeroCells zs.toArray k).toList.all Z8=true) (Ym:(m+k)*bytes≤140737488355328) (Hy:1≤bytes)
  (H:∀v' h',Qb B E n h' v' (m+k) (cs++(Builtin.zeroCells zs.toArray k).toList)→VB (ZN v) h h'→(∀p cap,v=.slice p m cap→cap<m+k→Zg h.size h h'∧∃c,v'=.slice (some ⟨h.size,0,none⟩) (m+k) c)→K v' h'):Tn P T .append #[sT,xT] ty cb [v,.int .i64 (k:Nat)] K h:=by
 have nR:k*bytes≤140737488355328:=Nat.le_trans (Nat.mul_le_mul_right _ (by omega)) Ym
 have Zir:k≤140737488355328:=Nat.le_trans (by have:=Nat.mul_le_mul_left k Hy;omega) nR
 have UJ:(Builtin.zeroCells zs.toArray k).toList.length=k*n:=by rw[Array.length_toList,Yy];simp[Cu]
 obtain⟨news,FB⟩:=ZA ((Builtin.zeroCells zs.toArray k).toList)
 rw[←FB]at Xb UJ H
 unfold Jg at Uq
 split at Uq
 ·rename_i e' hu
  simp only[Option.some.injEq]at Uq
  subst Uq
  show hw P (do pure (.value (←Builtin.append_ #[sT,xT] ty #[v,.int .i64 (k:Nat)]))) (Xp P T K) h
  rw[Zf]
  show hw P (Builtin.append_ #[sT,xT] ty #[v,.int .i64 (k:Nat)]) K h
  obtain⟨i0,Th⟩:∃i,P.info? e'=some i:=by
   unfold tn at hn
   cases hi:P.info? e' with
   | none=>rw[hi]at hn;cases hn
   | some i=>exact⟨i,rfl⟩
  have S9:i0.bytes=bytes:=by unfold tb at Sc;rw[Th]at Sc;simpa using Sc
  obtain⟨z0,GR,Cv⟩:∃z,i0.zero=some z∧z.cells.toList=zs:=by
   unfold tz at hz;rw[Th]at hz
   cases Mn:i0.zero with
   | none=>rw[Option.bind_some,Mn]at hz;cases hz
   | some z=>rw[Option.bind_some,Mn]at hz;exact⟨z,rfl,by simpa using hz⟩
  have wo:z0.cells=zs.toArray:=by rw[←Cv]
  have oQ:∃base cap,v=.slice base m cap:=by
   rcases own with⟨⟨p,rfl⟩,rfl,_⟩|⟨b,cap,sp,_,rfl,_⟩
   ·exact⟨_,_,rfl⟩
   ·exact⟨_,_,rfl⟩
  obtain⟨base,cap,hv⟩:=oQ
  subst hv
  have cW:∀{Q:Value→Hp→Prop} (g:Hp),hw P (zeroValue e') Q g=Q z0 g:=fun {Q} g=>by
   unfold zeroValue;rw[Zf,Y0 Th];simp only[GR];rfl
  have jJ:IntKind.i64.wrap ((k:Nat):Int)=(k:Nat):=Vb .i64 k (by show k<2 ^ 63;omega)
  have Ra:∀{Q:Int→Hp→Prop} (g:Hp),hw P (asInt (.int .i64 (k:Nat))) Q g=Q (k:Nat) g:=fun {Q} g=>by
   rfl
  have wq:¬((k:Nat):Int)<0:=by omega
  have h48:¬((k:Nat):Int)*(i0.bytes:Nat)>2 ^ 48:=by
   rw[S9,←Int.natCast_mul]
   have:k*bytes≤2 ^ 48:=by omega
   have h2:((k*bytes:Nat):Int)≤2 ^ 48:=by exact_mod_cast this
   omega
  simp only[Builtin.append_,List.getElem?_toArray,List.getElem?_cons_zero,List.getElem?_cons_succ,Zf,Zu,Zt hu,Zt Hx,run_sizeOf hn,if_true,Ra,jJ,if_neg wq,Y0 Th,if_neg h48,Int.toNat_natCast,Bool.not_true,Bool.false_eq_true,if_false]
  have jK:∀{Q:Array Value→Hp→Prop} (g:Hp),Q news.toArray g→hw P (if k*n=0 then pure #[] else do pure (Builtin.zeroCells (←zeroValue e').cells k)) Q g:=fun {Q} g q=>by
   by_cases h0:k*n=0
   ·rw[if_pos h0]
    have:k=0:=by
     rcases Nat.mul_eq_zero.1 h0 with h|h
     ·exact h
     ·exact (Is h).elim
    subst this
    have e:news=[]:=List.eq_nil_of_length_eq_zero (by rw[UJ];omega)
    rw[e]at q
    exact q
   ·rw[if_neg h0,Zf,cW,wo]
    rw[FB,Array.toArray_toList]at q
    exact q
  by_cases JO:m+k≤cap
  ·rw[if_pos JO,Zf]
   refine jK _ ?_
   by_cases Ys:news=[]
   ·rw[Ys]
    rw[Ys]at UJ H
    have hK:K (.slice base (m+k) cap) h:=by
     refine H _ _ ?_ VB.refl (fun p' MX e hc=>by simp only[Value.slice.injEq]at e;omega)
     rcases own with⟨⟨p,h1⟩,h2,h3⟩|⟨b,MX,spare,Mp,h1,hb,hl,SL,gK⟩
     ·simp only[Value.slice.injEq]at h1
      obtain⟨rfl,rfl,rfl⟩:=h1
      have hk:k=0:=by omega
      subst hk;subst h3
      exact .inl ⟨⟨_,rfl⟩,rfl,rfl⟩
     ·simp only[Value.slice.injEq]at h1
      obtain⟨rfl,_,rfl⟩:=h1
      have gL:k*n=0:=by simpa using UJ.symm
      refine .inr ⟨b,cap,spare,Mp,rfl,by simpa using hb,by rw[List.append_nil,hl,Nat.add_mul,gL];rfl,?_,JO⟩
      rw[SL,Nat.sub_mul,Nat.sub_mul,Nat.add_mul,gL,Nat.add_zero]
    cases base<;>exact hK
   rcases own with⟨⟨p,h1⟩,h2,h3⟩|⟨b,MX,spare,Mp,h1,hb,hl,SL,gK⟩
   ·simp only[Value.slice.injEq]at h1
    obtain⟨rfl,rfl,rfl⟩:=h1
    have hk:k=0:=by omega
    subst hk
    exact (Ys (List.eq_nil_of_length_eq_zero (by simpa using UJ))).elim
   ·simp only[Value.slice.injEq]at h1
    obtain⟨rfl,_,rfl⟩:=h1
    simp only[Zf,YQ]
    have VC:news.length≤spare.length:=by rw[UJ,SL];exact Nat.mul_le_mul_right _ (by omega)
    refine Yg (e:=e') (lo:=0) (hi:=0) rfl (Nat.le_refl _) news 0 h (cs++spare).toArray hb ?_ Xb ?_
    ·simp;rw[←hl];omega
    ·simp only[Zu,Nat.zero_add,Nat.add_zero]
     refine H _ _ (.inr ⟨b,cap,spare.drop news.length,Mp,rfl,?_,?_,?_,JO⟩) ⟨by simp,fun b' XZ hx=>?_⟩ (fun p' MX e hc=>by simp only[Value.slice.injEq]at e;omega)
     ·rw[Array.getElem?_setIfInBounds,if_pos rfl,if_pos (Za hb)]
      rw[←hl,UH,JZ _ _ VC,List.append_assoc]
     ·rw[List.length_append,hl,UJ,Nat.add_mul]
     ·rw[List.length_drop,SL,UJ,←Nat.sub_mul];congr 1;omega
     ·rw[Array.getElem?_setIfInBounds,if_neg]
      intro e;subst e
      have vM:cap≠0:=by
       intro h0;subst h0
       have:k=0:=by omega
       subst this
       exact Ys (List.eq_nil_of_length_eq_zero (by simpa using UJ))
      exact hx (by simp[ZN,vM])
  ·rw[if_neg JO]
   have Qk:¬Builtin.nextslicecap (m+k) cap*i0.bytes>2 ^ 48:=by
    rw[S9]
    have:=UI (m+k) cap bytes (by omega) Ym
    omega
   have Cw:¬i0.bytes=0:=by rw[S9];omega
   have ad:m+k≤140737488355328:=Nat.le_trans (by have:=Nat.mul_le_mul_left (m+k) Hy;omega) Ym
   have jL:¬((m+k:Nat):Int)>IntKind.i64.max:=by
    have:IntKind.i64.max=9223372036854775807:=rfl
    rw[this];omega
   simp only[Zf,Y0 Th,jL,false_and,if_false,if_neg Qk]
   intro t
   obtain⟨c,hc⟩:=ZA (Question.cut (Question.appendCap (m+k) cap e') t)
   have jy:m+k≤c:=by rw[hc];simp only[Question.cut];omega
   rw[←hc]
   have Ra:∀{Q:Unit→Hp→Prop} (b:Nat) (g:Hp),Q () g→hw P (askRoom b) Q g:=fun {Q} b g q=>by
    unfold askRoom;split<;>exact q
   refine Ra _ _ (Z3 own.sl (jK _ ?_))
   rw[cW]
   have jz:z0.cells.size=n:=by rw[←Cu,←Cv];simp
   refine H (.slice (some ⟨h.size,0,none⟩) (m+k) c) _ (.inr ⟨h.size,c,(Builtin.zeroCells z0.cells (c-(m+k))).toList,hB,rfl,?_,?_,?_,jy⟩) (VB.push _) (fun _ _ _ _=>⟨Zg.push (Nat.le_refl _) _,c,rfl⟩)
   ·rw[Array.getElem?_push_size]
    simp
   ·have X0:cs.length=m*n:=by obtain⟨_,_,_,hl,_⟩:=own.sl;exact hl
    rw[List.length_append,X0,UJ,Nat.add_mul]
   ·rw[Array.length_toList,Yy,jz]
 ·cases Uq
end
section
variable {h h':Hp}
theorem Qb.Sx {B:Nat} {E:TypeId} {n:Nat} {p:Option Addr} {k c:Nat} {cs:List Value} (s:Qb B E n h (.slice p k c) k cs) {m:Nat} (hm:m≤k):Qb B E n h (.slice p m c) m (cs.take (m*n)):=by
 rcases s with⟨⟨q,h1⟩,h2,h3⟩|⟨b,cap,spare,hB,h1,hg,hl,hs,hc⟩
 ·simp only[Value.slice.injEq]at h1
  obtain⟨rfl,rfl,rfl⟩:=h1
  have e:m=0:=by omega
  subst e
  subst h3
  exact .inl ⟨⟨_,rfl⟩,rfl,by simp⟩
 ·simp only[Value.slice.injEq]at h1
  obtain⟨rfl,_,rfl⟩:=h1
  have hmn:m*n≤k*n:=Nat.mul_le_mul_right _ hm
  have jy:k*n≤c*n:=Nat.mul_le_mul_right _ hc
  refine .inr ⟨b,c,cs.drop (m*n)++spare,hB,rfl,?_,?_,?_,by omega⟩
  ·rw[←List.append_assoc,List.take_append_drop];exact hg
  ·rw[List.length_take];omega
  ·rw[List.length_append,List.length_drop,hl,hs,Nat.sub_mul,Nat.sub_mul];omega
theorem UB {b:Nat} {E:TypeId} {n m c:Nat} {pre cs post:List Value} (hg:h[b]? = some (.cells (pre++(cs++post)).toArray E)) (hl:cs.length=m*n) {o:Nat} (ho:o=pre.length):Sl n h (.slice (some ⟨b,o,none⟩) m c) m cs:=by
 refine⟨_,c,rfl,hl,fun _=>⟨b,o,rfl,fun i hi=>?_⟩⟩
 subst ho
 rw[Va hg]
 simp only[List.getElem?_toArray]
 rw[List.getElem?_append_right (by omega),Nat.add_sub_cancel_left,List.getElem?_append_left hi,List.getElem?_eq_getElem hi]
theorem Wk {a b c vs:List Value} {o:Nat} (ho:o=a.length) (hv:vs.length=b.length):Yn (a++(b++c)) o vs=a++(vs++c):=by
 subst ho
 rw[UH,JZ _ _ (by rw[List.length_append];omega),hv,List.drop_append,List.drop_length,Nat.sub_self,List.drop_zero,List.nil_append]
theorem Qb.spare {B:Nat} {E:TypeId} {n:Nat} {p:Option Addr} {k c:Nat} {cs:List Value} (s:Qb B E n h (.slice p k c) k cs) (hk:c≠0):∃b spare,B≤b∧p=some ⟨b,0,none⟩∧h[b]? = some (.cells (cs++spare).toArray E)∧cs.length=k*n∧spare.length=(c-k)*n∧k≤c:=by
 rcases s with⟨⟨q,h1⟩,h2,h3⟩|⟨b,cap,spare,hB,h1,hg,hl,hs,hc⟩
 ·simp only[Value.slice.injEq]at h1
  exact (hk h1.2.2).elim
 ·simp only[Value.slice.injEq]at h1
  obtain⟨rfl,_,rfl⟩:=h1
  exact⟨b,spare,hB,rfl,hg,hl,hs,hc⟩
theorem Qb.CL {B b:Nat} {E:TypeId} {n k c:Nat} {cs spare:List Value} (hB:B≤b) (hg:h[b]? = some (.cells (cs++spare).toArray E)) (hl:cs.length=k*n) (hs:spare.length=(c-k)*n) (hc:k≤c):Qb B E n h (.slice (some ⟨b,0,none⟩) k c) k cs:=
 .inr ⟨b,c,spare,hB,rfl,hg,hl,hs,hc⟩
theorem Zv {b:Nat} {o o':Obj} (hb:h[b]? = some o'):(h.setIfInBounds b o)[b]? = some o:=by
 rw[Array.getElem?_setIfInBounds,if_pos rfl,if_pos (Za hb)]
theorem Yi {b b':Nat} {o:Obj} (hb:b≠b'):(h.setIfInBounds b o)[b']? = h[b']?:=by
 rw[Array.getElem?_setIfInBounds,if_neg hb]
variable {P:Program} {T:World} {K:Value→Hp→Prop} {ty:TypeId}
@[go_sem] theorem Zff {cs:Array Bool} {t:TypeId} {p:Option Addr} {l c:Nat} (ht:(Jg P t).isSome=true):Tn P T .cap #[t] ty cs [.slice p l c] K h=K (.int .i64 c) h:=by
 unfold Jg at ht
 split at ht
 ·rename_i e hu
  show hw P (do pure (.value (←Builtin.cap_ #[t] ty #[.slice p l c]))) (Xp P T K) h=_
  rw[Zf]
  show hw P (do
   match ←underlying t,(Value.slice p l c) with
   | .array n _,_=>pure (goInt n)
   | .pointer arr,_=>
    let .array n _ ←underlying arr|stuck "cap: pointer to array expected"
    pure (goInt n)
   | .slice _,.slice _ _ n=>pure (goInt n)
   | .chan _ _,.chan none=>pure (goInt 0)
   | .chan _ _,.chan (some r)=>
    let .chan n _ _ _ _ timer ←getObj r|stuck "cap: channel expected"
    pure (goInt (if timer then 0 else n))
   | _,_=>stuck "cap: array, pointer to array, slice or channel expected") K h=_
  rw[Zf,Zt hu];rfl
 ·cases ht
theorem di {dT sT E E' b o dl dc k n:Nat} {c news:List Value} {cb:Array Bool} {s:Value} (hd:Jg P dT=some E) (hn:tn P E=some n) (hb:h[b]? = some (.cells c.toArray E' (0,0)))
  (src:Sl n h s k news) (Xb:(news.take (min k dl*n)).all Z8=true) (Ym:o+min k dl*n≤c.length)
  (H:K (.int .i64 ((min k dl:Nat):Int)) (h.setIfInBounds b (.cells (Yn c o (news.take (min k dl*n))).toArray E' (0,0)))) :
  Tn P T .copy #[dT,sT] ty cb [.slice (some ⟨b,o,none⟩) dl dc,s] K h:=by
 unfold Jg at hd
 split at hd
 ·rename_i e' hu
  simp only[Option.some.injEq]at hd
  subst hd
  show hw P (do pure (.value (←Builtin.copy_ #[dT,sT] ty #[.slice (some ⟨b,o,none⟩) dl dc,s])) ) (Xp P T K) h
  rw[Zf]
  show hw P (Builtin.copy_ #[dT,sT] ty #[.slice (some ⟨b,o,none⟩) dl dc,s]) K h
  simp only[Builtin.copy_,List.getElem?_toArray,List.getElem?_cons_zero,List.getElem?_cons_succ,Zf,Zu,Zt hu,run_sizeOf hn,src.lenOf]
  have hlen:news.length=k*n:=by obtain⟨_,_,_,hl,_⟩:=src;simpa using hl
  obtain⟨p,cap,rfl,hl,hc⟩:=src
  have hm:Nat.min k dl=min k dl:=rfl
  rw[hm]
  obtain⟨m,hmm⟩:=ZA (min k dl)
  rw[←hmm]at Ym Xb H ⊢
  have ad:m≤k:=by omega
  have hmn:m*n≤k*n:=Nat.mul_le_mul_right _ ad
  rw[UM (k':=m) (c':=cap)]
  refine Z3 (Sl.ug ⟨p,cap,rfl,hl,hc⟩ ad cap) ?_
  refine Yg (a:=⟨b,o,none⟩) (e:=E') (lo:=0) (hi:=0) rfl (Nat.le_refl _) (news.take (m*n)) 0 h c.toArray hb ?_ ?_ ?_
  ·simp;omega
  ·exact Xb
  ·simp only[Zu,Nat.add_zero]
   exact H
 ·cases hd
theorem HN {f:FuncId} {fn:Func} {e:Array Value→Sem Value} (hf:P.funcs[f]? = some fn) (ZbV:(fn.name == "runtime.NumGoroutine")=false) (hb:fn.body.isNone=true) (hn:Extern.findNext fn=none) (he:Extern.find fn=some e)
  {l:List Value} (H:hw P (e l.toArray) K h):MK P T (.func (.func f) #[] #[]) l K h:=by
 have h1:fn.name ≠ "runtime.NumGoroutine" := by simpa using ZbV
 have h2:fn.body=none:=by simpa using hb
 have hg:¬goes P f=true:=by unfold goes;rw[hf];simp[h2]
 show if goes P f=true then Zc P T f (([]:List Value)++l++[]).toArray h K else hw P (callFunc f (([]:List Value)++l++[]).toArray) (Xp P T K) h
 rw[if_neg hg,List.nil_append,List.append_nil]
 unfold callFunc
 rw[Zf]
 simp only[program,hw,hf]
 rw[if_neg (by simpa using h1),if_pos (by rw[h2];rfl),Zf]
 simp only[mark,hw,hn,he]
 rw[Zf]
 exact H
end
theorem CM {P:Program} {L:List Char} {x:Bool × List Char} (h:P.initOrder=String.ofList L) (h2:(match wordsSigns L with|h :: s :: _=>if !isSumSigns s then none else if h == "harness".toList then some (true,s) else if h == "ownmain".toList then some (false,s) else none|_=>none)=some x):P.mainIs=some x:=by
 unfold Program.mainIs
 rw[h,String.toList_ofList];exact h2
end Go.V
