/- W20: append of zeros, and where its result lies; two slices of two types of elements. -/
import Derived.Test.YtpomedigibbeeaaGreatDoorW19
namespace Go.V
set_option linter.unusedVariables false
set_option linter.unusedSimpArgs false
section
variable {P:Program} {T:World} {K:Value→Hp→Prop} {F:Env} {h:Hp} {ty:TypeId}
theorem GG {sT xT E B n m k bytes:Nat} {v:Value} {cs zs:List Value} {cb:Array Bool} (UE:Jw P sT=some E) (Gs:P.underlying xT=some (.int .i64)) (hn:tn P E=some n) (hz:tz P E=some zs) (Bq:zs.length=n) (I8:n≠0) (SA:tb P E=some bytes)
  (own:Qs B E n h v m cs) (hB:B≤h.size) (Xj:(Builtin.zeroCells zs.toArray k).toList.all Z7=true) (Yp:(m+k)*bytes≤140737488355328) (Gt:1≤bytes)
  (H:∀v' h',Qs B E n h' v' (m+k) (cs++(Builtin.zeroCells zs.toArray k).toList)→VZ (ZO v) h h'→(∀p cap,v=.slice p m cap→cap<m+k→Zg h.size h h'∧∃c,v'=.slice (some ⟨h.size,0,none⟩) (m+k) c)→K v' h'):TL P T .append #[sT,xT] ty cb [v,.int .i64 (k:Nat)] K h:=by
 have qx:k*bytes≤140737488355328:=Nat.le_trans (Nat.mul_le_mul_right _ (by omega)) Yp
 have Zj3:k≤140737488355328:=Nat.le_trans (by have:=Nat.mul_le_mul_left k Gt;omega) qx
 have UY:(Builtin.zeroCells zs.toArray k).toList.length=k*n:=by rw[Array.length_toList,YF];simp[Bq]
 obtain⟨news,Es⟩:=Zy ((Builtin.zeroCells zs.toArray k).toList)
 rw[←Es]at Xj UY H
 unfold Jw at UE
 split at UE
 ·rename_i e' hu
  simp only[Option.some.injEq]at UE
  subst UE
  show hw P (do pure (.value (←Builtin.append_ #[sT,xT] ty #[v,.int .i64 (k:Nat)]))) (Xs P T K) h
  rw[Zf]
  show hw P (Builtin.append_ #[sT,xT] ty #[v,.int .i64 (k:Nat)]) K h
  obtain⟨i0,TJ⟩:∃i,P.info? e'=some i:=by
   unfold tn at hn
   cases hi:P.info? e' with
   | none=>rw[hi]at hn;cases hn
   | some i=>exact⟨i,rfl⟩
  have RC:i0.bytes=bytes:=by unfold tb at SA;rw[TJ]at SA;simpa using SA
  obtain⟨z0,FI,Br⟩:∃z,i0.zero=some z∧z.cells.toList=zs:=by
   unfold tz at hz;rw[TJ]at hz
   cases MQ:i0.zero with
   | none=>rw[Option.bind_some,MQ]at hz;cases hz
   | some z=>rw[Option.bind_some,MQ]at hz;exact⟨z,rfl,by simpa using hz⟩
  have zk:z0.cells=zs.toArray:=by rw[←Br]
  have qZ:∃base cap,v=.slice base m cap:=by
   rcases own with⟨⟨p,rfl⟩,rfl,_⟩|⟨b,cap,sp,_,rfl,_⟩
   ·exact⟨_,_,rfl⟩
   ·exact⟨_,_,rfl⟩
  obtain⟨base,cap,hv⟩:=qZ
  subst hv
  have fa:∀{Q:Value→Hp→Prop} (g:Hp),hw P (zeroValue e') Q g=Q z0 g:=fun {Q} g=>by
   unfold zeroValue;rw[Zf,Xa TJ];simp only[FI];rfl
  have lJ:IntKind.i64.wrap ((k:Nat):Int)=(k:Nat):=Vw .i64 k (by show k<2 ^ 63;omega)
  have RD:∀{Q:Int→Hp→Prop} (g:Hp),hw P (asInt (.int .i64 (k:Nat))) Q g=Q (k:Nat) g:=fun {Q} g=>by
   rfl
  have zm:¬((k:Nat):Int)<0:=by omega
  have h48:¬((k:Nat):Int)*(i0.bytes:Nat)>2 ^ 48:=by
   rw[RC,←Int.natCast_mul]
   have:k*bytes≤2 ^ 48:=by omega
   have h2:((k*bytes:Nat):Int)≤2 ^ 48:=by exact_mod_cast this
   omega
  simp only[Builtin.append_,List.getElem?_toArray,List.getElem?_cons_zero,List.getElem?_cons_succ,Zf,Zu,Zt hu,Zt Gs,run_sizeOf hn,if_true,RD,lJ,if_neg zm,Xa TJ,if_neg h48,Int.toNat_natCast,Bool.not_true,Bool.false_eq_true,if_false]
  have lK:∀{Q:Array Value→Hp→Prop} (g:Hp),Q news.toArray g→hw P (if k*n=0 then pure #[] else do pure (Builtin.zeroCells (←zeroValue e').cells k)) Q g:=fun {Q} g q=>by
   by_cases h0:k*n=0
   ·rw[if_pos h0]
    have:k=0:=by
     rcases Nat.mul_eq_zero.1 h0 with h|h
     ·exact h
     ·exact (I8 h).elim
    subst this
    have e:news=[]:=List.eq_nil_of_length_eq_zero (by rw[UY];omega)
    rw[e]at q
    exact q
   ·rw[if_neg h0,Zf,fa,zk]
    rw[Es,Array.toArray_toList]at q
    exact q
  by_cases J9:m+k≤cap
  ·rw[if_pos J9,Zf]
   refine lK _ ?_
   by_cases Yw:news=[]
   ·rw[Yw]
    rw[Yw]at UY H
    have hK:K (.slice base (m+k) cap) h:=by
     refine H _ _ ?_ VZ.refl (fun p' Lx e hc=>by simp only[Value.slice.injEq]at e;omega)
     rcases own with⟨⟨p,h1⟩,h2,h3⟩|⟨b,Lx,spare,MS,h1,hb,hl,Rg,jt⟩
     ·simp only[Value.slice.injEq]at h1
      obtain⟨rfl,rfl,rfl⟩:=h1
      have hk:k=0:=by omega
      subst hk;subst h3
      exact .inl ⟨⟨_,rfl⟩,rfl,rfl⟩
     ·simp only[Value.slice.injEq]at h1
      obtain⟨rfl,_,rfl⟩:=h1
      have ju:k*n=0:=by simpa using UY.symm
      refine .inr ⟨b,cap,spare,MS,rfl,by simpa using hb,by rw[List.append_nil,hl,Nat.add_mul,ju];rfl,?_,J9⟩
      rw[Rg,Nat.sub_mul,Nat.sub_mul,Nat.add_mul,ju,Nat.add_zero]
    cases base<;>exact hK
   rcases own with⟨⟨p,h1⟩,h2,h3⟩|⟨b,Lx,spare,MS,h1,hb,hl,Rg,jt⟩
   ·simp only[Value.slice.injEq]at h1
    obtain⟨rfl,rfl,rfl⟩:=h1
    have hk:k=0:=by omega
    subst hk
    exact (Yw (List.eq_nil_of_length_eq_zero (by simpa using UY))).elim
   ·simp only[Value.slice.injEq]at h1
    obtain⟨rfl,_,rfl⟩:=h1
    simp only[Zf,YX]
    have V0:news.length≤spare.length:=by rw[UY,Rg];exact Nat.mul_le_mul_right _ (by omega)
    refine Yf (e:=e') (lo:=0) (hi:=0) rfl (Nat.le_refl _) news 0 h (cs++spare).toArray hb ?_ Xj ?_
    ·simp;rw[←hl];omega
    ·simp only[Zu,Nat.zero_add,Nat.add_zero]
     refine H _ _ (.inr ⟨b,cap,spare.drop news.length,MS,rfl,?_,?_,?_,J9⟩) ⟨by simp,fun b' XN hx=>?_⟩ (fun p' Lx e hc=>by simp only[Value.slice.injEq]at e;omega)
     ·rw[Array.getElem?_setIfInBounds,if_pos rfl,if_pos (Za hb)]
      rw[←hl,UW,Qk _ _ V0,List.append_assoc]
     ·rw[List.length_append,hl,UY,Nat.add_mul]
     ·rw[List.length_drop,Rg,UY,←Nat.sub_mul];congr 1;omega
     ·rw[Array.getElem?_setIfInBounds,if_neg]
      intro e;subst e
      have yU:cap≠0:=by
       intro h0;subst h0
       have:k=0:=by omega
       subst this
       exact Yw (List.eq_nil_of_length_eq_zero (by simpa using UY))
      exact hx (by simp[ZO,yU])
  ·rw[if_neg J9]
   have QB:¬Builtin.nextslicecap (m+k) cap*i0.bytes>2 ^ 48:=by
    rw[RC]
    have:=UX (m+k) cap bytes (by omega) Yp
    omega
   have Bt:¬i0.bytes=0:=by rw[RC];omega
   have bL:m+k≤140737488355328:=Nat.le_trans (by have:=Nat.mul_le_mul_left (m+k) Gt;omega) Yp
   have lL:¬((m+k:Nat):Int)>IntKind.i64.max:=by
    have:IntKind.i64.max=9223372036854775807:=rfl
    rw[this];omega
   simp only[Zf,Xa TJ,lL,false_and,if_false,if_neg QB]
   intro t
   obtain⟨c,hc⟩:=Zy (Question.cut (Question.appendCap (m+k) cap e') t)
   have kY:m+k≤c:=by rw[hc];simp only[Question.cut];omega
   rw[←hc]
   have RD:∀{Q:Unit→Hp→Prop} (b:Nat) (g:Hp),Q () g→hw P (askRoom b) Q g:=fun {Q} b g q=>by
    unfold askRoom;split<;>exact q
   refine RD _ _ (Z2 own.sl (lK _ ?_))
   rw[fa]
   have kZ:z0.cells.size=n:=by rw[←Bq,←Br];simp
   refine H (.slice (some ⟨h.size,0,none⟩) (m+k) c) _ (.inr ⟨h.size,c,(Builtin.zeroCells z0.cells (c-(m+k))).toList,hB,rfl,?_,?_,?_,kY⟩) (VZ.push _) (fun _ _ _ _=>⟨Zg.push (Nat.le_refl _) _,c,rfl⟩)
   ·rw[Array.getElem?_push_size]
    simp
   ·have XY:cs.length=m*n:=by obtain⟨_,_,_,hl,_⟩:=own.sl;exact hl
    rw[List.length_append,XY,UY,Nat.add_mul]
   ·rw[Array.length_toList,YF,kZ]
 ·cases UE
end
section
variable {h h':Hp}
theorem Qs.S4 {B:Nat} {E:TypeId} {n:Nat} {p:Option Addr} {k c:Nat} {cs:List Value} (s:Qs B E n h (.slice p k c) k cs) {m:Nat} (hm:m≤k):Qs B E n h (.slice p m c) m (cs.take (m*n)):=by
 rcases s with⟨⟨q,h1⟩,h2,h3⟩|⟨b,cap,spare,hB,h1,hg,hl,hs,hc⟩
 ·simp only[Value.slice.injEq]at h1
  obtain⟨rfl,rfl,rfl⟩:=h1
  have e:m=0:=by omega
  subst e
  subst h3
  exact .inl ⟨⟨_,rfl⟩,rfl,by simp⟩
 ·simp only[Value.slice.injEq]at h1
  obtain⟨rfl,_,rfl⟩:=h1
  have hmn:m*n≤k*n:=Nat.mul_le_mul_right _ hm
  have kY:k*n≤c*n:=Nat.mul_le_mul_right _ hc
  refine .inr ⟨b,c,cs.drop (m*n)++spare,hB,rfl,?_,?_,?_,by omega⟩
  ·rw[←List.append_assoc,List.take_append_drop];exact hg
  ·rw[List.length_take];omega
  ·rw[List.length_append,List.length_drop,hl,hs,Nat.sub_mul,Nat.sub_mul];omega
theorem UP {b:Nat} {E:TypeId} {n m c:Nat} {pre cs post:List Value} (hg:h[b]? = some (.cells (pre++(cs++post)).toArray E)) (hl:cs.length=m*n) {o:Nat} (ho:o=pre.length):Sl n h (.slice (some ⟨b,o,none⟩) m c) m cs:=by
 refine⟨_,c,rfl,hl,fun _=>⟨b,o,rfl,fun i hi=>?_⟩⟩
 subst ho
 rw[Vv hg]
 simp only[List.getElem?_toArray]
 rw[List.getElem?_append_right (by omega),Nat.add_sub_cancel_left,List.getElem?_append_left hi,List.getElem?_eq_getElem hi]
theorem WD {a b c vs:List Value} {o:Nat} (ho:o=a.length) (hv:vs.length=b.length):Ys (a++(b++c)) o vs=a++(vs++c):=by
 subst ho
 rw[UW,Qk _ _ (by rw[List.length_append];omega),hv,List.drop_append,List.drop_length,Nat.sub_self,List.drop_zero,List.nil_append]
theorem Qs.spare {B:Nat} {E:TypeId} {n:Nat} {p:Option Addr} {k c:Nat} {cs:List Value} (s:Qs B E n h (.slice p k c) k cs) (hk:c≠0):∃b spare,B≤b∧p=some ⟨b,0,none⟩∧h[b]? = some (.cells (cs++spare).toArray E)∧cs.length=k*n∧spare.length=(c-k)*n∧k≤c:=by
 rcases s with⟨⟨q,h1⟩,h2,h3⟩|⟨b,cap,spare,hB,h1,hg,hl,hs,hc⟩
 ·simp only[Value.slice.injEq]at h1
  exact (hk h1.2.2).elim
 ·simp only[Value.slice.injEq]at h1
  obtain⟨rfl,_,rfl⟩:=h1
  exact⟨b,spare,hB,rfl,hg,hl,hs,hc⟩
theorem Qs.BG {B b:Nat} {E:TypeId} {n k c:Nat} {cs spare:List Value} (hB:B≤b) (hg:h[b]? = some (.cells (cs++spare).toArray E)) (hl:cs.length=k*n) (hs:spare.length=(c-k)*n) (hc:k≤c):Qs B E n h (.slice (some ⟨b,0,none⟩) k c) k cs:=
 .inr ⟨b,c,spare,hB,rfl,hg,hl,hs,hc⟩
theorem Zv {b:Nat} {o o':Obj} (hb:h[b]? = some o'):(h.setIfInBounds b o)[b]? = some o:=by
 rw[Array.getElem?_setIfInBounds,if_pos rfl,if_pos (Za hb)]
theorem Yi {b b':Nat} {o:Obj} (hb:b≠b'):(h.setIfInBounds b o)[b']? = h[b']?:=by
 rw[Array.getElem?_setIfInBounds,if_neg hb]
variable {P:Program} {T:World} {K:Value→Hp→Prop} {ty:TypeId}
@[go_sem] theorem ZgS {cs:Array Bool} {t:TypeId} {p:Option Addr} {l c:Nat} (ht:(Jw P t).isSome=true):TL P T .cap #[t] ty cs [.slice p l c] K h=K (.int .i64 c) h:=by
 unfold Jw at ht
 split at ht
 ·rename_i e hu
  show hw P (do pure (.value (←Builtin.cap_ #[t] ty #[.slice p l c]))) (Xs P T K) h=_
  rw[Zf]
  show hw P (do
   match ←underlying t,(Value.slice p l c) with
   | .array n _,_=>pure (goInt n)
   | .pointer arr,_=>
    let .array n _ ←underlying arr|stuck "cap: pointer to array expected"
    pure (goInt n)
   | .slice _,.slice _ _ n=>pure (goInt n)
   | .chan _ _,.chan none=>pure (goInt 0)
   | .chan _ _,.chan (some r)=>
    let .chan n _ _ _ _ timer ←getObj r|stuck "cap: channel expected"
    pure (goInt (if timer then 0 else n))
   | _,_=>stuck "cap: array, pointer to array, slice or channel expected") K h=_
  rw[Zf,Zt hu];rfl
 ·cases ht
theorem fp {dT sT E E' b o dl dc k n:Nat} {c news:List Value} {cb:Array Bool} {s:Value} (hd:Jw P dT=some E) (hn:tn P E=some n) (hb:h[b]? = some (.cells c.toArray E' (0,0)))
  (src:Sl n h s k news) (Xj:(news.take (min k dl*n)).all Z7=true) (Yp:o+min k dl*n≤c.length)
  (H:K (.int .i64 ((min k dl:Nat):Int)) (h.setIfInBounds b (.cells (Ys c o (news.take (min k dl*n))).toArray E' (0,0)))) :
  TL P T .copy #[dT,sT] ty cb [.slice (some ⟨b,o,none⟩) dl dc,s] K h:=by
 unfold Jw at hd
 split at hd
 ·rename_i e' hu
  simp only[Option.some.injEq]at hd
  subst hd
  show hw P (do pure (.value (←Builtin.copy_ #[dT,sT] ty #[.slice (some ⟨b,o,none⟩) dl dc,s])) ) (Xs P T K) h
  rw[Zf]
  show hw P (Builtin.copy_ #[dT,sT] ty #[.slice (some ⟨b,o,none⟩) dl dc,s]) K h
  simp only[Builtin.copy_,List.getElem?_toArray,List.getElem?_cons_zero,List.getElem?_cons_succ,Zf,Zu,Zt hu,run_sizeOf hn,src.lenOf]
  have hlen:news.length=k*n:=by obtain⟨_,_,_,hl,_⟩:=src;simpa using hl
  obtain⟨p,cap,rfl,hl,hc⟩:=src
  have hm:Nat.min k dl=min k dl:=rfl
  rw[hm]
  obtain⟨m,hmm⟩:=Zy (min k dl)
  rw[←hmm]at Yp Xj H ⊢
  have bL:m≤k:=by omega
  have hmn:m*n≤k*n:=Nat.mul_le_mul_right _ bL
  rw[U1 (k':=m) (c':=cap)]
  refine Z2 (Sl.wX ⟨p,cap,rfl,hl,hc⟩ bL cap) ?_
  refine Yf (a:=⟨b,o,none⟩) (e:=E') (lo:=0) (hi:=0) rfl (Nat.le_refl _) (news.take (m*n)) 0 h c.toArray hb ?_ ?_ ?_
  ·simp;omega
  ·exact Xj
  ·simp only[Zu,Nat.add_zero]
   exact H
 ·cases hd
theorem GH {f:FuncId} {fn:Func} {e:Array Value→Sem Value} (hf:P.funcs[f]? = some fn) (Zdz:(fn.name == "runtime.NumGoroutine")=false) (hb:fn.body.isNone=true) (hn:Extern.findNext fn=none) (he:Extern.find fn=some e)
  {l:List Value} (H:hw P (e l.toArray) K h):Lk P T (.func (.func f) #[] #[]) l K h:=by
 have h1:fn.name ≠ "runtime.NumGoroutine" := by simpa using Zdz
 have h2:fn.body=none:=by simpa using hb
 have hg:¬goes P f=true:=by unfold goes;rw[hf];simp[h2]
 show if goes P f=true then Zd P T f (([]:List Value)++l++[]).toArray h K else hw P (callFunc f (([]:List Value)++l++[]).toArray) (Xs P T K) h
 rw[if_neg hg,List.nil_append,List.append_nil]
 unfold callFunc
 rw[Zf]
 simp only[program,hw,hf]
 rw[if_neg (by simpa using h1),if_pos (by rw[h2];rfl),Zf]
 simp only[mark,hw,hn,he]
 rw[Zf]
 exact H
end
theorem BH {P:Program} {L:List Char} {x:Bool × List Char} (h:P.initOrder=String.ofList L) (h2:(match wordsSigns L with|h :: s :: _=>if !isSumSigns s then none else if h == "harness".toList then some (true,s) else if h == "ownmain".toList then some (false,s) else none|_=>none)=some x):P.mainIs=some x:=by
 unfold Program.mainIs
 rw[h,String.toList_ofList];exact h2
end Go.V
