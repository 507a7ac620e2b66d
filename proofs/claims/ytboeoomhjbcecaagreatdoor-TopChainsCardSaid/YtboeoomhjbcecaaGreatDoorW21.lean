/- W20: append of zeros, and where its result lies; two slices of two types of elements. -/
import Derived.Test.YtboeoomhjbcecaaGreatDoorW19
namespace Go.V
set_option linter.unusedVariables false
set_option linter.unusedSimpArgs false
section
variable {P:Program} {T:World} {K:Value→Hp→Prop} {F:Env} {h:Hp} {ty:TypeId}
theorem Fl {sT xT E B n m k bytes:Nat} {v:Value} {cs zs:List Value} {cb:Array Bool} (US:JD P sT=some E) (G8:P.underlying xT=some (.int .i64)) (hn:tn P E=some n) (hz:tz P E=some zs) (Aw:zs.length=n) (HP:n≠0) (SM:tb P E=some bytes)
  (own:Qx B E n h v m cs) (hB:B≤h.size) (Y9:(Builtin.zeroCells zs.toArray k).toList.all Z6=true) (Yr:(m+k)*bytes≤140737488355328) (Ka:1≤bytes)
  (H:∀v' h',Qx B E n h' v' (m+k) (cs++(Builtin.zeroCells zs.toArray k).toList)→Tm (ZO v) h h'→(∀p cap,v=.slice p m cap→cap<m+k→Zg h.size h h'∧∃c,v'=.slice (some ⟨h.size,0,none⟩) (m+k) c)→K v' h'):T6 P T .append #[sT,xT] ty cb [v,.int .i64 (k:Nat)] K h:=by
 have tH:k*bytes≤140737488355328:=Nat.le_trans (Nat.mul_le_mul_right _ (by omega)) Yr;have Zli:k≤140737488355328:=Nat.le_trans (by have:=Nat.mul_le_mul_left k Ka;omega) tH;have Uq:(Builtin.zeroCells zs.toArray k).toList.length=k*n:=by rw[Array.length_toList,YJ];simp[Aw]
 obtain⟨news,Dh⟩:=Zy ((Builtin.zeroCells zs.toArray k).toList);rw[←Dh]at Y9 Uq H;unfold JD at US;split at US
 ·rename_i e' hu;simp only[Option.some.injEq]at US;subst US;show hw P (do pure (.value (←Builtin.append_ #[sT,xT] ty #[v,.int .i64 (k:Nat)]))) (Xx P T K) h;rw[Zf];show hw P (Builtin.append_ #[sT,xT] ty #[v,.int .i64 (k:Nat)]) K h;obtain⟨i0,T3⟩:∃i,P.info? e'=some i:=by
   unfold tn at hn
   cases hi:P.info? e' with
   | none=>rw[hi]at hn;cases hn
   | some i=>exact⟨i,rfl⟩
  have RN:i0.bytes=bytes:=by unfold tb at SM;rw[T3]at SM;simpa using SM
  obtain⟨z0,Eu,Ax⟩:∃z,i0.zero=some z∧z.cells.toList=zs:=by
   unfold tz at hz;rw[T3]at hz
   cases Lq:i0.zero with
   | none=>rw[Option.bind_some,Lq]at hz;cases hz
   | some z=>rw[Option.bind_some,Lq]at hz;exact⟨z,rfl,by simpa using hz⟩
  have Za3:z0.cells=zs.toArray:=by rw[←Ax]
  have ug:∃base cap,v=.slice base m cap:=by
   rcases own with⟨⟨p,rfl⟩,rfl,_⟩|⟨b,cap,sp,_,rfl,_⟩
   ·exact⟨_,_,rfl⟩
   ·exact⟨_,_,rfl⟩
  obtain⟨base,cap,hv⟩:=ug;subst hv;have gI:∀{Q:Value→Hp→Prop} (g:Hp),hw P (zeroValue e') Q g=Q z0 g:=fun {Q} g=>by
   unfold zeroValue;rw[Zf,Xf T3];simp only[Eu];rfl
  have nG:IntKind.i64.wrap ((k:Nat):Int)=(k:Nat):=VN .i64 k (by show k<2 ^ 63;omega);have RO:∀{Q:Int→Hp→Prop} (g:Hp),hw P (asInt (.int .i64 (k:Nat))) Q g=Q (k:Nat) g:=fun {Q} g=>by
   rfl
  have Za4:¬((k:Nat):Int)<0:=by omega
  have h48:¬((k:Nat):Int)*(i0.bytes:Nat)>2 ^ 48:=by
   rw[RN,←Int.natCast_mul];have:k*bytes≤2 ^ 48:=by omega
   have h2:((k*bytes:Nat):Int)≤2 ^ 48:=by exact_mod_cast this
   omega
  simp only[Builtin.append_,List.getElem?_toArray,List.getElem?_cons_zero,List.getElem?_cons_succ,Zf,Zw,Zt hu,Zt G8,run_sizeOf hn,if_true,RO,nG,if_neg Za4,Xf T3,if_neg h48,Int.toNat_natCast,Bool.not_true,Bool.false_eq_true,if_false];have nH:∀{Q:Array Value→Hp→Prop} (g:Hp),Q news.toArray g→hw P (if k*n=0 then pure #[] else do pure (Builtin.zeroCells (←zeroValue e').cells k)) Q g:=fun {Q} g q=>by
   by_cases h0:k*n=0
   ·rw[if_pos h0];have:k=0:=by
     rcases Nat.mul_eq_zero.1 h0 with h|h
     ·exact h
     ·exact (HP h).elim
    subst this;have e:news=[]:=List.eq_nil_of_length_eq_zero (by rw[Uq];omega);rw[e]at q;exact q
   ·rw[if_neg h0,Zf,gI,Za3];rw[Dh,Array.toArray_toList]at q;exact q
  by_cases Qi:m+k≤cap
  ·rw[if_pos Qi,Zf];refine nH _ ?_;by_cases Yv:news=[]
   ·rw[Yv];rw[Yv]at Uq H;have hK:K (.slice base (m+k) cap) h:=by
     refine H _ _ ?_ Tm.refl (fun p' Kb e hc=>by simp only[Value.slice.injEq]at e;omega);rcases own with⟨⟨p,h1⟩,h2,h3⟩|⟨b,Kb,spare,Ls,h1,hb,hl,Rp,kM⟩
     ·simp only[Value.slice.injEq]at h1;obtain⟨rfl,rfl,rfl⟩:=h1;have hk:k=0:=by omega
      subst hk;subst h3;exact .inl ⟨⟨_,rfl⟩,rfl,rfl⟩
     ·simp only[Value.slice.injEq]at h1;obtain⟨rfl,_,rfl⟩:=h1;have kO:k*n=0:=by simpa using Uq.symm
      refine .inr ⟨b,cap,spare,Ls,rfl,by simpa using hb,by rw[List.append_nil,hl,Nat.add_mul,kO];rfl,?_,Qi⟩;rw[Rp,Nat.sub_mul,Nat.sub_mul,Nat.add_mul,kO,Nat.add_zero]
    cases base<;>exact hK
   rcases own with⟨⟨p,h1⟩,h2,h3⟩|⟨b,Kb,spare,Ls,h1,hb,hl,Rp,kM⟩
   ·simp only[Value.slice.injEq]at h1;obtain⟨rfl,rfl,rfl⟩:=h1;have hk:k=0:=by omega
    subst hk;exact (Yv (List.eq_nil_of_length_eq_zero (by simpa using Uq))).elim
   ·simp only[Value.slice.injEq]at h1;obtain⟨rfl,_,rfl⟩:=h1;simp only[Zf,Y1];have Tq:news.length≤spare.length:=by rw[Uq,Rp];exact Nat.mul_le_mul_right _ (by omega)
    refine Yi (e:=e') (lo:=0) (hi:=0) rfl (Nat.le_refl _) news 0 h (cs++spare).toArray hb ?_ Y9 ?_
    ·simp;rw[←hl];omega
    ·simp only[Zw,Nat.zero_add,Nat.add_zero];refine H _ _ (.inr ⟨b,cap,spare.drop news.length,Ls,rfl,?_,?_,?_,Qi⟩) ⟨by simp,fun b' XU hx=>?_⟩ (fun p' Kb e hc=>by simp only[Value.slice.injEq]at e;omega)
     ·rw[Array.getElem?_setIfInBounds,if_pos rfl,if_pos (Za hb)];rw[←hl,Wc,Qy _ _ Tq,List.append_assoc]
     ·rw[List.length_append,hl,Uq,Nat.add_mul]
     ·rw[List.length_drop,Rp,Uq,←Nat.sub_mul];congr 1;omega
     ·rw[Array.getElem?_setIfInBounds,if_neg];intro e;subst e;have hcz:cap≠0:=by
       intro h0;subst h0;have:k=0:=by omega
       subst this;exact Yv (List.eq_nil_of_length_eq_zero (by simpa using Uq))
      exact hx (by simp[ZO,hcz])
  ·rw[if_neg Qi];have QN:¬Builtin.nextslicecap (m+k) cap*i0.bytes>2 ^ 48:=by
    rw[RN];have:=We (m+k) cap bytes (by omega) Yr;omega
   have Ay:¬i0.bytes=0:=by rw[RN];omega
   have dB:m+k≤140737488355328:=Nat.le_trans (by have:=Nat.mul_le_mul_left (m+k) Ka;omega) Yr;have nI:¬((m+k:Nat):Int)>IntKind.i64.max:=by
    have:IntKind.i64.max=9223372036854775807:=rfl;rw[this];omega
   simp only[Zf,Xf T3,nI,false_and,if_false,if_neg QN];intro t;obtain⟨c,hc⟩:=Zy (Question.cut (Question.appendCap (m+k) cap e') t);have np:m+k≤c:=by rw[hc];simp only[Question.cut];omega
   rw[←hc];have RO:∀{Q:Unit→Hp→Prop} (b:Nat) (g:Hp),Q () g→hw P (askRoom b) Q g:=fun {Q} b g q=>by
    unfold askRoom;split<;>exact q
   refine RO _ _ (Z1 own.sl (nH _ ?_));rw[gI];have nq:z0.cells.size=n:=by rw[←Aw,←Ax];simp
   refine H (.slice (some ⟨h.size,0,none⟩) (m+k) c) _ (.inr ⟨h.size,c,(Builtin.zeroCells z0.cells (c-(m+k))).toList,hB,rfl,?_,?_,?_,np⟩) (Tm.push _) (fun _ _ _ _=>⟨Zg.push (Nat.le_refl _) _,c,rfl⟩)
   ·rw[Array.getElem?_push_size];simp
   ·have XR:cs.length=m*n:=by obtain⟨_,_,_,hl,_⟩:=own.sl;exact hl
    rw[List.length_append,XR,Uq,Nat.add_mul]
   ·rw[Array.length_toList,YJ,nq]
 ·cases US
end
section
variable {h h':Hp}
theorem Qx.Rc {B:Nat} {E:TypeId} {n:Nat} {p:Option Addr} {k c:Nat} {cs:List Value} (s:Qx B E n h (.slice p k c) k cs) {m:Nat} (hm:m≤k):Qx B E n h (.slice p m c) m (cs.take (m*n)):=by
 rcases s with⟨⟨q,h1⟩,h2,h3⟩|⟨b,cap,spare,hB,h1,hg,hl,hs,hc⟩
 ·simp only[Value.slice.injEq]at h1;obtain⟨rfl,rfl,rfl⟩:=h1;have e:m=0:=by omega
  subst e;subst h3;exact .inl ⟨⟨_,rfl⟩,rfl,by simp⟩
 ·simp only[Value.slice.injEq]at h1;obtain⟨rfl,_,rfl⟩:=h1;have hmn:m*n≤k*n:=Nat.mul_le_mul_right _ hm;have np:k*n≤c*n:=Nat.mul_le_mul_right _ hc;refine .inr ⟨b,c,cs.drop (m*n)++spare,hB,rfl,?_,?_,?_,by omega⟩
  ·rw[←List.append_assoc,List.take_append_drop];exact hg
  ·rw[List.length_take];omega
  ·rw[List.length_append,List.length_drop,hl,hs,Nat.sub_mul,Nat.sub_mul];omega
theorem U3 {b:Nat} {E:TypeId} {n m c:Nat} {pre cs post:List Value} (hg:h[b]? = some (.cells (pre++(cs++post)).toArray E)) (hl:cs.length=m*n) {o:Nat} (ho:o=pre.length):Sl n h (.slice (some ⟨b,o,none⟩) m c) m cs:=by
 refine⟨_,c,rfl,hl,fun _=>⟨b,o,rfl,fun i hi=>?_⟩⟩;subst ho;rw[VM hg];simp only[List.getElem?_toArray];rw[List.getElem?_append_right (by omega),Nat.add_sub_cancel_left,List.getElem?_append_left hi,List.getElem?_eq_getElem hi]
theorem WV {a b c vs:List Value} {o:Nat} (ho:o=a.length) (hv:vs.length=b.length):Yw (a++(b++c)) o vs=a++(vs++c):=by
 subst ho;rw[Wc,Qy _ _ (by rw[List.length_append];omega),hv,List.drop_append,List.drop_length,Nat.sub_self,List.drop_zero,List.nil_append]
theorem Qx.spare {B:Nat} {E:TypeId} {n:Nat} {p:Option Addr} {k c:Nat} {cs:List Value} (s:Qx B E n h (.slice p k c) k cs) (hk:c≠0):∃b spare,B≤b∧p=some ⟨b,0,none⟩∧h[b]? = some (.cells (cs++spare).toArray E)∧cs.length=k*n∧spare.length=(c-k)*n∧k≤c:=by
 rcases s with⟨⟨q,h1⟩,h2,h3⟩|⟨b,cap,spare,hB,h1,hg,hl,hs,hc⟩
 ·simp only[Value.slice.injEq]at h1;exact (hk h1.2.2).elim
 ·simp only[Value.slice.injEq]at h1;obtain⟨rfl,_,rfl⟩:=h1;exact⟨b,spare,hB,rfl,hg,hl,hs,hc⟩
theorem Qx.AL {B b:Nat} {E:TypeId} {n k c:Nat} {cs spare:List Value} (hB:B≤b) (hg:h[b]? = some (.cells (cs++spare).toArray E)) (hl:cs.length=k*n) (hs:spare.length=(c-k)*n) (hc:k≤c):Qx B E n h (.slice (some ⟨b,0,none⟩) k c) k cs:=
 .inr ⟨b,c,spare,hB,rfl,hg,hl,hs,hc⟩
theorem Zx {b:Nat} {o o':Obj} (hb:h[b]? = some o'):(h.setIfInBounds b o)[b]? = some o:=by
 rw[Array.getElem?_setIfInBounds,if_pos rfl,if_pos (Za hb)]
theorem Yk {b b':Nat} {o:Obj} (hb:b≠b'):(h.setIfInBounds b o)[b']? = h[b']?:=by
 rw[Array.getElem?_setIfInBounds,if_neg hb]
variable {P:Program} {T:World} {K:Value→Hp→Prop} {ty:TypeId}
@[go_sem] theorem Zif {cs:Array Bool} {t:TypeId} {p:Option Addr} {l c:Nat} (ht:(JD P t).isSome=true):T6 P T .cap #[t] ty cs [.slice p l c] K h=K (.int .i64 c) h:=by
 unfold JD at ht;split at ht
 ·rename_i e hu;show hw P (do pure (.value (←Builtin.cap_ #[t] ty #[.slice p l c]))) (Xx P T K) h=_;rw[Zf];show hw P (do
   match ←underlying t,(Value.slice p l c) with
   | .array n _,_=>pure (goInt n)
   | .pointer arr,_=>
    let .array n _ ←underlying arr|stuck "cap: pointer to array expected"
    pure (goInt n)
   | .slice _,.slice _ _ n=>pure (goInt n)
   | .chan _ _,.chan none=>pure (goInt 0)
   | .chan _ _,.chan (some r)=>
    let .chan n _ _ _ _ timer ←getObj r|stuck "cap: channel expected"
    pure (goInt (if timer then 0 else n))
   | _,_=>stuck "cap: array, pointer to array, slice or channel expected") K h=_
  rw[Zf,Zt hu];rfl
 ·cases ht
theorem gT {dT sT E E' b o dl dc k n:Nat} {c news:List Value} {cb:Array Bool} {s:Value} (hd:JD P dT=some E) (hn:tn P E=some n) (hb:h[b]? = some (.cells c.toArray E' (0,0)))
  (src:Sl n h s k news) (Y9:(news.take (min k dl*n)).all Z6=true) (Yr:o+min k dl*n≤c.length)
  (H:K (.int .i64 ((min k dl:Nat):Int)) (h.setIfInBounds b (.cells (Yw c o (news.take (min k dl*n))).toArray E' (0,0)))) :
  T6 P T .copy #[dT,sT] ty cb [.slice (some ⟨b,o,none⟩) dl dc,s] K h:=by
 unfold JD at hd;split at hd
 ·rename_i e' hu;simp only[Option.some.injEq]at hd;subst hd;show hw P (do pure (.value (←Builtin.copy_ #[dT,sT] ty #[.slice (some ⟨b,o,none⟩) dl dc,s])) ) (Xx P T K) h;rw[Zf];show hw P (Builtin.copy_ #[dT,sT] ty #[.slice (some ⟨b,o,none⟩) dl dc,s]) K h;simp only[Builtin.copy_,List.getElem?_toArray,List.getElem?_cons_zero,List.getElem?_cons_succ,Zf,Zw,Zt hu,run_sizeOf hn,src.lenOf];have hlen:news.length=k*n:=by obtain⟨_,_,_,hl,_⟩:=src;simpa using hl
  obtain⟨p,cap,rfl,hl,hc⟩:=src;have hm:Nat.min k dl=min k dl:=rfl;rw[hm];obtain⟨m,hmm⟩:=Zy (min k dl);rw[←hmm]at Yr Y9 H ⊢;have dB:m≤k:=by omega
  have hmn:m*n≤k*n:=Nat.mul_le_mul_right _ dB;rw[Wh (k':=m) (c':=cap)];refine Z1 (Sl.dC ⟨p,cap,rfl,hl,hc⟩ dB cap) ?_;refine Yi (a:=⟨b,o,none⟩) (e:=E') (lo:=0) (hi:=0) rfl (Nat.le_refl _) (news.take (m*n)) 0 h c.toArray hb ?_ ?_ ?_
  ·simp;omega
  ·exact Y9
  ·simp only[Zw,Nat.add_zero];exact H
 ·cases hd
theorem Fm {f:FuncId} {fn:Func} {e:Array Value→Sem Value} (hf:P.funcs[f]? = some fn) (Ze2:(fn.name == "runtime.NumGoroutine")=false) (hb:fn.body.isNone=true) (hn:Extern.findNext fn=none) (he:Extern.find fn=some e)
  {l:List Value} (H:hw P (e l.toArray) K h):LU P T (.func (.func f) #[] #[]) l K h:=by
 have h1:fn.name ≠ "runtime.NumGoroutine" := by simpa using Ze2
 have h2:fn.body=none:=by simpa using hb
 have hg:¬goes P f=true:=by unfold goes;rw[hf];simp[h2]
 show if goes P f=true then Zc P T f (([]:List Value)++l++[]).toArray h K else hw P (callFunc f (([]:List Value)++l++[]).toArray) (Xx P T K) h
 rw[if_neg hg,List.nil_append,List.append_nil];unfold callFunc;rw[Zf];simp only[program,hw,hf];rw[if_neg (by simpa using h1),if_pos (by rw[h2];rfl),Zf];simp only[mark,hw,hn,he];rw[Zf];exact H
end
theorem AM {P:Program} {L:List Char} {x:Bool × List Char} (h:P.initOrder=String.ofList L) (h2:(match wordsSigns L with|h :: s :: _=>if !isSumSigns s then none else if h == "harness".toList then some (true,s) else if h == "ownmain".toList then some (false,s) else none|_=>none)=some x):P.mainIs=some x:=by
 unfold Program.mainIs;rw[h,String.toList_ofList];exact h2
end Go.V
