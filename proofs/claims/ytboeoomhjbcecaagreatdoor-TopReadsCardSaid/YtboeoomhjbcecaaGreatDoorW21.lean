/- W20: append of zeros, and where its result lies; two slices of two types of elements. -/
import Derived.Test.YtboeoomhjbcecaaGreatDoorW19
namespace Go.V
set_option linter.unusedVariables false
set_option linter.unusedSimpArgs false
section
variable {P:Program} {T:World} {K:Value→Hp→Prop} {F:Env} {h:Hp} {ty:TypeId}
theorem Fo {sT xT E B n m k bytes:Nat} {v:Value} {cs zs:List Value} {cb:Array Bool} (UQ:JI P sT=some E) (Fa:P.underlying xT=some (.int .i64)) (hn:tn P E=some n) (hz:tz P E=some zs) (Au:zs.length=n) (HS:n≠0) (SQ:tb P E=some bytes)
  (own:Qv B E n h v m cs) (hB:B≤h.size) (Xc:(Builtin.zeroCells zs.toArray k).toList.all Z7=true) (Ys:(m+k)*bytes≤140737488355328) (Kf:1≤bytes)
  (H:∀v' h',Qv B E n h' v' (m+k) (cs++(Builtin.zeroCells zs.toArray k).toList)→Tv (ZO v) h h'→(∀p cap,v=.slice p m cap→cap<m+k→Zf h.size h h'∧∃c,v'=.slice (some ⟨h.size,0,none⟩) (m+k) c)→K v' h'):T9 P T .append #[sT,xT] ty cb [v,.int .i64 (k:Nat)] K h:=by
 have tC:k*bytes≤140737488355328:=Nat.le_trans (Nat.mul_le_mul_right _ (by omega)) Ys;have Zlo:k≤140737488355328:=Nat.le_trans (by have:=Nat.mul_le_mul_left k Kf;omega) tC;have Wb:(Builtin.zeroCells zs.toArray k).toList.length=k*n:=by rw[Array.length_toList,YM];simp[Au]
 obtain⟨news,Dd⟩:=Zx ((Builtin.zeroCells zs.toArray k).toList);rw[←Dd]at Xc Wb H;unfold JI at UQ;split at UQ
 ·rename_i e' hu;simp only[Option.some.injEq]at UQ;subst UQ;show hw P (do pure (.value (←Builtin.append_ #[sT,xT] ty #[v,.int .i64 (k:Nat)]))) (Xy P T K) h;rw[Zg];show hw P (Builtin.append_ #[sT,xT] ty #[v,.int .i64 (k:Nat)]) K h;obtain⟨i0,T6⟩:∃i,P.info? e'=some i:=by
   unfold tn at hn
   cases hi:P.info? e' with
   | none=>rw[hi]at hn;cases hn
   | some i=>exact⟨i,rfl⟩
  have RW:i0.bytes=bytes:=by unfold tb at SQ;rw[T6]at SQ;simpa using SQ
  obtain⟨z0,Et,Av⟩:∃z,i0.zero=some z∧z.cells.toList=zs:=by
   unfold tz at hz;rw[T6]at hz
   cases Lt:i0.zero with
   | none=>rw[Option.bind_some,Lt]at hz;cases hz
   | some z=>rw[Option.bind_some,Lt]at hz;exact⟨z,rfl,by simpa using hz⟩
  have Za2:z0.cells=zs.toArray:=by rw[←Av]
  have ub:∃base cap,v=.slice base m cap:=by
   rcases own with⟨⟨p,rfl⟩,rfl,_⟩|⟨b,cap,sp,_,rfl,_⟩
   ·exact⟨_,_,rfl⟩
   ·exact⟨_,_,rfl⟩
  obtain⟨base,cap,hv⟩:=ub;subst hv;have gK:∀{Q:Value→Hp→Prop} (g:Hp),hw P (zeroValue e') Q g=Q z0 g:=fun {Q} g=>by
   unfold zeroValue;rw[Zg,Xh T6];simp only[Et];rfl
  have ny:IntKind.i64.wrap ((k:Nat):Int)=(k:Nat):=VP .i64 k (by show k<2 ^ 63;omega);have RX:∀{Q:Int→Hp→Prop} (g:Hp),hw P (asInt (.int .i64 (k:Nat))) Q g=Q (k:Nat) g:=fun {Q} g=>by
   rfl
  have Za3:¬((k:Nat):Int)<0:=by omega
  have h48:¬((k:Nat):Int)*(i0.bytes:Nat)>2 ^ 48:=by
   rw[RW,←Int.natCast_mul];have:k*bytes≤2 ^ 48:=by omega
   have h2:((k*bytes:Nat):Int)≤2 ^ 48:=by exact_mod_cast this
   omega
  simp only[Builtin.append_,List.getElem?_toArray,List.getElem?_cons_zero,List.getElem?_cons_succ,Zg,Zw,Zu hu,Zu Fa,run_sizeOf hn,if_true,RX,ny,if_neg Za3,Xh T6,if_neg h48,Int.toNat_natCast,Bool.not_true,Bool.false_eq_true,if_false];have nz:∀{Q:Array Value→Hp→Prop} (g:Hp),Q news.toArray g→hw P (if k*n=0 then pure #[] else do pure (Builtin.zeroCells (←zeroValue e').cells k)) Q g:=fun {Q} g q=>by
   by_cases h0:k*n=0
   ·rw[if_pos h0];have:k=0:=by
     rcases Nat.mul_eq_zero.1 h0 with h|h
     ·exact h
     ·exact (HS h).elim
    subst this;have e:news=[]:=List.eq_nil_of_length_eq_zero (by rw[Wb];omega);rw[e]at q;exact q
   ·rw[if_neg h0,Zg,gK,Za2];rw[Dd,Array.toArray_toList]at q;exact q
  by_cases J4:m+k≤cap
  ·rw[if_pos J4,Zg];refine nz _ ?_;by_cases YA:news=[]
   ·rw[YA];rw[YA]at Wb H;have hK:K (.slice base (m+k) cap) h:=by
     refine H _ _ ?_ Tv.refl (fun p' Kh e hc=>by simp only[Value.slice.injEq]at e;omega);rcases own with⟨⟨p,h1⟩,h2,h3⟩|⟨b,Kh,spare,Lv,h1,hb,hl,Ry,kR⟩
     ·simp only[Value.slice.injEq]at h1;obtain⟨rfl,rfl,rfl⟩:=h1;have hk:k=0:=by omega
      subst hk;subst h3;exact .inl ⟨⟨_,rfl⟩,rfl,rfl⟩
     ·simp only[Value.slice.injEq]at h1;obtain⟨rfl,_,rfl⟩:=h1;have kS:k*n=0:=by simpa using Wb.symm
      refine .inr ⟨b,cap,spare,Lv,rfl,by simpa using hb,by rw[List.append_nil,hl,Nat.add_mul,kS];rfl,?_,J4⟩;rw[Ry,Nat.sub_mul,Nat.sub_mul,Nat.add_mul,kS,Nat.add_zero]
    cases base<;>exact hK
   rcases own with⟨⟨p,h1⟩,h2,h3⟩|⟨b,Kh,spare,Lv,h1,hb,hl,Ry,kR⟩
   ·simp only[Value.slice.injEq]at h1;obtain⟨rfl,rfl,rfl⟩:=h1;have hk:k=0:=by omega
    subst hk;exact (YA (List.eq_nil_of_length_eq_zero (by simpa using Wb))).elim
   ·simp only[Value.slice.injEq]at h1;obtain⟨rfl,_,rfl⟩:=h1;simp only[Zg,Y4];have Ty:news.length≤spare.length:=by rw[Wb,Ry];exact Nat.mul_le_mul_right _ (by omega)
    refine Yk (e:=e') (lo:=0) (hi:=0) rfl (Nat.le_refl _) news 0 h (cs++spare).toArray hb ?_ Xc ?_
    ·simp;rw[←hl];omega
    ·simp only[Zw,Nat.zero_add,Nat.add_zero];refine H _ _ (.inr ⟨b,cap,spare.drop news.length,Lv,rfl,?_,?_,?_,J4⟩) ⟨by simp,fun b' XH hx=>?_⟩ (fun p' Kh e hc=>by simp only[Value.slice.injEq]at e;omega)
     ·rw[Array.getElem?_setIfInBounds,if_pos rfl,if_pos (Za hb)];rw[←hl,U9,QA _ _ Ty,List.append_assoc]
     ·rw[List.length_append,hl,Wb,Nat.add_mul]
     ·rw[List.length_drop,Ry,Wb,←Nat.sub_mul];congr 1;omega
     ·rw[Array.getElem?_setIfInBounds,if_neg];intro e;subst e;have hcz:cap≠0:=by
       intro h0;subst h0;have:k=0:=by omega
       subst this;exact YA (List.eq_nil_of_length_eq_zero (by simpa using Wb))
      exact hx (by simp[ZO,hcz])
  ·rw[if_neg J4];have QO:¬Builtin.nextslicecap (m+k) cap*i0.bytes>2 ^ 48:=by
    rw[RW];have:=Wa (m+k) cap bytes (by omega) Ys;omega
   have Aw:¬i0.bytes=0:=by rw[RW];omega
   have dy:m+k≤140737488355328:=Nat.le_trans (by have:=Nat.mul_le_mul_left (m+k) Kf;omega) Ys;have nA:¬((m+k:Nat):Int)>IntKind.i64.max:=by
    have:IntKind.i64.max=9223372036854775807:=rfl;rw[this];omega
   simp only[Zg,Xh T6,nA,false_and,if_false,if_neg QO];intro t;obtain⟨c,hc⟩:=Zx (Question.cut (Question.appendCap (m+k) cap e') t);have nh:m+k≤c:=by rw[hc];simp only[Question.cut];omega
   rw[←hc];have RX:∀{Q:Unit→Hp→Prop} (b:Nat) (g:Hp),Q () g→hw P (askRoom b) Q g:=fun {Q} b g q=>by
    unfold askRoom;split<;>exact q
   refine RX _ _ (Z4 own.sl (nz _ ?_));rw[gK];have nj:z0.cells.size=n:=by rw[←Au,←Av];simp
   refine H (.slice (some ⟨h.size,0,none⟩) (m+k) c) _ (.inr ⟨h.size,c,(Builtin.zeroCells z0.cells (c-(m+k))).toList,hB,rfl,?_,?_,?_,nh⟩) (Tv.push _) (fun _ _ _ _=>⟨Zf.push (Nat.le_refl _) _,c,rfl⟩)
   ·rw[Array.getElem?_push_size];simp
   ·have XW:cs.length=m*n:=by obtain⟨_,_,_,hl,_⟩:=own.sl;exact hl
    rw[List.length_append,XW,Wb,Nat.add_mul]
   ·rw[Array.length_toList,YM,nj]
 ·cases UQ
end
section
variable {h h':Hp}
theorem Qv.Rl {B:Nat} {E:TypeId} {n:Nat} {p:Option Addr} {k c:Nat} {cs:List Value} (s:Qv B E n h (.slice p k c) k cs) {m:Nat} (hm:m≤k):Qv B E n h (.slice p m c) m (cs.take (m*n)):=by
 rcases s with⟨⟨q,h1⟩,h2,h3⟩|⟨b,cap,spare,hB,h1,hg,hl,hs,hc⟩
 ·simp only[Value.slice.injEq]at h1;obtain⟨rfl,rfl,rfl⟩:=h1;have e:m=0:=by omega
  subst e;subst h3;exact .inl ⟨⟨_,rfl⟩,rfl,by simp⟩
 ·simp only[Value.slice.injEq]at h1;obtain⟨rfl,_,rfl⟩:=h1;have hmn:m*n≤k*n:=Nat.mul_le_mul_right _ hm;have nh:k*n≤c*n:=Nat.mul_le_mul_right _ hc;refine .inr ⟨b,c,cs.drop (m*n)++spare,hB,rfl,?_,?_,?_,by omega⟩
  ·rw[←List.append_assoc,List.take_append_drop];exact hg
  ·rw[List.length_take];omega
  ·rw[List.length_append,List.length_drop,hl,hs,Nat.sub_mul,Nat.sub_mul];omega
theorem U2 {b:Nat} {E:TypeId} {n m c:Nat} {pre cs post:List Value} (hg:h[b]? = some (.cells (pre++(cs++post)).toArray E)) (hl:cs.length=m*n) {o:Nat} (ho:o=pre.length):Sl n h (.slice (some ⟨b,o,none⟩) m c) m cs:=by
 refine⟨_,c,rfl,hl,fun _=>⟨b,o,rfl,fun i hi=>?_⟩⟩;subst ho;rw[VO hg];simp only[List.getElem?_toArray];rw[List.getElem?_append_right (by omega),Nat.add_sub_cancel_left,List.getElem?_append_left hi,List.getElem?_eq_getElem hi]
theorem WV {a b c vs:List Value} {o:Nat} (ho:o=a.length) (hv:vs.length=b.length):Yw (a++(b++c)) o vs=a++(vs++c):=by
 subst ho;rw[U9,QA _ _ (by rw[List.length_append];omega),hv,List.drop_append,List.drop_length,Nat.sub_self,List.drop_zero,List.nil_append]
theorem Qv.spare {B:Nat} {E:TypeId} {n:Nat} {p:Option Addr} {k c:Nat} {cs:List Value} (s:Qv B E n h (.slice p k c) k cs) (hk:c≠0):∃b spare,B≤b∧p=some ⟨b,0,none⟩∧h[b]? = some (.cells (cs++spare).toArray E)∧cs.length=k*n∧spare.length=(c-k)*n∧k≤c:=by
 rcases s with⟨⟨q,h1⟩,h2,h3⟩|⟨b,cap,spare,hB,h1,hg,hl,hs,hc⟩
 ·simp only[Value.slice.injEq]at h1;exact (hk h1.2.2).elim
 ·simp only[Value.slice.injEq]at h1;obtain⟨rfl,_,rfl⟩:=h1;exact⟨b,spare,hB,rfl,hg,hl,hs,hc⟩
theorem Qv.AJ {B b:Nat} {E:TypeId} {n k c:Nat} {cs spare:List Value} (hB:B≤b) (hg:h[b]? = some (.cells (cs++spare).toArray E)) (hl:cs.length=k*n) (hs:spare.length=(c-k)*n) (hc:k≤c):Qv B E n h (.slice (some ⟨b,0,none⟩) k c) k cs:=
 .inr ⟨b,c,spare,hB,rfl,hg,hl,hs,hc⟩
theorem Zy {b:Nat} {o o':Obj} (hb:h[b]? = some o'):(h.setIfInBounds b o)[b]? = some o:=by
 rw[Array.getElem?_setIfInBounds,if_pos rfl,if_pos (Za hb)]
theorem Yf {b b':Nat} {o:Obj} (hb:b≠b'):(h.setIfInBounds b o)[b']? = h[b']?:=by
 rw[Array.getElem?_setIfInBounds,if_neg hb]
variable {P:Program} {T:World} {K:Value→Hp→Prop} {ty:TypeId}
@[go_sem] theorem Zik {cs:Array Bool} {t:TypeId} {p:Option Addr} {l c:Nat} (ht:(JI P t).isSome=true):T9 P T .cap #[t] ty cs [.slice p l c] K h=K (.int .i64 c) h:=by
 unfold JI at ht;split at ht
 ·rename_i e hu;show hw P (do pure (.value (←Builtin.cap_ #[t] ty #[.slice p l c]))) (Xy P T K) h=_;rw[Zg];show hw P (do
   match ←underlying t,(Value.slice p l c) with
   | .array n _,_=>pure (goInt n)
   | .pointer arr,_=>
    let .array n _ ←underlying arr|stuck "cap: pointer to array expected"
    pure (goInt n)
   | .slice _,.slice _ _ n=>pure (goInt n)
   | .chan _ _,.chan none=>pure (goInt 0)
   | .chan _ _,.chan (some r)=>
    let .chan n _ _ _ _ timer ←getObj r|stuck "cap: channel expected"
    pure (goInt (if timer then 0 else n))
   | _,_=>stuck "cap: array, pointer to array, slice or channel expected") K h=_
  rw[Zg,Zu hu];rfl
 ·cases ht
theorem gW {dT sT E E' b o dl dc k n:Nat} {c news:List Value} {cb:Array Bool} {s:Value} (hd:JI P dT=some E) (hn:tn P E=some n) (hb:h[b]? = some (.cells c.toArray E' (0,0)))
  (src:Sl n h s k news) (Xc:(news.take (min k dl*n)).all Z7=true) (Ys:o+min k dl*n≤c.length)
  (H:K (.int .i64 ((min k dl:Nat):Int)) (h.setIfInBounds b (.cells (Yw c o (news.take (min k dl*n))).toArray E' (0,0)))) :
  T9 P T .copy #[dT,sT] ty cb [.slice (some ⟨b,o,none⟩) dl dc,s] K h:=by
 unfold JI at hd;split at hd
 ·rename_i e' hu;simp only[Option.some.injEq]at hd;subst hd;show hw P (do pure (.value (←Builtin.copy_ #[dT,sT] ty #[.slice (some ⟨b,o,none⟩) dl dc,s])) ) (Xy P T K) h;rw[Zg];show hw P (Builtin.copy_ #[dT,sT] ty #[.slice (some ⟨b,o,none⟩) dl dc,s]) K h;simp only[Builtin.copy_,List.getElem?_toArray,List.getElem?_cons_zero,List.getElem?_cons_succ,Zg,Zw,Zu hu,run_sizeOf hn,src.lenOf];have hlen:news.length=k*n:=by obtain⟨_,_,_,hl,_⟩:=src;simpa using hl
  obtain⟨p,cap,rfl,hl,hc⟩:=src;have hm:Nat.min k dl=min k dl:=rfl;rw[hm];obtain⟨m,hmm⟩:=Zx (min k dl);rw[←hmm]at Ys Xc H ⊢;have dy:m≤k:=by omega
  have hmn:m*n≤k*n:=Nat.mul_le_mul_right _ dy;rw[Wf (k':=m) (c':=cap)];refine Z4 (Sl.zi ⟨p,cap,rfl,hl,hc⟩ dy cap) ?_;refine Yk (a:=⟨b,o,none⟩) (e:=E') (lo:=0) (hi:=0) rfl (Nat.le_refl _) (news.take (m*n)) 0 h c.toArray hb ?_ ?_ ?_
  ·simp;omega
  ·exact Xc
  ·simp only[Zw,Nat.add_zero];exact H
 ·cases hd
theorem Fp {f:FuncId} {fn:Func} {e:Array Value→Sem Value} (hf:P.funcs[f]? = some fn) (Ze2:(fn.name == "runtime.NumGoroutine")=false) (hb:fn.body.isNone=true) (hn:Extern.findNext fn=none) (he:Extern.find fn=some e)
  {l:List Value} (H:hw P (e l.toArray) K h):LZ P T (.func (.func f) #[] #[]) l K h:=by
 have h1:fn.name ≠ "runtime.NumGoroutine" := by simpa using Ze2
 have h2:fn.body=none:=by simpa using hb
 have hg:¬goes P f=true:=by unfold goes;rw[hf];simp[h2]
 show if goes P f=true then Zc P T f (([]:List Value)++l++[]).toArray h K else hw P (callFunc f (([]:List Value)++l++[]).toArray) (Xy P T K) h
 rw[if_neg hg,List.nil_append,List.append_nil];unfold callFunc;rw[Zg];simp only[program,hw,hf];rw[if_neg (by simpa using h1),if_pos (by rw[h2];rfl),Zg];simp only[mark,hw,hn,he];rw[Zg];exact H
end
theorem AK {P:Program} {L:List Char} {x:Bool × List Char} (h:P.initOrder=String.ofList L) (h2:(match wordsSigns L with|h :: s :: _=>if !isSumSigns s then none else if h == "harness".toList then some (true,s) else if h == "ownmain".toList then some (false,s) else none|_=>none)=some x):P.mainIs=some x:=by
 unfold Program.mainIs;rw[h,String.toList_ofList];exact h2
end Go.V
