/- W20: append of zeros, and where its result lies; two slices of two types of elements. -/
import Derived.Test.YtkfhncfkagcamaaGreatDoorW19
namespace Go.V
set_option linter.unusedVariables false
set_option linter.unusedSimpArgs false
section
variable {P:Program} {T:World} {K:Value→Hp→Prop} {F:Env} {h:Hp} {ty:TypeId}
theorem Gs {sT xT E B n m k bytes:Nat} {v:Value} {cs zs:List Value} {cb:Array Bool} (Uz:Jf P sT=some E) (Gc:P.underlying xT=some (.int .i64)) (hn:tn P E=some n) (hz:tz P E=some zs) (Bu:zs.length=n) (I1:n≠0) (St:tb P E=some bytes)
  (own:Ql B E n h v m cs) (hB:B≤h.size) (Xd:(Builtin.zeroCells zs.toArray k).toList.all Z5=true) (Ym:(m+k)*bytes≤140737488355328) (Iq:1≤bytes)
  (H:∀v' h',Ql B E n h' v' (m+k) (cs++(Builtin.zeroCells zs.toArray k).toList)→VT (ZM v) h h'→(∀p cap,v=.slice p m cap→cap<m+k→Ze h.size h h'∧∃c,v'=.slice (some ⟨h.size,0,none⟩) (m+k) c)→K v' h'):Sq P T .append #[sT,xT] ty cb [v,.int .i64 (k:Nat)] K h:=by
 have qm:k*bytes≤140737488355328:=Nat.le_trans (Nat.mul_le_mul_right _ (by omega)) Ym
 have Zka:k≤140737488355328:=Nat.le_trans (by have:=Nat.mul_le_mul_left k Iq;omega) qm
 have Qq:(Builtin.zeroCells zs.toArray k).toList.length=k*n:=by rw[Array.length_toList,YA];simp[Bu]
 obtain⟨news,El⟩:=Zu ((Builtin.zeroCells zs.toArray k).toList)
 rw[←El]at Xd Qq H
 unfold Jf at Uz
 split at Uz
 ·rename_i e' hu
  simp only[Option.some.injEq]at Uz
  subst Uz
  show hw P (do pure (.value (←Builtin.append_ #[sT,xT] ty #[v,.int .i64 (k:Nat)]))) (Xm P T K) h
  rw[Zf]
  show hw P (Builtin.append_ #[sT,xT] ty #[v,.int .i64 (k:Nat)]) K h
  obtain⟨i0,TC⟩:∃i,P.info? e'=some i:=by
   unfold tn at hn
   cases hi:P.info? e' with
   | none=>rw[hi]at hn;cases hn
   | some i=>exact⟨i,rfl⟩
  have Rp:i0.bytes=bytes:=by unfold tb at St;rw[TC]at St;simpa using St
  obtain⟨z0,FC,Bv⟩:∃z,i0.zero=some z∧z.cells.toList=zs:=by
   unfold tz at hz;rw[TC]at hz
   cases MD:i0.zero with
   | none=>rw[Option.bind_some,MD]at hz;cases hz
   | some z=>rw[Option.bind_some,MD]at hz;exact⟨z,rfl,by simpa using hz⟩
  have ze:z0.cells=zs.toArray:=by rw[←Bv]
  have qQ:∃base cap,v=.slice base m cap:=by
   rcases own with⟨⟨p,rfl⟩,rfl,_⟩|⟨b,cap,sp,_,rfl,_⟩
   ·exact⟨_,_,rfl⟩
   ·exact⟨_,_,rfl⟩
  obtain⟨base,cap,hv⟩:=qQ
  subst hv
  have fb:∀{Q:Value→Hp→Prop} (g:Hp),hw P (zeroValue e') Q g=Q z0 g:=fun {Q} g=>by
   unfold zeroValue;rw[Zf,Y1 TC];simp only[FC];rfl
  have ln:IntKind.i64.wrap ((k:Nat):Int)=(k:Nat):=Vo .i64 k (by show k<2 ^ 63;omega)
  have Rq:∀{Q:Int→Hp→Prop} (g:Hp),hw P (asInt (.int .i64 (k:Nat))) Q g=Q (k:Nat) g:=fun {Q} g=>by
   rfl
  have zf:¬((k:Nat):Int)<0:=by omega
  have h48:¬((k:Nat):Int)*(i0.bytes:Nat)>2 ^ 48:=by
   rw[Rp,←Int.natCast_mul]
   have:k*bytes≤2 ^ 48:=by omega
   have h2:((k*bytes:Nat):Int)≤2 ^ 48:=by exact_mod_cast this
   omega
  simp only[Builtin.append_,List.getElem?_toArray,List.getElem?_cons_zero,List.getElem?_cons_succ,Zf,Zt,Zr hu,Zr Gc,run_sizeOf hn,if_true,Rq,ln,if_neg zf,Y1 TC,if_neg h48,Int.toNat_natCast,Bool.not_true,Bool.false_eq_true,if_false]
  have lq:∀{Q:Array Value→Hp→Prop} (g:Hp),Q news.toArray g→hw P (if k*n=0 then pure #[] else do pure (Builtin.zeroCells (←zeroValue e').cells k)) Q g:=fun {Q} g q=>by
   by_cases h0:k*n=0
   ·rw[if_pos h0]
    have:k=0:=by
     rcases Nat.mul_eq_zero.1 h0 with h|h
     ·exact h
     ·exact (I1 h).elim
    subst this
    have e:news=[]:=List.eq_nil_of_length_eq_zero (by rw[Qq];omega)
    rw[e]at q
    exact q
   ·rw[if_neg h0,Zf,fb,ze]
    rw[El,Array.toArray_toList]at q
    exact q
  by_cases Xr:m+k≤cap
  ·rw[if_pos Xr,Zf]
   refine lq _ ?_
   by_cases Yr:news=[]
   ·rw[Yr]
    rw[Yr]at Qq H
    have hK:K (.slice base (m+k) cap) h:=by
     refine H _ _ ?_ VT.refl (fun p' Li e hc=>by simp only[Value.slice.injEq]at e;omega)
     rcases own with⟨⟨p,h1⟩,h2,h3⟩|⟨b,Li,spare,MF,h1,hb,hl,SY,bF⟩
     ·simp only[Value.slice.injEq]at h1
      obtain⟨rfl,rfl,rfl⟩:=h1
      have hk:k=0:=by omega
      subst hk;subst h3
      exact .inl ⟨⟨_,rfl⟩,rfl,rfl⟩
     ·simp only[Value.slice.injEq]at h1
      obtain⟨rfl,_,rfl⟩:=h1
      have jk:k*n=0:=by simpa using Qq.symm
      refine .inr ⟨b,cap,spare,MF,rfl,by simpa using hb,by rw[List.append_nil,hl,Nat.add_mul,jk];rfl,?_,Xr⟩
      rw[SY,Nat.sub_mul,Nat.sub_mul,Nat.add_mul,jk,Nat.add_zero]
    cases base<;>exact hK
   rcases own with⟨⟨p,h1⟩,h2,h3⟩|⟨b,Li,spare,MF,h1,hb,hl,SY,bF⟩
   ·simp only[Value.slice.injEq]at h1
    obtain⟨rfl,rfl,rfl⟩:=h1
    have hk:k=0:=by omega
    subst hk
    exact (Yr (List.eq_nil_of_length_eq_zero (by simpa using Qq))).elim
   ·simp only[Value.slice.injEq]at h1
    obtain⟨rfl,_,rfl⟩:=h1
    simp only[Zf,YQ]
    have VU:news.length≤spare.length:=by rw[Qq,SY];exact Nat.mul_le_mul_right _ (by omega)
    refine Yf (e:=e') (lo:=0) (hi:=0) rfl (Nat.le_refl _) news 0 h (cs++spare).toArray hb ?_ Xd ?_
    ·simp;rw[←hl];omega
    ·simp only[Zt,Nat.zero_add,Nat.add_zero]
     refine H _ _ (.inr ⟨b,cap,spare.drop news.length,MF,rfl,?_,?_,?_,Xr⟩) ⟨by simp,fun b' X3 hx=>?_⟩ (fun p' Li e hc=>by simp only[Value.slice.injEq]at e;omega)
     ·rw[Array.getElem?_setIfInBounds,if_pos rfl,if_pos (Za hb)]
      rw[←hl,UR,Qa _ _ VU,List.append_assoc]
     ·rw[List.length_append,hl,Qq,Nat.add_mul]
     ·rw[List.length_drop,SY,Qq,←Nat.sub_mul];congr 1;omega
     ·rw[Array.getElem?_setIfInBounds,if_neg]
      intro e;subst e
      have yQ:cap≠0:=by
       intro h0;subst h0
       have:k=0:=by omega
       subst this
       exact Yr (List.eq_nil_of_length_eq_zero (by simpa using Qq))
      exact hx (by simp[ZM,yQ])
  ·rw[if_neg Xr]
   have Jg:¬Builtin.nextslicecap (m+k) cap*i0.bytes>2 ^ 48:=by
    rw[Rp]
    have:=US (m+k) cap bytes (by omega) Ym
    omega
   have Bw:¬i0.bytes=0:=by rw[Rp];omega
   have bN:m+k≤140737488355328:=Nat.le_trans (by have:=Nat.mul_le_mul_left (m+k) Iq;omega) Ym
   have lu:¬((m+k:Nat):Int)>IntKind.i64.max:=by
    have:IntKind.i64.max=9223372036854775807:=rfl
    rw[this];omega
   simp only[Zf,Y1 TC,lu,false_and,if_false,if_neg Jg]
   intro t
   obtain⟨c,hc⟩:=Zu (Question.cut (Question.appendCap (m+k) cap e') t)
   have kP:m+k≤c:=by rw[hc];simp only[Question.cut];omega
   rw[←hc]
   have Rq:∀{Q:Unit→Hp→Prop} (b:Nat) (g:Hp),Q () g→hw P (askRoom b) Q g:=fun {Q} b g q=>by
    unfold askRoom;split<;>exact q
   refine Rq _ _ (Z3 own.sl (lq _ ?_))
   rw[fb]
   have kQ:z0.cells.size=n:=by rw[←Bu,←Bv];simp
   refine H (.slice (some ⟨h.size,0,none⟩) (m+k) c) _ (.inr ⟨h.size,c,(Builtin.zeroCells z0.cells (c-(m+k))).toList,hB,rfl,?_,?_,?_,kP⟩) (VT.push _) (fun _ _ _ _=>⟨Ze.push (Nat.le_refl _) _,c,rfl⟩)
   ·rw[Array.getElem?_push_size]
    simp
   ·have X4:cs.length=m*n:=by obtain⟨_,_,_,hl,_⟩:=own.sl;exact hl
    rw[List.length_append,X4,Qq,Nat.add_mul]
   ·rw[Array.length_toList,YA,kQ]
 ·cases Uz
end
section
variable {h h':Hp}
theorem Ql.TN {B:Nat} {E:TypeId} {n:Nat} {p:Option Addr} {k c:Nat} {cs:List Value} (s:Ql B E n h (.slice p k c) k cs) {m:Nat} (hm:m≤k):Ql B E n h (.slice p m c) m (cs.take (m*n)):=by
 rcases s with⟨⟨q,h1⟩,h2,h3⟩|⟨b,cap,spare,hB,h1,hg,hl,hs,hc⟩
 ·simp only[Value.slice.injEq]at h1
  obtain⟨rfl,rfl,rfl⟩:=h1
  have e:m=0:=by omega
  subst e
  subst h3
  exact .inl ⟨⟨_,rfl⟩,rfl,by simp⟩
 ·simp only[Value.slice.injEq]at h1
  obtain⟨rfl,_,rfl⟩:=h1
  have hmn:m*n≤k*n:=Nat.mul_le_mul_right _ hm
  have kP:k*n≤c*n:=Nat.mul_le_mul_right _ hc
  refine .inr ⟨b,c,cs.drop (m*n)++spare,hB,rfl,?_,?_,?_,by omega⟩
  ·rw[←List.append_assoc,List.take_append_drop];exact hg
  ·rw[List.length_take];omega
  ·rw[List.length_append,List.length_drop,hl,hs,Nat.sub_mul,Nat.sub_mul];omega
theorem UM {b:Nat} {E:TypeId} {n m c:Nat} {pre cs post:List Value} (hg:h[b]? = some (.cells (pre++(cs++post)).toArray E)) (hl:cs.length=m*n) {o:Nat} (ho:o=pre.length):Sl n h (.slice (some ⟨b,o,none⟩) m c) m cs:=by
 refine⟨_,c,rfl,hl,fun _=>⟨b,o,rfl,fun i hi=>?_⟩⟩
 subst ho
 rw[Vn hg]
 simp only[List.getElem?_toArray]
 rw[List.getElem?_append_right (by omega),Nat.add_sub_cancel_left,List.getElem?_append_left hi,List.getElem?_eq_getElem hi]
theorem Wt {a b c vs:List Value} {o:Nat} (ho:o=a.length) (hv:vs.length=b.length):Yl (a++(b++c)) o vs=a++(vs++c):=by
 subst ho
 rw[UR,Qa _ _ (by rw[List.length_append];omega),hv,List.drop_append,List.drop_length,Nat.sub_self,List.drop_zero,List.nil_append]
theorem Ql.spare {B:Nat} {E:TypeId} {n:Nat} {p:Option Addr} {k c:Nat} {cs:List Value} (s:Ql B E n h (.slice p k c) k cs) (hk:c≠0):∃b spare,B≤b∧p=some ⟨b,0,none⟩∧h[b]? = some (.cells (cs++spare).toArray E)∧cs.length=k*n∧spare.length=(c-k)*n∧k≤c:=by
 rcases s with⟨⟨q,h1⟩,h2,h3⟩|⟨b,cap,spare,hB,h1,hg,hl,hs,hc⟩
 ·simp only[Value.slice.injEq]at h1
  exact (hk h1.2.2).elim
 ·simp only[Value.slice.injEq]at h1
  obtain⟨rfl,_,rfl⟩:=h1
  exact⟨b,spare,hB,rfl,hg,hl,hs,hc⟩
theorem Ql.BI {B b:Nat} {E:TypeId} {n k c:Nat} {cs spare:List Value} (hB:B≤b) (hg:h[b]? = some (.cells (cs++spare).toArray E)) (hl:cs.length=k*n) (hs:spare.length=(c-k)*n) (hc:k≤c):Ql B E n h (.slice (some ⟨b,0,none⟩) k c) k cs:=
 .inr ⟨b,c,spare,hB,rfl,hg,hl,hs,hc⟩
theorem Zw {b:Nat} {o o':Obj} (hb:h[b]? = some o'):(h.setIfInBounds b o)[b]? = some o:=by
 rw[Array.getElem?_setIfInBounds,if_pos rfl,if_pos (Za hb)]
theorem Yh {b b':Nat} {o:Obj} (hb:b≠b'):(h.setIfInBounds b o)[b']? = h[b']?:=by
 rw[Array.getElem?_setIfInBounds,if_neg hb]
variable {P:Program} {T:World} {K:Value→Hp→Prop} {ty:TypeId}
@[go_sem] theorem ZgS {cs:Array Bool} {t:TypeId} {p:Option Addr} {l c:Nat} (ht:(Jf P t).isSome=true):Sq P T .cap #[t] ty cs [.slice p l c] K h=K (.int .i64 c) h:=by
 unfold Jf at ht
 split at ht
 ·rename_i e hu
  show hw P (do pure (.value (←Builtin.cap_ #[t] ty #[.slice p l c]))) (Xm P T K) h=_
  rw[Zf]
  show hw P (do
   match ←underlying t,(Value.slice p l c) with
   | .array n _,_=>pure (goInt n)
   | .pointer arr,_=>
    let .array n _ ←underlying arr|stuck "cap: pointer to array expected"
    pure (goInt n)
   | .slice _,.slice _ _ n=>pure (goInt n)
   | .chan _ _,.chan none=>pure (goInt 0)
   | .chan _ _,.chan (some r)=>
    let .chan n _ _ _ _ timer ←getObj r|stuck "cap: channel expected"
    pure (goInt (if timer then 0 else n))
   | _,_=>stuck "cap: array, pointer to array, slice or channel expected") K h=_
  rw[Zf,Zr hu];rfl
 ·cases ht
theorem fu {dT sT E E' b o dl dc k n:Nat} {c news:List Value} {cb:Array Bool} {s:Value} (hd:Jf P dT=some E) (hn:tn P E=some n) (hb:h[b]? = some (.cells c.toArray E' (0,0)))
  (src:Sl n h s k news) (Xd:(news.take (min k dl*n)).all Z5=true) (Ym:o+min k dl*n≤c.length)
  (H:K (.int .i64 ((min k dl:Nat):Int)) (h.setIfInBounds b (.cells (Yl c o (news.take (min k dl*n))).toArray E' (0,0)))) :
  Sq P T .copy #[dT,sT] ty cb [.slice (some ⟨b,o,none⟩) dl dc,s] K h:=by
 unfold Jf at hd
 split at hd
 ·rename_i e' hu
  simp only[Option.some.injEq]at hd
  subst hd
  show hw P (do pure (.value (←Builtin.copy_ #[dT,sT] ty #[.slice (some ⟨b,o,none⟩) dl dc,s])) ) (Xm P T K) h
  rw[Zf]
  show hw P (Builtin.copy_ #[dT,sT] ty #[.slice (some ⟨b,o,none⟩) dl dc,s]) K h
  simp only[Builtin.copy_,List.getElem?_toArray,List.getElem?_cons_zero,List.getElem?_cons_succ,Zf,Zt,Zr hu,run_sizeOf hn,src.lenOf]
  have hlen:news.length=k*n:=by obtain⟨_,_,_,hl,_⟩:=src;simpa using hl
  obtain⟨p,cap,rfl,hl,hc⟩:=src
  have hm:Nat.min k dl=min k dl:=rfl
  rw[hm]
  obtain⟨m,hmm⟩:=Zu (min k dl)
  rw[←hmm]at Ym Xd H ⊢
  have bN:m≤k:=by omega
  have hmn:m*n≤k*n:=Nat.mul_le_mul_right _ bN
  rw[UW (k':=m) (c':=cap)]
  refine Z3 (Sl.lI ⟨p,cap,rfl,hl,hc⟩ bN cap) ?_
  refine Yf (a:=⟨b,o,none⟩) (e:=E') (lo:=0) (hi:=0) rfl (Nat.le_refl _) (news.take (m*n)) 0 h c.toArray hb ?_ ?_ ?_
  ·simp;omega
  ·exact Xd
  ·simp only[Zt,Nat.add_zero]
   exact H
 ·cases hd
theorem Gt {f:FuncId} {fn:Func} {e:Array Value→Sem Value} (hf:P.funcs[f]? = some fn) (Zdm:(fn.name == "runtime.NumGoroutine")=false) (hb:fn.body.isNone=true) (hn:Extern.findNext fn=none) (he:Extern.find fn=some e)
  {l:List Value} (H:hw P (e l.toArray) K h):M0 P T (.func (.func f) #[] #[]) l K h:=by
 have h1:fn.name ≠ "runtime.NumGoroutine" := by simpa using Zdm
 have h2:fn.body=none:=by simpa using hb
 have hg:¬goes P f=true:=by unfold goes;rw[hf];simp[h2]
 show if goes P f=true then Zd P T f (([]:List Value)++l++[]).toArray h K else hw P (callFunc f (([]:List Value)++l++[]).toArray) (Xm P T K) h
 rw[if_neg hg,List.nil_append,List.append_nil]
 unfold callFunc
 rw[Zf]
 simp only[program,hw,hf]
 rw[if_neg (by simpa using h1),if_pos (by rw[h2];rfl),Zf]
 simp only[mark,hw,hn,he]
 rw[Zf]
 exact H
end
theorem Rv {P:Program} {L:List Char} {x:Bool × List Char} (h:P.initOrder=String.ofList L) (h2:(match wordsSigns L with|h :: s :: _=>if !isSumSigns s then none else if h == "harness".toList then some (true,s) else if h == "ownmain".toList then some (false,s) else none|_=>none)=some x):P.mainIs=some x:=by
 unfold Program.mainIs
 rw[h,String.toList_ofList];exact h2
end Go.V
