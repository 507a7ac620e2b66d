/- W17: copies of elements of several cells; a body-less callee ('slices.overlaps'), run in place. -/
import Derived.Test.YtboeoomhjbcecaaGreatDoorW16
import Derived.Lib.Overlaps
namespace Go.V
set_option linter.unusedVariables false
set_option linter.unusedSimpArgs false
section
variable {P:Program} {T:World} {K:Value→Hp→Prop} {F:Env} {h:Hp} {ty:TypeId}
theorem Sl.zi {n:Nat} {p:Option Addr} {k c:Nat} {cs:List Value} (s:Sl n h (.slice p k c) k cs) {m:Nat} (hm:m≤k) (c':Nat):Sl n h (.slice p m c') m (cs.take (m*n)):=by
 obtain⟨p',cap,hv,hl,hc⟩:=s;simp only[Value.slice.injEq]at hv;obtain⟨rfl,_,rfl⟩:=hv;have hmn:m*n≤k*n:=Nat.mul_le_mul_right _ hm;refine⟨p,c',rfl,by rw[List.length_take];omega,fun YA=>?_⟩;obtain⟨b,o,rfl,YS⟩:=hc (by intro e;subst e;simp at YA);refine⟨b,o,rfl,fun i hi=>?_⟩;have Da:i<cs.length:=by rw[List.length_take]at hi;omega
 rw[YS i Da];simp
theorem Nr {dT sT E E' b o dl dc k n:Nat} {c news:List Value} {cb:Array Bool} {s:Value} (hd:JI P dT=some E) (hn:tn P E=some n) (hb:h[b]? = some (.cells c.toArray E' (0,0)))
  (src:Sl n h s k news) (Xc:news.all Z7=true) (Ys:o+min k dl*n≤c.length)
  (H:K (.int .i64 ((min k dl:Nat):Int)) (h.setIfInBounds b (.cells (Yw c o (news.take (min k dl*n))).toArray E' (0,0)))) :
  T9 P T .copy #[dT,sT] ty cb [.slice (some ⟨b,o,none⟩) dl dc,s] K h:=by
 unfold JI at hd;split at hd
 ·rename_i e' hu;simp only[Option.some.injEq]at hd;subst hd;show hw P (do pure (.value (←Builtin.copy_ #[dT,sT] ty #[.slice (some ⟨b,o,none⟩) dl dc,s])) ) (Xy P T K) h;rw[Zg];show hw P (Builtin.copy_ #[dT,sT] ty #[.slice (some ⟨b,o,none⟩) dl dc,s]) K h;simp only[Builtin.copy_,List.getElem?_toArray,List.getElem?_cons_zero,List.getElem?_cons_succ,Zg,Zw,Zu hu,run_sizeOf hn,src.lenOf];have hlen:news.length=k*n:=by obtain⟨_,_,_,hl,_⟩:=src;simpa using hl
  obtain⟨p,cap,rfl,hl,hc⟩:=src;have hm:Nat.min k dl=min k dl:=rfl;rw[hm];obtain⟨m,hmm⟩:=Zx (min k dl);rw[←hmm]at Ys H ⊢;have dy:m≤k:=by omega
  have hmn:m*n≤k*n:=Nat.mul_le_mul_right _ dy;rw[Wf (k':=m) (c':=cap)];refine Z4 (Sl.zi ⟨p,cap,rfl,hl,hc⟩ dy cap) ?_;refine Yk (a:=⟨b,o,none⟩) (e:=E') (lo:=0) (hi:=0) rfl (Nat.le_refl _) (news.take (m*n)) 0 h c.toArray hb ?_ ?_ ?_
  ·simp;omega
  ·rw[List.all_eq_true]at Xc ⊢;exact fun x hx=>Xc x (List.mem_of_mem_take hx)
  ·simp only[Zw,Nat.add_zero];exact H
 ·cases hd
theorem Fm {tS tR e size:Nat} (ht:P.underlying tS=some (.slice e)) (hz:tn P e=some size) {a b:Addr} {la ca lb cb:Nat} (YA:a.block≠b.block)
  {cA cB:List Value} {tA tB:TypeId} (hA:h[a.block]? = some (.cells cA.toArray tA (0,0))) (hB:h[b.block]? = some (.cells cB.toArray tB (0,0))) (kU:cB≠[]) {Q:Value→Hp→Prop} (H:Q (.bool false) h) :
  hw P (Extern.SlicesOverlaps.overlaps #[tS,tS] #[tR] #[.slice (some a) la ca,.slice (some b) lb cb]) Q h:=by
 have WD:(a.block != b.block)=true:=by simpa using YA
 have Zlu:(a.block == b.block)=false:=by simpa using YA
 have hB0:cB.length≠0:=fun e=>kU (List.eq_nil_of_length_eq_zero e);have f1:∀o s,lL h ⟨a.block,o,s⟩=false:=fun o s=>by unfold lL;rw[hA];simp
 have f2:∀o s,lL h ⟨b.block,o,s⟩=false:=fun o s=>by unfold lL;rw[hB];simp
 have s1:U7 h a.block=some (tA,cA.length):=by unfold U7;rw[hA];rfl
 have s2:U7 h b.block=some (tB,cB.length):=by unfold U7;rw[hB];rfl
 show hw P (do
  let some t:=(#[tS,tS]:Array TypeId)[0]?|stuck "slices.overlaps: no parameter types"
  let .slice elem ←underlying t|stuck "slices.overlaps: slice type expected"
  let size ←sizeOf elem
  match (some a:Option Addr),(some b:Option Addr) with
  | some a,some b=>
   if la=0∨lb=0∨size=0 then pure (Value.bool false)
   else if a.block != b.block&&(←frozen a)&&(←frozen b) then unsupported .addressObserved
   else do
    if a.block != b.block then do
     noView a;noView b
     if ←mayBeOne a b then return Value.bool ((←choose (.extern "sameAddr.stringBytes" 2)) == 1)
    pure (Value.bool (a.block == b.block&&a.off<b.off+lb*size&&b.off<a.off+la*size))
  | _,_=>pure (Value.bool false)) Q h
 simp only[List.getElem?_toArray,List.getElem?_cons_zero,Zg,Zw,Zu ht,run_sizeOf hz];by_cases h0:la=0∨lb=0∨size=0
 ·simp[h0,Zw,H]
 ·cases hk:cB.length with
  | zero=>exact absurd hk hB0
  | succ kB=>
   obtain⟨ba,oa,sa⟩:=a;obtain⟨bb,ob,sb⟩:=b;simp[h0,WD,Zlu,frozen,noView,viewAt,mayBeOne,stringish,shape,Zg,Zw,hw,s1,s2,f1,f2,hk,H];exact H
end
section
variable {P:Program} {T:World} {B:Nat} {h0:Hp} {F:Env} {ty:TypeId} {C:Value→Prop} {h:Hp}
@[go_sem] theorem Ze0 {x:Operand} {args:Array Operand} {ts:Array TypeId}:VK P T B h0 (.call ⟨.value x,args,ts⟩) ty C F = ∃v,(∀h':Hp,LZ P T (ev F x) (fR F args.toList) (SU v h') h')∧ap C v:=rfl
@[go_sem ↓] theorem Zij {K:Value→Hp→Prop} {op:BinOp} {t t':TypeId} {x y:Operand}:WQ P T (.binOp op t x y t') ty K F h=Xa P op t x y (ev F x) (ev F y) K h:=rfl
theorem J7 {f:FuncId} {args:Array Value} {r:Value} {C:Value→Prop} (c:∀h,Zc P T f args h fun v' h'=>v'=r∧h'=h) (H:C r):∃v,(∀h':Hp,Zc P T f args h' (SU v h'))∧ap C v:=⟨r,fun h'=>c h',H⟩
theorem Q4 {f:FuncId} {args:Array Value} {r:Value} {C:Value→Prop} (c:Zc P T f args h fun v' h'=>v'=r∧h'=h) (H:C r):∃v,Zc P T f args h (SU v h)∧ap C v:=⟨r,c,H⟩
end
end Go.V
