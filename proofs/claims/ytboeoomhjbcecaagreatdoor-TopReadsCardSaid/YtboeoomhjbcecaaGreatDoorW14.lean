/- W14: copy of bytes (or of whatever takes one cell) into a block. -/
import Derived.Test.YtboeoomhjbcecaaGreatDoorW13
namespace Go.V
set_option linter.unusedVariables false
set_option linter.unusedSimpArgs false
section
variable {P:Program} {T:World} {K:Value→Hp→Prop} {F:Env} {h:Hp} {ty:TypeId}
theorem Wf {n m:Nat} {p:Option Addr} {k c k' c':Nat}:Builtin.firstCells n m (.slice p k c)=Builtin.firstCells n m (.slice p k' c'):=by cases p<;>rfl
theorem Ko {dT sT E E' b o dl dc k:Nat} {c news:List Value} {cb:Array Bool} {s:Value} (hd:JI P dT=some E) (hn:tn P E=some 1) (hb:h[b]? = some (.cells c.toArray E' (0,0)))
  (src:Sl 1 h s k news) (Xc:news.all Z7=true) (Ys:o+min k dl≤c.length)
  (H:K (.int .i64 ((min k dl:Nat):Int)) (h.setIfInBounds b (.cells (Yw c o (news.take (min k dl))).toArray E' (0,0)))) :
  T9 P T .copy #[dT,sT] ty cb [.slice (some ⟨b,o,none⟩) dl dc,s] K h:=by
 unfold JI at hd;split at hd
 ·rename_i e' hu;simp only[Option.some.injEq]at hd;subst hd;show hw P (do pure (.value (←Builtin.copy_ #[dT,sT] ty #[.slice (some ⟨b,o,none⟩) dl dc,s])) ) (Xy P T K) h;rw[Zg];show hw P (Builtin.copy_ #[dT,sT] ty #[.slice (some ⟨b,o,none⟩) dl dc,s]) K h;simp only[Builtin.copy_,List.getElem?_toArray,List.getElem?_cons_zero,List.getElem?_cons_succ,Zg,Zw,Zu hu,run_sizeOf hn,src.lenOf];have hlen:news.length=k:=by obtain⟨_,_,_,hl,_⟩:=src;simpa using hl
  obtain⟨p,cap,rfl,hl,hc⟩:=src;have hm:Nat.min k dl=min k dl:=rfl;rw[hm];obtain⟨m,hmm⟩:=Zx (min k dl);rw[←hmm]at Ys H ⊢;have dy:m≤k:=by omega
  rw[Wf (k':=m) (c':=cap)];refine Z4 (Sl.Rl ⟨p,cap,rfl,hl,hc⟩ dy cap) ?_;refine Yk (a:=⟨b,o,none⟩) (e:=E') (lo:=0) (hi:=0) rfl (Nat.le_refl _) (news.take m) 0 h c.toArray hb ?_ ?_ ?_
  ·simp;omega
  ·rw[List.all_eq_true]at Xc ⊢;exact fun x hx=>Xc x (List.mem_of_mem_take hx)
  ·simp only[Zw,Nat.add_zero];exact H
 ·cases hd
end
end Go.V
