/- Part W14. -/
import Derived.Test.YtdapjaalaomghaaGreatDoorW13
open Go.Value renaming slice→d
open List renaming length→l
open Go.Builtin renaming copy_→i,firstCells→j
namespace Go.V
set_option linter.all false
section
variable {P:Program} {T:World} {K:Value->Hp->Prop} {F:Env} {h:Hp} {ty:TypeId}
theorem Tu{n m:Nat}{p:Option Addr}{k c k' c':Nat}:j n m (d p k c)=j n m (d p k' c'):=by cases p<;>rfl
theorem GG{dT sT E E' b o dl dc k:Nat}{c news:List Value}{cb:Array Bool}{s:Value}(hd:QP P dT=some E)(hn:tn P E=some 1)(hb:h[b]? = some (.cells c.toArray E' (0,0)))(src:Sl 1 h s k news)(XW:news.all YD=true)(Y5:o+min k dl<=(l c))(H:K (.int .i64 ((min k dl:Nat):Int)) (h.setIfInBounds b (.cells (Y8 c o (news.take (min k dl))).toArray E' (0,0)))):
  PY P T .copy #[dT,sT] ty cb [d (some ⟨b,o,none⟩) dl dc,s] K h:=by
 unfold QP at hd;split at hd
 .rename_i e' hu;simp only[Option.some.injEq]at hd;subst hd;show hw P (do pure (.value (<-i #[dT,sT] ty #[d (some ⟨b,o,none⟩) dl dc,s])) ) (Jt P T K) h;rw[Zk];show hw P (i #[dT,sT] ty #[d (some ⟨b,o,none⟩) dl dc,s]) K h;simp only[i,List.getElem?_toArray,List.getElem?_cons_zero,List.getElem?_cons_succ,Zk,ZL,ZH hu,run_sizeOf hn,src.lenOf];have hlen:(l news)=k:=by obtain⟨_,_,_,hl,_⟩:=src;simpa using hl
  obtain⟨p,cap,rfl,hl,hc⟩:=src;have hm:Nat.min k dl=min k dl:=rfl;rw[hm];obtain⟨m,hmm⟩:=ZN (min k dl);rw[<-hmm]at Y5 H ⊢;have lP:m<=k:=nT;rw[Tu (k':=m) (c':=cap)];refine YC (Sl.Md ⟨p,cap,rfl,hl,hc⟩ lP cap) ?_;refine YV (a:=⟨b,o,none⟩) (e:=E') (lo:=0) (hi:=0) rfl (Nat.le_refl _) (news.take m) 0 h c.toArray hb ?_ ?_ ?_
  .simp;omega
  .rw[List.all_eq_true]at XW ⊢;exact fun x hx=>XW x (List.mem_of_mem_take hx)
  .simp only[ZL,Nat.add_zero];exact H
 .cases hd
end
end Go.V
