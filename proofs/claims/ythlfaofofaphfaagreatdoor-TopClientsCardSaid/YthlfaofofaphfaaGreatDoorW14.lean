/- Part W14. -/
import Derived.Test.YthlfaofofaphfaaGreatDoorW13
open Go.Value renaming slice→d
open List renaming length→l
open Go.Builtin renaming copy_→i,firstCells→j
namespace Go.V
set_option linter.unusedVariables false
set_option linter.unusedSimpArgs false
section
variable {P:Program} {T:World} {K:Value->Hp->Prop} {F:Env} {h:Hp} {ty:TypeId}
theorem Th{n m:Nat}{p:Option Addr}{k c k' c':Nat}:j n m (d p k c)=j n m (d p k' c'):=by cases p<;>rfl
theorem Gn{dT sT E E' b o dl dc k:Nat}{c news:List Value}{cb:Array Bool}{s:Value}(hd:QR P dT=some E)(hn:tn P E=some 1)(hb:h[b]? = some (.cells c.toArray E' (0,0)))(src:Sl 1 h s k news)(XV:news.all YC=true)(Y7:o+min k dl<=(l c))(H:K (.int .i64 ((min k dl:Nat):Int)) (h.setIfInBounds b (.cells (Y9 c o (news.take (min k dl))).toArray E' (0,0)))):
  Pm P T .copy #[dT,sT] ty cb [d (some ⟨b,o,none⟩) dl dc,s] K h:=by
 unfold QR at hd;split at hd
 .rename_i e' hu;simp only[Option.some.injEq]at hd;subst hd;show hw P (do pure (.value (<-i #[dT,sT] ty #[d (some ⟨b,o,none⟩) dl dc,s])) ) (Jt P T K) h;rw[Zm];show hw P (i #[dT,sT] ty #[d (some ⟨b,o,none⟩) dl dc,s]) K h;simp only[i,List.getElem?_toArray,List.getElem?_cons_zero,List.getElem?_cons_succ,Zm,ZN,ZH hu,run_sizeOf hn,src.lenOf];have hlen:(l news)=k:=by obtain⟨_,_,_,hl,_⟩:=src;simpa using hl
  obtain⟨p,cap,rfl,hl,hc⟩:=src;have hm:Nat.min k dl=min k dl:=rfl;rw[hm];obtain⟨m,hmm⟩:=ZQ (min k dl);rw[<-hmm]at Y7 H ⊢;have kO:m<=k:=nc;rw[Th (k':=m) (c':=cap)];refine YA (Sl.NL ⟨p,cap,rfl,hl,hc⟩ kO cap) ?_;refine YV (a:=⟨b,o,none⟩) (e:=E') (lo:=0) (hi:=0) rfl (Nat.le_refl _) (news.take m) 0 h c.toArray hb ?_ ?_ ?_
  .simp;omega
  .rw[List.all_eq_true]at XV ⊢;exact fun x hx=>XV x (List.mem_of_mem_take hx)
  .simp only[ZN,Nat.add_zero];exact H
 .cases hd
end
end Go.V
