/- Part W14. -/
import Derived.Test.YtnhfdnlcpdbjlaaGreatDoorW13
open Go.Value renaming slice→d
open List renaming length→l
open Go.Builtin renaming copy_→i,firstCells→j
namespace Go.V
set_option linter.all false
section
variable {P:Program} {T:World} {K:Value->Hp->Prop} {F:Env} {h:Hp} {ty:TypeId}
theorem VV{n m:Nat}{p:Option Addr}{k c k' c':Nat}:j n m (d p k c)=j n m (d p k' c'):=by cases p<;>rfl
theorem H5{dT sT E E' b o dl dc k:Nat}{c news:List Value}{cb:Array Bool}{s:Value}(hd:QE P dT=some E)(hn:tn P E=some 1)(hb:h[b]? = some (.cells c.toArray E' (0,0)))(src:Sl 1 h s k news)(X1:news.all YN=true)(Xa:o+min k dl<=(l c))(H:K (.int .i64 ((min k dl:Nat):Int)) (h.setIfInBounds b (.cells (Xd c o (news.take (min k dl))).toArray E' (0,0)))):
  Ps P T .copy #[dT,sT] ty cb [d (some ⟨b,o,none⟩) dl dc,s] K h:=by
 unfold QE at hd;split at hd
 .rename_i e' hu;simp only[Option.some.injEq]at hd;subst hd;show hw P (do pure (.value (<-i #[dT,sT] ty #[d (some ⟨b,o,none⟩) dl dc,s])) ) (Jr P T K) h;rw[Zj];show hw P (i #[dT,sT] ty #[d (some ⟨b,o,none⟩) dl dc,s]) K h;simp only[i,List.getElem?_toArray,List.getElem?_cons_zero,List.getElem?_cons_succ,Zj,ZO,ZM hu,run_sizeOf hn,src.lenOf];have hlen:(l news)=k:=by obtain⟨_,_,_,hl,_⟩:=src;simpa using hl
  obtain⟨p,cap,rfl,hl,hc⟩:=src;have hm:Nat.min k dl=min k dl:=rfl;rw[hm];obtain⟨m,hmm⟩:=ZP (min k dl);rw[<-hmm]at Xa H ⊢;have BD:m<=k:=mD;rw[VV (k':=m) (c':=cap)];refine YE (Sl.Na ⟨p,cap,rfl,hl,hc⟩ BD cap) ?_;refine YZ (a:=⟨b,o,none⟩) (e:=E') (lo:=0) (hi:=0) rfl (Nat.le_refl _) (news.take m) 0 h c.toArray hb ?_ ?_ ?_
  .simp;omega
  .rw[List.all_eq_true]at X1 ⊢;exact fun x hx=>X1 x (List.mem_of_mem_take hx)
  .simp only[ZO,Nat.add_zero];exact H
 .cases hd
end
end Go.V
