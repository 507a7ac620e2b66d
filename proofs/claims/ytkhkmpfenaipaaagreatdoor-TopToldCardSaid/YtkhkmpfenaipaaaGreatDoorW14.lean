/- Part W14. -/
import Derived.Test.YtkhkmpfenaipaaaGreatDoorW13
open Go.Value renaming slice→d
open List renaming toArray→l,length→t
open Go.Builtin renaming copy_→i,firstCells→j
namespace Go.V
set_option linter.all false
section
variable {P:Program} {T:World} {K:Value->Hp->Prop} {F:Env} {h:Hp} {ty:TypeId}
theorem T3{n m:Nat}{p:Option Addr}{k c k' c':Nat}:j n m (d p k c)=j n m (d p k' c'):=by cases p<;>rfl
theorem Ek{g n E E' b o dl dc k:Nat}{c news:List Value}{cb:Array Bool}{s:Value}(f:Un P g=some E)(w:tn P E=some 1)(hb:h[b]? = some (.cells (l c) E' (0,0)))(src:Sl 1 h s k news)(A:news.all YV=true)(y:o+min k dl<=(t c))(H:K (.int .i64 ((min k dl:Nat):Int)) (Array.setIfInBounds h b (.cells (XB c o (news.take (min k dl))).toArray E' (0,0)))):
  OV P T .copy #[g,n] ty cb [d (some ⟨b,o,none⟩) dl dc,s] K h:=by
 unfold Un at f;split at f
 .rename_i z v;simp only[Option.some.injEq]at f;subst f;show hw P (do pure (.value (<-i #[g,n] ty #[d (some ⟨b,o,none⟩) dl dc,s])) ) (JX P T K) h;rw[Zk];show hw P (i #[g,n] ty #[d (some ⟨b,o,none⟩) dl dc,s]) K h;simp only[i,List.getElem?_toArray,List.getElem?_cons_zero,List.getElem?_cons_succ,Zk,ZS,ZL v,run_sizeOf w,src.lenOf];have hlen:(t news)=k:=by let⟨_,_,_,r,_⟩:=src;simpa using r
  obtain⟨p,cap,rfl,r,hc⟩:=src;have x:Nat.min k dl=min k dl:=rfl;rw[x];let⟨m,q⟩:=ZO (min k dl);rw[<-q]at y H ⊢;have u:m<=k:=uh;rw[T3 (k':=m) (c':=cap)];refine YW (Sl.MF ⟨p,cap,rfl,r,hc⟩ u cap) ?_;refine Xf (a:=⟨b,o,none⟩) (e:=E') (lo:=0) (hi:=0) rfl (Nat.le_refl _) (news.take m) 0 h (l c) hb ?_ ?_ ?_
  .simp;omega
  .grind
  .simp only[ZS,Nat.add_zero];exact H
 .cases f
end
end Go.V
