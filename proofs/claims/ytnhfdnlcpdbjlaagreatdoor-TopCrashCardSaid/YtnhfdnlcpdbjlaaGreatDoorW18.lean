/- Part W18. -/
import Derived.Test.YtnhfdnlcpdbjlaaGreatDoorW16
import Derived.Lib.Overlaps
open Go.Value renaming slice→d
open Go.Obj renaming cells→D
open List renaming length→w,getElem?_cons_zero→A,getElem?_toArray→G
open Nat renaming mul_le_mul_right→L
open Option renaming some→j
open Go.Builtin renaming copy_→M
open Go renaming Value→l,TypeId→J
namespace Go.V
set_option linter.all false
section
variable {P:Program} {T:World} {K:l->Hp->Prop} {F:Env} {h:Hp} {ty:J}
theorem Sl.Zet{n:Nat}{p:Option Addr}{k c:Nat}{cs:List l}(s:Sl n h (d p k c) k cs){m:Nat}(hm:m<=k)(c':Nat):Sl n h (d p m c') m (cs.take (m*n)):=by
 obtain⟨p',cap,hv,hl,hc⟩:=s;simp only[Value.slice.injEq]at hv;obtain⟨rfl,_,rfl⟩:=hv;have hmn:m*n<=k*n:=L _ hm;refine⟨p,c',rfl,aaa,fun Xb=>?_⟩;obtain⟨b,o,rfl,XH⟩:=hc (by intro e;subst e;simp at Xb);refine⟨b,o,rfl,fun i hi=>?_⟩;have ki:i<(w cs):=by rw[List.length_take]at hi;omega
 rw[XH i ki];simp
theorem LZ{dT sT E E' b o dl dc k n:Nat}{c news:List l}{cb:Array Bool}{s:l}(hd:QE P dT=j E)(hn:tn P E=j n)(hb:h[b]? = j (D c.toArray E' (0,0)))(src:Sl n h s k news)(X1:news.all YN=true)(Xa:o+min k dl*n<=(w c))(H:K (.int .i64 ((min k dl:Nat):Int)) (h.setIfInBounds b (D (Xd c o (news.take (min k dl*n))).toArray E' (0,0)))):
  Ps P T .copy #[dT,sT] ty cb [d (j ⟨b,o,none⟩) dl dc,s] K h:=by
 unfold QE at hd;split at hd
 .rename_i e' hu;simp only[Option.some.injEq]at hd;subst hd;show hw P (do pure (.value (<-M #[dT,sT] ty #[d (j ⟨b,o,none⟩) dl dc,s])) ) (Jr P T K) h;rw[Zj];show hw P (M #[dT,sT] ty #[d (j ⟨b,o,none⟩) dl dc,s]) K h;simp only[M,G,A,List.getElem?_cons_succ,Zj,ZO,ZM hu,run_sizeOf hn,src.lenOf];have hlen:(w news)=k*n:=by obtain⟨_,_,_,hl,_⟩:=src;simpa using hl
  obtain⟨p,cap,rfl,hl,hc⟩:=src;have hm:Nat.min k dl=min k dl:=rfl;rw[hm];obtain⟨m,hmm⟩:=ZP (min k dl);rw[<-hmm]at Xa H ⊢;have BD:m<=k:=mD;have hmn:m*n<=k*n:=L _ BD;rw[VV (k':=m) (c':=cap)];refine YE (Sl.Zet ⟨p,cap,rfl,hl,hc⟩ BD cap) ?_;refine YZ (a:=⟨b,o,none⟩) (e:=E') (lo:=0) (hi:=0) rfl (Nat.le_refl _) (news.take (m*n)) 0 h c.toArray hb ?_ ?_ ?_
  .simp;omega
  .rw[List.all_eq_true]at X1 ⊢;exact fun x hx=>X1 x (List.mem_of_mem_take hx)
  .simp only[ZO,Nat.add_zero];exact H
 .cases hd
theorem Ci{tS tR e size:Nat}(ht:P.underlying tS=j (.slice e))(hz:tn P e=j size){a b:Addr}{la ca lb cb:Nat}(Xb:a.block≠b.block){cA cB:List l}{tA tB:J}(hA:h[a.block]? = j (D cA.toArray tA (0,0)))(hB:h[b.block]? = j (D cB.toArray tB (0,0)))(hb0:cB≠[]){Q:l->Hp->Prop}(H:Q (.bool false) h):
  hw P (Extern.SlicesOverlaps.overlaps #[tS,tS] #[tR] #[d (j a) la ca,d (j b) lb cb]) Q h:=by
 have Vg:(a.block != b.block)=true:=by simpa using Xb
 have Zp7:(a.block == b.block)=false:=by simpa using Xb
 have hB0:(w cB)≠0:=fun e=>hb0 (List.eq_nil_of_length_eq_zero e);have f1:∀o s,j2 h ⟨a.block,o,s⟩=false:=fun o s=>by unfold j2;rw[hA];simp
 have f2:∀o s,j2 h ⟨b.block,o,s⟩=false:=fun o s=>by unfold j2;rw[hB];simp
 have s1:VO h a.block=j (tA,(w cA)):=by unfold VO;rw[hA];rfl
 have s2:VO h b.block=j (tB,(w cB)):=by unfold VO;rw[hB];rfl
 show hw P (do
  let j t:=(#[tS,tS]:Array J)[0]?|stuck "slices.overlaps: no parameter types"
  let .slice elem <-underlying t|stuck "slices.overlaps: slice type expected"
  let size <-sizeOf elem
  match (j a:Option Addr),(j b:Option Addr) with
  | some a,j b=>
   if la=0\/lb=0\/size=0 then pure (Value.bool false)
   else if a.block != b.block&&(<-frozen a)&&(<-frozen b) then unsupported .addressObserved
   else do
    if a.block != b.block then do
     noView a;noView b
     if <-mayBeOne a b then return Value.bool ((<-choose (.extern "sameAddr.stringBytes" 2)) == 1)
    pure (Value.bool (a.block == b.block&&a.off<b.off+lb*size&&b.off<a.off+la*size))
  | _,_=>pure (Value.bool false)) Q h
 simp only[G,A,Zj,ZO,ZM ht,run_sizeOf hz];by_cases h0:la=0\/lb=0\/size=0
 .simp[h0,ZO,H]
 .cases hk:(w cB) with
  | zero=>exact absurd hk hB0
  | succ kB=>
   obtain⟨ba,oa,sa⟩:=a;obtain⟨bb,ob,sb⟩:=b;simp[h0,Vg,Zp7,frozen,noView,viewAt,mayBeOne,stringish,shape,Zj,ZO,hw,s1,s2,f1,f2,hk,H];exact H
end
section
variable {P:Program} {T:World} {B:Nat} {h0:Hp} {F:Env} {ty:J} {C:l->Prop} {h:Hp}
@[go_sem] theorem ZjU{x:Operand}{args:Array Operand}{ts:Array J}:Rp P T B h0 (.call ⟨.value x,args,ts⟩) ty C F = ∃v,(∀h':Hp,HC P T (ev F x) (mJ F args.toList) (OC v h') h')/\ap C v:=rfl
@[go_sem ↓] theorem Znq{K:l->Hp->Prop}{op:BinOp}{t t':J}{x y:Operand}:TL P T (.binOp op t x y t') ty K F h=XS P op t x y (ev F x) (ev F y) K h:=rfl
theorem Q2{f:FuncId}{args:Array l}{r:l}{C:l->Prop}(c:∀h,Zg P T f args h fun v' h'=>v'=r/\h'=h)(H:C r):∃v,(∀h':Hp,Zg P T f args h' (OC v h'))/\ap C v:=⟨r,fun h'=>c h',H⟩
theorem Wi{f:FuncId}{args:Array l}{r:l}{C:l->Prop}(c:Zg P T f args h fun v' h'=>v'=r/\h'=h)(H:C r):∃v,Zg P T f args h (OC v h)/\ap C v:=⟨r,c,H⟩
end
end Go.V
