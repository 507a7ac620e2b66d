/- Part W18. -/
import Derived.Test.YtkhkmpfenaipaaaGreatDoorW16
import Derived.Lib.Overlaps
open Go.Value renaming slice→d
open Go.Obj renaming cells→A
open List renaming length→l,getElem?_cons_zero→w,toArray→D,getElem?_toArray→G
open Nat renaming mul_le_mul_right→L
open Option renaming some→i
open Go.Builtin renaming copy_→M
open Go renaming Value→j,TypeId→J
namespace Go.V
set_option linter.all false
section
variable {P:Program} {T:World} {K:j->Hp->Prop} {F:Env} {h:Hp} {ty:J}
theorem Sl.ZiR{n:Nat}{p:Option Addr}{k c:Nat}{cs:List j}(s:Sl n h (d p k c) k cs){m:Nat}(f:m<=k)(c':Nat):Sl n h (d p m c') m (cs.take (m*n)):=by
 let⟨g,cap,a,q,hc⟩:=s;simp only[Value.slice.injEq]at a;obtain⟨rfl,_,rfl⟩:=a;have e:m*n<=k*n:=L _ f;refine⟨p,c',rfl,zK,fun r=>?_⟩;obtain⟨b,o,rfl,t⟩:=hc zK
 grind [YU]
theorem IL{g q E E' b o dl dc k n:Nat}{c news:List j}{cb:Array Bool}{s:j}(f:Un P g=i E)(x:tn P E=i n)(hb:h[b]? = i (A (D c) E' (0,0)))(src:Sl n h s k news)(O:news.all YV=true)(I:o+min k dl*n<=(l c))(H:K (.int .i64 ((min k dl:Nat):Int)) (Array.setIfInBounds h b (A (XB c o (news.take (min k dl*n))).toArray E' (0,0)))):
  OV P T .copy #[g,q] ty cb [d (i ⟨b,o,none⟩) dl dc,s] K h:=by
 unfold Un at f;split at f
 .rename_i N v;simp only[Option.some.injEq]at f;subst f;show hw P (do pure (.value (<-M #[g,q] ty #[d (i ⟨b,o,none⟩) dl dc,s])) ) (JX P T K) h;rw[Zk];show hw P (M #[g,q] ty #[d (i ⟨b,o,none⟩) dl dc,s]) K h;simp only[M,G,w,List.getElem?_cons_succ,Zk,ZS,ZL v,run_sizeOf x,src.lenOf];have hlen:(l news)=k*n:=by let⟨_,_,_,t,_⟩:=src;simpa using t
  obtain⟨p,cap,rfl,t,hc⟩:=src;have z:Nat.min k dl=min k dl:=rfl;rw[z];let⟨m,r⟩:=ZO (min k dl);rw[<-r]at I H ⊢;have u:m<=k:=uh;have y:m*n<=k*n:=L _ u;rw[T3 (k':=m) (c':=cap)];refine YW (Sl.ZiR ⟨p,cap,rfl,t,hc⟩ u cap) ?_;refine Xf (a:=⟨b,o,none⟩) (e:=E') (lo:=0) (hi:=0) rfl (Nat.le_refl _) (news.take (m*n)) 0 h (D c) hb ?_ ?_ ?_
  .simp;omega
  .grind
  .simp only[ZS,Nat.add_zero];exact H
 .cases f
theorem aE{tS y e size:Nat}(O:P.underlying tS=i (.slice e))(N:tn P e=i size){a b:Addr}{g R f cb:Nat}(x:a.block≠b.block){v c:List j}{p n:J}(u:h[a.block]? = i (A (D v) p (0,0)))(r:h[b.block]? = i (A (D c) n (0,0)))(I:c≠[]){Q:j->Hp->Prop}(H:Q (.bool false) h):
  hw P (Extern.SlicesOverlaps.overlaps #[tS,tS] #[y] #[d (i a) g R,d (i b) f cb]) Q h:=by
 have S:(a.block != b.block)=true:=by simpa using x
 have m:(a.block == b.block)=false:=by simpa using x
 have k:(l c)≠0:=fun e=>I (List.eq_nil_of_length_eq_zero e);have f1:∀o s,qw h ⟨a.block,o,s⟩=false:=fun o s=>by unfold qw;rw[u];simp
 have f2:∀o s,qw h ⟨b.block,o,s⟩=false:=fun o s=>by unfold qw;rw[r];simp
 have E:TQ h a.block=i (p,(l v)):=by unfold TQ;rw[u];rfl
 have z:TQ h b.block=i (n,(l c)):=by unfold TQ;rw[r];rfl
 show hw P (do
  let i t:=(#[tS,tS]:Array J)[0]?|stuck "slices.overlaps: no parameter types"
  let .slice elem <-underlying t|stuck "slices.overlaps: slice type expected"
  let size <-sizeOf elem
  match (i a:Option Addr),(i b:Option Addr) with
  | some a,i b=>
   if g=0\/f=0\/size=0 then pure (Value.bool false)
   else if a.block != b.block&&(<-frozen a)&&(<-frozen b) then unsupported .addressObserved
   else do
    if a.block != b.block then do
     noView a;noView b
     if <-mayBeOne a b then return Value.bool ((<-choose (.extern "sameAddr.stringBytes" 2)) == 1)
    pure (Value.bool (a.block == b.block&&a.off<b.off+f*size&&b.off<a.off+g*size))
  | _,_=>pure (Value.bool false)) Q h
 simp only[G,w,Zk,ZS,ZL O,run_sizeOf N];by_cases h0:g=0\/f=0\/size=0
 .simp[h0,ZS,H]
 .cases q:(l c) with
  | zero=>exact absurd q k
  | succ X=>
   let⟨Z,W,U⟩:=a;let⟨Y,V,sb⟩:=b;simp[h0,S,m,frozen,noView,viewAt,mayBeOne,stringish,shape,Zk,ZS,hw,E,z,f1,f2,q,H];exact H
end
section
variable {P:Program} {T:World} {B:Nat} {h0:Hp} {F:Env} {ty:J} {C:j->Prop} {h:Hp}
@[go_sem] theorem Zot{x:Operand}{args:Array Operand}{ts:Array J}:RS P T B h0 (.call ⟨.value x,args,ts⟩) ty C F = ∃v,(∀h':Hp,FY P T (ev F x) (uo F args.toList) (OP v h') h')/\ap C v:=rfl
@[go_sem ↓] theorem Zsd{K:j->Hp->Prop}{a:BinOp}{t b:J}{x y:Operand}:Sy P T (.binOp a t x y b) ty K F h=Ji P a t x y (ev F x) (ev F y) K h:=rfl
theorem UM{f:FuncId}{args:Array j}{r:j}{C:j->Prop}(c:∀h,Zg P T f args h fun a h'=>a=r/\h'=h)(H:C r):∃v,(∀h':Hp,Zg P T f args h' (OP v h'))/\ap C v:=⟨r,fun h'=>c h',H⟩
theorem Vi{f:FuncId}{args:Array j}{r:j}{C:j->Prop}(c:Zg P T f args h fun a h'=>a=r/\h'=h)(H:C r):∃v,Zg P T f args h (OP v h)/\ap C v:=⟨r,c,H⟩
end
end Go.V
