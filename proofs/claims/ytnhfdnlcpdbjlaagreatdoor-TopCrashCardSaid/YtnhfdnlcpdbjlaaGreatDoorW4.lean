/- Part W4. -/
import Derived.Test.YtnhfdnlcpdbjlaaGreatDoorW3
open Go.Value renaming slice→j
open Go.Obj renaming cells→A
open List renaming length→o
open Nat renaming le_refl→G
open Option renaming some→D
open Go renaming TypeId→w
namespace Go.V
set_option linter.all false
section
variable {P:Program} {T:World} {K:Value->Hp->Prop} {F:Env} {h:Hp} {ty:w}
theorem Aq{t e:w}(ht:P.underlying t=D (.slice e)){d:Nat}{a:Option Addr}{l c l' c':Nat}{Q:Bool->Hp->Prop}:hw P (Op.equalIn (d+1) t (j a l c) (j none l' c')) Q h=Q a.isNone h:=by
 simp only[Op.equalIn];rw[Zj,ZM ht]
 cases a<;>rfl
@[go_sem] theorem Zeo{t:w}{x y:Operand}{a:Option Addr}{l c l' c':Nat}(ht:(QE P t).isSome=true):XS P .eql t x y (j a l c) (j none l' c') K h=K (.bool a.isNone) h:=by
 unfold QE at ht;split at ht
 .rename_i e hu;show hw P (do pure (.bool (<-Op.equalIn (9999+1) t (j a l c) (j none l' c')))) K h=_;rw[Zj,Aq hu];rfl
 .cases ht
@[go_sem] theorem isNone_none{α:Type}:(none:Option α).isNone=true:=rfl
@[go_sem] theorem isNone_some{α:Type}{a:α}:(D a).isNone=false:=rfl
theorem Sl.made{n m:Nat}{E:w}{cs:List Value}(hl:(o cs)=m*n)(c:Nat):Sl n (h.push (A cs.toArray E)) (j (D ⟨h.size,0,none⟩) m c) m cs:=by
 refine⟨_,c,rfl,hl,fun _=>⟨h.size,0,rfl,fun i hi=>?_⟩⟩;rw[OD,if_pos rfl,Y7,Nat.zero_add];exact List.getElem?_eq_getElem hi
theorem UK.made{B n m:Nat}{E:w}{cs:List Value}(hl:(o cs)=m*n)(hB:B<=h.size):UK B E n (h.push (A cs.toArray E)) (j (D ⟨h.size,0,none⟩) m m) m cs:=by
 refine .inr ⟨h.size,m,[],hB,rfl,?_,hl,sW,G _⟩;rw[Array.getElem?_push_size];simp
theorem Bs.made{E:w}{l:List Nat}(hb:∀x∈l,x<256)(c:Nat):Bs (h.push (A (l.map bv).toArray E)) (j (D ⟨h.size,0,none⟩) (o l) c) l:=⟨Sl.made sW c,hb⟩
theorem Bs.one{E:w}{x:Nat}(hb:x<256)(c:Nat):Bs (h.push (A [Value.int .u8 x].toArray E)) (j (D ⟨h.size,0,none⟩) 1 c) [x]:=Bs.made (l:=[x]) (by simpa using hb) c
theorem YB.made{B:Nat}{E:w}{l:List Nat}(hb:∀x∈l,x<256)(hB:B<=h.size):YB B E (h.push (A (l.map bv).toArray E)) (j (D ⟨h.size,0,none⟩) (o l) (o l)) l:=⟨UK.made sW hB,hb⟩
theorem YB.Ec(B:Nat)(E:w)(h:Hp)(p:Option Addr):YB B E h (j p 0 0) []:=⟨UK.Ec B E 1 h p,fun _ h=>by cases h⟩
theorem ZR{sT xT E E' B:Nat}{v s:Value}{l k:List Nat}{z:Value}{cb:Array Bool}(Vv:QE P sT=D E)(D5:P.underlying xT=D (.slice E'))(hn:tn P E=D 1)(hz:tz P E=D [z])(OB:tb P E=D 1)(Zr:YB B E h v l)(hB:B<=h.size)(src:Bs h s k)(Xa:(o l)+(o k)<=140737488355328)(H:∀v' h',YB B E h' v' (l++k)->Zk B h h'->Rs (Ya v) h h'->K v' h'):Ps P T .append #[sT,xT] ty cb [v,s] K h:=by
 refine HN Vv D5 hn hz rfl OB Zr.Zr hB src.sl (Ru k) mD (G _) ?_;intro v' h' ho hb;refine H v' h' ⟨by simpa using ho,fun x hx=>?_⟩ (hb.YJ hB Zr.Zr.ZZ) hb;rcases List.mem_append.1 hx with hx|hx
 .exact Zr.byte x hx
 .exact src.byte x hx
end
end Go.V
