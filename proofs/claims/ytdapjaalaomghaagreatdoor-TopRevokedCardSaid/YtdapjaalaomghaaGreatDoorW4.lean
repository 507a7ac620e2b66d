/- Part W4. -/
import Derived.Test.YtdapjaalaomghaaGreatDoorW3
open Go.Value renaming slice→j
open Go.Obj renaming cells→u
open List renaming length→o
open Nat renaming le_refl→D
open Option renaming some→A
open Go renaming TypeId→r
namespace Go.V
set_option linter.all false
section
variable {P:Program} {T:World} {K:Value->Hp->Prop} {F:Env} {h:Hp} {ty:r}
theorem ah{t e:r}(ht:P.underlying t=A (.slice e)){d:Nat}{a:Option Addr}{l c l' c':Nat}{Q:Bool->Hp->Prop}:hw P (Op.equalIn (d+1) t (j a l c) (j none l' c')) Q h=Q a.isNone h:=by
 simp only[Op.equalIn];rw[Zk,ZH ht]
 cases a<;>rfl
@[go_sem] theorem ZeW{t:r}{x y:Operand}{a:Option Addr}{l c l' c':Nat}(ht:(QP P t).isSome=true):XS P .eql t x y (j a l c) (j none l' c') K h=K (.bool a.isNone) h:=by
 unfold QP at ht;split at ht
 .rename_i e hu;show hw P (do pure (.bool (<-Op.equalIn (9999+1) t (j a l c) (j none l' c')))) K h=_;rw[Zk,ah hu];rfl
 .cases ht
@[go_sem] theorem isNone_none{α:Type}:(none:Option α).isNone=true:=rfl
@[go_sem] theorem isNone_some{α:Type}{a:α}:(A a).isNone=false:=rfl
theorem Sl.made{n m:Nat}{E:r}{cs:List Value}(hl:(o cs)=m*n)(c:Nat):Sl n (h.push (u cs.toArray E)) (j (A ⟨h.size,0,none⟩) m c) m cs:=by
 refine⟨_,c,rfl,hl,fun _=>⟨h.size,0,rfl,fun i hi=>?_⟩⟩;rw[OV,if_pos rfl,YW,Nat.zero_add];exact List.getElem?_eq_getElem hi
theorem UK.made{B n m:Nat}{E:r}{cs:List Value}(hl:(o cs)=m*n)(hB:B<=h.size):UK B E n (h.push (u cs.toArray E)) (j (A ⟨h.size,0,none⟩) m m) m cs:=by
 refine .inr ⟨h.size,m,[],hB,rfl,?_,hl,uK,D _⟩;rw[Array.getElem?_push_size];simp
theorem Bs.made{E:r}{l:List Nat}(hb:∀x∈l,x<256)(c:Nat):Bs (h.push (u (l.map bv).toArray E)) (j (A ⟨h.size,0,none⟩) (o l) c) l:=⟨Sl.made uK c,hb⟩
theorem Bs.one{E:r}{x:Nat}(hb:x<256)(c:Nat):Bs (h.push (u [Value.int .u8 x].toArray E)) (j (A ⟨h.size,0,none⟩) 1 c) [x]:=Bs.made (l:=[x]) (by simpa using hb) c
theorem Yx.made{B:Nat}{E:r}{l:List Nat}(hb:∀x∈l,x<256)(hB:B<=h.size):Yx B E (h.push (u (l.map bv).toArray E)) (j (A ⟨h.size,0,none⟩) (o l) (o l)) l:=⟨UK.made uK hB,hb⟩
theorem Yx.EH(B:Nat)(E:r)(h:Hp)(p:Option Addr):Yx B E h (j p 0 0) []:=⟨UK.EH B E 1 h p,fun _ h=>by cases h⟩
theorem ZJ{sT xT E E' B:Nat}{v s:Value}{l k:List Nat}{z:Value}{cb:Array Bool}(VR:QP P sT=A E)(CL:P.underlying xT=A (.slice E'))(hn:tn P E=A 1)(hz:tz P E=A [z])(OT:tb P E=A 1)(Zm:Yx B E h v l)(hB:B<=h.size)(src:Bs h s k)(Y5:(o l)+(o k)<=140737488355328)(H:∀v' h',Yx B E h' v' (l++k)->Zj B h h'->RM (Yf v) h h'->K v' h'):PY P T .append #[sT,xT] ty cb [v,s] K h:=by
 refine Gx VR CL hn hz rfl OT Zm.Zm hB src.sl (RP k) nT (D _) ?_;intro v' h' ho hb;refine H v' h' ⟨by simpa using ho,fun x hx=>?_⟩ (hb.Yz hB Zm.Zm.ZW) hb;rcases List.mem_append.1 hx with hx|hx
 .exact Zm.byte x hx
 .exact src.byte x hx
end
end Go.V
