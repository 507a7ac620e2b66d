/- Part W4. -/
import Derived.Test.YthlfaofofaphfaaGreatDoorW3
open Go.Value renaming slice→j
open Go.Obj renaming cells→u
open List renaming length→o
open Nat renaming le_refl→D
open Option renaming some→A
open Go renaming TypeId→r
namespace Go.V
set_option linter.unusedVariables false
set_option linter.unusedSimpArgs false
section
variable {P:Program} {T:World} {K:Value->Hp->Prop} {F:Env} {h:Hp} {ty:r}
theorem AI{t e:r}(ht:P.underlying t=A (.slice e)){d:Nat}{a:Option Addr}{l c l' c':Nat}{Q:Bool->Hp->Prop}:hw P (Op.equalIn (d+1) t (j a l c) (j none l' c')) Q h=Q a.isNone h:=by
 simp only[Op.equalIn];rw[Zm,ZH ht]
 cases a<;>rfl
@[go_sem] theorem Zen{t:r}{x y:Operand}{a:Option Addr}{l c l' c':Nat}(ht:(QR P t).isSome=true):XU P .eql t x y (j a l c) (j none l' c') K h=K (.bool a.isNone) h:=by
 unfold QR at ht;split at ht
 .rename_i e hu;show hw P (do pure (.bool (<-Op.equalIn (9999+1) t (j a l c) (j none l' c')))) K h=_;rw[Zm,AI hu];rfl
 .cases ht
@[go_sem] theorem isNone_none{α:Type}:(none:Option α).isNone=true:=rfl
@[go_sem] theorem isNone_some{α:Type}{a:α}:(A a).isNone=false:=rfl
theorem Sl.made{n m:Nat}{E:r}{cs:List Value}(hl:(o cs)=m*n)(c:Nat):Sl n (h.push (u cs.toArray E)) (j (A ⟨h.size,0,none⟩) m c) m cs:=by
 refine⟨_,c,rfl,hl,fun _=>⟨h.size,0,rfl,fun i hi=>?_⟩⟩;rw[OE,if_pos rfl,YR,Nat.zero_add];exact List.getElem?_eq_getElem hi
theorem UE.made{B n m:Nat}{E:r}{cs:List Value}(hl:(o cs)=m*n)(hB:B<=h.size):UE B E n (h.push (u cs.toArray E)) (j (A ⟨h.size,0,none⟩) m m) m cs:=by
 refine .inr ⟨h.size,m,[],hB,rfl,?_,hl,Hg,D _⟩;rw[Array.getElem?_push_size];simp
theorem Bs.made{E:r}{l:List Nat}(hb:∀x∈l,x<256)(c:Nat):Bs (h.push (u (l.map bv).toArray E)) (j (A ⟨h.size,0,none⟩) (o l) c) l:=⟨Sl.made Hg c,hb⟩
theorem Bs.one{E:r}{x:Nat}(hb:x<256)(c:Nat):Bs (h.push (u [Value.int .u8 x].toArray E)) (j (A ⟨h.size,0,none⟩) 1 c) [x]:=Bs.made (l:=[x]) (by simpa using hb) c
theorem Yx.made{B:Nat}{E:r}{l:List Nat}(hb:∀x∈l,x<256)(hB:B<=h.size):Yx B E (h.push (u (l.map bv).toArray E)) (j (A ⟨h.size,0,none⟩) (o l) (o l)) l:=⟨UE.made Hg hB,hb⟩
theorem Yx.Eo(B:Nat)(E:r)(h:Hp)(p:Option Addr):Yx B E h (j p 0 0) []:=⟨UE.Eo B E 1 h p,fun _ h=>by cases h⟩
theorem ZK{sT xT E E' B:Nat}{v s:Value}{l k:List Nat}{z:Value}{cb:Array Bool}(VI:QR P sT=A E)(Co:P.underlying xT=A (.slice E'))(hn:tn P E=A 1)(hz:tz P E=A [z])(OC:tb P E=A 1)(Zq:Yx B E h v l)(hB:B<=h.size)(src:Bs h s k)(Y7:(o l)+(o k)<=140737488355328)(H:∀v' h',Yx B E h' v' (l++k)->Zk B h h'->Rt (Yf v) h h'->K v' h'):Pm P T .append #[sT,xT] ty cb [v,s] K h:=by
 refine Ge VI Co hn hz rfl OC Zq.Zq hB src.sl (Rw k) nc (D _) ?_;intro v' h' ho hb;refine H v' h' ⟨by simpa using ho,fun x hx=>?_⟩ (hb.Yy hB Zq.Zq.ZX) hb;rcases List.mem_append.1 hx with hx|hx
 .exact Zq.byte x hx
 .exact src.byte x hx
end
end Go.V
