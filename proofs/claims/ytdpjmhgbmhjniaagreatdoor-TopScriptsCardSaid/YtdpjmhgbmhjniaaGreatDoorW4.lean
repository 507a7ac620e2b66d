/- Part W4. -/
import Derived.Test.YtdpjmhgbmhjniaaGreatDoorW3
open Go.Value renaming slice→j
open Go.Obj renaming cells→u
open List renaming length→o
open Nat renaming le_refl→D
open Option renaming some→A
open Go renaming TypeId→r
namespace Go.V
set_option linter.all false
section
variable {P:Program} {T:World} {K:Value->Hp->Prop} {F:Env} {h:Hp} {ty:r}
theorem DW{t e:r}(ht:P.underlying t=A (.slice e)){d:Nat}{a:Option Addr}{l c l' c':Nat}{Q:Bool->Hp->Prop}:hw P (Op.equalIn (d+1) t (j a l c) (j none l' c')) Q h=Q a.isNone h:=by
 simp only[Op.equalIn];rw[Ze,Zv ht]
 cases a<;>rfl
@[go_sem] theorem ZaS{t:r}{x y:Operand}{a:Option Addr}{l c l' c':Nat}(ht:(Js P t).isSome=true):Y1 P .eql t x y (j a l c) (j none l' c') K h=K (.bool a.isNone) h:=by
 unfold Js at ht;split at ht
 .rename_i e hu;show hw P (do pure (.bool (<-Op.equalIn (9999+1) t (j a l c) (j none l' c')))) K h=_;rw[Ze,DW hu];rfl
 .cases ht
@[go_sem] theorem isNone_none{α:Type}:(none:Option α).isNone=true:=rfl
@[go_sem] theorem isNone_some{α:Type}{a:α}:(A a).isNone=false:=rfl
theorem Sl.made{n m:Nat}{E:r}{cs:List Value}(hl:(o cs)=m*n)(c:Nat):Sl n (h.push (u cs.toArray E)) (j (A ⟨h.size,0,none⟩) m c) m cs:=by
 refine⟨_,c,rfl,hl,fun _=>⟨h.size,0,rfl,fun i hi=>?_⟩⟩;rw[Rx,if_pos rfl,YE,Nat.zero_add];exact List.getElem?_eq_getElem hi
theorem Own.made{B n m:Nat}{E:r}{cs:List Value}(hl:(o cs)=m*n)(hB:B<=h.size):Own B E n (h.push (u cs.toArray E)) (j (A ⟨h.size,0,none⟩) m m) m cs:=by
 refine .inr ⟨h.size,m,[],hB,rfl,?_,hl,Dq,D _⟩;rw[Array.getElem?_push_size];simp
theorem Bs.made{E:r}{l:List Nat}(hb:∀x∈l,x<256)(c:Nat):Bs (h.push (u (l.map bv).toArray E)) (j (A ⟨h.size,0,none⟩) (o l) c) l:=⟨Sl.made Dq c,hb⟩
theorem Bs.one{E:r}{x:Nat}(hb:x<256)(c:Nat):Bs (h.push (u [Value.int .u8 x].toArray E)) (j (A ⟨h.size,0,none⟩) 1 c) [x]:=Bs.made (l:=[x]) (by simpa using hb) c
theorem Yd.made{B:Nat}{E:r}{l:List Nat}(hb:∀x∈l,x<256)(hB:B<=h.size):Yd B E (h.push (u (l.map bv).toArray E)) (j (A ⟨h.size,0,none⟩) (o l) (o l)) l:=⟨Own.made Dq hB,hb⟩
theorem Yd.HX(B:Nat)(E:r)(h:Hp)(p:Option Addr):Yd B E h (j p 0 0) []:=⟨Own.HX B E 1 h p,fun _ h=>by cases h⟩
theorem ZF{sT xT E E' B:Nat}{v s:Value}{l k:List Nat}{z:Value}{cb:Array Bool}(Uh:Js P sT=A E)(KO:P.underlying xT=A (.slice E'))(hn:tn P E=A 1)(hz:tz P E=A [z])(WR:tb P E=A 1)(Zy:Yd B E h v l)(hB:B<=h.size)(src:Bs h s k)(YB:(o l)+(o k)<=140737488355328)(H:∀v' h',Yd B E h' v' (l++k)->Zf B h h'->Ue (ZJ v) h h'->K v' h'):Sa P T .append #[sT,xT] ty cb [v,s] K h:=by
 refine KN Uh KO hn hz rfl WR Zy.Zy hB src.sl (Vz k) gX (D _) ?_;intro v' h' ho hb;refine H v' h' ⟨by simpa using ho,fun x hx=>?_⟩ (hb.Yb hB Zy.Zy.ZQ) hb;rcases List.mem_append.1 hx with hx|hx
 .exact Zy.byte x hx
 .exact src.byte x hx
end
end Go.V
