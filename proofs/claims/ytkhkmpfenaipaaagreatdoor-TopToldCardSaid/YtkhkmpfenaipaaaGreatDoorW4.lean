/- Part W4. -/
import Derived.Test.YtkhkmpfenaipaaaGreatDoorW3
open Go.Value renaming slice→b
open Go.Obj renaming cells→w
open List renaming length→j,toArray→D
open Nat renaming le_refl→G
open Option renaming some→A
open Go renaming TypeId→o
namespace Go.V
set_option linter.all false
section
variable {P:Program} {T:World} {K:Value->Hp->Prop} {F:Env} {h:Hp} {ty:o}
theorem eJ{t e:o}(f:P.underlying t=A (.slice e)){d:Nat}{a:Option Addr}{l c l' c':Nat}{Q:Bool->Hp->Prop}:hw P (Op.equalIn (d+1) t (b a l c) (b none l' c')) Q h=Q a.isNone h:=by
 simp only[Op.equalIn];rw[Zk,ZL f]
 cases a<;>rfl
@[go_sem] theorem ZiL{t:o}{x y:Operand}{a:Option Addr}{l c l' c':Nat}(d:(Un P t).isSome=true):Ji P .eql t x y (b a l c) (b none l' c') K h=K (.bool a.isNone) h:=by
 unfold Un at d;split at d
 .rename_i e f;show hw P (do pure (.bool (<-Op.equalIn (9999+1) t (b a l c) (b none l' c')))) K h=_;rw[Zk,eJ f];rfl
 .cases d
@[go_sem] theorem isNone_none{α:Type}:(none:Option α).isNone=true:=rfl
@[go_sem] theorem isNone_some{α:Type}{a:α}:(A a).isNone=false:=rfl
theorem Sl.made{n m:Nat}{E:o}{cs:List Value}(a:(j cs)=m*n)(c:Nat):Sl n (h.push (w (D cs) E)) (b (A ⟨h.size,0,none⟩) m c) m cs:=by
 refine⟨_,c,rfl,a,fun _=>⟨h.size,0,rfl,fun i hi=>?_⟩⟩
 grind [SI,X2]
theorem QU.made{B n m:Nat}{E:o}{cs:List Value}(a:(j cs)=m*n)(c:B<=h.size):QU B E n (h.push (w (D cs) E)) (b (A ⟨h.size,0,none⟩) m m) m cs:=by
 refine .inr ⟨h.size,m,[],c,rfl,?_,a,zX,G _⟩
 grind
theorem Bs.made{E:o}{l:List Nat}(hb:∀x∈l,x<256)(c:Nat):Bs (h.push (w (l.map bv).toArray E)) (b (A ⟨h.size,0,none⟩) (j l) c) l:=⟨Sl.made zX c,hb⟩
theorem Bs.one{E:o}{x:Nat}(hb:x<256)(c:Nat):Bs (h.push (w [Value.int .u8 x].toArray E)) (b (A ⟨h.size,0,none⟩) 1 c) [x]:=Bs.made (l:=[x]) zK c
theorem YL.made{B:Nat}{E:o}{l:List Nat}(hb:∀x∈l,x<256)(a:B<=h.size):YL B E (h.push (w (l.map bv).toArray E)) (b (A ⟨h.size,0,none⟩) (j l) (j l)) l:=⟨QU.made zX a,hb⟩
theorem YL.CE(B:Nat)(E:o)(h:Hp)(p:Option Addr):YL B E h (b p 0 0) []:=⟨QU.CE B E 1 h p,fun _ h=>by cases h⟩
theorem ZP{e d E E' B:Nat}{v s:Value}{l k:List Nat}{z:Value}{cb:Array Bool}(m:Un P e=A E)(an:P.underlying d=A (.slice E'))(i:tn P E=A 1)(g:tz P E=A [z])(n:tb P E=A 1)(Zn:YL B E h v l)(f:B<=h.size)(src:Bs h s k)(q:(j l)+(j k)<=140737488355328)(H:∀c h',YL B E h' c (l++k)->Zm B h h'->SK (Yq v) h h'->K c h'):OV P T .append #[e,d] ty cb [v,s] K h:=by
 refine Ee m an i g rfl n Zn.Zn f src.sl (Oe k) uh (G _) ?_;intro c h' p hb;refine H c h' ⟨zK,fun x a=>?_⟩ (hb.YQ f Zn.Zn.Yb) hb;rcases List.mem_append.1 a with a|a
 .exact Zn.byte x a
 .exact src.byte x a
end
end Go.V
