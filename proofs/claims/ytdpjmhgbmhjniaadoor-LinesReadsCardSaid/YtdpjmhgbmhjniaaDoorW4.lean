/- Part W4. -/
import Derived.Test.YtdpjmhgbmhjniaaDoorW3
namespace Go.V
set_option linter.unusedVariables false
set_option linter.unusedSimpArgs false
section
variable {P:Program} {T:World} {K:Value→Hp→Prop} {F:Env} {h:Hp} {ty:TypeId}
@[go_sem] theorem isNone_none {α:Type}:(none:Option α).isNone=true:=rfl
@[go_sem] theorem isNone_some {α:Type} {a:α}:(some a).isNone=false:=rfl
theorem Sl.made {n m:Nat} {E:TypeId} {cs:List Value} (hl:cs.length=m*n) (c:Nat):Sl n (h.push (.cells cs.toArray E)) (.slice (some ⟨h.size,0,none⟩) m c) m cs:=by
 refine⟨_,c,rfl,hl,fun _=>⟨h.size,0,rfl,fun i hi=>?_⟩⟩
 rw[SH,if_pos rfl,Yx,Nat.zero_add]
 exact List.getElem?_eq_getElem hi
theorem Own.made {B n m:Nat} {E:TypeId} {cs:List Value} (hl:cs.length=m*n) (hB:B≤h.size):Own B E n (h.push (.cells cs.toArray E)) (.slice (some ⟨h.size,0,none⟩) m m) m cs:=by
 refine .inr ⟨h.size,m,[],hB,rfl,?_,hl,by simp,Nat.le_refl _⟩
 rw[Array.getElem?_push_size];simp
theorem Bs.made {E:TypeId} {l:List Nat} (hb:∀x∈l,x<256) (c:Nat):Bs (h.push (.cells (l.map bv).toArray E)) (.slice (some ⟨h.size,0,none⟩) l.length c) l:=⟨Sl.made (by simp) c,hb⟩
theorem Bs.one {E:TypeId} {x:Nat} (hb:x<256) (c:Nat):Bs (h.push (.cells [Value.int .u8 x].toArray E)) (.slice (some ⟨h.size,0,none⟩) 1 c) [x]:=Bs.made (l:=[x]) (by simpa using hb) c
end
end Go.V
