/- W4: bytes that a call makes itself: joined, cloned. -/
import Derived.Test.YtboeoomhjbcecaaGreatDoorW3
namespace Go.V
set_option linter.unusedVariables false
set_option linter.unusedSimpArgs false
section
variable {P:Program} {T:World} {K:Value→Hp→Prop} {F:Env} {h:Hp} {ty:TypeId}
theorem E7 {t e:TypeId} (ht:P.underlying t=some (.slice e)) {d:Nat} {a:Option Addr} {l c l' c':Nat} {Q:Bool→Hp→Prop}:hw P (Op.equalIn (d+1) t (.slice a l c) (.slice none l' c')) Q h=Q a.isNone h:=by
 simp only[Op.equalIn];rw[Zg,Zu ht]
 cases a<;>rfl
@[go_sem] theorem zd {t:TypeId} {x y:Operand} {a:Option Addr} {l c l' c':Nat} (ht:(JI P t).isSome=true):Xa P .eql t x y (.slice a l c) (.slice none l' c') K h=K (.bool a.isNone) h:=by
 unfold JI at ht;split at ht
 ·rename_i e hu;show hw P (do pure (.bool (←Op.equalIn (9999+1) t (.slice a l c) (.slice none l' c')))) K h=_;rw[Zg,E7 hu];rfl
 ·cases ht
@[go_sem] theorem isNone_none {α:Type}:(none:Option α).isNone=true:=rfl
@[go_sem] theorem isNone_some {α:Type} {a:α}:(some a).isNone=false:=rfl
theorem Sl.made {n m:Nat} {E:TypeId} {cs:List Value} (hl:cs.length=m*n) (c:Nat):Sl n (h.push (.cells cs.toArray E)) (.slice (some ⟨h.size,0,none⟩) m c) m cs:=by
 refine⟨_,c,rfl,hl,fun _=>⟨h.size,0,rfl,fun i hi=>?_⟩⟩;rw[SV,if_pos rfl,Yh,Nat.zero_add];exact List.getElem?_eq_getElem hi
theorem Qv.made {B n m:Nat} {E:TypeId} {cs:List Value} (hl:cs.length=m*n) (hB:B≤h.size):Qv B E n (h.push (.cells cs.toArray E)) (.slice (some ⟨h.size,0,none⟩) m m) m cs:=by
 refine .inr ⟨h.size,m,[],hB,rfl,?_,hl,by simp,Nat.le_refl _⟩;rw[Array.getElem?_push_size];simp
theorem Bs.made {E:TypeId} {l:List Nat} (hb:∀x∈l,x<256) (c:Nat):Bs (h.push (.cells (l.map bv).toArray E)) (.slice (some ⟨h.size,0,none⟩) l.length c) l:=⟨Sl.made (by simp) c,hb⟩
theorem Bs.one {E:TypeId} {x:Nat} (hb:x<256) (c:Nat):Bs (h.push (.cells [Value.int .u8 x].toArray E)) (.slice (some ⟨h.size,0,none⟩) 1 c) [x]:=Bs.made (l:=[x]) (by simpa using hb) c
theorem Z0.made {B:Nat} {E:TypeId} {l:List Nat} (hb:∀x∈l,x<256) (hB:B≤h.size):Z0 B E (h.push (.cells (l.map bv).toArray E)) (.slice (some ⟨h.size,0,none⟩) l.length l.length) l:=⟨Qv.made (by simp) hB,hb⟩
theorem Z0.I9 (B:Nat) (E:TypeId) (h:Hp) (p:Option Addr):Z0 B E h (.slice p 0 0) []:=⟨Qv.I9 B E 1 h p,fun _ h=>by cases h⟩
theorem Zv {sT xT E E' B:Nat} {v s:Value} {l k:List Nat} {z:Value} {cb:Array Bool} (UQ:JI P sT=some E) (Fa:P.underlying xT=some (.slice E')) (hn:tn P E=some 1) (hz:tz P E=some [z]) (SQ:tb P E=some 1)
  (own:Z0 B E h v l) (hB:B≤h.size) (src:Bs h s k) (Ys:l.length+k.length≤140737488355328)
  (H:∀v' h',Z0 B E h' v' (l++k)→Zf B h h'→Tv (ZO v) h h'→K v' h'):T9 P T .append #[sT,xT] ty cb [v,s] K h:=by
 refine Ke UQ Fa hn hz rfl SQ own.own hB src.sl (TA k) (by omega) (Nat.le_refl _) ?_;intro v' h' ho hb;refine H v' h' ⟨by simpa using ho,fun x hx=>?_⟩ (hb.Z2 hB own.own.ZG) hb;rcases List.mem_append.1 hx with hx|hx
 ·exact own.byte x hx
 ·exact src.byte x hx
end
end Go.V
