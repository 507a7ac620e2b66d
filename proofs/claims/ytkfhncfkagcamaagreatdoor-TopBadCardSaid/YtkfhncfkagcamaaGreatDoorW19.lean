/- W19: a constant string's bytes. -/
import Derived.Test.YtkfhncfkagcamaaGreatDoorW18
namespace Go.V
section
variable {P:Program} {T:World} {B:Nat} {h0:Hp} {F:Env} {ty:TypeId} {C:Value→Prop} {h:Hp}
theorem I6 {S E E':TypeId} {b len cap:Nat} {cells:Array Value} {fr:Nat × Nat} {K:Value→Hp→Prop} (hS:P.underlying S=some (.slice E)) (hE:P.underlying E=some (.int .u8)) (hb:h[b]? = some (.cells cells E' fr))
  (H:∀h' zi,h'[b]? = some (.cells cells E' zi)→VT (some b) h h'→K (.slice (some ⟨b,0,none⟩) len cap) h'):Pb P S S (.slice (some ⟨b,0,none⟩) len cap) K h:=by
 unfold Pb convert
 rw[Zf,Zr hS,Zf,Zr hS]
 simp only
 rw[Zf,Zr hE]
 have CI:=Za hb
 have hsh:UP h b=some (E',cells.size):=by unfold UP;rw[hb]
 obtain⟨h',hh'⟩:=Zu (VR h ⟨b,cells.size,none⟩ 1:Hp)
 have CV:∃zi,h'[b]? = some (.cells cells E' zi):=by
  rw[hh']
  unfold VR
  rw[if_neg (by decide)]
  exact⟨_,by rw[Array.getElem?_modify,if_pos rfl,hb];rfl⟩
 have Ru:VT (some b) h h':=by
  rw[hh']
  unfold VR
  rw[if_neg (by decide)]
  refine⟨by simp,fun k hk Yr=>?_⟩
  rw[Array.getElem?_modify,if_neg (fun e=>Yr (by rw[←e]))]
 obtain⟨zi,CV⟩:=CV
 have key:=H h' zi CV Ru
 rw[beq_self_eq_true]
 show hw P (do markStringish ⟨b,0,none⟩;pure (Value.slice (some ⟨b,0,none⟩) len cap)) K h
 rw[Zf]
 unfold markStringish
 rw[Zf]
 show hw P (match UP h b with|some (_,n)=>freeze { block:=b,off:=n } 1|_=>pure ()) _ _
 rw[hsh]
 show K _ (VR h ⟨b,cells.size,none⟩ 1)
 rw[←hh']
 exact key
end
end Go.V
