/- W19: a constant string's bytes. -/
import Derived.Test.YtnhbpmoeaodmnaaGreatDoorW18
namespace Go.V
section
variable {P:Program} {T:World} {B:Nat} {h0:Hp} {F:Env} {ty:TypeId} {C:Value→Prop} {h:Hp}
theorem conv_mark {S E E':TypeId} {b len cap:Nat} {cells:Array Value} {fr:Nat × Nat} {K:Value→Hp→Prop} (hS:P.underlying S=some (.slice E)) (hE:P.underlying E=some (.int .u8)) (hb:h[b]? = some (.cells cells E' fr))
  (H:∀ h' fr',h'[b]? = some (.cells cells E' fr')→But (some b) h h'→K (.slice (some ⟨b,0,none⟩) len cap) h'):vConv P S S (.slice (some ⟨b,0,none⟩) len cap) K h:=by
 unfold vConv convert
 rw [hw_bind,run_under hS,hw_bind,run_under hS]
 simp only
 rw [hw_bind,run_under hE]
 have hbs:=lt_of_get hb
 have hsh:hshape h b=some (E',cells.size):=by unfold hshape; rw [hb]
 obtain ⟨h',hh'⟩:∃ h':Hp,h'=hfreeze h ⟨b,cells.size,none⟩ 1:=⟨_,rfl⟩
 have hget:∃ fr',h'[b]? = some (.cells cells E' fr'):=by
  rw [hh']
  unfold hfreeze
  rw [if_neg (by decide)]
  exact ⟨_,by rw [Array.getElem?_modify,if_pos rfl,hb]; rfl⟩
 have hbut:But (some b) h h':=by
  rw [hh']
  unfold hfreeze
  rw [if_neg (by decide)]
  refine ⟨by simp,fun k hk hne=>?_⟩
  rw [Array.getElem?_modify,if_neg (fun e=>hne (by rw [← e]))]
 obtain ⟨fr',hget⟩:=hget
 have key:=H h' fr' hget hbut
 rw [beq_self_eq_true]
 show hw P (do markStringish ⟨b,0,none⟩; pure (Value.slice (some ⟨b,0,none⟩) len cap)) K h
 rw [hw_bind]
 unfold markStringish
 rw [hw_bind]
 show hw P (match hshape h b with | some (_,n)=>freeze { block:=b,off:=n } 1 | _=>pure ()) _ _
 rw [hsh]
 show K _ (hfreeze h ⟨b,cells.size,none⟩ 1)
 rw [← hh']
 exact key
end
end Go.V
