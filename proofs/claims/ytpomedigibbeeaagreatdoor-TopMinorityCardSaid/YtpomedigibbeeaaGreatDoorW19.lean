/- W19: a constant string's bytes. -/
import Derived.Test.YtpomedigibbeeaaGreatDoorW18
namespace Go.V
section
variable {P:Program} {T:World} {B:Nat} {h0:Hp} {F:Env} {ty:TypeId} {C:Value→Prop} {h:Hp}
theorem Iz {S E E':TypeId} {b len cap:Nat} {cells:Array Value} {fr:Nat × Nat} {K:Value→Hp→Prop} (hS:P.underlying S=some (.slice E)) (hE:P.underlying E=some (.int .u8)) (hb:h[b]? = some (.cells cells E' fr))
  (H:∀h' wP,h'[b]? = some (.cells cells E' wP)→Vy (some b) h h'→K (.slice (some ⟨b,0,none⟩) len cap) h'):RD P S S (.slice (some ⟨b,0,none⟩) len cap) K h:=by
 unfold RD convert
 rw[Ze,Zr hS,Ze,Zr hS]
 simp only
 rw[Ze,Zr hE]
 have jR:=Za hb
 have hsh:UB h b=some (E',cells.size):=by unfold UB;rw[hb]
 obtain⟨h',hh'⟩:=Zy (Vx h ⟨b,cells.size,none⟩ 1:Hp)
 have D5:∃wP,h'[b]? = some (.cells cells E' wP):=by
  rw[hh']
  unfold Vx
  rw[if_neg (by decide)]
  exact⟨_,by rw[Array.getElem?_modify,if_pos rfl,hb];rfl⟩
 have S5:Vy (some b) h h':=by
  rw[hh']
  unfold Vx
  rw[if_neg (by decide)]
  refine⟨by simp,fun k hk Yq=>?_⟩
  rw[Array.getElem?_modify,if_neg (fun e=>Yq (by rw[←e]))]
 obtain⟨wP,D5⟩:=D5
 have key:=H h' wP D5 S5
 rw[beq_self_eq_true]
 show hw P (do markStringish ⟨b,0,none⟩;pure (Value.slice (some ⟨b,0,none⟩) len cap)) K h
 rw[Ze]
 unfold markStringish
 rw[Ze]
 show hw P (match UB h b with|some (_,n)=>freeze { block:=b,off:=n } 1|_=>pure ()) _ _
 rw[hsh]
 show K _ (Vx h ⟨b,cells.size,none⟩ 1)
 rw[←hh']
 exact key
end
end Go.V
