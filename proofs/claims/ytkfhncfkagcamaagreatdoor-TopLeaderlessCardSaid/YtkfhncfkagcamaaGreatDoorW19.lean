/- W19: a constant string's bytes. -/
import Derived.Test.YtkfhncfkagcamaaGreatDoorW18
namespace Go.V
section
variable {P:Program} {T:World} {B:Nat} {h0:Hp} {F:Env} {ty:TypeId} {C:Value→Prop} {h:Hp}
theorem Iw {S E E':TypeId} {b len cap:Nat} {cells:Array Value} {fr:Nat × Nat} {K:Value→Hp→Prop} (hS:P.underlying S=some (.slice E)) (hE:P.underlying E=some (.int .u8)) (hb:h[b]? = some (.cells cells E' fr))
  (H:∀h' wy,h'[b]? = some (.cells cells E' wy)→VB (some b) h h'→K (.slice (some ⟨b,0,none⟩) len cap) h'):RL P S S (.slice (some ⟨b,0,none⟩) len cap) K h:=by
 unfold RL convert
 rw[Zf,Zt hS,Zf,Zt hS]
 simp only
 rw[Zf,Zt hE]
 have jQ:=Za hb
 have hsh:UF h b=some (E',cells.size):=by unfold UF;rw[hb]
 obtain⟨h',hh'⟩:=ZA (VA h ⟨b,cells.size,none⟩ 1:Hp)
 have D0:∃wy,h'[b]? = some (.cells cells E' wy):=by
  rw[hh']
  unfold VA
  rw[if_neg (by decide)]
  exact⟨_,by rw[Array.getElem?_modify,if_pos rfl,hb];rfl⟩
 have Re:VB (some b) h h':=by
  rw[hh']
  unfold VA
  rw[if_neg (by decide)]
  refine⟨by simp,fun k hk Ys=>?_⟩
  rw[Array.getElem?_modify,if_neg (fun e=>Ys (by rw[←e]))]
 obtain⟨wy,D0⟩:=D0
 have key:=H h' wy D0 Re
 rw[beq_self_eq_true]
 show hw P (do markStringish ⟨b,0,none⟩;pure (Value.slice (some ⟨b,0,none⟩) len cap)) K h
 rw[Zf]
 unfold markStringish
 rw[Zf]
 show hw P (match UF h b with|some (_,n)=>freeze { block:=b,off:=n } 1|_=>pure ()) _ _
 rw[hsh]
 show K _ (VA h ⟨b,cells.size,none⟩ 1)
 rw[←hh']
 exact key
end
end Go.V
