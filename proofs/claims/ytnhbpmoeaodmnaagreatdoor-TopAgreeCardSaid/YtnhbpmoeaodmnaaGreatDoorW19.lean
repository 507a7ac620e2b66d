/- W19: a constant string's bytes. -/
import Derived.Test.YtnhbpmoeaodmnaaGreatDoorW18
namespace Go.V
section
variable {P:Program} {T:World} {B:Nat} {h0:Hp} {F:Env} {ty:TypeId} {C:Value→Prop} {h:Hp}
theorem Zh3 {S E E':TypeId} {b len cap:Nat} {cells:Array Value} {fr:Nat × Nat} {K:Value→Hp→Prop} (hS:P.underlying S=some (.slice E)) (hE:P.underlying E=some (.int .u8)) (hb:h[b]? = some (.cells cells E' fr))
  (H:∀h' fr',h'[b]? = some (.cells cells E' fr')→But (some b) h h'→K (.slice (some ⟨b,0,none⟩) len cap) h'):Zdq P S S (.slice (some ⟨b,0,none⟩) len cap) K h:=by
 unfold Zdq convert
 rw[Ze,Zs hS,Ze,Zs hS]
 simp only
 rw[Ze,Zs hE]
 have hbs:=Za hb
 have hsh:UH h b=some (E',cells.size):=by unfold UH;rw[hb]
 obtain⟨h',hh'⟩:=Zx (Zbh h ⟨b,cells.size,none⟩ 1:Hp)
 have Zl2:∃fr',h'[b]? = some (.cells cells E' fr'):=by
  rw[hh']
  unfold Zbh
  rw[if_neg (by decide)]
  exact⟨_,by rw[Array.getElem?_modify,if_pos rfl,hb];rfl⟩
 have ZcV:But (some b) h h':=by
  rw[hh']
  unfold Zbh
  rw[if_neg (by decide)]
  refine⟨by simp,fun k hk Ys=>?_⟩
  rw[Array.getElem?_modify,if_neg (fun e=>Ys (by rw[←e]))]
 obtain⟨fr',Zl2⟩:=Zl2
 have key:=H h' fr' Zl2 ZcV
 rw[beq_self_eq_true]
 show hw P (do markStringish ⟨b,0,none⟩;pure (Value.slice (some ⟨b,0,none⟩) len cap)) K h
 rw[Ze]
 unfold markStringish
 rw[Ze]
 show hw P (match UH h b with|some (_,n)=>freeze { block:=b,off:=n } 1|_=>pure ()) _ _
 rw[hsh]
 show K _ (Zbh h ⟨b,cells.size,none⟩ 1)
 rw[←hh']
 exact key
end
end Go.V
