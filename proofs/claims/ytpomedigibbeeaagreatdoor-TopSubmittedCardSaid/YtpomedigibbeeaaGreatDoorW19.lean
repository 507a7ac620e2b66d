/- W19: a constant string's bytes. -/
import Derived.Test.YtpomedigibbeeaaGreatDoorW18
namespace Go.V
section
variable {P:Program} {T:World} {B:Nat} {h0:Hp} {F:Env} {ty:TypeId} {C:Value→Prop} {h:Hp}
theorem Hc {S E E':TypeId} {b len cap:Nat} {cells:Array Value} {fr:Nat × Nat} {K:Value→Hp→Prop} (hS:P.underlying S=some (.slice E)) (hE:P.underlying E=some (.int .u8)) (hb:h[b]? = some (.cells cells E' fr))
  (H:∀h' zo,h'[b]? = some (.cells cells E' zo)→VZ (some b) h h'→K (.slice (some ⟨b,0,none⟩) len cap) h'):PC P S S (.slice (some ⟨b,0,none⟩) len cap) K h:=by
 unfold PC convert
 rw[Zf,Zt hS,Zf,Zt hS]
 simp only
 rw[Zf,Zt hE]
 have fo:=Za hb
 have hsh:UT h b=some (E',cells.size):=by unfold UT;rw[hb]
 obtain⟨h',hh'⟩:=Zy (VY h ⟨b,cells.size,none⟩ 1:Hp)
 have CU:∃zo,h'[b]? = some (.cells cells E' zo):=by
  rw[hh']
  unfold VY
  rw[if_neg (by decide)]
  exact⟨_,by rw[Array.getElem?_modify,if_pos rfl,hb];rfl⟩
 have RJ:VZ (some b) h h':=by
  rw[hh']
  unfold VY
  rw[if_neg (by decide)]
  refine⟨by simp,fun k hk Yw=>?_⟩
  rw[Array.getElem?_modify,if_neg (fun e=>Yw (by rw[←e]))]
 obtain⟨zo,CU⟩:=CU
 have key:=H h' zo CU RJ
 rw[beq_self_eq_true]
 show hw P (do markStringish ⟨b,0,none⟩;pure (Value.slice (some ⟨b,0,none⟩) len cap)) K h
 rw[Zf]
 unfold markStringish
 rw[Zf]
 show hw P (match UT h b with|some (_,n)=>freeze { block:=b,off:=n } 1|_=>pure ()) _ _
 rw[hsh]
 show K _ (VY h ⟨b,cells.size,none⟩ 1)
 rw[←hh']
 exact key
end
end Go.V
