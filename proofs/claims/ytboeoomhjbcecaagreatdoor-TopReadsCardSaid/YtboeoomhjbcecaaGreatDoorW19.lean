/- W19: a constant string's bytes. -/
import Derived.Test.YtboeoomhjbcecaaGreatDoorW18
namespace Go.V
section
variable {P:Program} {T:World} {B:Nat} {h0:Hp} {F:Env} {ty:TypeId} {C:Value→Prop} {h:Hp}
theorem HX {S E E':TypeId} {b len cap:Nat} {cells:Array Value} {fr:Nat × Nat} {K:Value→Hp→Prop} (hS:P.underlying S=some (.slice E)) (hE:P.underlying E=some (.int .u8)) (hb:h[b]? = some (.cells cells E' fr))
  (H:∀h' fr',h'[b]? = some (.cells cells E' fr')→Tv (some b) h h'→K (.slice (some ⟨b,0,none⟩) len cap) h'):PW P S S (.slice (some ⟨b,0,none⟩) len cap) K h:=by
 unfold PW convert;rw[Zg,Zu hS,Zg,Zu hS];simp only;rw[Zg,Zu hE];have dz:=Za hb;have hsh:U7 h b=some (E',cells.size):=by unfold U7;rw[hb]
 obtain⟨h',hh'⟩:=Zx (Tx h ⟨b,cells.size,none⟩ 1:Hp);have BN:∃fr',h'[b]? = some (.cells cells E' fr'):=by
  rw[hh'];unfold Tx;rw[if_neg (by decide)];exact⟨_,by rw[Array.getElem?_modify,if_pos rfl,hb];rfl⟩
 have Pa:Tv (some b) h h':=by
  rw[hh'];unfold Tx;rw[if_neg (by decide)];refine⟨by simp,fun k hk YA=>?_⟩;rw[Array.getElem?_modify,if_neg (fun e=>YA (by rw[←e]))]
 obtain⟨fr',BN⟩:=BN;have key:=H h' fr' BN Pa;rw[beq_self_eq_true];show hw P (do markStringish ⟨b,0,none⟩;pure (Value.slice (some ⟨b,0,none⟩) len cap)) K h;rw[Zg];unfold markStringish;rw[Zg];show hw P (match U7 h b with|some (_,n)=>freeze { block:=b,off:=n } 1|_=>pure ()) _ _;rw[hsh];show K _ (Tx h ⟨b,cells.size,none⟩ 1);rw[←hh'];exact key
end
end Go.V
