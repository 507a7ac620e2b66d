/- W19: a constant string's bytes. -/
import Derived.Test.YtboeoomhjbcecaaGreatDoorW18
namespace Go.V
section
variable {P:Program} {T:World} {B:Nat} {h0:Hp} {F:Env} {ty:TypeId} {C:Value→Prop} {h:Hp}
theorem HU {S E E':TypeId} {b len cap:Nat} {cells:Array Value} {fr:Nat × Nat} {K:Value→Hp→Prop} (hS:P.underlying S=some (.slice E)) (hE:P.underlying E=some (.int .u8)) (hb:h[b]? = some (.cells cells E' fr))
  (H:∀h' fr',h'[b]? = some (.cells cells E' fr')→Tm (some b) h h'→K (.slice (some ⟨b,0,none⟩) len cap) h'):VJ P S S (.slice (some ⟨b,0,none⟩) len cap) K h:=by
 unfold VJ convert;rw[Zf,Zt hS,Zf,Zt hS];simp only;rw[Zf,Zt hE];have nN:=Za hb;have hsh:Wa h b=some (E',cells.size):=by unfold Wa;rw[hb]
 obtain⟨h',hh'⟩:=Zy (Tp h ⟨b,cells.size,none⟩ 1:Hp);have BQ:∃fr',h'[b]? = some (.cells cells E' fr'):=by
  rw[hh'];unfold Tp;rw[if_neg (by decide)];exact⟨_,by rw[Array.getElem?_modify,if_pos rfl,hb];rfl⟩
 have RT:Tm (some b) h h':=by
  rw[hh'];unfold Tp;rw[if_neg (by decide)];refine⟨by simp,fun k hk Yv=>?_⟩;rw[Array.getElem?_modify,if_neg (fun e=>Yv (by rw[←e]))]
 obtain⟨fr',BQ⟩:=BQ;have key:=H h' fr' BQ RT;rw[beq_self_eq_true];show hw P (do markStringish ⟨b,0,none⟩;pure (Value.slice (some ⟨b,0,none⟩) len cap)) K h;rw[Zf];unfold markStringish;rw[Zf];show hw P (match Wa h b with|some (_,n)=>freeze { block:=b,off:=n } 1|_=>pure ()) _ _;rw[hsh];show K _ (Tp h ⟨b,cells.size,none⟩ 1);rw[←hh'];exact key
end
end Go.V
