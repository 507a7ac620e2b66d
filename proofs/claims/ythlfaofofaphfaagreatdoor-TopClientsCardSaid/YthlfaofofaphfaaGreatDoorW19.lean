/- Part W19. -/
import Derived.Test.YthlfaofofaphfaaGreatDoorW18
open Option renaming some→a
open Array renaming getElem?_modify→c
namespace Go.V
section
variable {P:Program} {T:World} {B:Nat} {h0:Hp} {F:Env} {ty:TypeId} {C:Value->Prop} {h:Hp}
theorem Da{S E E':TypeId}{b len cap:Nat}{cells:Array Value}{fr:Nat × Nat}{K:Value->Hp->Prop}(hS:P.underlying S=a (.slice E))(hE:P.underlying E=a (.int .u8))(hb:h[b]? = a (.cells cells E' fr))(H:∀h' fr',h'[b]? = a (.cells cells E' fr')->Rt (a b) h h'->K (.slice (a ⟨b,0,none⟩) len cap) h'):Mx P S S (.slice (a ⟨b,0,none⟩) len cap) K h:=by
 unfold Mx convert;rw[Zm,ZH hS,Zm,ZH hS];simp only;rw[Zm,ZH hE];have tH:=Za hb;have hsh:V7 h b=a (E',cells.size):=by unfold V7;rw[hb]
 obtain⟨h',hh'⟩:=ZQ (Ru h ⟨b,cells.size,none⟩ 1:Hp);have fc:∃fr',h'[b]? = a (.cells cells E' fr'):=by
  rw[hh'];unfold Ru;rw[if_neg aaa];exact⟨_,by rw[c,if_pos rfl,hb];rfl⟩
 have NN:Rt (a b) h h':=by
  rw[hh'];unfold Ru;rw[if_neg aaa];refine⟨Hg,fun k hk Y4=>?_⟩;rw[c,if_neg (fun e=>Y4 (by rw[<-e]))]
 obtain⟨fr',fc⟩:=fc;have key:=H h' fr' fc NN;rw[beq_self_eq_true];show hw P (do markStringish ⟨b,0,none⟩;pure (Value.slice (a ⟨b,0,none⟩) len cap)) K h;rw[Zm];unfold markStringish;rw[Zm];show hw P (match V7 h b with|some (_,n)=>freeze { block:=b,off:=n } 1|_=>pure ()) _ _;rw[hsh];show K _ (Ru h ⟨b,cells.size,none⟩ 1);rw[<-hh'];exact key
end
end Go.V
