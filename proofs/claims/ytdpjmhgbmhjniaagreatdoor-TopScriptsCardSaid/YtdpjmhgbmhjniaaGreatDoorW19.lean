/- Part W19. -/
import Derived.Test.YtdpjmhgbmhjniaaGreatDoorW18
open Option renaming some→a
open Array renaming getElem?_modify→c
namespace Go.V
section
variable {P:Program} {T:World} {B:Nat} {h0:Hp} {F:Env} {ty:TypeId} {C:Value->Prop} {h:Hp}
theorem GO{S E E':TypeId}{b len cap:Nat}{cells:Array Value}{fr:Nat × Nat}{K:Value->Hp->Prop}(hS:P.underlying S=a (.slice E))(hE:P.underlying E=a (.int .u8))(hb:h[b]? = a (.cells cells E' fr))(H:∀h' fr',h'[b]? = a (.cells cells E' fr')->Ue (a b) h h'->K (.slice (a ⟨b,0,none⟩) len cap) h'):V7 P S S (.slice (a ⟨b,0,none⟩) len cap) K h:=by
 unfold V7 convert;rw[Ze,Zv hS,Ze,Zv hS];simp only;rw[Ze,Zv hE];have Dn:=Za hb;have H7:XN h b=a (E',cells.size):=by unfold XN;rw[hb]
 obtain⟨h',hh'⟩:=ZD (We h ⟨b,cells.size,none⟩ 1:Hp);have AN:∃fr',h'[b]? = a (.cells cells E' fr'):=by
  rw[hh'];unfold We;rw[if_neg MZ];exact⟨_,by rw[c,if_pos rfl,hb];rfl⟩
 have PY:Ue (a b) h h':=by
  rw[hh'];unfold We;rw[if_neg MZ];refine⟨Dq,fun k hk Ys=>?_⟩;rw[c,if_neg (fun e=>Ys (by rw[<-e]))]
 obtain⟨fr',AN⟩:=AN;have key:=H h' fr' AN PY;rw[beq_self_eq_true];show hw P (do markStringish ⟨b,0,none⟩;pure (Value.slice (a ⟨b,0,none⟩) len cap)) K h;rw[Ze];unfold markStringish;rw[Ze];show hw P (match XN h b with|some (_,n)=>freeze { block:=b,off:=n } 1|_=>pure ()) _ _;rw[H7];show K _ (We h ⟨b,cells.size,none⟩ 1);rw[<-hh'];exact key
end
end Go.V
