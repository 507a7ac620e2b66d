/- Part W19. -/
import Derived.Test.YtnhfdnlcpdbjlaaGreatDoorW18
open Option renaming some→a
open Array renaming getElem?_modify→c
namespace Go.V
section
variable {P:Program} {T:World} {B:Nat} {h0:Hp} {F:Env} {ty:TypeId} {C:Value->Prop} {h:Hp}
theorem ES{S E E':TypeId}{b len cap:Nat}{cells:Array Value}{fr:Nat × Nat}{K:Value->Hp->Prop}(hS:P.underlying S=a (.slice E))(hE:P.underlying E=a (.int .u8))(hb:h[b]? = a (.cells cells E' fr))(H:∀h' fr',h'[b]? = a (.cells cells E' fr')->Rs (a b) h h'->K (.slice (a ⟨b,0,none⟩) len cap) h'):MB P S S (.slice (a ⟨b,0,none⟩) len cap) K h:=by
 unfold MB convert;rw[Zj,ZM hS,Zj,ZM hS];simp only;rw[Zj,ZM hE];have sU:=Za hb;have hsh:VO h b=a (E',cells.size):=by unfold VO;rw[hb]
 obtain⟨h',hh'⟩:=ZP (Rq h ⟨b,cells.size,none⟩ 1:Hp);have eJ:∃fr',h'[b]? = a (.cells cells E' fr'):=by
  rw[hh'];unfold Rq;rw[if_neg KC];exact⟨_,by rw[c,if_pos rfl,hb];rfl⟩
 have NQ:Rs (a b) h h':=by
  rw[hh'];unfold Rq;rw[if_neg KC];refine⟨sW,fun k hk Xb=>?_⟩;rw[c,if_neg (fun e=>Xb (by rw[<-e]))]
 obtain⟨fr',eJ⟩:=eJ;have key:=H h' fr' eJ NQ;rw[beq_self_eq_true];show hw P (do markStringish ⟨b,0,none⟩;pure (Value.slice (a ⟨b,0,none⟩) len cap)) K h;rw[Zj];unfold markStringish;rw[Zj];show hw P (match VO h b with|some (_,n)=>freeze { block:=b,off:=n } 1|_=>pure ()) _ _;rw[hsh];show K _ (Rq h ⟨b,cells.size,none⟩ 1);rw[<-hh'];exact key
end
end Go.V
