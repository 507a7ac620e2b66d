/- Part W19. -/
import Derived.Test.YtdapjaalaomghaaGreatDoorW18
open Option renaming some→a
open Array renaming getElem?_modify→c
namespace Go.V
section
variable {P:Program} {T:World} {B:Nat} {h0:Hp} {F:Env} {ty:TypeId} {C:Value->Prop} {h:Hp}
theorem Dt{S E E':TypeId}{b len cap:Nat}{cells:Array Value}{fr:Nat × Nat}{K:Value->Hp->Prop}(hS:P.underlying S=a (.slice E))(hE:P.underlying E=a (.int .u8))(hb:h[b]? = a (.cells cells E' fr))(H:∀h' fr',h'[b]? = a (.cells cells E' fr')->RM (a b) h h'->K (.slice (a ⟨b,0,none⟩) len cap) h'):MQ P S S (.slice (a ⟨b,0,none⟩) len cap) K h:=by
 unfold MQ convert;rw[Zk,ZH hS,Zk,ZH hS];simp only;rw[Zk,ZH hE];have ui:=Za hb;have hsh:Tj h b=a (E',cells.size):=by unfold Tj;rw[hb]
 obtain⟨h',hh'⟩:=ZN (RN h ⟨b,cells.size,none⟩ 1:Hp);have fV:∃fr',h'[b]? = a (.cells cells E' fr'):=by
  rw[hh'];unfold RN;rw[if_neg Iw];exact⟨_,by rw[c,if_pos rfl,hb];rfl⟩
 have Mf:RM (a b) h h':=by
  rw[hh'];unfold RN;rw[if_neg Iw];refine⟨uK,fun k hk Y4=>?_⟩;rw[c,if_neg (fun e=>Y4 (by rw[<-e]))]
 obtain⟨fr',fV⟩:=fV;have key:=H h' fr' fV Mf;rw[beq_self_eq_true];show hw P (do markStringish ⟨b,0,none⟩;pure (Value.slice (a ⟨b,0,none⟩) len cap)) K h;rw[Zk];unfold markStringish;rw[Zk];show hw P (match Tj h b with|some (_,n)=>freeze { block:=b,off:=n } 1|_=>pure ()) _ _;rw[hsh];show K _ (RN h ⟨b,cells.size,none⟩ 1);rw[<-hh'];exact key
end
end Go.V
