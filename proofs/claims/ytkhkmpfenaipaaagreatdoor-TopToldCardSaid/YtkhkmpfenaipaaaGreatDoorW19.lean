/- Part W19. -/
import Derived.Test.YtkhkmpfenaipaaaGreatDoorW18
open Option renaming some→a
open Array renaming getElem?_modify→c
namespace Go.V
section
variable {P:Program} {T:World} {B:Nat} {h0:Hp} {F:Env} {ty:TypeId} {C:Value->Prop} {h:Hp}
theorem BF{S E E':TypeId}{b len cap:Nat}{cells:Array Value}{l:Nat × Nat}{K:Value->Hp->Prop}(hS:P.underlying S=a (.slice E))(j:P.underlying E=a (.int .u8))(hb:h[b]? = a (.cells cells E' l))(H:∀h' d,h'[b]? = a (.cells cells E' d)->SK (a b) h h'->K (.slice (a ⟨b,0,none⟩) len cap) h'):L9 P S S (.slice (a ⟨b,0,none⟩) len cap) K h:=by
 unfold L9 convert;rw[Zk,ZL hS,Zk,ZL hS];simp only;rw[Zk,ZL j];have p:=Zb hb;have i:TQ h b=a (E',cells.size):=by unfold TQ;rw[hb]
 let⟨h',f⟩:=ZO (Oc h ⟨b,cells.size,none⟩ 1:Hp);have g:∃d,h'[b]? = a (.cells cells E' d):=by
  rw[f];unfold Oc;rw[if_neg HE];exact⟨_,by rw[c,if_pos rfl,hb];rfl⟩
 have o:SK (a b) h h':=by
  rw[f];unfold Oc;rw[if_neg HE];refine⟨zX,fun k q m=>?_⟩;rw[c,if_neg (fun e=>m (by rw[<-e]))]
 let⟨d,g⟩:=g;have key:=H h' d g o;rw[beq_self_eq_true];show hw P (do markStringish ⟨b,0,none⟩;pure (Value.slice (a ⟨b,0,none⟩) len cap)) K h;rw[Zk];unfold markStringish;rw[Zk];show hw P (match TQ h b with|some (_,n)=>freeze { block:=b,off:=n } 1|_=>pure ()) _ _;rw[i];show K _ (Oc h ⟨b,cells.size,none⟩ 1);rw[<-f];exact key
end
end Go.V
