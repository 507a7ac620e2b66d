/- W16: a law's row whose program reads package-level tables; and a body-less callee, run in place. -/
import Derived.Test.YtiakfdpmapmifaaW15
import Derived.Test.YtiakfdpmapmifaaV9
import Derived.Handed
import Derived.LaidMore
import Derived.Stop.Joined
import Derived.Lib.LaidTab
namespace Go.V
open Go.ChangeShapes Go.WideShapes Go.ChangeAt Go.RowKit

/-- What a law says where the tables hold L: whatever fits, it answers true, and nothing that was there has turned. -/
def LawOkL (P : Program) (L : Hp → Prop) (f : FuncId) (ts : List TypeId) : Prop :=
  ∀ (W : World) (args : List Value), L W.heap → fitAll P W.heap ts args → CallsH P W f args.toArray W.heap fun v h' => v = .bool true ∧ Bel W.heap.size W.heap h'

/-- A table of numbers, in a block of its own. -/
def Tab (g : Nat) (f : Nat → Value) (l : List Nat) (h : Hp) : Prop := g < h.size ∧ ∀ i, i < l.length → hc h ⟨g, i, none⟩ = some (f (l.getD i 0))
theorem Tab.bel {g B : Nat} {f : Nat → Value} {l : List Nat} {h h' : Hp} (t : Tab g f l h) (b : Bel B h h') (hg : g < B) : Tab g f l h' :=
  ⟨Nat.lt_of_lt_of_le t.1 b.size, fun i hi => by rw [b.hc (by exact hg)]; exact t.2 i hi⟩
end Go.V
