/- W3: what fits a type, as a row of cells, each of its own type. -/
import Derived.Test.YtiakfdpmapmifaaW2
namespace Go.V
set_option linter.unusedVariables false
set_option linter.unusedSimpArgs false

/-- The types of a type's cells, in their order. -/
def leafFs (P : Program) (g : TypeId → Option (List TypeId)) : List Field → Nat → Option (List TypeId)
  | [], _ => some []
  | f :: fs, o => match g f.type with
    | some l => if f.offset = o ∧ P.cellsOf f.type = l.length then (leafFs P g fs (o + l.length)).map (l ++ ·) else none
    | none => none
def leaf (P : Program) : Nat → TypeId → Option (List TypeId)
  | 0, _ => none
  | k + 1, t => match P.underlying t with
    | some (.struct fs) => match leafFs P (leaf P k) fs.toList 0 with
      | some l => if P.cellsOf t = l.length then some l else none
      | none => none
    | some (.array n e) => match leaf P k e with
      | some l => if P.cellsOf e = l.length ∧ P.cellsOf t = n * l.length then some (rep n l) else none
      | none => none
    | _ => some [t]
def fitL (P : Program) (h : Hp) : List TypeId → List Value → Prop
  | [], [] => True
  | t :: ts, c :: cs => (∃ k, fit P h k t [c]) ∧ fitL P h ts cs
  | _, _ => False
/-- The number, the bool, in a cell. -/
def ci (cs : List Value) (i : Nat) : Int := match nth cs i with | some (.int _ n) => n | _ => 0
def cb (cs : List Value) (i : Nat) : Bool := match nth cs i with | some (.bool b) => b | _ => false
def i64s (P : Program) (ts : List TypeId) (a n : Nat) : Bool := (List.range n).all fun j => match nth ts (a + j) with | some t => (match P.underlying t with | some (.int .i64) => true | _ => false) | none => false
def bools (P : Program) (ts : List TypeId) (a n : Nat) : Bool := (List.range n).all fun j => match nth ts (a + j) with | some t => (match P.underlying t with | some .bool => true | _ => false) | none => false
theorem Bel.add {h h' : Hp} (b : Bel h.size h h') (o : Obj) : Bel h.size h (h'.push o) := b.trans (Bel.push b.size o)
end Go.V
