/- A region whose operations read and whose callees may make memory, walked once: the class of the worlds that lie over a world. No program in sight. -/
import Derived.Test.YtbggickeomeidaaBase
import Derived.Deep.QuietTactic
import Derived.BigQuiet
import Derived.RegionTactic
namespace Go.Proofs.Ytbggickeomeidaa.Over
open Go Go.RowKit

/-- the worlds that read as w does below its heap's end -/
def Up (w : World) := { W : World // Below w.heap.size w W }
instance (w : World) : Nonempty (Up w) := ⟨⟨w, Below.refl _ _⟩⟩
theorem Up.cell {w : World} (y : Up w) {p : Addr} (hp : p.block < w.heap.size) : y.1.cell? p = w.cell? p := y.2.cell hp
theorem Up.cells (w : World) : ∀ (y : Up w) (p : Addr), p.block < w.heap.size → y.1.cell? p = w.cell? p := fun y _ hp => y.cell hp
theorem region_up {P : Program} {id : Nat} {Q : Exit → Act → World → Prop} {a : Act} {w : World} {l : List Oper} (hm : P.follows .mixedOrders = true) (hB : Region.lexB .any l.toArray = true)
    (h : wpQuiet P l.toArray (fun w' => ∃ y : Up w, w' = y.1) (fun a' => ∀ w', (∃ y : Up w, w' = y.1) → Q .normal a' w') l a) : (Code.region id l.toArray true).wp P Q a w :=
  wp_region_quiet (C := fun w' => ∃ y : Up w, w' = y.1) hm hB ⟨⟨_, (Below.refl w.heap.size w).drew⟩, rfl⟩ (by simpa using h)
theorem call_up {P : Program} {f : FuncId} {args : Array Value} {w : World} {v : Value} (y : Up w)
    (h : Calls P f args y.1 fun e w' => e = .returned v ∧ Below y.1.heap.size y.1 w') : Calls P f args y.1 fun e w'' => e = .returned v ∧ ∃ z : Up w, w'' = z.1 :=
  h.mono fun _ w' h => ⟨h.1, ⟨w', y.2.trans (h.2.mono y.2.size)⟩, rfl⟩
theorem call_same {P : Program} {f : FuncId} {args : Array Value} {w : World} {v : Value} (y : Up w)
    (h : Calls P f args y.1 fun e w' => e = .returned v ∧ y.1 = w') : Calls P f args y.1 fun e w'' => e = .returned v ∧ ∃ z : Up w, w'' = z.1 :=
  h.mono fun _ _ h => ⟨h.1, y, h.2.symm⟩

end Go.Proofs.Ytbggickeomeidaa.Over
