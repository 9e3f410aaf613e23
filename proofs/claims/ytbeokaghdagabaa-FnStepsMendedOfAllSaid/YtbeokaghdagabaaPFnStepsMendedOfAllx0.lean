-- Written by wip/gen/mp.py of this repo (the kit's printer with our own parts): functions and their contracts.
import Derived.Test.YtbeokaghdagabaaProg
import Derived.Below
import Derived.Deep.Draws
import Derived.Deep.AppendLies
import Derived.Maps.AppendAt
import Derived.OwnWalk
import Derived.Laws.BytesArg
import Derived.Laws.MakeOwn
import Derived.Laws.OwnMore
import Derived.Deep.OwnRows
import Derived.Tactics
import Derived.Lib.ConvBytes
import Derived.Laws.Slices
import Derived.WalkKit
import Derived.KernelRfl
import Derived.RowKit3
import Derived.Deep.LoopGhost
import Derived.Deep.QuietTactic
import Derived.BigQuiet
import Derived.WideLaws
import Derived.Deep.DeepCutAuto
import Derived.Deep.CutBlock
import Derived.Deep.RegionHeld3
import Derived.Laws.Rows
import Derived.Lib.AppendStr
import Derived.ArgAppend
import Derived.Laws.IdiomCopy
import Derived.OrdersHeld
import Derived.Laws.BitsLemmas
import Derived.RowKit
import Derived.Lib.SliceRun
import Derived.Laws.CopyOwn
import Derived.OwnWalk
import Derived.Deep.RegionLaw
import Derived.Test.YtbeokaghdagabaaWWords
import Derived.Test.YtbeokaghdagabaaWLast
import Derived.Test.YtbeokaghdagabaaWTab
import Derived.Test.YtbeokaghdagabaaWQPut
import Derived.Test.YtbeokaghdagabaaWApart
import Derived.Test.YtbeokaghdagabaaWArr
import Derived.Test.YtbeokaghdagabaaWZeros
import Derived.Test.YtbeokaghdagabaaWFoot
import Derived.Test.YtbeokaghdagabaaWKept
import Derived.Test.YtbeokaghdagabaaWShare
import Derived.Test.YtbeokaghdagabaaWN
import Derived.Test.YtbeokaghdagabaaWRepsOne
import Derived.Test.YtbeokaghdagabaaWGuard
import Derived.Test.YtbeokaghdagabaaWNEv
import Derived.Test.YtbeokaghdagabaaWMore
namespace Go.Proofs.Ytbeokaghdagabaa.PFnStepsMendedOfAll
open Go.RowKit Go.Proofs.YtbeokaghdagabaaW.PrintWords Go.Proofs.YtbeokaghdagabaaW.PrintLast Go.Proofs.YtbeokaghdagabaaW.PrintMore
attribute [local go_sem] max2_int min2_int max_two min_two max_three min_three max_four min_four   -- for this text's walks alone
set_option linter.unusedVariables false
set_option linter.unusedSimpArgs false

def errW : Option Int → Value
 | none => .nilIface
 | some c => .iface 0 (.int .i64 c)
theorem errW_none : errW none = .nilIface := rfl
theorem errW_some (c : Int) : errW (some c) = .iface 0 (.int .i64 c) := rfl

theorem info3 : (Try.prog.info? 3).map (fun i => (i.zero, i.size, i.bytes)) = some (some (.int .i64 0), 1, 8) := by kernel_rfl
-- the values' own types

class Nx (w w' : World) : Prop where out : Below w.heap.size w w'
instance Nx.refl (w : World) : Nx w w := ⟨Below.refl _ _⟩
instance Nx.al (w w1 : World) (o : Obj) [h : Nx w w1] : Nx w (w1.alloc o) := ⟨below_alloc h.out o⟩
instance Nx.dN (w w1 : World) (n : Nat) [h : Nx w w1] : Nx w (w1.drewN n) := ⟨pw_below_drewN h.out n⟩
instance Nx.dr (w w1 : World) [h : Nx w w1] : Nx w w1.drew := ⟨below_drew1 h.out⟩
instance Nx.sN (w : World) (a : Addr) (v : Value) (n : Nat) : Nx (w.setCell a v) ((w.drewN n).setCell a v) := ⟨pw_below_drewN (Below.refl _ (w.setCell a v)) n⟩
instance Nx.sr (w : World) (a : Addr) (v : Value) : Nx (w.setCell a v) (w.drew.setCell a v) := ⟨below_drew1 (Below.refl _ (w.setCell a v))⟩
theorem BS {w0 w w' : World} (h : Below w0.heap.size w0 w) [i : Nx w w'] : Below w0.heap.size w0 w' := below_step h i.out
theorem RS {α : Type} {d : Kd α} {e base : Nat} {ok : Nat → Prop} {w w' : World} {v : Value} {xs : List α} (h : d.R e w base ok v xs) [i : Nx w w'] : d.R e w' base ok v xs := Kd.R_below h i.out
theorem CS {α : Type} {d : Kd α} {w w' : World} {A : Option Addr} {n : Nat} {xs : List α} (h : d.C w A n xs) [i : Nx w w'] : d.C w' A n xs := Kd.C_below h i.out
theorem OD {p : Prop} [Decidable p] (h : decide p = true := by first | (with_reducible assumption) | assumption) : p := of_decide_eq_true h
theorem Za {p : Prop} (h : p := by first | rfl | (simp; done) | (simp [*]; done)) : p := h
theorem Zb {p : Prop} (h : p := by first | rfl | (simp [errW_none, errW_some] <;> rfl) | (simp [*, errW_none, errW_some] <;> rfl)) : p := h
theorem Zc {p : Prop} (h : p := by (try simp only [List.map_toArray, List.map_cons, List.map_nil]); first | done | rfl | (simp only [List.length_drop, List.length_take]; rfl)) : p := h
theorem yielded_undef (f : Bool → Option Bool) (g : Option Value → Option Bool) : Go.yielded.match_1 (fun _ => Option Bool) (some undef) f g = g (some undef) := rfl
end Go.Proofs.Ytbeokaghdagabaa.PFnStepsMendedOfAll
