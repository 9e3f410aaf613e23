-- Written by wip/gen/mp.py of this repo (the kit's printer with our own parts): functions and their contracts.
import Derived.Test.YtmonnbbihmpedaaGreatDoorProg
import Derived.Below
import Derived.Deep.Draws
import Derived.Deep.AppendLies
import Derived.Maps.AppendAt
import Derived.OwnWalk
import Derived.Laws.BytesArg
import Derived.Laws.MakeOwn
import Derived.Laws.OwnMore
import Derived.Deep.OwnRows
import Derived.Tactics
import Derived.Lib.ConvBytes
import Derived.Laws.Slices
import Derived.WalkKit
import Derived.KernelRfl
import Derived.RowKit3
import Derived.Deep.LoopGhost
import Derived.Deep.QuietTactic
import Derived.BigQuiet
import Derived.WideLaws
import Derived.Deep.DeepCutAuto
import Derived.Deep.CutBlock
import Derived.Deep.RegionHeld3
import Derived.Laws.Rows
import Derived.Lib.AppendStr
import Derived.ArgAppend
import Derived.Laws.IdiomCopy
import Derived.OrdersHeld
import Derived.Laws.BitsLemmas
import Derived.RowKit
import Derived.Lib.SliceRun
import Derived.Laws.CopyOwn
import Derived.OwnWalk
import Derived.Deep.RegionLaw
import Derived.Test.YtmonnbbihmpedaaGreatDoorShelf
import Derived.Test.YtmonnbbihmpedaaGreatDoorWWords
import Derived.Test.YtmonnbbihmpedaaGreatDoorWLast
import Derived.Test.YtmonnbbihmpedaaGreatDoorWTab
import Derived.Test.YtmonnbbihmpedaaGreatDoorWQPut
import Derived.Test.YtmonnbbihmpedaaGreatDoorWApart
import Derived.Test.YtmonnbbihmpedaaGreatDoorWArr
import Derived.Test.YtmonnbbihmpedaaGreatDoorWZeros
import Derived.Test.YtmonnbbihmpedaaGreatDoorWFoot
import Derived.Test.YtmonnbbihmpedaaGreatDoorWKept
import Derived.Test.YtmonnbbihmpedaaGreatDoorWShare
import Derived.Test.YtmonnbbihmpedaaGreatDoorWN
import Derived.Test.YtmonnbbihmpedaaGreatDoorWRepsOne
import Derived.Test.YtmonnbbihmpedaaGreatDoorWInv
import Derived.Test.YtmonnbbihmpedaaGreatDoorWGuard
import Derived.Test.YtmonnbbihmpedaaGreatDoorWNEv
import Derived.Test.YtmonnbbihmpedaaGreatDoorWMore
namespace Go.Proofs.YtmonnbbihmpedaaGreatDoor.PFnStepsWornOfAll
open Go.RowKit Go.Proofs.YtmonnbbihmpedaaGreatDoorW.PrintWords Go.Proofs.YtmonnbbihmpedaaGreatDoorW.PrintLast Go.Proofs.YtmonnbbihmpedaaGreatDoorW.PrintMore
attribute [local go_sem] max2_int min2_int max_two min_two max_three min_three max_four min_four   -- for this text's walks alone
set_option linter.unusedVariables false
set_option linter.unusedSimpArgs false

def errW : Option Int → Value
 | none => .nilIface
 | some c => .iface 0 (.int .i64 c)
theorem errW_none : errW none = .nilIface := rfl
theorem errW_some (c : Int) : errW (some c) = .iface 0 (.int .i64 c) := rfl

theorem info3 : (Tryz.prog.info? 3).map (fun i => (i.zero, i.size, i.bytes)) = some (some (.int .i64 0), 1, 8) := by kernel_rfl
theorem info5 : (Tryz.prog.info? 5).map (fun i => (i.zero, i.size, i.bytes)) = some (some (.int .u8 0), 1, 1) := by kernel_rfl
theorem info9 : (Tryz.prog.info? 9).map (fun i => (i.zero, i.size, i.bytes)) = some (some (.string ⟨#[]⟩), 1, 16) := by kernel_rfl
theorem info22 : (Tryz.prog.info? 22).map (fun i => (i.zero, i.size, i.bytes)) = some (some (.slice none 0 0), 1, 24) := by kernel_rfl
-- the values' own types
def rd_L1 (xs : List (List Int)) (i : Int) : (List Int) := xs.getD i.toNat ([] : List Int)
theorem at_L1 {w : World} {A : Option Addr} {n : Nat} {xs : List (List Int)} (h : Kd.C (Kd.slice 3 (Kd.int .i64)) w A n xs) (i : Int) (h0 : 0 ≤ i) (h1 : i < n) : ∃ ad A0 c0, A = some ad ∧ w.cell? (ad.add i.toNat) = some (.slice A0 (rd_L1 xs i).length c0) ∧ (rd_L1 xs i).length ≤ c0 ∧ (Kd.int .i64).C w A0 (rd_L1 xs i).length (rd_L1 xs i) := by
 obtain ⟨ad, c, e, _, hK, hc0⟩ := Kd.C_get h ([] : List Int) i h0 h1
 have hc : ∀ j u, c[j]? = some u → w.cell? (ad.add (i.toNat * 1 + j)) = some u := hc0
 obtain ⟨A0, c0, rfl, l0, g0⟩ := hK
 exact ⟨ad, A0, c0, e, by have hq := hc 0 _ rfl; rwa [Nat.mul_one, Nat.add_zero] at hq, l0, g0⟩

class Nx (w w' : World) : Prop where out : Below w.heap.size w w'
instance Nx.refl (w : World) : Nx w w := ⟨Below.refl _ _⟩
instance Nx.al (w w1 : World) (o : Obj) [h : Nx w w1] : Nx w (w1.alloc o) := ⟨below_alloc h.out o⟩
instance Nx.dN (w w1 : World) (n : Nat) [h : Nx w w1] : Nx w (w1.drewN n) := ⟨pw_below_drewN h.out n⟩
instance Nx.dr (w w1 : World) [h : Nx w w1] : Nx w w1.drew := ⟨below_drew1 h.out⟩
instance Nx.sN (w : World) (a : Addr) (v : Value) (n : Nat) : Nx (w.setCell a v) ((w.drewN n).setCell a v) := ⟨pw_below_drewN (Below.refl _ (w.setCell a v)) n⟩
instance Nx.sr (w : World) (a : Addr) (v : Value) : Nx (w.setCell a v) (w.drew.setCell a v) := ⟨below_drew1 (Below.refl _ (w.setCell a v))⟩
theorem BS {w0 w w' : World} (h : Below w0.heap.size w0 w) [i : Nx w w'] : Below w0.heap.size w0 w' := below_step h i.out
theorem RS {α : Type} {d : Kd α} {e base : Nat} {ok : Nat → Prop} {w w' : World} {v : Value} {xs : List α} (h : d.R e w base ok v xs) [i : Nx w w'] : d.R e w' base ok v xs := Kd.R_below h i.out
theorem CS {α : Type} {d : Kd α} {w w' : World} {A : Option Addr} {n : Nat} {xs : List α} (h : d.C w A n xs) [i : Nx w w'] : d.C w' A n xs := Kd.C_below h i.out
theorem VS {α : Type} {d : Kd α} {e base : Nat} {ok : Nat → Prop} {w w' : World} {v : Value} {xs : List α} (h : d.V e w base ok v xs) [i : Nx w w'] : d.V e w' base ok v xs := Kd.V_below h i.out
theorem OD {p : Prop} [Decidable p] (h : decide p = true := by first | (with_reducible assumption) | assumption) : p := of_decide_eq_true h
theorem Za {p : Prop} (h : p := by first | rfl | (simp; done) | (simp [*]; done)) : p := h
theorem Zb {p : Prop} (h : p := by first | rfl | (simp [errW_none, errW_some] <;> rfl) | (simp [*, errW_none, errW_some] <;> rfl)) : p := h
theorem Zc {p : Prop} (h : p := by (try simp only [List.map_toArray, List.map_cons, List.map_nil]); first | done | rfl | (simp only [List.length_drop, List.length_take]; rfl)) : p := h
theorem yielded_undef (f : Bool → Option Bool) (g : Option Value → Option Bool) : Go.yielded.match_1 (fun _ => Option Bool) (some undef) f g = g (some undef) := rfl
end Go.Proofs.YtmonnbbihmpedaaGreatDoor.PFnStepsWornOfAll
