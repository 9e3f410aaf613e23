-- Written by wip/gen/mp.py of this repo (the kit's printer with our own parts): functions and their contracts.
import Derived.Test.YtbeokaghdagabaaPFnStepsMendedOfAllx0
import Derived.Test.YtbeokaghdagabaaPFnStepsMendedOfAllx1
import Derived.Test.YtbeokaghdagabaaPFnStepsMendedOfAllx2
import Derived.Test.YtbeokaghdagabaaPFnStepsMendedOfAllx3
import Derived.Test.YtbeokaghdagabaaPFnStepsMendedOfAllx4
import Derived.Test.YtbeokaghdagabaaPFnStepsMendedOfAllx5
import Derived.Test.YtbeokaghdagabaaPFnStepsMendedOfAllx7
import Derived.Test.YtbeokaghdagabaaPFnStepsMendedOfAllx9
import Derived.Test.YtbeokaghdagabaaPFnStepsMendedOfAllx10
namespace Go.Proofs.Ytbeokaghdagabaa.PFnStepsMendedOfAll
open Go.RowKit Go.Proofs.YtbeokaghdagabaaW.PrintWords Go.Proofs.YtbeokaghdagabaaW.PrintLast Go.Proofs.YtbeokaghdagabaaW.PrintMore
attribute [local go_sem] yielded_undef max2_int min2_int max_two min_two max_three min_three max_four min_four   -- for this text's walks alone
set_option linter.unusedVariables false
set_option linter.unusedSimpArgs false

/-! ### laws_FnStepsMendedOfAll: function 5 -/
mutual
def laws_FnStepsMendedOfAll.j0 : Nat → List Int → Int → Int → List Int → Int → List Int → Int → Bool → Option (Bool)
 | 0, _, _, _, _, _, _, _, _ => none
 | k + 1, x0, x1, x2, x3, x4, x5, x6, x81 => if x81 = true then (some true) else ((impl_LateMend.f k x0 x1 x2).bind fun bt363 => ((spec_LateMend.f k x0 x1 x2).bind fun bt367 => ((impl_MendSum.f k x0 x1 x2).bind fun bt371 => ((spec_MendSum.f k x0 x1 x2).bind fun bt373 => (if (bt363.2 != bt367.2) = true then (laws_FnStepsMendedOfAll.j1 k x0 x1 x2 x3 x4 x5 x6 bt363.1 bt363.2 bt371.1 true) else ((laws_wSame.f k bt363.1 bt367.1).bind fun t375 => (if t375 = true then (if (bt371.2 != bt373.2) = true then (laws_FnStepsMendedOfAll.j1 k x0 x1 x2 x3 x4 x5 x6 bt363.1 bt363.2 bt371.1 true) else (if bt371.1 = bt373.1 then (laws_FnStepsMendedOfAll.j1 k x0 x1 x2 x3 x4 x5 x6 bt363.1 bt363.2 bt371.1 (bt371.2 != bt363.2)) else (laws_FnStepsMendedOfAll.j1 k x0 x1 x2 x3 x4 x5 x6 bt363.1 bt363.2 bt371.1 true))) else (laws_FnStepsMendedOfAll.j1 k x0 x1 x2 x3 x4 x5 x6 bt363.1 bt363.2 bt371.1 true))))))))
def laws_FnStepsMendedOfAll.j1 : Nat → List Int → Int → Int → List Int → Int → List Int → Int → List Int → Bool → Int → Bool → Option (Bool)
 | 0, _, _, _, _, _, _, _, _, _, _, _ => none
 | k + 1, x0, x1, x2, x3, x4, x5, x6, x15, x16, x19, x133 => if x133 = true then (some false) else (if x16 = true then ((impl_MostWears.f k x0 x1).bind fun bt376 => (if bt376.2 = true then (if (x15.length : Int) = (x0.length : Int) then (if ((x19 == 0) != (decide (bt376.1 ≥ x2))) = true then (laws_FnStepsMendedOfAll.j2 k x0 x1 x2 x3 x4 x5 x6 x15 x19 0 true) else (laws_FnStepsMendedOfAll.j2 k x0 x1 x2 x3 x4 x5 x6 x15 x19 0 (decide (x19 < (wrap64 (x2 - bt376.1)))))) else (laws_FnStepsMendedOfAll.j2 k x0 x1 x2 x3 x4 x5 x6 x15 x19 0 true)) else (laws_FnStepsMendedOfAll.j2 k x0 x1 x2 x3 x4 x5 x6 x15 x19 0 true))) else (laws_FnStepsMendedOfAll.j5 k x3 x4 x5 x6))
def laws_FnStepsMendedOfAll.j5 : Nat → List Int → Int → List Int → Int → Option (Bool)
 | 0, _, _, _, _ => none
 | k + 1, x3, x4, x5, x6 => (impl_IdleBears.f k x3 x4).bind fun bt388 => ((spec_IdleBears.f k x3 x4).bind fun bt392 => ((impl_WorstStepToLose.f k x3 x4).bind fun bt396 => ((spec_WorstStepToLose.f k x3 x4).bind fun bt399 => ((impl_FirstWearClimb.f k x3 x4).bind fun bt402 => ((spec_FirstWearClimb.f k x3 x4).bind fun bt406 => ((impl_FewestOnWear.f k x3 x4).bind fun bt410 => ((spec_FewestOnWear.f k x3 x4).bind fun bt412 => ((impl_CountWearClimbs.f k x3 x4).bind fun bt414 => ((spec_CountWearClimbs.f k x3 x4).bind fun bt416 => ((impl_ReachForWears.f k x5 x6).bind fun bt418 => ((spec_ReachForWears.f k x5 x6).bind fun bt420 => (if (bt388.2 != bt392.2) = true then (laws_FnStepsMendedOfAll.j6 k x3 x4 x5 x6 bt388.1 bt388.2 bt396.1 bt396.2.1 bt402.1 bt402.2 bt410.1 bt418.1 bt418.2 true) else ((laws_wSame.f k bt388.1 bt392.1).bind fun t422 => (if t422 = true then (if (bt396.2.2 != bt399.2.2) = true then (laws_FnStepsMendedOfAll.j6 k x3 x4 x5 x6 bt388.1 bt388.2 bt396.1 bt396.2.1 bt402.1 bt402.2 bt410.1 bt418.1 bt418.2 true) else (if bt396.1 = bt399.1 then (if bt396.2.1 = bt399.2.1 then (if (bt402.2 != bt406.2) = true then (laws_FnStepsMendedOfAll.j6 k x3 x4 x5 x6 bt388.1 bt388.2 bt396.1 bt396.2.1 bt402.1 bt402.2 bt410.1 bt418.1 bt418.2 true) else ((laws_wSame.f k bt402.1 bt406.1).bind fun t423 => (if t423 = true then (if (bt410.2 != bt412.2) = true then (laws_FnStepsMendedOfAll.j6 k x3 x4 x5 x6 bt388.1 bt388.2 bt396.1 bt396.2.1 bt402.1 bt402.2 bt410.1 bt418.1 bt418.2 true) else (if bt410.1 = bt412.1 then (if (bt414.2 != bt416.2) = true then (laws_FnStepsMendedOfAll.j6 k x3 x4 x5 x6 bt388.1 bt388.2 bt396.1 bt396.2.1 bt402.1 bt402.2 bt410.1 bt418.1 bt418.2 true) else (if bt414.1 = bt416.1 then (if (bt418.2 != bt420.2) = true then (laws_FnStepsMendedOfAll.j6 k x3 x4 x5 x6 bt388.1 bt388.2 bt396.1 bt396.2.1 bt402.1 bt402.2 bt410.1 bt418.1 bt418.2 true) else (if bt418.1 = bt420.1 then (if (bt396.2.2 != bt388.2) = true then (laws_FnStepsMendedOfAll.j6 k x3 x4 x5 x6 bt388.1 bt388.2 bt396.1 bt396.2.1 bt402.1 bt402.2 bt410.1 bt418.1 bt418.2 true) else (if (bt410.2 != bt402.2) = true then (laws_FnStepsMendedOfAll.j6 k x3 x4 x5 x6 bt388.1 bt388.2 bt396.1 bt396.2.1 bt402.1 bt402.2 bt410.1 bt418.1 bt418.2 true) else (if bt414.2 = true then (laws_FnStepsMendedOfAll.j6 k x3 x4 x5 x6 bt388.1 bt388.2 bt396.1 bt396.2.1 bt402.1 bt402.2 bt410.1 bt418.1 bt418.2 (bt402.2 != (decide (bt414.1 > 0)))) else (laws_FnStepsMendedOfAll.j6 k x3 x4 x5 x6 bt388.1 bt388.2 bt396.1 bt396.2.1 bt402.1 bt402.2 bt410.1 bt418.1 bt418.2 false)))) else (laws_FnStepsMendedOfAll.j6 k x3 x4 x5 x6 bt388.1 bt388.2 bt396.1 bt396.2.1 bt402.1 bt402.2 bt410.1 bt418.1 bt418.2 true))) else (laws_FnStepsMendedOfAll.j6 k x3 x4 x5 x6 bt388.1 bt388.2 bt396.1 bt396.2.1 bt402.1 bt402.2 bt410.1 bt418.1 bt418.2 true))) else (laws_FnStepsMendedOfAll.j6 k x3 x4 x5 x6 bt388.1 bt388.2 bt396.1 bt396.2.1 bt402.1 bt402.2 bt410.1 bt418.1 bt418.2 true))) else (laws_FnStepsMendedOfAll.j6 k x3 x4 x5 x6 bt388.1 bt388.2 bt396.1 bt396.2.1 bt402.1 bt402.2 bt410.1 bt418.1 bt418.2 true)))) else (laws_FnStepsMendedOfAll.j6 k x3 x4 x5 x6 bt388.1 bt388.2 bt396.1 bt396.2.1 bt402.1 bt402.2 bt410.1 bt418.1 bt418.2 true)) else (laws_FnStepsMendedOfAll.j6 k x3 x4 x5 x6 bt388.1 bt388.2 bt396.1 bt396.2.1 bt402.1 bt402.2 bt410.1 bt418.1 bt418.2 true))) else (laws_FnStepsMendedOfAll.j6 k x3 x4 x5 x6 bt388.1 bt388.2 bt396.1 bt396.2.1 bt402.1 bt402.2 bt410.1 bt418.1 bt418.2 true)))))))))))))))
def laws_FnStepsMendedOfAll.j6 : Nat → List Int → Int → List Int → Int → List Int → Bool → Int → Int → List Int → Bool → Int → Int → Bool → Bool → Option (Bool)
 | 0, _, _, _, _, _, _, _, _, _, _, _, _, _, _ => none
 | k + 1, x3, x4, x5, x6, x31, x32, x35, x36, x41, x42, x45, x53, x54, x381 => if x381 = true then (some false) else (if x32 = true then ((impl_MostWears.f k x3 x4).bind fun bt424 => (if bt424.2 = true then ((laws_wRises.f k x31).bind fun t426 => (if t426 = true then (if x36 > bt424.1 then (laws_FnStepsMendedOfAll.j7 k x3 x4 x5 x6 x31 x35 x36 x41 x42 x45 x53 x54 bt424.1 true) else (laws_FnStepsMendedOfAll.j7 k x3 x4 x5 x6 x31 x35 x36 x41 x42 x45 x53 x54 bt424.1 (x42 != (decide (bt424.1 > 0))))) else (laws_FnStepsMendedOfAll.j7 k x3 x4 x5 x6 x31 x35 x36 x41 x42 x45 x53 x54 bt424.1 true))) else (laws_FnStepsMendedOfAll.j7 k x3 x4 x5 x6 x31 x35 x36 x41 x42 x45 x53 x54 bt424.1 true))) else (laws_FnStepsMendedOfAll.j9 k x3 x4 x5 x6 x41 x42 x45 x53 x54))
def laws_FnStepsMendedOfAll.j9 : Nat → List Int → Int → List Int → Int → List Int → Bool → Int → Int → Bool → Option (Bool)
 | 0, _, _, _, _, _, _, _, _, _ => none
 | k + 1, x3, x4, x5, x6, x41, x42, x45, x53, x54 => if x42 = true then ((impl_IsWearClimb.f k x3 x4 x41).bind fun bt439 => (if bt439.2 = true then (if bt439.1 = true then (if x45 > (x41.length : Int) then (some false) else (if x45 < 0 then (some false) else (if (wrap64 ((wrap64 (x45 + 1)) * x4)) < (wrap64 ((x3.length : Int) + 1)) then (some false) else (laws_FnStepsMendedOfAll.j10 k x5 x6 x53 x54)))) else (some false)) else (some false))) else (laws_FnStepsMendedOfAll.j10 k x5 x6 x53 x54)
def laws_FnStepsMendedOfAll.j10 : Nat → List Int → Int → Int → Bool → Option (Bool)
 | 0, _, _, _, _ => none
 | k + 1, x5, x6, x53, x54 => if x54 = true then (if x53 < 1 then (laws_FnStepsMendedOfAll.j11 k x5 x6 x53 true) else (laws_FnStepsMendedOfAll.j11 k x5 x6 x53 (decide (x53 > (wrap64 ((x5.length : Int) + 1)))))) else (some true)
def laws_FnStepsMendedOfAll.j11 : Nat → List Int → Int → Int → Bool → Option (Bool)
 | 0, _, _, _, _ => none
 | k + 1, x5, x6, x53, x507 => if x507 = true then (some false) else (if x53 ≤ (x5.length : Int) then ((impl_MostWears.f k x5 x53).bind fun bt441 => (if bt441.2 = true then (if bt441.1 < x6 then (some false) else (laws_FnStepsMendedOfAll.j12 k x5 x6 x53)) else (some false))) else (laws_FnStepsMendedOfAll.j12 k x5 x6 x53))
def laws_FnStepsMendedOfAll.j12 : Nat → List Int → Int → Int → Option (Bool)
 | 0, _, _, _ => none
 | k + 1, x5, x6, x53 => if x53 > 1 then ((impl_MostWears.f k x5 (wrap64 (x53 - 1))).bind fun bt443 => (if bt443.2 = true then (if bt443.1 ≥ x6 then (some false) else (some true)) else (some false))) else (some true)
def laws_FnStepsMendedOfAll.j7 : Nat → List Int → Int → List Int → Int → List Int → Int → Int → List Int → Bool → Int → Int → Bool → Int → Bool → Option (Bool)
 | 0, _, _, _, _, _, _, _, _, _, _, _, _, _, _ => none
 | k + 1, x3, x4, x5, x6, x31, x35, x36, x41, x42, x45, x53, x54, x57, x406 => if x406 = true then (some false) else (laws_FnStepsMendedOfAll.l2 k x3 x4 x5 x6 x31 x35 x36 x41 x42 x45 x53 x54 x57 (x3.length : Int) 0)
def laws_FnStepsMendedOfAll.l2 : Nat → List Int → Int → List Int → Int → List Int → Int → Int → List Int → Bool → Int → Int → Bool → Int → Int → Int → Option (Bool)
 | 0, _, _, _, _, _, _, _, _, _, _, _, _, _, _, _ => none
 | k + 1, x3, x4, x5, x6, x31, x35, x36, x41, x42, x45, x53, x54, x57, x408, x409 => if x409 < x408 then ((some (([] : List Int) : List Int)).bind fun y427 => (if y427.length + x3.length < 17592186044416 then ((some (y427 ++ x3 : List Int)).bind fun y430 => (if 0 ≤ x409 then (if x409 < (y430.length : Int) then ((impl_MostWears.f k (y430.set (x409 : Int).toNat 0) x4).bind fun bt434 => (if bt434.2 = true then (if bt434.1 < x36 then (some false) else (if bt434.1 = x36 then (if (wrap64 (x409 + 1)) < x35 then (some false) else (if (wrap64 (x409 + 1)) = x35 then ((laws_wHas.f k x31 (wrap64 (x409 + 1))).bind fun t436 => (if (t436 != (bt434.1 == x57)) = true then (some false) else (laws_FnStepsMendedOfAll.l2 k x3 x4 x5 x6 x31 x35 x36 x41 x42 x45 x53 x54 x57 x408 (wrap64 (x409 + 1))))) else ((laws_wHas.f k x31 (wrap64 (x409 + 1))).bind fun t437 => (if (t437 != (bt434.1 == x57)) = true then (some false) else (laws_FnStepsMendedOfAll.l2 k x3 x4 x5 x6 x31 x35 x36 x41 x42 x45 x53 x54 x57 x408 (wrap64 (x409 + 1))))))) else (if (wrap64 (x409 + 1)) = x35 then (some false) else ((laws_wHas.f k x31 (wrap64 (x409 + 1))).bind fun t438 => (if (t438 != (bt434.1 == x57)) = true then (some false) else (laws_FnStepsMendedOfAll.l2 k x3 x4 x5 x6 x31 x35 x36 x41 x42 x45 x53 x54 x57 x408 (wrap64 (x409 + 1)))))))) else (some false))) else (none)) else (none))) else (none))) else (laws_FnStepsMendedOfAll.j9 k x3 x4 x5 x6 x41 x42 x45 x53 x54)
def laws_FnStepsMendedOfAll.j2 : Nat → List Int → Int → Int → List Int → Int → List Int → Int → List Int → Int → Int → Bool → Option (Bool)
 | 0, _, _, _, _, _, _, _, _, _, _, _ => none
 | k + 1, x0, x1, x2, x3, x4, x5, x6, x15, x19, x25, x164 => if x164 = true then (some false) else (laws_FnStepsMendedOfAll.l0 k x0 x1 x2 x3 x4 x5 x6 x15 x19 x25 x15 (x15.length : Int) 0)
def laws_FnStepsMendedOfAll.l0 : Nat → List Int → Int → Int → List Int → Int → List Int → Int → List Int → Int → Int → List Int → Int → Int → Option (Bool)
 | 0, _, _, _, _, _, _, _, _, _, _, _, _, _ => none
 | k + 1, x0, x1, x2, x3, x4, x5, x6, x15, x19, x25, x165, x166, x167 => if x167 < x166 then (if 0 ≤ x167 then (if x167 < (x165.length : Int) then (if x167 < (x0.length : Int) then (if (rd x165 x167) < (rd x0 x167) then (some false) else (laws_FnStepsMendedOfAll.l0 k x0 x1 x2 x3 x4 x5 x6 x15 x19 (wrap64 (x25 + (wrap64 ((rd x165 x167) - (rd x0 x167))))) x165 x166 (wrap64 (x167 + 1)))) else (none)) else (none)) else (none)) else (laws_FnStepsMendedOfAll.l1 k x0 x1 x2 x3 x4 x5 x6 x15 x19 x25 0)
def laws_FnStepsMendedOfAll.l1 : Nat → List Int → Int → Int → List Int → Int → List Int → Int → List Int → Int → Int → Int → Option (Bool)
 | 0, _, _, _, _, _, _, _, _, _, _, _ => none
 | k + 1, x0, x1, x2, x3, x4, x5, x6, x15, x19, x25, x28 => if (wrap64 (x28 + x1)) ≤ (x15.length : Int) then (if 0 ≤ x28 then (if x28 ≤ (wrap64 (x28 + x1)) then ((laws_wSum.f k ((x15.take ((wrap64 (x28 + x1)) : Int).toNat).drop (x28 : Int).toNat)).bind fun t385 => (if t385 < x2 then (some false) else (laws_FnStepsMendedOfAll.l1 k x0 x1 x2 x3 x4 x5 x6 x15 x19 x25 (wrap64 (x28 + 1))))) else (none)) else (none)) else (if x25 = x19 then (if x2 > 0 then ((impl_MendSum.f k x0 x1 (wrap64 (x2 - 1))).bind fun bt386 => (if bt386.2 = true then (if bt386.1 > x19 then (some false) else (laws_FnStepsMendedOfAll.j5 k x3 x4 x5 x6)) else (some false))) else (laws_FnStepsMendedOfAll.j5 k x3 x4 x5 x6)) else (some false))
end
def laws_FnStepsMendedOfAll.f (k : Nat) (l0 : List Int) (a1 : Int) (a2 : Int) (l3 : List Int) (a4 : Int) (l5 : List Int) (a6 : Int) : Option (Bool) := if (l0.length : Int) > 10000 then (laws_FnStepsMendedOfAll.j0 k l0 a1 a2 l3 a4 l5 a6 true) else (if (l3.length : Int) > 10000 then (laws_FnStepsMendedOfAll.j0 k l0 a1 a2 l3 a4 l5 a6 true) else (laws_FnStepsMendedOfAll.j0 k l0 a1 a2 l3 a4 l5 a6 (decide ((l5.length : Int) > 10000))))
/-- What follows a statement. -/
def second_ : Code → Code
  | .seq _ b => b
  | c => c
/-- A function's text. -/
def body_ (f : Func) : Code :=
  match f.body with
  | some c => c
  | none => .skip
/-- The statement itself. -/
def first_ : Code → Code
  | .seq a _ => a
  | c => c
/-- What a slot behind the deciding one holds: 0: nothing, else: true. -/
def tlV : Nat → Value
  | 0 => undef
  | _ => .bool true
def tlAt (s : Nat) (done : List Nat) (n : Nat) : Option Nat := if s ≤ n then done[n - s]? else none
/-- One operation behind a deciding slot that holds true: it is passed over, or hands on true. -/
def tlStep (ops : Array Oper) (s : Nat) (o : Oper) (done : List Nat) (v : Nat) : Bool :=
  match o.guard with
  | some (j, b) => (v == 0) && (match (ops[j]?).bind (·.dst) with
    | some d => (match tlAt s done d with
      | some 0 => true
      | some _ => !b
      | none => false)
    | none => false)
  | none => (v == 1) && (match o.op with
    | .move (.tmp c) => tlAt s done c == some 1
    | .pick (.tmp c) (.const (.bool true)) _ => tlAt s done c == some 1
    | _ => false)
def tlOk (ops : Array Oper) (s : Nat) : List Oper → List Nat → List Nat → Bool
  | [], _, [] => true
  | o :: rest, done, v :: out => (o.dst == some (s + done.length)) && (tlStep ops s o done v && tlOk ops s rest (done ++ [v]) out)
  | _, _, _ => false
theorem tl_get {A bs : List Value} {done : List Nat} {s n v : Nat} (hA : A.length = s) (h : tlAt s done n = some v) : (A ++ done.map tlV ++ bs)[n]? = some (tlV v) := by
  unfold tlAt at h
  split at h
  · rename_i hs
    have hl : n - s < done.length := (List.getElem?_eq_some_iff.1 h).1
    rw [List.append_assoc, List.getElem?_append_right (by omega), List.getElem?_append_left (by rw [List.length_map, hA]; exact hl), hA, List.getElem?_map, h]
    rfl
  · cases h
theorem tl_set {A bs : List Value} {done : List Nat} {s : Nat} {b v : Value} (hA : A.length = s) : (A ++ done.map tlV ++ b :: bs).set (s + done.length) v = A ++ done.map tlV ++ v :: bs := by
  have : s + done.length = (A ++ done.map tlV).length := by simp [hA]
  rw [this, List.set_append_right _ _ (Nat.le_refl _), Nat.sub_self]
  rfl
theorem tl_run {P : Program} {Q : Exit → Act → World → Prop} {ds : List Deferred} {w : World} (ops : Array Oper) (s : Nat) (A : List Value) (hA : A.length = s) : ∀ (rest : List Oper) (done out : List Nat) (bs : List Value), tlOk ops s rest done out = true → rest.length ≤ bs.length →
    Q .normal ⟨(A ++ (done ++ out).map tlV ++ bs.drop rest.length).toArray, ds⟩ w → wpList P ops Q rest ⟨(A ++ done.map tlV ++ bs).toArray, ds⟩ w := by
  intro rest
  induction rest with
  | nil =>
    intro done out bs h _ hq
    cases out with
    | nil =>
      rw [List.append_nil] at hq
      exact hq
    | cons v out => cases h
  | cons o rest ih =>
    intro done out bs h hb hq
    cases out with
    | nil => cases h
    | cons v out =>
    cases bs with
    | nil => simp at hb
    | cons b bs =>
      simp only [tlOk, Bool.and_eq_true, beq_iff_eq] at h
      obtain ⟨hd, hs, hr⟩ := h
      have key : wpList P ops Q rest ⟨((A ++ done.map tlV ++ b :: bs).set (s + done.length) (tlV v)).toArray, ds⟩ w := by
        rw [tl_set hA]
        have := ih (done ++ [v]) out bs hr (by simpa using hb) (by
          rw [show done ++ [v] ++ out = done ++ (v :: out) by simp]
          exact hq)
        rw [List.map_append, List.map_singleton, List.append_assoc A, List.append_assoc, List.singleton_append] at this
        rw [List.append_assoc]
        exact this
      have hput : ∀ x : Value, (Act.put ⟨(A ++ done.map tlV ++ b :: bs).toArray, ds⟩ o.dst x) = ⟨((A ++ done.map tlV ++ b :: bs).set (s + done.length) x).toArray, ds⟩ := by
        intro x
        rw [hd]
        simp [Act.put]
      cases hg : o.guard with
      | some g =>
        obtain ⟨j, gb⟩ := g
        simp only [tlStep, hg, Bool.and_eq_true, beq_iff_eq] at hs
        obtain ⟨rfl, hs⟩ := hs
        have hw : Region.wanted o (yielded ops (A ++ done.map tlV ++ b :: bs).toArray) = false := by
          simp only [Region.wanted, hg, yielded]
          split at hs
          · rename_i d hd2
            rw [hd2]
            simp only [Option.bind_some, List.getElem?_toArray]
            split at hs
            · rename_i h0
              rw [tl_get hA h0]
              rfl
            · rename_i m hne h0
              rw [tl_get hA h0]
              cases m with
              | zero => exact absurd rfl (hne)
              | succ m =>
                cases gb with
                | true => cases hs
                | false => rfl
            · cases hs
          · cases hs
        unfold wpList
        simp only [hw, Bool.false_eq_true, if_false]
        rw [hput]
        exact key
      | none =>
        simp only [tlStep, hg, Bool.and_eq_true, beq_iff_eq] at hs
        obtain ⟨rfl, hs⟩ := hs
        have hw : Region.wanted o (yielded ops (A ++ done.map tlV ++ b :: bs).toArray) = true := by simp [Region.wanted, hg]
        unfold wpList
        simp only [hw, if_true]
        refine Or.inl ?_
        have hv : ∀ c, tlAt s done c = some 1 → Act.eval ⟨(A ++ done.map tlV ++ b :: bs).toArray, ds⟩ (.tmp c) = .bool true := by
          intro c hc
          have := tl_get (bs := b :: bs) hA hc
          simp only [Act.eval]
          rw [Array.getD_eq_getD_getElem?, List.getElem?_toArray, this]
          rfl
        unfold Oper.wp
        split at hs
        · rename_i c ho
          have he : (execOp (Act.eval ⟨(A ++ done.map tlV ++ b :: bs).toArray, ds⟩) o).run P w = .ok (.value (.bool true)) w := by
            simp only [execOp, ho]
            rw [hv c (by simpa using hs)]
            rfl
          rw [he]
          simp only [Oper.upon]
          rw [hput]
          exact key
        · rename_i c x ho
          have he : (execOp (Act.eval ⟨(A ++ done.map tlV ++ b :: bs).toArray, ds⟩) o).run P w = .ok (.value (.bool true)) w := by
            simp only [execOp, ho]
            rw [hv c (by simpa using hs)]
            rfl
          rw [he]
          simp only [Oper.upon]
          rw [hput]
          exact key
        · cases hs
/-- Behind a deciding slot that holds true: all that is left of a region, at once. -/
theorem tl_of {P : Program} {Q : Exit → Act → World → Prop} {ds : List Deferred} {w : World} {ops : Array Oper} {rest : List Oper} {L : List Value} (s : Nat) (out : List Nat) (h1 : L[s]? = some (.bool true)) (h2 : tlOk ops s rest [1] out = true) (h3 : Nat.ble (s + 1 + rest.length) L.length = true)
    (hq : Q .normal ⟨(L.take s ++ (1 :: out).map tlV ++ L.drop (s + 1 + rest.length)).toArray, ds⟩ w) : wpList P ops Q rest ⟨L.toArray, ds⟩ w := by
  have hl := Nat.le_of_ble_eq_true h3
  have e : L = L.take s ++ [1].map tlV ++ L.drop (s + 1) := by
    have := List.take_append_drop s L
    have h4 := List.drop_eq_getElem_cons (l := L) (i := s) (by omega)
    have h5 : L[s]'(by omega) = .bool true := by
      have := List.getElem?_eq_getElem (l := L) (i := s) (by omega)
      rw [h1] at this
      exact (Option.some.inj this).symm
    rw [h5] at h4
    rw [List.append_assoc]
    show L = L.take s ++ (tlV 1 :: L.drop (s + 1))
    show L = L.take s ++ (Value.bool true :: L.drop (s + 1))
    rw [← h4]
    exact this.symm
  have hd : (L.drop (s + 1)).drop rest.length = L.drop (s + 1 + rest.length) := by rw [List.drop_drop]
  have := tl_run (P := P) (Q := Q) (ds := ds) (w := w) ops s (L.take s) (by rw [List.length_take]; omega) rest [1] out (L.drop (s + 1)) h2 (by rw [List.length_drop]; omega) (by rw [hd]; exact hq)
  rw [← e] at this
  exact this
end Go.Proofs.Ytbeokaghdagabaa.PFnStepsMendedOfAll
