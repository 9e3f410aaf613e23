/- The statement FnExactWearAllSaid: for every input the law returns true and leaves its input as it was; out of the pure statement and the walk of the Go code; no condition. -/
import Derived.Test.YtfmjkephbibddaaRows
import Derived.Test.YtfmjkephbibddaaPFnExactWearAllx
import Derived.Test.YtfmjkephbibddaaPureFnExactWearAll
import Derived.WalkKit
import Derived.ProofKit
import Derived.OpenShut
import Derived.ShutString
import Derived.ChangeOld
import Derived.Below
import Derived.SizedLaws
import Derived.Carry
import Derived.Deep.Matrix
namespace Go.Proofs.Ytfmjkephbibddaa.fnExactWearAll
open Go.ChangeShapes Go.WideShapes Go.ChangeAt Go.RowKit Go.Proofs.YtfmjkephbibddaaW.PrintWords Go.Proofs.Ytfmjkephbibddaa.PFnExactWearAll
open Go.ChangeMaps (open_string shut_string)
set_option linter.unusedVariables false
set_option linter.unusedSimpArgs false
theorem own : ownKnob Try.prog.godebug = none := by kernel_rfl
theorem laidOut : laidOutB Try.prog = true := by kernel_rfl
def IsRow (k : IntKind) (w : World) (a : Option Addr) (len cap : Nat) (zs : List Int) : Prop :=
  (a = none ∧ len = 0 ∧ cap = 0 ∧ zs = []) ∨
  ∃ x, a = some x ∧ len ≤ cap ∧ cap ≤ maxLen ∧ zs.length = cap ∧ (∀ i, i < zs.length → w.cell? (x.add i) = some (.int k (zs.getD i 0))) ∧ ∀ n ∈ zs, (Lit.int k n).wf = true
theorem rows_of_trod {H : Type} {enc : TypeId × Value → H} {P : Program} {W : World} {base : Nat} {held : Bool} {t e q : TypeId} {k : IntKind} {A : Option Addr} {len c : Nat} {d : DataW H} {p : List MemPlace}
    (ht : P.underlying t = some (.slice e)) (he : P.underlying e = some (.slice q)) (hq : P.underlying q = some (.int k)) (ce : P.cellsOf e = 1) (cq : P.cellsOf q = 1) (h : DataW.Trod enc P W base (fun _ => true) held t (.slice A len c) d p) :
    ∃ l : List (List Int), len = l.length ∧ Kd.C (Kd.slice q (Kd.int k)) W A l.length l ∧ l.length ≤ c ∧ l.length ≤ maxLen ∧ ∀ z ∈ l, z.length ≤ maxLen ∧ ∀ x ∈ z, (Lit.int k x).wf = true := by
  obtain ⟨fuel, hf⟩ := h
  rcases Deep.open_int_rows ht he hq ce cq hf with ⟨hcs, _⟩ | ⟨a, len', cap, A', L, C, Z, hcs, hb, hl, hm, _, hcell⟩
  · simp [Value.cells] at hcs
    obtain ⟨rfl, rfl, rfl⟩ := hcs
    exact ⟨[], rfl, ⟨rfl, by decide, fun h => absurd h (by simp)⟩, by simp, by simp, by simp⟩
  · simp [Value.cells] at hcs
    obtain ⟨rfl, rfl, rfl⟩ := hcs
    have hlen : ((List.range len).map fun r => (Z r).take (L r)).length = len := by simp
    have hrow : ∀ r, r < len → ((Z r).take (L r)).length = L r := by
      intro r hr
      obtain ⟨_, h2, _, h4, _⟩ := hcell r (by omega)
      rw [List.length_take]
      omega
    have hmx : maxLen = 9223372036854775807 := rfl
    refine ⟨(List.range len).map fun r => (Z r).take (L r), hlen.symm, ?_, by omega, by omega, ?_⟩
    · rw [hlen]
      refine ⟨hlen, by omega, fun _ => ⟨a, rfl, fun j p hj => ?_⟩⟩
      rw [List.getElem?_map] at hj
      obtain ⟨r, hr, rfl⟩ := Option.map_eq_some_iff.1 hj
      have hjl : j < len := by
        have := (List.getElem?_eq_some_iff.1 hr).1
        rwa [List.length_range] at this
      have hrj : r = j := by
        rw [List.getElem?_range hjl] at hr
        exact (Option.some.inj hr).symm
      subst hrj
      obtain ⟨h1, h2, h3, h4, h5, h6, h7⟩ := hcell r (by omega)
      refine ⟨[.slice (A' r) (L r) (C r)], rfl, ⟨A' r, C r, by rw [hrow r hjl], by rw [hrow r hjl]; exact h2, ?_⟩, ?_⟩
      · rw [hrow r hjl]
        refine ⟨hrow r hjl, by omega, fun hpos => ?_⟩
        cases hA : A' r with
        | none =>
          have := h6 hA
          omega
        | some ad =>
          refine ⟨ad, rfl, fun j2 p2 hj2 => ⟨[.int k p2], rfl, rfl, fun i u hu => ?_⟩⟩
          have hj2l : j2 < L r := by
            have := (List.getElem?_eq_some_iff.1 hj2).1
            rwa [hrow r hjl] at this
          cases i with
          | succ i => simp at hu
          | zero =>
            obtain rfl : Value.int k p2 = u := by simpa using hu
            have h8 := (h7 ad hA).2 j2 (by omega)
            have h9 : (Z r).getD j2 0 = p2 := by
              rw [List.getElem?_take, if_pos hj2l] at hj2
              rw [List.getD_eq_getElem?_getD, hj2]
              rfl
            rw [h9] at h8
            have e : j2 * (Kd.int k).sz + 0 = j2 := by show j2 * 1 + 0 = j2; omega
            rw [e]
            exact h8
      · intro i u hu
        cases i with
        | succ i => simp at hu
        | zero =>
          obtain rfl : Value.slice (A' r) (L r) (C r) = u := by simpa using hu
          have e : r * (Kd.slice q (Kd.int k)).sz + 0 = r := by show r * 1 + 0 = r; omega
          rw [e]
          exact h1
    · intro z hz
      obtain ⟨r, hr, rfl⟩ := List.mem_map.1 hz
      have hrl : r < len := List.mem_range.1 hr
      obtain ⟨_, h2, h3, h4, h5, _⟩ := hcell r (by omega)
      exact ⟨by rw [hrow r hrl]; omega, fun x hx => h5 x (List.mem_of_mem_take hx)⟩

theorem walk (A0 : Option Addr) (c0 : Nat) (l0 : List Int) (a1 : Int) (A2 : Option Addr) (c2 : Nat) (l2 : List (List Int)) (w : World) (hr0 : Kd.C (Kd.int .i64) w A0 l0.length l0) (hc0 : l0.length ≤ c0) (hr2 : Kd.C (Kd.slice 3 (Kd.int .i64)) w A2 l2.length l2) (hc2 : l2.length ≤ c2) (hm0 : l0.length ≤ maxLen) (hw0 : (∀ x ∈ l0, (Lit.int .i64 x).wf = true)) (w1 : (Lit.int .i64 a1).wf = true) (hm2 : l2.length ≤ maxLen) (hw2 : (∀ q ∈ l2, q.length ≤ maxLen ∧ ∀ x ∈ q, (Lit.int .i64 x).wf = true)) :
    Calls Try.prog 14 #[.slice A0 l0.length c0, .int .i64 a1, .slice A2 l2.length c2] w fun e w' => e = .returned (.bool true) ∧ Below w.heap.size w w' := by
  obtain ⟨k, h⟩ := Pure.FnExactWearAll l0 a1 l2 hm0 hw0 w1 hm2 hw2
  refine (laws_FnExactWearAll.calls k A0 c0 l0 a1 A2 c2 l2 true w hr0 hc0 hr2 hc2 h).mono ?_
  rintro e w' ⟨rfl, hd⟩
  exact ⟨rfl, hd⟩
set_option maxRecDepth 100000 in
theorem lifted (os : Os) (started : os.Started) (H : Type) (enc : TypeId × Value → H) :
    ReturnsInHanded {} Try.checked os 14 .any (Rows.fnExactWearAllSpec.pre6 enc Try.prog Try.f14 Rows.fnExactWearAllRow.domain false) (Rows.fnExactWearAllSpec.post enc Try.prog Try.f14 false true false false) := by
  refine returnsInHanded_of_change_sized (C := Try.checked) own started (by kernel_rfl) Try.func14
    (ChangeSpec.witness6 (enc := enc) (C := Try.checked) false ⟨#[], #[.slice none 0 0, .int .i64 0, .slice none 0 0], []⟩ 8 (by kernel_rfl) (by kernel_rfl) (by kernel_rfl) (by kernel_rfl)) ?_
  intro W base args ds gs before hval0 hW hcnd hsz0 _
  have hval : ∀ (j : Nat) t v, Try.f14.params[j]? = some t → args[j]? = some v → Value.okWide Try.prog W .any base t v := hval0
  have hW' := hW
  obtain ⟨p, q, hA0, hV, rfl, hfz, hnd⟩ := hW
  have hA : DataW.TrodAll enc Try.prog W 0 (fun _ => true) true Try.f14.params.toList args.toList ds p := hA0
  rw [Try.params14] at hA hval
  obtain ⟨v0, vs0, d0, ds0, p0, q0, hargs, rfl, rfl, h0, r0⟩ := trodAll_cons hA
  obtain ⟨v1, vs1, d1, ds1, p1, q1, rfl, rfl, rfl, h1, r1⟩ := trodAll_cons r0
  obtain ⟨v2, vs2, d2, ds2, p2, q2, rfl, rfl, rfl, h2, r2⟩ := trodAll_cons r1
  obtain ⟨rfl, rfl, rfl⟩ := trodAll_nil r2
  obtain rfl : args = #[v0, v1, v2] := by cases args; simp_all
  obtain ⟨rfl, rfl⟩ := trodVars_none hV
  obtain ⟨A0, len0, c0, rfl⟩ := okWide_slice Try.underlying22 (hval 0 22 v0 rfl rfl)
  have k0 := h0
  have lt0 : ∀ x ∈ p0, x.block < W.heap.size := by obtain ⟨m, hm⟩ := k0; exact DataW.trod_lt m _ _ _ hm
  obtain ⟨z0, x0⟩ : ∃ zs, IsRow .i64 W A0 len0 c0 zs := by
    obtain ⟨fuel, hf⟩ := h0
    rcases open_ints Try.underlying22 Try.underlying3 (by kernel_rfl) hf with ⟨hcs, _⟩ | ⟨x, l, c, zs, hcs, _, hl, hm, hz, _, hcell, hwz⟩
    · simp [Value.cells] at hcs
      obtain ⟨rfl, rfl, rfl⟩ := hcs
      exact ⟨[], .inl ⟨rfl, rfl, rfl, rfl⟩⟩
    · simp [Value.cells] at hcs
      obtain ⟨rfl, rfl, rfl⟩ := hcs
      exact ⟨zs, .inr ⟨_, rfl, hl, hm, by simpa using hz, hcell, hwz⟩⟩
  obtain ⟨l0, rfl, hr0, hm0, hw0, hc0⟩ := ReadsInt.ofRowC x0
  obtain ⟨a1, rfl, rfl, rfl, w1⟩ := open_int Try.underlying3 (hval 1 3 v1 rfl rfl) h1
  obtain ⟨A2, len2, c2, rfl⟩ := okWide_slice Try.underlying39 (hval 2 39 v2 rfl rfl)
  have k2 := h2
  have lt2 : ∀ x ∈ p2, x.block < W.heap.size := by obtain ⟨m, hm⟩ := k2; exact DataW.trod_lt m _ _ _ hm
  obtain ⟨l2, rfl, hr2, hc2, hm2, hw2⟩ := rows_of_trod Try.underlying39 Try.underlying22 Try.underlying3 (by kernel_rfl) (by kernel_rfl) h2
  clear hA0 hval0 hsz0
  refine (walk A0 c0 l0 a1 A2 c2 l2 W (Kd.C_of_reads (d := (0 : Int)) (h1 := fun _ => rfl) hr0) hc0 hr2 hc2 hm0 hw0 w1 hm2 hw2).mono fun e W' ⟨he, bel⟩ => ?_
  subst he
  exact ⟨_, rfl, _, _, _, [], _, [], hW', trodAll_mk1 (shut_bool Try.underlying4 _), (trodAll_cons_mk (Below.trod laidOut (by kernel_rfl) (of_decide_eq_true (by kernel_rfl)) k0 bel lt0) (trodAll_cons_mk (shut_int Try.underlying3 w1) (trodAll_cons_mk (Below.trod laidOut (by kernel_rfl) (of_decide_eq_true (by kernel_rfl)) k2 bel lt2) trodAll_mk0))), rfl, bel.frame _, fun h => by cases h⟩
theorem over : Rows.fnExactWearAllRow.holds Try.pinned (OpenSpec.ofChange Rows.fnExactWearAllSpec) :=
  OpenClaim.holds_of_wide 14 Try.f14 rfl rfl rfl rfl rfl rfl rfl ⟨rfl, rfl, rfl, rfl, rfl⟩ rfl rfl rfl rfl rfl (by kernel_rfl) Try.func14 (by kernel_rfl)
    (of_decide_eq_true (by kernel_rfl)) (by unfold Func.isWrapper; first | (rw [if_pos (by decide +kernel)]; kernel_rfl) | (rw [if_neg (by decide +kernel)]; exact ⟨rfl, rfl⟩))
    (fun os started H enc _ => lifted os started H enc)
theorem proved : Rows.FnExactWearAllSaid := over
#print axioms proved
end Go.Proofs.Ytfmjkephbibddaa.fnExactWearAll
namespace Go.Proofs.Ytfmjkephbibddaa
/-- The row, under a short name, for the claim. -/
theorem fnExactWearAll_holds : Rows.FnExactWearAllSaid := fnExactWearAll.proved
end Go.Proofs.Ytfmjkephbibddaa
