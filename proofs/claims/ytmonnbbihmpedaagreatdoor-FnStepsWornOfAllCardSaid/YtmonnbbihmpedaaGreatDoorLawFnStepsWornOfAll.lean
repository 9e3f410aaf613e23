/- The statement FnStepsWornOfAllSaid: the card: for every input, package variables as laid, the law returns true and leaves its input as it was; out of the pure statement and the walk of the Go code; no condition. -/
import Derived.Test.YtmonnbbihmpedaaGreatDoorRows
import Derived.Test.YtmonnbbihmpedaaGreatDoorPFnStepsWornOfAllx
import Derived.Test.YtmonnbbihmpedaaGreatDoorPureFnStepsWornOfAll
import Derived.Test.YtmonnbbihmpedaaGreatDoorShelf
import Derived.Test.YtmonnbbihmpedaaGreatDoorTie
import Derived.Test.YtmonnbbihmpedaaGreatDoorCards
import Derived.LaidMore
import Derived.Lay
import Derived.LaidLaws
import Derived.MakeChecks
import Derived.Stop.Joined
import Derived.SevenTiedAt
import Derived.WalkKit
import Derived.ProofKit
import Derived.OpenShut
import Derived.ShutString
import Derived.ChangeOld
import Derived.Below
import Derived.SizedLaws
import Derived.Carry
import Derived.Deep.Matrix
namespace Go.Proofs.YtmonnbbihmpedaaGreatDoor.fnStepsWornOfAll
open Go.ChangeShapes Go.WideShapes Go.ChangeAt Go.RowKit Go.Proofs.YtmonnbbihmpedaaGreatDoorW.PrintWords Go.Proofs.YtmonnbbihmpedaaGreatDoor.PFnStepsWornOfAll
open Go.ChangeMaps (open_string shut_string)
set_option linter.unusedVariables false
set_option linter.unusedSimpArgs false
theorem own : ownKnob Tryz.prog.godebug = none := by kernel_rfl
theorem laidOut : laidOutB Tryz.prog = true := by kernel_rfl
def IsRow (k : IntKind) (w : World) (a : Option Addr) (len cap : Nat) (zs : List Int) : Prop :=
 (a = none ∧ len = 0 ∧ cap = 0 ∧ zs = []) ∨
 ∃ x, a = some x ∧ len ≤ cap ∧ cap ≤ maxLen ∧ zs.length = cap ∧ (∀ i, i < zs.length → w.cell? (x.add i) = some (.int k (zs.getD i 0))) ∧ ∀ n ∈ zs, (Lit.int k n).wf = true
theorem rows_of_trod {H : Type} {enc : TypeId × Value → H} {P : Program} {W : World} {base : Nat} {held : Bool} {t e q : TypeId} {k : IntKind} {A : Option Addr} {len c : Nat} {d : DataW H} {p : List MemPlace}
  (ht : P.underlying t = some (.slice e)) (he : P.underlying e = some (.slice q)) (hq : P.underlying q = some (.int k)) (ce : P.cellsOf e = 1) (cq : P.cellsOf q = 1) (h : DataW.Trod enc P W base (fun _ => true) held t (.slice A len c) d p) :
  ∃ l : List (List Int), len = l.length ∧ Kd.C (Kd.slice q (Kd.int k)) W A l.length l ∧ l.length ≤ c ∧ l.length ≤ maxLen ∧ ∀ z ∈ l, z.length ≤ maxLen ∧ ∀ x ∈ z, (Lit.int k x).wf = true := by
 obtain ⟨fuel, hf⟩ := h
 rcases Deep.open_int_rows ht he hq ce cq hf with ⟨hcs, _⟩ | ⟨a, len', cap, A', L, C, Z, hcs, hb, hl, hm, _, hcell⟩
 ·simp [Value.cells] at hcs
  obtain ⟨rfl, rfl, rfl⟩ := hcs
  exact ⟨[], rfl, ⟨rfl, by decide, fun h => absurd h (by simp)⟩, by simp, by simp, by simp⟩
 ·simp [Value.cells] at hcs
  obtain ⟨rfl, rfl, rfl⟩ := hcs
  have hlen : ((List.range len).map fun r => (Z r).take (L r)).length = len := by simp
  have hrow : ∀ r, r < len → ((Z r).take (L r)).length = L r := by
   intro r hr
   obtain ⟨_, h2, _, h4, _⟩ := hcell r (by omega)
   rw [List.length_take]
   omega
  have hmx : maxLen = 9223372036854775807 := rfl
  refine ⟨(List.range len).map fun r => (Z r).take (L r), hlen.symm, ?_, by omega, by omega, ?_⟩
  ·rw [hlen]
   refine ⟨hlen, by omega, fun _ => ⟨a, rfl, fun j p hj => ?_⟩⟩
   rw [List.getElem?_map] at hj
   obtain ⟨r, hr, rfl⟩ := Option.map_eq_some_iff.1 hj
   have hjl : j < len := by
    have := (List.getElem?_eq_some_iff.1 hr).1
    rwa [List.length_range] at this
   have hrj : r = j := by
    rw [List.getElem?_range hjl] at hr
    exact (Option.some.inj hr).symm
   subst hrj
   obtain ⟨h1, h2, h3, h4, h5, h6, h7⟩ := hcell r (by omega)
   refine ⟨[.slice (A' r) (L r) (C r)], rfl, ⟨A' r, C r, by rw [hrow r hjl], by rw [hrow r hjl]; exact h2, ?_⟩, ?_⟩
   ·rw [hrow r hjl]
    refine ⟨hrow r hjl, by omega, fun hpos => ?_⟩
    cases hA : A' r with
    | none =>
     have := h6 hA
     omega
    | some ad =>
     refine ⟨ad, rfl, fun j2 p2 hj2 => ⟨[.int k p2], rfl, rfl, fun i u hu => ?_⟩⟩
     have hj2l : j2 < L r := by
      have := (List.getElem?_eq_some_iff.1 hj2).1
      rwa [hrow r hjl] at this
     cases i with
     | succ i => simp at hu
     | zero =>
      obtain rfl : Value.int k p2 = u := by simpa using hu
      have h8 := (h7 ad hA).2 j2 (by omega)
      have h9 : (Z r).getD j2 0 = p2 := by
       rw [List.getElem?_take, if_pos hj2l] at hj2
       rw [List.getD_eq_getElem?_getD, hj2]
       rfl
      rw [h9] at h8
      have e : j2 * (Kd.int k).sz + 0 = j2 := by show j2 * 1 + 0 = j2; omega
      rw [e]
      exact h8
   ·intro i u hu
    cases i with
    | succ i => simp at hu
    | zero =>
     obtain rfl : Value.slice (A' r) (L r) (C r) = u := by simpa using hu
     have e : r * (Kd.slice q (Kd.int k)).sz + 0 = r := by show r * 1 + 0 = r; omega
     rw [e]
     exact h1
  ·intro z hz
   obtain ⟨r, hr, rfl⟩ := List.mem_map.1 hz
   have hrl : r < len := List.mem_range.1 hr
   obtain ⟨_, h2, h3, h4, h5, _⟩ := hcell r (by omega)
   exact ⟨by rw [hrow r hrl]; omega, fun x hx => h5 x (List.mem_of_mem_take hx)⟩

theorem wrap2 {H : Type} {enc : TypeId × Value → H} {a : Assume} {C : Checked} {os : Os} {f : FuncId} {fn : Func} {s : ChangeSpec} {conds : List PathCond} {apart fresh handsOn again : Bool} {X : World → Array Value → Prop}
  (hX : ∀ (w w' : World) (args : Array Value), w.heap = w'.heap → X w args → X w' args)
  (own : ownKnob C.prog.godebug = none) (started : os.Started) (noInit : C.prog.inits.idxOf? f = none) (hfn : C.prog.funcs[f]? = some fn)
  (witness : ∃ (w : World) (tape : Tape) (i : Input), w.os = os ∧ (w.forCall tape i).Shaped C.prog ∧ i.vars = [] ∧ Input.okWide C.prog (w.forCall tape i) .any w.heap.size f i ∧
   ((s.pre enc C.prog fn conds apart (w.forCall tape i).memory i.args ∧ X (w.forCall tape i).memory i.args) ∧ sizedMet enc C.prog fn (OpenSpec.ofChange s) apart (w.forCall tape i).memory i.args) ∧ a.holds C.prog (lone (Frame.enter C.prog f i.args .normal) [] (w.forCall tape i)))
  (contract : ∀ (W : World) (base : Nat) (args : Array Value) (ds gs : List (DataW H)) (before : List MemPlace),
   (∀ (j : Nat) t v, fn.params[j]? = some t → args[j]? = some v → Value.okWide C.prog W .any base t v) →
   DataW.Whole enc C.prog fn.params.toList s.vars apart W args.toList ds gs before →
   conds.all (PathCond.test C.prog ⟨fn.params.toList, ds, s.plain.varTypes C.prog, gs⟩) = true →
   (DataW.weightsEach C.prog (fn.params.toList ++ s.plain.varTypes C.prog) (ds ++ gs)).all (· ≤ reachBytes) = true → X W args → W.ShapedOpen C.prog →
   a.holds C.prog (lone (Frame.enter C.prog f args .normal) [] W) →
   Calls C.prog f args W fun e W' => ∃ v, e = .returned v ∧ s.post enc C.prog fn apart fresh handsOn again W args v W') :
  ReturnsInHanded a C os f .any (fun w args => (s.pre enc C.prog fn conds apart w args ∧ X w args) ∧ sizedMet enc C.prog fn (OpenSpec.ofChange s) apart w args) (s.post enc C.prog fn apart fresh handsOn again) := by
 refine returnsInHanded_of_calls own started noInit witness ?_
 intro w tape i _ hsh _ hok hpre hholds
 obtain ⟨_, _, _, fn', hfn', _, _, _, _, hval⟩ := hok
 have e : fn' = fn := Option.some.inj (hfn'.symm.trans hfn)
 subst e
 obtain ⟨⟨⟨ds, gs, before, hw, hc⟩, hx⟩, hz⟩ := hpre
 have hw' := DataW.Whole.of_heap (w' := w.forCall tape i) (by rfl) hw
 refine (contract (w.forCall tape i) w.heap.size i.args ds gs before hval hw' hc (hz.weights hw) (hX _ _ _ (by rfl) hx) hsh hholds).mono fun e W' ⟨v, he, hp⟩ => ?_
 subst he
 exact ChangeSpec.post_blind hp
theorem iface_cells {H : Type} {enc : TypeId × Value → H} {P : Program} {w : World} {base : Nat} {sp : Nat → Bool} {held : Bool} {fuel : Nat} {t : TypeId} {ms : Array (String × TypeId)} {cs : List Value} {d : DataW H} {p : List MemPlace}
  (ht : P.underlying t = some (.interface ms)) (h : DataW.trod enc P w base sp held fuel t cs = some (d, p)) : ∃ v, cs = [v] ∧ (v = .nilIface ∨ ∃ te pe, v = .iface te pe) := by
 cases fuel with
 | zero => simp [DataW.trod] at h
 | succ fuel =>
  match cs, h with
  | [], h => simp [DataW.trod, ht] at h
  | [v], h =>
   refine ⟨v, rfl, ?_⟩
   cases v <;> first | exact .inl rfl | exact .inr ⟨_, _, rfl⟩ | (simp [DataW.trod, ht] at h)
  | a :: b :: r, h => simp [DataW.trod, ht] at h
theorem iface_var {W : World} {n : String} {g : Nat} {cs : Array Value} {v : Value} (hg : Tryz.prog.globalNamed n = some g) (hv : W.var? Tryz.prog n = some cs) (h : cs.toList = [v]) : W.cell? ⟨g, 0, none⟩ = some v := by
 have := World.var?_cell hg hv 0
 rw [Array.eq_one_of_toList h] at this
 simpa using this
theorem door_met (os : Os) (args : Array Value) : laidMetH Tryz.prog Rows.fnStepsWornOfAllRow.laid ((World.laidAll Tryz.prog os Rows.fnStepsWornOfAllRow.laid).forCall (fun _ _ => 0) ⟨#[], args, []⟩).memory := by
 rw [MakeChecks.laidMetH_plain _ _ _ (by kernel_rfl)]
 exact laidMet_laidAll _ (by kernel_rfl) (by kernel_rfl)
set_option maxRecDepth 100000 in
theorem tbx_of {W : World} (h : laidMetH Tryz.prog Rows.fnStepsWornOfAllRow.laid W) (hsh : W.ShapedOpen Tryz.prog) : TBB W := by
 rw [MakeChecks.laidMetH_plain _ _ _ (by kernel_rfl)] at h
 obtain ⟨ps, ⟨g0, t0, cs0, f0, p0, q0, hg0, ht0, hv0, hd0, ⟨g1, t1, cs1, f1, p1, q1, hg1, ht1, hv1, hd1, ⟨g2, t2, cs2, f2, p2, q2, hg2, ht2, hv2, hd2, ⟨g3, t3, cs3, f3, p3, q3, hg3, ht3, hv3, hd3, ⟨g4, t4, cs4, f4, p4, q4, hg4, ht4, hv4, hd4, ⟨g5, t5, cs5, f5, p5, q5, hg5, ht5, hv5, hd5, _, _⟩, _⟩, _⟩, _⟩, _⟩, _⟩, _⟩ := h
 refine ⟨?_, ?_, ?_, ?_⟩
 ·have hg : Tryz.prog.globalNamed "internal/strconv.uint64pow10" = some 0 := by kernel_rfl
  have hty : (Tryz.prog.globals[0]?).map (·.type) = some 102 := by kernel_rfl
  obtain rfl := Option.some.inj (hg.symm.trans hg2)
  obtain rfl := Option.some.inj (hty.symm.trans ht2)
  unfold Lib.TabIs
  rw [hv2, ← Lib.cells_of_tab (zs := Lib.pow10Tab) (k := .u64) Tryz.underlying102 Tryz.underlying83 (by kernel_rfl) (by kernel_rfl) hd2]
 ·exact cell_of_shapedOpen_int (g := 1) (t := 3) (zero := #[.int .i64 0]) hsh (of_decide_eq_true (by kernel_rfl)) (by kernel_rfl) rfl (by kernel_rfl) (by kernel_rfl) Tryz.underlying3
 ·have hg : Tryz.prog.globalNamed "strconv.ErrSyntax" = some 2 := by kernel_rfl
  have hty : (Tryz.prog.globals[2]?).map (·.type) = some 72 := by kernel_rfl
  obtain rfl := Option.some.inj (hg.symm.trans hg5)
  obtain rfl := Option.some.inj (hty.symm.trans ht5)
  obtain ⟨v, e, hi⟩ := iface_cells Tryz.underlying72 hd5
  exact ⟨v, iface_var hg hv5 e, hi⟩
 ·have hg : Tryz.prog.globalNamed "strconv.ErrRange" = some 3 := by kernel_rfl
  have hty : (Tryz.prog.globals[3]?).map (·.type) = some 72 := by kernel_rfl
  obtain rfl := Option.some.inj (hg.symm.trans hg4)
  obtain rfl := Option.some.inj (hty.symm.trans ht4)
  obtain ⟨v, e, hi⟩ := iface_cells Tryz.underlying72 hd4
  exact ⟨v, iface_var hg hv4 e, hi⟩
theorem walk (A0 : Option Addr) (c0 : Nat) (l0 : List Int) (a1 : Int) (A2 : Option Addr) (c2 : Nat) (l2 : List Int) (A3 : Option Addr) (c3 : Nat) (l3 : List Int) (a4 : Int) (A5 : Option Addr) (c5 : Nat) (l5 : List Int) (a6 : Int) (A7 : Option Addr) (c7 : Nat) (l7 : List (List Int)) (A8 : Option Addr) (c8 : Nat) (l8 : List Int) (a9 : Int) (a10 : Int) (a11 : ByteArray) (w : World) (hr0 : Kd.C (Kd.int .i64) w A0 l0.length l0) (hc0 : l0.length ≤ c0) (hr2 : Kd.C (Kd.int .i64) w A2 l2.length l2) (hc2 : l2.length ≤ c2) (hr3 : Kd.C (Kd.int .i64) w A3 l3.length l3) (hc3 : l3.length ≤ c3) (hr5 : Kd.C (Kd.int .i64) w A5 l5.length l5) (hc5 : l5.length ≤ c5) (hr7 : Kd.C (Kd.slice 3 (Kd.int .i64)) w A7 l7.length l7) (hc7 : l7.length ≤ c7) (hr8 : Kd.C (Kd.int .i64) w A8 l8.length l8) (hc8 : l8.length ≤ c8) (hm0 : l0.length ≤ maxLen) (hw0 : (∀ x ∈ l0, (Lit.int .i64 x).wf = true)) (w1 : (Lit.int .i64 a1).wf = true) (hm2 : l2.length ≤ maxLen) (hw2 : (∀ x ∈ l2, (Lit.int .i64 x).wf = true)) (hm3 : l3.length ≤ maxLen) (hw3 : (∀ x ∈ l3, (Lit.int .i64 x).wf = true)) (w4 : (Lit.int .i64 a4).wf = true) (hm5 : l5.length ≤ maxLen) (hw5 : (∀ x ∈ l5, (Lit.int .i64 x).wf = true)) (w6 : (Lit.int .i64 a6).wf = true) (hm7 : l7.length ≤ maxLen) (hw7 : (∀ q ∈ l7, q.length ≤ maxLen ∧ ∀ x ∈ q, (Lit.int .i64 x).wf = true)) (hm8 : l8.length ≤ maxLen) (hw8 : (∀ x ∈ l8, (Lit.int .i64 x).wf = true)) (w9 : (Lit.int .i64 a9).wf = true) (w10 : (Lit.int .i64 a10).wf = true) (y11 : a11.size ≤ 140737488351232) (htb : TBB w) :
  Calls Tryz.prog 3 #[.slice A0 l0.length c0, .int .i64 a1, .slice A2 l2.length c2, .slice A3 l3.length c3, .int .i64 a4, .slice A5 l5.length c5, .int .i64 a6, .slice A7 l7.length c7, .slice A8 l8.length c8, .int .i64 a9, .int .i64 a10, .string a11] w fun e w' => e = .returned (.bool true) ∧ Below w.heap.size w w' := by
 obtain ⟨k, h⟩ := Pure.FnStepsWornOfAll l0 a1 l2 l3 a4 l5 a6 l7 l8 a9 a10 a11 hm0 hw0 w1 hm2 hw2 hm3 hw3 w4 hm5 hw5 w6 hm7 hw7 hm8 hw8 w9 w10 y11
 refine (laws_FnStepsWornOfAll.calls k A0 c0 l0 a1 A2 c2 l2 A3 c3 l3 a4 (fun k_ => k_ < w.heap.size) A5 c5 l5 a6 A7 c7 l7 A8 c8 l8 a9 a10 a11 true w hr0 hc0 hr2 hc2 hr3 hc3 (Kd.V_mk hc5 (Kd.C_F (Kd.heap_int .i64) hr5)) hr7 hc7 hr8 hc8 htb h).mono ?_
 rintro e w' ⟨rfl, hd⟩
 exact ⟨rfl, hd⟩
set_option maxRecDepth 100000 in
theorem lifted (os : Os) (started : os.Started) (H : Type) (enc : TypeId × Value → H) :
  ReturnsInHanded {} Tryz.checked os 3 .any (fun w args => (Rows.fnStepsWornOfAllSpec.pre enc Tryz.prog Tryz.f3 Rows.fnStepsWornOfAllRow.domain false w args ∧ laidMetH Tryz.prog Rows.fnStepsWornOfAllRow.laid w) ∧ sizedMet enc Tryz.prog Tryz.f3 (OpenSpec.ofChange Rows.fnStepsWornOfAllSpec) false w args) (Rows.fnStepsWornOfAllSpec.post enc Tryz.prog Tryz.f3 false true false false) := by
 refine wrap2 (C := Tryz.checked) (X := fun w _ => laidMetH Tryz.prog Rows.fnStepsWornOfAllRow.laid w) (fun _ _ _ hh h => h.of_heap hh) own started (by kernel_rfl) Tryz.func3
  (ChangeSpec.witness_shaped (enc := enc) (C := Tryz.checked) (os := os) (X := fun w _ => laidMetH Tryz.prog Rows.fnStepsWornOfAllRow.laid w) false (World.laidAll Tryz.prog os Rows.fnStepsWornOfAllRow.laid) #[.slice none 0 0, .int .i64 0, .slice none 0 0, .slice none 0 0, .int .i64 0, .slice none 0 0, .int .i64 0, .slice none 0 0, .slice none 0 0, .int .i64 0, .int .i64 0, .string ByteArray.empty] 8 (World.laidAll_os _ _ _) (World.shaped_of_ZipB (by kernel_rfl) (by kernel_rfl)) (by kernel_rfl) (by kernel_rfl) (by kernel_rfl) (door_met os _)) ?_
 intro W base args ds gs before hval0 hW hcnd hsz0 hL hsh _
 have htb : TBB W := tbx_of hL hsh
 clear hL hsh
 have hval : ∀ (j : Nat) t v, Tryz.f3.params[j]? = some t → args[j]? = some v → Value.okWide Tryz.prog W .any base t v := hval0
 have hW' := hW
 obtain ⟨p, q, hA0, hV, rfl, hfz, hnd⟩ := hW
 have hA : DataW.TrodAll enc Tryz.prog W 0 (fun _ => true) true Tryz.f3.params.toList args.toList ds p := hA0
 rw [Tryz.params3] at hA hval
 obtain ⟨v0, vs0, d0, ds0, p0, q0, hargs, rfl, rfl, h0, r0⟩ := trodAll_cons hA
 obtain ⟨v1, vs1, d1, ds1, p1, q1, rfl, rfl, rfl, h1, r1⟩ := trodAll_cons r0
 obtain ⟨v2, vs2, d2, ds2, p2, q2, rfl, rfl, rfl, h2, r2⟩ := trodAll_cons r1
 obtain ⟨v3, vs3, d3, ds3, p3, q3, rfl, rfl, rfl, h3, r3⟩ := trodAll_cons r2
 obtain ⟨v4, vs4, d4, ds4, p4, q4, rfl, rfl, rfl, h4, r4⟩ := trodAll_cons r3
 obtain ⟨v5, vs5, d5, ds5, p5, q5, rfl, rfl, rfl, h5, r5⟩ := trodAll_cons r4
 obtain ⟨v6, vs6, d6, ds6, p6, q6, rfl, rfl, rfl, h6, r6⟩ := trodAll_cons r5
 obtain ⟨v7, vs7, d7, ds7, p7, q7, rfl, rfl, rfl, h7, r7⟩ := trodAll_cons r6
 obtain ⟨v8, vs8, d8, ds8, p8, q8, rfl, rfl, rfl, h8, r8⟩ := trodAll_cons r7
 obtain ⟨v9, vs9, d9, ds9, p9, q9, rfl, rfl, rfl, h9, r9⟩ := trodAll_cons r8
 obtain ⟨v10, vs10, d10, ds10, p10, q10, rfl, rfl, rfl, h10, r10⟩ := trodAll_cons r9
 obtain ⟨v11, vs11, d11, ds11, p11, q11, rfl, rfl, rfl, h11, r11⟩ := trodAll_cons r10
 obtain ⟨rfl, rfl, rfl⟩ := trodAll_nil r11
 obtain rfl : args = #[v0, v1, v2, v3, v4, v5, v6, v7, v8, v9, v10, v11] := by cases args; simp_all
 obtain ⟨rfl, rfl⟩ := trodVars_none hV
 obtain ⟨A0, len0, c0, rfl⟩ := okWide_slice Tryz.underlying22 (hval 0 22 v0 rfl rfl)
 have k0 := h0
 have lt0 : ∀ x ∈ p0, x.block < W.heap.size := by obtain ⟨m, hm⟩ := k0; exact DataW.trod_lt m _ _ _ hm
 obtain ⟨z0, x0⟩ : ∃ zs, IsRow .i64 W A0 len0 c0 zs := by
  obtain ⟨fuel, hf⟩ := h0
  rcases open_ints Tryz.underlying22 Tryz.underlying3 (by kernel_rfl) hf with ⟨hcs, _⟩ | ⟨x, l, c, zs, hcs, _, hl, hm, hz, _, hcell, hwz⟩
  ·simp [Value.cells] at hcs
   obtain ⟨rfl, rfl, rfl⟩ := hcs
   exact ⟨[], .inl ⟨rfl, rfl, rfl, rfl⟩⟩
  ·simp [Value.cells] at hcs
   obtain ⟨rfl, rfl, rfl⟩ := hcs
   exact ⟨zs, .inr ⟨_, rfl, hl, hm, by simpa using hz, hcell, hwz⟩⟩
 obtain ⟨l0, rfl, hr0, hm0, hw0, hc0⟩ := ReadsInt.ofRowC x0
 obtain ⟨a1, rfl, rfl, rfl, w1⟩ := open_int Tryz.underlying3 (hval 1 3 v1 rfl rfl) h1
 obtain ⟨A2, len2, c2, rfl⟩ := okWide_slice Tryz.underlying22 (hval 2 22 v2 rfl rfl)
 have k2 := h2
 have lt2 : ∀ x ∈ p2, x.block < W.heap.size := by obtain ⟨m, hm⟩ := k2; exact DataW.trod_lt m _ _ _ hm
 obtain ⟨z2, x2⟩ : ∃ zs, IsRow .i64 W A2 len2 c2 zs := by
  obtain ⟨fuel, hf⟩ := h2
  rcases open_ints Tryz.underlying22 Tryz.underlying3 (by kernel_rfl) hf with ⟨hcs, _⟩ | ⟨x, l, c, zs, hcs, _, hl, hm, hz, _, hcell, hwz⟩
  ·simp [Value.cells] at hcs
   obtain ⟨rfl, rfl, rfl⟩ := hcs
   exact ⟨[], .inl ⟨rfl, rfl, rfl, rfl⟩⟩
  ·simp [Value.cells] at hcs
   obtain ⟨rfl, rfl, rfl⟩ := hcs
   exact ⟨zs, .inr ⟨_, rfl, hl, hm, by simpa using hz, hcell, hwz⟩⟩
 obtain ⟨l2, rfl, hr2, hm2, hw2, hc2⟩ := ReadsInt.ofRowC x2
 obtain ⟨A3, len3, c3, rfl⟩ := okWide_slice Tryz.underlying22 (hval 3 22 v3 rfl rfl)
 have k3 := h3
 have lt3 : ∀ x ∈ p3, x.block < W.heap.size := by obtain ⟨m, hm⟩ := k3; exact DataW.trod_lt m _ _ _ hm
 obtain ⟨z3, x3⟩ : ∃ zs, IsRow .i64 W A3 len3 c3 zs := by
  obtain ⟨fuel, hf⟩ := h3
  rcases open_ints Tryz.underlying22 Tryz.underlying3 (by kernel_rfl) hf with ⟨hcs, _⟩ | ⟨x, l, c, zs, hcs, _, hl, hm, hz, _, hcell, hwz⟩
  ·simp [Value.cells] at hcs
   obtain ⟨rfl, rfl, rfl⟩ := hcs
   exact ⟨[], .inl ⟨rfl, rfl, rfl, rfl⟩⟩
  ·simp [Value.cells] at hcs
   obtain ⟨rfl, rfl, rfl⟩ := hcs
   exact ⟨zs, .inr ⟨_, rfl, hl, hm, by simpa using hz, hcell, hwz⟩⟩
 obtain ⟨l3, rfl, hr3, hm3, hw3, hc3⟩ := ReadsInt.ofRowC x3
 obtain ⟨a4, rfl, rfl, rfl, w4⟩ := open_int Tryz.underlying3 (hval 4 3 v4 rfl rfl) h4
 obtain ⟨A5, len5, c5, rfl⟩ := okWide_slice Tryz.underlying22 (hval 5 22 v5 rfl rfl)
 have k5 := h5
 have lt5 : ∀ x ∈ p5, x.block < W.heap.size := by obtain ⟨m, hm⟩ := k5; exact DataW.trod_lt m _ _ _ hm
 obtain ⟨z5, x5⟩ : ∃ zs, IsRow .i64 W A5 len5 c5 zs := by
  obtain ⟨fuel, hf⟩ := h5
  rcases open_ints Tryz.underlying22 Tryz.underlying3 (by kernel_rfl) hf with ⟨hcs, _⟩ | ⟨x, l, c, zs, hcs, _, hl, hm, hz, _, hcell, hwz⟩
  ·simp [Value.cells] at hcs
   obtain ⟨rfl, rfl, rfl⟩ := hcs
   exact ⟨[], .inl ⟨rfl, rfl, rfl, rfl⟩⟩
  ·simp [Value.cells] at hcs
   obtain ⟨rfl, rfl, rfl⟩ := hcs
   exact ⟨zs, .inr ⟨_, rfl, hl, hm, by simpa using hz, hcell, hwz⟩⟩
 obtain ⟨l5, rfl, hr5, hm5, hw5, hc5⟩ := ReadsInt.ofRowC x5
 obtain ⟨a6, rfl, rfl, rfl, w6⟩ := open_int Tryz.underlying3 (hval 6 3 v6 rfl rfl) h6
 obtain ⟨A7, len7, c7, rfl⟩ := okWide_slice Tryz.underlying23 (hval 7 23 v7 rfl rfl)
 have k7 := h7
 have lt7 : ∀ x ∈ p7, x.block < W.heap.size := by obtain ⟨m, hm⟩ := k7; exact DataW.trod_lt m _ _ _ hm
 obtain ⟨l7, rfl, hr7, hc7, hm7, hw7⟩ := rows_of_trod Tryz.underlying23 Tryz.underlying22 Tryz.underlying3 (by kernel_rfl) (by kernel_rfl) h7
 obtain ⟨A8, len8, c8, rfl⟩ := okWide_slice Tryz.underlying22 (hval 8 22 v8 rfl rfl)
 have k8 := h8
 have lt8 : ∀ x ∈ p8, x.block < W.heap.size := by obtain ⟨m, hm⟩ := k8; exact DataW.trod_lt m _ _ _ hm
 obtain ⟨z8, x8⟩ : ∃ zs, IsRow .i64 W A8 len8 c8 zs := by
  obtain ⟨fuel, hf⟩ := h8
  rcases open_ints Tryz.underlying22 Tryz.underlying3 (by kernel_rfl) hf with ⟨hcs, _⟩ | ⟨x, l, c, zs, hcs, _, hl, hm, hz, _, hcell, hwz⟩
  ·simp [Value.cells] at hcs
   obtain ⟨rfl, rfl, rfl⟩ := hcs
   exact ⟨[], .inl ⟨rfl, rfl, rfl, rfl⟩⟩
  ·simp [Value.cells] at hcs
   obtain ⟨rfl, rfl, rfl⟩ := hcs
   exact ⟨zs, .inr ⟨_, rfl, hl, hm, by simpa using hz, hcell, hwz⟩⟩
 obtain ⟨l8, rfl, hr8, hm8, hw8, hc8⟩ := ReadsInt.ofRowC x8
 obtain ⟨a9, rfl, rfl, rfl, w9⟩ := open_int Tryz.underlying3 (hval 9 3 v9 rfl rfl) h9
 obtain ⟨a10, rfl, rfl, rfl, w10⟩ := open_int Tryz.underlying3 (hval 10 3 v10 rfl rfl) h10
 obtain ⟨a11, rfl, rfl, rfl, z11⟩ := open_string Tryz.underlying9 (hval 11 9 v11 rfl rfl) h11
 have y11 : a11.size ≤ 140737488351232 := by
  have hz := sized_string hsz0 (j := 11) (t := 9) rfl rfl
  rw [Array.length_toList] at hz
  exact hz
 clear hA0 hval0 hsz0
 refine (walk A0 c0 l0 a1 A2 c2 l2 A3 c3 l3 a4 A5 c5 l5 a6 A7 c7 l7 A8 c8 l8 a9 a10 a11 W (Kd.C_of_reads (d := (0 : Int)) (h1 := fun _ => rfl) hr0) hc0 (Kd.C_of_reads (d := (0 : Int)) (h1 := fun _ => rfl) hr2) hc2 (Kd.C_of_reads (d := (0 : Int)) (h1 := fun _ => rfl) hr3) hc3 (Kd.C_of_reads (d := (0 : Int)) (h1 := fun _ => rfl) hr5) hc5 hr7 hc7 (Kd.C_of_reads (d := (0 : Int)) (h1 := fun _ => rfl) hr8) hc8 hm0 hw0 w1 hm2 hw2 hm3 hw3 w4 hm5 hw5 w6 hm7 hw7 hm8 hw8 w9 w10 y11 htb).mono fun e W' ⟨he, bel⟩ => ?_
 subst he
 exact ⟨_, rfl, _, _, _, [], _, [], hW', trodAll_mk1 (shut_bool Tryz.underlying4 _), (trodAll_cons_mk (Below.trod laidOut (by kernel_rfl) (of_decide_eq_true (by kernel_rfl)) k0 bel lt0) (trodAll_cons_mk (shut_int Tryz.underlying3 w1) (trodAll_cons_mk (Below.trod laidOut (by kernel_rfl) (of_decide_eq_true (by kernel_rfl)) k2 bel lt2) (trodAll_cons_mk (Below.trod laidOut (by kernel_rfl) (of_decide_eq_true (by kernel_rfl)) k3 bel lt3) (trodAll_cons_mk (shut_int Tryz.underlying3 w4) (trodAll_cons_mk (Below.trod laidOut (by kernel_rfl) (of_decide_eq_true (by kernel_rfl)) k5 bel lt5) (trodAll_cons_mk (shut_int Tryz.underlying3 w6) (trodAll_cons_mk (Below.trod laidOut (by kernel_rfl) (of_decide_eq_true (by kernel_rfl)) k7 bel lt7) (trodAll_cons_mk (Below.trod laidOut (by kernel_rfl) (of_decide_eq_true (by kernel_rfl)) k8 bel lt8) (trodAll_cons_mk (shut_int Tryz.underlying3 w9) (trodAll_cons_mk (shut_int Tryz.underlying3 w10) (trodAll_cons_mk (shut_string Tryz.underlying9 z11) trodAll_mk0)))))))))))), rfl, bel.frame _, fun h => by cases h⟩
theorem over : Rows.fnStepsWornOfAllRow.holds Tryz.pinned (OpenSpec.ofChange Rows.fnStepsWornOfAllSpec) :=
 OpenClaim.holds_of_wide 3 Tryz.f3 rfl rfl rfl rfl rfl rfl rfl ⟨rfl, rfl, rfl, rfl, rfl⟩ rfl rfl rfl rfl rfl (by kernel_rfl) Tryz.func3 (by kernel_rfl)
  (of_decide_eq_true (by kernel_rfl)) (by unfold Func.isWrapper; first | (rw [if_pos (by decide +kernel)]; kernel_rfl) | (rw [if_neg (by decide +kernel)]; exact ⟨rfl, rfl⟩))
  (fun os started H enc _ => lifted os started H enc)
theorem proved : Rows.FnStepsWornOfAllCardSaid :=
 Claim7.holds_tied_plain_at .later [] [.data, .data, .data, .data, .sentinel, .sentinel, .pinned] true (true, "73b6996c0d62f0b0322f7faca04920623756e2cc4349b2f2bbb16a1abc7715ab") true
  over (fun _ h => by cases h) (by kernel_rfl) (fun _ h => by cases h) fnStepsWornOfAll_row_tie rfl ⟨rfl, rfl⟩ (by kernel_rfl) rfl
  (fun f fn hf hfn => by
   obtain rfl : f = 3 := Option.some.inj ((show Tryz.prog.funcNamed "loop.example/g01374/laws.FnStepsWornOfAll" = some 3 by kernel_rfl).symm.trans hf) |>.symm
   obtain rfl : fn = Tryz.f3 := (Option.some.inj (Tryz.func3.symm.trans hfn)).symm
   exact ⟨by kernel_rfl, fun j t ht => by
    rw [Tryz.params3] at ht
    have hm : t ∈ [22, 3, 22, 22, 3, 22, 3, 23, 22, 3, 3, 9] := by simpa using Array.mem_of_getElem? ht
    have hall : ([22, 3, 22, 22, 3, 22, 3, 23, 22, 3, 3, 9].all fun u => !Tryz.prog.wantsStandIn u) = true := by kernel_rfl
    exact (show Tryz.prog.wantsStandIn t = false by simpa using List.all_eq_true.1 hall t hm)⟩)
  (by kernel_rfl)
#print axioms proved
end Go.Proofs.YtmonnbbihmpedaaGreatDoor.fnStepsWornOfAll
namespace Go.Proofs.YtmonnbbihmpedaaGreatDoor
/-- The card, under a short name, for the claim. -/
theorem fnStepsWornOfAll_holds : Rows.FnStepsWornOfAllCardSaid := fnStepsWornOfAll.proved
end Go.Proofs.YtmonnbbihmpedaaGreatDoor
