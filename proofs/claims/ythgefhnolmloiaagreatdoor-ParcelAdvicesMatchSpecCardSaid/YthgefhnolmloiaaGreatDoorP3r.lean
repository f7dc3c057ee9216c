/- The law interchangelaw10.ParcelAdvicesMatchSpec: for every advice and label, CheckAdvice, Within and Path of the program answer as those of the reference: the call returns true, and the arguments read behind it as they read before. Conditions: none beyond the row's own (the listed tables hold what they are laid with). -/
import Derived.Test.YthgefhnolmloiaaGreatDoorCards
import Derived.Test.YthgefhnolmloiaaGreatDoorTie
import Derived.Test.YthgefhnolmloiaaGreatDoorP3j
import Derived.Test.YthgefhnolmloiaaGreatDoorP3o
import Derived.WalkKit
import Derived.ProofKit
import Derived.OpenShut
import Derived.ShutString
import Derived.ChangeOld
import Derived.Below
import Derived.Deep.DeepHandedRow
import Derived.Lib.LaidTab
namespace Go.Proofs.YthgefhnolmloiaaGreatDoor.parcelAdvices
open Go.ChangeShapes Go.WideShapes Go.ChangeAt Go.RowKit Go.Proofs.YthgefhnolmloiaaGreatDoor.P3 YthgefhnolmloiaaGreatDoorW.PrintWords
open Go.ChangeMaps (open_string shut_string)

theorem own : ownKnob Tryz.prog.godebug = none := by kernel_rfl
theorem laidOut : laidOutB Tryz.prog = true := by kernel_rfl

section
variable {H : Type} {enc : TypeId × Value → H} {W : World} {sp : Nat → Bool} {hd : Bool}
/-- what an argument of this kind can be -/
def vD (x : S39) : Prop := (Lit.int .i64 x.f0).wf = true ∧ (Lit.int .i64 x.f1).wf = true
def vC (x : S66) : Prop := x.f0.size ≤ maxLen ∧ x.f1.size ≤ maxLen ∧ x.f2.size ≤ maxLen ∧ vD x.f3
def vP (x : S42) : Prop := x.f0.size ≤ maxLen ∧ x.f1.size ≤ maxLen ∧ vD x.f2 ∧ x.f3.length ≤ maxLen ∧ ∀ y ∈ x.f3, vC y
def vA (x : S24) : Prop := x.f0.size ≤ maxLen ∧ x.f1.size ≤ maxLen ∧ (Lit.int .i64 x.f2).wf = true ∧ x.f3.length ≤ maxLen ∧ ∀ y ∈ x.f3, vP y
theorem oD : Opens enc Tryz.prog W sp hd k39 39 vD :=
  opens_iso (fun x : S39 => (x.f0, x.f1)) (fun ⟨a, b⟩ => ⟨⟨a, b⟩, rfl⟩) (opens_struct Tryz.underlying39 (opensFs_cons (by kernel_rfl) (opens_int Tryz.underlying3) (opensFs_last (by kernel_rfl) (by kernel_rfl) (opens_int Tryz.underlying3))))
theorem oC : Opens enc Tryz.prog W sp hd k66 66 vC :=
  opens_iso (fun x : S66 => (x.f0, x.f1, x.f2, x.f3)) (fun ⟨a, b, c, d⟩ => ⟨⟨a, b, c, d⟩, rfl⟩) (opens_struct Tryz.underlying66 (opensFs_cons (by kernel_rfl) (opens_string Tryz.underlying9) (opensFs_cons (by kernel_rfl) (opens_string Tryz.underlying9) (opensFs_cons (by kernel_rfl) (opens_string Tryz.underlying9) (opensFs_last (by kernel_rfl) (by kernel_rfl) oD)))))
theorem oP : Opens enc Tryz.prog W sp hd k42 42 vP :=
  opens_iso (fun x : S42 => (x.f0, x.f1, x.f2, x.f3)) (fun ⟨a, b, c, d⟩ => ⟨⟨a, b, c, d⟩, rfl⟩) (opens_struct Tryz.underlying42 (opensFs_cons (by kernel_rfl) (opens_string Tryz.underlying9) (opensFs_cons (by kernel_rfl) (opens_string Tryz.underlying9) (opensFs_cons (by kernel_rfl) oD (opensFs_last (by kernel_rfl) (by kernel_rfl) (opens_slice Tryz.underlying40 (by kernel_rfl) oC))))))
theorem oA : Opens enc Tryz.prog W sp hd k24 24 vA :=
  opens_iso (fun x : S24 => (x.f0, x.f1, x.f2, x.f3)) (fun ⟨a, b, c, d⟩ => ⟨⟨a, b, c, d⟩, rfl⟩) (opens_struct Tryz.underlying24 (opensFs_cons (by kernel_rfl) (opens_string Tryz.underlying9) (opensFs_cons (by kernel_rfl) (opens_string Tryz.underlying9) (opensFs_cons (by kernel_rfl) (opens_int Tryz.underlying3) (opensFs_last (by kernel_rfl) (by kernel_rfl) (opens_slice Tryz.underlying22 (by kernel_rfl) oP))))))
end
theorem len_ok {n : Nat} (h : n ≤ maxLen) : n ≤ 9223372036854775807 := by
  have : maxLen ≤ 9223372036854775807 := by decide
  omega
theorem getD_mem {α : Type} {P : α → Prop} {l : List α} (h : ∀ x ∈ l, P x) (i : Nat) (hi : i < l.length) (d : α) : P (l.getD i d) := by
  rw [List.getD_eq_getElem?_getD, List.getElem?_eq_getElem hi]
  exact h _ (List.getElem_mem hi)
theorem zd_of {x : S24} (h : vA x) : Zd x.f0 x.f1 x.f3 := by
  obtain ⟨h0, h1, _, _, h4⟩ := h
  refine ⟨len_ok h0, len_ok h1, fun i hi => ?_⟩
  have hp : vP (rdP x.f3 (i : Int)) := getD_mem h4 i hi _
  refine ⟨len_ok hp.1, fun j hj => ?_⟩
  have hc : vC (rdC (rdP x.f3 (i : Int)).f3 (j : Int)) := getD_mem hp.2.2.2.2 j hj _
  exact ⟨len_ok hc.1, len_ok hc.2.1, len_ok hc.2.2.1⟩

set_option maxRecDepth 100000 in
theorem contract (H : Type) (enc : TypeId × Value → H) (W : World) (base : Nat) (args : Array Value) (ds gs : List (DataW H)) (before : List MemPlace)
    (hval : ∀ (j : Nat) t v, Tryz.f3.params[j]? = some t → args[j]? = some v → Value.okWide Tryz.prog W .any base t v)
    (hW : DataW.Whole enc Tryz.prog Tryz.f3.params.toList Rows.parcelAdvicesMatchSpecSpec.vars false W args.toList ds gs before) :
    Calls Tryz.prog 3 args W fun e W' => ∃ v, e = .returned v ∧ Rows.parcelAdvicesMatchSpecSpec.post enc Tryz.prog Tryz.f3 false true false false W args v W' := by
  have hW' := hW
  obtain ⟨p, q, hA0, hV, rfl, hfz, hnd⟩ := hW
  have hA : DataW.TrodAll enc Tryz.prog W 0 (fun _ => true) true Tryz.f3.params.toList args.toList ds p := hA0
  rw [Tryz.params3] at hA hval
  obtain ⟨v0, vs0, d0, ds0, p0, q0, hargs, rfl, rfl, h0, r0⟩ := trodAll_cons hA
  obtain ⟨v1, vs1, d1, ds1, p1, q1, rfl, rfl, rfl, h1, r1⟩ := trodAll_cons r0
  obtain ⟨rfl, rfl, rfl⟩ := trodAll_nil r1
  obtain rfl : args = #[v0, v1] := by cases args; simp_all
  obtain ⟨rfl, rfl⟩ := trodVars_none hV
  have k0 := h0
  have lt0 : ∀ x ∈ p0, x.block < W.heap.size := by
    obtain ⟨m, hm⟩ := k0
    exact DataW.trod_lt m _ _ _ hm
  obtain ⟨x, A3, c3, hx, rfl, hc3, hC⟩ : ∃ x A3 c3, vA x ∧ v0 = .agg #[.string x.f0, .string x.f1, .int .i64 x.f2, .slice A3 x.f3.length c3] ∧ x.f3.length ≤ c3 ∧ k42.C W A3 x.f3.length x.f3 := by
    obtain ⟨fuel, hf⟩ := h0
    obtain ⟨x, hK, hx⟩ := oA fuel _ _ hf
    obtain ⟨A3, c3, hcs, hc3, hC⟩ := k24_open hK
    refine ⟨x, A3, c3, hx, ?_, hc3, hC⟩
    cases v0 with
    | agg a =>
      have : a.toList = _ := hcs
      rw [← Array.toArray_toList (xs := a), this]
    | _ => simp [Value.cells] at hcs
  have hv1 : Value.okWide Tryz.prog W .any base 9 v1 := hval 1 9 v1 (by simp) (by simp)
  obtain ⟨a1, rfl, rfl, rfl, y1⟩ := open_string Tryz.underlying9 hv1 h1
  clear hA0 hval
  obtain ⟨k, hk⟩ := (law_true x.f0 x.f1 x.f2 a1 (zd_of hx)).get
  refine (interchangelaw10_ParcelAdvicesMatchSpec.calls k x.f0 x.f1 x.f2 A3 c3 x.f3 a1 true W hC hc3 hk).mono fun e W' ⟨he, bel⟩ => ?_
  subst he
  exact ⟨_, rfl, _, _, _, [], _, [], hW', trodAll_mk1 (shut_bool Tryz.underlying4 _), (trodAll_cons_mk (Below.trod laidOut (by kernel_rfl) (of_decide_eq_true (by kernel_rfl)) k0 bel lt0) (trodAll_cons_mk (shut_string Tryz.underlying9 y1) trodAll_mk0)), rfl, bel.frame _, fun h => by cases h⟩

/-! ### the witness: the empty advice -/
def zeros : Array Value := #[.agg #[.string ByteArray.empty, .string ByteArray.empty, .int .i64 0, .slice none 0 0], .string ByteArray.empty]
def cell1 : DataW Unit → List Value
  | .lit (.int k n) => [.int k n]
  | _ => []
def cell2 : DataW Unit → List Value
  | .agg l => l.flatMap cell1
  | d => cell1 d
def cell3 : DataW Unit → List Value
  | .agg l => l.flatMap cell2
  | d => cell2 d
def lays (d : DataW Unit) : Obj → Obj
  | .cells _ t frozen => .cells (cell3 d).toArray t frozen
  | o => o
noncomputable def laidWorld (os : Os) : World :=
  { World.holding Tryz.prog os ⟨#[], #[], []⟩ with heap := (((((World.holding Tryz.prog os ⟨#[], #[], []⟩).heap.modify 1 (lays Rows.laid_unicode_utf8_first)).modify 2 (lays Rows.laid_unicode_utf8_acceptRanges)).modify 3 (lays Rows.laid_internal_strconv_uint64pow10)).modify 4 (lays Rows.laid_math_bits_deBruijn32tab)).modify 5 (lays Rows.laid_math_bits_deBruijn64tab) }
theorem laid_met (os : Os) : laidMet Tryz.prog Rows.parcelAdvicesMatchSpecRow.laid ((laidWorld os).forCall (fun _ _ => 0) ⟨#[], zeros, []⟩).memory :=
  laidMet_of_run' 8 (by kernel_rfl) (by kernel_rfl)
theorem reads (os : Os) {H : Type} (enc : TypeId × Value → H) : ∃ places, DataW.whole enc Tryz.prog ((laidWorld os).forCall (fun _ _ => 0) ⟨#[], zeros, []⟩).memory Tryz.f3.params.toList Rows.parcelAdvicesMatchSpecSpec.vars false zeros.toList 8 = some ([.agg [.lit (.string []), .lit (.string []), .lit (.int .i64 0), .nil], .lit (.string [])], [], places) :=
  ⟨[], by kernel_rfl⟩

set_option maxRecDepth 100000 in
theorem lifted (os : Os) (started : os.Started) (H : Type) (enc : TypeId × Value → H) (F : Stop.Interp) :
    ReturnsInHanded {} Tryz.checked os 3 .any ((OpenSpec.ofChange Rows.parcelAdvicesMatchSpecSpec).preRow enc Tryz.prog Tryz.f3 Rows.parcelAdvicesMatchSpecRow.domain false Rows.parcelAdvicesMatchSpecRow.laid) (((OpenSpec.ofChange Rows.parcelAdvicesMatchSpecSpec).at F).post enc Tryz.prog Tryz.f3 false true false false) := by
  obtain ⟨places, hx⟩ := reads os enc
  refine returnsInHanded_of_row (C := Tryz.checked) (s := OpenSpec.ofChange Rows.parcelAdvicesMatchSpecSpec) own started (by kernel_rfl) Tryz.func3
    (witness_row_at (enc := enc) (C := Tryz.checked) false (laidWorld os) zeros rfl (by kernel_rfl) (by kernel_rfl) (by kernel_rfl)
      (OpenSpec.preRow_of_cond 8 hx (by kernel_rfl) (fun k hk => by cases hk) (by kernel_rfl) (laid_met os))) ?_
  intro W base args ds gs before hval hW _ _ _ hL _ _
  exact contract H enc W base args ds gs before hval hW
theorem said : Rows.ParcelAdvicesMatchSpecSaid :=
  OpenClaim.holds_of_cond 3 Tryz.f3 rfl rfl rfl rfl rfl rfl rfl ⟨rfl, rfl, rfl, rfl, rfl⟩ rfl rfl rfl rfl rfl (by kernel_rfl) Tryz.func3 (by kernel_rfl)
    (of_decide_eq_true (by kernel_rfl)) (by unfold Func.isWrapper; first | (rw [if_pos (by decide +kernel)]; kernel_rfl) | (rw [if_neg (by decide +kernel)]; exact ⟨rfl, rfl⟩))
    (fun os started H enc _ F => by rw [OpenClaim.pre_eq_preRow]; exact lifted os started H enc F)
theorem plain (f : FuncId) (fn : Func) (hf : Tryz.pinned.checked.prog.funcNamed "interchange/interchangelaw10.ParcelAdvicesMatchSpec" = some f) (hfn : Tryz.pinned.checked.prog.funcs[f]? = some fn) :
    false = Tryz.pinned.checked.prog.looks [] ∧ ∀ (j : Nat) t, fn.params[j]? = some t → Tryz.pinned.checked.prog.wantsStandIn t = false := by
  obtain rfl : f = 3 := Option.some.inj ((show Tryz.prog.funcNamed "interchange/interchangelaw10.ParcelAdvicesMatchSpec" = some 3 by kernel_rfl).symm.trans hf) |>.symm
  obtain rfl : fn = Tryz.f3 := (Option.some.inj (Tryz.func3.symm.trans hfn)).symm
  refine ⟨by kernel_rfl, fun j t ht => ?_⟩
  rw [Tryz.params3] at ht
  have hm : t = 24 ∨ t = 9 := by simpa using Array.mem_of_getElem? ht
  rcases hm with rfl | rfl
  · exact (show Tryz.prog.wantsStandIn 24 = false by kernel_rfl)
  · exact (show Tryz.prog.wantsStandIn 9 = false by kernel_rfl)
end Go.Proofs.YthgefhnolmloiaaGreatDoor.parcelAdvices
namespace Go.Proofs.YthgefhnolmloiaaGreatDoor
/-- the card of the law -/
theorem parcelAdvices_card : Rows.ParcelAdvicesMatchSpecCardSaid :=
  Claim7.holds_tied_plain_at .later [] _ _ _ _ parcelAdvices.said (fun _ h => by cases h) (by kernel_rfl) (fun _ h => by cases h) parcelAdvicesMatchSpec_row_tie rfl ⟨rfl, rfl⟩ (by kernel_rfl) rfl parcelAdvices.plain (by kernel_rfl)
end Go.Proofs.YthgefhnolmloiaaGreatDoor
