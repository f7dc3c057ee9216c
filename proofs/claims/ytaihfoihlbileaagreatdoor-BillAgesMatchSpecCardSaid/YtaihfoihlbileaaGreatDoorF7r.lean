/- The law interchangelaw11.BillAgesMatchSpec: for all debts, payments, days and steps, OpenAt and Ages of package bill answer as the reference does, with all errors: the call returns true, and the arguments read behind it as they read before. Conditions: none beyond the row's own (the listed tables hold what they are laid with). -/
import Derived.Test.YtaihfoihlbileaaGreatDoorCards
import Derived.Test.YtaihfoihlbileaaGreatDoorTie
import Derived.WalkKit
import Derived.ProofKit
import Derived.OpenShut
import Derived.ShutString
import Derived.ChangeOld
import Derived.Below
import Derived.Deep.DeepHandedRow
import Derived.Lib.LaidTab
import Derived.Test.YtaihfoihlbileaaGreatDoorF7h
set_option maxHeartbeats 8000000
set_option maxRecDepth 1000000
set_option linter.unusedVariables false
set_option linter.unusedSimpArgs false
set_option linter.unusedSectionVars false
namespace Go.Proofs.YtaihfoihlbileaaGreatDoor.billAgesSpec
open Go.ChangeShapes Go.WideShapes Go.ChangeAt Go.RowKit Go.Proofs.YtaihfoihlbileaaGreatDoor.R7 YtaihfoihlbileaaGreatDoorW.PrintWords
open Go.ChangeMaps (open_string shut_string)
theorem own : ownKnob Tryz.prog.godebug = none := by kernel_rfl
theorem laidOut : laidOutB Tryz.prog = true := by kernel_rfl
section
variable {H : Type} {enc : TypeId × Value → H} {W : World} {sp : Nat → Bool} {hd : Bool}
def vD (x : S33) : Prop := (Lit.int .i64 x.f0).wf = true ∧ (Lit.int .i64 x.f1).wf = true
def vE (x : S53) : Prop := x.f0.size ≤ maxLen ∧ (Lit.int .i64 x.f1).wf = true ∧ vD x.f2 ∧ (Lit.int .i64 x.f3).wf = true ∧ (Lit.int .i64 x.f4).wf = true ∧ (Lit.int .i64 x.f5).wf = true
def vP (x : S72) : Prop := (Lit.int .i64 x.f0).wf = true ∧ vD x.f1 ∧ x.f2.length ≤ maxLen ∧ ∀ y ∈ x.f2, y.size ≤ maxLen
theorem oD : zKw enc Tryz.prog W sp hd k33 33 vD :=
 zWx (fun x : S33 => (x.f0, x.f1)) (fun ⟨a, b⟩ => ⟨⟨a, b⟩, rfl⟩) (zQq Tryz.underlying33 (vN (by kernel_rfl) (uF Tryz.underlying3) (zQz (by kernel_rfl) (by kernel_rfl) (uF Tryz.underlying3))))
theorem oE : zKw enc Tryz.prog W sp hd k53 53 vE :=
 zWx (fun x : S53 => (x.f0, x.f1, x.f2, x.f3, x.f4, x.f5)) (fun ⟨a, b, c, d, e, f⟩ => ⟨⟨a, b, c, d, e, f⟩, rfl⟩) (zQq Tryz.underlying53 (vN (by kernel_rfl) (zKd Tryz.underlying9) (vN (by kernel_rfl) (uF Tryz.underlying3) (vN (by kernel_rfl) oD (vN (by kernel_rfl) (uF Tryz.underlying3) (vN (by kernel_rfl) (uF Tryz.underlying3) (zQz (by kernel_rfl) (by kernel_rfl) (uF Tryz.underlying3))))))))
theorem oP : zKw enc Tryz.prog W sp hd k72 72 vP :=
 zWx (fun x : S72 => (x.f0, x.f1, x.f2)) (fun ⟨a, b, c⟩ => ⟨⟨a, b, c⟩, rfl⟩) (zQq Tryz.underlying72 (vN (by kernel_rfl) (uF Tryz.underlying3) (vN (by kernel_rfl) oD (zQz (by kernel_rfl) (by kernel_rfl) (zWw Tryz.underlying70 (by kernel_rfl) (zKd Tryz.underlying9))))))
theorem zVg {α : Type} {d : Kd α} {t e : TypeId} {V : α → Prop} {W : World} {v : Value} {x : DataW H} {p : List MemPlace} {r : Reach} {base : Nat} (ht : Tryz.prog.underlying t = some (.slice e)) (hs : Tryz.prog.cellsOf e = d.sz) (o : zKw enc Tryz.prog W sp hd d e V) (hv : Value.okWide Tryz.prog W r base t v) (h : DataW.Trod enc Tryz.prog W 0 sp hd t v x p) :
  ∃ l A c, v = .slice A l.length c ∧ l.length ≤ c ∧ d.C W A l.length l := by
 obtain ⟨a, len, cap, rfl⟩ := okWide_slice ht hv
 obtain ⟨fuel, hf⟩ := h
 obtain ⟨l, hK, _⟩ := zWw ht hs o fuel _ _ hf
 obtain ⟨A, c, hcs, hc, hC⟩ := hK
 refine ⟨l, A, c, ?_, hc, hC⟩
 have : [Value.slice a len cap] = [.slice A l.length c] := hcs
 exact (List.cons.inj this).1
end
theorem contract (H : Type) (enc : TypeId × Value → H) (W : World) (base : Nat) (args : Array Value) (ds gs : List (DataW H)) (before : List MemPlace)
  (hval : ∀ (j : Nat) t v, Tryz.f4.params[j]? = some t → args[j]? = some v → Value.okWide Tryz.prog W .any base t v)
  (hW : DataW.Whole enc Tryz.prog Tryz.f4.params.toList Rows.billAgesMatchSpecSpec.vars false W args.toList ds gs before) :
  Calls Tryz.prog 4 args W fun e W' => ∃ v, e = .returned v ∧ Rows.billAgesMatchSpecSpec.post enc Tryz.prog Tryz.f4 false true false false W args v W' := by
 have hW' := hW
 obtain ⟨p, q, hA0, hV, rfl, hfz, hnd⟩ := hW
 have hA : DataW.TrodAll enc Tryz.prog W 0 (fun _ => true) true Tryz.f4.params.toList args.toList ds p := hA0
 rw [Tryz.params4] at hA hval
 obtain ⟨v0, vs0, d0, ds0, p0, q0, hargs, rfl, rfl, h0, r0⟩ := trodAll_cons hA
 obtain ⟨v1, vs1, d1, ds1, p1, q1, rfl, rfl, rfl, h1, r1⟩ := trodAll_cons r0
 obtain ⟨v2, vs2, d2, ds2, p2, q2, rfl, rfl, rfl, h2, r2⟩ := trodAll_cons r1
 obtain ⟨v3, vs3, d3, ds3, p3, q3, rfl, rfl, rfl, h3, r3⟩ := trodAll_cons r2
 obtain ⟨rfl, rfl, rfl⟩ := trodAll_nil r3
 obtain rfl : args = #[v0, v1, v2, v3] := by cases args; simp_all
 obtain ⟨rfl, rfl⟩ := trodVars_none hV
 have k0 := h0
 have k1 := h1
 have k3 := h3
 have lt3 : ∀ x ∈ p3, x.block < W.heap.size := by
  obtain ⟨m, hm⟩ := k3
  exact DataW.trod_lt m _ _ _ hm
 have lt0 : ∀ x ∈ p0, x.block < W.heap.size := by
  obtain ⟨m, hm⟩ := k0
  exact DataW.trod_lt m _ _ _ hm
 have lt1 : ∀ x ∈ p1, x.block < W.heap.size := by
  obtain ⟨m, hm⟩ := k1
  exact DataW.trod_lt m _ _ _ hm
 obtain ⟨l0, A0, c0, rfl, hc0, hC0⟩ := zVg Tryz.underlying22 (by kernel_rfl) oE (hval 0 _ _ rfl rfl) h0
 obtain ⟨l1, A1, c1, rfl, hc1, hC1⟩ := zVg Tryz.underlying23 (by kernel_rfl) oP (hval 1 _ _ rfl rfl) h1
 obtain ⟨l3, A3, c3, rfl, hc3, hC3⟩ := zVg Tryz.underlying39 (by kernel_rfl) (uF Tryz.underlying3) (hval 3 _ _ rfl rfl) h3
 obtain ⟨n2, rfl, rfl, rfl, y2⟩ := open_int Tryz.underlying3 (hval 2 _ _ rfl rfl) h2
 clear hA0 hval
 refine (qJm awake_ok A0 c0 l0 A1 c1 l1 n2 A3 c3 l3 W hC0 hc0 hC1 hc1 hC3 hc3).mono fun e W' ⟨he, bel⟩ => ?_
 subst he
 exact ⟨_, rfl, _, _, _, [], _, [], hW', trodAll_mk1 (shut_bool Tryz.underlying4 _), (trodAll_cons_mk (Below.trod laidOut (by kernel_rfl) (of_decide_eq_true (by kernel_rfl)) k0 bel lt0) (trodAll_cons_mk (Below.trod laidOut (by kernel_rfl) (of_decide_eq_true (by kernel_rfl)) k1 bel lt1) (trodAll_cons_mk (shut_int Tryz.underlying3 y2) (trodAll_cons_mk (Below.trod laidOut (by kernel_rfl) (of_decide_eq_true (by kernel_rfl)) k3 bel lt3) trodAll_mk0)))), rfl, bel.frame _, fun h => by cases h⟩
def zeros : Array Value := #[.slice none 0 0, .slice none 0 0, .int .i64 0, .slice none 0 0]
def cell1 : DataW Unit → List Value
 | .lit (.int k n) => [.int k n]
 | _ => []
def cell2 : DataW Unit → List Value
 | .agg l => l.flatMap cell1
 | d => cell1 d
def cell3 : DataW Unit → List Value
 | .agg l => l.flatMap cell2
 | d => cell2 d
def lays (d : DataW Unit) : Obj → Obj
 | .cells _ t frozen => .cells (cell3 d).toArray t frozen
 | o => o
noncomputable def zWb (os : Os) : World :=
 { World.holding Tryz.prog os ⟨#[], #[], []⟩ with heap := ((World.holding Tryz.prog os ⟨#[], #[], []⟩).heap.modify 0 (lays Rows.laid_unicode_utf8_first)).modify 1 (lays Rows.laid_unicode_utf8_acceptRanges) }
theorem laid_met (os : Os) : laidMet Tryz.prog Rows.billAgesMatchSpecRow.laid ((zWb os).forCall (fun _ _ => 0) ⟨#[], zeros, []⟩).memory :=
 laidMet_of_run' 8 (by kernel_rfl) (by kernel_rfl)
theorem reads (os : Os) {H : Type} (enc : TypeId × Value → H) : ∃ places, DataW.whole enc Tryz.prog ((zWb os).forCall (fun _ _ => 0) ⟨#[], zeros, []⟩).memory Tryz.f4.params.toList Rows.billAgesMatchSpecSpec.vars false zeros.toList 8 = some ([.nil, .nil, .lit (.int .i64 0), .nil], [], places) :=
 ⟨[], by kernel_rfl⟩
theorem lifted (os : Os) (started : os.Started) (H : Type) (enc : TypeId × Value → H) (F : Stop.Interp) :
  ReturnsInHanded {} Tryz.checked os 4 .any ((OpenSpec.ofChange Rows.billAgesMatchSpecSpec).preRow enc Tryz.prog Tryz.f4 Rows.billAgesMatchSpecRow.domain false Rows.billAgesMatchSpecRow.laid) (((OpenSpec.ofChange Rows.billAgesMatchSpecSpec).at F).post enc Tryz.prog Tryz.f4 false true false false) := by
 obtain ⟨places, hx⟩ := reads os enc
 refine returnsInHanded_of_row (C := Tryz.checked) (s := OpenSpec.ofChange Rows.billAgesMatchSpecSpec) own started (by kernel_rfl) Tryz.func4
  (witness_row_at (enc := enc) (C := Tryz.checked) false (zWb os) zeros rfl (by kernel_rfl) (by kernel_rfl) (by kernel_rfl)
   (OpenSpec.preRow_of_cond 8 hx (by kernel_rfl) (fun k hk => by cases hk) (by kernel_rfl) (laid_met os))) ?_
 intro W base args ds gs before hval hW _ _ _ hL _ _
 exact contract H enc W base args ds gs before hval hW
theorem said : Rows.BillAgesMatchSpecSaid :=
 OpenClaim.holds_of_cond 4 Tryz.f4 rfl rfl rfl rfl rfl rfl rfl ⟨rfl, rfl, rfl, rfl, rfl⟩ rfl rfl rfl rfl rfl (by kernel_rfl) Tryz.func4 (by kernel_rfl)
  (of_decide_eq_true (by kernel_rfl)) (by unfold Func.isWrapper; first | (rw [if_pos (by decide +kernel)]; kernel_rfl) | (rw [if_neg (by decide +kernel)]; exact ⟨rfl, rfl⟩))
  (fun os started H enc _ F => by rw [OpenClaim.pre_eq_preRow]; exact lifted os started H enc F)
theorem plain (f : FuncId) (fn : Func) (hf : Tryz.pinned.checked.prog.funcNamed "interchange/interchangelaw11.BillAgesMatchSpec" = some f) (hfn : Tryz.pinned.checked.prog.funcs[f]? = some fn) :
  false = Tryz.pinned.checked.prog.looks [] ∧ ∀ (j : Nat) t, fn.params[j]? = some t → Tryz.pinned.checked.prog.wantsStandIn t = false := by
 obtain rfl : f = 4 := Option.some.inj ((show Tryz.prog.funcNamed "interchange/interchangelaw11.BillAgesMatchSpec" = some 4 by kernel_rfl).symm.trans hf) |>.symm
 obtain rfl : fn = Tryz.f4 := (Option.some.inj (Tryz.func4.symm.trans hfn)).symm
 refine ⟨by kernel_rfl, fun j t ht => ?_⟩
 rw [Tryz.params4] at ht
 have hm : t = 22 ∨ t = 23 ∨ t = 3 ∨ t = 39 := by simpa using Array.mem_of_getElem? ht
 rcases hm with rfl | rfl | rfl | rfl
 ·exact (show Tryz.prog.wantsStandIn 22 = false by kernel_rfl)
 ·exact (show Tryz.prog.wantsStandIn 23 = false by kernel_rfl)
 ·exact (show Tryz.prog.wantsStandIn 3 = false by kernel_rfl)
 ·exact (show Tryz.prog.wantsStandIn 39 = false by kernel_rfl)
end Go.Proofs.YtaihfoihlbileaaGreatDoor.billAgesSpec
namespace Go.Proofs.YtaihfoihlbileaaGreatDoor
theorem billAgesSpec_card : Rows.BillAgesMatchSpecCardSaid :=
 Claim7.holds_tied_plain_at .later [] _ _ _ _ billAgesSpec.said (fun _ h => by cases h) (by kernel_rfl) (fun _ h => by cases h) billAgesMatchSpec_row_tie rfl ⟨rfl, rfl⟩ (by kernel_rfl) rfl billAgesSpec.plain (by kernel_rfl)
end Go.Proofs.YtaihfoihlbileaaGreatDoor
