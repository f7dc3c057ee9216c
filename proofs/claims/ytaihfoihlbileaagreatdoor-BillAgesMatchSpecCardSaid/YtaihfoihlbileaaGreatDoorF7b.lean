import Derived.Shelf.Strings.SlTrimAscii
import Derived.Test.YtaihfoihlbileaaGreatDoorProg
import Derived.Below
import Derived.Deep.Draws
import Derived.Deep.AppendLies
import Derived.Maps.AppendAt
import Derived.OwnWalk
import Derived.Laws.BytesArg
import Derived.Laws.MakeOwn
import Derived.Laws.OwnMore
import Derived.Deep.OwnRows
import Derived.Tactics
import Derived.Lib.ConvBytes
import Derived.Laws.Slices
import Derived.WalkKit
import Derived.KernelRfl
import Derived.RowKit3
import Derived.Deep.LoopGhost
import Derived.Deep.QuietTactic
import Derived.BigQuiet
import Derived.WideLaws
import Derived.Deep.DeepCutAuto
import Derived.Deep.CutBlock
import Derived.Deep.RegionHeld3
import Derived.Laws.Rows
import Derived.Lib.AppendStr
import Derived.ArgAppend
import Derived.Laws.IdiomCopy
import Derived.OrdersHeld
import Derived.Laws.BitsLemmas
import Derived.RowKit
import Derived.Test.YtaihfoihlbileaaGreatDoorF7a
set_option maxHeartbeats 8000000
set_option maxRecDepth 1000000
set_option linter.unusedVariables false
set_option linter.unusedSimpArgs false
set_option linter.unusedSectionVars false
namespace Go.Proofs
open Go.Shelf
def Tryz.l160_ren : Go.Shelf.Ren := ⟨fun | 160 => 53 | 232 => 72 | 231 => 71 | 227 => 73 | 234 => 75 | 233 => 74 | 236 => 77 | 235 => 76 | 228 => 88 | 271 => 91 | 151 => 90 | 197 => 89 | 120 => 108 | 152 => 107 | 260 => 106 | 137 => 114 | 119 => 115 | 224 => 116 | 225 => 117 | 217 => 119 | 266 => 120 | n => n, fun | 9 => 9 | 4 => 4 | 3 => 3 | 5 => 5 | 117 => 105 | 116 => 104 | 0 => 0 | 124 => 108 | 21 => 21 | 105 => 124 | 46 => 115 | 119 => 141 | 139 => 144 | 138 => 143 | n => n, fun | 3 => 0 | 4 => 1 | n => n⟩
theorem Tryz.l160 : Go.Proofs.Lays.n160 Tryz.prog Tryz.l160_ren := {
 mixed := by kernel_rfl
 f119 := Tryz.func115.trans (congrArg some (by kernel_rfl))
 f120 := Tryz.func108.trans (congrArg some (by kernel_rfl))
 f137 := Tryz.func114.trans (congrArg some (by kernel_rfl))
 f151 := Tryz.func90.trans (congrArg some (by kernel_rfl))
 f152 := Tryz.func107.trans (congrArg some (by kernel_rfl))
 f160 := Tryz.func53.trans (congrArg some (by kernel_rfl))
 f197 := Tryz.func89.trans (congrArg some (by kernel_rfl))
 f217 := Tryz.func119.trans (congrArg some (by kernel_rfl))
 f224 := Tryz.func116.trans (congrArg some (by kernel_rfl))
 f225 := Tryz.func117.trans (congrArg some (by kernel_rfl))
 f227 := Tryz.func73.trans (congrArg some (by kernel_rfl))
 f228 := Tryz.func88.trans (congrArg some (by kernel_rfl))
 f231 := Tryz.func71.trans (congrArg some (by kernel_rfl))
 f232 := Tryz.func72.trans (congrArg some (by kernel_rfl))
 f233 := Tryz.func74.trans (congrArg some (by kernel_rfl))
 f234 := Tryz.func75.trans (congrArg some (by kernel_rfl))
 f235 := Tryz.func76.trans (congrArg some (by kernel_rfl))
 f236 := Tryz.func77.trans (congrArg some (by kernel_rfl))
 f260 := Tryz.func106.trans (congrArg some (by kernel_rfl))
 f266 := Tryz.func120.trans (congrArg some (by kernel_rfl))
 f271 := Tryz.func91.trans (congrArg some (by kernel_rfl))
 t0 := Tryz.underlying0
 a0 := Tryz.isAgg0
 z0 := Tryz.sizeOf0
 v0 := Tryz.zeroValue0
 t3 := Tryz.underlying3
 a3 := Tryz.isAgg3
 z3 := Tryz.sizeOf3
 v3 := Tryz.zeroValue3
 t4 := Tryz.underlying4
 a4 := Tryz.isAgg4
 z4 := Tryz.sizeOf4
 v4 := Tryz.zeroValue4
 t5 := Tryz.underlying5
 a5 := Tryz.isAgg5
 z5 := Tryz.sizeOf5
 v5 := Tryz.zeroValue5
 t9 := Tryz.underlying9
 a9 := Tryz.isAgg9
 z9 := Tryz.sizeOf9
 v9 := Tryz.zeroValue9
 t21 := Tryz.underlying21
 a21 := Tryz.isAgg21
 z21 := Tryz.sizeOf21
 v21 := Tryz.zeroValue21
 t46 := Tryz.underlying115
 a46 := Tryz.isAgg115
 z46 := Tryz.sizeOf115
 v46 := Tryz.zeroValue115
 t105 := Tryz.underlying124
 a105 := Tryz.isAgg124
 z105 := Tryz.sizeOf124
 v105 := Tryz.zeroValue124
 t116 := Tryz.underlying104
 a116 := Tryz.isAgg104
 z116 := Tryz.sizeOf104
 t117 := Tryz.underlying105
 a117 := Tryz.isAgg105
 z117 := Tryz.sizeOf105
 v117 := Tryz.zeroValue105
 t119 := Tryz.underlying141
 a119 := Tryz.isAgg141
 z119 := Tryz.sizeOf141
 t124 := Tryz.underlying108
 a124 := Tryz.isAgg108
 z124 := Tryz.sizeOf108
 v124 := Tryz.zeroValue108
 t138 := Tryz.underlying143
 a138 := Tryz.isAgg143
 z138 := Tryz.sizeOf143
 v138 := Tryz.zeroValue143
 t139 := Tryz.underlying144
 a139 := Tryz.isAgg144
 z139 := Tryz.sizeOf144
 v139 := Tryz.zeroValue144
 g3 := by kernel_rfl
 g4 := by kernel_rfl }
end Go.Proofs
namespace Go.Proofs.YtaihfoihlbileaaGreatDoor.R7
open Go.RowKit Go.Proofs.YtaihfoihlbileaaGreatDoorW.PrintWords Go.Proofs.YtaihfoihlbileaaGreatDoorW.PrintLast Go.Proofs.YtaihfoihlbileaaGreatDoorW.PrintMore
attribute [local go_sem] vZ vY vT yZ xH xG vz vX   
def errW : Option Int → Value
 | none => .nilIface
 | some c => .iface 0 (.int .i64 c)
theorem zq : errW none = .nilIface := rfl
theorem zY (c : Int) : errW (some c) = .iface 0 (.int .i64 c) := rfl
theorem info3 : (Tryz.prog.info? 3).map (fun i => (i.zero, i.size, i.bytes)) = some (some (.int .i64 0), 1, 8) := by kernel_rfl
theorem zVq : (Tryz.prog.info? 9).map (fun i => (i.zero, i.size, i.bytes)) = some (some (.string ⟨#[]⟩), 1, 16) := by kernel_rfl
theorem qXy : (Tryz.prog.info? 33).map (fun i => (i.zero, i.size, i.bytes)) = some (some (.agg #[(.int .i64 0), (.int .i64 0)]), 2, 16) := by kernel_rfl
theorem info35 : (Tryz.prog.info? 35).map (fun i => (i.zero, i.size, i.bytes)) = some (some (.agg #[(.string ⟨#[]⟩), (.int .i64 0), (.int .i64 0), (.int .i64 0), (.int .i64 0), (.int .i64 0)]), 6, 56) := by kernel_rfl
theorem info45 : (Tryz.prog.info? 45).map (fun i => (i.zero, i.size, i.bytes)) = some (some (.agg #[(.string ⟨#[]⟩), (.int .i64 0), (.int .i64 0), (.int .i64 0)]), 4, 40) := by kernel_rfl
theorem info53 : (Tryz.prog.info? 53).map (fun i => (i.zero, i.size, i.bytes)) = some (some (.agg #[(.string ⟨#[]⟩), (.int .i64 0), (.int .i64 0), (.int .i64 0), (.int .i64 0), (.int .i64 0), (.int .i64 0)]), 7, 64) := by kernel_rfl
theorem uX : (Tryz.prog.info? 114).map (fun i => (i.zero, i.size, i.bytes)) = some (some (.int .u32 0), 1, 4) := by kernel_rfl
structure S33 where
 f0 : Int
 f1 : Int
def z33 : S33 := ⟨(0 : Int), (0 : Int)⟩
def k33 : Kd S33 := Kd.iso (Kd.pair (Kd.int .i64) (Kd.int .i64)) (fun x : S33 => (x.f0, x.f1))
theorem zQc {w : World} {x : S33} {cs : List Value} (h : k33.K w x cs) : cs = [.int .i64 x.f0, .int .i64 x.f1] := by
 obtain ⟨_, _, rfl, rfl, rfl⟩ := h
 exact rfl
theorem k33_mk (w : World) (x : S33)  : k33.K w x [.int .i64 x.f0, .int .i64 x.f1] := ⟨[.int .i64 x.f0], [.int .i64 x.f1], rfl, rfl, rfl⟩
theorem zJm (w : World) (base : Nat) (ok : Nat → Prop) (x : S33)  : k33.M w base ok x [.int .i64 x.f0, .int .i64 x.f1] := ⟨[.int .i64 x.f0], [.int .i64 x.f1], rfl, rfl, rfl⟩
def qVc (xs : List S33) (i : Int) : S33 := xs.getD i.toNat z33
theorem qYx {w : World} {A : Option Addr} {n : Nat} {xs : List S33} (h : Kd.C k33 w A n xs) (i : Int) (h0 : 0 ≤ i) (h1 : i < n) : ∃ ad , A = some ad ∧ w.cell? (ad.add (i.toNat * 2)) = some (.int .i64 (qVc xs i).f0) ∧ w.cell? ⟨(ad.add (i.toNat * 2)).block, (ad.add (i.toNat * 2)).off + 1, none⟩ = some (.int .i64 (qVc xs i).f1) := by
 obtain ⟨ad, c, e, _, hK, hc0⟩ := Kd.qYm h z33 i h0 h1
 have hc : ∀ j u, c[j]? = some u → w.cell? (ad.add (i.toNat * 2 + j)) = some u := hc0
 obtain rfl := zQc hK
 exact ⟨ad, e, hc 0 _ rfl, by rw [← xL _ _ 1 (by omega)]; exact hc 1 _ rfl⟩
structure S72 where
 f0 : Int
 f1 : S33
 f2 : (List ByteArray)
def z72 : S72 := ⟨(0 : Int), z33, ([] : List ByteArray)⟩
def k72 : Kd S72 := Kd.iso (Kd.pair (Kd.int .i64) (Kd.pair k33 (Kd.slice 9 Kd.string))) (fun x : S72 => (x.f0, x.f1, x.f2))
theorem k72_open {w : World} {x : S72} {cs : List Value} (h : k72.K w x cs) : ∃ A3 c3, cs = [.int .i64 x.f0, .int .i64 x.f1.f0, .int .i64 x.f1.f1, .slice A3 x.f2.length c3] ∧ x.f2.length ≤ c3 ∧ Kd.string.C w A3 x.f2.length x.f2 := by
 obtain ⟨_, _, rfl, rfl, ⟨_, _, rfl, s1, ⟨A3, c3, rfl, l3, g3⟩⟩⟩ := h
 obtain rfl := zQc s1
 exact ⟨A3, c3, rfl, l3, g3⟩
theorem k72_mk (w : World) (x : S72) {A3 : Option Addr} {c3 : Nat} (l3 : x.f2.length ≤ c3) (g3 : Kd.string.C w A3 x.f2.length x.f2) : k72.K w x [.int .i64 x.f0, .int .i64 x.f1.f0, .int .i64 x.f1.f1, .slice A3 x.f2.length c3] := ⟨[.int .i64 x.f0], [.int .i64 x.f1.f0, .int .i64 x.f1.f1, .slice A3 x.f2.length c3], rfl, rfl, ⟨[.int .i64 x.f1.f0, .int .i64 x.f1.f1], [.slice A3 x.f2.length c3], rfl, (k33_mk w x.f1 ), ⟨A3, c3, rfl, l3, g3⟩⟩⟩
def zX (xs : List S72) (i : Int) : S72 := xs.getD i.toNat z72
theorem zKl {w : World} {A : Option Addr} {n : Nat} {xs : List S72} (h : Kd.C k72 w A n xs) (i : Int) (h0 : 0 ≤ i) (h1 : i < n) : ∃ ad A3 c3, A = some ad ∧ w.cell? (ad.add (i.toNat * 4)) = some (.int .i64 (zX xs i).f0) ∧ w.cell? ⟨(ad.add (i.toNat * 4)).block, (ad.add (i.toNat * 4)).off + 1, none⟩ = some (.int .i64 (zX xs i).f1.f0) ∧ w.cell? ⟨(ad.add (i.toNat * 4)).block, (ad.add (i.toNat * 4)).off + 2, none⟩ = some (.int .i64 (zX xs i).f1.f1) ∧ w.cell? ⟨(ad.add (i.toNat * 4)).block, (ad.add (i.toNat * 4)).off + 3, none⟩ = some (.slice A3 (zX xs i).f2.length c3) ∧ (zX xs i).f2.length ≤ c3 ∧ Kd.string.C w A3 (zX xs i).f2.length (zX xs i).f2 := by
 obtain ⟨ad, c, e, _, hK, hc0⟩ := Kd.qYm h z72 i h0 h1
 have hc : ∀ j u, c[j]? = some u → w.cell? (ad.add (i.toNat * 4 + j)) = some u := hc0
 obtain ⟨A3, c3, rfl, l3, g3⟩ := k72_open hK
 exact ⟨ad, A3, c3, e, hc 0 _ rfl, by rw [← xL _ _ 1 (by omega)]; exact hc 1 _ rfl, by rw [← xL _ _ 2 (by omega)]; exact hc 2 _ rfl, by rw [← xL _ _ 3 (by omega)]; exact hc 3 _ rfl, l3, g3⟩
structure S53 where
 f0 : ByteArray
 f1 : Int
 f2 : S33
 f3 : Int
 f4 : Int
 f5 : Int
def z53 : S53 := ⟨(⟨#[]⟩ : ByteArray), (0 : Int), z33, (0 : Int), (0 : Int), (0 : Int)⟩
def k53 : Kd S53 := Kd.iso (Kd.pair Kd.string (Kd.pair (Kd.int .i64) (Kd.pair k33 (Kd.pair (Kd.int .i64) (Kd.pair (Kd.int .i64) (Kd.int .i64)))))) (fun x : S53 => (x.f0, x.f1, x.f2, x.f3, x.f4, x.f5))
theorem k53_open {w : World} {x : S53} {cs : List Value} (h : k53.K w x cs) : cs = [.string x.f0, .int .i64 x.f1, .int .i64 x.f2.f0, .int .i64 x.f2.f1, .int .i64 x.f3, .int .i64 x.f4, .int .i64 x.f5] := by
 obtain ⟨_, _, rfl, rfl, ⟨_, _, rfl, rfl, ⟨_, _, rfl, s2, ⟨_, _, rfl, rfl, ⟨_, _, rfl, rfl, rfl⟩⟩⟩⟩⟩ := h
 obtain rfl := zQc s2
 exact rfl
theorem k53_mk (w : World) (x : S53)  : k53.K w x [.string x.f0, .int .i64 x.f1, .int .i64 x.f2.f0, .int .i64 x.f2.f1, .int .i64 x.f3, .int .i64 x.f4, .int .i64 x.f5] := ⟨[.string x.f0], [.int .i64 x.f1, .int .i64 x.f2.f0, .int .i64 x.f2.f1, .int .i64 x.f3, .int .i64 x.f4, .int .i64 x.f5], rfl, rfl, ⟨[.int .i64 x.f1], [.int .i64 x.f2.f0, .int .i64 x.f2.f1, .int .i64 x.f3, .int .i64 x.f4, .int .i64 x.f5], rfl, rfl, ⟨[.int .i64 x.f2.f0, .int .i64 x.f2.f1], [.int .i64 x.f3, .int .i64 x.f4, .int .i64 x.f5], rfl, (k33_mk w x.f2 ), ⟨[.int .i64 x.f3], [.int .i64 x.f4, .int .i64 x.f5], rfl, rfl, ⟨[.int .i64 x.f4], [.int .i64 x.f5], rfl, rfl, rfl⟩⟩⟩⟩⟩
def yx (xs : List S53) (i : Int) : S53 := xs.getD i.toNat z53
theorem kK {w : World} {A : Option Addr} {n : Nat} {xs : List S53} (h : Kd.C k53 w A n xs) (i : Int) (h0 : 0 ≤ i) (h1 : i < n) : ∃ ad , A = some ad ∧ w.cell? (ad.add (i.toNat * 7)) = some (.string (yx xs i).f0) ∧ w.cell? ⟨(ad.add (i.toNat * 7)).block, (ad.add (i.toNat * 7)).off + 1, none⟩ = some (.int .i64 (yx xs i).f1) ∧ w.cell? ⟨(ad.add (i.toNat * 7)).block, (ad.add (i.toNat * 7)).off + 2, none⟩ = some (.int .i64 (yx xs i).f2.f0) ∧ w.cell? ⟨(ad.add (i.toNat * 7)).block, (ad.add (i.toNat * 7)).off + 3, none⟩ = some (.int .i64 (yx xs i).f2.f1) ∧ w.cell? ⟨(ad.add (i.toNat * 7)).block, (ad.add (i.toNat * 7)).off + 4, none⟩ = some (.int .i64 (yx xs i).f3) ∧ w.cell? ⟨(ad.add (i.toNat * 7)).block, (ad.add (i.toNat * 7)).off + 5, none⟩ = some (.int .i64 (yx xs i).f4) ∧ w.cell? ⟨(ad.add (i.toNat * 7)).block, (ad.add (i.toNat * 7)).off + 6, none⟩ = some (.int .i64 (yx xs i).f5) := by
 obtain ⟨ad, c, e, _, hK, hc0⟩ := Kd.qYm h z53 i h0 h1
 have hc : ∀ j u, c[j]? = some u → w.cell? (ad.add (i.toNat * 7 + j)) = some u := hc0
 obtain rfl := k53_open hK
 exact ⟨ad, e, hc 0 _ rfl, by rw [← xL _ _ 1 (by omega)]; exact hc 1 _ rfl, by rw [← xL _ _ 2 (by omega)]; exact hc 2 _ rfl, by rw [← xL _ _ 3 (by omega)]; exact hc 3 _ rfl, by rw [← xL _ _ 4 (by omega)]; exact hc 4 _ rfl, by rw [← xL _ _ 5 (by omega)]; exact hc 5 _ rfl, by rw [← xL _ _ 6 (by omega)]; exact hc 6 _ rfl⟩
structure S35 where
 f0 : ByteArray
 f1 : S33
 f2 : S33
 f3 : Int
def z35 : S35 := ⟨(⟨#[]⟩ : ByteArray), z33, z33, (0 : Int)⟩
def k35 : Kd S35 := Kd.iso (Kd.pair Kd.string (Kd.pair k33 (Kd.pair k33 (Kd.int .i64)))) (fun x : S35 => (x.f0, x.f1, x.f2, x.f3))
theorem k35_open {w : World} {x : S35} {cs : List Value} (h : k35.K w x cs) : cs = [.string x.f0, .int .i64 x.f1.f0, .int .i64 x.f1.f1, .int .i64 x.f2.f0, .int .i64 x.f2.f1, .int .i64 x.f3] := by
 obtain ⟨_, _, rfl, rfl, ⟨_, _, rfl, s1, ⟨_, _, rfl, s3, rfl⟩⟩⟩ := h
 obtain rfl := zQc s1
 obtain rfl := zQc s3
 exact rfl
theorem k35_mkM (w : World) (base : Nat) (ok : Nat → Prop) (x : S35)  : k35.M w base ok x [.string x.f0, .int .i64 x.f1.f0, .int .i64 x.f1.f1, .int .i64 x.f2.f0, .int .i64 x.f2.f1, .int .i64 x.f3] := ⟨[.string x.f0], [.int .i64 x.f1.f0, .int .i64 x.f1.f1, .int .i64 x.f2.f0, .int .i64 x.f2.f1, .int .i64 x.f3], rfl, rfl, ⟨[.int .i64 x.f1.f0, .int .i64 x.f1.f1], [.int .i64 x.f2.f0, .int .i64 x.f2.f1, .int .i64 x.f3], rfl, (zJm w base ok x.f1 ), ⟨[.int .i64 x.f2.f0, .int .i64 x.f2.f1], [.int .i64 x.f3], rfl, (zJm w base ok x.f2 ), rfl⟩⟩⟩
def zYc (xs : List S35) (i : Int) : S35 := xs.getD i.toNat z35
theorem at_T35 {w : World} {A : Option Addr} {n : Nat} {xs : List S35} (h : Kd.C k35 w A n xs) (i : Int) (h0 : 0 ≤ i) (h1 : i < n) : ∃ ad , A = some ad ∧ w.cell? (ad.add (i.toNat * 6)) = some (.string (zYc xs i).f0) ∧ w.cell? ⟨(ad.add (i.toNat * 6)).block, (ad.add (i.toNat * 6)).off + 1, none⟩ = some (.int .i64 (zYc xs i).f1.f0) ∧ w.cell? ⟨(ad.add (i.toNat * 6)).block, (ad.add (i.toNat * 6)).off + 2, none⟩ = some (.int .i64 (zYc xs i).f1.f1) ∧ w.cell? ⟨(ad.add (i.toNat * 6)).block, (ad.add (i.toNat * 6)).off + 3, none⟩ = some (.int .i64 (zYc xs i).f2.f0) ∧ w.cell? ⟨(ad.add (i.toNat * 6)).block, (ad.add (i.toNat * 6)).off + 4, none⟩ = some (.int .i64 (zYc xs i).f2.f1) ∧ w.cell? ⟨(ad.add (i.toNat * 6)).block, (ad.add (i.toNat * 6)).off + 5, none⟩ = some (.int .i64 (zYc xs i).f3) := by
 obtain ⟨ad, c, e, _, hK, hc0⟩ := Kd.qYm h z35 i h0 h1
 have hc : ∀ j u, c[j]? = some u → w.cell? (ad.add (i.toNat * 6 + j)) = some u := hc0
 obtain rfl := k35_open hK
 exact ⟨ad, e, hc 0 _ rfl, by rw [← xL _ _ 1 (by omega)]; exact hc 1 _ rfl, by rw [← xL _ _ 2 (by omega)]; exact hc 2 _ rfl, by rw [← xL _ _ 3 (by omega)]; exact hc 3 _ rfl, by rw [← xL _ _ 4 (by omega)]; exact hc 4 _ rfl, by rw [← xL _ _ 5 (by omega)]; exact hc 5 _ rfl⟩
structure S45 where
 f0 : ByteArray
 f1 : S33
 f2 : Int
def z45 : S45 := ⟨(⟨#[]⟩ : ByteArray), z33, (0 : Int)⟩
def k45 : Kd S45 := Kd.iso (Kd.pair Kd.string (Kd.pair k33 (Kd.int .i64))) (fun x : S45 => (x.f0, x.f1, x.f2))
theorem k45_open {w : World} {x : S45} {cs : List Value} (h : k45.K w x cs) : cs = [.string x.f0, .int .i64 x.f1.f0, .int .i64 x.f1.f1, .int .i64 x.f2] := by
 obtain ⟨_, _, rfl, rfl, ⟨_, _, rfl, s1, rfl⟩⟩ := h
 obtain rfl := zQc s1
 exact rfl
theorem k45_mkM (w : World) (base : Nat) (ok : Nat → Prop) (x : S45)  : k45.M w base ok x [.string x.f0, .int .i64 x.f1.f0, .int .i64 x.f1.f1, .int .i64 x.f2] := ⟨[.string x.f0], [.int .i64 x.f1.f0, .int .i64 x.f1.f1, .int .i64 x.f2], rfl, rfl, ⟨[.int .i64 x.f1.f0, .int .i64 x.f1.f1], [.int .i64 x.f2], rfl, (zJm w base ok x.f1 ), rfl⟩⟩
def zYb (xs : List S45) (i : Int) : S45 := xs.getD i.toNat z45
theorem qYw {w : World} {A : Option Addr} {n : Nat} {xs : List S45} (h : Kd.C k45 w A n xs) (i : Int) (h0 : 0 ≤ i) (h1 : i < n) : ∃ ad , A = some ad ∧ w.cell? (ad.add (i.toNat * 4)) = some (.string (zYb xs i).f0) ∧ w.cell? ⟨(ad.add (i.toNat * 4)).block, (ad.add (i.toNat * 4)).off + 1, none⟩ = some (.int .i64 (zYb xs i).f1.f0) ∧ w.cell? ⟨(ad.add (i.toNat * 4)).block, (ad.add (i.toNat * 4)).off + 2, none⟩ = some (.int .i64 (zYb xs i).f1.f1) ∧ w.cell? ⟨(ad.add (i.toNat * 4)).block, (ad.add (i.toNat * 4)).off + 3, none⟩ = some (.int .i64 (zYb xs i).f2) := by
 obtain ⟨ad, c, e, _, hK, hc0⟩ := Kd.qYm h z45 i h0 h1
 have hc : ∀ j u, c[j]? = some u → w.cell? (ad.add (i.toNat * 4 + j)) = some u := hc0
 obtain rfl := k45_open hK
 exact ⟨ad, e, hc 0 _ rfl, by rw [← xL _ _ 1 (by omega)]; exact hc 1 _ rfl, by rw [← xL _ _ 2 (by omega)]; exact hc 2 _ rfl, by rw [← xL _ _ 3 (by omega)]; exact hc 3 _ rfl⟩
section
variable {P : Program} {ops : Array Oper} {rest : List Oper} {o : Oper} {a : Act} {Q : Exit → Act → World → Prop} {Kc : Act → World → Prop} {α : Type}
theorem qWj (W : World) (base : Nat) (e : TypeId) (size : Nat) (cells : Array Value) (c : Nat) (hbase : base ≤ W.heap.size) (hm : c ≤ maxLen) (hs : cells.size = c * size) :
  (W.alloc (.cells cells e)).ownsRow base e size (.slice (some ⟨W.heap.size, 0, none⟩) 0 c) 0 [] :=
 ⟨by simp, .inr ⟨W.heap.size, c, cells, rfl, hbase, heap_alloc_new W _, by omega, hm, hs, by simp⟩⟩
theorem Kd.zXk (d : Kd α) {w0 W : World} (base e : Nat) (hgd : o.guard = none) {N : Tmp} (hd : o.dst = some N) (t : TypeId) (x y : Operand) (ho : o.op = .makeSlice t x y) (n : Int) (hx : a.eval x = .int .i64 0) (hy : a.eval y = .int .i64 n)
  (ht : P.underlying t = some (.slice e)) (z : Value) (bytes : Nat) (hinfo : (P.info? e).map (fun i => (i.zero, i.size, i.bytes)) = some (some z, d.sz, bytes)) (hz : z.cells.size = d.sz) (hs0 : 0 < d.sz) (hb0 : 0 < bytes)
  (z0 : α) {ok okp : Nat → Prop} (_hzero : d.M W base okp z0 z.cells.toList) (_hok : ∀ k, okp k → ok k) (hfresh : ok W.heap.size) (h0 : 0 ≤ n) (hl : n.toNat * bytes ≤ 281474976710656) (HB : Below base w0 W) (hbase : base ≤ W.heap.size)
  (h : ∀ v1 w1, d.R e w1 base ok v1 [] → Below base w0 w1 → W.grownBy w1 none → (∃ b, v1.ownBlock = some b ∧ W.heap.size ≤ b) → wpList P ops Q rest (a.put o.dst v1) w1) : wpList P ops Q (o :: rest) a W := by
 obtain ⟨m, rfl⟩ := Int.eq_ofNat_of_zero_le h0
 simp only [Int.toNat_natCast] at hl
 obtain ⟨i0, hi, hzz⟩ := Option.map_eq_some_iff.1 hinfo
 simp only [Prod.mk.injEq] at hzz
 obtain ⟨hz0, hz1, hz2⟩ := hzz
 have hm : m ≤ 281474976710656 := Nat.le_trans (Nat.le_mul_of_pos_right _ hb0) hl
 have hr := run_make (P := P) W t e i0 z ht hi hz0 .i64 .i64 0 (m : Int) (by omega) (by omega)
  (by
   have h3 : ((i0.bytes * m : Nat) : Int) ≤ 281474976710656 := by rw [hz2, Nat.mul_comm]; omega
   rwa [Int.natCast_mul] at h3) (by omega)
 simp only [Int.toNat_natCast, Int.toNat_zero] at hr
 rw [hz1] at hr
 refine Kd.zWe hgd (w1 := W.alloc (.cells (madeCells z.cells (m * d.sz)) e)) (v := .slice (some ⟨W.heap.size, 0, none⟩) 0 m) (by simp [execOp, ho, hx, hy, hr]) (h _ _ ⟨fun k hk => ?_, [], ?_, Reps.none _ _⟩ (HB.alloc hbase _) (World.grownBy_alloc W _ none) ⟨W.heap.size, by simp [Value.ownBlock], Nat.le_refl _⟩)
 ·have : W.heap.size = k := by simpa [Value.ownBlock] using hk
  subst this
  exact hfresh
 ·exact qWj W base e d.sz _ m hbase (by simp only [maxLen]; omega) (by simp [size_madeCells])
end
theorem qYc (x y : Int) : wrap64 (wrap64 x - y) = wrap64 (x - y) := by unfold wrap64; omega
theorem qYb (x y : Int) : wrap64 (wrap64 x + y) = wrap64 (x + y) := by unfold wrap64; omega
def qQ.l0 : Nat → List Int → Option (List Int)
 | 0, _ => none
 | k + 1, x0 => if (x0.length : Int) > 0 then (if 0 ≤ (wrap64 ((x0.length : Int) - 1)) then (if (wrap64 ((x0.length : Int) - 1)) < (x0.length : Int) then (if (rd x0 (wrap64 ((x0.length : Int) - 1))) = 0 then (if (wrap64 ((x0.length : Int) - 1)) ≤ (x0.length : Int) then (qQ.l0 k (x0.take ((wrap64 ((x0.length : Int) - 1)) : Int).toNat)) else (none)) else (some x0)) else (none)) else (none)) else (some x0)
def qQ.f (k : Nat) (l0 : List Int) : Option (List Int) := qQ.l0 k l0
theorem qQ.calls (k : Nat) (P0_ : Nat → Prop) (A0 : Option Addr) (c0 : Nat) (l0 : List Int) (r : List Int) (w : World) (hs0 : Kd.V (Kd.int .u32) 114 w w.heap.size (fun k_ => P0_ k_) (.slice A0 l0.length c0) l0) (h : qQ.f k l0 = some r) :
  Calls Tryz.prog 93 #[.slice A0 l0.length c0] w fun e w' => ∃ v0_ : Value, e = .returned (v0_) ∧ Kd.V (Kd.int .u32) 114 w' w.heap.size (fun k_ => (P0_ k_ ∨ w.heap.size ≤ k_)) v0_ r ∧ Below w.heap.size w w' := by
 have HO0 := zQ.mk (show Kd.V (Kd.int .u32) 114 w w.heap.size (fun k_ => (P0_ k_ ∨ w.heap.size ≤ k_)) (.slice A0 l0.length c0) l0 from Kd.zR hs0 (fun k_ hk => .inl hk))
 have HB := zQ.mk (Below.refl w.heap.size w)
 have H := h
 unfold qQ.f at H
 clear h
 have H' := zQ.mk H
 clear H
 go_enter Tryz.func93, Tryz.ntmps93
 go_wp2
 try simp only [sq]
 go_loopg [0] k (fun kq v0 w' => ∃ (x0_1 : List Int), zQ (qQ.l0 kq x0_1 = some r) ∧ zQ (kq ≤ k) ∧ zQ (Kd.V (Kd.int .u32) 114 w' w.heap.size (fun k_ => (P0_ k_ ∨ w.heap.size ≤ k_)) v0 x0_1) ∧ zQ (Below w.heap.size w w'))
 case atStart => exact ⟨(l0), H', ⟨Nat.le_refl _⟩, ⟨by (with_reducible repeat (first | apply Kd.V_alloc | apply Kd.V_drewN | apply Kd.zT)); exact HO0.out⟩, ⟨(zb w)⟩⟩
 case round =>
  clear H'
  obtain ⟨x0_1, HA, HK1, HO_0, HB⟩ := hrel
  cases gk with
  | zero => exact absurd HA.out (by simp [qQ.l0])
  | succ k1 =>
   have H := HA.out
   clear HA
   simp only [qQ.l0] at H
   by_cases c2 : (x0_1.length : Int) > 0
   ·rw [if_pos c2] at H
    have c2b0 : decide (0 < (x0_1.length : Int)) = true := decide_eq_true c2
    have c2b1 : decide (0 < x0_1.length) = true := decide_eq_true (by omega)
    clear c2
    obtain ⟨ji3, hji3⟩ : ∃ j_ : Int, (wrap64 ((x0_1.length : Int) - 1)) = j_ := ⟨_, rfl⟩
    replace H : (if 0 ≤ (ji3) then (if (ji3) < (x0_1.length : Int) then (if (rd x0_1 (ji3)) = 0 then (if (ji3) ≤ (x0_1.length : Int) then (qQ.l0 k1 (x0_1.take ((ji3) : Int).toNat)) else (none)) else (some x0_1)) else (none)) else (none)) = some r := by first | (rw [hji3] at H; exact H) | (simp only [hji3] at H ⊢; exact H)
    have hji3w : (IntKind.i64.wrap ((x0_1.length : Int) - 1)) = ji3 := (jw _).trans hji3
    by_cases c4 : 0 ≤ (ji3)
    ·rw [if_pos c4] at H
     have c4b0 : decide (0 ≤ (ji3)) = true := decide_eq_true c4
     clear c4
     by_cases c5 : (ji3) < (x0_1.length : Int)
     ·rw [if_pos c5] at H
      have c5b0 : decide ((ji3) < (x0_1.length : Int)) = true := decide_eq_true c5
      clear c5
      by_cases c6 : (rd x0_1 (ji3)) = 0
      ·rw [if_pos c6] at H
       have c6b0 : ((rd x0_1 (ji3)) == 0) = true := beq_iff_eq.mpr c6
       have c6b1 : ((rd x0_1 (ji3)) != 0) = false := bne_eq_false_iff_eq.mpr c6
       clear c6
       have c7b0 := eq_true (of_decide_eq_true (by assumption) : 0 ≤ (ji3))
       by_cases c8 : (ji3) ≤ (x0_1.length : Int)
       ·rw [if_pos c8] at H
        have c8b0 := eq_true c8
        have c8b1 : decide ((ji3) ≤ (x0_1.length : Int)) = true := decide_eq_true c8
        clear c8
        obtain ⟨y102, hy102⟩ : ∃ y_ : List Int, y_ = (x0_1.take ((ji3) : Int).toNat) := ⟨_, rfl⟩
        replace H : (qQ.l0 k1 y102) = some r := by first | (rw [hy102]; with_reducible exact H) | (have H2_ := (Option.bind_some _ _).symm.trans H; rw [hy102]; with_reducible exact H2_) | (have H2_ := (Option.bind_some _ _).symm.trans H; with_reducible exact H2_) | with_reducible exact H | (rw [hy102]; exact H) | exact H
        have Ny102 := zQ.mk hy102
        clear hy102
        have H' := zQ.mk H
        clear H
        obtain ⟨Ao9, co9, eo9⟩ := Kd.jW HO_0.out
        subst eo9
        have p101 : 0 ≤ ((ji3) : Int) := of_decide_eq_true (by assumption)
        have q101 : (ji3) < (x0_1.length : Int) := of_decide_eq_true (by assumption)
        obtain ⟨ad101, e101, hx101_0⟩ := Kd.jy (Kd.qC HO_0.out).2.2 (ji3) p101 q101
        cases e101
        replace p101 := eq_true p101
        replace q101 := eq_true q101
        have q10 : ((ji3) : Int) ≤ ((x0_1.length : Int) : Int) := of_decide_eq_true (by assumption)
        obtain ⟨i010, hi010, _, hsz10, _⟩ := info_parts uX
        have hroom10 : x0_1.length ≤ co9 := (Kd.qC HO_0.out).2.1
        have hC10 : Kd.F (Kd.int .u32) _ _ (some ad101) x0_1.length x0_1 := (Kd.V_at (base := w.heap.size) HO_0.out).2.2
        have hcut10 := cut_to (P := Tryz.prog) 94 114 .i64 Tryz.underlying94 hi010 (some ad101) x0_1.length co9 (ji3) (of_decide_eq_true (by assumption)) q10 hroom10
        have hr10 := Kd.F_take (m := ((ji3) : Int).toNat) hC10 (by omega)
        have hy10 : y102.length = ((ji3) : Int).toNat := (by rw [Ny102.out, List.length_take]; omega)
        rw [← Ny102.out] at hr10
        rw [← hy10] at hcut10
        have HO106 := zQ.mk (show Kd.V (Kd.int .u32) 114 _ w.heap.size _ (.slice (some ad101) y102.length co9) y102 from Kd.V_mk (by omega) hr10)
        have HC106 := zQ.mk (show y102.length ≤ co9 from by omega)
        clear hr10 hC10 hroom10 hi010 hsz10
        have KY10 := zQ.mk hy10
        clear hy10
        replace q10 := eq_true q10
        go_wp2
        go_roundg k1
        case measure => have := HK1.out; omega
        case rel => exact ⟨(y102), H', ⟨by have := HK1.out; omega⟩, ⟨by (with_reducible repeat (first | apply Kd.V_alloc | apply Kd.V_drewN | apply Kd.zT)); exact HO106.out⟩, ⟨(zb w)⟩⟩
       ·rw [if_neg c8] at H
        exact absurd H (by simp)
      ·rw [if_neg c6] at H
       have c6b0 : ((rd x0_1 (ji3)) == 0) = false := beq_eq_false_iff_ne.mpr c6
       have c6b1 : ((rd x0_1 (ji3)) != 0) = true := bne_iff_ne.mpr c6
       obtain rfl := Option.some.inj H
       obtain ⟨Ao11, co11, eo11⟩ := Kd.jW HO_0.out
       subst eo11
       have p101 : 0 ≤ ((ji3) : Int) := of_decide_eq_true (by assumption)
       have q101 : (ji3) < (x0_1.length : Int) := of_decide_eq_true (by assumption)
       obtain ⟨ad101, e101, hx101_0⟩ := Kd.jy (Kd.qC HO_0.out).2.2 (ji3) p101 q101
       cases e101
       replace p101 := eq_true p101
       replace q101 := eq_true q101
       go_wp2
       go_ret
       exact ⟨_, by first | rfl | (simp [zq, zY] <;> rfl) | (simp only [← hji3]; first | rfl | (simp [zq, zY] <;> rfl)) | (simp [*, zq, zY] <;> rfl), by (with_reducible repeat (first | apply Kd.V_alloc | apply Kd.V_drewN | apply Kd.zT)); exact HO_0.out, (zb w)⟩
     ·rw [if_neg c5] at H
      exact absurd H (by simp)
    ·rw [if_neg c4] at H
     exact absurd H (by simp)
   ·rw [if_neg c2] at H
    have c2b0 : decide (0 < (x0_1.length : Int)) = false := decide_eq_false c2
    have c2b1 : decide (0 < x0_1.length) = false := decide_eq_false (by omega)
    clear c2
    obtain rfl := Option.some.inj H
    obtain ⟨Ao12, co12, eo12⟩ := Kd.jW HO_0.out
    subst eo12
    go_wp2
    go_ret
    exact ⟨_, by first | rfl | (simp [zq, zY] <;> rfl) | (simp [*, zq, zY] <;> rfl), by (with_reducible repeat (first | apply Kd.V_alloc | apply Kd.V_drewN | apply Kd.zT)); exact HO_0.out, (zb w)⟩
def jT.f (k : Nat) (a0 : Bool) (l1 : List Int) : Option (Bool × List Int) := (qQ.f k l1).bind fun t108 => (if a0 = true then (if (t108.length : Int) > 0 then (some (true, t108)) else (some (false, t108))) else (some (false, t108)))
theorem jT.calls (k : Nat) (a0 : Bool) (P1_ : Nat → Prop) (A1 : Option Addr) (c1 : Nat) (l1 : List Int) (r1 : Bool) (r2 : List Int) (w : World) (hs1 : Kd.V (Kd.int .u32) 114 w w.heap.size (fun k_ => P1_ k_) (.slice A1 l1.length c1) l1) (h : jT.f k a0 l1 = some (r1, r2)) :
  Calls Tryz.prog 82 #[.bool a0, .slice A1 l1.length c1] w fun e w' => ∃ v1_ : Value, e = .returned (.agg #[.bool r1, v1_]) ∧ Kd.V (Kd.int .u32) 114 w' w.heap.size (fun k_ => (P1_ k_ ∨ w.heap.size ≤ k_)) v1_ r2 ∧ Below w.heap.size w w' := by
 have hu96 := Tryz.underlying96
 have HO1 := zQ.mk (show Kd.V (Kd.int .u32) 114 w w.heap.size (fun k_ => (P1_ k_ ∨ w.heap.size ≤ k_)) (.slice A1 l1.length c1) l1 from Kd.zR hs1 (fun k_ hk => .inl hk))
 have HB := zQ.mk (Below.refl w.heap.size w)
 have H := h
 unfold jT.f at H
 clear h
 replace H := Option.bind_eq_some_iff.mp H
 obtain ⟨t108, A30, H⟩ := H
 try dsimp only at H
 have A3 := zQ.mk A30
 clear A30
 by_cases c4 : a0 = true
 ·subst c4
  have H1 : (if (t108.length : Int) > 0 then (some (true, t108)) else (some (false, t108))) = some (r1, r2) := by rw [if_pos rfl] at H; exact H
  clear H
  have H := H1
  clear H1
  by_cases c5 : (t108.length : Int) > 0
  ·rw [if_pos c5] at H
   have c5b0 : decide (0 < (t108.length : Int)) = true := decide_eq_true c5
   have c5b1 : decide (0 < t108.length) = true := decide_eq_true (by omega)
   clear c5
   simp only [Option.some.injEq, Prod.mk.injEq] at H
   obtain ⟨rfl, rfl⟩ := H
   go_enter Tryz.func82, Tryz.ntmps82
   go_wp2_with (first | ((with_reducible refine gD 4 rfl ?_); (try (refine kw (by rfl) ?_; dsimp only)); refine jU ?hg (N := 4) ?hd (cs := #[.bool false, .slice none 0 0]) (t := 96) ?hr ?_; (case hd => rfl); (case hg => rfl); (case hr => first | (go_simp; done) | (go_simp; rfl)); intro gb107 hg w6 hbox hb; replace HO1 := zQ.mk (Kd.qJ (Kd.jK (by (with_reducible repeat (first | apply Kd.V_alloc | apply Kd.V_drewN | apply Kd.zT)); exact HO1.out) gb107 (Nat.le_of_eq hg.symm)) hb); have BK107 := zQ.mk (hbox); have GW107 := zQ.mk ((by rw [hg]; exact (zy (zb w)) : w.heap.size ≤ gb107)); have GE107 := zQ.mk ((by rw [hg]; exact (zy (zb w)) : w.heap.size ≤ gb107)); replace HB := hs w hb; clear hb hg) | ((with_reducible refine gC 93 rfl ?_); refine gl_ 6 Tryz.func93 #[.slice A1 l1.length c1] ?_; (with_reducible refine (qQ.calls k (fun k_ => ((P1_ k_ ∨ w.heap.size ≤ k_) ∧ k_ ≠ gb107)) _ _ l1 t108 _ HO1.out A3.out).mono ?_); rintro e w7 ⟨v109, rfl, ho0, hb⟩; refine ⟨_, rfl, ?_⟩; replace HO1 := zQ.mk (Kd.qJ (by (with_reducible repeat (first | apply Kd.V_alloc | apply Kd.V_drewN | apply Kd.zT)); exact HO1.out) hb); have HO110 := zQ.mk (Kd.xJ (Kd.zR (ok' := fun k_ => (P1_ k_ ∨ w.heap.size ≤ k_) ∧ k_ ≠ gb107) ho0 (fun k_ hk_ => ⟨Or.elim hk_ (fun hs_ => hs_.1) (fun hn_ => (.inr (Nat.le_trans (zy (zb w)) hn_))), Or.elim hk_ (fun hs_ => hs_.2) (fun hn_ => (Kd.qH (g := gb107) (o := .cells #[.bool false, .slice none 0 0] 96 (0, 0)) (zk BK107) k_ hn_))⟩)) (zy (zb w))); replace BK107 := bb BK107 hb; replace HB := hs w hb; (try clear hb); (try clear ho0); obtain ⟨Ao8, co8, eo8⟩ := Kd.jW HO110.out; subst eo8; obtain ⟨hcz9_0, hcz9_1, hfz9_0, hfz9_1⟩ := cz2 BK107))
   refine bodyPost_ret (results_cell_row rfl _ _ gb107 96 #[.bool true, .slice Ao8 t108.length co8] (0, 0) _ rfl (by (with_reducible repeat (first | refine zJ ?_ _ | refine zK ?_ | refine zZ ?_ _)); refine zL (cs := #[.bool true, .slice none 0 0]) ?_ 1 _ rfl; (with_reducible repeat (first | refine zJ ?_ _ | refine zK ?_ | refine zZ ?_ _)); refine zL (cs := #[.bool false, .slice none 0 0]) ?_ 0 _ rfl; exact zk BK107) Tryz.underlying96 rfl (by kernel_rfl)) rfl ?_
   exact ⟨_, by first | rfl | (simp [zq, zY] <;> rfl) | (simp [*, zq, zY] <;> rfl), by (with_reducible repeat (first | apply Kd.V_alloc | apply Kd.V_drewN | apply Kd.zT)); exact Kd.zR (Kd.qL (p := ⟨gb107, 1, none⟩) (Kd.qL (p := ⟨gb107, 0, none⟩) (Kd.zR HO110.out (fun k_ hk => (⟨hk, hk.2⟩ : _ ∧ k_ ≠ gb107))) (fun _ hk => hk.2) (.bool true)) (fun _ hk => hk.2) (.slice Ao8 t108.length co8)) (fun _ hk => hk.1.1), (zb w)⟩
  ·rw [if_neg c5] at H
   have c5b0 : decide (0 < (t108.length : Int)) = false := decide_eq_false c5
   have c5b1 : decide (0 < t108.length) = false := decide_eq_false (by omega)
   clear c5
   simp only [Option.some.injEq, Prod.mk.injEq] at H
   obtain ⟨rfl, rfl⟩ := H
   go_enter Tryz.func82, Tryz.ntmps82
   go_wp2_with (first | ((with_reducible refine gD 4 rfl ?_); (try (refine kw (by rfl) ?_; dsimp only)); refine jU ?hg (N := 4) ?hd (cs := #[.bool false, .slice none 0 0]) (t := 96) ?hr ?_; (case hd => rfl); (case hg => rfl); (case hr => first | (go_simp; done) | (go_simp; rfl)); intro gb107 hg w10 hbox hb; replace HO1 := zQ.mk (Kd.qJ (Kd.jK (by (with_reducible repeat (first | apply Kd.V_alloc | apply Kd.V_drewN | apply Kd.zT)); exact HO1.out) gb107 (Nat.le_of_eq hg.symm)) hb); have BK107 := zQ.mk (hbox); have GW107 := zQ.mk ((by rw [hg]; exact (zy (zb w)) : w.heap.size ≤ gb107)); have GE107 := zQ.mk ((by rw [hg]; exact (zy (zb w)) : w.heap.size ≤ gb107)); replace HB := hs w hb; clear hb hg) | ((with_reducible refine gC 93 rfl ?_); refine gl_ 6 Tryz.func93 #[.slice A1 l1.length c1] ?_; (with_reducible refine (qQ.calls k (fun k_ => ((P1_ k_ ∨ w.heap.size ≤ k_) ∧ k_ ≠ gb107)) _ _ l1 t108 _ HO1.out A3.out).mono ?_); rintro e w11 ⟨v109, rfl, ho0, hb⟩; refine ⟨_, rfl, ?_⟩; replace HO1 := zQ.mk (Kd.qJ (by (with_reducible repeat (first | apply Kd.V_alloc | apply Kd.V_drewN | apply Kd.zT)); exact HO1.out) hb); have HO110 := zQ.mk (Kd.xJ (Kd.zR (ok' := fun k_ => (P1_ k_ ∨ w.heap.size ≤ k_) ∧ k_ ≠ gb107) ho0 (fun k_ hk_ => ⟨Or.elim hk_ (fun hs_ => hs_.1) (fun hn_ => (.inr (Nat.le_trans (zy (zb w)) hn_))), Or.elim hk_ (fun hs_ => hs_.2) (fun hn_ => (Kd.qH (g := gb107) (o := .cells #[.bool false, .slice none 0 0] 96 (0, 0)) (zk BK107) k_ hn_))⟩)) (zy (zb w))); replace BK107 := bb BK107 hb; replace HB := hs w hb; (try clear hb); (try clear ho0); obtain ⟨Ao12, co12, eo12⟩ := Kd.jW HO110.out; subst eo12; obtain ⟨hcz13_0, hcz13_1, hfz13_0, hfz13_1⟩ := cz2 BK107))
   refine bodyPost_ret (results_cell_row rfl _ _ gb107 96 #[.bool false, .slice Ao12 t108.length co12] (0, 0) _ rfl (by (with_reducible repeat (first | refine zJ ?_ _ | refine zK ?_ | refine zZ ?_ _)); refine zL (cs := #[.bool false, .slice none 0 0]) ?_ 1 _ rfl; (with_reducible repeat (first | refine zJ ?_ _ | refine zK ?_ | refine zZ ?_ _)); refine zL (cs := #[.bool false, .slice none 0 0]) ?_ 0 _ rfl; exact zk BK107) Tryz.underlying96 rfl (by kernel_rfl)) rfl ?_
   exact ⟨_, by first | rfl | (simp [zq, zY] <;> rfl) | (simp [*, zq, zY] <;> rfl), by (with_reducible repeat (first | apply Kd.V_alloc | apply Kd.V_drewN | apply Kd.zT)); exact Kd.zR (Kd.qL (p := ⟨gb107, 1, none⟩) (Kd.qL (p := ⟨gb107, 0, none⟩) (Kd.zR HO110.out (fun k_ hk => (⟨hk, hk.2⟩ : _ ∧ k_ ≠ gb107))) (fun _ hk => hk.2) (.bool false)) (fun _ hk => hk.2) (.slice Ao12 t108.length co12)) (fun _ hk => hk.1.1), (zb w)⟩
 ·replace c4 := Bool.eq_false_iff.mpr c4
  subst c4
  have H1 : (some (false, t108)) = some (r1, r2) := by rw [if_neg (show ¬ (false = true) by decide)] at H; exact H
  clear H
  have H := H1
  clear H1
  simp only [Option.some.injEq, Prod.mk.injEq] at H
  obtain ⟨rfl, rfl⟩ := H
  go_enter Tryz.func82, Tryz.ntmps82
  go_wp2_with (first | ((with_reducible refine gD 4 rfl ?_); (try (refine kw (by rfl) ?_; dsimp only)); refine jU ?hg (N := 4) ?hd (cs := #[.bool false, .slice none 0 0]) (t := 96) ?hr ?_; (case hd => rfl); (case hg => rfl); (case hr => first | (go_simp; done) | (go_simp; rfl)); intro gb107 hg w14 hbox hb; replace HO1 := zQ.mk (Kd.qJ (Kd.jK (by (with_reducible repeat (first | apply Kd.V_alloc | apply Kd.V_drewN | apply Kd.zT)); exact HO1.out) gb107 (Nat.le_of_eq hg.symm)) hb); have BK107 := zQ.mk (hbox); have GW107 := zQ.mk ((by rw [hg]; exact (zy (zb w)) : w.heap.size ≤ gb107)); have GE107 := zQ.mk ((by rw [hg]; exact (zy (zb w)) : w.heap.size ≤ gb107)); replace HB := hs w hb; clear hb hg) | ((with_reducible refine gC 93 rfl ?_); refine gl_ 6 Tryz.func93 #[.slice A1 l1.length c1] ?_; (with_reducible refine (qQ.calls k (fun k_ => ((P1_ k_ ∨ w.heap.size ≤ k_) ∧ k_ ≠ gb107)) _ _ l1 t108 _ HO1.out A3.out).mono ?_); rintro e w15 ⟨v109, rfl, ho0, hb⟩; refine ⟨_, rfl, ?_⟩; replace HO1 := zQ.mk (Kd.qJ (by (with_reducible repeat (first | apply Kd.V_alloc | apply Kd.V_drewN | apply Kd.zT)); exact HO1.out) hb); have HO110 := zQ.mk (Kd.xJ (Kd.zR (ok' := fun k_ => (P1_ k_ ∨ w.heap.size ≤ k_) ∧ k_ ≠ gb107) ho0 (fun k_ hk_ => ⟨Or.elim hk_ (fun hs_ => hs_.1) (fun hn_ => (.inr (Nat.le_trans (zy (zb w)) hn_))), Or.elim hk_ (fun hs_ => hs_.2) (fun hn_ => (Kd.qH (g := gb107) (o := .cells #[.bool false, .slice none 0 0] 96 (0, 0)) (zk BK107) k_ hn_))⟩)) (zy (zb w))); replace BK107 := bb BK107 hb; replace HB := hs w hb; (try clear hb); (try clear ho0); obtain ⟨Ao16, co16, eo16⟩ := Kd.jW HO110.out; subst eo16; obtain ⟨hcz17_0, hcz17_1, hfz17_0, hfz17_1⟩ := cz2 BK107))
  refine bodyPost_ret (results_cell_row rfl _ _ gb107 96 #[.bool false, .slice Ao16 t108.length co16] (0, 0) _ rfl (by (with_reducible repeat (first | refine zJ ?_ _ | refine zK ?_ | refine zZ ?_ _)); refine zL (cs := #[.bool false, .slice none 0 0]) ?_ 1 _ rfl; (with_reducible repeat (first | refine zJ ?_ _ | refine zK ?_ | refine zZ ?_ _)); refine zL (cs := #[.bool false, .slice none 0 0]) ?_ 0 _ rfl; exact zk BK107) Tryz.underlying96 rfl (by kernel_rfl)) rfl ?_
  exact ⟨_, by first | rfl | (simp [zq, zY] <;> rfl) | (simp [*, zq, zY] <;> rfl), by (with_reducible repeat (first | apply Kd.V_alloc | apply Kd.V_drewN | apply Kd.zT)); exact Kd.zR (Kd.qL (p := ⟨gb107, 1, none⟩) (Kd.qL (p := ⟨gb107, 0, none⟩) (Kd.zR HO110.out (fun k_ hk => (⟨hk, hk.2⟩ : _ ∧ k_ ≠ gb107))) (fun _ hk => hk.2) (.bool false)) (fun _ hk => hk.2) (.slice Ao16 t108.length co16)) (fun _ hk => hk.1.1), (zb w)⟩
def uL.f (k : Nat) (a0 : Int) : Option (Bool × List Int) := if a0 < 0 then ((jT.f k true (([(IntKind.u64.wrap (-(IntKind.u64.wrap (a0)))) % 4294967296, ((IntKind.u64.wrap (-(IntKind.u64.wrap (a0)))) / 4294967296) % 4294967296] : List Int))).bind fun bt115 => (some (bt115.1, bt115.2))) else ((jT.f k false (([(IntKind.u64.wrap (a0)) % 4294967296, ((IntKind.u64.wrap (a0)) / 4294967296) % 4294967296] : List Int))).bind fun bt122 => (some (bt122.1, bt122.2)))
theorem uL.calls (k : Nat) (a0 : Int) (r1 : Bool) (r2 : List Int) (w : World) (h : uL.f k a0 = some (r1, r2)) :
  Calls Tryz.prog 61 #[.int .i64 a0] w fun e w' => ∃ v1_ : Value, e = .returned (.agg #[.bool r1, v1_]) ∧ Kd.V (Kd.int .u32) 114 w' w.heap.size (fun k_ => (w.heap.size ≤ k_)) v1_ r2 ∧ Below w.heap.size w w' := by
 have hu96 := Tryz.underlying96
 have HB := zQ.mk (Below.refl w.heap.size w)
 have H := h
 unfold uL.f at H
 clear h
 by_cases c2 : a0 < 0
 ·rw [if_pos c2] at H
  have c2b0 : decide (a0 < 0) = true := decide_eq_true c2
  clear c2
  obtain ⟨y112, hy112⟩ : ∃ y_ : List Int, y_ = (([(IntKind.u64.wrap (-(IntKind.u64.wrap (a0)))) % 4294967296, ((IntKind.u64.wrap (-(IntKind.u64.wrap (a0)))) / 4294967296) % 4294967296] : List Int)) := ⟨_, rfl⟩
  replace H : ((jT.f k true y112).bind fun bt115 => (some (bt115.1, bt115.2))) = some (r1, r2) := by first | (rw [hy112]; with_reducible exact H) | (have H2_ := (Option.bind_some _ _).symm.trans H; rw [hy112]; with_reducible exact H2_) | (have H2_ := (Option.bind_some _ _).symm.trans H; with_reducible exact H2_) | with_reducible exact H | (rw [hy112]; exact H) | exact H
  have Ny112 := zQ.mk hy112
  clear hy112
  replace H := Option.bind_eq_some_iff.mp H
  obtain ⟨⟨t115, t116⟩, A30, H⟩ := H
  try dsimp only at H
  have A3 := zQ.mk A30
  clear A30
  simp only [Option.some.injEq, Prod.mk.injEq] at H
  obtain ⟨rfl, rfl⟩ := H
  go_enter Tryz.func61, Tryz.ntmps61
  go_wp2_with (first | ((with_reducible refine gD 2 rfl ?_); refine bx w 2 #[.bool false, .slice none 0 0] 96 ?_; intro gb111 hg w4 hb BK111 GW111 GE111; clear HB; intro HB; clear hb hg) | ((with_reducible refine gD 17 rfl ?_); refine Kd.R_lit (Kd.int .u32) _ 114 ?hg (N := 17) ?hd (xs := ([(IntKind.u64.wrap (-(IntKind.u64.wrap (a0)))) % 4294967296, ((IntKind.u64.wrap (-(IntKind.u64.wrap (a0)))) / 4294967296) % 4294967296] : List Int)) (inner := [.int .u32 ((IntKind.u64.wrap (-(IntKind.u64.wrap (a0)))) % 4294967296), .int .u32 (((IntKind.u64.wrap (-(IntKind.u64.wrap (a0)))) / 4294967296) % 4294967296)]) (ok := fun _ => True) (okp := fun _ => True) ?hr ?hp (fun _ hk => hk) trivial (Below.refl _ _) (Nat.le_refl _) (by simp) ?_; (case hd => rfl); (case hg => rfl); (case hr => first | (go_simp; done) | (go_simp; rfl)); (case hp => exact (Reps.one (show Kd.M (Kd.int .u32) _ _ _ ((IntKind.u64.wrap (-(IntKind.u64.wrap (a0)))) % 4294967296) [.int .u32 ((IntKind.u64.wrap (-(IntKind.u64.wrap (a0)))) % 4294967296)] from rfl) (Reps.one (show Kd.M (Kd.int .u32) _ _ _ (((IntKind.u64.wrap (-(IntKind.u64.wrap (a0)))) / 4294967296) % 4294967296) [.int .u32 (((IntKind.u64.wrap (-(IntKind.u64.wrap (a0)))) / 4294967296) % 4294967296)] from rfl) (Reps.none _ _)))); intro v113 w5 ho6 hb hg_ hnew_; clear hg_ hnew_; (first | rw [← Ny112.out] at ho6 | (simp only [Int.reduceToNat] at ho6; rw [← Ny112.out] at ho6)); have HO114 := zQ.mk (Kd.vC (Kd.zQw (M := fun k_ => (w.heap.size ≤ k_)) ho6 (zy (zb w)) (fun k_ h_ => h_)) (zy (zb w))); replace BK111 := bb BK111 hb; replace HB := hs w hb; clear hb ho6; obtain ⟨Ao7, co7, eo7⟩ := Kd.xx HO114.out; subst eo7) | ((with_reducible refine gC 82 rfl ?_); refine gl_ 18 Tryz.func82 #[.bool true, .slice Ao7 y112.length co7] ?_; (with_reducible refine (jT.calls k true (fun k_ => some k_ = (.slice Ao7 y112.length co7 : Value).ownBlock) _ _ y112 t115 t116 _ ?side1 A3.out).mono ?_); (case side1 => exact Kd.R_V (Kd.uU rfl (Kd.zB (HO114.out) BK111.out (by decide)))); rintro e w8 ⟨v117, rfl, ho0, hb⟩; refine ⟨_, rfl, ?_⟩; have HO118 := zQ.mk (Kd.xJ (Kd.zR (ok' := fun k_ => (w.heap.size ≤ k_) ∧ k_ ≠ gb111) ho0 (fun k_ hk_ => ⟨Or.elim hk_ (fun hs_ => ((Kd.zB (HO114.out) BK111.out (by decide)).1 k_ hs_.symm).1.1) (fun hn_ => (Nat.le_trans (zy (zb w)) hn_)), Or.elim hk_ (fun hs_ => ((Kd.zB (HO114.out) BK111.out (by decide)).1 k_ hs_.symm).2) (fun hn_ => (Kd.qH (g := gb111) (o := .cells #[.bool false, .slice none 0 0] 96 (0, 0)) (zk BK111) k_ hn_))⟩)) (zy (zb w))); replace HO114 := rb HO114 hb; replace BK111 := bb BK111 hb; replace HB := hs w hb; (try clear hb); (try clear ho0); obtain ⟨hcz9_0, hcz9_1, hfz9_0, hfz9_1⟩ := cz2 BK111; obtain ⟨Ao10, co10, eo10⟩ := Kd.jW HO118.out; subst eo10))
  refine bodyPost_ret (results_cell_row rfl _ _ gb111 96 #[.bool t115, .slice Ao10 t116.length co10] (0, 0) _ rfl (by (with_reducible repeat (first | refine zJ ?_ _ | refine zK ?_ | refine zZ ?_ _)); refine zL (cs := #[.bool t115, .slice none 0 0]) ?_ 1 _ rfl; (with_reducible repeat (first | refine zJ ?_ _ | refine zK ?_ | refine zZ ?_ _)); refine zL (cs := #[.bool false, .slice none 0 0]) ?_ 0 _ rfl; exact zk BK111) Tryz.underlying96 rfl (by kernel_rfl)) rfl ?_
  exact ⟨_, by first | rfl | (simp [zq, zY] <;> rfl) | (simp [*, zq, zY] <;> rfl), by (with_reducible repeat (first | apply Kd.V_alloc | apply Kd.V_drewN | apply Kd.zT)); exact Kd.zR (Kd.qL (p := ⟨gb111, 1, none⟩) (Kd.qL (p := ⟨gb111, 0, none⟩) (Kd.zR HO118.out (fun k_ hk => (⟨hk, hk.2⟩ : _ ∧ k_ ≠ gb111))) (fun _ hk => hk.2) (.bool t115)) (fun _ hk => hk.2) (.slice Ao10 t116.length co10)) (fun _ hk => hk.1.1), (zb w)⟩
 ·rw [if_neg c2] at H
  have c2b0 : decide (a0 < 0) = false := decide_eq_false c2
  clear c2
  obtain ⟨y119, hy119⟩ : ∃ y_ : List Int, y_ = (([(IntKind.u64.wrap (a0)) % 4294967296, ((IntKind.u64.wrap (a0)) / 4294967296) % 4294967296] : List Int)) := ⟨_, rfl⟩
  replace H : ((jT.f k false y119).bind fun bt122 => (some (bt122.1, bt122.2))) = some (r1, r2) := by first | (rw [hy119]; with_reducible exact H) | (have H2_ := (Option.bind_some _ _).symm.trans H; rw [hy119]; with_reducible exact H2_) | (have H2_ := (Option.bind_some _ _).symm.trans H; with_reducible exact H2_) | with_reducible exact H | (rw [hy119]; exact H) | exact H
  have Ny119 := zQ.mk hy119
  clear hy119
  replace H := Option.bind_eq_some_iff.mp H
  obtain ⟨⟨t122, t123⟩, A110, H⟩ := H
  try dsimp only at H
  have A11 := zQ.mk A110
  clear A110
  simp only [Option.some.injEq, Prod.mk.injEq] at H
  obtain ⟨rfl, rfl⟩ := H
  go_enter Tryz.func61, Tryz.ntmps61
  go_wp2_with (first | ((with_reducible refine gD 2 rfl ?_); refine bx w 2 #[.bool false, .slice none 0 0] 96 ?_; intro gb111 hg w12 hb BK111 GW111 GE111; clear HB; intro HB; clear hb hg) | ((with_reducible refine gD 17 rfl ?_); refine Kd.R_lit (Kd.int .u32) _ 114 ?hg (N := 17) ?hd (xs := ([(IntKind.u64.wrap (a0)) % 4294967296, ((IntKind.u64.wrap (a0)) / 4294967296) % 4294967296] : List Int)) (inner := [.int .u32 ((IntKind.u64.wrap (a0)) % 4294967296), .int .u32 (((IntKind.u64.wrap (a0)) / 4294967296) % 4294967296)]) (ok := fun _ => True) (okp := fun _ => True) ?hr ?hp (fun _ hk => hk) trivial (Below.refl _ _) (Nat.le_refl _) (by simp) ?_; (case hd => rfl); (case hg => rfl); (case hr => first | (go_simp; done) | (go_simp; rfl)); (case hp => exact (Reps.one (show Kd.M (Kd.int .u32) _ _ _ ((IntKind.u64.wrap (a0)) % 4294967296) [.int .u32 ((IntKind.u64.wrap (a0)) % 4294967296)] from rfl) (Reps.one (show Kd.M (Kd.int .u32) _ _ _ (((IntKind.u64.wrap (a0)) / 4294967296) % 4294967296) [.int .u32 (((IntKind.u64.wrap (a0)) / 4294967296) % 4294967296)] from rfl) (Reps.none _ _)))); intro v120 w13 ho14 hb hg_ hnew_; clear hg_ hnew_; (first | rw [← Ny119.out] at ho14 | (simp only [Int.reduceToNat] at ho14; rw [← Ny119.out] at ho14)); have HO121 := zQ.mk (Kd.vC (Kd.zQw (M := fun k_ => (w.heap.size ≤ k_)) ho14 (zy (zb w)) (fun k_ h_ => h_)) (zy (zb w))); replace BK111 := bb BK111 hb; replace HB := hs w hb; clear hb ho14; obtain ⟨Ao15, co15, eo15⟩ := Kd.xx HO121.out; subst eo15) | ((with_reducible refine gC 82 rfl ?_); refine gl_ 18 Tryz.func82 #[.bool false, .slice Ao15 y119.length co15] ?_; (with_reducible refine (jT.calls k false (fun k_ => some k_ = (.slice Ao15 y119.length co15 : Value).ownBlock) _ _ y119 t122 t123 _ ?side1 A11.out).mono ?_); (case side1 => exact Kd.R_V (Kd.uU rfl (Kd.zB (HO121.out) BK111.out (by decide)))); rintro e w16 ⟨v124, rfl, ho0, hb⟩; refine ⟨_, rfl, ?_⟩; have HO125 := zQ.mk (Kd.xJ (Kd.zR (ok' := fun k_ => (w.heap.size ≤ k_) ∧ k_ ≠ gb111) ho0 (fun k_ hk_ => ⟨Or.elim hk_ (fun hs_ => ((Kd.zB (HO121.out) BK111.out (by decide)).1 k_ hs_.symm).1.1) (fun hn_ => (Nat.le_trans (zy (zb w)) hn_)), Or.elim hk_ (fun hs_ => ((Kd.zB (HO121.out) BK111.out (by decide)).1 k_ hs_.symm).2) (fun hn_ => (Kd.qH (g := gb111) (o := .cells #[.bool false, .slice none 0 0] 96 (0, 0)) (zk BK111) k_ hn_))⟩)) (zy (zb w))); replace HO121 := rb HO121 hb; replace BK111 := bb BK111 hb; replace HB := hs w hb; (try clear hb); (try clear ho0); obtain ⟨hcz17_0, hcz17_1, hfz17_0, hfz17_1⟩ := cz2 BK111; obtain ⟨Ao18, co18, eo18⟩ := Kd.jW HO125.out; subst eo18))
  refine bodyPost_ret (results_cell_row rfl _ _ gb111 96 #[.bool t122, .slice Ao18 t123.length co18] (0, 0) _ rfl (by (with_reducible repeat (first | refine zJ ?_ _ | refine zK ?_ | refine zZ ?_ _)); refine zL (cs := #[.bool t122, .slice none 0 0]) ?_ 1 _ rfl; (with_reducible repeat (first | refine zJ ?_ _ | refine zK ?_ | refine zZ ?_ _)); refine zL (cs := #[.bool false, .slice none 0 0]) ?_ 0 _ rfl; exact zk BK111) Tryz.underlying96 rfl (by kernel_rfl)) rfl ?_
  exact ⟨_, by first | rfl | (simp [zq, zY] <;> rfl) | (simp [*, zq, zY] <;> rfl), by (with_reducible repeat (first | apply Kd.V_alloc | apply Kd.V_drewN | apply Kd.zT)); exact Kd.zR (Kd.qL (p := ⟨gb111, 1, none⟩) (Kd.qL (p := ⟨gb111, 0, none⟩) (Kd.zR HO125.out (fun k_ hk => (⟨hk, hk.2⟩ : _ ∧ k_ ≠ gb111))) (fun _ hk => hk.2) (.bool t122)) (fun _ hk => hk.2) (.slice Ao18 t123.length co18)) (fun _ hk => hk.1.1), (zb w)⟩
def jY.l0 : Nat → List Int → List Int → Int → List Int → Int → Int → Option (List Int)
 | 0, _, _, _, _, _, _ => none
 | k + 1, x1, x5, x6, x20, x21, x22 => if x22 < x21 then (if 0 ≤ x22 then (if x22 < (x20.length : Int) then (if x22 < (x1.length : Int) then (if x5.length < 35184372088832 then (jY.l0 k x1 (x5 ++ [(IntKind.u64.wrap ((IntKind.u64.wrap (x6 + (IntKind.u64.wrap (rd x20 x22)))) + (IntKind.u64.wrap (rd x1 x22)))) % 4294967296]) ((IntKind.u64.wrap ((IntKind.u64.wrap (x6 + (IntKind.u64.wrap (rd x20 x22)))) + (IntKind.u64.wrap (rd x1 x22)))) / 4294967296) x20 x21 (wrap64 (x22 + 1))) else (none)) else (if x5.length < 35184372088832 then (jY.l0 k x1 (x5 ++ [(IntKind.u64.wrap (x6 + (IntKind.u64.wrap (rd x20 x22)))) % 4294967296]) ((IntKind.u64.wrap (x6 + (IntKind.u64.wrap (rd x20 x22)))) / 4294967296) x20 x21 (wrap64 (x22 + 1))) else (none))) else (none)) else (none)) else (if x5.length < 35184372088832 then (some (x5 ++ [(x6) % 4294967296])) else (none))
def jY.f (k : Nat) (l0 : List Int) (l1 : List Int) : Option (List Int) := if (l0.length : Int) < (l1.length : Int) then (none) else (if 0 ≤ (wrap64 ((l0.length : Int) + 1)) then (if (wrap64 ((l0.length : Int) + 1) : Int).toNat ≤ 70368744177664 then (jY.l0 k l1 (([] : List Int)) 0 l0 (l0.length : Int) 0) else (none)) else (none))
theorem jY.calls (k : Nat) (A0 : Option Addr) (c0 : Nat) (l0 : List Int) (A1 : Option Addr) (c1 : Nat) (l1 : List Int) (r : List Int) (w : World) (hr0 : Kd.C (Kd.int .u32) w A0 l0.length l0) (hc0 : l0.length ≤ c0) (hr1 : Kd.C (Kd.int .u32) w A1 l1.length l1) (hc1 : l1.length ≤ c1) (h : jY.f k l0 l1 = some r) :
  Calls Tryz.prog 92 #[.slice A0 l0.length c0, .slice A1 l1.length c1] w fun e w' => ∃ v0_ : Value, e = .returned (v0_) ∧ Kd.R (Kd.int .u32) 114 w' w.heap.size (fun _ => True) v0_ r ∧ Below w.heap.size w w' := by
 have HR0 := zQ.mk hr0
 have HC0 := zQ.mk hc0
 clear hr0 hc0
 have HR1 := zQ.mk hr1
 have HC1 := zQ.mk hc1
 clear hr1 hc1
 have HB := zQ.mk (Below.refl w.heap.size w)
 have H := h
 unfold jY.f at H
 clear h
 by_cases c3 : (l0.length : Int) < (l1.length : Int)
 ·rw [if_pos c3] at H
  exact absurd H (by simp)
 ·rw [if_neg c3] at H
  have c3b0 : decide ((l0.length : Int) < (l1.length : Int)) = false := decide_eq_false c3
  have c3b1 : decide (l0.length < l1.length) = false := decide_eq_false (fun h => c3 (Int.ofNat_lt.mpr h))
  clear c3
  obtain ⟨ji4, hji4⟩ : ∃ j_ : Int, (wrap64 ((l0.length : Int) + 1)) = j_ := ⟨_, rfl⟩
  replace H : (if 0 ≤ (ji4) then (if (ji4 : Int).toNat ≤ 70368744177664 then (jY.l0 k l1 (([] : List Int)) 0 l0 (l0.length : Int) 0) else (none)) else (none)) = some r := by first | (rw [hji4] at H; exact H) | (simp only [hji4] at H ⊢; exact H)
  have hji4w : (IntKind.i64.wrap ((l0.length : Int) + 1)) = ji4 := (jw _).trans hji4
  by_cases c5 : 0 ≤ (ji4)
  ·rw [if_pos c5] at H
   have c5b0 := eq_true c5
   have c5b1 : decide (0 ≤ (ji4)) = true := decide_eq_true c5
   clear c5
   by_cases c6 : (ji4 : Int).toNat ≤ 70368744177664
   ·rw [if_pos c6] at H
    have c6b0 := eq_true c6
    have c6b1 : decide ((ji4 : Int).toNat ≤ 70368744177664) = true := decide_eq_true c6
    clear c6
    obtain ⟨y126, hy126⟩ : ∃ y_ : List Int, y_ = (([] : List Int)) := ⟨_, rfl⟩
    replace H : (jY.l0 k l1 y126 0 l0 (l0.length : Int) 0) = some r := by first | (rw [hy126]; with_reducible exact H) | (have H2_ := (Option.bind_some _ _).symm.trans H; rw [hy126]; with_reducible exact H2_) | (have H2_ := (Option.bind_some _ _).symm.trans H; with_reducible exact H2_) | with_reducible exact H | (rw [hy126]; exact H) | exact H
    have Ny126 := zQ.mk hy126
    clear hy126
    have H' := zQ.mk H
    clear H
    go_enter Tryz.func92, Tryz.ntmps92
    go_wp2_with (first | ((with_reducible refine gD 19 rfl ?_); refine Kd.zXk (Kd.int .u32) _ 114 rfl (N := 19) rfl 94 _ _ rfl ji4 rfl rfl Tryz.underlying94 (.int .u32 0) 4 uX rfl (by decide) (by omega) 0 (ok := fun _ => True) (okp := fun _ => True) rfl (fun _ hk => hk) trivial (of_decide_eq_true (by assumption)) (Nat.le_trans (Nat.mul_le_mul_right _ (of_decide_eq_true (by assumption) : ji4.toNat ≤ 70368744177664)) (by omega)) (Below.refl _ _) (Nat.le_refl _) ?_; intro v127 w7 ho8 hb hg_ hnew_; clear hg_ hnew_; (first | rw [← Ny126.out] at ho8 | (simp only [Int.reduceToNat] at ho8; rw [← Ny126.out] at ho8)); have HO128 := zQ.mk (Kd.vC ho8 (zy (zb w))); replace HB := hs w hb; clear hb ho8))
    try simp only [sq]
    go_loopg [5, 6, 22] k (fun kq v5 v6 v22 w' => ∃ (x5_1 : List Int) (x6_1 : Int) (x22_1 : Int), v6 = .int .u64 x6_1 ∧ v22 = .int .i64 x22_1 ∧ zQ (jY.l0 kq l1 x5_1 x6_1 l0 (l0.length : Int) x22_1 = some r) ∧ zQ (kq ≤ k) ∧ zQ (Kd.R (Kd.int .u32) 114 w' w.heap.size (fun _ => True) v5 x5_1) ∧ zQ (Below w.heap.size w w'))
    case atStart => exact ⟨(y126), (0), (0), ar, ar, H', ⟨Nat.le_refl _⟩, ⟨zo HO128⟩, ⟨(zb w)⟩⟩
    case round =>
     clear H'
     try clear c1
     try clear p2
     try clear c3
     try clear c3b0
     try clear c3b1
     try clear c5
     try clear c5b0
     try clear c5b1
     try clear c6
     try clear c6b0
     try clear c6b1
     try clear p6
     obtain ⟨x5_1, x6_1, x22_1, rfl, rfl, HA, HK1, HO_5, HB⟩ := hrel
     cases gk with
     | zero => exact absurd HA.out (by simp [jY.l0])
     | succ k1 =>
      have H := HA.out
      clear HA
      simp only [jY.l0] at H
      by_cases c9 : x22_1 < (l0.length : Int)
      ·rw [if_pos c9] at H
       have c9b0 : decide (x22_1 < (l0.length : Int)) = true := decide_eq_true c9
       clear c9
       by_cases c10 : 0 ≤ x22_1
       ·rw [if_pos c10] at H
        have c10b0 : decide (0 ≤ x22_1) = true := decide_eq_true c10
        clear c10
        by_cases c11 : x22_1 < (l0.length : Int)
        ·rw [if_pos c11] at H
         have c11b0 : decide (x22_1 < (l0.length : Int)) = true := decide_eq_true c11
         clear c11
         by_cases c12 : x22_1 < (l1.length : Int)
         ·rw [if_pos c12] at H
          have c12b0 : decide (x22_1 < (l1.length : Int)) = true := decide_eq_true c12
          clear c12
          by_cases c13 : x5_1.length < 35184372088832
          ·rw [if_pos c13] at H
           have LMc13 := zQ.mk c13
           clear c13
           obtain ⟨y131, hy131⟩ : ∃ y_ : List Int, y_ = (x5_1 ++ [(IntKind.u64.wrap ((IntKind.u64.wrap (x6_1 + (IntKind.u64.wrap (rd l0 x22_1)))) + (IntKind.u64.wrap (rd l1 x22_1)))) % 4294967296]) := ⟨_, rfl⟩
           replace H : (jY.l0 k1 l1 y131 ((IntKind.u64.wrap ((IntKind.u64.wrap (x6_1 + (IntKind.u64.wrap (rd l0 x22_1)))) + (IntKind.u64.wrap (rd l1 x22_1)))) / 4294967296) l0 (l0.length : Int) (wrap64 (x22_1 + 1))) = some r := by first | (rw [hy131]; with_reducible exact H) | (have H2_ := (Option.bind_some _ _).symm.trans H; rw [hy131]; with_reducible exact H2_) | (have H2_ := (Option.bind_some _ _).symm.trans H; with_reducible exact H2_) | with_reducible exact H | (rw [hy131]; exact H) | exact H
           have Ny131 := zQ.mk hy131
           clear hy131
           have H' := zQ.mk H
           clear H
           have p129 : 0 ≤ (x22_1 : Int) := of_decide_eq_true (by assumption)
           have q129 : x22_1 < (l0.length : Int) := of_decide_eq_true (by assumption)
           obtain ⟨ad129, e129, hx129_0⟩ := Kd.jy HR0.out x22_1 p129 q129
           cases e129
           replace hx129_0 := hz HB hx129_0
           replace p129 := eq_true p129
           replace q129 := eq_true q129
           have p130 : 0 ≤ (x22_1 : Int) := of_decide_eq_true (by assumption)
           have q130 : x22_1 < (l1.length : Int) := of_decide_eq_true (by assumption)
           obtain ⟨ad130, e130, hx130_0⟩ := Kd.jy HR1.out x22_1 p130 q130
           cases e130
           replace hx130_0 := hz HB hx130_0
           replace p130 := eq_true p130
           replace q130 := eq_true q130
           go_wp2_with (first | ((with_reducible refine jR (b := .append) (xs := #[.tmp 42, .tmp 45]) rfl ?_); at_builtin; refine Kd.vJ (Kd.int .u32) (w0 := w) w.heap.size rfl (.tmp 42) (.tmp 45) 94 114 (.int .u32 0) 4 rfl Tryz.underlying94 uX rfl (by decide) (by omega) u5 x5_1 ((IntKind.u64.wrap ((IntKind.u64.wrap (x6_1 + (IntKind.u64.wrap (rd l0 x22_1)))) + (IntKind.u64.wrap (rd l1 x22_1)))) % 4294967296) [.int .u32 ((IntKind.u64.wrap ((IntKind.u64.wrap (x6_1 + (IntKind.u64.wrap (rd l0 x22_1)))) + (IntKind.u64.wrap (rd l1 x22_1)))) % 4294967296)] (fun _ => True) (fun _ => False) rfl rfl ?aP (fun _ hk => hk.elim) ?aF ?aO ?aB ?aS ?aL ?_; (case aP => exact rfl); (case aB => exact (zb w)); (case aF => exact (fun _ _ => trivial)); (case aO => exact (zo HO_5)); (case aS => exact (zy (zb w))); (case aL => have := LMc13.out; omega); intro v132 w14 ho hb hg hat; rw [← Ny131.out] at ho; replace HB := zQ.mk (hb); have HO133 := zQ.mk (ho); clear HO_5; clear ho hb hg hat))
           go_roundg k1
           case measure => have := HK1.out; omega
           case rel => exact ⟨(y131), ((IntKind.u64.wrap ((IntKind.u64.wrap (x6_1 + (IntKind.u64.wrap (rd l0 x22_1)))) + (IntKind.u64.wrap (rd l1 x22_1)))) / 4294967296), (wrap64 (x22_1 + 1)), ar, ar, H', ⟨by have := HK1.out; omega⟩, ⟨zo HO133⟩, ⟨(zb w)⟩⟩
          ·rw [if_neg c13] at H
           exact absurd H (by simp)
         ·rw [if_neg c12] at H
          have c12b0 : decide (x22_1 < (l1.length : Int)) = false := decide_eq_false c12
          clear c12
          by_cases c15 : x5_1.length < 35184372088832
          ·rw [if_pos c15] at H
           have LMc15 := zQ.mk c15
           clear c15
           obtain ⟨y134, hy134⟩ : ∃ y_ : List Int, y_ = (x5_1 ++ [(IntKind.u64.wrap (x6_1 + (IntKind.u64.wrap (rd l0 x22_1)))) % 4294967296]) := ⟨_, rfl⟩
           replace H : (jY.l0 k1 l1 y134 ((IntKind.u64.wrap (x6_1 + (IntKind.u64.wrap (rd l0 x22_1)))) / 4294967296) l0 (l0.length : Int) (wrap64 (x22_1 + 1))) = some r := by first | (rw [hy134]; with_reducible exact H) | (have H2_ := (Option.bind_some _ _).symm.trans H; rw [hy134]; with_reducible exact H2_) | (have H2_ := (Option.bind_some _ _).symm.trans H; with_reducible exact H2_) | with_reducible exact H | (rw [hy134]; exact H) | exact H
           have Ny134 := zQ.mk hy134
           clear hy134
           have H' := zQ.mk H
           clear H
           have p129 : 0 ≤ (x22_1 : Int) := of_decide_eq_true (by assumption)
           have q129 : x22_1 < (l0.length : Int) := of_decide_eq_true (by assumption)
           obtain ⟨ad129, e129, hx129_0⟩ := Kd.jy HR0.out x22_1 p129 q129
           cases e129
           replace hx129_0 := hz HB hx129_0
           replace p129 := eq_true p129
           replace q129 := eq_true q129
           go_wp2_with (first | ((with_reducible refine jR (b := .append) (xs := #[.tmp 42, .tmp 45]) rfl ?_); at_builtin; refine Kd.vJ (Kd.int .u32) (w0 := w) w.heap.size rfl (.tmp 42) (.tmp 45) 94 114 (.int .u32 0) 4 rfl Tryz.underlying94 uX rfl (by decide) (by omega) u5 x5_1 ((IntKind.u64.wrap (x6_1 + (IntKind.u64.wrap (rd l0 x22_1)))) % 4294967296) [.int .u32 ((IntKind.u64.wrap (x6_1 + (IntKind.u64.wrap (rd l0 x22_1)))) % 4294967296)] (fun _ => True) (fun _ => False) rfl rfl ?aP (fun _ hk => hk.elim) ?aF ?aO ?aB ?aS ?aL ?_; (case aP => exact rfl); (case aB => exact (zb w)); (case aF => exact (fun _ _ => trivial)); (case aO => exact (zo HO_5)); (case aS => exact (zy (zb w))); (case aL => have := LMc15.out; omega); intro v135 w16 ho hb hg hat; rw [← Ny134.out] at ho; replace HB := zQ.mk (hb); have HO136 := zQ.mk (ho); clear HO_5; clear ho hb hg hat))
           go_roundg k1
           case measure => have := HK1.out; omega
           case rel => exact ⟨(y134), ((IntKind.u64.wrap (x6_1 + (IntKind.u64.wrap (rd l0 x22_1)))) / 4294967296), (wrap64 (x22_1 + 1)), ar, ar, H', ⟨by have := HK1.out; omega⟩, ⟨zo HO136⟩, ⟨(zb w)⟩⟩
          ·rw [if_neg c15] at H
           exact absurd H (by simp)
        ·rw [if_neg c11] at H
         exact absurd H (by simp)
       ·rw [if_neg c10] at H
        exact absurd H (by simp)
      ·rw [if_neg c9] at H
       have c9b0 : decide (x22_1 < (l0.length : Int)) = false := decide_eq_false c9
       clear c9
       by_cases c17 : x5_1.length < 35184372088832
       ·rw [if_pos c17] at H
        have LMc17 := zQ.mk c17
        clear c17
        obtain ⟨y137, hy137⟩ : ∃ y_ : List Int, y_ = (x5_1 ++ [(x6_1) % 4294967296]) := ⟨_, rfl⟩
        replace H : (some y137) = some r := by first | (rw [hy137]; with_reducible exact H) | (have H2_ := (Option.bind_some _ _).symm.trans H; rw [hy137]; with_reducible exact H2_) | (have H2_ := (Option.bind_some _ _).symm.trans H; with_reducible exact H2_) | with_reducible exact H | (rw [hy137]; exact H) | exact H
        have Ny137 := zQ.mk hy137
        clear hy137
        obtain rfl := Option.some.inj H
        go_wp2_with (first | ((with_reducible refine jR (b := .append) (xs := #[.tmp 50, .tmp 53]) rfl ?_); at_builtin; refine Kd.vJ (Kd.int .u32) (w0 := w) w.heap.size rfl (.tmp 50) (.tmp 53) 94 114 (.int .u32 0) 4 rfl Tryz.underlying94 uX rfl (by decide) (by omega) u5 x5_1 ((x6_1) % 4294967296) [.int .u32 ((x6_1) % 4294967296)] (fun _ => True) (fun _ => False) rfl rfl ?aP (fun _ hk => hk.elim) ?aF ?aO ?aB ?aS ?aL ?_; (case aP => exact rfl); (case aB => exact (zb w)); (case aF => exact (fun _ _ => trivial)); (case aO => exact (zo HO_5)); (case aS => exact (zy (zb w))); (case aL => have := LMc17.out; omega); intro v138 w18 ho hb hg hat; rw [← Ny137.out] at ho; replace HB := zQ.mk (hb); have HO139 := zQ.mk (ho); clear HO_5; clear ho hb hg hat))
        go_ret
        exact ⟨_, by first | rfl | (simp [zq, zY] <;> rfl) | (simp only [← hji4]; first | rfl | (simp [zq, zY] <;> rfl)) | (simp [*, zq, zY] <;> rfl), by (with_reducible repeat (first | apply Kd.xU | apply Kd.xS | apply Kd.xw)); exact HO139.out, (zb w)⟩
       ·rw [if_neg c17] at H
        exact absurd H (by simp)
   ·rw [if_neg c6] at H
    exact absurd H (by simp)
  ·rw [if_neg c5] at H
   exact absurd H (by simp)
def jH.l0 : Nat → List Int → List Int → Int → List Int → Int → Int → Option (List Int)
 | 0, _, _, _, _, _, _ => none
 | k + 1, x1, x5, x6, x20, x21, x22 => if x22 < x21 then (if 0 ≤ x22 then (if x22 < (x20.length : Int) then (if x22 < (x1.length : Int) then (if x5.length < 35184372088832 then (jH.l0 k x1 (x5 ++ [(IntKind.u64.wrap ((IntKind.u64.wrap (x6 + (IntKind.u64.wrap (rd x20 x22)))) + (IntKind.u64.wrap (rd x1 x22)))) % 4294967296]) ((IntKind.u64.wrap ((IntKind.u64.wrap (x6 + (IntKind.u64.wrap (rd x20 x22)))) + (IntKind.u64.wrap (rd x1 x22)))) / 4294967296) x20 x21 (wrap64 (x22 + 1))) else (none)) else (if x5.length < 35184372088832 then (jH.l0 k x1 (x5 ++ [(IntKind.u64.wrap (x6 + (IntKind.u64.wrap (rd x20 x22)))) % 4294967296]) ((IntKind.u64.wrap (x6 + (IntKind.u64.wrap (rd x20 x22)))) / 4294967296) x20 x21 (wrap64 (x22 + 1))) else (none))) else (none)) else (none)) else (if x5.length < 35184372088832 then (some (x5 ++ [(x6) % 4294967296])) else (none))
def jH.f (k : Nat) (l0 : List Int) (l1 : List Int) : Option (List Int) := if (l0.length : Int) < (l1.length : Int) then (if 0 ≤ (wrap64 ((l1.length : Int) + 1)) then (if (wrap64 ((l1.length : Int) + 1) : Int).toNat ≤ 70368744177664 then (jH.l0 k l0 (([] : List Int)) 0 l1 (l1.length : Int) 0) else (none)) else (none)) else (none)
theorem jH.calls (k : Nat) (A0 : Option Addr) (c0 : Nat) (l0 : List Int) (A1 : Option Addr) (c1 : Nat) (l1 : List Int) (r : List Int) (w : World) (hr0 : Kd.C (Kd.int .u32) w A0 l0.length l0) (hc0 : l0.length ≤ c0) (hr1 : Kd.C (Kd.int .u32) w A1 l1.length l1) (hc1 : l1.length ≤ c1) (h : jH.f k l0 l1 = some r) :
  Calls Tryz.prog 92 #[.slice A0 l0.length c0, .slice A1 l1.length c1] w fun e w' => ∃ v0_ : Value, e = .returned (v0_) ∧ Kd.R (Kd.int .u32) 114 w' w.heap.size (fun _ => True) v0_ r ∧ Below w.heap.size w w' := by
 have HR0 := zQ.mk hr0
 have HC0 := zQ.mk hc0
 clear hr0 hc0
 have HR1 := zQ.mk hr1
 have HC1 := zQ.mk hc1
 clear hr1 hc1
 have HB := zQ.mk (Below.refl w.heap.size w)
 have H := h
 unfold jH.f at H
 clear h
 by_cases c3 : (l0.length : Int) < (l1.length : Int)
 ·rw [if_pos c3] at H
  have c3b0 : decide ((l0.length : Int) < (l1.length : Int)) = true := decide_eq_true c3
  have c3b1 : decide (l0.length < l1.length) = true := decide_eq_true (Int.ofNat_lt.mp c3)
  clear c3
  obtain ⟨ji4, hji4⟩ : ∃ j_ : Int, (wrap64 ((l1.length : Int) + 1)) = j_ := ⟨_, rfl⟩
  replace H : (if 0 ≤ (ji4) then (if (ji4 : Int).toNat ≤ 70368744177664 then (jH.l0 k l0 (([] : List Int)) 0 l1 (l1.length : Int) 0) else (none)) else (none)) = some r := by first | (rw [hji4] at H; exact H) | (simp only [hji4] at H ⊢; exact H)
  have hji4w : (IntKind.i64.wrap ((l1.length : Int) + 1)) = ji4 := (jw _).trans hji4
  by_cases c5 : 0 ≤ (ji4)
  ·rw [if_pos c5] at H
   have c5b0 := eq_true c5
   have c5b1 : decide (0 ≤ (ji4)) = true := decide_eq_true c5
   clear c5
   by_cases c6 : (ji4 : Int).toNat ≤ 70368744177664
   ·rw [if_pos c6] at H
    have c6b0 := eq_true c6
    have c6b1 : decide ((ji4 : Int).toNat ≤ 70368744177664) = true := decide_eq_true c6
    clear c6
    obtain ⟨y140, hy140⟩ : ∃ y_ : List Int, y_ = (([] : List Int)) := ⟨_, rfl⟩
    replace H : (jH.l0 k l0 y140 0 l1 (l1.length : Int) 0) = some r := by first | (rw [hy140]; with_reducible exact H) | (have H2_ := (Option.bind_some _ _).symm.trans H; rw [hy140]; with_reducible exact H2_) | (have H2_ := (Option.bind_some _ _).symm.trans H; with_reducible exact H2_) | with_reducible exact H | (rw [hy140]; exact H) | exact H
    have Ny140 := zQ.mk hy140
    clear hy140
    have H' := zQ.mk H
    clear H
    go_enter Tryz.func92, Tryz.ntmps92
    go_wp2_with (first | ((with_reducible refine gD 19 rfl ?_); refine Kd.zXk (Kd.int .u32) _ 114 rfl (N := 19) rfl 94 _ _ rfl ji4 rfl rfl Tryz.underlying94 (.int .u32 0) 4 uX rfl (by decide) (by omega) 0 (ok := fun _ => True) (okp := fun _ => True) rfl (fun _ hk => hk) trivial (of_decide_eq_true (by assumption)) (Nat.le_trans (Nat.mul_le_mul_right _ (of_decide_eq_true (by assumption) : ji4.toNat ≤ 70368744177664)) (by omega)) (Below.refl _ _) (Nat.le_refl _) ?_; intro v141 w7 ho8 hb hg_ hnew_; clear hg_ hnew_; (first | rw [← Ny140.out] at ho8 | (simp only [Int.reduceToNat] at ho8; rw [← Ny140.out] at ho8)); have HO142 := zQ.mk (Kd.vC ho8 (zy (zb w))); replace HB := hs w hb; clear hb ho8))
    try simp only [sq]
    go_loopg [5, 6, 22] k (fun kq v5 v6 v22 w' => ∃ (x5_1 : List Int) (x6_1 : Int) (x22_1 : Int), v6 = .int .u64 x6_1 ∧ v22 = .int .i64 x22_1 ∧ zQ (jH.l0 kq l0 x5_1 x6_1 l1 (l1.length : Int) x22_1 = some r) ∧ zQ (kq ≤ k) ∧ zQ (Kd.R (Kd.int .u32) 114 w' w.heap.size (fun _ => True) v5 x5_1) ∧ zQ (Below w.heap.size w w'))
    case atStart => exact ⟨(y140), (0), (0), ar, ar, H', ⟨Nat.le_refl _⟩, ⟨zo HO142⟩, ⟨(zb w)⟩⟩
    case round =>
     clear H'
     try clear c1
     try clear p2
     try clear c3
     try clear c3b0
     try clear c3b1
     try clear c5
     try clear c5b0
     try clear c5b1
     try clear c6
     try clear c6b0
     try clear c6b1
     try clear p6
     obtain ⟨x5_1, x6_1, x22_1, rfl, rfl, HA, HK1, HO_5, HB⟩ := hrel
     cases gk with
     | zero => exact absurd HA.out (by simp [jH.l0])
     | succ k1 =>
      have H := HA.out
      clear HA
      simp only [jH.l0] at H
      by_cases c9 : x22_1 < (l1.length : Int)
      ·rw [if_pos c9] at H
       have c9b0 : decide (x22_1 < (l1.length : Int)) = true := decide_eq_true c9
       clear c9
       by_cases c10 : 0 ≤ x22_1
       ·rw [if_pos c10] at H
        have c10b0 : decide (0 ≤ x22_1) = true := decide_eq_true c10
        clear c10
        by_cases c11 : x22_1 < (l1.length : Int)
        ·rw [if_pos c11] at H
         have c11b0 : decide (x22_1 < (l1.length : Int)) = true := decide_eq_true c11
         clear c11
         by_cases c12 : x22_1 < (l0.length : Int)
         ·rw [if_pos c12] at H
          have c12b0 : decide (x22_1 < (l0.length : Int)) = true := decide_eq_true c12
          clear c12
          by_cases c13 : x5_1.length < 35184372088832
          ·rw [if_pos c13] at H
           have LMc13 := zQ.mk c13
           clear c13
           obtain ⟨y145, hy145⟩ : ∃ y_ : List Int, y_ = (x5_1 ++ [(IntKind.u64.wrap ((IntKind.u64.wrap (x6_1 + (IntKind.u64.wrap (rd l1 x22_1)))) + (IntKind.u64.wrap (rd l0 x22_1)))) % 4294967296]) := ⟨_, rfl⟩
           replace H : (jH.l0 k1 l0 y145 ((IntKind.u64.wrap ((IntKind.u64.wrap (x6_1 + (IntKind.u64.wrap (rd l1 x22_1)))) + (IntKind.u64.wrap (rd l0 x22_1)))) / 4294967296) l1 (l1.length : Int) (wrap64 (x22_1 + 1))) = some r := by first | (rw [hy145]; with_reducible exact H) | (have H2_ := (Option.bind_some _ _).symm.trans H; rw [hy145]; with_reducible exact H2_) | (have H2_ := (Option.bind_some _ _).symm.trans H; with_reducible exact H2_) | with_reducible exact H | (rw [hy145]; exact H) | exact H
           have Ny145 := zQ.mk hy145
           clear hy145
           have H' := zQ.mk H
           clear H
           have p143 : 0 ≤ (x22_1 : Int) := of_decide_eq_true (by assumption)
           have q143 : x22_1 < (l1.length : Int) := of_decide_eq_true (by assumption)
           obtain ⟨ad143, e143, hx143_0⟩ := Kd.jy HR1.out x22_1 p143 q143
           cases e143
           replace hx143_0 := hz HB hx143_0
           replace p143 := eq_true p143
           replace q143 := eq_true q143
           have p144 : 0 ≤ (x22_1 : Int) := of_decide_eq_true (by assumption)
           have q144 : x22_1 < (l0.length : Int) := of_decide_eq_true (by assumption)
           obtain ⟨ad144, e144, hx144_0⟩ := Kd.jy HR0.out x22_1 p144 q144
           cases e144
           replace hx144_0 := hz HB hx144_0
           replace p144 := eq_true p144
           replace q144 := eq_true q144
           go_wp2_with (first | ((with_reducible refine jR (b := .append) (xs := #[.tmp 42, .tmp 45]) rfl ?_); at_builtin; refine Kd.vJ (Kd.int .u32) (w0 := w) w.heap.size rfl (.tmp 42) (.tmp 45) 94 114 (.int .u32 0) 4 rfl Tryz.underlying94 uX rfl (by decide) (by omega) u5 x5_1 ((IntKind.u64.wrap ((IntKind.u64.wrap (x6_1 + (IntKind.u64.wrap (rd l1 x22_1)))) + (IntKind.u64.wrap (rd l0 x22_1)))) % 4294967296) [.int .u32 ((IntKind.u64.wrap ((IntKind.u64.wrap (x6_1 + (IntKind.u64.wrap (rd l1 x22_1)))) + (IntKind.u64.wrap (rd l0 x22_1)))) % 4294967296)] (fun _ => True) (fun _ => False) rfl rfl ?aP (fun _ hk => hk.elim) ?aF ?aO ?aB ?aS ?aL ?_; (case aP => exact rfl); (case aB => exact (zb w)); (case aF => exact (fun _ _ => trivial)); (case aO => exact (zo HO_5)); (case aS => exact (zy (zb w))); (case aL => have := LMc13.out; omega); intro v146 w14 ho hb hg hat; rw [← Ny145.out] at ho; replace HB := zQ.mk (hb); have HO147 := zQ.mk (ho); clear HO_5; clear ho hb hg hat))
           go_roundg k1
           case measure => have := HK1.out; omega
           case rel => exact ⟨(y145), ((IntKind.u64.wrap ((IntKind.u64.wrap (x6_1 + (IntKind.u64.wrap (rd l1 x22_1)))) + (IntKind.u64.wrap (rd l0 x22_1)))) / 4294967296), (wrap64 (x22_1 + 1)), ar, ar, H', ⟨by have := HK1.out; omega⟩, ⟨zo HO147⟩, ⟨(zb w)⟩⟩
          ·rw [if_neg c13] at H
           exact absurd H (by simp)
         ·rw [if_neg c12] at H
          have c12b0 : decide (x22_1 < (l0.length : Int)) = false := decide_eq_false c12
          clear c12
          by_cases c15 : x5_1.length < 35184372088832
          ·rw [if_pos c15] at H
           have LMc15 := zQ.mk c15
           clear c15
           obtain ⟨y148, hy148⟩ : ∃ y_ : List Int, y_ = (x5_1 ++ [(IntKind.u64.wrap (x6_1 + (IntKind.u64.wrap (rd l1 x22_1)))) % 4294967296]) := ⟨_, rfl⟩
           replace H : (jH.l0 k1 l0 y148 ((IntKind.u64.wrap (x6_1 + (IntKind.u64.wrap (rd l1 x22_1)))) / 4294967296) l1 (l1.length : Int) (wrap64 (x22_1 + 1))) = some r := by first | (rw [hy148]; with_reducible exact H) | (have H2_ := (Option.bind_some _ _).symm.trans H; rw [hy148]; with_reducible exact H2_) | (have H2_ := (Option.bind_some _ _).symm.trans H; with_reducible exact H2_) | with_reducible exact H | (rw [hy148]; exact H) | exact H
           have Ny148 := zQ.mk hy148
           clear hy148
           have H' := zQ.mk H
           clear H
           have p143 : 0 ≤ (x22_1 : Int) := of_decide_eq_true (by assumption)
           have q143 : x22_1 < (l1.length : Int) := of_decide_eq_true (by assumption)
           obtain ⟨ad143, e143, hx143_0⟩ := Kd.jy HR1.out x22_1 p143 q143
           cases e143
           replace hx143_0 := hz HB hx143_0
           replace p143 := eq_true p143
           replace q143 := eq_true q143
           go_wp2_with (first | ((with_reducible refine jR (b := .append) (xs := #[.tmp 42, .tmp 45]) rfl ?_); at_builtin; refine Kd.vJ (Kd.int .u32) (w0 := w) w.heap.size rfl (.tmp 42) (.tmp 45) 94 114 (.int .u32 0) 4 rfl Tryz.underlying94 uX rfl (by decide) (by omega) u5 x5_1 ((IntKind.u64.wrap (x6_1 + (IntKind.u64.wrap (rd l1 x22_1)))) % 4294967296) [.int .u32 ((IntKind.u64.wrap (x6_1 + (IntKind.u64.wrap (rd l1 x22_1)))) % 4294967296)] (fun _ => True) (fun _ => False) rfl rfl ?aP (fun _ hk => hk.elim) ?aF ?aO ?aB ?aS ?aL ?_; (case aP => exact rfl); (case aB => exact (zb w)); (case aF => exact (fun _ _ => trivial)); (case aO => exact (zo HO_5)); (case aS => exact (zy (zb w))); (case aL => have := LMc15.out; omega); intro v149 w16 ho hb hg hat; rw [← Ny148.out] at ho; replace HB := zQ.mk (hb); have HO150 := zQ.mk (ho); clear HO_5; clear ho hb hg hat))
           go_roundg k1
           case measure => have := HK1.out; omega
           case rel => exact ⟨(y148), ((IntKind.u64.wrap (x6_1 + (IntKind.u64.wrap (rd l1 x22_1)))) / 4294967296), (wrap64 (x22_1 + 1)), ar, ar, H', ⟨by have := HK1.out; omega⟩, ⟨zo HO150⟩, ⟨(zb w)⟩⟩
          ·rw [if_neg c15] at H
           exact absurd H (by simp)
        ·rw [if_neg c11] at H
         exact absurd H (by simp)
       ·rw [if_neg c10] at H
        exact absurd H (by simp)
      ·rw [if_neg c9] at H
       have c9b0 : decide (x22_1 < (l1.length : Int)) = false := decide_eq_false c9
       clear c9
       by_cases c17 : x5_1.length < 35184372088832
       ·rw [if_pos c17] at H
        have LMc17 := zQ.mk c17
        clear c17
        obtain ⟨y151, hy151⟩ : ∃ y_ : List Int, y_ = (x5_1 ++ [(x6_1) % 4294967296]) := ⟨_, rfl⟩
        replace H : (some y151) = some r := by first | (rw [hy151]; with_reducible exact H) | (have H2_ := (Option.bind_some _ _).symm.trans H; rw [hy151]; with_reducible exact H2_) | (have H2_ := (Option.bind_some _ _).symm.trans H; with_reducible exact H2_) | with_reducible exact H | (rw [hy151]; exact H) | exact H
        have Ny151 := zQ.mk hy151
        clear hy151
        obtain rfl := Option.some.inj H
        go_wp2_with (first | ((with_reducible refine jR (b := .append) (xs := #[.tmp 50, .tmp 53]) rfl ?_); at_builtin; refine Kd.vJ (Kd.int .u32) (w0 := w) w.heap.size rfl (.tmp 50) (.tmp 53) 94 114 (.int .u32 0) 4 rfl Tryz.underlying94 uX rfl (by decide) (by omega) u5 x5_1 ((x6_1) % 4294967296) [.int .u32 ((x6_1) % 4294967296)] (fun _ => True) (fun _ => False) rfl rfl ?aP (fun _ hk => hk.elim) ?aF ?aO ?aB ?aS ?aL ?_; (case aP => exact rfl); (case aB => exact (zb w)); (case aF => exact (fun _ _ => trivial)); (case aO => exact (zo HO_5)); (case aS => exact (zy (zb w))); (case aL => have := LMc17.out; omega); intro v152 w18 ho hb hg hat; rw [← Ny151.out] at ho; replace HB := zQ.mk (hb); have HO153 := zQ.mk (ho); clear HO_5; clear ho hb hg hat))
        go_ret
        exact ⟨_, by first | rfl | (simp [zq, zY] <;> rfl) | (simp only [← hji4]; first | rfl | (simp [zq, zY] <;> rfl)) | (simp [*, zq, zY] <;> rfl), by (with_reducible repeat (first | apply Kd.xU | apply Kd.xS | apply Kd.xw)); exact HO153.out, (zb w)⟩
       ·rw [if_neg c17] at H
        exact absurd H (by simp)
   ·rw [if_neg c6] at H
    exact absurd H (by simp)
  ·rw [if_neg c5] at H
   exact absurd H (by simp)
 ·rw [if_neg c3] at H
  exact absurd H (by simp)
def yS.f (k : Nat) (l0 : List Int) (l1 : List Int) : Option (List Int) := if (l0.length : Int) < (l1.length : Int) then jH.f k l0 l1 else jY.f k l0 l1
theorem yS.calls (k : Nat) (A0 : Option Addr) (c0 : Nat) (l0 : List Int) (A1 : Option Addr) (c1 : Nat) (l1 : List Int) (r : List Int) (w : World) (hr0 : Kd.C (Kd.int .u32) w A0 l0.length l0) (hc0 : l0.length ≤ c0) (hr1 : Kd.C (Kd.int .u32) w A1 l1.length l1) (hc1 : l1.length ≤ c1) (h : yS.f k l0 l1 = some r) :
  Calls Tryz.prog 92 #[.slice A0 l0.length c0, .slice A1 l1.length c1] w fun e w' => ∃ v0_ : Value, e = .returned (v0_) ∧ Kd.R (Kd.int .u32) 114 w' w.heap.size (fun _ => True) v0_ r ∧ Below w.heap.size w w' := by
 unfold yS.f at h
 split at h
 ·exact jH.calls k A0 c0 l0 A1 c1 l1 r w hr0 hc0 hr1 hc1 h
 ·exact jY.calls k A0 c0 l0 A1 c1 l1 r w hr0 hc0 hr1 hc1 h
def qN.l0 : Nat → List Int → List Int → Int → Option (Int)
 | 0, _, _, _ => none
 | k + 1, x0, x1, x5 => if x5 ≥ 0 then (if 0 ≤ x5 then (if x5 < (x0.length : Int) then (if x5 < (x1.length : Int) then (if (rd x0 x5) = (rd x1 x5) then (qN.l0 k x0 x1 (wrap64 (x5 - 1))) else (if (rd x0 x5) < (rd x1 x5) then (some (-1)) else (some 1))) else (none)) else (none)) else (none)) else (some 0)
def qN.f (k : Nat) (l0 : List Int) (l1 : List Int) : Option (Int) := if (l0.length : Int) = (l1.length : Int) then (qN.l0 k l0 l1 (wrap64 ((l0.length : Int) - 1))) else (some (wrap64 ((l0.length : Int) - (l1.length : Int))))
theorem qN.calls (k : Nat) (A0 : Option Addr) (c0 : Nat) (l0 : List Int) (A1 : Option Addr) (c1 : Nat) (l1 : List Int) (r : Int) (w : World) (hr0 : Kd.C (Kd.int .u32) w A0 l0.length l0) (hc0 : l0.length ≤ c0) (hr1 : Kd.C (Kd.int .u32) w A1 l1.length l1) (hc1 : l1.length ≤ c1) (h : qN.f k l0 l1 = some r) :
  Calls Tryz.prog 94 #[.slice A0 l0.length c0, .slice A1 l1.length c1] w fun e w' => e = .returned (.int .i64 r) ∧ Below w.heap.size w w' := by
 have HR0 := zQ.mk hr0
 have HC0 := zQ.mk hc0
 clear hr0 hc0
 have HR1 := zQ.mk hr1
 have HC1 := zQ.mk hc1
 clear hr1 hc1
 have HB := zQ.mk (Below.refl w.heap.size w)
 have H := h
 unfold qN.f at H
 clear h
 by_cases c3 : (l0.length : Int) = (l1.length : Int)
 ·rw [if_pos c3] at H
  have c3b0 : ((l0.length : Int) == (l1.length : Int)) = true := beq_iff_eq.mpr c3
  have c3b1 : ((l0.length : Int) != (l1.length : Int)) = false := bne_eq_false_iff_eq.mpr c3
  have c3b2 : (l0.length == l1.length) = true := by first | simpa using c3 | (simp at c3 ⊢; omega)
  clear c3
  have H' := zQ.mk H
  clear H
  go_enter Tryz.func94, Tryz.ntmps94
  go_wp2
  repeat (go_quiet (fail); try go_wp2)
  try simp only [sq]
  go_loopg [5] k (fun kq v5 w' => ∃ (x5_1 : Int), v5 = .int .i64 x5_1 ∧ zQ (qN.l0 kq l0 l1 x5_1 = some r) ∧ zQ (kq ≤ k) ∧ zQ (Below w.heap.size w w'))
  case atStart => exact ⟨(wrap64 ((l0.length : Int) - 1)), ar, H', ⟨Nat.le_refl _⟩, ⟨(zb w)⟩⟩
  case round =>
   clear H'
   try clear c1
   try clear p2
   try clear c3
   try clear c3b0
   try clear c3b1
   try clear c3b2
   obtain ⟨x5_1, rfl, HA, HK1, HB⟩ := hrel
   cases gk with
   | zero => exact absurd HA.out (by simp [qN.l0])
   | succ k1 =>
    have H := HA.out
    clear HA
    simp only [qN.l0] at H
    by_cases c4 : x5_1 ≥ 0
    ·rw [if_pos c4] at H
     have c4b0 : decide (0 ≤ x5_1) = true := decide_eq_true c4
     clear c4
     by_cases c5 : 0 ≤ x5_1
     ·rw [if_pos c5] at H
      have c5b0 : decide (0 ≤ x5_1) = true := decide_eq_true c5
      clear c5
      by_cases c6 : x5_1 < (l0.length : Int)
      ·rw [if_pos c6] at H
       have c6b0 : decide (x5_1 < (l0.length : Int)) = true := decide_eq_true c6
       clear c6
       by_cases c7 : x5_1 < (l1.length : Int)
       ·rw [if_pos c7] at H
        have c7b0 : decide (x5_1 < (l1.length : Int)) = true := decide_eq_true c7
        clear c7
        by_cases c8 : (rd l0 x5_1) = (rd l1 x5_1)
        ·rw [if_pos c8] at H
         have c8b0 : ((rd l0 x5_1) == (rd l1 x5_1)) = true := beq_iff_eq.mpr c8
         have c8b1 : ((rd l0 x5_1) != (rd l1 x5_1)) = false := bne_eq_false_iff_eq.mpr c8
         clear c8
         have H' := zQ.mk H
         clear H
         have p154 : 0 ≤ (x5_1 : Int) := of_decide_eq_true (by assumption)
         have q154 : x5_1 < (l0.length : Int) := of_decide_eq_true (by assumption)
         obtain ⟨ad154, e154, hx154_0⟩ := Kd.jy HR0.out x5_1 p154 q154
         cases e154
         replace hx154_0 := hz HB hx154_0
         replace p154 := eq_true p154
         replace q154 := eq_true q154
         have p155 : 0 ≤ (x5_1 : Int) := of_decide_eq_true (by assumption)
         have q155 : x5_1 < (l1.length : Int) := of_decide_eq_true (by assumption)
         obtain ⟨ad155, e155, hx155_0⟩ := Kd.jy HR1.out x5_1 p155 q155
         cases e155
         replace hx155_0 := hz HB hx155_0
         replace p155 := eq_true p155
         replace q155 := eq_true q155
         go_wp2
         repeat (go_quiet (fail); try go_wp2)
         go_roundg k1
         case measure => have := HK1.out; omega
         case rel => exact ⟨(wrap64 (x5_1 - 1)), ar, H', ⟨by have := HK1.out; omega⟩, ⟨(zb w)⟩⟩
        ·rw [if_neg c8] at H
         have c8b0 : ((rd l0 x5_1) == (rd l1 x5_1)) = false := beq_eq_false_iff_ne.mpr c8
         have c8b1 : ((rd l0 x5_1) != (rd l1 x5_1)) = true := bne_iff_ne.mpr c8
         by_cases c9 : (rd l0 x5_1) < (rd l1 x5_1)
         ·rw [if_pos c9] at H
          have c9b0 : decide ((rd l0 x5_1) < (rd l1 x5_1)) = true := decide_eq_true c9
          clear c9
          obtain rfl := Option.some.inj H
          have p154 : 0 ≤ (x5_1 : Int) := of_decide_eq_true (by assumption)
          have q154 : x5_1 < (l0.length : Int) := of_decide_eq_true (by assumption)
          obtain ⟨ad154, e154, hx154_0⟩ := Kd.jy HR0.out x5_1 p154 q154
          cases e154
          replace hx154_0 := hz HB hx154_0
          replace p154 := eq_true p154
          replace q154 := eq_true q154
          have p155 : 0 ≤ (x5_1 : Int) := of_decide_eq_true (by assumption)
          have q155 : x5_1 < (l1.length : Int) := of_decide_eq_true (by assumption)
          obtain ⟨ad155, e155, hx155_0⟩ := Kd.jy HR1.out x5_1 p155 q155
          cases e155
          replace hx155_0 := hz HB hx155_0
          replace p155 := eq_true p155
          replace q155 := eq_true q155
          have p156 : 0 ≤ (x5_1 : Int) := of_decide_eq_true (by assumption)
          have q156 : x5_1 < (l0.length : Int) := of_decide_eq_true (by assumption)
          obtain ⟨ad156, e156, hx156_0⟩ := Kd.jy HR0.out x5_1 p156 q156
          obtain rfl : ad154 = ad156 := (by injection e156)
          replace hx156_0 := hz HB hx156_0
          replace p156 := eq_true p156
          replace q156 := eq_true q156
          have p157 : 0 ≤ (x5_1 : Int) := of_decide_eq_true (by assumption)
          have q157 : x5_1 < (l1.length : Int) := of_decide_eq_true (by assumption)
          obtain ⟨ad157, e157, hx157_0⟩ := Kd.jy HR1.out x5_1 p157 q157
          obtain rfl : ad155 = ad157 := (by injection e157)
          replace hx157_0 := hz HB hx157_0
          replace p157 := eq_true p157
          replace q157 := eq_true q157
          go_wp2
          repeat (go_quiet (fail); try go_wp2)
          go_ret
          exact ⟨by first | rfl | (simp [zq, zY] <;> rfl) | (simp [*, zq, zY] <;> rfl), (zb w)⟩
         ·rw [if_neg c9] at H
          have c9b0 : decide ((rd l0 x5_1) < (rd l1 x5_1)) = false := decide_eq_false c9
          clear c9
          obtain rfl := Option.some.inj H
          have p154 : 0 ≤ (x5_1 : Int) := of_decide_eq_true (by assumption)
          have q154 : x5_1 < (l0.length : Int) := of_decide_eq_true (by assumption)
          obtain ⟨ad154, e154, hx154_0⟩ := Kd.jy HR0.out x5_1 p154 q154
          cases e154
          replace hx154_0 := hz HB hx154_0
          replace p154 := eq_true p154
          replace q154 := eq_true q154
          have p155 : 0 ≤ (x5_1 : Int) := of_decide_eq_true (by assumption)
          have q155 : x5_1 < (l1.length : Int) := of_decide_eq_true (by assumption)
          obtain ⟨ad155, e155, hx155_0⟩ := Kd.jy HR1.out x5_1 p155 q155
          cases e155
          replace hx155_0 := hz HB hx155_0
          replace p155 := eq_true p155
          replace q155 := eq_true q155
          have p156 : 0 ≤ (x5_1 : Int) := of_decide_eq_true (by assumption)
          have q156 : x5_1 < (l0.length : Int) := of_decide_eq_true (by assumption)
          obtain ⟨ad156, e156, hx156_0⟩ := Kd.jy HR0.out x5_1 p156 q156
          obtain rfl : ad154 = ad156 := (by injection e156)
          replace hx156_0 := hz HB hx156_0
          replace p156 := eq_true p156
          replace q156 := eq_true q156
          have p157 : 0 ≤ (x5_1 : Int) := of_decide_eq_true (by assumption)
          have q157 : x5_1 < (l1.length : Int) := of_decide_eq_true (by assumption)
          obtain ⟨ad157, e157, hx157_0⟩ := Kd.jy HR1.out x5_1 p157 q157
          obtain rfl : ad155 = ad157 := (by injection e157)
          replace hx157_0 := hz HB hx157_0
          replace p157 := eq_true p157
          replace q157 := eq_true q157
          go_wp2
          repeat (go_quiet (fail); try go_wp2)
          go_ret
          exact ⟨by first | rfl | (simp [zq, zY] <;> rfl) | (simp [*, zq, zY] <;> rfl), (zb w)⟩
       ·rw [if_neg c7] at H
        exact absurd H (by simp)
      ·rw [if_neg c6] at H
       exact absurd H (by simp)
     ·rw [if_neg c5] at H
      exact absurd H (by simp)
    ·rw [if_neg c4] at H
     have c4b0 : decide (0 ≤ x5_1) = false := decide_eq_false c4
     clear c4
     obtain rfl := Option.some.inj H
     go_wp2
     repeat (go_quiet (fail); try go_wp2)
     go_ret
     exact ⟨by first | rfl | (simp [zq, zY] <;> rfl) | (simp [*, zq, zY] <;> rfl), (zb w)⟩
 ·rw [if_neg c3] at H
  have c3b0 : ((l0.length : Int) == (l1.length : Int)) = false := beq_eq_false_iff_ne.mpr c3
  have c3b1 : ((l0.length : Int) != (l1.length : Int)) = true := bne_iff_ne.mpr c3
  have c3b2 : (l0.length == l1.length) = false := by first | simpa using c3 | (simp at c3 ⊢; omega)
  obtain rfl := Option.some.inj H
  go_enter Tryz.func94, Tryz.ntmps94
  go_wp2
  repeat (go_quiet (fail); try go_wp2)
  go_ret
  exact ⟨by first | rfl | (simp [zq, zY] <;> rfl) | (simp [*, zq, zY] <;> rfl), (zb w)⟩
def jE.l0 : Nat → List Int → List Int → Int → List Int → Int → Int → Option (List Int)
 | 0, _, _, _, _, _, _ => none
 | k + 1, x1, x5, x6, x13, x14, x15 => if x15 < x14 then (if 0 ≤ x15 then (if x15 < (x13.length : Int) then (if x15 < (x1.length : Int) then (if x5.length < 35184372088832 then (jE.l0 k x1 (x5 ++ [(IntKind.u64.wrap ((IntKind.u64.wrap ((IntKind.u64.wrap (rd x13 x15)) - x6)) - (IntKind.u64.wrap (rd x1 x15)))) % 4294967296]) (Go.bits .and .u64 ((IntKind.u64.wrap ((IntKind.u64.wrap ((IntKind.u64.wrap (rd x13 x15)) - x6)) - (IntKind.u64.wrap (rd x1 x15)))) / 4294967296) 1) x13 x14 (wrap64 (x15 + 1))) else (none)) else (if x5.length < 35184372088832 then (jE.l0 k x1 (x5 ++ [(IntKind.u64.wrap ((IntKind.u64.wrap (rd x13 x15)) - x6)) % 4294967296]) (Go.bits .and .u64 ((IntKind.u64.wrap ((IntKind.u64.wrap (rd x13 x15)) - x6)) / 4294967296) 1) x13 x14 (wrap64 (x15 + 1))) else (none))) else (none)) else (none)) else ((qQ.f k x5).bind fun t169 => (some t169))
def jE.f (k : Nat) (l0 : List Int) (l1 : List Int) : Option (List Int) := if 0 ≤ (l0.length : Int) then (if ((l0.length : Int) : Int).toNat ≤ 70368744177664 then (jE.l0 k l1 (([] : List Int)) 0 l0 (l0.length : Int) 0) else (none)) else (none)
theorem jE.calls (k : Nat) (A0 : Option Addr) (c0 : Nat) (l0 : List Int) (A1 : Option Addr) (c1 : Nat) (l1 : List Int) (r : List Int) (w : World) (hr0 : Kd.C (Kd.int .u32) w A0 l0.length l0) (hc0 : l0.length ≤ c0) (hr1 : Kd.C (Kd.int .u32) w A1 l1.length l1) (hc1 : l1.length ≤ c1) (h : jE.f k l0 l1 = some r) :
  Calls Tryz.prog 95 #[.slice A0 l0.length c0, .slice A1 l1.length c1] w fun e w' => ∃ v0_ : Value, e = .returned (v0_) ∧ Kd.V (Kd.int .u32) 114 w' w.heap.size (fun k_ => (w.heap.size ≤ k_)) v0_ r ∧ Below w.heap.size w w' := by
 have HR0 := zQ.mk hr0
 have HC0 := zQ.mk hc0
 clear hr0 hc0
 have HR1 := zQ.mk hr1
 have HC1 := zQ.mk hc1
 clear hr1 hc1
 have HB := zQ.mk (Below.refl w.heap.size w)
 have H := h
 unfold jE.f at H
 clear h
 by_cases c3 : 0 ≤ (l0.length : Int)
 ·rw [if_pos c3] at H
  have c3b0 := eq_true c3
  have c3b1 : decide (0 ≤ (l0.length : Int)) = true := decide_eq_true c3
  clear c3
  by_cases c4 : ((l0.length : Int) : Int).toNat ≤ 70368744177664
  ·rw [if_pos c4] at H
   have c4b0 := eq_true c4
   have c4b1 : decide (((l0.length : Int) : Int).toNat ≤ 70368744177664) = true := decide_eq_true c4
   clear c4
   obtain ⟨y158, hy158⟩ : ∃ y_ : List Int, y_ = (([] : List Int)) := ⟨_, rfl⟩
   replace H : (jE.l0 k l1 y158 0 l0 (l0.length : Int) 0) = some r := by first | (rw [hy158]; with_reducible exact H) | (have H2_ := (Option.bind_some _ _).symm.trans H; rw [hy158]; with_reducible exact H2_) | (have H2_ := (Option.bind_some _ _).symm.trans H; with_reducible exact H2_) | with_reducible exact H | (rw [hy158]; exact H) | exact H
   have Ny158 := zQ.mk hy158
   clear hy158
   have H' := zQ.mk H
   clear H
   go_enter Tryz.func95, Tryz.ntmps95
   go_wp2_with (first | ((with_reducible refine gD 12 rfl ?_); refine Kd.zXk (Kd.int .u32) _ 114 rfl (N := 12) rfl 94 _ _ rfl (l0.length : Int) rfl rfl Tryz.underlying94 (.int .u32 0) 4 uX rfl (by decide) (by omega) 0 (ok := fun _ => True) (okp := fun _ => True) rfl (fun _ hk => hk) trivial (of_decide_eq_true (by assumption)) (Nat.le_trans (Nat.mul_le_mul_right _ (of_decide_eq_true (by assumption) : (l0.length : Int).toNat ≤ 70368744177664)) (by omega)) (Below.refl _ _) (Nat.le_refl _) ?_; intro v159 w5 ho6 hb hg_ hnew_; clear hg_ hnew_; (first | rw [← Ny158.out] at ho6 | (simp only [Int.reduceToNat] at ho6; rw [← Ny158.out] at ho6)); have HO160 := zQ.mk (Kd.vC (Kd.zQw (M := fun k_ => (w.heap.size ≤ k_)) ho6 (zy (zb w)) (fun k_ h_ => h_)) (zy (zb w))); replace HB := hs w hb; clear hb ho6))
   try simp only [sq]
   go_loopg [5, 6, 15] k (fun kq v5 v6 v15 w' => ∃ (x5_1 : List Int) (x6_1 : Int) (x15_1 : Int), v6 = .int .u64 x6_1 ∧ v15 = .int .i64 x15_1 ∧ zQ (jE.l0 kq l1 x5_1 x6_1 l0 (l0.length : Int) x15_1 = some r) ∧ zQ (kq ≤ k) ∧ zQ (Kd.R (Kd.int .u32) 114 w' w.heap.size (fun k_ => (w.heap.size ≤ k_)) v5 x5_1) ∧ zQ (Below w.heap.size w w'))
   case atStart => exact ⟨(y158), (0), (0), ar, ar, H', ⟨Nat.le_refl _⟩, ⟨by (with_reducible repeat (first | apply Kd.xU | apply Kd.xS | apply Kd.xw)); exact Kd.vw HO160.out (fun _ hk => hk.1)⟩, ⟨(zb w)⟩⟩
   case round =>
    clear H'
    try clear c1
    try clear p2
    try clear c3
    try clear c3b0
    try clear c3b1
    try clear c4
    try clear c4b0
    try clear c4b1
    obtain ⟨x5_1, x6_1, x15_1, rfl, rfl, HA, HK1, HO_5, HB⟩ := hrel
    cases gk with
    | zero => exact absurd HA.out (by simp [jE.l0])
    | succ k1 =>
     have H := HA.out
     clear HA
     simp only [jE.l0] at H
     by_cases c7 : x15_1 < (l0.length : Int)
     ·rw [if_pos c7] at H
      have c7b0 : decide (x15_1 < (l0.length : Int)) = true := decide_eq_true c7
      clear c7
      by_cases c8 : 0 ≤ x15_1
      ·rw [if_pos c8] at H
       have c8b0 : decide (0 ≤ x15_1) = true := decide_eq_true c8
       clear c8
       by_cases c9 : x15_1 < (l0.length : Int)
       ·rw [if_pos c9] at H
        have c9b0 : decide (x15_1 < (l0.length : Int)) = true := decide_eq_true c9
        clear c9
        by_cases c10 : x15_1 < (l1.length : Int)
        ·rw [if_pos c10] at H
         have c10b0 : decide (x15_1 < (l1.length : Int)) = true := decide_eq_true c10
         clear c10
         by_cases c11 : x5_1.length < 35184372088832
         ·rw [if_pos c11] at H
          have LMc11 := zQ.mk c11
          clear c11
          obtain ⟨y163, hy163⟩ : ∃ y_ : List Int, y_ = (x5_1 ++ [(IntKind.u64.wrap ((IntKind.u64.wrap ((IntKind.u64.wrap (rd l0 x15_1)) - x6_1)) - (IntKind.u64.wrap (rd l1 x15_1)))) % 4294967296]) := ⟨_, rfl⟩
          replace H : (jE.l0 k1 l1 y163 (Go.bits .and .u64 ((IntKind.u64.wrap ((IntKind.u64.wrap ((IntKind.u64.wrap (rd l0 x15_1)) - x6_1)) - (IntKind.u64.wrap (rd l1 x15_1)))) / 4294967296) 1) l0 (l0.length : Int) (wrap64 (x15_1 + 1))) = some r := by first | (rw [hy163]; with_reducible exact H) | (have H2_ := (Option.bind_some _ _).symm.trans H; rw [hy163]; with_reducible exact H2_) | (have H2_ := (Option.bind_some _ _).symm.trans H; with_reducible exact H2_) | with_reducible exact H | (rw [hy163]; exact H) | exact H
          have Ny163 := zQ.mk hy163
          clear hy163
          have H' := zQ.mk H
          clear H
          have p161 : 0 ≤ (x15_1 : Int) := of_decide_eq_true (by assumption)
          have q161 : x15_1 < (l0.length : Int) := of_decide_eq_true (by assumption)
          obtain ⟨ad161, e161, hx161_0⟩ := Kd.jy HR0.out x15_1 p161 q161
          cases e161
          replace hx161_0 := hz HB hx161_0
          replace p161 := eq_true p161
          replace q161 := eq_true q161
          have p162 : 0 ≤ (x15_1 : Int) := of_decide_eq_true (by assumption)
          have q162 : x15_1 < (l1.length : Int) := of_decide_eq_true (by assumption)
          obtain ⟨ad162, e162, hx162_0⟩ := Kd.jy HR1.out x15_1 p162 q162
          cases e162
          replace hx162_0 := hz HB hx162_0
          replace p162 := eq_true p162
          replace q162 := eq_true q162
          go_wp2_with (first | ((with_reducible refine jR (b := .append) (xs := #[.tmp 35, .tmp 38]) rfl ?_); at_builtin; refine Kd.vJ (Kd.int .u32) (w0 := w) w.heap.size rfl (.tmp 35) (.tmp 38) 94 114 (.int .u32 0) 4 rfl Tryz.underlying94 uX rfl (by decide) (by omega) u5 x5_1 ((IntKind.u64.wrap ((IntKind.u64.wrap ((IntKind.u64.wrap (rd l0 x15_1)) - x6_1)) - (IntKind.u64.wrap (rd l1 x15_1)))) % 4294967296) [.int .u32 ((IntKind.u64.wrap ((IntKind.u64.wrap ((IntKind.u64.wrap (rd l0 x15_1)) - x6_1)) - (IntKind.u64.wrap (rd l1 x15_1)))) % 4294967296)] (fun k_ => (w.heap.size ≤ k_)) (fun _ => False) rfl rfl ?aP (fun _ hk => hk.elim) ?aF ?aO ?aB ?aS ?aL ?_; (case aP => exact rfl); (case aB => exact (zb w)); (case aF => exact (fun k_ hk => (Nat.le_trans (zy (zb w)) hk))); (case aO => exact (zo HO_5)); (case aS => exact (zy (zb w))); (case aL => have := LMc11.out; omega); intro v164 w12 ho hb hg hat; rw [← Ny163.out] at ho; replace HB := zQ.mk (hb); have HO165 := zQ.mk (ho); clear HO_5; clear ho hb hg hat))
          go_roundg k1
          case measure => have := HK1.out; omega
          case rel => exact ⟨(y163), (Go.bits .and .u64 ((IntKind.u64.wrap ((IntKind.u64.wrap ((IntKind.u64.wrap (rd l0 x15_1)) - x6_1)) - (IntKind.u64.wrap (rd l1 x15_1)))) / 4294967296) 1), (wrap64 (x15_1 + 1)), ar, ar, H', ⟨by have := HK1.out; omega⟩, ⟨zo HO165⟩, ⟨(zb w)⟩⟩
         ·rw [if_neg c11] at H
          exact absurd H (by simp)
        ·rw [if_neg c10] at H
         have c10b0 : decide (x15_1 < (l1.length : Int)) = false := decide_eq_false c10
         clear c10
         by_cases c13 : x5_1.length < 35184372088832
         ·rw [if_pos c13] at H
          have LMc13 := zQ.mk c13
          clear c13
          obtain ⟨y166, hy166⟩ : ∃ y_ : List Int, y_ = (x5_1 ++ [(IntKind.u64.wrap ((IntKind.u64.wrap (rd l0 x15_1)) - x6_1)) % 4294967296]) := ⟨_, rfl⟩
          replace H : (jE.l0 k1 l1 y166 (Go.bits .and .u64 ((IntKind.u64.wrap ((IntKind.u64.wrap (rd l0 x15_1)) - x6_1)) / 4294967296) 1) l0 (l0.length : Int) (wrap64 (x15_1 + 1))) = some r := by first | (rw [hy166]; with_reducible exact H) | (have H2_ := (Option.bind_some _ _).symm.trans H; rw [hy166]; with_reducible exact H2_) | (have H2_ := (Option.bind_some _ _).symm.trans H; with_reducible exact H2_) | with_reducible exact H | (rw [hy166]; exact H) | exact H
          have Ny166 := zQ.mk hy166
          clear hy166
          have H' := zQ.mk H
          clear H
          have p161 : 0 ≤ (x15_1 : Int) := of_decide_eq_true (by assumption)
          have q161 : x15_1 < (l0.length : Int) := of_decide_eq_true (by assumption)
          obtain ⟨ad161, e161, hx161_0⟩ := Kd.jy HR0.out x15_1 p161 q161
          cases e161
          replace hx161_0 := hz HB hx161_0
          replace p161 := eq_true p161
          replace q161 := eq_true q161
          go_wp2_with (first | ((with_reducible refine jR (b := .append) (xs := #[.tmp 35, .tmp 38]) rfl ?_); at_builtin; refine Kd.vJ (Kd.int .u32) (w0 := w) w.heap.size rfl (.tmp 35) (.tmp 38) 94 114 (.int .u32 0) 4 rfl Tryz.underlying94 uX rfl (by decide) (by omega) u5 x5_1 ((IntKind.u64.wrap ((IntKind.u64.wrap (rd l0 x15_1)) - x6_1)) % 4294967296) [.int .u32 ((IntKind.u64.wrap ((IntKind.u64.wrap (rd l0 x15_1)) - x6_1)) % 4294967296)] (fun k_ => (w.heap.size ≤ k_)) (fun _ => False) rfl rfl ?aP (fun _ hk => hk.elim) ?aF ?aO ?aB ?aS ?aL ?_; (case aP => exact rfl); (case aB => exact (zb w)); (case aF => exact (fun k_ hk => (Nat.le_trans (zy (zb w)) hk))); (case aO => exact (zo HO_5)); (case aS => exact (zy (zb w))); (case aL => have := LMc13.out; omega); intro v167 w14 ho hb hg hat; rw [← Ny166.out] at ho; replace HB := zQ.mk (hb); have HO168 := zQ.mk (ho); clear HO_5; clear ho hb hg hat))
          go_roundg k1
          case measure => have := HK1.out; omega
          case rel => exact ⟨(y166), (Go.bits .and .u64 ((IntKind.u64.wrap ((IntKind.u64.wrap (rd l0 x15_1)) - x6_1)) / 4294967296) 1), (wrap64 (x15_1 + 1)), ar, ar, H', ⟨by have := HK1.out; omega⟩, ⟨zo HO168⟩, ⟨(zb w)⟩⟩
         ·rw [if_neg c13] at H
          exact absurd H (by simp)
       ·rw [if_neg c9] at H
        exact absurd H (by simp)
      ·rw [if_neg c8] at H
       exact absurd H (by simp)
     ·rw [if_neg c7] at H
      have c7b0 : decide (x15_1 < (l0.length : Int)) = false := decide_eq_false c7
      clear c7
      replace H := Option.bind_eq_some_iff.mp H
      obtain ⟨t169, A150, H⟩ := H
      try dsimp only at H
      have A15 := zQ.mk A150
      clear A150
      obtain rfl := Option.some.inj H
      obtain ⟨Ao16, co16, eo16⟩ := Kd.xx HO_5.out
      subst eo16
      go_wp2_with (first | ((with_reducible refine gC 93 rfl ?_); refine gl_ 45 Tryz.func93 #[.slice Ao16 x5_1.length co16] ?_; (with_reducible refine (qQ.calls k1 (fun k_ => some k_ = (.slice Ao16 x5_1.length co16 : Value).ownBlock) _ _ x5_1 t169 _ ?side1 A15.out).mono ?_); (case side1 => exact Kd.R_V (Kd.uU rfl (HO_5.out))); rintro e w17 ⟨v170, rfl, ho0, hb⟩; refine ⟨_, rfl, ?_⟩; have HO171 := zQ.mk (Kd.xJ (Kd.zR (ok' := fun k_ => (w.heap.size ≤ k_)) ho0 (fun k_ hk_ => Or.elim hk_ (fun hs_ => ((HO_5.out).1 k_ hs_.symm)) (fun hn_ => (Nat.le_trans (zy (zb w)) hn_)))) (zy (zb w))); replace HO_5 := rb HO_5 hb; replace HB := hs w hb; (try clear hb); (try clear ho0)))
      go_ret
      exact ⟨_, by first | rfl | (simp [zq, zY] <;> rfl) | (simp [*, zq, zY] <;> rfl), by (with_reducible repeat (first | apply Kd.V_alloc | apply Kd.V_drewN | apply Kd.zT)); exact HO171.out, (zb w)⟩
  ·rw [if_neg c4] at H
   exact absurd H (by simp)
 ·rw [if_neg c3] at H
  exact absurd H (by simp)
def zU.l0 : Nat → List Int → List Int → Int → Bool → List Int → Bool → List Int → Option (Bool × List Int × Bool × List Int)
 | 0, _, _, _, _, _, _, _ => none
 | k + 1, x6, x7, x8, x173000, x173001, x174000, x174001 => if x8 ≥ 0 then ((yS.f k x7 x7).bind fun t187 => (if 0 < (t187.length : Int) then (if 0 ≤ (wrap64 (Int.tdiv x8 32)) then (if (wrap64 (Int.tdiv x8 32)) < (x173001.length : Int) then (if 0 ≤ (Int.tmod x8 32) then ((qQ.f k (t187.set (0 : Int).toNat (Go.bits .or .u32 (rd t187 0) (Go.bits .and .u32 (shr .u32 (rd x173001 (wrap64 (Int.tdiv x8 32))) (Int.tmod x8 32)) 1)))).bind fun t193 => ((qN.f k t193 x174001).bind fun t196 => (if t196 ≥ 0 then ((jE.f k t193 x174001).bind fun t197 => (if (wrap64 (Int.tdiv x8 32)) < (x6.length : Int) then (zU.l0 k (x6.set ((wrap64 (Int.tdiv x8 32)) : Int).toNat (Go.bits .or .u32 (rd x6 (wrap64 (Int.tdiv x8 32))) (shl .u32 1 (Int.tmod x8 32)))) t197 (wrap64 (x8 - 1)) x173000 x173001 x174000 x174001) else (none))) else (zU.l0 k x6 t193 (wrap64 (x8 - 1)) x173000 x173001 x174000 x174001)))) else (none)) else (none)) else (none)) else (none))) else ((jT.f k false x6).bind fun bt179 => ((jT.f k false x7).bind fun bt183 => (some (bt179.1, bt179.2, bt183.1, bt183.2))))
def zU.f (k : Nat) (a0_0 : Bool) (l0_1 : List Int) (a1_0 : Bool) (l1_1 : List Int) : Option (Bool × List Int × Bool × List Int) := if 0 ≤ (l0_1.length : Int) then (if ((l0_1.length : Int) : Int).toNat ≤ 70368744177664 then (zU.l0 k (List.replicate ((l0_1.length : Int) : Int).toNat 0) ([] : List Int) (wrap64 ((wrap64 ((l0_1.length : Int) * 32)) - 1)) a0_0 l0_1 a1_0 l1_1) else (none)) else (none)
def zU.T7 : Bool × List (List Nat × List Nat) := (true, [([], []), ([0], [0]), ([1], [1]), ([], []), ([3], [3]), ([], []), ([5], [5]), ([4, 6], [4, 6]), ([7], [7]), ([], []), ([9], [9]), ([8, 10], [8, 10]), ([11], [11]), ([2, 12], [2, 12]), ([0, 0, 1, 2, 3, 4, 5, 6, 7, 8, 9, 10, 11, 12, 13], [0]), ([14, 13, 0, 1, 2, 3, 4, 5, 6, 7, 8, 9, 10, 11, 12, 13], [13, 14])])
def zU.B7 : List Nat := [0, 1, 3, 0, 8, 0, 32, 120, 248, 0, 512, 2040, 4088, 8191, 16383, 32767]
theorem zU.tab7 : rtab .any (opsOf Tryz.f78 7) = zU.T7 := by kernel_rfl
theorem zU.bits7 : yB zU.T7.2 zU.B7 = true := by kernel_rfl
def zU.T11 : Bool × List (List Nat × List Nat) := (true, [([], []), ([], []), ([1], [1]), ([0, 2], [0, 2]), ([3], [3]), ([], []), ([5], [5]), ([6], [6]), ([4, 7], [4, 7]), ([0, 2, 0, 1, 2, 3, 4, 5, 6, 7, 8], [0, 2]), ([9, 8, 0, 1, 2, 3, 4, 5, 6, 7, 8], [8, 9])])
def zU.B11 : List Nat := [0, 0, 2, 7, 15, 0, 32, 96, 255, 511, 1023]
theorem zU.tab11 : rtab .any (opsOf Tryz.f78 11) = zU.T11 := by kernel_rfl
theorem zU.bits11 : yB zU.T11.2 zU.B11 = true := by kernel_rfl
theorem zU.calls (k : Nat) (a0_0 : Bool) (A0_1 : Option Addr) (c0_1 : Nat) (l0_1 : List Int) (a1_0 : Bool) (A1_1 : Option Addr) (c1_1 : Nat) (l1_1 : List Int) (r1 : Bool) (r2 : List Int) (r3 : Bool) (r4 : List Int) (w : World) (hr0_1 : Kd.C (Kd.int .u32) w A0_1 l0_1.length l0_1) (hc0_1 : l0_1.length ≤ c0_1) (hr1_1 : Kd.C (Kd.int .u32) w A1_1 l1_1.length l1_1) (hc1_1 : l1_1.length ≤ c1_1) (h : zU.f k a0_0 l0_1 a1_0 l1_1 = some (r1, r2, r3, r4)) :
  Calls Tryz.prog 78 #[.agg #[.bool a0_0, .slice A0_1 l0_1.length c0_1], .agg #[.bool a1_0, .slice A1_1 l1_1.length c1_1]] w fun e w' => ∃ v1_ v3_ : Value, e = .returned (.tuple #[.agg #[.bool r1, v1_], .agg #[.bool r3, v3_]]) ∧ Kd.V (Kd.int .u32) 114 w' w.heap.size (fun k_ => (w.heap.size ≤ k_)) v1_ r2 ∧ Kd.V (Kd.int .u32) 114 w' w.heap.size (fun k_ => (w.heap.size ≤ k_)) v3_ r4 ∧ Below w.heap.size w w' := by
 have hu96 := Tryz.underlying96
 have HR0_1 := zQ.mk hr0_1
 have HC0_1 := zQ.mk hc0_1
 clear hr0_1 hc0_1
 have HR1_1 := zQ.mk hr1_1
 have HC1_1 := zQ.mk hc1_1
 clear hr1_1 hc1_1
 have HB := zQ.mk (Below.refl w.heap.size w)
 have H := h
 unfold zU.f at H
 clear h
 by_cases c3 : 0 ≤ (l0_1.length : Int)
 ·rw [if_pos c3] at H
  have c3b0 := eq_true c3
  have c3b1 : decide (0 ≤ (l0_1.length : Int)) = true := decide_eq_true c3
  clear c3
  by_cases c4 : ((l0_1.length : Int) : Int).toNat ≤ 70368744177664
  ·rw [if_pos c4] at H
   have c4b0 := eq_true c4
   have c4b1 : decide (((l0_1.length : Int) : Int).toNat ≤ 70368744177664) = true := decide_eq_true c4
   clear c4
   obtain ⟨y176, hy176⟩ : ∃ y_ : List Int, y_ = (List.replicate ((l0_1.length : Int) : Int).toNat 0) := ⟨_, rfl⟩
   replace H : (zU.l0 k y176 ([] : List Int) (wrap64 ((wrap64 ((l0_1.length : Int) * 32)) - 1)) a0_0 l0_1 a1_0 l1_1) = some (r1, r2, r3, r4) := by first | (rw [hy176]; with_reducible exact H) | (have H2_ := (Option.bind_some _ _).symm.trans H; rw [hy176]; with_reducible exact H2_) | (have H2_ := (Option.bind_some _ _).symm.trans H; with_reducible exact H2_) | with_reducible exact H | (rw [hy176]; exact H) | exact H
   have Ny176 := zQ.mk hy176
   clear hy176
   have H' := zQ.mk H
   clear H
   go_enter Tryz.func78, Tryz.ntmps78
   go_wp2_with (first | ((with_reducible refine gD 2 rfl ?_); refine bx w 2 #[.bool a0_0, .slice A0_1 l0_1.length c0_1] 96 ?_; intro gb172 hg w5 hb BK172 GW172 GE172; clear HB; intro HB; clear hb hg) | ((with_reducible refine gD 3 rfl ?_); refine bx w 3 #[.bool a1_0, .slice A1_1 l1_1.length c1_1] 96 ?_; intro gb173 hg w6 hb BK173 GW173 GE173; clear HB; intro HB; have NB172_173 := nbl BK172 hg; have NB173_172 := nbr BK172 hg; replace BK172 := bb BK172 hb; clear hb hg) | ((with_reducible refine gD 4 rfl ?_); refine bx w 4 #[.bool false, .slice none 0 0] 96 ?_; intro gb174 hg w7 hb BK174 GW174 GE174; clear HB; intro HB; have NB172_174 := nbl BK172 hg; have NB174_172 := nbr BK172 hg; replace BK172 := bb BK172 hb; have NB173_174 := nbl BK173 hg; have NB174_173 := nbr BK173 hg; replace BK173 := bb BK173 hb; clear hb hg) | ((with_reducible refine gD 5 rfl ?_); refine bx w 5 #[.bool false, .slice none 0 0] 96 ?_; intro gb175 hg w8 hb BK175 GW175 GE175; clear HB; intro HB; have NB172_175 := nbl BK172 hg; have NB175_172 := nbr BK172 hg; replace BK172 := bb BK172 hb; have NB173_175 := nbl BK173 hg; have NB175_173 := nbr BK173 hg; replace BK173 := bb BK173 hb; have NB174_175 := nbl BK174 hg; have NB175_174 := nbr BK174 hg; replace BK174 := bb BK174 hb; clear hb hg; have hnb9 := NB172_173.out; have hnc9 := NB173_172.out; have hnb10 := NB172_174.out; have hnc10 := NB174_172.out; have hnb11 := NB172_175.out; have hnc11 := NB175_172.out; obtain ⟨hcz12_0, hcz12_1, hfz12_0, hfz12_1⟩ := cz2 BK172) | ((with_reducible refine gD 12 rfl ?_); refine Kd.qYf (Kd.int .u32) _ 114 rfl (N := 12) rfl 94 _ _ rfl (l0_1.length : Int) rfl rfl Tryz.underlying94 (.int .u32 0) 4 uX rfl (by decide) (by omega) 0 (ok := fun _ => True) (okp := fun _ => True) rfl (fun _ hk => hk) trivial (of_decide_eq_true (by assumption)) (Nat.le_trans (Nat.mul_le_mul_right _ (of_decide_eq_true (by assumption) : (l0_1.length : Int).toNat ≤ 70368744177664)) (by omega)) (Below.refl _ _) (Nat.le_refl _) ?_; intro v177 w13 ho14 hb hg_ hnew_; clear hg_ hnew_; (first | rw [← Ny176.out] at ho14 | (simp only [Int.reduceToNat] at ho14; rw [← Ny176.out] at ho14)); have HO178 := zQ.mk (Kd.vC (Kd.zQw (M := fun k_ => (w.heap.size ≤ k_)) ho14 (zy (zb w)) (fun k_ h_ => h_)) (zy (zb w))); replace BK172 := bb BK172 hb; replace BK173 := bb BK173 hb; replace BK174 := bb BK174 hb; replace BK175 := bb BK175 hb; replace HB := hs w hb; clear hb ho14; obtain ⟨hcz15_0, hcz15_1, hfz15_0, hfz15_1⟩ := cz2 BK172))
   try simp only [sq]
   go_loopg [7, 8] k (fun kq v7 v8 w' => ∃ (x6_1 : List Int) (x7_1 : List Int) (x8_1 : Int), v8 = .int .i64 x8_1 ∧ zQ (zU.l0 kq x6_1 x7_1 x8_1 a0_0 l0_1 a1_0 l1_1 = some (r1, r2, r3, r4)) ∧ zQ (kq ≤ k) ∧ zQ (Kd.R (Kd.int .u32) 114 w' w.heap.size (fun k_ => (w.heap.size ≤ k_)) v177 x6_1) ∧ zQ (Kd.V (Kd.int .u32) 114 w' w.heap.size (fun k_ => (w.heap.size ≤ k_) ∧ some k_ ≠ (v177 : Value).ownBlock ∧ k_ ≠ gb172 ∧ k_ ≠ gb173 ∧ k_ ≠ gb174 ∧ k_ ≠ gb175) v7 x7_1) ∧ zQ (w'.heap[gb172]? = some (.cells #[.bool a0_0, (.slice A0_1 l0_1.length c0_1)] 96 (0, 0))) ∧ zQ (w'.heap[gb173]? = some (.cells #[.bool a1_0, (.slice A1_1 l1_1.length c1_1)] 96 (0, 0))) ∧ zQ (w'.heap[gb174]? = some (.cells #[.bool false, (.slice none 0 0)] 96 (0, 0))) ∧ zQ (w'.heap[gb175]? = some (.cells #[.bool false, (.slice none 0 0)] 96 (0, 0))) ∧ zQ (Below w.heap.size w w'))
   case atStart => exact ⟨(y176), (([] : List Int)), (wrap64 ((wrap64 ((l0_1.length : Int) * 32)) - 1)), ar, H', ⟨Nat.le_refl _⟩, ⟨by (with_reducible repeat (first | apply Kd.xU | apply Kd.xS | apply Kd.xw)); exact Kd.vw HO178.out (fun _ hk => hk.1)⟩, ⟨Kd.qKb _ _ _ _ _⟩, ⟨(zk BK172)⟩, ⟨(zk BK173)⟩, ⟨(zk BK174)⟩, ⟨(zk BK175)⟩, ⟨(zb w)⟩⟩
   case round =>
    clear H'
    try clear c1
    try clear p2
    try clear c3
    try clear c3b0
    try clear c3b1
    try clear c4
    try clear c4b0
    try clear c4b1
    try clear p6
    try clear c7
    try clear c9
    try clear c10
    try clear c11
    try clear hcz12_0 hcz12_1
    try clear hcz15_0 hcz15_1
    try clear hfz12_0 hfz12_1
    try clear hfz15_0 hfz15_1
    obtain ⟨x6_1, x7_1, x8_1, rfl, HA, HK1, HO_6, HO_7, BK172, BK173, BK174, BK175, HB⟩ := hrel
    cases gk with
    | zero => exact absurd HA.out (by simp [zU.l0])
    | succ k1 =>
     have H := HA.out
     clear HA
     simp only [zU.l0] at H
     by_cases c16 : x8_1 ≥ 0
     ·rw [if_pos c16] at H
      have c16b0 : decide (0 ≤ x8_1) = true := decide_eq_true c16
      clear c16
      replace H := Option.bind_eq_some_iff.mp H
      obtain ⟨t187, A170, H⟩ := H
      try dsimp only at H
      have A17 := zQ.mk A170
      clear A170
      by_cases c18 : 0 < (t187.length : Int)
      ·rw [if_pos c18] at H
       have c18b0 : decide (0 < (t187.length : Int)) = true := decide_eq_true c18
       have c18b1 : decide (0 < t187.length) = true := decide_eq_true (by omega)
       clear c18
       obtain ⟨ji19, hji19⟩ : ∃ j_ : Int, (wrap64 (Int.tdiv x8_1 32)) = j_ := ⟨_, rfl⟩
       replace H : (if 0 ≤ (ji19) then (if (ji19) < (l0_1.length : Int) then (if 0 ≤ (Int.tmod x8_1 32) then ((qQ.f k1 (t187.set (0 : Int).toNat (Go.bits .or .u32 (rd t187 0) (Go.bits .and .u32 (shr .u32 (rd l0_1 (ji19)) (Int.tmod x8_1 32)) 1)))).bind fun t193 => ((qN.f k1 t193 l1_1).bind fun t196 => (if t196 ≥ 0 then ((jE.f k1 t193 l1_1).bind fun t197 => (if (ji19) < (x6_1.length : Int) then (zU.l0 k1 (x6_1.set ((ji19) : Int).toNat (Go.bits .or .u32 (rd x6_1 (ji19)) (shl .u32 1 (Int.tmod x8_1 32)))) t197 (wrap64 (x8_1 - 1)) a0_0 l0_1 a1_0 l1_1) else (none))) else (zU.l0 k1 x6_1 t193 (wrap64 (x8_1 - 1)) a0_0 l0_1 a1_0 l1_1)))) else (none)) else (none)) else (none)) = some (r1, r2, r3, r4) := by first | (rw [hji19] at H; exact H) | (simp only [hji19] at H ⊢; exact H)
       (try rw [hji19] at A17)
       have hji19w : (IntKind.i64.wrap (Int.tdiv x8_1 32)) = ji19 := (jw _).trans hji19
       by_cases c20 : 0 ≤ (ji19)
       ·rw [if_pos c20] at H
        have c20b0 : decide (0 ≤ (ji19)) = true := decide_eq_true c20
        clear c20
        by_cases c21 : (ji19) < (l0_1.length : Int)
        ·rw [if_pos c21] at H
         have c21b0 : decide ((ji19) < (l0_1.length : Int)) = true := decide_eq_true c21
         clear c21
         obtain ⟨ji22, hji22⟩ : ∃ j_ : Int, (Int.tmod x8_1 32) = j_ := ⟨_, rfl⟩
         replace H : (if 0 ≤ (ji22) then ((qQ.f k1 (t187.set (0 : Int).toNat (Go.bits .or .u32 (rd t187 0) (Go.bits .and .u32 (shr .u32 (rd l0_1 (ji19)) (ji22)) 1)))).bind fun t193 => ((qN.f k1 t193 l1_1).bind fun t196 => (if t196 ≥ 0 then ((jE.f k1 t193 l1_1).bind fun t197 => (if (ji19) < (x6_1.length : Int) then (zU.l0 k1 (x6_1.set ((ji19) : Int).toNat (Go.bits .or .u32 (rd x6_1 (ji19)) (shl .u32 1 (ji22)))) t197 (wrap64 (x8_1 - 1)) a0_0 l0_1 a1_0 l1_1) else (none))) else (zU.l0 k1 x6_1 t193 (wrap64 (x8_1 - 1)) a0_0 l0_1 a1_0 l1_1)))) else (none)) = some (r1, r2, r3, r4) := by first | (rw [hji22] at H; exact H) | (simp only [hji22] at H ⊢; exact H)
         (try rw [hji22] at A17)
         by_cases c23 : 0 ≤ (ji22)
         ·rw [if_pos c23] at H
          have c23b0 := eq_true c23
          have c23b1 : decide (0 ≤ (ji22)) = true := decide_eq_true c23
          clear c23
          obtain ⟨ji24, hji24⟩ : ∃ j_ : Int, (shr .u32 (rd l0_1 (ji19)) (ji22)) = j_ := ⟨_, rfl⟩
          replace H : ((qQ.f k1 (t187.set (0 : Int).toNat (Go.bits .or .u32 (rd t187 0) (Go.bits .and .u32 (ji24) 1)))).bind fun t193 => ((qN.f k1 t193 l1_1).bind fun t196 => (if t196 ≥ 0 then ((jE.f k1 t193 l1_1).bind fun t197 => (if (ji19) < (x6_1.length : Int) then (zU.l0 k1 (x6_1.set ((ji19) : Int).toNat (Go.bits .or .u32 (rd x6_1 (ji19)) (shl .u32 1 (ji22)))) t197 (wrap64 (x8_1 - 1)) a0_0 l0_1 a1_0 l1_1) else (none))) else (zU.l0 k1 x6_1 t193 (wrap64 (x8_1 - 1)) a0_0 l0_1 a1_0 l1_1)))) = some (r1, r2, r3, r4) := by first | (rw [hji24] at H; exact H) | (simp only [hji24] at H ⊢; exact H)
          (try rw [hji24] at A17)
          have hji24_ : ((rd l0_1 (ji19)) / 2 ^ min (ji22).toNat 32) = ji24 := hji24
          have hji24z : (ji22) ≤ 32 → ((rd l0_1 (ji19)) / 2 ^ (ji22).toNat) = ji24 := qVv hji24
          obtain ⟨y192, hy192⟩ : ∃ y_ : List Int, y_ = (t187.set (0 : Int).toNat (Go.bits .or .u32 (rd t187 0) (Go.bits .and .u32 (ji24) 1))) := ⟨_, rfl⟩
          replace H : ((qQ.f k1 y192).bind fun t193 => ((qN.f k1 t193 l1_1).bind fun t196 => (if t196 ≥ 0 then ((jE.f k1 t193 l1_1).bind fun t197 => (if (ji19) < (x6_1.length : Int) then (zU.l0 k1 (x6_1.set ((ji19) : Int).toNat (Go.bits .or .u32 (rd x6_1 (ji19)) (shl .u32 1 (ji22)))) t197 (wrap64 (x8_1 - 1)) a0_0 l0_1 a1_0 l1_1) else (none))) else (zU.l0 k1 x6_1 t193 (wrap64 (x8_1 - 1)) a0_0 l0_1 a1_0 l1_1)))) = some (r1, r2, r3, r4) := by first | (rw [hy192]; with_reducible exact H) | (have H2_ := (Option.bind_some _ _).symm.trans H; rw [hy192]; with_reducible exact H2_) | (have H2_ := (Option.bind_some _ _).symm.trans H; with_reducible exact H2_) | with_reducible exact H | (rw [hy192]; exact H) | exact H
          have Ny192 := zQ.mk hy192
          clear hy192
          replace H := Option.bind_eq_some_iff.mp H
          obtain ⟨t193, A260, H⟩ := H
          try dsimp only at H
          have A26 := zQ.mk A260
          clear A260
          replace H := Option.bind_eq_some_iff.mp H
          obtain ⟨t196, A270, H⟩ := H
          try dsimp only at H
          have A27 := zQ.mk A270
          clear A270
          by_cases c28 : t196 ≥ 0
          ·rw [if_pos c28] at H
           have c28b0 : decide (0 ≤ t196) = true := decide_eq_true c28
           clear c28
           replace H := Option.bind_eq_some_iff.mp H
           obtain ⟨t197, A290, H⟩ := H
           try dsimp only at H
           have A29 := zQ.mk A290
           clear A290
           by_cases c30 : (ji19) < (x6_1.length : Int)
           ·rw [if_pos c30] at H
            have c30b0 : decide ((ji19) < (x6_1.length : Int)) = true := decide_eq_true c30
            clear c30
            have c31b0 := eq_true (of_decide_eq_true (by assumption) : 0 ≤ (ji22))
            obtain ⟨ji32, hji32⟩ : ∃ j_ : Int, (shl .u32 1 (ji22)) = j_ := ⟨_, rfl⟩
            replace H : (zU.l0 k1 (x6_1.set ((ji19) : Int).toNat (Go.bits .or .u32 (rd x6_1 (ji19)) (ji32))) t197 (wrap64 (x8_1 - 1)) a0_0 l0_1 a1_0 l1_1) = some (r1, r2, r3, r4) := by first | (rw [hji32] at H; exact H) | (simp only [hji32] at H ⊢; exact H)
            (try rw [hji32] at A17)
            (try rw [hji32] at A26)
            (try rw [hji32] at A27)
            (try rw [hji32] at A29)
            have hji32_ : (IntKind.u32.wrap (1 * 2 ^ min (ji22).toNat 32)) = ji32 := hji32
            have hji32z : (ji22) ≤ 32 → (IntKind.u32.wrap (1 * 2 ^ (ji22).toNat)) = ji32 := zCh hji32
            have hji32u : (IntKind.u32.wrap (2 ^ min (ji22).toNat 32)) = ji32 := by have h_ := hji32_; rw [Int.one_mul] at h_; exact h_
            have hji32v : (ji22) ≤ 32 → (IntKind.u32.wrap (2 ^ (ji22).toNat)) = ji32 := fun hle_ => by have h_ := hji32z hle_; rw [Int.one_mul] at h_; exact h_
            obtain ⟨y201, hy201⟩ : ∃ y_ : List Int, y_ = (x6_1.set ((ji19) : Int).toNat (Go.bits .or .u32 (rd x6_1 (ji19)) (ji32))) := ⟨_, rfl⟩
            replace H : (zU.l0 k1 y201 t197 (wrap64 (x8_1 - 1)) a0_0 l0_1 a1_0 l1_1) = some (r1, r2, r3, r4) := by first | (rw [hy201]; with_reducible exact H) | (have H2_ := (Option.bind_some _ _).symm.trans H; rw [hy201]; with_reducible exact H2_) | (have H2_ := (Option.bind_some _ _).symm.trans H; with_reducible exact H2_) | with_reducible exact H | (rw [hy201]; exact H) | exact H
            have Ny201 := zQ.mk hy201
            clear hy201
            have H' := zQ.mk H
            clear H
            obtain ⟨Ao34, co34, eo34⟩ := Kd.jW HO_7.out
            subst eo34
            try go_wp2_with (first | ((with_reducible refine gC 92 rfl ?_); refine gl_ 24 Tryz.func92 #[.slice Ao34 x7_1.length co34, .slice Ao34 x7_1.length co34] ?_; (with_reducible refine (yS.calls k1 _ _ x7_1 _ _ x7_1 t187 _ ?side1 ?side2 ?side3 ?side4 A17.out).mono ?_); (case side1 => repeat (first | exact (Kd.qC HO_7.out).2.2 | (with_reducible refine Kd.xK ?_ _) | (with_reducible refine Kd.xW ?_ _) | (with_reducible refine Kd.vK ?_))); (case side2 => exact (Kd.qC HO_7.out).2.1); (case side3 => repeat (first | exact (Kd.qC HO_7.out).2.2 | (with_reducible refine Kd.xK ?_ _) | (with_reducible refine Kd.xW ?_ _) | (with_reducible refine Kd.vK ?_))); (case side4 => exact (Kd.qC HO_7.out).2.1); rintro e w35 ⟨v188, rfl, ho0, hb⟩; refine ⟨_, rfl, ?_⟩; replace HO_7 := zQ.mk (Kd.zCv (by (with_reducible repeat (first | apply Kd.V_alloc | apply Kd.V_drewN | apply Kd.zT)); exact HO_7.out) (Kd.zEc ho0) hb); have HO189 := zQ.mk (Kd.vC (Kd.R_new' (Kd.zQw (M := fun k_ => (w.heap.size ≤ k_)) ho0 (zy (zb w)) (fun k_ h_ => h_)) (Kd.R_lt (zo HO_6))) (zy (zb w))); replace HO_6 := zQ.mk (Kd.qJv (zo HO_6) (Kd.zEc ho0) hb); replace BK172 := bb BK172 hb; replace BK173 := bb BK173 hb; replace BK174 := bb BK174 hb; replace BK175 := bb BK175 hb; replace HB := hs w hb; (try clear hb); (try clear ho0)))
            have n0_ := zQ.mk (Kd.xw HO_6.out)
            have n1_ := zQ.mk (Kd.zT HO_7.out)
            have n2_ := zQ.mk (Kd.xw HO189.out)
            have n3_ := zQ.mk (zK BK172.out)
            have n4_ := zQ.mk (zK BK173.out)
            have n5_ := zQ.mk (zK BK174.out)
            have n6_ := zQ.mk (zK BK175.out)
            have n7_ := zQ.mk (qD HB.out)
            clear HO_6
            clear HO_7
            clear HO189
            clear BK172
            clear BK173
            clear BK174
            clear BK175
            clear HB
            have HO_6 := n0_
            have HO_7 := n1_
            have HO189 := n2_
            have BK172 := n3_
            have BK173 := n4_
            have BK174 := n5_
            have BK175 := n6_
            have HB := n7_
            clear n0_ n1_ n2_ n3_ n4_ n5_ n6_ n7_
            obtain ⟨Ao37, co37, eo37⟩ := Kd.xx HO189.out
            (first | subst eo37 | (injection eo37 with f1_ f2_ f3_; have f4_ := f1_.symm; have f5_ := f3_.symm; clear f1_ f2_ f3_; subst f4_; subst f5_))
            have p190 : 0 ≤ (0 : Int) := (by omega)
            have q190 : 0 < (t187.length : Int) := of_decide_eq_true (by assumption)
            obtain ⟨ad190, e190, hx190_0⟩ := Kd.jy (Kd.jF HO189.out).2.2 0 p190 q190
            cases e190
            have qi190 : (0 < t187.length) = True := eq_true (by omega)
            (try rw [show ((0 : Int)).toNat = 0 from rfl] at hx190_0)
            (try rw [Addr.add_zero'] at hx190_0)
            replace p190 := eq_true p190
            replace q190 := eq_true q190
            have p191 : 0 ≤ ((ji19) : Int) := of_decide_eq_true (by assumption)
            have q191 : (ji19) < (l0_1.length : Int) := of_decide_eq_true (by assumption)
            obtain ⟨ad191, e191, hx191_0⟩ := Kd.jy HR0_1.out (ji19) p191 q191
            have hw191_0 := hx191_0
            cases e191
            replace hx191_0 := hz HB hx191_0
            replace p191 := eq_true p191
            replace q191 := eq_true q191
            have p25 : 0 ≤ (0 : Int) := (by omega)
            have q25 : (0 : Int) < ((t187.length : Int) : Int) := of_decide_eq_true (by assumption)
            have qi25 : (0 < t187.length) = True := eq_true (by omega)
            obtain ⟨go25, co25, eo25, gb25, gl25, cl25, HG25⟩ := Kd.zEb HO189.out (by omega)
            (first | cases eo25 | (injection eo25 with ea_ en_ ec_; (first | subst ea_ | (injection ea_ with ea_; subst ea_)); subst ec_; clear en_))
            have GB25 := zQ.mk gb25
            have GG25 := zQ.mk HG25
            clear gb25 gl25 HG25
            (first | simp only [add_plain] at hx190_0 | skip)
            obtain ⟨hx25_0, hf25_0⟩ := Kd.uV 0 HO189.out (0 : Int) p25 q25
            (try rw [show ((0 : Int)).toNat = 0 from rfl] at hx25_0)
            (try simp only [Nat.reduceMul, Nat.zero_mul, Nat.zero_add, Nat.reduceAdd] at hx25_0)
            (try rw [show ((0 : Int)).toNat = 0 from rfl] at hf25_0)
            (try simp only [Nat.reduceMul, Nat.zero_mul, Nat.zero_add, Nat.reduceAdd] at hf25_0)
            replace p25 := eq_true p25
            replace q25 := eq_true q25
            have HP38 := Kd.zQv HO189.out (0 : Int) (Go.bits .or .u32 (rd t187 0) (Go.bits .and .u32 (ji24) 1))
            rw [← Ny192.out] at HP38
            have HQ38 := zQ.mk HP38
            clear HP38
            refine uH (n := 16) (S := fun w' => w'.cell? ⟨gb172, 0, none⟩ = some (.bool a0_0) ∧ w'.cell? ⟨gb172, 1, none⟩ = some (.slice (some ad191) l0_1.length c0_1) ∧ w'.cell? ⟨go25, 0, none⟩ = some (.int .u32 (rd t187 0)) ∧ w'.cell? (ad191.add ((ji19)).toNat) = some (.int .u32 (rd l0_1 (ji19)))) (ds := [15]) (bm 16 0) (by kernel_rfl) rfl rfl ⟨(zx BK172.out 0).trans rfl, (zx BK172.out 1).trans rfl, hx190_0, ((HB.out.cell (World.block_lt_of_cell? w _ hw191_0)).trans hw191_0)⟩ (fun hHeld => ?_); refine vF zU.tab7 zU.bits7 (fun HT_ HW_ => ?_)
            generalize w35.drew = w36 at HO_6 HO_7 HO189 BK172 BK173 BK174 BK175 HB GG25 HQ38 hf25_0 hx190_0 hx191_0 hx25_0 hHeld ⊢
            refine pu 0 25 (bm 16 1) HT_ ?_
            refine pu 1 26 (bm 16 3) HT_ ?_
            refine pu 3 28 (bm 16 11) HT_ ?_
            refine pu 5 30 (bm 16 43) HT_ ?_
            refine pu 6 31 (bm 16 107) HT_ ?_
            refine pu 9 34 (bm 16 619) HT_ ?_
            refine pu 10 35 (bm 16 1643) HT_ ?_
            refine ta4 2 27 (bm 16 1647) HT_ HW_ hHeld ?_
            refine ta4 4 29 (bm 16 1663) HT_ HW_ hHeld ?_
            refine pu 7 32 (bm 16 1791) HT_ ?_
            refine ta4 8 33 (bm 16 2047) HT_ HW_ hHeld ?_
            refine pu 11 36 (bm 16 4095) HT_ ?_
            refine pu 12 37 (bm 16 8191) HT_ ?_
            refine pu 13 38 (bm 16 16383) HT_ ?_
            refine pu 14 39 (bm 16 32767) HT_ ?_
            refine qKk (i := 15) (N := none) (bm 16 65535) rfl rfl (yN HT_.out (by kernel_rfl)) (by decide) (fun K hK => ?_)
            refine zCg (w1 := ?_) (by rfl) rfl ?_ ?_
            rotate_left
            ·go_simp
             rfl
            refine hK.out _ _ ?_
            clear hK K
            refine zQh (uq HT_.out (by kernel_rfl)) ?_
            have n0_ : zQ (Kd.R (Kd.int .u32) 114 (w36.setCell ⟨go25, 0, none⟩ (.int .u32 (Go.bits .or .u32 (rd t187 0) (Go.bits .and .u32 (ji24) 1)))) w.heap.size (fun k_ => (w.heap.size ≤ k_) ∧ some k_ ≠ (.slice (some ⟨go25, 0, none⟩) t187.length co37 : Value).ownBlock) v177 x6_1) := ⟨by (with_reducible repeat (first | apply Kd.xU | apply Kd.xS | apply Kd.xw)); exact Kd.vw (Kd.zZd (p := ⟨go25, 0, none⟩) (Kd.vw HO_6.out (fun k_ hk => (⟨hk, fun e_ => hk.2 (by rw [e_]; rfl)⟩ : _ ∧ k_ ≠ go25))) (fun _ hk => hk.2) (.int .u32 (Go.bits .or .u32 (rd t187 0) (Go.bits .and .u32 (ji24) 1)))) (fun _ hk => ⟨hk.1.1, hk.1.2⟩)⟩
            have n1_ : zQ (Kd.V (Kd.int .u32) 114 (w36.setCell ⟨go25, 0, none⟩ (.int .u32 (Go.bits .or .u32 (rd t187 0) (Go.bits .and .u32 (ji24) 1)))) w.heap.size (fun k_ => (w.heap.size ≤ k_) ∧ some k_ ≠ (v177 : Value).ownBlock ∧ some k_ ≠ (.slice (some ⟨go25, 0, none⟩) t187.length co37 : Value).ownBlock ∧ k_ ≠ gb172 ∧ k_ ≠ gb173 ∧ k_ ≠ gb174 ∧ k_ ≠ gb175) (.slice Ao34 x7_1.length co34) x7_1) := ⟨by (with_reducible repeat (first | apply Kd.V_alloc | apply Kd.V_drewN | apply Kd.zT)); exact Kd.zR (Kd.qL (p := ⟨go25, 0, none⟩) (Kd.zR HO_7.out (fun k_ hk => (⟨hk, fun e_ => hk.2 (by rw [e_]; rfl)⟩ : _ ∧ k_ ≠ go25))) (fun _ hk => hk.2) (.int .u32 (Go.bits .or .u32 (rd t187 0) (Go.bits .and .u32 (ji24) 1)))) (fun _ hk => ⟨hk.1.1.1, ⟨hk.1.1.2.1, ⟨hk.1.2, ⟨hk.1.1.2.2.1, ⟨hk.1.1.2.2.2.1, ⟨hk.1.1.2.2.2.2.1, hk.1.1.2.2.2.2.2⟩⟩⟩⟩⟩⟩)⟩
            have n2_ : zQ (Kd.R (Kd.int .u32) 114 (w36.setCell ⟨go25, 0, none⟩ (.int .u32 (Go.bits .or .u32 (rd t187 0) (Go.bits .and .u32 (ji24) 1)))) w.heap.size (fun k_ => (w.heap.size ≤ k_) ∧ some k_ ≠ (v177 : Value).ownBlock) (.slice (some ⟨go25, 0, none⟩) t187.length co37) y192) := ⟨by (with_reducible repeat (first | apply Kd.xU | apply Kd.xS | apply Kd.xw)); exact Kd.vw HQ38.out (fun _ hk => ⟨hk.1.1, hk.2⟩)⟩
            have n3_ : zQ ((w36.setCell ⟨go25, 0, none⟩ (.int .u32 (Go.bits .or .u32 (rd t187 0) (Go.bits .and .u32 (ji24) 1)))).heap[gb172]? = some (.cells #[.bool a0_0, .slice (some ad191) l0_1.length c0_1] 96 (0, 0))) := ⟨by (with_reducible repeat (first | refine zJ ?_ _ | refine zK ?_ | refine zZ ?_ _)); refine zF ?_ (by have h_ := Kd.R_ne HO189.out BK172.out (by decide); intro e_; exact h_ (by rw [e_]; rfl)) _; exact zk BK172⟩
            have n4_ : zQ ((w36.setCell ⟨go25, 0, none⟩ (.int .u32 (Go.bits .or .u32 (rd t187 0) (Go.bits .and .u32 (ji24) 1)))).heap[gb173]? = some (.cells #[.bool a1_0, .slice A1_1 l1_1.length c1_1] 96 (0, 0))) := ⟨by (with_reducible repeat (first | refine zJ ?_ _ | refine zK ?_ | refine zZ ?_ _)); refine zF ?_ (by have h_ := Kd.R_ne HO189.out BK173.out (by decide); intro e_; exact h_ (by rw [e_]; rfl)) _; exact zk BK173⟩
            have n5_ : zQ ((w36.setCell ⟨go25, 0, none⟩ (.int .u32 (Go.bits .or .u32 (rd t187 0) (Go.bits .and .u32 (ji24) 1)))).heap[gb174]? = some (.cells #[.bool false, .slice none 0 0] 96 (0, 0))) := ⟨by (with_reducible repeat (first | refine zJ ?_ _ | refine zK ?_ | refine zZ ?_ _)); refine zF ?_ (by have h_ := Kd.R_ne HO189.out BK174.out (by decide); intro e_; exact h_ (by rw [e_]; rfl)) _; exact zk BK174⟩
            have n6_ : zQ ((w36.setCell ⟨go25, 0, none⟩ (.int .u32 (Go.bits .or .u32 (rd t187 0) (Go.bits .and .u32 (ji24) 1)))).heap[gb175]? = some (.cells #[.bool false, .slice none 0 0] 96 (0, 0))) := ⟨by (with_reducible repeat (first | refine zJ ?_ _ | refine zK ?_ | refine zZ ?_ _)); refine zF ?_ (by have h_ := Kd.R_ne HO189.out BK175.out (by decide); intro e_; exact h_ (by rw [e_]; rfl)) _; exact zk BK175⟩
            have n7_ : zQ (Below w.heap.size w (w36.setCell ⟨go25, 0, none⟩ (.int .u32 (Go.bits .or .u32 (rd t187 0) (Go.bits .and .u32 (ji24) 1))))) := ⟨(zb w)⟩
            (try clear HO_6)
            (try clear HO_7)
            (try clear HO189)
            (try clear BK172)
            (try clear BK173)
            (try clear BK174)
            (try clear BK175)
            (try clear HB)
            generalize (w36.setCell ⟨go25, 0, none⟩ (.int .u32 (Go.bits .or .u32 (rd t187 0) (Go.bits .and .u32 (ji24) 1)))) = w39 at n0_ n1_ n2_ n3_ n4_ n5_ n6_ n7_ ⊢
            have HO_6 := n0_
            have HO_7 := n1_
            have HO189 := n2_
            have BK172 := n3_
            have BK173 := n4_
            have BK174 := n5_
            have BK175 := n6_
            have HB := n7_
            clear n0_ n1_ n2_ n3_ n4_ n5_ n6_ n7_
            try go_wp2_with (first | ((with_reducible refine gC 93 rfl ?_); refine gl_ 41 Tryz.func93 #[.slice (some ⟨go25, 0, none⟩) y192.length co37] ?_ (hargs := by (try simp only [List.map_toArray, List.map_cons, List.map_nil]); first | done | (rw [show y192.length = t187.length from (Kd.jF HO189.out).1.symm] <;> rfl) | rfl | (simp only [List.length_drop, List.length_take]; rfl) | (simp only [qYc, qYb]; rfl)); (with_reducible refine (qQ.calls k1 (fun k_ => some k_ = (.slice (some ⟨go25, 0, none⟩) t187.length co37 : Value).ownBlock) _ _ y192 t193 _ ?side1 A26.out).mono ?_); (case side1 => rw [show y192.length = t187.length from (Kd.jF HO189.out).1.symm]; exact Kd.R_V (Kd.uU rfl (Kd.zB (Kd.zB (Kd.zB (Kd.zB (HO189.out) BK172.out (by decide)) BK173.out (by decide)) BK174.out (by decide)) BK175.out (by decide)))); rintro e w40 ⟨v194, rfl, ho0, hb⟩; refine ⟨_, rfl, ?_⟩; replace HO_7 := zQ.mk (Kd.qJ (by (with_reducible repeat (first | apply Kd.V_alloc | apply Kd.V_drewN | apply Kd.zT)); exact HO_7.out) hb); have HO195 := zQ.mk (Kd.xJ (Kd.zR (ok' := fun k_ => (w.heap.size ≤ k_) ∧ some k_ ≠ (v177 : Value).ownBlock ∧ k_ ≠ gb172 ∧ k_ ≠ gb173 ∧ k_ ≠ gb174 ∧ k_ ≠ gb175) ho0 (fun k_ hk_ => ⟨Or.elim hk_ (fun hs_ => ((Kd.zB (Kd.zB (Kd.zB (Kd.zB (HO189.out) BK172.out (by decide)) BK173.out (by decide)) BK174.out (by decide)) BK175.out (by decide)).1 k_ hs_.symm).1.1.1.1.1) (fun hn_ => (Nat.le_trans (zy (zb w)) hn_)), Or.elim hk_ (fun hs_ => ((Kd.zB (Kd.zB (Kd.zB (Kd.zB (HO189.out) BK172.out (by decide)) BK173.out (by decide)) BK174.out (by decide)) BK175.out (by decide)).1 k_ hs_.symm).1.1.1.1.2) (fun hn_ => (Kd.fresh' (Kd.R_lt (zo HO_6)) k_ hn_)), Or.elim hk_ (fun hs_ => ((Kd.zB (Kd.zB (Kd.zB (Kd.zB (HO189.out) BK172.out (by decide)) BK173.out (by decide)) BK174.out (by decide)) BK175.out (by decide)).1 k_ hs_.symm).1.1.1.2) (fun hn_ => (Kd.qH (g := gb172) (o := .cells #[.bool a0_0, .slice (some ad191) l0_1.length c0_1] 96 (0, 0)) (zk BK172) k_ hn_)), Or.elim hk_ (fun hs_ => ((Kd.zB (Kd.zB (Kd.zB (Kd.zB (HO189.out) BK172.out (by decide)) BK173.out (by decide)) BK174.out (by decide)) BK175.out (by decide)).1 k_ hs_.symm).1.1.2) (fun hn_ => (Kd.qH (g := gb173) (o := .cells #[.bool a1_0, .slice A1_1 l1_1.length c1_1] 96 (0, 0)) (zk BK173) k_ hn_)), Or.elim hk_ (fun hs_ => ((Kd.zB (Kd.zB (Kd.zB (Kd.zB (HO189.out) BK172.out (by decide)) BK173.out (by decide)) BK174.out (by decide)) BK175.out (by decide)).1 k_ hs_.symm).1.2) (fun hn_ => (Kd.qH (g := gb174) (o := .cells #[.bool false, .slice none 0 0] 96 (0, 0)) (zk BK174) k_ hn_)), Or.elim hk_ (fun hs_ => ((Kd.zB (Kd.zB (Kd.zB (Kd.zB (HO189.out) BK172.out (by decide)) BK173.out (by decide)) BK174.out (by decide)) BK175.out (by decide)).1 k_ hs_.symm).2) (fun hn_ => (Kd.qH (g := gb175) (o := .cells #[.bool false, .slice none 0 0] 96 (0, 0)) (zk BK175) k_ hn_))⟩)) (zy (zb w))); replace HO_6 := rb HO_6 hb; replace HO189 := rb HO189 hb; replace BK172 := bb BK172 hb; replace BK173 := bb BK173 hb; replace BK174 := bb BK174 hb; replace BK175 := bb BK175 hb; replace HB := hs w hb; (try clear hb); (try clear ho0); have hnb41 := NB173_172.out; have hnc41 := NB172_173.out; have hnb42 := NB173_174.out; have hnc42 := NB174_173.out; have hnb43 := NB173_175.out; have hnc43 := NB175_173.out; obtain ⟨hcz44_0, hcz44_1, hfz44_0, hfz44_1⟩ := cz2 BK173; obtain ⟨Ao45, co45, eo45⟩ := Kd.jW HO195.out; subst eo45) | ((with_reducible refine gC 94 rfl ?_); refine gl_ 45 Tryz.func94 #[.slice Ao45 t193.length co45, .slice A1_1 l1_1.length c1_1] ?_; (with_reducible refine (qN.calls k1 _ _ t193 _ _ l1_1 t196 _ ?side1 ?side2 (zc HR1_1) HC1_1.out A27.out).mono ?_); (case side1 => repeat (first | exact (Kd.qC HO195.out).2.2 | (with_reducible refine Kd.xK ?_ _) | (with_reducible refine Kd.xW ?_ _) | (with_reducible refine Kd.vK ?_))); (case side2 => exact (Kd.qC HO195.out).2.1); rintro e w46 ⟨rfl, hb⟩; refine ⟨_, rfl, ?_⟩; replace HO_6 := rb HO_6 hb; replace HO_7 := zQ.mk (Kd.qJ (by (with_reducible repeat (first | apply Kd.V_alloc | apply Kd.V_drewN | apply Kd.zT)); exact HO_7.out) hb); replace HO189 := rb HO189 hb; replace HO195 := zQ.mk (Kd.qJ (by (with_reducible repeat (first | apply Kd.V_alloc | apply Kd.V_drewN | apply Kd.zT)); exact HO195.out) hb); replace BK172 := bb BK172 hb; replace BK173 := bb BK173 hb; replace BK174 := bb BK174 hb; replace BK175 := bb BK175 hb; replace HB := hs w hb; (try clear hb); obtain ⟨hcz47_0, hcz47_1, hfz47_0, hfz47_1⟩ := cz2 BK173) | ((with_reducible refine gC 95 rfl ?_); refine gl_ 50 Tryz.func95 #[.slice Ao45 t193.length co45, .slice A1_1 l1_1.length c1_1] ?_; (with_reducible refine (jE.calls k1 _ _ t193 _ _ l1_1 t197 _ ?side1 ?side2 (zc HR1_1) HC1_1.out A29.out).mono ?_); (case side1 => repeat (first | exact (Kd.qC HO195.out).2.2 | (with_reducible refine Kd.xK ?_ _) | (with_reducible refine Kd.xW ?_ _) | (with_reducible refine Kd.vK ?_))); (case side2 => exact (Kd.qC HO195.out).2.1); rintro e w48 ⟨v198, rfl, ho0, hb⟩; refine ⟨_, rfl, ?_⟩; replace HO_7 := zQ.mk (Kd.qJ (by (with_reducible repeat (first | apply Kd.V_alloc | apply Kd.V_drewN | apply Kd.zT)); exact HO_7.out) hb); replace HO195 := zQ.mk (Kd.qJ (by (with_reducible repeat (first | apply Kd.V_alloc | apply Kd.V_drewN | apply Kd.zT)); exact HO195.out) hb); have HO199 := zQ.mk (Kd.xJ (Kd.zR (ok' := fun k_ => (w.heap.size ≤ k_) ∧ some k_ ≠ (v177 : Value).ownBlock ∧ some k_ ≠ (.slice (some ⟨go25, 0, none⟩) t187.length co37 : Value).ownBlock ∧ k_ ≠ gb172 ∧ k_ ≠ gb173 ∧ k_ ≠ gb174 ∧ k_ ≠ gb175) ho0 (fun k_ hk_ => ⟨(Nat.le_trans (zy (zb w)) hk_), (Kd.fresh' (Kd.R_lt (zo HO_6)) k_ hk_), (Kd.fresh' (Kd.R_lt (zo HO189)) k_ hk_), (Kd.qH (g := gb172) (o := .cells #[.bool a0_0, .slice (some ad191) l0_1.length c0_1] 96 (0, 0)) (zk BK172) k_ hk_), (Kd.qH (g := gb173) (o := .cells #[.bool a1_0, .slice A1_1 l1_1.length c1_1] 96 (0, 0)) (zk BK173) k_ hk_), (Kd.qH (g := gb174) (o := .cells #[.bool false, .slice none 0 0] 96 (0, 0)) (zk BK174) k_ hk_), (Kd.qH (g := gb175) (o := .cells #[.bool false, .slice none 0 0] 96 (0, 0)) (zk BK175) k_ hk_)⟩)) (zy (zb w))); replace HO_6 := rb HO_6 hb; replace HO189 := rb HO189 hb; replace BK172 := bb BK172 hb; replace BK173 := bb BK173 hb; replace BK174 := bb BK174 hb; replace BK175 := bb BK175 hb; replace HB := hs w hb; (try clear hb); (try clear ho0)))
            have n0_ := zQ.mk (Kd.xw HO_6.out)
            have n1_ := zQ.mk (Kd.zT HO_7.out)
            have n2_ := zQ.mk (Kd.xw HO189.out)
            have n3_ := zQ.mk (Kd.zT HO195.out)
            have n4_ := zQ.mk (Kd.zT HO199.out)
            have n5_ := zQ.mk (zK BK172.out)
            have n6_ := zQ.mk (zK BK173.out)
            have n7_ := zQ.mk (zK BK174.out)
            have n8_ := zQ.mk (zK BK175.out)
            have n9_ := zQ.mk (qD HB.out)
            clear HO_6
            clear HO_7
            clear HO189
            clear HO195
            clear HO199
            clear BK172
            clear BK173
            clear BK174
            clear BK175
            clear HB
            have HO_6 := n0_
            have HO_7 := n1_
            have HO189 := n2_
            have HO195 := n3_
            have HO199 := n4_
            have BK172 := n5_
            have BK173 := n6_
            have BK174 := n7_
            have BK175 := n8_
            have HB := n9_
            clear n0_ n1_ n2_ n3_ n4_ n5_ n6_ n7_ n8_ n9_
            obtain ⟨Ao50, co50, eo50⟩ := Kd.xx HO_6.out
            (first | subst eo50 | (injection eo50 with f1_ f2_ f3_; have f4_ := f1_.symm; have f5_ := f3_.symm; clear f1_ f2_ f3_; subst f4_; subst f5_))
            have p200 : 0 ≤ ((ji19) : Int) := of_decide_eq_true (by assumption)
            have q200 : (ji19) < (x6_1.length : Int) := of_decide_eq_true (by assumption)
            obtain ⟨ad200, e200, hx200_0⟩ := Kd.jy (Kd.jF HO_6.out).2.2 (ji19) p200 q200
            cases e200
            replace p200 := eq_true p200
            replace q200 := eq_true q200
            have p33 : 0 ≤ ((ji19) : Int) := of_decide_eq_true (by assumption)
            have q33 : ((ji19) : Int) < ((x6_1.length : Int) : Int) := of_decide_eq_true (by assumption)
            obtain ⟨go33, co33, eo33, gb33, gl33, cl33, HG33⟩ := Kd.zEb HO_6.out (by omega)
            (first | cases eo33 | (injection eo33 with ea_ en_ ec_; (first | subst ea_ | (injection ea_ with ea_; subst ea_)); subst ec_; clear en_))
            have GB33 := zQ.mk gb33
            have GG33 := zQ.mk HG33
            clear gb33 gl33 HG33
            (first | simp only [add_plain] at hx200_0 | skip)
            obtain ⟨hx33_0, hf33_0⟩ := Kd.uV 0 HO_6.out ((ji19) : Int) p33 q33
            replace p33 := eq_true p33
            replace q33 := eq_true q33
            have HP51 := Kd.zQv HO_6.out ((ji19) : Int) (Go.bits .or .u32 (rd x6_1 (ji19)) (ji32))
            rw [← Ny201.out] at HP51
            have HQ51 := zQ.mk HP51
            clear HP51
            refine uH (n := 11) (S := fun w' => w'.cell? ⟨go33, ((ji19)).toNat, none⟩ = some (.int .u32 (rd x6_1 (ji19)))) (ds := [10]) (bm 11 0) (by kernel_rfl) rfl rfl (hx200_0) (fun hHeld => ?_); refine vF zU.tab11 zU.bits11 (fun HT_ HW_ => ?_)
            generalize w48.drew = w49 at HO_6 HO_7 HO189 HO195 HO199 BK172 BK173 BK174 BK175 HB GG33 HQ51 hf33_0 hx200_0 hx33_0 hHeld ⊢
            refine pu 0 51 (bm 11 1) HT_ ?_
            refine pu 1 52 (bm 11 3) HT_ ?_
            refine pu 2 53 (bm 11 7) HT_ ?_
            refine pu 3 54 (bm 11 15) HT_ ?_
            refine pu 5 56 (bm 11 47) HT_ ?_
            refine pu 6 57 (bm 11 111) HT_ ?_
            refine pu 7 58 (bm 11 239) HT_ ?_
            refine zKm (i := 4) (N := some 55) (v := ?_) (a' := ?_) (bm 11 255) rfl rfl (zVz HT_.out HW_.out (by kernel_rfl)) (fun _ _ _ h => h) (Or.inl ⟨by rfl, ?_⟩) hHeld ?_ ?_
            rotate_left
            ·intro w' s0
             go_simp
             with_reducible rfl
            rotate_left
            ·simp only [sq, jw, vL]
             rfl
            refine pu 8 59 (bm 11 511) HT_ ?_
            refine pu 9 60 (bm 11 1023) HT_ ?_
            refine qKk (i := 10) (N := none) (bm 11 2047) rfl rfl (yN HT_.out (by kernel_rfl)) (by decide) (fun K hK => ?_)
            refine zCg (w1 := ?_) (by rfl) rfl ?_ ?_
            rotate_left
            ·go_simp
             rfl
            refine hK.out _ _ ?_
            clear hK K
            refine zQh (uq HT_.out (by kernel_rfl)) ?_
            try go_wp2
            go_roundg k1
            case measure => have := HK1.out; omega
            case rel => exact ⟨(y201), (t197), (wrap64 (x8_1 - 1)), ar, H', ⟨by have := HK1.out; omega⟩, ⟨by (with_reducible repeat (first | apply Kd.xU | apply Kd.xS | apply Kd.xw)); exact Kd.vw HQ51.out (fun _ hk => hk.1)⟩, ⟨by (with_reducible repeat (first | apply Kd.V_alloc | apply Kd.V_drewN | apply Kd.zT)); exact Kd.zR (Kd.qL (p := ⟨go33, ((ji19) : Int).toNat, none⟩) (Kd.zR HO199.out (fun k_ hk => (⟨hk, fun e_ => hk.2.1 (by rw [e_]; rfl)⟩ : _ ∧ k_ ≠ go33))) (fun _ hk => hk.2) (.int .u32 (Go.bits .or .u32 (rd x6_1 (ji19)) (ji32)))) (fun _ hk => ⟨hk.1.1, ⟨hk.1.2.1, ⟨hk.1.2.2.2.1, ⟨hk.1.2.2.2.2.1, ⟨hk.1.2.2.2.2.2.1, hk.1.2.2.2.2.2.2⟩⟩⟩⟩⟩)⟩, ⟨by (with_reducible repeat (first | refine zJ ?_ _ | refine zK ?_ | refine zZ ?_ _)); refine zF ?_ (by have h_ := Kd.R_ne HO_6.out BK172.out (by decide); intro e_; exact h_ (by rw [e_]; rfl)) _; exact zk BK172⟩, ⟨by (with_reducible repeat (first | refine zJ ?_ _ | refine zK ?_ | refine zZ ?_ _)); refine zF ?_ (by have h_ := Kd.R_ne HO_6.out BK173.out (by decide); intro e_; exact h_ (by rw [e_]; rfl)) _; exact zk BK173⟩, ⟨by (with_reducible repeat (first | refine zJ ?_ _ | refine zK ?_ | refine zZ ?_ _)); refine zF ?_ (by have h_ := Kd.R_ne HO_6.out BK174.out (by decide); intro e_; exact h_ (by rw [e_]; rfl)) _; exact zk BK174⟩, ⟨by (with_reducible repeat (first | refine zJ ?_ _ | refine zK ?_ | refine zZ ?_ _)); refine zF ?_ (by have h_ := Kd.R_ne HO_6.out BK175.out (by decide); intro e_; exact h_ (by rw [e_]; rfl)) _; exact zk BK175⟩, ⟨(zb w)⟩⟩
           ·rw [if_neg c30] at H
            exact absurd H (by simp)
          ·rw [if_neg c28] at H
           have c28b0 : decide (0 ≤ t196) = false := decide_eq_false c28
           clear c28
           have H' := zQ.mk H
           clear H
           obtain ⟨Ao52, co52, eo52⟩ := Kd.jW HO_7.out
           subst eo52
           try go_wp2_with (first | ((with_reducible refine gC 92 rfl ?_); refine gl_ 24 Tryz.func92 #[.slice Ao52 x7_1.length co52, .slice Ao52 x7_1.length co52] ?_; (with_reducible refine (yS.calls k1 _ _ x7_1 _ _ x7_1 t187 _ ?side1 ?side2 ?side3 ?side4 A17.out).mono ?_); (case side1 => repeat (first | exact (Kd.qC HO_7.out).2.2 | (with_reducible refine Kd.xK ?_ _) | (with_reducible refine Kd.xW ?_ _) | (with_reducible refine Kd.vK ?_))); (case side2 => exact (Kd.qC HO_7.out).2.1); (case side3 => repeat (first | exact (Kd.qC HO_7.out).2.2 | (with_reducible refine Kd.xK ?_ _) | (with_reducible refine Kd.xW ?_ _) | (with_reducible refine Kd.vK ?_))); (case side4 => exact (Kd.qC HO_7.out).2.1); rintro e w53 ⟨v188, rfl, ho0, hb⟩; refine ⟨_, rfl, ?_⟩; replace HO_7 := zQ.mk (Kd.zCv (by (with_reducible repeat (first | apply Kd.V_alloc | apply Kd.V_drewN | apply Kd.zT)); exact HO_7.out) (Kd.zEc ho0) hb); have HO189 := zQ.mk (Kd.vC (Kd.R_new' (Kd.zQw (M := fun k_ => (w.heap.size ≤ k_)) ho0 (zy (zb w)) (fun k_ h_ => h_)) (Kd.R_lt (zo HO_6))) (zy (zb w))); replace HO_6 := zQ.mk (Kd.qJv (zo HO_6) (Kd.zEc ho0) hb); replace BK172 := bb BK172 hb; replace BK173 := bb BK173 hb; replace BK174 := bb BK174 hb; replace BK175 := bb BK175 hb; replace HB := hs w hb; (try clear hb); (try clear ho0)))
           have n0_ := zQ.mk (Kd.xw HO_6.out)
           have n1_ := zQ.mk (Kd.zT HO_7.out)
           have n2_ := zQ.mk (Kd.xw HO189.out)
           have n3_ := zQ.mk (zK BK172.out)
           have n4_ := zQ.mk (zK BK173.out)
           have n5_ := zQ.mk (zK BK174.out)
           have n6_ := zQ.mk (zK BK175.out)
           have n7_ := zQ.mk (qD HB.out)
           clear HO_6
           clear HO_7
           clear HO189
           clear BK172
           clear BK173
           clear BK174
           clear BK175
           clear HB
           have HO_6 := n0_
           have HO_7 := n1_
           have HO189 := n2_
           have BK172 := n3_
           have BK173 := n4_
           have BK174 := n5_
           have BK175 := n6_
           have HB := n7_
           clear n0_ n1_ n2_ n3_ n4_ n5_ n6_ n7_
           obtain ⟨Ao55, co55, eo55⟩ := Kd.xx HO189.out
           (first | subst eo55 | (injection eo55 with f1_ f2_ f3_; have f4_ := f1_.symm; have f5_ := f3_.symm; clear f1_ f2_ f3_; subst f4_; subst f5_))
           have p190 : 0 ≤ (0 : Int) := (by omega)
           have q190 : 0 < (t187.length : Int) := of_decide_eq_true (by assumption)
           obtain ⟨ad190, e190, hx190_0⟩ := Kd.jy (Kd.jF HO189.out).2.2 0 p190 q190
           cases e190
           have qi190 : (0 < t187.length) = True := eq_true (by omega)
           (try rw [show ((0 : Int)).toNat = 0 from rfl] at hx190_0)
           (try rw [Addr.add_zero'] at hx190_0)
           replace p190 := eq_true p190
           replace q190 := eq_true q190
           have p191 : 0 ≤ ((ji19) : Int) := of_decide_eq_true (by assumption)
           have q191 : (ji19) < (l0_1.length : Int) := of_decide_eq_true (by assumption)
           obtain ⟨ad191, e191, hx191_0⟩ := Kd.jy HR0_1.out (ji19) p191 q191
           have hw191_0 := hx191_0
           cases e191
           replace hx191_0 := hz HB hx191_0
           replace p191 := eq_true p191
           replace q191 := eq_true q191
           have p25 : 0 ≤ (0 : Int) := (by omega)
           have q25 : (0 : Int) < ((t187.length : Int) : Int) := of_decide_eq_true (by assumption)
           have qi25 : (0 < t187.length) = True := eq_true (by omega)
           obtain ⟨go25, co25, eo25, gb25, gl25, cl25, HG25⟩ := Kd.zEb HO189.out (by omega)
           (first | cases eo25 | (injection eo25 with ea_ en_ ec_; (first | subst ea_ | (injection ea_ with ea_; subst ea_)); subst ec_; clear en_))
           have GB25 := zQ.mk gb25
           have GG25 := zQ.mk HG25
           clear gb25 gl25 HG25
           (first | simp only [add_plain] at hx190_0 | skip)
           obtain ⟨hx25_0, hf25_0⟩ := Kd.uV 0 HO189.out (0 : Int) p25 q25
           (try rw [show ((0 : Int)).toNat = 0 from rfl] at hx25_0)
           (try simp only [Nat.reduceMul, Nat.zero_mul, Nat.zero_add, Nat.reduceAdd] at hx25_0)
           (try rw [show ((0 : Int)).toNat = 0 from rfl] at hf25_0)
           (try simp only [Nat.reduceMul, Nat.zero_mul, Nat.zero_add, Nat.reduceAdd] at hf25_0)
           replace p25 := eq_true p25
           replace q25 := eq_true q25
           have HP56 := Kd.zQv HO189.out (0 : Int) (Go.bits .or .u32 (rd t187 0) (Go.bits .and .u32 (ji24) 1))
           rw [← Ny192.out] at HP56
           have HQ56 := zQ.mk HP56
           clear HP56
           refine uH (n := 16) (S := fun w' => w'.cell? ⟨gb172, 0, none⟩ = some (.bool a0_0) ∧ w'.cell? ⟨gb172, 1, none⟩ = some (.slice (some ad191) l0_1.length c0_1) ∧ w'.cell? ⟨go25, 0, none⟩ = some (.int .u32 (rd t187 0)) ∧ w'.cell? (ad191.add ((ji19)).toNat) = some (.int .u32 (rd l0_1 (ji19)))) (ds := [15]) (bm 16 0) (by kernel_rfl) rfl rfl ⟨(zx BK172.out 0).trans rfl, (zx BK172.out 1).trans rfl, hx190_0, ((HB.out.cell (World.block_lt_of_cell? w _ hw191_0)).trans hw191_0)⟩ (fun hHeld => ?_); refine vF zU.tab7 zU.bits7 (fun HT_ HW_ => ?_)
           generalize w53.drew = w54 at HO_6 HO_7 HO189 BK172 BK173 BK174 BK175 HB GG25 HQ56 hf25_0 hx190_0 hx191_0 hx25_0 hHeld ⊢
           refine pu 0 25 (bm 16 1) HT_ ?_
           refine pu 1 26 (bm 16 3) HT_ ?_
           refine pu 3 28 (bm 16 11) HT_ ?_
           refine pu 5 30 (bm 16 43) HT_ ?_
           refine pu 6 31 (bm 16 107) HT_ ?_
           refine pu 9 34 (bm 16 619) HT_ ?_
           refine pu 10 35 (bm 16 1643) HT_ ?_
           refine ta4 2 27 (bm 16 1647) HT_ HW_ hHeld ?_
           refine ta4 4 29 (bm 16 1663) HT_ HW_ hHeld ?_
           refine pu 7 32 (bm 16 1791) HT_ ?_
           refine ta4 8 33 (bm 16 2047) HT_ HW_ hHeld ?_
           refine pu 11 36 (bm 16 4095) HT_ ?_
           refine pu 12 37 (bm 16 8191) HT_ ?_
           refine pu 13 38 (bm 16 16383) HT_ ?_
           refine pu 14 39 (bm 16 32767) HT_ ?_
           refine qKk (i := 15) (N := none) (bm 16 65535) rfl rfl (yN HT_.out (by kernel_rfl)) (by decide) (fun K hK => ?_)
           refine zCg (w1 := ?_) (by rfl) rfl ?_ ?_
           rotate_left
           ·go_simp
            rfl
           refine hK.out _ _ ?_
           clear hK K
           refine zQh (uq HT_.out (by kernel_rfl)) ?_
           have n0_ : zQ (Kd.R (Kd.int .u32) 114 (w54.setCell ⟨go25, 0, none⟩ (.int .u32 (Go.bits .or .u32 (rd t187 0) (Go.bits .and .u32 (ji24) 1)))) w.heap.size (fun k_ => (w.heap.size ≤ k_) ∧ some k_ ≠ (.slice (some ⟨go25, 0, none⟩) t187.length co55 : Value).ownBlock) v177 x6_1) := ⟨by (with_reducible repeat (first | apply Kd.xU | apply Kd.xS | apply Kd.xw)); exact Kd.vw (Kd.zZd (p := ⟨go25, 0, none⟩) (Kd.vw HO_6.out (fun k_ hk => (⟨hk, fun e_ => hk.2 (by rw [e_]; rfl)⟩ : _ ∧ k_ ≠ go25))) (fun _ hk => hk.2) (.int .u32 (Go.bits .or .u32 (rd t187 0) (Go.bits .and .u32 (ji24) 1)))) (fun _ hk => ⟨hk.1.1, hk.1.2⟩)⟩
           have n1_ : zQ (Kd.V (Kd.int .u32) 114 (w54.setCell ⟨go25, 0, none⟩ (.int .u32 (Go.bits .or .u32 (rd t187 0) (Go.bits .and .u32 (ji24) 1)))) w.heap.size (fun k_ => (w.heap.size ≤ k_) ∧ some k_ ≠ (v177 : Value).ownBlock ∧ some k_ ≠ (.slice (some ⟨go25, 0, none⟩) t187.length co55 : Value).ownBlock ∧ k_ ≠ gb172 ∧ k_ ≠ gb173 ∧ k_ ≠ gb174 ∧ k_ ≠ gb175) (.slice Ao52 x7_1.length co52) x7_1) := ⟨by (with_reducible repeat (first | apply Kd.V_alloc | apply Kd.V_drewN | apply Kd.zT)); exact Kd.zR (Kd.qL (p := ⟨go25, 0, none⟩) (Kd.zR HO_7.out (fun k_ hk => (⟨hk, fun e_ => hk.2 (by rw [e_]; rfl)⟩ : _ ∧ k_ ≠ go25))) (fun _ hk => hk.2) (.int .u32 (Go.bits .or .u32 (rd t187 0) (Go.bits .and .u32 (ji24) 1)))) (fun _ hk => ⟨hk.1.1.1, ⟨hk.1.1.2.1, ⟨hk.1.2, ⟨hk.1.1.2.2.1, ⟨hk.1.1.2.2.2.1, ⟨hk.1.1.2.2.2.2.1, hk.1.1.2.2.2.2.2⟩⟩⟩⟩⟩⟩)⟩
           have n2_ : zQ (Kd.R (Kd.int .u32) 114 (w54.setCell ⟨go25, 0, none⟩ (.int .u32 (Go.bits .or .u32 (rd t187 0) (Go.bits .and .u32 (ji24) 1)))) w.heap.size (fun k_ => (w.heap.size ≤ k_) ∧ some k_ ≠ (v177 : Value).ownBlock) (.slice (some ⟨go25, 0, none⟩) t187.length co55) y192) := ⟨by (with_reducible repeat (first | apply Kd.xU | apply Kd.xS | apply Kd.xw)); exact Kd.vw HQ56.out (fun _ hk => ⟨hk.1.1, hk.2⟩)⟩
           have n3_ : zQ ((w54.setCell ⟨go25, 0, none⟩ (.int .u32 (Go.bits .or .u32 (rd t187 0) (Go.bits .and .u32 (ji24) 1)))).heap[gb172]? = some (.cells #[.bool a0_0, .slice (some ad191) l0_1.length c0_1] 96 (0, 0))) := ⟨by (with_reducible repeat (first | refine zJ ?_ _ | refine zK ?_ | refine zZ ?_ _)); refine zF ?_ (by have h_ := Kd.R_ne HO189.out BK172.out (by decide); intro e_; exact h_ (by rw [e_]; rfl)) _; exact zk BK172⟩
           have n4_ : zQ ((w54.setCell ⟨go25, 0, none⟩ (.int .u32 (Go.bits .or .u32 (rd t187 0) (Go.bits .and .u32 (ji24) 1)))).heap[gb173]? = some (.cells #[.bool a1_0, .slice A1_1 l1_1.length c1_1] 96 (0, 0))) := ⟨by (with_reducible repeat (first | refine zJ ?_ _ | refine zK ?_ | refine zZ ?_ _)); refine zF ?_ (by have h_ := Kd.R_ne HO189.out BK173.out (by decide); intro e_; exact h_ (by rw [e_]; rfl)) _; exact zk BK173⟩
           have n5_ : zQ ((w54.setCell ⟨go25, 0, none⟩ (.int .u32 (Go.bits .or .u32 (rd t187 0) (Go.bits .and .u32 (ji24) 1)))).heap[gb174]? = some (.cells #[.bool false, .slice none 0 0] 96 (0, 0))) := ⟨by (with_reducible repeat (first | refine zJ ?_ _ | refine zK ?_ | refine zZ ?_ _)); refine zF ?_ (by have h_ := Kd.R_ne HO189.out BK174.out (by decide); intro e_; exact h_ (by rw [e_]; rfl)) _; exact zk BK174⟩
           have n6_ : zQ ((w54.setCell ⟨go25, 0, none⟩ (.int .u32 (Go.bits .or .u32 (rd t187 0) (Go.bits .and .u32 (ji24) 1)))).heap[gb175]? = some (.cells #[.bool false, .slice none 0 0] 96 (0, 0))) := ⟨by (with_reducible repeat (first | refine zJ ?_ _ | refine zK ?_ | refine zZ ?_ _)); refine zF ?_ (by have h_ := Kd.R_ne HO189.out BK175.out (by decide); intro e_; exact h_ (by rw [e_]; rfl)) _; exact zk BK175⟩
           have n7_ : zQ (Below w.heap.size w (w54.setCell ⟨go25, 0, none⟩ (.int .u32 (Go.bits .or .u32 (rd t187 0) (Go.bits .and .u32 (ji24) 1))))) := ⟨(zb w)⟩
           (try clear HO_6)
           (try clear HO_7)
           (try clear HO189)
           (try clear BK172)
           (try clear BK173)
           (try clear BK174)
           (try clear BK175)
           (try clear HB)
           generalize (w54.setCell ⟨go25, 0, none⟩ (.int .u32 (Go.bits .or .u32 (rd t187 0) (Go.bits .and .u32 (ji24) 1)))) = w57 at n0_ n1_ n2_ n3_ n4_ n5_ n6_ n7_ ⊢
           have HO_6 := n0_
           have HO_7 := n1_
           have HO189 := n2_
           have BK172 := n3_
           have BK173 := n4_
           have BK174 := n5_
           have BK175 := n6_
           have HB := n7_
           clear n0_ n1_ n2_ n3_ n4_ n5_ n6_ n7_
           try go_wp2_with (first | ((with_reducible refine gC 93 rfl ?_); refine gl_ 41 Tryz.func93 #[.slice (some ⟨go25, 0, none⟩) y192.length co55] ?_ (hargs := by (try simp only [List.map_toArray, List.map_cons, List.map_nil]); first | done | (rw [show y192.length = t187.length from (Kd.jF HO189.out).1.symm] <;> rfl) | rfl | (simp only [List.length_drop, List.length_take]; rfl) | (simp only [qYc, qYb]; rfl)); (with_reducible refine (qQ.calls k1 (fun k_ => some k_ = (.slice (some ⟨go25, 0, none⟩) t187.length co55 : Value).ownBlock) _ _ y192 t193 _ ?side1 A26.out).mono ?_); (case side1 => rw [show y192.length = t187.length from (Kd.jF HO189.out).1.symm]; exact Kd.R_V (Kd.uU rfl (Kd.zB (Kd.zB (Kd.zB (Kd.zB (HO189.out) BK172.out (by decide)) BK173.out (by decide)) BK174.out (by decide)) BK175.out (by decide)))); rintro e w58 ⟨v194, rfl, ho0, hb⟩; refine ⟨_, rfl, ?_⟩; replace HO_7 := zQ.mk (Kd.qJ (by (with_reducible repeat (first | apply Kd.V_alloc | apply Kd.V_drewN | apply Kd.zT)); exact HO_7.out) hb); have HO195 := zQ.mk (Kd.xJ (Kd.zR (ok' := fun k_ => (w.heap.size ≤ k_) ∧ some k_ ≠ (v177 : Value).ownBlock ∧ k_ ≠ gb172 ∧ k_ ≠ gb173 ∧ k_ ≠ gb174 ∧ k_ ≠ gb175) ho0 (fun k_ hk_ => ⟨Or.elim hk_ (fun hs_ => ((Kd.zB (Kd.zB (Kd.zB (Kd.zB (HO189.out) BK172.out (by decide)) BK173.out (by decide)) BK174.out (by decide)) BK175.out (by decide)).1 k_ hs_.symm).1.1.1.1.1) (fun hn_ => (Nat.le_trans (zy (zb w)) hn_)), Or.elim hk_ (fun hs_ => ((Kd.zB (Kd.zB (Kd.zB (Kd.zB (HO189.out) BK172.out (by decide)) BK173.out (by decide)) BK174.out (by decide)) BK175.out (by decide)).1 k_ hs_.symm).1.1.1.1.2) (fun hn_ => (Kd.fresh' (Kd.R_lt (zo HO_6)) k_ hn_)), Or.elim hk_ (fun hs_ => ((Kd.zB (Kd.zB (Kd.zB (Kd.zB (HO189.out) BK172.out (by decide)) BK173.out (by decide)) BK174.out (by decide)) BK175.out (by decide)).1 k_ hs_.symm).1.1.1.2) (fun hn_ => (Kd.qH (g := gb172) (o := .cells #[.bool a0_0, .slice (some ad191) l0_1.length c0_1] 96 (0, 0)) (zk BK172) k_ hn_)), Or.elim hk_ (fun hs_ => ((Kd.zB (Kd.zB (Kd.zB (Kd.zB (HO189.out) BK172.out (by decide)) BK173.out (by decide)) BK174.out (by decide)) BK175.out (by decide)).1 k_ hs_.symm).1.1.2) (fun hn_ => (Kd.qH (g := gb173) (o := .cells #[.bool a1_0, .slice A1_1 l1_1.length c1_1] 96 (0, 0)) (zk BK173) k_ hn_)), Or.elim hk_ (fun hs_ => ((Kd.zB (Kd.zB (Kd.zB (Kd.zB (HO189.out) BK172.out (by decide)) BK173.out (by decide)) BK174.out (by decide)) BK175.out (by decide)).1 k_ hs_.symm).1.2) (fun hn_ => (Kd.qH (g := gb174) (o := .cells #[.bool false, .slice none 0 0] 96 (0, 0)) (zk BK174) k_ hn_)), Or.elim hk_ (fun hs_ => ((Kd.zB (Kd.zB (Kd.zB (Kd.zB (HO189.out) BK172.out (by decide)) BK173.out (by decide)) BK174.out (by decide)) BK175.out (by decide)).1 k_ hs_.symm).2) (fun hn_ => (Kd.qH (g := gb175) (o := .cells #[.bool false, .slice none 0 0] 96 (0, 0)) (zk BK175) k_ hn_))⟩)) (zy (zb w))); replace HO_6 := rb HO_6 hb; replace HO189 := rb HO189 hb; replace BK172 := bb BK172 hb; replace BK173 := bb BK173 hb; replace BK174 := bb BK174 hb; replace BK175 := bb BK175 hb; replace HB := hs w hb; (try clear hb); (try clear ho0); have hnb59 := NB173_172.out; have hnc59 := NB172_173.out; have hnb60 := NB173_174.out; have hnc60 := NB174_173.out; have hnb61 := NB173_175.out; have hnc61 := NB175_173.out; obtain ⟨hcz62_0, hcz62_1, hfz62_0, hfz62_1⟩ := cz2 BK173; obtain ⟨Ao63, co63, eo63⟩ := Kd.jW HO195.out; subst eo63) | ((with_reducible refine gC 94 rfl ?_); refine gl_ 45 Tryz.func94 #[.slice Ao63 t193.length co63, .slice A1_1 l1_1.length c1_1] ?_; (with_reducible refine (qN.calls k1 _ _ t193 _ _ l1_1 t196 _ ?side1 ?side2 (zc HR1_1) HC1_1.out A27.out).mono ?_); (case side1 => repeat (first | exact (Kd.qC HO195.out).2.2 | (with_reducible refine Kd.xK ?_ _) | (with_reducible refine Kd.xW ?_ _) | (with_reducible refine Kd.vK ?_))); (case side2 => exact (Kd.qC HO195.out).2.1); rintro e w64 ⟨rfl, hb⟩; refine ⟨_, rfl, ?_⟩; replace HO_6 := rb HO_6 hb; replace HO_7 := zQ.mk (Kd.qJ (by (with_reducible repeat (first | apply Kd.V_alloc | apply Kd.V_drewN | apply Kd.zT)); exact HO_7.out) hb); replace HO189 := rb HO189 hb; replace HO195 := zQ.mk (Kd.qJ (by (with_reducible repeat (first | apply Kd.V_alloc | apply Kd.V_drewN | apply Kd.zT)); exact HO195.out) hb); replace BK172 := bb BK172 hb; replace BK173 := bb BK173 hb; replace BK174 := bb BK174 hb; replace BK175 := bb BK175 hb; replace HB := hs w hb; (try clear hb)))
           go_roundg k1
           case measure => have := HK1.out; omega
           case rel => exact ⟨(x6_1), (t193), (wrap64 (x8_1 - 1)), ar, H', ⟨by have := HK1.out; omega⟩, ⟨by (with_reducible repeat (first | apply Kd.xU | apply Kd.xS | apply Kd.xw)); exact Kd.vw HO_6.out (fun _ hk => hk.1)⟩, ⟨by (with_reducible repeat (first | apply Kd.V_alloc | apply Kd.V_drewN | apply Kd.zT)); exact HO195.out⟩, ⟨(zk BK172)⟩, ⟨(zk BK173)⟩, ⟨(zk BK174)⟩, ⟨(zk BK175)⟩, ⟨(zb w)⟩⟩
         ·rw [if_neg c23] at H
          exact absurd H (by simp)
        ·rw [if_neg c21] at H
         exact absurd H (by simp)
       ·rw [if_neg c20] at H
        exact absurd H (by simp)
      ·rw [if_neg c18] at H
       exact absurd H (by simp)
     ·rw [if_neg c16] at H
      have c16b0 : decide (0 ≤ x8_1) = false := decide_eq_false c16
      clear c16
      replace H := Option.bind_eq_some_iff.mp H
      obtain ⟨⟨t179, t180⟩, A650, H⟩ := H
      try dsimp only at H
      have A65 := zQ.mk A650
      clear A650
      replace H := Option.bind_eq_some_iff.mp H
      obtain ⟨⟨t183, t184⟩, A660, H⟩ := H
      try dsimp only at H
      have A66 := zQ.mk A660
      clear A660
      simp only [Option.some.injEq, Prod.mk.injEq] at H
      obtain ⟨rfl, rfl, rfl, rfl⟩ := H
      obtain ⟨Ao67, co67, eo67⟩ := Kd.xx HO_6.out
      subst eo67
      go_wp2_with (first | ((with_reducible refine gC 82 rfl ?_); refine gl_ 62 Tryz.func82 #[.bool false, .slice Ao67 x6_1.length co67] ?_; (with_reducible refine (jT.calls k1 false (fun k_ => some k_ = (.slice Ao67 x6_1.length co67 : Value).ownBlock) _ _ x6_1 t179 t180 _ ?side1 A65.out).mono ?_); (case side1 => exact Kd.R_V (Kd.uU rfl (Kd.zB (Kd.zB (Kd.zB (Kd.zB (HO_6.out) BK172.out (by decide)) BK173.out (by decide)) BK174.out (by decide)) BK175.out (by decide)))); rintro e w68 ⟨v181, rfl, ho0, hb⟩; refine ⟨_, rfl, ?_⟩; replace HO_7 := zQ.mk (Kd.qJ (by (with_reducible repeat (first | apply Kd.V_alloc | apply Kd.V_drewN | apply Kd.zT)); exact HO_7.out) hb); have HO182 := zQ.mk (Kd.xJ (Kd.zR (ok' := fun k_ => (w.heap.size ≤ k_) ∧ k_ ≠ gb172 ∧ k_ ≠ gb173 ∧ k_ ≠ gb174 ∧ k_ ≠ gb175) ho0 (fun k_ hk_ => ⟨Or.elim hk_ (fun hs_ => ((Kd.zB (Kd.zB (Kd.zB (Kd.zB (HO_6.out) BK172.out (by decide)) BK173.out (by decide)) BK174.out (by decide)) BK175.out (by decide)).1 k_ hs_.symm).1.1.1.1) (fun hn_ => (Nat.le_trans (zy (zb w)) hn_)), Or.elim hk_ (fun hs_ => ((Kd.zB (Kd.zB (Kd.zB (Kd.zB (HO_6.out) BK172.out (by decide)) BK173.out (by decide)) BK174.out (by decide)) BK175.out (by decide)).1 k_ hs_.symm).1.1.1.2) (fun hn_ => (Kd.qH (g := gb172) (o := .cells #[.bool a0_0, .slice A0_1 l0_1.length c0_1] 96 (0, 0)) (zk BK172) k_ hn_)), Or.elim hk_ (fun hs_ => ((Kd.zB (Kd.zB (Kd.zB (Kd.zB (HO_6.out) BK172.out (by decide)) BK173.out (by decide)) BK174.out (by decide)) BK175.out (by decide)).1 k_ hs_.symm).1.1.2) (fun hn_ => (Kd.qH (g := gb173) (o := .cells #[.bool a1_0, .slice A1_1 l1_1.length c1_1] 96 (0, 0)) (zk BK173) k_ hn_)), Or.elim hk_ (fun hs_ => ((Kd.zB (Kd.zB (Kd.zB (Kd.zB (HO_6.out) BK172.out (by decide)) BK173.out (by decide)) BK174.out (by decide)) BK175.out (by decide)).1 k_ hs_.symm).1.2) (fun hn_ => (Kd.qH (g := gb174) (o := .cells #[.bool false, .slice none 0 0] 96 (0, 0)) (zk BK174) k_ hn_)), Or.elim hk_ (fun hs_ => ((Kd.zB (Kd.zB (Kd.zB (Kd.zB (HO_6.out) BK172.out (by decide)) BK173.out (by decide)) BK174.out (by decide)) BK175.out (by decide)).1 k_ hs_.symm).2) (fun hn_ => (Kd.qH (g := gb175) (o := .cells #[.bool false, .slice none 0 0] 96 (0, 0)) (zk BK175) k_ hn_))⟩)) (zy (zb w))); replace HO_6 := rb HO_6 hb; replace BK172 := bb BK172 hb; replace BK173 := bb BK173 hb; replace BK174 := bb BK174 hb; replace BK175 := bb BK175 hb; replace HB := hs w hb; (try clear hb); (try clear ho0); obtain ⟨Ao69, co69, eo69⟩ := Kd.jW HO_7.out; subst eo69) | ((with_reducible refine gC 82 rfl ?_); refine gl_ 64 Tryz.func82 #[.bool false, .slice Ao69 x7_1.length co69] ?_; (with_reducible refine (jT.calls k1 false (fun k_ => ((w.heap.size ≤ k_) ∧ (some k_ ≠ (.slice Ao67 x6_1.length co67 : Value).ownBlock ∧ (k_ ≠ gb172 ∧ (k_ ≠ gb173 ∧ (k_ ≠ gb174 ∧ k_ ≠ gb175)))))) _ _ x7_1 t183 t184 _ HO_7.out A66.out).mono ?_); rintro e w70 ⟨v185, rfl, ho0, hb⟩; refine ⟨_, rfl, ?_⟩; replace HO_7 := zQ.mk (Kd.qJ (by (with_reducible repeat (first | apply Kd.V_alloc | apply Kd.V_drewN | apply Kd.zT)); exact HO_7.out) hb); replace HO182 := zQ.mk (Kd.qJ (by (with_reducible repeat (first | apply Kd.V_alloc | apply Kd.V_drewN | apply Kd.zT)); exact HO182.out) hb); have HO186 := zQ.mk (Kd.xJ (Kd.zR (ok' := fun k_ => (w.heap.size ≤ k_) ∧ some k_ ≠ (.slice Ao67 x6_1.length co67 : Value).ownBlock ∧ k_ ≠ gb172 ∧ k_ ≠ gb173 ∧ k_ ≠ gb174 ∧ k_ ≠ gb175) ho0 (fun k_ hk_ => ⟨Or.elim hk_ (fun hs_ => hs_.1) (fun hn_ => (Nat.le_trans (zy (zb w)) hn_)), Or.elim hk_ (fun hs_ => hs_.2.1) (fun hn_ => (Kd.fresh' (Kd.R_lt (zo HO_6)) k_ hn_)), Or.elim hk_ (fun hs_ => hs_.2.2.1) (fun hn_ => (Kd.qH (g := gb172) (o := .cells #[.bool a0_0, .slice A0_1 l0_1.length c0_1] 96 (0, 0)) (zk BK172) k_ hn_)), Or.elim hk_ (fun hs_ => hs_.2.2.2.1) (fun hn_ => (Kd.qH (g := gb173) (o := .cells #[.bool a1_0, .slice A1_1 l1_1.length c1_1] 96 (0, 0)) (zk BK173) k_ hn_)), Or.elim hk_ (fun hs_ => hs_.2.2.2.2.1) (fun hn_ => (Kd.qH (g := gb174) (o := .cells #[.bool false, .slice none 0 0] 96 (0, 0)) (zk BK174) k_ hn_)), Or.elim hk_ (fun hs_ => hs_.2.2.2.2.2) (fun hn_ => (Kd.qH (g := gb175) (o := .cells #[.bool false, .slice none 0 0] 96 (0, 0)) (zk BK175) k_ hn_))⟩)) (zy (zb w))); replace HO_6 := rb HO_6 hb; replace BK172 := bb BK172 hb; replace BK173 := bb BK173 hb; replace BK174 := bb BK174 hb; replace BK175 := bb BK175 hb; replace HB := hs w hb; (try clear hb); (try clear ho0); have hnb71 := NB174_172.out; have hnc71 := NB172_174.out; have hnb72 := NB174_173.out; have hnc72 := NB173_174.out; have hnb73 := NB174_175.out; have hnc73 := NB175_174.out; obtain ⟨hcz74_0, hcz74_1, hfz74_0, hfz74_1⟩ := cz2 BK174; obtain ⟨Ao75, co75, eo75⟩ := Kd.jW HO182.out; subst eo75; have hnb76 := NB175_172.out; have hnc76 := NB172_175.out; have hnb77 := NB175_173.out; have hnc77 := NB173_175.out; obtain ⟨hcz78_0, hcz78_1, hfz78_0, hfz78_1⟩ := cz2 BK175; obtain ⟨Ao79, co79, eo79⟩ := Kd.jW HO186.out; subst eo79))
      refine bodyPost_ret (qJc rfl _ _ gb174 gb175 96 96 #[.bool t179, .slice Ao75 t180.length co75] #[.bool t183, .slice Ao79 t184.length co79] (0, 0) (0, 0) _ _ rfl (by (with_reducible repeat (first | refine zJ ?_ _ | refine zK ?_ | refine zZ ?_ _)); refine zF ?_ NB174_175.out _; (with_reducible repeat (first | refine zJ ?_ _ | refine zK ?_ | refine zZ ?_ _)); refine zF ?_ NB174_175.out _; (with_reducible repeat (first | refine zJ ?_ _ | refine zK ?_ | refine zZ ?_ _)); refine zL (cs := #[.bool t179, .slice none 0 0]) ?_ 1 _ rfl; (with_reducible repeat (first | refine zJ ?_ _ | refine zK ?_ | refine zZ ?_ _)); refine zL (cs := #[.bool false, .slice none 0 0]) ?_ 0 _ rfl; exact zk BK174) Tryz.underlying96 rfl (by kernel_rfl) rfl (by (with_reducible repeat (first | refine zJ ?_ _ | refine zK ?_ | refine zZ ?_ _)); refine zL (cs := #[.bool t183, .slice none 0 0]) ?_ 1 _ rfl; (with_reducible repeat (first | refine zJ ?_ _ | refine zK ?_ | refine zZ ?_ _)); refine zL (cs := #[.bool false, .slice none 0 0]) ?_ 0 _ rfl; (with_reducible repeat (first | refine zJ ?_ _ | refine zK ?_ | refine zZ ?_ _)); refine zF ?_ NB175_174.out _; (with_reducible repeat (first | refine zJ ?_ _ | refine zK ?_ | refine zZ ?_ _)); refine zF ?_ NB175_174.out _; exact zk BK175) Tryz.underlying96 rfl (by kernel_rfl)) rfl ?_
      exact ⟨_, _, by first | rfl | (simp [zq, zY] <;> rfl) | (simp [*, zq, zY] <;> rfl), by (with_reducible repeat (first | apply Kd.V_alloc | apply Kd.V_drewN | apply Kd.zT)); exact Kd.zR (Kd.qL (p := ⟨gb175, 1, none⟩) (Kd.qL (p := ⟨gb175, 0, none⟩) (Kd.qL (p := ⟨gb174, 1, none⟩) (Kd.qL (p := ⟨gb174, 0, none⟩) (Kd.zR (Kd.zR HO182.out (fun k_ hk => (⟨hk, hk.2.2.2.1⟩ : _ ∧ k_ ≠ gb174))) (fun k_ hk => (⟨hk, hk.1.2.2.2.2⟩ : _ ∧ k_ ≠ gb175))) (fun _ hk => hk.1.2) (.bool t179)) (fun _ hk => hk.1.2) (.slice Ao75 t180.length co75)) (fun _ hk => hk.2) (.bool t183)) (fun _ hk => hk.2) (.slice Ao79 t184.length co79)) (fun _ hk => hk.1.1.1), by (with_reducible repeat (first | apply Kd.V_alloc | apply Kd.V_drewN | apply Kd.zT)); exact Kd.zR (Kd.qL (p := ⟨gb175, 1, none⟩) (Kd.qL (p := ⟨gb175, 0, none⟩) (Kd.qL (p := ⟨gb174, 1, none⟩) (Kd.qL (p := ⟨gb174, 0, none⟩) (Kd.zR (Kd.zR HO186.out (fun k_ hk => (⟨hk, hk.2.2.2.2.1⟩ : _ ∧ k_ ≠ gb174))) (fun k_ hk => (⟨hk, hk.1.2.2.2.2.2⟩ : _ ∧ k_ ≠ gb175))) (fun _ hk => hk.1.2) (.bool t179)) (fun _ hk => hk.1.2) (.slice Ao75 t180.length co75)) (fun _ hk => hk.2) (.bool t183)) (fun _ hk => hk.2) (.slice Ao79 t184.length co79)) (fun _ hk => hk.1.1.1), (zb w)⟩
  ·rw [if_neg c4] at H
   exact absurd H (by simp)
 ·rw [if_neg c3] at H
  exact absurd H (by simp)
def jS.f (a0_0 : Bool) (l0_1 : List Int) : Option (Int) := if a0_0 = true then (some (-1)) else (if (l0_1.length : Int) = 0 then (some 0) else (some 1))
theorem jS.calls (a0_0 : Bool) (A0_1 : Option Addr) (c0_1 : Nat) (l0_1 : List Int) (r : Int) (w : World) (hr0_1 : Kd.C (Kd.int .u32) w A0_1 l0_1.length l0_1) (hc0_1 : l0_1.length ≤ c0_1) (h : jS.f a0_0 l0_1 = some r) :
  Calls Tryz.prog 79 #[.agg #[.bool a0_0, .slice A0_1 l0_1.length c0_1]] w fun e w' => e = .returned (.int .i64 r) ∧ Below w.heap.size w w' := by
 have hu96 := Tryz.underlying96
 have HR0_1 := zQ.mk hr0_1
 have HC0_1 := zQ.mk hc0_1
 clear hr0_1 hc0_1
 have HB := zQ.mk (Below.refl w.heap.size w)
 have H := h
 unfold jS.f at H
 clear h
 by_cases c2 : a0_0 = true
 ·subst c2
  have H1 : (some (-1)) = some r := by rw [if_pos rfl] at H; exact H
  clear H
  have H := H1
  clear H1
  obtain rfl := Option.some.inj H
  go_enter Tryz.func79, Tryz.ntmps79
  go_wp2_with (first | ((with_reducible refine gD 1 rfl ?_); refine bx w 1 #[.bool true, .slice A0_1 l0_1.length c0_1] 96 ?_; intro gb202 hg w3 hb BK202 GW202 GE202; clear HB; intro HB; clear hb hg; obtain ⟨hcz4_0, hcz4_1, hfz4_0, hfz4_1⟩ := cz2 BK202))
  go_ret
  exact ⟨by first | rfl | (simp [zq, zY] <;> rfl) | (simp [*, zq, zY] <;> rfl), (zb w)⟩
 ·replace c2 := Bool.eq_false_iff.mpr c2
  subst c2
  have H1 : (if (l0_1.length : Int) = 0 then (some 0) else (some 1)) = some r := by rw [if_neg (show ¬ (false = true) by decide)] at H; exact H
  clear H
  have H := H1
  clear H1
  by_cases c5 : (l0_1.length : Int) = 0
  ·rw [if_pos c5] at H
   have c5b0 : ((l0_1.length : Int) == 0) = true := beq_iff_eq.mpr c5
   have c5b1 : ((l0_1.length : Int) != 0) = false := bne_eq_false_iff_eq.mpr c5
   clear c5
   obtain rfl := Option.some.inj H
   go_enter Tryz.func79, Tryz.ntmps79
   go_wp2_with (first | ((with_reducible refine gD 1 rfl ?_); refine bx w 1 #[.bool false, .slice A0_1 l0_1.length c0_1] 96 ?_; intro gb202 hg w6 hb BK202 GW202 GE202; clear HB; intro HB; clear hb hg; obtain ⟨hcz7_0, hcz7_1, hfz7_0, hfz7_1⟩ := cz2 BK202))
   go_ret
   exact ⟨by first | rfl | (simp [zq, zY] <;> rfl) | (simp [*, zq, zY] <;> rfl), (zb w)⟩
  ·rw [if_neg c5] at H
   have c5b0 : ((l0_1.length : Int) == 0) = false := beq_eq_false_iff_ne.mpr c5
   have c5b1 : ((l0_1.length : Int) != 0) = true := bne_iff_ne.mpr c5
   have c5b2 : ¬ (l0_1 = []) := fun h_ => c5 (by rw [h_]; rfl)
   obtain rfl := Option.some.inj H
   go_enter Tryz.func79, Tryz.ntmps79
   go_wp2_with (first | ((with_reducible refine gD 1 rfl ?_); refine bx w 1 #[.bool false, .slice A0_1 l0_1.length c0_1] 96 ?_; intro gb202 hg w8 hb BK202 GW202 GE202; clear HB; intro HB; clear hb hg; obtain ⟨hcz9_0, hcz9_1, hfz9_0, hfz9_1⟩ := cz2 BK202))
   go_ret
   exact ⟨by first | rfl | (simp [zq, zY] <;> rfl) | (simp [*, zq, zY] <;> rfl), (zb w)⟩
end Go.Proofs.YtaihfoihlbileaaGreatDoor.R7
