/- slices.SortStableFunc's family, walked at a row of pointers: swapRange, rotate. The row holds what the plain functions of SortA make of it. -/
import Derived.Test.YtaihfoihlbileaaDoorProg
import Derived.Test.YtaihfoihlbileaaDoorR4sa
import Derived.Sort.WalkC
import Derived.Sort.WalkA
import Derived.Deep.LoopGhost
import Derived.Deep.QuietTactic
import Derived.BigQuiet
import Derived.BigRegion
import Derived.WalkKit
import Derived.Laws.BitsLemmas
import Derived.Shelf.SlicesE.Kit
import Derived.KernelRfl
namespace Go.Proofs.YtaihfoihlbileaaDoor.R4
open Go Go.Proofs Go.Shelf Go.RowKit Go.Lib Go.Sort
variable {α : Type} [Inhabited α]

set_option maxHeartbeats 1000000 in
set_option maxRecDepth 1000000 in
theorem swapRange_calls (enc : α → Value) (hO : OneCell enc) (blk off cap : Nat) (d : Array α) (a b n : Nat) (cmpv : Value) (w : World) (hH : Holds enc w blk off d) (ha : a + n ≤ d.size) (hb : b + n ≤ d.size) (hab : a ≠ b) (hsz : d.size < 4611686018427387904) :
    Calls Tryd.prog 79 #[.slice (some ⟨blk, off, none⟩) d.size cap, .int .i64 a, .int .i64 b, .int .i64 n, cmpv] w fun e w' => e = .returned (.tuple #[]) ∧ ∃ q, w' = (putRow enc w blk off (swapR d a b n)).drewN q := by
  have hcl0 := hO.cells
  simp only [Value.cells] at hcl0
  have hst := hO.store Tryd.prog
  have HST : Hid (w = (putRow enc w blk off d).drewN 0) := (putRow_self enc w blk off d hH).symm
  have HH : Hid (Holds enc w blk off d) := hH
  clear hH
  go_enter Tryd.func79, Tryd.ntmps79
  go_wp2
  go_loopg [10] n (fun g1 vi wr => ∃ (i q : Nat), vi = .int .i64 i ∧ i ≤ n ∧ n - i ≤ g1 ∧ wr = (putRow enc w blk off (swapR d a b i)).drewN q)
  case atStart => exact ⟨0, 0, by go_num, by omega, by omega, HST.out⟩
  case round =>
    obtain ⟨i, q, rfl, hi, hg1, rfl⟩ := hrel
    by_cases hlt : i < n
    · have hltz : (i : Int) < (n : Int) := by omega
      have hsi := swapR_size d a b i
      have hHi := holds_putRow enc w blk off d (swapR d a b i) HH.out hsi
      obtain ⟨xa, hxa⟩ : ∃ x, (swapR d a b i)[a + i]! = x := ⟨_, rfl⟩
      obtain ⟨xb, hxb⟩ : ∃ x, (swapR d a b i)[b + i]! = x := ⟨_, rfl⟩
      obtain ⟨ca, fa⟩ := hHi (a + i) (by omega)
      obtain ⟨cb, fb⟩ := hHi (b + i) (by omega)
      rw [hxa] at ca
      rw [hxb] at cb
      clear hHi
      have ca' : ((putRow enc w blk off (swapR d a b i)).drewN q).cell? ⟨blk, off + (a + i), none⟩ = some (enc xa) := ca
      have cb' : ((putRow enc w blk off (swapR d a b i)).drewN q).cell? ⟨blk, off + (b + i), none⟩ = some (enc xb) := cb
      have fa' : ((putRow enc w blk off (swapR d a b i)).drewN q).frozen? ⟨blk, off + (a + i), none⟩ = false := fa
      have fb' : ((putRow enc w blk off (swapR d a b i)).drewN q).frozen? ⟨blk, off + (b + i), none⟩ = false := fb
      clear ca cb fa fb
      generalize hwq : (putRow enc w blk off (swapR d a b i)).drewN q = wq at ca' cb' fa' fb' ⊢
      have HWQ : Hid (wq = (putRow enc w blk off (swapR d a b i)).drewN q) := hwq.symm
      clear hwq
      have wa : IntKind.i64.wrap ((a : Int) + (i : Int)) = ((a + i : Nat) : Int) := by rw [IntKind.wrap_i64]; omega
      have wb : IntKind.i64.wrap ((b : Int) + (i : Int)) = ((b + i : Nat) : Int) := by rw [IntKind.wrap_i64]; omega
      have za : ((a + i : Nat) : Int) < (d.size : Int) := by omega
      have zb : ((b + i : Nat) : Int) < (d.size : Int) := by omega
      have pa : (0 : Int) ≤ ((a + i : Nat) : Int) := by omega
      have pb : (0 : Int) ≤ ((b + i : Nat) : Int) := by omega
      have ea : (((a + i : Nat) : Int)).toNat = a + i := by omega
      have eb : (((b + i : Nat) : Int)).toNat = b + i := by omega
      obtain ⟨p1, hp1⟩ : ∃ p, p = a + i := ⟨_, rfl⟩
      obtain ⟨p2, hp2⟩ : ∃ p, p = b + i := ⟨_, rfl⟩
      rw [← hp1] at ca' fa' wa za pa ea hxa
      rw [← hp2] at cb' fb' wb zb pb eb hxb
      have HP1 : Hid (p1 = a + i) := hp1
      have HP2 : Hid (p2 = b + i) := hp2
      clear hp1 hp2
      have hne : (⟨blk, off + p1, none⟩ : Addr) ≠ ⟨blk, off + p2, none⟩ := by
        intro e
        have h1 : off + p1 = off + p2 := congrArg Addr.off e
        have h2 := HP1.out
        have h3 := HP2.out
        omega
      have cb2 : (wq.setCell ⟨blk, off + p1, none⟩ (enc xb)).drew.cell? ⟨blk, off + p2, none⟩ = some (enc xb) := (World.cell?_setCell_other (w := wq) (v := enc xb) (h := hne)).trans cb'
      have fb2 : (wq.setCell ⟨blk, off + p1, none⟩ (enc xb)).drew.frozen? ⟨blk, off + p2, none⟩ = false := (World.frozen?_setCell ..).trans fb'
      go_wp2
      go_big_region
      all_goals go_wp2
      go_roundg (n - (i + 1))
      case measure => omega
      case rel =>
        refine ⟨i + 1, q + 1, by go_num, by omega, by omega, ?_⟩
        rw [HWQ.out, ← hxa, ← hxb, HP1.out, HP2.out]
        exact swap_worldC enc w blk off (swapR d a b i) q (a + i) (b + i) (by omega) (by omega)
    · have hltz : ¬ (i : Int) < (n : Int) := by omega
      obtain rfl : i = n := by omega
      go_wp2
      go_end0
      exact ⟨rfl, q, rfl⟩
theorem putRow_again (enc : α → Value) (w : World) (blk off : Nat) (d d' : Array α) (q q' : Nat) (h : d'.size = d.size) : (putRow enc ((putRow enc w blk off d).drewN q) blk off d').drewN q' = (putRow enc w blk off d').drewN (q + q') := by
  rw [show putRow enc ((putRow enc w blk off d).drewN q) blk off d' = (putRow enc (putRow enc w blk off d) blk off d').drewN q from rfl, putRow_putRow _ _ _ _ _ _ h, World.drewN_drewN]
theorem holds_again (enc : α → Value) (w : World) (blk off : Nat) (d d' : Array α) (q : Nat) (hH : Holds enc w blk off d) (h : d'.size = d.size) : Holds enc ((putRow enc w blk off d').drewN q) blk off d' := fun j hj => holds_putRow enc w blk off d d' hH h j hj
theorem swapRange_at (enc : α → Value) (hO : OneCell enc) (blk off cap : Nat) (d dk : Array α) (a b n q : Nat) (cmpv : Value) (w : World) (hH : Holds enc w blk off d) (hs : dk.size = d.size) (ha : a + n ≤ d.size) (hb : b + n ≤ d.size) (hab : a ≠ b) (hsz : d.size < 4611686018427387904) :
    Calls Tryd.prog 79 #[.slice (some ⟨blk, off, none⟩) d.size cap, .int .i64 a, .int .i64 b, .int .i64 n, cmpv] ((putRow enc w blk off dk).drewN q) fun e w' => e = .returned (.tuple #[]) ∧ ∃ q', w' = (putRow enc w blk off (swapR dk a b n)).drewN q' := by
  have h := swapRange_calls enc hO blk off cap dk a b n cmpv ((putRow enc w blk off dk).drewN q) (holds_again enc w blk off d dk q hH hs) (by omega) (by omega) hab (by omega)
  rw [hs] at h
  refine h.mono fun e w' ⟨he, q', hw⟩ => ⟨he, q + q', ?_⟩
  rw [hw, putRow_again _ _ _ _ _ _ _ _ (swapR_size ..)]

set_option maxHeartbeats 1000000 in
set_option maxRecDepth 1000000 in
theorem rotate_calls (enc : α → Value) (hO : OneCell enc) (blk off cap : Nat) (d : Array α) (a m b : Nat) (cmpv : Value) (w : World) (hH : Holds enc w blk off d) (ha : a < m) (hm : m < b) (hb : b ≤ d.size) (hsz : d.size < 4611686018427387904) :
    Calls Tryd.prog 74 #[.slice (some ⟨blk, off, none⟩) d.size cap, .int .i64 a, .int .i64 m, .int .i64 b, cmpv] w fun e w' => e = .returned (.tuple #[]) ∧ ∃ q, w' = (putRow enc w blk off (rotA d a m b)).drewN q := by
  have HST : Hid (w = (putRow enc w blk off d).drewN 0) := (putRow_self enc w blk off d hH).symm
  have HH : Hid (Holds enc w blk off d) := hH
  have wi : IntKind.i64.wrap ((m : Int) - (a : Int)) = ((m - a : Nat) : Int) := by rw [IntKind.wrap_i64]; omega
  have wj : IntKind.i64.wrap ((b : Int) - (m : Int)) = ((b - m : Nat) : Int) := by rw [IntKind.wrap_i64]; omega
  clear hH
  go_enter Tryd.func74, Tryd.ntmps74
  go_wp2
  go_loopg [10, 11] (b - a) (fun g1 vi vj wr => ∃ (i j q : Nat) (dk : Array α), vi = .int .i64 i ∧ vj = .int .i64 j ∧ 0 < i ∧ 0 < j ∧ i ≤ m ∧ m + j ≤ d.size ∧ i + j ≤ g1 ∧ dk.size = d.size ∧ wr = (putRow enc w blk off dk).drewN q ∧ Hid (rotL m i j dk = rotA d a m b))
  case atStart => exact ⟨m - a, b - m, 0, d, rfl, rfl, by omega, by omega, by omega, by omega, by omega, rfl, HST.out, rfl⟩
  case round =>
    obtain ⟨i, j, q, dk, rfl, rfl, hi, hj, him, hjm, hg1, hsk, rfl, HR⟩ := hrel
    clear wi wj
    have wmi : IntKind.i64.wrap ((m : Int) - (i : Int)) = ((m - i : Nat) : Int) := by rw [IntKind.wrap_i64]; omega
    by_cases hij : i = j
    · subst hij
      have hc := swapRange_at enc hO blk off cap d dk (m - i) m i q cmpv w HH.out hsk (by omega) (by omega) (by omega) hsz
      generalize (putRow enc w blk off dk).drewN q = wq at hc ⊢
      go_wp2_with (go_at_call 79; refine hc.mono ?_; rintro e w' ⟨rfl, q', rfl⟩)
      go_end0
      refine ⟨rfl, q', ?_⟩
      rw [← HR.out, rotL, if_pos rfl]
    · have hijz : ¬ (i : Int) = (j : Int) := by omega
      by_cases hlt : j < i
      · have hltz : (j : Int) < (i : Int) := by omega
        have wij : IntKind.i64.wrap ((i : Int) - (j : Int)) = ((i - j : Nat) : Int) := by rw [IntKind.wrap_i64]; omega
        have hc := swapRange_at enc hO blk off cap d dk (m - i) m j q cmpv w HH.out hsk (by omega) (by omega) (by omega) hsz
        generalize (putRow enc w blk off dk).drewN q = wq at hc ⊢
        go_wp2_with (go_at_call 79; refine hc.mono ?_; rintro e w' ⟨rfl, q', rfl⟩)
        go_roundg (i - j + j)
        case measure => omega
        case rel =>
          refine ⟨i - j, j, q', swapR dk (m - i) m j, rfl, rfl, by omega, hj, by omega, hjm, by omega, by rw [swapR_size]; exact hsk, rfl, (show _ = _ from ?_)⟩
          rw [← HR.out, rotL.eq_1 m i j, if_neg hij, if_neg (by omega), if_pos hlt]
      · have hltz : ¬ (j : Int) < (i : Int) := by omega
        have wij : IntKind.i64.wrap ((j : Int) - (i : Int)) = ((j - i : Nat) : Int) := by rw [IntKind.wrap_i64]; omega
        obtain ⟨mj, hmj⟩ : ∃ x, x = m + j := ⟨_, rfl⟩
        have wmj : IntKind.i64.wrap ((m : Int) + (j : Int)) = (mj : Int) := by rw [IntKind.wrap_i64]; omega
        have wmji : IntKind.i64.wrap ((mj : Int) - (i : Int)) = ((mj - i : Nat) : Int) := by rw [IntKind.wrap_i64]; omega
        have hc := swapRange_at enc hO blk off cap d dk (m - i) (mj - i) i q cmpv w HH.out hsk (by omega) (by omega) (by omega) hsz
        have HMJ : Hid (mj = m + j) := hmj
        clear hmj
        generalize (putRow enc w blk off dk).drewN q = wq at hc ⊢
        go_wp2_with (go_at_call 79; refine hc.mono ?_; rintro e w' ⟨rfl, q', rfl⟩)
        go_roundg (i + (j - i))
        case measure => omega
        case rel =>
          refine ⟨i, j - i, q', swapR dk (m - i) (mj - i) i, rfl, rfl, hi, by omega, him, by omega, by omega, by rw [swapR_size]; exact hsk, rfl, (show _ = _ from ?_)⟩
          rw [← HR.out, HMJ.out, rotL.eq_1 m i j, if_neg hij, if_neg (by omega), if_neg hlt]
end Go.Proofs.YtaihfoihlbileaaDoor.R4
