/- slices.symMergeCmpFunc, walked at a row of pointers. -/
import Derived.Test.YtaihfoihlbileaaDoorR4sw
namespace Go.Proofs.YtaihfoihlbileaaDoor.R4
open Go Go.Proofs Go.Shelf Go.RowKit Go.Lib Go.Sort
variable {α : Type} [Inhabited α]

/-- 'cmp', whatever the row holds, however many draws on -/
theorem cmpAt {g : Nat} {cb : Array Value} {enc : α → Value} {cf : α → α → Int} {blk off : Nat} {d : Array α} {w : World} (hcmp : CmpReads Tryd.prog g cb enc cf blk off d.size w) (X : Array α) (x y : α) (hX : X.size = d.size) (m n : Nat) :
    Calls Tryd.prog g (#[enc x, enc y] ++ cb) (((putRow enc w blk off X).drewN m).drewN n) fun e w' => e = .returned (.int .i64 (cf x y)) ∧ ∃ q, w' = (((putRow enc w blk off X).drewN m).drewN n).drewN q := by
  have := hcmp (m + n) #[] X hX x y
  rw [sortWorld_none, ← World.drewN_drewN] at this
  exact this

set_option maxHeartbeats 1000000 in
set_option maxRecDepth 1000000 in
theorem symMerge_left (enc : α → Value) (hO : OneCell enc) (cf : α → α → Int) (g : Nat) (cb : Array Value) (blk off cap : Nat) (d dk : Array α) (a m b q : Nat) (w : World) (eg : ∀ args w, (callFunc g args).run Tryd.prog w = .ok (.enter g args) w) (hcmp : CmpReads Tryd.prog g cb enc cf blk off d.size w)
    (hH : Holds enc w blk off d) (hs : dk.size = d.size) (ha : m = a + 1) (hm : m < b) (hb : b ≤ d.size) (hsz : d.size < 4611686018427387904) :
    Calls Tryd.prog 61 #[.slice (some ⟨blk, off, none⟩) d.size cap, .int .i64 a, .int .i64 m, .int .i64 b, .func (.func g) #[] cb] ((putRow enc w blk off dk).drewN q) fun e w' => e = .returned (.tuple #[]) ∧ ∃ q, w' = (putRow enc w blk off (shiftU dk a (bsL (fun h => decide (cf dk[h]! dk[a]! < 0)) m b - 1 - a))).drewN q := by
  have HC : Aside _ := fun (X : Array α) x y hX m n => cmpAt hcmp X x y hX m n
  have HH : Hid (Holds enc w blk off d) := hH
  have wma : IntKind.i64.wrap ((m : Int) - (a : Int)) = 1 := by rw [IntKind.wrap_i64]; omega
  have hcl0 := hO.cells
  simp only [Value.cells] at hcl0
  have hst := hO.store Tryd.prog
  have hm1 : a < m := by omega
  have hm2 : m ≤ a + 1 := by omega
  clear hH hcmp ha
  go_enter Tryd.func61, Tryd.ntmps61
  go_wp2
  go_loopg [10, 11] b (fun g1 vi vj wr => ∃ (i j q1 : Nat), vi = .int .i64 i ∧ vj = .int .i64 j ∧ m ≤ i ∧ i ≤ j ∧ j ≤ b ∧ j - i ≤ g1 ∧ wr = (putRow enc w blk off dk).drewN q1 ∧ Hid (bsL (fun h => decide (cf dk[h]! dk[a]! < 0)) i j = bsL (fun h => decide (cf dk[h]! dk[a]! < 0)) m b))
  case atStart => exact ⟨m, b, q, rfl, rfl, Nat.le_refl _, by omega, Nat.le_refl _, by omega, rfl, rfl⟩
  case round =>
    obtain ⟨i, j, q1, rfl, rfl, hmi, hij, hjb, hg1, rfl, HB⟩ := hrel
    by_cases hlt : i < j
    · have hltz : (i : Int) < (j : Int) := by omega
      obtain ⟨h, hh⟩ : ∃ h, h = (i + j) / 2 := ⟨_, rfl⟩
      have eh : Hid (((i : Int) + (j : Int)) / 2 = (h : Int)) := (by show _ = _; omega)
      have hih : i ≤ h := by omega
      have hhj : h < j := by omega
      obtain ⟨xh, hxh⟩ : ∃ x, dk[h]! = x := ⟨_, rfl⟩
      obtain ⟨xa, hxa⟩ : ∃ x, dk[a]! = x := ⟨_, rfl⟩
      have hHk := holds_putRow enc w blk off d dk HH.out hs
      obtain ⟨ch, fh⟩ := hHk h (by omega)
      obtain ⟨ca, fa⟩ := hHk a (by omega)
      rw [hxh] at ch
      rw [hxa] at ca
      have zh : (h : Int) < (d.size : Int) := by omega
      have za : (a : Int) < (d.size : Int) := by omega
      have ph : (0 : Int) ≤ (h : Int) := by omega
      have pa : (0 : Int) ≤ (a : Int) := by omega
      have hh2 : ((h : Int)).toNat = h := by omega
      have ha2 : ((a : Int)).toNat = a := by omega
      have ch' : ((putRow enc w blk off dk).drewN q1).cell? ⟨blk, off + h, none⟩ = some (enc xh) := ch
      have ca' : ((putRow enc w blk off dk).drewN q1).cell? ⟨blk, off + a, none⟩ = some (enc xa) := ca
      have hc := HC.out dk xh xa hs q1
      clear hHk ch ca fh fa
      have HHH : Hid (h = (i + j) / 2) := hh
      clear hh
      go_wp2
      rw [eh.out]
      generalize hwq : (putRow enc w blk off dk).drewN q1 = wq at ch' ca' hc ⊢
      by_cases hlv : cf xh xa < 0
      · go_wp2_with fail
        go_quiet (first | (go_at_fn g; refine Calls.quiet_of (hc _)))
        go_wp2_with fail
        go_roundg (j - (h + 1))
        case measure => omega
        case rel =>
          refine ⟨h + 1, j, q1 + nq, by go_num, rfl, by omega, by omega, hjb, Nat.le_refl _, by rw [← hwq, World.drewN_drewN], (show _ = _ from ?_)⟩
          rw [← HB.out, bsL.eq_1 _ i j, if_pos hlt, ← HHH.out, if_pos (by rw [hxh, hxa]; exact decide_eq_true hlv)]
      · go_wp2_with fail
        go_quiet (first | (go_at_fn g; refine Calls.quiet_of (hc _)))
        go_wp2_with fail
        go_roundg (h - i)
        case measure => omega
        case rel =>
          refine ⟨i, h, q1 + nq, rfl, rfl, hmi, hih, by omega, Nat.le_refl _, by rw [← hwq, World.drewN_drewN], (show _ = _ from ?_)⟩
          rw [← HB.out, bsL.eq_1 _ i j, if_pos hlt, ← HHH.out, if_neg (by rw [hxh, hxa]; simpa using hlv)]
    · have hltz : ¬ (i : Int) < (j : Int) := by omega
      obtain rfl : i = j := by omega
      have ht : Hid (bsL (fun h => decide (cf dk[h]! dk[a]! < 0)) m b = i) := by
        show _ = _
        rw [← HB.out, bsL, if_neg (by omega)]
      clear HB hg1
      go_wp2
      go_loopg [13] (i - 1 - a) (fun g2 vk wr2 => ∃ (k c q2 : Nat), vk = .int .i64 c ∧ Hid (c = a + k) ∧ k ≤ i - 1 - a ∧ i - 1 - a - k ≤ g2 ∧ wr2 = (putRow enc w blk off (shiftU dk a k)).drewN q2)
      case atStart => exact ⟨0, a, q1, rfl, rfl, by omega, by omega, rfl⟩
      case round =>
        obtain ⟨k, c, q2, rfl, HCK, hk, hg2, rfl⟩ := hrel
        have hck := HCK.out
        by_cases hlt2 : c < i - 1
        · have hltz2 : (c : Int) < (i : Int) - 1 := by omega
          have hki : a + k < i - 1 := by omega
          have hsk : (shiftU dk a k).size = d.size := by rw [shiftU_size, hs]
          have hHk := holds_putRow enc w blk off d (shiftU dk a k) HH.out hsk
          obtain ⟨x1, hx1⟩ : ∃ x, (shiftU dk a k)[c]! = x := ⟨_, rfl⟩
          obtain ⟨x2, hx2⟩ : ∃ x, (shiftU dk a k)[c + 1]! = x := ⟨_, rfl⟩
          obtain ⟨c1, f1⟩ := hHk c (by omega)
          obtain ⟨c2, f2⟩ := hHk (c + 1) (by omega)
          rw [hx1] at c1
          rw [hx2] at c2
          have c1' : ((putRow enc w blk off (shiftU dk a k)).drewN q2).cell? ⟨blk, off + c, none⟩ = some (enc x1) := c1
          have c2' : ((putRow enc w blk off (shiftU dk a k)).drewN q2).cell? ⟨blk, off + (c + 1), none⟩ = some (enc x2) := c2
          have f1' : ((putRow enc w blk off (shiftU dk a k)).drewN q2).frozen? ⟨blk, off + c, none⟩ = false := f1
          have f2' : ((putRow enc w blk off (shiftU dk a k)).drewN q2).frozen? ⟨blk, off + (c + 1), none⟩ = false := f2
          clear hHk c1 c2 f1 f2
          obtain ⟨p2, hp2⟩ : ∃ p, p = c + 1 := ⟨_, rfl⟩
          have wp : IntKind.i64.wrap ((c : Int) + 1) = (p2 : Int) := by rw [IntKind.wrap_i64]; omega
          have z1 : (c : Int) < (d.size : Int) := by omega
          have z2 : (p2 : Int) < (d.size : Int) := by omega
          have e1 : ((c : Int)).toNat = c := by omega
          have e2 : ((p2 : Int)).toNat = p2 := by omega
          have n1 : (0 : Int) ≤ (c : Int) := by omega
          have n2 : (0 : Int) ≤ (p2 : Int) := by omega
          rw [← hp2] at c2' f2' hx2
          generalize hwq : (putRow enc w blk off (shiftU dk a k)).drewN q2 = wq at c1' c2' f1' f2' ⊢
          have HWQ : Hid (wq = (putRow enc w blk off (shiftU dk a k)).drewN q2) := hwq.symm
          have hne : (⟨blk, off + c, none⟩ : Addr) ≠ ⟨blk, off + p2, none⟩ := by
            intro e
            have h1 : off + c = off + p2 := congrArg Addr.off e
            omega
          have c3 : (wq.setCell ⟨blk, off + c, none⟩ (enc x2)).drew.cell? ⟨blk, off + p2, none⟩ = some (enc x2) := (World.cell?_setCell_other (w := wq) (v := enc x2) (h := hne)).trans c2'
          have f3 : (wq.setCell ⟨blk, off + c, none⟩ (enc x2)).drew.frozen? ⟨blk, off + p2, none⟩ = false := (World.frozen?_setCell ..).trans f2'
          have HP2 : Hid (p2 = c + 1) := hp2
          clear hwq hp2 hck
          go_wp2
          go_big_region
          all_goals go_wp2
          go_roundg (i - 1 - a - (k + 1))
          case measure => omega
          case rel =>
            have hck := HCK.out
            have hp2 := HP2.out
            refine ⟨k + 1, c + 1, q2 + 1, by go_num, (show _ = _ from by omega), by omega, Nat.le_refl _, ?_⟩
            rw [HWQ.out, ← hx1, ← hx2, HP2.out]
            have := swap_worldC enc w blk off (shiftU dk a k) q2 c (c + 1) (by omega) (by omega)
            rw [this, hck]
            rfl
        · have hltz2 : ¬ (c : Int) < (i : Int) - 1 := by omega
          obtain rfl : k = i - 1 - a := by omega
          go_wp2
          (try simp only [Exit.inBlock, Exit.then]); refine bodyPost_ret (results_none rfl _ _ _) rfl ?_
          exact ⟨rfl, q2, by rw [ht.out]⟩
set_option maxHeartbeats 1000000 in
set_option maxRecDepth 1000000 in
theorem symMerge_right (enc : α → Value) (hO : OneCell enc) (cf : α → α → Int) (g : Nat) (cb : Array Value) (blk off cap : Nat) (d dk : Array α) (a m b q : Nat) (w : World) (eg : ∀ args w, (callFunc g args).run Tryd.prog w = .ok (.enter g args) w) (hcmp : CmpReads Tryd.prog g cb enc cf blk off d.size w)
    (hH : Holds enc w blk off d) (hs : dk.size = d.size) (ha : b = m + 1) (hm : a + 1 < m) (hb : b ≤ d.size) (hsz : d.size < 4611686018427387904) :
    Calls Tryd.prog 61 #[.slice (some ⟨blk, off, none⟩) d.size cap, .int .i64 a, .int .i64 m, .int .i64 b, .func (.func g) #[] cb] ((putRow enc w blk off dk).drewN q) fun e w' => e = .returned (.tuple #[]) ∧ ∃ q, w' = (putRow enc w blk off (shiftD dk m (m - bsL (fun h => !(decide (cf dk[m]! dk[h]! < 0))) a m))).drewN q := by
  have HC : Aside _ := fun (X : Array α) x y hX m n => cmpAt hcmp X x y hX m n
  have HH : Hid (Holds enc w blk off d) := hH
  have wma : ¬ ((m : Int) - (a : Int)) = 1 := by omega
  have wbm : IntKind.i64.wrap ((b : Int) - (m : Int)) = 1 := by rw [IntKind.wrap_i64]; omega
  have hcl0 := hO.cells
  simp only [Value.cells] at hcl0
  have hst := hO.store Tryd.prog
  have hm1 : m < b := by omega
  have hm2 : b ≤ m + 1 := by omega
  clear hH hcmp ha
  go_enter Tryd.func61, Tryd.ntmps61
  have fma : (((m : Int) - (a : Int)) == 1) = false := beq_eq_false_iff_ne.2 wma
  go_wp2
  try rw [fma]
  clear wma wbm fma
  go_loopg [14, 15] m (fun g1 vi vj wr => ∃ (i j q1 : Nat), vi = .int .i64 i ∧ vj = .int .i64 j ∧ a ≤ i ∧ i ≤ j ∧ j ≤ m ∧ j - i ≤ g1 ∧ wr = (putRow enc w blk off dk).drewN q1 ∧ Hid (bsL (fun h => !(decide (cf dk[m]! dk[h]! < 0))) i j = bsL (fun h => !(decide (cf dk[m]! dk[h]! < 0))) a m))
  case atStart => exact ⟨a, m, q, rfl, rfl, Nat.le_refl _, by omega, Nat.le_refl _, by omega, rfl, rfl⟩
  case round =>
    obtain ⟨i, j, q1, rfl, rfl, hai, hij, hjm, hg1, rfl, HB⟩ := hrel
    by_cases hlt : i < j
    · have hltz : (i : Int) < (j : Int) := by omega
      obtain ⟨h, hh⟩ : ∃ h, h = (i + j) / 2 := ⟨_, rfl⟩
      have eh : Hid (((i : Int) + (j : Int)) / 2 = (h : Int)) := (by show _ = _; omega)
      have hih : i ≤ h := by omega
      have hhj : h < j := by omega
      obtain ⟨xh, hxh⟩ : ∃ x, dk[h]! = x := ⟨_, rfl⟩
      obtain ⟨xa, hxa⟩ : ∃ x, dk[m]! = x := ⟨_, rfl⟩
      have hHk := holds_putRow enc w blk off d dk HH.out hs
      obtain ⟨ch, fh⟩ := hHk h (by omega)
      obtain ⟨ca, fa⟩ := hHk m (by omega)
      rw [hxh] at ch
      rw [hxa] at ca
      have zh : (h : Int) < (d.size : Int) := by omega
      have za : (m : Int) < (d.size : Int) := by omega
      have ph : (0 : Int) ≤ (h : Int) := by omega
      have pa : (0 : Int) ≤ (m : Int) := by omega
      have hh2 : ((h : Int)).toNat = h := by omega
      have ha2 : ((m : Int)).toNat = m := by omega
      have ch' : ((putRow enc w blk off dk).drewN q1).cell? ⟨blk, off + h, none⟩ = some (enc xh) := ch
      have ca' : ((putRow enc w blk off dk).drewN q1).cell? ⟨blk, off + m, none⟩ = some (enc xa) := ca
      have hc := HC.out dk xa xh hs q1
      clear hHk ch ca fh fa
      have HHH : Hid (h = (i + j) / 2) := hh
      clear hh
      go_wp2
      rw [eh.out]
      generalize hwq : (putRow enc w blk off dk).drewN q1 = wq at ch' ca' hc ⊢
      by_cases hlv : ¬ cf xa xh < 0
      · have hlz : decide (cf xa xh < 0) = false := decide_eq_false hlv
        go_wp2_with fail
        go_quiet (first | (go_at_fn g; refine Calls.quiet_of (hc _)))
        go_wp2_with fail
        go_roundg (j - (h + 1))
        case measure => omega
        case rel =>
          refine ⟨h + 1, j, q1 + nq, by go_num, rfl, by omega, by omega, hjm, Nat.le_refl _, by rw [← hwq, World.drewN_drewN], (show _ = _ from ?_)⟩
          rw [← HB.out, bsL.eq_1 _ i j, if_pos hlt, ← HHH.out, if_pos (by rw [hxh, hxa]; simpa using hlv)]
      · have hlv := Decidable.not_not.1 hlv
        have hlz : decide (cf xa xh < 0) = true := decide_eq_true hlv
        go_wp2_with fail
        go_quiet (first | (go_at_fn g; refine Calls.quiet_of (hc _)))
        go_wp2_with fail
        go_roundg (h - i)
        case measure => omega
        case rel =>
          refine ⟨i, h, q1 + nq, rfl, rfl, hai, hih, by omega, Nat.le_refl _, by rw [← hwq, World.drewN_drewN], (show _ = _ from ?_)⟩
          rw [← HB.out, bsL.eq_1 _ i j, if_pos hlt, ← HHH.out, if_neg (by rw [hxh, hxa]; simpa using hlv)]
    · have hltz : ¬ (i : Int) < (j : Int) := by omega
      obtain rfl : i = j := by omega
      have ht : Hid (bsL (fun h => !(decide (cf dk[m]! dk[h]! < 0))) a m = i) := by
        show _ = _
        rw [← HB.out, bsL, if_neg (by omega)]
      clear HB hg1
      go_wp2
      go_loopg [17] (m - i) (fun g2 vk wr2 => ∃ (k c q2 : Nat), vk = .int .i64 c ∧ Hid (c + k = m) ∧ k ≤ m - i ∧ m - i - k ≤ g2 ∧ wr2 = (putRow enc w blk off (shiftD dk m k)).drewN q2)
      case atStart => exact ⟨0, m, q1, rfl, rfl, by omega, by omega, rfl⟩
      case round =>
        obtain ⟨k, c, q2, rfl, HCK, hk, hg2, rfl⟩ := hrel
        have hck := HCK.out
        by_cases hlt2 : i < c
        · have hki : i + k < m := by omega
          obtain ⟨p2, hp2⟩ : ∃ p, c = p + 1 := ⟨c - 1, by omega⟩
          have hsk : (shiftD dk m k).size = d.size := by rw [shiftD_size, hs]
          have hHk := holds_putRow enc w blk off d (shiftD dk m k) HH.out hsk
          obtain ⟨x1, hx1⟩ : ∃ x, (shiftD dk m k)[c]! = x := ⟨_, rfl⟩
          obtain ⟨x2, hx2⟩ : ∃ x, (shiftD dk m k)[p2]! = x := ⟨_, rfl⟩
          obtain ⟨c1, f1⟩ := hHk c (by omega)
          obtain ⟨c2, f2⟩ := hHk p2 (by omega)
          rw [hx1] at c1
          rw [hx2] at c2
          have c1' : ((putRow enc w blk off (shiftD dk m k)).drewN q2).cell? ⟨blk, off + c, none⟩ = some (enc x1) := c1
          have c2' : ((putRow enc w blk off (shiftD dk m k)).drewN q2).cell? ⟨blk, off + p2, none⟩ = some (enc x2) := c2
          have f1' : ((putRow enc w blk off (shiftD dk m k)).drewN q2).frozen? ⟨blk, off + c, none⟩ = false := f1
          have f2' : ((putRow enc w blk off (shiftD dk m k)).drewN q2).frozen? ⟨blk, off + p2, none⟩ = false := f2
          clear hHk c1 c2 f1 f2
          have hltz2 : (i : Int) < (c : Int) := by omega
          have wp : IntKind.i64.wrap ((c : Int) - 1) = (p2 : Int) := by rw [IntKind.wrap_i64]; omega
          have z1 : (c : Int) < (d.size : Int) := by omega
          have z2 : (p2 : Int) < (d.size : Int) := by omega
          have e1 : ((c : Int)).toNat = c := by omega
          have e2 : ((p2 : Int)).toNat = p2 := by omega
          have n1 : (0 : Int) ≤ (c : Int) := by omega
          have n2 : (0 : Int) ≤ (p2 : Int) := by omega
          generalize hwq : (putRow enc w blk off (shiftD dk m k)).drewN q2 = wq at c1' c2' f1' f2' ⊢
          have HWQ : Hid (wq = (putRow enc w blk off (shiftD dk m k)).drewN q2) := hwq.symm
          have hne : (⟨blk, off + c, none⟩ : Addr) ≠ ⟨blk, off + p2, none⟩ := by
            intro e
            have h1 : off + c = off + p2 := congrArg Addr.off e
            omega
          have c3 : (wq.setCell ⟨blk, off + c, none⟩ (enc x2)).drew.cell? ⟨blk, off + p2, none⟩ = some (enc x2) := (World.cell?_setCell_other (w := wq) (v := enc x2) (h := hne)).trans c2'
          have f3 : (wq.setCell ⟨blk, off + c, none⟩ (enc x2)).drew.frozen? ⟨blk, off + p2, none⟩ = false := (World.frozen?_setCell ..).trans f2'
          have HP2 : Hid (c = p2 + 1) := hp2
          clear hwq hp2 hck
          go_wp2
          go_big_region
          all_goals go_wp2
          go_roundg (m - i - (k + 1))
          case measure => omega
          case rel =>
            have hck := HCK.out
            have hp2 := HP2.out
            refine ⟨k + 1, p2, q2 + 1, by go_num, (show _ = _ from by omega), by omega, Nat.le_refl _, ?_⟩
            rw [HWQ.out, ← hx1, ← hx2]
            have := swap_worldC enc w blk off (shiftD dk m k) q2 c p2 (by omega) (by omega)
            rw [this]
            show _ = (putRow enc w blk off (swp (shiftD dk m k) (m - k) (m - k - 1))).drewN (q2 + 1)
            rw [show m - k = c by omega, show c - 1 = p2 by omega]
        · have hltz2 : ¬ (i : Int) < (c : Int) := by omega
          obtain rfl : k = m - i := by omega
          go_wp2
          (try simp only [Exit.inBlock, Exit.then]); refine bodyPost_ret (results_none rfl _ _ _) rfl ?_
          exact ⟨rfl, q2, by rw [ht.out]⟩
end Go.Proofs.YtaihfoihlbileaaDoor.R4
