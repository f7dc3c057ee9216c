/- slices.symMergeCmpFunc's general case, and stableCmpFunc, SortStableFunc, walked at a row of pointers. -/
import Derived.Test.YtaihfoihlbileaaDoorR4sm
namespace Go.Proofs.YtaihfoihlbileaaDoor.R4
open Go Go.Proofs Go.Shelf Go.RowKit Go.Lib Go.Sort
variable {α : Type} [Inhabited α]

theorem rotate_at (enc : α → Value) (hO : OneCell enc) (blk off cap : Nat) (d dk : Array α) (a m b q : Nat) (cmpv : Value) (w : World) (hH : Holds enc w blk off d) (hs : dk.size = d.size) (ha : a < m) (hm : m < b) (hb : b ≤ d.size) (hsz : d.size < 4611686018427387904) :
    Calls Tryd.prog 74 #[.slice (some ⟨blk, off, none⟩) d.size cap, .int .i64 a, .int .i64 m, .int .i64 b, cmpv] ((putRow enc w blk off dk).drewN q) fun e w' => e = .returned (.tuple #[]) ∧ ∃ q', w' = (putRow enc w blk off (rotA dk a m b)).drewN q' := by
  have h := rotate_calls enc hO blk off cap dk a m b cmpv ((putRow enc w blk off dk).drewN q) (holds_again enc w blk off d dk q hH hs) ha hm (by omega) (by omega)
  rw [hs] at h
  refine h.mono fun e w' ⟨he, q', hw⟩ => ⟨he, q + q', ?_⟩
  rw [hw, putRow_again _ _ _ _ _ _ _ _ (rotA_size ..)]

set_option maxHeartbeats 2000000 in
set_option maxRecDepth 1000000 in
theorem symMerge_step (enc : α → Value) (hO : OneCell enc) (cf : α → α → Int) (g : Nat) (cb : Array Value) (blk off cap : Nat) (d dk : Array α) (a m b q : Nat) (w : World) (eg : ∀ args w, (callFunc g args).run Tryd.prog w = .ok (.enter g args) w) (hcmp : CmpReads Tryd.prog g cb enc cf blk off d.size w)
    (hH : Holds enc w blk off d) (hs : dk.size = d.size) (ha : a + 1 < m) (hm : m + 1 < b) (hb : b ≤ d.size) (hsz : d.size < 4611686018427387904)
    (hIH : ∀ (a' m' b' q' : Nat) (dk' : Array α), b' - a' < b - a → a' < m' → m' < b' → b' ≤ d.size → dk'.size = d.size → Calls Tryd.prog 61 #[.slice (some ⟨blk, off, none⟩) d.size cap, .int .i64 a', .int .i64 m', .int .i64 b', .func (.func g) #[] cb] ((putRow enc w blk off dk').drewN q') fun e w' => e = .returned (.tuple #[]) ∧ ∃ q, w' = (putRow enc w blk off (symA cf dk' a' m' b')).drewN q) :
    Calls Tryd.prog 61 #[.slice (some ⟨blk, off, none⟩) d.size cap, .int .i64 a, .int .i64 m, .int .i64 b, .func (.func g) #[] cb] ((putRow enc w blk off dk).drewN q) fun e w' => e = .returned (.tuple #[]) ∧ ∃ q, w' = (putRow enc w blk off (symA cf dk a m b)).drewN q := by
  have HC : Aside _ := fun (X : Array α) x y hX m n => cmpAt hcmp X x y hX m n
  have HH : Hid (Holds enc w blk off d) := hH
  have HI : Aside _ := hIH
  have wma : ¬ ((m : Int) - (a : Int)) = 1 := by omega
  have wbm : ¬ ((b : Int) - (m : Int)) = 1 := by omega
  have fma : (((m : Int) - (a : Int)) == 1) = false := beq_eq_false_iff_ne.2 wma
  have fbm : (((b : Int) - (m : Int)) == 1) = false := beq_eq_false_iff_ne.2 wbm
  have hcl0 := hO.cells
  simp only [Value.cells] at hcl0
  have hst := hO.store Tryd.prog
  obtain ⟨mid, hmid⟩ : ∃ x, x = (a + b) / 2 := ⟨_, rfl⟩
  obtain ⟨n, hn⟩ : ∃ x, x = mid + m := ⟨_, rfl⟩
  obtain ⟨p, hp⟩ : ∃ x, x + 1 = n := ⟨n - 1, by omega⟩
  have hmb : mid + 1 < b := by omega
  have ham : a + 1 < mid + 1 := by omega
  have emid : Hid (((a : Int) + (b : Int)) / 2 = (mid : Int)) := (by show _ = _; omega)
  have en : Hid ((mid : Int) + (m : Int) = (n : Int)) := (by show _ = _; omega)
  have ep : Hid ((n : Int) - 1 = (p : Int)) := (by show _ = _; omega)
  have hnlt : n < 9223372036854775808 := by omega
  have HM : Hid (mid = (a + b) / 2) := hmid
  have HN : Hid (n = mid + m) := hn
  have HP : Hid (p + 1 = n) := hp
  clear hH hcmp hIH hmid hn hp
  by_cases hc : mid < m
  · have hcz : ((a : Int) + (b : Int)) / 2 < (m : Int) := by
      have := emid.out
      omega
    obtain ⟨s0, hs0⟩ : ∃ x, x + b = n := ⟨n - b, by have := HN.out; have := HM.out; omega⟩
    have es0 : Hid ((n : Int) - (b : Int) = (s0 : Int)) := (by show _ = _; omega)
    have HS0 : Hid (s0 + b = n) := hs0
    clear hs0
    go_enter Tryd.func61, Tryd.ntmps61
    go_wp2
    rw [emid.out, en.out, ep.out]
    rw [es0.out]
    clear hcz fma fbm wma wbm
    go_loopg [20, 21] b (fun g1 vi vj wr => ∃ (i j q1 : Nat), vi = .int .i64 i ∧ vj = .int .i64 j ∧ s0 ≤ i ∧ i ≤ j ∧ j ≤ mid ∧ j - i ≤ g1 ∧ wr = (putRow enc w blk off dk).drewN q1 ∧ Hid (bsL (fun c => !(decide (cf dk[p - c]! dk[c]! < 0))) i j = bsL (fun c => !(decide (cf dk[p - c]! dk[c]! < 0))) s0 mid))
    case atStart =>
      have h1 := HM.out
      have h2 := HN.out
      have h3 := HS0.out
      exact ⟨s0, mid, q, rfl, rfl, Nat.le_refl _, by omega, Nat.le_refl _, by omega, rfl, rfl⟩
    case round =>
      obtain ⟨i, j, q1, rfl, rfl, hai, hij, hjm, hg1, rfl, HB⟩ := hrel
      by_cases hlt : i < j
      · have hltz : (i : Int) < (j : Int) := by omega
        obtain ⟨h, hh⟩ : ∃ h, h = (i + j) / 2 := ⟨_, rfl⟩
        have eh : Hid (((i : Int) + (j : Int)) / 2 = (h : Int)) := (by show _ = _; omega)
        have hih : i ≤ h := by omega
        have hhj : h < j := by omega
        obtain ⟨pc, hpc⟩ : ∃ x, x + h = p := ⟨p - h, by have h1 := HM.out; have h2 := HN.out; have h3 := HP.out; omega⟩
        have hpb : pc < b := by
          have h1 := HM.out
          have h2 := HN.out
          have h3 := HP.out
          have h4 := HS0.out
          omega
        have epc : Hid ((p : Int) - (h : Int) = (pc : Int)) := (by show _ = _; omega)
        have wpc : IntKind.i64.wrap ((p : Int) - (h : Int)) = (pc : Int) := by rw [IntKind.wrap_i64]; omega
        have hpc2 : p - h = pc := by omega
        have hhb : h < b := by have h1 := HM.out; omega
        obtain ⟨xh, hxh⟩ : ∃ x, dk[h]! = x := ⟨_, rfl⟩
        obtain ⟨xa, hxa⟩ : ∃ x, dk[pc]! = x := ⟨_, rfl⟩
        have hHk := holds_putRow enc w blk off d dk HH.out hs
        obtain ⟨ch, fh⟩ := hHk h (by omega)
        obtain ⟨ca, fa⟩ := hHk pc (by omega)
        rw [hxh] at ch
        rw [hxa] at ca
        have zh : (h : Int) < (d.size : Int) := by omega
        have za : (pc : Int) < (d.size : Int) := by omega
        have ph : (0 : Int) ≤ (h : Int) := by omega
        have pa : (0 : Int) ≤ (pc : Int) := by omega
        have hh2 : ((h : Int)).toNat = h := by omega
        have ha2 : ((pc : Int)).toNat = pc := by omega
        have ch' : ((putRow enc w blk off dk).drewN q1).cell? ⟨blk, off + h, none⟩ = some (enc xh) := ch
        have ca' : ((putRow enc w blk off dk).drewN q1).cell? ⟨blk, off + pc, none⟩ = some (enc xa) := ca
        have hc := HC.out dk xa xh hs q1
        have HHH : Hid (h = (i + j) / 2) := hh
        have HPC : Hid (p - h = pc) := hpc2
        clear hHk ch ca fh fa hh hpc hpc2
        go_wp2
        rw [eh.out]
        generalize hwq : (putRow enc w blk off dk).drewN q1 = wq at ch' ca' hc ⊢
        by_cases hlv : ¬ cf xa xh < 0
        · have hlz : decide (cf xa xh < 0) = false := decide_eq_false hlv
          go_wp2_with fail
          go_quiet (first | (go_at_fn g; refine Calls.quiet_of (hc _)))
          go_wp2_with fail
          go_roundg (j - (h + 1))
          case measure => omega
          case rel =>
            refine ⟨h + 1, j, q1 + nq, by go_num, rfl, by omega, by omega, hjm, Nat.le_refl _, by rw [← hwq, World.drewN_drewN], (show _ = _ from ?_)⟩
            rw [← HB.out, bsL.eq_1 _ i j, if_pos hlt, ← HHH.out, if_pos (by rw [HPC.out, hxh, hxa]; simpa using hlv)]
        · have hlv := Decidable.not_not.1 hlv
          have hlz : decide (cf xa xh < 0) = true := decide_eq_true hlv
          go_wp2_with fail
          go_quiet (first | (go_at_fn g; refine Calls.quiet_of (hc _)))
          go_wp2_with fail
          go_roundg (h - i)
          case measure => omega
          case rel =>
            refine ⟨i, h, q1 + nq, rfl, rfl, hai, hih, by omega, Nat.le_refl _, by rw [← hwq, World.drewN_drewN], (show _ = _ from ?_)⟩
            rw [← HB.out, bsL.eq_1 _ i j, if_pos hlt, ← HHH.out, if_neg (by rw [HPC.out, hxh, hxa]; simpa using hlv)]
      · have hltz : ¬ (i : Int) < (j : Int) := by omega
        obtain rfl : i = j := by omega
        have hsy : Hid (symS cf dk a m b = i) := by
          show _ = _
          have h1 := HM.out
          have h2 := HN.out
          have h3 := HP.out
          have e1 : (a + b) / 2 + m - 1 = p := by omega
          have e2 := HB.out
          rw [bsL, if_neg (by omega)] at e2
          unfold symS
          rw [e1, if_pos (by omega), if_pos (by omega)]
          have h4 := HS0.out
          rw [← h1, show mid + m - b = s0 by omega]
          exact e2.symm
        clear HB hg1
        obtain ⟨e, hen⟩ : ∃ x, x + i = n := ⟨n - i, by have h1 := HM.out; have h2 := HN.out; omega⟩
        have wen : IntKind.i64.wrap ((n : Int) - (i : Int)) = (e : Int) := by rw [IntKind.wrap_i64]; omega
        have hei : e + i = mid + m := by have := HN.out; omega
        have hEN : Hid (e + i = mid + m) := hei
        have hmid2 := HM.out
        have he1 : (i < m ∧ m < e) ↔ (i < m ∧ i < mid) := by omega
        have heb : s0 ≤ i := hai
        have hbe : e ≤ b := by
          have h2 := HN.out
          have h4 := HS0.out
          omega
        by_cases x1 : (i : Int) < (m : Int) <;> by_cases x2 : (m : Int) < (e : Int) <;> by_cases x3 : (a : Int) < (i : Int) <;> by_cases x6 : (e : Int) < (b : Int) <;> first
          | (exfalso; omega)
          | (have x4 : ((i : Int) < (mid : Int)) = ((m : Int) < (e : Int)) := by (apply propext; omega)
             have x5 : ((mid : Int) < (e : Int)) = ((i : Int) < (m : Int)) := by (apply propext; omega)
             clear hen hei he1 hmid2
             go_wp2_with (first
               | (go_at_call 74; (with_reducible refine (rotate_at enc hO blk off cap d dk i m e _ _ w HH.out hs (by omega) (by omega) (by omega) hsz).mono ?_); rintro e' w' ⟨rfl, q3, rfl⟩)
               | (go_at_call 61; (with_reducible refine (HI.out a i mid _ _ (by have := HM.out; omega) (by omega) (by have := hEN.out; omega) (by omega) (by first | exact hs | exact (rotA_size ..).trans hs)).mono ?_); rintro e' w' ⟨rfl, q4, rfl⟩)
               | (go_at_call 61; (with_reducible refine (HI.out mid e b _ _ (by have := HM.out; omega) (by have := hEN.out; omega) (by omega) (by omega) (by first | exact hs | exact (rotA_size ..).trans hs | exact (symA_size cf _ _ _ _ _ (Nat.le_refl _)).trans hs | exact (symA_size cf _ _ _ _ _ (Nat.le_refl _)).trans ((rotA_size ..).trans hs))).mono ?_); rintro e' w' ⟨rfl, q5, rfl⟩))
             go_end0
             refine ⟨rfl, _, congrArg (fun X => (putRow enc w blk off X).drewN _) ?_⟩
             have hE := hEN.out
             have hmid2 := HM.out
             rw [symA_step cf dk a m b (by omega) (by omega), hsy.out, ← hmid2, show mid + m - i = e by omega]
             (first | rw [if_pos (show mid < e ∧ e < b ∧ a < mid by omega)] | rw [if_neg (show ¬ (mid < e ∧ e < b ∧ a < mid) by omega)])
             (first | rw [if_pos (show a < i ∧ i < mid ∧ mid < b by omega)] | rw [if_neg (show ¬ (a < i ∧ i < mid ∧ mid < b) by omega)])
             (first | rw [if_pos (show i < m ∧ m < e by omega)] | rw [if_neg (show ¬ (i < m ∧ m < e) by omega)]))
  · have hcz : ¬ ((a : Int) + (b : Int)) / 2 < (m : Int) := by
      have := emid.out
      omega
    go_enter Tryd.func61, Tryd.ntmps61
    go_wp2
    rw [emid.out, en.out, ep.out]
    clear hcz fma fbm wma wbm
    go_loopg [20, 21] b (fun g1 vi vj wr => ∃ (i j q1 : Nat), vi = .int .i64 i ∧ vj = .int .i64 j ∧ a ≤ i ∧ i ≤ j ∧ j ≤ m ∧ j - i ≤ g1 ∧ wr = (putRow enc w blk off dk).drewN q1 ∧ Hid (bsL (fun c => !(decide (cf dk[p - c]! dk[c]! < 0))) i j = bsL (fun c => !(decide (cf dk[p - c]! dk[c]! < 0))) a m))
    case atStart =>
      have h1 := HM.out
      have h2 := HN.out
      exact ⟨a, m, q, rfl, rfl, Nat.le_refl _, by omega, Nat.le_refl _, by omega, rfl, rfl⟩
    case round =>
      obtain ⟨i, j, q1, rfl, rfl, hai, hij, hjm, hg1, rfl, HB⟩ := hrel
      by_cases hlt : i < j
      · have hltz : (i : Int) < (j : Int) := by omega
        obtain ⟨h, hh⟩ : ∃ h, h = (i + j) / 2 := ⟨_, rfl⟩
        have eh : Hid (((i : Int) + (j : Int)) / 2 = (h : Int)) := (by show _ = _; omega)
        have hih : i ≤ h := by omega
        have hhj : h < j := by omega
        obtain ⟨pc, hpc⟩ : ∃ x, x + h = p := ⟨p - h, by have h1 := HM.out; have h2 := HN.out; have h3 := HP.out; omega⟩
        have hpb : pc < b := by
          have h1 := HM.out
          have h2 := HN.out
          have h3 := HP.out
          omega
        have epc : Hid ((p : Int) - (h : Int) = (pc : Int)) := (by show _ = _; omega)
        have wpc : IntKind.i64.wrap ((p : Int) - (h : Int)) = (pc : Int) := by rw [IntKind.wrap_i64]; omega
        have hpc2 : p - h = pc := by omega
        have hhb : h < b := by have h1 := HM.out; omega
        obtain ⟨xh, hxh⟩ : ∃ x, dk[h]! = x := ⟨_, rfl⟩
        obtain ⟨xa, hxa⟩ : ∃ x, dk[pc]! = x := ⟨_, rfl⟩
        have hHk := holds_putRow enc w blk off d dk HH.out hs
        obtain ⟨ch, fh⟩ := hHk h (by omega)
        obtain ⟨ca, fa⟩ := hHk pc (by omega)
        rw [hxh] at ch
        rw [hxa] at ca
        have zh : (h : Int) < (d.size : Int) := by omega
        have za : (pc : Int) < (d.size : Int) := by omega
        have ph : (0 : Int) ≤ (h : Int) := by omega
        have pa : (0 : Int) ≤ (pc : Int) := by omega
        have hh2 : ((h : Int)).toNat = h := by omega
        have ha2 : ((pc : Int)).toNat = pc := by omega
        have ch' : ((putRow enc w blk off dk).drewN q1).cell? ⟨blk, off + h, none⟩ = some (enc xh) := ch
        have ca' : ((putRow enc w blk off dk).drewN q1).cell? ⟨blk, off + pc, none⟩ = some (enc xa) := ca
        have hc := HC.out dk xa xh hs q1
        have HHH : Hid (h = (i + j) / 2) := hh
        have HPC : Hid (p - h = pc) := hpc2
        clear hHk ch ca fh fa hh hpc hpc2
        go_wp2
        rw [eh.out]
        generalize hwq : (putRow enc w blk off dk).drewN q1 = wq at ch' ca' hc ⊢
        by_cases hlv : ¬ cf xa xh < 0
        · have hlz : decide (cf xa xh < 0) = false := decide_eq_false hlv
          go_wp2_with fail
          go_quiet (first | (go_at_fn g; refine Calls.quiet_of (hc _)))
          go_wp2_with fail
          go_roundg (j - (h + 1))
          case measure => omega
          case rel =>
            refine ⟨h + 1, j, q1 + nq, by go_num, rfl, by omega, by omega, hjm, Nat.le_refl _, by rw [← hwq, World.drewN_drewN], (show _ = _ from ?_)⟩
            rw [← HB.out, bsL.eq_1 _ i j, if_pos hlt, ← HHH.out, if_pos (by rw [HPC.out, hxh, hxa]; simpa using hlv)]
        · have hlv := Decidable.not_not.1 hlv
          have hlz : decide (cf xa xh < 0) = true := decide_eq_true hlv
          go_wp2_with fail
          go_quiet (first | (go_at_fn g; refine Calls.quiet_of (hc _)))
          go_wp2_with fail
          go_roundg (h - i)
          case measure => omega
          case rel =>
            refine ⟨i, h, q1 + nq, rfl, rfl, hai, hih, by omega, Nat.le_refl _, by rw [← hwq, World.drewN_drewN], (show _ = _ from ?_)⟩
            rw [← HB.out, bsL.eq_1 _ i j, if_pos hlt, ← HHH.out, if_neg (by rw [HPC.out, hxh, hxa]; simpa using hlv)]
      · have hltz : ¬ (i : Int) < (j : Int) := by omega
        obtain rfl : i = j := by omega
        have hsy : Hid (symS cf dk a m b = i) := by
          show _ = _
          have h1 := HM.out
          have h2 := HN.out
          have h3 := HP.out
          have e1 : (a + b) / 2 + m - 1 = p := by omega
          have e2 := HB.out
          rw [bsL, if_neg (by omega)] at e2
          unfold symS
          rw [e1, if_neg (by omega), if_neg (by omega)]
          exact e2.symm
        clear HB hg1
        obtain ⟨e, hen⟩ : ∃ x, x + i = n := ⟨n - i, by have h1 := HM.out; have h2 := HN.out; omega⟩
        have wen : IntKind.i64.wrap ((n : Int) - (i : Int)) = (e : Int) := by rw [IntKind.wrap_i64]; omega
        have hei : e + i = mid + m := by have := HN.out; omega
        have hEN : Hid (e + i = mid + m) := hei
        have hmid2 := HM.out
        have he1 : (i < m ∧ m < e) ↔ (i < m ∧ i < mid) := by omega
        have heb : a ≤ i := hai
        have hbe : e ≤ b := by
          have h2 := HN.out
          omega
        by_cases x1 : (i : Int) < (m : Int) <;> by_cases x2 : (m : Int) < (e : Int) <;> by_cases x3 : (a : Int) < (i : Int) <;> by_cases x6 : (e : Int) < (b : Int) <;> first
          | (exfalso; omega)
          | (have x4 : ((i : Int) < (mid : Int)) = ((m : Int) < (e : Int)) := by (apply propext; omega)
             have x5 : ((mid : Int) < (e : Int)) = ((i : Int) < (m : Int)) := by (apply propext; omega)
             clear hen hei he1 hmid2
             go_wp2_with (first
               | (go_at_call 74; (with_reducible refine (rotate_at enc hO blk off cap d dk i m e _ _ w HH.out hs (by omega) (by omega) (by omega) hsz).mono ?_); rintro e' w' ⟨rfl, q3, rfl⟩)
               | (go_at_call 61; (with_reducible refine (HI.out a i mid _ _ (by have := HM.out; omega) (by omega) (by have := hEN.out; omega) (by omega) (by first | exact hs | exact (rotA_size ..).trans hs)).mono ?_); rintro e' w' ⟨rfl, q4, rfl⟩)
               | (go_at_call 61; (with_reducible refine (HI.out mid e b _ _ (by have := HM.out; omega) (by have := hEN.out; omega) (by omega) (by omega) (by first | exact hs | exact (rotA_size ..).trans hs | exact (symA_size cf _ _ _ _ _ (Nat.le_refl _)).trans hs | exact (symA_size cf _ _ _ _ _ (Nat.le_refl _)).trans ((rotA_size ..).trans hs))).mono ?_); rintro e' w' ⟨rfl, q5, rfl⟩))
             go_end0
             refine ⟨rfl, _, congrArg (fun X => (putRow enc w blk off X).drewN _) ?_⟩
             have hE := hEN.out
             have hmid2 := HM.out
             rw [symA_step cf dk a m b (by omega) (by omega), hsy.out, ← hmid2, show mid + m - i = e by omega]
             (first | rw [if_pos (show mid < e ∧ e < b ∧ a < mid by omega)] | rw [if_neg (show ¬ (mid < e ∧ e < b ∧ a < mid) by omega)])
             (first | rw [if_pos (show a < i ∧ i < mid ∧ mid < b by omega)] | rw [if_neg (show ¬ (a < i ∧ i < mid ∧ mid < b) by omega)])
             (first | rw [if_pos (show i < m ∧ m < e by omega)] | rw [if_neg (show ¬ (i < m ∧ m < e) by omega)]))
end Go.Proofs.YtaihfoihlbileaaDoor.R4
