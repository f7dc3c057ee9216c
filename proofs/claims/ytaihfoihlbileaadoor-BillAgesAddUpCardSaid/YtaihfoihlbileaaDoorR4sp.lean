/- slices.stableCmpFunc and SortStableFunc, walked at a row of pointers. -/
import Derived.Test.YtaihfoihlbileaaDoorR4so
namespace Go.Proofs.YtaihfoihlbileaaDoor.R4
open Go Go.Proofs Go.Shelf Go.RowKit Go.Lib Go.Sort
variable {α : Type} [Inhabited α]

theorem insB_size (cf : α → α → Int) (n : Nat) : ∀ (k a : Nat) (d : Array α), n - a ≤ k → (insB cf n a d).size = d.size := by
  intro k
  induction k with
  | zero =>
    intro a d h
    rw [insB, if_neg (by omega), insertionSort_size]
  | succ k ih =>
    intro a d h
    rw [insB]
    split
    · rw [ih _ _ (by omega), insertionSort_size]
    · rw [insertionSort_size]
theorem mrgB_size (cf : α → α → Int) (bs n : Nat) : ∀ (k a : Nat) (d : Array α), n - a ≤ k → (mrgB cf bs n a d).size = d.size := by
  intro k
  induction k with
  | zero =>
    intro a d h
    rw [mrgB, if_neg (by omega), if_neg (by omega)]
  | succ k ih =>
    intro a d h
    rw [mrgB]
    split
    · rw [ih _ _ (by omega), symA_size cf _ _ _ _ _ (Nat.le_refl _)]
    · split
      · rw [symA_size cf _ _ _ _ _ (Nat.le_refl _)]
      · rfl
theorem stable_size (cf : α → α → Int) (n : Nat) : ∀ (k bs : Nat) (d : Array α), n - bs ≤ k → (mrgAll cf n bs d).size = d.size := by
  intro k
  induction k with
  | zero =>
    intro bs d h
    rw [mrgAll, if_neg (by omega)]
  | succ k ih =>
    intro bs d h
    rw [mrgAll]
    split
    · rw [ih _ _ (by omega), mrgB_size cf _ _ _ _ _ (Nat.le_refl _)]
    · rfl
section
variable (enc : α → Value) (hO : OneCell enc) (cf : α → α → Int) (g : Nat) (cb : Array Value) (blk off cap : Nat) (d : Array α) (w : World) (eg : ∀ args w, (callFunc g args).run Tryd.prog w = .ok (.enter g args) w) (hcmp : CmpReads Tryd.prog g cb enc cf blk off d.size w) (hH : Holds enc w blk off d) (hsz : d.size < 2305843009213693952)
include hO eg hcmp hH hsz
set_option maxHeartbeats 2000000 in
set_option maxRecDepth 1000000 in
theorem stable_calls : Calls Tryd.prog 45 #[.slice (some ⟨blk, off, none⟩) d.size cap, .int .i64 d.size, .func (.func g) #[] cb] w fun e w' => e = .returned (.tuple #[]) ∧ ∃ q, w' = (putRow enc w blk off (stableA cf d)).drewN q := by
  have HI : Aside _ := fun a b q dk hab hb hs => insertion_at enc hO cf g cb blk off cap d w eg hcmp hH hsz a b q dk hab hb hs
  have HSM : Aside _ := fun a m b q dk ha hm hb hs => symMerge_at enc hO cf g cb blk off cap d w eg hcmp hH hsz (b - a) a m b q dk (Nat.le_refl _) ha hm hb hs
  have HST : Hid (w = (putRow enc w blk off d).drewN 0) := (putRow_self enc w blk off d hH).symm
  obtain ⟨n, hn⟩ : ∃ n, n = d.size := ⟨_, rfl⟩
  have HN : Hid (n = d.size) := hn
  have hnz : n < 2305843009213693952 := by omega
  rw [← hn] at HI HSM ⊢
  clear hcmp hH hn hsz
  go_enter Tryd.func45, Tryd.ntmps45
  go_wp2
  go_loopg [7, 8] n (fun g1 va vb wr => ∃ (a b q1 : Nat) (dk : Array α), va = .int .i64 a ∧ vb = .int .i64 b ∧ Hid (b = a + 20) ∧ a ≤ n ∧ n - a ≤ g1 ∧ Hid (dk.size = n) ∧ wr = (putRow enc w blk off dk).drewN q1 ∧ Hid (insB cf n a dk = insB cf n 0 d))
  case atStart => exact ⟨0, 20, 0, d, by go_num, by go_num, rfl, by omega, by omega, HN.out.symm, HST.out, rfl⟩
  case round =>
    obtain ⟨a, b, q1, dk, rfl, rfl, HB, han, hg1, HS, rfl, HR⟩ := hrel
    have hab : a < b := by have := HB.out; omega
    by_cases hlt : b ≤ n
    · have hltz : (b : Int) ≤ (n : Int) := by omega
      go_wp2_with (go_at_call 60; (with_reducible refine (HI.out a b q1 dk (by omega) (by have := HN.out; omega) HS.out).mono ?_); rintro e' w' ⟨rfl, q2, rfl⟩)
      go_roundg (n - b)
      case measure => omega
      case rel =>
        refine ⟨b, b + 20, q2, insertionSort (ltOf cf) dk a b, rfl, by go_num, rfl, hlt, Nat.le_refl _, (show _ = _ from (insertionSort_size ..).trans HS.out), rfl, (show _ = _ from ?_)⟩
        have hb := HB.out
        rw [← HR.out, insB.eq_1 cf n a, if_pos (by omega), hb]
    · have hltz : ¬ (b : Int) ≤ (n : Int) := by omega
      go_wp2_with (go_at_call 60; (with_reducible refine (HI.out a n q1 dk (by omega) (by have := HN.out; omega) HS.out).mono ?_); rintro e' w' ⟨rfl, q2, rfl⟩)
      have HI0 : Hid (insertionSort (ltOf cf) dk a n = insB cf n 0 d) := by
        show _ = _
        have hb := HB.out
        rw [← HR.out, insB.eq_1 cf n a, if_neg (by omega)]
      have HS2 : Hid ((insertionSort (ltOf cf) dk a n).size = n) := (insertionSort_size ..).trans HS.out
      generalize insertionSort (ltOf cf) dk a n = d1 at HI0 HS2 ⊢
      clear HR HS HB hltz hlt hab han hg1
      go_loopg [6] n (fun g2 vs wr => ∃ (bs q3 : Nat) (dj : Array α), vs = .int .i64 bs ∧ 0 < bs ∧ bs ≤ n + n + 20 ∧ n - bs ≤ g2 ∧ Hid (dj.size = n) ∧ wr = (putRow enc w blk off dj).drewN q3 ∧ Hid (mrgAll cf n bs dj = mrgAll cf n 20 d1))
      case atStart => exact ⟨20, q2, d1, by go_num, by omega, by omega, by omega, HS2, rfl, rfl⟩
      case round =>
        obtain ⟨bs, q3, dj, rfl, hbs0, hbs1, hg2, HSJ, rfl, HM⟩ := hrel
        by_cases hlt : bs < n
        · have hltz : (bs : Int) < (n : Int) := by omega
          go_wp2
          go_loopg [7, 8] n (fun g3 va vb wr => ∃ (a b q4 : Nat) (dm : Array α), va = .int .i64 a ∧ vb = .int .i64 b ∧ Hid (b = a + 2 * bs) ∧ a ≤ n ∧ n - a ≤ g3 ∧ Hid (dm.size = n) ∧ wr = (putRow enc w blk off dm).drewN q4 ∧ Hid (mrgB cf bs n a dm = mrgB cf bs n 0 dj))
          case atStart => exact ⟨0, 2 * bs, q3, dj, by go_num, by first | rfl | go_num | (simp; done), (show _ = _ by omega), by omega, by omega, HSJ, rfl, rfl⟩
          case round =>
            obtain ⟨a, b, q4, dm, rfl, rfl, HB, han, hg3, HSM2, rfl, HR⟩ := hrel
            have hab : a + 2 * bs = b := HB.out.symm
            obtain ⟨m, hm⟩ : ∃ m, a + bs = m := ⟨_, rfl⟩
            have wm : IntKind.i64.wrap ((a : Int) + (bs : Int)) = (m : Int) := by rw [IntKind.wrap_i64]; omega
            have HMM : Hid (a + bs = m) := hm
            by_cases hlt2 : b ≤ n
            · have hltz2 : (b : Int) ≤ (n : Int) := by omega
              have hc := HSM.out a m b q4 dm (by omega) (by omega) hlt2 HSM2.out
              clear hm hab
              go_wp2_with (go_at_call 61; (with_reducible refine hc.mono ?_); rintro e' w' ⟨rfl, q5, rfl⟩)
              go_roundg (n - b)
              case measure => have := HB.out; omega
              case rel =>
                have hb := HB.out
                have hm := HMM.out
                refine ⟨b, b + 2 * bs, q5, symA cf dm a m b, rfl, by first | rfl | go_num | (simp; done), rfl, hlt2, Nat.le_refl _, (show _ = _ from (symA_size cf _ _ _ _ _ (Nat.le_refl _)).trans HSM2.out), rfl, (show _ = _ from ?_)⟩
                rw [← HR.out, mrgB.eq_1 cf bs n a, if_pos (by omega), hm, ← hb]
            · have hltz2 : ¬ (b : Int) ≤ (n : Int) := by omega
              by_cases hlt3 : m < n
              · have hltz3 : (m : Int) < (n : Int) := by omega
                have hc := HSM.out a m n q4 dm (by omega) hlt3 (Nat.le_refl _) HSM2.out
                clear hm hab
                go_wp2_with (go_at_call 61; (with_reducible refine hc.mono ?_); rintro e' w' ⟨rfl, q5, rfl⟩)
                go_roundg (n - bs * 2)
                case measure => omega
                case rel =>
                  have hb := HB.out
                  have hm := HMM.out
                  refine ⟨bs * 2, q5, symA cf dm a m n, by first | rfl | go_num | (simp; done), by omega, by omega, Nat.le_refl _, (show _ = _ from (symA_size cf _ _ _ _ _ (Nat.le_refl _)).trans HSM2.out), rfl, (show _ = _ from ?_)⟩
                  rw [← HM.out, mrgAll.eq_1 cf n bs dj, if_pos ⟨hbs0, hlt⟩, ← HR.out, mrgB.eq_1 cf bs n a, if_neg (by omega), if_pos (by omega), hm]
              · have hltz3 : ¬ (m : Int) < (n : Int) := by omega
                clear hm hab
                go_wp2
                go_roundg (n - bs * 2)
                case measure => omega
                case rel =>
                  have hb := HB.out
                  have hm := HMM.out
                  refine ⟨bs * 2, q4, dm, by first | rfl | go_num | (simp; done), by omega, by omega, Nat.le_refl _, HSM2, rfl, (show _ = _ from ?_)⟩
                  rw [← HM.out, mrgAll.eq_1 cf n bs dj, if_pos ⟨hbs0, hlt⟩, ← HR.out, mrgB.eq_1 cf bs n a, if_neg (by omega), if_neg (by omega)]
        · have hltz : ¬ (bs : Int) < (n : Int) := by omega
          go_wp2
          go_end0
          refine ⟨rfl, q3, ?_⟩
          have hn := HN.out
          unfold stableA
          rw [← hn, ← HI0.out, ← HM.out, mrgAll, if_neg (by omega)]
theorem sortStable_calls : Calls Tryd.prog 27 #[.slice (some ⟨blk, off, none⟩) d.size cap, .func (.func g) #[] cb] w fun e w' => e = .returned (.tuple #[]) ∧ ∃ q, w' = (putRow enc w blk off (stableA cf d)).drewN q := by
  have h := stable_calls enc hO cf g cb blk off cap d w eg hcmp hH hsz
  clear hcmp hH
  go_enter Tryd.func27, Tryd.ntmps27
  go_wp2_with (go_at_call 45; (with_reducible refine h.mono ?_); rintro e' w' ⟨rfl, q5, rfl⟩)
  go_end0
  exact ⟨rfl, q5, rfl⟩
end
theorem stableA_size (cf : α → α → Int) (d : Array α) : (stableA cf d).size = d.size := by
  unfold stableA
  rw [stable_size cf _ _ _ _ (Nat.le_refl _), insB_size cf _ _ _ _ (Nat.le_refl _)]
end Go.Proofs.YtaihfoihlbileaaDoor.R4
