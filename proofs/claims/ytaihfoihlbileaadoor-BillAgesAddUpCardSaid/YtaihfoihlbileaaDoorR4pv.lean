/- bill.Ages, walked. -/
import Derived.Test.YtaihfoihlbileaaDoorR4po
namespace Go.Proofs.YtaihfoihlbileaaDoor.R4
open Go Go.Proofs Go.RowKit Go.Maps Go.Proofs.YtaihfoihlbileaaDoorW.PrintWords Go.Proofs.YtaihfoihlbileaaDoorW.PrintLast Go.Proofs.YtaihfoihlbileaaDoorW.PrintMore
/-- how many steps are passed -/
def kkF (st : List Int) (late : Int) : Nat := (st.takeWhile fun s => decide (s ≤ late)).length
theorem kkF_le (st : List Int) (late : Int) : kkF st late ≤ st.length := (List.takeWhile_sublist _).length_le
theorem kkF_uniq {late : Int} : ∀ {st : List Int} {k : Nat}, k ≤ st.length → (∀ j : Nat, j < k → rd st j ≤ late) → (k = st.length ∨ late < rd st k) → kkF st late = k
  | [], k, h1, _, _ => by
    have : k = 0 := by simpa using h1
    subst this
    rfl
  | s :: r, 0, _, _, h3 => by
    have h4 : ¬ s ≤ late := by
      rcases h3 with h3 | h3
      · simp at h3
      · have : late < s := h3
        omega
    unfold kkF
    rw [List.takeWhile_cons, if_neg (by simpa using h4)]
    rfl
  | s :: r, k + 1, h1, h2, h3 => by
    have h4 : s ≤ late := h2 0 (by omega)
    have ih := kkF_uniq (late := late) (st := r) (k := k) (by simpa using h1) (fun j hj => h2 (j + 1) (by omega)) (by
      rcases h3 with h3 | h3
      · exact .inl (by simpa using h3)
      · exact .inr h3)
    unfold kkF at ih ⊢
    rw [List.takeWhile_cons, if_pos (by simpa using h4), List.length_cons, ih]
/-- how much is owed, by how late it is -/
def sumsV (l0 : List SDe) (st : List Int) (S : Nat → V4) (day : Int) : Nat → List Int
  | 0 => List.replicate (st.length + 1) 0
  | n + 1 => if thereB (rdD l0 n) (S n) day = true then (sumsV l0 st S day n).set (kkF st (lateV (rdD l0 n) day)) (wrap64 (rd (sumsV l0 st S day n) (kkF st (lateV (rdD l0 n) day)) + (S n).owes)) else sumsV l0 st S day n
theorem sumsV_length (l0 : List SDe) (st : List Int) (S : Nat → V4) (day : Int) : ∀ n, (sumsV l0 st S day n).length = st.length + 1
  | 0 => by simp [sumsV]
  | n + 1 => by
    unfold sumsV
    split
    · rw [List.length_set]
      exact sumsV_length l0 st S day n
    · exact sumsV_length l0 st S day n
theorem late_t {g : Nat} {v7 v9 : Value} {d n day r : Int} {W : World} {ad : Addr} (h : W.cell? ⟨g, 1, none⟩ = some (.int .i64 d) ∧ W.cell? ⟨g, 4, none⟩ = some (.int .i64 n) ∧ W.cell? ⟨g, 7, none⟩ = some v7 ∧ W.cell? ad = some v9) (hr : mx 0 (wrap64 (day - wrap64 (d + n))) = r) :
    Calls Tryd.prog 21 #[.pointer (some ⟨g, 0, none⟩), .int .i64 day] W fun e w' => e = .returned (.int .i64 r) ∧ Below W.heap.size W w' := late_cells g d n day r W h.1 h.2.1 hr
theorem keep3a {W W' : World} {g a b c : Nat} {ad : Addr} {v0 v1 v2 v3 : Value} (h : W.cell? ⟨g, a, none⟩ = some v0 ∧ W.cell? ⟨g, b, none⟩ = some v1 ∧ W.cell? ⟨g, c, none⟩ = some v2 ∧ W.cell? ad = some v3) (hb : Below W.heap.size W W') : W'.cell? ⟨g, a, none⟩ = some v0 ∧ W'.cell? ⟨g, b, none⟩ = some v1 ∧ W'.cell? ⟨g, c, none⟩ = some v2 ∧ W'.cell? ad = some v3 := by
  obtain ⟨h0, h1, h2, h3⟩ := h
  exact ⟨(hb.cell (World.block_lt_of_cell? W _ h0)).trans h0, (hb.cell (World.block_lt_of_cell? W _ h1)).trans h1, (hb.cell (World.block_lt_of_cell? W _ h2)).trans h2, (hb.cell (World.block_lt_of_cell? W _ h3)).trans h3⟩
theorem R_slice1 {α : Type} {d : Kd α} {e base : Nat} {w : World} {v : Value} {xs : List α} (h : d.R e w base (fun _ => True) v xs) (hl : xs.length ≠ 0) : ∃ g cap, v = .slice (some ⟨g, 0, none⟩) xs.length cap ∧ base ≤ g ∧ g < w.heap.size := by
  obtain ⟨_, inner, hown, _⟩ := h
  rcases hown.2 with ⟨rfl, h2⟩ | ⟨g, cap, cur, rfl, hg, hb, _⟩
  · exact absurd h2 hl
  · exact ⟨g, cap, rfl, hg, blk_lt hb⟩
set_option maxHeartbeats 8000000 in
set_option maxRecDepth 1000000 in
theorem ages_all (k : Nat) (A0 : Option Addr) (c0 : Nat) (l0 : List SDe) (A1 : Option Addr) (c1 : Nat) (l1 : List SPa) (nb : Nat → Bool) (mf : Nat → Int) (cv pc : Nat → Int) (dsc : Nat → Int → Int) (od : List Nat) (day : Int) (m : Nat) (A2 : Option Addr) (c2 : Nat) (st : List Int) (mo : Int → S32) (me : Int → Int) (w : World) (hr0 : Kd.C k44 w A0 l0.length l0) (hc0 : l0.length ≤ c0) (hn : l0.length ≤ 200)
    (hr1 : Kd.C k35 w A1 l1.length l1) (hc1 : l1.length ≤ c1) (hn1 : l1.length ≤ 500)
    (hnb : ∀ i : Nat, i < l0.length → kit_IsName.f (rdD l0 i).f0 = some (nb i)) (hmf : ∀ i : Nat, i < l0.length → bill_moneyFault.f k (rdD l0 i).f2.f0 (rdD l0 i).f2.f1 = some (mf i)) (hcp : bill_CheckPayments.f k l1 = some 0)
    (hok : ∀ i, i < l0.length → dF l0 nb mf i = 0) (hdb : dayB day = true) (hm : UpTo l1 day m)
    (hnf : ∀ i : Nat, i < l1.length → (rdA l1 i).f2.length ≤ 100) (hod : ordA (fun j => (iniD l0 cv j).last) l0.length = od)
    (hcv : ∀ i : Nat, i < l0.length → bill_cents.f k (rdD l0 i).f2.f0 (rdD l0 i).f2.f1 = some (cv i)) (hsz : ∀ i : Nat, i < l0.length → (rdD l0 i).f0.size ≤ maxLen)
    (hpc : ∀ i : Nat, i < l1.length → bill_cents.f k (rdA l1 i).f1.f0 (rdA l1 i).f1.f1 = some (pc i)) (hsz1 : ∀ i : Nat, i < l1.length → ∀ j : Nat, j < (rdA l1 i).f2.length → (rdOf ByteArray.empty (rdA l1 i).f2 j).size ≤ maxLen)
    (hds : ∀ j : Nat, j < l0.length → ∀ o p t d : Int, bill_debt_discount.f k (rdD l0 j).f0 (rdD l0 j).f1 (rdD l0 j).f2.f0 (rdD l0 j).f2.f1 (rdD l0 j).f3 (rdD l0 j).f4 (rdD l0 j).f5 o p t d = some (dsc j o, (rdD l0 j).f0, (rdD l0 j).f1, (rdD l0 j).f2.f0, (rdD l0 j).f2.f1, (rdD l0 j).f3, (rdD l0 j).f4, (rdD l0 j).f5, o, p, t, d))
    (hr2 : Kd.C (Kd.int .i64) w A2 st.length st) (hc2 : st.length ≤ c2)
    (hmo : ∀ x ∈ sumsV l0 st (runP l0 cv dsc od l1 pc m).1 day l0.length, bill_money.f k x = some ((mo x).f0, (mo x).f1, me x)) :
    Calls Tryd.prog 11 #[.slice A0 l0.length c0, .slice A1 l1.length c1, .int .i64 day, .slice A2 st.length c2] w fun e w' => ∃ (v1 : Value) (r : Int), e = .returned (.tuple #[v1, .int .i64 r]) ∧ (r ≠ 0 → v1 = .slice none 0 0) ∧
      (r = 0 → st.length ≤ 20 ∧ (∀ x ∈ sumsV l0 st (runP l0 cv dsc od l1 pc m).1 day l0.length, me x = 0) ∧ Kd.R k32 32 w' w.heap.size (fun _ => True) v1 ((sumsV l0 st (runP l0 cv dsc od l1 pc m).1 day l0.length).map mo)) ∧ Below w.heap.size w w' := by
  have hbf := both_calls k A0 c0 l0 A1 c1 l1 nb mf 0 w hr0 hc0 hr1 hc1 hnb hmf hcp
  have HPY : Aside _ := fun (w5 : World) (hb : Below w.heap.size w w5) => payments_calls k A0 c0 l0 A1 c1 l1 day cv pc dsc od w5 (Kd.C_below hr0 hb) hc0 hn (Kd.C_below hr1 hb) hc1 hn1 hnf hod hcv hsz hpc hsz1 hds
  have HZ : Aside _ := fun r (h : ChkD l0 nb mf r) => chk_zero hn hok h
  have HUP : Aside _ := hm
  have HR2 := Aside0.mk hr2
  have HMO : Aside _ := hmo
  have hid := isDay_eq day
  rw [hdb] at hid
  clear hr0 hr1 hr2 hnb hmf hcp hok hdb hm hnf hod hcv hsz hpc hsz1 hds hmo
  by_cases h20 : (st.length : Int) > 20
  · go_enter Tryd.func11, Tryd.ntmps11
    go_wp2_with (first | (go_at_call 12; (with_reducible refine hbf.mono ?_); rintro e w5 ⟨r, rfl, ⟨rd, hrd, hr⟩, hb⟩; obtain rfl := HZ.out rd hrd; rw [if_pos rfl] at hr; obtain rfl := hr; have HB : Hid (Below w.heap.size w _) := hb; clear hb hrd) | (go_at_call 19; (with_reducible refine (kit_IsDay.calls day _ _ hid).mono ?_); rintro e w6 ⟨rfl, hb⟩; have HB2 : Hid (Below w.heap.size w _) := HB.out.trans (hb.below.mono HB.out.size); clear HB hb; have HB := HB2; clear HB2))
    go_ret2
    exact ⟨_, 2, rfl, fun _ => rfl, fun h => absurd h (by decide), HB.out⟩
  have hn20 : decide ((st.length : Int) > 20) = false := decide_eq_false h20
  have hs20 : st.length ≤ 20 := by omega
  go_enter Tryd.func11, Tryd.ntmps11
  go_upto_region 8 with (first | (go_at_call 12; (with_reducible refine hbf.mono ?_); rintro e w5 ⟨r, rfl, ⟨rd, hrd, hr⟩, hb⟩; obtain rfl := HZ.out rd hrd; rw [if_pos rfl] at hr; obtain rfl := hr; have HB : Hid (Below w.heap.size w _) := hb; clear hb hrd) | (go_at_call 19; (with_reducible refine (kit_IsDay.calls day _ _ hid).mono ?_); rintro e w6 ⟨rfl, hb⟩; have HB2 : Hid (Below w.heap.size w _) := HB.out.trans (hb.below.mono HB.out.size); clear HB hb; have HB := HB2; clear HB2))
  clear hbf hid
  go_wp2_with fail
  go_loopg [38] st.length (fun g1 vi wr => ∃ i : Nat, vi = .int .i64 i ∧ i ≤ st.length ∧ st.length - i ≤ g1 ∧ Hid (Below w.heap.size w wr))
  case atStart => exact ⟨0, rfl, Nat.zero_le _, Nat.le_refl _, HB⟩
  case round =>
    obtain ⟨i, rfl, hi, hg1, HB1⟩ := hrel
    clear HB
    by_cases hlt : i < st.length
    · have hltz : (i : Int) < (st.length : Int) := by omega
      obtain ⟨ad, e0, hx⟩ := Kd.at_int HR2.out (i : Int) (by omega) hltz
      cases e0
      simp only [Int.toNat_natCast] at hx
      obtain ⟨s, hs⟩ : ∃ s, s = rd st i := ⟨_, rfl⟩
      rw [← hs] at hx
      have hx1 := hz ⟨HB1.out⟩ hx
      have hds := isDay_eq s
      clear hs hx
      by_cases hd : dayB s = true
      · rw [hd] at hds
        clear hd
        by_cases hi0 : 0 < i
        · have hi0z : (0 : Int) < (i : Int) := by omega
          have hgz : decide ((0 : Int) < (i : Int)) = true := decide_eq_true hi0z
          obtain ⟨ad2, e1, hy⟩ := Kd.at_int HR2.out ((i - 1 : Nat) : Int) (by omega) (by omega)
          cases e1
          simp only [Int.toNat_natCast] at hy
          obtain ⟨s2, hs2⟩ : ∃ s2, s2 = rd st ((i - 1 : Nat) : Int) := ⟨_, rfl⟩
          rw [← hs2] at hy
          clear hs2
          have hwi : IntKind.i64.wrap ((i : Int) - 1) = ((i - 1 : Nat) : Int) := by rw [i64_w]; unfold wrap64; omega
          have HYC : Hid (w.cell? (ad.add (i - 1)) = some (.int .i64 s2)) := hy
          have hlt2 : ((i - 1 : Nat) : Int) < (st.length : Int) := by omega
          have hge2 : (0 : Int) ≤ ((i - 1 : Nat) : Int) := by omega
          generalize hjj : i - 1 = jj at hwi HYC hlt2 hge2
          clear hjj hy
          by_cases hle : s ≤ s2
          · have hlb : decide (s ≤ s2) = true := decide_eq_true hle
            go_wp2_with (go_at_call 19; (with_reducible refine (kit_IsDay.calls s _ _ hds).mono ?_); rintro e w6 ⟨rfl, hb⟩; have HB2 : Hid (Below w.heap.size w _) := HB1.out.trans (hb.below.mono HB1.out.size); have hy1 := hz ⟨HB2.out⟩ HYC.out)
            go_ret2
            exact ⟨_, 8, rfl, fun _ => rfl, fun h => absurd h (by decide), HB2.out⟩
          · have hlb : decide (s ≤ s2) = false := decide_eq_false hle
            go_wp2_with (go_at_call 19; (with_reducible refine (kit_IsDay.calls s _ _ hds).mono ?_); rintro e w6 ⟨rfl, hb⟩; have HB2 : Hid (Below w.heap.size w _) := HB1.out.trans (hb.below.mono HB1.out.size); have hy1 := hz ⟨HB2.out⟩ HYC.out)
            go_roundg (st.length - (i + 1))
            case measure => omega
            case rel => exact ⟨i + 1, by first | rfl | (congr 1; omega), by omega, Nat.le_refl _, HB2⟩
        · have hi0z : ¬ (0 : Int) < (i : Int) := by omega
          have hgz : decide ((0 : Int) < (i : Int)) = false := decide_eq_false hi0z
          go_wp2_with (go_at_call 19; (with_reducible refine (kit_IsDay.calls s _ _ hds).mono ?_); rintro e w6 ⟨rfl, hb⟩; have HB2 : Hid (Below w.heap.size w _) := HB1.out.trans (hb.below.mono HB1.out.size))
          go_roundg (st.length - (i + 1))
          case measure => omega
          case rel => exact ⟨i + 1, by first | rfl | (congr 1; omega), by omega, Nat.le_refl _, HB2⟩
      · have hdf : dayB s = false := by simpa using hd
        rw [hdf] at hds
        clear hd hdf
        go_wp2_with (go_at_call 19; (with_reducible refine (kit_IsDay.calls s _ _ hds).mono ?_); rintro e w6 ⟨rfl, hb⟩; have HB2 : Hid (Below w.heap.size w _) := HB1.out.trans (hb.below.mono HB1.out.size))
        go_ret2
        exact ⟨_, 1, rfl, fun _ => rfl, fun h => absurd h (by decide), HB2.out⟩
    · obtain rfl : i = st.length := by omega
      have hltz : ¬ (st.length : Int) < (st.length : Int) := by omega
      go_upto_region 17 with (go_at_call 13; have hh := HPY.out _ HB1.out; (with_reducible refine hh.mono ?_); clear hh; rintro e w7 ⟨m2, v, vo, vr, gs, D, hm, hml, hmr, rfl, hL⟩)
      obtain rfl : m2 = m := (UpTo.mk hm hml hmr).uniq HUP.out
      clear hm hml hmr
      obtain ⟨w6, hw6⟩ : ∃ w6, w6 = wr := ⟨_, rfl⟩
      rw [← hw6] at hL HB1
      clear hw6
      obtain ⟨R, hR⟩ : ∃ R, R = runP l0 cv dsc od l1 pc m2 := ⟨_, rfl⟩
      rw [← hR] at hL
      have HRR : Hid (runP l0 cv dsc od l1 pc m2 = R) := hR.symm
      have HM2 : Aside (∀ x ∈ sumsV l0 st R.1 day l0.length, bill_money.f k x = some ((mo x).f0, (mo x).f1, me x)) := by
        rw [hR]
        exact HMO
      clear hR HMO
      obtain ⟨av, cvv, rfl⟩ := own_slice hL.row
      obtain ⟨ar, cr, rfl⟩ := own_slice hL.rst
      have HL : Hid (Laid2 w6 w7 l0 (.slice av l0.length cvv) vo (.slice ar R.2.length cr) gs D od R.1 R.2) := hL
      have HB7 : Hid (Below w.heap.size w w7) := HB1.out.trans (hL.bel.mono HB1.out.size)
      clear hL HB1 hi hg1 hlt
      have hwn : IntKind.i64.wrap ((st.length : Int) + 1) = ((st.length + 1 : Nat) : Int) := by rw [i64_w]; unfold wrap64; omega
      go_upto_region 18 with (refine Kd.R_make (Kd.int .i64) w7.heap.size 3 rfl (N := 68) rfl 38 _ _ rfl ((st.length + 1 : Nat) : Int) rfl rfl Tryd.underlying38 (.int .i64 0) 8 infoI rfl (by decide) (by decide) 0 (ok := fun _ => True) (okp := fun _ => True) rfl (fun _ hk => hk) trivial (by omega) (by omega) (Below.refl _ _) (Nat.le_refl _) ?_; intro vs w8 hS8 hB8 hg8 hnew8)
      simp only [Int.toNat_natCast] at hS8
      obtain ⟨gq, cq, rfl, hgq, hgq2⟩ := R_slice1 hS8 (by simp)
      rw [List.length_replicate] at hS8 ⊢
      have HS8 : Hid (Kd.R (Kd.int .i64) 3 w8 w7.heap.size (fun _ => True) (.slice (some ⟨gq, 0, none⟩) (st.length + 1) cq) (sumsV l0 st R.1 day 0)) := hS8
      have HB8 : Hid (Below w7.heap.size w7 w8) := hB8
      have HGQ : Hid (w7.heap.size ≤ gq) := hgq
      clear hS8 hB8 hg8 hnew8 hgq hgq2 hwn
      go_wp2_with fail
      go_loopg [71] l0.length (fun g1 vi wr => ∃ i : Nat, vi = .int .i64 i ∧ i ≤ l0.length ∧ l0.length - i ≤ g1 ∧ Hid (Below w7.heap.size w7 wr) ∧ Hid (Kd.R (Kd.int .i64) 3 wr w7.heap.size (fun _ => True) (.slice (some ⟨gq, 0, none⟩) (st.length + 1) cq) (sumsV l0 st R.1 day i)))
      case atStart => exact ⟨0, rfl, Nat.zero_le _, Nat.le_refl _, HB8, HS8⟩
      case round =>
        obtain ⟨i, rfl, hi, hg1, HB9, HS9⟩ := hrel
        clear HB8 HS8
        by_cases hlt : i < l0.length
        · have hltz : (i : Int) < (l0.length : Int) := by omega
          have hL9 := HL.out.keep HB9.out
          obtain ⟨ad, ea, hca⟩ := own_cell hL9.row i hlt
          cases ea
          obtain ⟨g, hg⟩ : ∃ g, gs[i]? = some g := ⟨gs[i]'(by rw [hL9.len]; exact hlt), List.getElem?_eq_getElem _⟩
          rw [List.getElem?_map, hg] at hca
          replace hca : wr.cell? (ad.add i) = some (.pointer (some ⟨g, 0, none⟩)) := hca
          have hob := hL9.obj i g hg
          have y1 : wr.cell? ⟨g, 1, none⟩ = some (.int .i64 (rdD l0 i).f1) := (blk_cell hob 1).trans rfl
          have y10 : wr.cell? ⟨g, 10, none⟩ = some (.int .i64 (R.1 i).done) := (blk_cell hob 10).trans rfl
          have hth := there_cells g (rdD l0 i).f1 (R.1 i).done day wr y1 y10
          have eth : (if (rdD l0 i).f1 ≤ day then (R.1 i).done == 0 else false) = thereB (rdD l0 i) (R.1 i) day := rfl
          rw [eth] at hth
          clear y1 y10 eth hL9
          have HOBJ : Hid (wr.heap[g]? = some (mkD l0 i (R.1 i)).obj) := hob
          have HG7 : Hid (w7.heap[g]? = some (mkD l0 i (R.1 i)).obj) := HL.out.obj i g hg
          clear hg hob
          by_cases hb : thereB (rdD l0 i) (R.1 i) day = true
          · have HTB : Hid (thereB (rdD l0 i) (R.1 i) day = true) := hb
            rw [hb] at hth
            clear hb
            go_upto_region 22 with (go_at_call 20; (with_reducible refine hth.mono ?_); rintro e wb ⟨rfl, hb8⟩)
            have HB10 : Hid (Below w7.heap.size w7 wb) := HB9.out.trans (hb8.mono HB9.out.size)
            have HS10 : Hid (Kd.R (Kd.int .i64) 3 wb w7.heap.size (fun _ => True) (.slice (some ⟨gq, 0, none⟩) (st.length + 1) cq) (sumsV l0 st R.1 day i)) := Kd.R_below HS9.out hb8
            clear hb8 HB9 HS9 HOBJ hth hca
            obtain ⟨lv, hlv⟩ : ∃ lv, mx 0 (wrap64 (day - wrap64 ((rdD l0 i).f1 + (rdD l0 i).f3))) = lv := ⟨_, rfl⟩
            have HLV : Hid (lateV (rdD l0 i) day = lv) := hlv
            have HLV2 : Hid (mx 0 (wrap64 (day - wrap64 ((rdD l0 i).f1 + (rdD l0 i).f3))) = lv) := hlv
            clear hlv
            go_wp2_with fail
            go_loopg [18] st.length (fun g2 vk wr => ∃ q : Nat, vk = .int .i64 q ∧ q ≤ st.length ∧ st.length - q ≤ g2 ∧ Hid (∀ j : Nat, j < q → rd st j ≤ lv) ∧ Hid (Below w7.heap.size w7 wr) ∧ Hid (Kd.R (Kd.int .i64) 3 wr w7.heap.size (fun _ => True) (.slice (some ⟨gq, 0, none⟩) (st.length + 1) cq) (sumsV l0 st R.1 day i)))
            case atStart => exact ⟨0, rfl, Nat.zero_le _, Nat.le_refl _, (show ∀ j : Nat, j < 0 → _ from fun j hj => absurd hj (Nat.not_lt_zero j)), HB10, HS10⟩
            case round =>
              obtain ⟨q, rfl, hq, hg2, HJ, HB11, HS11⟩ := hrel
              clear HB10 HS10
              have hob := blk_below HG7.out HB11.out
              have z1 : wr.cell? ⟨g, 1, none⟩ = some (.int .i64 (rdD l0 i).f1) := (blk_cell hob 1).trans rfl
              have z4 : wr.cell? ⟨g, 4, none⟩ = some (.int .i64 (rdD l0 i).f3) := (blk_cell hob 4).trans rfl
              have z7 : wr.cell? ⟨g, 7, none⟩ = some (.int .i64 (R.1 i).owes) := (blk_cell hob 7).trans rfl
              clear hob
              by_cases hltq : q < st.length
              · have hltqz : (q : Int) < (st.length : Int) := by omega
                obtain ⟨aq, eq, hxq⟩ := Kd.at_int HR2.out (q : Int) (by omega) hltqz
                cases eq
                simp only [Int.toNat_natCast] at hxq
                have HBw : Hid (Below w.heap.size w wr) := HB7.out.trans (HB11.out.mono HB7.out.size)
                have hxk := hz ⟨HBw.out⟩ hxq
                obtain ⟨s, hs⟩ : ∃ s, rd st q = s := ⟨_, rfl⟩
                rw [hs] at hxk
                have HSQ : Hid (rd st q = s) := hs
                clear hs hxq HBw
                have hq0 : (0 : Int) ≤ (q : Int) := by omega
                by_cases hsl : s ≤ lv
                · have hslb : decide (s ≤ lv) = true := decide_eq_true hsl
                  go_upto_region 23 with fail
                  go_region_held3 (fun w' => w'.cell? ⟨g, 1, none⟩ = some (.int .i64 (rdD l0 i).f1) ∧ w'.cell? ⟨g, 4, none⟩ = some (.int .i64 (rdD l0 i).f3) ∧ w'.cell? ⟨g, 7, none⟩ = some (.int .i64 (R.1 i).owes) ∧ w'.cell? (aq.add q) = some (.int .i64 s))
                    (first | exact keep3a ⟨z1, z4, z7, hxk⟩ ((Below.refl _ _).drew) | exact keep3a (by assumption) ((Below.refl _ _).alloc (Nat.le_refl _) _) | exact keep3a (by assumption) (by assumption))
                    (first | (go_at_call 21; (with_reducible refine (late_t (keep3a ⟨z1, z4, z7, hxk⟩ ((Below.refl _ _).drew)) HLV2.out).mono ?_); rintro e w15 ⟨rfl, hB15⟩))
                  have HBS : Hid (Below wr.heap.size wr w15) := ((Below.refl _ _).drew).trans (hB15.mono (by simp))
                  clear hB15 hxk
                  go_wp2
                  go_roundg (st.length - (q + 1))
                  case measure => omega
                  case rel =>
                    refine ⟨q + 1, by first | rfl | (congr 1; omega), by omega, Nat.le_refl _, ?_, HB11.out.trans (HBS.out.mono HB11.out.size), Kd.R_below HS11.out HBS.out⟩
                    exact (show ∀ j : Nat, j < q + 1 → rd st j ≤ lv from fun j hj => by
                      by_cases hjq : j < q
                      · exact HJ.out j hjq
                      · obtain rfl : j = q := by omega
                        rw [HSQ.out]
                        exact hsl)
                · have hslb : decide (s ≤ lv) = false := decide_eq_false hsl
                  go_upto_region 23 with fail
                  go_region_held3 (fun w' => w'.cell? ⟨g, 1, none⟩ = some (.int .i64 (rdD l0 i).f1) ∧ w'.cell? ⟨g, 4, none⟩ = some (.int .i64 (rdD l0 i).f3) ∧ w'.cell? ⟨g, 7, none⟩ = some (.int .i64 (R.1 i).owes) ∧ w'.cell? (aq.add q) = some (.int .i64 s))
                    (first | exact keep3a ⟨z1, z4, z7, hxk⟩ ((Below.refl _ _).drew) | exact keep3a (by assumption) ((Below.refl _ _).alloc (Nat.le_refl _) _) | exact keep3a (by assumption) (by assumption))
                    (first | (go_at_call 21; (with_reducible refine (late_t (keep3a ⟨z1, z4, z7, hxk⟩ ((Below.refl _ _).drew)) HLV2.out).mono ?_); rintro e w15 ⟨rfl, hB15⟩))
                  have HBS : Hid (Below wr.heap.size wr w15) := ((Below.refl _ _).drew).trans (hB15.mono (by simp))
                  clear hB15 hxk
                  have HLT : Hid (lv < rd st q) := (show _ < _ by rw [HSQ.out]; omega)
                  clear HSQ
                  have HB12 : Hid (Below w7.heap.size w7 w15) := HB11.out.trans (HBS.out.mono HB11.out.size)
                  have HS12 : Hid (Kd.R (Kd.int .i64) 3 w15 w7.heap.size (fun _ => True) (.slice (some ⟨gq, 0, none⟩) (st.length + 1) cq) (sumsV l0 st R.1 day i)) := Kd.R_below HS11.out HBS.out
                  have hob2 := blk_below HG7.out HB12.out
                  clear z1 z4 z7 HB11 HS11 HBS
                  have z7 : (w15).cell? ⟨g, 7, none⟩ = some (.int .i64 (R.1 i).owes) := (blk_cell hob2 7).trans rfl
                  obtain ⟨x, hx⟩ : ∃ x, rd (sumsV l0 st R.1 day i) q = x := ⟨_, rfl⟩
                  have hcf := Kd.R_celln (0 : Int) HS12.out (q : Int) (by omega) (by omega)
                  rw [Int.toNat_natCast] at hcf
                  have cx : (w15).cell? ⟨gq, q, none⟩ = some (.int .i64 x) := hx ▸ hcf.1
                  have fx := hcf.2
                  obtain ⟨y, hy⟩ : ∃ y, wrap64 (x + (R.1 i).owes) = y := ⟨_, rfl⟩
                  have wy : IntKind.i64.wrap (x + (R.1 i).owes) = y := (i64_w _).trans hy
                  have HEQ : Hid (sumsV l0 st R.1 day (i + 1) = (sumsV l0 st R.1 day i).set q y) := by
                    rw [sumsV, if_pos HTB.out, HLV.out, kkF_uniq hq HJ.out (.inr HLT.out), hx, hy]
                    exact rfl
                  have hqlt : (q : Int) < ((st.length + 1 : Nat) : Int) := by omega
                  have hq9 : (0 : Int) ≤ (q : Int) := by omega
                  clear hx hcf hob2 hy
                  go_upto_region 25 with fail
                  go_big_region
                  have HB13 : Hid (Below w7.heap.size w7 ((w15).setCell ⟨gq, q, none⟩ (.int .i64 y))) := below_set HB12.out HGQ.out
                  have HS13 : Hid (Kd.R (Kd.int .i64) 3 ((w15).setCell ⟨gq, q, none⟩ (.int .i64 y)) w7.heap.size (fun _ => True) (.slice (some ⟨gq, 0, none⟩) (st.length + 1) cq) ((sumsV l0 st R.1 day i).set q y)) := Kd.R_putn HS12.out (q : Int) y
                  go_wp2
                  go_roundg (l0.length - (i + 1))
                  case measure => omega
                  case rel =>
                    refine ⟨i + 1, by first | rfl | (congr 1; omega), by omega, Nat.le_refl _, below_drew1 HB13.out, ?_⟩
                    rw [HEQ.out]
                    exact Kd.R_drew HS13.out
              · have hqe : q = st.length := by omega
                have hltqz : ¬ (q : Int) < (st.length : Int) := by omega
                have hltqb : decide ((q : Int) < (st.length : Int)) = false := decide_eq_false hltqz
                have HQE : Hid (q = st.length) := hqe
                clear hqe
                go_upto_region 23 with fail
                go_big_region
                have HBS : Hid (Below wr.heap.size wr wr.drew) := (Below.refl _ _).drew
                have HB12 : Hid (Below w7.heap.size w7 wr.drew) := HB11.out.trans (HBS.out.mono HB11.out.size)
                have HS12 : Hid (Kd.R (Kd.int .i64) 3 wr.drew w7.heap.size (fun _ => True) (.slice (some ⟨gq, 0, none⟩) (st.length + 1) cq) (sumsV l0 st R.1 day i)) := Kd.R_below HS11.out HBS.out
                have hob2 := blk_below HG7.out HB12.out
                clear z1 z4 z7 HB11 HS11 HBS
                have z7 : (wr.drew).cell? ⟨g, 7, none⟩ = some (.int .i64 (R.1 i).owes) := (blk_cell hob2 7).trans rfl
                obtain ⟨x, hx⟩ : ∃ x, rd (sumsV l0 st R.1 day i) q = x := ⟨_, rfl⟩
                have hcf := Kd.R_celln (0 : Int) HS12.out (q : Int) (by omega) (by omega)
                rw [Int.toNat_natCast] at hcf
                have cx : (wr.drew).cell? ⟨gq, q, none⟩ = some (.int .i64 x) := hx ▸ hcf.1
                have fx := hcf.2
                obtain ⟨y, hy⟩ : ∃ y, wrap64 (x + (R.1 i).owes) = y := ⟨_, rfl⟩
                have wy : IntKind.i64.wrap (x + (R.1 i).owes) = y := (i64_w _).trans hy
                have HEQ : Hid (sumsV l0 st R.1 day (i + 1) = (sumsV l0 st R.1 day i).set q y) := by
                  rw [sumsV, if_pos HTB.out, HLV.out, kkF_uniq hq HJ.out (.inl HQE.out), hx, hy]
                  exact rfl
                have hqlt : (q : Int) < ((st.length + 1 : Nat) : Int) := by omega
                have hq9 : (0 : Int) ≤ (q : Int) := by omega
                clear hx hcf hob2 hy
                go_upto_region 25 with fail
                go_big_region
                have HB13 : Hid (Below w7.heap.size w7 ((wr.drew).setCell ⟨gq, q, none⟩ (.int .i64 y))) := below_set HB12.out HGQ.out
                have HS13 : Hid (Kd.R (Kd.int .i64) 3 ((wr.drew).setCell ⟨gq, q, none⟩ (.int .i64 y)) w7.heap.size (fun _ => True) (.slice (some ⟨gq, 0, none⟩) (st.length + 1) cq) ((sumsV l0 st R.1 day i).set q y)) := Kd.R_putn HS12.out (q : Int) y
                go_wp2
                go_roundg (l0.length - (i + 1))
                case measure => omega
                case rel =>
                  refine ⟨i + 1, by first | rfl | (congr 1; omega), by omega, Nat.le_refl _, below_drew1 HB13.out, ?_⟩
                  rw [HEQ.out]
                  exact Kd.R_drew HS13.out
          · have hbf : thereB (rdD l0 i) (R.1 i) day = false := by simpa using hb
            have HTB : Hid (thereB (rdD l0 i) (R.1 i) day = false) := hbf
            rw [hbf] at hth
            clear hb hbf
            go_wp2_with (go_at_call 20; (with_reducible refine hth.mono ?_); rintro e wb ⟨rfl, hb8⟩)
            go_roundg (l0.length - (i + 1))
            case measure => omega
            case rel =>
              refine ⟨i + 1, by first | rfl | (congr 1; omega), by omega, Nat.le_refl _, HB9.out.trans (hb8.mono HB9.out.size), ?_⟩
              have h9 := Kd.R_below HS9.out hb8
              show Kd.R _ _ _ _ _ _ (sumsV l0 st R.1 day (i + 1))
              rw [sumsV, if_neg (by rw [HTB.out]; decide)]
              exact h9
        · obtain rfl : i = l0.length := by omega
          have hltz : ¬ (l0.length : Int) < (l0.length : Int) := by omega
          obtain ⟨sv, hsv⟩ : ∃ sv, sumsV l0 st R.1 day l0.length = sv := ⟨_, rfl⟩
          have HM3 : Aside (∀ x ∈ sv, bill_money.f k x = some ((mo x).f0, (mo x).f1, me x)) := by
            rw [← hsv]
            exact HM2
          have HSL : Hid (sv.length = st.length + 1) := (show _ = _ by rw [← hsv]; exact sumsV_length ..)
          have HSV : Hid (sumsV l0 st R.1 day l0.length = sv) := hsv
          have HS10 : Hid (Kd.R (Kd.int .i64) 3 wr w7.heap.size (fun _ => True) (.slice (some ⟨gq, 0, none⟩) (st.length + 1) cq) sv) := hsv ▸ HS9.out
          have HB10 := HB9
          clear hsv HM2 HB9 HS9 hi hg1 hlt
          go_wp2_with fail
          go_loopg [19, 108] (st.length + 1) (fun g2 v2 vi wr => ∃ q : Nat, vi = .int .i64 q ∧ q ≤ st.length + 1 ∧ st.length + 1 - q ≤ g2 ∧ Hid (Below w7.heap.size w7 wr) ∧ Hid (Kd.R (Kd.int .i64) 3 wr w7.heap.size (fun _ => True) (.slice (some ⟨gq, 0, none⟩) (st.length + 1) cq) sv) ∧ Hid (Kd.R k32 32 wr w7.heap.size (fun _ => True) v2 ((sv.take q).map mo)) ∧ Hid (∀ x ∈ sv.take q, me x = 0))
          case atStart => exact ⟨0, rfl, Nat.zero_le _, Nat.le_refl _, HB10, HS10, (show Kd.R _ _ _ _ _ _ [] from Kd.R_nil _ _ _ _ _), (show ∀ x ∈ sv.take 0, _ from fun x hx => by simp at hx)⟩
          case round =>
            obtain ⟨q, rfl, hq, hg2, HB11, HS11, HW11, HE11⟩ := hrel
            clear HB10 HS10
            by_cases hltq : q < st.length + 1
            · have hltqz : (q : Int) < ((st.length + 1 : Nat) : Int) := by omega
              have hq9 : (0 : Int) ≤ (q : Int) := by omega
              have hqs : q < sv.length := by have := HSL.out; omega
              obtain ⟨x, hx⟩ : ∃ x, rd sv q = x := ⟨_, rfl⟩
              have hcf := Kd.R_celln (0 : Int) HS11.out (q : Int) (by omega) (by omega)
              rw [Int.toNat_natCast] at hcf
              have cx : wr.cell? ⟨gq, q, none⟩ = some (.int .i64 x) := hx ▸ hcf.1
              have hxq : sv[q]? = some x := by
                rw [← hx]
                show _ = some (sv.getD (q : Int).toNat 0)
                rw [Int.toNat_natCast, List.getD_eq_getElem?_getD, List.getElem?_eq_getElem hqs]
                rfl
              have HXQ : Hid (sv[q]? = some x) := hxq
              have hmx := HM3.out x (List.mem_of_getElem? hxq)
              clear hx hcf hxq
              by_cases hme : me x = 0
              · rw [hme] at hmx
                have HME : Hid (me x = 0) := hme
                clear hme
                go_upto_region 32 with (go_at_call 22; (with_reducible refine (bill_money.calls k x _ _ _ _ hmx).mono ?_); rintro e w9 ⟨rfl, hb⟩)
                have G9 := blk_new w9 (.cells #[.int .i64 (mo x).f0, .int .i64 (mo x).f1] 32 (0, 0))
                have HS9 : Hid (Below wr.heap.size wr (w9.alloc (.cells #[.int .i64 (mo x).f0, .int .i64 (mo x).f1] 32))) := hb.alloc hb.size _
                clear hb hmx
                generalize w9.heap.size = gb at G9 ⊢
                generalize w9.alloc _ = w10 at G9 HS9 ⊢
                have y0 : w10.cell? ⟨gb, 0, none⟩ = some (.int .i64 (mo x).f0) := (blk_cell G9 0).trans rfl
                have y1 : w10.cell? ⟨gb, 1, none⟩ = some (.int .i64 (mo x).f1) := (blk_cell G9 1).trans rfl
                clear G9 cx
                have HSM : Hid ((((sv.take q).map mo).length + 1) * 16 ≤ 140737488355328) := (show _ ≤ _ by rw [List.length_map, List.length_take]; omega)
                go_wp2_with (at_builtin; refine Kd.R_append k32 (w0 := w7) w7.heap.size rfl (.tmp 120) (.tmp 122) 25 32 _ 16 rfl Tryd.underlying25 info32 rfl (by decide) (by decide) u19 ((sv.take q).map mo) (mo x) _ (fun _ => True) (fun _ => False) rfl rfl (k32_mkM _ _ _ (mo x)) (fun _ h => h.elim) (fun _ _ => trivial) (Kd.R_below HW11.out HS9.out) (HB11.out.trans (HS9.out.mono HB11.out.size)) (Nat.le_trans HB11.out.size HS9.out.size) HSM.out ?_; intro v10 w11 hR10 hB10 hg10 hor10)
                go_roundg (st.length + 1 - (q + 1))
                case measure => omega
                case rel =>
                  obtain ⟨inn, how⟩ := own_of (Kd.R_below HW11.out HS9.out)
                  refine ⟨q + 1, by first | rfl | (congr 1; omega), by omega, Nat.le_refl _, hB10, R_other (Kd.R_below HS11.out HS9.out) hg10 how (by decide), ?_, ?_⟩
                  · show Kd.R _ _ _ _ _ _ ((sv.take (q + 1)).map mo)
                    rw [List.take_add_one, HXQ.out, List.map_append]
                    exact hR10
                  · exact (show ∀ z ∈ sv.take (q + 1), me z = 0 from fun z hz => by
                      rw [List.take_add_one, HXQ.out] at hz
                      rcases List.mem_append.1 hz with hz | hz
                      · exact HE11.out z hz
                      · have : z = x := by simpa using hz
                        rw [this]
                        exact HME.out)
              · obtain ⟨er, her⟩ : ∃ er, me x = er := ⟨_, rfl⟩
                rw [her] at hmx hme
                go_wp2_with (go_at_call 22; (with_reducible refine (bill_money.calls k x _ _ _ _ hmx).mono ?_); rintro e w9 ⟨rfl, hb⟩; have HS9 : Hid (Below wr.heap.size wr (w9.alloc (.cells #[.int .i64 (mo x).f0, .int .i64 (mo x).f1] 32))) := hb.alloc hb.size _)
                go_ret2
                exact ⟨_, er, rfl, fun _ => rfl, fun h => absurd h hme, HB7.out.trans ((HB11.out.trans (HS9.out.mono HB11.out.size)).mono HB7.out.size)⟩
            · have hqe : q = st.length + 1 := by omega
              have HQE : Hid (q = st.length + 1) := hqe
              have hltqz : ¬ (q : Int) < ((st.length + 1 : Nat) : Int) := by omega
              clear hqe
              go_wp2
              go_ret2
              have hall : sv.take q = sv := by rw [HQE.out, ← HSL.out, List.take_length]
              refine ⟨u19, 0, rfl, fun h => absurd rfl h, fun _ => ⟨?_, ?_⟩, HB7.out.trans (HB11.out.mono HB7.out.size)⟩
              · rw [HRR.out, HSV.out]
                have h9 := HE11.out
                rw [hall] at h9
                exact h9
              · rw [HRR.out, HSV.out]
                have h9 := Kd.R_lower HW11.out HB7.out.size
                rw [hall] at h9
                exact h9
end Go.Proofs.YtaihfoihlbileaaDoor.R4
