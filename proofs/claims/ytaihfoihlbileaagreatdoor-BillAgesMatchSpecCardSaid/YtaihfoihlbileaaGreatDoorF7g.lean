import Derived.Laws.StructEq
import Derived.Deep.DeepCutAuto
import Derived.Shelf.Spec.SlicesInsert
import Derived.Shelf.Spec.SlicesInsertGrow
import Derived.Test.YtaihfoihlbileaaGreatDoorProg
import Derived.Test.YtaihfoihlbileaaGreatDoorF7f
set_option maxHeartbeats 8000000
set_option maxRecDepth 1000000
set_option linter.unusedVariables false
set_option linter.unusedSimpArgs false
set_option linter.unusedSectionVars false
namespace Go.Proofs.YtaihfoihlbileaaGreatDoor.R7
open Go Go.Proofs Go.RowKit Go.Maps Go.Proofs.YtaihfoihlbileaaGreatDoorW.PrintWords Go.Proofs.YtaihfoihlbileaaGreatDoorW.PrintLast Go.Proofs.YtaihfoihlbileaaGreatDoorW.PrintMore
def kkF (st : List Int) (late : Int) : Nat := (st.takeWhile fun s => decide (s ≤ late)).length
theorem kkF_le (st : List Int) (late : Int) : kkF st late ≤ st.length := (List.takeWhile_sublist _).length_le
theorem zVw {late : Int} : ∀ {st : List Int} {k : Nat}, k ≤ st.length → (∀ j : Nat, j < k → rd st j ≤ late) → (k = st.length ∨ late < rd st k) → kkF st late = k
 | [], k, h1, _, _ => by
  have : k = 0 := by simpa using h1
  subst this
  rfl
 | s :: r, 0, _, _, h3 => by
  have h4 : ¬ s ≤ late := by
   rcases h3 with h3 | h3
   ·simp at h3
   ·have : late < s := h3
    omega
  unfold kkF
  rw [List.takeWhile_cons, if_neg (by simpa using h4)]
  rfl
 | s :: r, k + 1, h1, h2, h3 => by
  have h4 : s ≤ late := h2 0 (by omega)
  have ih := zVw (late := late) (st := r) (k := k) (by simpa using h1) (fun j hj => h2 (j + 1) (by omega)) (by
   rcases h3 with h3 | h3
   ·exact .inl (by simpa using h3)
   ·exact .inr h3)
  unfold kkF at ih ⊢
  rw [List.takeWhile_cons, if_pos (by simpa using h4), List.length_cons, ih]
def vv (l0 : List SDe) (st : List Int) (S : Nat → V4) (day : Int) : Nat → List Int
 | 0 => List.replicate (st.length + 1) 0
 | n + 1 => if xy (rdD l0 n) (S n) day = true then (vv l0 st S day n).set (kkF st (zQg (rdD l0 n) day)) (wrap64 (rd (vv l0 st S day n) (kkF st (zQg (rdD l0 n) day)) + (S n).owes)) else vv l0 st S day n
theorem uD (l0 : List SDe) (st : List Int) (S : Nat → V4) (day : Int) : ∀ n, (vv l0 st S day n).length = st.length + 1
 | 0 => by simp [vv]
 | n + 1 => by
  unfold vv
  split
  ·rw [List.length_set]
   exact uD l0 st S day n
  ·exact uD l0 st S day n
theorem late_t {g : Nat} {v7 v9 : Value} {d n day r : Int} {W : World} {ad : Addr} (h : W.cell? ⟨g, 1, none⟩ = some (.int .i64 d) ∧ W.cell? ⟨g, 4, none⟩ = some (.int .i64 n) ∧ W.cell? ⟨g, 7, none⟩ = some v7 ∧ W.cell? ad = some v9) (hr : mx 0 (wrap64 (day - wrap64 (d + n))) = r) :
  Calls Tryz.prog 38 #[.pointer (some ⟨g, 0, none⟩), .int .i64 day] W fun e w' => e = .returned (.int .i64 r) ∧ Below W.heap.size W w' := zYf g d n day r W h.1 h.2.1 hr
theorem zKg {W W' : World} {g a b c : Nat} {ad : Addr} {v0 v1 v2 v3 : Value} (h : W.cell? ⟨g, a, none⟩ = some v0 ∧ W.cell? ⟨g, b, none⟩ = some v1 ∧ W.cell? ⟨g, c, none⟩ = some v2 ∧ W.cell? ad = some v3) (hb : Below W.heap.size W W') : W'.cell? ⟨g, a, none⟩ = some v0 ∧ W'.cell? ⟨g, b, none⟩ = some v1 ∧ W'.cell? ⟨g, c, none⟩ = some v2 ∧ W'.cell? ad = some v3 := by
 obtain ⟨h0, h1, h2, h3⟩ := h
 exact ⟨(hb.cell (World.block_lt_of_cell? W _ h0)).trans h0, (hb.cell (World.block_lt_of_cell? W _ h1)).trans h1, (hb.cell (World.block_lt_of_cell? W _ h2)).trans h2, (hb.cell (World.block_lt_of_cell? W _ h3)).trans h3⟩
theorem qJk {α : Type} {d : Kd α} {e base : Nat} {w : World} {v : Value} {xs : List α} (h : d.R e w base (fun _ => True) v xs) (hl : xs.length ≠ 0) : ∃ g cap, v = .slice (some ⟨g, 0, none⟩) xs.length cap ∧ base ≤ g ∧ g < w.heap.size := by
 obtain ⟨_, inner, hown, _⟩ := h
 rcases hown.2 with ⟨rfl, h2⟩ | ⟨g, cap, cur, rfl, hg, hb, _⟩
 ·exact absurd h2 hl
 ·exact ⟨g, cap, rfl, hg, xq hb⟩
theorem ages_all (k : Nat) (A0 : Option Addr) (c0 : Nat) (l0 : List SDe) (A1 : Option Addr) (c1 : Nat) (l1 : List SPa) (nb : Nat → Bool) (mf : Nat → Int) (cv pc : Nat → Int) (dsc : Nat → Int → Int) (od : List Nat) (day : Int) (m : Nat) (A2 : Option Addr) (c2 : Nat) (st : List Int) (mo : Int → S33) (me : Int → Int) (w : World) (hr0 : Kd.C k53 w A0 l0.length l0) (hc0 : l0.length ≤ c0) (hn : l0.length ≤ 200)
  (hr1 : Kd.C k72 w A1 l1.length l1) (hc1 : l1.length ≤ c1) (hn1 : l1.length ≤ 500)
  (hnb : ∀ i : Nat, i < l0.length → jV.f (rdD l0 i).f0 = some (nb i)) (hmf : ∀ i : Nat, i < l0.length → qW.f k (rdD l0 i).f2.f0 (rdD l0 i).f2.f1 = some (mf i)) (hcp : zD.f k l1 = some 0)
  (hok : ∀ i, i < l0.length → dF l0 nb mf i = 0) (hdb : dayB day = true) (hm : UpTo l1 day m)
  (hnf : ∀ i : Nat, i < l1.length → (rdA l1 i).f2.length ≤ 100) (hod : ordA (fun j => (iniD l0 cv j).last) l0.length = od)
  (hcv : ∀ i : Nat, i < l0.length → xD.f k (rdD l0 i).f2.f0 (rdD l0 i).f2.f1 = some (cv i)) (hsz : ∀ i : Nat, i < l0.length → (rdD l0 i).f0.size ≤ maxLen)
  (hpc : ∀ i : Nat, i < l1.length → xD.f k (rdA l1 i).f1.f0 (rdA l1 i).f1.f1 = some (pc i)) (hsz1 : ∀ i : Nat, i < l1.length → ∀ j : Nat, j < (rdA l1 i).f2.length → (rdOf ByteArray.empty (rdA l1 i).f2 j).size ≤ maxLen)
  (hds : ∀ j : Nat, j < l0.length → ∀ o p t d : Int, jX.f k (rdD l0 j).f0 (rdD l0 j).f1 (rdD l0 j).f2.f0 (rdD l0 j).f2.f1 (rdD l0 j).f3 (rdD l0 j).f4 (rdD l0 j).f5 o p t d = some (dsc j o, (rdD l0 j).f0, (rdD l0 j).f1, (rdD l0 j).f2.f0, (rdD l0 j).f2.f1, (rdD l0 j).f3, (rdD l0 j).f4, (rdD l0 j).f5, o, p, t, d))
  (hr2 : Kd.C (Kd.int .i64) w A2 st.length st) (hc2 : st.length ≤ c2)
  (hmo : ∀ x ∈ vv l0 st (runP l0 cv dsc od l1 pc m).1 day l0.length, xR.f k x = some ((mo x).f0, (mo x).f1, me x)) :
  Calls Tryz.prog 18 #[.slice A0 l0.length c0, .slice A1 l1.length c1, .int .i64 day, .slice A2 st.length c2] w fun e w' => ∃ (v1 : Value) (r : Int), e = .returned (.tuple #[v1, .int .i64 r]) ∧ (r ≠ 0 → v1 = .slice none 0 0) ∧
   ChkS st (vv l0 st (runP l0 cv dsc od l1 pc m).1 day l0.length) me r ∧ (r = 0 → Kd.R k33 33 w' w.heap.size (fun _ => True) v1 ((vv l0 st (runP l0 cv dsc od l1 pc m).1 day l0.length).map mo)) ∧ Below w.heap.size w w' := by
 have hbf := kC k A0 c0 l0 A1 c1 l1 nb mf 0 w hr0 hc0 hr1 hc1 hnb hmf hcp
 have HPY : Aside _ := fun (w5 : World) (hb : Below w.heap.size w w5) => kV k A0 c0 l0 A1 c1 l1 day cv pc dsc od w5 (Kd.jC hr0 hb) hc0 hn (Kd.jC hr1 hb) hc1 hn1 hnf hod hcv hsz hpc hsz1 hds
 have HZ : Aside _ := fun r (h : ChkD l0 nb mf r) => zJj hn hok h
 have HUP : Aside _ := hm
 have HR2 := zQ.mk hr2
 have HMO : Aside _ := hmo
 have hid := uN day
 rw [hdb] at hid
 clear hr0 hr1 hr2 hnb hmf hcp hok hdb hm hnf hod hcv hsz hpc hsz1 hds hmo
 by_cases h20 : (st.length : Int) > 20
 ·go_enter Tryz.func18, Tryz.ntmps18
  go_wp2_with (first | (go_at_call 22; (with_reducible refine hbf.mono ?_); rintro e w5 ⟨r, rfl, ⟨rd, hrd, hr⟩, hb⟩; obtain rfl := HZ.out rd hrd; rw [if_pos rfl] at hr; obtain rfl := hr; have HB : Hid (Below w.heap.size w _) := hb; clear hb hrd) | (go_at_call 32; (with_reducible refine (jM.calls day _ _ hid).mono ?_); rintro e w6 ⟨rfl, hb⟩; have HB2 : Hid (Below w.heap.size w _) := HB.out.trans (hb.below.mono HB.out.size); clear HB hb; have HB := HB2; clear HB2))
  go_ret2
  exact ⟨_, 2, rfl, fun _ => rfl, zCj (by omega), fun h => absurd h (by decide), HB.out⟩
 have hn20 : decide ((st.length : Int) > 20) = false := decide_eq_false h20
 have hs20 : st.length ≤ 20 := by omega
 go_enter Tryz.func18, Tryz.ntmps18
 go_upto_region 8 with (first | (go_at_call 22; (with_reducible refine hbf.mono ?_); rintro e w5 ⟨r, rfl, ⟨rd, hrd, hr⟩, hb⟩; obtain rfl := HZ.out rd hrd; rw [if_pos rfl] at hr; obtain rfl := hr; have HB : Hid (Below w.heap.size w _) := hb; clear hb hrd) | (go_at_call 32; (with_reducible refine (jM.calls day _ _ hid).mono ?_); rintro e w6 ⟨rfl, hb⟩; have HB2 : Hid (Below w.heap.size w _) := HB.out.trans (hb.below.mono HB.out.size); clear HB hb; have HB := HB2; clear HB2))
 clear hbf hid
 go_wp2_with fail
 go_loopg [38] st.length (fun g1 vi wr => ∃ i : Nat, vi = .int .i64 i ∧ i ≤ st.length ∧ st.length - i ≤ g1 ∧ Hid (Below w.heap.size w wr) ∧ Hid (∀ j : Nat, j < i → stF st j = 0))
 case atStart => exact ⟨0, rfl, Nat.zero_le _, Nat.le_refl _, HB, (show ∀ j : Nat, j < 0 → _ from fun j hj => absurd hj (Nat.not_lt_zero _))⟩
 case round =>
  obtain ⟨i, rfl, hi, hg1, HB1, HZS⟩ := hrel
  clear HB
  by_cases hlt : i < st.length
  ·have hltz : (i : Int) < (st.length : Int) := by omega
   obtain ⟨ad, e0, hx⟩ := Kd.jy HR2.out (i : Int) (by omega) hltz
   cases e0
   simp only [Int.toNat_natCast] at hx
   obtain ⟨s, hs⟩ : ∃ s, s = rd st i := ⟨_, rfl⟩
   rw [← hs] at hx
   have hx1 := hz ⟨HB1.out⟩ hx
   have hds := uN s
   have HSD : Hid (rd st i = s) := hs.symm
   have HLT : Hid (i < st.length) := hlt
   clear hs hx
   by_cases hd : dayB s = true
   ·rw [hd] at hds
    have HDY : Hid (dayB s = true) := hd
    clear hd
    by_cases hi0 : 0 < i
    ·have hi0z : (0 : Int) < (i : Int) := by omega
     have hgz : decide ((0 : Int) < (i : Int)) = true := decide_eq_true hi0z
     obtain ⟨ad2, e1, hy⟩ := Kd.jy HR2.out ((i - 1 : Nat) : Int) (by omega) (by omega)
     cases e1
     simp only [Int.toNat_natCast] at hy
     obtain ⟨s2, hs2⟩ : ∃ s2, s2 = rd st ((i - 1 : Nat) : Int) := ⟨_, rfl⟩
     rw [← hs2] at hy
     have HS2 : Hid (rd st ((i - 1 : Nat) : Int) = s2) := hs2.symm
     have HI0 : Hid (0 < i) := hi0
     clear hs2
     have hwi : IntKind.i64.wrap ((i : Int) - 1) = ((i - 1 : Nat) : Int) := by rw [jw]; unfold wrap64; omega
     have HYC : Hid (w.cell? (ad.add (i - 1)) = some (.int .i64 s2)) := hy
     have hlt2 : ((i - 1 : Nat) : Int) < (st.length : Int) := by omega
     have hge2 : (0 : Int) ≤ ((i - 1 : Nat) : Int) := by omega
     generalize hjj : i - 1 = jj at hwi HYC hlt2 hge2
     clear hjj hy
     by_cases hle : s ≤ s2
     ·have hlb : decide (s ≤ s2) = true := decide_eq_true hle
      have HLE : Hid (s ≤ s2) := hle
      go_wp2_with (go_at_call 32; (with_reducible refine (jM.calls s _ _ hds).mono ?_); rintro e w6 ⟨rfl, hb⟩; have HB2 : Hid (Below w.heap.size w _) := HB1.out.trans (hb.below.mono HB1.out.size); have hy1 := hz ⟨HB2.out⟩ HYC.out)
      go_ret2
      exact ⟨_, 8, rfl, fun _ => rfl, zVx hs20 HLT.out HZS.out (by unfold stF; rw [HSD.out, if_neg (by rw [HDY.out]; decide), if_pos ⟨HI0.out, by rw [HS2.out]; exact HLE.out⟩]) (by decide), fun h => absurd h (by decide), HB2.out⟩
     ·have hlb : decide (s ≤ s2) = false := decide_eq_false hle
      have HLE : Hid (¬ s ≤ s2) := hle
      go_wp2_with (go_at_call 32; (with_reducible refine (jM.calls s _ _ hds).mono ?_); rintro e w6 ⟨rfl, hb⟩; have HB2 : Hid (Below w.heap.size w _) := HB1.out.trans (hb.below.mono HB1.out.size); have hy1 := hz ⟨HB2.out⟩ HYC.out)
      go_roundg (st.length - (i + 1))
      case measure => omega
      case rel =>
       refine ⟨i + 1, by first | rfl | (congr 1; omega), by omega, Nat.le_refl _, HB2, (show ∀ j : Nat, j < i + 1 → _ from fun j hj => ?_)⟩
       rcases Nat.lt_succ_iff_lt_or_eq.1 hj with h | rfl
       ·exact HZS.out j h
       ·unfold stF
        rw [HSD.out, if_neg (by rw [HDY.out]; decide), if_neg (fun h => by have h2 := h.2; rw [HS2.out] at h2; have := HLE.out; omega)]
    ·have hi0z : ¬ (0 : Int) < (i : Int) := by omega
     have hgz : decide ((0 : Int) < (i : Int)) = false := decide_eq_false hi0z
     go_wp2_with (go_at_call 32; (with_reducible refine (jM.calls s _ _ hds).mono ?_); rintro e w6 ⟨rfl, hb⟩; have HB2 : Hid (Below w.heap.size w _) := HB1.out.trans (hb.below.mono HB1.out.size))
     go_roundg (st.length - (i + 1))
     case measure => omega
     case rel =>
      refine ⟨i + 1, by first | rfl | (congr 1; omega), by omega, Nat.le_refl _, HB2, (show ∀ j : Nat, j < i + 1 → _ from fun j hj => ?_)⟩
      rcases Nat.lt_succ_iff_lt_or_eq.1 hj with h | rfl
      ·exact HZS.out j h
      ·unfold stF
       rw [HSD.out, if_neg (by rw [HDY.out]; decide), if_neg (fun h => hi0 h.1)]
   ·have hdf : dayB s = false := by simpa using hd
    rw [hdf] at hds
    have HDY : Hid (dayB s = false) := hdf
    clear hd hdf
    go_wp2_with (go_at_call 32; (with_reducible refine (jM.calls s _ _ hds).mono ?_); rintro e w6 ⟨rfl, hb⟩; have HB2 : Hid (Below w.heap.size w _) := HB1.out.trans (hb.below.mono HB1.out.size))
    go_ret2
    exact ⟨_, 1, rfl, fun _ => rfl, zVx hs20 HLT.out HZS.out (by unfold stF; rw [HSD.out, if_pos HDY.out]) (by decide), fun h => absurd h (by decide), HB2.out⟩
  ·obtain rfl : i = st.length := by omega
   have hltz : ¬ (st.length : Int) < (st.length : Int) := by omega
   go_upto_region 17 with (go_at_call 23; have hh := HPY.out _ HB1.out; (with_reducible refine hh.mono ?_); clear hh; rintro e w7 ⟨m2, v, vo, vr, gs, D, hm, hml, hmr, rfl, hL⟩)
   obtain rfl : m2 = m := (UpTo.mk hm hml hmr).uniq HUP.out
   clear hm hml hmr
   obtain ⟨w6, hw6⟩ : ∃ w6, w6 = wr := ⟨_, rfl⟩
   rw [← hw6] at hL HB1
   clear hw6
   obtain ⟨R, hR⟩ : ∃ R, R = runP l0 cv dsc od l1 pc m2 := ⟨_, rfl⟩
   rw [← hR] at hL
   have HRR : Hid (runP l0 cv dsc od l1 pc m2 = R) := hR.symm
   have HM2 : Aside (∀ x ∈ vv l0 st R.1 day l0.length, xR.f k x = some ((mo x).f0, (mo x).f1, me x)) := by
    rw [hR]
    exact HMO
   clear hR HMO
   obtain ⟨av, cvv, rfl⟩ := uE hL.row
   obtain ⟨ar, cr, rfl⟩ := uE hL.rst
   have HL : Hid (yR w6 w7 l0 (.slice av l0.length cvv) vo (.slice ar R.2.length cr) gs D od R.1 R.2) := hL
   have HB7 : Hid (Below w.heap.size w w7) := HB1.out.trans (hL.bel.mono HB1.out.size)
   clear hL HB1 hi hg1 hlt
   have hwn : IntKind.i64.wrap ((st.length : Int) + 1) = ((st.length + 1 : Nat) : Int) := by rw [jw]; unfold wrap64; omega
   go_upto_region 18 with (refine Kd.qYf (Kd.int .i64) w7.heap.size 3 rfl (N := 68) rfl 39 _ _ rfl ((st.length + 1 : Nat) : Int) rfl rfl Tryz.underlying39 (.int .i64 0) 8 qXx rfl (by decide) (by decide) 0 (ok := fun _ => True) (okp := fun _ => True) rfl (fun _ hk => hk) trivial (by omega) (by omega) (Below.refl _ _) (Nat.le_refl _) ?_; intro vs w8 hS8 hB8 hg8 hnew8)
   simp only [Int.toNat_natCast] at hS8
   obtain ⟨gq, cq, rfl, hgq, hgq2⟩ := qJk hS8 (by simp)
   rw [List.length_replicate] at hS8 ⊢
   have HS8 : Hid (Kd.R (Kd.int .i64) 3 w8 w7.heap.size (fun _ => True) (.slice (some ⟨gq, 0, none⟩) (st.length + 1) cq) (vv l0 st R.1 day 0)) := hS8
   have HB8 : Hid (Below w7.heap.size w7 w8) := hB8
   have HGQ : Hid (w7.heap.size ≤ gq) := hgq
   clear hS8 hB8 hg8 hnew8 hgq hgq2 hwn
   go_wp2_with fail
   go_loopg [71] l0.length (fun g1 vi wr => ∃ i : Nat, vi = .int .i64 i ∧ i ≤ l0.length ∧ l0.length - i ≤ g1 ∧ Hid (Below w7.heap.size w7 wr) ∧ Hid (Kd.R (Kd.int .i64) 3 wr w7.heap.size (fun _ => True) (.slice (some ⟨gq, 0, none⟩) (st.length + 1) cq) (vv l0 st R.1 day i)))
   case atStart => exact ⟨0, rfl, Nat.zero_le _, Nat.le_refl _, HB8, HS8⟩
   case round =>
    obtain ⟨i, rfl, hi, hg1, HB9, HS9⟩ := hrel
    clear HB8 HS8
    by_cases hlt : i < l0.length
    ·have hltz : (i : Int) < (l0.length : Int) := by omega
     have hL9 := HL.out.keep HB9.out
     obtain ⟨ad, ea, hca⟩ := zZm hL9.row i hlt
     cases ea
     obtain ⟨g, hg⟩ : ∃ g, gs[i]? = some g := ⟨gs[i]'(by rw [hL9.len]; exact hlt), List.getElem?_eq_getElem _⟩
     rw [List.getElem?_map, hg] at hca
     replace hca : wr.cell? (ad.add i) = some (.pointer (some ⟨g, 0, none⟩)) := hca
     have hob := hL9.obj i g hg
     have y1 : wr.cell? ⟨g, 1, none⟩ = some (.int .i64 (rdD l0 i).f1) := (zx hob 1).trans rfl
     have y10 : wr.cell? ⟨g, 10, none⟩ = some (.int .i64 (R.1 i).done) := (zx hob 10).trans rfl
     have hth := zVe g (rdD l0 i).f1 (R.1 i).done day wr y1 y10
     have eth : (if (rdD l0 i).f1 ≤ day then (R.1 i).done == 0 else false) = xy (rdD l0 i) (R.1 i) day := rfl
     rw [eth] at hth
     clear y1 y10 eth hL9
     have HOBJ : Hid (wr.heap[g]? = some (mkD l0 i (R.1 i)).obj) := hob
     have HG7 : Hid (w7.heap[g]? = some (mkD l0 i (R.1 i)).obj) := HL.out.obj i g hg
     clear hg hob
     by_cases hb : xy (rdD l0 i) (R.1 i) day = true
     ·have HTB : Hid (xy (rdD l0 i) (R.1 i) day = true) := hb
      rw [hb] at hth
      clear hb
      go_upto_region 22 with (go_at_call 37; (with_reducible refine hth.mono ?_); rintro e wb ⟨rfl, hb8⟩)
      have HB10 : Hid (Below w7.heap.size w7 wb) := HB9.out.trans (hb8.mono HB9.out.size)
      have HS10 : Hid (Kd.R (Kd.int .i64) 3 wb w7.heap.size (fun _ => True) (.slice (some ⟨gq, 0, none⟩) (st.length + 1) cq) (vv l0 st R.1 day i)) := Kd.jq HS9.out hb8
      clear hb8 HB9 HS9 HOBJ hth hca
      obtain ⟨lv, hlv⟩ : ∃ lv, mx 0 (wrap64 (day - wrap64 ((rdD l0 i).f1 + (rdD l0 i).f3))) = lv := ⟨_, rfl⟩
      have HLV : Hid (zQg (rdD l0 i) day = lv) := hlv
      have HLV2 : Hid (mx 0 (wrap64 (day - wrap64 ((rdD l0 i).f1 + (rdD l0 i).f3))) = lv) := hlv
      clear hlv
      go_wp2_with fail
      go_loopg [18] st.length (fun g2 vk wr => ∃ q : Nat, vk = .int .i64 q ∧ q ≤ st.length ∧ st.length - q ≤ g2 ∧ Hid (∀ j : Nat, j < q → rd st j ≤ lv) ∧ Hid (Below w7.heap.size w7 wr) ∧ Hid (Kd.R (Kd.int .i64) 3 wr w7.heap.size (fun _ => True) (.slice (some ⟨gq, 0, none⟩) (st.length + 1) cq) (vv l0 st R.1 day i)))
      case atStart => exact ⟨0, rfl, Nat.zero_le _, Nat.le_refl _, (show ∀ j : Nat, j < 0 → _ from fun j hj => absurd hj (Nat.not_lt_zero j)), HB10, HS10⟩
      case round =>
       obtain ⟨q, rfl, hq, hg2, HJ, HB11, HS11⟩ := hrel
       clear HB10 HS10
       have hob := qV HG7.out HB11.out
       have z1 : wr.cell? ⟨g, 1, none⟩ = some (.int .i64 (rdD l0 i).f1) := (zx hob 1).trans rfl
       have z4 : wr.cell? ⟨g, 4, none⟩ = some (.int .i64 (rdD l0 i).f3) := (zx hob 4).trans rfl
       have z7 : wr.cell? ⟨g, 7, none⟩ = some (.int .i64 (R.1 i).owes) := (zx hob 7).trans rfl
       clear hob
       by_cases hltq : q < st.length
       ·have hltqz : (q : Int) < (st.length : Int) := by omega
        obtain ⟨aq, eq, hxq⟩ := Kd.jy HR2.out (q : Int) (by omega) hltqz
        cases eq
        simp only [Int.toNat_natCast] at hxq
        have HBw : Hid (Below w.heap.size w wr) := HB7.out.trans (HB11.out.mono HB7.out.size)
        have hxk := hz ⟨HBw.out⟩ hxq
        obtain ⟨s, hs⟩ : ∃ s, rd st q = s := ⟨_, rfl⟩
        rw [hs] at hxk
        have HSQ : Hid (rd st q = s) := hs
        clear hs hxq HBw
        have hq0 : (0 : Int) ≤ (q : Int) := by omega
        by_cases hsl : s ≤ lv
        ·have hslb : decide (s ≤ lv) = true := decide_eq_true hsl
         go_upto_region 23 with fail
         go_region_held3 (fun w' => w'.cell? ⟨g, 1, none⟩ = some (.int .i64 (rdD l0 i).f1) ∧ w'.cell? ⟨g, 4, none⟩ = some (.int .i64 (rdD l0 i).f3) ∧ w'.cell? ⟨g, 7, none⟩ = some (.int .i64 (R.1 i).owes) ∧ w'.cell? (aq.add q) = some (.int .i64 s))
          (first | exact zKg ⟨z1, z4, z7, hxk⟩ ((Below.refl _ _).drew) | exact zKg (by assumption) ((Below.refl _ _).alloc (Nat.le_refl _) _) | exact zKg (by assumption) (by assumption))
          (first | (go_at_call 38; (with_reducible refine (late_t (zKg ⟨z1, z4, z7, hxk⟩ ((Below.refl _ _).drew)) HLV2.out).mono ?_); rintro e w15 ⟨rfl, hB15⟩))
         have HBS : Hid (Below wr.heap.size wr w15) := ((Below.refl _ _).drew).trans (hB15.mono (by simp))
         clear hB15 hxk
         go_wp2
         go_roundg (st.length - (q + 1))
         case measure => omega
         case rel =>
          refine ⟨q + 1, by first | rfl | (congr 1; omega), by omega, Nat.le_refl _, ?_, HB11.out.trans (HBS.out.mono HB11.out.size), Kd.jq HS11.out HBS.out⟩
          exact (show ∀ j : Nat, j < q + 1 → rd st j ≤ lv from fun j hj => by
           by_cases hjq : j < q
           ·exact HJ.out j hjq
           ·obtain rfl : j = q := by omega
            rw [HSQ.out]
            exact hsl)
        ·have hslb : decide (s ≤ lv) = false := decide_eq_false hsl
         go_upto_region 23 with fail
         go_region_held3 (fun w' => w'.cell? ⟨g, 1, none⟩ = some (.int .i64 (rdD l0 i).f1) ∧ w'.cell? ⟨g, 4, none⟩ = some (.int .i64 (rdD l0 i).f3) ∧ w'.cell? ⟨g, 7, none⟩ = some (.int .i64 (R.1 i).owes) ∧ w'.cell? (aq.add q) = some (.int .i64 s))
          (first | exact zKg ⟨z1, z4, z7, hxk⟩ ((Below.refl _ _).drew) | exact zKg (by assumption) ((Below.refl _ _).alloc (Nat.le_refl _) _) | exact zKg (by assumption) (by assumption))
          (first | (go_at_call 38; (with_reducible refine (late_t (zKg ⟨z1, z4, z7, hxk⟩ ((Below.refl _ _).drew)) HLV2.out).mono ?_); rintro e w15 ⟨rfl, hB15⟩))
         have HBS : Hid (Below wr.heap.size wr w15) := ((Below.refl _ _).drew).trans (hB15.mono (by simp))
         clear hB15 hxk
         have HLT : Hid (lv < rd st q) := (show _ < _ by rw [HSQ.out]; omega)
         clear HSQ
         have HB12 : Hid (Below w7.heap.size w7 w15) := HB11.out.trans (HBS.out.mono HB11.out.size)
         have HS12 : Hid (Kd.R (Kd.int .i64) 3 w15 w7.heap.size (fun _ => True) (.slice (some ⟨gq, 0, none⟩) (st.length + 1) cq) (vv l0 st R.1 day i)) := Kd.jq HS11.out HBS.out
         have hob2 := qV HG7.out HB12.out
         clear z1 z4 z7 HB11 HS11 HBS
         have z7 : (w15).cell? ⟨g, 7, none⟩ = some (.int .i64 (R.1 i).owes) := (zx hob2 7).trans rfl
         obtain ⟨x, hx⟩ : ∃ x, rd (vv l0 st R.1 day i) q = x := ⟨_, rfl⟩
         have hcf := Kd.uV (0 : Int) HS12.out (q : Int) (by omega) (by omega)
         rw [Int.toNat_natCast] at hcf
         have cx : (w15).cell? ⟨gq, q, none⟩ = some (.int .i64 x) := hx ▸ hcf.1
         have fx := hcf.2
         obtain ⟨y, hy⟩ : ∃ y, wrap64 (x + (R.1 i).owes) = y := ⟨_, rfl⟩
         have wy : IntKind.i64.wrap (x + (R.1 i).owes) = y := (jw _).trans hy
         have HEQ : Hid (vv l0 st R.1 day (i + 1) = (vv l0 st R.1 day i).set q y) := by
          rw [vv, if_pos HTB.out, HLV.out, zVw hq HJ.out (.inr HLT.out), hx, hy]
          exact rfl
         have hqlt : (q : Int) < ((st.length + 1 : Nat) : Int) := by omega
         have hq9 : (0 : Int) ≤ (q : Int) := by omega
         clear hx hcf hob2 hy
         go_upto_region 25 with fail
         go_big_region
         have HB13 : Hid (Below w7.heap.size w7 ((w15).setCell ⟨gq, q, none⟩ (.int .i64 y))) := jG HB12.out HGQ.out
         have HS13 : Hid (Kd.R (Kd.int .i64) 3 ((w15).setCell ⟨gq, q, none⟩ (.int .i64 y)) w7.heap.size (fun _ => True) (.slice (some ⟨gq, 0, none⟩) (st.length + 1) cq) ((vv l0 st R.1 day i).set q y)) := Kd.zQv HS12.out (q : Int) y
         go_wp2
         go_roundg (l0.length - (i + 1))
         case measure => omega
         case rel =>
          refine ⟨i + 1, by first | rfl | (congr 1; omega), by omega, Nat.le_refl _, qD HB13.out, ?_⟩
          rw [HEQ.out]
          exact Kd.xw HS13.out
       ·have hqe : q = st.length := by omega
        have hltqz : ¬ (q : Int) < (st.length : Int) := by omega
        have hltqb : decide ((q : Int) < (st.length : Int)) = false := decide_eq_false hltqz
        have HQE : Hid (q = st.length) := hqe
        clear hqe
        go_upto_region 23 with fail
        go_big_region
        have HBS : Hid (Below wr.heap.size wr wr.drew) := (Below.refl _ _).drew
        have HB12 : Hid (Below w7.heap.size w7 wr.drew) := HB11.out.trans (HBS.out.mono HB11.out.size)
        have HS12 : Hid (Kd.R (Kd.int .i64) 3 wr.drew w7.heap.size (fun _ => True) (.slice (some ⟨gq, 0, none⟩) (st.length + 1) cq) (vv l0 st R.1 day i)) := Kd.jq HS11.out HBS.out
        have hob2 := qV HG7.out HB12.out
        clear z1 z4 z7 HB11 HS11 HBS
        have z7 : (wr.drew).cell? ⟨g, 7, none⟩ = some (.int .i64 (R.1 i).owes) := (zx hob2 7).trans rfl
        obtain ⟨x, hx⟩ : ∃ x, rd (vv l0 st R.1 day i) q = x := ⟨_, rfl⟩
        have hcf := Kd.uV (0 : Int) HS12.out (q : Int) (by omega) (by omega)
        rw [Int.toNat_natCast] at hcf
        have cx : (wr.drew).cell? ⟨gq, q, none⟩ = some (.int .i64 x) := hx ▸ hcf.1
        have fx := hcf.2
        obtain ⟨y, hy⟩ : ∃ y, wrap64 (x + (R.1 i).owes) = y := ⟨_, rfl⟩
        have wy : IntKind.i64.wrap (x + (R.1 i).owes) = y := (jw _).trans hy
        have HEQ : Hid (vv l0 st R.1 day (i + 1) = (vv l0 st R.1 day i).set q y) := by
         rw [vv, if_pos HTB.out, HLV.out, zVw hq HJ.out (.inl HQE.out), hx, hy]
         exact rfl
        have hqlt : (q : Int) < ((st.length + 1 : Nat) : Int) := by omega
        have hq9 : (0 : Int) ≤ (q : Int) := by omega
        clear hx hcf hob2 hy
        go_upto_region 25 with fail
        go_big_region
        have HB13 : Hid (Below w7.heap.size w7 ((wr.drew).setCell ⟨gq, q, none⟩ (.int .i64 y))) := jG HB12.out HGQ.out
        have HS13 : Hid (Kd.R (Kd.int .i64) 3 ((wr.drew).setCell ⟨gq, q, none⟩ (.int .i64 y)) w7.heap.size (fun _ => True) (.slice (some ⟨gq, 0, none⟩) (st.length + 1) cq) ((vv l0 st R.1 day i).set q y)) := Kd.zQv HS12.out (q : Int) y
        go_wp2
        go_roundg (l0.length - (i + 1))
        case measure => omega
        case rel =>
         refine ⟨i + 1, by first | rfl | (congr 1; omega), by omega, Nat.le_refl _, qD HB13.out, ?_⟩
         rw [HEQ.out]
         exact Kd.xw HS13.out
     ·have hbf : xy (rdD l0 i) (R.1 i) day = false := by simpa using hb
      have HTB : Hid (xy (rdD l0 i) (R.1 i) day = false) := hbf
      rw [hbf] at hth
      clear hb hbf
      go_wp2_with (go_at_call 37; (with_reducible refine hth.mono ?_); rintro e wb ⟨rfl, hb8⟩)
      go_roundg (l0.length - (i + 1))
      case measure => omega
      case rel =>
       refine ⟨i + 1, by first | rfl | (congr 1; omega), by omega, Nat.le_refl _, HB9.out.trans (hb8.mono HB9.out.size), ?_⟩
       have h9 := Kd.jq HS9.out hb8
       show Kd.R _ _ _ _ _ _ (vv l0 st R.1 day (i + 1))
       rw [vv, if_neg (by rw [HTB.out]; decide)]
       exact h9
    ·obtain rfl : i = l0.length := by omega
     have hltz : ¬ (l0.length : Int) < (l0.length : Int) := by omega
     obtain ⟨sv, hsv⟩ : ∃ sv, vv l0 st R.1 day l0.length = sv := ⟨_, rfl⟩
     have HM3 : Aside (∀ x ∈ sv, xR.f k x = some ((mo x).f0, (mo x).f1, me x)) := by
      rw [← hsv]
      exact HM2
     have HSL : Hid (sv.length = st.length + 1) := (show _ = _ by rw [← hsv]; exact uD ..)
     have HSV : Hid (vv l0 st R.1 day l0.length = sv) := hsv
     have HS10 : Hid (Kd.R (Kd.int .i64) 3 wr w7.heap.size (fun _ => True) (.slice (some ⟨gq, 0, none⟩) (st.length + 1) cq) sv) := hsv ▸ HS9.out
     have HB10 := HB9
     clear hsv HM2 HB9 HS9 hi hg1 hlt
     go_wp2_with fail
     go_loopg [19, 108] (st.length + 1) (fun g2 v2 vi wr => ∃ q : Nat, vi = .int .i64 q ∧ q ≤ st.length + 1 ∧ st.length + 1 - q ≤ g2 ∧ Hid (Below w7.heap.size w7 wr) ∧ Hid (Kd.R (Kd.int .i64) 3 wr w7.heap.size (fun _ => True) (.slice (some ⟨gq, 0, none⟩) (st.length + 1) cq) sv) ∧ Hid (Kd.R k33 33 wr w7.heap.size (fun _ => True) v2 ((sv.take q).map mo)) ∧ Hid (∀ x ∈ sv.take q, me x = 0))
     case atStart => exact ⟨0, rfl, Nat.zero_le _, Nat.le_refl _, HB10, HS10, (show Kd.R _ _ _ _ _ _ [] from Kd.kN _ _ _ _ _), (show ∀ x ∈ sv.take 0, _ from fun x hx => by simp at hx)⟩
     case round =>
      obtain ⟨q, rfl, hq, hg2, HB11, HS11, HW11, HE11⟩ := hrel
      clear HB10 HS10
      by_cases hltq : q < st.length + 1
      ·have hltqz : (q : Int) < ((st.length + 1 : Nat) : Int) := by omega
       have hq9 : (0 : Int) ≤ (q : Int) := by omega
       have hqs : q < sv.length := by have := HSL.out; omega
       obtain ⟨x, hx⟩ : ∃ x, rd sv q = x := ⟨_, rfl⟩
       have hcf := Kd.uV (0 : Int) HS11.out (q : Int) (by omega) (by omega)
       rw [Int.toNat_natCast] at hcf
       have cx : wr.cell? ⟨gq, q, none⟩ = some (.int .i64 x) := hx ▸ hcf.1
       have hxq : sv[q]? = some x := by
        rw [← hx]
        show _ = some (sv.getD (q : Int).toNat 0)
        rw [Int.toNat_natCast, List.getD_eq_getElem?_getD, List.getElem?_eq_getElem hqs]
        rfl
       have HXQ : Hid (sv[q]? = some x) := hxq
       have HXR : Hid (rd sv q = x) := hx
       have HQS : Hid (q < sv.length) := hqs
       have hmx := HM3.out x (List.mem_of_getElem? hxq)
       clear hx hcf hxq
       by_cases hme : me x = 0
       ·rw [hme] at hmx
        have HME : Hid (me x = 0) := hme
        clear hme
        go_upto_region 32 with (go_at_call 40; (with_reducible refine (xR.calls k x _ _ _ _ hmx).mono ?_); rintro e w9 ⟨rfl, hb⟩)
        have G9 := xB w9 (.cells #[.int .i64 (mo x).f0, .int .i64 (mo x).f1] 33 (0, 0))
        have HS9 : Hid (Below wr.heap.size wr (w9.alloc (.cells #[.int .i64 (mo x).f0, .int .i64 (mo x).f1] 33))) := hb.alloc hb.size _
        clear hb hmx
        generalize w9.heap.size = gb at G9 ⊢
        generalize w9.alloc _ = w10 at G9 HS9 ⊢
        have y0 : w10.cell? ⟨gb, 0, none⟩ = some (.int .i64 (mo x).f0) := (zx G9 0).trans rfl
        have y1 : w10.cell? ⟨gb, 1, none⟩ = some (.int .i64 (mo x).f1) := (zx G9 1).trans rfl
        clear G9 cx
        have HSM : Hid ((((sv.take q).map mo).length + 1) * 16 ≤ 140737488355328) := (show _ ≤ _ by rw [List.length_map, List.length_take]; omega)
        go_wp2_with (at_builtin; refine Kd.vJ k33 (w0 := w7) w7.heap.size rfl (.tmp 120) (.tmp 122) 25 33 _ 16 rfl Tryz.underlying25 qXy rfl (by decide) (by decide) u19 ((sv.take q).map mo) (mo x) _ (fun _ => True) (fun _ => False) rfl rfl (zJm _ _ _ (mo x)) (fun _ h => h.elim) (fun _ _ => trivial) (Kd.jq HW11.out HS9.out) (HB11.out.trans (HS9.out.mono HB11.out.size)) (Nat.le_trans HB11.out.size HS9.out.size) HSM.out ?_; intro v10 w11 hR10 hB10 hg10 hor10)
        go_roundg (st.length + 1 - (q + 1))
        case measure => omega
        case rel =>
         obtain ⟨inn, how⟩ := zWz (Kd.jq HW11.out HS9.out)
         refine ⟨q + 1, by first | rfl | (congr 1; omega), by omega, Nat.le_refl _, hB10, zZc (Kd.jq HS11.out HS9.out) hg10 how (by decide), ?_, ?_⟩
         ·show Kd.R _ _ _ _ _ _ ((sv.take (q + 1)).map mo)
          rw [List.take_add_one, HXQ.out, List.map_append]
          exact hR10
         ·exact (show ∀ z ∈ sv.take (q + 1), me z = 0 from fun z hz => by
           rw [List.take_add_one, HXQ.out] at hz
           rcases List.mem_append.1 hz with hz | hz
           ·exact HE11.out z hz
           ·have : z = x := by simpa using hz
            rw [this]
            exact HME.out)
       ·obtain ⟨er, her⟩ : ∃ er, me x = er := ⟨_, rfl⟩
        have HER : Hid (me x = er) := her
        rw [her] at hmx hme
        go_wp2_with (go_at_call 40; (with_reducible refine (xR.calls k x _ _ _ _ hmx).mono ?_); rintro e w9 ⟨rfl, hb⟩; have HS9 : Hid (Below wr.heap.size wr (w9.alloc (.cells #[.int .i64 (mo x).f0, .int .i64 (mo x).f1] 33))) := hb.alloc hb.size _)
        go_ret2
        exact ⟨_, er, rfl, fun _ => rfl, by rw [HRR.out, HSV.out]; exact qZl hs20 HZS.out HQS.out HE11.out (by rw [HXR.out]; exact HER.out) hme, fun h => absurd h hme, HB7.out.trans ((HB11.out.trans (HS9.out.mono HB11.out.size)).mono HB7.out.size)⟩
      ·have hqe : q = st.length + 1 := by omega
       have HQE : Hid (q = st.length + 1) := hqe
       have hltqz : ¬ (q : Int) < ((st.length + 1 : Nat) : Int) := by omega
       clear hqe
       go_wp2
       go_ret2
       have hall : sv.take q = sv := by rw [HQE.out, ← HSL.out, List.take_length]
       refine ⟨u19, 0, rfl, fun h => absurd rfl h, ?_, fun _ => ?_, HB7.out.trans (HB11.out.mono HB7.out.size)⟩
       ·rw [HRR.out, HSV.out]
        have h9 := HE11.out
        rw [hall] at h9
        exact qYj hs20 HZS.out h9
       ·rw [HRR.out, HSV.out]
        have h9 := Kd.vC HW11.out HB7.out.size
        rw [hall] at h9
        exact h9
theorem eqD (x : S33) (w : World) (n : Nat) : (Op.equalIn (n + 2) 33 (.agg #[.int .i64 x.f0, .int .i64 x.f1]) (.agg #[.int .i64 x.f0, .int .i64 x.f1])).run Tryz.prog w = .ok true w := by
 have u3 := Tryz.underlying3
 have a3 := Tryz.isAgg3
 have z3 := Tryz.sizeOf3
 have hS : Tryz.prog.underlying 33 = some (.struct (Tryz.prog.fieldsOf 33)) := by kernel_rfl
 have hp : Tryz.prog.stoodInHeld 33 = false := by kernel_rfl
 rw [run_equalIn_agg w (n + 1) 33 _ _ hS hp]
 simp only [Program.fieldsOf, Tryz.underlying33]
 go_simp
theorem neqD (x : S33) (w : World) : Sem.run Tryz.prog (binOp .neq 33 (.agg #[.int .i64 x.f0, .int .i64 x.f1]) (.agg #[.int .i64 x.f0, .int .i64 x.f1])) w = .ok (.bool false) w := by
 rw [run_neq_struct, show (10000 : Nat) = 9998 + 2 from rfl, eqD]
 rfl
theorem qQb {w : World} {b1 b2 : Nat} {v1 v2 : Value} {xs : List S33} (h1 : Kd.R k33 33 w b1 (fun _ => True) v1 xs) (h2 : Kd.R k33 33 w b2 (fun _ => True) v2 xs) (hn : xs.length ≤ 1000) :
  Calls Tryz.prog 12 #[v1, v2] w fun e w' => e = .returned (.bool true) ∧ Below w.heap.size w w' := by
 obtain ⟨A1, c1, rfl, hc1, hC1⟩ := Kd.uk h1
 obtain ⟨A2, c2, rfl, hc2, hC2⟩ := Kd.uk h2
 have HC1 := zQ.mk hC1
 have HC2 := zQ.mk hC2
 have hg : Tryz.prog.eqGuardType Tryz.prog.depth 33 = false := by kernel_rfl
 clear h1 h2 hC1 hC2 hc1 hc2
 go_enter Tryz.func12, Tryz.ntmps12
 go_wp2_with fail
 go_loopg [13] xs.length (fun g1 vi wr => ∃ i : Nat, vi = .int .i64 i ∧ i ≤ xs.length ∧ xs.length - i ≤ g1 ∧ Hid (Below w.heap.size w wr))
 case atStart => exact ⟨0, rfl, Nat.zero_le _, Nat.le_refl _, Below.refl _ _⟩
 case round =>
  obtain ⟨i, rfl, hi, hg1, HB⟩ := hrel
  by_cases hlt : i < xs.length
  ·have hltz : (i : Int) < (xs.length : Int) := by omega
   have hi0 : (0 : Int) ≤ (i : Int) := by omega
   obtain ⟨ad1, e1, hx0, hx1⟩ := qYx HC1.out (i : Int) hi0 hltz
   obtain ⟨ad2, e2, hy0, hy1⟩ := qYx HC2.out (i : Int) hi0 hltz
   cases e1
   cases e2
   simp only [Int.toNat_natCast] at hx0 hx1 hy0 hy1
   obtain ⟨x, hx⟩ : ∃ x, x = qVc xs i := ⟨_, rfl⟩
   rw [← hx] at hx0 hx1 hy0 hy1
   clear hx
   replace hx0 := hz ⟨HB.out⟩ hx0
   replace hy0 := hz ⟨HB.out⟩ hy0
   replace hx1 := hz ⟨HB.out⟩ hx1
   replace hy1 := hz ⟨HB.out⟩ hy1
   have hne := neqD x
   have hge := fun (a b : Operand) (W : World) => run_eqGuard_agg W .neq 33 a b #[.int .i64 x.f0, .int .i64 x.f1] #[.int .i64 x.f0, .int .i64 x.f1] hg
   go_upto_region 6 with fail
   go_quiet (fail)
   go_wp2
   go_roundg (xs.length - (i + 1))
   case measure => omega
   case rel => exact ⟨i + 1, by first | rfl | (congr 1; omega), by omega, Nat.le_refl _, qM HB.out _⟩
  ·have hltz : ¬ (i : Int) < (xs.length : Int) := by omega
   go_wp2
   go_ret
   exact ⟨rfl, HB.out⟩
abbrev SDc := S33
theorem C_one {α : Type} (d : Kd α) {W : World} {b : Nat} {t : TypeId} {x : α} {cs : List Value} (hK : d.K W x cs) (hb : W.heap[b]? = some (.cells cs.toArray t (0, 0))) : d.C W (some ⟨b, 0, none⟩) 1 [x] := by
 refine ⟨rfl, by decide, fun _ => ⟨_, rfl, fun j p hj => ?_⟩⟩
 cases j with
 | succ j => simp at hj
 | zero =>
  obtain rfl := Option.some.inj hj
  refine ⟨cs, d.K_len hK, hK, fun i u hu => ?_⟩
  rw [Nat.zero_mul, Nat.zero_add]
  exact World.news_of_block hb i u (by simpa using hu)
def awD : SDe := ⟨⟨#[97]⟩, 5, ⟨7, 0⟩, 0, 0, 0⟩
def awP : SPa := ⟨6, ⟨9, 0⟩, []⟩
def zCy : Prop := ∀ (A0 : Option Addr) (A1 : Option Addr) (w : World), Kd.C k53 w A0 1 [awD] → Kd.C k72 w A1 1 [awP] →
 Calls Tryz.prog 6 #[.slice A0 1 1, .slice A1 1 1] w fun e w' => ∃ v1 v2 : Value, e = .returned (.tuple #[v1, v2, .int .i64 0]) ∧
  Kd.R k35 35 w' w.heap.size (fun _ => True) v1 [⟨⟨#[97]⟩, ⟨7, 0⟩, ⟨0, 0⟩, 6⟩] ∧ Kd.R k33 33 w' w.heap.size (fun _ => True) v2 [⟨2, 0⟩] ∧ Below w.heap.size w w'
theorem qQl (hA : zCy) (w : World) : Calls Tryz.prog 13 #[] w fun e w' => e = .returned (.bool true) ∧ Below w.heap.size w w' := by
 have HA : Aside _ := hA
 clear hA
 go_enter Tryz.func13, Tryz.ntmps13
 have b1 := xB w (.cells #[.string ⟨#[97]⟩, .int .i64 5, .int .i64 7, .int .i64 0, .int .i64 0, .int .i64 0, .int .i64 0] 53 (0, 0))
 have c1 := C_one k53 (k53_mk _ awD) b1
 have b2 := xB (w.alloc (.cells #[.string ⟨#[97]⟩, .int .i64 5, .int .i64 7, .int .i64 0, .int .i64 0, .int .i64 0, .int .i64 0] 53 (0, 0))) (.cells #[.int .i64 6, .int .i64 9, .int .i64 0, .slice none 0 0] 72 (0, 0))
 rw [show (w.alloc (.cells #[.string ⟨#[97]⟩, .int .i64 5, .int .i64 7, .int .i64 0, .int .i64 0, .int .i64 0, .int .i64 0] 53 (0, 0))).heap.size = w.heap.size + 1 by simp] at b2
 have c2 := C_one k72 (k72_mk _ awP (A3 := none) (c3 := 0) (Nat.le_refl _) ⟨rfl, by decide, fun h => absurd h (by decide)⟩) b2
 have hcall := HA.out _ _ _ (Kd.xK c1 (.cells #[.int .i64 6, .int .i64 9, .int .i64 0, .slice none 0 0] 72 (0, 0))) c2
 have B1 : Hid (Below w.heap.size w _) := ((Below.refl w.heap.size w).alloc (Nat.le_refl _) (.cells #[.string ⟨#[97]⟩, .int .i64 5, .int .i64 7, .int .i64 0, .int .i64 0, .int .i64 0, .int .i64 0] 53 (0, 0))).alloc (by simp) (.cells #[.int .i64 6, .int .i64 9, .int .i64 0, .slice none 0 0] 72 (0, 0))
 clear b1 c1 b2 c2
 go_upto_region 2 with (go_at_call 6; (with_reducible refine hcall.mono ?_); rintro e w5 ⟨v1, v2, rfl, hR1, hR2, hB⟩)
 obtain ⟨A1, k1, rfl, _, hC1⟩ := Kd.uk hR1
 obtain ⟨A2, k2, rfl, _, hC2⟩ := Kd.uk hR2
 obtain ⟨a1, e1, x0, x1, x2, x3, x4, x5⟩ := at_T35 hC1 0 (by decide) (by decide)
 obtain ⟨a2, e2, z0, z1⟩ := qYx hC2 0 (by decide) (by decide)
 cases e1
 cases e2
 have B5 : Hid (Below w.heap.size w w5) := B1.out.trans (hB.mono B1.out.size)
 clear hR1 hR2 hC1 hC2 hcall x0 x1 x2 x3 x4 z1
 have ha0 : ∀ a : Addr, a.add 0 = a := fun a => by simp [Addr.add]
 simp only [Int.toNat_zero, Nat.zero_mul, ha0] at x5 z0
 replace x5 : w5.cell? ⟨a1.block, a1.off + 5, none⟩ = some (.int .i64 6) := x5
 replace z0 : w5.cell? a2 = some (.int .i64 2) := z0
 go_wp2
 go_ret
 exact ⟨rfl, B5.out⟩
theorem uJ (a : Int) : qZ.f a = some (dayB a) := by
 unfold qZ.f xk.f qy.f dayB
 by_cases h : 1 ≤ a <;> simp [h]
theorem zVb (a b c : Int) : jv.f a b c = some (decide (b ≤ a) && decide (a ≤ c)) := by
 unfold jv.f
 by_cases h : b ≤ a <;> simp [h]
theorem outB_eq (d : SDe) : outB d = !((decide (0 ≤ d.f3) && decide (d.f3 ≤ 10000)) && (decide (0 ≤ d.f4) && decide (d.f4 ≤ d.f3)) && (decide (0 ≤ d.f5) && decide (d.f5 ≤ 1000))) := by
 unfold outB
 rw [Bool.eq_iff_iff]
 simp only [Bool.or_eq_true, decide_eq_true_eq, Bool.not_eq_true', Bool.and_eq_false_iff, decide_eq_false_iff_not]
 omega
def mfB (b : Bool) : Int := if b = true then 0 else 1
theorem zDv (k : Nat) (A0 : Option Addr) (c0 : Nat) (l0 : List SDe) (nb mb : Nat → Bool) (w : World) (hr0 : Kd.C k53 w A0 l0.length l0) (hc0 : l0.length ≤ c0)
  (hnb : ∀ i : Nat, i < l0.length → zS.f k (rdD l0 i).f0 = some (nb i)) (hmb : ∀ i : Nat, i < l0.length → zP.f k (rdD l0 i).f2.f0 (rdD l0 i).f2.f1 = some (mb i)) :
  Calls Tryz.prog 7 #[.slice A0 l0.length c0] w fun e w' => ∃ r : Int, e = .returned (.int .i64 r) ∧ ChkD l0 nb (fun i => mfB (mb i)) r ∧ Below w.heap.size w w' := by
 have HR0 := zQ.mk hr0
 have HNB : Aside _ := hnb
 have HMB : Aside _ := hmb
 obtain ⟨F, hF⟩ : ∃ F, F = dF l0 nb (fun i => mfB (mb i)) := ⟨_, rfl⟩
 have HF : Hid (F = dF l0 nb (fun i => mfB (mb i))) := hF
 clear hnb hmb hr0 hF
 go_enter Tryz.func7, Tryz.ntmps7
 by_cases hbig : 200 < l0.length
 ·have hbigz : (200 : Int) < (l0.length : Int) := by omega
  go_wp2
  go_ret
  exact ⟨2, rfl, by unfold ChkD; rw [if_pos hbig], Below.refl _ _⟩
 ·have hbigz : ¬ (200 : Int) < (l0.length : Int) := by omega
  go_wp2_with fail
  go_loopg [12] l0.length (fun g1 vi wr => ∃ i : Nat, vi = .int .i64 i ∧ i ≤ l0.length ∧ l0.length - i ≤ g1 ∧ Hid (∀ j : Nat, j < i → F j = 0) ∧ Hid (Below w.heap.size w wr))
  case atStart => exact ⟨0, rfl, Nat.zero_le _, Nat.le_refl _, (show ∀ j : Nat, j < 0 → _ from fun j hj => absurd hj (Nat.not_lt_zero _)), Below.refl _ _⟩
  case round =>
   obtain ⟨i, rfl, hi, hg1, HZ, HBL⟩ := hrel
   by_cases hlt : i < l0.length
   ·have hltz : (i : Int) < (l0.length : Int) := by omega
    have hi0q : (0 : Int) ≤ (i : Int) := by omega
    obtain ⟨ad, e0, hx0, hx1, hx2, hx3, hx4, hx5, hx6⟩ := kK HR0.out (i : Int) hi0q hltz
    cases e0
    simp only [Int.toNat_natCast] at hx0 hx1 hx2 hx3 hx4 hx5 hx6
    obtain ⟨d, hd⟩ : ∃ d, d = yx l0 i := ⟨_, rfl⟩
    rw [← hd] at hx0 hx1 hx2 hx3 hx4 hx5 hx6
    have HD : Hid (rdD l0 i = d) := hd.symm
    have hnm := HNB.out i hlt
    have hmo := HMB.out i hlt
    rw [show rdD l0 i = d from hd.symm] at hnm hmo
    clear hd
    have HB : zQ (Below w.heap.size w wr) := ⟨HBL.out⟩
    replace hx0 := hz HB hx0
    replace hx1 := hz HB hx1
    replace hx2 := hz HB hx2
    replace hx3 := hz HB hx3
    replace hx4 := hz HB hx4
    replace hx5 := hz HB hx5
    replace hx6 := hz HB hx6
    go_upto_region 6 with fail
    have BK4 : Hid ((wr.alloc (.cells #[.string d.f0, .int .i64 d.f1, .int .i64 d.f2.f0, .int .i64 d.f2.f1, .int .i64 d.f3, .int .i64 d.f4, .int .i64 d.f5] 53 (0, 0))).heap[wr.heap.size]? = some (.cells #[.string d.f0, .int .i64 d.f1, .int .i64 d.f2.f0, .int .i64 d.f2.f1, .int .i64 d.f3, .int .i64 d.f4, .int .i64 d.f5] 53 (0, 0))) := xB wr _
    have HB4 : Hid (Below w.heap.size w (wr.alloc (.cells #[.string d.f0, .int .i64 d.f1, .int .i64 d.f2.f0, .int .i64 d.f2.f1, .int .i64 d.f3, .int .i64 d.f4, .int .i64 d.f5] 53 (0, 0)))) := HBL.out.alloc HBL.out.size _
    generalize wr.heap.size = gb at BK4 ⊢
    generalize wr.alloc _ = w3 at BK4 HB4 ⊢
    clear hx0 hx1 hx2 hx3 hx4 hx5 hx6 HB HBL
    obtain ⟨y0, y1, y2, y3, y4, y5, y6⟩ := cz7 BK4.out
    have hcut := cut44 (some ad) l0.length c0 i hi hc0
    have HCUT : Aside _ := hcut
    obtain ⟨b1, hb1⟩ : ∃ b1, b1 = nb i := ⟨_, rfl⟩
    rw [← hb1] at hnm
    have HN1 : Hid (nb i = b1) := hb1.symm
    have CN : Aside _ := fun (W : World) => (zS.calls k d.f0 b1 W hnm).mono (R' := fun e w' => e = .returned (.bool b1) ∧ Below W.heap.size W w') fun e w' h => ⟨h.1, h.2.below⟩
    have hdy := uJ d.f1
    obtain ⟨b3, hb3⟩ : ∃ b3, b3 = dayB d.f1 := ⟨_, rfl⟩
    rw [← hb3] at hdy
    have HN3 : Hid (dayB (rdD l0 i).f1 = b3) := (show dayB (rdD l0 i).f1 = b3 by rw [HD.out]; exact hb3.symm)
    have CD : Aside _ := fun (W : World) => (qZ.calls d.f1 b3 W hdy).mono (R' := fun e w' => e = .returned (.bool b3) ∧ Below W.heap.size W w') fun e w' h => ⟨h.1, h.2.below⟩
    obtain ⟨b5, hb5⟩ : ∃ b5, b5 = mb i := ⟨_, rfl⟩
    rw [← hb5] at hmo
    have HN5 : Hid (mb i = b5) := hb5.symm
    have CM : Aside _ := fun (W : World) => zP.calls k d.f2.f0 d.f2.f1 b5 W hmo
    have HIT : Aside _ := fun (r : Int) (h : F i = r) (hr : r ≠ 0) => kL hbig hlt (HF.out ▸ HZ.out) (HF.out ▸ h) hr
    have HFI : Hid (F i = dF l0 nb (fun i => mfB (mb i)) i) := congrFun HF.out i
    clear hb1 hb3 hb5 hnm hdy hmo hcut
    cases b1 with
    | false =>
     go_wp2_with (go_at_call 25; (with_reducible refine (CN.out _).mono ?_); rintro e w5 ⟨rfl, hb⟩; replace HB4 : Hid (Below w.heap.size w _) := HB4.out.trans (hb.mono HB4.out.size); replace BK4 : Hid (_ = _) := qV BK4.out hb; clear y0 y1 y2 y3 y4 y5 y6 hb; obtain ⟨y0, y1, y2, y3, y4, y5, y6⟩ := cz7 BK4.out)
     go_ret
     exact ⟨5, rfl, HIT.out 5 (by rw [HFI.out]; unfold dF; rw [if_pos HN1.out]) (by decide), HB4.out⟩
    | true =>
    go_upto_region 8 with (go_at_call 25; (with_reducible refine (CN.out _).mono ?_); rintro e w5 ⟨rfl, hb⟩; replace HB4 : Hid (Below w.heap.size w _) := HB4.out.trans (hb.mono HB4.out.size); replace BK4 : Hid (_ = _) := qV BK4.out hb; clear y0 y1 y2 y3 y4 y5 y6 hb; obtain ⟨y0, y1, y2, y3, y4, y5, y6⟩ := cz7 BK4.out)
    have hcut := HCUT.out
    clear HCUT
    go_wp2_with fail
    go_loopg [25] i (fun g2 vj wr => ∃ j : Nat, vj = .int .i64 j ∧ j ≤ i ∧ i - j ≤ g2 ∧ Hid (∀ m : Nat, m < j → zJb (rdD l0 m).f0 d.f0 = false) ∧ Hid (Below w.heap.size w wr) ∧ Hid (wr.heap[gb]? = some (.cells #[.string d.f0, .int .i64 d.f1, .int .i64 d.f2.f0, .int .i64 d.f2.f1, .int .i64 d.f3, .int .i64 d.f4, .int .i64 d.f5] 53 (0, 0))))
    case atStart => exact ⟨0, rfl, Nat.zero_le _, Nat.le_refl _, (show ∀ j : Nat, j < 0 → _ from fun j hj => absurd hj (Nat.not_lt_zero _)), HB4, BK4⟩
    case round =>
     obtain ⟨j, rfl, hj, hg2, HS, HB5, BK5⟩ := hrel
     clear y0 y1 y2 y3 y4 y5 y6 HB4 BK4
     obtain ⟨y0, y1, y2, y3, y4, y5, y6⟩ := cz7 BK5.out
     by_cases hjl : j < i
     ·have hjz : (j : Int) < (i : Int) := by omega
      have hj0 : (0 : Int) ≤ (j : Int) := by omega
      have hjn : (j : Int) < (l0.length : Int) := by omega
      obtain ⟨ad2, e2, hx0, hx1, hx2, hx3, hx4, hx5, hx6⟩ := kK HR0.out (j : Int) hj0 hjn
      cases e2
      simp only [Int.toNat_natCast] at hx0 hx1 hx2 hx3 hx4 hx5 hx6
      obtain ⟨o, ho⟩ : ∃ o, o = yx l0 j := ⟨_, rfl⟩
      rw [← ho] at hx0 hx1 hx2 hx3 hx4 hx5 hx6
      have HO : Hid (rdD l0 j = o) := ho.symm
      clear ho
      have HB : zQ (Below w.heap.size w wr) := ⟨HB5.out⟩
      replace hx0 := hz HB hx0
      replace hx1 := hz HB hx1
      replace hx2 := hz HB hx2
      replace hx3 := hz HB hx3
      replace hx4 := hz HB hx4
      replace hx5 := hz HB hx5
      replace hx6 := hz HB hx6
      clear HB y0 y1 y2 y3 y4 y5 y6
      go_upto_region 11 with fail
      have BKo : (wr.alloc (.cells #[.string o.f0, .int .i64 o.f1, .int .i64 o.f2.f0, .int .i64 o.f2.f1, .int .i64 o.f3, .int .i64 o.f4, .int .i64 o.f5] 53 (0, 0))).heap[wr.heap.size]? = some (.cells #[.string o.f0, .int .i64 o.f1, .int .i64 o.f2.f0, .int .i64 o.f2.f1, .int .i64 o.f3, .int .i64 o.f4, .int .i64 o.f5] 53 (0, 0)) := xB wr _
      have HB6 : Hid (Below w.heap.size w (wr.alloc (.cells #[.string o.f0, .int .i64 o.f1, .int .i64 o.f2.f0, .int .i64 o.f2.f1, .int .i64 o.f3, .int .i64 o.f4, .int .i64 o.f5] 53 (0, 0)))) := HB5.out.alloc HB5.out.size _
      have BK6 : Hid ((wr.alloc (.cells #[.string o.f0, .int .i64 o.f1, .int .i64 o.f2.f0, .int .i64 o.f2.f1, .int .i64 o.f3, .int .i64 o.f4, .int .i64 o.f5] 53 (0, 0))).heap[gb]? = some (.cells #[.string d.f0, .int .i64 d.f1, .int .i64 d.f2.f0, .int .i64 d.f2.f1, .int .i64 d.f3, .int .i64 d.f4, .int .i64 d.f5] 53 (0, 0))) := zZ BK5.out _
      generalize wr.heap.size = gb2 at BKo ⊢
      generalize wr.alloc _ = w6 at BKo HB6 BK6 ⊢
      clear hx0 hx1 hx2 hx3 hx4 hx5 hx6 HB5 BK5
      have z0 : w6.cell? ⟨gb2, 0, none⟩ = some (.string o.f0) := (zx BKo 0).trans rfl
      have y0 : w6.cell? ⟨gb, 0, none⟩ = some (.string d.f0) := (zx BK6.out 0).trans rfl
      clear BKo
      cases hq : zJb o.f0 d.f0 with
      | true =>
       have hqq : (o.f0.toList == d.f0.toList) = true := hq
       have HT : Hid (twB l0 i = true) := (show _ = _ by
        unfold twB
        rw [HD.out, List.any_eq_true]
        refine ⟨o, ?_, hq⟩
        have h9 : (l0.take i)[j]? = some o := by
         rw [List.getElem?_take, if_pos hjl, ← HO.out]
         show l0[j]? = some (l0.getD (j : Int).toNat _)
         rw [Int.toNat_natCast, List.getD_eq_getElem?_getD, List.getElem?_eq_getElem (by omega)]
         rfl
        exact List.mem_of_getElem? h9)
       clear hq
       go_wp2
       go_ret
       exact ⟨7, rfl, HIT.out 7 (by rw [HFI.out]; unfold dF; rw [if_neg (by rw [HN1.out]; decide), if_pos HT.out]) (by decide), HB6.out⟩
      | false =>
       have hqq : (o.f0.toList == d.f0.toList) = false := hq
       have HQ : Hid (zJb o.f0 d.f0 = false) := hq
       clear hq
       go_wp2
       go_roundg (i - (j + 1))
       case measure => omega
       case rel =>
        refine ⟨j + 1, by first | rfl | (congr 1; omega), by omega, Nat.le_refl _, ?_, HB6, BK6⟩
        show ∀ m : Nat, m < j + 1 → _
        intro m hm
        rcases Nat.lt_succ_iff_lt_or_eq.1 hm with h | rfl
        ·exact HS.out m h
        ·rw [HO.out]
         exact HQ.out
     ·obtain rfl : j = i := by omega
      have hjz : ¬ (j : Int) < (j : Int) := by omega
      have HN2 : Hid (¬ twB l0 j = true) := (show ¬ _ = _ from fun h => by
       unfold twB at h
       rw [HD.out, List.any_eq_true] at h
       obtain ⟨x, hx, hs⟩ := h
       obtain ⟨m, hm, rfl⟩ := List.getElem_of_mem hx
       rw [List.length_take] at hm
       have h2 := HS.out m (by omega)
       rw [List.getElem_take] at hs
       have h3 : rdD l0 m = l0[m] := by
        show l0.getD (m : Int).toNat _ = _
        rw [Int.toNat_natCast, List.getD_eq_getElem?_getD, List.getElem?_eq_getElem (by omega)]
        rfl
       rw [← h3, h2] at hs
       cases hs)
      have HB4 : Hid (Below w.heap.size w wr) := HB5
      have BK4 : Hid (wr.heap[gb]? = some (.cells #[.string d.f0, .int .i64 d.f1, .int .i64 d.f2.f0, .int .i64 d.f2.f1, .int .i64 d.f3, .int .i64 d.f4, .int .i64 d.f5] 53 (0, 0))) := BK5
      clear HB5 BK5 HS hcut
      cases b3 with
      | false =>
       go_wp2_with (go_at_call 26; (with_reducible refine (CD.out _).mono ?_); rintro e w5 ⟨rfl, hb⟩; replace HB4 : Hid (Below w.heap.size w _) := HB4.out.trans (hb.mono HB4.out.size); replace BK4 : Hid (_ = _) := qV BK4.out hb; clear y0 y1 y2 y3 y4 y5 y6 hb; obtain ⟨y0, y1, y2, y3, y4, y5, y6⟩ := cz7 BK4.out)
       go_ret
       exact ⟨1, rfl, HIT.out 1 (by rw [HFI.out]; unfold dF; rw [if_neg (by rw [HN1.out]; decide), if_neg HN2.out, if_pos HN3.out]) (by decide), HB4.out⟩
      | true =>
      go_upto_region 16 with (go_at_call 26; (with_reducible refine (CD.out _).mono ?_); rintro e w5 ⟨rfl, hb⟩; replace HB4 : Hid (Below w.heap.size w _) := HB4.out.trans (hb.mono HB4.out.size); replace BK4 : Hid (_ = _) := qV BK4.out hb; clear y0 y1 y2 y3 y4 y5 y6 hb; obtain ⟨y0, y1, y2, y3, y4, y5, y6⟩ := cz7 BK4.out)
      go_cut [40] (fun v40 wc => ∃ b4 : Bool, v40 = .bool b4 ∧ Hid (b4 = true ↔ (0 < j ∧ d.f1 < (rdD l0 ((j - 1 : Nat) : Int)).f1)) ∧ Hid (Below w.heap.size w wc) ∧ Hid (wc.heap[gb]? = some (.cells #[.string d.f0, .int .i64 d.f1, .int .i64 d.f2.f0, .int .i64 d.f2.f1, .int .i64 d.f3, .int .i64 d.f4, .int .i64 d.f5] 53 (0, 0))))
      case first =>
       by_cases hi0 : 0 < j
       ·have hi0z : (0 : Int) < (j : Int) := by omega
        obtain ⟨m, hm⟩ : ∃ m, m = j - 1 := ⟨_, rfl⟩
        have hmi : m < l0.length := by omega
        have hmz : (m : Int) < (l0.length : Int) := by omega
        have hm0 : (0 : Int) ≤ (m : Int) := by omega
        obtain ⟨ad2, e2, hv0, hv1, hv2⟩ := kK HR0.out (m : Int) hm0 hmz
        cases e2
        rw [Int.toNat_natCast] at hv1
        replace hv1 := hz ⟨HB4.out⟩ hv1
        have wm : IntKind.i64.wrap ((j : Int) - 1) = (m : Int) := by rw [IntKind.wrap_i64]; omega
        have HM : Hid (m = j - 1) := hm
        clear hm hv0 hv2
        obtain ⟨pm, hpm⟩ : ∃ pm, pm = (yx l0 m).f1 := ⟨_, rfl⟩
        rw [← hpm] at hv1
        have HPM : Hid (pm = (rdD l0 m).f1) := hpm
        clear hpm
        go_quiet (fail)
        try go_wp2
        go_meet
        case rel =>
         refine ⟨decide (d.f1 < pm), by first | rfl | (simp; done), (show _ ↔ _ from ?_), qM HB4.out _, zJ BK4.out _⟩
         rw [decide_eq_true_iff, HPM.out, HM.out]
         exact ⟨fun h => ⟨hi0, h⟩, fun h => h.2⟩
       ·have hi0z : ¬ (0 : Int) < (j : Int) := by omega
        have hi0d : decide ((0 : Int) < (j : Int)) = false := decide_eq_false hi0z
        go_quiet (fail)
        try go_wp2
        go_meet
        case rel =>
         refine ⟨false, by first | rfl | (simp; done), (show _ ↔ _ from ?_), qM HB4.out _, zJ BK4.out _⟩
         exact ⟨fun h => (by cases h), fun h => absurd h.1 hi0⟩
      case rest =>
       obtain ⟨b4, rfl, HO, HB8, BK8⟩ := hcut
       clear y0 y1 y2 y3 y4 y5 y6 HB4 BK4
       have HB4 : Hid (Below w.heap.size w wc) := HB8
       have BK4 : Hid (wc.heap[gb]? = some (.cells #[.string d.f0, .int .i64 d.f1, .int .i64 d.f2.f0, .int .i64 d.f2.f1, .int .i64 d.f3, .int .i64 d.f4, .int .i64 d.f5] 53 (0, 0))) := BK8
       clear HB8 BK8
       obtain ⟨y0, y1, y2, y3, y4, y5, y6⟩ := cz7 BK4.out
       cases b4 with
       | true =>
        go_wp2
        go_ret
        exact ⟨8, rfl, HIT.out 8 (by rw [HFI.out]; unfold dF; rw [if_neg (by rw [HN1.out]; decide), if_neg HN2.out, if_neg (by rw [HN3.out]; decide), if_pos (by rw [HD.out]; exact HO.out.1 (by first | rfl | trivial))]) (by decide), HB4.out⟩
       | false =>
       have HO4 : Hid (¬ (0 < j ∧ (rdD l0 j).f1 < (rdD l0 ((j - 1 : Nat) : Int)).f1)) := (show ¬ _ from fun h => by
        rw [HD.out] at h
        have := HO.out.2 h
        cases this)
       have HFJ : Hid (F j = if mfB b5 ≠ 0 then mfB b5 else if outB (rdD l0 j) = true then 1 else 0) := (show _ = _ by
        rw [HFI.out]
        unfold dF
        rw [if_neg (by rw [HN1.out]; decide), if_neg HN2.out, if_neg (by rw [HN3.out]; decide), if_neg HO4.out]
        show (if mfB (mb j) ≠ 0 then mfB (mb j) else _) = _
        rw [HN5.out])
       clear HO
       have HO5 : Hid (outB (rdD l0 j) = !((decide (0 ≤ d.f3) && decide (d.f3 ≤ 10000)) && (decide (0 ≤ d.f4) && decide (d.f4 ≤ d.f3)) && (decide (0 ≤ d.f5) && decide (d.f5 ≤ 1000)))) := (show outB (rdD l0 j) = _ by rw [HD.out]; exact outB_eq d)
       have ho1 := zVb d.f3 0 10000
       have ho2 := zVb d.f4 0 d.f3
       have ho3 := zVb d.f5 0 1000
       generalize (decide (0 ≤ d.f3) && decide (d.f3 ≤ 10000)) = o1 at ho1 HO5
       generalize (decide (0 ≤ d.f4) && decide (d.f4 ≤ d.f3)) = o2 at ho2 HO5
       generalize (decide (0 ≤ d.f5) && decide (d.f5 ≤ 1000)) = o3 at ho3 HO5
       have C1 : Aside _ := fun (W : World) => (jv.calls d.f3 0 10000 o1 W ho1).mono (R' := fun e w' => e = .returned (.bool o1) ∧ Below W.heap.size W w') fun e w' h => ⟨h.1, h.2.below⟩
       have C2 : Aside _ := fun (W : World) => (jv.calls d.f4 0 d.f3 o2 W ho2).mono (R' := fun e w' => e = .returned (.bool o2) ∧ Below W.heap.size W w') fun e w' h => ⟨h.1, h.2.below⟩
       have C3 : Aside _ := fun (W : World) => (jv.calls d.f5 0 1000 o3 W ho3).mono (R' := fun e w' => e = .returned (.bool o3) ∧ Below W.heap.size W w') fun e w' h => ⟨h.1, h.2.below⟩
       clear ho1 ho2 ho3
       cases b5 with
       | false =>
        go_wp2_with (first | (go_at_call 27; (with_reducible refine (CM.out _).mono ?_); rintro e w5 ⟨rfl, hb⟩; replace HB4 : Hid (Below w.heap.size w _) := HB4.out.trans (hb.mono HB4.out.size); replace BK4 : Hid (_ = _) := qV BK4.out hb; clear y0 y1 y2 y3 y4 y5 y6 hb; obtain ⟨y0, y1, y2, y3, y4, y5, y6⟩ := cz7 BK4.out))
        go_ret
        exact ⟨1, rfl, HIT.out 1 (by rw [HFJ.out]; rfl) (by decide), HB4.out⟩
       | true =>
       cases o1 with
       | false =>
        go_wp2_with (first | (go_at_call 27; (with_reducible refine (CM.out _).mono ?_); rintro e w5 ⟨rfl, hb⟩; replace HB4 : Hid (Below w.heap.size w _) := HB4.out.trans (hb.mono HB4.out.size); replace BK4 : Hid (_ = _) := qV BK4.out hb; clear y0 y1 y2 y3 y4 y5 y6 hb; obtain ⟨y0, y1, y2, y3, y4, y5, y6⟩ := cz7 BK4.out) | (go_at_call 28; (with_reducible refine (C1.out _).mono ?_); rintro e w5 ⟨rfl, hb⟩; replace HB4 : Hid (Below w.heap.size w _) := HB4.out.trans (hb.mono HB4.out.size); replace BK4 : Hid (_ = _) := qV BK4.out hb; clear y0 y1 y2 y3 y4 y5 y6 hb; obtain ⟨y0, y1, y2, y3, y4, y5, y6⟩ := cz7 BK4.out))
        go_ret
        exact ⟨1, rfl, HIT.out 1 (by rw [HFJ.out]; rw [HO5.out]; rfl) (by decide), HB4.out⟩
       | true =>
       cases o2 with
       | false =>
        go_wp2_with (first | (go_at_call 27; (with_reducible refine (CM.out _).mono ?_); rintro e w5 ⟨rfl, hb⟩; replace HB4 : Hid (Below w.heap.size w _) := HB4.out.trans (hb.mono HB4.out.size); replace BK4 : Hid (_ = _) := qV BK4.out hb; clear y0 y1 y2 y3 y4 y5 y6 hb; obtain ⟨y0, y1, y2, y3, y4, y5, y6⟩ := cz7 BK4.out) | (go_at_call 28; (with_reducible refine (C1.out _).mono ?_); rintro e w5 ⟨rfl, hb⟩; replace HB4 : Hid (Below w.heap.size w _) := HB4.out.trans (hb.mono HB4.out.size); replace BK4 : Hid (_ = _) := qV BK4.out hb; clear y0 y1 y2 y3 y4 y5 y6 hb; obtain ⟨y0, y1, y2, y3, y4, y5, y6⟩ := cz7 BK4.out) | (go_at_call 28; (with_reducible refine (C2.out _).mono ?_); rintro e w5 ⟨rfl, hb⟩; replace HB4 : Hid (Below w.heap.size w _) := HB4.out.trans (hb.mono HB4.out.size); replace BK4 : Hid (_ = _) := qV BK4.out hb; clear y0 y1 y2 y3 y4 y5 y6 hb; obtain ⟨y0, y1, y2, y3, y4, y5, y6⟩ := cz7 BK4.out))
        go_ret
        exact ⟨1, rfl, HIT.out 1 (by rw [HFJ.out]; rw [HO5.out]; rfl) (by decide), HB4.out⟩
       | true =>
       cases o3 with
       | false =>
        go_wp2_with (first | (go_at_call 27; (with_reducible refine (CM.out _).mono ?_); rintro e w5 ⟨rfl, hb⟩; replace HB4 : Hid (Below w.heap.size w _) := HB4.out.trans (hb.mono HB4.out.size); replace BK4 : Hid (_ = _) := qV BK4.out hb; clear y0 y1 y2 y3 y4 y5 y6 hb; obtain ⟨y0, y1, y2, y3, y4, y5, y6⟩ := cz7 BK4.out) | (go_at_call 28; (with_reducible refine (C1.out _).mono ?_); rintro e w5 ⟨rfl, hb⟩; replace HB4 : Hid (Below w.heap.size w _) := HB4.out.trans (hb.mono HB4.out.size); replace BK4 : Hid (_ = _) := qV BK4.out hb; clear y0 y1 y2 y3 y4 y5 y6 hb; obtain ⟨y0, y1, y2, y3, y4, y5, y6⟩ := cz7 BK4.out) | (go_at_call 28; (with_reducible refine (C2.out _).mono ?_); rintro e w5 ⟨rfl, hb⟩; replace HB4 : Hid (Below w.heap.size w _) := HB4.out.trans (hb.mono HB4.out.size); replace BK4 : Hid (_ = _) := qV BK4.out hb; clear y0 y1 y2 y3 y4 y5 y6 hb; obtain ⟨y0, y1, y2, y3, y4, y5, y6⟩ := cz7 BK4.out) | (go_at_call 28; (with_reducible refine (C3.out _).mono ?_); rintro e w5 ⟨rfl, hb⟩; replace HB4 : Hid (Below w.heap.size w _) := HB4.out.trans (hb.mono HB4.out.size); replace BK4 : Hid (_ = _) := qV BK4.out hb; clear y0 y1 y2 y3 y4 y5 y6 hb; obtain ⟨y0, y1, y2, y3, y4, y5, y6⟩ := cz7 BK4.out))
        go_ret
        exact ⟨1, rfl, HIT.out 1 (by rw [HFJ.out]; rw [HO5.out]; rfl) (by decide), HB4.out⟩
       | true =>
        go_wp2_with (first | (go_at_call 27; (with_reducible refine (CM.out _).mono ?_); rintro e w5 ⟨rfl, hb⟩; replace HB4 : Hid (Below w.heap.size w _) := HB4.out.trans (hb.mono HB4.out.size); replace BK4 : Hid (_ = _) := qV BK4.out hb; clear y0 y1 y2 y3 y4 y5 y6 hb; obtain ⟨y0, y1, y2, y3, y4, y5, y6⟩ := cz7 BK4.out) | (go_at_call 28; (with_reducible refine (C1.out _).mono ?_); rintro e w5 ⟨rfl, hb⟩; replace HB4 : Hid (Below w.heap.size w _) := HB4.out.trans (hb.mono HB4.out.size); replace BK4 : Hid (_ = _) := qV BK4.out hb; clear y0 y1 y2 y3 y4 y5 y6 hb; obtain ⟨y0, y1, y2, y3, y4, y5, y6⟩ := cz7 BK4.out) | (go_at_call 28; (with_reducible refine (C2.out _).mono ?_); rintro e w5 ⟨rfl, hb⟩; replace HB4 : Hid (Below w.heap.size w _) := HB4.out.trans (hb.mono HB4.out.size); replace BK4 : Hid (_ = _) := qV BK4.out hb; clear y0 y1 y2 y3 y4 y5 y6 hb; obtain ⟨y0, y1, y2, y3, y4, y5, y6⟩ := cz7 BK4.out) | (go_at_call 28; (with_reducible refine (C3.out _).mono ?_); rintro e w5 ⟨rfl, hb⟩; replace HB4 : Hid (Below w.heap.size w _) := HB4.out.trans (hb.mono HB4.out.size); replace BK4 : Hid (_ = _) := qV BK4.out hb; clear y0 y1 y2 y3 y4 y5 y6 hb; obtain ⟨y0, y1, y2, y3, y4, y5, y6⟩ := cz7 BK4.out))
        go_roundg (l0.length - (j + 1))
        case measure => omega
        case rel =>
         refine ⟨j + 1, by first | rfl | (congr 1; omega), by omega, Nat.le_refl _, ?_, HB4⟩
         show ∀ m : Nat, m < j + 1 → F m = 0
         intro m hm
         rcases Nat.lt_succ_iff_lt_or_eq.1 hm with h | rfl
         ·exact HZ.out m h
         ·rw [HFJ.out, HO5.out]
          rfl
   ·have hltz : ¬ (i : Int) < (l0.length : Int) := by omega
    have hil : i = l0.length := by omega
    go_wp2
    go_ret
    exact ⟨0, rfl, by unfold ChkD; rw [if_neg hbig]; exact .inl ⟨rfl, fun j hj => HF.out ▸ HZ.out j (by omega)⟩, HBL.out⟩
end Go.Proofs.YtaihfoihlbileaaGreatDoor.R7
namespace Go.Proofs.YtaihfoihlbileaaGreatDoor.R7
open Go Go.Proofs Go.RowKit YtaihfoihlbileaaGreatDoorW.PrintWords
def qK {α : Type} (F : Nat → Option α) (v : α) : Prop := ∃ k0, ∀ k, k0 ≤ k → F k = some v
theorem qK.const {α : Type} (v : α) : qK (fun _ => some v) v := ⟨0, fun _ _ => rfl⟩
theorem qK.of {α : Type} {F : Nat → Option α} {v : α} (h : ∀ k, F k = some v) : qK F v := ⟨0, fun k _ => h k⟩
theorem qK.bind {α β : Type} {F : Nat → Option α} {G : Nat → α → Option β} {a : α} {b : β} (hF : qK F a) (hG : qK (fun k => G k a) b) : qK (fun k => (F k).bind (G k)) b := by
 obtain ⟨k0, h0⟩ := hF
 obtain ⟨k1, h1⟩ := hG
 refine ⟨max k0 k1, fun k hk => ?_⟩
 show (F k).bind (G k) = some b
 rw [h0 k (by omega)]
 exact h1 k (by omega)
theorem qK.step {α : Type} {F B : Nat → Option α} {v : α} (h : ∀ k, F (k + 1) = B k) (hB : qK B v) : qK F v := by
 obtain ⟨k0, h0⟩ := hB
 refine ⟨k0 + 1, fun k hk => ?_⟩
 obtain ⟨j, rfl⟩ : ∃ j, k = j + 1 := ⟨k - 1, by omega⟩
 rw [h j]
 exact h0 j (by omega)
theorem w64 {n : Int} (h0 : -9223372036854775808 ≤ n) (h1 : n ≤ 9223372036854775807) : wrap64 n = n := by unfold wrap64; omega
def vl : List Int → Int
 | [] => 0
 | d :: r => d + 1000000 * vl r
def Dg (l : List Int) : Prop := ∀ d ∈ l, 0 ≤ d ∧ d < 1000000
def dgs (n : Nat) : List Int := if h : n = 0 then [] else ((n % 1000000 : Nat) : Int) :: dgs (n / 1000000)
termination_by n
decreasing_by omega
theorem yF : dgs 0 = [] := by unfold dgs; simp
theorem kH {n : Nat} (h : n ≠ 0) : dgs n = ((n % 1000000 : Nat) : Int) :: dgs (n / 1000000) := by
 rw [dgs]
 simp [h]
theorem Dg.nil : Dg [] := fun d h => by cases h
theorem Dg.cons {d : Int} {l : List Int} (h0 : 0 ≤ d) (h1 : d < 1000000) (h : Dg l) : Dg (d :: l) := by
 intro x hx
 rcases List.mem_cons.1 hx with rfl | hx
 ·exact ⟨h0, h1⟩
 ·exact h x hx
theorem Dg.head {d : Int} {l : List Int} (h : Dg (d :: l)) : 0 ≤ d ∧ d < 1000000 := h d (List.mem_cons_self ..)
theorem Dg.tail {d : Int} {l : List Int} (h : Dg (d :: l)) : Dg l := fun x hx => h x (List.mem_cons_of_mem _ hx)
theorem Dg.drop {l : List Int} (h : Dg l) (n : Nat) : Dg (l.drop n) := fun x hx => h x (List.mem_of_mem_drop hx)
theorem kR : ∀ {l : List Int}, Dg l → 0 ≤ vl l
 | [], _ => Int.le_refl 0
 | d :: r, h => by
  have h1 := kR h.tail
  have h2 := h.head
  show 0 ≤ d + 1000000 * vl r
  omega
theorem qQc {d : Int} {m : Nat} (h0 : 0 ≤ d) (h1 : d < 1000000) (h : d ≠ 0 ∨ m ≠ 0) : dgs (d + 1000000 * (m : Int)).toNat = d :: dgs m := by
 have e : (d + 1000000 * (m : Int)).toNat = d.toNat + 1000000 * m := by omega
 rw [e, kH (by omega)]
 have e1 : (d.toNat + 1000000 * m) % 1000000 = d.toNat := by omega
 have e2 : (d.toNat + 1000000 * m) / 1000000 = m := by omega
 rw [e1, e2]
 congr 1
 omega
def tr : List Int → List Int
 | [] => []
 | d :: r => if tr r = [] ∧ d = 0 then [] else d :: tr r
theorem tr_dgs : ∀ {l : List Int}, Dg l → tr l = dgs (vl l).toNat
 | [], _ => by simp [tr, vl, yF]
 | d :: r, h => by
  have ih := tr_dgs h.tail
  have hv := kR h.tail
  have hd := h.head
  show (if tr r = [] ∧ d = 0 then [] else d :: tr r) = dgs (d + 1000000 * vl r).toNat
  rw [ih]
  obtain ⟨m, hm⟩ : ∃ m : Nat, vl r = (m : Int) := ⟨(vl r).toNat, by omega⟩
  rw [hm]
  simp only [Int.toNat_natCast]
  by_cases hz : d = 0 ∧ m = 0
  ·obtain ⟨rfl, rfl⟩ := hz
   simp [yF]
  ·rw [qQc hd.1 hd.2 (by omega)]
   rw [if_neg]
   rintro ⟨h1, h2⟩
   apply hz
   refine ⟨h2, ?_⟩
   by_cases hm0 : m = 0
   ·exact hm0
   ·rw [kH hm0] at h1
    cases h1
theorem yP : ∀ n, Dg (dgs n) := by
 intro n
 induction n using Nat.strongRecOn with
 | ind n ih =>
  by_cases h : n = 0
  ·subst h
   rw [yF]
   exact Dg.nil
  ·rw [kH h]
   exact Dg.cons (by omega) (by omega) (ih _ (by omega))
theorem zQl : ∀ n : Nat, vl (dgs n) = (n : Int) := by
 intro n
 induction n using Nat.strongRecOn with
 | ind n ih =>
  by_cases h : n = 0
  ·subst h
   rw [yF]
   rfl
  ·rw [kH h]
   show ((n % 1000000 : Nat) : Int) + 1000000 * vl (dgs (n / 1000000)) = _
   rw [ih _ (by omega)]
   omega
theorem zKq {n : Nat} : dgs n = [] ↔ n = 0 := by
 constructor
 ·intro h
  by_cases hn : n = 0
  ·exact hn
  ·rw [kH hn] at h
   cases h
 ·rintro rfl
  exact yF
theorem zZb : ∀ (m n : Nat), n < 1000000 ^ m → (dgs n).length ≤ m := by
 intro m
 induction m with
 | zero =>
  intro n h
  have : n = 0 := by simpa using h
  subst this
  simp [yF]
 | succ m ih =>
  intro n h
  by_cases hn : n = 0
  ·subst hn
   simp [yF]
  ·rw [kH hn]
   have : n / 1000000 < 1000000 ^ m := by
    rw [Nat.div_lt_iff_lt_mul (by omega)]
    rw [Nat.pow_succ] at h
    exact h
   have := ih _ this
   simp
   exact this
theorem zKy : ∀ l : List Int, tr (l ++ [0]) = tr l
 | [] => by simp [tr]
 | d :: r => by
  show (if tr (r ++ [0]) = [] ∧ d = 0 then [] else d :: tr (r ++ [0])) = (if tr r = [] ∧ d = 0 then [] else d :: tr r)
  rw [zKy r]
theorem zXn : ∀ (l : List Int) {x : Int}, x ≠ 0 → tr (l ++ [x]) = l ++ [x]
 | [], x, h => by simp [tr, h]
 | d :: r, x, h => by
  show (if tr (r ++ [x]) = [] ∧ d = 0 then [] else d :: tr (r ++ [x])) = d :: (r ++ [x])
  rw [zXn r h, if_neg]
  rintro ⟨h1, _⟩
  simp at h1
def enc (n : Int) : Bool × List Int := (decide (n < 0), dgs n.natAbs)
theorem rd_snoc (l : List Int) (x : Int) : rd (l ++ [x]) (l.length : Int) = x := by
 unfold rd
 simp
theorem zWq (l : List Int) (i : Nat) : rd l (i : Int) = l.getD i 0 := by
 unfold rd
 simp
theorem zJy (l : List Int) (i : Nat) : vl (l.drop i) = l.getD i 0 + 1000000 * vl (l.drop (i + 1)) := by
 by_cases h : i < l.length
 ·rw [List.drop_eq_getElem_cons h]
  show l[i] + 1000000 * vl (l.drop (i + 1)) = _
  simp [h]
 ·rw [List.drop_eq_nil_of_le (by omega), List.drop_eq_nil_of_le (by omega)]
  simp [vl, h]
theorem Dg.getD {l : List Int} (h : Dg l) (i : Nat) : 0 ≤ l.getD i 0 ∧ l.getD i 0 < 1000000 := by
 by_cases hi : i < l.length
 ·have := h l[i] (List.getElem_mem hi)
  simpa [hi] using this
 ·simp [hi]
theorem qVf (neg : Bool) : ∀ (n : Nat) (l : List Int), l.length = n → n < 4611686018427387904 → qK (fun k => zM.l0 k neg l) ((if tr l = [] then false else neg), tr l) := by
 intro n
 induction n with
 | zero =>
  intro l hl _
  obtain rfl := List.length_eq_zero_iff.1 hl
  refine qK.step (fun k => by rw [zM.l0]) ?_
  exact qK.of fun k => by simp [tr]
 | succ n ih =>
  intro l hl hn
  obtain rfl | ⟨l', x, rfl⟩ := List.eq_nil_or_concat l
  ·simp at hl
  rw [List.concat_eq_append] at hl ⊢
  have hl' : l'.length = n := by simpa using hl
  refine qK.step (fun k => by rw [zM.l0]) ?_
  have hL : (l' ++ [x]).length = l'.length + 1 := by simp
  have e : wrap64 (((l' ++ [x]).length : Int) - 1) = (l'.length : Int) := by rw [w64 (by omega) (by omega)]; omega
  simp only [e]
  have c1 : ((l' ++ [x]).length : Int) > 0 := by omega
  have c2 : (0 : Int) ≤ (l'.length : Int) := by omega
  have c3 : (l'.length : Int) < ((l' ++ [x]).length : Int) := by omega
  have c4 : ¬ ((l' ++ [x]).length : Int) = 0 := by omega
  simp only [if_pos c1, if_pos c2, if_pos c3, rd_snoc, if_neg c4, if_pos (show (l'.length : Int) ≤ ((l' ++ [x]).length : Int) by omega)]
  by_cases hx : x = 0
  ·subst hx
   simp only [if_true, Int.toNat_natCast, List.take_left]
   rw [zKy]
   exact ih l' hl' (by omega)
  ·simp only [if_neg hx]
   rw [zXn _ hx]
   simp only [List.append_eq_nil_iff, List.cons_ne_self, and_false, if_false]
   exact qK.const _
theorem qZc {neg : Bool} {l : List Int} {m : Nat} (hl : l.length < 4611686018427387904) (hd : Dg l) (hv : vl l = (m : Int)) : qK (fun k => zM.f k neg l) ((if m = 0 then false else neg), dgs m) := by
 have h := qVf neg l.length l rfl hl
 rw [tr_dgs hd, hv, Int.toNat_natCast] at h
 simp only [zKq] at h
 exact h
theorem r_Of_l0 (neg : Bool) : ∀ (j : Nat) (x : Int) (ds : List Int), x.natAbs < 1000000 ^ j → -9223372036854775808 ≤ x → x ≤ 9223372036854775807 → ds.length + j < 17592186044416 → qK (fun k => qj.l0 k x neg ds) (neg, ds ++ dgs x.natAbs) := by
 intro j
 induction j with
 | zero =>
  intro x ds h _ _ _
  have hx : x = 0 := by
   have : x.natAbs = 0 := by simpa using h
   omega
  subst hx
  refine qK.step (fun k => by rw [qj.l0]) ?_
  simp only [if_true]
  exact qK.of fun k => by simp [yF]
 | succ j ih =>
  intro x ds h h0 h1 hl
  refine qK.step (fun k => by rw [qj.l0]) ?_
  by_cases hx : x = 0
  ·subst hx
   simp only [if_true]
   exact qK.of fun k => by simp [yF]
  ·simp only [if_neg hx, if_pos (show ds.length < 17592186044416 by omega)]
   have e1 : (x.tdiv 1000000).natAbs = x.natAbs / 1000000 := Int.natAbs_tdiv x 1000000
   have e2 : (x.tmod 1000000).natAbs = x.natAbs % 1000000 := Int.natAbs_tmod x 1000000
   have e3 : wrap64 (x.tdiv 1000000) = x.tdiv 1000000 := w64 (by omega) (by omega)
   have e4 : wrap64 (-(x.tmod 1000000)) = -(x.tmod 1000000) := w64 (by omega) (by omega)
   have e5 : mx (x.tmod 1000000) (-(x.tmod 1000000)) = ((x.natAbs % 1000000 : Nat) : Int) := by
    unfold mx
    split <;> omega
   have h2 : x.natAbs / 1000000 < 1000000 ^ j := by
    rw [Nat.div_lt_iff_lt_mul (by omega)]
    rw [Nat.pow_succ] at h
    exact h
   rw [e3, e4, e5]
   have hh := ih (x.tdiv 1000000) (ds ++ [((x.natAbs % 1000000 : Nat) : Int)]) (by rw [e1]; exact h2) (by omega) (by omega) (by simp; omega)
   rw [e1, List.append_assoc] at hh
   rw [kH (show x.natAbs ≠ 0 by omega)]
   exact hh
theorem r_Of {n : Int} (h0 : -9223372036854775808 ≤ n) (h1 : n ≤ 9223372036854775807) : qK (fun k => qj.f k n) (enc n) := by
  have h := r_Of_l0 (decide (n < 0)) 4 n [] (by have : (1000000 : Nat) ^ 4 = 1000000000000000000000000 := by rfl
                                                omega) h0 h1 (by simp)
  exact h
theorem r_Minus (n : Int) : jN.f (enc n).1 (enc n).2 = some (enc (-n)) := by
 unfold jN.f enc
 by_cases h : n = 0
 ·subst h
  simp [yF]
 ·have h1 : dgs n.natAbs ≠ [] := fun e => by rw [zKq] at e; omega
  have h2 : ((dgs n.natAbs).length : Int) > 0 := by
   have := List.length_pos_iff.2 h1
   omega
  simp only [if_pos h2, Int.natAbs_neg]
  congr 2
  by_cases hn : n < 0
  ·simp only [hn, decide_true, Bool.not_true]
   symm
   apply decide_eq_false
   omega
  ·simp only [hn, decide_false, Bool.not_false]
   symm
   apply decide_eq_true
   omega
theorem r_Sign (n : Int) : xQ.f (enc n).1 (enc n).2 = some n.sign := by
 unfold xQ.f enc
 by_cases h : n = 0
 ·subst h
  simp [yF]
 ·have h1 : dgs n.natAbs ≠ [] := fun e => by rw [zKq] at e; omega
  have h2 : ¬ ((dgs n.natAbs).length : Int) = 0 := by
   have := List.length_pos_iff.2 h1
   omega
  simp only [if_neg h2]
  by_cases hn : n < 0
  ·simp [hn, Int.sign_eq_neg_one_of_neg hn]
  ·simp [hn, Int.sign_eq_one_of_pos (show 0 < n by omega)]
def sz : List Int → List Int → Int
 | x :: a, y :: b => if sz a b = 0 then x - y else sz a b
 | _, _ => 0
theorem qVq : ∀ (a b : List Int) (x y : Int), a.length = b.length → sz (a ++ [x]) (b ++ [y]) = if x = y then sz a b else x - y
 | [], [], x, y, _ => by simp [sz]; omega
 | u :: a, v :: b, x, y, h => by
  have ih := qVq a b x y (by simpa using h)
  show (if sz (a ++ [x]) (b ++ [y]) = 0 then u - v else sz (a ++ [x]) (b ++ [y])) = _
  rw [ih]
  by_cases e : x = y
  ·simp [e, sz]
  ·simp [e]
   omega
 | [], _ :: _, _, _, h => by simp at h
 | _ :: _, [], _, _, h => by simp at h
theorem sz_vl : ∀ (a b : List Int), a.length = b.length → Dg a → Dg b → (sz a b < 0 ↔ vl a < vl b) ∧ (sz a b = 0 ↔ vl a = vl b) ∧ -1000000 < sz a b ∧ sz a b < 1000000
 | [], [], _, _, _ => by simp [sz, vl]
 | u :: a, v :: b, h, ha, hb => by
  have ih := sz_vl a b (by simpa using h) ha.tail hb.tail
  have h1 := ha.head
  have h2 := hb.head
  show ((if sz a b = 0 then u - v else sz a b) < 0 ↔ u + 1000000 * vl a < v + 1000000 * vl b) ∧ ((if sz a b = 0 then u - v else sz a b) = 0 ↔ u + 1000000 * vl a = v + 1000000 * vl b) ∧ _ < (if sz a b = 0 then u - v else sz a b) ∧ (if sz a b = 0 then u - v else sz a b) < _
  by_cases e : sz a b = 0
  ·simp only [e, if_true]
   have := ih.2.1.1 e
   omega
  ·simp only [e, if_false]
   have h3 : ¬ vl a = vl b := fun q => e (ih.2.1.2 q)
   have h4 := ih.1
   have h5 := ih.2.2
   refine ⟨?_, ?_, h5.1, h5.2⟩
   ·rw [h4]
    omega
   ·constructor
    ·intro q
     exact absurd q (by simp)
    ·intro q
     omega
 | [], _ :: _, h, _, _ => by simp at h
 | _ :: _, [], h, _, _ => by simp at h
theorem zQm {l : List Int} {i : Nat} (h : i < l.length) : l.take (i + 1) = l.take i ++ [l.getD i 0] := by
 rw [List.take_add_one]
 simp [h]
theorem qJe (a b : List Int) (ha : Dg a) (hb : Dg b) (hab : a.length = b.length) (hlen : a.length < 4611686018427387904) : ∀ (n : Nat), n ≤ a.length → qK (fun k => qz.l0 k a b ((n : Int) - 1)) (sz (a.take n) (b.take n)) := by
 intro n
 induction n with
 | zero =>
  intro _
  refine qK.step (fun k => by rw [qz.l0]) ?_
  exact qK.of fun k => by simp [sz]
 | succ n ih =>
  intro hn
  refine qK.step (fun k => by rw [qz.l0]) ?_
  have e0 : (((n + 1 : Nat) : Int) - 1) = (n : Int) := by omega
  simp only [e0]
  have g1 := ha.getD n
  have g2 := hb.getD n
  simp only [if_pos (show (n : Int) ≥ 0 by omega), if_pos (show (n : Int) < (a.length : Int) by omega), if_pos (show (n : Int) < (b.length : Int) by omega), zWq]
  rw [zQm (show n < a.length by omega), zQm (show n < b.length by omega), qVq _ _ _ _ (by simp [hab])]
  by_cases e : a.getD n 0 = b.getD n 0
  ·simp only [if_pos e]
   rw [w64 (by omega) (by omega)]
   exact ih (by omega)
  ·simp only [if_neg e]
   rw [w64 (by omega) (by omega)]
   exact qK.const _
theorem zKh : ∀ (m n : Nat), n ≤ m → (dgs n).length ≤ (dgs m).length := by
 intro m
 induction m using Nat.strongRecOn with
 | ind m ih =>
  intro n h
  by_cases hn : n = 0
  ·subst hn
   simp [yF]
  ·rw [kH hn, kH (show m ≠ 0 by omega)]
   have := ih (m / 1000000) (by omega) (n / 1000000) (by omega)
   simp
   exact this
theorem r_sizes {m n : Nat} (hm : (dgs m).length < 4611686018427387904) (hn : (dgs n).length < 4611686018427387904) : ∃ t : Int, qK (fun k => qz.f k (dgs m) (dgs n)) t ∧ (t < 0 ↔ m < n) := by
 unfold qz.f
 by_cases h : (dgs m).length = (dgs n).length
 ·refine ⟨sz (dgs m) (dgs n), ?_, ?_⟩
  ·simp only [if_pos (show ((dgs m).length : Int) = ((dgs n).length : Int) by omega)]
   rw [w64 (by omega) (by omega)]
   have := qJe (dgs m) (dgs n) (yP m) (yP n) h hm _ (Nat.le_refl _)
   rw [List.take_length, h, List.take_length] at this
   rw [h]
   exact this
  ·have := (sz_vl _ _ h (yP m) (yP n)).1
   rw [zQl, zQl] at this
   rw [this]
   omega
 ·refine ⟨((dgs m).length : Int) - ((dgs n).length : Int), ?_, ?_⟩
  ·simp only [if_neg (show ¬ ((dgs m).length : Int) = ((dgs n).length : Int) by omega)]
   rw [w64 (by omega) (by omega)]
   exact qK.const _
  ·constructor
   ·intro hlt
    by_cases hmn : m < n
    ·exact hmn
    ·have := zKh m n (by omega)
     omega
   ·intro hlt
    have := zKh n m (by omega)
    omega
def addc : Nat → Int → List Int → List Int → List Int
 | 0, _, _, _ => []
 | n + 1, c, a, b => (a.getD 0 0 + b.getD 0 0 + c) % 1000000 :: addc n ((a.getD 0 0 + b.getD 0 0 + c) / 1000000) (a.drop 1) (b.drop 1)
theorem qYy : ∀ (n : Nat) (c : Int) (a b : List Int), Dg a → Dg b → 0 ≤ c → c ≤ 1 → Dg (addc n c a b) ∧ (vl a + vl b + c < 1000000 ^ n → vl (addc n c a b) = vl a + vl b + c)
 | 0, c, a, b, ha, hb, h0, h1 => by
  refine ⟨Dg.nil, fun h => ?_⟩
  have := kR ha
  have := kR hb
  simp only [Int.pow_zero] at h
  show (0 : Int) = _
  omega
 | n + 1, c, a, b, ha, hb, h0, h1 => by
  have g1 := ha.getD 0
  have g2 := hb.getD 0
  have ih := qYy n ((a.getD 0 0 + b.getD 0 0 + c) / 1000000) (a.drop 1) (b.drop 1) (ha.drop 1) (hb.drop 1) (by omega) (by omega)
  have e1 := zJy a 0
  have e2 := zJy b 0
  simp only [List.drop_zero, Nat.zero_add] at e1 e2
  refine ⟨Dg.cons (by omega) (by omega) ih.1, fun h => ?_⟩
  rw [Int.pow_succ] at h
  show (a.getD 0 0 + b.getD 0 0 + c) % 1000000 + 1000000 * vl (addc n _ _ _) = _
  rw [ih.2 (by omega)]
  omega
theorem qJz : ∀ (n : Nat) (c : Int) (a b : List Int), (addc n c a b).length = n
 | 0, _, _, _ => rfl
 | n + 1, c, a, b => by
  show (addc n _ _ _).length + 1 = n + 1
  rw [qJz n]
theorem zEm (l : List Int) (i : Nat) : qw.f l (i : Int) = some (l.getD i 0) := by
 unfold qw.f
 by_cases h : i < l.length
 ·simp only [if_pos (show (i : Int) < (l.length : Int) by omega), if_pos (show (0 : Int) ≤ (i : Int) by omega), zWq]
 ·simp only [if_neg (show ¬ (i : Int) < (l.length : Int) by omega)]
  simp [h]
theorem uR (l : List Int) (i : Nat) : (l.drop i).getD 0 0 = l.getD i 0 := by
 simp [List.getD_eq_getElem?_getD, List.getElem?_drop]
theorem qVg (a b : List Int) (ha : Dg a) (hb : Dg b) (na nb neg : Bool) (N : Nat) (hN : N < 17592186044416) : ∀ (m i : Nat) (c : Int) (acc : List Int), m + i = N → acc.length = i → 0 ≤ c → c ≤ 1 → ∀ {v : Bool × List Int}, qK (fun k => zM.f k neg (acc ++ addc m c (a.drop i) (b.drop i))) v → qK (fun k => zw.l1 k c (N : Int) (i : Int) na a nb b neg acc) v := by
 intro m
 induction m with
 | zero =>
  intro i c acc hi hacc h0 h1 v hv
  refine qK.step (fun k => by rw [zw.l1]) ?_
  simp only [if_neg (show ¬ (i : Int) < (N : Int) by omega)]
  rw [show addc 0 c (a.drop i) (b.drop i) = [] from rfl, List.append_nil] at hv
  exact qK.bind hv (qK.const _)
 | succ m ih =>
  intro i c acc hi hacc h0 h1 v hv
  refine qK.step (fun k => by rw [zw.l1]) ?_
  have g1 := ha.getD i
  have g2 := hb.getD i
  simp only [if_pos (show (i : Int) < (N : Int) by omega), zEm, Option.bind_some, if_pos (show acc.length < 17592186044416 by omega)]
  have e1 : wrap64 (a.getD i 0 + b.getD i 0) = a.getD i 0 + b.getD i 0 := w64 (by omega) (by omega)
  have e2 : wrap64 (a.getD i 0 + b.getD i 0 + c) = a.getD i 0 + b.getD i 0 + c := w64 (by omega) (by omega)
  have e3 : (a.getD i 0 + b.getD i 0 + c).tdiv 1000000 = (a.getD i 0 + b.getD i 0 + c) / 1000000 := Int.tdiv_eq_ediv_of_nonneg (by omega)
  have e4 : (a.getD i 0 + b.getD i 0 + c).tmod 1000000 = (a.getD i 0 + b.getD i 0 + c) % 1000000 := Int.tmod_eq_emod_of_nonneg (by omega)
  have e5 : wrap64 ((a.getD i 0 + b.getD i 0 + c) / 1000000) = (a.getD i 0 + b.getD i 0 + c) / 1000000 := w64 (by omega) (by omega)
  have e6 : wrap64 ((i : Int) + 1) = ((i + 1 : Nat) : Int) := by rw [w64] <;> omega
  rw [e1, e2, e3, e4, e5, e6]
  refine ih (i + 1) _ _ (by omega) (by simp; omega) (by omega) (by omega) ?_
  rw [show addc (m + 1) c (a.drop i) (b.drop i) = ((a.drop i).getD 0 0 + (b.drop i).getD 0 0 + c) % 1000000 :: addc m (((a.drop i).getD 0 0 + (b.drop i).getD 0 0 + c) / 1000000) ((a.drop i).drop 1) ((b.drop i).drop 1) from rfl] at hv
  rw [uR, uR, List.drop_drop, List.drop_drop] at hv
  rw [List.append_assoc]
  exact hv
def subc : Nat → Int → List Int → List Int → List Int
 | 0, _, _, _ => []
 | n + 1, c, a, b => if a.getD 0 0 - b.getD 0 0 - c < 0 then (a.getD 0 0 - b.getD 0 0 - c + 1000000) :: subc n 1 (a.drop 1) (b.drop 1) else (a.getD 0 0 - b.getD 0 0 - c) :: subc n 0 (a.drop 1) (b.drop 1)
theorem zBx : ∀ (n : Nat) (c : Int) (a b : List Int), (subc n c a b).length = n
 | 0, _, _, _ => rfl
 | n + 1, c, a, b => by
  unfold subc
  split <;> simp [zBx n]
theorem zBw : ∀ (n : Nat) (c : Int) (a b : List Int), Dg a → Dg b → 0 ≤ c → c ≤ 1 → Dg (subc n c a b) ∧ (vl b + c ≤ vl a → a.length ≤ n → vl (subc n c a b) = vl a - vl b - c)
 | 0, c, a, b, ha, hb, h0, h1 => by
  refine ⟨Dg.nil, fun h hl => ?_⟩
  have : a = [] := List.length_eq_zero_iff.1 (by omega)
  subst this
  have := kR hb
  show (0 : Int) = _
  simp only [vl] at h ⊢
  omega
 | n + 1, c, a, b, ha, hb, h0, h1 => by
  have g1 := ha.getD 0
  have g2 := hb.getD 0
  have e1 := zJy a 0
  have e2 := zJy b 0
  simp only [List.drop_zero, Nat.zero_add] at e1 e2
  have i1 := zBw n 1 (a.drop 1) (b.drop 1) (ha.drop 1) (hb.drop 1) (by omega) (by omega)
  have i0 := zBw n 0 (a.drop 1) (b.drop 1) (ha.drop 1) (hb.drop 1) (by omega) (by omega)
  unfold subc
  by_cases hc : a.getD 0 0 - b.getD 0 0 - c < 0
  ·rw [if_pos hc]
   refine ⟨Dg.cons (by omega) (by omega) i1.1, fun h hl => ?_⟩
   show _ + 1000000 * vl (subc n 1 _ _) = _
   rw [i1.2 (by omega) (by simp; omega)]
   omega
  ·rw [if_neg hc]
   refine ⟨Dg.cons (by omega) (by omega) i0.1, fun h hl => ?_⟩
   show _ + 1000000 * vl (subc n 0 _ _) = _
   rw [i0.2 (by omega) (by simp; omega)]
   omega
theorem qVh (a b : List Int) (ha : Dg a) (hb : Dg b) (na nb neg : Bool) (hN : a.length < 17592186044416) : ∀ (m i : Nat) (c : Int) (acc : List Int), m + i = a.length → acc.length = i → 0 ≤ c → c ≤ 1 → ∀ {v : Bool × List Int}, qK (fun k => zM.f k neg (acc ++ subc m c (a.drop i) (b.drop i))) v → qK (fun k => zw.l0 k c (a.length : Int) (i : Int) na a nb b neg acc) v := by
 intro m
 induction m with
 | zero =>
  intro i c acc hi hacc h0 h1 v hv
  refine qK.step (fun k => by rw [zw.l0]) ?_
  simp only [if_neg (show ¬ (i : Int) < (a.length : Int) by omega)]
  rw [show subc 0 c (a.drop i) (b.drop i) = [] from rfl, List.append_nil] at hv
  exact qK.bind hv (qK.const _)
 | succ m ih =>
  intro i c acc hi hacc h0 h1 v hv
  refine qK.step (fun k => by rw [zw.l0]) ?_
  have g1 := ha.getD i
  have g2 := hb.getD i
  simp only [if_pos (show (i : Int) < (a.length : Int) by omega), if_pos (show (0 : Int) ≤ (i : Int) by omega), zEm, zWq, Option.bind_some, if_pos (show acc.length < 17592186044416 by omega)]
  have e1 : wrap64 (a.getD i 0 - b.getD i 0) = a.getD i 0 - b.getD i 0 := w64 (by omega) (by omega)
  have e2 : wrap64 (a.getD i 0 - b.getD i 0 - c) = a.getD i 0 - b.getD i 0 - c := w64 (by omega) (by omega)
  have e3 : wrap64 (a.getD i 0 - b.getD i 0 - c + 1000000) = a.getD i 0 - b.getD i 0 - c + 1000000 := w64 (by omega) (by omega)
  have e6 : wrap64 ((i : Int) + 1) = ((i + 1 : Nat) : Int) := by rw [w64] <;> omega
  rw [e1, e2, e3, e6]
  unfold subc at hv
  rw [uR, uR, List.drop_drop, List.drop_drop] at hv
  by_cases hc : a.getD i 0 - b.getD i 0 - c < 0
  ·simp only [if_pos hc] at hv ⊢
   refine ih (i + 1) _ _ (by omega) (by simp; omega) (by omega) (by omega) ?_
   rw [List.append_assoc]
   exact hv
  ·simp only [if_neg hc] at hv ⊢
   refine ih (i + 1) _ _ (by omega) (by simp; omega) (by omega) (by omega) ?_
   rw [List.append_assoc]
   exact hv
theorem zDd (a b : List Int) (ha : Dg a) (hb : Dg b) (na nb neg : Bool) (hN : a.length < 17592186044416) : ∀ (m i : Nat) (c : Int) (acc : List Int), m + i = a.length → acc.length = i → 0 ≤ c → c ≤ 1 → ∀ {v : Bool × List Int}, qK (fun k => zM.f k neg (acc ++ subc m c (a.drop i) (b.drop i))) v → qK (fun k => zH.l0 k c (a.length : Int) (i : Int) na a nb b neg acc) v := by
 intro m
 induction m with
 | zero =>
  intro i c acc hi hacc h0 h1 v hv
  refine qK.step (fun k => by rw [zH.l0]) ?_
  simp only [if_neg (show ¬ (i : Int) < (a.length : Int) by omega)]
  rw [show subc 0 c (a.drop i) (b.drop i) = [] from rfl, List.append_nil] at hv
  exact qK.bind hv (qK.const _)
 | succ m ih =>
  intro i c acc hi hacc h0 h1 v hv
  refine qK.step (fun k => by rw [zH.l0]) ?_
  have g1 := ha.getD i
  have g2 := hb.getD i
  simp only [if_pos (show (i : Int) < (a.length : Int) by omega), if_pos (show (0 : Int) ≤ (i : Int) by omega), zEm, zWq, Option.bind_some, if_pos (show acc.length < 17592186044416 by omega)]
  have e1 : wrap64 (a.getD i 0 - b.getD i 0) = a.getD i 0 - b.getD i 0 := w64 (by omega) (by omega)
  have e2 : wrap64 (a.getD i 0 - b.getD i 0 - c) = a.getD i 0 - b.getD i 0 - c := w64 (by omega) (by omega)
  have e3 : wrap64 (a.getD i 0 - b.getD i 0 - c + 1000000) = a.getD i 0 - b.getD i 0 - c + 1000000 := w64 (by omega) (by omega)
  have e6 : wrap64 ((i : Int) + 1) = ((i + 1 : Nat) : Int) := by rw [w64] <;> omega
  rw [e1, e2, e3, e6]
  unfold subc at hv
  rw [uR, uR, List.drop_drop, List.drop_drop] at hv
  by_cases hc : a.getD i 0 - b.getD i 0 - c < 0
  ·simp only [if_pos hc] at hv ⊢
   refine ih (i + 1) _ _ (by omega) (by simp; omega) (by omega) (by omega) ?_
   rw [List.append_assoc]
   exact hv
  ·simp only [if_neg hc] at hv ⊢
   refine ih (i + 1) _ _ (by omega) (by simp; omega) (by omega) (by omega) ?_
   rw [List.append_assoc]
   exact hv
theorem zVc : ∀ {l : List Int}, Dg l → vl l < 1000000 ^ l.length
 | [], _ => by simp [vl]
 | d :: r, h => by
  have := zVc h.tail
  have h1 := h.head
  rw [List.length_cons, Int.pow_succ]
  show d + 1000000 * vl r < _
  omega
theorem qZe : ∀ n : Nat, 0 < (1000000 : Int) ^ n
 | 0 => by simp
 | n + 1 => by
  have := qZe n
  rw [Int.pow_succ]
  omega
theorem zDf {a b : Nat} (h : a ≤ b) : (1000000 : Int) ^ a ≤ 1000000 ^ b := by
 induction h with
 | refl => exact Int.le_refl _
 | step _ ih =>
  rw [Int.pow_succ]
  have := qZe a
  omega
def Lo (n : Int) : Prop := (dgs n.natAbs).length < 8796093022208
theorem zXf {m n : Nat} (neg : Bool) (hm : (dgs m).length < 8796093022208) (hn : (dgs n).length < 8796093022208) : qK (fun k => zw.f k neg (dgs m) neg (dgs n)) ((if m + n = 0 then false else neg), dgs (m + n)) := by
 unfold zw.f
 have e0 : ¬ (!(neg == neg)) = true := by simp
 simp only [if_neg e0]
 have v1 := zQl m
 have v2 := zQl n
 have p1 := zVc (yP m)
 have p2 := zVc (yP n)
 have key : ∀ N : Nat, (dgs m).length + 1 ≤ N → (dgs n).length + 1 ≤ N → N < 17592186044416 → qK (fun k => zw.l1 k 0 (N : Int) 0 neg (dgs m) neg (dgs n) neg []) ((if m + n = 0 then false else neg), dgs (m + n)) := by
  intro N h1 h2 h3
  have q1 := zDf h1
  have q2 := zDf h2
  rw [Int.pow_succ] at q1 q2
  refine qVg (dgs m) (dgs n) (yP m) (yP n) neg neg neg N h3 N 0 0 [] (by omega) rfl (by omega) (by omega) ?_
  have hv := qYy N 0 (dgs m) (dgs n) (yP m) (yP n) (by omega) (by omega)
  simp only [List.drop_zero, List.nil_append]
  refine qZc (by rw [qJz]; omega) hv.1 ?_
  rw [hv.2 (by omega)]
  omega
 by_cases h : ((dgs m).length : Int) < ((dgs n).length : Int)
 ·simp only [if_pos h]
  rw [show wrap64 (((dgs n).length : Int) + 1) = (((dgs n).length + 1 : Nat) : Int) by rw [w64] <;> omega]
  exact key _ (by omega) (by omega) (by omega)
 ·simp only [if_neg h]
  rw [show wrap64 (((dgs m).length : Int) + 1) = (((dgs m).length + 1 : Nat) : Int) by rw [w64] <;> omega]
  exact key _ (by omega) (by omega) (by omega)
theorem r_Plus {a b : Int} (ha : Lo a) (hb : Lo b) : qK (fun k => xZ.f k (enc a).1 (enc a).2 (enc b).1 (enc b).2) (enc (a + b)) := by
 unfold Lo at ha hb
 unfold xZ.f enc
 dsimp only
 by_cases hs : decide (a < 0) = decide (b < 0)
 ·have e0 : ¬ (!(decide (a < 0) == decide (b < 0))) = true := by simp [hs]
  simp only [if_neg e0]
  have h := zXf (m := a.natAbs) (n := b.natAbs) (decide (b < 0)) ha hb
  rw [hs]
  have hs' : a < 0 ↔ b < 0 := by simpa using hs
  have e1 : a.natAbs + b.natAbs = (a + b).natAbs := by omega
  rw [e1] at h
  have e2 : (if (a + b).natAbs = 0 then false else decide (b < 0)) = decide (a + b < 0) := by
   split
   ·symm
    apply decide_eq_false
    omega
   ·congr 1
    apply propext
    omega
  rw [e2] at h
  exact h
 ·have e0 : (!(decide (a < 0) == decide (b < 0))) = true := by simpa using hs
  simp only [if_pos e0]
  have hs' : ¬ (a < 0 ↔ b < 0) := by simpa using hs
  obtain ⟨t, ht, htl⟩ := r_sizes (m := a.natAbs) (n := b.natAbs) (by omega) (by omega)
  refine qK.bind ht ?_
  by_cases h : t < 0
  ·simp only [if_pos h]
   have hlt := htl.1 h
   unfold zH.f
   simp only [if_pos e0]
   refine qK.bind ht ?_
   simp only [if_pos h]
   have hv := zBw (dgs b.natAbs).length 0 (dgs b.natAbs) (dgs a.natAbs) (yP _) (yP _) (by omega) (by omega)
   rw [zQl, zQl] at hv
   refine zDd (dgs b.natAbs) (dgs a.natAbs) (yP _) (yP _) _ _ _ (by omega) (dgs b.natAbs).length 0 0 [] (by omega) rfl (by omega) (by omega) ?_
   simp only [List.drop_zero, List.nil_append]
   have hr := qZc (neg := decide (b < 0)) (m := (a + b).natAbs) (by rw [zBx]; omega) hv.1 (by rw [hv.2 (by omega) (Nat.le_refl _)]; omega)
   have e2 : (if (a + b).natAbs = 0 then false else decide (b < 0)) = decide (a + b < 0) := by
    split
    ·symm
     apply decide_eq_false
     omega
    ·congr 1
     apply propext
     omega
   rw [e2] at hr
   exact hr
  ·simp only [if_neg h]
   have hge : b.natAbs ≤ a.natAbs := by
    by_cases q : a.natAbs < b.natAbs
    ·exact absurd (htl.2 q) h
    ·omega
   unfold zw.f
   simp only [if_pos e0]
   refine qK.bind ht ?_
   simp only [if_neg h]
   have hv := zBw (dgs a.natAbs).length 0 (dgs a.natAbs) (dgs b.natAbs) (yP _) (yP _) (by omega) (by omega)
   rw [zQl, zQl] at hv
   refine qVh (dgs a.natAbs) (dgs b.natAbs) (yP _) (yP _) _ _ _ (by omega) (dgs a.natAbs).length 0 0 [] (by omega) rfl (by omega) (by omega) ?_
   simp only [List.drop_zero, List.nil_append]
   have hr := qZc (neg := decide (a < 0)) (m := (a + b).natAbs) (by rw [zBx]; omega) hv.1 (by rw [hv.2 (by omega) (Nat.le_refl _)]; omega)
   have e2 : (if (a + b).natAbs = 0 then false else decide (a < 0)) = decide (a + b < 0) := by
    split
    ·symm
     apply decide_eq_false
     omega
    ·congr 1
     apply propext
     omega
   rw [e2] at hr
   exact hr
theorem Lo.neg {a : Int} (h : Lo a) : Lo (-a) := by
 unfold Lo at h ⊢
 rw [Int.natAbs_neg]
 exact h
theorem r_Cmp {a b : Int} (ha : Lo a) (hb : Lo b) : qK (fun k => xz.f k (enc a).1 (enc a).2 (enc b).1 (enc b).2) (a - b).sign := by
 unfold xz.f
 simp only [r_Minus, Option.bind_some]
 refine qK.bind (r_Plus ha hb.neg) ?_
 simp only [r_Sign, Option.bind_some]
 rw [Int.sub_eq_add_neg]
 exact qK.const _
theorem qZv : ∀ (l : List Int) (p : Nat) (v : Int), p < l.length → vl (l.set p v) = vl l + (v - l.getD p 0) * 1000000 ^ p
 | [], p, v, h => by simp at h
 | d :: r, 0, v, _ => by
  show v + 1000000 * vl r = d + 1000000 * vl r + (v - d) * 1
  omega
 | d :: r, p + 1, v, h => by
  have ih := qZv r p v (by simpa using h)
  show d + 1000000 * vl (r.set p v) = d + 1000000 * vl r + (v - r.getD p 0) * 1000000 ^ (p + 1)
  rw [ih, Int.pow_succ]
  grind
theorem zQd (l : List Int) (p q : Nat) (v : Int) (hp : p < l.length) : (l.set p v).getD q 0 = if q = p then v else l.getD q 0 := by
 by_cases h : q = p
 ·subst h
  simp [hp]
 ·simp only [List.getD_eq_getElem?_getD, List.getElem?_set]
  have h' : ¬ p = q := fun e => h e.symm
  simp [h, h']
theorem qZy (l : List Int) (p : Nat) (hp : p < l.length) : l.set p (l.getD p 0) = l := by
 apply List.ext_getElem?
 intro i
 rw [List.getElem?_set]
 by_cases h : p = i
 ·subst h
  simp [hp]
 ·simp [h]
def RowI (n i j lb : Nat) (out : List Int) : Prop :=
 out.length = n ∧ (∀ q, 0 ≤ out.getD q 0) ∧ (∀ q, q ≠ i + j → out.getD q 0 < 1000000) ∧ out.getD (i + j) 0 ≤ 1999998 ∧ (∀ q, i + lb ≤ q → q ≠ i + j → out.getD q 0 = 0) ∧ (j = lb → out.getD (i + j) 0 < 1000000)
theorem zDy (a b : List Int) (ha : Dg a) (hb : Dg b) (nb neg : Bool) (n : Nat) (hn : n = a.length + b.length + 1) (hbig : n ≤ 35184372088832) (i : Nat) (hi : i < a.length) : ∀ (m j : Nat) (out : List Int), m + j = b.length → RowI n i j b.length out →
  ∃ out' : List Int, RowI n i b.length b.length out' ∧ vl out' = vl out + a.getD i 0 * vl (b.drop j) * 1000000 ^ (i + j) ∧ ∀ {v : Bool × List Int}, qK (fun k => zV.l0 k a (a.length : Int) ((i + 1 : Nat) : Int) nb b neg out') v → qK (fun k => zV.l1 k (i : Int) (a.getD i 0) a (a.length : Int) (i : Int) b (b.length : Int) (j : Int) nb b neg out) v := by
 intro m
 induction m with
 | zero =>
  intro j out hm hI
  have hj : j = b.length := by omega
  subst hj
  refine ⟨out, hI, ?_, ?_⟩
  ·rw [List.drop_eq_nil_of_le (Nat.le_refl _)]
   simp [vl]
  ·intro v hv
   refine qK.step (fun k => by rw [zV.l1]) ?_
   simp only [if_neg (show ¬ (b.length : Int) < (b.length : Int) by omega)]
   rw [show wrap64 ((i : Int) + 1) = ((i + 1 : Nat) : Int) by rw [w64] <;> omega]
   exact hv
 | succ m ih =>
  intro j out hm hI
  have w1 : wrap64 ((i : Int) + (j : Int)) = ((i + j : Nat) : Int) := by rw [w64] <;> omega
  have w2 : wrap64 (((i + j : Nat) : Int) + 1) = ((i + j + 1 : Nat) : Int) := by rw [w64] <;> omega
  have w3 : wrap64 ((j : Int) + 1) = ((j + 1 : Nat) : Int) := by rw [w64] <;> omega
  have hol := hI.1
  have c1 : (j : Int) < (b.length : Int) := by omega
  have c2 : (0 : Int) ≤ (j : Int) := by omega
  have c3 : (0 : Int) ≤ ((i + j : Nat) : Int) := by omega
  have c4 : ((i + j : Nat) : Int) < (out.length : Int) := by omega
  have c5 : (0 : Int) ≤ ((i + j + 1 : Nat) : Int) := by omega
  have c6 : ((i + j + 1 : Nat) : Int) < (out.length : Int) := by omega
  obtain ⟨h1, h2, h3, h4, h5, h6⟩ := hI
  have ga := ha.getD i
  have gb := hb.getD j
  have hx0 : 0 ≤ a.getD i 0 * b.getD j 0 := Int.mul_nonneg ga.1 gb.1
  have hx1 : a.getD i 0 * b.getD j 0 ≤ 999999 * 999999 := Int.mul_le_mul (by omega) (by omega) gb.1 (by omega)
  obtain ⟨x, hx⟩ : ∃ x, a.getD i 0 * b.getD j 0 = x := ⟨_, rfl⟩
  rw [hx] at hx0 hx1
  obtain ⟨o, ho⟩ : ∃ o, out.getD (i + j) 0 = o := ⟨_, rfl⟩
  obtain ⟨o1, ho1⟩ : ∃ o1, out.getD (i + j + 1) 0 = o1 := ⟨_, rfl⟩
  have q0 := h2 (i + j)
  have q1 := h2 (i + j + 1)
  have q2 := h3 (i + j + 1) (by omega)
  rw [ho] at q0 h4
  rw [ho1] at q1 q2
  have k0 : 0 ≤ (o + x) / 1000000 := by omega
  have k1 : (o + x) / 1000000 ≤ 999999 := by omega
  have k2 : 0 ≤ (o + x) % 1000000 := by omega
  have k3 : (o + x) % 1000000 < 1000000 := by omega
  have k4 := Int.emod_add_mul_ediv (o + x) 1000000
  have l1 : (out.set (i + j) (o + x)).length = out.length := by simp
  have l2 : ((out.set (i + j) (o + x)).set (i + j + 1) (o1 + (o + x) / 1000000)).length = out.length := by simp
  have s1 : (out.set (i + j) (o + x)).getD (i + j) 0 = o + x := by rw [zQd _ _ _ _ (by omega), if_pos rfl]
  have s2 : (out.set (i + j) (o + x)).getD (i + j + 1) 0 = o1 := by rw [zQd _ _ _ _ (by omega), if_neg (by omega), ho1]
  have s3 : ((out.set (i + j) (o + x)).set (i + j + 1) (o1 + (o + x) / 1000000)).getD (i + j) 0 = o + x := by rw [zQd _ _ _ _ (by omega), if_neg (by omega), s1]
  have u0 : wrap64 x = x := w64 (by omega) (by omega)
  have u1 : wrap64 (o + x) = o + x := w64 (by omega) (by omega)
  have u2 : (o + x).tdiv 1000000 = (o + x) / 1000000 := Int.tdiv_eq_ediv_of_nonneg (by omega)
  have u3 : (o + x).tmod 1000000 = (o + x) % 1000000 := Int.tmod_eq_emod_of_nonneg (by omega)
  have u4 : wrap64 ((o + x) / 1000000) = (o + x) / 1000000 := w64 (by omega) (by omega)
  have u5 : wrap64 (o1 + (o + x) / 1000000) = o1 + (o + x) / 1000000 := w64 (by omega) (by omega)
  obtain ⟨out', hout'⟩ : ∃ z, ((out.set (i + j) (o + x)).set (i + j + 1) (o1 + (o + x) / 1000000)).set (i + j) ((o + x) % 1000000) = z := ⟨_, rfl⟩
  have hlen' : out'.length = n := by rw [← hout']; simp [h1]
  have g' : ∀ q, out'.getD q 0 = if q = i + j then (o + x) % 1000000 else if q = i + j + 1 then o1 + (o + x) / 1000000 else out.getD q 0 := by
   intro q
   rw [← hout', zQd _ _ _ _ (by omega), zQd _ _ _ _ (by omega), zQd _ _ _ _ (by omega)]
   by_cases e : q = i + j
   ·simp [e]
   ·simp [e]
  have hval : vl out' = vl out + x * 1000000 ^ (i + j) := by
   rw [← hout', qZv _ _ _ (by omega), qZv _ _ _ (by omega), qZv _ _ _ (by omega), s2, s3, ho, Int.pow_succ]
   clear g' s1 s2 s3 l1 l2 u0 u1 u2 u3 u4 u5 hout' hlen' h2 h3 h5 h6 ha hb ih
   grind
  have hI' : RowI n i (j + 1) b.length out' := by
   refine ⟨hlen', ?_, ?_, ?_, ?_, ?_⟩
   ·intro q
    rw [g']
    have := h2 q
    split
    ·omega
    ·split <;> omega
   ·intro q hq
    rw [g']
    have := h3 q
    split
    ·omega
    ·split
     ·omega
     ·rename_i e _
      exact this e
   ·rw [show i + (j + 1) = i + j + 1 by omega, g']
    simp only [if_neg (show ¬ i + j + 1 = i + j by omega), if_true]
    omega
   ·intro q hq hq2
    rw [g']
    simp only [if_neg (show ¬ q = i + j by omega), if_neg (show ¬ q = i + j + 1 by omega)]
    exact h5 q hq (by omega)
   ·intro e
    rw [show i + (j + 1) = i + j + 1 by omega, g']
    simp only [if_neg (show ¬ i + j + 1 = i + j by omega), if_true]
    have := h5 (i + j + 1) (by omega) (by omega)
    rw [ho1] at this
    omega
  obtain ⟨out2, hI2, hv2, ht2⟩ := ih (j + 1) out' (by omega) hI'
  refine ⟨out2, hI2, ?_, ?_⟩
  ·rw [hv2, hval, zJy b j, ← hx, show i + (j + 1) = i + j + 1 by omega, Int.pow_succ]
   grind
  ·intro v hv
   refine qK.step (fun k => by rw [zV.l1]) ?_
   simp only [if_pos c1, if_pos c2, w1, w2, w3, zWq, Option.bind_some, Int.toNat_natCast]
   simp only [if_pos c3, if_pos c4, if_pos c5, if_pos c6]
   rw [hx, ho, u0, u1, s1, s2, u2, u4, u5, s3, u3, hout']
   exact ht2 hv
theorem Dg.of_getD {l : List Int} (h : ∀ q, 0 ≤ l.getD q 0 ∧ l.getD q 0 < 1000000) : Dg l := by
 intro d hd
 obtain ⟨i, hi, rfl⟩ := List.getElem_of_mem hd
 have := h i
 simpa [hi] using this
theorem zDb (a b : List Int) (ha : Dg a) (hb : Dg b) (nb neg : Bool) (n : Nat) (hn : n = a.length + b.length + 1) (hbig : n ≤ 35184372088832) : ∀ (m i : Nat) (out : List Int), m + i = a.length → RowI n i 0 b.length out → (∀ q, out.getD q 0 < 1000000) →
  ∃ out' : List Int, Dg out' ∧ out'.length = n ∧ vl out' = vl out + vl (a.drop i) * vl b * 1000000 ^ i ∧ ∀ {v : Bool × List Int}, qK (fun k => zV.l2 k ((n : Int) - 1) 0 neg out') v → qK (fun k => zV.l0 k a (a.length : Int) (i : Int) nb b neg out) v := by
 intro m
 induction m with
 | zero =>
  intro i out hm hI hall
  have hi : i = a.length := by omega
  subst hi
  refine ⟨out, Dg.of_getD fun q => ⟨hI.2.1 q, hall q⟩, hI.1, ?_, ?_⟩
  ·rw [List.drop_eq_nil_of_le (Nat.le_refl _)]
   simp [vl]
  ·intro v hv
   refine qK.step (fun k => by rw [zV.l0]) ?_
   simp only [if_neg (show ¬ (a.length : Int) < (a.length : Int) by omega)]
   rw [hI.1, show wrap64 ((n : Int) - 1) = (n : Int) - 1 from w64 (by omega) (by omega)]
   exact hv
 | succ m ih =>
  intro i out hm hI hall
  obtain ⟨out1, hI1, hv1, ht1⟩ := zDy a b ha hb nb neg n hn hbig i (by omega) b.length 0 out (by omega) hI
  obtain ⟨h1, h2, h3, h4, h5, h6⟩ := hI1
  have hall1 : ∀ q, out1.getD q 0 < 1000000 := by
   intro q
   by_cases e : q = i + b.length
   ·rw [e]
    exact h6 rfl
   ·exact h3 q e
  have hI2 : RowI n (i + 1) 0 b.length out1 := by
   refine ⟨h1, h2, fun q _ => hall1 q, ?_, ?_, fun _ => hall1 _⟩
   ·have := hall1 (i + 1 + 0)
    omega
   ·intro q hq hq2
    exact h5 q (by omega) (by omega)
  obtain ⟨out2, hd2, hl2, hv2, ht2⟩ := ih (i + 1) out1 (by omega) hI2 hall1
  refine ⟨out2, hd2, hl2, ?_, ?_⟩
  ·rw [hv2, hv1, zJy a i, Int.pow_succ, List.drop_zero, Nat.add_zero]
   clear ih ht1 ht2 hI hI2 h1 h2 h3 h4 h5 h6 hall hall1 hd2 hl2 hv2 hv1
   grind
  ·intro v hv
   refine qK.step (fun k => by rw [zV.l0]) ?_
   simp only [if_pos (show (i : Int) < (a.length : Int) by omega), if_pos (show (0 : Int) ≤ (i : Int) by omega), zWq]
   exact ht1 (ht2 hv)
theorem zDx (neg : Bool) (out : List Int) (hd : Dg out) (hbig : out.length ≤ 35184372088832) {v : Bool × List Int} (hv : qK (fun k => zM.f k neg out) v) : ∀ (m i : Nat), m + i + 1 = out.length → qK (fun k => zV.l2 k ((out.length : Int) - 1) (i : Int) neg out) v := by
 intro m
 induction m with
 | zero =>
  intro i hi
  refine qK.step (fun k => by rw [zV.l2]) ?_
  simp only [if_neg (show ¬ (i : Int) < (out.length : Int) - 1 by omega)]
  exact qK.bind hv (qK.const _)
 | succ m ih =>
  intro i hi
  refine qK.step (fun k => by rw [zV.l2]) ?_
  have g0 := hd.getD i
  have g1 := hd.getD (i + 1)
  have w1 : wrap64 ((i : Int) + 1) = ((i + 1 : Nat) : Int) := by rw [w64] <;> omega
  have u2 : (out.getD i 0).tdiv 1000000 = 0 := by
   rw [Int.tdiv_eq_ediv_of_nonneg g0.1]
   omega
  have u3 : (out.getD i 0).tmod 1000000 = out.getD i 0 := by
   rw [Int.tmod_eq_emod_of_nonneg g0.1]
   omega
  have u4 : wrap64 0 = 0 := w64 (by omega) (by omega)
  have u5 : wrap64 (out.getD (i + 1) 0 + 0) = out.getD (i + 1) 0 := by rw [w64] <;> omega
  simp only [w1, zWq, Option.bind_some, Int.toNat_natCast]
  simp only [if_pos (show (i : Int) < (out.length : Int) - 1 by omega), if_pos (show (0 : Int) ≤ (i : Int) by omega), if_pos (show (i : Int) < (out.length : Int) by omega), if_pos (show (0 : Int) ≤ ((i + 1 : Nat) : Int) by omega), if_pos (show ((i + 1 : Nat) : Int) < (out.length : Int) by omega)]
  rw [u2, u4, u5, qZy _ _ (by omega), u3, qZy _ _ (by omega)]
  exact ih (i + 1) (by omega)
theorem zKx : ∀ n : Nat, vl (List.replicate n 0) = 0
 | 0 => rfl
 | n + 1 => by
  rw [List.replicate_succ]
  show 0 + 1000000 * vl (List.replicate n 0) = 0
  rw [zKx n]
  rfl
theorem yQ (n q : Nat) : (List.replicate n (0 : Int)).getD q 0 = 0 := by
 rw [List.getD_eq_getElem?_getD, List.getElem?_replicate]
 split <;> rfl
theorem zEx (a b : Int) : (if (a * b).natAbs = 0 then false else !(decide (a < 0) == decide (b < 0))) = decide (a * b < 0) := by
 rcases Int.lt_trichotomy a 0 with ha | ha | ha
 ·rcases Int.lt_trichotomy b 0 with hb | hb | hb
  ·have := Int.mul_pos_of_neg_of_neg ha hb
   have h1 : ¬ a * b < 0 := by omega
   have h2 : ¬ (a * b).natAbs = 0 := by omega
   simp [ha, hb, h1, h2]
  ·subst hb
   simp
  ·have := Int.mul_neg_of_neg_of_pos ha hb
   have h2 : ¬ (a * b).natAbs = 0 := by omega
   have h3 : ¬ b < 0 := by omega
   simp [ha, this, h2, h3]
 ·subst ha
  simp
 ·rcases Int.lt_trichotomy b 0 with hb | hb | hb
  ·have := Int.mul_neg_of_pos_of_neg ha hb
   have h2 : ¬ (a * b).natAbs = 0 := by omega
   have h3 : ¬ a < 0 := by omega
   simp [hb, this, h2, h3]
  ·subst hb
   simp
  ·have := Int.mul_pos ha hb
   have h1 : ¬ a * b < 0 := by omega
   have h2 : ¬ (a * b).natAbs = 0 := by omega
   have h3 : ¬ a < 0 := by omega
   have h4 : ¬ b < 0 := by omega
   simp [h1, h3, h4]
theorem zDc {a b : Int} (ha : Lo a) (hb : Lo b) : qK (fun k => zV.f k (enc a).1 (enc a).2 (enc b).1 (enc b).2) (enc (a * b)) := by
 unfold Lo at ha hb
 unfold zV.f enc
 dsimp only
 obtain ⟨n, hn⟩ : ∃ n : Nat, n = (dgs a.natAbs).length + (dgs b.natAbs).length + 1 := ⟨_, rfl⟩
 have w1 : wrap64 (((dgs a.natAbs).length : Int) + ((dgs b.natAbs).length : Int)) = ((dgs a.natAbs).length : Int) + ((dgs b.natAbs).length : Int) := w64 (by omega) (by omega)
 have w2 : wrap64 (((dgs a.natAbs).length : Int) + ((dgs b.natAbs).length : Int) + 1) = (n : Int) := by rw [w64] <;> omega
 simp only [w1, w2, Int.toNat_natCast, if_pos (show (0 : Int) ≤ (n : Int) by omega), if_pos (show n ≤ 35184372088832 by omega)]
 have hI : RowI n 0 0 (dgs b.natAbs).length (List.replicate n 0) := by
  exact ⟨by simp, fun q => by rw [yQ]; omega, fun q _ => by rw [yQ]; omega, by rw [yQ]; omega, fun q _ _ => yQ _ _, fun _ => by rw [yQ]; omega⟩
 obtain ⟨out, hd, hl, hv, ht⟩ := zDb (dgs a.natAbs) (dgs b.natAbs) (yP _) (yP _) (decide (b < 0)) (!(decide (a < 0) == decide (b < 0))) n hn (by omega) (dgs a.natAbs).length 0 (List.replicate n 0) (by omega) hI (by intro q; rw [yQ]; omega)
 refine ht ?_
 rw [zKx, List.drop_zero, zQl, zQl] at hv
 have hm : vl out = ((a * b).natAbs : Int) := by
  rw [hv, Int.natAbs_mul]
  simp
 have hr := qZc (neg := !(decide (a < 0) == decide (b < 0))) (by omega) hd hm
 rw [zEx] at hr
 have := zDx (!(decide (a < 0) == decide (b < 0))) out hd (by omega) hr (n - 1) 0 (by omega)
 rw [hl] at this
 exact this
theorem pow10_lt (j : Nat) (h : j ≤ 180) : (10 : Nat) ^ j < 1000000 ^ 31 := by
 have h1 : (10 : Nat) ^ j ≤ 10 ^ 180 := Nat.pow_le_pow_right (by omega) h
 have h2 : (1000000 : Nat) ^ 31 = 10 ^ 186 := by
  rw [show (1000000 : Nat) = 10 ^ 6 from rfl, ← Nat.pow_mul]
 rw [h2]
 have h3 : (10 : Nat) ^ 186 = 10 ^ 180 * 10 ^ 6 := by rw [← Nat.pow_add]
 have h4 : 0 < (10 : Nat) ^ 180 := Nat.pow_pos (by omega)
 rw [h3]
 omega
theorem qJy {j : Nat} (h : j ≤ 180) : Lo ((10 : Int) ^ j) := by
 unfold Lo
 have e : ((10 : Int) ^ j).natAbs = 10 ^ j := by
  rw [Int.natAbs_pow]
  rfl
 rw [e]
 have := zZb 31 _ (pow10_lt j h)
 omega
theorem qJx {n : Int} (h0 : -9223372036854775808 ≤ n) (h1 : n ≤ 9223372036854775807) : Lo n := by
 unfold Lo
 have := zZb 4 n.natAbs (by
  have : (1000000 : Nat) ^ 4 = 1000000000000000000000000 := by rfl
  omega)
 omega
theorem qJf (n : Nat) (hn : n ≤ 180) : ∀ (m i : Nat), m + i = n → qK (fun k => qx.l0 k (n : Int) (i : Int) (enc ((10 : Int) ^ i)).1 (enc ((10 : Int) ^ i)).2) (enc ((10 : Int) ^ n)) := by
 intro m
 induction m with
 | zero =>
  intro i hi
  have : i = n := by omega
  subst this
  refine qK.step (fun k => by rw [qx.l0]) ?_
  simp only [if_neg (show ¬ (i : Int) < (i : Int) by omega)]
  exact qK.const _
 | succ m ih =>
  intro i hi
  refine qK.step (fun k => by rw [qx.l0]) ?_
  simp only [if_pos (show (i : Int) < (n : Int) by omega)]
  refine qK.bind (r_Of (n := 10) (by omega) (by omega)) ?_
  refine qK.bind (zDc (qJy (j := i) (by omega)) (qJx (n := 10) (by omega) (by omega))) ?_
  rw [show wrap64 ((i : Int) + 1) = ((i + 1 : Nat) : Int) by rw [w64] <;> omega]
  have := ih (i + 1) (by omega)
  rw [Int.pow_succ] at this
  exact this
theorem r_Power {n : Nat} (hn : n ≤ 180) : qK (fun k => qx.f k (n : Int)) (enc ((10 : Int) ^ n)) := by
 unfold qx.f
 refine qK.bind (r_Of (n := 1) (by omega) (by omega)) ?_
 exact qJf n hn n 0 (by omega)
theorem r_At {u pl p : Int} (hu0 : -9223372036854775808 ≤ u) (hu1 : u ≤ 9223372036854775807) (h0 : pl ≤ p) (h1 : p - pl ≤ 180) : qK (fun k => qE.f k u pl p) (enc (u * 10 ^ (p - pl).toNat)) := by
 unfold qE.f
 refine qK.bind (r_Of hu0 hu1) ?_
 rw [show wrap64 (p - pl) = (((p - pl).toNat : Nat) : Int) by rw [w64] <;> omega]
 refine qK.bind (r_Power (by omega)) ?_
 exact qK.bind (zDc (qJx hu0 hu1) (qJy (by omega))) (qK.const _)
theorem qK.all {α : Type} {F : Nat → Nat → Option α} {v : Nat → α} : ∀ n : Nat, (∀ i, i < n → qK (F i) (v i)) → ∃ k0, ∀ k, k0 ≤ k → ∀ i, i < n → F i k = some (v i)
 | 0, _ => ⟨0, fun _ _ i hi => absurd hi (Nat.not_lt_zero i)⟩
 | n + 1, h => by
  obtain ⟨k0, h0⟩ := qK.all n fun i hi => h i (by omega)
  obtain ⟨k1, h1⟩ := h n (by omega)
  refine ⟨max k0 k1, fun k hk i hi => ?_⟩
  by_cases e : i = n
  ·subst e
   exact h1 k (by omega)
  ·exact h0 k (by omega) i (by omega)
theorem kF {n : Nat} (h : n ≤ 9) : (1 : Int) ≤ 10 ^ n ∧ (10 : Int) ^ n ≤ 1000000000 := by
 match n, h with
 | 0, _ | 1, _ | 2, _ | 3, _ | 4, _ | 5, _ | 6, _ | 7, _ | 8, _ | 9, _ => decide
theorem Lo_big {n : Int} (h : n.natAbs ≤ 1000000000000000000000000000000) : Lo n := by
 unfold Lo
 have := zZb 6 n.natAbs (by
  have : (1000000 : Nat) ^ 6 = 1000000000000000000000000000000000000 := by rfl
  omega)
 omega
theorem pw (e : Nat) (he : e ≤ 9) (k : Nat) (hk : 11 ≤ k) : jD.f k (e : Int) = some (10 ^ e) := by
 obtain ⟨j, rfl⟩ : ∃ j, k = j + 11 := ⟨k - 11, by omega⟩
 match e, he with
 | 0, _ | 1, _ | 2, _ | 3, _ | 4, _ | 5, _ | 6, _ | 7, _ | 8, _ | 9, _ => simp [jD.f, jD.l0, wrap64]
def zXx (u p : Int) : Prop := 0 < u ∧ u ≤ 10000000000000 ∧ 0 ≤ p ∧ p ≤ 4 ∧ u * 10 ^ (4 - p).toNat ≤ 10000000000000
theorem pw4 {p : Int} (h0 : 0 ≤ p) (h4 : p ≤ 4) (k : Nat) (hk : 11 ≤ k) : jD.f k (wrap64 (4 - p)) = some (10 ^ (4 - p).toNat) := by
 rw [w64 (by omega) (by omega), show (4 - p : Int) = (((4 - p).toNat : Nat) : Int) by omega, pw _ (by omega) k hk, Int.toNat_natCast]
def gmB (u p : Int) : Bool := decide (0 < u) && decide (0 ≤ p) && decide (p ≤ 4) && decide (u ≤ 1000000000 * 10 ^ p.toNat)
theorem p5 {p : Int} (h0 : 0 ≤ p) (h4 : p ≤ 4) : p = 0 ∨ p = 1 ∨ p = 2 ∨ p = 3 ∨ p = 4 := by omega
theorem zEv {u p : Int} : gmB u p = true ↔ 0 < u ∧ 0 ≤ p ∧ p ≤ 4 ∧ u ≤ 1000000000 * 10 ^ p.toNat := by
 unfold gmB
 simp only [Bool.and_eq_true, decide_eq_true_eq, and_assoc]
theorem qXd {u p : Int} (h : gmB u p = true) : zXx u p := by
 obtain ⟨h0, h1, h2, h3⟩ := zEv.1 h
 refine ⟨h0, ?_, h1, h2, ?_⟩ <;> rcases p5 h1 h2 with rfl | rfl | rfl | rfl | rfl <;> simp at h3 ⊢ <;> omega
theorem qZg (u p : Int) (k : Nat) (hk : 11 ≤ k) : qW.f k u p = some (mfB (gmB u p)) := by
 unfold qW.f jB.f
 simp only [uW, Option.bind_some]
 have bad : ∀ (h : ¬ (0 < u ∧ 0 ≤ p ∧ p ≤ 4 ∧ u ≤ 1000000000 * 10 ^ p.toNat)), mfB (gmB u p) = 1 := fun h => by
  rw [show gmB u p = false from Bool.eq_false_iff.2 fun e => h (zEv.1 e)]
  rfl
 have big : 0 ≤ p → p ≤ 4 → (10 : Int) ^ p.toNat ≤ 10000 ∧ 1 ≤ (10 : Int) ^ p.toNat := fun h1 h2 => by
  rcases p5 h1 h2 with rfl | rfl | rfl | rfl | rfl <;> decide
 by_cases h1 : (decide (u < -1000000000000000) || decide (u > 1000000000000000)) = true
 ·rw [bad fun h => by
   have := big h.2.1 h.2.2.1
   simp only [Bool.or_eq_true, decide_eq_true_eq] at h1
   omega]
  simp [h1]
 by_cases h2 : (decide (p < 0) || decide (p > 9)) = true
 ·rw [bad fun h => by
   simp only [Bool.or_eq_true, decide_eq_true_eq] at h2
   omega]
  simp [h1, h2]
 by_cases h3 : u ≤ 0
 ·rw [bad fun h => by omega]
  simp [h1, h2, h3]
 by_cases h4 : p > 4
 ·rw [bad fun h => by omega]
  simp [h1, h2, h3, h4]
 have q1 : -1000000000000000 ≤ u ∧ u ≤ 1000000000000000 := by
  simp only [Bool.or_eq_true, decide_eq_true_eq, not_or, Int.not_lt] at h1
  omega
 have q2 : 0 ≤ p ∧ p ≤ 9 := by
  simp only [Bool.or_eq_true, decide_eq_true_eq, not_or, Int.not_lt] at h2
  omega
 have hp : jD.f k p = some (10 ^ p.toNat) := by
  have := pw p.toNat (by omega) k hk
  rw [show ((p.toNat : Nat) : Int) = p by omega] at this
  exact this
 obtain ⟨b1, b0⟩ := big q2.1 (by omega)
 have hw1 : wrap64 (1000000000 * 10 ^ p.toNat) = 1000000000 * 10 ^ p.toNat := w64 (by omega) (by omega)
 have hw2 : wrap64 (-(1000000000 * 10 ^ p.toNat)) = -(1000000000 * 10 ^ p.toNat) := w64 (by omega) (by omega)
 by_cases h5 : u ≤ 1000000000 * 10 ^ p.toNat
 ·have e1 : (decide (u < -(1000000000 * 10 ^ p.toNat)) || decide (u > 1000000000 * 10 ^ p.toNat)) = false := by
   rw [decide_eq_false (by omega), decide_eq_false (by omega)]
   rfl
  rw [zEv.2 ⟨by omega, q2.1, by omega, h5⟩]
  simp only [if_neg h1, if_neg h2, if_neg h3, if_neg h4, Option.bind_some, if_true, vR.f, hp, hw1, hw2, uW, e1]
  rfl
 ·have e1 : (decide (u < -(1000000000 * 10 ^ p.toNat)) || decide (u > 1000000000 * 10 ^ p.toNat)) = true := by
   rw [decide_eq_true (show u > 1000000000 * 10 ^ p.toNat by omega), Bool.or_true]
  rw [bad fun h => h5 h.2.2.2]
  simp only [if_neg h1, if_neg h2, if_neg h3, if_neg h4, Option.bind_some, if_true, vR.f, hp, hw1, hw2, uW, e1]
  rfl
theorem r_cmp {u p a : Int} (hu : -1000000000000000 ≤ u ∧ u ≤ 1000000000000000) (hp : 0 ≤ p ∧ p ≤ 4) (ha : 0 ≤ a ∧ a ≤ 1000000000) : qK (fun k => jQ.f k u p a 0) (u * 10 ^ (9 - p).toNat - a * 1000000000).sign := by
 unfold jQ.f
 obtain ⟨b0, b1⟩ := kF (n := (9 - p).toNat) (by omega)
 refine qK.bind (r_At (by omega) (by omega) (by omega) (by omega)) (qK.bind (r_At (pl := 0) (p := 9) (by omega) (by omega) (by omega) (by omega)) (qK.bind (r_Cmp (a := u * 10 ^ (9 - p).toNat) (b := a * 10 ^ (9 - 0 : Int).toNat) ?_ ?_) ?_))
 ·refine Lo_big ?_
  rw [Int.natAbs_mul]
  exact Nat.le_trans (Nat.mul_le_mul (show u.natAbs ≤ 1000000000000000 by omega) (show ((10 : Int) ^ (9 - p).toNat).natAbs ≤ 1000000000 by omega)) (by decide)
 ·refine Lo_big ?_
  show (a * 1000000000).natAbs ≤ _
  omega
 ·exact qK.const _
theorem zDw (u p : Int) : qK (fun k => zP.f k u p) (gmB u p) := by
 have hbad : ∀ (h : ¬ (0 < u ∧ 0 ≤ p ∧ p ≤ 4 ∧ u ≤ 1000000000 * 10 ^ p.toNat)), gmB u p = false := fun h => Bool.eq_false_iff.2 fun e => h (zEv.1 e)
 unfold zP.f jP.f qP.f qy.f
 by_cases h1 : -1000000000000000 ≤ u ∧ u ≤ 1000000000000000
 ·by_cases h2 : 0 ≤ p ∧ p ≤ 9
  ·by_cases h3 : p ≤ 4
   ·have e1 : decide (u ≤ 1000000000000000) = true := decide_eq_true h1.2
    have e2 : decide (p ≤ 9) = true := decide_eq_true h2.2
    simp only [if_pos h1.1, if_pos h2.1, e1, e2, if_pos h3, Option.bind_some, if_true]
    have c0 := r_cmp (a := 0) h1 ⟨h2.1, h3⟩ (by omega)
    have c1 := r_cmp (a := 1000000000) h1 ⟨h2.1, h3⟩ (by omega)
    have hpos : (0 : Int) < 10 ^ (9 - p).toNat := by have := (kF (n := (9 - p).toNat) (by omega)).1; omega
    by_cases h4 : 0 ≤ u
    ·have s0 : (u * 10 ^ (9 - p).toNat - 0 * 1000000000).sign ≥ 0 := by
      have := Int.mul_nonneg h4 (Int.le_of_lt hpos)
      rw [Int.zero_mul, Int.sub_zero]
      exact Int.sign_nonneg_iff.2 this
     have hin : qK (fun k => (jQ.f k u p 0 0).bind fun t452 => if t452 ≥ 0 then (jQ.f k u p 1000000000 0).bind fun t453 => some (decide (t453 ≤ 0)) else some false) (decide (u ≤ 1000000000 * 10 ^ p.toNat)) := by
      refine qK.bind c0 ?_
      simp only [if_pos s0]
      refine qK.bind c1 ?_
      have e : ((u * 10 ^ (9 - p).toNat - 1000000000 * 1000000000).sign ≤ 0) ↔ u ≤ 1000000000 * 10 ^ p.toNat := by
       rw [Int.sign_nonpos_iff]
       rcases p5 h2.1 h3 with rfl | rfl | rfl | rfl | rfl <;> simp <;> omega
      rw [show decide (u ≤ 1000000000 * 10 ^ p.toNat) = decide ((u * 10 ^ (9 - p).toNat - 1000000000 * 1000000000).sign ≤ 0) from decide_eq_decide.2 e.symm]
      exact qK.const _
     by_cases h5 : u ≤ 1000000000 * 10 ^ p.toNat
     ·rw [decide_eq_true h5] at hin
      refine qK.bind hin ?_
      simp only [if_true]
      by_cases h6 : u > 0
      ·rw [zEv.2 ⟨h6, h2.1, h3, h5⟩, decide_eq_true h6]
       exact qK.const _
      ·rw [hbad (by omega), decide_eq_false h6]
       exact qK.const _
     ·rw [decide_eq_false h5] at hin
      refine qK.bind hin ?_
      simp only [Bool.false_eq_true, if_false]
      rw [hbad (by omega)]
      exact qK.const _
    ·have s0 : ¬ (u * 10 ^ (9 - p).toNat - 0 * 1000000000).sign ≥ 0 := by
      have := Int.mul_neg_of_neg_of_pos (show u < 0 by omega) hpos
      rw [Int.zero_mul, Int.sub_zero, Int.sign_eq_neg_one_of_neg this]
      decide
     rw [hbad (by omega)]
     refine qK.bind (a := false) (qK.bind c0 ?_) ?_
     ·simp only [if_neg s0]
      exact qK.const _
     ·simp only [Bool.false_eq_true, if_false]
      exact qK.const _
   ·have e1 : decide (u ≤ 1000000000000000) = true := decide_eq_true h1.2
    have e2 : decide (p ≤ 9) = true := decide_eq_true h2.2
    simp only [if_pos h1.1, if_pos h2.1, e1, e2, if_neg h3, Option.bind_some, if_true, Bool.false_eq_true, if_false]
    rw [hbad (by omega)]
    exact qK.const _
  ·rw [hbad (by omega)]
   refine qK.of fun k => ?_
   have e1 : decide (u ≤ 1000000000000000) = true := decide_eq_true h1.2
   by_cases h3 : 0 ≤ p
   ·have e2 : decide (p ≤ 9) = false := decide_eq_false (by omega)
    simp [h1.1, e1, h3, e2]
   ·simp [h1.1, e1, h3]
 ·have hbb : gmB u p = false := hbad fun h => by
   have : (10 : Int) ^ p.toNat ≤ 10000 := by rcases p5 h.2.1 h.2.2.1 with rfl | rfl | rfl | rfl | rfl <;> decide
   omega
  rw [hbb]
  refine qK.of fun k => ?_
  by_cases h3 : -1000000000000000 ≤ u
  ·have e2 : decide (u ≤ 1000000000000000) = false := decide_eq_false (by omega)
   simp [h3, e2]
  ·simp [h3]
theorem fine_l0 : ∀ (m k : Nat) (x n i : Int), 0 ≤ x → x * 10 ^ m ≤ 9000000000000000000 → i + m = n → 0 ≤ i → n ≤ 10 → m < k → zC.l0 k x n i = some (x * 10 ^ m) := by
 intro m
 induction m with
 | zero =>
  intro k x n i _ _ h3 _ _ hk
  obtain ⟨k, rfl⟩ : ∃ j, k = j + 1 := ⟨k - 1, by omega⟩
  rw [zC.l0, if_neg (by omega)]
  simp
 | succ m ih =>
  intro k x n i h1 h2 h3 h4 h5 hk
  obtain ⟨k, rfl⟩ : ∃ j, k = j + 1 := ⟨k - 1, by omega⟩
  have e : x * 10 ^ (m + 1) = x * 10 * 10 ^ m := by rw [Int.pow_succ, Int.mul_comm (10 ^ m) 10, Int.mul_assoc]
  have hle : x * 10 ≤ x * 10 * 10 ^ m := by
   have : (0 : Int) < 10 ^ m := Int.pow_pos (by decide)
   have := Int.mul_le_mul_of_nonneg_left (show (1 : Int) ≤ 10 ^ m by omega) (show 0 ≤ x * 10 by omega)
   omega
  rw [e] at h2 ⊢
  rw [zC.l0, if_pos (by omega), w64 (n := x * 10) (by omega) (by omega), w64 (n := i + 1) (by omega) (by omega)]
  exact ih k (x * 10) n (i + 1) (by omega) h2 (by omega) (by omega) h5 (by omega)
theorem zBm {u p : Int} (h0 : 0 ≤ u) (h1 : 0 ≤ p) (h2 : p ≤ 4) (h3 : u * 10 ^ (4 - p).toNat ≤ 10000000000000) (k : Nat) (hk : 11 ≤ k) : zC.f k u p = some (u * 10 ^ (4 - p).toNat) := by
 unfold zC.f
 rw [w64 (n := 4 - p) (by omega) (by omega)]
 exact fine_l0 (4 - p).toNat k u (4 - p) 0 h0 (by omega) (by omega) (by omega) (by omega) (by omega)
def fnV (d : SDe) : Int := Int.tdiv (d.f2.f0 * d.f5) 1000 * 10 ^ (4 - d.f2.f1).toNat
theorem finen_eq {d : SDe} (h : zXx d.f2.f0 d.f2.f1) (h0 : 0 ≤ d.f5) (h1 : d.f5 ≤ 1000) (k : Nat) (hk : 11 ≤ k) : zC.f k (wrap64 (Int.tdiv (wrap64 (d.f2.f0 * d.f5)) 1000)) d.f2.f1 = some (fnV d) := by
 obtain ⟨g0, g1, g2, g3, g4⟩ := h
 have hq := (kF (n := (4 - d.f2.f1).toNat) (by omega)).1
 have hm : 0 ≤ d.f2.f0 * d.f5 := Int.mul_nonneg (by omega) h0
 have hm2 : d.f2.f0 * d.f5 ≤ d.f2.f0 * 1000 := Int.mul_le_mul_of_nonneg_left h1 (by omega)
 have hd : Int.tdiv (d.f2.f0 * d.f5) 1000 = d.f2.f0 * d.f5 / 1000 := Int.tdiv_eq_ediv_of_nonneg hm
 have hd2 : 0 ≤ d.f2.f0 * d.f5 / 1000 ∧ d.f2.f0 * d.f5 / 1000 ≤ d.f2.f0 := by omega
 have hd4 : d.f2.f0 * d.f5 / 1000 * 10 ^ (4 - d.f2.f1).toNat ≤ d.f2.f0 * 10 ^ (4 - d.f2.f1).toNat := Int.mul_le_mul_of_nonneg_right hd2.2 (by omega)
 unfold fnV
 rw [w64 (n := d.f2.f0 * d.f5) (by omega) (by omega), hd, w64 (n := d.f2.f0 * d.f5 / 1000) (by omega) (by omega)]
 exact zBm hd2.1 g2 g3 (by omega) k hk
theorem zQf {u p : Int} (h : zXx u p) (k : Nat) (hk : 11 ≤ k) : xD.f k u p = some (u * 10 ^ (4 - p).toNat) := by
 obtain ⟨h0, h1, h2, h3, h4⟩ := h
 have hq := (kF (n := (4 - p).toNat) (by omega)).1
 have hnn : 0 ≤ u * 10 ^ (4 - p).toNat := Int.mul_nonneg (by omega) (by omega)
 unfold xD.f
 rw [pw4 h2 h3 k hk]
 show some (wrap64 _) = _
 rw [w64 (by omega) (by omega)]
def dscV (d : SDe) (o : Int) : Int := mn (Int.tdiv (d.f2.f0 * d.f5) 1000 * 10 ^ (4 - d.f2.f1).toNat) o
theorem zZy {d : SDe} (h : zXx d.f2.f0 d.f2.f1) (h0 : 0 ≤ d.f5) (h1 : d.f5 ≤ 1000) (k : Nat) (hk : 11 ≤ k) (o pa t dn : Int) :
  jX.f k d.f0 d.f1 d.f2.f0 d.f2.f1 d.f3 d.f4 d.f5 o pa t dn = some (dscV d o, d.f0, d.f1, d.f2.f0, d.f2.f1, d.f3, d.f4, d.f5, o, pa, t, dn) := by
 obtain ⟨g0, g1, g2, g3, g4⟩ := h
 have hq := (kF (n := (4 - d.f2.f1).toNat) (by omega)).1
 have hm : 0 ≤ d.f2.f0 * d.f5 := Int.mul_nonneg (by omega) h0
 have hm2 : d.f2.f0 * d.f5 ≤ d.f2.f0 * 1000 := Int.mul_le_mul_of_nonneg_left h1 (by omega)
 have hd : Int.tdiv (d.f2.f0 * d.f5) 1000 = d.f2.f0 * d.f5 / 1000 := Int.tdiv_eq_ediv_of_nonneg hm
 have hd2 : 0 ≤ d.f2.f0 * d.f5 / 1000 ∧ d.f2.f0 * d.f5 / 1000 ≤ d.f2.f0 := by omega
 have hd3 : 0 ≤ d.f2.f0 * d.f5 / 1000 * 10 ^ (4 - d.f2.f1).toNat := Int.mul_nonneg hd2.1 (by omega)
 have hd4 : d.f2.f0 * d.f5 / 1000 * 10 ^ (4 - d.f2.f1).toNat ≤ d.f2.f0 * 10 ^ (4 - d.f2.f1).toNat := Int.mul_le_mul_of_nonneg_right hd2.2 (by omega)
 unfold jX.f dscV
 rw [pw4 g2 g3 k hk]
 simp only [Option.bind_some]
 rw [w64 (n := d.f2.f0 * d.f5) (by omega) (by omega), hd, w64 (n := d.f2.f0 * d.f5 / 1000) (by omega) (by omega), w64 (by omega) (by omega)]
theorem dscV_le {d : SDe} (h : zXx d.f2.f0 d.f2.f1) (h0 : 0 ≤ d.f5) (o : Int) (ho : 0 ≤ o) : 0 ≤ dscV d o ∧ dscV d o ≤ o := by
 obtain ⟨g0, g1, g2, g3, g4⟩ := h
 have hq := (kF (n := (4 - d.f2.f1).toNat) (by omega)).1
 have hm : 0 ≤ d.f2.f0 * d.f5 := Int.mul_nonneg (by omega) h0
 have hd : Int.tdiv (d.f2.f0 * d.f5) 1000 = d.f2.f0 * d.f5 / 1000 := Int.tdiv_eq_ediv_of_nonneg hm
 have hd3 : 0 ≤ d.f2.f0 * d.f5 / 1000 * 10 ^ (4 - d.f2.f1).toNat := Int.mul_nonneg (by omega) (by omega)
 unfold dscV mn
 rw [hd]
 split <;> omega
def okB (x : Int) : Bool := (decide (97 ≤ x) && decide (x ≤ 122)) || (decide (48 ≤ x) && decide (x ≤ 57)) || (x == 45)
def allB (s : ByteArray) : Nat → Nat → Bool
 | 0, _ => true
 | m + 1, i => okB (bt s (i : Int)) && allB s m (i + 1)
def zKe (s : ByteArray) : Bool := decide (1 ≤ s.size) && decide (s.size ≤ 40) && decide (97 ≤ bt s 0) && decide (bt s 0 ≤ 122) && allB s s.size 0
theorem qQv (s : ByteArray) (hs : s.size ≤ 9223372036854775807) : ∀ (m i : Nat), m + i = s.size → qK (fun k => zG.l0 k s (s.size : Int) (i : Int)) (allB s m i) := by
 intro m
 induction m with
 | zero =>
  intro i hi
  refine qK.step (fun k => by rw [zG.l0]) ?_
  simp only [if_neg (show ¬ (i : Int) < (s.size : Int) by omega)]
  exact qK.const _
 | succ m ih =>
  intro i hi
  have hn := ih (i + 1) (by omega)
  have w1 : wrap64 ((i : Int) + 1) = ((i + 1 : Nat) : Int) := by rw [w64] <;> omega
  refine qK.step (fun k => by rw [zG.l0]) ?_
  simp only [if_pos (show (i : Int) < (s.size : Int) by omega), if_pos (show (0 : Int) ≤ (i : Int) by omega), w1]
  unfold allB
  obtain ⟨b, hb⟩ : ∃ b, bt s (i : Int) = b := ⟨_, rfl⟩
  rw [hb]
  by_cases h1 : b < 97
  ·simp only [if_pos h1]
   by_cases h2 : b < 48
   ·simp only [if_pos h2]
    by_cases h3 : b = 45
    ·have e : okB b = true := by subst h3; rfl
     simp only [if_pos h3, e, Bool.true_and]
     exact hn
    ·have e : okB b = false := by
      unfold okB
      simp only [Bool.or_eq_false_iff, Bool.and_eq_false_iff, decide_eq_false_iff_not, beq_eq_false_iff_ne]
      omega
     simp only [if_neg h3, e, Bool.false_and]
     exact qK.const _
   ·simp only [if_neg h2]
    by_cases h3 : b > 57
    ·simp only [if_pos h3]
     have h4 : ¬ b = 45 := by omega
     have e : okB b = false := by
      unfold okB
      simp only [Bool.or_eq_false_iff, Bool.and_eq_false_iff, decide_eq_false_iff_not, beq_eq_false_iff_ne]
      omega
     simp only [if_neg h4, e, Bool.false_and]
     exact qK.const _
    ·have e : okB b = true := by
      unfold okB
      simp only [Bool.or_eq_true, Bool.and_eq_true, decide_eq_true_eq, beq_iff_eq]
      omega
     simp only [if_neg h3, e, Bool.true_and]
     exact hn
  ·simp only [if_neg h1]
   by_cases h2 : b > 122
   ·have h4 : ¬ b < 48 := by omega
    have h5 : b > 57 := by omega
    have h6 : ¬ b = 45 := by omega
    have e : okB b = false := by
     unfold okB
     simp only [Bool.or_eq_false_iff, Bool.and_eq_false_iff, decide_eq_false_iff_not, beq_eq_false_iff_ne]
     omega
    simp only [if_pos h2, if_neg h4, if_pos h5, if_neg h6, e, Bool.false_and]
    exact qK.const _
   ·have e : okB b = true := by
     unfold okB
     simp only [Bool.or_eq_true, Bool.and_eq_true, decide_eq_true_eq, beq_iff_eq]
     omega
    simp only [if_neg h2, e, Bool.true_and]
    exact hn
theorem zYq (s : ByteArray) : s.toList = ([] : List UInt8) ↔ s.size = 0 := by
 rw [ByteArray.toList_eq]
 obtain ⟨⟨l⟩⟩ := s
 simp [ByteArray.size]
theorem qZf (s : ByteArray) : qK (fun k => zS.f k s) (zKe s) := by
 unfold zS.f
 refine qK.bind ?_ (qK.const _)
 unfold zG.f zKe
 have bad : qK (fun k => zG.j0 k s true) false := by
  refine qK.step (fun k => by rw [zG.j0]) ?_
  simp only [if_true]
  exact qK.const _
 by_cases h0 : s.size = 0
 ·simp only [if_pos ((zYq s).2 h0)]
  rw [show decide (1 ≤ s.size) = false from decide_eq_false (by omega)]
  simp only [Bool.false_and]
  exact bad
 ·simp only [if_neg (fun e => h0 ((zYq s).1 e))]
  by_cases h1 : (s.size : Int) > 40
  ·simp only [if_pos h1]
   rw [show decide (s.size ≤ 40) = false from decide_eq_false (by omega)]
   simp only [Bool.and_false, Bool.false_and]
   exact bad
  ·simp only [if_neg h1, if_pos (show 0 < (s.size : Int) by omega)]
   rw [show decide (1 ≤ s.size) = true from decide_eq_true (by omega), show decide (s.size ≤ 40) = true from decide_eq_true (by omega)]
   by_cases h2 : bt s 0 < 97
   ·simp only [if_pos h2]
    rw [show decide (97 ≤ bt s 0) = false from decide_eq_false (by omega)]
    simp only [Bool.and_false, Bool.false_and]
    exact bad
   ·simp only [if_neg h2]
    rw [show decide (97 ≤ bt s 0) = true from decide_eq_true (by omega)]
    by_cases h3 : bt s 0 > 122
    ·rw [show decide (bt s 0 ≤ 122) = false from decide_eq_false (by omega), decide_eq_true h3]
     simp only [Bool.and_false, Bool.false_and]
     exact bad
    ·rw [show decide (bt s 0 ≤ 122) = true from decide_eq_true (by omega), decide_eq_false h3]
     simp only [Bool.and_true, Bool.true_and]
     refine qK.step (fun k => by rw [zG.j0]) ?_
     simp only [Bool.false_eq_true, if_false]
     exact qQv s (by omega) s.size 0 (by omega)
theorem zWf {p : UInt8 → Bool} : ∀ l : List UInt8, l.dropWhile p = [] ∧ (∀ b ∈ l, p b = true) ∨ ∃ y ys, l.dropWhile p = y :: ys ∧ p y = false
 | [] => Or.inl ⟨rfl, fun b h => by cases h⟩
 | x :: l => by
  by_cases h : p x = true
  ·simp only [List.dropWhile_cons, h, if_true]
   rcases zWf (p := p) l with ⟨h1, h2⟩ | h1
   ·exact Or.inl ⟨h1, fun b hb => by
     rcases List.mem_cons.1 hb with rfl | hb
     ·exact h
     ·exact h2 b hb⟩
   ·exact Or.inr h1
  ·exact Or.inr ⟨x, l, by simp [h], by simpa using h⟩
theorem dw_all {p : UInt8 → Bool} : ∀ l : List UInt8, (∀ b ∈ l, p b = true) → l.dropWhile p = []
 | [], _ => rfl
 | x :: l, h => by
  rw [List.dropWhile_cons, h x (List.mem_cons_self ..)]
  simp only [if_true]
  exact dw_all l fun b hb => h b (List.mem_cons_of_mem _ hb)
theorem qKh (l cs : List UInt8) : Lib.trimS l cs = [] ↔ ∀ b ∈ l, cs.contains b = true := by
 unfold Lib.trimS Lib.trimLeftS Lib.trimRightS
 constructor
 ·intro h
  rcases zWf (p := (cs.contains ·)) l.reverse with ⟨_, h2⟩ | ⟨y, ys, h1, h2⟩
  ·intro b hb
   exact h2 b (List.mem_reverse.2 hb)
  ·exfalso
   rw [h1] at h
   rcases zWf (p := (cs.contains ·)) (y :: ys).reverse with ⟨_, h4⟩ | ⟨z, zs, h3, _⟩
   ·have := h4 y (by simp)
    rw [this] at h2
    cases h2
   ·rw [h3] at h
    cases h
 ·intro h
  rw [dw_all (p := (cs.contains ·)) l.reverse fun b hb => h b (List.mem_reverse.1 hb)]
  rfl
def zJg : ByteArray := ⟨#[97, 98, 99, 100, 101, 102, 103, 104, 105, 106, 107, 108, 109, 110, 111, 112, 113, 114, 115, 116, 117, 118, 119, 120, 121, 122, 48, 49, 50, 51, 52, 53, 54, 55, 56, 57, 45]⟩
theorem qQe : ∀ n : Fin 256, zJg.data.toList.contains (UInt8.ofNat n.1) = okB (n.1 : Int) := by decide +kernel
theorem qXg (b : UInt8) : zJg.data.toList.contains b = okB (b.toNat : Int) := by
 have := qQe ⟨b.toNat, b.toNat_lt⟩
 simpa using this
theorem bt_get (s : ByteArray) (i : Nat) (h : i < s.size) : bt s (i : Int) = ((s.data.toList[i]'(by simpa using h)).toNat : Int) := by
 unfold bt
 simp only [Int.toNat_natCast, h, dif_pos]
 rfl
theorem allB_iff (s : ByteArray) : ∀ (m i : Nat), m + i = s.size → (allB s m i = true ↔ ∀ b ∈ s.data.toList.drop i, okB (b.toNat : Int) = true) := by
 intro m
 induction m with
 | zero =>
  intro i hi
  have hl : s.size = s.data.toList.length := by rw [Array.length_toList]; rfl
  rw [List.drop_eq_nil_of_le (by omega)]
  simp [allB]
 | succ m ih =>
  intro i hi
  have hl : i < s.data.toList.length := by
   have : s.size = s.data.toList.length := by rw [Array.length_toList]; rfl
   omega
  rw [List.drop_eq_getElem_cons hl]
  unfold allB
  rw [Bool.and_eq_true, ih (i + 1) (by omega), bt_get s i (by omega)]
  simp only [List.mem_cons, forall_eq_or_imp]
theorem zWy (s : ByteArray) : jV.f s = some (zKe s) := by
 unfold jV.f zKe
 by_cases h0 : (s.size : Int) < 1
 ·simp only [if_pos h0]
  rw [show decide (1 ≤ s.size) = false from decide_eq_false (by omega)]
  simp only [Bool.false_and]
 ·simp only [if_neg h0]
  rw [show decide (1 ≤ s.size) = true from decide_eq_true (by omega)]
  by_cases h1 : (s.size : Int) > 40
  ·simp only [if_pos h1]
   rw [show decide (s.size ≤ 40) = false from decide_eq_false (by omega)]
   simp only [Bool.and_false, Bool.false_and]
  ·simp only [if_neg h1, if_pos (show 0 < (s.size : Int) by omega)]
   rw [show decide (s.size ≤ 40) = true from decide_eq_true (by omega)]
   by_cases h2 : bt s 0 < 97
   ·simp only [if_pos h2]
    rw [show decide (97 ≤ bt s 0) = false from decide_eq_false (by omega)]
    simp only [Bool.and_false, Bool.false_and]
   ·simp only [if_neg h2]
    rw [show decide (97 ≤ bt s 0) = true from decide_eq_true (by omega)]
    by_cases h3 : bt s 0 > 122
    ·simp only [if_pos h3]
     rw [show decide (bt s 0 ≤ 122) = false from decide_eq_false (by omega)]
     simp only [Bool.and_false, Bool.false_and]
    ·simp only [if_neg h3]
     rw [show decide (bt s 0 ≤ 122) = true from decide_eq_true (by omega)]
     simp only [Bool.and_true, Bool.true_and]
     show (yX.f s zJg).bind _ = _
     unfold yX.f
     rw [if_pos ⟨by omega, by decide +kernel, by decide +kernel⟩]
     simp only [Option.bind_some]
     congr 1
     rw [ByteArray.toList_eq]
     have e := allB_iff s s.size 0 (by omega)
     rw [List.drop_zero] at e
     have e2 := qKh s.data.toList zJg.data.toList
     by_cases h4 : allB s s.size 0 = true
     ·rw [h4]
      have : Lib.trimS s.data.toList zJg.data.toList = [] := e2.2 fun b hb => by
       rw [qXg]
       exact e.1 h4 b hb
      simp [this]
     ·have h5 : ¬ Lib.trimS s.data.toList zJg.data.toList = [] := fun q => h4 (e.2 fun b hb => by
       rw [← qXg]
       exact e2.1 q b hb)
      rw [show allB s s.size 0 = false by simpa using h4]
      simp [h5]
theorem zEq {s : ByteArray} (h : zKe s = true) : s.size ≤ 40 := by
 unfold zKe at h
 simp only [Bool.and_eq_true, decide_eq_true_eq] at h
 omega
theorem qXb (l : List ByteArray) (x : ByteArray) (hl : l.length ≤ 1000) : ∀ (m i : Nat), m + i = l.length → ∃ r : Int, qK (fun k => qY.l0 k l x (l.length : Int) (i : Int)) r := by
 intro m
 induction m with
 | zero =>
  intro i hi
  refine ⟨-1, ?_⟩
  refine qK.step (fun k => by rw [qY.l0]) ?_
  simp only [if_neg (show ¬ (i : Int) < (l.length : Int) by omega)]
  exact qK.const _
 | succ m ih =>
  intro i hi
  obtain ⟨r, hr⟩ := ih (i + 1) (by omega)
  have w1 : wrap64 ((i : Int) + 1) = ((i + 1 : Nat) : Int) := by rw [w64] <;> omega
  by_cases h : x.toList = (rdOf ByteArray.empty l i).toList
  ·refine ⟨i, ?_⟩
   refine qK.step (fun k => by rw [qY.l0]) ?_
   simp only [if_pos (show (i : Int) < (l.length : Int) by omega), if_pos (show (0 : Int) ≤ (i : Int) by omega), if_pos h]
   exact qK.const _
  ·refine ⟨r, ?_⟩
   refine qK.step (fun k => by rw [qY.l0]) ?_
   simp only [if_pos (show (i : Int) < (l.length : Int) by omega), if_pos (show (0 : Int) ≤ (i : Int) by omega), if_neg h, w1]
   exact hr
theorem cont_any (l : List ByteArray) (x : ByteArray) (hl : l.length ≤ 1000) : ∃ b : Bool, qK (fun k => zN.f k l x) b := by
 obtain ⟨r, hr⟩ := qXb l x hl l.length 0 (by omega)
 unfold zN.f qY.f
 exact ⟨_, qK.bind hr (qK.const _)⟩
def GoodP (p : SPa) : Prop := dayB p.f0 = true ∧ zXx p.f1.f0 p.f1.f1 ∧ p.f2.length ≤ 100 ∧ ∀ j : Nat, j < p.f2.length → (rdOf ByteArray.empty p.f2 j).size ≤ 40
theorem cp_l1 (l1 : List SPa) (i : Nat) (p : SPa) (hp : p.f2.length ≤ 100) (P : Prop) (hrest : ∃ e : Int, qK (fun k => zD.l0 k l1 l1 (l1.length : Int) (wrap64 ((i : Int) + 1))) e ∧ qK (fun k => zW.l0 k l1 l1 (l1.length : Int) (wrap64 ((i : Int) + 1))) e ∧ (e = 0 → P)) :
  ∀ (m q : Nat), m + q = p.f2.length → ∃ e : Int, qK (fun k => zD.l1 k l1 l1 (l1.length : Int) (i : Int) p.f2 (p.f2.length : Int) (q : Int) p.f0 p.f1.f0 p.f1.f1 p.f2) e ∧ qK (fun k => zW.l1 k l1 l1 (l1.length : Int) (i : Int) p.f2 (p.f2.length : Int) (q : Int) p.f0 p.f1.f0 p.f1.f1 p.f2) e ∧ (e = 0 → P ∧ ∀ j : Nat, q ≤ j → j < p.f2.length → (rdOf ByteArray.empty p.f2 j).size ≤ 40) := by
 intro m
 induction m with
 | zero =>
  intro q hq
  obtain ⟨e, he, he2, hP⟩ := hrest
  have hz : ¬ (q : Int) < (p.f2.length : Int) := by omega
  refine ⟨e, qK.step (fun k => by rw [zD.l1]) ?_, qK.step (fun k => by rw [zW.l1]) ?_, fun h => ⟨hP h, fun j h1 h2 => by omega⟩⟩
  ·simp only [if_neg hz]
   exact he
  ·simp only [if_neg hz]
   exact he2
 | succ m ih =>
  intro q hq
  obtain ⟨e, he, he2, hP⟩ := ih (q + 1) (by omega)
  have w1 : wrap64 ((q : Int) + 1) = ((q + 1 : Nat) : Int) := by rw [w64] <;> omega
  have z1 : (q : Int) < (p.f2.length : Int) := by omega
  have z2 : (0 : Int) ≤ (q : Int) := by omega
  have z3 : (q : Int) ≤ (p.f2.length : Int) := by omega
  have hk := zWy (rdOf ByteArray.empty p.f2 q)
  have hr := qZf (rdOf ByteArray.empty p.f2 q)
  have hs := @zEq (rdOf ByteArray.empty p.f2 q)
  generalize zKe (rdOf ByteArray.empty p.f2 q) = b at hk hr hs
  obtain ⟨c, hc⟩ := cont_any (p.f2.take q) (rdOf ByteArray.empty p.f2 q) (by rw [List.length_take]; omega)
  cases b with
  | false =>
   refine ⟨5, qK.step (fun k => by rw [zD.l1]) ?_, qK.step (fun k => by rw [zW.l1]) ?_, fun h => by cases h⟩
   ·simp only [if_pos z1, if_pos z2, hk, Option.bind_some]
    exact qK.const _
   ·simp only [if_pos z1, if_pos z2]
    exact qK.bind hr (qK.const _)
  | true =>
   cases c with
   | true =>
    refine ⟨7, qK.step (fun k => by rw [zD.l1]) ?_, qK.step (fun k => by rw [zW.l1]) ?_, fun h => by cases h⟩
    ·simp only [if_pos z1, if_pos z2, hk, Option.bind_some, if_true, if_pos z3, Int.toNat_natCast]
     exact qK.bind hc (qK.const _)
    ·simp only [if_pos z1, if_pos z2, if_pos z3, Int.toNat_natCast]
     exact qK.bind hr (qK.bind hc (qK.const _))
   | false =>
    refine ⟨e, qK.step (fun k => by rw [zD.l1]) ?_, qK.step (fun k => by rw [zW.l1]) ?_, fun h => ⟨(hP h).1, fun j h1 h2 => ?_⟩⟩
    ·simp only [if_pos z1, if_pos z2, hk, Option.bind_some, if_true, if_pos z3, Int.toNat_natCast, w1]
     exact qK.bind hc he
    ·simp only [if_pos z1, if_pos z2, if_pos z3, Int.toNat_natCast, w1]
     exact qK.bind hr (qK.bind hc he2)
    ·by_cases hj : j = q
     ·subst hj
      exact hs rfl
     ·exact (hP h).2 j (by omega) h2
def qYh (l1 : List SPa) (j : Nat) : Prop := GoodP (rdA l1 j) ∧ (0 < j → ¬ (rdA l1 j).f0 < (rdA l1 ((j - 1 : Nat) : Int)).f0)
theorem cp_l0 (l1 : List SPa) (hl : l1.length ≤ 500) : ∀ (m i : Nat), m + i = l1.length → ∃ e : Int, qK (fun k => zD.l0 k l1 l1 (l1.length : Int) (i : Int)) e ∧ qK (fun k => zW.l0 k l1 l1 (l1.length : Int) (i : Int)) e ∧ (e = 0 → ∀ j : Nat, i ≤ j → j < l1.length → qYh l1 j) := by
 intro m
 induction m with
 | zero =>
  intro i hi
  have hz : ¬ (i : Int) < (l1.length : Int) := by omega
  refine ⟨0, qK.step (fun k => by rw [zD.l0]) ?_, qK.step (fun k => by rw [zW.l0]) ?_, fun _ j h1 h2 => by omega⟩
  ·simp only [if_neg hz]
   exact qK.const _
  ·simp only [if_neg hz]
   exact qK.const _
 | succ m ih =>
  intro i hi
  obtain ⟨e, he, heR, hP⟩ := ih (i + 1) (by omega)
  have w1 : wrap64 ((i : Int) + 1) = ((i + 1 : Nat) : Int) := by rw [w64] <;> omega
  have z1 : (i : Int) < (l1.length : Int) := by omega
  have z2 : (0 : Int) ≤ (i : Int) := by omega
  have hj1 : ∀ x34 : Bool, ∃ e2 : Int, qK (fun k => zD.j1 k l1 l1 (l1.length : Int) (i : Int) x34 (rdA l1 i).f0 (rdA l1 i).f1.f0 (rdA l1 i).f1.f1 (rdA l1 i).f2) e2 ∧ qK (fun k => zW.j1 k l1 l1 (l1.length : Int) (i : Int) x34 (rdA l1 i).f0 (rdA l1 i).f1.f0 (rdA l1 i).f1.f1 (rdA l1 i).f2) e2 ∧
    (e2 = 0 → (x34 = false) ∧ (∀ j : Nat, i + 1 ≤ j → j < l1.length → qYh l1 j) ∧ zXx (rdA l1 i).f1.f0 (rdA l1 i).f1.f1 ∧ (rdA l1 i).f2.length ≤ 100 ∧ ∀ j : Nat, j < (rdA l1 i).f2.length → (rdOf ByteArray.empty (rdA l1 i).f2 j).size ≤ 40) := by
   intro x34
   cases x34 with
   | true =>
    refine ⟨8, qK.step (fun k => by rw [zD.j1]) ?_, qK.step (fun k => by rw [zW.j1]) ?_, fun h => by cases h⟩
    ·exact qK.const _
    ·exact qK.const _
   | false =>
    have hmt : qK (fun k => qW.f k (rdA l1 i).f1.f0 (rdA l1 i).f1.f1) (mfB (gmB (rdA l1 i).f1.f0 (rdA l1 i).f1.f1)) := ⟨11, fun k hk => qZg _ _ k hk⟩
    have hrt := zDw (rdA l1 i).f1.f0 (rdA l1 i).f1.f1
    have hgood := @qXd (rdA l1 i).f1.f0 (rdA l1 i).f1.f1
    generalize gmB (rdA l1 i).f1.f0 (rdA l1 i).f1.f1 = mb at hmt hrt hgood
    cases mb with
    | true =>
     replace hmt : qK (fun k => qW.f k (rdA l1 i).f1.f0 (rdA l1 i).f1.f1) 0 := hmt
     by_cases hbig : ((rdA l1 i).f2.length : Int) > 100
     ·refine ⟨2, qK.step (fun k => by rw [zD.j1]) ?_, qK.step (fun k => by rw [zW.j1]) ?_, fun h => by cases h⟩
      ·simp only [Bool.false_eq_true, if_false]
       refine qK.bind hmt ?_
       simp only [if_true, if_pos hbig]
       exact qK.const _
      ·simp only [Bool.false_eq_true, if_false]
       refine qK.bind hrt ?_
       simp only [if_true, if_pos hbig]
       exact qK.const _
     ·obtain ⟨e2, he2, he3, hP2⟩ := cp_l1 l1 i (rdA l1 i) (by omega) (∀ j : Nat, i + 1 ≤ j → j < l1.length → qYh l1 j) ⟨e, by rw [w1]; exact he, by rw [w1]; exact heR, hP⟩ (rdA l1 i).f2.length 0 (by omega)
      refine ⟨e2, qK.step (fun k => by rw [zD.j1]) ?_, qK.step (fun k => by rw [zW.j1]) ?_, fun h => ⟨rfl, (hP2 h).1, hgood rfl, by omega, fun j hj => (hP2 h).2 j (Nat.zero_le _) hj⟩⟩
      ·simp only [Bool.false_eq_true, if_false]
       refine qK.bind hmt ?_
       simp only [if_true, if_neg hbig]
       exact he2
      ·simp only [Bool.false_eq_true, if_false]
       refine qK.bind hrt ?_
       simp only [if_true, if_neg hbig]
       exact he3
    | false =>
     replace hmt : qK (fun k => qW.f k (rdA l1 i).f1.f0 (rdA l1 i).f1.f1) 1 := hmt
     refine ⟨1, qK.step (fun k => by rw [zD.j1]) ?_, qK.step (fun k => by rw [zW.j1]) ?_, fun h => by cases h⟩
     ·simp only [Bool.false_eq_true, if_false]
      refine qK.bind hmt ?_
      exact qK.const _
     ·simp only [Bool.false_eq_true, if_false]
      refine qK.bind hrt ?_
      exact qK.const _
  cases hd : dayB (rdA l1 i).f0 with
  | false =>
   refine ⟨1, qK.step (fun k => by rw [zD.l0]) ?_, qK.step (fun k => by rw [zW.l0]) ?_, fun h => by cases h⟩
   ·simp only [if_pos z1, if_pos z2, uN, hd, Option.bind_some]
    exact qK.const _
   ·simp only [if_pos z1, if_pos z2, uJ, hd, Option.bind_some]
    exact qK.const _
  | true =>
   by_cases hi0 : (i : Int) > 0
   ·have w2 : wrap64 ((i : Int) - 1) = (i : Int) - 1 := by rw [w64] <;> omega
    have z3 : (0 : Int) ≤ (i : Int) - 1 := by omega
    have z4 : (i : Int) - 1 < (l1.length : Int) := by omega
    obtain ⟨e2, he2, he3, hP2⟩ := hj1 (decide ((rdA l1 i).f0 < (rdA l1 ((i : Int) - 1)).f0))
    refine ⟨e2, qK.step (fun k => by rw [zD.l0]) ?_, qK.step (fun k => by rw [zW.l0]) ?_, fun h j h1 h2 => ?_⟩
    ·simp only [if_pos z1, if_pos z2, uN, hd, Option.bind_some, if_true, if_pos hi0, w2, if_pos z3, if_pos z4]
     exact he2
    ·simp only [if_pos z1, if_pos z2, uJ, hd, Option.bind_some, if_true, if_pos hi0, w2, if_pos z3, if_pos z4]
     exact he3
    ·by_cases hj : j = i
     ·subst hj
      refine ⟨⟨hd, (hP2 h).2.2⟩, fun _ => ?_⟩
      rw [show ((j - 1 : Nat) : Int) = (j : Int) - 1 by omega]
      exact of_decide_eq_false (hP2 h).1
     ·exact (hP2 h).2.1 j (by omega) h2
   ·obtain ⟨e2, he2, he3, hP2⟩ := hj1 false
    refine ⟨e2, qK.step (fun k => by rw [zD.l0]) ?_, qK.step (fun k => by rw [zW.l0]) ?_, fun h j h1 h2 => ?_⟩
    ·simp only [if_pos z1, if_pos z2, uN, hd, Option.bind_some, if_true, if_neg hi0]
     exact he2
    ·simp only [if_pos z1, if_pos z2, uJ, hd, Option.bind_some, if_true, if_neg hi0]
     exact he3
    ·by_cases hj : j = i
     ·subst hj
      exact ⟨⟨hd, (hP2 h).2.2⟩, fun h0 => absurd (by omega) hi0⟩
     ·exact (hP2 h).2.1 j (by omega) h2
theorem zBe (l1 : List SPa) : ∃ e : Int, qK (fun k => zD.f k l1) e ∧ qK (fun k => zW.f k l1) e ∧ (e = 0 → l1.length ≤ 500 ∧ ∀ j : Nat, j < l1.length → qYh l1 j) := by
 unfold zD.f zW.f
 by_cases h : (l1.length : Int) > 500
 ·exact ⟨2, by simp only [if_pos h]; exact qK.const _, by simp only [if_pos h]; exact qK.const _, fun h => by cases h⟩
 ·obtain ⟨e, he, he2, hP⟩ := cp_l0 l1 (by omega) l1.length 0 (by omega)
  exact ⟨e, by simp only [if_neg h]; exact he, by simp only [if_neg h]; exact he2, fun h0 => ⟨by omega, fun j hj => hP h0 j (Nat.zero_le _) hj⟩⟩
structure InvV (d : SDe) (c : Int) (v : V4) : Prop where
 o : 0 ≤ v.owes
 p : 0 ≤ v.paid
 t : 0 ≤ v.taken
 s : v.paid + v.taken + v.owes = c
 dn : v.done = 0 ↔ 0 < v.owes
 d0 : 0 ≤ v.done
 tk : v.done = 0 → v.taken = 0
 dy : 0 < v.done → d.f1 ≤ v.done
theorem qWz {d : SDe} {c : Int} {v : V4} {left day : Int} (h : InvV d c v) (hc : c ≤ 10000000000000) (hl : 0 ≤ left) (hl2 : left ≤ 10000000000000) (hd : 1 ≤ day) (hth : d.f1 ≤ day) (h0 : v.done = 0) :
  InvV d c (payV v left day).2 ∧ 0 ≤ (payV v left day).1 ∧ (payV v left day).1 ≤ left ∧ (payV v left day).1 + (payV v left day).2.paid = left + v.paid := by
 obtain ⟨o, p, t, s, dn, d0, tk, dy⟩ := h
 have ht := tk h0
 have ho := dn.1 h0
 have hm : 0 ≤ mn left v.owes ∧ mn left v.owes ≤ v.owes ∧ mn left v.owes ≤ left := by unfold mn; split <;> omega
 unfold payV
 generalize mn left v.owes = n at hm
 rw [w64 (n := left - n) (by omega) (by omega), w64 (n := v.owes - n) (by omega) (by omega), w64 (n := v.paid + n) (by omega) (by omega)]
 by_cases hz : v.owes - n = 0
 ·rw [if_pos hz]
  refine ⟨⟨?_, ?_, ?_, ?_, ?_, ?_, ?_, ?_⟩, ?_, ?_, ?_⟩ <;> dsimp only <;> omega
 ·rw [if_neg hz]
  refine ⟨⟨?_, ?_, ?_, ?_, ?_, ?_, ?_, ?_⟩, ?_, ?_, ?_⟩ <;> dsimp only <;> omega
theorem qWe {d : SDe} {c : Int} {v : V4} {left day dsc : Int} (h : InvV d c v) (hc : c ≤ 10000000000000) (hl : 0 ≤ left) (hl2 : left ≤ 10000000000000) (hd : 1 ≤ day) (hth : d.f1 ≤ day) (h0 : v.done = 0) (hs0 : 0 ≤ dsc) (hs1 : dsc ≤ v.owes) :
  InvV d c (yJ d dsc v left day).2 ∧ 0 ≤ (yJ d dsc v left day).1 ∧ (yJ d dsc v left day).1 ≤ left ∧ (yJ d dsc v left day).1 + (yJ d dsc v left day).2.paid = left + v.paid := by
 have hp := qWz h hc hl hl2 hd hth h0
 by_cases hx : wrap64 (v.owes - dsc) > left ∨ day > wrap64 (d.f1 + d.f4)
 ·have e : yJ d dsc v left day = payV v left day := by
   unfold yJ uZ payV
   rw [if_pos hx]
  rw [e]
  exact hp
 ·obtain ⟨o, p, t, s, dn, d0, tk, dy⟩ := h
  have ht := tk h0
  have ho := dn.1 h0
  have e : yJ d dsc v left day = (wrap64 (left - wrap64 (v.owes - dsc)), ⟨0, wrap64 (v.paid + wrap64 (v.owes - dsc)), dsc, day⟩) := by
   unfold yJ uZ
   rw [if_neg hx]
  rw [w64 (n := v.owes - dsc) (by omega) (by omega)] at hx e
  rw [e, w64 (n := left - (v.owes - dsc)) (by omega) (by omega), w64 (n := v.paid + (v.owes - dsc)) (by omega) (by omega)]
  refine ⟨⟨?_, ?_, ?_, ?_, ?_, ?_, ?_, ?_⟩, ?_, ?_, ?_⟩ <;> dsimp only <;> omega
def psum (S : Nat → V4) : Nat → Int
 | 0 => 0
 | n + 1 => psum S n + (S n).paid
theorem zBd (S : Nat → V4) (j : Nat) (v : V4) : ∀ n, psum (upd S j v) n = psum S n + (if j < n then v.paid - (S j).paid else 0)
 | 0 => by simp [psum]
 | n + 1 => by
  rw [psum, psum, zBd S j v n]
  unfold upd
  by_cases h : n = j
  ·subst h
   rw [if_pos rfl, if_neg (by omega), if_pos (by omega)]
   omega
  ·rw [if_neg h]
   by_cases h2 : j < n
   ·rw [if_pos h2, if_pos (by omega)]
    omega
   ·rw [if_neg h2, if_neg (by omega)]
    omega
def SInv (l0 : List SDe) (cv : Nat → Int) (S : Nat → V4) : Prop := ∀ j : Nat, j < l0.length → InvV (rdD l0 j) (cv j) (S j)
structure Ok0 (l0 : List SDe) (cv : Nat → Int) (dsc : Nat → Int → Int) : Prop where
 c : ∀ j : Nat, j < l0.length → 0 < cv j ∧ cv j ≤ 10000000000000
 s : ∀ j : Nat, j < l0.length → ∀ o : Int, 0 ≤ o → 0 ≤ dsc j o ∧ dsc j o ≤ o
def zJx (l0 : List SDe) (cv : Nat → Int) (s s' : Int × (Nat → V4)) : Prop := SInv l0 cv s'.2 ∧ 0 ≤ s'.1 ∧ s'.1 ≤ s.1 ∧ s'.1 + psum s'.2 l0.length = s.1 + psum s.2 l0.length
theorem SInv.upd {l0 : List SDe} {cv : Nat → Int} {S : Nat → V4} (h : SInv l0 cv S) {j : Nat} {v : V4} (hv : InvV (rdD l0 j) (cv j) v) : SInv l0 cv (upd S j v) := by
 intro i hi
 unfold Go.Proofs.YtaihfoihlbileaaGreatDoor.R7.upd
 by_cases e : i = j
 ·rw [if_pos e, e]
  exact hv
 ·rw [if_neg e]
  exact h i hi
theorem zZf {d : SDe} {v : V4} {day : Int} (h : xy d v day = true) : d.f1 ≤ day ∧ v.done = 0 := by
 unfold xy at h
 split at h
 ·exact ⟨by assumption, by simpa using h⟩
 ·cases h
theorem stepN_ok {l0 : List SDe} {cv : Nat → Int} {dsc : Nat → Int → Int} (K : Ok0 l0 cv dsc) {day : Int} (hd : 1 ≤ day) {o : Option Nat} (ho : ∀ j, o = some j → j < l0.length) {s : Int × (Nat → V4)} (hS : SInv l0 cv s.2) (h0 : 0 ≤ s.1) (h1 : s.1 ≤ 10000000000000) : zJx l0 cv s (zCe l0 dsc day o s) := by
 cases o with
 | none => exact ⟨hS, h0, Int.le_refl _, rfl⟩
 | some j =>
  have hj := ho j rfl
  show zJx l0 cv s (if xy (rdD l0 j) (s.2 j) day = true then _ else s)
  by_cases hth : xy (rdD l0 j) (s.2 j) day = true
  ·rw [if_pos hth]
   obtain ⟨ha, hb⟩ := zZf hth
   have hi := hS j hj
   obtain ⟨a, b, c, e⟩ := qWe (dsc := dsc j (s.2 j).owes) hi (K.c j hj).2 h0 h1 hd ha hb (K.s j hj _ hi.o).1 (K.s j hj _ hi.o).2
   refine ⟨hS.upd a, b, c, ?_⟩
   show _ + psum (upd _ _ _) _ = _
   rw [zBd, if_pos hj]
   omega
  ·rw [if_neg hth]
   exact ⟨hS, h0, Int.le_refl _, rfl⟩
theorem stepO_ok {l0 : List SDe} {cv : Nat → Int} {dsc : Nat → Int → Int} (K : Ok0 l0 cv dsc) {day : Int} (hd : 1 ≤ day) {j : Nat} (hj : j < l0.length) {s : Int × (Nat → V4)} (hS : SInv l0 cv s.2) (h0 : 0 ≤ s.1) (h1 : s.1 ≤ 10000000000000) : zJx l0 cv s (zXe l0 day j s) := by
 unfold zXe
 by_cases hth : s.1 > 0 ∧ xy (rdD l0 j) (s.2 j) day = true
 ·rw [if_pos hth]
  obtain ⟨ha, hb⟩ := zZf hth.2
  have hi := hS j hj
  obtain ⟨a, b, c, e⟩ := qWz hi (K.c j hj).2 h0 h1 hd ha hb
  refine ⟨hS.upd a, b, c, ?_⟩
  show _ + psum (upd _ _ _) _ = _
  rw [zBd, if_pos hj]
  omega
 ·rw [if_neg hth]
  exact ⟨hS, h0, Int.le_refl _, rfl⟩
theorem zJx.trans {l0 : List SDe} {cv : Nat → Int} {a b c : Int × (Nat → V4)} (h : zJx l0 cv a b) (k : zJx l0 cv b c) : zJx l0 cv a c :=
 ⟨k.1, k.2.1, Int.le_trans k.2.2.1 h.2.2.1, k.2.2.2.trans h.2.2.2⟩
theorem zBc {l0 : List SDe} {cv : Nat → Int} {dsc : Nat → Int → Int} (K : Ok0 l0 cv dsc) {day : Int} (hd : 1 ≤ day) (nm : Nat → ByteArray) {s : Int × (Nat → V4)} (hS : SInv l0 cv s.2) (h0 : 0 ≤ s.1) (h1 : s.1 ≤ 10000000000000) : ∀ k, zJx l0 cv s (runN l0 dsc day nm s k)
 | 0 => ⟨hS, h0, Int.le_refl _, rfl⟩
 | k + 1 => by
  have h := zBc K hd nm hS h0 h1 k
  exact h.trans (stepN_ok K hd (fun j e => kv e) h.1 h.2.1 (Int.le_trans h.2.2.1 h1))
theorem zEh {l0 : List SDe} {cv : Nat → Int} {dsc : Nat → Int → Int} (K : Ok0 l0 cv dsc) {day : Int} (hd : 1 ≤ day) {od : List Nat} (hod : ∀ j ∈ od, j < l0.length) {s : Int × (Nat → V4)} (hS : SInv l0 cv s.2) (h0 : 0 ≤ s.1) (h1 : s.1 ≤ 10000000000000) : ∀ k, k ≤ od.length → zJx l0 cv s (runO l0 day od s k)
 | 0, _ => ⟨hS, h0, Int.le_refl _, rfl⟩
 | k + 1, hk => by
  have h := zEh K hd hod hS h0 h1 k (by omega)
  refine h.trans (stepO_ok K hd (hod _ ?_) h.1 h.2.1 (Int.le_trans h.2.2.1 h1))
  rw [List.getD_eq_getElem?_getD, List.getElem?_eq_getElem (by omega)]
  exact List.getElem_mem _
def isum : List Int → Int
 | [] => 0
 | x :: r => x + isum r
theorem qXv (l : List Int) (x : Int) : isum (l ++ [x]) = isum l + x := by
 induction l with
 | nil => simp [isum]
 | cons y r ih => simp only [List.cons_append, isum, ih]; omega
def csum (pc : Nat → Int) : Nat → Int
 | 0 => 0
 | n + 1 => csum pc n + pc n
theorem qZd (cv : Nat → Int) : ∀ n, psum (iniV cv) n = 0
 | 0 => rfl
 | n + 1 => by rw [psum, qZd cv n]; rfl
theorem zEg {l0 : List SDe} {cv : Nat → Int} {dsc : Nat → Int → Int} (K : Ok0 l0 cv dsc) {od : List Nat} (hod : ∀ j ∈ od, j < l0.length) (l1 : List SPa) (pc : Nat → Int)
  (hday : ∀ i : Nat, i < l1.length → 1 ≤ (rdA l1 i).f0) (hpc : ∀ i : Nat, i < l1.length → 0 ≤ pc i ∧ pc i ≤ 10000000000000) :
  ∀ m, m ≤ l1.length → SInv l0 cv (runP l0 cv dsc od l1 pc m).1 ∧ (∀ x ∈ (runP l0 cv dsc od l1 pc m).2, 0 ≤ x ∧ x ≤ 10000000000000) ∧ isum (runP l0 cv dsc od l1 pc m).2 + psum (runP l0 cv dsc od l1 pc m).1 l0.length = csum pc m
 | 0, _ => by
  refine ⟨fun j hj => ?_, fun x hx => (by cases hx), ?_⟩
  ·have := K.c j hj
   show InvV _ _ (iniV cv j)
   unfold iniV
   refine ⟨?_, ?_, ?_, ?_, ?_, ?_, ?_, ?_⟩ <;> dsimp only <;> omega
  ·show isum [] + psum (iniV cv) l0.length = 0
   rw [qZd]
   rfl
 | m + 1, hm => by
  obtain ⟨h1, h2, h3⟩ := zEg K hod l1 pc hday hpc m (by omega)
  have hp := hpc m (by omega)
  have hd := hday m (by omega)
  have hN := zBc K hd (fun k => rdOf ByteArray.empty (rdA l1 m).f2 k) (s := (pc m, (runP l0 cv dsc od l1 pc m).1)) h1 hp.1 hp.2 (rdA l1 m).f2.length
  have hO := hN.trans (zEh K hd hod hN.1 hN.2.1 (Int.le_trans hN.2.2.1 hp.2) od.length (Nat.le_refl _))
  obtain ⟨a, b, c, d⟩ := hO
  refine ⟨a, fun x hx => ?_, ?_⟩
  ·rcases List.mem_append.1 hx with h | h
   ·exact h2 x h
   ·have := List.mem_singleton.1 h
    rw [this]
    exact ⟨b, Int.le_trans c hp.2⟩
  ·show isum ((runP l0 cv dsc od l1 pc m).2 ++ [(oneP l0 dsc od (rdA l1 m) (pc m) (runP l0 cv dsc od l1 pc m).1).1]) + psum (oneP l0 dsc od (rdA l1 m) (pc m) (runP l0 cv dsc od l1 pc m).1).2 l0.length = csum pc m + pc m
   rw [qXv]
   unfold oneP
   dsimp only at d
   omega
end Go.Proofs.YtaihfoihlbileaaGreatDoor.R7
namespace Go.Proofs.YtaihfoihlbileaaGreatDoor.R7
open Go Go.Proofs Go.RowKit Go.Maps Go.Proofs.YtaihfoihlbileaaGreatDoorW.PrintWords Go.Proofs.YtaihfoihlbileaaGreatDoorW.PrintLast Go.Proofs.YtaihfoihlbileaaGreatDoorW.PrintMore
attribute [local go_sem] vZ vY vT yZ xH xG vz vX
abbrev RI (W : World) (base : Nat) (v : Value) (l : List Int) : Prop := Kd.R (Kd.int .i64) 3 W base (fun _ => True) v l
structure Acc (w0 wr : World) (g gp gt gd cp ct cd : Nat) (A0 : Option Addr) (c0 : Nat) (l0 : List SDe) (vl : Value) (P T D L : List Int) : Prop where
 blk : wr.heap[g]? = some (.cells #[.slice A0 l0.length c0, .slice (some ⟨gp, 0, none⟩) l0.length cp, .slice (some ⟨gt, 0, none⟩) l0.length ct, .slice (some ⟨gd, 0, none⟩) l0.length cd, vl] 56 (0, 0))
 big : w0.heap.size ≤ g
 p : RI wr w0.heap.size (.slice (some ⟨gp, 0, none⟩) l0.length cp) P
 t : RI wr w0.heap.size (.slice (some ⟨gt, 0, none⟩) l0.length ct) T
 d : RI wr w0.heap.size (.slice (some ⟨gd, 0, none⟩) l0.length cd) D
 l : RI wr w0.heap.size vl L
 pt : gp ≠ gt
 pd : gp ≠ gd
 td : gt ≠ gd
 lp : vl.ownBlock ≠ some gp
 lt : vl.ownBlock ≠ some gt
 ld : vl.ownBlock ≠ some gd
 bel : Below w0.heap.size w0 wr
section
variable {w0 wr w3 : World} {g gp gt gd cp ct cd : Nat} {A0 : Option Addr} {c0 : Nat} {l0 : List SDe} {vl : Value} {P T D L : List Int}
theorem Acc.keep (A : Acc w0 wr g gp gt gd cp ct cd A0 c0 l0 vl P T D L) (hb : Below wr.heap.size wr w3) : Acc w0 w3 g gp gt gd cp ct cd A0 c0 l0 vl P T D L :=
 ⟨qV A.blk hb, A.big, Kd.jq A.p hb, Kd.jq A.t hb, Kd.jq A.d hb, Kd.jq A.l hb, A.pt, A.pd, A.td, A.lp, A.lt, A.ld, A.bel.trans (hb.mono A.bel.size)⟩
theorem Acc.b0 (A : Acc w0 wr g gp gt gd cp ct cd A0 c0 l0 vl P T D L) : wr.cell? ⟨g, 0, none⟩ = some (.slice A0 l0.length c0) := (zx A.blk 0).trans rfl
theorem Acc.b1 (A : Acc w0 wr g gp gt gd cp ct cd A0 c0 l0 vl P T D L) : wr.cell? ⟨g, 1, none⟩ = some (.slice (some ⟨gp, 0, none⟩) l0.length cp) := (zx A.blk 1).trans rfl
theorem Acc.b2 (A : Acc w0 wr g gp gt gd cp ct cd A0 c0 l0 vl P T D L) : wr.cell? ⟨g, 2, none⟩ = some (.slice (some ⟨gt, 0, none⟩) l0.length ct) := (zx A.blk 2).trans rfl
theorem Acc.b3 (A : Acc w0 wr g gp gt gd cp ct cd A0 c0 l0 vl P T D L) : wr.cell? ⟨g, 3, none⟩ = some (.slice (some ⟨gd, 0, none⟩) l0.length cd) := (zx A.blk 3).trans rfl
theorem Acc.b4 (A : Acc w0 wr g gp gt gd cp ct cd A0 c0 l0 vl P T D L) : wr.cell? ⟨g, 4, none⟩ = some vl := (zx A.blk 4).trans rfl
theorem zXw {W : World} {base gp n cp : Nat} {P : List Int} (h : RI W base (.slice (some ⟨gp, 0, none⟩) n cp) P) {i : Nat} (hi : i < n) : W.cell? ⟨gp, i, none⟩ = some (.int .i64 (rd P i)) ∧ W.frozen? ⟨gp, i, none⟩ = false := by
 have := Kd.uV (0 : Int) h (i : Int) (by omega) (by omega)
 rw [Int.toNat_natCast] at this
 exact this
theorem qQn {W W' : World} {base : Nat} {v : Value} {l : List Int} (h : RI W base v l) (hk : ∀ j, some j = v.ownBlock → W'.heap[j]? = W.heap[j]?) : RI W' base v l := Kd.zCw (yE (Kd.xM h) hk) fun _ _ => trivial
theorem zQx {W : World} {base b i : Nat} {v u : Value} {l : List Int} (h : RI W base v l) (hne : some b ≠ v.ownBlock) : RI (W.setCell ⟨b, i, none⟩ u) base v l := qQn h fun j hj => Below.heap_setCell _ _ _ _ fun e => hne (by rw [← hj]; exact congrArg some (show b = j from e.symm))
theorem Acc.setP (A : Acc w0 wr g gp gt gd cp ct cd A0 c0 l0 vl P T D L) (i : Nat) (x : Int) : Acc w0 (wr.setCell ⟨gp, i, none⟩ (.int .i64 x)) g gp gt gd cp ct cd A0 c0 l0 vl (P.set i x) T D L := by
 obtain ⟨cur, hcur, hbig⟩ := vG (Kd.xM A.p) (j := gp) rfl
 refine ⟨?_, A.big, (by have h9 := Kd.zQv A.p (i : Int) x; rw [Int.toNat_natCast] at h9; exact h9), (zQx A.t (fun e => A.pt (Option.some.inj e))), (zQx A.d (fun e => A.pd (Option.some.inj e))), zQx A.l (fun e => A.lp e.symm), A.pt, A.pd, A.td, A.lp, A.lt, A.ld, jG A.bel hbig⟩
 rw [Below.heap_setCell _ _ _ _ (fun e => by
  have e2 : g = gp := e
  have h9 := A.blk
  rw [e2, hcur] at h9
  have h8 := Option.some.inj h9
  injection h8 with _ h7 _
  exact absurd h7 (by decide))]
 exact A.blk
theorem Acc.setT (A : Acc w0 wr g gp gt gd cp ct cd A0 c0 l0 vl P T D L) (i : Nat) (x : Int) : Acc w0 (wr.setCell ⟨gt, i, none⟩ (.int .i64 x)) g gp gt gd cp ct cd A0 c0 l0 vl P (T.set i x) D L := by
 obtain ⟨cur, hcur, hbig⟩ := vG (Kd.xM A.t) (j := gt) rfl
 refine ⟨?_, A.big, (zQx A.p (fun e => A.pt.symm (Option.some.inj e))), (by have h9 := Kd.zQv A.t (i : Int) x; rw [Int.toNat_natCast] at h9; exact h9), (zQx A.d (fun e => A.td (Option.some.inj e))), zQx A.l (fun e => A.lt e.symm), A.pt, A.pd, A.td, A.lp, A.lt, A.ld, jG A.bel hbig⟩
 rw [Below.heap_setCell _ _ _ _ (fun e => by
  have e2 : g = gt := e
  have h9 := A.blk
  rw [e2, hcur] at h9
  have h8 := Option.some.inj h9
  injection h8 with _ h7 _
  exact absurd h7 (by decide))]
 exact A.blk
theorem Acc.setD (A : Acc w0 wr g gp gt gd cp ct cd A0 c0 l0 vl P T D L) (i : Nat) (x : Int) : Acc w0 (wr.setCell ⟨gd, i, none⟩ (.int .i64 x)) g gp gt gd cp ct cd A0 c0 l0 vl P T (D.set i x) L := by
 obtain ⟨cur, hcur, hbig⟩ := vG (Kd.xM A.d) (j := gd) rfl
 refine ⟨?_, A.big, (zQx A.p (fun e => A.pd.symm (Option.some.inj e))), (zQx A.t (fun e => A.td.symm (Option.some.inj e))), (by have h9 := Kd.zQv A.d (i : Int) x; rw [Int.toNat_natCast] at h9; exact h9), zQx A.l (fun e => A.ld e.symm), A.pt, A.pd, A.td, A.lp, A.lt, A.ld, jG A.bel hbig⟩
 rw [Below.heap_setCell _ _ _ _ (fun e => by
  have e2 : g = gd := e
  have h9 := A.blk
  rw [e2, hcur] at h9
  have h8 := Option.some.inj h9
  injection h8 with _ h7 _
  exact absurd h7 (by decide))]
 exact A.blk
theorem keep5 {W W' : World} {v0 v1 v2 v3 v4 : Value} {a b c d e : Addr} (h : W.cell? a = some v0 ∧ W.cell? b = some v1 ∧ W.cell? c = some v2 ∧ W.cell? d = some v3 ∧ W.cell? e = some v4) (hb : Below W.heap.size W W') : W'.cell? a = some v0 ∧ W'.cell? b = some v1 ∧ W'.cell? c = some v2 ∧ W'.cell? d = some v3 ∧ W'.cell? e = some v4 := by
 obtain ⟨h0, h1, h2, h3, h4⟩ := h
 exact ⟨(hb.cell (World.block_lt_of_cell? W _ h0)).trans h0, (hb.cell (World.block_lt_of_cell? W _ h1)).trans h1, (hb.cell (World.block_lt_of_cell? W _ h2)).trans h2, (hb.cell (World.block_lt_of_cell? W _ h3)).trans h3, (hb.cell (World.block_lt_of_cell? W _ h4)).trans h4⟩
theorem kY (k : Nat) (A : Acc w0 wr g gp gt gd cp ct cd A0 c0 l0 vl P T D L) (hr0 : Kd.C k53 w0 A0 l0.length l0) (i : Nat) (hi : i < l0.length) (f r : Int) (hf : zC.f k (rdD l0 i).f2.f0 (rdD l0 i).f2.f1 = some f) (hr : wrap64 (f - rd P i) = r) :
  Calls Tryz.prog 59 #[.pointer (some ⟨g, 0, none⟩), .int .i64 i] wr fun e w' => e = .returned (.int .i64 r) ∧ Below wr.heap.size wr w' := by
 obtain ⟨ad, e0, hd0, hd1, hd2, hd3, hd4⟩ := kK hr0 (i : Int) (by omega) (by omega)
 simp only [Int.toNat_natCast] at hd2 hd3
 have x2 := hz ⟨A.bel⟩ hd2
 have x3 := hz ⟨A.bel⟩ hd3
 have x0 := A.b0
 have x1 := A.b1
 have x4 := (zXw A.p hi).1
 obtain ⟨p, hp⟩ : ∃ p, rd P i = p := ⟨_, rfl⟩
 rw [hp] at x4 hr
 have wr1 : IntKind.i64.wrap (f - p) = r := (jw _).trans hr
 have hi0 : (0 : Int) ≤ (i : Int) := by omega
 have hiz : (i : Int) < (l0.length : Int) := by omega
 subst e0
 generalize hdd : rdD l0 (i : Int) = dd at hf
 rw [show yx l0 (i : Int) = dd from hdd] at x2 x3
 clear A hr0 hd0 hd1 hd2 hd3 hd4 hp hr hdd
 go_enter Tryz.func59, Tryz.ntmps59
 go_upto_region 1 with fail
 go_region_held3 (fun w' => w'.cell? ⟨g, 0, none⟩ = some (.slice (some ad) l0.length c0) ∧ w'.cell? ⟨g, 1, none⟩ = some (.slice (some ⟨gp, 0, none⟩) l0.length cp) ∧ w'.cell? ⟨(ad.add (i * 7)).block, (ad.add (i * 7)).off + 2, none⟩ = some (.int .i64 dd.f2.f0) ∧ w'.cell? ⟨(ad.add (i * 7)).block, (ad.add (i * 7)).off + 3, none⟩ = some (.int .i64 dd.f2.f1) ∧ w'.cell? ⟨gp, i, none⟩ = some (.int .i64 p))
  (first | exact keep5 ⟨x0, x1, x2, x3, x4⟩ ((Below.refl _ _).drew) | exact keep5 (by assumption) ((Below.refl _ _).alloc (Nat.le_refl _) _) | exact keep5 (by assumption) (by assumption))
  (first | (go_at_call 39; (with_reducible refine (zC.calls k dd.f2.f0 dd.f2.f1 f _ hf).mono ?_); rintro e w1 ⟨rfl, hb⟩))
 go_wp2
 go_ret
 exact ⟨rfl, ((Below.refl _ _).drew).trans (hb.mono (by simp))⟩
theorem kG (A : Acc w0 wr g gp gt gd cp ct cd A0 c0 l0 vl P T D L) (hr0 : Kd.C k53 w0 A0 l0.length l0) (i : Nat) (hi : i < l0.length) (day : Int) :
  Calls Tryz.prog 58 #[.pointer (some ⟨g, 0, none⟩), .int .i64 i, .int .i64 day] wr fun e w' => e = .returned (.bool (if (rdD l0 i).f1 ≤ day then rd D i == 0 else false)) ∧ Below wr.heap.size wr w' := by
 obtain ⟨ad, e0, hd0, hd1, hd2, hd3, hd4⟩ := kK hr0 (i : Int) (by omega) (by omega)
 simp only [Int.toNat_natCast] at hd1
 have x2 := hz ⟨A.bel⟩ hd1
 have x0 := A.b0
 have x1 := A.b3
 have x4 := (zXw A.d hi).1
 obtain ⟨p, hp⟩ : ∃ p, rd D i = p := ⟨_, rfl⟩
 rw [hp] at x4 ⊢
 have hi0 : (0 : Int) ≤ (i : Int) := by omega
 have hiz : (i : Int) < (l0.length : Int) := by omega
 subst e0
 generalize hdd : rdD l0 (i : Int) = dd
 rw [show yx l0 (i : Int) = dd from hdd] at x2
 clear A hr0 hd0 hd1 hd2 hd3 hd4 hp hdd
 by_cases h : dd.f1 ≤ day
 ·rw [if_pos h]
  by_cases h2 : p = 0
  ·have hb : (p == 0) = true := by simpa using h2
   rw [hb]
   go_enter Tryz.func58, Tryz.ntmps58
   go_wp2
   go_ret
   exact ⟨rfl, by first | exact Below.refl _ _ | exact qD (Below.refl _ _)⟩
  ·have hb : (p == 0) = false := by simpa using h2
   rw [hb]
   go_enter Tryz.func58, Tryz.ntmps58
   go_wp2
   go_ret
   exact ⟨rfl, by first | exact Below.refl _ _ | exact qD (Below.refl _ _)⟩
 ·rw [if_neg h]
  go_enter Tryz.func58, Tryz.ntmps58
  go_wp2
  go_ret
  exact ⟨rfl, by first | exact Below.refl _ _ | exact qD (Below.refl _ _)⟩
def dscR (d : SDe) (day fn ow : Int) : Int := if day > wrap64 (d.f1 + d.f4) then 0 else mn fn ow
theorem zWg (k : Nat) (A : Acc w0 wr g gp gt gd cp ct cd A0 c0 l0 vl P T D L) (hr0 : Kd.C k53 w0 A0 l0.length l0) (i : Nat) (hi : i < l0.length) (day f ow fn : Int) (hf : zC.f k (rdD l0 i).f2.f0 (rdD l0 i).f2.f1 = some f) (hr : wrap64 (f - rd P i) = ow)
  (hfn : zC.f k (wrap64 (Int.tdiv (wrap64 ((rdD l0 i).f2.f0 * (rdD l0 i).f5)) 1000)) (rdD l0 i).f2.f1 = some fn) :
  Calls Tryz.prog 62 #[.pointer (some ⟨g, 0, none⟩), .int .i64 i, .int .i64 day] wr fun e w' => e = .returned (.int .i64 (dscR (rdD l0 i) day fn ow)) ∧ Below wr.heap.size wr w' := by
 obtain ⟨ad, e0, hd0, hd1, hd2, hd3, hd4, hd5, hd6⟩ := kK hr0 (i : Int) (by omega) (by omega)
 simp only [Int.toNat_natCast] at hd0 hd1 hd2 hd3 hd4 hd5 hd6
 have HA : Aside _ := fun (w3 : World) (hb : Below wr.heap.size wr w3) => kY k (A.keep hb) hr0 i hi f ow hf hr
 have x0 := A.b0
 replace hd0 := hz ⟨A.bel⟩ hd0
 replace hd1 := hz ⟨A.bel⟩ hd1
 replace hd2 := hz ⟨A.bel⟩ hd2
 replace hd3 := hz ⟨A.bel⟩ hd3
 replace hd4 := hz ⟨A.bel⟩ hd4
 replace hd5 := hz ⟨A.bel⟩ hd5
 replace hd6 := hz ⟨A.bel⟩ hd6
 have hi0 : (0 : Int) ≤ (i : Int) := by omega
 have hiz : (i : Int) < (l0.length : Int) := by omega
 subst e0
 generalize hdd : rdD l0 (i : Int) = dd at hf hfn
 rw [show yx l0 (i : Int) = dd from hdd] at hd0 hd1 hd2 hd3 hd4 hd5 hd6
 obtain ⟨dw, hdw⟩ : ∃ dw, wrap64 (dd.f1 + dd.f4) = dw := ⟨_, rfl⟩
 have wdw : IntKind.i64.wrap (dd.f1 + dd.f4) = dw := (jw _).trans hdw
 obtain ⟨m1, hm1⟩ : ∃ m1, wrap64 (dd.f2.f0 * dd.f5) = m1 := ⟨_, rfl⟩
 have wm1 : IntKind.i64.wrap (dd.f2.f0 * dd.f5) = m1 := (jw _).trans hm1
 obtain ⟨m2, hm2⟩ : ∃ m2, wrap64 (Int.tdiv m1 1000) = m2 := ⟨_, rfl⟩
 have wm2 : IntKind.i64.wrap (Int.tdiv m1 1000) = m2 := (jw _).trans hm2
 rw [hm1, hm2] at hfn
 have HDD : Hid (rdD l0 (i : Int) = dd) := hdd
 have HDW : Hid (wrap64 (dd.f1 + dd.f4) = dw) := hdw
 clear A hr0 hr hf hdd hdw hm1 hm2
 go_enter Tryz.func62, Tryz.ntmps62
 go_upto_region 2 with fail
 have G := xB wr (.cells #[.string dd.f0, .int .i64 dd.f1, .int .i64 dd.f2.f0, .int .i64 dd.f2.f1, .int .i64 dd.f3, .int .i64 dd.f4, .int .i64 dd.f5] 53 (0, 0))
 have HS : Hid (Below wr.heap.size wr (wr.alloc (.cells #[.string dd.f0, .int .i64 dd.f1, .int .i64 dd.f2.f0, .int .i64 dd.f2.f1, .int .i64 dd.f3, .int .i64 dd.f4, .int .i64 dd.f5] 53))) := (Below.refl _ _).alloc (Nat.le_refl _) _
 clear hd0 hd1 hd2 hd3 hd4 hd5 hd6 x0
 generalize wr.heap.size = gb at G ⊢
 generalize wr.alloc _ = w1 at G HS ⊢
 have y1 : w1.cell? ⟨gb, 1, none⟩ = some (.int .i64 dd.f1) := (zx G 1).trans rfl
 have y2 : w1.cell? ⟨gb, 2, none⟩ = some (.int .i64 dd.f2.f0) := (zx G 2).trans rfl
 have y3 : w1.cell? ⟨gb, 3, none⟩ = some (.int .i64 dd.f2.f1) := (zx G 3).trans rfl
 have y5 : w1.cell? ⟨gb, 5, none⟩ = some (.int .i64 dd.f4) := (zx G 5).trans rfl
 have y6 : w1.cell? ⟨gb, 6, none⟩ = some (.int .i64 dd.f5) := (zx G 6).trans rfl
 clear G
 by_cases h : day > dw
 ·go_wp2
  go_ret
  refine ⟨?_, HS.out⟩
  unfold dscR
  rw [HDW.out, if_pos h]
  rfl
 ·go_upto_region 5 with fail
  have G2 := xB w1 (.cells #[.int .i64 m2, .int .i64 dd.f2.f1] 33 (0, 0))
  have HS2 : Hid (Below w1.heap.size w1 (w1.alloc (.cells #[.int .i64 m2, .int .i64 dd.f2.f1] 33))) := (Below.refl _ _).alloc (Nat.le_refl _) _
  clear y1 y2 y3 y5 y6
  generalize w1.heap.size = gc at G2 ⊢
  generalize w1.alloc _ = w2 at G2 HS2 ⊢
  have z0 : w2.cell? ⟨gc, 0, none⟩ = some (.int .i64 m2) := (zx G2 0).trans rfl
  have z1 : w2.cell? ⟨gc, 1, none⟩ = some (.int .i64 dd.f2.f1) := (zx G2 1).trans rfl
  have HB2 : Hid (Below wr.heap.size wr w2) := HS.out.trans (HS2.out.mono HS.out.size)
  have HDR : Hid (dscR dd day fn ow = mn fn ow) := (show _ = _ by unfold dscR; rw [HDW.out, if_neg h])
  clear G2 HS HS2
  by_cases hlt : ow < fn
  ·have e : mn fn ow = ow := if_pos hlt
   have HE : Hid (dscR dd day fn ow = ow) := (show _ = _ from HDR.out.trans e)
   clear e
   go_wp2_with (first | (go_at_call 39; (with_reducible refine (zC.calls k m2 dd.f2.f1 fn _ hfn).mono ?_); rintro e w3 ⟨rfl, hb⟩; have HB3 : Hid (Below wr.heap.size wr _) := HB2.out.trans (hb.mono HB2.out.size)) | (go_at_call 59; have hh := HA.out _ HB3.out; (with_reducible refine hh.mono ?_); clear hh; rintro e w4 ⟨rfl, hb2⟩))
   go_ret
   exact ⟨by rw [HE.out]; rfl, HB3.out.trans (hb2.mono HB3.out.size)⟩
  ·have e : mn fn ow = fn := if_neg hlt
   have HE : Hid (dscR dd day fn ow = fn) := (show _ = _ from HDR.out.trans e)
   clear e
   go_wp2_with (first | (go_at_call 39; (with_reducible refine (zC.calls k m2 dd.f2.f1 fn _ hfn).mono ?_); rintro e w3 ⟨rfl, hb⟩; have HB3 : Hid (Below wr.heap.size wr _) := HB2.out.trans (hb.mono HB2.out.size)) | (go_at_call 59; have hh := HA.out _ HB3.out; (with_reducible refine hh.mono ?_); clear hh; rintro e w4 ⟨rfl, hb2⟩))
   go_ret
   exact ⟨by rw [HE.out]; rfl, HB3.out.trans (hb2.mono HB3.out.size)⟩
end
structure Kp (gp gt gd : Nat) (W W' : World) : Prop where
 size : W.heap.size ≤ W'.heap.size
 blk : ∀ j, j < W.heap.size → j ≠ gp → j ≠ gt → j ≠ gd → W'.heap[j]? = W.heap[j]?
theorem Kp.refl (gp gt gd : Nat) (W : World) : Kp gp gt gd W W := ⟨Nat.le_refl _, fun _ _ _ _ _ => rfl⟩
theorem Kp.trans {gp gt gd : Nat} {a b c : World} (h : Kp gp gt gd a b) (h2 : Kp gp gt gd b c) : Kp gp gt gd a c :=
 ⟨Nat.le_trans h.size h2.size, fun j g1 g2 g3 g4 => (h2.blk j (Nat.lt_of_lt_of_le g1 h.size) g2 g3 g4).trans (h.blk j g1 g2 g3 g4)⟩
theorem Kp.low {gp gt gd : Nat} {a b : World} (h : Below a.heap.size a b) : Kp gp gt gd a b := ⟨h.size, fun j g1 _ _ _ => h.block j g1⟩
theorem Kp.set {gp gt gd : Nat} {a b : World} (h : Kp gp gt gd a b) {x i : Nat} (u : Value) (hx : x = gp ∨ x = gt ∨ x = gd) : Kp gp gt gd a (b.setCell ⟨x, i, none⟩ u) := by
 refine ⟨Nat.le_trans h.size (Nat.le_of_eq (by simp)), fun j g1 g2 g3 g4 => ?_⟩
 rw [Below.heap_setCell _ _ _ _ (fun e => ?_)]
 ·exact h.blk j g1 g2 g3 g4
 ·have e2 : j = x := e
  omega
section
variable {w0 wr w3 : World} {g gp gt gd cp ct cd : Nat} {A0 : Option Addr} {c0 : Nat} {l0 : List SDe} {vl : Value} {P T D L : List Int}
def payR (f : Int) (P D : List Int) (i : Nat) (day left : Int) : Int × List Int × List Int :=
 (wrap64 (left - mn left (wrap64 (f - rd P i))), P.set i (wrap64 (rd P i + mn left (wrap64 (f - rd P i)))), if wrap64 (f - wrap64 (rd P i + mn left (wrap64 (f - rd P i)))) = 0 then D.set i day else D)
theorem rd_set {P : List Int} {i : Nat} (h : i < P.length) (x : Int) : rd (P.set i x) i = x := by
 show (P.set i x).getD (i : Int).toNat 0 = x
 rw [Int.toNat_natCast, List.getD_eq_getElem?_getD, List.getElem?_set_self h]
 rfl
theorem zJd (k : Nat) (A : Acc w0 wr g gp gt gd cp ct cd A0 c0 l0 vl P T D L) (hr0 : Kd.C k53 w0 A0 l0.length l0) (i : Nat) (hi : i < l0.length) (day left f : Int) (hf : zC.f k (rdD l0 i).f2.f0 (rdD l0 i).f2.f1 = some f) :
  Calls Tryz.prog 63 #[.pointer (some ⟨g, 0, none⟩), .int .i64 i, .int .i64 day, .int .i64 left] wr fun e w' => e = .returned (.int .i64 (payR f P D i day left).1) ∧ Acc w0 w' g gp gt gd cp ct cd A0 c0 l0 vl (payR f P D i day left).2.1 T (payR f P D i day left).2.2 L ∧ Kp gp gt gd wr w' := by
 have hPl := (Kd.jF A.p).1
 obtain ⟨ow, how⟩ : ∃ ow, wrap64 (f - rd P i) = ow := ⟨_, rfl⟩
 obtain ⟨n, hn⟩ : ∃ n, mn left ow = n := ⟨_, rfl⟩
 obtain ⟨x, hx⟩ : ∃ x, wrap64 (rd P i + n) = x := ⟨_, rfl⟩
 obtain ⟨ow2, how2⟩ : ∃ ow2, wrap64 (f - x) = ow2 := ⟨_, rfl⟩
 obtain ⟨lf, hlf⟩ : ∃ lf, wrap64 (left - n) = lf := ⟨_, rfl⟩
 have HPR : Hid (payR f P D i day left = (lf, P.set i x, if ow2 = 0 then D.set i day else D)) := by
  show _ = _
  unfold payR
  rw [how, hn, hx, how2, hlf]
 have h1 := kY k A hr0 i hi f ow hf how
 have wx : IntKind.i64.wrap (rd P i + n) = x := (jw _).trans hx
 have wl : IntKind.i64.wrap (left - n) = lf := (jw _).trans hlf
 have HA : Aside _ := A
 have H2 : Aside _ := fun (w3 : World) (A3 : Acc w0 w3 g gp gt gd cp ct cd A0 c0 l0 vl (P.set i x) T D L) => kY k A3 hr0 i hi f ow2 hf (by rw [rd_set (by omega)]; exact how2)
 have hi0 : (0 : Int) ≤ (i : Int) := by omega
 have hiz : (i : Int) < (l0.length : Int) := by omega
 obtain ⟨p, hp⟩ : ∃ p, rd P i = p := ⟨_, rfl⟩
 rw [hp] at wx
 have HPP : Hid (rd P i = p) := hp
 have HLF : Hid (wrap64 (left - n) = lf) := hlf
 clear A hr0 hf how hx how2 hlf hp hPl
 by_cases hlt : ow < left
 ·have e : n = ow := hn.symm.trans (if_pos hlt)
  subst e
  clear hn
  go_enter Tryz.func63, Tryz.ntmps63
  go_upto_region 2 with (go_at_call 59; (with_reducible refine h1.mono ?_); rintro e w1 ⟨rfl, hb⟩)
  have A1 := HA.out.keep hb
  have x1 := A1.b1
  have hcx := zXw A1.p hi
  rw [HPP.out] at hcx
  obtain ⟨cx, fx⟩ := hcx
  have A2 := A1.setP i x
  have HA2 : Hid (Acc w0 (w1.setCell ⟨gp, i, none⟩ (.int .i64 x)) g gp gt gd cp ct cd A0 c0 l0 vl (P.set i x) T D L) := A2
  have HK2 : Hid (Kp gp gt gd wr (w1.setCell ⟨gp, i, none⟩ (.int .i64 x))) := (Kp.low hb).set _ (.inl rfl)
  clear A1 A2 hb h1
  go_upto_region 3 with fail
  generalize w1.setCell ⟨gp, i, none⟩ (.int .i64 x) = w2 at HA2 HK2 ⊢
  have h2 := H2.out _ HA2.out
  clear x1 cx fx
  by_cases h0 : ow2 = 0
  ·subst h0
   go_upto_region 4 with (go_at_call 59; (with_reducible refine h2.mono ?_); rintro e w3 ⟨rfl, hb3⟩)
   have A3 := HA2.out.keep hb3
   have x3 := A3.b3
   obtain ⟨cx, fx⟩ := zXw A3.d hi
   have HA4 : Hid (Acc w0 (w3.setCell ⟨gd, i, none⟩ (.int .i64 day)) g gp gt gd cp ct cd A0 c0 l0 vl (P.set i x) T (D.set i day) L) := A3.setD i day
   have HK4 : Hid (Kp gp gt gd wr (w3.setCell ⟨gd, i, none⟩ (.int .i64 day))) := (HK2.out.trans (Kp.low hb3)).set _ (.inr (.inr rfl))
   clear A3 hb3
   go_wp2
   go_ret
   refine ⟨?_, ?_, HK4.out⟩
   ·rw [HPR.out]
    rfl
   ·rw [HPR.out]
    show Acc _ _ _ _ _ _ _ _ _ _ _ _ _ _ _ (if (0 : Int) = 0 then D.set i day else D) _
    rw [if_pos rfl]
    exact HA4.out
  ·go_wp2_with (go_at_call 59; (with_reducible refine h2.mono ?_); rintro e w3 ⟨rfl, hb3⟩)
   go_ret
   refine ⟨?_, ?_, HK2.out.trans (Kp.low hb3)⟩
   ·rw [HPR.out]
    rfl
   ·rw [HPR.out]
    show Acc _ _ _ _ _ _ _ _ _ _ _ _ _ _ _ (if ow2 = 0 then D.set i day else D) _
    rw [if_neg h0]
    exact HA2.out.keep hb3
 ·have e : n = left := hn.symm.trans (if_neg hlt)
  have hl0 : lf = 0 := by
   rw [← HLF.out, e, Int.sub_self]
   unfold wrap64
   omega
  subst e
  clear hn HLF wl
  subst hl0
  go_enter Tryz.func63, Tryz.ntmps63
  go_upto_region 2 with (go_at_call 59; (with_reducible refine h1.mono ?_); rintro e w1 ⟨rfl, hb⟩)
  have A1 := HA.out.keep hb
  have x1 := A1.b1
  have hcx := zXw A1.p hi
  rw [HPP.out] at hcx
  obtain ⟨cx, fx⟩ := hcx
  have A2 := A1.setP i x
  have HA2 : Hid (Acc w0 (w1.setCell ⟨gp, i, none⟩ (.int .i64 x)) g gp gt gd cp ct cd A0 c0 l0 vl (P.set i x) T D L) := A2
  have HK2 : Hid (Kp gp gt gd wr (w1.setCell ⟨gp, i, none⟩ (.int .i64 x))) := (Kp.low hb).set _ (.inl rfl)
  clear A1 A2 hb h1
  go_upto_region 3 with fail
  generalize w1.setCell ⟨gp, i, none⟩ (.int .i64 x) = w2 at HA2 HK2 ⊢
  have h2 := H2.out _ HA2.out
  clear x1 cx fx
  by_cases h0 : ow2 = 0
  ·subst h0
   go_upto_region 4 with (go_at_call 59; (with_reducible refine h2.mono ?_); rintro e w3 ⟨rfl, hb3⟩)
   have A3 := HA2.out.keep hb3
   have x3 := A3.b3
   obtain ⟨cx, fx⟩ := zXw A3.d hi
   have HA4 : Hid (Acc w0 (w3.setCell ⟨gd, i, none⟩ (.int .i64 day)) g gp gt gd cp ct cd A0 c0 l0 vl (P.set i x) T (D.set i day) L) := A3.setD i day
   have HK4 : Hid (Kp gp gt gd wr (w3.setCell ⟨gd, i, none⟩ (.int .i64 day))) := (HK2.out.trans (Kp.low hb3)).set _ (.inr (.inr rfl))
   clear A3 hb3
   go_wp2
   go_ret
   refine ⟨?_, ?_, HK4.out⟩
   ·rw [HPR.out]
    rfl
   ·rw [HPR.out]
    show Acc _ _ _ _ _ _ _ _ _ _ _ _ _ _ _ (if (0 : Int) = 0 then D.set i day else D) _
    rw [if_pos rfl]
    exact HA4.out
  ·go_wp2_with (go_at_call 59; (with_reducible refine h2.mono ?_); rintro e w3 ⟨rfl, hb3⟩)
   go_ret
   refine ⟨?_, ?_, HK2.out.trans (Kp.low hb3)⟩
   ·rw [HPR.out]
    rfl
   ·rw [HPR.out]
    show Acc _ _ _ _ _ _ _ _ _ _ _ _ _ _ _ (if ow2 = 0 then D.set i day else D) _
    rw [if_neg h0]
    exact HA2.out.keep hb3
end
def keyR (l0 : List SDe) (j : Nat) : Int := wrap64 ((rdD l0 j).f1 + (rdD l0 j).f3)
end Go.Proofs.YtaihfoihlbileaaGreatDoor.R7
namespace Go.Proofs
open Go.Shelf
def Tryz.qXq : Go.Shelf.Ren := ⟨fun | 21 => 83 | 27 => 97 | 28 => 98 | 35 => 109 | 39 => 118 | n => n, fun | 22 => 39 | 3 => 3 | 4 => 4 | 0 => 0 | n => n, fun | n => n⟩
theorem Tryz.qXz : Go.Proofs.Lays2.n21 Tryz.prog Tryz.qXq := {
 mixed := by kernel_rfl
 f21 := Tryz.func83.trans (congrArg some (by kernel_rfl))
 f27 := Tryz.func97.trans (congrArg some (by kernel_rfl))
 f28 := Tryz.func98.trans (congrArg some (by kernel_rfl))
 f35 := Tryz.func109.trans (congrArg some (by kernel_rfl))
 f39 := Tryz.func118.trans (congrArg some (by kernel_rfl))
 t0 := Tryz.underlying0
 a0 := Tryz.isAgg0
 z0 := Tryz.sizeOf0
 v0 := Tryz.zeroValue0
 t3 := Tryz.underlying3
 a3 := Tryz.isAgg3
 z3 := Tryz.sizeOf3
 v3 := Tryz.zeroValue3
 t4 := Tryz.underlying4
 a4 := Tryz.isAgg4
 z4 := Tryz.sizeOf4
 v4 := Tryz.zeroValue4
 t22 := Tryz.underlying39
 a22 := Tryz.isAgg39
 z22 := Tryz.sizeOf39
 v22 := Tryz.zeroValue39
 i3 := by kernel_rfl }
end Go.Proofs
namespace Go.Proofs.YtaihfoihlbileaaGreatDoor.R7
open Go Go.Proofs Go.Shelf Go.RowKit Go.Maps Go.Proofs.YtaihfoihlbileaaGreatDoorW.PrintWords Go.Proofs.YtaihfoihlbileaaGreatDoorW.PrintLast Go.Proofs.YtaihfoihlbileaaGreatDoorW.PrintMore
def zYv (cur : Array Value) : Nat → List Value → Array Value
 | _, [] => cur
 | o, v :: r => zYv (cur.setIfInBounds o v) (o + 1) r
theorem yY : ∀ (vs : List Value) (o : Nat) (cur : Array Value), (zYv cur o vs).size = cur.size
 | [], _, _ => rfl
 | v :: r, o, cur => by
  unfold zYv
  rw [yY r, Array.size_setIfInBounds]
theorem uP : ∀ (vs : List Value) (o : Nat) (cur : Array Value), o + vs.length ≤ cur.size → ∀ k, (zYv cur o vs)[k]? = if o ≤ k ∧ k < o + vs.length then vs[k - o]? else cur[k]?
 | [], o, cur, _, k => by
  rw [if_neg (by rw [List.length_nil]; omega)]
  rfl
 | v :: r, o, cur, h, k => by
  unfold zYv
  rw [List.length_cons] at h ⊢
  rw [uP r (o + 1) _ (by rw [Array.size_setIfInBounds]; omega)]
  by_cases c : o + 1 ≤ k ∧ k < o + 1 + r.length
  ·rw [if_pos c, if_pos (by omega), show k - o = (k - (o + 1)) + 1 by omega, List.getElem?_cons_succ]
  ·rw [if_neg c]
   by_cases e : k = o
   ·subst e
    rw [if_pos (by omega), Nat.sub_self, List.getElem?_cons_zero, Array.getElem?_setIfInBounds, if_pos rfl, if_pos (by omega)]
   ·rw [if_neg (by omega), Array.getElem?_setIfInBounds, if_neg (fun e2 => e e2.symm)]
theorem uY {b : Nat} {t : TypeId} : ∀ (vs : List Value) (o : Nat) (w : World) (cur : Array Value), w.heap[b]? = some (.cells cur t (0, 0)) → (w.setCells b o vs).heap[b]? = some (.cells (zYv cur o vs) t (0, 0))
 | [], _, _, _, h => h
 | v :: r, o, w, cur, h => by
  rw [World.setCells]
  exact uY r (o + 1) _ _ (qYv h o v)
theorem uj {w0 : World} {b : Nat} (hb : w0.heap.size ≤ b) : ∀ (vs : List Value) (o : Nat) (w : World), Below w0.heap.size w0 w → Below w0.heap.size w0 (w.setCells b o vs)
 | [], _, _, h => h
 | v :: r, o, w, h => by
  rw [World.setCells]
  exact uj hb r (o + 1) _ (jG h hb)
theorem row_of {W : World} {base g n cap : Nat} {cur : Array Value} {l : List Int} (hl : l.length = n) (hb : base ≤ g) (hh : W.heap[g]? = some (.cells cur 3 (0, 0))) (hn : n ≤ cap) (hm : cap ≤ maxLen) (hs : cur.size = cap)
  (hc : ∀ k, k < n → cur[k]? = (l.map (Value.int .i64))[k]?) : RI W base (.slice (some ⟨g, 0, none⟩) n cap) l := by
 subst hl
 refine Kd.zCw ⟨by simp [encs], .inr ⟨g, cap, cur, rfl, hb, hh, hn, hm, by omega, ?_⟩⟩ fun _ _ => trivial
 apply List.ext_getElem?
 intro k
 rw [Nat.mul_one, List.getElem?_take]
 by_cases hk : k < l.length
 ·rw [if_pos hk, Array.getElem?_toList]
  exact hc k hk
 ·rw [if_neg hk, List.getElem?_eq_none (by rw [zZx]; omega)]
theorem ins_get (l : List Int) (i : Nat) (x : Int) (hi : i ≤ l.length) (k : Nat) : ((l.take i ++ x :: l.drop i).map (Value.int .i64))[k]? = if k < i then (l.map (Value.int .i64))[k]? else if k = i then some (Value.int .i64 x) else (l.map (Value.int .i64))[k - 1]? := by
 rw [List.map_append, List.map_cons, List.map_take, List.map_drop]
 generalize hL : l.map (Value.int .i64) = L
 have hLl : L.length = l.length := by rw [← hL, List.length_map]
 by_cases c : k < i
 ·rw [if_pos c, List.getElem?_append_left (by rw [List.length_take]; omega), List.getElem?_take, if_pos c]
 ·rw [if_neg c, List.getElem?_append_right (by rw [List.length_take]; omega), List.length_take, hLl, Nat.min_eq_left hi]
  by_cases e : k = i
  ·rw [if_pos e, e, Nat.sub_self, List.getElem?_cons_zero]
  ·rw [if_neg e, show k - i = (k - 1 - i) + 1 by omega, List.getElem?_cons_succ, List.getElem?_drop]
   congr 1
   omega
theorem ins_len (l : List Int) (i : Nat) (x : Int) (hi : i ≤ l.length) : (l.take i ++ x :: l.drop i).length = l.length + 1 := by
 rw [List.length_append, List.length_cons, List.length_take, List.length_drop]
 omega
theorem zEj {w0 W : World} {v : Value} {l : List Int} (h : RI W w0.heap.size v l) (hl : l.length ≤ 1000) {i : Nat} (hi : i ≤ l.length) {vb : Nat} {x : Int} (hvb : W.heap[vb]? = some (.cells #[.int .i64 x] 3 (0, 0))) (hne : some vb ≠ v.ownBlock) (HB : Below w0.heap.size w0 W) :
  Calls Tryz.prog 83 #[v, .int .i64 i, .slice (some ⟨vb, 0, none⟩) 1 1] W fun e w' => ∃ v', e = .returned v' ∧ RI w' w0.heap.size v' (l.take i ++ x :: l.drop i) ∧ Below w0.heap.size w0 w' := by
 have hown := Kd.xM h
 have hvs : ∀ (j : Nat) (u : Value), ([Value.int .i64 x] : List Value)[j]? = some u → W.cell? ⟨vb, 0 + j, none⟩ = some u := fun j u hj => by
  cases j with
  | zero =>
   obtain rfl := Option.some.inj hj
   exact (zx hvb 0).trans rfl
  | succ j => cases hj
 have h1v : ∀ u ∈ ([Value.int .i64 x] : List Value), u.oneCell' = true := fun u hu => by rw [List.mem_singleton.1 hu]; rfl
 have hmx : (1001 : Nat) ≤ maxLen := by decide
 rcases hown.2 with ⟨rfl, h0⟩ | ⟨g, cap, cur, rfl, hg, hh, hnc, hcm, hcs, htk⟩
 ·obtain rfl : l = [] := List.length_eq_zero_iff.1 h0
  obtain rfl : i = 0 := by simpa using hi
  have hc := Any2.slices_Insert_int_end_grow Tryz.qXz none 0 0 vb 0 1 1 [] [.int .i64 x] W (by decide) (by decide) (by decide) (by decide) rfl rfl (fun _ => rfl) (fun a ha => by cases ha) hvs h1v
  refine (show Calls Tryz.prog 83 #[.slice none 0 0, .int .i64 (0 : Nat), .slice (some ⟨vb, 0, none⟩) 1 1] W _ from hc).mono ?_
  rintro e w' ⟨rfl, rfl⟩
  refine ⟨_, rfl, ?_, (HB.drew).alloc (by have := HB.size; simpa using this) _⟩
  refine row_of (n := 1) rfl HB.size (xB W.drew _) (grownCap_ge ..) (grownCap_le_maxLen _ _ _ _ (by omega)) ?_ ?_
  ·rw [Array.size_append, size_zeroCells]
   have := grownCap_ge W (0 + 1) 0 3
   show 1 + (grownCap W (0 + 1) 0 3 - (0 + 1)) * 1 = grownCap W (0 + 1) 0 3
   omega
  ·intro k hk
   obtain rfl : k = 0 := by omega
   rw [Array.getElem?_append_left (by simp)]
   rfl
 ·obtain ⟨n, hnl⟩ : ∃ n, n = l.length := ⟨_, rfl⟩
  obtain ⟨cs, hcse⟩ : ∃ cs, cs = l.map (Value.int .i64) := ⟨_, rfl⟩
  have hcl : cs.length = n := by rw [hcse, List.length_map, hnl]
  rw [← hnl] at hnc hi hl ⊢
  have hcs' : cur.size = cap := by omega
  have hcur : ∀ k, k < n → cur[k]? = cs[k]? := fun k hk => by
   have h9 : (cur.toList.take (l.length * 1))[k]? = (encs (Value.int .i64) l)[k]? := by rw [htk]
   rw [List.getElem?_take, if_pos (by omega), Array.getElem?_toList] at h9
   rw [h9, hcse]
   rfl
  have hgv : vb ≠ g := fun e => hne (by rw [e]; rfl)
  have hc1 : ∀ u ∈ cs, u.oneCell' = true := fun u hu => by
   rw [hcse] at hu
   obtain ⟨z, _, rfl⟩ := List.mem_map.1 hu
   rfl
  have hcell : ∀ (j : Nat) (u : Value), cs[j]? = some u → W.cell? ⟨g, 0 + j, none⟩ = some u := fun j u hj => by
   have hjl : j < n := by
    rw [← hcl]
    exact (List.getElem?_eq_some_iff.1 hj).1
   rw [Nat.zero_add]
   exact (zx hh j).trans ((hcur j hjl).trans hj)
  have hil : (l.take i ++ x :: l.drop i).length = n + 1 := by rw [ins_len l i x (by omega), hnl]
  have hget : ∀ k, ((l.take i ++ x :: l.drop i).map (Value.int .i64))[k]? = if k < i then cs[k]? else if k = i then some (Value.int .i64 x) else cs[k - 1]? := fun k => by
   rw [ins_get l i x (by omega), hcse]
  have hc63 : cap ≤ 9223372036854775807 := Nat.le_trans hcm (by decide)
  by_cases hroom : n + 1 ≤ cap
  ·have hsp : ∀ j, j < n + 1 → (W.cell? ⟨g, 0 + j, none⟩).isSome = true := fun j hj => by
    rw [Nat.zero_add, zx hh j, Array.getElem?_eq_getElem (by omega)]
    rfl
   by_cases hin : i < n
   ·have hsa : W.shape? vb = some (3, 1) := by
     unfold World.shape?
     rw [hvb]
     rfl
    have hsb : W.shape? g = some (3, cap) := by
     unfold World.shape?
     rw [hh]
     show some (3, cur.size) = _
     rw [hcs']
    have hc := Any2.slices_Insert_int_shift Tryz.qXz g 0 n cap i vb 0 1 1 cs [.int .i64 x] W hin (by decide) hroom hc63 hgv hcl rfl hcell hsp (fun j _ => qX hh _) hvs hc1 h1v 3 3 1 cap hsa hsb (by omega) (qX hvb 0) (qX hvb 1)
    refine (show Calls Tryz.prog 83 #[.slice (some ⟨g, 0, none⟩) n cap, .int .i64 i, .slice (some ⟨vb, 0, none⟩) 1 1] W _ from hc).mono ?_
    rintro e w' ⟨rfl, rfl⟩
    refine ⟨_, rfl, ?_, uj hg _ _ _ (uj hg _ _ _ HB.drew)⟩
    refine row_of hil hg (uY _ _ _ _ (uY _ _ _ _ (show W.drew.heap[g]? = _ from hh))) hroom hcm (by rw [yY, yY]; exact hcs') fun k hk => ?_
    rw [hget, uP _ _ _ (by rw [yY]; show 0 + i + 1 ≤ _; omega)]
    show (if 0 + i ≤ k ∧ k < 0 + i + 1 then _ else _) = _
    by_cases c1 : k = i
    ·rw [if_pos (by omega), if_neg (by omega), if_pos c1, c1]
     simp
    ·rw [if_neg (by omega), if_neg c1, uP _ _ _ (by rw [List.length_drop, hcl]; omega), List.length_drop, hcl]
     by_cases c2 : k < i
     ·rw [if_neg (by omega), if_pos c2]
      exact hcur k (by omega)
     ·rw [if_pos (by omega), if_neg c2, List.getElem?_drop]
      congr 1
      omega
   ·obtain rfl : i = n := by omega
    have hc := Any2.slices_Insert_int_end_room Tryz.qXz g 0 i cap vb 0 1 1 [.int .i64 x] W (by decide) hroom hc63 rfl (fun j hj => by
     obtain rfl : j = 0 := by omega
     have := hsp i (by omega)
     exact this) (fun j _ => qX hh _) hvs h1v
    refine (show Calls Tryz.prog 83 #[.slice (some ⟨g, 0, none⟩) i cap, .int .i64 i, .slice (some ⟨vb, 0, none⟩) 1 1] W _ from hc).mono ?_
    rintro e w' ⟨rfl, rfl⟩
    refine ⟨_, rfl, ?_, uj hg _ _ _ HB⟩
    refine row_of hil hg (uY _ _ _ _ hh) hroom hcm (by rw [yY]; exact hcs') fun k hk => ?_
    rw [hget, uP _ _ _ (by show 0 + i + 1 ≤ _; omega)]
    show (if 0 + i ≤ k ∧ k < 0 + i + 1 then _ else _) = _
    by_cases c1 : k = i
    ·rw [if_pos (by omega), if_neg (by omega), if_pos c1, c1]
     simp
    ·rw [if_neg (by omega), if_pos (by omega)]
     exact hcur k (by omega)
  ·by_cases hin : i < n
   ·have hc := Any2.slices_Insert_int_grow Tryz.qXz g 0 n cap i vb 0 1 1 cs [.int .i64 x] W hin (by decide) hnc (by omega) (by omega) hcl rfl hcell hvs hc1 h1v
    refine (show Calls Tryz.prog 83 #[.slice (some ⟨g, 0, none⟩) n cap, .int .i64 i, .slice (some ⟨vb, 0, none⟩) 1 1] W _ from hc).mono ?_
    rintro e w' ⟨rfl, rfl⟩
    have hge := grownCap_ge W (n + 1) cap 3
    refine ⟨_, rfl, ?_, uj HB.size _ _ _ (qD (uj HB.size _ _ _ (qD (HB.alloc HB.size _))))⟩
    obtain ⟨C, hC⟩ : ∃ C, C = (cs.take i).toArray ++ Builtin.zeroCells (Value.int .i64 0).cells (n + 1 - i) ++ Builtin.zeroCells (Value.int .i64 0).cells (grownCap W (n + 1) cap 3 - (n + 1)) := ⟨_, rfl⟩
    have hCs : C.size = grownCap W (n + 1) cap 3 := by
     rw [hC, Array.size_append, Array.size_append, size_zeroCells, size_zeroCells, List.size_toArray, List.length_take, hcl]
     show min i n + (n + 1 - i) * 1 + (grownCap W (n + 1) cap 3 - (n + 1)) * 1 = _
     omega
    have hb1 : (W.alloc (.cells C 3)).heap[W.heap.size]? = some (.cells C 3 (0, 0)) := xB W _
    rw [hC] at hb1
    refine row_of hil HB.size (uY _ _ _ _ (show _ = _ from uY [.int .i64 x] i (World.drew (W.alloc _)) _ hb1)) hge (grownCap_le_maxLen _ _ _ _ (by omega)) (by rw [yY, yY, ← hC]; exact hCs) fun k hk => ?_
    rw [← hC, hget, uP _ _ _ (by rw [yY, List.length_drop, hcl]; omega), List.length_drop, hcl]
    by_cases c1 : i + 1 ≤ k
    ·rw [if_pos (by omega), if_neg (by omega), if_neg (by omega), List.getElem?_drop]
     congr 1
     omega
    ·rw [if_neg (by omega), uP _ _ _ (by show i + 1 ≤ _; omega)]
     show (if i ≤ k ∧ k < i + 1 then _ else _) = _
     by_cases c2 : k = i
     ·rw [if_pos (by omega), if_neg (by omega), if_pos c2, c2]
      simp
     ·rw [if_neg (by omega), if_pos (by omega), hC, Array.append_assoc, Array.getElem?_append_left (by rw [List.size_toArray, List.length_take, hcl]; omega), List.getElem?_toArray, List.getElem?_take, if_pos (by omega)]
   ·obtain rfl : i = n := by omega
    have hc := Any2.slices_Insert_int_end_grow Tryz.qXz (some ⟨g, 0, none⟩) i cap vb 0 1 1 cs [.int .i64 x] W (by decide) hnc (by omega) (by omega) hcl rfl (fun e => by cases e) (fun a ha j u hj => by
     obtain rfl := Option.some.inj ha
     rw [Addr.add_lit]
     exact hcell j u hj) hvs h1v
    refine (show Calls Tryz.prog 83 #[.slice (some ⟨g, 0, none⟩) i cap, .int .i64 i, .slice (some ⟨vb, 0, none⟩) 1 1] W _ from hc).mono ?_
    rintro e w' ⟨rfl, rfl⟩
    have hge := grownCap_ge W (i + 1) cap 3
    refine ⟨_, rfl, ?_, (HB.drew).alloc (by have := HB.size; simpa using this) _⟩
    refine row_of hil HB.size (xB W.drew _) hge (grownCap_le_maxLen _ _ _ _ (by omega)) ?_ fun k hk => ?_
    ·rw [Array.size_append, size_zeroCells, List.size_toArray, List.length_append, hcl]
     show i + 1 + (grownCap W (i + 1) cap 3 - (i + 1)) * 1 = grownCap W (i + 1) cap 3
     omega
    ·rw [hget, Array.getElem?_append_left (by rw [List.size_toArray, List.length_append, hcl]; exact hk), List.getElem?_toArray]
     by_cases c1 : k = i
     ·rw [if_neg (by omega), if_pos c1, c1, List.getElem?_append_right (by omega), hcl, Nat.sub_self]
      rfl
     ·rw [if_pos (by omega), List.getElem?_append_left (by omega)]
end Go.Proofs.YtaihfoihlbileaaGreatDoor.R7
namespace Go.Proofs.YtaihfoihlbileaaGreatDoor.R7
open Go.Sort Go.Proofs
variable {α : Type} [Inhabited α]
theorem le_lt {lt : α → α → Bool} (h : SWO lt) {x y z : α} (h1 : lt y x = false) (h2 : lt y z = true) : lt x z = true := by
 cases h3 : lt x z with
 | true => rfl
 | false =>
  rw [h.ntrans y x z h1 h3] at h2
  cases h2
theorem lt_le {lt : α → α → Bool} (h : SWO lt) {x y z : α} (h1 : lt x y = true) (h2 : lt z y = false) : lt x z = true := by
 cases h3 : lt x z with
 | true => rfl
 | false =>
  rw [h.ntrans x z y h3 h2] at h1
  cases h1
theorem lt_no {lt : α → α → Bool} (h : SWO lt) {x y : α} (h1 : lt x y = true) : lt y x = false := h.asymmA h1
theorem zCk (p : Nat → Bool) : ∀ (n i j : Nat), j - i ≤ n → i ≤ j → (∀ c c', i ≤ c → c ≤ c' → c' < j → p c = false → p c' = false) →
  (∀ c, i ≤ c → c < bsL p i j → p c = true) ∧ (∀ c, bsL p i j ≤ c → c < j → p c = false) := by
 intro n
 induction n with
 | zero =>
  intro i j h hij _
  rw [bsL, if_neg (by omega)]
  exact ⟨fun c h1 h2 => by omega, fun c h1 h2 => by omega⟩
 | succ n ih =>
  intro i j h hij hm
  rw [bsL]
  by_cases hlt : i < j
  ·rw [if_pos hlt]
   by_cases hp : p ((i + j) / 2) = true
   ·rw [if_pos hp]
    obtain ⟨h1, h2⟩ := ih ((i + j) / 2 + 1) j (by omega) (by omega) (fun c c' g1 g2 g3 => hm c c' (by omega) g2 g3)
    refine ⟨fun c g1 g2 => ?_, h2⟩
    by_cases hc : (i + j) / 2 < c
    ·exact h1 c (by omega) g2
    ·cases hpc : p c with
     | true => rfl
     | false =>
      rw [hm c ((i + j) / 2) g1 (by omega) (by omega) hpc] at hp
      cases hp
   ·rw [if_neg hp]
    have hpf : p ((i + j) / 2) = false := by simpa using hp
    obtain ⟨h1, h2⟩ := ih i ((i + j) / 2) (by omega) (by omega) (fun c c' g1 g2 g3 => hm c c' g1 g2 (by omega))
    have hb := (qZm p n i ((i + j) / 2) (by omega) (by omega)).2
    refine ⟨h1, fun c g1 g2 => ?_⟩
    by_cases hc : c < (i + j) / 2
    ·exact h2 c g1 hc
    ·exact hm _ c (by omega) (by omega) g2 hpf
  ·rw [if_neg hlt]
   exact ⟨fun c h1 h2 => by omega, fun c h1 h2 => by omega⟩
theorem zZg (d : Array α) (a b : Nat) : ∀ i, a + i ≤ b → b + i ≤ d.size → ∀ k, (uM d a b i)[k]! = if a ≤ k ∧ k < a + i then d[k + (b - a)]! else if b ≤ k ∧ k < b + i then d[k - (b - a)]! else d[k]!
 | 0, _, _, k => by
  rw [if_neg (by omega), if_neg (by omega)]
  rfl
 | i + 1, h1, h2, k => by
  have ih := zZg d a b i (by omega) (by omega)
  unfold uM
  rw [swp_get _ (by rw [xC]; omega) (by rw [xC]; omega)]
  by_cases e1 : k = b + i
  ·rw [if_pos e1, ih, if_neg (by omega), if_neg (by omega), if_neg (by omega), if_pos (by omega)]
   congr 1
   omega
  ·rw [if_neg e1]
   by_cases e2 : k = a + i
   ·rw [if_pos e2, ih, if_neg (by omega), if_neg (by omega), if_pos (by omega)]
    congr 1
    omega
   ·rw [if_neg e2, ih]
    by_cases e3 : a ≤ k ∧ k < a + i
    ·rw [if_pos e3, if_pos (by omega)]
    ·rw [if_neg e3]
     by_cases e4 : b ≤ k ∧ k < b + i
     ·rw [if_pos e4, if_neg (by omega), if_pos (by omega)]
     ·rw [if_neg e4, if_neg (by omega), if_neg (by omega)]
theorem rotL_get (m : Nat) : ∀ (n i j : Nat) (d : Array α), i + j ≤ n → i ≤ m → m + j ≤ d.size → ∀ k, (rotL m i j d)[k]! = if m - i ≤ k ∧ k < m - i + j then d[k + i]! else if m - i + j ≤ k ∧ k < m + j then d[k - j]! else d[k]! := by
 intro n
 induction n with
 | zero =>
  intro i j d h hm hs k
  obtain rfl : i = 0 := by omega
  obtain rfl : j = 0 := by omega
  rw [rotL, if_pos rfl, if_neg (by omega), if_neg (by omega)]
  rfl
 | succ n ih =>
  intro i j d h hm hs k
  rw [rotL]
  by_cases e : i = j
  ·subst e
   rw [if_pos rfl, zZg d (m - i) m i (by omega) (by omega)]
   rw [show m - (m - i) = i by omega, show m - i + i = m by omega]
  ·rw [if_neg e]
   by_cases z : i = 0 ∨ j = 0
   ·rw [if_pos z]
    by_cases h1 : m - i ≤ k ∧ k < m - i + j
    ·rw [if_pos h1]
     congr 1
     omega
    ·rw [if_neg h1]
     by_cases h2 : m - i + j ≤ k ∧ k < m + j
     ·rw [if_pos h2]
      congr 1
      omega
     ·rw [if_neg h2]
   ·rw [if_neg z]
    by_cases l : j < i
    ·rw [if_pos l, ih (i - j) j _ (by omega) (by omega) (by rw [xC]; exact hs)]
     have g := zZg d (m - i) m j (by omega) (by omega)
     by_cases h1 : m - i ≤ k ∧ k < m - i + j
     ·rw [if_pos h1, if_neg (by omega), if_neg (by omega), g, if_pos (by omega)]
      congr 1
      omega
     ·rw [if_neg h1]
      by_cases h2 : m - i + j ≤ k ∧ k < m + j
      ·rw [if_pos h2]
       by_cases h3 : m - (i - j) ≤ k ∧ k < m - (i - j) + j
       ·rw [if_pos h3, g, if_neg (by omega), if_pos (by omega)]
        congr 1
        omega
       ·rw [if_neg h3, if_pos (by omega), g, if_neg (by omega), if_neg (by omega)]
      ·rw [if_neg h2, if_neg (by omega), if_neg (by omega), g, if_neg (by omega), if_neg (by omega)]
    ·rw [if_neg l, ih i (j - i) _ (by omega) (by omega) (by rw [xC]; omega)]
     have g := zZg d (m - i) (m + j - i) i (by omega) (by omega)
     by_cases h1 : m - i ≤ k ∧ k < m - i + j
     ·rw [if_pos h1]
      by_cases h3 : m - i ≤ k ∧ k < m - i + (j - i)
      ·rw [if_pos h3, g, if_neg (by omega), if_neg (by omega)]
      ·rw [if_neg h3, if_pos (by omega), g, if_pos (by omega)]
       congr 1
       omega
     ·rw [if_neg h1]
      by_cases h2 : m - i + j ≤ k ∧ k < m + j
      ·rw [if_pos h2, if_neg (by omega), if_neg (by omega), g, if_neg (by omega), if_pos (by omega)]
       congr 1
       omega
      ·rw [if_neg h2, if_neg (by omega), if_neg (by omega), g, if_neg (by omega), if_neg (by omega)]
theorem zYj (d : Array α) (a : Nat) : ∀ t, a + t < d.size → ∀ k, (yL d a t)[k]! = if a ≤ k ∧ k < a + t then d[k + 1]! else if k = a + t then d[a]! else d[k]!
 | 0, _, k => by
  rw [if_neg (by omega)]
  by_cases e : k = a + 0
  ·rw [if_pos e, e]
   rfl
  ·rw [if_neg e]
   rfl
 | t + 1, h, k => by
  have ih := zYj d a t (by omega)
  unfold yL
  rw [swp_get _ (by rw [yG]; omega) (by rw [yG]; omega)]
  by_cases e1 : k = a + t + 1
  ·rw [if_pos e1, ih, if_neg (by omega), if_pos rfl, if_neg (by omega), if_pos (by omega)]
  ·rw [if_neg e1]
   by_cases e2 : k = a + t
   ·rw [if_pos e2, ih, if_neg (by omega), if_neg (by omega), if_pos (by omega), e2]
   ·rw [if_neg e2, ih]
    by_cases e3 : a ≤ k ∧ k < a + t
    ·rw [if_pos e3, if_pos (by omega)]
    ·rw [if_neg e3, if_neg e2, if_neg (by omega), if_neg (by omega)]
theorem zYk (d : Array α) (m : Nat) (hm : m < d.size) : ∀ t, t ≤ m → ∀ k, (yC d m t)[k]! = if k = m - t then d[m]! else if m - t < k ∧ k ≤ m then d[k - 1]! else d[k]!
 | 0, _, k => by
  by_cases e : k = m - 0
  ·rw [if_pos e, e]
   rfl
  ·rw [if_neg e, if_neg (by omega)]
   rfl
 | t + 1, h, k => by
  have ih := zYk d m hm t (by omega)
  unfold yC
  rw [swp_get _ (by rw [yH]; omega) (by rw [yH]; omega)]
  by_cases e1 : k = m - t - 1
  ·rw [if_pos e1, ih, if_pos rfl, if_pos (by omega)]
  ·rw [if_neg e1]
   by_cases e2 : k = m - t
   ·rw [if_pos e2, ih, if_neg (by omega), if_neg (by omega), if_neg (by omega), if_pos (by omega), e2]
   ·rw [if_neg e2, ih, if_neg e2]
    by_cases e3 : m - t < k ∧ k ≤ m
    ·rw [if_pos e3, if_neg (by omega), if_pos (by omega)]
    ·rw [if_neg e3, if_neg (by omega), if_neg (by omega)]
theorem zQb (d : Array α) (A B a b : Nat) : ∀ i, A ≤ a → A ≤ b → a + i ≤ B → b + i ≤ B → B ≤ d.size → PermIn A B d (uM d a b i)
 | 0, _, _, _, _, _ => permIn_refl d A B
 | i + 1, h1, h2, h3, h4, h5 => permIn_trans _ _ _ A B (zQb d A B a b i h1 h2 (by omega) (by omega) h5) (swp_permIn _ A B (a + i) (b + i) (by omega) (by omega) (by omega) (by omega) (by rw [xC]; exact h5))
theorem qVx (A B m : Nat) : ∀ (n i j : Nat) (d : Array α), i + j ≤ n → A + i ≤ m → m + j ≤ B → B ≤ d.size → PermIn A B d (rotL m i j d) := by
 intro n
 induction n with
 | zero =>
  intro i j d h h1 h2 h3
  obtain rfl : i = 0 := by omega
  obtain rfl : j = 0 := by omega
  rw [rotL, if_pos rfl]
  exact permIn_refl d A B
 | succ n ih =>
  intro i j d h h1 h2 h3
  rw [rotL]
  split
  ·exact zQb d A B _ _ i (by omega) (by omega) (by omega) (by omega) h3
  ·split
   ·exact permIn_refl d A B
   ·split
    ·exact permIn_trans _ _ _ A B (zQb d A B _ _ j (by omega) (by omega) (by omega) (by omega) h3) (ih _ _ _ (by omega) (by omega) (by omega) (by rw [xC]; exact h3))
    ·exact permIn_trans _ _ _ A B (zQb d A B _ _ i (by omega) (by omega) (by omega) (by omega) h3) (ih _ _ _ (by omega) (by omega) (by omega) (by rw [xC]; exact h3))
theorem zVh (d : Array α) (A B a : Nat) : ∀ t, A ≤ a → a + t < B → B ≤ d.size → PermIn A B d (yL d a t)
 | 0, _, _, _ => permIn_refl d A B
 | t + 1, h1, h2, h3 => permIn_trans _ _ _ A B (zVh d A B a t h1 (by omega) h3) (swp_permIn _ A B _ _ (by omega) (by omega) (by omega) (by omega) (by rw [yG]; exact h3))
theorem zVl (d : Array α) (A B m : Nat) : ∀ t, A + t ≤ m → m < B → B ≤ d.size → PermIn A B d (yC d m t)
 | 0, _, _, _ => permIn_refl d A B
 | t + 1, h1, h2, h3 => permIn_trans _ _ _ A B (zVl d A B m t (by omega) h2 h3) (swp_permIn _ A B _ _ (by omega) (by omega) (by omega) (by omega) (by rw [yH]; exact h3))
theorem yM {d d' : Array α} {a b a' b' : Nat} (h : PermIn a b d d') (h1 : a' ≤ a) (h2 : b ≤ b') (h3 : b' ≤ d.size) : PermIn a' b' d d' := permIn_mono d d' a b a' b' h1 h2 h3 h
section
variable {lt : α → α → Bool} {cf : α → α → Int}
def qKf (lt : α → α → Bool) (cf : α → α → Int) (a m b : Nat) (d : Array α) : Prop := ∀ i j, a ≤ i → i < m → m ≤ j → j < b → (decide (cf d[j]! d[i]! < 0)) = lt d[j]! d[i]!
theorem symA_one (hS : SWO lt) {d : Array α} {a m b : Nat} (h1 : m - a = 1) (hmb : m ≤ b) (hb : b ≤ d.size) (s2 : SortedIn lt m b d) (hc : qKf lt cf a m b d) :
  PermIn a b d (symA cf d a m b) ∧ SortedIn lt a b (symA cf d a m b) := by
 rw [symA, if_pos h1]
 have hp : ∀ h, m ≤ h → h < b → (decide (cf d[h]! d[a]! < 0)) = lt d[h]! d[a]! := fun h g1 g2 => hc a h (by omega) (by omega) g1 g2
 obtain ⟨q1, q2⟩ := zCk (fun h => decide (cf d[h]! d[a]! < 0)) (b - m) m b (Nat.le_refl _) hmb (fun c c' g1 g2 g3 g4 => by
  show decide _ = false
  rw [hp c' (by omega) g3]
  have g4' : lt d[c]! d[a]! = false := (hp c g1 (by omega)).symm.trans g4
  by_cases e : c = c'
  ·rw [← e]; exact g4'
  ·exact hS.ntrans _ _ _ (s2 c c' g1 (by omega) g3) g4')
 obtain ⟨r1, r2⟩ := qZm (fun h => decide (cf d[h]! d[a]! < 0)) (b - m) m b (Nat.le_refl _) hmb
 generalize bsL (fun h => decide (cf d[h]! d[a]! < 0)) m b = r at q1 q2 r1 r2 ⊢
 have q1' : ∀ c, m ≤ c → c < r → lt d[c]! d[a]! = true := fun c g1 g2 => (hp c g1 (by omega)).symm.trans (q1 c g1 g2)
 have q2' : ∀ c, r ≤ c → c < b → lt d[c]! d[a]! = false := fun c g1 g2 => (hp c (by omega) g2).symm.trans (q2 c g1 g2)
 refine ⟨zVh d a b a _ (Nat.le_refl _) (by omega) hb, fun i j g1 g2 g3 => ?_⟩
 have g := zYj d a (r - 1 - a) (by omega)
 rw [g, g]
 by_cases c1 : a ≤ j ∧ j < a + (r - 1 - a)
 ·rw [if_pos c1, if_pos (by omega)]
  exact s2 _ _ (by omega) (by omega) (by omega)
 ·rw [if_neg c1]
  by_cases c2 : j = a + (r - 1 - a)
  ·rw [if_pos c2, if_pos (by omega)]
   exact lt_no hS (q1' _ (by omega) (by omega))
  ·rw [if_neg c2]
   by_cases c3 : a ≤ i ∧ i < a + (r - 1 - a)
   ·rw [if_pos c3]
    exact s2 _ _ (by omega) (by omega) g3
   ·rw [if_neg c3]
    by_cases c4 : i = a + (r - 1 - a)
    ·rw [if_pos c4]
     exact q2' _ (by omega) g3
    ·rw [if_neg c4]
     exact s2 _ _ (by omega) g2 g3
theorem symA_two (hS : SWO lt) {d : Array α} {a m b : Nat} (h1 : ¬ m - a = 1) (h2 : b - m = 1) (ham : a ≤ m) (hb : b ≤ d.size) (s1 : SortedIn lt a m d) (hc : qKf lt cf a m b d) :
  PermIn a b d (symA cf d a m b) ∧ SortedIn lt a b (symA cf d a m b) := by
 rw [symA, if_neg h1, if_pos h2]
 have hp : ∀ h, a ≤ h → h < m → (!(decide (cf d[m]! d[h]! < 0))) = !(lt d[m]! d[h]!) := fun h g1 g2 => by rw [hc h m g1 g2 (Nat.le_refl _) (by omega)]
 obtain ⟨q1, q2⟩ := zCk (fun h => !(decide (cf d[m]! d[h]! < 0))) (m - a) a m (Nat.le_refl _) ham (fun c c' g1 g2 g3 g4 => by
  show (!(decide _)) = false
  rw [hp c' (by omega) g3]
  have g4' : (!(lt d[m]! d[c]!)) = false := (hp c g1 (by omega)).symm.trans g4
  have g5 : lt d[m]! d[c]! = true := by simpa using g4'
  by_cases e : c = c'
  ·rw [← e, g5]; rfl
  ·rw [lt_le hS g5 (s1 c c' g1 (by omega) g3)]; rfl)
 obtain ⟨r1, r2⟩ := qZm (fun h => !(decide (cf d[m]! d[h]! < 0))) (m - a) a m (Nat.le_refl _) ham
 generalize bsL (fun h => !(decide (cf d[m]! d[h]! < 0))) a m = r at q1 q2 r1 r2 ⊢
 have q1' : ∀ c, a ≤ c → c < r → lt d[m]! d[c]! = false := fun c g1 g2 => by
  have := (hp c g1 (by omega)).symm.trans (q1 c g1 g2)
  simpa using this
 have q2' : ∀ c, r ≤ c → c < m → lt d[m]! d[c]! = true := fun c g1 g2 => by
  have := (hp c (by omega) g2).symm.trans (q2 c g1 g2)
  simpa using this
 refine ⟨zVl d a b m _ (by omega) (by omega) hb, fun i j g1 g2 g3 => ?_⟩
 have g := zYk d m (by omega) (m - r) (by omega)
 rw [g, g]
 by_cases c1 : j = m - (m - r)
 ·rw [if_pos c1, if_neg (by omega), if_neg (by omega)]
  exact q1' _ g1 (by omega)
 ·rw [if_neg c1]
  by_cases c2 : m - (m - r) < j ∧ j ≤ m
  ·rw [if_pos c2]
   by_cases c3 : i = m - (m - r)
   ·rw [if_pos c3]
    exact lt_no hS (q2' _ (by omega) (by omega))
   ·rw [if_neg c3]
    by_cases c4 : m - (m - r) < i ∧ i ≤ m
    ·rw [if_pos c4]
     exact s1 _ _ (by omega) (by omega) (by omega)
    ·rw [if_neg c4]
     exact s1 _ _ g1 (by omega) (by omega)
  ·rw [if_neg c2, if_neg (by omega), if_neg (by omega)]
   exact s1 _ _ g1 g2 (by omega)
theorem symA_ok (hS : SWO lt) : ∀ (N a m b : Nat) (d : Array α), b - a ≤ N → a < m → m < b → b ≤ d.size → SortedIn lt a m d → SortedIn lt m b d → qKf lt cf a m b d →
  PermIn a b d (symA cf d a m b) ∧ SortedIn lt a b (symA cf d a m b) := by
 intro N
 induction N with
 | zero =>
  intro a m b d h
  omega
 | succ N ih =>
  intro a m b d hN ham hmb hb s1 s2 hc
  by_cases h1 : m - a = 1
  ·exact symA_one hS h1 (by omega) hb s2 hc
  by_cases h2 : b - m = 1
  ·exact symA_two hS h1 h2 (by omega) hb s1 hc
  rw [kS cf d a m b h1 h2]
  obtain ⟨mid, hmid⟩ : ∃ mid, mid = (a + b) / 2 := ⟨_, rfl⟩
  obtain ⟨lo, hlo⟩ : ∃ lo, lo = if mid < m then mid + m - b else a := ⟨_, rfl⟩
  obtain ⟨hi, hhi⟩ : ∃ hi, hi = if mid < m then mid else m := ⟨_, rfl⟩
  have hlh : a ≤ lo ∧ lo ≤ hi ∧ hi ≤ m ∧ hi ≤ mid ∧ (∀ c, lo ≤ c → c < hi → m ≤ mid + m - 1 - c ∧ mid + m - 1 - c < b) := by
   rw [hlo, hhi]
   split
   ·exact ⟨by omega, by omega, by omega, by omega, fun c g1 g2 => by omega⟩
   ·exact ⟨by omega, by omega, by omega, by omega, fun c g1 g2 => by omega⟩
  obtain ⟨ha1, hlh1, hhm, hhmid, hpr⟩ := hlh
  have hp : ∀ c, lo ≤ c → c < hi → (!(decide (cf d[mid + m - 1 - c]! d[c]! < 0))) = !(lt d[mid + m - 1 - c]! d[c]!) := fun c g1 g2 => by
   rw [hc c (mid + m - 1 - c) (by omega) (by omega) (hpr c g1 g2).1 (hpr c g1 g2).2]
  obtain ⟨q1, q2⟩ := zCk (fun c => !(decide (cf d[mid + m - 1 - c]! d[c]! < 0))) (hi - lo) lo hi (Nat.le_refl _) hlh1 (fun c c' g1 g2 g3 g4 => by
   show (!(decide _)) = false
   rw [hp c' (by omega) g3]
   have g4' : (!(lt d[mid + m - 1 - c]! d[c]!)) = false := (hp c g1 (by omega)).symm.trans g4
   have g5 : lt d[mid + m - 1 - c]! d[c]! = true := by simpa using g4'
   by_cases e : c = c'
   ·rw [← e, g5]; rfl
   ·have k1 := hpr c g1 (by omega)
    have k2 := hpr c' (by omega) g3
    have g6 := lt_le hS g5 (s1 c c' (by omega) (by omega) (by omega))
    rw [le_lt hS (s2 (mid + m - 1 - c') (mid + m - 1 - c) k2.1 (by omega) k1.2) g6]
    rfl)
  obtain ⟨r1, r2⟩ := qZm (fun c => !(decide (cf d[mid + m - 1 - c]! d[c]! < 0))) (hi - lo) lo hi (Nat.le_refl _) hlh1
  have hsy : symS cf d a m b = bsL (fun c => !(decide (cf d[mid + m - 1 - c]! d[c]! < 0))) lo hi := by
   unfold symS
   rw [hlo, hhi, hmid]
  rw [hsy, ← hmid]
  generalize bsL (fun c => !(decide (cf d[mid + m - 1 - c]! d[c]! < 0))) lo hi = s at q1 q2 r1 r2 ⊢
  have p1 : ∀ c, lo ≤ c → c < s → lt d[mid + m - 1 - c]! d[c]! = false := fun c g1 g2 => by
   have := (hp c g1 (by omega)).symm.trans (q1 c g1 g2)
   simpa using this
  have p2 : ∀ c, s ≤ c → c < hi → lt d[mid + m - 1 - c]! d[c]! = true := fun c g1 g2 => by
   have := (hp c (by omega) g2).symm.trans (q2 c g1 g2)
   simpa using this
  obtain ⟨e, he⟩ : ∃ e, e = mid + m - s := ⟨_, rfl⟩
  rw [← he]
  have hbd : a ≤ s ∧ s ≤ m ∧ s ≤ mid ∧ m ≤ e ∧ mid ≤ e ∧ e ≤ b ∧ a < mid ∧ mid < b := by
   have : (mid < m → lo = mid + m - b) ∧ (¬ mid < m → lo = a) := by
    rw [hlo]
    constructor
    ·intro h; rw [if_pos h]
    ·intro h; rw [if_neg h]
   omega
  obtain ⟨b1, b2, b3, b4, b5, b6, b7, b8⟩ := hbd
  have hlo1 : s = lo → (s = a ∨ e = b) := by
   intro h
   rw [hlo] at h
   split at h
   ·exact .inr (by omega)
   ·exact .inl h
  have hhi1 : s = hi → (e = m ∨ s = m) := by
   intro h
   rw [hhi] at h
   split at h
   ·exact .inl (by omega)
   ·exact .inr h
  obtain ⟨d1, hd1⟩ : ∃ d1, d1 = if s < m ∧ m < e then rotA d s m e else d := ⟨_, rfl⟩
  rw [← hd1]
  have f1 : ∀ k, d1[k]! = if s ≤ k ∧ k < mid then d[k + (m - s)]! else if mid ≤ k ∧ k < e then d[k - (mid - s)]! else d[k]! := by
   intro k
   rw [hd1]
   by_cases c : s < m ∧ m < e
   ·rw [if_pos c]
    unfold rotA
    rw [rotL_get m _ (m - s) (e - m) d (Nat.le_refl _) (by omega) (by omega)]
    have k1 : (m - (m - s) ≤ k ∧ k < m - (m - s) + (mid - s)) ↔ (s ≤ k ∧ k < mid) := by omega
    have k2 : (m - (m - s) + (mid - s) ≤ k ∧ k < m + (mid - s)) ↔ (mid ≤ k ∧ k < e) := by omega
    simp only [show e - m = mid - s by omega, k1, k2]
   ·rw [if_neg c]
    by_cases c1 : s ≤ k ∧ k < mid
    ·rw [if_pos c1]
     congr 1
     omega
    ·rw [if_neg c1]
     by_cases c2 : mid ≤ k ∧ k < e
     ·rw [if_pos c2]
      congr 1
      omega
     ·rw [if_neg c2]
  have z1 : PermIn a b d d1 := by
   rw [hd1]
   split
   ·exact qVx a b m _ (m - s) (e - m) d (Nat.le_refl _) (by omega) (by omega) hb
   ·exact permIn_refl d a b
  have hb1 : b ≤ d1.size := by rw [z1.1]; exact hb
  have w1 : ∀ k, a ≤ k → k < s → d1[k]! = d[k]! := fun k g1 g2 => by rw [f1, if_neg (by omega), if_neg (by omega)]
  have w2 : ∀ k, s ≤ k → k < mid → d1[k]! = d[k + (m - s)]! := fun k g1 g2 => by rw [f1, if_pos ⟨g1, g2⟩]
  have w3 : ∀ k, mid ≤ k → k < e → d1[k]! = d[k - (mid - s)]! := fun k g1 g2 => by rw [f1, if_neg (by omega), if_pos ⟨g1, g2⟩]
  have w4 : ∀ k, e ≤ k → k < b → d1[k]! = d[k]! := fun k g1 g2 => by rw [f1, if_neg (by omega), if_neg (by omega)]
  have t1 : SortedIn lt a s d1 := fun i j g1 g2 g3 => by
   rw [w1 i g1 (by omega), w1 j (by omega) g3]
   exact s1 _ _ g1 g2 (by omega)
  have t2 : SortedIn lt s mid d1 := fun i j g1 g2 g3 => by
   rw [w2 i g1 (by omega), w2 j (by omega) g3]
   exact s2 _ _ (by omega) (by omega) (by omega)
  have t3 : SortedIn lt mid e d1 := fun i j g1 g2 g3 => by
   rw [w3 i g1 (by omega), w3 j (by omega) g3]
   exact s1 _ _ (by omega) (by omega) (by omega)
  have t4 : SortedIn lt e b d1 := fun i j g1 g2 g3 => by
   rw [w4 i g1 (by omega), w4 j (by omega) g3]
   exact s2 _ _ (by omega) g2 g3
  have x1 : qKf lt cf a s mid d1 := fun i j g1 g2 g3 g4 => by
   rw [w1 i g1 g2, w2 j g3 g4]
   exact hc _ _ g1 (by omega) (by omega) (by omega)
  have x2 : qKf lt cf mid e b d1 := fun i j g1 g2 g3 g4 => by
   rw [w3 i g1 g2, w4 j g3 g4]
   exact hc _ _ (by omega) (by omega) (by omega) g4
  have y : ∀ i j, a ≤ i → i < mid → mid ≤ j → j < b → lt d1[j]! d1[i]! = false := by
   intro i j g1 g2 g3 g4
   by_cases c1 : i < s
   ·rw [w1 i g1 c1]
    by_cases c2 : j < e
    ·rw [w3 j g3 c2]
     exact s1 _ _ g1 (by omega) (by omega)
    ·rw [w4 j (by omega) g4]
     by_cases c3 : s = lo
     ·rcases hlo1 c3 with h | h
      ·omega
      ·omega
     ·have k1 := p1 (s - 1) (by omega) (by omega)
      rw [show mid + m - 1 - (s - 1) = e by omega] at k1
      have k2 : lt d[j]! d[e]! = false := by
       by_cases c4 : j = e
       ·rw [c4]; exact hS.irrefl _
       ·exact s2 _ _ (by omega) (by omega) g4
      have k3 : lt d[s - 1]! d[i]! = false := by
       by_cases c4 : i = s - 1
       ·rw [c4]; exact hS.irrefl _
       ·exact s1 _ _ g1 (by omega) (by omega)
      exact hS.ntrans _ _ _ k2 (hS.ntrans _ _ _ k1 k3)
   ·rw [w2 i (by omega) g2]
    by_cases c2 : j < e
    ·rw [w3 j g3 c2]
     by_cases c3 : s = hi
     ·rcases hhi1 c3 with h | h
      ·omega
      ·omega
     ·have k1 := p2 s (Nat.le_refl _) (by omega)
      rw [show mid + m - 1 - s = e - 1 by omega] at k1
      have k2 : lt d[e - 1]! d[i + (m - s)]! = false := by
       by_cases c4 : i + (m - s) = e - 1
       ·rw [c4]; exact hS.irrefl _
       ·exact s2 _ _ (by omega) (by omega) (by omega)
      have k3 : lt d[j - (mid - s)]! d[s]! = false := by
       by_cases c4 : j - (mid - s) = s
       ·rw [c4]; exact hS.irrefl _
       ·exact s1 _ _ (by omega) (by omega) (by omega)
      exact lt_no hS (lt_le hS (le_lt hS k2 k1) k3)
    ·rw [w4 j (by omega) g4]
     exact s2 _ _ (by omega) (by omega) g4
  obtain ⟨d2, hd2⟩ : ∃ d2, d2 = if a < s ∧ s < mid ∧ mid < b then symA cf d1 a s mid else d1 := ⟨_, rfl⟩
  rw [← hd2]
  have l2 : PermIn a mid d1 d2 ∧ SortedIn lt a mid d2 := by
   rw [hd2]
   by_cases c : a < s ∧ s < mid ∧ mid < b
   ·rw [if_pos c]
    exact ih a s mid d1 (by omega) c.1 c.2.1 (by omega) t1 t2 x1
   ·rw [if_neg c]
    refine ⟨permIn_refl d1 a mid, ?_⟩
    by_cases c1 : s = a
    ·rw [c1] at t2; exact t2
    ·have : s = mid := by omega
     rw [this] at t1; exact t1
  obtain ⟨l3, l4⟩ := l2
  have hb2 : b ≤ d2.size := by rw [l3.1]; exact hb1
  have o2 : ∀ k, mid ≤ k → d2[k]! = d1[k]! := fun k g => l3.2.1 k (.inr g)
  have t3' : SortedIn lt mid e d2 := fun i j g1 g2 g3 => by rw [o2 i g1, o2 j (by omega)]; exact t3 i j g1 g2 g3
  have t4' : SortedIn lt e b d2 := fun i j g1 g2 g3 => by rw [o2 i (by omega), o2 j (by omega)]; exact t4 i j g1 g2 g3
  have x2' : qKf lt cf mid e b d2 := fun i j g1 g2 g3 g4 => by rw [o2 i g1, o2 j (by omega)]; exact x2 i j g1 g2 g3 g4
  obtain ⟨d3, hd3⟩ : ∃ d3, d3 = if mid < e ∧ e < b ∧ a < mid then symA cf d2 mid e b else d2 := ⟨_, rfl⟩
  rw [← hd3]
  have l5 : PermIn mid b d2 d3 ∧ SortedIn lt mid b d3 := by
   rw [hd3]
   by_cases c : mid < e ∧ e < b ∧ a < mid
   ·rw [if_pos c]
    exact ih mid e b d2 (by omega) c.1 c.2.1 hb2 t3' t4' x2'
   ·rw [if_neg c]
    refine ⟨permIn_refl d2 mid b, ?_⟩
    by_cases c1 : e = mid
    ·rw [c1] at t4'; exact t4'
    ·have : e = b := by omega
     rw [this] at t3'; exact t3'
  obtain ⟨l6, l7⟩ := l5
  refine ⟨permIn_trans _ _ _ a b z1 (permIn_trans _ _ _ a b (yM l3 (Nat.le_refl _) (by omega) hb1) (yM l6 (by omega) (Nat.le_refl _) hb2)), ?_⟩
  have o3 : ∀ k, k < mid → d3[k]! = d2[k]! := fun k g => l6.2.1 k (.inl g)
  have y2 : ∀ i j, a ≤ i → i < mid → mid ≤ j → j < b → lt d1[j]! d2[i]! = false := fun i j g1 g2 g3 g4 =>
   permIn_all d1 d2 a mid (fun x => lt d1[j]! x = false) (by omega) l3 (fun i' h1 h2 => y i' j h1 h2 g3 g4) i g1 g2
  have y3 : ∀ i j, a ≤ i → i < mid → mid ≤ j → j < b → lt d3[j]! d2[i]! = false := fun i j g1 g2 g3 g4 =>
   permIn_all d2 d3 mid b (fun x => lt x d2[i]! = false) hb2 l6 (fun j' h1 h2 => by rw [o2 j' h1]; exact y2 i j' g1 g2 h1 h2) j g3 g4
  intro i j g1 g2 g3
  by_cases c1 : j < mid
  ·rw [o3 i (by omega), o3 j c1]
   exact l4 i j g1 g2 c1
  ·by_cases c2 : i < mid
   ·rw [o3 i c2]
    exact y3 i j g1 c2 (by omega) g3
   ·exact l7 i j (by omega) g2 g3
end
end Go.Proofs.YtaihfoihlbileaaGreatDoor.R7
namespace Go.Proofs.YtaihfoihlbileaaGreatDoor.R7
open Go.Sort Go.Proofs
section
variable {α : Type} [Inhabited α] (key : α → Int) (idx : α → Nat)
def ltL (x y : α) : Bool := decide (key x < key y ∨ (key x = key y ∧ idx x < idx y))
theorem qWl : SWO (ltL key idx) := by
 refine ⟨fun x => ?_, fun x y z h1 h2 => ?_, fun x y z h1 h2 => ?_⟩
 ·unfold ltL
  exact decide_eq_false (by omega)
 ·unfold ltL at h1 h2 ⊢
  have h1 := of_decide_eq_true h1
  have h2 := of_decide_eq_true h2
  exact decide_eq_true (by omega)
 ·unfold ltL at h1 h2 ⊢
  have h1 := of_decide_eq_false h1
  have h2 := of_decide_eq_false h2
  exact decide_eq_false (by omega)
theorem qWm {x y : α} (h : idx x < idx y) : ltL key idx y x = decide (key y < key x) := by
 unfold ltL
 by_cases c : key y < key x
 ·rw [decide_eq_true c, decide_eq_true (Or.inl c)]
 ·rw [decide_eq_false c]
  exact decide_eq_false (by omega)
theorem yj (lt : α → α → Bool) (a b i : Nat) (d : Array α) : insOuter lt a b i d = if i < b then insOuter lt a b (i + 1) (insInner lt a i d) else d := by rw [insOuter]
def Idx (a b : Nat) (d : Array α) : Prop := ∀ k, a ≤ k → k < b → a ≤ idx d[k]! ∧ idx d[k]! < b
variable {key idx} {cf : α → α → Int} (hk : ∀ x y, decide (cf x y < 0) = decide (key x < key y))
include hk
theorem zWc (a : Nat) : ∀ (j : Nat) (d : Array α), j < d.size → (∀ k, a ≤ k → k < j → idx d[k]! < idx d[j]!) → insInner (ltOf cf) a j d = insInner (ltL key idx) a j d
 | 0, d, _, _ => rfl
 | j + 1, d, hs, h => by
  unfold insInner
  by_cases c : j + 1 > a
  ·have e : ltOf cf d[j + 1]! d[j]! = ltL key idx d[j + 1]! d[j]! := by
    rw [qWm key idx (h j (by omega) (by omega))]
    unfold ltOf
    exact hk _ _
   rw [e]
   by_cases l : ltL key idx d[j + 1]! d[j]! = true
   ·rw [if_pos (by simp [c, l]), if_pos (by simp [c, l])]
    refine zWc a j _ (by rw [size_swp]; omega) fun k g1 g2 => ?_
    rw [swp_other _ _ _ _ (by omega) (by omega), swp_right _ _ _ (by omega)]
    exact h k g1 (by omega)
   ·rw [if_neg (by simp [l]), if_neg (by simp [l])]
  ·rw [if_neg (by simp; omega), if_neg (by simp; omega)]
theorem zJq (lt : α → α → Bool) (a b : Nat) : ∀ (j : Nat) (d : Array α), j < b → b ≤ d.size → PermIn a b d (insInner lt a j d)
 | 0, d, _, _ => permIn_refl d a b
 | j + 1, d, hj, hb => by
  unfold insInner
  split
  ·rename_i hc
   simp only [Bool.and_eq_true, decide_eq_true_eq] at hc
   exact permIn_trans _ _ _ a b (swp_permIn d a b (j + 1) j (by omega) hj (by omega) (by omega) hb) (zJq lt a b j _ (by omega) (by rw [size_swp]; exact hb))
  ·exact permIn_refl d a b
theorem qQy (a b : Nat) : ∀ (n i : Nat) (d : Array α), b - i ≤ n → a ≤ i → b ≤ d.size → Idx idx a i d → (∀ k, i ≤ k → k < b → idx d[k]! = k) → insOuter (ltOf cf) a b i d = insOuter (ltL key idx) a b i d := by
 intro n
 induction n with
 | zero =>
  intro i d h1 _ _ _ _
  rw [yj (ltOf cf), yj (ltL key idx), if_neg (by omega), if_neg (by omega)]
 | succ n ih =>
  intro i d h1 ha hb hi hr
  rw [yj (ltOf cf), yj (ltL key idx)]
  by_cases c : i < b
  ·rw [if_pos c, if_pos c, zWc (idx := idx) hk a i d (by omega) (fun k g1 g2 => by rw [hr i (Nat.le_refl _) c]; exact (hi k g1 g2).2)]
   have hp := zJq hk (ltL key idx) a (i + 1) i d (by omega) (by omega)
   refine ih (i + 1) _ (by omega) (by omega) (by rw [hp.1]; exact hb) (fun k g1 g2 => ?_) (fun k g1 g2 => ?_)
   ·exact permIn_all d _ a (i + 1) (fun x => a ≤ idx x ∧ idx x < i + 1) (by omega) hp (fun k' h1 h2 => by
     by_cases e : k' = i
     ·rw [e, hr i (Nat.le_refl _) c]
      omega
     ·have := hi k' h1 (by omega)
      omega) k g1 g2
   ·rw [hp.2.1 k (.inr (by omega))]
    exact hr k (by omega) g2
  ·rw [if_neg c, if_neg c]
def Blk (key : α → Int) (idx : α → Nat) (a b : Nat) (d : Array α) : Prop := SortedIn (ltL key idx) a b d ∧ Idx idx a b d
theorem zEk {a b : Nat} {d : Array α} (hab : a ≤ b) (hb : b ≤ d.size) (hr : ∀ k, a ≤ k → k < b → idx d[k]! = k) : PermIn a b d (insertionSort (ltOf cf) d a b) ∧ Blk key idx a b (insertionSort (ltOf cf) d a b) := by
 have e : insertionSort (ltOf cf) d a b = insertionSort (ltL key idx) d a b := by
  unfold insertionSort
  by_cases c : a < b
  ·refine qQy hk a b (b - (a + 1)) (a + 1) d (Nat.le_refl _) (by omega) hb (fun k g1 g2 => ?_) (fun k g1 g2 => hr k (by omega) g2)
   rw [hr k g1 (by omega)]
   omega
  ·rw [yj (ltOf cf), yj (ltL key idx), if_neg (by omega), if_neg (by omega)]
 rw [e]
 obtain ⟨h1, h2⟩ := insertionSort_holds (qWl key idx) d a b hab hb
 exact ⟨h1, h2, fun k g1 g2 => permIn_all d _ a b (fun x => a ≤ idx x ∧ idx x < b) hb h1 (fun k' p1 p2 => by rw [hr k' p1 p2]; omega) k g1 g2⟩
theorem Blk.same {a b : Nat} {d d' : Array α} (h : Blk key idx a b d) (he : ∀ k, a ≤ k → k < b → d'[k]! = d[k]!) : Blk key idx a b d' := by
 refine ⟨fun i j g1 g2 g3 => ?_, fun k g1 g2 => ?_⟩
 ·rw [he i g1 (by omega), he j (by omega) g3]
  exact h.1 i j g1 g2 g3
 ·rw [he k g1 g2]
  exact h.2 k g1 g2
theorem insB_ok (n : Nat) : ∀ (N a : Nat) (d : Array α), n - a ≤ N → a ≤ n → n = d.size → (∀ k, a ≤ k → k < n → idx d[k]! = k) →
  PermIn a n d (insB cf n a d) ∧ ∀ t, a + t * 20 < n → Blk key idx (a + t * 20) (min (a + t * 20 + 20) n) (insB cf n a d) := by
 intro N
 induction N using Nat.strongRecOn with
 | ind N ih =>
  intro a d hN ha hn hr
  rw [insB]
  by_cases c : a + 20 ≤ n
  ·rw [if_pos c]
   obtain ⟨p1, b1⟩ := zEk hk (a := a) (b := a + 20) (by omega) (by omega) (fun k g1 g2 => hr k g1 (by omega))
   generalize insertionSort (ltOf cf) d a (a + 20) = d1 at p1 b1 ⊢
   obtain ⟨p2, b2⟩ := ih (n - (a + 20)) (by omega) (a + 20) d1 (Nat.le_refl _) c (by rw [p1.1]; exact hn) (fun k g1 g2 => by rw [p1.2.1 k (.inr g1)]; exact hr k (by omega) g2)
   refine ⟨permIn_trans _ _ _ a n (yM p1 (Nat.le_refl _) c (by omega)) (yM p2 (by omega) (Nat.le_refl _) (by rw [p1.1]; omega)), fun t ht => ?_⟩
   cases t with
   | zero =>
    rw [Nat.zero_mul, Nat.add_zero, Nat.min_eq_left c]
    exact Blk.same hk b1 fun k _ g2 => p2.2.1 k (.inl g2)
   | succ t =>
    have := b2 t (by omega)
    rw [show a + (t + 1) * 20 = a + 20 + t * 20 by omega]
    exact this
  ·rw [if_neg c]
   obtain ⟨p1, b1⟩ := zEk hk (a := a) (b := n) ha (by omega) hr
   refine ⟨p1, fun t ht => ?_⟩
   obtain rfl : t = 0 := by omega
   rw [Nat.zero_mul, Nat.add_zero, Nat.min_eq_right (by omega)]
   exact b1
theorem zCc {a m b : Nat} {d : Array α} (h1 : a < m) (h2 : m < b) (hb : b ≤ d.size) (b1 : Blk key idx a m d) (b2 : Blk key idx m b d) : PermIn a b d (symA cf d a m b) ∧ Blk key idx a b (symA cf d a m b) := by
 obtain ⟨p, s⟩ := symA_ok (qWl key idx) (b - a) a m b d (Nat.le_refl _) h1 h2 hb b1.1 b2.1 (fun i j g1 g2 g3 g4 => by
  have k1 := b1.2 i g1 g2
  have k2 := b2.2 j g3 g4
  rw [qWm key idx (show idx d[i]! < idx d[j]! by omega)]
  exact hk _ _)
 refine ⟨p, s, fun k g1 g2 => permIn_all d _ a b (fun x => a ≤ idx x ∧ idx x < b) hb p (fun k' p1 p2 => ?_) k g1 g2⟩
 by_cases c : k' < m
 ·have := b1.2 k' p1 c
  omega
 ·have := b2.2 k' (by omega) p2
  omega
theorem mrgB_ok (bs n : Nat) (hbs : 0 < bs) : ∀ (N a : Nat) (d : Array α), n - a ≤ N → a ≤ n → n = d.size → (∀ t, a + t * bs < n → Blk key idx (a + t * bs) (min (a + t * bs + bs) n) d) →
  PermIn a n d (mrgB cf bs n a d) ∧ ∀ t, a + t * (bs * 2) < n → Blk key idx (a + t * (bs * 2)) (min (a + t * (bs * 2) + bs * 2) n) (mrgB cf bs n a d) := by
 intro N
 induction N using Nat.strongRecOn with
 | ind N ih =>
  intro a d hN ha hn hb
  rw [mrgB]
  by_cases c : 0 < bs ∧ a + 2 * bs ≤ n
  ·rw [if_pos c]
   have k0 := hb 0 (by omega)
   have k1 := hb 1 (by omega)
   rw [Nat.zero_mul, Nat.add_zero, Nat.min_eq_left (by omega)] at k0
   rw [Nat.one_mul, Nat.min_eq_left (by omega), show a + bs + bs = a + 2 * bs by omega] at k1
   obtain ⟨p1, b1⟩ := zCc hk (by omega) (by omega) (by omega) k0 k1
   generalize symA cf d a (a + bs) (a + 2 * bs) = d1 at p1 b1 ⊢
   obtain ⟨p2, b2⟩ := ih (n - (a + 2 * bs)) (by omega) (a + 2 * bs) d1 (Nat.le_refl _) c.2 (by rw [p1.1]; exact hn) (fun t ht => by
    have e : a + 2 * bs + t * bs = a + (t + 2) * bs := by rw [Nat.add_mul]; omega
    rw [e] at ht ⊢
    exact Blk.same hk (hb (t + 2) ht) fun k g1 g2 => p1.2.1 k (.inr (by rw [← e] at g1; omega)))
   refine ⟨permIn_trans _ _ _ a n (yM p1 (Nat.le_refl _) c.2 (by omega)) (yM p2 (by omega) (Nat.le_refl _) (by rw [p1.1]; omega)), fun t ht => ?_⟩
   cases t with
   | zero =>
    rw [Nat.zero_mul, Nat.add_zero, Nat.min_eq_left (by omega), show a + bs * 2 = a + 2 * bs by omega]
    exact Blk.same hk b1 fun k _ g2 => p2.2.1 k (.inl g2)
   | succ t =>
    have e : a + (t + 1) * (bs * 2) = a + 2 * bs + t * (bs * 2) := by rw [Nat.succ_mul]; omega
    rw [e] at ht ⊢
    exact b2 t ht
  ·rw [if_neg c]
   have one : ∀ t, a + t * (bs * 2) < n → t = 0 := fun t ht => by
    cases t with
    | zero => rfl
    | succ t =>
     rw [Nat.succ_mul] at ht
     omega
   by_cases c2 : a + bs < n
   ·rw [if_pos c2]
    have k0 := hb 0 (by omega)
    have k1 := hb 1 (by omega)
    rw [Nat.zero_mul, Nat.add_zero, Nat.min_eq_left (by omega)] at k0
    rw [Nat.one_mul, Nat.min_eq_right (by omega)] at k1
    obtain ⟨p1, b1⟩ := zCc hk (by omega) c2 (by omega) k0 k1
    refine ⟨p1, fun t ht => ?_⟩
    obtain rfl := one t ht
    rw [Nat.zero_mul, Nat.add_zero, Nat.min_eq_right (by omega)]
    exact b1
   ·rw [if_neg c2]
    refine ⟨permIn_refl d a n, fun t ht => ?_⟩
    obtain rfl := one t ht
    have k0 := hb 0 (by omega)
    rw [Nat.zero_mul, Nat.add_zero, Nat.min_eq_right (by omega)] at k0
    rw [Nat.zero_mul, Nat.add_zero, Nat.min_eq_right (by omega)]
    exact k0
theorem qWg (n : Nat) (hn0 : 0 < n) : ∀ (N bs : Nat) (d : Array α), n - bs ≤ N → 0 < bs → n = d.size → (∀ t, 0 + t * bs < n → Blk key idx (0 + t * bs) (min (0 + t * bs + bs) n) d) →
  PermIn 0 n d (kz cf n bs d) ∧ Blk key idx 0 n (kz cf n bs d) := by
 intro N
 induction N using Nat.strongRecOn with
 | ind N ih =>
  intro bs d hN hbs hn hb
  rw [kz]
  by_cases c : 0 < bs ∧ bs < n
  ·rw [if_pos c]
   obtain ⟨p1, b1⟩ := mrgB_ok hk bs n hbs n 0 d (by omega) (by omega) hn hb
   generalize mrgB cf bs n 0 d = d1 at p1 b1 ⊢
   obtain ⟨p2, b2⟩ := ih (n - bs * 2) (by omega) (bs * 2) d1 (Nat.le_refl _) (by omega) (by rw [p1.1]; exact hn) b1
   exact ⟨permIn_trans _ _ _ 0 n p1 p2, b2⟩
  ·rw [if_neg c]
   refine ⟨permIn_refl d 0 n, ?_⟩
   have k0 := hb 0 (by omega)
   rw [Nat.zero_mul, Nat.add_zero, Nat.zero_add, Nat.min_eq_right (by omega)] at k0
   exact k0
theorem qJb {d : Array α} (hn0 : 0 < d.size) (hr : ∀ k, k < d.size → idx d[k]! = k) : PermIn 0 d.size d (yT cf d) ∧ SortedIn (ltL key idx) 0 d.size (yT cf d) := by
 unfold yT
 obtain ⟨p1, b1⟩ := insB_ok hk d.size d.size 0 d (by omega) (by omega) rfl (fun k _ g => hr k g)
 generalize insB cf d.size 0 d = d1 at p1 b1 ⊢
 obtain ⟨p2, b2⟩ := qWg hk d.size hn0 d.size 20 d1 (by omega) (by omega) p1.1.symm b1
 exact ⟨permIn_trans _ _ _ 0 _ p1 p2, b2.1⟩
end
end Go.Proofs.YtaihfoihlbileaaGreatDoor.R7
namespace Go.Proofs.YtaihfoihlbileaaGreatDoor.R7
open Go.Sort Go.Proofs Go.RowKit YtaihfoihlbileaaGreatDoorW.PrintWords
def Le2 (key : Nat → Int) (x y : Nat) : Prop := ¬ (key y < key x ∨ (key y = key x ∧ y < x))
theorem le2_anti {key : Nat → Int} {x y : Nat} (h1 : Le2 key x y) (h2 : Le2 key y x) : x = y := by
 unfold Le2 at h1 h2
 omega
theorem qJn {key : Nat → Int} {l1 l2 : List Nat} (h1 : l1.Pairwise (Le2 key)) (h2 : l2.Pairwise (Le2 key)) (hp : l1.Perm l2) : l1 = l2 :=
 List.Perm.eq_of_pairwise (fun _ _ _ _ a b => le2_anti a b) h1 h2 hp
theorem qWy (ls : Nat → Int) (hb : ∀ i j : Nat, -4611686018427387904 ≤ ls i - ls j ∧ ls i - ls j ≤ 4611686018427387904) : ∀ n, (ordA ls n).Perm (List.range n) ∧ (ordA ls n).Pairwise (Le2 ls)
 | 0 => ⟨List.Perm.refl _, List.Pairwise.nil⟩
 | m + 1 => by
  have hk : ∀ x y : Fin (m + 1), decide (wrap64 (ls x - ls y) < 0) = decide (ls x < ls y) := fun x y => by
   have := hb x y
   rw [show wrap64 (ls x - ls y) = ls x - ls y by unfold wrap64; omega]
   by_cases c : ls x < ls y
   ·rw [decide_eq_true c, decide_eq_true (by omega)]
   ·rw [decide_eq_false c, decide_eq_false (by omega)]
  have hg : ∀ k, k < (Array.ofFn (fun i : Fin (m + 1) => i)).size → ((Array.ofFn (fun i : Fin (m + 1) => i))[k]!).val = k := fun k h => by
   rw [getElem!_pos _ k h, Array.getElem_ofFn]
  obtain ⟨p, s⟩ := qJb (key := fun x : Fin (m + 1) => ls x) (idx := fun x : Fin (m + 1) => x.val) hk (d := Array.ofFn (fun i : Fin (m + 1) => i)) (by rw [Array.size_ofFn]; omega) hg
  unfold ordA
  have hsz : (Array.ofFn (fun i : Fin (m + 1) => i)).size = m + 1 := Array.size_ofFn
  have hs2 : (yT (fun i j : Fin (m + 1) => wrap64 (ls i - ls j)) (Array.ofFn (fun i : Fin (m + 1) => i))).size = m + 1 := by rw [p.1, hsz]
  rw [hsz] at p s hg
  constructor
  ·have hp := p.2.2
   rw [extract_toList _ 0 (m + 1) (by rw [hs2]; exact Nat.le_refl _), extract_toList _ 0 (m + 1) (by rw [hsz]; exact Nat.le_refl _)] at hp
   have hp2 := hp.map (fun x : Fin (m + 1) => x.val)
   have e1 : (List.range' 0 (m + 1 - 0)).map (fun i => (yT (fun i j : Fin (m + 1) => wrap64 (ls i - ls j)) (Array.ofFn (fun i : Fin (m + 1) => i)))[i]!) = (yT (fun i j : Fin (m + 1) => wrap64 (ls i - ls j)) (Array.ofFn (fun i : Fin (m + 1) => i))).toList := by
    rw [← extract_toList _ 0 (m + 1) (by rw [hs2]; exact Nat.le_refl _), Array.extract_eq_self_of_le (by rw [hs2]; exact Nat.le_refl _)]
   rw [e1] at hp2
   refine hp2.trans ?_
   have e2 : ((List.range' 0 (m + 1 - 0)).map (fun i => (Array.ofFn (fun i : Fin (m + 1) => i))[i]!)).map (fun x : Fin (m + 1) => x.val) = List.range (m + 1) := by
    apply List.ext_getElem
    ·simp
    ·intro k g1 g2
     have hk : k < m + 1 := by simpa using g2
     simp only [List.getElem_map, List.getElem_range', List.getElem_range]
     rw [show 0 + 1 * k = k by omega]
     exact hg k hk
   rw [e2]
  ·refine List.pairwise_iff_getElem.2 fun i j h1 h2 hij => ?_
   have h1' : i < m + 1 := by rw [List.length_map, Array.length_toList, hs2] at h1; exact h1
   have h2' : j < m + 1 := by rw [List.length_map, Array.length_toList, hs2] at h2; exact h2
   have := s i j (Nat.zero_le _) hij h2'
   rw [getElem!_pos _ i (by rw [hs2]; exact h1'), getElem!_pos _ j (by rw [hs2]; exact h2')] at this
   have := of_decide_eq_false this
   simp only [List.getElem_map, Array.getElem_toList]
   exact this
def posF (key : Nat → Int) (i : Nat) (l : List Nat) : Nat → Nat
 | 0 => 0
 | p + 1 => if key i < key (l.getD p 0) then posF key i l p else p + 1
def jL (key : Nat → Int) : Nat → List Nat
 | 0 => []
 | n + 1 => (jL key n).take (posF key n (jL key n) n) ++ n :: (jL key n).drop (posF key n (jL key n) n)
theorem qVm (key : Nat → Int) (i : Nat) (l : List Nat) : ∀ p, posF key i l p ≤ p
 | 0 => Nat.le_refl _
 | p + 1 => by
  unfold posF
  split
  ·have := qVm key i l p
   omega
  ·exact Nat.le_refl _
theorem qVn (key : Nat → Int) (i : Nat) (l : List Nat) : ∀ p k, posF key i l p ≤ k → k < p → key i < key (l.getD k 0)
 | 0, k, _, h => absurd h (Nat.not_lt_zero k)
 | p + 1, k, h1, h2 => by
  unfold posF at h1
  split at h1
  ·by_cases e : k = p
   ·rw [e]; assumption
   ·exact qVn key i l p k h1 (by omega)
  ·omega
theorem qVl (key : Nat → Int) (i : Nat) (l : List Nat) : ∀ p, posF key i l p = 0 ∨ ¬ key i < key (l.getD (posF key i l p - 1) 0)
 | 0 => .inl rfl
 | p + 1 => by
  unfold posF
  split
  ·exact qVl key i l p
  ·exact .inr (by rw [Nat.add_sub_cancel]; assumption)
theorem kQ (key : Nat → Int) : ∀ n, (jL key n).length = n ∧ (jL key n).Perm (List.range n) ∧ (jL key n).Pairwise (Le2 key)
 | 0 => ⟨rfl, List.Perm.refl _, List.Pairwise.nil⟩
 | n + 1 => by
  obtain ⟨hl, hp, hw⟩ := kQ key n
  have h1 := qVm key n (jL key n) n
  have h2 := qVn key n (jL key n) n
  have h3 := qVl key n (jL key n) n
  unfold jL
  generalize posF key n (jL key n) n = p at h1 h2 h3
  have hlt : ∀ x ∈ jL key n, x < n := fun x hx => List.mem_range.1 (hp.mem_iff.1 hx)
  refine ⟨?_, ?_, ?_⟩
  ·rw [List.length_append, List.length_cons, List.length_take, List.length_drop, hl]
   omega
  ·have e : (jL key n).take p ++ (jL key n).drop p = jL key n := List.take_append_drop _ _
   refine (List.perm_middle).trans ?_
   rw [e, List.range_succ]
   exact (List.Perm.cons n hp).trans (List.perm_append_singleton n (List.range n)).symm
  ·refine List.pairwise_append.2 ⟨hw.sublist (List.take_sublist _ _), List.pairwise_cons.2 ⟨fun y hy => ?_, hw.sublist (List.drop_sublist _ _)⟩, fun x hx y hy => ?_⟩
   ·obtain ⟨k, hk, rfl⟩ := List.mem_iff_getElem.1 hy
    rw [List.length_drop, hl] at hk
    rw [List.getElem_drop]
    have := h2 (p + k) (by omega) (by omega)
    rw [List.getD_eq_getElem?_getD, List.getElem?_eq_getElem (by omega)] at this
    have h9 : key n < key (jL key n)[p + k] := this
    unfold Le2
    omega
   ·obtain ⟨a, ha, rfl⟩ := List.mem_iff_getElem.1 hx
    rw [List.length_take, hl] at ha
    rw [List.getElem_take]
    rcases List.mem_cons.1 hy with rfl | hy
    ·rcases h3 with h3 | h3
     ·omega
     ·rw [List.getD_eq_getElem?_getD, List.getElem?_eq_getElem (by omega)] at h3
      have h9 : ¬ key y < key (jL key y)[p - 1] := h3
      have h8 := hlt _ (List.getElem_mem (show a < (jL key y).length by omega))
      by_cases e : a = p - 1
      ·subst e
       unfold Le2
       omega
      ·have := List.pairwise_iff_getElem.1 hw a (p - 1) (by omega) (by omega) (by omega)
       unfold Le2 at this ⊢
       omega
    ·obtain ⟨k, hk, rfl⟩ := List.mem_iff_getElem.1 hy
     rw [List.length_drop, hl] at hk
     rw [List.getElem_drop]
     exact List.pairwise_iff_getElem.1 hw a (p + k) (by omega) (by omega) (by omega)
theorem qWx (ls : Nat → Int) (hb : ∀ i j : Nat, -4611686018427387904 ≤ ls i - ls j ∧ ls i - ls j ≤ 4611686018427387904) (n : Nat) : ordA ls n = jL ls n :=
 qJn (qWy ls hb n).2 (kQ ls n).2.2 ((qWy ls hb n).1.trans (kQ ls n).2.1.symm)
end Go.Proofs.YtaihfoihlbileaaGreatDoor.R7
