/- bill.OpenAt, walked. -/
import Derived.Test.YtaihfoihlbileaaDoorR4pe
namespace Go.Proofs.YtaihfoihlbileaaDoor.R4
open Go Go.Proofs Go.RowKit Go.Maps Go.Proofs.YtaihfoihlbileaaDoorW.PrintWords Go.Proofs.YtaihfoihlbileaaDoorW.PrintLast Go.Proofs.YtaihfoihlbileaaDoorW.PrintMore
attribute [local go_sem] max2_int min2_int max_two min_two max_three min_three max_four min_four

set_option maxHeartbeats 1000000 in
set_option maxRecDepth 1000000 in
/-- whether a debt is there, read from its cells -/
theorem there_cells (g : Nat) (d dn day : Int) (w : World) (z1 : w.cell? ⟨g, 1, none⟩ = some (.int .i64 d)) (z10 : w.cell? ⟨g, 10, none⟩ = some (.int .i64 dn)) :
    Calls Tryd.prog 20 #[.pointer (some ⟨g, 0, none⟩), .int .i64 day] w fun e w' => e = .returned (.bool (if d ≤ day then dn == 0 else false)) ∧ Below w.heap.size w w' := by
  by_cases h : d ≤ day
  · rw [if_pos h]
    by_cases h2 : dn = 0
    · have hb : (dn == 0) = true := by simpa using h2
      rw [hb]
      go_enter Tryd.func20, Tryd.ntmps20
      go_wp2
      go_ret
      exact ⟨rfl, by first | exact Below.refl _ _ | exact below_drew1 (Below.refl _ _)⟩
    · have hb : (dn == 0) = false := by simpa using h2
      rw [hb]
      go_enter Tryd.func20, Tryd.ntmps20
      go_wp2
      go_ret
      exact ⟨rfl, by first | exact Below.refl _ _ | exact below_drew1 (Below.refl _ _)⟩
  · rw [if_neg h]
    go_enter Tryd.func20, Tryd.ntmps20
    go_wp2
    go_ret
    exact ⟨rfl, by first | exact Below.refl _ _ | exact below_drew1 (Below.refl _ _)⟩
set_option maxHeartbeats 1000000 in
set_option maxRecDepth 1000000 in
theorem last_cells (g : Nat) (d n r : Int) (w : World) (z1 : w.cell? ⟨g, 1, none⟩ = some (.int .i64 d)) (z4 : w.cell? ⟨g, 4, none⟩ = some (.int .i64 n)) (hr : wrap64 (d + n) = r) :
    Calls Tryd.prog 29 #[.pointer (some ⟨g, 0, none⟩)] w fun e w' => e = .returned (.int .i64 r) ∧ Below w.heap.size w w' := by
  have wr : IntKind.i64.wrap (d + n) = r := (i64_w _).trans hr
  clear hr
  go_enter Tryd.func29, Tryd.ntmps29
  go_wp2
  go_big_region
  all_goals go_wp2
  go_ret
  exact ⟨rfl, below_drew1 (Below.refl _ _)⟩
set_option maxHeartbeats 1000000 in
set_option maxRecDepth 1000000 in
/-- how late a debt is, read from its cells -/
theorem late_cells (g : Nat) (d n day r : Int) (w : World) (z1 : w.cell? ⟨g, 1, none⟩ = some (.int .i64 d)) (z4 : w.cell? ⟨g, 4, none⟩ = some (.int .i64 n)) (hr : mx 0 (wrap64 (day - wrap64 (d + n))) = r) :
    Calls Tryd.prog 21 #[.pointer (some ⟨g, 0, none⟩), .int .i64 day] w fun e w' => e = .returned (.int .i64 r) ∧ Below w.heap.size w w' := by
  obtain ⟨l, hl⟩ : ∃ l, wrap64 (d + n) = l := ⟨_, rfl⟩
  have h1 := last_cells g d n l w z1 z4 hl
  rw [hl] at hr
  obtain ⟨t, ht⟩ : ∃ t, wrap64 (day - l) = t := ⟨_, rfl⟩
  have wt : IntKind.i64.wrap (day - l) = t := (i64_w _).trans ht
  rw [ht] at hr
  clear z1 z4 hl ht
  unfold mx at hr
  by_cases hlt : (0 : Int) < t
  · rw [if_pos hlt] at hr
    subst hr
    go_enter Tryd.func21, Tryd.ntmps21
    go_wp2_with (go_at_call 29; (with_reducible refine h1.mono ?_); rintro e w1 ⟨rfl, hb⟩)
    go_ret
    exact ⟨rfl, hb⟩
  · rw [if_neg hlt] at hr
    subst hr
    go_enter Tryd.func21, Tryd.ntmps21
    go_wp2_with (go_at_call 29; (with_reducible refine h1.mono ?_); rintro e w1 ⟨rfl, hb⟩)
    go_ret
    exact ⟨rfl, hb⟩

abbrev SOw := S50
/-- how late, told -/
def lateV (d : SDe) (day : Int) : Int := mx 0 (wrap64 (day - wrap64 (d.f1 + d.f3)))
/-- what OpenAt tells of a debt -/
def outO (l0 : List SDe) (tm : Int → S32) (S : Nat → V4) (day : Int) (j : Nat) : SOw := ⟨(rdD l0 j).f0, tm (S j).owes, lateV (rdD l0 j) day⟩
def opl (l0 : List SDe) (tm : Int → S32) (S : Nat → V4) (day : Int) (n : Nat) : List SOw := ((List.range n).filter fun j : Nat => thereB (rdD l0 j) (S j) day).map (outO l0 tm S day)
theorem opl_succ (l0 : List SDe) (tm : Int → S32) (S : Nat → V4) (day : Int) (n : Nat) : opl l0 tm S day (n + 1) = opl l0 tm S day n ++ if thereB (rdD l0 n) (S n) day = true then [outO l0 tm S day n] else [] := by
  unfold opl
  rw [List.range_succ, List.filter_append, List.map_append]
  congr 1
  by_cases h : thereB (rdD l0 n) (S n) day = true
  · rw [if_pos h]
    simp [h]
  · rw [if_neg h]
    simp [h]
theorem opl_length (l0 : List SDe) (tm : Int → S32) (S : Nat → V4) (day : Int) (n : Nat) : (opl l0 tm S day n).length ≤ n := by
  unfold opl
  rw [List.length_map]
  refine Nat.le_trans (List.length_filter_le _ _) ?_
  rw [List.length_range]
  exact Nat.le_refl _
theorem ow_append {ops : Array Oper} {o : Oper} {a : Act} {Q : Exit → Act → World → Prop} {Kc : Act → World → Prop} (xs : List SOw) (p : SOw) (hxs : xs.length ≤ 200) {w5 W : World} (v : Value)
    (HO : Kd.R k50 50 W w5.heap.size (fun _ => True) v xs) (HB : Below w5.heap.size w5 W)
    (hw : Region.wanted o (yielded ops a.tmps) = true) (s x : Operand) (ho : o.op = .call { callee := .builtin .append, args := #[s, x], argTypes := #[46, 46] }) (hs : a.eval s = v) (hx : a.eval x = .slice (some ⟨W.heap.size, 0, none⟩) 1 1)
    (h : ∀ v1 w1, Kd.R k50 50 w1 w5.heap.size (fun _ => True) v1 (xs ++ [p]) → Below w5.heap.size w5 w1 → W.grownBy w1 v.ownBlock → Kc (a.put o.dst v1) w1) :
    if Region.wanted o (yielded ops a.tmps) = true then Oper.wp Tryd.prog o a (W.alloc (.cells #[.string p.f0, .int .i64 p.f1.f0, .int .i64 p.f1.f1, .int .i64 p.f2] 50)) Kc Q
    else Kc (a.put o.dst undef) (W.alloc (.cells #[.string p.f0, .int .i64 p.f1.f0, .int .i64 p.f1.f1, .int .i64 p.f2] 50)) := by
  obtain ⟨i0, hinf, hzz⟩ := Option.map_eq_some_iff.1 info50
  simp only [Prod.mk.injEq] at hzz
  obtain ⟨hz0, hz1, hz2⟩ := hzz
  obtain ⟨h0, inner, hown, hr⟩ := HO
  rw [if_pos hw]
  obtain ⟨v1, w1, hrun, hown1, hg, _, hat⟩ := run_append_own_at (P := Tryd.prog) (W.alloc (.cells #[.string p.f0, .int .i64 p.f1.f0, .int .i64 p.f1.f1, .int .i64 p.f2] 50)) w5.heap.size 46 o.type 50 i0 _ 4 40 Tryd.underlying46 hinf hz0 hz1 hz2 rfl (by decide) v xs.length inner (hown.alloc _) ⟨W.heap.size, 0, none⟩ 1 1 [.string p.f0, .int .i64 p.f1.f0, .int .i64 p.f1.f1, .int .i64 p.f2] rfl
    (by simpa using World.news_of_block (cs := #[.string p.f0, .int .i64 p.f1.f0, .int .i64 p.f1.f1, .int .i64 p.f2]) (t := 50) (fr := (0, 0)) (heap_alloc_new W _)) (by simp [Value.oneCell']) (by unfold maxLen; omega) (by omega) (by have := HB.size; simp; omega)
  have hG : W.grownBy w1 v.ownBlock := World.grownBy.trans (World.grownBy_alloc W _ _) hg
  unfold Oper.wp execOp
  simp only [ho, resolve, invoke, builtin, Sem.run_bind, Sem.run_pure, Result.andThen_ok, List.map_toArray, List.map_cons, List.map_nil, hs, hx, hrun]
  refine h v1 w1 ?_ (HB.grown hG HB.size fun b e => (own_obj hown e.symm).choose_spec.2) hG
  refine Kd.R_appended (p := p) (cs := [.string p.f0, .int .i64 p.f1.f0, .int .i64 p.f1.f1, .int .i64 p.f2]) h0 hr (k50_mkM _ _ (fun _ => False) p) (fun _ h => h.elim) (fun _ _ => trivial) hown1 hG ?_
  rcases hat with hat | hat
  · exact .inl hat
  · exact .inr ⟨_, hat, by simp⟩
theorem late_s {g : Nat} {v0 v7 : Value} {d n day r : Int} {W : World} (h : W.cell? ⟨g, 0, none⟩ = some v0 ∧ W.cell? ⟨g, 1, none⟩ = some (.int .i64 d) ∧ W.cell? ⟨g, 4, none⟩ = some (.int .i64 n) ∧ W.cell? ⟨g, 7, none⟩ = some v7) (hr : mx 0 (wrap64 (day - wrap64 (d + n))) = r) :
    Calls Tryd.prog 21 #[.pointer (some ⟨g, 0, none⟩), .int .i64 day] W fun e w' => e = .returned (.int .i64 r) ∧ Below W.heap.size W w' := late_cells g d n day r W h.2.1 h.2.2.1 hr
/-- the day up to which payments count -/
structure UpTo (l1 : List SPa) (day : Int) (m : Nat) : Prop where
  le : m ≤ l1.length
  all : ∀ i : Nat, i < m → (rdA l1 i).f0 ≤ day
  out : m = l1.length ∨ day < (rdA l1 m).f0
theorem UpTo.uniq {l1 : List SPa} {day : Int} {m m' : Nat} (h : UpTo l1 day m) (h' : UpTo l1 day m') : m = m' := by
  rcases Nat.lt_trichotomy m m' with hlt | h1 | hlt
  · rcases h.out with e | e
    · have := h'.le
      omega
    · have := h'.all m hlt
      omega
  · exact h1
  · rcases h'.out with e | e
    · have := h.le
      omega
    · have := h.all m' hlt
      omega
set_option maxHeartbeats 8000000 in
set_option maxRecDepth 1000000 in
theorem open_all (k : Nat) (A0 : Option Addr) (c0 : Nat) (l0 : List SDe) (A1 : Option Addr) (c1 : Nat) (l1 : List SPa) (nb : Nat → Bool) (mf : Nat → Int) (cv pc : Nat → Int) (dsc : Nat → Int → Int) (od : List Nat) (tm : Int → S32) (day : Int) (m : Nat) (w : World) (hr0 : Kd.C k44 w A0 l0.length l0) (hc0 : l0.length ≤ c0) (hn : l0.length ≤ 200)
    (hr1 : Kd.C k35 w A1 l1.length l1) (hc1 : l1.length ≤ c1) (hn1 : l1.length ≤ 500)
    (hnb : ∀ i : Nat, i < l0.length → kit_IsName.f (rdD l0 i).f0 = some (nb i)) (hmf : ∀ i : Nat, i < l0.length → bill_moneyFault.f k (rdD l0 i).f2.f0 (rdD l0 i).f2.f1 = some (mf i)) (hcp : bill_CheckPayments.f k l1 = some 0)
    (hok : ∀ i, i < l0.length → dF l0 nb mf i = 0) (hdb : dayB day = true) (hm : UpTo l1 day m)
    (hnf : ∀ i : Nat, i < l1.length → (rdA l1 i).f2.length ≤ 100) (hod : ordA (fun j => (iniD l0 cv j).last) l0.length = od)
    (hcv : ∀ i : Nat, i < l0.length → bill_cents.f k (rdD l0 i).f2.f0 (rdD l0 i).f2.f1 = some (cv i)) (hsz : ∀ i : Nat, i < l0.length → (rdD l0 i).f0.size ≤ maxLen)
    (hpc : ∀ i : Nat, i < l1.length → bill_cents.f k (rdA l1 i).f1.f0 (rdA l1 i).f1.f1 = some (pc i)) (hsz1 : ∀ i : Nat, i < l1.length → ∀ j : Nat, j < (rdA l1 i).f2.length → (rdOf ByteArray.empty (rdA l1 i).f2 j).size ≤ maxLen)
    (hds : ∀ j : Nat, j < l0.length → ∀ o p t d : Int, bill_debt_discount.f k (rdD l0 j).f0 (rdD l0 j).f1 (rdD l0 j).f2.f0 (rdD l0 j).f2.f1 (rdD l0 j).f3 (rdD l0 j).f4 (rdD l0 j).f5 o p t d = some (dsc j o, (rdD l0 j).f0, (rdD l0 j).f1, (rdD l0 j).f2.f0, (rdD l0 j).f2.f1, (rdD l0 j).f3, (rdD l0 j).f4, (rdD l0 j).f5, o, p, t, d))
    (htm : ∀ j : Nat, j < l0.length → bill_toldMoney.f k ((runP l0 cv dsc od l1 pc m).1 j).owes = some ((tm ((runP l0 cv dsc od l1 pc m).1 j).owes).f0, (tm ((runP l0 cv dsc od l1 pc m).1 j).owes).f1)) :
    Calls Tryd.prog 10 #[.slice A0 l0.length c0, .slice A1 l1.length c1, .int .i64 day] w fun e w' => ∃ v1 : Value, e = .returned (.tuple #[v1, .int .i64 0]) ∧
      Kd.R k50 50 w' w.heap.size (fun _ => True) v1 (opl l0 tm (runP l0 cv dsc od l1 pc m).1 day l0.length) ∧ Below w.heap.size w w' := by
  have hbf := both_calls k A0 c0 l0 A1 c1 l1 nb mf 0 w hr0 hc0 hr1 hc1 hnb hmf hcp
  have HPY : Aside _ := fun (w5 : World) (hb : Below w.heap.size w w5) => payments_calls k A0 c0 l0 A1 c1 l1 day cv pc dsc od w5 (Kd.C_below hr0 hb) hc0 hn (Kd.C_below hr1 hb) hc1 hn1 hnf hod hcv hsz hpc hsz1 hds
  have HZ : Aside _ := fun r (h : ChkD l0 nb mf r) => chk_zero hn hok h
  have HUP : Aside _ := hm
  have hid := isDay_eq day
  rw [hdb] at hid
  clear hr0 hr1 hnb hmf hcp hok hdb hm hnf hod hcv hsz hpc hsz1 hds
  go_enter Tryd.func10, Tryd.ntmps10
  go_upto_region 7 with (first | (go_at_call 12; (with_reducible refine hbf.mono ?_); rintro e w5 ⟨r, rfl, ⟨rd, hrd, hr⟩, hb⟩; obtain rfl := HZ.out rd hrd; rw [if_pos rfl] at hr; obtain rfl := hr; have HB : Hid (Below w.heap.size w _) := hb; clear hb hrd) | (go_at_call 19; (with_reducible refine (kit_IsDay.calls day _ _ hid).mono ?_); rintro e w6 ⟨rfl, hb⟩; have HB2 : Hid (Below w.heap.size w _) := HB.out.trans (hb.below.mono HB.out.size); clear HB hb; have HB := HB2; clear HB2) | (go_at_call 13; have hh := HPY.out _ HB.out; (with_reducible refine hh.mono ?_); clear hh; rintro e w7 ⟨m2, v, vo, vr, gs, D, hm, hml, hmr, rfl, hL⟩))
  obtain rfl : m2 = m := (UpTo.mk hm hml hmr).uniq HUP.out
  clear hm hml hmr hbf hid
  obtain ⟨R, hR⟩ : ∃ R, R = runP l0 cv dsc od l1 pc m2 := ⟨_, rfl⟩
  rw [← hR] at htm hL
  have HRR : Hid (runP l0 cv dsc od l1 pc m2 = R) := hR.symm
  clear hR
  obtain ⟨av, cvv, rfl⟩ := own_slice hL.row
  obtain ⟨ar, cr, rfl⟩ := own_slice hL.rst
  have HL : Hid (Laid2 w6 w7 l0 (.slice av l0.length cvv) vo (.slice ar R.2.length cr) gs D od R.1 R.2) := hL
  have HTA : Aside _ := htm
  clear hL htm
  go_wp2_with fail
  go_loopg [11, 32] l0.length (fun g1 v1 vi wr => ∃ i : Nat, vi = .int .i64 i ∧ i ≤ l0.length ∧ l0.length - i ≤ g1 ∧ Hid (Laid2 w6 wr l0 (.slice av l0.length cvv) vo (.slice ar R.2.length cr) gs D od R.1 R.2) ∧ Hid (Kd.R k50 50 wr w6.heap.size (fun _ => True) v1 (opl l0 tm R.1 day i)))
  case atStart => exact ⟨0, rfl, Nat.zero_le _, Nat.le_refl _, HL, (show Kd.R _ _ _ _ _ _ [] from Kd.R_nil _ _ _ _ _)⟩
  case round =>
    obtain ⟨i, rfl, hi, hg1, HL1, HO1⟩ := hrel
    clear HL
    by_cases hlt : i < l0.length
    · have hltz : (i : Int) < (l0.length : Int) := by omega
      obtain ⟨ad, ea, hca⟩ := own_cell HL1.out.row i hlt
      cases ea
      obtain ⟨g, hg⟩ : ∃ g, gs[i]? = some g := ⟨gs[i]'(by rw [HL1.out.len]; exact hlt), List.getElem?_eq_getElem _⟩
      rw [List.getElem?_map, hg] at hca
      replace hca : wr.cell? (ad.add i) = some (.pointer (some ⟨g, 0, none⟩)) := hca
      have hob := HL1.out.obj i g hg
      have y1 : wr.cell? ⟨g, 1, none⟩ = some (.int .i64 (rdD l0 i).f1) := (blk_cell hob 1).trans rfl
      have y10 : wr.cell? ⟨g, 10, none⟩ = some (.int .i64 (R.1 i).done) := (blk_cell hob 10).trans rfl
      have hth := there_cells g (rdD l0 i).f1 (R.1 i).done day wr y1 y10
      have eth : (if (rdD l0 i).f1 ≤ day then (R.1 i).done == 0 else false) = thereB (rdD l0 i) (R.1 i) day := rfl
      rw [eth] at hth
      clear y1 y10 eth
      have HG : Hid (gs[i]? = some g) := hg
      clear hg hob
      by_cases hb : thereB (rdD l0 i) (R.1 i) day = true
      · have HTB : Hid (thereB (rdD l0 i) (R.1 i) day = true) := hb
        rw [hb] at hth
        clear hb
        go_upto_region 12 with (go_at_call 20; (with_reducible refine hth.mono ?_); rintro e w8 ⟨rfl, hb8⟩)
        have hobj := blk_below (HL1.out.obj i g HG.out) hb8
        have HL8 : Hid (Laid2 w6 w8 l0 (.slice (some ad) l0.length cvv) vo (.slice ar R.2.length cr) gs D od R.1 R.2) := HL1.out.keep hb8
        have HO8 : Hid (Kd.R k50 50 w8 w6.heap.size (fun _ => True) u11 (opl l0 tm R.1 day i)) := Kd.R_below HO1.out hb8
        clear HL1 HO1 hb8 hca hth
        have z0 : w8.cell? ⟨g, 0, none⟩ = some (.string (rdD l0 i).f0) := (blk_cell hobj 0).trans rfl
        have z1 : w8.cell? ⟨g, 1, none⟩ = some (.int .i64 (rdD l0 i).f1) := (blk_cell hobj 1).trans rfl
        have z4 : w8.cell? ⟨g, 4, none⟩ = some (.int .i64 (rdD l0 i).f3) := (blk_cell hobj 4).trans rfl
        have z7 : w8.cell? ⟨g, 7, none⟩ = some (.int .i64 (R.1 i).owes) := (blk_cell hobj 7).trans rfl
        have hto := HTA.out i hlt
        obtain ⟨inner, hown⟩ := own_of HO8.out
        have HNE : Hid (some g ≠ u11.ownBlock) := row_ne hown hobj (by intro cur e; injection e with _ e2 _; exact absurd e2 (by decide))
        have HOW : Hid (w8.ownsRow _ _ _ _ _ _) := hown
        have HQ : Hid (Below w8.heap.size w8 w8.drew) := (Below.refl _ _).drew
        obtain ⟨lv, hlv⟩ : ∃ lv, mx 0 (wrap64 (day - wrap64 ((rdD l0 i).f1 + (rdD l0 i).f3))) = lv := ⟨_, rfl⟩
        have HP : Hid (outO l0 tm R.1 day i = ⟨(rdD l0 i).f0, tm (R.1 i).owes, lv⟩) := by
          rw [← hlv]
          rfl
        have HLL : Hid ((opl l0 tm R.1 day i).length ≤ 200) := (show _ ≤ _ from Nat.le_trans (opl_length ..) (by omega))
        clear hown hobj
        go_region_held_law (fun w' => w'.cell? ⟨g, 0, none⟩ = some (.string (rdD l0 i).f0) ∧ w'.cell? ⟨g, 1, none⟩ = some (.int .i64 (rdD l0 i).f1) ∧ w'.cell? ⟨g, 4, none⟩ = some (.int .i64 (rdD l0 i).f3) ∧ w'.cell? ⟨g, 7, none⟩ = some (.int .i64 (R.1 i).owes))
          (first | exact keep4 ⟨z0, z1, z4, z7⟩ ((Below.refl _ _).drew) | exact keep4 (by assumption) ((Below.refl _ _).alloc (Nat.le_refl _) _) | exact keep4 (by assumption) (by assumption) | exact keep4g hg9 (keep4 ⟨z0, z1, z4, z7⟩ HQ.out) HNE.out)
          (first
            | (go_at_call 14; (with_reducible refine (bill_toldMoney.calls k (R.1 i).owes _ _ _ hto).mono ?_); rintro e w9 ⟨rfl, hb⟩; have HQ2 : Hid (Below w8.heap.size w8 _) := HQ.out.trans (hb.mono HQ.out.size); clear HQ; have HQ := HQ2; clear HQ2)
            | (go_at_call 21; (with_reducible refine (late_s (keep4 ⟨z0, z1, z4, z7⟩ HQ.out) hlv).mono ?_); rintro e w9 ⟨rfl, hb⟩; have HQ2 : Hid (Below w8.heap.size w8 _) := HQ.out.trans (hb.mono HQ.out.size); clear HQ; have HQ := HQ2; clear HQ2)
            | (refine ow_append (opl l0 tm R.1 day i) ⟨(rdD l0 i).f0, tm (R.1 i).owes, lv⟩ HLL.out u11 (Kd.R_below HO8.out HQ.out) (HL8.out.bel.trans (HQ.out.mono HL8.out.bel.size)) rfl (.tmp 39) (.tmp 54) rfl rfl rfl ?_; intro v9 w9 hR9 hB9 hg9))
        simp only [List.getElem_toArray, List.getElem_cons_succ, List.getElem_cons_zero]
        try simp only [sq]
        go_wp2
        go_roundg (l0.length - (i + 1))
        case measure => omega
        case rel =>
          refine ⟨i + 1, by first | rfl | (congr 1; omega), by omega, Nat.le_refl _, ?_, ?_⟩
          · exact (HL8.out.keep HQ.out).far (row_keep HOW.out fun j hj => HQ.out.block j (row_lt HOW.out hj)) hg9 hB9 (by decide) (by decide) (by decide)
          · rw [opl_succ, if_pos HTB.out, HP.out]
            exact hR9
      · have hbf : thereB (rdD l0 i) (R.1 i) day = false := by simpa using hb
        have HTB : Hid (thereB (rdD l0 i) (R.1 i) day = false) := hbf
        rw [hbf] at hth
        clear hb hbf
        go_wp2_with (go_at_call 20; (with_reducible refine hth.mono ?_); rintro e w8 ⟨rfl, hb8⟩)
        go_roundg (l0.length - (i + 1))
        case measure => omega
        case rel =>
          refine ⟨i + 1, by first | rfl | (congr 1; omega), by omega, Nat.le_refl _, HL1.out.keep hb8, ?_⟩
          rw [opl_succ, if_neg (by rw [HTB.out]; decide), List.append_nil]
          exact Kd.R_below HO1.out hb8
    · obtain rfl : i = l0.length := by omega
      have hltz : ¬ (l0.length : Int) < (l0.length : Int) := by omega
      go_wp2
      go_ret2
      refine ⟨u11, rfl, ?_, HB.out.trans (HL1.out.bel.mono HB.out.size)⟩
      rw [HRR.out]
      exact Kd.R_lower HO1.out HB.out.size
end Go.Proofs.YtaihfoihlbileaaDoor.R4
