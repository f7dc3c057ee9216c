/- The law is true of all debts and payments: the walk joined with the plain laws. -/
import Derived.Test.YtaihfoihlbileaaDoorR4ph
import Derived.Test.YtaihfoihlbileaaDoorR4pw
namespace Go.Proofs.YtaihfoihlbileaaDoor.R4
open Go Go.Proofs Go.RowKit YtaihfoihlbileaaDoorW.PrintWords
theorem told_up {k0 : Nat} {x : Int} {r : Int × Int} (h : bill_toldMoney.f k0 x = some r) : ∀ k, k0 ≤ k → bill_toldMoney.f k x = some r := by
  intro k hk
  obtain ⟨d, rfl⟩ : ∃ d, k = k0 + d := ⟨k - k0, by omega⟩
  clear hk
  induction d with
  | zero => exact h
  | succ d ih => exact bill_toldMoney.mono _ _ _ ih
/-- an amount as it is told -/
theorem told_any (x : Int) : ∃ d : SDc, 0 ≤ x → x ≤ 10000000000000 → (∀ k, 100 ≤ k → bill_toldMoney.f k x = some (d.f0, d.f1)) ∧ nine d = x * 100000 ∧ SmallD d ∧ (x = 0 → d.f0 = 0) := by
  by_cases hx : 0 ≤ x ∧ x ≤ 10000000000000
  · obtain ⟨u, q, h, hq, hu⟩ := told_eq hx.1 (show x ≤ 1000000000000000 by omega) (Nat.le_refl 100)
    have hp := (pow10_le (n := 4 - q) (by omega)).1
    have hu0 : 0 ≤ u := by
      by_cases h0 : 0 ≤ u
      · exact h0
      · have := Int.mul_le_mul_of_nonneg_right (show u ≤ -1 by omega) (show (0 : Int) ≤ 10 ^ (4 - q) by omega)
        rw [hu] at this
        omega
    have hux : u ≤ x := by
      have := Int.mul_le_mul_of_nonneg_left hp hu0
      rw [hu] at this
      omega
    refine ⟨⟨u, (q : Int)⟩, fun _ _ => ⟨told_up h, ?_, ⟨?_, ?_, ?_, ?_⟩, ?_⟩⟩
    · show u * 10 ^ (9 - (q : Int)).toNat = x * 100000
      rw [show (9 - (q : Int)).toNat = (4 - q) + 5 by omega, Int.pow_add, ← Int.mul_assoc, hu]
      rfl
    · show 0 ≤ (q : Int)
      omega
    · show (q : Int) ≤ 9
      omega
    · show -1000000000000000 ≤ u
      omega
    · show u ≤ 1000000000000000
      omega
    · intro h0
      show u = 0
      omega
  · exact ⟨⟨0, 0⟩, fun h0 h1 => absurd ⟨h0, h1⟩ hx⟩
theorem nine_good {d : SDc} (h : GoodM d.f0 d.f1) : nine d = d.f0 * 10 ^ (4 - d.f1).toNat * 100000 ∧ SmallD d ∧ 0 < d.f0 * 10 ^ (4 - d.f1).toNat ∧ d.f0 * 10 ^ (4 - d.f1).toNat ≤ 10000000000000 := by
  obtain ⟨g0, g1, g2, g3, g4⟩ := h
  have hp := (pow10_le (n := (4 - d.f1).toNat) (by omega)).1
  refine ⟨?_, ⟨g2, by omega, by omega, by omega⟩, Int.mul_pos g0 (by omega), g4⟩
  unfold nine
  rw [show (9 - d.f1).toNat = (4 - d.f1).toNat + 5 by omega, Int.pow_add, ← Int.mul_assoc]
  rfl
theorem sign_le {x : Int} : x.sign ≤ 0 ↔ x ≤ 0 := by
  rcases Int.lt_trichotomy x 0 with h | h | h
  · rw [Int.sign_eq_neg_one_of_neg h]; omega
  · subst h; decide
  · rw [Int.sign_eq_one_of_pos h]; omega
theorem nineL_map {α : Type} (l : List α) (f : α → SDc) (g : α → Int) (h : ∀ x ∈ l, nine (f x) = g x * 100000) : nineL (l.map f) = isum (l.map g) * 100000 := by
  induction l with
  | nil => rfl
  | cons x r ih =>
    simp only [List.map_cons, nineL, isum]
    rw [h x (List.mem_cons_self ..), ih fun y hy => h y (List.mem_cons_of_mem _ hy)]
    omega
theorem isum_append (a b : List Int) : isum (a ++ b) = isum a + isum b := by
  induction a with
  | nil => simp [isum]
  | cons x r ih => simp only [List.cons_append, isum, ih]; omega
theorem isum_range (f : Nat → Int) : ∀ n, isum ((List.range n).map f) = csum f n
  | 0 => rfl
  | n + 1 => by rw [List.range_succ, List.map_append, isum_append, isum_range f n]; simp [isum, csum]
theorem psum_csum (S : Nat → V4) : ∀ n, psum S n = csum (fun j => (S j).paid) n
  | 0 => rfl
  | n + 1 => by rw [psum, csum, psum_csum S n]
theorem csum_get (l : List SPa) (g : SPa → Int) : isum (l.map g) = csum (fun i => g (rdA l i)) l.length := by
  have e : l.map g = (List.range l.length).map fun i => g (rdA l (i : Nat)) := by
    apply List.ext_getElem
    · simp
    · intro i h1 h2
      have hi : i < l.length := by simpa using h1
      simp only [List.getElem_map, List.getElem_range]
      congr 1
      show _ = l.getD (i : Int).toNat _
      rw [Int.toNat_natCast, List.getD_eq_getElem?_getD, List.getElem?_eq_getElem hi]
      rfl
  rw [e, isum_range]
/-- what a fault of none says of a debt -/
theorem debt_good {l0 : List SDe} {nb : Nat → Bool} {mf : Nat → Int} {i : Nat} (h : dF l0 nb mf i = 0) : nb i = true ∧ mf i = 0 ∧ 0 ≤ (rdD l0 i).f5 ∧ (rdD l0 i).f5 ≤ 1000 := by
  unfold dF at h
  split at h
  · omega
  split at h
  · omega
  split at h
  · omega
  split at h
  · omega
  split at h
  · omega
  split at h
  · omega
  rename_i h1 _ _ _ h2 h3
  refine ⟨by simpa using h1, by omega, ?_⟩
  unfold outB at h3
  simp only [Bool.or_eq_true, decide_eq_true_eq, not_or, Int.not_lt] at h3
  omega
theorem rdX_at (n : Nat) (f : Nat → SPd) {i : Nat} (hi : i < n) : rdX ((List.range n).map f) i = f i := by
  show ((List.range n).map f).getD (i : Int).toNat _ = _
  rw [Int.toNat_natCast, List.getD_eq_getElem?_getD, List.getElem?_map, List.getElem?_range hi]
  rfl
theorem law_true (hA : AwakeOK) (A0 : Option Addr) (c0 : Nat) (l0 : List SDe) (A1 : Option Addr) (c1 : Nat) (l1 : List SPa) (w : World) (hr0 : Kd.C k44 w A0 l0.length l0) (hc0 : l0.length ≤ c0)
    (hr1 : Kd.C k35 w A1 l1.length l1) (hc1 : l1.length ≤ c1) :
    Calls Tryd.prog 3 #[.slice A0 l0.length c0, .slice A1 l1.length c1] w fun e w' => e = .returned (.bool true) ∧ Below w.heap.size w w' := by
  obtain ⟨nb, hnb⟩ := Classical.axiomOfChoice (fun i : Nat => name_any (rdD l0 i).f0)
  obtain ⟨mf, hmf⟩ := Classical.axiomOfChoice (fun i : Nat => money_any (rdD l0 i).f2.f0 (rdD l0 i).f2.f1)
  obtain ⟨e1, ⟨k1, hk1⟩, hg1⟩ := payments_any l1
  by_cases hgood : l0.length ≤ 200 ∧ (∀ i, i < l0.length → dF l0 nb mf i = 0) ∧ e1 = 0
  · obtain ⟨hn, hok, rfl⟩ := hgood
    obtain ⟨hn1, hgp⟩ := hg1 rfl
    obtain ⟨tm, htm⟩ := Classical.axiomOfChoice told_any
    have hdg : ∀ j : Nat, j < l0.length → GoodM (rdD l0 j).f2.f0 (rdD l0 j).f2.f1 ∧ (rdD l0 j).f0.size ≤ 40 ∧ 0 ≤ (rdD l0 j).f5 ∧ (rdD l0 j).f5 ≤ 1000 := fun j hj => by
      obtain ⟨a, b, c, d⟩ := debt_good (hok j hj)
      exact ⟨(hmf j).2 b, (hnb j).2 a, c, d⟩
    obtain ⟨cv, hcv⟩ : ∃ cv : Nat → Int, cv = fun j : Nat => (rdD l0 j).f2.f0 * 10 ^ (4 - (rdD l0 j).f2.f1).toNat := ⟨_, rfl⟩
    obtain ⟨pc, hpc⟩ : ∃ pc : Nat → Int, pc = fun j : Nat => (rdA l1 j).f1.f0 * 10 ^ (4 - (rdA l1 j).f1.f1).toNat := ⟨_, rfl⟩
    obtain ⟨dsc, hdsc⟩ : ∃ dsc : Nat → Int → Int, dsc = fun (j : Nat) (o : Int) => dscV (rdD l0 j) o := ⟨_, rfl⟩
    obtain ⟨od, hod⟩ : ∃ od, ordA (fun j => (iniD l0 cv j).last) l0.length = od := ⟨_, rfl⟩
    have hob : ∀ j ∈ od, j < l0.length := hod ▸ ordA_lt (fun j => (iniD l0 cv j).last) l0.length
    have K : Ok0 l0 cv dsc := by
      constructor
      · intro j hj
        obtain ⟨_, _, a, b⟩ := nine_good (d := (rdD l0 j).f2) (hdg j hj).1
        rw [hcv]
        exact ⟨a, b⟩
      · intro j hj o ho
        rw [hdsc]
        exact dscV_le (hdg j hj).1 (hdg j hj).2.2.1 o ho
    have hdy : ∀ i : Nat, i < l1.length → 1 ≤ (rdA l1 i).f0 ∧ (rdA l1 i).f0 ≤ 3652059 := fun i hi => by
      have := (hgp i hi).1
      unfold dayB at this
      simpa using this
    have hpcr : ∀ i : Nat, i < l1.length → nine (rdA l1 i).f1 = pc i * 100000 ∧ SmallD (rdA l1 i).f1 ∧ 0 < pc i ∧ pc i ≤ 10000000000000 := fun i hi => by
      rw [hpc]
      exact nine_good (d := (rdA l1 i).f1) (hgp i hi).2.1
    obtain ⟨hS, hR, hsum⟩ := runP_ok K hob l1 pc (fun i hi => (hdy i hi).1) (fun i hi => ⟨by have := (hpcr i hi).2.2; omega, (hpcr i hi).2.2.2⟩) l1.length (Nat.le_refl _)
    have hrl := runP_length l0 cv dsc od l1 pc l1.length
    obtain ⟨R, hRe⟩ : ∃ R, R = runP l0 cv dsc od l1 pc l1.length := ⟨_, rfl⟩
    rw [← hRe] at hS hR hsum hrl
    have hSb : ∀ j : Nat, j < l0.length → (0 ≤ (R.1 j).paid ∧ (R.1 j).paid ≤ 10000000000000) ∧ (0 ≤ (R.1 j).taken ∧ (R.1 j).taken ≤ 10000000000000) := fun j hj => by
      obtain ⟨o, p, t, s, _, _, _, _⟩ := hS j hj
      have := (K.c j hj).2
      omega
    have hxr : ∀ i : Nat, i < l0.length → rdX ((List.range l0.length).map (outP l0 tm R.1)) i = outP l0 tm R.1 i := fun i hi => rdX_at _ _ hi
    have hA2 : ∀ i : Nat, i < l0.length → nineL [tm (R.1 i).paid, tm (R.1 i).taken] = ((R.1 i).paid + (R.1 i).taken) * 100000 ∧ ∀ d ∈ [tm (R.1 i).paid, tm (R.1 i).taken], SmallD d := fun i hi => by
      obtain ⟨⟨p0, p1⟩, ⟨t0, t1⟩⟩ := hSb i hi
      obtain ⟨_, a, b, _⟩ := htm _ p0 p1
      obtain ⟨_, c, d, _⟩ := htm _ t0 t1
      constructor
      · show nine _ + (nine _ + 0) = _
        rw [a, c]
        omega
      · intro x hx
        rcases List.mem_cons.1 hx with rfl | hx
        · exact b
        · rw [List.mem_singleton.1 hx]; exact d
    have hB2 : ∀ i : Nat, i < l0.length → nineL [(rdD l0 i).f2] = cv i * 100000 ∧ ∀ d ∈ [(rdD l0 i).f2], SmallD d := fun i hi => by
      obtain ⟨a, b, _, _⟩ := nine_good (d := (rdD l0 i).f2) (hdg i hi).1
      constructor
      · show nine _ + 0 = _
        rw [a, hcv]
        dsimp only
        omega
      · intro x hx
        rw [List.mem_singleton.1 hx]; exact b
    have hC : nineL (l1.map (·.f1)) = csum pc l1.length * 100000 := by
      have h1 : ∀ x ∈ l1, nine x.f1 = (x.f1.f0 * 10 ^ (4 - x.f1.f1).toNat) * 100000 := fun x hx => by
        obtain ⟨i, hi, rfl⟩ := List.mem_iff_getElem.1 hx
        have e : rdA l1 i = l1[i] := by
          show l1.getD (i : Int).toNat _ = _
          rw [Int.toNat_natCast, List.getD_eq_getElem?_getD, List.getElem?_eq_getElem hi]
          rfl
        rw [← e]
        exact (nine_good (hgp i hi).2.1).1
      rw [nineL_map l1 (·.f1) (fun x => x.f1.f0 * 10 ^ (4 - x.f1.f1).toNat) h1, csum_get, hpc]
    have hCs : ∀ d ∈ l1.map (·.f1), SmallD d := fun d hd => by
      obtain ⟨x, hx, rfl⟩ := List.mem_map.1 hd
      obtain ⟨i, hi, rfl⟩ := List.mem_iff_getElem.1 hx
      have e : rdA l1 i = l1[i] := by
        show l1.getD (i : Int).toNat _ = _
        rw [Int.toNat_natCast, List.getD_eq_getElem?_getD, List.getElem?_eq_getElem hi]
        rfl
      rw [← e]
      exact (hpcr i hi).2.1
    have hxf : ((List.range l0.length).map (outP l0 tm R.1)).map (·.f1) = (List.range l0.length).map fun j => tm (R.1 j).paid := by
      rw [List.map_map]
      rfl
    have hW : nineL (R.2.map tm ++ ((List.range l0.length).map (outP l0 tm R.1)).map (·.f1)) = csum pc l1.length * 100000 := by
      rw [nineL_append, hxf, nineL_map R.2 tm (fun x => x) (fun x hx => (htm x (hR x hx).1 (hR x hx).2).2.1),
        nineL_map (List.range l0.length) (fun j => tm (R.1 j).paid) (fun j => (R.1 j).paid) (fun j hj => (htm _ (hSb j (List.mem_range.1 hj)).1.1 (hSb j (List.mem_range.1 hj)).1.2).2.1), isum_range, ← psum_csum, List.map_id']
      omega
    have hWs : ∀ d ∈ R.2.map tm ++ ((List.range l0.length).map (outP l0 tm R.1)).map (·.f1), SmallD d := fun d hd => by
      rw [hxf] at hd
      rcases List.mem_append.1 hd with hd | hd
      · obtain ⟨x, hx, rfl⟩ := List.mem_map.1 hd
        exact (htm x (hR x hx).1 (hR x hx).2).2.2.1
      · obtain ⟨j, hj, rfl⟩ := List.mem_map.1 hd
        have hj := List.mem_range.1 hj
        exact (htm _ (hSb j hj).1.1 (hSb j hj).1.2).2.2.1
    obtain ⟨ka, hka⟩ := Tends.all l0.length fun i hi => r_Money (l := [tm (R.1 i).paid, tm (R.1 i).taken]) (by simp) (hA2 i hi).2
    obtain ⟨kb, hkb⟩ := Tends.all l0.length fun i hi => r_Money (l := [(rdD l0 i).f2]) (by simp) (hB2 i hi).2
    obtain ⟨kc, hkc⟩ := Tends.all l0.length fun i hi => r_CmpM (a := [tm (R.1 i).paid, tm (R.1 i).taken]) (b := [(rdD l0 i).f2]) (by simp) (by simp) (hA2 i hi).2 (hB2 i hi).2
    obtain ⟨kd, hkd⟩ := r_Money (l := l1.map (·.f1)) (by simp; omega) hCs
    obtain ⟨ke, hke⟩ := r_Money (l := R.2.map tm ++ ((List.range l0.length).map (outP l0 tm R.1)).map (·.f1)) (by simp; omega) hWs
    obtain ⟨kf, hkf⟩ := r_CmpM (a := l1.map (·.f1)) (b := R.2.map tm ++ ((List.range l0.length).map (outP l0 tm R.1)).map (·.f1)) (by simp; omega) (by simp; omega) hCs hWs
    obtain ⟨k, h11, hq1, hqa, hqb, hqc, hqd, hqe, hqf⟩ : ∃ k, 100 ≤ k ∧ k1 ≤ k ∧ ka ≤ k ∧ kb ≤ k ∧ kc ≤ k ∧ kd ≤ k ∧ ke ≤ k ∧ kf ≤ k := ⟨100 + k1 + ka + kb + kc + kd + ke + kf, by omega, by omega, by omega, by omega, by omega, by omega, by omega, by omega⟩
    have hfin := hkf k hqf
    rw [show (nineL (l1.map (·.f1)) - nineL (R.2.map tm ++ ((List.range l0.length).map (outP l0 tm R.1)).map (·.f1))).sign = 0 by rw [hC, hW, Int.sub_self]; rfl] at hfin
    have hP := pay_all k A0 c0 l0 A1 c1 l1 nb mf cv pc dsc od tm w hr0 hc0 hn hr1 hc1 hn1 (fun i _ => (hnb i).1) (fun i _ => (hmf i).1 k (by omega)) (hk1 k hq1) hok (fun i hi => (hdy i hi).2)
      (fun i hi => (hgp i hi).2.2.1) hod (fun i hi => by rw [hcv]; exact cents_eq (hdg i hi).1 k (by omega)) (fun i hi => Nat.le_trans (hdg i hi).2.1 (by unfold maxLen; omega))
      (fun i hi => by rw [hpc]; exact cents_eq (hgp i hi).2.1 k (by omega)) (fun i hi j hj => Nat.le_trans ((hgp i hi).2.2.2 j hj) (by unfold maxLen; omega))
      (fun j hj o p t d => by rw [hdsc]; exact discount_eq (hdg j hj).1 (hdg j hj).2.2.1 (hdg j hj).2.2.2 k (by omega) o p t d)
      (fun j hj => by rw [← hRe]; exact ⟨(htm _ (hSb j hj).1.1 (hSb j hj).1.2).1 k h11, (htm _ (hSb j hj).2.1 (hSb j hj).2.2).1 k h11⟩)
      (fun x hx => by rw [← hRe] at hx; exact (htm x (hR x hx).1 (hR x hx).2).1 k h11)
    rw [← hRe] at hP
    have hc : ∀ i : Nat, i < l0.length → (nineL [tm (R.1 i).paid, tm (R.1 i).taken] - nineL [(rdD l0 i).f2]) = ((R.1 i).paid + (R.1 i).taken - cv i) * 100000 := fun i hi => by
      rw [(hA2 i hi).1, (hB2 i hi).1]
      omega
    refine law_ok hA k A0 c0 l0 A1 c1 l1 w hr0 hc0 hn hr1 hc1 hn1 _ _ (by simp) (by simp [hrl]) hP
      (fun i => (enc (nineL [tm (R.1 i).paid, tm (R.1 i).taken])).1) (fun i => (enc (nineL [(rdD l0 i).f2])).1) (fun i => (enc (nineL [tm (R.1 i).paid, tm (R.1 i).taken])).2) (fun i => (enc (nineL [(rdD l0 i).f2])).2)
      (fun i => (nineL [tm (R.1 i).paid, tm (R.1 i).taken] - nineL [(rdD l0 i).f2]).sign) ?_ ?_ ?_ ?_ ?_ ?_ ?_ ?_ _ _ _ _ (hkd k hqd) (hke k hqe) hfin
    · intro i hi
      rw [hxr i hi]
      exact hka k hqa i hi
    · intro i hi
      exact hkb k hqb i hi
    · intro i hi
      exact hkc k hqc i hi
    · intro i hi
      show Int.sign _ ≤ 0
      rw [sign_le, hc i hi]
      obtain ⟨o, p, t, s, _, _, _, _⟩ := hS i hi
      omega
    · intro i hi
      show Int.sign _ = 0 ↔ _
      rw [Int.sign_eq_zero_iff_zero, hc i hi, hxr i hi]
      obtain ⟨o, p, t, s, dn, d0, _, _⟩ := hS i hi
      show _ ↔ 0 < (R.1 i).done
      constructor
      · intro h
        omega
      · intro h
        omega
    · intro i hi h
      rw [hxr i hi] at h ⊢
      obtain ⟨o, p, t, s, dn, d0, tk, _⟩ := hS i hi
      exact (htm _ (hSb i hi).2.1 (hSb i hi).2.2).2.2.2 (tk h)
    · intro i hi
      rw [hxr i hi]
      rfl
    · intro i hi h
      rw [hxr i hi] at h ⊢
      exact (hS i hi).dy h
  · refine law_bad hA A0 c0 l0.length A1 c1 l1.length w (pay_bad (max 11 k1) A0 c0 l0 A1 c1 l1 nb mf e1 w hr0 hc0 hr1 hc1 (fun i _ => (hnb i).1) (fun i _ => (hmf i).1 _ (by omega)) (hk1 _ (by omega)) ?_)
    intro rd hrd h
    unfold ChkD at hrd
    split at hrd
    · subst hrd
      simp at h
    · rename_i hle
      rcases hrd with ⟨rfl, hz⟩ | ⟨i, hi, hz, he, hne⟩
      · rw [if_pos rfl] at h
        exact hgood ⟨by omega, hz, h⟩
      · rw [if_neg hne] at h
        exact hne h
end Go.Proofs.YtaihfoihlbileaaDoor.R4
