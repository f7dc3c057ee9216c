/- The law of the ages is true of all debts, payments, days and steps: the walk joined with the plain laws. -/
import Derived.Test.YtaihfoihlbileaaDoorR4pq
import Derived.Test.YtaihfoihlbileaaDoorR4py
import Derived.Test.YtaihfoihlbileaaDoorR4qa
namespace Go.Proofs.YtaihfoihlbileaaDoor.R4
open Go Go.Proofs Go.RowKit YtaihfoihlbileaaDoorW.PrintWords
theorem money_up {k0 : Nat} {x : Int} {r : Int × Int × Int} (h : bill_money.f k0 x = some r) : ∀ k, k0 ≤ k → bill_money.f k x = some r := by
  intro k hk
  obtain ⟨d, rfl⟩ : ∃ d, k = k0 + d := ⟨k - k0, by omega⟩
  clear hk
  induction d with
  | zero => exact h
  | succ d ih => exact bill_money.mono _ _ _ ih
/-- an amount as it is told, if it can be -/
theorem money_pick (x : Int) : ∃ d : SDc × Int, 0 ≤ x → x ≤ 2000000000000000 → (∀ k, 100 ≤ k → bill_money.f k x = some (d.1.f0, d.1.f1, d.2)) ∧ (d.2 = 0 → nine d.1 = x * 100000 ∧ SmallD d.1) := by
  by_cases hx : 0 ≤ x ∧ x ≤ 2000000000000000
  · obtain ⟨u, q, e, h, hz⟩ := money_or hx.1 (show x < 9223372036854775808 by omega) (Nat.le_refl 100)
    refine ⟨(⟨u, q⟩, e), fun _ _ => ⟨money_up h, fun he => ?_⟩⟩
    obtain ⟨h1, h2, h3, h4, h5⟩ := hz he
    refine ⟨?_, h1, ?_, ?_, h4⟩
    · show u * 10 ^ (9 - q).toNat = x * 100000
      rw [show (9 - q).toNat = (4 - q).toNat + 5 by omega, Int.pow_add, ← Int.mul_assoc, h5]
      rfl
    · show q ≤ 9
      omega
    · show -1000000000000000 ≤ u
      omega
  · exact ⟨(⟨0, 0⟩, 0), fun h0 h1 => absurd ⟨h0, h1⟩ hx⟩
theorem upto_ex (l1 : List SPa) (day : Int) : ∃ m, UpTo l1 day m := by
  have h : ∀ n, n ≤ l1.length → (∀ i : Nat, i < n → (rdA l1 i).f0 ≤ day) ∨ ∃ m, UpTo l1 day m := by
    intro n
    induction n with
    | zero => exact fun _ => .inl fun i hi => absurd hi (Nat.not_lt_zero i)
    | succ n ih =>
      intro hn
      rcases ih (by omega) with h | h
      · by_cases hd : (rdA l1 n).f0 ≤ day
        · refine .inl fun i hi => ?_
          by_cases e : i = n
          · rw [e]; exact hd
          · exact h i (by omega)
        · exact .inr ⟨n, by omega, h, .inr (by omega)⟩
      · exact .inr h
  rcases h l1.length (Nat.le_refl _) with h | h
  · exact ⟨l1.length, Nat.le_refl _, h, .inl rfl⟩
  · exact h
theorem later_days {l1 : List SPa} (hs : ∀ j : Nat, j < l1.length → GoodQ l1 j) {day : Int} {m : Nat} (hm : UpTo l1 day m) : ∀ i, m ≤ i → i < l1.length → day < (rdA l1 i).f0 := by
  intro i
  induction i with
  | zero =>
    intro h1 h2
    rcases hm.out with e | e
    · omega
    · have : m = 0 := by omega
      rw [this] at e
      exact e
  | succ i ih =>
    intro h1 h2
    by_cases e : m = i + 1
    · rcases hm.out with e2 | e2
      · omega
      · rw [e] at e2
        exact e2
    · have h3 := ih (by omega) (by omega)
      have h4 := (hs (i + 1) h2).2 (by omega)
      rw [show ((i + 1 - 1 : Nat) : Int) = (i : Int) by omega] at h4
      omega
/-- not done, or done later -/
def LaterD (day : Int) (v : V4) : Prop := v.done = 0 ∨ day < v.done
theorem payV_later {day d left : Int} {v : V4} (h : LaterD day v) (hd : day < d) : LaterD day (payV v left d).2 := by
  unfold LaterD payV
  dsimp only
  split
  · exact .inr hd
  · exact h
theorem namedV_later {x : SDe} {day d left dsc : Int} {v : V4} (h : LaterD day v) (hd : day < d) : LaterD day (namedV x dsc v left d).2 := by
  unfold LaterD namedV named5
  dsimp only
  split
  · dsimp only
    split
    · exact .inr hd
    · exact h
  · exact .inr hd
theorem upd_later {day : Int} {S : Nat → V4} {i j : Nat} {v : V4} (h : LaterD day (S j)) (hv : i = j → LaterD day v) : LaterD day (upd S i v j) := by
  unfold upd
  by_cases e : j = i
  · rw [if_pos e]
    exact hv e.symm
  · rw [if_neg e]
    exact h
theorem stepN_later {l0 : List SDe} {dsc : Nat → Int → Int} {day d : Int} (hd : day < d) {o : Option Nat} {s : Int × (Nat → V4)} {j : Nat} (h : LaterD day (s.2 j)) : LaterD day ((stepN l0 dsc d o s).2 j) := by
  cases o with
  | none => exact h
  | some i =>
    show LaterD day ((if thereB (rdD l0 i) (s.2 i) d = true then _ else s : Int × (Nat → V4)).2 j)
    split
    · exact upd_later h fun e => namedV_later (e ▸ h) hd
    · exact h
theorem stepO_later {l0 : List SDe} {day d : Int} (hd : day < d) {i : Nat} {s : Int × (Nat → V4)} {j : Nat} (h : LaterD day (s.2 j)) : LaterD day ((stepO l0 d i s).2 j) := by
  unfold stepO
  split
  · exact upd_later h fun e => payV_later (e ▸ h) hd
  · exact h
theorem runN_later {l0 : List SDe} {dsc : Nat → Int → Int} {day d : Int} (hd : day < d) (nm : Nat → ByteArray) {s : Int × (Nat → V4)} {j : Nat} (h : LaterD day (s.2 j)) : ∀ k, LaterD day ((runN l0 dsc d nm s k).2 j)
  | 0 => h
  | k + 1 => stepN_later hd (runN_later hd nm h k)
theorem runO_later {l0 : List SDe} {day d : Int} (hd : day < d) (od : List Nat) {s : Int × (Nat → V4)} {j : Nat} (h : LaterD day (s.2 j)) : ∀ k, LaterD day ((runO l0 d od s k).2 j)
  | 0 => h
  | k + 1 => stepO_later hd (runO_later hd od h k)
theorem runP_later {l0 : List SDe} {cv : Nat → Int} {dsc : Nat → Int → Int} {od : List Nat} {l1 : List SPa} {pc : Nat → Int} {day : Int} {m j : Nat} (hl : ∀ i, m ≤ i → i < l1.length → day < (rdA l1 i).f0) (h : LaterD day ((runP l0 cv dsc od l1 pc m).1 j)) :
    ∀ n, m + n ≤ l1.length → LaterD day ((runP l0 cv dsc od l1 pc (m + n)).1 j)
  | 0, _ => h
  | n + 1, hn => by
    have ih := runP_later hl h n (by omega)
    have hd := hl (m + n) (by omega) (by omega)
    show LaterD day ((oneP l0 dsc od (rdA l1 (m + n : Nat)) (pc (m + n)) (runP l0 cv dsc od l1 pc (m + n)).1).2 j)
    unfold oneP
    exact runO_later hd od (runN_later hd _ ih _) _
/-! ### the sums -/
theorem isum_set : ∀ (l : List Int) (k : Nat) (v : Int), k < l.length → isum (l.set k v) = isum l - l.getD k 0 + v
  | [], _, _, h => absurd h (Nat.not_lt_zero _)
  | x :: r, 0, v, _ => by
    show v + isum r = (x + isum r) - x + v
    omega
  | x :: r, k + 1, v, h => by
    show x + isum (r.set k v) = (x + isum r) - r.getD k 0 + v
    rw [isum_set r k v (by simpa using h)]
    omega
def osum (l0 : List SDe) (S : Nat → V4) (day : Int) : Nat → Int
  | 0 => 0
  | n + 1 => osum l0 S day n + if thereB (rdD l0 n) (S n) day = true then (S n).owes else 0
theorem isum_zeros : ∀ n : Nat, isum (List.replicate n 0) = 0
  | 0 => rfl
  | n + 1 => by rw [List.replicate_succ]; show 0 + isum (List.replicate n 0) = 0; rw [isum_zeros n]; rfl
theorem sums_ok {l0 : List SDe} {st : List Int} {S : Nat → V4} {day : Int} (hS : ∀ j : Nat, j < l0.length → 0 ≤ (S j).owes ∧ (S j).owes ≤ 10000000000000) (hn : l0.length ≤ 200) :
    ∀ n, n ≤ l0.length → (∀ x ∈ sumsV l0 st S day n, 0 ≤ x ∧ x ≤ n * 10000000000000) ∧ isum (sumsV l0 st S day n) = osum l0 S day n
  | 0, _ => by
    refine ⟨fun x hx => ?_, isum_zeros _⟩
    have := (List.mem_replicate.1 (show x ∈ List.replicate (st.length + 1) 0 from hx)).2
    omega
  | n + 1, hn1 => by
    obtain ⟨h1, h2⟩ := sums_ok (st := st) (day := day) hS hn n (by omega)
    have hs := hS n (by omega)
    unfold sumsV osum
    split
    · have hk : kkF st (lateV (rdD l0 n) day) < (sumsV l0 st S day n).length := by
        rw [sumsV_length]
        have := kkF_le st (lateV (rdD l0 n) day)
        omega
      have hr : rd (sumsV l0 st S day n) (kkF st (lateV (rdD l0 n) day)) = (sumsV l0 st S day n)[kkF st (lateV (rdD l0 n) day)] := by
        show (sumsV l0 st S day n).getD _ 0 = _
        rw [Int.toNat_natCast, List.getD_eq_getElem?_getD, List.getElem?_eq_getElem hk]
        rfl
      have hb := h1 _ (List.getElem_mem hk)
      rw [← hr] at hb
      have hw : wrap64 (rd (sumsV l0 st S day n) (kkF st (lateV (rdD l0 n) day)) + (S n).owes) = rd (sumsV l0 st S day n) (kkF st (lateV (rdD l0 n) day)) + (S n).owes := w64 (by omega) (by omega)
      rw [hw]
      constructor
      · intro x hx
        rcases List.mem_or_eq_of_mem_set hx with hx | hx
        · have := h1 x hx
          omega
        · omega
      · rw [isum_set _ _ _ hk, h2]
        have hg : (sumsV l0 st S day n).getD (kkF st (lateV (rdD l0 n) day)) 0 = rd (sumsV l0 st S day n) (kkF st (lateV (rdD l0 n) day)) := by
          show _ = (sumsV l0 st S day n).getD _ 0
          rw [Int.toNat_natCast]
        rw [hg]
        omega
    · constructor
      · intro x hx
        have := h1 x hx
        omega
      · rw [h2]
        omega
theorem open_sum {l0 : List SDe} {tm : Int → SDc} {S : Nat → V4} {day : Int} (ht : ∀ j : Nat, j < l0.length → nine (tm (S j).owes) = (S j).owes * 100000) : ∀ n, n ≤ l0.length → nineL ((opl l0 tm S day n).map (·.f1)) = osum l0 S day n * 100000
  | 0, _ => rfl
  | n + 1, hn => by
    rw [opl_succ, List.map_append, nineL_append, open_sum ht n (by omega), show osum l0 S day (n + 1) = osum l0 S day n + (if thereB (rdD l0 n) (S n) day = true then (S n).owes else 0) from rfl]
    by_cases h : thereB (rdD l0 n) (S n) day = true
    · rw [if_pos h, if_pos h]
      show _ + (nine (tm (S n).owes) + 0) = _
      rw [ht n (by omega)]
      omega
    · rw [if_neg h, if_neg h]
      show _ + 0 = _
      omega
theorem opl_mem {l0 : List SDe} {tm : Int → SDc} {S : Nat → V4} {day : Int} {n : Nat} {x : SOw} (h : x ∈ opl l0 tm S day n) : ∃ j, j < n ∧ thereB (rdD l0 j) (S j) day = true ∧ x = outO l0 tm S day j := by
  unfold opl at h
  obtain ⟨j, hj, rfl⟩ := List.mem_map.1 h
  obtain ⟨h1, h2⟩ := List.mem_filter.1 hj
  exact ⟨j, List.mem_range.1 h1, h2, rfl⟩
theorem sameN_comm (a b : ByteArray) : sameN a b = sameN b a := by
  unfold sameN
  exact Bool.beq_comm
/-- no two debts bear one name -/
theorem names_apart {l0 : List SDe} {nb : Nat → Bool} {mf : Nat → Int} (hok : ∀ i, i < l0.length → dF l0 nb mf i = 0) {i j : Nat} (hi : i < l0.length) (hj : j < l0.length) (h : sameN (rdD l0 j).f0 (rdD l0 i).f0 = true) : i = j := by
  have one : ∀ i j : Nat, i < l0.length → j < i → sameN (rdD l0 j).f0 (rdD l0 i).f0 = true → False := by
    intro i j hi hji hs
    have hd := hok i hi
    have htw : twB l0 i = true := by
      unfold twB
      refine List.any_eq_true.2 ⟨rdD l0 j, ?_, hs⟩
      have e : rdD l0 (j : Nat) = (l0.take i)[j]'(by rw [List.length_take]; omega) := by
        show l0.getD (j : Int).toNat _ = _
        rw [Int.toNat_natCast, List.getD_eq_getElem?_getD, List.getElem?_eq_getElem (by omega), List.getElem_take]
        rfl
      rw [e]
      exact List.getElem_mem _
    unfold dF at hd
    rw [htw] at hd
    split at hd
    · omega
    · rw [if_pos rfl] at hd
      omega
  rcases Nat.lt_trichotomy i j with h1 | h1 | h1
  · rw [sameN_comm] at h
    exact (one j i hj h1 h).elim
  · exact h1
  · exact (one i j hi h1 h).elim
theorem law2_true (hA : AwakeOK) (A0 : Option Addr) (c0 : Nat) (l0 : List SDe) (A1 : Option Addr) (c1 : Nat) (l1 : List SPa) (day : Int) (A2 : Option Addr) (c2 : Nat) (st : List Int) (w : World) (hr0 : Kd.C k44 w A0 l0.length l0) (hc0 : l0.length ≤ c0)
    (hr1 : Kd.C k35 w A1 l1.length l1) (hc1 : l1.length ≤ c1) (hr2 : Kd.C (Kd.int .i64) w A2 st.length st) (hc2 : st.length ≤ c2) :
    Calls Tryd.prog 4 #[.slice A0 l0.length c0, .slice A1 l1.length c1, .int .i64 day, .slice A2 st.length c2] w fun e w' => e = .returned (.bool true) ∧ Below w.heap.size w w' := by
  obtain ⟨nb, hnb⟩ := Classical.axiomOfChoice (fun i : Nat => name_any (rdD l0 i).f0)
  obtain ⟨mf, hmf⟩ := Classical.axiomOfChoice (fun i : Nat => money_any (rdD l0 i).f2.f0 (rdD l0 i).f2.f1)
  obtain ⟨e1, ⟨k1, hk1⟩, hg1⟩ := payments_any2 l1
  by_cases hgood : (l0.length ≤ 200 ∧ (∀ i, i < l0.length → dF l0 nb mf i = 0) ∧ e1 = 0) ∧ dayB day = true
  · obtain ⟨⟨hn, hok, rfl⟩, hdb⟩ := hgood
    obtain ⟨hn1, hgq⟩ := hg1 rfl
    have hgp : ∀ j : Nat, j < l1.length → GoodP (rdA l1 j) := fun j hj => (hgq j hj).1
    obtain ⟨tm, htm⟩ := Classical.axiomOfChoice told_any
    obtain ⟨mp, hmp⟩ := Classical.axiomOfChoice money_pick
    obtain ⟨m, hm⟩ := upto_ex l1 day
    have hdg : ∀ j : Nat, j < l0.length → GoodM (rdD l0 j).f2.f0 (rdD l0 j).f2.f1 ∧ (rdD l0 j).f0.size ≤ 40 ∧ 0 ≤ (rdD l0 j).f5 ∧ (rdD l0 j).f5 ≤ 1000 := fun j hj => by
      obtain ⟨a, b, c, d⟩ := debt_good (hok j hj)
      exact ⟨(hmf j).2 b, (hnb j).2 a, c, d⟩
    obtain ⟨cv, hcv⟩ : ∃ cv : Nat → Int, cv = fun j : Nat => (rdD l0 j).f2.f0 * 10 ^ (4 - (rdD l0 j).f2.f1).toNat := ⟨_, rfl⟩
    obtain ⟨pc, hpc⟩ : ∃ pc : Nat → Int, pc = fun j : Nat => (rdA l1 j).f1.f0 * 10 ^ (4 - (rdA l1 j).f1.f1).toNat := ⟨_, rfl⟩
    obtain ⟨dsc, hdsc⟩ : ∃ dsc : Nat → Int → Int, dsc = fun (j : Nat) (o : Int) => dscV (rdD l0 j) o := ⟨_, rfl⟩
    obtain ⟨od, hod⟩ : ∃ od, ordA (fun j => (iniD l0 cv j).last) l0.length = od := ⟨_, rfl⟩
    have hob : ∀ j ∈ od, j < l0.length := hod ▸ ordA_lt (fun j => (iniD l0 cv j).last) l0.length
    have K : Ok0 l0 cv dsc := by
      constructor
      · intro j hj
        obtain ⟨_, _, a, b⟩ := nine_good (d := (rdD l0 j).f2) (hdg j hj).1
        rw [hcv]
        exact ⟨a, b⟩
      · intro j hj o ho
        rw [hdsc]
        exact dscV_le (hdg j hj).1 (hdg j hj).2.2.1 o ho
    have hdy : ∀ i : Nat, i < l1.length → 1 ≤ (rdA l1 i).f0 ∧ (rdA l1 i).f0 ≤ 3652059 := fun i hi => by
      have := (hgp i hi).1
      unfold dayB at this
      simpa using this
    have hpcr : ∀ i : Nat, i < l1.length → 0 < pc i ∧ pc i ≤ 10000000000000 := fun i hi => by
      rw [hpc]
      exact (nine_good (d := (rdA l1 i).f1) (hgp i hi).2.1).2.2
    have hrun := runP_ok K hob l1 pc (fun i hi => (hdy i hi).1) (fun i hi => ⟨by have := (hpcr i hi).1; omega, (hpcr i hi).2⟩)
    obtain ⟨hS, hR, _⟩ := hrun l1.length (Nat.le_refl _)
    obtain ⟨hT, _, _⟩ := hrun m hm.le
    have hbd : ∀ (S : Nat → V4), SInv l0 cv S → ∀ j : Nat, j < l0.length → (0 ≤ (S j).paid ∧ (S j).paid ≤ 10000000000000) ∧ (0 ≤ (S j).taken ∧ (S j).taken ≤ 10000000000000) ∧ (0 ≤ (S j).owes ∧ (S j).owes ≤ 10000000000000) := fun S hS j hj => by
      obtain ⟨o, p, t, s, _, _, _, _⟩ := hS j hj
      have := (K.c j hj).2
      omega
    have hlat : ∀ j, LaterD day ((runP l0 cv dsc od l1 pc m).1 j) → LaterD day ((runP l0 cv dsc od l1 pc l1.length).1 j) := fun j h => by
      have h9 := runP_later (later_days hgq hm) h (l1.length - m) (by have := hm.le; omega)
      rw [show m + (l1.length - m) = l1.length by have := hm.le; omega] at h9
      exact h9
    obtain ⟨R, hRe⟩ : ∃ R, R = runP l0 cv dsc od l1 pc l1.length := ⟨_, rfl⟩
    obtain ⟨Q, hQe⟩ : ∃ Q, Q = runP l0 cv dsc od l1 pc m := ⟨_, rfl⟩
    rw [← hRe] at hS hR
    rw [← hQe] at hT
    rw [← hRe, ← hQe] at hlat
    obtain ⟨hsx, hsi⟩ := sums_ok (st := st) (day := day) (S := Q.1) (fun j hj => (hbd Q.1 hT j hj).2.2) hn l0.length (Nat.le_refl _)
    have hsx2 : ∀ x ∈ sumsV l0 st Q.1 day l0.length, 0 ≤ x ∧ x ≤ 2000000000000000 := fun x hx => by
      have := hsx x hx
      omega
    have hto : ∀ j : Nat, j < l0.length → nine (tm (Q.1 j).owes) = (Q.1 j).owes * 100000 ∧ SmallD (tm (Q.1 j).owes) := fun j hj => by
      obtain ⟨_, _, o0, o1⟩ := hbd Q.1 hT j hj
      exact ⟨(htm _ o0 o1).2.1, (htm _ o0 o1).2.2.1⟩
    have hos := open_sum (day := day) (fun j hj => (hto j hj).1) l0.length (Nat.le_refl _)
    have hoS : ∀ d ∈ (opl l0 tm Q.1 day l0.length).map (·.f1), SmallD d := fun d hd => by
      obtain ⟨x, hx, rfl⟩ := List.mem_map.1 hd
      obtain ⟨j, hj, _, rfl⟩ := opl_mem hx
      exact (hto j hj).2
    have hol := opl_length l0 tm Q.1 day l0.length
    obtain ⟨ME, hME⟩ : ∃ ME : Prop, ME = ∀ x ∈ sumsV l0 st Q.1 day l0.length, (mp x).2 = 0 := ⟨_, rfl⟩
    have hag : ME → nineL ((sumsV l0 st Q.1 day l0.length).map fun x => (mp x).1) = osum l0 Q.1 day l0.length * 100000 ∧ ∀ d ∈ (sumsV l0 st Q.1 day l0.length).map fun x => (mp x).1, SmallD d := fun h => by
      rw [hME] at h
      constructor
      · rw [nineL_map (sumsV l0 st Q.1 day l0.length) (fun x => (mp x).1) (fun x => x) (fun x hx => ((hmp x (hsx2 x hx).1 (hsx2 x hx).2).2 (h x hx)).1), List.map_id', hsi]
      · intro d hd
        obtain ⟨x, hx, rfl⟩ := List.mem_map.1 hd
        exact ((hmp x (hsx2 x hx).1 (hsx2 x hx).2).2 (h x hx)).2
    obtain ⟨k2, hk2⟩ : ∃ k2, ∀ k, k2 ≤ k → ME → st.length ≤ 20 → ∃ (mc1 mw1 : Bool) (mc2 mw2 : List Int), interchangeref11_Money.f k ((sumsV l0 st Q.1 day l0.length).map fun x => (mp x).1) = some (mc1, mc2) ∧ interchangeref11_Money.f k ((opl l0 tm Q.1 day l0.length).map (·.f1)) = some (mw1, mw2) ∧ interchangeref1_Cmp.f k mc1 mc2 mw1 mw2 = some 0 := by
      by_cases h : ME ∧ st.length ≤ 20
      · obtain ⟨hs1, hs2⟩ := hag h.1
        have hl1 : ((sumsV l0 st Q.1 day l0.length).map fun x => (mp x).1).length ≤ 1000 := by
          rw [List.length_map, sumsV_length]
          omega
        have hl2 : ((opl l0 tm Q.1 day l0.length).map (·.f1)).length ≤ 1000 := by
          rw [List.length_map]
          omega
        obtain ⟨ka, hka⟩ := r_Money hl1 hs2
        obtain ⟨kb, hkb⟩ := r_Money hl2 hoS
        obtain ⟨kc, hkc⟩ := r_CmpM hl1 hl2 hs2 hoS
        refine ⟨ka + kb + kc, fun k hk _ _ => ⟨_, _, _, _, hka k (by omega), hkb k (by omega), ?_⟩⟩
        have h9 := hkc k (by omega)
        rw [show (nineL ((sumsV l0 st Q.1 day l0.length).map fun x => (mp x).1) - nineL ((opl l0 tm Q.1 day l0.length).map (·.f1))).sign = 0 by rw [hs1, hos, Int.sub_self]; rfl] at h9
        exact h9
      · exact ⟨0, fun k _ h1 h2 => absurd ⟨h1, h2⟩ h⟩
    obtain ⟨k, h11, hq1, hq2⟩ : ∃ k, 100 ≤ k ∧ k1 ≤ k ∧ k2 ≤ k := ⟨100 + k1 + k2, by omega, by omega, by omega⟩
    have hO := open_all k A0 c0 l0 A1 c1 l1 nb mf cv pc dsc od tm day m w hr0 hc0 hn hr1 hc1 hn1 (fun i _ => (hnb i).1) (fun i _ => (hmf i).1 k (by omega)) (hk1 k hq1) hok hdb hm
      (fun i hi => (hgp i hi).2.2.1) hod (fun i hi => by rw [hcv]; exact cents_eq (hdg i hi).1 k (by omega)) (fun i hi => Nat.le_trans (hdg i hi).2.1 (by unfold maxLen; omega))
      (fun i hi => by rw [hpc]; exact cents_eq (hgp i hi).2.1 k (by omega)) (fun i hi j hj => Nat.le_trans ((hgp i hi).2.2.2 j hj) (by unfold maxLen; omega))
      (fun j hj o p t d => by rw [hdsc]; exact discount_eq (hdg j hj).1 (hdg j hj).2.2.1 (hdg j hj).2.2.2 k (by omega) o p t d)
      (fun j hj => by rw [← hQe]; exact (htm _ (hbd Q.1 hT j hj).2.2.1 (hbd Q.1 hT j hj).2.2.2).1 k h11)
    rw [← hQe] at hO
    have hP := fun (w5 : World) (hb : Below w.heap.size w w5) => pay_all k A0 c0 l0 A1 c1 l1 nb mf cv pc dsc od tm w5 (Kd.C_below hr0 hb) hc0 hn (Kd.C_below hr1 hb) hc1 hn1 (fun i _ => (hnb i).1) (fun i _ => (hmf i).1 k (by omega)) (hk1 k hq1) hok (fun i hi => (hdy i hi).2)
      (fun i hi => (hgp i hi).2.2.1) hod (fun i hi => by rw [hcv]; exact cents_eq (hdg i hi).1 k (by omega)) (fun i hi => Nat.le_trans (hdg i hi).2.1 (by unfold maxLen; omega))
      (fun i hi => by rw [hpc]; exact cents_eq (hgp i hi).2.1 k (by omega)) (fun i hi j hj => Nat.le_trans ((hgp i hi).2.2.2 j hj) (by unfold maxLen; omega))
      (fun j hj o p t d => by rw [hdsc]; exact discount_eq (hdg j hj).1 (hdg j hj).2.2.1 (hdg j hj).2.2.2 k (by omega) o p t d)
      (fun j hj => by rw [← hRe]; exact ⟨(htm _ (hbd R.1 hS j hj).1.1 (hbd R.1 hS j hj).1.2).1 k h11, (htm _ (hbd R.1 hS j hj).2.1.1 (hbd R.1 hS j hj).2.1.2).1 k h11⟩)
      (fun x hx => by rw [← hRe] at hx; exact (htm x (hR x hx).1 (hR x hx).2).1 k h11)
    rw [← hRe] at hP
    have hG := fun (w5 : World) (hb : Below w.heap.size w w5) => ages_all k A0 c0 l0 A1 c1 l1 nb mf cv pc dsc od day m A2 c2 st (fun x => (mp x).1) (fun x => (mp x).2) w5 (Kd.C_below hr0 hb) hc0 hn (Kd.C_below hr1 hb) hc1 hn1 (fun i _ => (hnb i).1) (fun i _ => (hmf i).1 k (by omega)) (hk1 k hq1) hok hdb hm
      (fun i hi => (hgp i hi).2.2.1) hod (fun i hi => by rw [hcv]; exact cents_eq (hdg i hi).1 k (by omega)) (fun i hi => Nat.le_trans (hdg i hi).2.1 (by unfold maxLen; omega))
      (fun i hi => by rw [hpc]; exact cents_eq (hgp i hi).2.1 k (by omega)) (fun i hi j hj => Nat.le_trans ((hgp i hi).2.2.2 j hj) (by unfold maxLen; omega))
      (fun j hj o p t d => by rw [hdsc]; exact discount_eq (hdg j hj).1 (hdg j hj).2.2.1 (hdg j hj).2.2.2 k (by omega) o p t d)
      (Kd.C_below hr2 hb) hc2 (fun x hx => by rw [← hQe] at hx; exact (hmp x (hsx2 x hx).1 (hsx2 x hx).2).1 k h11)
    rw [← hQe] at hG
    refine law2_ok hA k A0 c0 l0.length A1 c1 l1.length day A2 c2 st w (opl l0 tm Q.1 day l0.length) (by omega) ((List.range l0.length).map (outP l0 tm R.1)) (by simp; omega) (R.2.map tm) ((sumsV l0 st Q.1 day l0.length).map fun x => (mp x).1) (by rw [List.length_map, sumsV_length]) ME hO hP
      (fun w5 hb => (hG w5 hb).mono ?_) ?_ (hk2 k hq2)
    · rintro e w' ⟨v1, r, rfl, h1, h2, h3⟩
      exact ⟨v1, r, rfl, h1, fun h => ⟨(h2 h).1, by rw [hME]; exact (h2 h).2.1, (h2 h).2.2⟩, h3⟩
    · intro i j hi hj hs hd
      have hj' : j < l0.length := by simpa using hj
      have hx := List.getElem_mem hi
      obtain ⟨j2, hj2, hth, hx2⟩ := opl_mem hx
      have e : rdO (opl l0 tm Q.1 day l0.length) i = outO l0 tm Q.1 day j2 := by
        rw [← hx2]
        show (opl l0 tm Q.1 day l0.length).getD (i : Int).toNat _ = _
        rw [Int.toNat_natCast, List.getD_eq_getElem?_getD, List.getElem?_eq_getElem hi]
        rfl
      rw [rdX_at _ _ hj'] at hs hd ⊢
      rw [e] at hs
      have hjj : j2 = j := names_apart hok hj2 hj' hs
      subst hjj
      have h0 : LaterD day (Q.1 j2) := .inl (there_at hth).2
      rcases hlat j2 h0 with h9 | h9
      · have : 0 < (R.1 j2).done := hd
        omega
      · exact h9
  · refine law2_bad hA A0 c0 l0.length A1 c1 l1.length day _ w (open_bad (max 11 k1) A0 c0 l0 A1 c1 l1 nb mf e1 day w hr0 hc0 hr1 hc1 (fun i _ => (hnb i).1) (fun i _ => (hmf i).1 _ (by omega)) (hk1 _ (by omega)) ?_)
    by_cases hdb : dayB day = true
    · refine .inl fun rd hrd h => ?_
      unfold ChkD at hrd
      split at hrd
      · subst hrd
        simp at h
      · rename_i hle
        rcases hrd with ⟨rfl, hz⟩ | ⟨i, hi, hz, he, hne⟩
        · rw [if_pos rfl] at h
          exact hgood ⟨⟨by omega, hz, h⟩, hdb⟩
        · rw [if_neg hne] at h
          exact hne h
    · exact .inr (by simpa using hdb)
end Go.Proofs.YtaihfoihlbileaaDoor.R4
