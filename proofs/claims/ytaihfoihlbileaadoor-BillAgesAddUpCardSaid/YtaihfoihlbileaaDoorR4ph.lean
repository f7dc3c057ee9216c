/- What the payments leave: nothing is lost. Plain laws. -/
import Derived.Test.YtaihfoihlbileaaDoorR4pg
namespace Go.Proofs.YtaihfoihlbileaaDoor.R4
open Go Go.Proofs Go.RowKit YtaihfoihlbileaaDoorW.PrintWords
/-- how a debt of c is, at each time -/
structure InvV (d : SDe) (c : Int) (v : V4) : Prop where
  o : 0 ≤ v.owes
  p : 0 ≤ v.paid
  t : 0 ≤ v.taken
  s : v.paid + v.taken + v.owes = c
  dn : v.done = 0 ↔ 0 < v.owes
  d0 : 0 ≤ v.done
  tk : v.done = 0 → v.taken = 0
  dy : 0 < v.done → d.f1 ≤ v.done
def BIG : Int := 10000000000000
theorem pay_inv {d : SDe} {c : Int} {v : V4} {left day : Int} (h : InvV d c v) (hc : c ≤ 10000000000000) (hl : 0 ≤ left) (hl2 : left ≤ 10000000000000) (hd : 1 ≤ day) (hth : d.f1 ≤ day) (h0 : v.done = 0) :
    InvV d c (payV v left day).2 ∧ 0 ≤ (payV v left day).1 ∧ (payV v left day).1 ≤ left ∧ (payV v left day).1 + (payV v left day).2.paid = left + v.paid := by
  obtain ⟨o, p, t, s, dn, d0, tk, dy⟩ := h
  have ht := tk h0
  have ho := dn.1 h0
  have hm : 0 ≤ mn left v.owes ∧ mn left v.owes ≤ v.owes ∧ mn left v.owes ≤ left := by unfold mn; split <;> omega
  unfold payV
  generalize mn left v.owes = n at hm
  rw [w64 (n := left - n) (by omega) (by omega), w64 (n := v.owes - n) (by omega) (by omega), w64 (n := v.paid + n) (by omega) (by omega)]
  by_cases hz : v.owes - n = 0
  · rw [if_pos hz]
    refine ⟨⟨?_, ?_, ?_, ?_, ?_, ?_, ?_, ?_⟩, ?_, ?_, ?_⟩ <;> dsimp only <;> omega
  · rw [if_neg hz]
    refine ⟨⟨?_, ?_, ?_, ?_, ?_, ?_, ?_, ?_⟩, ?_, ?_, ?_⟩ <;> dsimp only <;> omega
theorem named_inv {d : SDe} {c : Int} {v : V4} {left day dsc : Int} (h : InvV d c v) (hc : c ≤ 10000000000000) (hl : 0 ≤ left) (hl2 : left ≤ 10000000000000) (hd : 1 ≤ day) (hth : d.f1 ≤ day) (h0 : v.done = 0) (hs0 : 0 ≤ dsc) (hs1 : dsc ≤ v.owes) :
    InvV d c (namedV d dsc v left day).2 ∧ 0 ≤ (namedV d dsc v left day).1 ∧ (namedV d dsc v left day).1 ≤ left ∧ (namedV d dsc v left day).1 + (namedV d dsc v left day).2.paid = left + v.paid := by
  have hp := pay_inv h hc hl hl2 hd hth h0
  by_cases hx : wrap64 (v.owes - dsc) > left ∨ day > wrap64 (d.f1 + d.f4)
  · have e : namedV d dsc v left day = payV v left day := by
      unfold namedV named5 payV
      rw [if_pos hx]
    rw [e]
    exact hp
  · obtain ⟨o, p, t, s, dn, d0, tk, dy⟩ := h
    have ht := tk h0
    have ho := dn.1 h0
    have e : namedV d dsc v left day = (wrap64 (left - wrap64 (v.owes - dsc)), ⟨0, wrap64 (v.paid + wrap64 (v.owes - dsc)), dsc, day⟩) := by
      unfold namedV named5
      rw [if_neg hx]
    rw [w64 (n := v.owes - dsc) (by omega) (by omega)] at hx e
    rw [e, w64 (n := left - (v.owes - dsc)) (by omega) (by omega), w64 (n := v.paid + (v.owes - dsc)) (by omega) (by omega)]
    refine ⟨⟨?_, ?_, ?_, ?_, ?_, ?_, ?_, ?_⟩, ?_, ?_, ?_⟩ <;> dsimp only <;> omega
def psum (S : Nat → V4) : Nat → Int
  | 0 => 0
  | n + 1 => psum S n + (S n).paid
theorem psum_upd (S : Nat → V4) (j : Nat) (v : V4) : ∀ n, psum (upd S j v) n = psum S n + (if j < n then v.paid - (S j).paid else 0)
  | 0 => by simp [psum]
  | n + 1 => by
    rw [psum, psum, psum_upd S j v n]
    unfold upd
    by_cases h : n = j
    · subst h
      rw [if_pos rfl, if_neg (by omega), if_pos (by omega)]
      omega
    · rw [if_neg h]
      by_cases h2 : j < n
      · rw [if_pos h2, if_pos (by omega)]
        omega
      · rw [if_neg h2, if_neg (by omega)]
        omega
/-- all debts are as they must be -/
def SInv (l0 : List SDe) (cv : Nat → Int) (S : Nat → V4) : Prop := ∀ j : Nat, j < l0.length → InvV (rdD l0 j) (cv j) (S j)
structure Ok0 (l0 : List SDe) (cv : Nat → Int) (dsc : Nat → Int → Int) : Prop where
  c : ∀ j : Nat, j < l0.length → 0 < cv j ∧ cv j ≤ 10000000000000
  s : ∀ j : Nat, j < l0.length → ∀ o : Int, 0 ≤ o → 0 ≤ dsc j o ∧ dsc j o ≤ o
def StepOK (l0 : List SDe) (cv : Nat → Int) (s s' : Int × (Nat → V4)) : Prop := SInv l0 cv s'.2 ∧ 0 ≤ s'.1 ∧ s'.1 ≤ s.1 ∧ s'.1 + psum s'.2 l0.length = s.1 + psum s.2 l0.length
theorem SInv.upd {l0 : List SDe} {cv : Nat → Int} {S : Nat → V4} (h : SInv l0 cv S) {j : Nat} {v : V4} (hv : InvV (rdD l0 j) (cv j) v) : SInv l0 cv (upd S j v) := by
  intro i hi
  unfold Go.Proofs.YtaihfoihlbileaaDoor.R4.upd
  by_cases e : i = j
  · rw [if_pos e, e]
    exact hv
  · rw [if_neg e]
    exact h i hi
theorem there_at {d : SDe} {v : V4} {day : Int} (h : thereB d v day = true) : d.f1 ≤ day ∧ v.done = 0 := by
  unfold thereB at h
  split at h
  · exact ⟨by assumption, by simpa using h⟩
  · cases h
theorem stepN_ok {l0 : List SDe} {cv : Nat → Int} {dsc : Nat → Int → Int} (K : Ok0 l0 cv dsc) {day : Int} (hd : 1 ≤ day) {o : Option Nat} (ho : ∀ j, o = some j → j < l0.length) {s : Int × (Nat → V4)} (hS : SInv l0 cv s.2) (h0 : 0 ≤ s.1) (h1 : s.1 ≤ 10000000000000) : StepOK l0 cv s (stepN l0 dsc day o s) := by
  cases o with
  | none => exact ⟨hS, h0, Int.le_refl _, rfl⟩
  | some j =>
    have hj := ho j rfl
    show StepOK l0 cv s (if thereB (rdD l0 j) (s.2 j) day = true then _ else s)
    by_cases hth : thereB (rdD l0 j) (s.2 j) day = true
    · rw [if_pos hth]
      obtain ⟨ha, hb⟩ := there_at hth
      have hi := hS j hj
      obtain ⟨a, b, c, e⟩ := named_inv (dsc := dsc j (s.2 j).owes) hi (K.c j hj).2 h0 h1 hd ha hb (K.s j hj _ hi.o).1 (K.s j hj _ hi.o).2
      refine ⟨hS.upd a, b, c, ?_⟩
      show _ + psum (upd _ _ _) _ = _
      rw [psum_upd, if_pos hj]
      omega
    · rw [if_neg hth]
      exact ⟨hS, h0, Int.le_refl _, rfl⟩
theorem stepO_ok {l0 : List SDe} {cv : Nat → Int} {dsc : Nat → Int → Int} (K : Ok0 l0 cv dsc) {day : Int} (hd : 1 ≤ day) {j : Nat} (hj : j < l0.length) {s : Int × (Nat → V4)} (hS : SInv l0 cv s.2) (h0 : 0 ≤ s.1) (h1 : s.1 ≤ 10000000000000) : StepOK l0 cv s (stepO l0 day j s) := by
  unfold stepO
  by_cases hth : s.1 > 0 ∧ thereB (rdD l0 j) (s.2 j) day = true
  · rw [if_pos hth]
    obtain ⟨ha, hb⟩ := there_at hth.2
    have hi := hS j hj
    obtain ⟨a, b, c, e⟩ := pay_inv hi (K.c j hj).2 h0 h1 hd ha hb
    refine ⟨hS.upd a, b, c, ?_⟩
    show _ + psum (upd _ _ _) _ = _
    rw [psum_upd, if_pos hj]
    omega
  · rw [if_neg hth]
    exact ⟨hS, h0, Int.le_refl _, rfl⟩
theorem StepOK.trans {l0 : List SDe} {cv : Nat → Int} {a b c : Int × (Nat → V4)} (h : StepOK l0 cv a b) (k : StepOK l0 cv b c) : StepOK l0 cv a c :=
  ⟨k.1, k.2.1, Int.le_trans k.2.2.1 h.2.2.1, k.2.2.2.trans h.2.2.2⟩
theorem runN_ok {l0 : List SDe} {cv : Nat → Int} {dsc : Nat → Int → Int} (K : Ok0 l0 cv dsc) {day : Int} (hd : 1 ≤ day) (nm : Nat → ByteArray) {s : Int × (Nat → V4)} (hS : SInv l0 cv s.2) (h0 : 0 ≤ s.1) (h1 : s.1 ≤ 10000000000000) : ∀ k, StepOK l0 cv s (runN l0 dsc day nm s k)
  | 0 => ⟨hS, h0, Int.le_refl _, rfl⟩
  | k + 1 => by
    have h := runN_ok K hd nm hS h0 h1 k
    exact h.trans (stepN_ok K hd (fun j e => lastIx_lt e) h.1 h.2.1 (Int.le_trans h.2.2.1 h1))
theorem runO_ok {l0 : List SDe} {cv : Nat → Int} {dsc : Nat → Int → Int} (K : Ok0 l0 cv dsc) {day : Int} (hd : 1 ≤ day) {od : List Nat} (hod : ∀ j ∈ od, j < l0.length) {s : Int × (Nat → V4)} (hS : SInv l0 cv s.2) (h0 : 0 ≤ s.1) (h1 : s.1 ≤ 10000000000000) : ∀ k, k ≤ od.length → StepOK l0 cv s (runO l0 day od s k)
  | 0, _ => ⟨hS, h0, Int.le_refl _, rfl⟩
  | k + 1, hk => by
    have h := runO_ok K hd hod hS h0 h1 k (by omega)
    refine h.trans (stepO_ok K hd (hod _ ?_) h.1 h.2.1 (Int.le_trans h.2.2.1 h1))
    rw [List.getD_eq_getElem?_getD, List.getElem?_eq_getElem (by omega)]
    exact List.getElem_mem _
def isum : List Int → Int
  | [] => 0
  | x :: r => x + isum r
theorem isum_snoc (l : List Int) (x : Int) : isum (l ++ [x]) = isum l + x := by
  induction l with
  | nil => simp [isum]
  | cons y r ih => simp only [List.cons_append, isum, ih]; omega
def csum (pc : Nat → Int) : Nat → Int
  | 0 => 0
  | n + 1 => csum pc n + pc n
theorem psum_ini (cv : Nat → Int) : ∀ n, psum (iniV cv) n = 0
  | 0 => rfl
  | n + 1 => by rw [psum, psum_ini cv n]; rfl
theorem runP_ok {l0 : List SDe} {cv : Nat → Int} {dsc : Nat → Int → Int} (K : Ok0 l0 cv dsc) {od : List Nat} (hod : ∀ j ∈ od, j < l0.length) (l1 : List SPa) (pc : Nat → Int)
    (hday : ∀ i : Nat, i < l1.length → 1 ≤ (rdA l1 i).f0) (hpc : ∀ i : Nat, i < l1.length → 0 ≤ pc i ∧ pc i ≤ 10000000000000) :
    ∀ m, m ≤ l1.length → SInv l0 cv (runP l0 cv dsc od l1 pc m).1 ∧ (∀ x ∈ (runP l0 cv dsc od l1 pc m).2, 0 ≤ x ∧ x ≤ 10000000000000) ∧ isum (runP l0 cv dsc od l1 pc m).2 + psum (runP l0 cv dsc od l1 pc m).1 l0.length = csum pc m
  | 0, _ => by
    refine ⟨fun j hj => ?_, fun x hx => (by cases hx), ?_⟩
    · have := K.c j hj
      show InvV _ _ (iniV cv j)
      unfold iniV
      refine ⟨?_, ?_, ?_, ?_, ?_, ?_, ?_, ?_⟩ <;> dsimp only <;> omega
    · show isum [] + psum (iniV cv) l0.length = 0
      rw [psum_ini]
      rfl
  | m + 1, hm => by
    obtain ⟨h1, h2, h3⟩ := runP_ok K hod l1 pc hday hpc m (by omega)
    have hp := hpc m (by omega)
    have hd := hday m (by omega)
    have hN := runN_ok K hd (fun k => rdOf ByteArray.empty (rdA l1 m).f2 k) (s := (pc m, (runP l0 cv dsc od l1 pc m).1)) h1 hp.1 hp.2 (rdA l1 m).f2.length
    have hO := hN.trans (runO_ok K hd hod hN.1 hN.2.1 (Int.le_trans hN.2.2.1 hp.2) od.length (Nat.le_refl _))
    obtain ⟨a, b, c, d⟩ := hO
    refine ⟨a, fun x hx => ?_, ?_⟩
    · rcases List.mem_append.1 hx with h | h
      · exact h2 x h
      · have := List.mem_singleton.1 h
        rw [this]
        exact ⟨b, Int.le_trans c hp.2⟩
    · show isum ((runP l0 cv dsc od l1 pc m).2 ++ [(oneP l0 dsc od (rdA l1 m) (pc m) (runP l0 cv dsc od l1 pc m).1).1]) + psum (oneP l0 dsc od (rdA l1 m) (pc m) (runP l0 cv dsc od l1 pc m).1).2 l0.length = csum pc m + pc m
      rw [isum_snoc]
      unfold oneP
      dsimp only at d
      omega
end Go.Proofs.YtaihfoihlbileaaDoor.R4
