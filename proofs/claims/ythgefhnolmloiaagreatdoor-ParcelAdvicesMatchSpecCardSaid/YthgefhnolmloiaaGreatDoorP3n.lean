/- Chains of parcels that lie in one another: plain laws of lists, no program in sight. -/
import Derived.Test.YthgefhnolmloiaaGreatDoorP3a
namespace Go.Proofs.YthgefhnolmloiaaGreatDoor.P3

theorem nd_len : ∀ (n : Nat) (l : List Nat), l.Nodup → (∀ x ∈ l, x < n) → l.length ≤ n
  | 0, l, _, h => by
    cases l with
    | nil => simp
    | cons a r => exact absurd (h a (List.mem_cons_self ..)) (by omega)
  | n + 1, l, hn, h => by
    have h1 := nd_len n (l.erase n) (hn.erase n) (fun x hx => by
      have h2 := (hn.mem_erase_iff).1 hx
      have h3 := h x h2.2
      have h4 := h2.1
      omega)
    rw [List.length_erase] at h1
    split at h1 <;> omega

section
variable (nxt : Nat → Option Nat) (n : Nat)

/-- the program's walk -/
def arN (i : Nat) : Nat → Nat → List Nat → List Nat × Bool
  | 0, _, out => (out, true)
  | f + 1, k, out => match nxt k with
    | none => (out, true)
    | some a => if a = i then ([], false) else if a ∈ out then (out, true) else arN i f a (out ++ [a])
/-- the reference's search for a loop -/
def loN (i : Nat) : Nat → Nat → Bool
  | 0, _ => false
  | m + 1, k => match nxt k with
    | none => false
    | some a => if a = i then true else loN i m a
/-- the reference's walk -/
def upN : Nat → Nat → List Nat → List Nat × Bool
  | 0, _, out => (out, true)
  | f + 1, k, out => match nxt k with
    | none => (out, true)
    | some a => if n < out.length then ([], false) else upN f a (out ++ [a])

/-- one leads to the next -/
def lk : Nat → List Nat → Nat → Prop
  | a, [], k => a = k
  | a, b :: r, k => nxt a = some b ∧ lk b r k
theorem lk_snoc {k a : Nat} (h : nxt k = some a) : ∀ (out : List Nat) (i : Nat), lk nxt i out k → lk nxt i (out ++ [a]) a
  | [], i, h1 => by
    have h1 : i = k := h1
    subst h1
    exact ⟨h, rfl⟩
  | b :: r, i, h1 => ⟨h1.1, lk_snoc h r b h1.2⟩
theorem lk_tail {k a : Nat} {bs : List Nat} : ∀ (xs : List Nat) (i : Nat), lk nxt i (xs ++ a :: bs) k → lk nxt a bs k
  | [], _, h1 => h1.2
  | b :: r, _, h1 => lk_tail r b h1.2
theorem lk_lo {k j : Nat} (h : nxt k = some j) : ∀ (bs : List Nat) (a m : Nat), lk nxt a bs k → bs.length + 1 ≤ m → loN nxt j m a = true
  | [], a, 0, _, hm => by simp at hm
  | [], a, m + 1, h1, _ => by
    have h1 : a = k := h1
    subst h1
    unfold loN
    rw [h]
    simp
  | b :: r, a, 0, _, hm => by simp at hm
  | b :: r, a, m + 1, h1, hm => by
    unfold loN
    rw [h1.1]
    simp only
    split
    · rfl
    · exact lk_lo h r b m h1.2 (by simp at hm; omega)
theorem lo_closed {i : Nat} {out : List Nat} (hi : i ∉ out) (hc : ∀ x ∈ out, ∀ y, nxt x = some y → y ∈ out) : ∀ (m x : Nat), x ∈ out → loN nxt i m x = false
  | 0, _, _ => rfl
  | m + 1, x, hx => by
    unfold loN
    split
    · rfl
    · rename_i a ha
      have h1 := hc x hx a ha
      rw [if_neg (fun e : a = i => hi (e ▸ h1))]
      exact lo_closed hi hc m a h1

/-- how far the walk is -/
structure At (i k : Nat) (out : List Nat) : Prop where
  nd : (i :: out).Nodup
  lt : ∀ x ∈ i :: out, x < n
  lk : lk nxt i out k
  cl : ∀ x ∈ out, x ≠ k → ∀ y, nxt x = some y → y ∈ out
theorem At.start {i : Nat} (h : i < n) : At nxt n i i [] := ⟨by simp, by simpa using h, rfl, fun x hx => by cases hx⟩
theorem At.len {i k : Nat} {out : List Nat} (h : At nxt n i k out) : out.length + 1 ≤ n := by
  have := nd_len n _ h.nd h.lt
  simpa using this
theorem ar_nd (i : Nat) : ∀ (f k : Nat) (out : List Nat), out.Nodup → (arN nxt i f k out).1.Nodup
  | 0, k, out, h => h
  | f + 1, k, out, h => by
    unfold arN
    split
    · exact h
    · rename_i a ha
      split
      · exact List.nodup_nil
      · rename_i h1
        split
        · exact h
        · rename_i h2
          refine ar_nd i f a (out ++ [a]) ?_
          rw [List.nodup_append]
          refine ⟨h, by simp, ?_⟩
          intro x hx y hy
          rw [List.mem_singleton] at hy
          subst hy
          intro e
          exact h2 (e ▸ hx)
variable (hN : ∀ k a, nxt k = some a → a < n)
include hN
theorem At.step {i k a : Nat} {out : List Nat} (h : At nxt n i k out) (ha : nxt k = some a) (h1 : a ≠ i) (h2 : a ∉ out) : At nxt n i a (out ++ [a]) := by
  have hnd := h.nd
  rw [List.nodup_cons] at hnd
  refine ⟨?_, ?_, lk_snoc nxt ha out i h.lk, ?_⟩
  · rw [List.nodup_cons]
    refine ⟨?_, ?_⟩
    · simp only [List.mem_append, List.mem_singleton, not_or]
      exact ⟨hnd.1, fun e => h1 e.symm⟩
    · rw [List.nodup_append]
      refine ⟨hnd.2, by simp, ?_⟩
      intro x hx y hy
      rw [List.mem_singleton] at hy
      subst hy
      intro e
      exact h2 (e ▸ hx)
  · intro x hx
    simp only [List.mem_cons, List.mem_append, List.not_mem_nil, or_false] at hx
    rcases hx with rfl | hx | rfl
    · exact h.lt _ (List.mem_cons_self ..)
    · exact h.lt x (List.mem_cons_of_mem _ hx)
    · exact hN k x ha
  · intro x hx hxa y hy
    simp only [List.mem_append, List.mem_singleton] at hx ⊢
    rcases hx with hx | hx
    · by_cases hxk : x = k
      · subst hxk
        rw [ha] at hy
        exact Or.inr (Option.some.inj hy).symm
      · exact Or.inl (h.cl x hx hxk y hy)
    · exact absurd hx hxa
theorem ar_lo (i : Nat) : ∀ (m k : Nat) (out : List Nat) (f : Nat), At nxt n i k out → m + out.length = n → m + 1 ≤ f → (arN nxt i f k out).2 = !(loN nxt i m k)
  | m, k, out, 0, h, hm, hf => by omega
  | 0, k, out, f + 1, h, hm, hf => by
    have := h.len
    omega
  | m + 1, k, out, f + 1, h, hm, hf => by
    unfold arN loN
    rcases e : nxt k with _ | a
    · rfl
    · have ha := e
      show (if a = i then (([] : List Nat), false) else if a ∈ out then (out, true) else arN nxt i f a (out ++ [a])).2 = !(if a = i then true else loN nxt i m a)
      by_cases h1 : a = i
      · simp only [h1, if_true]
        rfl
      · simp only [if_neg h1]
        by_cases h2 : a ∈ out
        · simp only [if_pos h2]
          have hi : i ∉ out := (List.nodup_cons.1 h.nd).1
          rw [lo_closed nxt hi (fun x hx y hy => ?_) m a h2]
          · rfl
          · by_cases hxk : x = k
            · subst hxk
              rw [ha] at hy
              exact (Option.some.inj hy) ▸ h2
            · exact h.cl x hx hxk y hy
        · simp only [if_neg h2]
          exact ar_lo i m a (out ++ [a]) f (h.step nxt n hN ha h1 h2) (by simp; omega) (by omega)
theorem ar_up (hl : ∀ j, j < n → loN nxt j n j = false) (i : Nat) : ∀ (m k : Nat) (out : List Nat) (f g : Nat), At nxt n i k out → m + out.length = n → m + 1 ≤ f → m + 1 ≤ g → (arN nxt i f k out).2 = true → upN nxt n g k (i :: out) = (i :: (arN nxt i f k out).1, true)
  | m, k, out, 0, g, h, hm, hf, hg, ht => by omega
  | m, k, out, f + 1, 0, h, hm, hf, hg, ht => by omega
  | 0, k, out, f + 1, g + 1, h, hm, hf, hg, ht => by
    have := h.len
    omega
  | m + 1, k, out, f + 1, g + 1, h, hm, hf, hg, ht => by
    unfold arN at ht ⊢
    unfold upN
    rcases e : nxt k with _ | a
    · rfl
    · have ha := e
      rw [ha] at ht
      have ht : (if a = i then (([] : List Nat), false) else if a ∈ out then (out, true) else arN nxt i f a (out ++ [a])).2 = true := ht
      show (if n < (i :: out).length then (([] : List Nat), false) else upN nxt n g a ((i :: out) ++ [a])) = (i :: (if a = i then (([] : List Nat), false) else if a ∈ out then (out, true) else arN nxt i f a (out ++ [a])).1, true)
      have hlen := h.len
      rw [if_neg (show ¬ n < (i :: out).length by simp; omega)]
      by_cases h1 : a = i
      · simp only [h1, if_true] at ht
        cases ht
      · simp only [if_neg h1] at ht ⊢
        by_cases h2 : a ∈ out
        · exfalso
          obtain ⟨xs, bs, e⟩ := List.append_of_mem h2
          have h3 := h.lk
          rw [e] at h3
          have h4 := lk_tail nxt xs i h3
          have h5 : bs.length + 1 ≤ n := by
            have : out.length = xs.length + (bs.length + 1) := by rw [e]; simp
            omega
          have h6 := lk_lo nxt ha bs a n h4 h5
          rw [hl a (hN k a ha)] at h6
          cases h6
        · simp only [if_neg h2] at ht ⊢
          exact ar_up hl i m a (out ++ [a]) f g (h.step nxt n hN ha h1 h2) (by simp; omega) (by omega) (by omega) ht
theorem ar_mem (i : Nat) : ∀ (f k : Nat) (out : List Nat), (∀ x ∈ out, x < n ∧ x ≠ i) → ∀ x ∈ (arN nxt i f k out).1, x < n ∧ x ≠ i
  | 0, k, out, h => h
  | f + 1, k, out, h => by
    unfold arN
    split
    · exact h
    · rename_i a ha
      split
      · intro x hx
        cases hx
      · rename_i h1
        split
        · exact h
        · refine ar_mem i f a (out ++ [a]) fun x hx => ?_
          simp only [List.mem_append, List.mem_singleton] at hx
          rcases hx with hx | hx
          · exact h x hx
          · subst hx
            exact ⟨hN k x ha, h1⟩
end
/-- the parcels around one -/
def arO (nxt : Nat → Option Nat) (n i : Nat) : List Nat × Bool := arN nxt i (n + 1) i []
theorem arO_lo {nxt : Nat → Option Nat} {n i : Nat} (hN : ∀ k a, nxt k = some a → a < n) (hi : i < n) : (arO nxt n i).2 = !(loN nxt i n i) :=
  ar_lo nxt n hN i n i [] (n + 1) (At.start nxt n hi) (by simp) (by omega)
theorem arO_up {nxt : Nat → Option Nat} {n i : Nat} (hN : ∀ k a, nxt k = some a → a < n) (hl : ∀ j, j < n → loN nxt j n j = false) (hi : i < n) : upN nxt n (n + 1) i [i] = (i :: (arO nxt n i).1, true) :=
  ar_up nxt n hN hl i n i [] (n + 1) (n + 1) (At.start nxt n hi) (by simp) (by omega) (by omega) (by rw [show (arN nxt i (n + 1) i []).2 = _ from arO_lo hN hi, hl i hi]; rfl)
theorem arO_mem {nxt : Nat → Option Nat} {n i : Nat} (hN : ∀ k a, nxt k = some a → a < n) : ∀ x ∈ (arO nxt n i).1, x < n ∧ x ≠ i :=
  ar_mem nxt n hN i (n + 1) i [] (fun x hx => by cases hx)
theorem arO_nd (nxt : Nat → Option Nat) (n i : Nat) : (arO nxt n i).1.Nodup := ar_nd nxt i (n + 1) i [] List.nodup_nil
end Go.Proofs.YthgefhnolmloiaaGreatDoor.P3
