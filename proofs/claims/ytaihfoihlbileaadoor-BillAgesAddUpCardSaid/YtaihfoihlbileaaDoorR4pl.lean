/- interchangelaw11.awake and BillPaysAddUp, walked along the way on which all is as it should be. -/
import Derived.Test.YtaihfoihlbileaaDoorR4pe
namespace Go.Proofs.YtaihfoihlbileaaDoor.R4
open Go Go.Proofs Go.RowKit Go.Maps Go.Proofs.YtaihfoihlbileaaDoorW.PrintWords Go.Proofs.YtaihfoihlbileaaDoorW.PrintLast Go.Proofs.YtaihfoihlbileaaDoorW.PrintMore
abbrev SDc := S32
abbrev kDc := k32
theorem C_one {α : Type} (d : Kd α) {W : World} {b : Nat} {t : TypeId} {x : α} {cs : List Value} (hK : d.K W x cs) (hb : W.heap[b]? = some (.cells cs.toArray t (0, 0))) : d.C W (some ⟨b, 0, none⟩) 1 [x] := by
  refine ⟨rfl, by decide, fun _ => ⟨_, rfl, fun j p hj => ?_⟩⟩
  cases j with
  | succ j => simp at hj
  | zero =>
    obtain rfl := Option.some.inj hj
    refine ⟨cs, d.K_len hK, hK, fun i u hu => ?_⟩
    rw [Nat.zero_mul, Nat.zero_add]
    exact World.news_of_block hb i u (by simpa using hu)
/-- decimals, cell by cell -/
def flat : List SDc → List Value
  | [] => []
  | x :: r => .int .i64 x.f0 :: .int .i64 x.f1 :: flat r
theorem flat_append (a b : List SDc) : flat (a ++ b) = flat a ++ flat b := by
  induction a with
  | nil => rfl
  | cons x r ih => simp [flat, ih]
theorem flat_length (a : List SDc) : (flat a).length = a.length * 2 := by
  induction a with
  | nil => rfl
  | cons x r ih => simp only [flat, List.length_cons, ih]; omega
theorem flat_one (a : List SDc) : ∀ u ∈ flat a, u.oneCell' = true := by
  induction a with
  | nil => intro u h; cases h
  | cons x r ih =>
    intro u h
    simp only [flat, List.mem_cons] at h
    rcases h with rfl | rfl | h
    · rfl
    · rfl
    · exact ih u h
theorem flat_reps (W : World) : ∀ a : List SDc, Reps (kDc.K W) 2 a (flat a)
  | [] => Reps.none _ _
  | x :: r => Reps.c2 (k32_mk W x) (flat_reps W r)
theorem C_of_own {W : World} {base n : Nat} {v : Value} {l : List SDc} (h : W.ownsRow base 32 2 v n (flat l)) (hl : l.length = n) (hn : n ≤ 1000) : ∃ A c, v = .slice A n c ∧ n ≤ c ∧ kDc.C W A n l := by
  subst hl
  obtain ⟨A, c, e, hc, hC⟩ := Kd.R_reads (d := kDc) (ok := fun _ => True) (show kDc.R 32 W base (fun _ => True) v l from ⟨fun _ _ => trivial, flat l, h, (flat_reps W l).imp_ fun p c hp => by
    obtain rfl := k32_open hp
    exact k32_mkM _ _ _ p⟩)
  exact ⟨A, c, e, hc, hC⟩
theorem C_block {W : World} {b : Nat} {l : List SDc} (h : W.heap[b]? = some (.cells (flat l).toArray 32 (0, 0))) (hn : l.length ≤ 1000) : kDc.C W (some ⟨b, 0, none⟩) l.length l := by
  obtain ⟨A, c, e, _, hC⟩ := C_of_own (base := b) (v := .slice (some ⟨b, 0, none⟩) l.length l.length) (l := l) ⟨flat_length l, .inr ⟨b, l.length, (flat l).toArray, rfl, Nat.le_refl _, h, Nat.le_refl _, by unfold maxLen; omega, by simp [flat_length], by rw [← flat_length]; simp⟩⟩ rfl hn
  injection e with e1 _ _
  rw [e1]
  exact hC
theorem reps_flat {W : World} {base : Nat} {ok : Nat → Prop} : ∀ (l : List SDc) (inner : List Value), Reps (kDc.M W base ok) 2 l inner → inner = flat l
  | [], inner, h => by
    have := h.1
    exact List.eq_nil_of_length_eq_zero (by simpa using this)
  | x :: r, inner, h => by
    have hl := h.1
    rw [List.length_cons] at hl
    match inner, hl, h with
    | [], hl, _ => simp at hl
    | [_], hl, _ => simp at hl; omega
    | a :: b :: rest, hl, h =>
      have h0 := h.2 0 x rfl
      have h1 := k32_openM (show kDc.M W base ok x [a, b] from by simpa using h0)
      injection h1 with ha h1
      injection h1 with hb _
      rw [ha, hb]
      show _ = _ :: _ :: flat r
      congr 2
      refine reps_flat (W := W) (base := base) (ok := ok) r rest ⟨by simp only [List.length_cons] at hl; omega, fun j p hj => ?_⟩
      have h2 := h.2 (j + 1) p (by simpa using hj)
      rw [show (j + 1) * 2 = j * 2 + 1 + 1 by omega, List.drop_succ_cons, List.drop_succ_cons] at h2
      exact h2
theorem own_flat {W : World} {base : Nat} {v : Value} {l : List SDc} (h : kDc.R 32 W base (fun _ => True) v l) : W.ownsRow base 32 2 v l.length (flat l) := by
  obtain ⟨_, inner, ho, hr⟩ := h
  rw [← reps_flat l inner hr]
  exact ho
theorem eqd_nil (w : World) : Sem.run Tryd.prog (binOp BinOp.eql 25 (.slice none 0 0) (.slice none 0 0)) w = .ok (.bool true) w := by kernel_rfl
theorem eqd_some (a : Addr) (n cap : Nat) (w : World) : Sem.run Tryd.prog (binOp BinOp.eql 25 (.slice (some a) n cap) (.slice none 0 0)) w = .ok (.bool false) w := by kernel_rfl
set_option maxHeartbeats 1000000 in
set_option maxRecDepth 1000000 in
theorem clone32_calls (w : World) (base : Nat) (v : Value) (l : List SDc) (h : kDc.R 32 w base (fun _ => True) v l) (hn : l.length ≤ 1000) :
    Calls Tryd.prog 7 #[v] w fun e w' => ∃ v', e = .returned v' ∧ w'.ownsRow w.heap.size 32 2 v' l.length (flat l) ∧ Below w.heap.size w w' := by
  have ho := own_flat h
  obtain ⟨n, hl⟩ : ∃ n, n = l.length := ⟨_, rfl⟩
  rw [← hl] at ho hn ⊢
  obtain ⟨xs, hxs⟩ : ∃ xs, xs = flat l := ⟨_, rfl⟩
  have h1 : ∀ u ∈ xs, u.oneCell' = true := hxs ▸ flat_one l
  rw [← hxs] at ho ⊢
  clear hl hxs h
  rcases ho.2 with ⟨rfl, rfl⟩ | ⟨blk, cap, cur, rfl, hg, hb, hnc, hcm, hcs, ht⟩
  · have hx0 := ho.1
    have hq := eqd_nil
    clear ho
    go_enter Tryd.func7, Tryd.ntmps7
    go_wp2
    go_ret
    exact ⟨_, rfl, ⟨hx0, .inl ⟨rfl, rfl⟩⟩, Below.refl _ _⟩
  · have hc : ∀ j u, xs[j]? = some u → w.cell? ⟨blk, j, none⟩ = some u := fun j u hu => by
      have hj : j < n * 2 := by
        have := (List.getElem?_eq_some_iff.1 hu).1
        have := ho.1
        omega
      rw [World.ownsRow.cellAt ho j hj]
      exact hu
    have hxl := ho.1
    obtain ⟨i0, hi, hzz⟩ := Option.map_eq_some_iff.1 info32
    simp only [Prod.mk.injEq] at hzz
    obtain ⟨hz0, hz1, hz2⟩ := hzz
    have hq := eqd_some ⟨blk, 0, none⟩ n cap
    clear ho hb ht hcs
    go_enter Tryd.func7, Tryd.ntmps7
    have hown : (w.alloc (.cells #[] 32)).ownsRow w.heap.size 32 2 (.slice (some ⟨w.heap.size, 0, none⟩) 0 0) 0 [] := ⟨rfl, .inr ⟨w.heap.size, 0, #[], rfl, Nat.le_refl _, heap_alloc_new w _, Nat.le_refl _, by decide, rfl, rfl⟩⟩
    have hc2 : ∀ j u, xs[j]? = some u → (w.alloc (.cells #[] 32)).cell? ((⟨blk, 0, none⟩ : Addr).add j) = some u := by
      intro j u hu
      have h2 := hc j u hu
      have e : (⟨blk, 0, none⟩ : Addr).add j = ⟨blk, j, none⟩ := by
        unfold Addr.add
        by_cases hj : j = 0 <;> simp [hj]
      rw [e, World.cell?_alloc_lt (h := World.block_lt_of_cell? w _ h2)]
      exact h2
    go_wp2_with (at_builtin; refine wpList_append_own _ rfl _ _ 25 rfl w.heap.size 32 i0 _ 2 16 Tryd.underlying25 hi hz0 hz1 hz2 rfl (by decide) _ 0 [] rfl hown ⟨blk, 0, none⟩ n cap xs rfl hxl hc2 h1 (by unfold maxLen; omega) (by omega) (by simp) ?_; intro v' w1 hown1 hg1 hnil)
    go_ret
    refine ⟨v', rfl, by simpa using hown1, ?_⟩
    refine Below.grown ((Below.refl _ _).alloc (Nat.le_refl _) _) hg1 (by simp) ?_
    intro b hb
    exact Nat.le_of_eq (Option.some.inj hb)
def awD : SDe := ⟨⟨#[97]⟩, 5, ⟨7, 0⟩, 0, 0, 0⟩
def awP : SPa := ⟨6, ⟨9, 0⟩, []⟩
/-- what awake asks Pay: that it answers as it does -/
def AwakeOK : Prop := ∀ (A0 : Option Addr) (A1 : Option Addr) (w : World), Kd.C k44 w A0 1 [awD] → Kd.C k35 w A1 1 [awP] →
  Calls Tryd.prog 5 #[.slice A0 1 1, .slice A1 1 1] w fun e w' => ∃ v1 v2 : Value, e = .returned (.tuple #[v1, v2, .int .i64 0]) ∧
    Kd.R k37 37 w' w.heap.size (fun _ => True) v1 [⟨⟨#[97]⟩, ⟨7, 0⟩, ⟨0, 0⟩, 6⟩] ∧ Kd.R k32 32 w' w.heap.size (fun _ => True) v2 [⟨2, 0⟩] ∧ Below w.heap.size w w'
set_option maxHeartbeats 2000000 in
set_option maxRecDepth 1000000 in
theorem awake_calls (hA : AwakeOK) (w : World) : Calls Tryd.prog 6 #[] w fun e w' => e = .returned (.bool true) ∧ Below w.heap.size w w' := by
  have HA : Aside _ := hA
  clear hA
  go_enter Tryd.func6, Tryd.ntmps6
  have b1 := blk_new w (.cells #[.string ⟨#[97]⟩, .int .i64 5, .int .i64 7, .int .i64 0, .int .i64 0, .int .i64 0, .int .i64 0] 44 (0, 0))
  have c1 := C_one k44 (k44_mk _ awD) b1
  have b2 := blk_new (w.alloc (.cells #[.string ⟨#[97]⟩, .int .i64 5, .int .i64 7, .int .i64 0, .int .i64 0, .int .i64 0, .int .i64 0] 44 (0, 0))) (.cells #[.int .i64 6, .int .i64 9, .int .i64 0, .slice none 0 0] 35 (0, 0))
  rw [show (w.alloc (.cells #[.string ⟨#[97]⟩, .int .i64 5, .int .i64 7, .int .i64 0, .int .i64 0, .int .i64 0, .int .i64 0] 44 (0, 0))).heap.size = w.heap.size + 1 by simp] at b2
  have c2 := C_one k35 (k35_mk _ awP (A3 := none) (c3 := 0) (Nat.le_refl _) ⟨rfl, by decide, fun h => absurd h (by decide)⟩) b2
  have hcall := HA.out _ _ _ (Kd.C_alloc c1 (.cells #[.int .i64 6, .int .i64 9, .int .i64 0, .slice none 0 0] 35 (0, 0))) c2
  have B1 : Hid (Below w.heap.size w _) := ((Below.refl w.heap.size w).alloc (Nat.le_refl _) (.cells #[.string ⟨#[97]⟩, .int .i64 5, .int .i64 7, .int .i64 0, .int .i64 0, .int .i64 0, .int .i64 0] 44 (0, 0))).alloc (by simp) (.cells #[.int .i64 6, .int .i64 9, .int .i64 0, .slice none 0 0] 35 (0, 0))
  clear b1 c1 b2 c2
  go_upto_region 2 with (go_at_call 5; (with_reducible refine hcall.mono ?_); rintro e w5 ⟨v1, v2, rfl, hR1, hR2, hB⟩)
  obtain ⟨A1, k1, rfl, _, hC1⟩ := Kd.R_reads hR1
  obtain ⟨A2, k2, rfl, _, hC2⟩ := Kd.R_reads hR2
  obtain ⟨a1, e1, x0, x1, x2, x3, x4, x5⟩ := at_T37 hC1 0 (by decide) (by decide)
  obtain ⟨a2, e2, z0, z1⟩ := at_T32 hC2 0 (by decide) (by decide)
  cases e1
  cases e2
  have B5 : Hid (Below w.heap.size w w5) := B1.out.trans (hB.mono B1.out.size)
  clear hR1 hR2 hC1 hC2 hcall x0 x1 x2 x3 x4 z1
  have ha0 : ∀ a : Addr, a.add 0 = a := fun a => by simp [Addr.add]
  simp only [Int.toNat_zero, Nat.zero_mul, ha0] at x5 z0
  replace x5 : w5.cell? ⟨a1.block, a1.off + 5, none⟩ = some (.int .i64 6) := x5
  replace z0 : w5.cell? a2 = some (.int .i64 2) := z0
  go_wp2
  go_ret
  exact ⟨rfl, B5.out⟩
theorem money_c (k : Nat) (l : List SDc) (n c : Nat) (A : Option Addr) (hn : l.length = n) (hc : n ≤ c) (W : World) (hC : kDc.C W A n l) (r1 : Bool) (r2 : List Int) (hm : interchangeref11_Money.f k l = some (r1, r2)) :
    Calls Tryd.prog 8 #[.slice A n c] W fun e w' => ∃ A' c', e = .returned (.agg #[.bool r1, .slice A' r2.length c']) ∧ r2.length ≤ c' ∧ Kd.C (Kd.int .i64) w' A' r2.length r2 ∧ Below W.heap.size W w' := by
  subst hn
  refine (interchangeref11_Money.calls k A c l r1 r2 W hC hc hm).mono ?_
  rintro e w' ⟨v, rfl, hV, hB⟩
  obtain ⟨A', c', rfl⟩ := Kd.V_slice hV
  exact ⟨A', c', rfl, (Kd.V_reads' hV).2.1, (Kd.V_reads' hV).2.2, hB⟩
theorem money_lit (k : Nat) (l : List SDc) (n b : Nat) (hn : l.length = n) (hle : n ≤ 1000) (W : World) (h : W.heap[b]? = some (.cells (flat l).toArray 32 (0, 0))) (r1 : Bool) (r2 : List Int) (hm : interchangeref11_Money.f k l = some (r1, r2)) :
    Calls Tryd.prog 8 #[.slice (some ⟨b, 0, none⟩) n n] W fun e w' => ∃ A' c', e = .returned (.agg #[.bool r1, .slice A' r2.length c']) ∧ r2.length ≤ c' ∧ Kd.C (Kd.int .i64) w' A' r2.length r2 ∧ Below W.heap.size W w' := by
  subst hn
  exact money_c k l l.length l.length _ rfl (Nat.le_refl _) W (C_block h hle) r1 r2 hm
theorem keepA {W W' : World} {v0 v1 v2 v3 : Value} {a b c d : Addr} (h : W.cell? a = some v0 ∧ W.cell? b = some v1 ∧ W.cell? c = some v2 ∧ W.cell? d = some v3) (hb : Below W.heap.size W W') : W'.cell? a = some v0 ∧ W'.cell? b = some v1 ∧ W'.cell? c = some v2 ∧ W'.cell? d = some v3 := by
  obtain ⟨h0, h1, h2, h3⟩ := h
  exact ⟨(hb.cell (World.block_lt_of_cell? W _ h0)).trans h0, (hb.cell (World.block_lt_of_cell? W _ h1)).trans h1, (hb.cell (World.block_lt_of_cell? W _ h2)).trans h2, (hb.cell (World.block_lt_of_cell? W _ h3)).trans h3⟩
theorem cb6 {w : World} {g : Nat} {t : TypeId} {v0 v1 v2 v3 v4 v5 : Value} (h : w.heap[g]? = some (.cells #[v0, v1, v2, v3, v4, v5] t (0, 0))) : w.cell? ⟨g, 0, none⟩ = some v0 ∧ w.cell? ⟨g, 1, none⟩ = some v1 ∧ w.cell? ⟨g, 2, none⟩ = some v2 ∧ w.cell? ⟨g, 3, none⟩ = some v3 ∧ w.cell? ⟨g, 4, none⟩ = some v4 ∧ w.cell? ⟨g, 5, none⟩ = some v5 :=
  ⟨(blk_cell h 0).trans rfl, (blk_cell h 1).trans rfl, (blk_cell h 2).trans rfl, (blk_cell h 3).trans rfl, (blk_cell h 4).trans rfl, (blk_cell h 5).trans rfl⟩
theorem own_low {W : World} {base base' : Nat} {e : TypeId} {size : Nat} {v : Value} {n : Nat} {xs : List Value} (h : W.ownsRow base e size v n xs) (hb : base' ≤ base) : W.ownsRow base' e size v n xs := by
  refine ⟨h.1, ?_⟩
  rcases h.2 with h1 | ⟨g, cap, cur, e1, h2, h3⟩
  · exact .inl h1
  · exact .inr ⟨g, cap, cur, e1, Nat.le_trans hb h2, h3⟩
theorem row_below {W W' : World} {base : Nat} {e : TypeId} {size : Nat} {v : Value} {n : Nat} {xs : List Value} (h : W.ownsRow base e size v n xs) (hb : Below W.heap.size W W') : W'.ownsRow base e size v n xs := row_keep h fun j hj => hb.block j (row_lt h hj)
theorem row_grown {W W' : World} {base : Nat} {e : TypeId} {size : Nat} {v v2 : Value} {n : Nat} {xs : List Value} (h : W.ownsRow base e size v n xs) (hg : W.grownBy W' v2.ownBlock) (hne : ∀ b, some b = v.ownBlock → some b ≠ v2.ownBlock) : W'.ownsRow base e size v n xs := row_keep h fun j hj => hg.block j (row_lt h hj) (hne j hj)
theorem apart_step {W : World} {base : Nat} {e : TypeId} {size : Nat} {v v1 v2 : Value} {n : Nat} {xs : List Value} (h : W.ownsRow base e size v2 n xs) (hne : ∀ b, some b = v.ownBlock → some b ≠ v2.ownBlock) (hor : v1.ownBlock = v.ownBlock ∨ ∃ b, v1.ownBlock = some b ∧ W.heap.size ≤ b) : ∀ b, some b = v1.ownBlock → some b ≠ v2.ownBlock := by
  intro b hb
  rcases hor with h1 | ⟨b1, h1, h2⟩
  · exact hne b (hb.trans h1)
  · intro e1
    have h3 := row_lt h e1
    rw [h1] at hb
    have := Option.some.inj hb
    omega
abbrev SPd := S37
abbrev rdX := rd_T37
set_option maxHeartbeats 2000000 in
set_option maxRecDepth 1000000 in
theorem law_bad (hA : AwakeOK) (A0 : Option Addr) (c0 n0 : Nat) (A1 : Option Addr) (c1 n1 : Nat) (w : World)
    (hP : Calls Tryd.prog 5 #[.slice A0 n0 c0, .slice A1 n1 c1] w fun e w' => ∃ r : Int, e = .returned (.tuple #[.slice none 0 0, .slice none 0 0, .int .i64 r]) ∧ r ≠ 0 ∧ Below w.heap.size w w') :
    Calls Tryd.prog 3 #[.slice A0 n0 c0, .slice A1 n1 c1] w fun e w' => e = .returned (.bool true) ∧ Below w.heap.size w w' := by
  have haw := awake_calls hA
  clear hA
  go_enter Tryd.func3, Tryd.ntmps3
  go_wp2_with (first | (go_at_call 5; (with_reducible refine hP.mono ?_); rintro e w5 ⟨r, rfl, hr, hB⟩; have HB5 : Hid (Below w.heap.size w _) := hB; clear hB) | (go_at_call 6; (with_reducible refine (haw _).mono ?_); rintro e w6 ⟨rfl, hB⟩; have HB6 : Hid (Below w.heap.size w _) := HB5.out.trans (hB.mono HB5.out.size)))
  go_ret
  exact ⟨rfl, HB6.out⟩
set_option maxHeartbeats 8000000 in
set_option maxRecDepth 1000000 in
theorem law_ok (hA : AwakeOK) (k : Nat) (A0 : Option Addr) (c0 : Nat) (l0 : List SDe) (A1 : Option Addr) (c1 : Nat) (l1 : List SPa) (w : World) (hr0 : Kd.C k44 w A0 l0.length l0) (hc0 : l0.length ≤ c0) (hn : l0.length ≤ 200)
    (hr1 : Kd.C k35 w A1 l1.length l1) (hc1 : l1.length ≤ c1) (hn1 : l1.length ≤ 500) (xs : List SPd) (ls : List SDc) (hxl : xs.length = l0.length) (hll : ls.length = l1.length)
    (hP : Calls Tryd.prog 5 #[.slice A0 l0.length c0, .slice A1 l1.length c1] w fun e w' => ∃ v1 v2 : Value, e = .returned (.tuple #[v1, v2, .int .i64 0]) ∧
      Kd.R k37 37 w' w.heap.size (fun _ => True) v1 xs ∧ Kd.R k32 32 w' w.heap.size (fun _ => True) v2 ls ∧ Below w.heap.size w w')
    (ma1 mb1 : Nat → Bool) (ma2 mb2 : Nat → List Int) (cj : Nat → Int)
    (hmA : ∀ i : Nat, i < l0.length → interchangeref11_Money.f k [(rdX xs i).f1, (rdX xs i).f2] = some (ma1 i, ma2 i))
    (hmB : ∀ i : Nat, i < l0.length → interchangeref11_Money.f k [(rdD l0 i).f2] = some (mb1 i, mb2 i))
    (hcj : ∀ i : Nat, i < l0.length → interchangeref1_Cmp.f k (ma1 i) (ma2 i) (mb1 i) (mb2 i) = some (cj i))
    (h1 : ∀ i : Nat, i < l0.length → cj i ≤ 0) (h2 : ∀ i : Nat, i < l0.length → (cj i = 0 ↔ 0 < (rdX xs i).f3)) (h3 : ∀ i : Nat, i < l0.length → (rdX xs i).f3 = 0 → (rdX xs i).f2.f0 = 0)
    (h4 : ∀ i : Nat, i < l0.length → (rdX xs i).f0 = (rdD l0 i).f0) (h5 : ∀ i : Nat, i < l0.length → 0 < (rdX xs i).f3 → (rdD l0 i).f1 ≤ (rdX xs i).f3)
    (mc1 mw1 : Bool) (mc2 mw2 : List Int) (hmc : interchangeref11_Money.f k (l1.map (·.f1)) = some (mc1, mc2)) (hmw : interchangeref11_Money.f k (ls ++ xs.map (·.f1)) = some (mw1, mw2)) (hcc : interchangeref1_Cmp.f k mc1 mc2 mw1 mw2 = some 0) :
    Calls Tryd.prog 3 #[.slice A0 l0.length c0, .slice A1 l1.length c1] w fun e w' => e = .returned (.bool true) ∧ Below w.heap.size w w' := by
  have haw := awake_calls hA
  have HR0 := Aside0.mk hr0
  have HR1 := Aside0.mk hr1
  have HMA : Aside _ := hmA
  have HMB : Aside _ := hmB
  have HCJ : Aside _ := hcj
  have H1 : Aside _ := h1
  have H2 : Aside _ := h2
  have H3 : Aside _ := h3
  have H4 : Aside _ := h4
  have H5 : Aside _ := h5
  have HXL : Hid (xs.length = l0.length) := hxl
  have HLL : Hid (ls.length = l1.length) := hll
  clear hA hr0 hr1 hmA hmB hcj h1 h2 h3 h4 h5
  go_enter Tryd.func3, Tryd.ntmps3
  go_upto_region 2 with (go_at_call 5; (with_reducible refine hP.mono ?_); rintro e w5 ⟨v1, v2, rfl, hX, hL, hB⟩)
  have HB5 : Hid (Below w.heap.size w w5) := hB
  obtain ⟨A5, k5, rfl, hk5, _⟩ := Kd.R_reads hX
  obtain ⟨A6, k6, rfl, hk6, _⟩ := Kd.R_reads hL
  rw [hxl] at hX hk5 ⊢
  rw [hll] at hL hk6 ⊢
  have HX5 : Hid (Kd.R k37 37 w5 w.heap.size (fun _ => True) (.slice A5 l0.length k5) xs) := hX
  have HL5 : Hid (Kd.R k32 32 w5 w.heap.size (fun _ => True) (.slice A6 l1.length k6) ls) := hL
  clear hX hL hB hP hxl hll
  go_upto_region 6 with (go_at_call 6; (with_reducible refine (haw _).mono ?_); rintro e w6 ⟨rfl, hB⟩)
  have HB6 : Hid (Below w.heap.size w w6) := HB5.out.trans (hB.mono HB5.out.size)
  have HX6 : Hid (Kd.R k37 37 w6 w.heap.size (fun _ => True) (.slice A5 l0.length k5) xs) := Kd.R_below HX5.out hB
  have HL6 : Hid (Kd.R k32 32 w6 w.heap.size (fun _ => True) (.slice A6 l1.length k6) ls) := Kd.R_below HL5.out hB
  clear HX5 HL5 HB5 hB hk5 hk6 haw
  have hE : (w6.alloc (.cells #[] 32)).ownsRow w.heap.size 32 2 (.slice (some ⟨w6.heap.size, 0, none⟩) 0 0) 0 (flat []) := ⟨rfl, .inr ⟨w6.heap.size, 0, #[], rfl, HB6.out.size, heap_alloc_new w6 _, Nat.le_refl _, by decide, rfl, rfl⟩⟩
  have hS7 : Below w6.heap.size w6 (w6.alloc (.cells #[] 32)) := (Below.refl _ _).alloc (Nat.le_refl _) _
  have hsz : w6.heap.size < (w6.alloc (.cells #[] 32)).heap.size := by simp
  have hcl := clone32_calls _ _ _ _ (Kd.R_below HL6.out hS7) (by have := HLL.out; omega)
  have HE : Hid ((w6.alloc (.cells #[] 32)).ownsRow w.heap.size 32 2 (.slice (some ⟨w6.heap.size, 0, none⟩) 0 0) 0 (flat [])) := hE
  have HS7 : Hid (Below w6.heap.size w6 (w6.alloc (.cells #[] 32))) := hS7
  have HSZ : Hid (w6.heap.size < (w6.alloc (.cells #[] 32)).heap.size) := hsz
  clear hE hS7 hsz
  go_upto_region 7 with (go_at_call 7; (with_reducible refine hcl.mono ?_); rintro e w7 ⟨vw, rfl, hw7, hB⟩)
  have HB7 : Hid (Below w.heap.size w w7) := HB6.out.trans ((HS7.out.mono HB6.out.size).trans (hB.mono (Nat.le_trans HB6.out.size HS7.out.size)))
  have HX7 : Hid (Kd.R k37 37 w7 w.heap.size (fun _ => True) (.slice A5 l0.length k5) xs) := Kd.R_below (Kd.R_below HX6.out HS7.out) hB
  have HC7 : Hid (w7.ownsRow w.heap.size 32 2 (.slice (some ⟨w6.heap.size, 0, none⟩) 0 0) 0 (flat ((l1.take 0).map (·.f1)))) := row_below HE.out hB
  have HW7 : Hid (w7.ownsRow w.heap.size 32 2 vw ls.length (flat ls)) := own_low hw7 (Nat.le_trans HB6.out.size HS7.out.size)
  have HA7 : Hid (∀ b, some b = (Value.slice (some ⟨w6.heap.size, 0, none⟩) 0 0).ownBlock → some b ≠ vw.ownBlock) := (show ∀ b, _ from fun b hb e1 => by
    obtain ⟨cur, _, h3⟩ := own_obj hw7 e1
    have h4 : b = w6.heap.size := Option.some.inj hb
    have h5 := HSZ.out
    omega)
  clear hw7 hB hcl HE HS7 HSZ HX6 HL6 HB6
  generalize (Value.slice (some ⟨w6.heap.size, 0, none⟩) 0 0) = vc0 at HC7 HA7 ⊢
  go_wp2_with fail
  go_loopg [8, 57] l1.length (fun g1 vc vi wr => ∃ i : Nat, vi = .int .i64 i ∧ i ≤ l1.length ∧ l1.length - i ≤ g1 ∧ Hid (Below w.heap.size w wr) ∧ Hid (Kd.R k37 37 wr w.heap.size (fun _ => True) (.slice A5 l0.length k5) xs) ∧ Hid (wr.ownsRow w.heap.size 32 2 vc i (flat ((l1.take i).map (·.f1)))) ∧ Hid (wr.ownsRow w.heap.size 32 2 vw ls.length (flat ls)) ∧ Hid (∀ b, some b = vc.ownBlock → some b ≠ vw.ownBlock))
  case atStart => exact ⟨0, rfl, Nat.zero_le _, Nat.le_refl _, HB7, HX7, HC7, HW7, HA7⟩
  case round =>
    obtain ⟨i, rfl, hi, hg1, HB8, HX8, HC8, HW8, HA8⟩ := hrel
    clear HB7 HX7 HC7 HW7 HA7
    by_cases hlt : i < l1.length
    · have hltz : (i : Int) < (l1.length : Int) := by omega
      obtain ⟨ad, A3, c3, e0, hx0, hx1, hx2, hx3, _, _⟩ := at_T35 HR1.out (i : Int) (by omega) hltz
      cases e0
      simp only [Int.toNat_natCast] at hx0 hx1 hx2 hx3
      obtain ⟨p, hp⟩ : ∃ p, p = rd_T35 l1 i := ⟨_, rfl⟩
      rw [← hp] at hx0 hx1 hx2 hx3
      have hpi : l1[i]? = some p := by
        rw [hp]
        show _ = some (l1.getD (i : Int).toNat z35)
        rw [Int.toNat_natCast, List.getD_eq_getElem?_getD, List.getElem?_eq_getElem hlt]
        rfl
      have HPI : Hid (l1[i]? = some p) := hpi
      have HB : Aside0 (Below w.heap.size w wr) := ⟨HB8.out⟩
      replace hx0 := hz HB hx0
      replace hx1 := hz HB hx1
      replace hx2 := hz HB hx2
      replace hx3 := hz HB hx3
      clear hp hpi HB
      go_upto_region 10 with fail
      have hS9 : Below wr.heap.size wr (wr.alloc (.cells #[.int .i64 p.f0, .int .i64 p.f1.f0, .int .i64 p.f1.f1, .slice A3 p.f2.length c3] 35)) := (Below.refl _ _).alloc (Nat.le_refl _) _
      have G9 := blk_new wr (.cells #[.int .i64 p.f0, .int .i64 p.f1.f0, .int .i64 p.f1.f1, .slice A3 p.f2.length c3] 35 (0, 0))
      have HS9 : Hid (Below wr.heap.size wr (wr.alloc (.cells #[.int .i64 p.f0, .int .i64 p.f1.f0, .int .i64 p.f1.f1, .slice A3 p.f2.length c3] 35))) := hS9
      clear hx0 hx1 hx2 hx3 hS9
      generalize wr.heap.size = gb at G9 ⊢
      generalize wr.alloc _ = w9 at G9 HS9 ⊢
      obtain ⟨y0, y1, y2, y3⟩ := cb4 G9
      clear G9
      have hsm : (i + 1) * 16 ≤ 140737488355328 := by omega
      have HSM : Hid ((i + 1) * 16 ≤ 140737488355328) := hsm
      clear hsm
      go_wp2_with (at_builtin; refine print_append_cells w.heap.size rfl (.tmp 61) (.tmp 64) 25 32 _ 2 16 rfl Tryd.underlying25 info32 rfl (by decide) (by decide) u8 i (flat ((l1.take i).map (·.f1))) [.int .i64 p.f1.f0, .int .i64 p.f1.f1] rfl rfl rfl (by simp [Value.oneCell']) (row_below HC8.out HS9.out) (HB8.out.trans (HS9.out.mono HB8.out.size)) (Nat.le_trans HB8.out.size HS9.out.size) HSM.out ?_; intro v10 w10 hown10 hB10 hg10 hor10)
      go_roundg (l1.length - (i + 1))
      case measure => omega
      case rel =>
        refine ⟨i + 1, by first | rfl | (congr 1; omega), by omega, Nat.le_refl _, hB10, ?_, ?_, ?_, ?_⟩
        · exact R_other (Kd.R_below HX8.out HS9.out) hg10 (row_below HC8.out HS9.out) (by decide)
        · show World.ownsRow _ _ _ _ _ _ (flat ((l1.take (i + 1)).map (·.f1)))
          rw [List.take_add_one, HPI.out, List.map_append, flat_append]
          exact hown10
        · exact row_grown (row_below HW8.out HS9.out) hg10 (fun b hb e => HA8.out b e hb)
        · exact apart_step (row_below HW8.out HS9.out) HA8.out hor10
    · have hil : i = l1.length := by omega
      have hltz : ¬ (i : Int) < (l1.length : Int) := by omega
      have HC9 : Hid (wr.ownsRow w.heap.size 32 2 u8 l1.length (flat (l1.map (·.f1)))) := by
        have h9 := HC8.out
        rw [hil, List.take_length] at h9
        exact h9
      have HW9 : Hid (wr.ownsRow w.heap.size 32 2 vw (ls.length + 0) (flat (ls ++ (xs.take 0).map (·.f1)))) := by
        show World.ownsRow _ _ _ _ _ _ (flat (ls ++ []))
        rw [List.append_nil]
        exact HW8.out
      have HA9 : Hid (∀ b, some b = vw.ownBlock → some b ≠ u8.ownBlock) := fun b hb e => HA8.out b e hb
      clear hil HC8 HW8 HA8
      go_wp2_with fail
      go_loopg [9, 69] l0.length (fun g2 vw vi wr => ∃ j : Nat, vi = .int .i64 j ∧ j ≤ l0.length ∧ l0.length - j ≤ g2 ∧ Hid (Below w.heap.size w wr) ∧ Hid (Kd.R k37 37 wr w.heap.size (fun _ => True) (.slice A5 l0.length k5) xs) ∧ Hid (wr.ownsRow w.heap.size 32 2 u8 l1.length (flat (l1.map (·.f1)))) ∧ Hid (wr.ownsRow w.heap.size 32 2 vw (ls.length + j) (flat (ls ++ (xs.take j).map (·.f1)))) ∧ Hid (∀ b, some b = vw.ownBlock → some b ≠ u8.ownBlock))
      case atStart => exact ⟨0, rfl, Nat.zero_le _, Nat.le_refl _, HB8, HX8, HC9, HW9, HA9⟩
      case round =>
        obtain ⟨j, rfl, hj, hg2, HB10, HX10, HC10, HW10, HA10⟩ := hrel
        clear HB8 HX8 HC9 HW9 HA9
        by_cases hlt2 : j < l0.length
        · have hltz2 : (j : Int) < (l0.length : Int) := by omega
          have hCX := (Kd.R_reads' HX10.out).2.2
          obtain ⟨ax, ex, hx0, hx1, hx2, hx3, hx4, hx5⟩ := at_T37 hCX (j : Int) (by omega) (by have := HXL.out; omega)
          cases ex
          simp only [Int.toNat_natCast] at hx0 hx1 hx2 hx3 hx4 hx5
          obtain ⟨ad, e0, hd0, hd1, hd2, hd3, hd4⟩ := at_T44 HR0.out (j : Int) (by omega) hltz2
          cases e0
          simp only [Int.toNat_natCast] at hd0 hd1 hd2 hd3
          have HD0 : Hid (w.cell? (ad.add (j * 7)) = some (.string (rdD l0 j).f0)) := hd0
          have HD1 : Hid (w.cell? ⟨(ad.add (j * 7)).block, (ad.add (j * 7)).off + 1, none⟩ = some (.int .i64 (rdD l0 j).f1)) := hd1
          have HD2 : Hid (w.cell? ⟨(ad.add (j * 7)).block, (ad.add (j * 7)).off + 2, none⟩ = some (.int .i64 (rdD l0 j).f2.f0)) := hd2
          have HD3 : Hid (w.cell? ⟨(ad.add (j * 7)).block, (ad.add (j * 7)).off + 3, none⟩ = some (.int .i64 (rdD l0 j).f2.f1)) := hd3
          clear hd0 hd1 hd2 hd3 hd4 hCX
          obtain ⟨y, hy⟩ : ∃ y, y = rd_T37 xs j := ⟨_, rfl⟩
          rw [← hy] at hx0 hx1 hx2 hx3 hx4 hx5
          have hyj : xs[j]? = some y := by
            rw [hy]
            show _ = some (xs.getD (j : Int).toNat z37)
            rw [Int.toNat_natCast, List.getD_eq_getElem?_getD, List.getElem?_eq_getElem (by have := HXL.out; omega)]
            rfl
          have HY : Hid (rdX xs j = y) := hy.symm
          have HYJ : Hid (xs[j]? = some y) := hyj
          clear hy hyj
          go_upto_region 15 with fail
          have G11 := blk_new wr (.cells #[.string y.f0, .int .i64 y.f1.f0, .int .i64 y.f1.f1, .int .i64 y.f2.f0, .int .i64 y.f2.f1, .int .i64 y.f3] 37 (0, 0))
          have HS11 : Hid (Below wr.heap.size wr (wr.alloc (.cells #[.string y.f0, .int .i64 y.f1.f0, .int .i64 y.f1.f1, .int .i64 y.f2.f0, .int .i64 y.f2.f1, .int .i64 y.f3] 37))) := (Below.refl _ _).alloc (Nat.le_refl _) _
          clear hx0 hx1 hx2 hx3 hx4 hx5
          generalize wr.heap.size = gb at G11 ⊢
          generalize wr.alloc _ = w11 at G11 HS11 ⊢
          obtain ⟨y0, y1, y2, y3, y4, y5⟩ := cb6 G11
          have HG11 : Hid (_ = _) := G11
          have HSM : Hid ((ls.length + j + 1) * 16 ≤ 140737488355328) := (show _ ≤ _ by have := HLL.out; omega)
          clear G11
          go_upto_region 16 with (at_builtin; refine print_append_cells w.heap.size rfl (.tmp 74) (.tmp 77) 25 32 _ 2 16 rfl Tryd.underlying25 info32 rfl (by decide) (by decide) u9 (ls.length + j) (flat (ls ++ (xs.take j).map (·.f1))) [.int .i64 y.f1.f0, .int .i64 y.f1.f1] rfl rfl rfl (by simp [Value.oneCell']) (row_below HW10.out HS11.out) (HB10.out.trans (HS11.out.mono HB10.out.size)) (Nat.le_trans HB10.out.size HS11.out.size) HSM.out ?_; intro v12 w12 hown12 hB12 hg12 hor12)
          have HB12 : Hid (Below w.heap.size w w12) := hB12
          have HX12 : Hid (Kd.R k37 37 w12 w.heap.size (fun _ => True) (.slice (some ax) l0.length k5) xs) := R_other (Kd.R_below HX10.out HS11.out) hg12 (row_below HW10.out HS11.out) (by decide)
          have HC12 : Hid (w12.ownsRow w.heap.size 32 2 u8 l1.length (flat (l1.map (·.f1)))) := row_grown (row_below HC10.out HS11.out) hg12 (fun b hb e => HA10.out b e hb)
          have HW12 : Hid (w12.ownsRow w.heap.size 32 2 v12 (ls.length + (j + 1)) (flat (ls ++ (xs.take (j + 1)).map (·.f1)))) := by
            show World.ownsRow _ _ _ _ _ _ (flat (ls ++ (xs.take (j + 1)).map (·.f1)))
            rw [List.take_add_one, HYJ.out, List.map_append, ← List.append_assoc, flat_append]
            exact hown12
          have HA12 : Hid (∀ b, some b = v12.ownBlock → some b ≠ u8.ownBlock) := apart_step (row_below HC10.out HS11.out) HA10.out hor12
          have G12 : w12.heap[gb]? = some (.cells #[.string y.f0, .int .i64 y.f1.f0, .int .i64 y.f1.f1, .int .i64 y.f2.f0, .int .i64 y.f2.f1, .int .i64 y.f3] 37 (0, 0)) := (hg12.block gb (blk_lt HG11.out) (row_ne (row_below HW10.out HS11.out) HG11.out (by intro cur e; injection e with _ e2 _; exact absurd e2 (by decide)))).trans HG11.out
          clear hown12 hB12 hg12 hor12 HB10 HX10 HC10 HW10 HA10 HS11 y0 y1 y2 y3 y4 y5 HG11
          obtain ⟨y0, y1, y2, y3, y4, y5⟩ := cb6 G12
          have HG12 : Hid (w12.heap[gb]? = some (.cells #[.string y.f0, .int .i64 y.f1.f0, .int .i64 y.f1.f1, .int .i64 y.f2.f0, .int .i64 y.f2.f1, .int .i64 y.f3] 37 (0, 0))) := G12
          clear G12
          have hm1 := HMA.out j hlt2
          rw [HY.out] at hm1
          have hcm := money_lit k [y.f1, y.f2] 2 w12.heap.size rfl (by decide) _ (blk_new w12 (.cells #[.int .i64 y.f1.f0, .int .i64 y.f1.f1, .int .i64 y.f2.f0, .int .i64 y.f2.f1] 32)) _ _ hm1
          go_upto_region 17 with (go_at_call 8; (with_reducible refine hcm.mono ?_); rintro e w13 ⟨A13, c13, rfl, hl13, hC13, hB13⟩)
          have HS13 : Hid (Below w12.heap.size w12 w13) := (((Below.refl _ _).alloc (Nat.le_refl _) _).trans (hB13.mono (by simp)))
          have HC13 : Hid (Kd.C (Kd.int .i64) w13 A13 (ma2 j).length (ma2 j)) := hC13
          have HL13 : Hid ((ma2 j).length ≤ c13) := hl13
          clear hB13 hC13 hl13 hcm hm1
          have G14 := blk_new w13 (.cells #[.bool (ma1 j), .slice A13 (ma2 j).length c13] 40 (0, 0))
          have HS14 : Hid (Below w12.heap.size w12 (w13.alloc (.cells #[.bool (ma1 j), .slice A13 (ma2 j).length c13] 40 (0, 0)))) := HS13.out.alloc HS13.out.size _
          have HC14 : Hid (Kd.C (Kd.int .i64) (w13.alloc (.cells #[.bool (ma1 j), .slice A13 (ma2 j).length c13] 40 (0, 0))) A13 (ma2 j).length (ma2 j)) := Kd.C_alloc HC13.out _
          clear HS13 HC13
          generalize w13.heap.size = g14 at G14 ⊢
          generalize w13.alloc _ = w14 at G14 HS14 HC14 ⊢
          have HBW14 : Hid (Below w.heap.size w w14) := HB12.out.trans (HS14.out.mono HB12.out.size)
          have q0 : w14.cell? ⟨g14, 0, none⟩ = some (.bool (ma1 j)) := (blk_cell G14 0).trans rfl
          have q1 : w14.cell? ⟨g14, 1, none⟩ = some (.slice A13 (ma2 j).length c13) := (blk_cell G14 1).trans rfl
          have q2 := hz ⟨HBW14.out⟩ HD2.out
          have q3 := hz ⟨HBW14.out⟩ HD3.out
          clear G14 y0 y1 y2 y3 y4 y5
          have hm2 := HMB.out j hlt2
          have hcm2 := money_lit k [(rdD l0 j).f2] 1 w14.heap.size rfl (by decide) (w14.alloc (.cells #[.int .i64 (rdD l0 j).f2.f0, .int .i64 (rdD l0 j).f2.f1] 32)).drew (blk_drew (blk_new w14 _)) _ _ hm2
          obtain ⟨cv, hcv⟩ : ∃ cv, cj j = cv := ⟨_, rfl⟩
          have hcc2 := HCJ.out j hlt2
          rw [hcv] at hcc2
          have HCV : Hid (cj j = cv) := hcv
          clear hcv
          go_region_held3 (fun w' => w'.cell? ⟨g14, 0, none⟩ = some (.bool (ma1 j)) ∧ w'.cell? ⟨g14, 1, none⟩ = some (.slice A13 (ma2 j).length c13) ∧ w'.cell? ⟨(ad.add (j * 7)).block, (ad.add (j * 7)).off + 2, none⟩ = some (.int .i64 (rdD l0 j).f2.f0) ∧ w'.cell? ⟨(ad.add (j * 7)).block, (ad.add (j * 7)).off + 3, none⟩ = some (.int .i64 (rdD l0 j).f2.f1))
            (first | exact keepA ⟨q0, q1, q2, q3⟩ ((Below.refl _ _).drew) | exact keepA (by assumption) ((Below.refl _ _).alloc (Nat.le_refl _) _) | exact keepA (by assumption) (by assumption))
            (first | (go_at_call 8; (with_reducible refine hcm2.mono ?_); rintro e w15 ⟨A15, c15, rfl, hl15, hC15, hB15⟩) | (go_at_call 9; (with_reducible refine (interchangeref1_Cmp.calls k (ma1 j) A13 c13 (ma2 j) (mb1 j) A15 c15 (mb2 j) cv _ (Kd.C_below (Kd.C_drew (Kd.C_alloc HC14.out _)) hB15) HL13.out hC15 hl15 hcc2).mono ?_); rintro e w16 ⟨rfl, hB16⟩))
          have HS16 : Hid (Below w12.heap.size w12 w16) := (((HS14.out.alloc HS14.out.size _).drew).trans ((hB15.mono (Nat.le_trans HS14.out.size (by simp))))).trans (hB16.mono (Nat.le_trans (Nat.le_trans HS14.out.size (by simp)) hB15.size))
          obtain ⟨z0, z1, z2, z3, z4, z5⟩ := cb6 (blk_below HG12.out HS16.out)
          have HBW16 : Hid (Below w.heap.size w w16) := HB12.out.trans (HS16.out.mono HB12.out.size)
          have u0 := hz ⟨HBW16.out⟩ HD0.out
          have u1 := hz ⟨HBW16.out⟩ HD1.out
          have hnm := H4.out j hlt2
          rw [HY.out] at hnm
          rw [← hnm] at u0
          have hle := H1.out j hlt2
          have hiff := H2.out j hlt2
          have hz3 := H3.out j hlt2
          have hd5 := H5.out j hlt2
          rw [HY.out] at hiff hz3 hd5
          rw [HCV.out] at hle hiff
          clear hm2 hcm2 hcc2 hl15 hC15 hB15 hB16 q0 q1 q2 q3 HS14 HC14 HBW14 HL13 hnm
          go_upto_region 18 with fail
          have hcv0 : decide (0 < cv) = false := decide_eq_false (by omega)
          by_cases hdn : 0 < y.f3
          · obtain rfl : cv = 0 := hiff.2 hdn
            have hdn1 : decide (0 < y.f3) = true := decide_eq_true hdn
            have hdn2 : (y.f3 == 0) = false := beq_false_of_ne (by omega)
            have hdn3 : decide (y.f3 < (rdD l0 j).f1) = false := decide_eq_false (by have := hd5 hdn; omega)
            clear hiff hz3 hd5 hle
            go_wp2
            go_quiet (fail)
            have HSQ : Hid (Below w12.heap.size w12 (w16.drewN nq)) := pw_below_drewN HS16.out nq
            go_wp2
            go_roundg (l0.length - (j + 1))
            case measure => omega
            case rel =>
              refine ⟨j + 1, by first | rfl | (congr 1; omega), by omega, Nat.le_refl _, HB12.out.trans (HSQ.out.mono HB12.out.size), Kd.R_below HX12.out HSQ.out, row_below HC12.out HSQ.out, row_below HW12.out HSQ.out, HA12⟩
          · have hy0 : y.f3 ≤ 0 := by omega
            have hdn1 : decide (0 < y.f3) = false := decide_eq_false hdn
            have hcz : cv ≠ 0 := fun e => hdn (hiff.1 e)
            have hcz2 : (cv == 0) = false := beq_false_of_ne hcz
            by_cases hy1 : y.f3 = 0
            · have hdn2 : (y.f3 == 0) = true := beq_iff_eq.2 hy1
              have ht0 := hz3 hy1
              have ht2 : (y.f2.f0 == 0) = true := beq_iff_eq.2 ht0
              clear hiff hz3 hd5 hle
              go_wp2
              go_quiet (fail)
              have HSQ : Hid (Below w12.heap.size w12 (w16.drewN nq)) := pw_below_drewN HS16.out nq
              go_wp2
              go_roundg (l0.length - (j + 1))
              case measure => omega
              case rel =>
                refine ⟨j + 1, by first | rfl | (congr 1; omega), by omega, Nat.le_refl _, HB12.out.trans (HSQ.out.mono HB12.out.size), Kd.R_below HX12.out HSQ.out, row_below HC12.out HSQ.out, row_below HW12.out HSQ.out, HA12⟩
            · have hdn2 : (y.f3 == 0) = false := beq_false_of_ne hy1
              clear hiff hz3 hd5 hle
              go_wp2
              go_quiet (fail)
              have HSQ : Hid (Below w12.heap.size w12 (w16.drewN nq)) := pw_below_drewN HS16.out nq
              go_wp2
              go_roundg (l0.length - (j + 1))
              case measure => omega
              case rel =>
                refine ⟨j + 1, by first | rfl | (congr 1; omega), by omega, Nat.le_refl _, HB12.out.trans (HSQ.out.mono HB12.out.size), Kd.R_below HX12.out HSQ.out, row_below HC12.out HSQ.out, row_below HW12.out HSQ.out, HA12⟩
        · have hjl : j = l0.length := by omega
          have hltz2 : ¬ (j : Int) < (l0.length : Int) := by omega
          have hW := HW10.out
          rw [hjl, ← HXL.out, List.take_length] at hW
          obtain ⟨Ac, cc, rfl, hcl, hCc⟩ := C_of_own HC10.out (by rw [List.length_map]) (by omega)
          obtain ⟨Aw, cw, rfl, hwl, hCw⟩ := C_of_own hW (by rw [List.length_append, List.length_map]) (by have := HLL.out; have := HXL.out; omega)
          have hq1 := money_c k (l1.map (·.f1)) l1.length cc Ac (by rw [List.length_map]) hcl wr hCc mc1 mc2 hmc
          have HCW : Hid (Kd.C kDc wr Aw (ls.length + xs.length) (ls ++ xs.map (·.f1))) := hCw
          clear hW hCc hCw
          go_wp2_with (first
            | (go_at_call 8; (with_reducible refine hq1.mono ?_); rintro e w20 ⟨A20, c20, rfl, hl20, hC20, hB20⟩)
            | (go_at_call 8; (with_reducible refine (money_c k (ls ++ xs.map (·.f1)) (ls.length + xs.length) cw Aw (by rw [List.length_append, List.length_map]) hwl _ (Kd.C_below HCW.out hB20) mw1 mw2 hmw).mono ?_); rintro e w21 ⟨A21, c21, rfl, hl21, hC21, hB21⟩)
            | (go_at_call 9; (with_reducible refine (interchangeref1_Cmp.calls k mc1 A20 c20 mc2 mw1 A21 c21 mw2 0 _ (Kd.C_below hC20 hB21) hl20 hC21 hl21 hcc).mono ?_); rintro e w22 ⟨rfl, hB22⟩))
          go_ret
          have b1 := HB10.out.trans (hB20.mono HB10.out.size)
          have b2 := b1.trans (hB21.mono b1.size)
          exact ⟨rfl, b2.trans (hB22.mono b2.size)⟩
end Go.Proofs.YtaihfoihlbileaaDoor.R4
