/- (*debt).pay and (*debt).named, walked. -/
import Derived.Test.YtaihfoihlbileaaDoorR4x
import Derived.Sort.WalkC
import Derived.BigQuiet
import Derived.BigRegion
namespace Go.Proofs.YtaihfoihlbileaaDoor.R4
open Go Go.Proofs Go.RowKit Go.Proofs.YtaihfoihlbileaaDoorW.PrintWords Go.Proofs.YtaihfoihlbileaaDoorW.PrintLast Go.Proofs.YtaihfoihlbileaaDoorW.PrintMore
attribute [local go_sem] max2_int min2_int max_two min_two max_three min_three max_four min_four

set_option maxHeartbeats 2000000 in
set_option maxRecDepth 1000000 in
theorem pay_calls (g : Nat) (nm : ByteArray) (s1 s2 s3 s4 s5 s6 owes paid taken done left day : Int) (w0 w : World) (hI : IsS60 w0 w g nm s1 s2 s3 s4 s5 s6 owes paid taken done) (hB : Below w0.heap.size w0 w) :
    Calls Tryd.prog 31 #[.pointer (some ⟨g, 0, none⟩), .int .i64 left, .int .i64 day] w fun e w' => e = .returned (.int .i64 (wrap64 (left - mn left owes))) ∧ IsS60 w0 w' g nm s1 s2 s3 s4 s5 s6 (wrap64 (owes - mn left owes)) (wrap64 (paid + mn left owes)) taken (if wrap64 (owes - mn left owes) = 0 then day else done) ∧ Below w0.heap.size w0 w' ∧ KeepBut w w' g none := by
  obtain ⟨HG, hg⟩ := hI
  have c1 := cellS60_7 HG
  have c2 := cellS60_8 HG
  have c4 := cellS60_10 HG
  have f1 := blk_frozen HG 7
  have f2 := blk_frozen HG 8
  have f4 := blk_frozen HG 10
  have hne : (⟨g, 8, none⟩ : Addr) ≠ ⟨g, 7, none⟩ := fun e => absurd (show (8 : Nat) = 7 from congrArg Addr.off e) (by decide)
  by_cases hlt : owes < left
  · have en : mn left owes = owes := by unfold mn; rw [if_pos hlt]
    rw [en]
    obtain ⟨p, hp⟩ : ∃ p, p = wrap64 (paid + owes) := ⟨_, rfl⟩
    have ho : wrap64 (owes - owes) = 0 := by rw [Int.sub_self]; unfold wrap64; omega
    obtain ⟨r, hr⟩ : ∃ r, r = wrap64 (left - owes) := ⟨_, rfl⟩
    rw [← hp, ho, ← hr]
    have wp : IntKind.i64.wrap (paid + owes) = p := (i64_w _).trans hp.symm
    have wr : IntKind.i64.wrap (left - owes) = r := (i64_w _).trans hr.symm
    have c3 : (w.setCell ⟨g, 8, none⟩ (.int .i64 p)).drew.cell? ⟨g, 7, none⟩ = some (.int .i64 owes) := (World.cell?_setCell_other (w := w) (v := .int .i64 p) (h := hne)).trans c1
    have f3 : (w.setCell ⟨g, 8, none⟩ (.int .i64 p)).drew.frozen? ⟨g, 7, none⟩ = false := (World.frozen?_setCell ..).trans f1
    have G2 : ((w.setCell ⟨g, 8, none⟩ (.int .i64 p)).setCell ⟨g, 7, none⟩ (.int .i64 (0))).drew.heap[g]? = some (.cells #[.string nm, .int .i64 s1, .int .i64 s2, .int .i64 s3, .int .i64 s4, .int .i64 s5, .int .i64 s6, .int .i64 (0), .int .i64 p, .int .i64 taken, .int .i64 done] 60 (0, 0)) := blk_drew (blk_put (blk_put HG 8 _ rfl) 7 _ rfl)
    have B2 : Below w0.heap.size w0 ((w.setCell ⟨g, 8, none⟩ (.int .i64 p)).setCell ⟨g, 7, none⟩ (.int .i64 (0))).drew := below_drew1 (below_set (below_set hB hg) hg)
    have K2 : KeepBut w ((w.setCell ⟨g, 8, none⟩ (.int .i64 p)).setCell ⟨g, 7, none⟩ (.int .i64 (0))).drew g none := ((KeepBut.refl w g none).set_ 8 _).set_ 7 _
    clear en hp ho hr
    go_enter Tryd.func31, Tryd.ntmps31
    go_wp2
    go_big_region
    generalize ((w.setCell ⟨g, 8, none⟩ (.int .i64 p)).setCell ⟨g, 7, none⟩ (.int .i64 (0))).drew = w2 at G2 B2 K2 ⊢
    clear c1 c2 c4 f1 f2 f4 c3 f3 HG
    have c1 := cellS60_7 G2
    have c4 := cellS60_10 G2
    have f4 := blk_frozen G2 10
    go_wp2
    go_ret
    exact ⟨by first | rfl | (simp; done), ⟨by first | exact blk_put G2 10 _ rfl | (rw [if_pos rfl]; exact blk_put G2 10 _ rfl), hg⟩, below_set B2 hg, K2.set_ 10 _⟩
  · have en : mn left owes = left := by unfold mn; rw [if_neg hlt]
    rw [en]
    obtain ⟨p, hp⟩ : ∃ p, p = wrap64 (paid + left) := ⟨_, rfl⟩
    obtain ⟨o, ho⟩ : ∃ o, o = wrap64 (owes - left) := ⟨_, rfl⟩
    have hr : wrap64 (left - left) = 0 := by rw [Int.sub_self]; unfold wrap64; omega
    rw [← hp, ← ho, hr]
    have wp : IntKind.i64.wrap (paid + left) = p := (i64_w _).trans hp.symm
    have wo : IntKind.i64.wrap (owes - left) = o := (i64_w _).trans ho.symm
    have c3 : (w.setCell ⟨g, 8, none⟩ (.int .i64 p)).drew.cell? ⟨g, 7, none⟩ = some (.int .i64 owes) := (World.cell?_setCell_other (w := w) (v := .int .i64 p) (h := hne)).trans c1
    have f3 : (w.setCell ⟨g, 8, none⟩ (.int .i64 p)).drew.frozen? ⟨g, 7, none⟩ = false := (World.frozen?_setCell ..).trans f1
    have G2 : ((w.setCell ⟨g, 8, none⟩ (.int .i64 p)).setCell ⟨g, 7, none⟩ (.int .i64 (o))).drew.heap[g]? = some (.cells #[.string nm, .int .i64 s1, .int .i64 s2, .int .i64 s3, .int .i64 s4, .int .i64 s5, .int .i64 s6, .int .i64 (o), .int .i64 p, .int .i64 taken, .int .i64 done] 60 (0, 0)) := blk_drew (blk_put (blk_put HG 8 _ rfl) 7 _ rfl)
    have B2 : Below w0.heap.size w0 ((w.setCell ⟨g, 8, none⟩ (.int .i64 p)).setCell ⟨g, 7, none⟩ (.int .i64 (o))).drew := below_drew1 (below_set (below_set hB hg) hg)
    have K2 : KeepBut w ((w.setCell ⟨g, 8, none⟩ (.int .i64 p)).setCell ⟨g, 7, none⟩ (.int .i64 (o))).drew g none := ((KeepBut.refl w g none).set_ 8 _).set_ 7 _
    clear en hp ho hr
    go_enter Tryd.func31, Tryd.ntmps31
    go_wp2
    go_big_region
    generalize ((w.setCell ⟨g, 8, none⟩ (.int .i64 p)).setCell ⟨g, 7, none⟩ (.int .i64 (o))).drew = w2 at G2 B2 K2 ⊢
    clear c1 c2 c4 f1 f2 f4 c3 f3 HG
    have c1 := cellS60_7 G2
    have c4 := cellS60_10 G2
    have f4 := blk_frozen G2 10
    by_cases hz : o = 0
    · subst hz
      go_wp2
      go_ret
      exact ⟨by first | rfl | (simp; done), ⟨by first | exact blk_put G2 10 _ rfl | (rw [if_pos rfl]; exact blk_put G2 10 _ rfl), hg⟩, below_set B2 hg, K2.set_ 10 _⟩
    · go_wp2
      go_ret
      exact ⟨by first | rfl | (simp; done), ⟨by first | exact G2 | (rw [if_neg hz]; exact G2), hg⟩, B2, K2⟩

/-- what named answers, and what it leaves: owes, paid, taken, done -/
def named5 (dsc s1 s5 owes paid taken done left day : Int) : Int × Int × Int × Int × Int :=
  if wrap64 (owes - dsc) > left ∨ day > wrap64 (s1 + s5) then (wrap64 (left - mn left owes), wrap64 (owes - mn left owes), wrap64 (paid + mn left owes), taken, if wrap64 (owes - mn left owes) = 0 then day else done)
  else (wrap64 (left - wrap64 (owes - dsc)), 0, wrap64 (paid + wrap64 (owes - dsc)), dsc, day)
set_option maxHeartbeats 2000000 in
set_option maxRecDepth 1000000 in
theorem named_calls (k : Nat) (g : Nat) (nm : ByteArray) (s1 s2 s3 s4 s5 s6 owes paid taken done left day dsc : Int) (w0 w : World) (hI : IsS60 w0 w g nm s1 s2 s3 s4 s5 s6 owes paid taken done) (hB : Below w0.heap.size w0 w)
    (hd : bill_debt_discount.f k nm s1 s2 s3 s4 s5 s6 owes paid taken done = some (dsc, nm, s1, s2, s3, s4, s5, s6, owes, paid, taken, done)) :
    Calls Tryd.prog 30 #[.pointer (some ⟨g, 0, none⟩), .int .i64 left, .int .i64 day] w fun e w' => e = .returned (.int .i64 (named5 dsc s1 s5 owes paid taken done left day).1) ∧ IsS60 w0 w' g nm s1 s2 s3 s4 s5 s6 (named5 dsc s1 s5 owes paid taken done left day).2.1 (named5 dsc s1 s5 owes paid taken done left day).2.2.1 (named5 dsc s1 s5 owes paid taken done left day).2.2.2.1 (named5 dsc s1 s5 owes paid taken done left day).2.2.2.2 ∧ Below w0.heap.size w0 w' ∧ KeepBut w w' g none := by
  have hcd := bill_debt_discount.calls k g nm s1 s2 s3 s4 s5 s6 owes paid taken done dsc nm s1 s2 s3 s4 s5 s6 owes paid taken done w0 w hI hB hd
  clear hI hd
  obtain ⟨n, hn⟩ : ∃ n, n = wrap64 (owes - dsc) := ⟨_, rfl⟩
  obtain ⟨t, ht⟩ : ∃ t, t = wrap64 (s1 + s5) := ⟨_, rfl⟩
  have wn : IntKind.i64.wrap (owes - dsc) = n := (i64_w _).trans hn.symm
  have wt : IntKind.i64.wrap (s1 + s5) = t := (i64_w _).trans ht.symm
  by_cases h1 : n > left ∨ day > t
  · have e : named5 dsc s1 s5 owes paid taken done left day = (wrap64 (left - mn left owes), wrap64 (owes - mn left owes), wrap64 (paid + mn left owes), taken, if wrap64 (owes - mn left owes) = 0 then day else done) := by
      unfold named5
      rw [← hn, ← ht, if_pos h1]
    rw [e]
    have hp0 := fun w3 (G : w3.heap[g]? = some (.cells #[.string nm, .int .i64 s1, .int .i64 s2, .int .i64 s3, .int .i64 s4, .int .i64 s5, .int .i64 s6, .int .i64 owes, .int .i64 paid, .int .i64 taken, .int .i64 done] 60 (0, 0))) (hg : w0.heap.size ≤ g) (hb : Below w0.heap.size w0 w3) => pay_calls g nm s1 s2 s3 s4 s5 s6 owes paid taken done left day w0 w3 ⟨G, hg⟩ hb
    generalize wrap64 (left - mn left owes) = r1 at hp0 ⊢
    generalize (if wrap64 (owes - mn left owes) = 0 then day else done) = r4 at hp0 ⊢
    generalize wrap64 (owes - mn left owes) = r2 at hp0 ⊢
    generalize wrap64 (paid + mn left owes) = r3 at hp0 ⊢
    have HP0 : Aside _ := hp0
    clear e hn ht hp0
    go_enter Tryd.func30, Tryd.ntmps30
    go_wp2_with (go_at_call 46; refine hcd.mono ?_; rintro e w1 ⟨rfl, hI1, hB1, hK1⟩)
    obtain ⟨HG, hg⟩ := hI1
    have c1 := cellS60_1 HG
    have c5 := cellS60_5 HG
    have c7 := cellS60_7 HG
    have hp := HP0.out w1.drew HG hg (below_drew1 hB1)
    have hK2 : KeepBut w w1.drew g none := hK1
    by_cases x1 : n > left
    · have d1 : decide (left < n) = true := decide_eq_true x1
      go_wp2_with fail
      go_big_region
      generalize w1.drew = w2 at hp hK2 ⊢
      go_wp2_with (go_at_call 31; refine hp.mono ?_; rintro e w3 ⟨rfl, hI3, hB3, hK3⟩)
      go_ret
      exact ⟨rfl, hI3, hB3, hK2.trans hK3 (Or.inl rfl)⟩
    · have x2 : day > t := h1.resolve_left x1
      have d1 : decide (left < n) = false := decide_eq_false x1
      have d2 : decide (t < day) = true := decide_eq_true x2
      go_wp2_with fail
      go_big_region
      generalize w1.drew = w2 at hp hK2 ⊢
      go_wp2_with (go_at_call 31; refine hp.mono ?_; rintro e w3 ⟨rfl, hI3, hB3, hK3⟩)
      go_ret
      exact ⟨rfl, hI3, hB3, hK2.trans hK3 (Or.inl rfl)⟩
  · have x1 : ¬ n > left := fun h => h1 (Or.inl h)
    have x2 : ¬ day > t := fun h => h1 (Or.inr h)
    have d1 : decide (left < n) = false := decide_eq_false x1
    have d2 : decide (t < day) = false := decide_eq_false x2
    obtain ⟨p, hp⟩ : ∃ p, p = wrap64 (paid + n) := ⟨_, rfl⟩
    obtain ⟨r, hr⟩ : ∃ r, r = wrap64 (left - n) := ⟨_, rfl⟩
    have e : named5 dsc s1 s5 owes paid taken done left day = (r, 0, p, dsc, day) := by
      unfold named5
      rw [← hn, ← ht, if_neg h1, ← hp, ← hr]
    rw [e]
    have wp : IntKind.i64.wrap (paid + n) = p := (i64_w _).trans hp.symm
    have wr : IntKind.i64.wrap (left - n) = r := (i64_w _).trans hr.symm
    clear e hn ht hp hr h1
    go_enter Tryd.func30, Tryd.ntmps30
    go_wp2_with (go_at_call 46; refine hcd.mono ?_; rintro e w1 ⟨rfl, hI1, hB1, hK1⟩)
    obtain ⟨HG, hg⟩ := hI1
    have c1 := cellS60_1 HG
    have c5 := cellS60_5 HG
    have c7 := cellS60_7 HG
    go_wp2_with fail
    go_big_region
    have G2 : w1.drew.heap[g]? = _ := HG
    have hB2 : Below w0.heap.size w0 w1.drew := below_drew1 hB1
    have hK2 : KeepBut w w1.drew g none := hK1
    generalize w1.drew = w2 at G2 hB2 hK2 ⊢
    clear c1 c5 c7 HG
    have c7 := cellS60_7 G2
    have c8 := cellS60_8 G2
    have c9 := cellS60_9 G2
    have c10 := cellS60_10 G2
    have f7 := blk_frozen G2 7
    have f8 := blk_frozen G2 8
    have f9 := blk_frozen G2 9
    have f10 := blk_frozen G2 10
    go_wp2
    go_ret
    exact ⟨rfl, ⟨blk_put (blk_put (blk_put (blk_put G2 8 _ rfl) 9 _ rfl) 7 _ rfl) 10 _ rfl, hg⟩, below_set (below_set (below_set (below_set hB2 hg) hg) hg) hg, (((hK2.set_ 8 _).set_ 9 _).set_ 7 _).set_ 10 _⟩
end Go.Proofs.YtaihfoihlbileaaDoor.R4
