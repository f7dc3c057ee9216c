/- bill.bothFault and bill.Pay, walked. -/
import Derived.Test.YtaihfoihlbileaaDoorR4pd
import Derived.Test.YtaihfoihlbileaaDoorR4pp
import Derived.Deep.RegionHeldLaw
namespace Go.Proofs.YtaihfoihlbileaaDoor.R4
open Go Go.Proofs Go.RowKit Go.Maps Go.Proofs.YtaihfoihlbileaaDoorW.PrintWords Go.Proofs.YtaihfoihlbileaaDoorW.PrintLast Go.Proofs.YtaihfoihlbileaaDoorW.PrintMore
set_option maxHeartbeats 1000000 in
set_option maxRecDepth 1000000 in
theorem both_calls (k : Nat) (A0 : Option Addr) (c0 : Nat) (l0 : List SDe) (A1 : Option Addr) (c1 : Nat) (l1 : List SPa) (nb : Nat → Bool) (mf : Nat → Int) (e1 : Int) (w : World) (hr0 : Kd.C k44 w A0 l0.length l0) (hc0 : l0.length ≤ c0)
    (hr1 : Kd.C k35 w A1 l1.length l1) (hc1 : l1.length ≤ c1)
    (hnb : ∀ i : Nat, i < l0.length → kit_IsName.f (rdD l0 i).f0 = some (nb i)) (hmf : ∀ i : Nat, i < l0.length → bill_moneyFault.f k (rdD l0 i).f2.f0 (rdD l0 i).f2.f1 = some (mf i)) (hcp : bill_CheckPayments.f k l1 = some e1) :
    Calls Tryd.prog 12 #[.slice A0 l0.length c0, .slice A1 l1.length c1] w fun e w' => ∃ r : Int, e = .returned (.int .i64 r) ∧ (∃ rd, ChkD l0 nb mf rd ∧ r = if rd = 0 then e1 else rd) ∧ Below w.heap.size w w' := by
  have hcd := debts_calls k A0 c0 l0 nb mf w hr0 hc0 hnb hmf
  have HR1 := Aside0.mk hr1
  clear hr0 hr1 hnb hmf
  go_enter Tryd.func12, Tryd.ntmps12
  go_upto_region 2 with (go_at_call 23; (with_reducible refine hcd.mono ?_); rintro e w5 ⟨rd, rfl, hd, hb⟩)
  have HD : Hid (ChkD l0 nb mf rd) := hd
  have HB : Hid (Below w.heap.size w w5) := hb
  clear hd hb
  by_cases h0 : rd = 0
  · subst h0
    go_wp2_with (go_at_call 24; (with_reducible refine (bill_CheckPayments.calls k A1 c1 l1 e1 w5 (Kd.C_below HR1.out HB.out) hc1 hcp).mono ?_); rintro e w6 ⟨rfl, hb⟩)
    go_ret
    exact ⟨e1, rfl, ⟨0, HD.out, (if_pos rfl).symm⟩, HB.out.trans (hb.mono HB.out.size)⟩
  · go_wp2
    go_ret
    exact ⟨rd, rfl, ⟨rd, HD.out, (if_neg h0).symm⟩, HB.out⟩
theorem R_other {α : Type} {d : Kd α} {e base e2 n size : Nat} {w w4 : World} {v v2 : Value} {xs : List α} {ys : List Value} (h : d.R e w base (fun _ => True) v xs) (hg : w.grownBy w4 v2.ownBlock) (h2 : w.ownsRow base e2 size v2 n ys) (hne : ∀ q, q ∈ e :: d.E → q ≠ e2) : d.R e w4 base (fun _ => True) v xs := by
  cases hv : v2.ownBlock with
  | none => exact Kd.R_step h fun k _ hk => hg.block k hk (by rw [hv]; simp)
  | some g =>
    obtain ⟨cur, hb, _⟩ := own_obj h2 hv.symm
    exact Kd.R_mono (Kd.R_step (Kd.R_types h hb hne) fun k hk hlt => hg.block k hlt (by rw [hv]; intro e3; exact hk.2 (Option.some.inj e3))) fun _ _ => trivial
theorem Laid2.far {w wr w4 : World} {l0 : List SDe} {v vo vr v2 : Value} {gs : List Nat} {D : DataW Unit} {od : List Nat} {S : Nat → V4} {rest : List Int} {b2 e2 size n : Nat} {ys : List Value} (L : Laid2 w wr l0 v vo vr gs D od S rest)
    (h2 : wr.ownsRow b2 e2 size v2 n ys) (hg : wr.grownBy w4 v2.ownBlock) (hb : Below w.heap.size w w4) (n1 : e2 ≠ 58) (n2 : e2 ≠ 3) (n3 : e2 ≠ 60) : Laid2 w w4 l0 v vo vr gs D od S rest := by
  have hkeep : ∀ (i : Nat) (o : Obj), wr.heap[i]? = some o → (∀ cur, o ≠ .cells cur e2 (0, 0)) → w4.heap[i]? = some o := fun i o h hne => (hg.block i (blk_lt h) (row_ne h2 h hne)).trans h
  have hrow : ∀ {v : Value} {n : Nat} {xs : List Value} {e : TypeId}, wr.ownsRow w.heap.size e 1 v n xs → e2 ≠ e → w4.ownsRow w.heap.size e 1 v n xs := fun h he => row_keep h fun i hi => by
    obtain ⟨cur, hc, _⟩ := own_obj h hi
    rw [hkeep i _ hc (by intro cur e; injection e with _ e2 _; exact he e2.symm), hc]
  obtain ⟨es, ck, hmb, hmr⟩ := L.map
  exact ⟨L.len, L.odl, L.odb, fun j g h => hkeep _ _ (L.obj j g h) (by intro cur e; injection e with _ e2 _; exact n3 e2.symm), L.nd, L.big, hrow L.row n1, hrow L.ord n1, hrow L.rst n2, ⟨es, ck, hkeep _ _ hmb (by intro cur e; cases e), hmr⟩, L.key, hb⟩
theorem own_of {α : Type} {d : Kd α} {e base : Nat} {w : World} {ok : Nat → Prop} {v : Value} {xs : List α} (h : d.R e w base ok v xs) : ∃ inner, w.ownsRow base e d.sz v xs.length inner := ⟨_, h.2.choose_spec.1⟩
/-- what Pay hands back -/
def outP (l0 : List SDe) (tm : Int → S32) (S : Nat → V4) (j : Nat) : S37 := ⟨(rdD l0 j).f0, tm (S j).paid, tm (S j).taken, (S j).done⟩
theorem out_append {ops : Array Oper} {o : Oper} {a : Act} {Q : Exit → Act → World → Prop} {Kc : Act → World → Prop} (l0 : List SDe) (tm : Int → S32) (S : Nat → V4) (i : Nat) (hi : i < 200) {w5 W : World} (v : Value)
    (HO : Kd.R k37 37 W w5.heap.size (fun _ => True) v ((List.range i).map (outP l0 tm S))) (HB : Below w5.heap.size w5 W)
    (hw : Region.wanted o (yielded ops a.tmps) = true) (s x : Operand) (ho : o.op = .call { callee := .builtin .append, args := #[s, x], argTypes := #[24, 24] }) (hs : a.eval s = v) (hx : a.eval x = .slice (some ⟨W.heap.size, 0, none⟩) 1 1)
    (h : ∀ v1 w1, Kd.R k37 37 w1 w5.heap.size (fun _ => True) v1 ((List.range (i + 1)).map (outP l0 tm S)) → Below w5.heap.size w5 w1 → W.grownBy w1 v.ownBlock → Kc (a.put o.dst v1) w1) :
    if Region.wanted o (yielded ops a.tmps) = true then Oper.wp Tryd.prog o a (W.alloc (.cells #[.string (rdD l0 i).f0, .int .i64 (tm (S i).paid).f0, .int .i64 (tm (S i).paid).f1, .int .i64 (tm (S i).taken).f0, .int .i64 (tm (S i).taken).f1, .int .i64 (S i).done] 37)) Kc Q
    else Kc (a.put o.dst undef) (W.alloc (.cells #[.string (rdD l0 i).f0, .int .i64 (tm (S i).paid).f0, .int .i64 (tm (S i).paid).f1, .int .i64 (tm (S i).taken).f0, .int .i64 (tm (S i).taken).f1, .int .i64 (S i).done] 37)) := by
  have hlen : ((List.range i).map (outP l0 tm S)).length = i := by rw [List.length_map, List.length_range]
  obtain ⟨i0, hinf, hzz⟩ := Option.map_eq_some_iff.1 info37
  simp only [Prod.mk.injEq] at hzz
  obtain ⟨hz0, hz1, hz2⟩ := hzz
  obtain ⟨h0, inner, hown, hr⟩ := HO
  rw [if_pos hw]
  obtain ⟨v1, w1, hrun, hown1, hg, _, hat⟩ := run_append_own_at (P := Tryd.prog) (W.alloc (.cells #[.string (rdD l0 i).f0, .int .i64 (tm (S i).paid).f0, .int .i64 (tm (S i).paid).f1, .int .i64 (tm (S i).taken).f0, .int .i64 (tm (S i).taken).f1, .int .i64 (S i).done] 37)) w5.heap.size 24 o.type 37 i0 _ 6 56 Tryd.underlying24 hinf hz0 hz1 hz2 rfl (by decide) v ((List.range i).map (outP l0 tm S)).length inner (hown.alloc _) ⟨W.heap.size, 0, none⟩ 1 1 [.string (rdD l0 i).f0, .int .i64 (tm (S i).paid).f0, .int .i64 (tm (S i).paid).f1, .int .i64 (tm (S i).taken).f0, .int .i64 (tm (S i).taken).f1, .int .i64 (S i).done] rfl
    (by simpa using World.news_of_block (cs := #[.string (rdD l0 i).f0, .int .i64 (tm (S i).paid).f0, .int .i64 (tm (S i).paid).f1, .int .i64 (tm (S i).taken).f0, .int .i64 (tm (S i).taken).f1, .int .i64 (S i).done]) (t := 37) (fr := (0, 0)) (heap_alloc_new W _)) (by simp [Value.oneCell']) (by rw [hlen]; unfold maxLen; omega) (by rw [hlen]; omega) (by have := HB.size; simp; omega)
  have hG : W.grownBy w1 v.ownBlock := World.grownBy.trans (World.grownBy_alloc W _ _) hg
  unfold Oper.wp execOp
  simp only [ho, resolve, invoke, builtin, Sem.run_bind, Sem.run_pure, Result.andThen_ok, List.map_toArray, List.map_cons, List.map_nil, hs, hx, hrun]
  refine h v1 w1 ?_ (HB.grown hG HB.size fun b e => (own_obj hown e.symm).choose_spec.2) hG
  rw [List.range_succ, List.map_append]
  refine Kd.R_appended (p := outP l0 tm S i) (cs := [.string (rdD l0 i).f0, .int .i64 (tm (S i).paid).f0, .int .i64 (tm (S i).paid).f1, .int .i64 (tm (S i).taken).f0, .int .i64 (tm (S i).taken).f1, .int .i64 (S i).done]) h0 hr (k37_mkM _ _ (fun _ => False) (outP l0 tm S i)) (fun _ h => h.elim) (fun _ _ => trivial) hown1 hG ?_
  rcases hat with hat | hat
  · exact .inl hat
  · exact .inr ⟨_, hat, by simp⟩
theorem chk_zero {l0 : List SDe} {nb : Nat → Bool} {mf : Nat → Int} {r : Int} (hn : l0.length ≤ 200) (hok : ∀ i, i < l0.length → dF l0 nb mf i = 0) (h : ChkD l0 nb mf r) : r = 0 := by
  unfold ChkD at h
  rw [if_neg (by omega)] at h
  rcases h with h | ⟨i, hi, _, h1, h2⟩
  · exact h.1
  · exact absurd ((hok i hi).symm.trans h1).symm h2
theorem keep4 {W W' : World} {g : Nat} {v0 v1 v2 v3 : Value} {a b c d : Nat} (h : W.cell? ⟨g, a, none⟩ = some v0 ∧ W.cell? ⟨g, b, none⟩ = some v1 ∧ W.cell? ⟨g, c, none⟩ = some v2 ∧ W.cell? ⟨g, d, none⟩ = some v3) (hb : Below W.heap.size W W') : W'.cell? ⟨g, a, none⟩ = some v0 ∧ W'.cell? ⟨g, b, none⟩ = some v1 ∧ W'.cell? ⟨g, c, none⟩ = some v2 ∧ W'.cell? ⟨g, d, none⟩ = some v3 := by
  obtain ⟨h0, h1, h2, h3⟩ := h
  exact ⟨(hb.cell (World.block_lt_of_cell? W _ h0)).trans h0, (hb.cell (World.block_lt_of_cell? W _ h1)).trans h1, (hb.cell (World.block_lt_of_cell? W _ h2)).trans h2, (hb.cell (World.block_lt_of_cell? W _ h3)).trans h3⟩
theorem keep4g {W W' : World} {row : Option Nat} {g : Nat} {v0 v1 v2 v3 : Value} {a b c d : Nat} (hb : W.grownBy W' row) (h : W.cell? ⟨g, a, none⟩ = some v0 ∧ W.cell? ⟨g, b, none⟩ = some v1 ∧ W.cell? ⟨g, c, none⟩ = some v2 ∧ W.cell? ⟨g, d, none⟩ = some v3) (hne : some g ≠ row) : W'.cell? ⟨g, a, none⟩ = some v0 ∧ W'.cell? ⟨g, b, none⟩ = some v1 ∧ W'.cell? ⟨g, c, none⟩ = some v2 ∧ W'.cell? ⟨g, d, none⟩ = some v3 := by
  obtain ⟨h0, h1, h2, h3⟩ := h
  exact ⟨(hb.cell_far _ (World.block_lt_of_cell? W _ h0) hne).trans h0, (hb.cell_far _ (World.block_lt_of_cell? W _ h1) hne).trans h1, (hb.cell_far _ (World.block_lt_of_cell? W _ h2) hne).trans h2, (hb.cell_far _ (World.block_lt_of_cell? W _ h3) hne).trans h3⟩
set_option maxHeartbeats 8000000 in
set_option maxRecDepth 1000000 in
theorem pay_all (k : Nat) (A0 : Option Addr) (c0 : Nat) (l0 : List SDe) (A1 : Option Addr) (c1 : Nat) (l1 : List SPa) (nb : Nat → Bool) (mf : Nat → Int) (cv pc : Nat → Int) (dsc : Nat → Int → Int) (od : List Nat) (tm : Int → S32) (w : World) (hr0 : Kd.C k44 w A0 l0.length l0) (hc0 : l0.length ≤ c0) (hn : l0.length ≤ 200)
    (hr1 : Kd.C k35 w A1 l1.length l1) (hc1 : l1.length ≤ c1) (hn1 : l1.length ≤ 500)
    (hnb : ∀ i : Nat, i < l0.length → kit_IsName.f (rdD l0 i).f0 = some (nb i)) (hmf : ∀ i : Nat, i < l0.length → bill_moneyFault.f k (rdD l0 i).f2.f0 (rdD l0 i).f2.f1 = some (mf i)) (hcp : bill_CheckPayments.f k l1 = some 0)
    (hok : ∀ i, i < l0.length → dF l0 nb mf i = 0) (hday : ∀ i : Nat, i < l1.length → (rdA l1 i).f0 ≤ 3652059)
    (hnf : ∀ i : Nat, i < l1.length → (rdA l1 i).f2.length ≤ 100) (hod : ordA (fun j => (iniD l0 cv j).last) l0.length = od)
    (hcv : ∀ i : Nat, i < l0.length → bill_cents.f k (rdD l0 i).f2.f0 (rdD l0 i).f2.f1 = some (cv i)) (hsz : ∀ i : Nat, i < l0.length → (rdD l0 i).f0.size ≤ maxLen)
    (hpc : ∀ i : Nat, i < l1.length → bill_cents.f k (rdA l1 i).f1.f0 (rdA l1 i).f1.f1 = some (pc i)) (hsz1 : ∀ i : Nat, i < l1.length → ∀ j : Nat, j < (rdA l1 i).f2.length → (rdOf ByteArray.empty (rdA l1 i).f2 j).size ≤ maxLen)
    (hds : ∀ j : Nat, j < l0.length → ∀ o p t d : Int, bill_debt_discount.f k (rdD l0 j).f0 (rdD l0 j).f1 (rdD l0 j).f2.f0 (rdD l0 j).f2.f1 (rdD l0 j).f3 (rdD l0 j).f4 (rdD l0 j).f5 o p t d = some (dsc j o, (rdD l0 j).f0, (rdD l0 j).f1, (rdD l0 j).f2.f0, (rdD l0 j).f2.f1, (rdD l0 j).f3, (rdD l0 j).f4, (rdD l0 j).f5, o, p, t, d))
    (htmA : ∀ j : Nat, j < l0.length → bill_toldMoney.f k ((runP l0 cv dsc od l1 pc l1.length).1 j).paid = some ((tm ((runP l0 cv dsc od l1 pc l1.length).1 j).paid).f0, (tm ((runP l0 cv dsc od l1 pc l1.length).1 j).paid).f1) ∧ bill_toldMoney.f k ((runP l0 cv dsc od l1 pc l1.length).1 j).taken = some ((tm ((runP l0 cv dsc od l1 pc l1.length).1 j).taken).f0, (tm ((runP l0 cv dsc od l1 pc l1.length).1 j).taken).f1))
    (htmB : ∀ x ∈ (runP l0 cv dsc od l1 pc l1.length).2, bill_toldMoney.f k x = some ((tm x).f0, (tm x).f1)) :
    Calls Tryd.prog 5 #[.slice A0 l0.length c0, .slice A1 l1.length c1] w fun e w' => ∃ v1 v2 : Value, e = .returned (.tuple #[v1, v2, .int .i64 0]) ∧
      Kd.R k37 37 w' w.heap.size (fun _ => True) v1 ((List.range l0.length).map (outP l0 tm (runP l0 cv dsc od l1 pc l1.length).1)) ∧
      Kd.R k32 32 w' w.heap.size (fun _ => True) v2 ((runP l0 cv dsc od l1 pc l1.length).2.map tm) ∧ Below w.heap.size w w' := by
  have hbf := both_calls k A0 c0 l0 A1 c1 l1 nb mf 0 w hr0 hc0 hr1 hc1 hnb hmf hcp
  have HPY : Aside _ := fun (w5 : World) (hb : Below w.heap.size w w5) => payments_calls k A0 c0 l0 A1 c1 l1 3652059 cv pc dsc od w5 (Kd.C_below hr0 hb) hc0 hn (Kd.C_below hr1 hb) hc1 hn1 hnf hod hcv hsz hpc hsz1 hds
  have HZ : Aside _ := fun r (h : ChkD l0 nb mf r) => chk_zero hn hok h
  have HDY : Aside _ := hday
  have hrl := runP_length l0 cv dsc od l1 pc l1.length
  clear hr0 hr1 hnb hmf hcp hok hday hnf hod hcv hsz hpc hsz1 hds
  go_enter Tryd.func5, Tryd.ntmps5
  go_upto_region 5 with (first | (go_at_call 12; (with_reducible refine hbf.mono ?_); rintro e w5 ⟨r, rfl, ⟨rd, hrd, hr⟩, hb⟩; obtain rfl := HZ.out rd hrd; rw [if_pos rfl] at hr; obtain rfl := hr; have HB : Hid (Below w.heap.size w _) := hb; clear hb hrd) | (go_at_call 13; have hh := HPY.out _ HB.out; (with_reducible refine hh.mono ?_); clear hh; rintro e w6 ⟨m, v, vo, vr, gs, D, hm, hml, hmr, rfl, hL⟩))
  obtain rfl : m = l1.length := by
    rcases hmr with h | h
    · exact h
    · by_cases hlt : m < l1.length
      · have := HDY.out m hlt
        omega
      · omega
  clear hm hml hmr hbf
  obtain ⟨R, hR⟩ : ∃ R, R = runP l0 cv dsc od l1 pc l1.length := ⟨_, rfl⟩
  rw [← hR] at hrl htmA htmB hL
  have HRR : Hid (runP l0 cv dsc od l1 pc l1.length = R) := hR.symm
  have HRL : Hid (R.2.length = l1.length) := hrl
  have hrb : R.2.length ≤ 500 := by omega
  clear hR hrl
  obtain ⟨av, cvv, rfl⟩ := own_slice hL.row
  obtain ⟨ar, cr, rfl⟩ := own_slice hL.rst
  have HL : Hid (Laid2 w5 w6 l0 (.slice av l0.length cvv) vo (.slice ar R.2.length cr) gs D od R.1 R.2) := hL
  have HTA : Aside _ := htmA
  have HTB : Aside _ := htmB
  clear hL htmA htmB
  go_wp2_with fail
  go_loopg [10, 30] l0.length (fun g1 v1 vi wr => ∃ i : Nat, vi = .int .i64 i ∧ i ≤ l0.length ∧ l0.length - i ≤ g1 ∧ Hid (Laid2 w5 wr l0 (.slice av l0.length cvv) vo (.slice ar R.2.length cr) gs D od R.1 R.2) ∧ Hid (Kd.R k37 37 wr w5.heap.size (fun _ => True) v1 ((List.range i).map (outP l0 tm R.1))))
  case atStart => exact ⟨0, rfl, Nat.zero_le _, Nat.le_refl _, HL, Kd.R_nil _ _ _ _ _⟩
  case round =>
    obtain ⟨i, rfl, hi, hg1, HL1, HO1⟩ := hrel
    clear HL
    by_cases hlt : i < l0.length
    · have hltz : (i : Int) < (l0.length : Int) := by omega
      obtain ⟨ad, ea, hca⟩ := own_cell HL1.out.row i hlt
      cases ea
      obtain ⟨g, hg⟩ : ∃ g, gs[i]? = some g := ⟨gs[i]'(by rw [HL1.out.len]; exact hlt), List.getElem?_eq_getElem _⟩
      rw [List.getElem?_map, hg] at hca
      replace hca : wr.cell? (ad.add i) = some (.pointer (some ⟨g, 0, none⟩)) := hca
      have hob := HL1.out.obj i g hg
      have z0 : wr.cell? ⟨g, 0, none⟩ = some (.string (rdD l0 i).f0) := (blk_cell hob 0).trans rfl
      have z8 : wr.cell? ⟨g, 8, none⟩ = some (.int .i64 (R.1 i).paid) := (blk_cell hob 8).trans rfl
      have z9 : wr.cell? ⟨g, 9, none⟩ = some (.int .i64 (R.1 i).taken) := (blk_cell hob 9).trans rfl
      have z10 : wr.cell? ⟨g, 10, none⟩ = some (.int .i64 (R.1 i).done) := (blk_cell hob 10).trans rfl
      obtain ⟨hta, htb⟩ := HTA.out i hlt
      have hlen : ((List.range i).map (outP l0 tm R.1)).length = i := by rw [List.length_map, List.length_range]
      have HL9 : Aside ((((List.range i).map (outP l0 tm R.1)).length + 1) * 56 ≤ 140737488355328) := (show _ ≤ _ by rw [hlen]; omega)
      obtain ⟨inner, hown⟩ := own_of HO1.out
      have hne : some g ≠ u10.ownBlock := row_ne hown hob (by intro cur e; injection e with _ e2 _; exact absurd e2 (by decide))
      have HNE : Hid (some g ≠ u10.ownBlock) := hne
      have HOW : Aside _ := hown
      have HQ : Hid (Below wr.heap.size wr wr.drew) := (Below.refl _ _).drew
      clear hown hne hob hg
      go_upto_region 9 with fail
      go_region_held_law (fun w' => w'.cell? ⟨g, 0, none⟩ = some (.string (rdD l0 i).f0) ∧ w'.cell? ⟨g, 8, none⟩ = some (.int .i64 (R.1 i).paid) ∧ w'.cell? ⟨g, 9, none⟩ = some (.int .i64 (R.1 i).taken) ∧ w'.cell? ⟨g, 10, none⟩ = some (.int .i64 (R.1 i).done))
        (first | exact keep4 ⟨z0, z8, z9, z10⟩ ((Below.refl _ _).drew) | exact keep4 (by assumption) ((Below.refl _ _).alloc (Nat.le_refl _) _) | exact keep4 (by assumption) (by assumption) | exact keep4g hg9 (keep4 ⟨z0, z8, z9, z10⟩ HQ.out) HNE.out)
        (first
          | (go_at_call 14; (with_reducible refine (bill_toldMoney.calls k (R.1 i).paid _ _ _ hta).mono ?_); rintro e w9 ⟨rfl, hb⟩; have HQ2 : Hid (Below wr.heap.size wr _) := HQ.out.trans (hb.mono HQ.out.size); clear HQ; have HQ := HQ2; clear HQ2)
          | (go_at_call 14; (with_reducible refine (bill_toldMoney.calls k (R.1 i).taken _ _ _ htb).mono ?_); rintro e w9 ⟨rfl, hb⟩; have HQ2 : Hid (Below wr.heap.size wr _) := HQ.out.trans (hb.mono HQ.out.size); clear HQ; have HQ := HQ2; clear HQ2)
          | (refine out_append l0 tm R.1 i (by omega) u10 (Kd.R_below HO1.out HQ.out) (HL1.out.bel.trans (HQ.out.mono HL1.out.bel.size)) rfl (.tmp 34) (.tmp 55) rfl rfl rfl ?_; intro v9 w9 hR9 hB9 hg9))
      simp only [List.getElem_toArray, List.getElem_cons_succ, List.getElem_cons_zero]
      try simp only [sq]
      go_wp2
      go_roundg (l0.length - (i + 1))
      case measure => omega
      case rel =>
        refine ⟨i + 1, by first | rfl | (congr 1; omega), by omega, Nat.le_refl _, ?_, hR9⟩
        exact (HL1.out.keep HQ.out).far (row_keep HOW.out fun j hj => HQ.out.block j (row_lt HOW.out hj)) hg9 hB9 (by decide) (by decide) (by decide)
    · obtain rfl : i = l0.length := by omega
      have hltz : ¬ (l0.length : Int) < (l0.length : Int) := by omega
      go_wp2_with fail
      go_loopg [13, 60] R.2.length (fun g2 v2 vi2 wr2 => ∃ k2 : Nat, vi2 = .int .i64 k2 ∧ k2 ≤ R.2.length ∧ R.2.length - k2 ≤ g2 ∧ Hid (Laid2 w5 wr2 l0 (.slice av l0.length cvv) vo (.slice ar R.2.length cr) gs D od R.1 R.2) ∧ Hid (Kd.R k37 37 wr2 w5.heap.size (fun _ => True) u10 ((List.range l0.length).map (outP l0 tm R.1))) ∧ Hid (Kd.R k32 32 wr2 w5.heap.size (fun _ => True) v2 ((R.2.take k2).map tm)))
      case atStart => exact ⟨0, rfl, Nat.zero_le _, Nat.le_refl _, HL1, HO1, (show Kd.R _ _ _ _ _ _ [] from Kd.R_nil _ _ _ _ _)⟩
      case round =>
        obtain ⟨k2, rfl, hk2, hg2, HL2, HO2, HW2⟩ := hrel
        clear HL1 HO1
        by_cases hlt2 : k2 < R.2.length
        · have hltz2 : (k2 : Int) < (R.2.length : Int) := by omega
          obtain ⟨ad2, ea2, hca2⟩ := own_cell HL2.out.rst k2 hlt2
          cases ea2
          obtain ⟨x, hx⟩ : ∃ x, R.2[k2]? = some x := ⟨R.2[k2], List.getElem?_eq_getElem hlt2⟩
          rw [List.getElem?_map, hx] at hca2
          replace hca2 : wr.cell? (ad2.add k2) = some (.int .i64 x) := hca2
          have htx := HTB.out x (List.mem_of_getElem? hx)
          have hlen2 : ((R.2.take k2).map tm).length = k2 := by rw [List.length_map, List.length_take]; omega
          have hsm : (((R.2.take k2).map tm).length + 1) * 16 ≤ 140737488355328 := by rw [hlen2]; omega
          have HSM : Aside _ := hsm
          have HX : Hid (R.2[k2]? = some x) := hx
          clear hx hlen2 hsm
          go_wp2_with (first
            | (go_at_call 14; (with_reducible refine (bill_toldMoney.calls k x _ _ _ htx).mono ?_); rintro e w9 ⟨rfl, hb⟩)
            | (at_builtin; refine Kd.R_append k32 (w0 := w5) w5.heap.size rfl (.tmp 64) (.tmp 67) 25 32 _ 16 rfl Tryd.underlying25 info32 rfl (by decide) (by decide) u13 ((R.2.take k2).map tm) (tm x) _ (fun _ => True) (fun _ => False) rfl rfl (k32_mkM _ _ _ (tm x)) (fun _ h => h.elim) (fun _ _ => trivial) (Kd.R_below HW2.out hb) (HL2.out.bel.trans (hb.mono HL2.out.bel.size)) (Nat.le_trans HL2.out.bel.size hb.size) HSM.out ?_; intro v10 w10 hR10 hB10 hg10 hor10))
          go_roundg (R.2.length - (k2 + 1))
          case measure => omega
          case rel =>
            refine ⟨k2 + 1, by first | rfl | (congr 1; omega), by omega, Nat.le_refl _, ?_, ?_, ?_⟩
            · obtain ⟨inn, how⟩ := own_of (Kd.R_below HW2.out hb)
              exact (HL2.out.keep hb).far how hg10 hB10 (by decide) (by decide) (by decide)
            · obtain ⟨inn, how⟩ := own_of (Kd.R_below HW2.out hb)
              exact R_other (Kd.R_below HO2.out hb) hg10 how (by decide)
            · show Kd.R _ _ _ _ _ _ ((R.2.take (k2 + 1)).map tm)
              rw [List.take_add_one, HX.out, List.map_append]
              exact hR10
        · have hkl : k2 = R.2.length := by omega
          have hltz2 : ¬ (k2 : Int) < (R.2.length : Int) := by omega
          go_wp2
          go_ret3
          refine ⟨u10, u13, rfl, ?_, ?_, HB.out.trans (HL2.out.bel.mono HB.out.size)⟩
          · rw [HRR.out]
            exact Kd.R_lower HO2.out HB.out.size
          · rw [HRR.out]
            have h2 := Kd.R_lower HW2.out HB.out.size
            rw [hkl, List.take_length] at h2
            exact h2
set_option maxHeartbeats 2000000 in
set_option maxRecDepth 1000000 in
theorem pay_bad (k : Nat) (A0 : Option Addr) (c0 : Nat) (l0 : List SDe) (A1 : Option Addr) (c1 : Nat) (l1 : List SPa) (nb : Nat → Bool) (mf : Nat → Int) (e1 : Int) (w : World) (hr0 : Kd.C k44 w A0 l0.length l0) (hc0 : l0.length ≤ c0)
    (hr1 : Kd.C k35 w A1 l1.length l1) (hc1 : l1.length ≤ c1)
    (hnb : ∀ i : Nat, i < l0.length → kit_IsName.f (rdD l0 i).f0 = some (nb i)) (hmf : ∀ i : Nat, i < l0.length → bill_moneyFault.f k (rdD l0 i).f2.f0 (rdD l0 i).f2.f1 = some (mf i)) (hcp : bill_CheckPayments.f k l1 = some e1)
    (hbad : ∀ rd, ChkD l0 nb mf rd → (if rd = 0 then e1 else rd) ≠ 0) :
    Calls Tryd.prog 5 #[.slice A0 l0.length c0, .slice A1 l1.length c1] w fun e w' => ∃ r : Int, e = .returned (.tuple #[.slice none 0 0, .slice none 0 0, .int .i64 r]) ∧ r ≠ 0 ∧ Below w.heap.size w w' := by
  have hbf := both_calls k A0 c0 l0 A1 c1 l1 nb mf e1 w hr0 hc0 hr1 hc1 hnb hmf hcp
  have HBD : Aside _ := hbad
  clear hr0 hr1 hnb hmf hcp hbad
  go_enter Tryd.func5, Tryd.ntmps5
  go_upto_region 2 with (go_at_call 12; (with_reducible refine hbf.mono ?_); rintro e w5 ⟨r, rfl, hh, hb⟩; have hr0 : r ≠ 0 := (by obtain ⟨rd, h1, h2⟩ := hh; rw [h2]; exact HBD.out rd h1); clear hh)
  go_wp2
  go_ret3
  exact ⟨r, rfl, hr0, hb⟩
end Go.Proofs.YtaihfoihlbileaaDoor.R4
