/- bill.payments, walked. -/
import Derived.Test.YtaihfoihlbileaaDoorR4pt
namespace Go.Proofs.YtaihfoihlbileaaDoor.R4
open Go Go.Proofs Go.RowKit Go.Maps Go.Proofs.YtaihfoihlbileaaDoorW.PrintWords Go.Proofs.YtaihfoihlbileaaDoorW.PrintLast Go.Proofs.YtaihfoihlbileaaDoorW.PrintMore
set_option maxHeartbeats 4000000 in
set_option maxRecDepth 1000000 in
theorem payments_calls (k : Nat) (A0 : Option Addr) (c0 : Nat) (l0 : List SDe) (A1 : Option Addr) (c1 : Nat) (l1 : List SPa) (day : Int) (cv pc : Nat → Int) (dsc : Nat → Int → Int) (od : List Nat) (w : World) (hr0 : Kd.C k44 w A0 l0.length l0) (hc0 : l0.length ≤ c0) (hn : l0.length ≤ 200)
    (hr1 : Kd.C k35 w A1 l1.length l1) (hc1 : l1.length ≤ c1) (hn1 : l1.length ≤ 500)
    (hnf : ∀ i : Nat, i < l1.length → (rdA l1 i).f2.length ≤ 100) (hod : ordA (fun j => (iniD l0 cv j).last) l0.length = od)
    (hcv : ∀ i : Nat, i < l0.length → bill_cents.f k (rdD l0 i).f2.f0 (rdD l0 i).f2.f1 = some (cv i)) (hsz : ∀ i : Nat, i < l0.length → (rdD l0 i).f0.size ≤ maxLen)
    (hpc : ∀ i : Nat, i < l1.length → bill_cents.f k (rdA l1 i).f1.f0 (rdA l1 i).f1.f1 = some (pc i)) (hsz1 : ∀ i : Nat, i < l1.length → ∀ j : Nat, j < (rdA l1 i).f2.length → (rdOf ByteArray.empty (rdA l1 i).f2 j).size ≤ maxLen)
    (hds : ∀ j : Nat, j < l0.length → ∀ o p t d : Int, bill_debt_discount.f k (rdD l0 j).f0 (rdD l0 j).f1 (rdD l0 j).f2.f0 (rdD l0 j).f2.f1 (rdD l0 j).f3 (rdD l0 j).f4 (rdD l0 j).f5 o p t d = some (dsc j o, (rdD l0 j).f0, (rdD l0 j).f1, (rdD l0 j).f2.f0, (rdD l0 j).f2.f1, (rdD l0 j).f3, (rdD l0 j).f4, (rdD l0 j).f5, o, p, t, d)) :
    Calls Tryd.prog 13 #[.slice A0 l0.length c0, .slice A1 l1.length c1, .int .i64 day] w fun e w' => ∃ (m : Nat) (v vo vr : Value) (gs : List Nat) (D : DataW Unit), m ≤ l1.length ∧ (∀ i : Nat, i < m → (rdA l1 i).f0 ≤ day) ∧ (m = l1.length ∨ day < (rdA l1 m).f0) ∧ e = .returned (.tuple #[v, vr]) ∧
      Laid2 w w' l0 v vo vr gs D od (runP l0 cv dsc od l1 pc m).1 (runP l0 cv dsc od l1 pc m).2 := by
  have hon : od.length = l0.length := hod ▸ ordA_length (fun j => (iniD l0 cv j).last) l0.length
  have hob : ∀ j ∈ od, j < l0.length := hod ▸ ordA_lt (fun j => (iniD l0 cv j).last) l0.length
  have HOD : Hid (ordA (fun j => (iniD l0 cv j).last) l0.length = od) := hod
  clear hod
  have hmm := @run_makeMap Tryd.prog
  obtain ⟨i0, hi0, hzz⟩ := Option.map_eq_some_iff.1 info58
  simp only [Prod.mk.injEq] at hzz
  obtain ⟨hz0, hz1, hz2⟩ := hzz
  have HR0 := Aside0.mk hr0
  have HR1 := Aside0.mk hr1
  have HPC : Aside _ := hpc
  have HS1 : Aside _ := hsz1
  have HNF : Aside _ := hnf
  have HDS : Aside _ := hds
  clear hr1 hpc hsz1 hds hnf
  go_enter Tryd.func13, Tryd.ntmps13
  go_wp2
  go_loopg [26, 8] l0.length (fun g1 vi va wr => ∃ (i : Nat) (gs : List Nat) (D : DataW Unit), vi = .int .i64 i ∧ i ≤ l0.length ∧ l0.length - i ≤ g1 ∧ Laid1 w wr w.heap.size (fun i => (rdD l0 i).f0) (iniD l0 cv) i va gs D)
  case atStart =>
    exact ⟨0, [], .map [], rfl, Nat.zero_le _, Nat.le_refl _, ⟨rfl, by simp, List.nodup_nil, by simp, ⟨rfl, .inl ⟨rfl, rfl⟩⟩, World.ownsMap_made w _ _ _, fun s => rfl, (Below.refl _ _).alloc (Nat.le_refl _) _, fun _ => rfl⟩⟩
  case round =>
    obtain ⟨i, gs, D, rfl, hi, hgk, L⟩ := hrel
    by_cases hlt : i < l0.length
    · have hltz : (i : Int) < (l0.length : Int) := by omega
      have h0i : (0 : Int) ≤ (i : Int) := by omega
      obtain ⟨ad, e0, hx0, hx1, hx2, hx3, hx4, hx5, hx6⟩ := at_T44 HR0.out (i : Int) h0i hltz
      cases e0
      simp only [Int.toNat_natCast] at hx0 hx1 hx2 hx3 hx4 hx5 hx6
      have HB : Aside0 (Below w.heap.size w wr) := ⟨L.bel⟩
      replace hx0 := hz HB hx0
      replace hx1 := hz HB hx1
      replace hx2 := hz HB hx2
      replace hx3 := hz HB hx3
      replace hx4 := hz HB hx4
      replace hx5 := hz HB hx5
      replace hx6 := hz HB hx6
      go_upto_region 6 with fail
      have G1 := blk_new wr (.cells #[.string (rdD l0 i).f0, .int .i64 (rdD l0 i).f1, .int .i64 (rdD l0 i).f2.f0, .int .i64 (rdD l0 i).f2.f1, .int .i64 (rdD l0 i).f3, .int .i64 (rdD l0 i).f4, .int .i64 (rdD l0 i).f5] 44 (0, 0))
      have K1 := World.grownBy_alloc wr (.cells #[.string (rdD l0 i).f0, .int .i64 (rdD l0 i).f1, .int .i64 (rdD l0 i).f2.f0, .int .i64 (rdD l0 i).f2.f1, .int .i64 (rdD l0 i).f3, .int .i64 (rdD l0 i).f4, .int .i64 (rdD l0 i).f5] 44 (0, 0)) none
      obtain ⟨g1, hg1⟩ : ∃ g1, g1 = wr.heap.size := ⟨_, rfl⟩
      rw [← hg1] at G1 ⊢
      have HG1 : Hid (g1 = wr.heap.size) := hg1
      generalize wr.alloc _ = w1 at G1 K1 ⊢
      clear hg1 hx0 hx1 hx2 hx3 hx4 hx5 hx6
      obtain ⟨y0, y1, y2, y3, y4, y5, y6⟩ := cz7 G1
      have hcc := fun w3 => bill_cents.calls k _ _ (cv i) w3 (hcv i hlt)
      go_region_held3 (fun w' => w'.cell? ⟨g1, 0, none⟩ = some (.string (rdD l0 i).f0) ∧ w'.cell? ⟨g1, 1, none⟩ = some (.int .i64 (rdD l0 i).f1) ∧ w'.cell? ⟨g1, 2, none⟩ = some (.int .i64 (rdD l0 i).f2.f0) ∧ w'.cell? ⟨g1, 3, none⟩ = some (.int .i64 (rdD l0 i).f2.f1) ∧ w'.cell? ⟨g1, 4, none⟩ = some (.int .i64 (rdD l0 i).f3) ∧ w'.cell? ⟨g1, 5, none⟩ = some (.int .i64 (rdD l0 i).f4) ∧ w'.cell? ⟨g1, 6, none⟩ = some (.int .i64 (rdD l0 i).f5) ∧ Below w1.heap.size w1 w') (first | exact keep7 (by assumption) ((Below.refl _ _).alloc (Nat.le_refl _) _) | exact keep7 ⟨y0, y1, y2, y3, y4, y5, y6, Below.refl _ _⟩ ((Below.refl _ _).drew) | exact keep7 (by assumption) (by assumption)) (first | (go_at_call 25; (with_reducible refine (hcc _).mono ?_); rintro e w2 ⟨rfl, hB2⟩))
      have hB2' : Below w1.heap.size w1 w2 := (Below.refl w1.heap.size w1).drew.trans hB2
      obtain ⟨g2, hg2⟩ : ∃ g2, g2 = w2.heap.size := ⟨_, rfl⟩
      have G2 : (w2.alloc (.cells #[.string (rdD l0 i).f0, .int .i64 (rdD l0 i).f1, .int .i64 (rdD l0 i).f2.f0, .int .i64 (rdD l0 i).f2.f1, .int .i64 (rdD l0 i).f3, .int .i64 (rdD l0 i).f4, .int .i64 (rdD l0 i).f5, .int .i64 (cv i), .int .i64 0, .int .i64 0, .int .i64 0] 60 (0, 0))).heap[g2]? = some (iniD l0 cv i).obj := hg2 ▸ blk_new w2 (.cells #[.string (rdD l0 i).f0, .int .i64 (rdD l0 i).f1, .int .i64 (rdD l0 i).f2.f0, .int .i64 (rdD l0 i).f2.f1, .int .i64 (rdD l0 i).f3, .int .i64 (rdD l0 i).f4, .int .i64 (rdD l0 i).f5, .int .i64 (cv i), .int .i64 0, .int .i64 0, .int .i64 0] 60 (0, 0))
      have hs1 := K1.size
      have hs2 := hB2'.size
      have B2 : Below wr.heap.size wr w2 := (Below.grown (Below.refl _ _) K1 (Nat.le_refl _) (by simp)).trans (hB2'.mono hs1)
      have B3 := B2.alloc B2.size (.cells #[.string (rdD l0 i).f0, .int .i64 (rdD l0 i).f1, .int .i64 (rdD l0 i).f2.f0, .int .i64 (rdD l0 i).f2.f1, .int .i64 (rdD l0 i).f3, .int .i64 (rdD l0 i).f4, .int .i64 (rdD l0 i).f5, .int .i64 (cv i), .int .i64 0, .int .i64 0, .int .i64 0] 60 (0, 0))
      have G1' := blk_alloc (blk_below G1 hB2') (.cells #[.string (rdD l0 i).f0, .int .i64 (rdD l0 i).f1, .int .i64 (rdD l0 i).f2.f0, .int .i64 (rdD l0 i).f2.f1, .int .i64 (rdD l0 i).f3, .int .i64 (rdD l0 i).f4, .int .i64 (rdD l0 i).f5, .int .i64 (cv i), .int .i64 0, .int .i64 0, .int .i64 0] 60 (0, 0))
      have hge : wr.heap.size ≤ g2 := by rw [hg2]; exact B2.size
      have HGE : Hid (wr.heap.size ≤ g2) := hge
      rw [← hg2]
      generalize w2.alloc _ = w3 at G2 B3 G1' ⊢
      clear hg2 hge hB2' hB2 hs1 hs2 y0 y1 y2 y3 y4 y5 y6 G1 K1 B2
      have L3 := L.keep B3
      have L4 := L3.keep ((Below.refl w3.heap.size w3).alloc (Nat.le_refl _) (.cells #[encP g2] 58 (0, 0)))
      have hrow := L4.row
      have hbase := L4.bel.size
      go_upto_region 8 with (at_builtin; refine wpList_append_own _ rfl _ _ 55 rfl w.heap.size 58 i0 (.pointer none) 1 8 Tryd.underlying55 hi0 hz0 hz1 hz2 rfl (by decide) u8 i _ rfl hrow ⟨w3.heap.size, 0, none⟩ 1 1 [encP g2] rfl rfl (news1 w3 _ _) (by simp [encP, Value.oneCell']) (by unfold maxLen; omega) (by omega) hbase ?_; intro v' w4 hown4 hg4 hnil4)
      have G4 := (hg4.block g1 (blk_lt (blk_alloc G1' _)) (row_ne hrow (blk_alloc G1' _) (by intro cur e; injection e with _ e2 _; exact absurd e2 (by decide)))).trans (blk_alloc G1' _)
      have y0 := (cz7 G4).1
      obtain ⟨es, ck, hmb, hmr⟩ := L4.map
      have hmap4 : w4.ownsMap Tryd.prog 9 ptrElem w.heap.size i D := ⟨es, ck, (hg4.block _ (blk_lt hmb) (row_ne hrow hmb (by intro cur e; cases e))).trans hmb, hmr⟩
      have hkey := WideMaps.keyOf_string_mk (P := Tryd.prog) Tryd.underlying9 (hsz i hlt)
      have HF : Hid (∀ g ∈ gs, g ≠ g2) := fun g hg e => by
        obtain ⟨j, hj⟩ := List.getElem?_of_mem hg
        have := blk_lt (L.obj j g hj)
        have h2 := HGE.out
        omega
      have HBG : Hid (w.heap.size < g2) := by
        have h1 := blk_lt hmb
        have h2 := HGE.out
        have h3 := L.bel.size
        obtain ⟨es', ck', hmb', _⟩ := L.map
        have h4 := blk_lt hmb'
        exact (show w.heap.size < g2 by omega)
      have HH4 : Aside (w4.ownsRow w.heap.size 58 1 v' (i + 1) (gs.map encP ++ [encP g2])) := hown4
      have HHG : Aside ((w3.alloc (.cells #[encP g2] 58 (0, 0))).grownBy w4 u8.ownBlock) := hg4
      clear hmb hown4 hg4 hnil4 hrow
      go_wp2_with (at_mapUpdate; refine wpList_mapUpdate_own _ rfl _ _ _ 71 rfl 9 58 law9 Tryd.underlying71 ptrElem w.heap.size i D rfl hmap4 (by unfold maxLen; omega) _ _ _ rfl rfl hkey (.lit (.int .i64 (g2 : Int))) [] rfl ?_; intro w5 hmap5 hg5)
      go_roundg (l0.length - (i + 1))
      case measure => omega
      case rel =>
        refine ⟨i + 1, gs ++ [g2], D.put (.string (rdD l0 i).f0.data.toList) (.lit (.int .i64 (g2 : Int))), by first | rfl | (congr 1; omega), by omega, Nat.le_refl _, ?_⟩
        exact L4.push (blk_alloc G2 _) HF.out HBG.out HH4 HHG hmap5 hg5
    · obtain rfl : i = l0.length := by omega
      have hltz : ¬ (l0.length : Int) < (l0.length : Int) := by omega
      have HB : Aside0 (Below w.heap.size w wr) := ⟨L.bel⟩
      have hcl := clone_any wr w.heap.size l0.length u8 (gs.map encP) L.row (fun u hu => by obtain ⟨g, _, rfl⟩ := List.mem_map.1 hu; rfl) (by omega) L.nil
      go_wp2_with (first | (go_at_call 26; (with_reducible refine hcl.mono ?_); rintro e' w1 ⟨vo, rfl, ho1, ho2, ho3⟩) | (go_at_call 27; (refine (sort_any wr.heap.size l0.length gs L.len (by omega) (iniD l0 cv) _ _ ho1 (L.keep ho2).obj ho3).mono ?_); rw [HOD.out]; rintro e' w2 ⟨rfl, hs1, hs2⟩))
      have L2 := Laid2.start L ho2 hs1 hs2 hon hob
      obtain ⟨ao, co, rfl⟩ := own_slice L2.ord
      clear ho1 ho2 ho3 hs1 hs2 L HB hr0 HR0 hcv hsz hi hlt hltz hi0 hz0 hz1 hz2 hmm hgk
      go_loopg [14, 51] l1.length (fun g1 vr vi wr => ∃ (i : Nat), vi = .int .i64 i ∧ i ≤ l1.length ∧ l1.length - i ≤ g1 ∧ Hid (∀ j : Nat, j < i → (rdA l1 j).f0 ≤ day) ∧ Hid (Laid2 w wr l0 u8 (.slice ao l0.length co) vr gs D od (runP l0 cv dsc od l1 pc i).1 (runP l0 cv dsc od l1 pc i).2))
      case atStart => exact ⟨0, rfl, Nat.zero_le _, Nat.le_refl _, (show ∀ j : Nat, j < 0 → _ from fun j h => absurd h (Nat.not_lt_zero j)), L2⟩
      case round =>
        obtain ⟨i, rfl, hi, hg1, HD, HL⟩ := hrel
        clear L2
        by_cases hlt : i < l1.length
        · have hltz : (i : Int) < (l1.length : Int) := by omega
          have h0i : (0 : Int) ≤ (i : Int) := by omega
          obtain ⟨ad, A3, c3, e0, hx0, hx1, hx2, hx3, hl3, hi3⟩ := at_T35 HR1.out (i : Int) h0i hltz
          cases e0
          simp only [Int.toNat_natCast] at hx0 hx1 hx2 hx3
          obtain ⟨p, hp⟩ : ∃ p, p = rd_T35 l1 i := ⟨_, rfl⟩
          rw [← hp] at hx0 hx1 hx2 hx3 hl3 hi3
          have HP : Hid (p = rdA l1 i) := hp
          have hcp : bill_cents.f k p.f1.f0 p.f1.f1 = some (pc i) := hp ▸ HPC.out i hlt
          have HSP : Aside (∀ j : Nat, j < p.f2.length → (rdOf ByteArray.empty p.f2 j).size ≤ maxLen) := hp ▸ HS1.out i hlt
          have hpl : p.f2.length ≤ 100 := hp ▸ HNF.out i hlt
          clear hp
          have HB : Aside0 (Below w.heap.size w wr) := ⟨HL.out.bel⟩
          replace hx0 := hz HB hx0
          replace hx1 := hz HB hx1
          replace hx2 := hz HB hx2
          replace hx3 := hz HB hx3
          have HNM := Aside0.mk hi3
          clear hi3
          go_upto_region 16 with fail
          have G1 := blk_new wr (.cells #[.int .i64 p.f0, .int .i64 p.f1.f0, .int .i64 p.f1.f1, .slice A3 p.f2.length c3] 35 (0, 0))
          have L3 : Laid3 w (wr.alloc (.cells #[.int .i64 p.f0, .int .i64 p.f1.f0, .int .i64 p.f1.f1, .slice A3 p.f2.length c3] 35 (0, 0))) l0 u8 (.slice ao l0.length co) u14 gs D od (runP l0 cv dsc od l1 pc i).1 (runP l0 cv dsc od l1 pc i).2 wr.heap.size #[.int .i64 p.f0, .int .i64 p.f1.f0, .int .i64 p.f1.f1, .slice A3 p.f2.length c3] := ⟨HL.out.keep ((Below.refl _ _).alloc (Nat.le_refl _) _), G1⟩
          generalize wr.heap.size = gb at G1 L3 ⊢
          generalize wr.alloc _ = w3 at G1 L3 ⊢
          clear hx0 hx1 hx2 hx3 HB
          obtain ⟨y0, y1, y2, y3⟩ := cb4 G1
          have HL3 : Aside _ := L3
          clear G1 L3
          by_cases hday : day < p.f0
          · go_wp2
            go_ret2
            exact ⟨i, u8, .slice ao l0.length co, u14, gs, D, hi, HD.out, Or.inr (by rw [← HP.out]; exact hday), rfl, HL3.out.two⟩
          · go_wp2_with (first | (go_at_call 25; (with_reducible refine (bill_cents.calls k _ _ (pc i) _ hcp).mono ?_); rintro e w4 ⟨rfl, hB4⟩; have HL4 : Aside _ := HL3.out.keep hB4; obtain ⟨y0, y1, y2, y3⟩ := cb4 HL4.out.box; clear hB4))
            go_loopg [17, 65] p.f2.length (fun g2 vl vi2 wr2 => ∃ (kk : Nat) (s : Int × (Nat → V4)), vl = .int .i64 s.1 ∧ vi2 = .int .i64 kk ∧ kk ≤ p.f2.length ∧ p.f2.length - kk ≤ g2 ∧ Hid (runN l0 dsc p.f0 (fun k => rdOf ByteArray.empty p.f2 k) (pc i, (runP l0 cv dsc od l1 pc i).1) kk = s) ∧ Hid (Laid3 w wr2 l0 u8 (.slice ao l0.length co) u14 gs D od s.2 (runP l0 cv dsc od l1 pc i).2 gb #[.int .i64 p.f0, .int .i64 p.f1.f0, .int .i64 p.f1.f1, .slice A3 p.f2.length c3]))
            case atStart => exact ⟨0, (pc i, (runP l0 cv dsc od l1 pc i).1), rfl, rfl, Nat.zero_le _, Nat.le_refl _, rfl, HL4.out⟩
            case round =>
              obtain ⟨kk, s, rfl, rfl, hkk, hg2, HS, HL5⟩ := hrel
              clear y0 y1 y2 y3 HL3 HL4 HL
              obtain ⟨y0, y1, y2, y3⟩ := cb4 HL5.out.box
              by_cases hlt2 : kk < p.f2.length
              · have hltz2 : (kk : Int) < (p.f2.length : Int) := by omega
                obtain ⟨ad2, e2, hn0⟩ := Kd.at_string HNM.out (kk : Int) (by omega) hltz2
                cases e2
                rw [Int.toNat_natCast] at hn0
                replace hn0 := hz ⟨HL5.out.two.bel⟩ hn0
                obtain ⟨nn, hnn⟩ : ∃ nn, nn = rdOf ByteArray.empty p.f2 kk := ⟨_, rfl⟩
                rw [← hnn] at hn0
                have HNN : Hid (nn = rdOf ByteArray.empty p.f2 kk) := hnn
                have hlk := HL5.out.two.look nn (by rw [hnn]; exact HSP.out kk hlt2)
                clear hnn
                cases hx : lastIx (nmD l0) nn l0.length with
                | none =>
                  rw [hx] at hlk
                  have HX : Hid (lastIx (nmD l0) nn l0.length = none) := hx
                  clear hx
                  replace hlk : Sem.run Tryd.prog (Instr.lookup 71 (.map (some w.heap.size)) (.string nn) false) _ = .ok (.pointer none) _ := hlk
                  have hq := ptr_eql0
                  go_wp2
                  go_roundg (p.f2.length - (kk + 1))
                  case measure => omega
                  case rel =>
                    refine ⟨kk + 1, s, rfl, by first | rfl | (congr 1; omega), by omega, Nat.le_refl _, (show _ = _ from ?_), HL5⟩
                    show stepN l0 dsc p.f0 (lastIx (nmD l0) (rdOf ByteArray.empty p.f2 kk) l0.length) (runN l0 dsc p.f0 (fun k => rdOf ByteArray.empty p.f2 k) (pc i, (runP l0 cv dsc od l1 pc i).1) kk) = s
                    rw [HS.out, ← HNN.out, HX.out]
                    rfl
                | some j =>
                  rw [hx] at hlk
                  have HX : Hid (lastIx (nmD l0) nn l0.length = some j) := hx
                  have hjl := lastIx_lt hx
                  clear hx
                  have hgj : gs[j]? = some (gs.getD j 0) := by
                    rw [List.getD_eq_getElem?_getD, List.getElem?_eq_getElem (by rw [HL5.out.two.len]; exact hjl)]
                    rfl
                  replace hlk : Sem.run Tryd.prog (Instr.lookup 71 (.map (some w.heap.size)) (.string nn) false) _ = .ok (.pointer (some ⟨gs.getD j 0, 0, none⟩)) _ := hlk
                  generalize gs.getD j 0 = g at hlk hgj
                  have HGJ : Hid (gs[j]? = some g) := hgj
                  have hth3 := there3 HL5.out hgj p.f0
                  have hq := ptr_eql g
                  clear hgj
                  by_cases hth : thereB (rdD l0 j) (s.2 j) p.f0 = true
                  · rw [hth] at hth3
                    have HTH : Hid (thereB (rdD l0 j) (s.2 j) p.f0 = true) := hth
                    clear hth
                    go_wp2_with (first | (go_at_call 20; (with_reducible refine hth3.mono ?_); rintro e w5 ⟨rfl, L6⟩; have HL6 : Aside _ := L6; clear y0 y1 y2 y3 L6; obtain ⟨y0, y1, y2, y3⟩ := cb4 HL6.out.box) | (go_at_call 30; (with_reducible refine (named3 k HL6.out HGJ.out s.1 p.f0 (dsc j (s.2 j).owes) (HDS.out j hjl _ _ _ _)).mono ?_); rintro e w6 ⟨rfl, L7⟩; have HL7 : Aside _ := L7; clear L7))
                    go_roundg (p.f2.length - (kk + 1))
                    case measure => omega
                    case rel =>
                      refine ⟨kk + 1, ((namedV (rdD l0 j) (dsc j (s.2 j).owes) (s.2 j) s.1 p.f0).1, upd s.2 j (namedV (rdD l0 j) (dsc j (s.2 j).owes) (s.2 j) s.1 p.f0).2), rfl, by first | rfl | (congr 1; omega), by omega, Nat.le_refl _, (show _ = _ from ?_), HL7.out⟩
                      show stepN l0 dsc p.f0 (lastIx (nmD l0) (rdOf ByteArray.empty p.f2 kk) l0.length) (runN l0 dsc p.f0 (fun k => rdOf ByteArray.empty p.f2 k) (pc i, (runP l0 cv dsc od l1 pc i).1) kk) = _
                      rw [HS.out, ← HNN.out, HX.out]
                      unfold stepN
                      exact if_pos HTH.out
                  · rw [Bool.eq_false_iff.mpr hth] at hth3
                    have HTH : Hid (¬ thereB (rdD l0 j) (s.2 j) p.f0 = true) := hth
                    clear hth
                    go_wp2_with (go_at_call 20; (with_reducible refine hth3.mono ?_); rintro e w5 ⟨rfl, L6⟩; have HL6 : Aside _ := L6; clear L6)
                    go_roundg (p.f2.length - (kk + 1))
                    case measure => omega
                    case rel =>
                      refine ⟨kk + 1, s, rfl, by first | rfl | (congr 1; omega), by omega, Nat.le_refl _, (show _ = _ from ?_), HL6.out⟩
                      show stepN l0 dsc p.f0 (lastIx (nmD l0) (rdOf ByteArray.empty p.f2 kk) l0.length) (runN l0 dsc p.f0 (fun k => rdOf ByteArray.empty p.f2 k) (pc i, (runP l0 cv dsc od l1 pc i).1) kk) = s
                      rw [HS.out, ← HNN.out, HX.out]
                      exact if_neg HTH.out
              · have hkl : kk = p.f2.length := by omega
                have hltz2 : ¬ (kk : Int) < (p.f2.length : Int) := by omega
                go_wp2_with fail
                go_loopg [17, 88] l0.length (fun g3 vl vi3 wr3 => ∃ (k3 : Nat) (s2 : Int × (Nat → V4)), vl = .int .i64 s2.1 ∧ vi3 = .int .i64 k3 ∧ k3 ≤ l0.length ∧ l0.length - k3 ≤ g3 ∧ Hid (runO l0 p.f0 od s k3 = s2) ∧ Hid (Laid3 w wr3 l0 u8 (.slice ao l0.length co) u14 gs D od s2.2 (runP l0 cv dsc od l1 pc i).2 gb #[.int .i64 p.f0, .int .i64 p.f1.f0, .int .i64 p.f1.f1, .slice A3 p.f2.length c3]))
                case atStart => exact ⟨0, s, rfl, rfl, Nat.zero_le _, Nat.le_refl _, rfl, HL5.out⟩
                case round =>
                  obtain ⟨k3, s2, rfl, rfl, hk3, hg3, HS2, HL6⟩ := hrel
                  clear y0 y1 y2 y3 HL5
                  obtain ⟨y0, y1, y2, y3⟩ := cb4 HL6.out.box
                  by_cases hlt3 : k3 < l0.length
                  · have hltz3 : (k3 : Int) < (l0.length : Int) := by omega
                    obtain ⟨ado, eo, hco, hjl, hgj⟩ := HL6.out.two.ordAt k3 hlt3
                    cases eo
                    generalize gs.getD (od.getD k3 0) 0 = g at hco hgj
                    obtain ⟨j, hj⟩ : ∃ j, j = od.getD k3 0 := ⟨_, rfl⟩
                    rw [← hj] at hgj hjl
                    have HJ : Hid (j = od.getD k3 0) := hj
                    have HGJ : Hid (gs[j]? = some g) := hgj
                    have hth3 := there3 HL6.out hgj p.f0
                    clear hgj hj
                    by_cases hpos : 0 < s2.1
                    · have hposd : decide (0 < s2.1) = true := decide_eq_true hpos
                      have HPOS : Hid (s2.1 > 0) := hpos
                      by_cases hth : thereB (rdD l0 j) (s2.2 j) p.f0 = true
                      · rw [hth] at hth3
                        have HTH : Hid (thereB (rdD l0 j) (s2.2 j) p.f0 = true) := hth
                        clear hth
                        go_wp2_with (first | (go_at_call 20; (with_reducible refine hth3.mono ?_); rintro e w5 ⟨rfl, L6⟩; have HL7 : Aside _ := L6; clear y0 y1 y2 y3 L6; obtain ⟨y0, y1, y2, y3⟩ := cb4 HL7.out.box) | (go_at_call 31; (with_reducible refine (pay3 HL7.out HGJ.out s2.1 p.f0).mono ?_); rintro e w6 ⟨rfl, L7⟩; have HL8 : Aside _ := L7; clear L7))
                        go_roundg (l0.length - (k3 + 1))
                        case measure => omega
                        case rel =>
                          refine ⟨k3 + 1, ((payV (s2.2 j) s2.1 p.f0).1, upd s2.2 j (payV (s2.2 j) s2.1 p.f0).2), rfl, by first | rfl | (congr 1; omega), by omega, Nat.le_refl _, (show _ = _ from ?_), HL8.out⟩
                          show stepO l0 p.f0 (od.getD k3 0) (runO l0 p.f0 od s k3) = _
                          rw [HS2.out, ← HJ.out]
                          exact if_pos ⟨HPOS.out, HTH.out⟩
                      · rw [Bool.eq_false_iff.mpr hth] at hth3
                        have HTH : Hid (¬ thereB (rdD l0 j) (s2.2 j) p.f0 = true) := hth
                        clear hth
                        go_wp2_with (go_at_call 20; (with_reducible refine hth3.mono ?_); rintro e w5 ⟨rfl, L6⟩; have HL7 : Aside _ := L6; clear L6)
                        go_roundg (l0.length - (k3 + 1))
                        case measure => omega
                        case rel =>
                          refine ⟨k3 + 1, s2, rfl, by first | rfl | (congr 1; omega), by omega, Nat.le_refl _, (show _ = _ from ?_), HL7.out⟩
                          show stepO l0 p.f0 (od.getD k3 0) (runO l0 p.f0 od s k3) = _
                          rw [HS2.out, ← HJ.out]
                          exact if_neg fun h => HTH.out h.2
                    · have hposd : decide (0 < s2.1) = false := decide_eq_false hpos
                      have HPOS : Hid (¬ s2.1 > 0) := hpos
                      go_wp2
                      go_roundg (l0.length - (k3 + 1))
                      case measure => omega
                      case rel =>
                        refine ⟨k3 + 1, s2, rfl, by first | rfl | (congr 1; omega), by omega, Nat.le_refl _, (show _ = _ from ?_), HL6⟩
                        show stepO l0 p.f0 (od.getD k3 0) (runO l0 p.f0 od s k3) = _
                        rw [HS2.out, ← HJ.out]
                        exact if_neg fun h => absurd h.1 (by have h2 := HPOS.out; omega)
                  · have hkl3 : k3 = l0.length := by omega
                    have hltz3 : ¬ (k3 : Int) < (l0.length : Int) := by omega
                    have hrl := runP_length l0 cv dsc od l1 pc i
                    go_wp2_with (at_builtin; refine print_append_cells w.heap.size rfl _ _ 38 3 (.int .i64 0) 1 8 rfl Tryd.underlying38 infoI rfl (by decide) (by decide) u14 (runP l0 cv dsc od l1 pc i).2.length ((runP l0 cv dsc od l1 pc i).2.map encI) [.int .i64 s2.1] rfl rfl rfl (by simp [Value.oneCell']) HL6.out.two.rst HL6.out.two.bel HL6.out.two.bel.size (by omega) ?_; intro v9 w9 hown9 hB9 hg9 hor9)
                    have HO9 : Aside _ := hown9
                    have HB9 : Aside _ := hB9
                    have HG9 : Aside _ := hg9
                    go_roundg (l1.length - (i + 1))
                    case measure => omega
                    case rel =>
                      have hone : oneP l0 dsc od (rdA l1 i) (pc i) (runP l0 cv dsc od l1 pc i).1 = s2 := by
                        unfold oneP
                        rw [← HP.out, ← hkl, HS.out, hon, ← hkl3, HS2.out]
                      refine ⟨i + 1, by first | rfl | (congr 1; omega), by omega, Nat.le_refl _, ?_, ?_⟩
                      · show ∀ j : Nat, j < i + 1 → (rdA l1 j).f0 ≤ day
                        intro j hj
                        rcases Nat.lt_succ_iff_lt_or_eq.1 hj with h | rfl
                        · exact HD.out j h
                        · rw [← HP.out]
                          omega
                      · show Laid2 w _ l0 u8 _ v9 gs D od (oneP l0 dsc od (rdA l1 i) (pc i) (runP l0 cv dsc od l1 pc i).1).2 ((runP l0 cv dsc od l1 pc i).2 ++ [(oneP l0 dsc od (rdA l1 i) (pc i) (runP l0 cv dsc od l1 pc i).1).1])
                        rw [hone]
                        exact HL6.out.two.push HO9.out HG9.out HB9.out
        · obtain rfl : i = l1.length := by omega
          have hltz : ¬ (l1.length : Int) < (l1.length : Int) := by omega
          go_wp2
          go_ret2
          first | exact ⟨l1.length, hi, HD.out, Or.inl rfl, u8, .slice ao l0.length co, u14, rfl, gs, D, HL.out⟩ | exact ⟨l1.length, u8, .slice ao l0.length co, u14, gs, D, hi, HD.out, Or.inl rfl, rfl, HL.out⟩
end Go.Proofs.YtaihfoihlbileaaDoor.R4
