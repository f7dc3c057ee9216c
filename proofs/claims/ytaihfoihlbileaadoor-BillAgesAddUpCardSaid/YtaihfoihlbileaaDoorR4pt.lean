/- bill.payments: how debts, their pointers, their map and their order lie in memory; what the loops compute. -/
import Derived.Test.YtaihfoihlbileaaDoorR4ps
import Derived.Test.YtaihfoihlbileaaDoorR4pm
import Derived.Maps.Own
import Derived.Maps.OwnOps
import Derived.Maps.OwnSet
import Derived.Maps.Views
namespace Go.Proofs.YtaihfoihlbileaaDoor.R4
open Go Go.Proofs Go.RowKit Go.Maps Go.Proofs.YtaihfoihlbileaaDoorW.PrintWords Go.Proofs.YtaihfoihlbileaaDoorW.PrintLast Go.Proofs.YtaihfoihlbileaaDoorW.PrintMore

abbrev SDe := S44
abbrev rdD := rd_T44
/-- how a map's pointer reads -/
def ptrElem (v : Value) : Option (DataW Unit × List MemPlace) := match v with
  | .pointer none => some (.lit (.int .i64 (-1)), [])
  | .pointer (some ⟨g, 0, none⟩) => some (.lit (.int .i64 (g : Int)), [])
  | _ => none
theorem ptrElem_inv {v : Value} {z : DataW Unit × List MemPlace} (h : ptrElem v = some z) : (v = .pointer none ∧ z.1 = .lit (.int .i64 (-1))) ∨ ∃ g : Nat, v = encP g ∧ z.1 = .lit (.int .i64 (g : Int)) := by
  unfold ptrElem at h
  split at h
  · obtain rfl := Option.some.inj h
    exact Or.inl ⟨rfl, rfl⟩
  · rename_i g
    obtain rfl := Option.some.inj h
    exact Or.inr ⟨g, rfl, rfl⟩
  · cases h
/-- the last of the first k whose name is s -/
def lastIx (nm : Nat → ByteArray) (s : ByteArray) : Nat → Option Nat
  | 0 => none
  | k + 1 => if (nm k).data.toList = s.data.toList then some k else lastIx nm s k
def ptrAt (gs : List Nat) (o : Option Nat) : DataW Unit := match o with
  | none => .lit (.int .i64 (-1))
  | some j => .lit (.int .i64 ((gs.getD j 0 : Nat) : Int))
def iniD (l0 : List SDe) (cv : Nat → Int) (i : Nat) : DS := ⟨(rdD l0 i).f0, (rdD l0 i).f1, (rdD l0 i).f2.f0, (rdD l0 i).f2.f1, (rdD l0 i).f3, (rdD l0 i).f4, (rdD l0 i).f5, cv i, 0, 0, 0⟩
theorem lastIx_lt {nm : Nat → ByteArray} {s : ByteArray} : ∀ {k j : Nat}, lastIx nm s k = some j → j < k
  | 0, _, h => by cases h
  | k + 1, j, h => by
    unfold lastIx at h
    split at h
    · obtain rfl := Option.some.inj h
      omega
    · have := lastIx_lt h
      omega
theorem law9 : Keyed Tryd.prog 9 := string_keyed Tryd.underlying9
theorem zero58 (w : World) : (zeroValue 58).run Tryd.prog w = .ok (.pointer none) w := by kernel_rfl
/-- the debts, their pointers, their names: how they lie in memory -/
structure Laid1 (w wr : World) (B : Nat) (nm : Nat → ByteArray) (X : Nat → DS) (n : Nat) (v : Value) (gs : List Nat) (D : DataW Unit) : Prop where
  len : gs.length = n
  obj : ∀ j g, gs[j]? = some g → wr.heap[g]? = some (X j).obj
  nd : gs.Nodup
  big : ∀ g ∈ gs, B < g
  row : wr.ownsRow w.heap.size 58 1 v n (gs.map encP)
  map : wr.ownsMap Tryd.prog 9 ptrElem B n D
  key : ∀ s : ByteArray, D.atKey (.string s.data.toList) (.lit (.int .i64 (-1))) = ptrAt gs (lastIx nm s n)
  bel : Below w.heap.size w wr
  nil : n = 0 → v = .slice none 0 0
theorem keep7 {w1 W W' : World} {g : Nat} {v0 v1 v2 v3 v4 v5 v6 : Value} (h : W.cell? ⟨g, 0, none⟩ = some v0 ∧ W.cell? ⟨g, 1, none⟩ = some v1 ∧ W.cell? ⟨g, 2, none⟩ = some v2 ∧ W.cell? ⟨g, 3, none⟩ = some v3 ∧ W.cell? ⟨g, 4, none⟩ = some v4 ∧ W.cell? ⟨g, 5, none⟩ = some v5 ∧ W.cell? ⟨g, 6, none⟩ = some v6 ∧ Below w1.heap.size w1 W) (hb : Below W.heap.size W W') : W'.cell? ⟨g, 0, none⟩ = some v0 ∧ W'.cell? ⟨g, 1, none⟩ = some v1 ∧ W'.cell? ⟨g, 2, none⟩ = some v2 ∧ W'.cell? ⟨g, 3, none⟩ = some v3 ∧ W'.cell? ⟨g, 4, none⟩ = some v4 ∧ W'.cell? ⟨g, 5, none⟩ = some v5 ∧ W'.cell? ⟨g, 6, none⟩ = some v6 ∧ Below w1.heap.size w1 W' := by
  obtain ⟨h0, h1, h2, h3, h4, h5, h6, h7⟩ := h
  exact ⟨(hb.cell (World.block_lt_of_cell? W _ h0)).trans h0, (hb.cell (World.block_lt_of_cell? W _ h1)).trans h1, (hb.cell (World.block_lt_of_cell? W _ h2)).trans h2, (hb.cell (World.block_lt_of_cell? W _ h3)).trans h3, (hb.cell (World.block_lt_of_cell? W _ h4)).trans h4, (hb.cell (World.block_lt_of_cell? W _ h5)).trans h5, (hb.cell (World.block_lt_of_cell? W _ h6)).trans h6, h7.trans (hb.mono h7.size)⟩
theorem cz7 {w : World} {g : Nat} {t : TypeId} {v0 v1 v2 v3 v4 v5 v6 : Value} (h : w.heap[g]? = some (.cells #[v0, v1, v2, v3, v4, v5, v6] t (0, 0))) : w.cell? ⟨g, 0, none⟩ = some v0 ∧ w.cell? ⟨g, 1, none⟩ = some v1 ∧ w.cell? ⟨g, 2, none⟩ = some v2 ∧ w.cell? ⟨g, 3, none⟩ = some v3 ∧ w.cell? ⟨g, 4, none⟩ = some v4 ∧ w.cell? ⟨g, 5, none⟩ = some v5 ∧ w.cell? ⟨g, 6, none⟩ = some v6 :=
  ⟨(blk_cell h 0).trans rfl, (blk_cell h 1).trans rfl, (blk_cell h 2).trans rfl, (blk_cell h 3).trans rfl, (blk_cell h 4).trans rfl, (blk_cell h 5).trans rfl, (blk_cell h 6).trans rfl⟩
theorem row_ne {W : World} {base : Nat} {e : TypeId} {size : Nat} {v : Value} {k : Nat} {xs : List Value} (h : W.ownsRow base e size v k xs) {j : Nat} {o : Obj} (hj : W.heap[j]? = some o) (hno : ∀ cur, o ≠ .cells cur e (0, 0)) : some j ≠ v.ownBlock := by
  intro e1
  rcases h.2 with ⟨rfl, _⟩ | ⟨g, cap, cur, rfl, _, hb, _⟩
  · cases e1
  · obtain rfl := Option.some.inj e1
    exact hno cur (Option.some.inj (hj.symm.trans hb))
theorem row_keep {W W' : World} {base : Nat} {e : TypeId} {size : Nat} {v : Value} {k : Nat} {xs : List Value} (h : W.ownsRow base e size v k xs) (hg : ∀ j, some j = v.ownBlock → W'.heap[j]? = W.heap[j]?) : W'.ownsRow base e size v k xs := by
  refine ⟨h.1, ?_⟩
  rcases h.2 with h1 | ⟨g, cap, cur, rfl, h2, hb, h3⟩
  · exact .inl h1
  · exact .inr ⟨g, cap, cur, rfl, h2, (hg g rfl).trans hb, h3⟩
theorem row_lt {W : World} {base : Nat} {e : TypeId} {size : Nat} {v : Value} {k : Nat} {xs : List Value} (h : W.ownsRow base e size v k xs) {j : Nat} (hj : some j = v.ownBlock) : j < W.heap.size := by
  rcases h.2 with ⟨rfl, _⟩ | ⟨g, cap, cur, rfl, _, hb, _⟩
  · cases hj
  · obtain rfl := Option.some.inj hj
    exact blk_lt hb
theorem grown_of_below {w w' : World} (h : Below w.heap.size w w') : w.grownBy w' none := ⟨h.os, h.tape, h.output, h.size, fun k hk _ => h.block k hk⟩
theorem news1 (w : World) (x : Value) (t : TypeId) : ∀ (j : Nat) (u : Value), [x][j]? = some u → (w.alloc (.cells #[x] t (0, 0))).cell? ((⟨w.heap.size, 0, none⟩ : Addr).add j) = some u := by
  intro j u hu
  cases j with
  | zero => exact (blk_cell (blk_new w _) 0).trans hu
  | succ j => simp at hu
theorem Laid1.keep {w wr w3 : World} {B : Nat} {nm : Nat → ByteArray} {X : Nat → DS} {n : Nat} {v : Value} {gs : List Nat} {D : DataW Unit} (L : Laid1 w wr B nm X n v gs D) (hb : Below wr.heap.size wr w3) : Laid1 w w3 B nm X n v gs D :=
  ⟨L.len, fun j g h => blk_below (L.obj j g h) hb, L.nd, L.big, row_keep L.row fun j hj => hb.block j (row_lt L.row hj), L.map.kept (grown_of_below hb) (by simp), L.key, L.bel.trans (hb.mono L.bel.size), L.nil⟩
theorem Laid1.push {w wr w4 w5 : World} {nm : Nat → ByteArray} {X : Nat → DS} {n : Nat} {v v' : Value} {gs : List Nat} {D : DataW Unit} {g2 : Nat} (L : Laid1 w wr w.heap.size nm X n v gs D) (hG : wr.heap[g2]? = some (X n).obj) (hfresh : ∀ g ∈ gs, g ≠ g2) (hbig : w.heap.size < g2)
    (hown : w4.ownsRow w.heap.size 58 1 v' (n + 1) (gs.map encP ++ [encP g2])) (hg4 : wr.grownBy w4 v.ownBlock) (hmap : w5.ownsMap Tryd.prog 9 ptrElem w.heap.size (n + 1) (D.put (.string (nm n).data.toList) (.lit (.int .i64 g2)))) (hg5 : w4.grownBy w5 (some w.heap.size)) :
    Laid1 w w5 w.heap.size nm X (n + 1) v' (gs ++ [g2]) (D.put (.string (nm n).data.toList) (.lit (.int .i64 g2))) := by
  have step : ∀ g j, wr.heap[g]? = some (X j).obj → w.heap.size < g → w5.heap[g]? = some (X j).obj := by
    intro g j h hlt
    have h4 : w4.heap[g]? = some (X j).obj := (hg4.block g (blk_lt h) (row_ne L.row h (by intro cur e; injection e with _ e2 _; exact absurd e2 (by decide)))).trans h
    exact (hg5.block g (blk_lt h4) (by intro e; have := Option.some.inj e; omega)).trans h4
  obtain ⟨es, ck, hmb, _⟩ := L.map
  have hmw : wr.heap.size ≤ w4.heap.size := hg4.size
  refine ⟨by simp [L.len], ?_, ?_, ?_, ?_, hmap, ?_, ?_, fun e => absurd e (Nat.succ_ne_zero n)⟩
  · intro j g h
    rcases Nat.lt_or_ge j gs.length with hj | hj
    · rw [List.getElem?_append_left hj] at h
      exact step g j (L.obj j g h) (L.big g (List.mem_of_getElem? h))
    · rw [List.getElem?_append_right hj] at h
      have hj0 : j - gs.length = 0 := by
        cases hx : j - gs.length with
        | zero => rfl
        | succ m => rw [hx] at h; simp at h
      rw [hj0] at h
      obtain rfl := Option.some.inj h
      have hjn : j = n := by have := L.len; omega
      subst hjn
      exact step _ _ hG hbig
  · rw [List.nodup_append]
    exact ⟨L.nd, by simp, fun a ha b hb => by simp at hb; subst hb; exact hfresh a ha⟩
  · intro g hg
    rcases List.mem_append.1 hg with h | h
    · exact L.big g h
    · simp at h; omega
  · rw [List.map_append]
    refine row_keep hown fun j hj => hg5.block j (row_lt hown hj) fun e => ?_
    have h4 : w4.heap[w.heap.size]? = some (.map es ck) := (hg4.block _ (blk_lt hmb) (row_ne L.row hmb (by intro cur e; cases e))).trans hmb
    exact row_ne hown h4 (by intro cur e; cases e) (e ▸ hj)
  · intro s
    have hk := L.key s
    by_cases hs : s.data.toList = (nm n).data.toList
    · rw [hs, Maps.atKey_put_same L.map.isMap (by exact trivial)]
      rw [show lastIx nm s (n + 1) = if (nm n).data.toList = s.data.toList then some n else lastIx nm s n from rfl, if_pos hs.symm]
      simp only [ptrAt]
      rw [← L.len]
      simp
    · rw [Maps.atKey_put_other (by intro e; injection e with e; exact hs e), hk]
      rw [show lastIx nm s (n + 1) = if (nm n).data.toList = s.data.toList then some n else lastIx nm s n from rfl, if_neg (fun e => hs e.symm)]
      cases hl : lastIx nm s n with
      | none => rfl
      | some j =>
        have hj : j < n := lastIx_lt hl
        simp only [ptrAt]
        rw [List.getD_eq_getElem?_getD, List.getD_eq_getElem?_getD, List.getElem?_append_left (by rw [L.len]; exact hj)]
  · refine (L.bel.grown hg4 L.bel.size ?_).grown hg5 (Nat.le_trans L.bel.size hmw) ?_
    · intro b hb
      rcases L.row.2 with ⟨rfl, _⟩ | ⟨g, cap, cur, rfl, hge, _⟩
      · cases hb
      · obtain rfl := Option.some.inj hb
        exact hge
    · intro b hb
      obtain rfl := Option.some.inj hb
      exact Nat.le_refl _

/-! what the second loop computes -/
abbrev SPa := S35
abbrev rdA := rd_T35
structure V4 where
  owes : Int
  paid : Int
  taken : Int
  done : Int
def mkD (l0 : List SDe) (i : Nat) (v : V4) : DS := ⟨(rdD l0 i).f0, (rdD l0 i).f1, (rdD l0 i).f2.f0, (rdD l0 i).f2.f1, (rdD l0 i).f3, (rdD l0 i).f4, (rdD l0 i).f5, v.owes, v.paid, v.taken, v.done⟩
def upd (S : Nat → V4) (j : Nat) (v : V4) : Nat → V4 := fun i => if i = j then v else S i
def iniV (cv : Nat → Int) (i : Nat) : V4 := ⟨cv i, 0, 0, 0⟩
def thereB (d : SDe) (v : V4) (day : Int) : Bool := if d.f1 ≤ day then v.done == 0 else false
def payV (v : V4) (left day : Int) : Int × V4 := (wrap64 (left - mn left v.owes), ⟨wrap64 (v.owes - mn left v.owes), wrap64 (v.paid + mn left v.owes), v.taken, if wrap64 (v.owes - mn left v.owes) = 0 then day else v.done⟩)
def namedV (d : SDe) (dsc : Int) (v : V4) (left day : Int) : Int × V4 := ((named5 dsc d.f1 d.f4 v.owes v.paid v.taken v.done left day).1, ⟨(named5 dsc d.f1 d.f4 v.owes v.paid v.taken v.done left day).2.1, (named5 dsc d.f1 d.f4 v.owes v.paid v.taken v.done left day).2.2.1, (named5 dsc d.f1 d.f4 v.owes v.paid v.taken v.done left day).2.2.2.1, (named5 dsc d.f1 d.f4 v.owes v.paid v.taken v.done left day).2.2.2.2⟩)
def nmD (l0 : List SDe) (i : Nat) : ByteArray := (rdD l0 i).f0
def stepN (l0 : List SDe) (dsc : Nat → Int → Int) (day : Int) (o : Option Nat) (s : Int × (Nat → V4)) : Int × (Nat → V4) := match o with
  | none => s
  | some j => if thereB (rdD l0 j) (s.2 j) day = true then ((namedV (rdD l0 j) (dsc j (s.2 j).owes) (s.2 j) s.1 day).1, upd s.2 j (namedV (rdD l0 j) (dsc j (s.2 j).owes) (s.2 j) s.1 day).2) else s
def runN (l0 : List SDe) (dsc : Nat → Int → Int) (day : Int) (nm : Nat → ByteArray) (s : Int × (Nat → V4)) : Nat → Int × (Nat → V4)
  | 0 => s
  | k + 1 => stepN l0 dsc day (lastIx (nmD l0) (nm k) l0.length) (runN l0 dsc day nm s k)
def stepO (l0 : List SDe) (day : Int) (j : Nat) (s : Int × (Nat → V4)) : Int × (Nat → V4) :=
  if s.1 > 0 ∧ thereB (rdD l0 j) (s.2 j) day = true then ((payV (s.2 j) s.1 day).1, upd s.2 j (payV (s.2 j) s.1 day).2) else s
def runO (l0 : List SDe) (day : Int) (od : List Nat) (s : Int × (Nat → V4)) : Nat → Int × (Nat → V4)
  | 0 => s
  | k + 1 => stepO l0 day (od.getD k 0) (runO l0 day od s k)
def oneP (l0 : List SDe) (dsc : Nat → Int → Int) (od : List Nat) (p : SPa) (pc : Int) (S : Nat → V4) : Int × (Nat → V4) :=
  runO l0 p.f0 od (runN l0 dsc p.f0 (fun k => rdOf ByteArray.empty p.f2 k) (pc, S) p.f2.length) od.length
def runP (l0 : List SDe) (cv : Nat → Int) (dsc : Nat → Int → Int) (od : List Nat) (l1 : List SPa) (pc : Nat → Int) : Nat → (Nat → V4) × List Int
  | 0 => (iniV cv, [])
  | i + 1 => ((oneP l0 dsc od (rdA l1 i) (pc i) (runP l0 cv dsc od l1 pc i).1).2, (runP l0 cv dsc od l1 pc i).2 ++ [(oneP l0 dsc od (rdA l1 i) (pc i) (runP l0 cv dsc od l1 pc i).1).1])
def encI (n : Int) : Value := .int .i64 n
def ptrV (gs : List Nat) (o : Option Nat) : Value := match o with
  | none => .pointer none
  | some j => encP (gs.getD j 0)
structure Laid2 (w wr : World) (l0 : List SDe) (v vo vr : Value) (gs : List Nat) (D : DataW Unit) (od : List Nat) (S : Nat → V4) (rest : List Int) : Prop where
  len : gs.length = l0.length
  odl : od.length = l0.length
  odb : ∀ j ∈ od, j < l0.length
  obj : ∀ j g, gs[j]? = some g → wr.heap[g]? = some (mkD l0 j (S j)).obj
  nd : gs.Nodup
  big : ∀ g ∈ gs, w.heap.size < g
  row : wr.ownsRow w.heap.size 58 1 v l0.length (gs.map encP)
  ord : wr.ownsRow w.heap.size 58 1 vo l0.length (od.map fun j => encP (gs.getD j 0))
  rst : wr.ownsRow w.heap.size 3 1 vr rest.length (rest.map encI)
  map : wr.ownsMap Tryd.prog 9 ptrElem w.heap.size l0.length D
  key : ∀ s : ByteArray, D.atKey (.string s.data.toList) (.lit (.int .i64 (-1))) = ptrAt gs (lastIx (nmD l0) s l0.length)
  bel : Below w.heap.size w wr
theorem own_obj {W : World} {base : Nat} {e : TypeId} {size : Nat} {v : Value} {k : Nat} {xs : List Value} (h : W.ownsRow base e size v k xs) {j : Nat} (hj : some j = v.ownBlock) : ∃ cur, W.heap[j]? = some (.cells cur e (0, 0)) ∧ base ≤ j := by
  rcases h.2 with ⟨rfl, _⟩ | ⟨g, cap, cur, rfl, hg, hb, _⟩
  · cases hj
  · obtain rfl := Option.some.inj hj
    exact ⟨cur, hb, hg⟩
theorem Laid2.keep {w wr w3 : World} {l0 : List SDe} {v vo vr : Value} {gs : List Nat} {D : DataW Unit} {od : List Nat} {S : Nat → V4} {rest : List Int} (L : Laid2 w wr l0 v vo vr gs D od S rest) (hb : Below wr.heap.size wr w3) : Laid2 w w3 l0 v vo vr gs D od S rest :=
  ⟨L.len, L.odl, L.odb, fun j g h => blk_below (L.obj j g h) hb, L.nd, L.big, row_keep L.row fun j hj => hb.block j (row_lt L.row hj), row_keep L.ord fun j hj => hb.block j (row_lt L.ord hj), row_keep L.rst fun j hj => hb.block j (row_lt L.rst hj), L.map.kept (grown_of_below hb) (by simp), L.key, L.bel.trans (hb.mono L.bel.size)⟩
theorem Laid2.put {w wr w3 : World} {l0 : List SDe} {v vo vr : Value} {gs : List Nat} {D : DataW Unit} {od : List Nat} {S : Nat → V4} {rest : List Int} (L : Laid2 w wr l0 v vo vr gs D od S rest) {j g : Nat} (hj : gs[j]? = some g) {v' : V4} (hk : KeepBut wr w3 g none)
    (hg : w3.heap[g]? = some (mkD l0 j v').obj) (hb : Below w.heap.size w w3) : Laid2 w w3 l0 v vo vr gs D od (upd S j v') rest := by
  have hG := L.obj j g hj
  have hkeep : ∀ i o, wr.heap[i]? = some o → i ≠ g → w3.heap[i]? = some o := fun i o h hne => (hk.2 i (blk_lt h) hne (by simp)).trans h
  have hrow : ∀ {v : Value} {n : Nat} {xs : List Value} {e : TypeId}, wr.ownsRow w.heap.size e 1 v n xs → e ≠ 60 → w3.ownsRow w.heap.size e 1 v n xs := fun h he => row_keep h fun i hi => by
    obtain ⟨cur, hc, _⟩ := own_obj h hi
    refine (hk.2 i (blk_lt hc) (fun e1 => ?_) (by simp))
    rw [e1, hG] at hc
    have h2 := Option.some.inj hc
    unfold DS.obj at h2
    injection h2 with _ h3 _
    exact he h3.symm
  obtain ⟨es, ck, hmb, hmr⟩ := L.map
  refine ⟨L.len, L.odl, L.odb, ?_, L.nd, L.big, hrow L.row (by decide), hrow L.ord (by decide), hrow L.rst (by decide), ⟨es, ck, hkeep _ _ hmb (fun e => ?_), hmr⟩, L.key, hb⟩
  · intro i g' h
    unfold upd
    by_cases hij : i = j
    · subst hij
      obtain rfl := Option.some.inj (h.symm.trans hj)
      rw [if_pos rfl]
      exact hg
    · rw [if_neg hij]
      refine hkeep _ _ (L.obj i g' h) fun e => hij ?_
      subst e
      have h1 := (List.getElem?_eq_some_iff.1 h)
      have h2 := (List.getElem?_eq_some_iff.1 hj)
      obtain ⟨a1, a2⟩ := h1
      obtain ⟨b1, b2⟩ := h2
      exact (List.getElem_inj L.nd).1 (a2.trans b2.symm)
  · rw [e, hG] at hmb
    cases Option.some.inj hmb
theorem Laid2.push {w wr w4 : World} {l0 : List SDe} {v vo vr vr' : Value} {gs : List Nat} {D : DataW Unit} {od : List Nat} {S : Nat → V4} {rest : List Int} {x : Int} (L : Laid2 w wr l0 v vo vr gs D od S rest)
    (hown : w4.ownsRow w.heap.size 3 1 vr' (rest.length + 1) (rest.map encI ++ [encI x])) (hg : wr.grownBy w4 vr.ownBlock) (hb : Below w.heap.size w w4) : Laid2 w w4 l0 v vo vr' gs D od S (rest ++ [x]) := by
  have hkeep : ∀ (i : Nat) (o : Obj), wr.heap[i]? = some o → (∀ cur, o ≠ .cells cur 3 (0, 0)) → w4.heap[i]? = some o := fun i o h hne => (hg.block i (blk_lt h) (row_ne L.rst h hne)).trans h
  have hrow : ∀ {v : Value} {n : Nat} {xs : List Value}, wr.ownsRow w.heap.size 58 1 v n xs → w4.ownsRow w.heap.size 58 1 v n xs := fun h => row_keep h fun i hi => by
    obtain ⟨cur, hc, _⟩ := own_obj h hi
    rw [hkeep i _ hc (by intro cur e; injection e with _ e2 _; exact absurd e2 (by decide)), hc]
  obtain ⟨es, ck, hmb, hmr⟩ := L.map
  refine ⟨L.len, L.odl, L.odb, fun j g h => hkeep _ _ (L.obj j g h) (by intro cur e; injection e with _ e2 _; exact absurd e2 (by decide)), L.nd, L.big, hrow L.row, hrow L.ord, by simpa using hown, ⟨es, ck, hkeep _ _ hmb (by intro cur e; cases e), hmr⟩, L.key, hb⟩
set_option maxRecDepth 1000000 in
theorem Laid2.look {w wr : World} {l0 : List SDe} {v vo vr : Value} {gs : List Nat} {D : DataW Unit} {od : List Nat} {S : Nat → V4} {rest : List Int} (L : Laid2 w wr l0 v vo vr gs D od S rest) (s : ByteArray) (hs : s.size ≤ maxLen) :
    (Instr.lookup 71 (.map (some w.heap.size)) (.string s) false).run Tryd.prog wr = .ok (ptrV gs (lastIx (nmD l0) s l0.length)) wr := by
  obtain ⟨u, ps, hrun, hu⟩ := L.map.lookup law9 Tryd.underlying71 (zero58 wr) (zd := .lit (.int .i64 (-1))) (zp := []) rfl (WideMaps.keyOf_string_mk (P := Tryd.prog) Tryd.underlying9 hs)
  rw [hrun]
  rw [L.key s] at hu
  congr 1
  rcases ptrElem_inv hu with ⟨rfl, h2⟩ | ⟨g, rfl, h2⟩
  · cases hx : lastIx (nmD l0) s l0.length with
    | none => rfl
    | some j =>
      rw [hx] at h2
      simp only [ptrAt] at h2
      injection h2 with h3
      injection h3 with _ h4
      omega
  · cases hx : lastIx (nmD l0) s l0.length with
    | none =>
      rw [hx] at h2
      simp only [ptrAt] at h2
      injection h2 with h3
      injection h3 with _ h4
      omega
    | some j =>
      rw [hx] at h2
      simp only [ptrAt] at h2
      injection h2 with h3
      injection h3 with _ h4
      simp only [ptrV]
      congr 1
      omega
theorem upd_self (S : Nat → V4) (j : Nat) : upd S j (S j) = S := by
  funext i
  unfold upd
  split
  · subst_vars; rfl
  · rfl
/-- .. and the copy of the payment beside them -/
structure Laid3 (w wr : World) (l0 : List SDe) (v vo vr : Value) (gs : List Nat) (D : DataW Unit) (od : List Nat) (S : Nat → V4) (rest : List Int) (gb : Nat) (pb : Array Value) : Prop where
  two : Laid2 w wr l0 v vo vr gs D od S rest
  box : wr.heap[gb]? = some (.cells pb 35 (0, 0))
section
variable {w wr : World} {l0 : List SDe} {v vo vr : Value} {gs : List Nat} {D : DataW Unit} {od : List Nat} {S : Nat → V4} {rest : List Int} {gb : Nat} {pb : Array Value}
theorem Laid3.put {w3 : World} (L : Laid3 w wr l0 v vo vr gs D od S rest gb pb) {j g : Nat} (hj : gs[j]? = some g) {v' : V4} (hk : KeepBut wr w3 g none)
    (hg : w3.heap[g]? = some (mkD l0 j v').obj) (hb : Below w.heap.size w w3) : Laid3 w w3 l0 v vo vr gs D od (upd S j v') rest gb pb :=
  ⟨L.two.put hj hk hg hb, (hk.2 gb (blk_lt L.box) (fun e => by
    have hG := L.two.obj j g hj
    rw [← e, L.box] at hG
    have h2 := Option.some.inj hG
    unfold DS.obj at h2
    injection h2 with _ h3 _
    exact absurd h3 (by decide)) (by simp)).trans L.box⟩
theorem Laid3.keep {w3 : World} (L : Laid3 w wr l0 v vo vr gs D od S rest gb pb) (hb : Below wr.heap.size wr w3) : Laid3 w w3 l0 v vo vr gs D od S rest gb pb := ⟨L.two.keep hb, blk_below L.box hb⟩
theorem Laid3.is60 (L : Laid3 w wr l0 v vo vr gs D od S rest gb pb) {j g : Nat} (hj : gs[j]? = some g) : IsS60 w wr g (rdD l0 j).f0 (rdD l0 j).f1 (rdD l0 j).f2.f0 (rdD l0 j).f2.f1 (rdD l0 j).f3 (rdD l0 j).f4 (rdD l0 j).f5 (S j).owes (S j).paid (S j).taken (S j).done :=
  ⟨L.two.obj j g hj, Nat.le_of_lt (L.two.big g (List.mem_of_getElem? hj))⟩
theorem there3 (L : Laid3 w wr l0 v vo vr gs D od S rest gb pb) {j g : Nat} (hj : gs[j]? = some g) (day : Int) :
    Calls Tryd.prog 20 #[.pointer (some ⟨g, 0, none⟩), .int .i64 day] wr fun e w' => e = .returned (.bool (thereB (rdD l0 j) (S j) day)) ∧ Laid3 w w' l0 v vo vr gs D od S rest gb pb := by
  have hf : bill_debt_there.f (rdD l0 j).f0 (rdD l0 j).f1 (rdD l0 j).f2.f0 (rdD l0 j).f2.f1 (rdD l0 j).f3 (rdD l0 j).f4 (rdD l0 j).f5 (S j).owes (S j).paid (S j).taken (S j).done day = some (thereB (rdD l0 j) (S j) day, (rdD l0 j).f0, (rdD l0 j).f1, (rdD l0 j).f2.f0, (rdD l0 j).f2.f1, (rdD l0 j).f3, (rdD l0 j).f4, (rdD l0 j).f5, (S j).owes, (S j).paid, (S j).taken, (S j).done) := by
    unfold bill_debt_there.f thereB
    split <;> rfl
  refine (bill_debt_there.calls g _ _ _ _ _ _ _ _ _ _ _ day _ _ _ _ _ _ _ _ _ _ _ _ w wr (L.is60 hj) L.two.bel hf).mono ?_
  rintro e w' ⟨rfl, hI, hB, hK⟩
  have h2 := L.put hj (v' := S j) hK hI.1 hB
  rw [upd_self] at h2
  exact ⟨rfl, h2⟩
theorem pay3 (L : Laid3 w wr l0 v vo vr gs D od S rest gb pb) {j g : Nat} (hj : gs[j]? = some g) (left day : Int) :
    Calls Tryd.prog 31 #[.pointer (some ⟨g, 0, none⟩), .int .i64 left, .int .i64 day] wr fun e w' => e = .returned (.int .i64 (payV (S j) left day).1) ∧ Laid3 w w' l0 v vo vr gs D od (upd S j (payV (S j) left day).2) rest gb pb := by
  refine (pay_calls g _ _ _ _ _ _ _ _ _ _ _ left day w wr (L.is60 hj) L.two.bel).mono ?_
  rintro e w' ⟨rfl, hI, hB, hK⟩
  exact ⟨rfl, L.put hj (v' := (payV (S j) left day).2) hK hI.1 hB⟩
theorem named3 (k : Nat) (L : Laid3 w wr l0 v vo vr gs D od S rest gb pb) {j g : Nat} (hj : gs[j]? = some g) (left day dsc : Int)
    (hd : bill_debt_discount.f k (rdD l0 j).f0 (rdD l0 j).f1 (rdD l0 j).f2.f0 (rdD l0 j).f2.f1 (rdD l0 j).f3 (rdD l0 j).f4 (rdD l0 j).f5 (S j).owes (S j).paid (S j).taken (S j).done = some (dsc, (rdD l0 j).f0, (rdD l0 j).f1, (rdD l0 j).f2.f0, (rdD l0 j).f2.f1, (rdD l0 j).f3, (rdD l0 j).f4, (rdD l0 j).f5, (S j).owes, (S j).paid, (S j).taken, (S j).done)) :
    Calls Tryd.prog 30 #[.pointer (some ⟨g, 0, none⟩), .int .i64 left, .int .i64 day] wr fun e w' => e = .returned (.int .i64 (namedV (rdD l0 j) dsc (S j) left day).1) ∧ Laid3 w w' l0 v vo vr gs D od (upd S j (namedV (rdD l0 j) dsc (S j) left day).2) rest gb pb := by
  refine (named_calls k g _ _ _ _ _ _ _ _ _ _ _ left day dsc w wr (L.is60 hj) L.two.bel hd).mono ?_
  rintro e w' ⟨rfl, hI, hB, hK⟩
  exact ⟨rfl, L.put hj (v' := (namedV (rdD l0 j) dsc (S j) left day).2) hK hI.1 hB⟩
end
theorem ptr_eql (g : Nat) (w : World) : Sem.run Tryd.prog (binOp BinOp.neq 58 (.pointer (some ⟨g, 0, none⟩)) (.pointer none)) w = .ok (.bool true) w := by kernel_rfl
theorem ptr_eql0 (w : World) : Sem.run Tryd.prog (binOp BinOp.neq 58 (.pointer none) (.pointer none)) w = .ok (.bool false) w := by kernel_rfl
theorem ordA_length (ls : Nat → Int) : ∀ n, (ordA ls n).length = n
  | 0 => rfl
  | m + 1 => by
    unfold ordA
    rw [List.length_map, Array.length_toList, stableA_size, Array.size_ofFn]
theorem ordA_lt (ls : Nat → Int) : ∀ n, ∀ j ∈ ordA ls n, j < n
  | 0, j, h => by cases h
  | m + 1, j, h => by
    unfold ordA at h
    obtain ⟨x, _, rfl⟩ := List.mem_map.1 h
    exact x.2
theorem Laid2.start {w wr w1 w2 : World} {l0 : List SDe} {cv : Nat → Int} {v vo : Value} {gs : List Nat} {D : DataW Unit} {od : List Nat} (L : Laid1 w wr w.heap.size (fun i => (rdD l0 i).f0) (iniD l0 cv) l0.length v gs D) (hb : Below wr.heap.size wr w1)
    (ho : w2.ownsRow wr.heap.size 58 1 vo l0.length (od.map fun j => encP (gs.getD j 0))) (hs : w1.grownBy w2 vo.ownBlock) (h1 : od.length = l0.length) (h2 : ∀ j ∈ od, j < l0.length) : Laid2 w w2 l0 v vo (.slice none 0 0) gs D od (iniV cv) [] := by
  have hk : Below wr.heap.size wr w2 := hb.grown hs hb.size fun b e => (own_obj ho e.symm).choose_spec.2
  have L2 := L.keep hk
  refine ⟨L2.len, h1, h2, L2.obj, L2.nd, L2.big, L2.row, ⟨ho.1, ?_⟩, ⟨rfl, .inl ⟨rfl, rfl⟩⟩, L2.map, L2.key, L2.bel⟩
  rcases ho.2 with h | ⟨g, cap, cur, e, hg, h⟩
  · exact .inl h
  · exact .inr ⟨g, cap, cur, e, Nat.le_trans L.bel.size hg, h⟩
theorem cb4 {w : World} {g : Nat} {t : TypeId} {v0 v1 v2 v3 : Value} (h : w.heap[g]? = some (.cells #[v0, v1, v2, v3] t (0, 0))) : w.cell? ⟨g, 0, none⟩ = some v0 ∧ w.cell? ⟨g, 1, none⟩ = some v1 ∧ w.cell? ⟨g, 2, none⟩ = some v2 ∧ w.cell? ⟨g, 3, none⟩ = some v3 :=
  ⟨(blk_cell h 0).trans rfl, (blk_cell h 1).trans rfl, (blk_cell h 2).trans rfl, (blk_cell h 3).trans rfl⟩
theorem own_slice {W : World} {base : Nat} {e : TypeId} {size : Nat} {v : Value} {k : Nat} {xs : List Value} (h : W.ownsRow base e size v k xs) : ∃ a c, v = .slice a k c := by
  rcases h.2 with ⟨rfl, rfl⟩ | ⟨g, cap, cur, rfl, _⟩
  · exact ⟨_, _, rfl⟩
  · exact ⟨_, _, rfl⟩
theorem own_cell {W : World} {base : Nat} {e : TypeId} {a : Option Addr} {c k : Nat} {xs : List Value} (h : W.ownsRow base e 1 (.slice a k c) k xs) (j : Nat) (hj : j < k) : ∃ ad, a = some ad ∧ W.cell? (ad.add j) = xs[j]? := by
  rcases h.2 with ⟨e1, rfl⟩ | ⟨g, cap, cur, e1, hg, hb, h3⟩
  · omega
  · injection e1 with e2 _ e3
    subst e2
    subst e3
    refine ⟨⟨g, 0, none⟩, rfl, ?_⟩
    have e4 : (⟨g, 0, none⟩ : Addr).add j = ⟨g, j, none⟩ := by
      unfold Addr.add
      by_cases hj : j = 0 <;> simp [hj]
    rw [e4]
    exact World.ownsRow.cellAt h j (by omega)
theorem Laid2.ordAt {w wr : World} {l0 : List SDe} {v vr : Value} {ao : Option Addr} {co : Nat} {gs : List Nat} {D : DataW Unit} {od : List Nat} {S : Nat → V4} {rest : List Int} (L : Laid2 w wr l0 v (.slice ao l0.length co) vr gs D od S rest) (k : Nat) (hk : k < l0.length) :
    ∃ ad, ao = some ad ∧ wr.cell? (ad.add k) = some (.pointer (some ⟨gs.getD (od.getD k 0) 0, 0, none⟩)) ∧ od.getD k 0 < l0.length ∧ gs[od.getD k 0]? = some (gs.getD (od.getD k 0) 0) := by
  obtain ⟨ad, e, hc⟩ := own_cell L.ord k hk
  have hk2 : k < od.length := by rw [L.odl]; exact hk
  have ho : od[k]? = some (od.getD k 0) := by
    rw [List.getD_eq_getElem?_getD, List.getElem?_eq_getElem hk2]
    rfl
  have hlt := L.odb _ (List.mem_of_getElem? ho)
  refine ⟨ad, e, ?_, hlt, ?_⟩
  · rw [hc, List.getElem?_map, ho]
    rfl
  · generalize od.getD k 0 = j at hlt
    rw [List.getD_eq_getElem?_getD, List.getElem?_eq_getElem (by rw [L.len]; exact hlt)]
    rfl
theorem runP_length (l0 : List SDe) (cv : Nat → Int) (dsc : Nat → Int → Int) (od : List Nat) (l1 : List SPa) (pc : Nat → Int) : ∀ i, (runP l0 cv dsc od l1 pc i).2.length = i
  | 0 => rfl
  | i + 1 => by
    unfold runP
    rw [List.length_append, runP_length l0 cv dsc od l1 pc i]
    rfl
theorem infoI : (Tryd.prog.info? 3).map (fun i => (i.zero, i.size, i.bytes)) = some (some (.int .i64 0), 1, 8) := by kernel_rfl
end Go.Proofs.YtaihfoihlbileaaDoor.R4
