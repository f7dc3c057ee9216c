import Derived.Maps.Own
import Derived.Maps.OwnOps
import Derived.Maps.OwnSet
import Derived.Maps.Views
import Derived.Deep.RegionHeldLaw
import Derived.Laws.StructEq
import Derived.Deep.DeepCutAuto
import Derived.Test.YtaihfoihlbileaaGreatDoorF6f
set_option maxHeartbeats 8000000
set_option maxRecDepth 1000000
set_option linter.unusedVariables false
set_option linter.unusedSimpArgs false
namespace Go.Proofs.YtaihfoihlbileaaGreatDoor.R6
open Go Go.Proofs Go.RowKit Go.Maps Go.Proofs.YtaihfoihlbileaaGreatDoorW.PrintWords Go.Proofs.YtaihfoihlbileaaGreatDoorW.PrintLast Go.Proofs.YtaihfoihlbileaaGreatDoorW.PrintMore
abbrev SDe := S53
abbrev rdD := yx
def ptrElem (v : Value) : Option (DataW Unit × List MemPlace) := match v with
 | .pointer none => some (.lit (.int .i64 (-1)), [])
 | .pointer (some ⟨g, 0, none⟩) => some (.lit (.int .i64 (g : Int)), [])
 | _ => none
theorem ptrElem_inv {v : Value} {z : DataW Unit × List MemPlace} (h : ptrElem v = some z) : (v = .pointer none ∧ z.1 = .lit (.int .i64 (-1))) ∨ ∃ g : Nat, v = encP g ∧ z.1 = .lit (.int .i64 (g : Int)) := by
 unfold ptrElem at h
 split at h
 ·obtain rfl := Option.some.inj h
  exact Or.inl ⟨rfl, rfl⟩
 ·rename_i g
  obtain rfl := Option.some.inj h
  exact Or.inr ⟨g, rfl, rfl⟩
 ·cases h
def vL (nm : Nat → ByteArray) (s : ByteArray) : Nat → Option Nat
 | 0 => none
 | k + 1 => if (nm k).data.toList = s.data.toList then some k else vL nm s k
def ptrAt (gs : List Nat) (o : Option Nat) : DataW Unit := match o with
 | none => .lit (.int .i64 (-1))
 | some j => .lit (.int .i64 ((gs.getD j 0 : Nat) : Int))
def iniD (l0 : List SDe) (cv : Nat → Int) (i : Nat) : DS := ⟨(rdD l0 i).f0, (rdD l0 i).f1, (rdD l0 i).f2.f0, (rdD l0 i).f2.f1, (rdD l0 i).f3, (rdD l0 i).f4, (rdD l0 i).f5, cv i, 0, 0, 0⟩
theorem uT {nm : Nat → ByteArray} {s : ByteArray} : ∀ {k j : Nat}, vL nm s k = some j → j < k
 | 0, _, h => by cases h
 | k + 1, j, h => by
  unfold vL at h
  split at h
  ·obtain rfl := Option.some.inj h
   omega
  ·have := uT h
   omega
theorem law9 : Keyed Tryz.prog 9 := string_keyed Tryz.underlying9
theorem zero58 (w : World) : (zeroValue 60).run Tryz.prog w = .ok (.pointer none) w := by kernel_rfl
structure Laid1 (w wr : World) (B : Nat) (nm : Nat → ByteArray) (X : Nat → DS) (n : Nat) (v : Value) (gs : List Nat) (D : DataW Unit) : Prop where
 len : gs.length = n
 obj : ∀ j g, gs[j]? = some g → wr.heap[g]? = some (X j).obj
 nd : gs.Nodup
 big : ∀ g ∈ gs, B < g
 row : wr.ownsRow w.heap.size 60 1 v n (gs.map encP)
 map : wr.ownsMap Tryz.prog 9 ptrElem B n D
 key : ∀ s : ByteArray, D.atKey (.string s.data.toList) (.lit (.int .i64 (-1))) = ptrAt gs (vL nm s n)
 bel : Below w.heap.size w wr
 nil : n = 0 → v = .slice none 0 0
theorem keep7 {w1 W W' : World} {g : Nat} {v0 v1 v2 v3 v4 v5 v6 : Value} (h : W.cell? ⟨g, 0, none⟩ = some v0 ∧ W.cell? ⟨g, 1, none⟩ = some v1 ∧ W.cell? ⟨g, 2, none⟩ = some v2 ∧ W.cell? ⟨g, 3, none⟩ = some v3 ∧ W.cell? ⟨g, 4, none⟩ = some v4 ∧ W.cell? ⟨g, 5, none⟩ = some v5 ∧ W.cell? ⟨g, 6, none⟩ = some v6 ∧ Below w1.heap.size w1 W) (hb : Below W.heap.size W W') : W'.cell? ⟨g, 0, none⟩ = some v0 ∧ W'.cell? ⟨g, 1, none⟩ = some v1 ∧ W'.cell? ⟨g, 2, none⟩ = some v2 ∧ W'.cell? ⟨g, 3, none⟩ = some v3 ∧ W'.cell? ⟨g, 4, none⟩ = some v4 ∧ W'.cell? ⟨g, 5, none⟩ = some v5 ∧ W'.cell? ⟨g, 6, none⟩ = some v6 ∧ Below w1.heap.size w1 W' := by
 obtain ⟨h0, h1, h2, h3, h4, h5, h6, h7⟩ := h
 exact ⟨(hb.cell (World.block_lt_of_cell? W _ h0)).trans h0, (hb.cell (World.block_lt_of_cell? W _ h1)).trans h1, (hb.cell (World.block_lt_of_cell? W _ h2)).trans h2, (hb.cell (World.block_lt_of_cell? W _ h3)).trans h3, (hb.cell (World.block_lt_of_cell? W _ h4)).trans h4, (hb.cell (World.block_lt_of_cell? W _ h5)).trans h5, (hb.cell (World.block_lt_of_cell? W _ h6)).trans h6, h7.trans (hb.mono h7.size)⟩
theorem cz7 {w : World} {g : Nat} {t : TypeId} {v0 v1 v2 v3 v4 v5 v6 : Value} (h : w.heap[g]? = some (.cells #[v0, v1, v2, v3, v4, v5, v6] t (0, 0))) : w.cell? ⟨g, 0, none⟩ = some v0 ∧ w.cell? ⟨g, 1, none⟩ = some v1 ∧ w.cell? ⟨g, 2, none⟩ = some v2 ∧ w.cell? ⟨g, 3, none⟩ = some v3 ∧ w.cell? ⟨g, 4, none⟩ = some v4 ∧ w.cell? ⟨g, 5, none⟩ = some v5 ∧ w.cell? ⟨g, 6, none⟩ = some v6 :=
 ⟨(zD h 0).trans rfl, (zD h 1).trans rfl, (zD h 2).trans rfl, (zD h 3).trans rfl, (zD h 4).trans rfl, (zD h 5).trans rfl, (zD h 6).trans rfl⟩
theorem uH {W : World} {base : Nat} {e : TypeId} {size : Nat} {v : Value} {k : Nat} {xs : List Value} (h : W.ownsRow base e size v k xs) {j : Nat} {o : Obj} (hj : W.heap[j]? = some o) (hno : ∀ cur, o ≠ .cells cur e (0, 0)) : some j ≠ v.ownBlock := by
 intro e1
 rcases h.2 with ⟨rfl, _⟩ | ⟨g, cap, cur, rfl, _, hb, _⟩
 ·cases e1
 ·obtain rfl := Option.some.inj e1
  exact hno cur (Option.some.inj (hj.symm.trans hb))
theorem yS {W W' : World} {base : Nat} {e : TypeId} {size : Nat} {v : Value} {k : Nat} {xs : List Value} (h : W.ownsRow base e size v k xs) (hg : ∀ j, some j = v.ownBlock → W'.heap[j]? = W.heap[j]?) : W'.ownsRow base e size v k xs := by
 refine ⟨h.1, ?_⟩
 rcases h.2 with h1 | ⟨g, cap, cur, rfl, h2, hb, h3⟩
 ·exact .inl h1
 ·exact .inr ⟨g, cap, cur, rfl, h2, (hg g rfl).trans hb, h3⟩
theorem row_lt {W : World} {base : Nat} {e : TypeId} {size : Nat} {v : Value} {k : Nat} {xs : List Value} (h : W.ownsRow base e size v k xs) {j : Nat} (hj : some j = v.ownBlock) : j < W.heap.size := by
 rcases h.2 with ⟨rfl, _⟩ | ⟨g, cap, cur, rfl, _, hb, _⟩
 ·cases hj
 ·obtain rfl := Option.some.inj hj
  exact xW hb
theorem yB {w w' : World} (h : Below w.heap.size w w') : w.grownBy w' none := ⟨h.os, h.tape, h.output, h.size, fun k hk _ => h.block k hk⟩
theorem news1 (w : World) (x : Value) (t : TypeId) : ∀ (j : Nat) (u : Value), [x][j]? = some u → (w.alloc (.cells #[x] t (0, 0))).cell? ((⟨w.heap.size, 0, none⟩ : Addr).add j) = some u := by
 intro j u hu
 cases j with
 | zero => exact (zD (xM w _) 0).trans hu
 | succ j => simp at hu
theorem Laid1.keep {w wr w3 : World} {B : Nat} {nm : Nat → ByteArray} {X : Nat → DS} {n : Nat} {v : Value} {gs : List Nat} {D : DataW Unit} (L : Laid1 w wr B nm X n v gs D) (hb : Below wr.heap.size wr w3) : Laid1 w w3 B nm X n v gs D :=
 ⟨L.len, fun j g h => qC (L.obj j g h) hb, L.nd, L.big, yS L.row fun j hj => hb.block j (row_lt L.row hj), L.map.kept (yB hb) (by simp), L.key, L.bel.trans (hb.mono L.bel.size), L.nil⟩
theorem Laid1.push {w wr w4 w5 : World} {nm : Nat → ByteArray} {X : Nat → DS} {n : Nat} {v v' : Value} {gs : List Nat} {D : DataW Unit} {g2 : Nat} (L : Laid1 w wr w.heap.size nm X n v gs D) (hG : wr.heap[g2]? = some (X n).obj) (hfresh : ∀ g ∈ gs, g ≠ g2) (hbig : w.heap.size < g2)
  (hown : w4.ownsRow w.heap.size 60 1 v' (n + 1) (gs.map encP ++ [encP g2])) (hg4 : wr.grownBy w4 v.ownBlock) (hmap : w5.ownsMap Tryz.prog 9 ptrElem w.heap.size (n + 1) (D.put (.string (nm n).data.toList) (.lit (.int .i64 g2)))) (hg5 : w4.grownBy w5 (some w.heap.size)) :
  Laid1 w w5 w.heap.size nm X (n + 1) v' (gs ++ [g2]) (D.put (.string (nm n).data.toList) (.lit (.int .i64 g2))) := by
 have step : ∀ g j, wr.heap[g]? = some (X j).obj → w.heap.size < g → w5.heap[g]? = some (X j).obj := by
  intro g j h hlt
  have h4 : w4.heap[g]? = some (X j).obj := (hg4.block g (xW h) (uH L.row h (by intro cur e; injection e with _ e2 _; exact absurd e2 (by decide)))).trans h
  exact (hg5.block g (xW h4) (by intro e; have := Option.some.inj e; omega)).trans h4
 obtain ⟨es, ck, hmb, _⟩ := L.map
 have hmw : wr.heap.size ≤ w4.heap.size := hg4.size
 refine ⟨by simp [L.len], ?_, ?_, ?_, ?_, hmap, ?_, ?_, fun e => absurd e (Nat.succ_ne_zero n)⟩
 ·intro j g h
  rcases Nat.lt_or_ge j gs.length with hj | hj
  ·rw [List.getElem?_append_left hj] at h
   exact step g j (L.obj j g h) (L.big g (List.mem_of_getElem? h))
  ·rw [List.getElem?_append_right hj] at h
   have hj0 : j - gs.length = 0 := by
    cases hx : j - gs.length with
    | zero => rfl
    | succ m => rw [hx] at h; simp at h
   rw [hj0] at h
   obtain rfl := Option.some.inj h
   have hjn : j = n := by have := L.len; omega
   subst hjn
   exact step _ _ hG hbig
 ·rw [List.nodup_append]
  exact ⟨L.nd, by simp, fun a ha b hb => by simp at hb; subst hb; exact hfresh a ha⟩
 ·intro g hg
  rcases List.mem_append.1 hg with h | h
  ·exact L.big g h
  ·simp at h; omega
 ·rw [List.map_append]
  refine yS hown fun j hj => hg5.block j (row_lt hown hj) fun e => ?_
  have h4 : w4.heap[w.heap.size]? = some (.map es ck) := (hg4.block _ (xW hmb) (uH L.row hmb (by intro cur e; cases e))).trans hmb
  exact uH hown h4 (by intro cur e; cases e) (e ▸ hj)
 ·intro s
  have hk := L.key s
  by_cases hs : s.data.toList = (nm n).data.toList
  ·rw [hs, Maps.atKey_put_same L.map.isMap (by exact trivial)]
   rw [show vL nm s (n + 1) = if (nm n).data.toList = s.data.toList then some n else vL nm s n from rfl, if_pos hs.symm]
   simp only [ptrAt]
   rw [← L.len]
   simp
  ·rw [Maps.atKey_put_other (by intro e; injection e with e; exact hs e), hk]
   rw [show vL nm s (n + 1) = if (nm n).data.toList = s.data.toList then some n else vL nm s n from rfl, if_neg (fun e => hs e.symm)]
   cases hl : vL nm s n with
   | none => rfl
   | some j =>
    have hj : j < n := uT hl
    simp only [ptrAt]
    rw [List.getD_eq_getElem?_getD, List.getD_eq_getElem?_getD, List.getElem?_append_left (by rw [L.len]; exact hj)]
 ·refine (L.bel.grown hg4 L.bel.size ?_).grown hg5 (Nat.le_trans L.bel.size hmw) ?_
  ·intro b hb
   rcases L.row.2 with ⟨rfl, _⟩ | ⟨g, cap, cur, rfl, hge, _⟩
   ·cases hb
   ·obtain rfl := Option.some.inj hb
    exact hge
  ·intro b hb
   obtain rfl := Option.some.inj hb
   exact Nat.le_refl _
abbrev SPa := S72
abbrev rdA := zY
structure V4 where
 owes : Int
 paid : Int
 taken : Int
 done : Int
def mkD (l0 : List SDe) (i : Nat) (v : V4) : DS := ⟨(rdD l0 i).f0, (rdD l0 i).f1, (rdD l0 i).f2.f0, (rdD l0 i).f2.f1, (rdD l0 i).f3, (rdD l0 i).f4, (rdD l0 i).f5, v.owes, v.paid, v.taken, v.done⟩
def upd (S : Nat → V4) (j : Nat) (v : V4) : Nat → V4 := fun i => if i = j then v else S i
def iniV (cv : Nat → Int) (i : Nat) : V4 := ⟨cv i, 0, 0, 0⟩
def yj (d : SDe) (v : V4) (day : Int) : Bool := if d.f1 ≤ day then v.done == 0 else false
def payV (v : V4) (left day : Int) : Int × V4 := (wrap64 (left - mn left v.owes), ⟨wrap64 (v.owes - mn left v.owes), wrap64 (v.paid + mn left v.owes), v.taken, if wrap64 (v.owes - mn left v.owes) = 0 then day else v.done⟩)
def yQ (d : SDe) (dsc : Int) (v : V4) (left day : Int) : Int × V4 := ((uQ dsc d.f1 d.f4 v.owes v.paid v.taken v.done left day).1, ⟨(uQ dsc d.f1 d.f4 v.owes v.paid v.taken v.done left day).2.1, (uQ dsc d.f1 d.f4 v.owes v.paid v.taken v.done left day).2.2.1, (uQ dsc d.f1 d.f4 v.owes v.paid v.taken v.done left day).2.2.2.1, (uQ dsc d.f1 d.f4 v.owes v.paid v.taken v.done left day).2.2.2.2⟩)
def nmD (l0 : List SDe) (i : Nat) : ByteArray := (rdD l0 i).f0
def stepN (l0 : List SDe) (dsc : Nat → Int → Int) (day : Int) (o : Option Nat) (s : Int × (Nat → V4)) : Int × (Nat → V4) := match o with
 | none => s
 | some j => if yj (rdD l0 j) (s.2 j) day = true then ((yQ (rdD l0 j) (dsc j (s.2 j).owes) (s.2 j) s.1 day).1, upd s.2 j (yQ (rdD l0 j) (dsc j (s.2 j).owes) (s.2 j) s.1 day).2) else s
def runN (l0 : List SDe) (dsc : Nat → Int → Int) (day : Int) (nm : Nat → ByteArray) (s : Int × (Nat → V4)) : Nat → Int × (Nat → V4)
 | 0 => s
 | k + 1 => stepN l0 dsc day (vL (nmD l0) (nm k) l0.length) (runN l0 dsc day nm s k)
def stepO (l0 : List SDe) (day : Int) (j : Nat) (s : Int × (Nat → V4)) : Int × (Nat → V4) :=
 if s.1 > 0 ∧ yj (rdD l0 j) (s.2 j) day = true then ((payV (s.2 j) s.1 day).1, upd s.2 j (payV (s.2 j) s.1 day).2) else s
def runO (l0 : List SDe) (day : Int) (od : List Nat) (s : Int × (Nat → V4)) : Nat → Int × (Nat → V4)
 | 0 => s
 | k + 1 => stepO l0 day (od.getD k 0) (runO l0 day od s k)
def oneP (l0 : List SDe) (dsc : Nat → Int → Int) (od : List Nat) (p : SPa) (pc : Int) (S : Nat → V4) : Int × (Nat → V4) :=
 runO l0 p.f0 od (runN l0 dsc p.f0 (fun k => rdOf ByteArray.empty p.f2 k) (pc, S) p.f2.length) od.length
def runP (l0 : List SDe) (cv : Nat → Int) (dsc : Nat → Int → Int) (od : List Nat) (l1 : List SPa) (pc : Nat → Int) : Nat → (Nat → V4) × List Int
 | 0 => (iniV cv, [])
 | i + 1 => ((oneP l0 dsc od (rdA l1 i) (pc i) (runP l0 cv dsc od l1 pc i).1).2, (runP l0 cv dsc od l1 pc i).2 ++ [(oneP l0 dsc od (rdA l1 i) (pc i) (runP l0 cv dsc od l1 pc i).1).1])
def encI (n : Int) : Value := .int .i64 n
def ptrV (gs : List Nat) (o : Option Nat) : Value := match o with
 | none => .pointer none
 | some j => encP (gs.getD j 0)
structure Laid2 (w wr : World) (l0 : List SDe) (v vo vr : Value) (gs : List Nat) (D : DataW Unit) (od : List Nat) (S : Nat → V4) (rest : List Int) : Prop where
 len : gs.length = l0.length
 odl : od.length = l0.length
 odb : ∀ j ∈ od, j < l0.length
 obj : ∀ j g, gs[j]? = some g → wr.heap[g]? = some (mkD l0 j (S j)).obj
 nd : gs.Nodup
 big : ∀ g ∈ gs, w.heap.size < g
 row : wr.ownsRow w.heap.size 60 1 v l0.length (gs.map encP)
 ord : wr.ownsRow w.heap.size 60 1 vo l0.length (od.map fun j => encP (gs.getD j 0))
 rst : wr.ownsRow w.heap.size 3 1 vr rest.length (rest.map encI)
 map : wr.ownsMap Tryz.prog 9 ptrElem w.heap.size l0.length D
 key : ∀ s : ByteArray, D.atKey (.string s.data.toList) (.lit (.int .i64 (-1))) = ptrAt gs (vL (nmD l0) s l0.length)
 bel : Below w.heap.size w wr
theorem vT {W : World} {base : Nat} {e : TypeId} {size : Nat} {v : Value} {k : Nat} {xs : List Value} (h : W.ownsRow base e size v k xs) {j : Nat} (hj : some j = v.ownBlock) : ∃ cur, W.heap[j]? = some (.cells cur e (0, 0)) ∧ base ≤ j := by
 rcases h.2 with ⟨rfl, _⟩ | ⟨g, cap, cur, rfl, hg, hb, _⟩
 ·cases hj
 ·obtain rfl := Option.some.inj hj
  exact ⟨cur, hb, hg⟩
theorem Laid2.keep {w wr w3 : World} {l0 : List SDe} {v vo vr : Value} {gs : List Nat} {D : DataW Unit} {od : List Nat} {S : Nat → V4} {rest : List Int} (L : Laid2 w wr l0 v vo vr gs D od S rest) (hb : Below wr.heap.size wr w3) : Laid2 w w3 l0 v vo vr gs D od S rest :=
 ⟨L.len, L.odl, L.odb, fun j g h => qC (L.obj j g h) hb, L.nd, L.big, yS L.row fun j hj => hb.block j (row_lt L.row hj), yS L.ord fun j hj => hb.block j (row_lt L.ord hj), yS L.rst fun j hj => hb.block j (row_lt L.rst hj), L.map.kept (yB hb) (by simp), L.key, L.bel.trans (hb.mono L.bel.size)⟩
theorem Laid2.put {w wr w3 : World} {l0 : List SDe} {v vo vr : Value} {gs : List Nat} {D : DataW Unit} {od : List Nat} {S : Nat → V4} {rest : List Int} (L : Laid2 w wr l0 v vo vr gs D od S rest) {j g : Nat} (hj : gs[j]? = some g) {v' : V4} (hk : jB wr w3 g none)
  (hg : w3.heap[g]? = some (mkD l0 j v').obj) (hb : Below w.heap.size w w3) : Laid2 w w3 l0 v vo vr gs D od (upd S j v') rest := by
 have hG := L.obj j g hj
 have hkeep : ∀ i o, wr.heap[i]? = some o → i ≠ g → w3.heap[i]? = some o := fun i o h hne => (hk.2 i (xW h) hne (by simp)).trans h
 have hrow : ∀ {v : Value} {n : Nat} {xs : List Value} {e : TypeId}, wr.ownsRow w.heap.size e 1 v n xs → e ≠ 62 → w3.ownsRow w.heap.size e 1 v n xs := fun h he => yS h fun i hi => by
  obtain ⟨cur, hc, _⟩ := vT h hi
  refine (hk.2 i (xW hc) (fun e1 => ?_) (by simp))
  rw [e1, hG] at hc
  have h2 := Option.some.inj hc
  unfold DS.obj at h2
  injection h2 with _ h3 _
  exact he h3.symm
 obtain ⟨es, ck, hmb, hmr⟩ := L.map
 refine ⟨L.len, L.odl, L.odb, ?_, L.nd, L.big, hrow L.row (by decide), hrow L.ord (by decide), hrow L.rst (by decide), ⟨es, ck, hkeep _ _ hmb (fun e => ?_), hmr⟩, L.key, hb⟩
 ·intro i g' h
  unfold upd
  by_cases hij : i = j
  ·subst hij
   obtain rfl := Option.some.inj (h.symm.trans hj)
   rw [if_pos rfl]
   exact hg
  ·rw [if_neg hij]
   refine hkeep _ _ (L.obj i g' h) fun e => hij ?_
   subst e
   have h1 := (List.getElem?_eq_some_iff.1 h)
   have h2 := (List.getElem?_eq_some_iff.1 hj)
   obtain ⟨a1, a2⟩ := h1
   obtain ⟨b1, b2⟩ := h2
   exact (List.getElem_inj L.nd).1 (a2.trans b2.symm)
 ·rw [e, hG] at hmb
  cases Option.some.inj hmb
theorem Laid2.push {w wr w4 : World} {l0 : List SDe} {v vo vr vr' : Value} {gs : List Nat} {D : DataW Unit} {od : List Nat} {S : Nat → V4} {rest : List Int} {x : Int} (L : Laid2 w wr l0 v vo vr gs D od S rest)
  (hown : w4.ownsRow w.heap.size 3 1 vr' (rest.length + 1) (rest.map encI ++ [encI x])) (hg : wr.grownBy w4 vr.ownBlock) (hb : Below w.heap.size w w4) : Laid2 w w4 l0 v vo vr' gs D od S (rest ++ [x]) := by
 have hkeep : ∀ (i : Nat) (o : Obj), wr.heap[i]? = some o → (∀ cur, o ≠ .cells cur 3 (0, 0)) → w4.heap[i]? = some o := fun i o h hne => (hg.block i (xW h) (uH L.rst h hne)).trans h
 have hrow : ∀ {v : Value} {n : Nat} {xs : List Value}, wr.ownsRow w.heap.size 60 1 v n xs → w4.ownsRow w.heap.size 60 1 v n xs := fun h => yS h fun i hi => by
  obtain ⟨cur, hc, _⟩ := vT h hi
  rw [hkeep i _ hc (by intro cur e; injection e with _ e2 _; exact absurd e2 (by decide)), hc]
 obtain ⟨es, ck, hmb, hmr⟩ := L.map
 refine ⟨L.len, L.odl, L.odb, fun j g h => hkeep _ _ (L.obj j g h) (by intro cur e; injection e with _ e2 _; exact absurd e2 (by decide)), L.nd, L.big, hrow L.row, hrow L.ord, by simpa using hown, ⟨es, ck, hkeep _ _ hmb (by intro cur e; cases e), hmr⟩, L.key, hb⟩
theorem Laid2.look {w wr : World} {l0 : List SDe} {v vo vr : Value} {gs : List Nat} {D : DataW Unit} {od : List Nat} {S : Nat → V4} {rest : List Int} (L : Laid2 w wr l0 v vo vr gs D od S rest) (s : ByteArray) (hs : s.size ≤ maxLen) :
  (Instr.lookup 81 (.map (some w.heap.size)) (.string s) false).run Tryz.prog wr = .ok (ptrV gs (vL (nmD l0) s l0.length)) wr := by
 obtain ⟨u, ps, hrun, hu⟩ := L.map.lookup law9 Tryz.underlying81 (zero58 wr) (zd := .lit (.int .i64 (-1))) (zp := []) rfl (WideMaps.keyOf_string_mk (P := Tryz.prog) Tryz.underlying9 hs)
 rw [hrun]
 rw [L.key s] at hu
 congr 1
 rcases ptrElem_inv hu with ⟨rfl, h2⟩ | ⟨g, rfl, h2⟩
 ·cases hx : vL (nmD l0) s l0.length with
  | none => rfl
  | some j =>
   rw [hx] at h2
   simp only [ptrAt] at h2
   injection h2 with h3
   injection h3 with _ h4
   omega
 ·cases hx : vL (nmD l0) s l0.length with
  | none =>
   rw [hx] at h2
   simp only [ptrAt] at h2
   injection h2 with h3
   injection h3 with _ h4
   omega
  | some j =>
   rw [hx] at h2
   simp only [ptrAt] at h2
   injection h2 with h3
   injection h3 with _ h4
   simp only [ptrV]
   congr 1
   omega
theorem upd_self (S : Nat → V4) (j : Nat) : upd S j (S j) = S := by
 funext i
 unfold upd
 split
 ·subst_vars; rfl
 ·rfl
structure Laid3 (w wr : World) (l0 : List SDe) (v vo vr : Value) (gs : List Nat) (D : DataW Unit) (od : List Nat) (S : Nat → V4) (rest : List Int) (gb : Nat) (pb : Array Value) : Prop where
 two : Laid2 w wr l0 v vo vr gs D od S rest
 box : wr.heap[gb]? = some (.cells pb 72 (0, 0))
section
variable {w wr : World} {l0 : List SDe} {v vo vr : Value} {gs : List Nat} {D : DataW Unit} {od : List Nat} {S : Nat → V4} {rest : List Int} {gb : Nat} {pb : Array Value}
theorem Laid3.put {w3 : World} (L : Laid3 w wr l0 v vo vr gs D od S rest gb pb) {j g : Nat} (hj : gs[j]? = some g) {v' : V4} (hk : jB wr w3 g none)
  (hg : w3.heap[g]? = some (mkD l0 j v').obj) (hb : Below w.heap.size w w3) : Laid3 w w3 l0 v vo vr gs D od (upd S j v') rest gb pb :=
 ⟨L.two.put hj hk hg hb, (hk.2 gb (xW L.box) (fun e => by
  have hG := L.two.obj j g hj
  rw [← e, L.box] at hG
  have h2 := Option.some.inj hG
  unfold DS.obj at h2
  injection h2 with _ h3 _
  exact absurd h3 (by decide)) (by simp)).trans L.box⟩
theorem Laid3.keep {w3 : World} (L : Laid3 w wr l0 v vo vr gs D od S rest gb pb) (hb : Below wr.heap.size wr w3) : Laid3 w w3 l0 v vo vr gs D od S rest gb pb := ⟨L.two.keep hb, qC L.box hb⟩
theorem Laid3.is60 (L : Laid3 w wr l0 v vo vr gs D od S rest gb pb) {j g : Nat} (hj : gs[j]? = some g) : IsS62 w wr g (rdD l0 j).f0 (rdD l0 j).f1 (rdD l0 j).f2.f0 (rdD l0 j).f2.f1 (rdD l0 j).f3 (rdD l0 j).f4 (rdD l0 j).f5 (S j).owes (S j).paid (S j).taken (S j).done :=
 ⟨L.two.obj j g hj, Nat.le_of_lt (L.two.big g (List.mem_of_getElem? hj))⟩
theorem there3 (L : Laid3 w wr l0 v vo vr gs D od S rest gb pb) {j g : Nat} (hj : gs[j]? = some g) (day : Int) :
  Calls Tryz.prog 37 #[.pointer (some ⟨g, 0, none⟩), .int .i64 day] wr fun e w' => e = .returned (.bool (yj (rdD l0 j) (S j) day)) ∧ Laid3 w w' l0 v vo vr gs D od S rest gb pb := by
 have hf : vM.f (rdD l0 j).f0 (rdD l0 j).f1 (rdD l0 j).f2.f0 (rdD l0 j).f2.f1 (rdD l0 j).f3 (rdD l0 j).f4 (rdD l0 j).f5 (S j).owes (S j).paid (S j).taken (S j).done day = some (yj (rdD l0 j) (S j) day, (rdD l0 j).f0, (rdD l0 j).f1, (rdD l0 j).f2.f0, (rdD l0 j).f2.f1, (rdD l0 j).f3, (rdD l0 j).f4, (rdD l0 j).f5, (S j).owes, (S j).paid, (S j).taken, (S j).done) := by
  unfold vM.f yj
  split <;> rfl
 refine (vM.calls g _ _ _ _ _ _ _ _ _ _ _ day _ _ _ _ _ _ _ _ _ _ _ _ w wr (L.is60 hj) L.two.bel hf).mono ?_
 rintro e w' ⟨rfl, hI, hB, hK⟩
 have h2 := L.put hj (v' := S j) hK hI.1 hB
 rw [upd_self] at h2
 exact ⟨rfl, h2⟩
theorem pay3 (L : Laid3 w wr l0 v vo vr gs D od S rest gb pb) {j g : Nat} (hj : gs[j]? = some g) (left day : Int) :
  Calls Tryz.prog 49 #[.pointer (some ⟨g, 0, none⟩), .int .i64 left, .int .i64 day] wr fun e w' => e = .returned (.int .i64 (payV (S j) left day).1) ∧ Laid3 w w' l0 v vo vr gs D od (upd S j (payV (S j) left day).2) rest gb pb := by
 refine (pay_calls g _ _ _ _ _ _ _ _ _ _ _ left day w wr (L.is60 hj) L.two.bel).mono ?_
 rintro e w' ⟨rfl, hI, hB, hK⟩
 exact ⟨rfl, L.put hj (v' := (payV (S j) left day).2) hK hI.1 hB⟩
theorem named3 (k : Nat) (L : Laid3 w wr l0 v vo vr gs D od S rest gb pb) {j g : Nat} (hj : gs[j]? = some g) (left day dsc : Int)
  (hd : jq.f k (rdD l0 j).f0 (rdD l0 j).f1 (rdD l0 j).f2.f0 (rdD l0 j).f2.f1 (rdD l0 j).f3 (rdD l0 j).f4 (rdD l0 j).f5 (S j).owes (S j).paid (S j).taken (S j).done = some (dsc, (rdD l0 j).f0, (rdD l0 j).f1, (rdD l0 j).f2.f0, (rdD l0 j).f2.f1, (rdD l0 j).f3, (rdD l0 j).f4, (rdD l0 j).f5, (S j).owes, (S j).paid, (S j).taken, (S j).done)) :
  Calls Tryz.prog 48 #[.pointer (some ⟨g, 0, none⟩), .int .i64 left, .int .i64 day] wr fun e w' => e = .returned (.int .i64 (yQ (rdD l0 j) dsc (S j) left day).1) ∧ Laid3 w w' l0 v vo vr gs D od (upd S j (yQ (rdD l0 j) dsc (S j) left day).2) rest gb pb := by
 refine (named_calls k g _ _ _ _ _ _ _ _ _ _ _ left day dsc w wr (L.is60 hj) L.two.bel hd).mono ?_
 rintro e w' ⟨rfl, hI, hB, hK⟩
 exact ⟨rfl, L.put hj (v' := (yQ (rdD l0 j) dsc (S j) left day).2) hK hI.1 hB⟩
end
theorem ptr_eql (g : Nat) (w : World) : Sem.run Tryz.prog (binOp BinOp.neq 60 (.pointer (some ⟨g, 0, none⟩)) (.pointer none)) w = .ok (.bool true) w := by kernel_rfl
theorem ptr_eql0 (w : World) : Sem.run Tryz.prog (binOp BinOp.neq 60 (.pointer none) (.pointer none)) w = .ok (.bool false) w := by kernel_rfl
theorem ordA_length (ls : Nat → Int) : ∀ n, (ordA ls n).length = n
 | 0 => rfl
 | m + 1 => by
  unfold ordA
  rw [List.length_map, Array.length_toList, stableA_size, Array.size_ofFn]
theorem ordA_lt (ls : Nat → Int) : ∀ n, ∀ j ∈ ordA ls n, j < n
 | 0, j, h => by cases h
 | m + 1, j, h => by
  unfold ordA at h
  obtain ⟨x, _, rfl⟩ := List.mem_map.1 h
  exact x.2
theorem Laid2.start {w wr w1 w2 : World} {l0 : List SDe} {cv : Nat → Int} {v vo : Value} {gs : List Nat} {D : DataW Unit} {od : List Nat} (L : Laid1 w wr w.heap.size (fun i => (rdD l0 i).f0) (iniD l0 cv) l0.length v gs D) (hb : Below wr.heap.size wr w1)
  (ho : w2.ownsRow wr.heap.size 60 1 vo l0.length (od.map fun j => encP (gs.getD j 0))) (hs : w1.grownBy w2 vo.ownBlock) (h1 : od.length = l0.length) (h2 : ∀ j ∈ od, j < l0.length) : Laid2 w w2 l0 v vo (.slice none 0 0) gs D od (iniV cv) [] := by
 have hk : Below wr.heap.size wr w2 := hb.grown hs hb.size fun b e => (vT ho e.symm).choose_spec.2
 have L2 := L.keep hk
 refine ⟨L2.len, h1, h2, L2.obj, L2.nd, L2.big, L2.row, ⟨ho.1, ?_⟩, ⟨rfl, .inl ⟨rfl, rfl⟩⟩, L2.map, L2.key, L2.bel⟩
 rcases ho.2 with h | ⟨g, cap, cur, e, hg, h⟩
 ·exact .inl h
 ·exact .inr ⟨g, cap, cur, e, Nat.le_trans L.bel.size hg, h⟩
theorem cb4 {w : World} {g : Nat} {t : TypeId} {v0 v1 v2 v3 : Value} (h : w.heap[g]? = some (.cells #[v0, v1, v2, v3] t (0, 0))) : w.cell? ⟨g, 0, none⟩ = some v0 ∧ w.cell? ⟨g, 1, none⟩ = some v1 ∧ w.cell? ⟨g, 2, none⟩ = some v2 ∧ w.cell? ⟨g, 3, none⟩ = some v3 :=
 ⟨(zD h 0).trans rfl, (zD h 1).trans rfl, (zD h 2).trans rfl, (zD h 3).trans rfl⟩
theorem own_slice {W : World} {base : Nat} {e : TypeId} {size : Nat} {v : Value} {k : Nat} {xs : List Value} (h : W.ownsRow base e size v k xs) : ∃ a c, v = .slice a k c := by
 rcases h.2 with ⟨rfl, rfl⟩ | ⟨g, cap, cur, rfl, _⟩
 ·exact ⟨_, _, rfl⟩
 ·exact ⟨_, _, rfl⟩
theorem own_cell {W : World} {base : Nat} {e : TypeId} {a : Option Addr} {c k : Nat} {xs : List Value} (h : W.ownsRow base e 1 (.slice a k c) k xs) (j : Nat) (hj : j < k) : ∃ ad, a = some ad ∧ W.cell? (ad.add j) = xs[j]? := by
 rcases h.2 with ⟨e1, rfl⟩ | ⟨g, cap, cur, e1, hg, hb, h3⟩
 ·omega
 ·injection e1 with e2 _ e3
  subst e2
  subst e3
  refine ⟨⟨g, 0, none⟩, rfl, ?_⟩
  have e4 : (⟨g, 0, none⟩ : Addr).add j = ⟨g, j, none⟩ := by
   unfold Addr.add
   by_cases hj : j = 0 <;> simp [hj]
  rw [e4]
  exact World.ownsRow.cellAt h j (by omega)
theorem Laid2.ordAt {w wr : World} {l0 : List SDe} {v vr : Value} {ao : Option Addr} {co : Nat} {gs : List Nat} {D : DataW Unit} {od : List Nat} {S : Nat → V4} {rest : List Int} (L : Laid2 w wr l0 v (.slice ao l0.length co) vr gs D od S rest) (k : Nat) (hk : k < l0.length) :
  ∃ ad, ao = some ad ∧ wr.cell? (ad.add k) = some (.pointer (some ⟨gs.getD (od.getD k 0) 0, 0, none⟩)) ∧ od.getD k 0 < l0.length ∧ gs[od.getD k 0]? = some (gs.getD (od.getD k 0) 0) := by
 obtain ⟨ad, e, hc⟩ := own_cell L.ord k hk
 have hk2 : k < od.length := by rw [L.odl]; exact hk
 have ho : od[k]? = some (od.getD k 0) := by
  rw [List.getD_eq_getElem?_getD, List.getElem?_eq_getElem hk2]
  rfl
 have hlt := L.odb _ (List.mem_of_getElem? ho)
 refine ⟨ad, e, ?_, hlt, ?_⟩
 ·rw [hc, List.getElem?_map, ho]
  rfl
 ·generalize od.getD k 0 = j at hlt
  rw [List.getD_eq_getElem?_getD, List.getElem?_eq_getElem (by rw [L.len]; exact hlt)]
  rfl
theorem kJ (l0 : List SDe) (cv : Nat → Int) (dsc : Nat → Int → Int) (od : List Nat) (l1 : List SPa) (pc : Nat → Int) : ∀ i, (runP l0 cv dsc od l1 pc i).2.length = i
 | 0 => rfl
 | i + 1 => by
  unfold runP
  rw [List.length_append, kJ l0 cv dsc od l1 pc i]
  rfl
theorem infoI : (Tryz.prog.info? 3).map (fun i => (i.zero, i.size, i.bytes)) = some (some (.int .i64 0), 1, 8) := by kernel_rfl
def sameN (a b : ByteArray) : Bool := a.toList == b.toList
theorem pred_calls (d : SDe) (g : Nat) (a : ByteArray) (W : World) (hg : W.cell? ⟨g, 0, none⟩ = some (.string a)) :
  Calls Tryz.prog 31 #[.agg #[.string d.f0, .int .i64 d.f1, .int .i64 d.f2.f0, .int .i64 d.f2.f1, .int .i64 d.f3, .int .i64 d.f4, .int .i64 d.f5], .pointer (some ⟨g, 0, none⟩)] W fun e w' => e = .returned (.bool (sameN d.f0 a)) ∧ Below W.heap.size W w' := by
 have hlt := World.block_lt_of_cell? W _ hg
 go_enter Tryz.func31, Tryz.ntmps31
 have hg2 : (W.alloc (.cells #[.string d.f0, .int .i64 d.f1, .int .i64 d.f2.f0, .int .i64 d.f2.f1, .int .i64 d.f3, .int .i64 d.f4, .int .i64 d.f5] 53)).cell? ⟨g, 0, none⟩ = some (.string a) := (World.cell?_alloc_lt (h := hlt) ..).trans hg
 go_wp2
 go_ret
 exact ⟨rfl, (Below.refl _ _).alloc (Nat.le_refl _) _⟩
def twB (l0 : List SDe) (i : Nat) : Bool := (l0.take i).any fun o => sameN o.f0 (rdD l0 i).f0
theorem idx_calls (A : Option Addr) (c : Nat) (l : List SDe) (w : World) (g : Nat) (a : ByteArray) (hr : Kd.C k53 w A l.length l) (hlen : l.length ≤ 200) (hg : w.cell? ⟨g, 0, none⟩ = some (.string a)) :
  Calls Tryz.prog 54 #[.slice A l.length c, .func (.func 31) #[] #[.pointer (some ⟨g, 0, none⟩)]] w fun e w' => (∃ r : Int, e = .returned (.int .i64 r) ∧ decide (0 ≤ r) = l.any fun o => sameN o.f0 a) ∧ Below w.heap.size w w' := by
 have HR := zQ.mk hr
 have hlt := World.block_lt_of_cell? w _ hg
 go_enter Tryz.func54, Tryz.ntmps54
 go_wp2
 go_loopg [8] l.length (fun gg s8 wr => ∃ kk : Nat, kk ≤ l.length ∧ l.length - kk ≤ gg ∧ s8 = .int .i64 (kk : Int) ∧ Hid (Below w.heap.size w wr) ∧ Hid (∀ j : Nat, j < kk → sameN (rdD l j).f0 a = false))
 case atStart => exact ⟨0, Nat.zero_le _, by omega, rfl, Below.refl _ _, (show ∀ j : Nat, j < 0 → _ from fun j hj => absurd hj (Nat.not_lt_zero _))⟩
 case round =>
  obtain ⟨kk, hkk, hgg, rfl, HBL, HA⟩ := hrel
  by_cases hlt2 : kk < l.length
  ·have hltz : (kk : Int) < (l.length : Int) := by omega
   obtain ⟨ad, e0, hx0, hx1, hx2, hx3, hx4, hx5, hx6⟩ := uN HR.out (kk : Int) (by omega) hltz
   cases e0
   simp only [Int.toNat_natCast] at hx0 hx1 hx2 hx3 hx4 hx5 hx6
   have HB : zQ (Below w.heap.size w wr) := ⟨HBL.out⟩
   replace hx0 := hz HB hx0
   replace hx1 := hz HB hx1
   replace hx2 := hz HB hx2
   replace hx3 := hz HB hx3
   replace hx4 := hz HB hx4
   replace hx5 := hz HB hx5
   replace hx6 := hz HB hx6
   have hcall := pred_calls (yx l kk) g a wr ((HBL.out.cell hlt).trans hg)
   cases hq : sameN (yx l kk).f0 a with
   | true =>
    rw [hq] at hcall
    have HQ : Hid (sameN (rdD l kk).f0 a = true) := hq
    clear hq
    go_wp2_with (go_at_call 31; (with_reducible refine hcall.mono ?_); rintro e w' ⟨rfl, hb⟩)
    go_ret
    refine ⟨⟨(kk : Int), rfl, ?_⟩, HBL.out.trans (hb.mono HBL.out.size)⟩
    rw [decide_eq_true (show (0 : Int) ≤ (kk : Int) by omega)]
    symm
    rw [List.any_eq_true]
    refine ⟨rdD l kk, ?_, HQ.out⟩
    show l.getD (kk : Int).toNat z53 ∈ l
    rw [Int.toNat_natCast, List.getD_eq_getElem?_getD, List.getElem?_eq_getElem hlt2]
    exact List.getElem_mem hlt2
   | false =>
    rw [hq] at hcall
    have HQ : Hid (sameN (rdD l kk).f0 a = false) := hq
    clear hq
    go_wp2_with (go_at_call 31; (with_reducible refine hcall.mono ?_); rintro e w' ⟨rfl, hb⟩)
    go_roundg (l.length - (kk + 1))
    case measure => omega
    case rel =>
     refine ⟨kk + 1, by omega, by omega, by first | rfl | (congr 1; omega), HBL.out.trans (hb.mono HBL.out.size), ?_⟩
     show ∀ j : Nat, j < kk + 1 → _
     intro j hj
     by_cases e : j = kk
     ·subst e
      exact HQ.out
     ·exact HA.out j (by omega)
  ·have hltz : ¬ (kk : Int) < (l.length : Int) := by omega
   have hkl : kk = l.length := by omega
   go_wp2
   go_ret
   refine ⟨⟨-1, rfl, ?_⟩, HBL.out⟩
   symm
   rw [show decide ((0 : Int) ≤ -1) = false from rfl, List.any_eq_false]
   intro x hx
   obtain ⟨j, hj, rfl⟩ := List.getElem_of_mem hx
   have h2 := HA.out j (by omega)
   have h3 : rdD l j = l[j] := by
    show l.getD (j : Int).toNat z53 = _
    rw [Int.toNat_natCast, List.getD_eq_getElem?_getD, List.getElem?_eq_getElem hj]
    rfl
   rw [← h3, h2]
   simp
theorem cont_calls (A : Option Addr) (c : Nat) (l : List SDe) (w : World) (g : Nat) (a : ByteArray) (hr : Kd.C k53 w A l.length l) (hlen : l.length ≤ 200) (hg : w.cell? ⟨g, 0, none⟩ = some (.string a)) :
  Calls Tryz.prog 30 #[.slice A l.length c, .func (.func 31) #[] #[.pointer (some ⟨g, 0, none⟩)]] w fun e w' => e = .returned (.bool (l.any fun o => sameN o.f0 a)) ∧ Below w.heap.size w w' := by
 have HI := idx_calls A c l w g a hr hlen hg
 clear hr hg
 go_enter Tryz.func30, Tryz.ntmps30
 go_wp2_with (go_at_call 54; (with_reducible refine HI.mono ?_); rintro e w' ⟨⟨r, rfl, hr⟩, hb⟩)
 go_ret
 exact ⟨by rw [← hr]; rfl, hb⟩
theorem cut44 (A : Option Addr) (n c j : Nat) (hj : j ≤ n) (hc : n ≤ c) (W : World) : (Instr.slice 22 (.slice A n c) none (some (.int .i64 (j : Int))) none).run Tryz.prog W = .ok (.slice A j c) W := by
 obtain ⟨i0, hi, _⟩ := Option.map_eq_some_iff.1 info53
 have ht := Tryz.underlying22
 have hel : Tryz.prog.elem 22 = 53 := by simp [Program.elem, ht]
 have hu : Tryz.prog.underlying 22 = some (.slice (Tryz.prog.elem 22)) := by rw [hel]; exact ht
 have ha : (A.map fun x => x.add 0) = A := by cases A <;> simp [Addr.add]
 rw [run_slice_h W 22 A n c hu .i64 (j : Int) (by omega) (by omega), hel]
 simp [sizeOf, typeInfo, hi, sliced, Result.andThen, ha]
def dayB (d : Int) : Bool := decide (1 ≤ d) && decide (d ≤ 3652059)
def outB (d : SDe) : Bool := (decide (d.f3 < 0) || decide (d.f3 > 10000)) || (decide (d.f4 < 0) || decide (d.f4 > d.f3)) || (decide (d.f5 < 0) || decide (d.f5 > 1000))
def dF (l0 : List SDe) (nb : Nat → Bool) (mf : Nat → Int) (i : Nat) : Int :=
 if nb i = false then 5 else if twB l0 i = true then 7 else if dayB (rdD l0 i).f1 = false then 1 else if 0 < i ∧ (rdD l0 i).f1 < (rdD l0 ((i - 1 : Nat) : Int)).f1 then 8 else if mf i ≠ 0 then mf i else if outB (rdD l0 i) = true then 1 else 0
def FirstF (f : Nat → Int) (n : Nat) (r : Int) : Prop := (r = 0 ∧ ∀ i, i < n → f i = 0) ∨ ∃ i, i < n ∧ (∀ j, j < i → f j = 0) ∧ f i = r ∧ r ≠ 0
def ChkD (l0 : List SDe) (nb : Nat → Bool) (mf : Nat → Int) (r : Int) : Prop := if l0.length > 200 then r = 2 else FirstF (dF l0 nb mf) l0.length r
theorem uJ (a b c : Int) : jw.f a b c = some (decide (a < b) || decide (a > c)) := by
 unfold jw.f
 by_cases h : a < b
 ·rw [if_pos h, decide_eq_true h]
  rfl
 ·rw [if_neg h, decide_eq_false h]
  rfl
theorem isDay_eq (a : Int) : vC.f a = some (dayB a) := by
 unfold vC.f
 rw [uJ]
 show some (!(decide (a < 1) || decide (a > 3652059))) = _
 unfold dayB
 congr 1
 by_cases h1 : a < 1 <;> by_cases h2 : a > 3652059 <;> simp [h1, h2] <;> omega
theorem kY {l0 : List SDe} {nb : Nat → Bool} {mf : Nat → Int} {i : Nat} {r : Int} (hb : ¬ 200 < l0.length) (hi : i < l0.length) (hz : ∀ j, j < i → dF l0 nb mf j = 0) (h : dF l0 nb mf i = r) (hr : r ≠ 0) : ChkD l0 nb mf r := by
 unfold ChkD
 rw [if_neg hb]
 exact .inr ⟨i, hi, hz, h, hr⟩
theorem debts_calls (k : Nat) (A0 : Option Addr) (c0 : Nat) (l0 : List SDe) (nb : Nat → Bool) (mf : Nat → Int) (w : World) (hr0 : Kd.C k53 w A0 l0.length l0) (hc0 : l0.length ≤ c0)
  (hnb : ∀ i : Nat, i < l0.length → jH.f (rdD l0 i).f0 = some (nb i)) (hmf : ∀ i : Nat, i < l0.length → qY.f k (rdD l0 i).f2.f0 (rdD l0 i).f2.f1 = some (mf i)) :
  Calls Tryz.prog 8 #[.slice A0 l0.length c0] w fun e w' => ∃ r : Int, e = .returned (.int .i64 r) ∧ ChkD l0 nb mf r ∧ Below w.heap.size w w' := by
 have HR0 := zQ.mk hr0
 have HNB : Aside _ := hnb
 have HMF : Aside _ := hmf
 clear hnb hmf hr0
 go_enter Tryz.func8, Tryz.ntmps8
 by_cases hbig : 200 < l0.length
 ·have hbigz : (200 : Int) < (l0.length : Int) := by omega
  go_wp2
  go_ret
  exact ⟨2, rfl, by unfold ChkD; rw [if_pos hbig], Below.refl _ _⟩
 ·have hbigz : ¬ (200 : Int) < (l0.length : Int) := by omega
  go_wp2_with fail
  go_loopg [11] l0.length (fun g1 vi wr => ∃ i : Nat, vi = .int .i64 i ∧ i ≤ l0.length ∧ l0.length - i ≤ g1 ∧ Hid (∀ j : Nat, j < i → dF l0 nb mf j = 0) ∧ Hid (Below w.heap.size w wr))
  case atStart => exact ⟨0, rfl, Nat.zero_le _, Nat.le_refl _, (show ∀ j : Nat, j < 0 → _ from fun j hj => absurd hj (Nat.not_lt_zero _)), Below.refl _ _⟩
  case round =>
   obtain ⟨i, rfl, hi, hg1, HZ, HBL⟩ := hrel
   by_cases hlt : i < l0.length
   ·have hltz : (i : Int) < (l0.length : Int) := by omega
    obtain ⟨ad, e0, hx0, hx1, hx2, hx3, hx4, hx5, hx6⟩ := uN HR0.out (i : Int) (by omega) hltz
    cases e0
    simp only [Int.toNat_natCast] at hx0 hx1 hx2 hx3 hx4 hx5 hx6
    obtain ⟨d, hd⟩ : ∃ d, d = yx l0 i := ⟨_, rfl⟩
    rw [← hd] at hx0 hx1 hx2 hx3 hx4 hx5 hx6
    have HD : Hid (rdD l0 i = d) := hd.symm
    have hnm := HNB.out i hlt
    have hmo := HMF.out i hlt
    rw [show rdD l0 i = d from hd.symm] at hnm hmo
    clear hd
    have HB : zQ (Below w.heap.size w wr) := ⟨HBL.out⟩
    replace hx0 := hz HB hx0
    replace hx1 := hz HB hx1
    replace hx2 := hz HB hx2
    replace hx3 := hz HB hx3
    replace hx4 := hz HB hx4
    replace hx5 := hz HB hx5
    replace hx6 := hz HB hx6
    go_upto_region 6 with fail
    have BK4 : Hid ((wr.alloc (.cells #[.string d.f0, .int .i64 d.f1, .int .i64 d.f2.f0, .int .i64 d.f2.f1, .int .i64 d.f3, .int .i64 d.f4, .int .i64 d.f5] 53 (0, 0))).heap[wr.heap.size]? = some (.cells #[.string d.f0, .int .i64 d.f1, .int .i64 d.f2.f0, .int .i64 d.f2.f1, .int .i64 d.f3, .int .i64 d.f4, .int .i64 d.f5] 53 (0, 0))) := xM wr (.cells #[.string d.f0, .int .i64 d.f1, .int .i64 d.f2.f0, .int .i64 d.f2.f1, .int .i64 d.f3, .int .i64 d.f4, .int .i64 d.f5] 53 (0, 0))
    have HB4 : Hid (Below w.heap.size w (wr.alloc (.cells #[.string d.f0, .int .i64 d.f1, .int .i64 d.f2.f0, .int .i64 d.f2.f1, .int .i64 d.f3, .int .i64 d.f4, .int .i64 d.f5] 53 (0, 0)))) := HBL.out.alloc HBL.out.size _
    have HGB : Hid (w.heap.size ≤ wr.heap.size) := HBL.out.size
    generalize wr.heap.size = gb at BK4 HGB ⊢
    generalize wr.alloc _ = w3 at BK4 HB4 ⊢
    clear hx0 hx1 hx2 hx3 hx4 hx5 hx6 HB
    obtain ⟨y0, y1, y2, y3, y4, y5, y6⟩ := cz7 BK4.out
    have hcut := cut44 (some ad) l0.length c0 i hi hc0
    have HCT : Aside _ := fun (W : World) (hB : Below w.heap.size w W) (hg : W.cell? ⟨gb, 0, none⟩ = some (.string d.f0)) => cont_calls (some ad) c0 (l0.take i) W gb d.f0 (Kd.C_take (Kd.xz HR0.out hB) hi) (by rw [List.length_take]; omega) hg
    rw [show (l0.take i).length = i by rw [List.length_take]; omega] at HCT
    obtain ⟨b1, hb1⟩ : ∃ b1, b1 = nb i := ⟨_, rfl⟩
    rw [← hb1] at hnm
    have HN1 : Hid (nb i = b1) := hb1.symm
    clear hb1
    obtain ⟨b2, hb2⟩ : ∃ b2, b2 = (l0.take i).any (fun o => sameN o.f0 d.f0) := ⟨_, rfl⟩
    rw [← hb2] at HCT
    have HN2 : Hid (twB l0 i = b2) := (show twB l0 i = b2 by unfold twB; rw [HD.out]; exact hb2.symm)
    clear hb2
    have hdy := isDay_eq d.f1
    obtain ⟨b3, hb3⟩ : ∃ b3, b3 = dayB d.f1 := ⟨_, rfl⟩
    rw [← hb3] at hdy
    have HN3 : Hid (dayB (rdD l0 i).f1 = b3) := (show dayB (rdD l0 i).f1 = b3 by rw [HD.out]; exact hb3.symm)
    clear hb3
    cases b1 with
    | false =>
     go_wp2_with (go_at_call 29; (with_reducible refine (jH.calls d.f0 false _ hnm).mono ?_); rintro e w5 ⟨rfl, hb⟩; have HB5 : Hid (Below w.heap.size w _) := HB4.out.trans (hb.mono HB4.out.size); have BK5 : Hid (_ = _) := qC BK4.out hb; clear y0 y1 y2 y3 y4 y5 y6; obtain ⟨y0, y1, y2, y3, y4, y5, y6⟩ := cz7 BK5.out)
     go_ret
     exact ⟨5, rfl, kY hbig hlt HZ.out (by unfold dF; rw [if_pos HN1.out]) (by decide), HB5.out⟩
    | true =>
    cases b2 with
    | true =>
     go_wp2_with (first | (go_at_call 29; (with_reducible refine (jH.calls d.f0 true _ hnm).mono ?_); rintro e w5 ⟨rfl, hb⟩; have HB5 : Hid (Below w.heap.size w _) := HB4.out.trans (hb.mono HB4.out.size); have BK5 : Hid (_ = _) := qC BK4.out hb; clear y0 y1 y2 y3 y4 y5 y6; obtain ⟨y0, y1, y2, y3, y4, y5, y6⟩ := cz7 BK5.out) | (go_at_call 30; have hh := HCT.out _ HB5.out y0; (with_reducible refine hh.mono ?_); clear hh; rintro e w6 ⟨rfl, hb⟩; have HB6 : Hid (Below w.heap.size w _) := HB5.out.trans (hb.mono HB5.out.size); have BK6 : Hid (_ = _) := qC BK5.out hb; clear y0 y1 y2 y3 y4 y5 y6; obtain ⟨y0, y1, y2, y3, y4, y5, y6⟩ := cz7 BK6.out))
     go_ret
     exact ⟨7, rfl, kY hbig hlt HZ.out (by unfold dF; rw [if_neg (by rw [HN1.out]; decide), if_pos HN2.out]) (by decide), HB6.out⟩
    | false =>
    cases b3 with
    | false =>
     go_wp2_with (first | (go_at_call 29; (with_reducible refine (jH.calls d.f0 true _ hnm).mono ?_); rintro e w5 ⟨rfl, hb⟩; have HB5 : Hid (Below w.heap.size w _) := HB4.out.trans (hb.mono HB4.out.size); have BK5 : Hid (_ = _) := qC BK4.out hb; clear y0 y1 y2 y3 y4 y5 y6; obtain ⟨y0, y1, y2, y3, y4, y5, y6⟩ := cz7 BK5.out) | (go_at_call 30; have hh := HCT.out _ HB5.out y0; (with_reducible refine hh.mono ?_); clear hh; rintro e w6 ⟨rfl, hb⟩; have HB6 : Hid (Below w.heap.size w _) := HB5.out.trans (hb.mono HB5.out.size); have BK6 : Hid (_ = _) := qC BK5.out hb; clear y0 y1 y2 y3 y4 y5 y6; obtain ⟨y0, y1, y2, y3, y4, y5, y6⟩ := cz7 BK6.out) | (go_at_call 32; (with_reducible refine (vC.calls d.f1 false _ hdy).mono ?_); rintro e w7 ⟨rfl, ⟨nd, rfl⟩⟩))
     go_ret
     exact ⟨1, rfl, kY hbig hlt HZ.out (by unfold dF; rw [if_neg (by rw [HN1.out]; decide), if_neg (by rw [HN2.out]; decide), if_pos HN3.out]) (by decide), jZ HB6.out _⟩
    | true =>
     go_upto_region 12 with (first | (go_at_call 29; (with_reducible refine (jH.calls d.f0 true _ hnm).mono ?_); rintro e w5 ⟨rfl, hb⟩; have HB5 : Hid (Below w.heap.size w _) := HB4.out.trans (hb.mono HB4.out.size); have BK5 : Hid (_ = _) := qC BK4.out hb; clear y0 y1 y2 y3 y4 y5 y6; obtain ⟨y0, y1, y2, y3, y4, y5, y6⟩ := cz7 BK5.out) | (go_at_call 30; have hh := HCT.out _ HB5.out y0; (with_reducible refine hh.mono ?_); clear hh; rintro e w6 ⟨rfl, hb⟩; have HB6 : Hid (Below w.heap.size w _) := HB5.out.trans (hb.mono HB5.out.size); have BK6 : Hid (_ = _) := qC BK5.out hb; clear y0 y1 y2 y3 y4 y5 y6; obtain ⟨y0, y1, y2, y3, y4, y5, y6⟩ := cz7 BK6.out) | (go_at_call 32; (with_reducible refine (vC.calls d.f1 true _ hdy).mono ?_); rintro e w7 ⟨rfl, ⟨nd, rfl⟩⟩))
     have HB7 : Hid (Below w.heap.size w (w6.drewN nd)) := jZ HB6.out nd
     have BK7 : Hid ((w6.drewN nd).heap[gb]? = some (.cells #[.string d.f0, .int .i64 d.f1, .int .i64 d.f2.f0, .int .i64 d.f2.f1, .int .i64 d.f3, .int .i64 d.f4, .int .i64 d.f5] 53 (0, 0))) := zV BK6.out nd
     clear y0 y1 y2 y3 y4 y5 y6
     generalize w6.drewN nd = w7 at HB7 BK7 ⊢
     obtain ⟨y0, y1, y2, y3, y4, y5, y6⟩ := cz7 BK7.out
     clear HB6 BK6 HB5 BK5 HB4 BK4 HCT hcut
     go_cut [32] (fun v32 wc => ∃ b4 : Bool, v32 = .bool b4 ∧ Hid (b4 = true ↔ (0 < i ∧ d.f1 < (rdD l0 ((i - 1 : Nat) : Int)).f1)) ∧ Hid (Below w.heap.size w wc) ∧ Hid (wc.heap[gb]? = some (.cells #[.string d.f0, .int .i64 d.f1, .int .i64 d.f2.f0, .int .i64 d.f2.f1, .int .i64 d.f3, .int .i64 d.f4, .int .i64 d.f5] 53 (0, 0))))
     case first =>
      by_cases hi0 : 0 < i
      ·have hi0z : (0 : Int) < (i : Int) := by omega
       obtain ⟨m, hm⟩ : ∃ m, m = i - 1 := ⟨_, rfl⟩
       have hmi : m < l0.length := by omega
       have hmz : (m : Int) < (l0.length : Int) := by omega
       have hm0 : (0 : Int) ≤ (m : Int) := by omega
       obtain ⟨ad2, e2, hv0, hv1, hv2⟩ := uN HR0.out (m : Int) hm0 hmz
       cases e2
       rw [Int.toNat_natCast] at hv1
       replace hv1 := hz ⟨HB7.out⟩ hv1
       have wm : IntKind.i64.wrap ((i : Int) - 1) = (m : Int) := by rw [IntKind.wrap_i64]; omega
       have HM : Hid (m = i - 1) := hm
       clear hm hv0 hv2
       obtain ⟨pm, hpm⟩ : ∃ pm, pm = (yx l0 m).f1 := ⟨_, rfl⟩
       rw [← hpm] at hv1
       have HPM : Hid (pm = (rdD l0 m).f1) := hpm
       clear hpm
       go_wp2
       go_quiet (fail)
       try go_wp2
       go_meet
       case rel =>
        refine ⟨decide (d.f1 < pm), by first | rfl | (simp; done), (show _ ↔ _ from ?_), jZ HB7.out _, zV BK7.out _⟩
        rw [decide_eq_true_iff, HPM.out, HM.out]
        exact ⟨fun h => ⟨hi0, h⟩, fun h => h.2⟩
      ·have hi0z : ¬ (0 : Int) < (i : Int) := by omega
       have hi0d : decide ((0 : Int) < (i : Int)) = false := decide_eq_false hi0z
       go_wp2
       go_quiet (fail)
       try go_wp2
       go_meet
       case rel =>
        refine ⟨false, by first | rfl | (simp; done), (show _ ↔ _ from ?_), jZ HB7.out _, zV BK7.out _⟩
        exact ⟨fun h => (by cases h), fun h => absurd h.1 hi0⟩
     case rest =>
      obtain ⟨b4, rfl, HO, HB8, BK8⟩ := hcut
      clear y0 y1 y2 y3 y4 y5 y6 HB7 BK7
      obtain ⟨y0, y1, y2, y3, y4, y5, y6⟩ := cz7 BK8.out
      cases b4 with
      | true =>
       go_wp2
       go_ret
       exact ⟨8, rfl, kY hbig hlt HZ.out (by unfold dF; rw [if_neg (by rw [HN1.out]; decide), if_neg (by rw [HN2.out]; decide), if_neg (by rw [HN3.out]; decide), if_pos (by rw [HD.out]; exact HO.out.1 (by first | rfl | trivial))]) (by decide), HB8.out⟩
      | false =>
      have HO4 : Hid (¬ (0 < i ∧ (rdD l0 i).f1 < (rdD l0 ((i - 1 : Nat) : Int)).f1)) := fun h => by
       rw [HD.out] at h
       have := HO.out.2 h
       cases this
      obtain ⟨mv, hmv⟩ : ∃ mv, mv = mf i := ⟨_, rfl⟩
      rw [← hmv] at hmo
      have HMV : Hid (mf i = mv) := hmv.symm
      clear hmv HO
      by_cases hm0 : mv = 0
      ·subst hm0
       have ho1 := uJ d.f3 0 10000
       have ho2 := uJ d.f4 0 d.f3
       have ho3 := uJ d.f5 0 1000
       have HO5 : Hid (outB (rdD l0 i) = ((decide (d.f3 < 0) || decide (d.f3 > 10000)) || (decide (d.f4 < 0) || decide (d.f4 > d.f3)) || (decide (d.f5 < 0) || decide (d.f5 > 1000)))) := (show outB (rdD l0 i) = _ by rw [HD.out]; rfl)
       generalize (decide (d.f3 < 0) || decide (d.f3 > 10000)) = o1 at ho1 HO5
       generalize (decide (d.f4 < 0) || decide (d.f4 > d.f3)) = o2 at ho2 HO5
       generalize (decide (d.f5 < 0) || decide (d.f5 > 1000)) = o3 at ho3 HO5
       cases o1 with
       | true =>
        go_wp2_with (first | (go_at_call 33; (with_reducible refine (qY.calls k _ _ 0 _ hmo).mono ?_); rintro e w9 ⟨rfl, hb⟩; have HB9 : Hid (Below w.heap.size w _) := HB8.out.trans (hb.mono HB8.out.size); have BK9 : Hid (_ = _) := qC BK8.out hb; clear y0 y1 y2 y3 y4 y5 y6; obtain ⟨y0, y1, y2, y3, y4, y5, y6⟩ := cz7 BK9.out) | (go_at_call 34; (with_reducible refine (jw.calls d.f3 0 10000 true _ ho1).mono ?_); rintro e w' ⟨rfl, ⟨nd1, rfl⟩⟩))
        go_ret
        exact ⟨1, rfl, kY hbig hlt HZ.out (by unfold dF; rw [if_neg (by rw [HN1.out]; decide), if_neg (by rw [HN2.out]; decide), if_neg (by rw [HN3.out]; decide), if_neg HO4.out, if_neg (fun h => h HMV.out), if_pos (by rw [HO5.out]; rfl)]) (by decide), jZ HB9.out _⟩
       | false =>
       cases o2 with
       | true =>
        go_wp2_with (first | (go_at_call 33; (with_reducible refine (qY.calls k _ _ 0 _ hmo).mono ?_); rintro e w9 ⟨rfl, hb⟩; have HB9 : Hid (Below w.heap.size w _) := HB8.out.trans (hb.mono HB8.out.size); have BK9 : Hid (_ = _) := qC BK8.out hb; clear y0 y1 y2 y3 y4 y5 y6; obtain ⟨y0, y1, y2, y3, y4, y5, y6⟩ := cz7 BK9.out) | (go_at_call 34; (with_reducible refine (jw.calls d.f3 0 10000 false _ ho1).mono ?_); rintro e w' ⟨rfl, ⟨nd1, rfl⟩⟩) | (go_at_call 34; (with_reducible refine (jw.calls d.f4 0 d.f3 true _ ho2).mono ?_); rintro e w' ⟨rfl, ⟨nd2, rfl⟩⟩))
        go_ret
        exact ⟨1, rfl, kY hbig hlt HZ.out (by unfold dF; rw [if_neg (by rw [HN1.out]; decide), if_neg (by rw [HN2.out]; decide), if_neg (by rw [HN3.out]; decide), if_neg HO4.out, if_neg (fun h => h HMV.out), if_pos (by rw [HO5.out]; rfl)]) (by decide), jZ HB9.out _⟩
       | false =>
       cases o3 with
       | true =>
        go_wp2_with (first | (go_at_call 33; (with_reducible refine (qY.calls k _ _ 0 _ hmo).mono ?_); rintro e w9 ⟨rfl, hb⟩; have HB9 : Hid (Below w.heap.size w _) := HB8.out.trans (hb.mono HB8.out.size); have BK9 : Hid (_ = _) := qC BK8.out hb; clear y0 y1 y2 y3 y4 y5 y6; obtain ⟨y0, y1, y2, y3, y4, y5, y6⟩ := cz7 BK9.out) | (go_at_call 34; (with_reducible refine (jw.calls d.f3 0 10000 false _ ho1).mono ?_); rintro e w' ⟨rfl, ⟨nd1, rfl⟩⟩) | (go_at_call 34; (with_reducible refine (jw.calls d.f4 0 d.f3 false _ ho2).mono ?_); rintro e w' ⟨rfl, ⟨nd2, rfl⟩⟩) | (go_at_call 34; (with_reducible refine (jw.calls d.f5 0 1000 true _ ho3).mono ?_); rintro e w' ⟨rfl, ⟨nd3, rfl⟩⟩))
        go_ret
        exact ⟨1, rfl, kY hbig hlt HZ.out (by unfold dF; rw [if_neg (by rw [HN1.out]; decide), if_neg (by rw [HN2.out]; decide), if_neg (by rw [HN3.out]; decide), if_neg HO4.out, if_neg (fun h => h HMV.out), if_pos (by rw [HO5.out]; rfl)]) (by decide), jZ HB9.out _⟩
       | false =>
        go_wp2_with (first | (go_at_call 33; (with_reducible refine (qY.calls k _ _ 0 _ hmo).mono ?_); rintro e w9 ⟨rfl, hb⟩; have HB9 : Hid (Below w.heap.size w _) := HB8.out.trans (hb.mono HB8.out.size); have BK9 : Hid (_ = _) := qC BK8.out hb; clear y0 y1 y2 y3 y4 y5 y6; obtain ⟨y0, y1, y2, y3, y4, y5, y6⟩ := cz7 BK9.out) | (go_at_call 34; (with_reducible refine (jw.calls d.f3 0 10000 false _ ho1).mono ?_); rintro e w' ⟨rfl, ⟨nd1, rfl⟩⟩) | (go_at_call 34; (with_reducible refine (jw.calls d.f4 0 d.f3 false _ ho2).mono ?_); rintro e w' ⟨rfl, ⟨nd2, rfl⟩⟩) | (go_at_call 34; (with_reducible refine (jw.calls d.f5 0 1000 false _ ho3).mono ?_); rintro e w' ⟨rfl, ⟨nd3, rfl⟩⟩))
        go_roundg (l0.length - (i + 1))
        case measure => omega
        case rel =>
         refine ⟨i + 1, by first | rfl | (congr 1; omega), by omega, Nat.le_refl _, ?_, jZ HB9.out _⟩
         show ∀ j : Nat, j < i + 1 → dF l0 nb mf j = 0
         intro j hj
         rcases Nat.lt_succ_iff_lt_or_eq.1 hj with h | rfl
         ·exact HZ.out j h
         ·unfold dF
          rw [if_neg (by rw [HN1.out]; decide), if_neg (by rw [HN2.out]; decide), if_neg (by rw [HN3.out]; decide), if_neg HO4.out, if_neg (fun h => h HMV.out), if_neg (by rw [HO5.out]; decide)]
      ·go_wp2_with (go_at_call 33; (with_reducible refine (qY.calls k _ _ mv _ hmo).mono ?_); rintro e w9 ⟨rfl, hb⟩; have HB9 : Hid (Below w.heap.size w _) := HB8.out.trans (hb.mono HB8.out.size); have BK9 : Hid (_ = _) := qC BK8.out hb; clear y0 y1 y2 y3 y4 y5 y6; obtain ⟨y0, y1, y2, y3, y4, y5, y6⟩ := cz7 BK9.out)
       go_ret
       exact ⟨mv, rfl, kY hbig hlt HZ.out (by unfold dF; rw [if_neg (by rw [HN1.out]; decide), if_neg (by rw [HN2.out]; decide), if_neg (by rw [HN3.out]; decide), if_neg HO4.out, if_pos (fun h => hm0 (HMV.out.symm.trans h)), HMV.out]) hm0, HB9.out⟩
   ·have hltz : ¬ (i : Int) < (l0.length : Int) := by omega
    have hil : i = l0.length := by omega
    go_wp2
    go_ret
    exact ⟨0, rfl, by unfold ChkD; rw [if_neg hbig]; exact .inl ⟨rfl, fun j hj => HZ.out j (by omega)⟩, HBL.out⟩
theorem payments_calls (k : Nat) (A0 : Option Addr) (c0 : Nat) (l0 : List SDe) (A1 : Option Addr) (c1 : Nat) (l1 : List SPa) (day : Int) (cv pc : Nat → Int) (dsc : Nat → Int → Int) (od : List Nat) (w : World) (hr0 : Kd.C k53 w A0 l0.length l0) (hc0 : l0.length ≤ c0) (hn : l0.length ≤ 200)
  (hr1 : Kd.C k72 w A1 l1.length l1) (hc1 : l1.length ≤ c1) (hn1 : l1.length ≤ 500)
  (hnf : ∀ i : Nat, i < l1.length → (rdA l1 i).f2.length ≤ 100) (hod : ordA (fun j => (iniD l0 cv j).last) l0.length = od)
  (hcv : ∀ i : Nat, i < l0.length → xD.f k (rdD l0 i).f2.f0 (rdD l0 i).f2.f1 = some (cv i)) (hsz : ∀ i : Nat, i < l0.length → (rdD l0 i).f0.size ≤ maxLen)
  (hpc : ∀ i : Nat, i < l1.length → xD.f k (rdA l1 i).f1.f0 (rdA l1 i).f1.f1 = some (pc i)) (hsz1 : ∀ i : Nat, i < l1.length → ∀ j : Nat, j < (rdA l1 i).f2.length → (rdOf ByteArray.empty (rdA l1 i).f2 j).size ≤ maxLen)
  (hds : ∀ j : Nat, j < l0.length → ∀ o p t d : Int, jq.f k (rdD l0 j).f0 (rdD l0 j).f1 (rdD l0 j).f2.f0 (rdD l0 j).f2.f1 (rdD l0 j).f3 (rdD l0 j).f4 (rdD l0 j).f5 o p t d = some (dsc j o, (rdD l0 j).f0, (rdD l0 j).f1, (rdD l0 j).f2.f0, (rdD l0 j).f2.f1, (rdD l0 j).f3, (rdD l0 j).f4, (rdD l0 j).f5, o, p, t, d)) :
  Calls Tryz.prog 23 #[.slice A0 l0.length c0, .slice A1 l1.length c1, .int .i64 day] w fun e w' => ∃ (m : Nat) (v vo vr : Value) (gs : List Nat) (D : DataW Unit), m ≤ l1.length ∧ (∀ i : Nat, i < m → (rdA l1 i).f0 ≤ day) ∧ (m = l1.length ∨ day < (rdA l1 m).f0) ∧ e = .returned (.tuple #[v, vr]) ∧
   Laid2 w w' l0 v vo vr gs D od (runP l0 cv dsc od l1 pc m).1 (runP l0 cv dsc od l1 pc m).2 := by
 have hon : od.length = l0.length := hod ▸ ordA_length (fun j => (iniD l0 cv j).last) l0.length
 have hob : ∀ j ∈ od, j < l0.length := hod ▸ ordA_lt (fun j => (iniD l0 cv j).last) l0.length
 have HOD : Hid (ordA (fun j => (iniD l0 cv j).last) l0.length = od) := hod
 clear hod
 have hmm := @run_makeMap Tryz.prog
 obtain ⟨i0, hi0, hzz⟩ := Option.map_eq_some_iff.1 info60
 simp only [Prod.mk.injEq] at hzz
 obtain ⟨hz0, hz1, hz2⟩ := hzz
 have HR0 := zQ.mk hr0
 have HR1 := zQ.mk hr1
 have HPC : Aside _ := hpc
 have HS1 : Aside _ := hsz1
 have HNF : Aside _ := hnf
 have HDS : Aside _ := hds
 clear hr1 hpc hsz1 hds hnf
 go_enter Tryz.func23, Tryz.ntmps23
 go_wp2
 go_loopg [26, 8] l0.length (fun g1 vi va wr => ∃ (i : Nat) (gs : List Nat) (D : DataW Unit), vi = .int .i64 i ∧ i ≤ l0.length ∧ l0.length - i ≤ g1 ∧ Laid1 w wr w.heap.size (fun i => (rdD l0 i).f0) (iniD l0 cv) i va gs D)
 case atStart =>
  exact ⟨0, [], .map [], rfl, Nat.zero_le _, Nat.le_refl _, ⟨rfl, by simp, List.nodup_nil, by simp, ⟨rfl, .inl ⟨rfl, rfl⟩⟩, World.ownsMap_made w _ _ _, fun s => rfl, (Below.refl _ _).alloc (Nat.le_refl _) _, fun _ => rfl⟩⟩
 case round =>
  obtain ⟨i, gs, D, rfl, hi, hgk, L⟩ := hrel
  by_cases hlt : i < l0.length
  ·have hltz : (i : Int) < (l0.length : Int) := by omega
   have h0i : (0 : Int) ≤ (i : Int) := by omega
   obtain ⟨ad, e0, hx0, hx1, hx2, hx3, hx4, hx5, hx6⟩ := uN HR0.out (i : Int) h0i hltz
   cases e0
   simp only [Int.toNat_natCast] at hx0 hx1 hx2 hx3 hx4 hx5 hx6
   have HB : zQ (Below w.heap.size w wr) := ⟨L.bel⟩
   replace hx0 := hz HB hx0
   replace hx1 := hz HB hx1
   replace hx2 := hz HB hx2
   replace hx3 := hz HB hx3
   replace hx4 := hz HB hx4
   replace hx5 := hz HB hx5
   replace hx6 := hz HB hx6
   go_upto_region 6 with fail
   have G1 := xM wr (.cells #[.string (rdD l0 i).f0, .int .i64 (rdD l0 i).f1, .int .i64 (rdD l0 i).f2.f0, .int .i64 (rdD l0 i).f2.f1, .int .i64 (rdD l0 i).f3, .int .i64 (rdD l0 i).f4, .int .i64 (rdD l0 i).f5] 53 (0, 0))
   have K1 := World.grownBy_alloc wr (.cells #[.string (rdD l0 i).f0, .int .i64 (rdD l0 i).f1, .int .i64 (rdD l0 i).f2.f0, .int .i64 (rdD l0 i).f2.f1, .int .i64 (rdD l0 i).f3, .int .i64 (rdD l0 i).f4, .int .i64 (rdD l0 i).f5] 53 (0, 0)) none
   obtain ⟨g1, hg1⟩ : ∃ g1, g1 = wr.heap.size := ⟨_, rfl⟩
   rw [← hg1] at G1 ⊢
   have HG1 : Hid (g1 = wr.heap.size) := hg1
   generalize wr.alloc _ = w1 at G1 K1 ⊢
   clear hg1 hx0 hx1 hx2 hx3 hx4 hx5 hx6
   obtain ⟨y0, y1, y2, y3, y4, y5, y6⟩ := cz7 G1
   have hcc := fun w3 => xD.calls k _ _ (cv i) w3 (hcv i hlt)
   go_region_held3 (fun w' => w'.cell? ⟨g1, 0, none⟩ = some (.string (rdD l0 i).f0) ∧ w'.cell? ⟨g1, 1, none⟩ = some (.int .i64 (rdD l0 i).f1) ∧ w'.cell? ⟨g1, 2, none⟩ = some (.int .i64 (rdD l0 i).f2.f0) ∧ w'.cell? ⟨g1, 3, none⟩ = some (.int .i64 (rdD l0 i).f2.f1) ∧ w'.cell? ⟨g1, 4, none⟩ = some (.int .i64 (rdD l0 i).f3) ∧ w'.cell? ⟨g1, 5, none⟩ = some (.int .i64 (rdD l0 i).f4) ∧ w'.cell? ⟨g1, 6, none⟩ = some (.int .i64 (rdD l0 i).f5) ∧ Below w1.heap.size w1 w') (first | exact keep7 (by assumption) ((Below.refl _ _).alloc (Nat.le_refl _) _) | exact keep7 ⟨y0, y1, y2, y3, y4, y5, y6, Below.refl _ _⟩ ((Below.refl _ _).drew) | exact keep7 (by assumption) (by assumption)) (first | (go_at_call 43; (with_reducible refine (hcc _).mono ?_); rintro e w2 ⟨rfl, hB2⟩))
   have hB2' : Below w1.heap.size w1 w2 := (Below.refl w1.heap.size w1).drew.trans hB2
   obtain ⟨g2, hg2⟩ : ∃ g2, g2 = w2.heap.size := ⟨_, rfl⟩
   have G2 : (w2.alloc (.cells #[.string (rdD l0 i).f0, .int .i64 (rdD l0 i).f1, .int .i64 (rdD l0 i).f2.f0, .int .i64 (rdD l0 i).f2.f1, .int .i64 (rdD l0 i).f3, .int .i64 (rdD l0 i).f4, .int .i64 (rdD l0 i).f5, .int .i64 (cv i), .int .i64 0, .int .i64 0, .int .i64 0] 62 (0, 0))).heap[g2]? = some (iniD l0 cv i).obj := hg2 ▸ xM w2 (.cells #[.string (rdD l0 i).f0, .int .i64 (rdD l0 i).f1, .int .i64 (rdD l0 i).f2.f0, .int .i64 (rdD l0 i).f2.f1, .int .i64 (rdD l0 i).f3, .int .i64 (rdD l0 i).f4, .int .i64 (rdD l0 i).f5, .int .i64 (cv i), .int .i64 0, .int .i64 0, .int .i64 0] 62 (0, 0))
   have hs1 := K1.size
   have hs2 := hB2'.size
   have B2 : Below wr.heap.size wr w2 := (Below.grown (Below.refl _ _) K1 (Nat.le_refl _) (by simp)).trans (hB2'.mono hs1)
   have B3 := B2.alloc B2.size (.cells #[.string (rdD l0 i).f0, .int .i64 (rdD l0 i).f1, .int .i64 (rdD l0 i).f2.f0, .int .i64 (rdD l0 i).f2.f1, .int .i64 (rdD l0 i).f3, .int .i64 (rdD l0 i).f4, .int .i64 (rdD l0 i).f5, .int .i64 (cv i), .int .i64 0, .int .i64 0, .int .i64 0] 62 (0, 0))
   have G1' := zJ (qC G1 hB2') (.cells #[.string (rdD l0 i).f0, .int .i64 (rdD l0 i).f1, .int .i64 (rdD l0 i).f2.f0, .int .i64 (rdD l0 i).f2.f1, .int .i64 (rdD l0 i).f3, .int .i64 (rdD l0 i).f4, .int .i64 (rdD l0 i).f5, .int .i64 (cv i), .int .i64 0, .int .i64 0, .int .i64 0] 62 (0, 0))
   have hge : wr.heap.size ≤ g2 := by rw [hg2]; exact B2.size
   have HGE : Hid (wr.heap.size ≤ g2) := hge
   rw [← hg2]
   generalize w2.alloc _ = w3 at G2 B3 G1' ⊢
   clear hg2 hge hB2' hB2 hs1 hs2 y0 y1 y2 y3 y4 y5 y6 G1 K1 B2
   have L3 := L.keep B3
   have L4 := L3.keep ((Below.refl w3.heap.size w3).alloc (Nat.le_refl _) (.cells #[encP g2] 60 (0, 0)))
   have hrow := L4.row
   have hbase := L4.bel.size
   go_upto_region 8 with (at_builtin; refine wpList_append_own _ rfl _ _ 57 rfl w.heap.size 60 i0 (.pointer none) 1 8 Tryz.underlying57 hi0 hz0 hz1 hz2 rfl (by decide) u8 i _ rfl hrow ⟨w3.heap.size, 0, none⟩ 1 1 [encP g2] rfl rfl (news1 w3 _ _) (by simp [encP, Value.oneCell']) (by unfold maxLen; omega) (by omega) hbase ?_; intro v' w4 hown4 hg4 hnil4)
   have G4 := (hg4.block g1 (xW (zJ G1' _)) (uH hrow (zJ G1' _) (by intro cur e; injection e with _ e2 _; exact absurd e2 (by decide)))).trans (zJ G1' _)
   have y0 := (cz7 G4).1
   obtain ⟨es, ck, hmb, hmr⟩ := L4.map
   have hmap4 : w4.ownsMap Tryz.prog 9 ptrElem w.heap.size i D := ⟨es, ck, (hg4.block _ (xW hmb) (uH hrow hmb (by intro cur e; cases e))).trans hmb, hmr⟩
   have hkey := WideMaps.keyOf_string_mk (P := Tryz.prog) Tryz.underlying9 (hsz i hlt)
   have HF : Hid (∀ g ∈ gs, g ≠ g2) := fun g hg e => by
    obtain ⟨j, hj⟩ := List.getElem?_of_mem hg
    have := xW (L.obj j g hj)
    have h2 := HGE.out
    omega
   have HBG : Hid (w.heap.size < g2) := by
    have h1 := xW hmb
    have h2 := HGE.out
    have h3 := L.bel.size
    obtain ⟨es', ck', hmb', _⟩ := L.map
    have h4 := xW hmb'
    exact (show w.heap.size < g2 by omega)
   have HH4 : Aside (w4.ownsRow w.heap.size 60 1 v' (i + 1) (gs.map encP ++ [encP g2])) := hown4
   have HHG : Aside ((w3.alloc (.cells #[encP g2] 60 (0, 0))).grownBy w4 u8.ownBlock) := hg4
   clear hmb hown4 hg4 hnil4 hrow
   go_wp2_with (at_mapUpdate; refine wpList_mapUpdate_own _ rfl _ _ _ 81 rfl 9 60 law9 Tryz.underlying81 ptrElem w.heap.size i D rfl hmap4 (by unfold maxLen; omega) _ _ _ rfl rfl hkey (.lit (.int .i64 (g2 : Int))) [] rfl ?_; intro w5 hmap5 hg5)
   go_roundg (l0.length - (i + 1))
   case measure => omega
   case rel =>
    refine ⟨i + 1, gs ++ [g2], D.put (.string (rdD l0 i).f0.data.toList) (.lit (.int .i64 (g2 : Int))), by first | rfl | (congr 1; omega), by omega, Nat.le_refl _, ?_⟩
    exact L4.push (zJ G2 _) HF.out HBG.out HH4 HHG hmap5 hg5
  ·obtain rfl : i = l0.length := by omega
   have hltz : ¬ (l0.length : Int) < (l0.length : Int) := by omega
   have HB : zQ (Below w.heap.size w wr) := ⟨L.bel⟩
   have hcl := clone_any wr w.heap.size l0.length u8 (gs.map encP) L.row (fun u hu => by obtain ⟨g, _, rfl⟩ := List.mem_map.1 hu; rfl) (by omega) L.nil
   go_wp2_with (first | (go_at_call 44; (with_reducible refine hcl.mono ?_); rintro e' w1 ⟨vo, rfl, ho1, ho2, ho3⟩) | (go_at_call 45; (refine (sort_any wr.heap.size l0.length gs L.len (by omega) (iniD l0 cv) _ _ ho1 (L.keep ho2).obj ho3).mono ?_); rw [HOD.out]; rintro e' w2 ⟨rfl, hs1, hs2⟩))
   have L2 := Laid2.start L ho2 hs1 hs2 hon hob
   obtain ⟨ao, co, rfl⟩ := own_slice L2.ord
   clear ho1 ho2 ho3 hs1 hs2 L HB hr0 HR0 hcv hsz hi hlt hltz hi0 hz0 hz1 hz2 hmm hgk
   go_loopg [14, 51] l1.length (fun g1 vr vi wr => ∃ (i : Nat), vi = .int .i64 i ∧ i ≤ l1.length ∧ l1.length - i ≤ g1 ∧ Hid (∀ j : Nat, j < i → (rdA l1 j).f0 ≤ day) ∧ Hid (Laid2 w wr l0 u8 (.slice ao l0.length co) vr gs D od (runP l0 cv dsc od l1 pc i).1 (runP l0 cv dsc od l1 pc i).2))
   case atStart => exact ⟨0, rfl, Nat.zero_le _, Nat.le_refl _, (show ∀ j : Nat, j < 0 → _ from fun j h => absurd h (Nat.not_lt_zero j)), L2⟩
   case round =>
    obtain ⟨i, rfl, hi, hg1, HD, HL⟩ := hrel
    clear L2
    by_cases hlt : i < l1.length
    ·have hltz : (i : Int) < (l1.length : Int) := by omega
     have h0i : (0 : Int) ≤ (i : Int) := by omega
     obtain ⟨ad, A3, c3, e0, hx0, hx1, hx2, hx3, hl3, hi3⟩ := at_T72 HR1.out (i : Int) h0i hltz
     cases e0
     simp only [Int.toNat_natCast] at hx0 hx1 hx2 hx3
     obtain ⟨p, hp⟩ : ∃ p, p = zY l1 i := ⟨_, rfl⟩
     rw [← hp] at hx0 hx1 hx2 hx3 hl3 hi3
     have HP : Hid (p = rdA l1 i) := hp
     have hcp : xD.f k p.f1.f0 p.f1.f1 = some (pc i) := hp ▸ HPC.out i hlt
     have HSP : Aside (∀ j : Nat, j < p.f2.length → (rdOf ByteArray.empty p.f2 j).size ≤ maxLen) := hp ▸ HS1.out i hlt
     have hpl : p.f2.length ≤ 100 := hp ▸ HNF.out i hlt
     clear hp
     have HB : zQ (Below w.heap.size w wr) := ⟨HL.out.bel⟩
     replace hx0 := hz HB hx0
     replace hx1 := hz HB hx1
     replace hx2 := hz HB hx2
     replace hx3 := hz HB hx3
     have HNM := zQ.mk hi3
     clear hi3
     go_upto_region 16 with fail
     have G1 := xM wr (.cells #[.int .i64 p.f0, .int .i64 p.f1.f0, .int .i64 p.f1.f1, .slice A3 p.f2.length c3] 72 (0, 0))
     have L3 : Laid3 w (wr.alloc (.cells #[.int .i64 p.f0, .int .i64 p.f1.f0, .int .i64 p.f1.f1, .slice A3 p.f2.length c3] 72 (0, 0))) l0 u8 (.slice ao l0.length co) u14 gs D od (runP l0 cv dsc od l1 pc i).1 (runP l0 cv dsc od l1 pc i).2 wr.heap.size #[.int .i64 p.f0, .int .i64 p.f1.f0, .int .i64 p.f1.f1, .slice A3 p.f2.length c3] := ⟨HL.out.keep ((Below.refl _ _).alloc (Nat.le_refl _) _), G1⟩
     generalize wr.heap.size = gb at G1 L3 ⊢
     generalize wr.alloc _ = w3 at G1 L3 ⊢
     clear hx0 hx1 hx2 hx3 HB
     obtain ⟨y0, y1, y2, y3⟩ := cb4 G1
     have HL3 : Aside _ := L3
     clear G1 L3
     by_cases hday : day < p.f0
     ·go_wp2
      go_ret2
      exact ⟨i, u8, .slice ao l0.length co, u14, gs, D, hi, HD.out, Or.inr (by rw [← HP.out]; exact hday), rfl, HL3.out.two⟩
     ·go_wp2_with (first | (go_at_call 43; (with_reducible refine (xD.calls k _ _ (pc i) _ hcp).mono ?_); rintro e w4 ⟨rfl, hB4⟩; have HL4 : Aside _ := HL3.out.keep hB4; obtain ⟨y0, y1, y2, y3⟩ := cb4 HL4.out.box; clear hB4))
      go_loopg [17, 65] p.f2.length (fun g2 vl vi2 wr2 => ∃ (kk : Nat) (s : Int × (Nat → V4)), vl = .int .i64 s.1 ∧ vi2 = .int .i64 kk ∧ kk ≤ p.f2.length ∧ p.f2.length - kk ≤ g2 ∧ Hid (runN l0 dsc p.f0 (fun k => rdOf ByteArray.empty p.f2 k) (pc i, (runP l0 cv dsc od l1 pc i).1) kk = s) ∧ Hid (Laid3 w wr2 l0 u8 (.slice ao l0.length co) u14 gs D od s.2 (runP l0 cv dsc od l1 pc i).2 gb #[.int .i64 p.f0, .int .i64 p.f1.f0, .int .i64 p.f1.f1, .slice A3 p.f2.length c3]))
      case atStart => exact ⟨0, (pc i, (runP l0 cv dsc od l1 pc i).1), rfl, rfl, Nat.zero_le _, Nat.le_refl _, rfl, HL4.out⟩
      case round =>
       obtain ⟨kk, s, rfl, rfl, hkk, hg2, HS, HL5⟩ := hrel
       clear y0 y1 y2 y3 HL3 HL4 HL
       obtain ⟨y0, y1, y2, y3⟩ := cb4 HL5.out.box
       by_cases hlt2 : kk < p.f2.length
       ·have hltz2 : (kk : Int) < (p.f2.length : Int) := by omega
        obtain ⟨ad2, e2, hn0⟩ := Kd.yD HNM.out (kk : Int) (by omega) hltz2
        cases e2
        rw [Int.toNat_natCast] at hn0
        replace hn0 := hz ⟨HL5.out.two.bel⟩ hn0
        obtain ⟨nn, hnn⟩ : ∃ nn, nn = rdOf ByteArray.empty p.f2 kk := ⟨_, rfl⟩
        rw [← hnn] at hn0
        have HNN : Hid (nn = rdOf ByteArray.empty p.f2 kk) := hnn
        have hlk := HL5.out.two.look nn (by rw [hnn]; exact HSP.out kk hlt2)
        clear hnn
        cases hx : vL (nmD l0) nn l0.length with
        | none =>
         rw [hx] at hlk
         have HX : Hid (vL (nmD l0) nn l0.length = none) := hx
         clear hx
         replace hlk : Sem.run Tryz.prog (Instr.lookup 81 (.map (some w.heap.size)) (.string nn) false) _ = .ok (.pointer none) _ := hlk
         have hq := ptr_eql0
         go_wp2
         go_roundg (p.f2.length - (kk + 1))
         case measure => omega
         case rel =>
          refine ⟨kk + 1, s, rfl, by first | rfl | (congr 1; omega), by omega, Nat.le_refl _, (show _ = _ from ?_), HL5⟩
          show stepN l0 dsc p.f0 (vL (nmD l0) (rdOf ByteArray.empty p.f2 kk) l0.length) (runN l0 dsc p.f0 (fun k => rdOf ByteArray.empty p.f2 k) (pc i, (runP l0 cv dsc od l1 pc i).1) kk) = s
          rw [HS.out, ← HNN.out, HX.out]
          rfl
        | some j =>
         rw [hx] at hlk
         have HX : Hid (vL (nmD l0) nn l0.length = some j) := hx
         have hjl := uT hx
         clear hx
         have hgj : gs[j]? = some (gs.getD j 0) := by
          rw [List.getD_eq_getElem?_getD, List.getElem?_eq_getElem (by rw [HL5.out.two.len]; exact hjl)]
          rfl
         replace hlk : Sem.run Tryz.prog (Instr.lookup 81 (.map (some w.heap.size)) (.string nn) false) _ = .ok (.pointer (some ⟨gs.getD j 0, 0, none⟩)) _ := hlk
         generalize gs.getD j 0 = g at hlk hgj
         have HGJ : Hid (gs[j]? = some g) := hgj
         have hth3 := there3 HL5.out hgj p.f0
         have hq := ptr_eql g
         clear hgj
         by_cases hth : yj (rdD l0 j) (s.2 j) p.f0 = true
         ·rw [hth] at hth3
          have HTH : Hid (yj (rdD l0 j) (s.2 j) p.f0 = true) := hth
          clear hth
          go_wp2_with (first | (go_at_call 37; (with_reducible refine hth3.mono ?_); rintro e w5 ⟨rfl, L6⟩; have HL6 : Aside _ := L6; clear y0 y1 y2 y3 L6; obtain ⟨y0, y1, y2, y3⟩ := cb4 HL6.out.box) | (go_at_call 48; (with_reducible refine (named3 k HL6.out HGJ.out s.1 p.f0 (dsc j (s.2 j).owes) (HDS.out j hjl _ _ _ _)).mono ?_); rintro e w6 ⟨rfl, L7⟩; have HL7 : Aside _ := L7; clear L7))
          go_roundg (p.f2.length - (kk + 1))
          case measure => omega
          case rel =>
           refine ⟨kk + 1, ((yQ (rdD l0 j) (dsc j (s.2 j).owes) (s.2 j) s.1 p.f0).1, upd s.2 j (yQ (rdD l0 j) (dsc j (s.2 j).owes) (s.2 j) s.1 p.f0).2), rfl, by first | rfl | (congr 1; omega), by omega, Nat.le_refl _, (show _ = _ from ?_), HL7.out⟩
           show stepN l0 dsc p.f0 (vL (nmD l0) (rdOf ByteArray.empty p.f2 kk) l0.length) (runN l0 dsc p.f0 (fun k => rdOf ByteArray.empty p.f2 k) (pc i, (runP l0 cv dsc od l1 pc i).1) kk) = _
           rw [HS.out, ← HNN.out, HX.out]
           unfold stepN
           exact if_pos HTH.out
         ·rw [Bool.eq_false_iff.mpr hth] at hth3
          have HTH : Hid (¬ yj (rdD l0 j) (s.2 j) p.f0 = true) := hth
          clear hth
          go_wp2_with (go_at_call 37; (with_reducible refine hth3.mono ?_); rintro e w5 ⟨rfl, L6⟩; have HL6 : Aside _ := L6; clear L6)
          go_roundg (p.f2.length - (kk + 1))
          case measure => omega
          case rel =>
           refine ⟨kk + 1, s, rfl, by first | rfl | (congr 1; omega), by omega, Nat.le_refl _, (show _ = _ from ?_), HL6.out⟩
           show stepN l0 dsc p.f0 (vL (nmD l0) (rdOf ByteArray.empty p.f2 kk) l0.length) (runN l0 dsc p.f0 (fun k => rdOf ByteArray.empty p.f2 k) (pc i, (runP l0 cv dsc od l1 pc i).1) kk) = s
           rw [HS.out, ← HNN.out, HX.out]
           exact if_neg HTH.out
       ·have hkl : kk = p.f2.length := by omega
        have hltz2 : ¬ (kk : Int) < (p.f2.length : Int) := by omega
        go_wp2_with fail
        go_loopg [17, 88] l0.length (fun g3 vl vi3 wr3 => ∃ (k3 : Nat) (s2 : Int × (Nat → V4)), vl = .int .i64 s2.1 ∧ vi3 = .int .i64 k3 ∧ k3 ≤ l0.length ∧ l0.length - k3 ≤ g3 ∧ Hid (runO l0 p.f0 od s k3 = s2) ∧ Hid (Laid3 w wr3 l0 u8 (.slice ao l0.length co) u14 gs D od s2.2 (runP l0 cv dsc od l1 pc i).2 gb #[.int .i64 p.f0, .int .i64 p.f1.f0, .int .i64 p.f1.f1, .slice A3 p.f2.length c3]))
        case atStart => exact ⟨0, s, rfl, rfl, Nat.zero_le _, Nat.le_refl _, rfl, HL5.out⟩
        case round =>
         obtain ⟨k3, s2, rfl, rfl, hk3, hg3, HS2, HL6⟩ := hrel
         clear y0 y1 y2 y3 HL5
         obtain ⟨y0, y1, y2, y3⟩ := cb4 HL6.out.box
         by_cases hlt3 : k3 < l0.length
         ·have hltz3 : (k3 : Int) < (l0.length : Int) := by omega
          obtain ⟨ado, eo, hco, hjl, hgj⟩ := HL6.out.two.ordAt k3 hlt3
          cases eo
          generalize gs.getD (od.getD k3 0) 0 = g at hco hgj
          obtain ⟨j, hj⟩ : ∃ j, j = od.getD k3 0 := ⟨_, rfl⟩
          rw [← hj] at hgj hjl
          have HJ : Hid (j = od.getD k3 0) := hj
          have HGJ : Hid (gs[j]? = some g) := hgj
          have hth3 := there3 HL6.out hgj p.f0
          clear hgj hj
          by_cases hpos : 0 < s2.1
          ·have hposd : decide (0 < s2.1) = true := decide_eq_true hpos
           have HPOS : Hid (s2.1 > 0) := hpos
           by_cases hth : yj (rdD l0 j) (s2.2 j) p.f0 = true
           ·rw [hth] at hth3
            have HTH : Hid (yj (rdD l0 j) (s2.2 j) p.f0 = true) := hth
            clear hth
            go_wp2_with (first | (go_at_call 37; (with_reducible refine hth3.mono ?_); rintro e w5 ⟨rfl, L6⟩; have HL7 : Aside _ := L6; clear y0 y1 y2 y3 L6; obtain ⟨y0, y1, y2, y3⟩ := cb4 HL7.out.box) | (go_at_call 49; (with_reducible refine (pay3 HL7.out HGJ.out s2.1 p.f0).mono ?_); rintro e w6 ⟨rfl, L7⟩; have HL8 : Aside _ := L7; clear L7))
            go_roundg (l0.length - (k3 + 1))
            case measure => omega
            case rel =>
             refine ⟨k3 + 1, ((payV (s2.2 j) s2.1 p.f0).1, upd s2.2 j (payV (s2.2 j) s2.1 p.f0).2), rfl, by first | rfl | (congr 1; omega), by omega, Nat.le_refl _, (show _ = _ from ?_), HL8.out⟩
             show stepO l0 p.f0 (od.getD k3 0) (runO l0 p.f0 od s k3) = _
             rw [HS2.out, ← HJ.out]
             exact if_pos ⟨HPOS.out, HTH.out⟩
           ·rw [Bool.eq_false_iff.mpr hth] at hth3
            have HTH : Hid (¬ yj (rdD l0 j) (s2.2 j) p.f0 = true) := hth
            clear hth
            go_wp2_with (go_at_call 37; (with_reducible refine hth3.mono ?_); rintro e w5 ⟨rfl, L6⟩; have HL7 : Aside _ := L6; clear L6)
            go_roundg (l0.length - (k3 + 1))
            case measure => omega
            case rel =>
             refine ⟨k3 + 1, s2, rfl, by first | rfl | (congr 1; omega), by omega, Nat.le_refl _, (show _ = _ from ?_), HL7.out⟩
             show stepO l0 p.f0 (od.getD k3 0) (runO l0 p.f0 od s k3) = _
             rw [HS2.out, ← HJ.out]
             exact if_neg fun h => HTH.out h.2
          ·have hposd : decide (0 < s2.1) = false := decide_eq_false hpos
           have HPOS : Hid (¬ s2.1 > 0) := hpos
           go_wp2
           go_roundg (l0.length - (k3 + 1))
           case measure => omega
           case rel =>
            refine ⟨k3 + 1, s2, rfl, by first | rfl | (congr 1; omega), by omega, Nat.le_refl _, (show _ = _ from ?_), HL6⟩
            show stepO l0 p.f0 (od.getD k3 0) (runO l0 p.f0 od s k3) = _
            rw [HS2.out, ← HJ.out]
            exact if_neg fun h => absurd h.1 (by have h2 := HPOS.out; omega)
         ·have hkl3 : k3 = l0.length := by omega
          have hltz3 : ¬ (k3 : Int) < (l0.length : Int) := by omega
          have hrl := kJ l0 cv dsc od l1 pc i
          go_wp2_with (at_builtin; refine yU w.heap.size rfl _ _ 39 3 (.int .i64 0) 1 8 rfl Tryz.underlying39 infoI rfl (by decide) (by decide) u14 (runP l0 cv dsc od l1 pc i).2.length ((runP l0 cv dsc od l1 pc i).2.map encI) [.int .i64 s2.1] rfl rfl rfl (by simp [Value.oneCell']) HL6.out.two.rst HL6.out.two.bel HL6.out.two.bel.size (by omega) ?_; intro v9 w9 hown9 hB9 hg9 hor9)
          have HO9 : Aside _ := hown9
          have HB9 : Aside _ := hB9
          have HG9 : Aside _ := hg9
          go_roundg (l1.length - (i + 1))
          case measure => omega
          case rel =>
           have hone : oneP l0 dsc od (rdA l1 i) (pc i) (runP l0 cv dsc od l1 pc i).1 = s2 := by
            unfold oneP
            rw [← HP.out, ← hkl, HS.out, hon, ← hkl3, HS2.out]
           refine ⟨i + 1, by first | rfl | (congr 1; omega), by omega, Nat.le_refl _, ?_, ?_⟩
           ·show ∀ j : Nat, j < i + 1 → (rdA l1 j).f0 ≤ day
            intro j hj
            rcases Nat.lt_succ_iff_lt_or_eq.1 hj with h | rfl
            ·exact HD.out j h
            ·rw [← HP.out]
             omega
           ·show Laid2 w _ l0 u8 _ v9 gs D od (oneP l0 dsc od (rdA l1 i) (pc i) (runP l0 cv dsc od l1 pc i).1).2 ((runP l0 cv dsc od l1 pc i).2 ++ [(oneP l0 dsc od (rdA l1 i) (pc i) (runP l0 cv dsc od l1 pc i).1).1])
            rw [hone]
            exact HL6.out.two.push HO9.out HG9.out HB9.out
    ·obtain rfl : i = l1.length := by omega
     have hltz : ¬ (l1.length : Int) < (l1.length : Int) := by omega
     go_wp2
     go_ret2
     first | exact ⟨l1.length, hi, HD.out, Or.inl rfl, u8, .slice ao l0.length co, u14, rfl, gs, D, HL.out⟩ | exact ⟨l1.length, u8, .slice ao l0.length co, u14, gs, D, hi, HD.out, Or.inl rfl, rfl, HL.out⟩
theorem both_calls (k : Nat) (A0 : Option Addr) (c0 : Nat) (l0 : List SDe) (A1 : Option Addr) (c1 : Nat) (l1 : List SPa) (nb : Nat → Bool) (mf : Nat → Int) (e1 : Int) (w : World) (hr0 : Kd.C k53 w A0 l0.length l0) (hc0 : l0.length ≤ c0)
  (hr1 : Kd.C k72 w A1 l1.length l1) (hc1 : l1.length ≤ c1)
  (hnb : ∀ i : Nat, i < l0.length → jH.f (rdD l0 i).f0 = some (nb i)) (hmf : ∀ i : Nat, i < l0.length → qY.f k (rdD l0 i).f2.f0 (rdD l0 i).f2.f1 = some (mf i)) (hcp : zC.f k l1 = some e1) :
  Calls Tryz.prog 22 #[.slice A0 l0.length c0, .slice A1 l1.length c1] w fun e w' => ∃ r : Int, e = .returned (.int .i64 r) ∧ (∃ rd, ChkD l0 nb mf rd ∧ r = if rd = 0 then e1 else rd) ∧ Below w.heap.size w w' := by
 have hcd := debts_calls k A0 c0 l0 nb mf w hr0 hc0 hnb hmf
 have HR1 := zQ.mk hr1
 clear hr0 hr1 hnb hmf
 go_enter Tryz.func22, Tryz.ntmps22
 go_upto_region 2 with (go_at_call 8; (with_reducible refine hcd.mono ?_); rintro e w5 ⟨rd, rfl, hd, hb⟩)
 have HD : Hid (ChkD l0 nb mf rd) := hd
 have HB : Hid (Below w.heap.size w w5) := hb
 clear hd hb
 by_cases h0 : rd = 0
 ·subst h0
  go_wp2_with (go_at_call 10; (with_reducible refine (zC.calls k A1 c1 l1 e1 w5 (Kd.xz HR1.out HB.out) hc1 hcp).mono ?_); rintro e w6 ⟨rfl, hb⟩)
  go_ret
  exact ⟨e1, rfl, ⟨0, HD.out, (if_pos rfl).symm⟩, HB.out.trans (hb.mono HB.out.size)⟩
 ·go_wp2
  go_ret
  exact ⟨rd, rfl, ⟨rd, HD.out, (if_neg h0).symm⟩, HB.out⟩
theorem R_other {α : Type} {d : Kd α} {e base e2 n size : Nat} {w w4 : World} {v v2 : Value} {xs : List α} {ys : List Value} (h : d.R e w base (fun _ => True) v xs) (hg : w.grownBy w4 v2.ownBlock) (h2 : w.ownsRow base e2 size v2 n ys) (hne : ∀ q, q ∈ e :: d.E → q ≠ e2) : d.R e w4 base (fun _ => True) v xs := by
 cases hv : v2.ownBlock with
 | none => exact Kd.R_step h fun k _ hk => hg.block k hk (by rw [hv]; simp)
 | some g =>
  obtain ⟨cur, hb, _⟩ := vT h2 hv.symm
  exact Kd.vF (Kd.R_step (Kd.zG h hb hne) fun k hk hlt => hg.block k hlt (by rw [hv]; intro e3; exact hk.2 (Option.some.inj e3))) fun _ _ => trivial
theorem Laid2.far {w wr w4 : World} {l0 : List SDe} {v vo vr v2 : Value} {gs : List Nat} {D : DataW Unit} {od : List Nat} {S : Nat → V4} {rest : List Int} {b2 e2 size n : Nat} {ys : List Value} (L : Laid2 w wr l0 v vo vr gs D od S rest)
  (h2 : wr.ownsRow b2 e2 size v2 n ys) (hg : wr.grownBy w4 v2.ownBlock) (hb : Below w.heap.size w w4) (n1 : e2 ≠ 60) (n2 : e2 ≠ 3) (n3 : e2 ≠ 62) : Laid2 w w4 l0 v vo vr gs D od S rest := by
 have hkeep : ∀ (i : Nat) (o : Obj), wr.heap[i]? = some o → (∀ cur, o ≠ .cells cur e2 (0, 0)) → w4.heap[i]? = some o := fun i o h hne => (hg.block i (xW h) (uH h2 h hne)).trans h
 have hrow : ∀ {v : Value} {n : Nat} {xs : List Value} {e : TypeId}, wr.ownsRow w.heap.size e 1 v n xs → e2 ≠ e → w4.ownsRow w.heap.size e 1 v n xs := fun h he => yS h fun i hi => by
  obtain ⟨cur, hc, _⟩ := vT h hi
  rw [hkeep i _ hc (by intro cur e; injection e with _ e2 _; exact he e2.symm), hc]
 obtain ⟨es, ck, hmb, hmr⟩ := L.map
 exact ⟨L.len, L.odl, L.odb, fun j g h => hkeep _ _ (L.obj j g h) (by intro cur e; injection e with _ e2 _; exact n3 e2.symm), L.nd, L.big, hrow L.row n1, hrow L.ord n1, hrow L.rst n2, ⟨es, ck, hkeep _ _ hmb (by intro cur e; cases e), hmr⟩, L.key, hb⟩
theorem own_of {α : Type} {d : Kd α} {e base : Nat} {w : World} {ok : Nat → Prop} {v : Value} {xs : List α} (h : d.R e w base ok v xs) : ∃ inner, w.ownsRow base e d.sz v xs.length inner := ⟨_, h.2.choose_spec.1⟩
def outP (l0 : List SDe) (tm : Int → S33) (S : Nat → V4) (j : Nat) : S35 := ⟨(rdD l0 j).f0, tm (S j).paid, tm (S j).taken, (S j).done⟩
theorem out_append {ops : Array Oper} {o : Oper} {a : Act} {Q : Exit → Act → World → Prop} {Kc : Act → World → Prop} (l0 : List SDe) (tm : Int → S33) (S : Nat → V4) (i : Nat) (hi : i < 200) {w5 W : World} (v : Value)
  (HO : Kd.R k35 35 W w5.heap.size (fun _ => True) v ((List.range i).map (outP l0 tm S))) (HB : Below w5.heap.size w5 W)
  (hw : Region.wanted o (yielded ops a.tmps) = true) (s x : Operand) (ho : o.op = .call { callee := .builtin .append, args := #[s, x], argTypes := #[24, 24] }) (hs : a.eval s = v) (hx : a.eval x = .slice (some ⟨W.heap.size, 0, none⟩) 1 1)
  (h : ∀ v1 w1, Kd.R k35 35 w1 w5.heap.size (fun _ => True) v1 ((List.range (i + 1)).map (outP l0 tm S)) → Below w5.heap.size w5 w1 → W.grownBy w1 v.ownBlock → Kc (a.put o.dst v1) w1) :
  if Region.wanted o (yielded ops a.tmps) = true then Oper.wp Tryz.prog o a (W.alloc (.cells #[.string (rdD l0 i).f0, .int .i64 (tm (S i).paid).f0, .int .i64 (tm (S i).paid).f1, .int .i64 (tm (S i).taken).f0, .int .i64 (tm (S i).taken).f1, .int .i64 (S i).done] 35)) Kc Q
  else Kc (a.put o.dst undef) (W.alloc (.cells #[.string (rdD l0 i).f0, .int .i64 (tm (S i).paid).f0, .int .i64 (tm (S i).paid).f1, .int .i64 (tm (S i).taken).f0, .int .i64 (tm (S i).taken).f1, .int .i64 (S i).done] 35)) := by
 have hlen : ((List.range i).map (outP l0 tm S)).length = i := by rw [List.length_map, List.length_range]
 obtain ⟨i0, hinf, hzz⟩ := Option.map_eq_some_iff.1 info35
 simp only [Prod.mk.injEq] at hzz
 obtain ⟨hz0, hz1, hz2⟩ := hzz
 obtain ⟨h0, inner, hown, hr⟩ := HO
 rw [if_pos hw]
 obtain ⟨v1, w1, hrun, hown1, hg, _, hat⟩ := run_append_own_at (P := Tryz.prog) (W.alloc (.cells #[.string (rdD l0 i).f0, .int .i64 (tm (S i).paid).f0, .int .i64 (tm (S i).paid).f1, .int .i64 (tm (S i).taken).f0, .int .i64 (tm (S i).taken).f1, .int .i64 (S i).done] 35)) w5.heap.size 24 o.type 35 i0 _ 6 56 Tryz.underlying24 hinf hz0 hz1 hz2 rfl (by decide) v ((List.range i).map (outP l0 tm S)).length inner (hown.alloc _) ⟨W.heap.size, 0, none⟩ 1 1 [.string (rdD l0 i).f0, .int .i64 (tm (S i).paid).f0, .int .i64 (tm (S i).paid).f1, .int .i64 (tm (S i).taken).f0, .int .i64 (tm (S i).taken).f1, .int .i64 (S i).done] rfl
  (by simpa using World.news_of_block (cs := #[.string (rdD l0 i).f0, .int .i64 (tm (S i).paid).f0, .int .i64 (tm (S i).paid).f1, .int .i64 (tm (S i).taken).f0, .int .i64 (tm (S i).taken).f1, .int .i64 (S i).done]) (t := 35) (fr := (0, 0)) (heap_alloc_new W _)) (by simp [Value.oneCell']) (by rw [hlen]; unfold maxLen; omega) (by rw [hlen]; omega) (by have := HB.size; simp; omega)
 have hG : W.grownBy w1 v.ownBlock := World.grownBy.trans (World.grownBy_alloc W _ _) hg
 unfold Oper.wp execOp
 simp only [ho, resolve, invoke, builtin, Sem.run_bind, Sem.run_pure, Result.andThen_ok, List.map_toArray, List.map_cons, List.map_nil, hs, hx, hrun]
 refine h v1 w1 ?_ (HB.grown hG HB.size fun b e => (vT hown e.symm).choose_spec.2) hG
 rw [List.range_succ, List.map_append]
 refine Kd.R_appended (p := outP l0 tm S i) (cs := [.string (rdD l0 i).f0, .int .i64 (tm (S i).paid).f0, .int .i64 (tm (S i).paid).f1, .int .i64 (tm (S i).taken).f0, .int .i64 (tm (S i).taken).f1, .int .i64 (S i).done]) h0 hr (k35_mkM _ _ (fun _ => False) (outP l0 tm S i)) (fun _ h => h.elim) (fun _ _ => trivial) hown1 hG ?_
 rcases hat with hat | hat
 ·exact .inl hat
 ·exact .inr ⟨_, hat, by simp⟩
theorem chk_zero {l0 : List SDe} {nb : Nat → Bool} {mf : Nat → Int} {r : Int} (hn : l0.length ≤ 200) (hok : ∀ i, i < l0.length → dF l0 nb mf i = 0) (h : ChkD l0 nb mf r) : r = 0 := by
 unfold ChkD at h
 rw [if_neg (by omega)] at h
 rcases h with h | ⟨i, hi, _, h1, h2⟩
 ·exact h.1
 ·exact absurd ((hok i hi).symm.trans h1).symm h2
theorem keep4 {W W' : World} {g : Nat} {v0 v1 v2 v3 : Value} {a b c d : Nat} (h : W.cell? ⟨g, a, none⟩ = some v0 ∧ W.cell? ⟨g, b, none⟩ = some v1 ∧ W.cell? ⟨g, c, none⟩ = some v2 ∧ W.cell? ⟨g, d, none⟩ = some v3) (hb : Below W.heap.size W W') : W'.cell? ⟨g, a, none⟩ = some v0 ∧ W'.cell? ⟨g, b, none⟩ = some v1 ∧ W'.cell? ⟨g, c, none⟩ = some v2 ∧ W'.cell? ⟨g, d, none⟩ = some v3 := by
 obtain ⟨h0, h1, h2, h3⟩ := h
 exact ⟨(hb.cell (World.block_lt_of_cell? W _ h0)).trans h0, (hb.cell (World.block_lt_of_cell? W _ h1)).trans h1, (hb.cell (World.block_lt_of_cell? W _ h2)).trans h2, (hb.cell (World.block_lt_of_cell? W _ h3)).trans h3⟩
theorem keep4g {W W' : World} {row : Option Nat} {g : Nat} {v0 v1 v2 v3 : Value} {a b c d : Nat} (hb : W.grownBy W' row) (h : W.cell? ⟨g, a, none⟩ = some v0 ∧ W.cell? ⟨g, b, none⟩ = some v1 ∧ W.cell? ⟨g, c, none⟩ = some v2 ∧ W.cell? ⟨g, d, none⟩ = some v3) (hne : some g ≠ row) : W'.cell? ⟨g, a, none⟩ = some v0 ∧ W'.cell? ⟨g, b, none⟩ = some v1 ∧ W'.cell? ⟨g, c, none⟩ = some v2 ∧ W'.cell? ⟨g, d, none⟩ = some v3 := by
 obtain ⟨h0, h1, h2, h3⟩ := h
 exact ⟨(hb.cell_far _ (World.block_lt_of_cell? W _ h0) hne).trans h0, (hb.cell_far _ (World.block_lt_of_cell? W _ h1) hne).trans h1, (hb.cell_far _ (World.block_lt_of_cell? W _ h2) hne).trans h2, (hb.cell_far _ (World.block_lt_of_cell? W _ h3) hne).trans h3⟩
theorem pay_all (k : Nat) (A0 : Option Addr) (c0 : Nat) (l0 : List SDe) (A1 : Option Addr) (c1 : Nat) (l1 : List SPa) (nb : Nat → Bool) (mf : Nat → Int) (cv pc : Nat → Int) (dsc : Nat → Int → Int) (od : List Nat) (tm : Int → S33) (w : World) (hr0 : Kd.C k53 w A0 l0.length l0) (hc0 : l0.length ≤ c0) (hn : l0.length ≤ 200)
  (hr1 : Kd.C k72 w A1 l1.length l1) (hc1 : l1.length ≤ c1) (hn1 : l1.length ≤ 500)
  (hnb : ∀ i : Nat, i < l0.length → jH.f (rdD l0 i).f0 = some (nb i)) (hmf : ∀ i : Nat, i < l0.length → qY.f k (rdD l0 i).f2.f0 (rdD l0 i).f2.f1 = some (mf i)) (hcp : zC.f k l1 = some 0)
  (hok : ∀ i, i < l0.length → dF l0 nb mf i = 0) (hday : ∀ i : Nat, i < l1.length → (rdA l1 i).f0 ≤ 3652059)
  (hnf : ∀ i : Nat, i < l1.length → (rdA l1 i).f2.length ≤ 100) (hod : ordA (fun j => (iniD l0 cv j).last) l0.length = od)
  (hcv : ∀ i : Nat, i < l0.length → xD.f k (rdD l0 i).f2.f0 (rdD l0 i).f2.f1 = some (cv i)) (hsz : ∀ i : Nat, i < l0.length → (rdD l0 i).f0.size ≤ maxLen)
  (hpc : ∀ i : Nat, i < l1.length → xD.f k (rdA l1 i).f1.f0 (rdA l1 i).f1.f1 = some (pc i)) (hsz1 : ∀ i : Nat, i < l1.length → ∀ j : Nat, j < (rdA l1 i).f2.length → (rdOf ByteArray.empty (rdA l1 i).f2 j).size ≤ maxLen)
  (hds : ∀ j : Nat, j < l0.length → ∀ o p t d : Int, jq.f k (rdD l0 j).f0 (rdD l0 j).f1 (rdD l0 j).f2.f0 (rdD l0 j).f2.f1 (rdD l0 j).f3 (rdD l0 j).f4 (rdD l0 j).f5 o p t d = some (dsc j o, (rdD l0 j).f0, (rdD l0 j).f1, (rdD l0 j).f2.f0, (rdD l0 j).f2.f1, (rdD l0 j).f3, (rdD l0 j).f4, (rdD l0 j).f5, o, p, t, d))
  (htmA : ∀ j : Nat, j < l0.length → jy.f k ((runP l0 cv dsc od l1 pc l1.length).1 j).paid = some ((tm ((runP l0 cv dsc od l1 pc l1.length).1 j).paid).f0, (tm ((runP l0 cv dsc od l1 pc l1.length).1 j).paid).f1) ∧ jy.f k ((runP l0 cv dsc od l1 pc l1.length).1 j).taken = some ((tm ((runP l0 cv dsc od l1 pc l1.length).1 j).taken).f0, (tm ((runP l0 cv dsc od l1 pc l1.length).1 j).taken).f1))
  (htmB : ∀ x ∈ (runP l0 cv dsc od l1 pc l1.length).2, jy.f k x = some ((tm x).f0, (tm x).f1)) :
  Calls Tryz.prog 6 #[.slice A0 l0.length c0, .slice A1 l1.length c1] w fun e w' => ∃ v1 v2 : Value, e = .returned (.tuple #[v1, v2, .int .i64 0]) ∧
   Kd.R k35 35 w' w.heap.size (fun _ => True) v1 ((List.range l0.length).map (outP l0 tm (runP l0 cv dsc od l1 pc l1.length).1)) ∧
   Kd.R k33 33 w' w.heap.size (fun _ => True) v2 ((runP l0 cv dsc od l1 pc l1.length).2.map tm) ∧ Below w.heap.size w w' := by
 have hbf := both_calls k A0 c0 l0 A1 c1 l1 nb mf 0 w hr0 hc0 hr1 hc1 hnb hmf hcp
 have HPY : Aside _ := fun (w5 : World) (hb : Below w.heap.size w w5) => payments_calls k A0 c0 l0 A1 c1 l1 3652059 cv pc dsc od w5 (Kd.xz hr0 hb) hc0 hn (Kd.xz hr1 hb) hc1 hn1 hnf hod hcv hsz hpc hsz1 hds
 have HZ : Aside _ := fun r (h : ChkD l0 nb mf r) => chk_zero hn hok h
 have HDY : Aside _ := hday
 have hrl := kJ l0 cv dsc od l1 pc l1.length
 clear hr0 hr1 hnb hmf hcp hok hday hnf hod hcv hsz hpc hsz1 hds
 go_enter Tryz.func6, Tryz.ntmps6
 go_upto_region 5 with (first | (go_at_call 22; (with_reducible refine hbf.mono ?_); rintro e w5 ⟨r, rfl, ⟨rd, hrd, hr⟩, hb⟩; obtain rfl := HZ.out rd hrd; rw [if_pos rfl] at hr; obtain rfl := hr; have HB : Hid (Below w.heap.size w _) := hb; clear hb hrd) | (go_at_call 23; have hh := HPY.out _ HB.out; (with_reducible refine hh.mono ?_); clear hh; rintro e w6 ⟨m, v, vo, vr, gs, D, hm, hml, hmr, rfl, hL⟩))
 obtain rfl : m = l1.length := by
  rcases hmr with h | h
  ·exact h
  ·by_cases hlt : m < l1.length
   ·have := HDY.out m hlt
    omega
   ·omega
 clear hm hml hmr hbf
 obtain ⟨R, hR⟩ : ∃ R, R = runP l0 cv dsc od l1 pc l1.length := ⟨_, rfl⟩
 rw [← hR] at hrl htmA htmB hL
 have HRR : Hid (runP l0 cv dsc od l1 pc l1.length = R) := hR.symm
 have HRL : Hid (R.2.length = l1.length) := hrl
 have hrb : R.2.length ≤ 500 := by omega
 clear hR hrl
 obtain ⟨av, cvv, rfl⟩ := own_slice hL.row
 obtain ⟨ar, cr, rfl⟩ := own_slice hL.rst
 have HL : Hid (Laid2 w5 w6 l0 (.slice av l0.length cvv) vo (.slice ar R.2.length cr) gs D od R.1 R.2) := hL
 have HTA : Aside _ := htmA
 have HTB : Aside _ := htmB
 clear hL htmA htmB
 go_wp2_with fail
 go_loopg [10, 30] l0.length (fun g1 v1 vi wr => ∃ i : Nat, vi = .int .i64 i ∧ i ≤ l0.length ∧ l0.length - i ≤ g1 ∧ Hid (Laid2 w5 wr l0 (.slice av l0.length cvv) vo (.slice ar R.2.length cr) gs D od R.1 R.2) ∧ Hid (Kd.R k35 35 wr w5.heap.size (fun _ => True) v1 ((List.range i).map (outP l0 tm R.1))))
 case atStart => exact ⟨0, rfl, Nat.zero_le _, Nat.le_refl _, HL, Kd.R_nil _ _ _ _ _⟩
 case round =>
  obtain ⟨i, rfl, hi, hg1, HL1, HO1⟩ := hrel
  clear HL
  by_cases hlt : i < l0.length
  ·have hltz : (i : Int) < (l0.length : Int) := by omega
   obtain ⟨ad, ea, hca⟩ := own_cell HL1.out.row i hlt
   cases ea
   obtain ⟨g, hg⟩ : ∃ g, gs[i]? = some g := ⟨gs[i]'(by rw [HL1.out.len]; exact hlt), List.getElem?_eq_getElem _⟩
   rw [List.getElem?_map, hg] at hca
   replace hca : wr.cell? (ad.add i) = some (.pointer (some ⟨g, 0, none⟩)) := hca
   have hob := HL1.out.obj i g hg
   have z0 : wr.cell? ⟨g, 0, none⟩ = some (.string (rdD l0 i).f0) := (zD hob 0).trans rfl
   have z8 : wr.cell? ⟨g, 8, none⟩ = some (.int .i64 (R.1 i).paid) := (zD hob 8).trans rfl
   have z9 : wr.cell? ⟨g, 9, none⟩ = some (.int .i64 (R.1 i).taken) := (zD hob 9).trans rfl
   have z10 : wr.cell? ⟨g, 10, none⟩ = some (.int .i64 (R.1 i).done) := (zD hob 10).trans rfl
   obtain ⟨hta, htb⟩ := HTA.out i hlt
   have hlen : ((List.range i).map (outP l0 tm R.1)).length = i := by rw [List.length_map, List.length_range]
   have HL9 : Aside ((((List.range i).map (outP l0 tm R.1)).length + 1) * 56 ≤ 140737488355328) := (show _ ≤ _ by rw [hlen]; omega)
   obtain ⟨inner, hown⟩ := own_of HO1.out
   have hne : some g ≠ u10.ownBlock := uH hown hob (by intro cur e; injection e with _ e2 _; exact absurd e2 (by decide))
   have HNE : Hid (some g ≠ u10.ownBlock) := hne
   have HOW : Aside _ := hown
   have HQ : Hid (Below wr.heap.size wr wr.drew) := (Below.refl _ _).drew
   clear hown hne hob hg
   go_upto_region 9 with fail
   go_region_held_law (fun w' => w'.cell? ⟨g, 0, none⟩ = some (.string (rdD l0 i).f0) ∧ w'.cell? ⟨g, 8, none⟩ = some (.int .i64 (R.1 i).paid) ∧ w'.cell? ⟨g, 9, none⟩ = some (.int .i64 (R.1 i).taken) ∧ w'.cell? ⟨g, 10, none⟩ = some (.int .i64 (R.1 i).done))
    (first | exact keep4 ⟨z0, z8, z9, z10⟩ ((Below.refl _ _).drew) | exact keep4 (by assumption) ((Below.refl _ _).alloc (Nat.le_refl _) _) | exact keep4 (by assumption) (by assumption) | exact keep4g hg9 (keep4 ⟨z0, z8, z9, z10⟩ HQ.out) HNE.out)
    (first
     | (go_at_call 24; (with_reducible refine (jy.calls k (R.1 i).paid _ _ _ hta).mono ?_); rintro e w9 ⟨rfl, hb⟩; have HQ2 : Hid (Below wr.heap.size wr _) := HQ.out.trans (hb.mono HQ.out.size); clear HQ; have HQ := HQ2; clear HQ2)
     | (go_at_call 24; (with_reducible refine (jy.calls k (R.1 i).taken _ _ _ htb).mono ?_); rintro e w9 ⟨rfl, hb⟩; have HQ2 : Hid (Below wr.heap.size wr _) := HQ.out.trans (hb.mono HQ.out.size); clear HQ; have HQ := HQ2; clear HQ2)
     | (refine out_append l0 tm R.1 i (by omega) u10 (Kd.xB HO1.out HQ.out) (HL1.out.bel.trans (HQ.out.mono HL1.out.bel.size)) rfl (.tmp 34) (.tmp 55) rfl rfl rfl ?_; intro v9 w9 hR9 hB9 hg9))
   simp only [List.getElem_toArray, List.getElem_cons_succ, List.getElem_cons_zero]
   try simp only [sq]
   go_wp2
   go_roundg (l0.length - (i + 1))
   case measure => omega
   case rel =>
    refine ⟨i + 1, by first | rfl | (congr 1; omega), by omega, Nat.le_refl _, ?_, hR9⟩
    exact (HL1.out.keep HQ.out).far (yS HOW.out fun j hj => HQ.out.block j (row_lt HOW.out hj)) hg9 hB9 (by decide) (by decide) (by decide)
  ·obtain rfl : i = l0.length := by omega
   have hltz : ¬ (l0.length : Int) < (l0.length : Int) := by omega
   go_wp2_with fail
   go_loopg [13, 60] R.2.length (fun g2 v2 vi2 wr2 => ∃ k2 : Nat, vi2 = .int .i64 k2 ∧ k2 ≤ R.2.length ∧ R.2.length - k2 ≤ g2 ∧ Hid (Laid2 w5 wr2 l0 (.slice av l0.length cvv) vo (.slice ar R.2.length cr) gs D od R.1 R.2) ∧ Hid (Kd.R k35 35 wr2 w5.heap.size (fun _ => True) u10 ((List.range l0.length).map (outP l0 tm R.1))) ∧ Hid (Kd.R k33 33 wr2 w5.heap.size (fun _ => True) v2 ((R.2.take k2).map tm)))
   case atStart => exact ⟨0, rfl, Nat.zero_le _, Nat.le_refl _, HL1, HO1, (show Kd.R _ _ _ _ _ _ [] from Kd.R_nil _ _ _ _ _)⟩
   case round =>
    obtain ⟨k2, rfl, hk2, hg2, HL2, HO2, HW2⟩ := hrel
    clear HL1 HO1
    by_cases hlt2 : k2 < R.2.length
    ·have hltz2 : (k2 : Int) < (R.2.length : Int) := by omega
     obtain ⟨ad2, ea2, hca2⟩ := own_cell HL2.out.rst k2 hlt2
     cases ea2
     obtain ⟨x, hx⟩ : ∃ x, R.2[k2]? = some x := ⟨R.2[k2], List.getElem?_eq_getElem hlt2⟩
     rw [List.getElem?_map, hx] at hca2
     replace hca2 : wr.cell? (ad2.add k2) = some (.int .i64 x) := hca2
     have htx := HTB.out x (List.mem_of_getElem? hx)
     have hlen2 : ((R.2.take k2).map tm).length = k2 := by rw [List.length_map, List.length_take]; omega
     have hsm : (((R.2.take k2).map tm).length + 1) * 16 ≤ 140737488355328 := by rw [hlen2]; omega
     have HSM : Aside _ := hsm
     have HX : Hid (R.2[k2]? = some x) := hx
     clear hx hlen2 hsm
     go_wp2_with (first
      | (go_at_call 24; (with_reducible refine (jy.calls k x _ _ _ htx).mono ?_); rintro e w9 ⟨rfl, hb⟩)
      | (at_builtin; refine Kd.vK k33 (w0 := w5) w5.heap.size rfl (.tmp 64) (.tmp 67) 25 33 _ 16 rfl Tryz.underlying25 info33 rfl (by decide) (by decide) u13 ((R.2.take k2).map tm) (tm x) _ (fun _ => True) (fun _ => False) rfl rfl (k33_mkM _ _ _ (tm x)) (fun _ h => h.elim) (fun _ _ => trivial) (Kd.xB HW2.out hb) (HL2.out.bel.trans (hb.mono HL2.out.bel.size)) (Nat.le_trans HL2.out.bel.size hb.size) HSM.out ?_; intro v10 w10 hR10 hB10 hg10 hor10))
     go_roundg (R.2.length - (k2 + 1))
     case measure => omega
     case rel =>
      refine ⟨k2 + 1, by first | rfl | (congr 1; omega), by omega, Nat.le_refl _, ?_, ?_, ?_⟩
      ·obtain ⟨inn, how⟩ := own_of (Kd.xB HW2.out hb)
       exact (HL2.out.keep hb).far how hg10 hB10 (by decide) (by decide) (by decide)
      ·obtain ⟨inn, how⟩ := own_of (Kd.xB HW2.out hb)
       exact R_other (Kd.xB HO2.out hb) hg10 how (by decide)
      ·show Kd.R _ _ _ _ _ _ ((R.2.take (k2 + 1)).map tm)
       rw [List.take_add_one, HX.out, List.map_append]
       exact hR10
    ·have hkl : k2 = R.2.length := by omega
     have hltz2 : ¬ (k2 : Int) < (R.2.length : Int) := by omega
     go_wp2
     go_ret3
     refine ⟨u10, u13, rfl, ?_, ?_, HB.out.trans (HL2.out.bel.mono HB.out.size)⟩
     ·rw [HRR.out]
      exact Kd.vU HO2.out HB.out.size
     ·rw [HRR.out]
      have h2 := Kd.vU HW2.out HB.out.size
      rw [hkl, List.take_length] at h2
      exact h2
theorem pay_bad (k : Nat) (A0 : Option Addr) (c0 : Nat) (l0 : List SDe) (A1 : Option Addr) (c1 : Nat) (l1 : List SPa) (nb : Nat → Bool) (mf : Nat → Int) (e1 : Int) (w : World) (hr0 : Kd.C k53 w A0 l0.length l0) (hc0 : l0.length ≤ c0)
  (hr1 : Kd.C k72 w A1 l1.length l1) (hc1 : l1.length ≤ c1)
  (hnb : ∀ i : Nat, i < l0.length → jH.f (rdD l0 i).f0 = some (nb i)) (hmf : ∀ i : Nat, i < l0.length → qY.f k (rdD l0 i).f2.f0 (rdD l0 i).f2.f1 = some (mf i)) (hcp : zC.f k l1 = some e1)
  (hbad : ∀ rd, ChkD l0 nb mf rd → (if rd = 0 then e1 else rd) ≠ 0) :
  Calls Tryz.prog 6 #[.slice A0 l0.length c0, .slice A1 l1.length c1] w fun e w' => ∃ r : Int, e = .returned (.tuple #[.slice none 0 0, .slice none 0 0, .int .i64 r]) ∧ (∃ rd, ChkD l0 nb mf rd ∧ r = if rd = 0 then e1 else rd) ∧ Below w.heap.size w w' := by
 have hbf := both_calls k A0 c0 l0 A1 c1 l1 nb mf e1 w hr0 hc0 hr1 hc1 hnb hmf hcp
 have HBD : Aside _ := hbad
 clear hr0 hr1 hnb hmf hcp hbad
 go_enter Tryz.func6, Tryz.ntmps6
 go_upto_region 2 with (go_at_call 22; (with_reducible refine hbf.mono ?_); rintro e w5 ⟨r, rfl, hh, hb⟩; have hr0 : r ≠ 0 := (by obtain ⟨rd, h1, h2⟩ := hh; rw [h2]; exact HBD.out rd h1); have HH : Aside _ := hh; clear hh)
 go_wp2
 go_ret3
 exact ⟨r, rfl, HH.out, hb⟩
theorem eqD (x : S33) (w : World) (n : Nat) : (Op.equalIn (n + 2) 33 (.agg #[.int .i64 x.f0, .int .i64 x.f1]) (.agg #[.int .i64 x.f0, .int .i64 x.f1])).run Tryz.prog w = .ok true w := by
 have u3 := Tryz.underlying3
 have a3 := Tryz.isAgg3
 have z3 := Tryz.sizeOf3
 have hS : Tryz.prog.underlying 33 = some (.struct (Tryz.prog.fieldsOf 33)) := by kernel_rfl
 have hp : Tryz.prog.stoodInHeld 33 = false := by kernel_rfl
 rw [run_equalIn_agg w (n + 1) 33 _ _ hS hp]
 simp only [Program.fieldsOf, Tryz.underlying33]
 go_simp
theorem neqD (x : S33) (w : World) : Sem.run Tryz.prog (binOp .neq 33 (.agg #[.int .i64 x.f0, .int .i64 x.f1]) (.agg #[.int .i64 x.f0, .int .i64 x.f1])) w = .ok (.bool false) w := by
 rw [run_neq_struct, show (10000 : Nat) = 9998 + 2 from rfl, eqD]
 rfl
theorem neqP (x : S35) (w : World) : Sem.run Tryz.prog (binOp .neq 35 (.agg #[.string x.f0, .int .i64 x.f1.f0, .int .i64 x.f1.f1, .int .i64 x.f2.f0, .int .i64 x.f2.f1, .int .i64 x.f3]) (.agg #[.string x.f0, .int .i64 x.f1.f0, .int .i64 x.f1.f1, .int .i64 x.f2.f0, .int .i64 x.f2.f1, .int .i64 x.f3])) w = .ok (.bool false) w := by
 have u3 := Tryz.underlying3
 have a3 := Tryz.isAgg3
 have z3 := Tryz.sizeOf3
 have u9 := Tryz.underlying9
 have a9 := Tryz.isAgg9
 have z9 := Tryz.sizeOf9
 have a33 := Tryz.isAgg33
 have z33 := Tryz.sizeOf33
 have hS : Tryz.prog.underlying 35 = some (.struct (Tryz.prog.fieldsOf 35)) := by kernel_rfl
 have hp : Tryz.prog.stoodInHeld 35 = false := by kernel_rfl
 rw [run_neq_struct, show (10000 : Nat) = 9999 + 1 from rfl, run_equalIn_agg w 9999 35 _ _ hS hp]
 simp only [Program.fieldsOf, Tryz.underlying35]
 have h1 := fun W => eqD x.f1 W 9997
 have h2 := fun W => eqD x.f2 W 9997
 go_simp
theorem eqDec_calls {w : World} {b1 b2 : Nat} {v1 v2 : Value} {xs : List S33} (h1 : Kd.R k33 33 w b1 (fun _ => True) v1 xs) (h2 : Kd.R k33 33 w b2 (fun _ => True) v2 xs) (hn : xs.length ≤ 1000) :
  Calls Tryz.prog 12 #[v1, v2] w fun e w' => e = .returned (.bool true) ∧ Below w.heap.size w w' := by
 obtain ⟨A1, c1, rfl, hc1, hC1⟩ := Kd.uj h1
 obtain ⟨A2, c2, rfl, hc2, hC2⟩ := Kd.uj h2
 have HC1 := zQ.mk hC1
 have HC2 := zQ.mk hC2
 have hg : Tryz.prog.eqGuardType Tryz.prog.depth 33 = false := by kernel_rfl
 clear h1 h2 hC1 hC2 hc1 hc2
 go_enter Tryz.func12, Tryz.ntmps12
 go_wp2_with fail
 go_loopg [13] xs.length (fun g1 vi wr => ∃ i : Nat, vi = .int .i64 i ∧ i ≤ xs.length ∧ xs.length - i ≤ g1 ∧ Hid (Below w.heap.size w wr))
 case atStart => exact ⟨0, rfl, Nat.zero_le _, Nat.le_refl _, Below.refl _ _⟩
 case round =>
  obtain ⟨i, rfl, hi, hg1, HB⟩ := hrel
  by_cases hlt : i < xs.length
  ·have hltz : (i : Int) < (xs.length : Int) := by omega
   have hi0 : (0 : Int) ≤ (i : Int) := by omega
   obtain ⟨ad1, e1, hx0, hx1⟩ := at_T33 HC1.out (i : Int) hi0 hltz
   obtain ⟨ad2, e2, hy0, hy1⟩ := at_T33 HC2.out (i : Int) hi0 hltz
   cases e1
   cases e2
   simp only [Int.toNat_natCast] at hx0 hx1 hy0 hy1
   obtain ⟨x, hx⟩ : ∃ x, x = rd_T33 xs i := ⟨_, rfl⟩
   rw [← hx] at hx0 hx1 hy0 hy1
   clear hx
   replace hx0 := hz ⟨HB.out⟩ hx0
   replace hy0 := hz ⟨HB.out⟩ hy0
   replace hx1 := hz ⟨HB.out⟩ hx1
   replace hy1 := hz ⟨HB.out⟩ hy1
   have hne := neqD x
   have hge := fun (a b : Operand) (W : World) => run_eqGuard_agg W .neq 33 a b #[.int .i64 x.f0, .int .i64 x.f1] #[.int .i64 x.f0, .int .i64 x.f1] hg
   go_upto_region 6 with fail
   go_quiet (fail)
   go_wp2
   go_roundg (xs.length - (i + 1))
   case measure => omega
   case rel => exact ⟨i + 1, by first | rfl | (congr 1; omega), by omega, Nat.le_refl _, jZ HB.out _⟩
  ·have hltz : ¬ (i : Int) < (xs.length : Int) := by omega
   go_wp2
   go_ret
   exact ⟨rfl, HB.out⟩
theorem eqPaid_calls {w : World} {b1 b2 : Nat} {v1 v2 : Value} {xs : List S35} (h1 : Kd.R k35 35 w b1 (fun _ => True) v1 xs) (h2 : Kd.R k35 35 w b2 (fun _ => True) v2 xs) (hn : xs.length ≤ 1000) :
  Calls Tryz.prog 11 #[v1, v2] w fun e w' => e = .returned (.bool true) ∧ Below w.heap.size w w' := by
 obtain ⟨A1, c1, rfl, hc1, hC1⟩ := Kd.uj h1
 obtain ⟨A2, c2, rfl, hc2, hC2⟩ := Kd.uj h2
 have HC1 := zQ.mk hC1
 have HC2 := zQ.mk hC2
 have hg : Tryz.prog.eqGuardType Tryz.prog.depth 35 = false := by kernel_rfl
 clear h1 h2 hC1 hC2 hc1 hc2
 go_enter Tryz.func11, Tryz.ntmps11
 go_wp2_with fail
 go_loopg [13] xs.length (fun g1 vi wr => ∃ i : Nat, vi = .int .i64 i ∧ i ≤ xs.length ∧ xs.length - i ≤ g1 ∧ Hid (Below w.heap.size w wr))
 case atStart => exact ⟨0, rfl, Nat.zero_le _, Nat.le_refl _, Below.refl _ _⟩
 case round =>
  obtain ⟨i, rfl, hi, hg1, HB⟩ := hrel
  by_cases hlt : i < xs.length
  ·have hltz : (i : Int) < (xs.length : Int) := by omega
   have hi0 : (0 : Int) ≤ (i : Int) := by omega
   obtain ⟨ad1, e1, hx0, hx1, hx2, hx3, hx4, hx5⟩ := at_T35 HC1.out (i : Int) hi0 hltz
   obtain ⟨ad2, e2, hy0, hy1, hy2, hy3, hy4, hy5⟩ := at_T35 HC2.out (i : Int) hi0 hltz
   cases e1
   cases e2
   simp only [Int.toNat_natCast] at hx0 hx1 hx2 hx3 hx4 hx5 hy0 hy1 hy2 hy3 hy4 hy5
   obtain ⟨x, hx⟩ : ∃ x, x = rd_T35 xs i := ⟨_, rfl⟩
   rw [← hx] at hx0 hx1 hx2 hx3 hx4 hx5 hy0 hy1 hy2 hy3 hy4 hy5
   clear hx
   replace hx0 := hz ⟨HB.out⟩ hx0
   replace hy0 := hz ⟨HB.out⟩ hy0
   replace hx1 := hz ⟨HB.out⟩ hx1
   replace hy1 := hz ⟨HB.out⟩ hy1
   replace hx2 := hz ⟨HB.out⟩ hx2
   replace hy2 := hz ⟨HB.out⟩ hy2
   replace hx3 := hz ⟨HB.out⟩ hx3
   replace hy3 := hz ⟨HB.out⟩ hy3
   replace hx4 := hz ⟨HB.out⟩ hx4
   replace hy4 := hz ⟨HB.out⟩ hy4
   replace hx5 := hz ⟨HB.out⟩ hx5
   replace hy5 := hz ⟨HB.out⟩ hy5
   have hne := neqP x
   have hge := fun (a b : Operand) (W : World) => run_eqGuard_agg W .neq 35 a b #[.string x.f0, .int .i64 x.f1.f0, .int .i64 x.f1.f1, .int .i64 x.f2.f0, .int .i64 x.f2.f1, .int .i64 x.f3] #[.string x.f0, .int .i64 x.f1.f0, .int .i64 x.f1.f1, .int .i64 x.f2.f0, .int .i64 x.f2.f1, .int .i64 x.f3] hg
   go_upto_region 6 with fail
   go_quiet (fail)
   go_wp2
   go_roundg (xs.length - (i + 1))
   case measure => omega
   case rel => exact ⟨i + 1, by first | rfl | (congr 1; omega), by omega, Nat.le_refl _, jZ HB.out _⟩
  ·have hltz : ¬ (i : Int) < (xs.length : Int) := by omega
   go_wp2
   go_ret
   exact ⟨rfl, HB.out⟩
abbrev SDc := S33
theorem C_one {α : Type} (d : Kd α) {W : World} {b : Nat} {t : TypeId} {x : α} {cs : List Value} (hK : d.K W x cs) (hb : W.heap[b]? = some (.cells cs.toArray t (0, 0))) : d.C W (some ⟨b, 0, none⟩) 1 [x] := by
 refine ⟨rfl, by decide, fun _ => ⟨_, rfl, fun j p hj => ?_⟩⟩
 cases j with
 | succ j => simp at hj
 | zero =>
  obtain rfl := Option.some.inj hj
  refine ⟨cs, d.K_len hK, hK, fun i u hu => ?_⟩
  rw [Nat.zero_mul, Nat.zero_add]
  exact World.news_of_block hb i u (by simpa using hu)
def awD : SDe := ⟨⟨#[97]⟩, 5, ⟨7, 0⟩, 0, 0, 0⟩
def awP : SPa := ⟨6, ⟨9, 0⟩, []⟩
def AwakeOK : Prop := ∀ (A0 : Option Addr) (A1 : Option Addr) (w : World), Kd.C k53 w A0 1 [awD] → Kd.C k72 w A1 1 [awP] →
 Calls Tryz.prog 6 #[.slice A0 1 1, .slice A1 1 1] w fun e w' => ∃ v1 v2 : Value, e = .returned (.tuple #[v1, v2, .int .i64 0]) ∧
  Kd.R k35 35 w' w.heap.size (fun _ => True) v1 [⟨⟨#[97]⟩, ⟨7, 0⟩, ⟨0, 0⟩, 6⟩] ∧ Kd.R k33 33 w' w.heap.size (fun _ => True) v2 [⟨2, 0⟩] ∧ Below w.heap.size w w'
theorem awake_calls (hA : AwakeOK) (w : World) : Calls Tryz.prog 13 #[] w fun e w' => e = .returned (.bool true) ∧ Below w.heap.size w w' := by
 have HA : Aside _ := hA
 clear hA
 go_enter Tryz.func13, Tryz.ntmps13
 have b1 := xM w (.cells #[.string ⟨#[97]⟩, .int .i64 5, .int .i64 7, .int .i64 0, .int .i64 0, .int .i64 0, .int .i64 0] 53 (0, 0))
 have c1 := C_one k53 (k53_mk _ awD) b1
 have b2 := xM (w.alloc (.cells #[.string ⟨#[97]⟩, .int .i64 5, .int .i64 7, .int .i64 0, .int .i64 0, .int .i64 0, .int .i64 0] 53 (0, 0))) (.cells #[.int .i64 6, .int .i64 9, .int .i64 0, .slice none 0 0] 72 (0, 0))
 rw [show (w.alloc (.cells #[.string ⟨#[97]⟩, .int .i64 5, .int .i64 7, .int .i64 0, .int .i64 0, .int .i64 0, .int .i64 0] 53 (0, 0))).heap.size = w.heap.size + 1 by simp] at b2
 have c2 := C_one k72 (k72_mk _ awP (A3 := none) (c3 := 0) (Nat.le_refl _) ⟨rfl, by decide, fun h => absurd h (by decide)⟩) b2
 have hcall := HA.out _ _ _ (Kd.xK c1 (.cells #[.int .i64 6, .int .i64 9, .int .i64 0, .slice none 0 0] 72 (0, 0))) c2
 have B1 : Hid (Below w.heap.size w _) := ((Below.refl w.heap.size w).alloc (Nat.le_refl _) (.cells #[.string ⟨#[97]⟩, .int .i64 5, .int .i64 7, .int .i64 0, .int .i64 0, .int .i64 0, .int .i64 0] 53 (0, 0))).alloc (by simp) (.cells #[.int .i64 6, .int .i64 9, .int .i64 0, .slice none 0 0] 72 (0, 0))
 clear b1 c1 b2 c2
 go_upto_region 2 with (go_at_call 6; (with_reducible refine hcall.mono ?_); rintro e w5 ⟨v1, v2, rfl, hR1, hR2, hB⟩)
 obtain ⟨A1, k1, rfl, _, hC1⟩ := Kd.uj hR1
 obtain ⟨A2, k2, rfl, _, hC2⟩ := Kd.uj hR2
 obtain ⟨a1, e1, x0, x1, x2, x3, x4, x5⟩ := at_T35 hC1 0 (by decide) (by decide)
 obtain ⟨a2, e2, z0, z1⟩ := at_T33 hC2 0 (by decide) (by decide)
 cases e1
 cases e2
 have B5 : Hid (Below w.heap.size w w5) := B1.out.trans (hB.mono B1.out.size)
 clear hR1 hR2 hC1 hC2 hcall x0 x1 x2 x3 x4 z1
 have ha0 : ∀ a : Addr, a.add 0 = a := fun a => by simp [Addr.add]
 simp only [Int.toNat_zero, Nat.zero_mul, ha0] at x5 z0
 replace x5 : w5.cell? ⟨a1.block, a1.off + 5, none⟩ = some (.int .i64 6) := x5
 replace z0 : w5.cell? a2 = some (.int .i64 2) := z0
 go_wp2
 go_ret
 exact ⟨rfl, B5.out⟩
abbrev SPd := S35
theorem mlaw (hA : AwakeOK) (A0 : Option Addr) (c0 n0 : Nat) (A1 : Option Addr) (c1 n1 : Nat) (w : World) (r0 d0 p0 : Int) (xs : List SPd) (ls : List SDc) (hx : xs.length ≤ 1000) (hl : ls.length ≤ 1000)
  (hRP : ∀ W, Below w.heap.size w W → Calls Tryz.prog 5 #[.slice A0 n0 c0, .slice A1 n1 c1] W fun e w' => ∃ v1 v2 : Value, e = .returned (.tuple #[v1, v2, .int .i64 r0]) ∧ Kd.R k35 35 w' W.heap.size (fun _ => True) v1 xs ∧ Kd.R k33 33 w' W.heap.size (fun _ => True) v2 ls ∧ Below W.heap.size W w')
  (hP : ∀ W, Below w.heap.size w W → Calls Tryz.prog 6 #[.slice A0 n0 c0, .slice A1 n1 c1] W fun e w' => ∃ v1 v2 : Value, e = .returned (.tuple #[v1, v2, .int .i64 r0]) ∧ Kd.R k35 35 w' W.heap.size (fun _ => True) v1 xs ∧ Kd.R k33 33 w' W.heap.size (fun _ => True) v2 ls ∧ Below W.heap.size W w')
  (hRD : ∀ W, Below w.heap.size w W → Calls Tryz.prog 7 #[.slice A0 n0 c0] W fun e w' => e = .returned (.int .i64 d0) ∧ Below W.heap.size W w')
  (hD : ∀ W, Below w.heap.size w W → Calls Tryz.prog 8 #[.slice A0 n0 c0] W fun e w' => e = .returned (.int .i64 d0) ∧ Below W.heap.size W w')
  (hRC : ∀ W, Below w.heap.size w W → Calls Tryz.prog 9 #[.slice A1 n1 c1] W fun e w' => e = .returned (.int .i64 p0) ∧ Below W.heap.size W w')
  (hC : ∀ W, Below w.heap.size w W → Calls Tryz.prog 10 #[.slice A1 n1 c1] W fun e w' => e = .returned (.int .i64 p0) ∧ Below W.heap.size W w') :
  Calls Tryz.prog 3 #[.slice A0 n0 c0, .slice A1 n1 c1] w fun e w' => e = .returned (.bool true) ∧ Below w.heap.size w w' := by
 have haw := awake_calls hA
 have HAW : Aside _ := haw
 have HRP : Aside _ := hRP
 have HP : Aside _ := hP
 have HRD : Aside _ := hRD
 have HD : Aside _ := hD
 have HRC : Aside _ := hRC
 have HC : Aside _ := hC
 have HB0 : Hid (Below w.heap.size w w) := Below.refl _ _
 clear hA hRP hP hRD hD hRC hC haw
 go_enter Tryz.func3, Tryz.ntmps3
 go_upto_region 2 with (go_at_call 5; (with_reducible refine (HRP.out _ HB0.out).mono ?_); rintro e w1 ⟨y, b, rfl, hy, hb, hB⟩)
 have HB1 : Hid (Below w.heap.size w w1) := hB
 have HY1 : Hid (Kd.R k35 35 w1 w.heap.size (fun _ => True) y xs) := hy
 have HL1 : Hid (Kd.R k33 33 w1 w.heap.size (fun _ => True) b ls) := hb
 clear hy hb hB
 go_upto_region 3 with (go_at_call 6; (with_reducible refine (HP.out _ HB1.out).mono ?_); rintro e w2 ⟨x, a, rfl, hx2, ha2, hB⟩)
 have HB : Hid (Below w.heap.size w w2) := HB1.out.trans (hB.mono HB1.out.size)
 have HY : Hid (Kd.R k35 35 w2 w.heap.size (fun _ => True) y xs) := Kd.xB HY1.out hB
 have HL : Hid (Kd.R k33 33 w2 w.heap.size (fun _ => True) b ls) := Kd.xB HL1.out hB
 have HX : Hid (Kd.R k35 35 w2 w1.heap.size (fun _ => True) x xs) := hx2
 have HM : Hid (Kd.R k33 33 w2 w1.heap.size (fun _ => True) a ls) := ha2
 have HQ : Hid (Below w2.heap.size w2 w2) := Below.refl _ _
 clear hx2 ha2 hB HY1 HL1 HB1
 go_wp2_with (first
  | (go_at_call 7; (with_reducible refine (HRD.out _ (HB.out.trans (HQ.out.mono HB.out.size))).mono ?_); rintro e w9 ⟨rfl, hb⟩; replace HQ : Hid (Below w2.heap.size w2 _) := HQ.out.trans (hb.mono HQ.out.size); clear hb)
  | (go_at_call 8; (with_reducible refine (HD.out _ (HB.out.trans (HQ.out.mono HB.out.size))).mono ?_); rintro e w9 ⟨rfl, hb⟩; replace HQ : Hid (Below w2.heap.size w2 _) := HQ.out.trans (hb.mono HQ.out.size); clear hb)
  | (go_at_call 9; (with_reducible refine (HRC.out _ (HB.out.trans (HQ.out.mono HB.out.size))).mono ?_); rintro e w9 ⟨rfl, hb⟩; replace HQ : Hid (Below w2.heap.size w2 _) := HQ.out.trans (hb.mono HQ.out.size); clear hb)
  | (go_at_call 10; (with_reducible refine (HC.out _ (HB.out.trans (HQ.out.mono HB.out.size))).mono ?_); rintro e w9 ⟨rfl, hb⟩; replace HQ : Hid (Below w2.heap.size w2 _) := HQ.out.trans (hb.mono HQ.out.size); clear hb)
  | (go_at_call 11; (with_reducible refine (eqPaid_calls (Kd.xB HX.out HQ.out) (Kd.xB HY.out HQ.out) hx).mono ?_); rintro e w9 ⟨rfl, hb⟩; replace HQ : Hid (Below w2.heap.size w2 _) := HQ.out.trans (hb.mono HQ.out.size); clear hb)
  | (go_at_call 12; (with_reducible refine (eqDec_calls (Kd.xB HM.out HQ.out) (Kd.xB HL.out HQ.out) hl).mono ?_); rintro e w9 ⟨rfl, hb⟩; replace HQ : Hid (Below w2.heap.size w2 _) := HQ.out.trans (hb.mono HQ.out.size); clear hb)
  | (go_at_call 13; (with_reducible refine (HAW.out _).mono ?_); rintro e w9 ⟨rfl, hb⟩; replace HQ : Hid (Below w2.heap.size w2 _) := HQ.out.trans (hb.mono HQ.out.size); clear hb))
 go_ret
 exact ⟨rfl, HB.out.trans (HQ.out.mono HB.out.size)⟩
theorem isDayR_eq (a : Int) : jJ.f a = some (dayB a) := by
 unfold jJ.f xk.f qG.f dayB
 by_cases h : 1 ≤ a <;> simp [h]
theorem within_eq (a b c : Int) : jF.f a b c = some (decide (b ≤ a) && decide (a ≤ c)) := by
 unfold jF.f
 by_cases h : b ≤ a <;> simp [h]
theorem outB_eq (d : SDe) : outB d = !((decide (0 ≤ d.f3) && decide (d.f3 ≤ 10000)) && (decide (0 ≤ d.f4) && decide (d.f4 ≤ d.f3)) && (decide (0 ≤ d.f5) && decide (d.f5 ≤ 1000))) := by
 unfold outB
 rw [Bool.eq_iff_iff]
 simp only [Bool.or_eq_true, decide_eq_true_eq, Bool.not_eq_true', Bool.and_eq_false_iff, decide_eq_false_iff_not]
 omega
def mfB (b : Bool) : Int := if b = true then 0 else 1
theorem rdebts_calls (k : Nat) (A0 : Option Addr) (c0 : Nat) (l0 : List SDe) (nb mb : Nat → Bool) (w : World) (hr0 : Kd.C k53 w A0 l0.length l0) (hc0 : l0.length ≤ c0)
  (hnb : ∀ i : Nat, i < l0.length → zS.f k (rdD l0 i).f0 = some (nb i)) (hmb : ∀ i : Nat, i < l0.length → zN.f k (rdD l0 i).f2.f0 (rdD l0 i).f2.f1 = some (mb i)) :
  Calls Tryz.prog 7 #[.slice A0 l0.length c0] w fun e w' => ∃ r : Int, e = .returned (.int .i64 r) ∧ ChkD l0 nb (fun i => mfB (mb i)) r ∧ Below w.heap.size w w' := by
 have HR0 := zQ.mk hr0
 have HNB : Aside _ := hnb
 have HMB : Aside _ := hmb
 obtain ⟨F, hF⟩ : ∃ F, F = dF l0 nb (fun i => mfB (mb i)) := ⟨_, rfl⟩
 have HF : Hid (F = dF l0 nb (fun i => mfB (mb i))) := hF
 clear hnb hmb hr0 hF
 go_enter Tryz.func7, Tryz.ntmps7
 by_cases hbig : 200 < l0.length
 ·have hbigz : (200 : Int) < (l0.length : Int) := by omega
  go_wp2
  go_ret
  exact ⟨2, rfl, by unfold ChkD; rw [if_pos hbig], Below.refl _ _⟩
 ·have hbigz : ¬ (200 : Int) < (l0.length : Int) := by omega
  go_wp2_with fail
  go_loopg [12] l0.length (fun g1 vi wr => ∃ i : Nat, vi = .int .i64 i ∧ i ≤ l0.length ∧ l0.length - i ≤ g1 ∧ Hid (∀ j : Nat, j < i → F j = 0) ∧ Hid (Below w.heap.size w wr))
  case atStart => exact ⟨0, rfl, Nat.zero_le _, Nat.le_refl _, (show ∀ j : Nat, j < 0 → _ from fun j hj => absurd hj (Nat.not_lt_zero _)), Below.refl _ _⟩
  case round =>
   obtain ⟨i, rfl, hi, hg1, HZ, HBL⟩ := hrel
   by_cases hlt : i < l0.length
   ·have hltz : (i : Int) < (l0.length : Int) := by omega
    have hi0q : (0 : Int) ≤ (i : Int) := by omega
    obtain ⟨ad, e0, hx0, hx1, hx2, hx3, hx4, hx5, hx6⟩ := uN HR0.out (i : Int) hi0q hltz
    cases e0
    simp only [Int.toNat_natCast] at hx0 hx1 hx2 hx3 hx4 hx5 hx6
    obtain ⟨d, hd⟩ : ∃ d, d = yx l0 i := ⟨_, rfl⟩
    rw [← hd] at hx0 hx1 hx2 hx3 hx4 hx5 hx6
    have HD : Hid (rdD l0 i = d) := hd.symm
    have hnm := HNB.out i hlt
    have hmo := HMB.out i hlt
    rw [show rdD l0 i = d from hd.symm] at hnm hmo
    clear hd
    have HB : zQ (Below w.heap.size w wr) := ⟨HBL.out⟩
    replace hx0 := hz HB hx0
    replace hx1 := hz HB hx1
    replace hx2 := hz HB hx2
    replace hx3 := hz HB hx3
    replace hx4 := hz HB hx4
    replace hx5 := hz HB hx5
    replace hx6 := hz HB hx6
    go_upto_region 6 with fail
    have BK4 : Hid ((wr.alloc (.cells #[.string d.f0, .int .i64 d.f1, .int .i64 d.f2.f0, .int .i64 d.f2.f1, .int .i64 d.f3, .int .i64 d.f4, .int .i64 d.f5] 53 (0, 0))).heap[wr.heap.size]? = some (.cells #[.string d.f0, .int .i64 d.f1, .int .i64 d.f2.f0, .int .i64 d.f2.f1, .int .i64 d.f3, .int .i64 d.f4, .int .i64 d.f5] 53 (0, 0))) := xM wr _
    have HB4 : Hid (Below w.heap.size w (wr.alloc (.cells #[.string d.f0, .int .i64 d.f1, .int .i64 d.f2.f0, .int .i64 d.f2.f1, .int .i64 d.f3, .int .i64 d.f4, .int .i64 d.f5] 53 (0, 0)))) := HBL.out.alloc HBL.out.size _
    generalize wr.heap.size = gb at BK4 ⊢
    generalize wr.alloc _ = w3 at BK4 HB4 ⊢
    clear hx0 hx1 hx2 hx3 hx4 hx5 hx6 HB HBL
    obtain ⟨y0, y1, y2, y3, y4, y5, y6⟩ := cz7 BK4.out
    have hcut := cut44 (some ad) l0.length c0 i hi hc0
    have HCUT : Aside _ := hcut
    obtain ⟨b1, hb1⟩ : ∃ b1, b1 = nb i := ⟨_, rfl⟩
    rw [← hb1] at hnm
    have HN1 : Hid (nb i = b1) := hb1.symm
    have CN : Aside _ := fun (W : World) => (zS.calls k d.f0 b1 W hnm).mono (R' := fun e w' => e = .returned (.bool b1) ∧ Below W.heap.size W w') fun e w' h => ⟨h.1, h.2.below⟩
    have hdy := isDayR_eq d.f1
    obtain ⟨b3, hb3⟩ : ∃ b3, b3 = dayB d.f1 := ⟨_, rfl⟩
    rw [← hb3] at hdy
    have HN3 : Hid (dayB (rdD l0 i).f1 = b3) := (show dayB (rdD l0 i).f1 = b3 by rw [HD.out]; exact hb3.symm)
    have CD : Aside _ := fun (W : World) => (jJ.calls d.f1 b3 W hdy).mono (R' := fun e w' => e = .returned (.bool b3) ∧ Below W.heap.size W w') fun e w' h => ⟨h.1, h.2.below⟩
    obtain ⟨b5, hb5⟩ : ∃ b5, b5 = mb i := ⟨_, rfl⟩
    rw [← hb5] at hmo
    have HN5 : Hid (mb i = b5) := hb5.symm
    have CM : Aside _ := fun (W : World) => zN.calls k d.f2.f0 d.f2.f1 b5 W hmo
    have HIT : Aside _ := fun (r : Int) (h : F i = r) (hr : r ≠ 0) => kY hbig hlt (HF.out ▸ HZ.out) (HF.out ▸ h) hr
    have HFI : Hid (F i = dF l0 nb (fun i => mfB (mb i)) i) := congrFun HF.out i
    clear hb1 hb3 hb5 hnm hdy hmo hcut
    cases b1 with
    | false =>
     go_wp2_with (go_at_call 25; (with_reducible refine (CN.out _).mono ?_); rintro e w5 ⟨rfl, hb⟩; replace HB4 : Hid (Below w.heap.size w _) := HB4.out.trans (hb.mono HB4.out.size); replace BK4 : Hid (_ = _) := qC BK4.out hb; clear y0 y1 y2 y3 y4 y5 y6 hb; obtain ⟨y0, y1, y2, y3, y4, y5, y6⟩ := cz7 BK4.out)
     go_ret
     exact ⟨5, rfl, HIT.out 5 (by rw [HFI.out]; unfold dF; rw [if_pos HN1.out]) (by decide), HB4.out⟩
    | true =>
    go_upto_region 8 with (go_at_call 25; (with_reducible refine (CN.out _).mono ?_); rintro e w5 ⟨rfl, hb⟩; replace HB4 : Hid (Below w.heap.size w _) := HB4.out.trans (hb.mono HB4.out.size); replace BK4 : Hid (_ = _) := qC BK4.out hb; clear y0 y1 y2 y3 y4 y5 y6 hb; obtain ⟨y0, y1, y2, y3, y4, y5, y6⟩ := cz7 BK4.out)
    have hcut := HCUT.out
    clear HCUT
    go_wp2_with fail
    go_loopg [25] i (fun g2 vj wr => ∃ j : Nat, vj = .int .i64 j ∧ j ≤ i ∧ i - j ≤ g2 ∧ Hid (∀ m : Nat, m < j → sameN (rdD l0 m).f0 d.f0 = false) ∧ Hid (Below w.heap.size w wr) ∧ Hid (wr.heap[gb]? = some (.cells #[.string d.f0, .int .i64 d.f1, .int .i64 d.f2.f0, .int .i64 d.f2.f1, .int .i64 d.f3, .int .i64 d.f4, .int .i64 d.f5] 53 (0, 0))))
    case atStart => exact ⟨0, rfl, Nat.zero_le _, Nat.le_refl _, (show ∀ j : Nat, j < 0 → _ from fun j hj => absurd hj (Nat.not_lt_zero _)), HB4, BK4⟩
    case round =>
     obtain ⟨j, rfl, hj, hg2, HS, HB5, BK5⟩ := hrel
     clear y0 y1 y2 y3 y4 y5 y6 HB4 BK4
     obtain ⟨y0, y1, y2, y3, y4, y5, y6⟩ := cz7 BK5.out
     by_cases hjl : j < i
     ·have hjz : (j : Int) < (i : Int) := by omega
      have hj0 : (0 : Int) ≤ (j : Int) := by omega
      have hjn : (j : Int) < (l0.length : Int) := by omega
      obtain ⟨ad2, e2, hx0, hx1, hx2, hx3, hx4, hx5, hx6⟩ := uN HR0.out (j : Int) hj0 hjn
      cases e2
      simp only [Int.toNat_natCast] at hx0 hx1 hx2 hx3 hx4 hx5 hx6
      obtain ⟨o, ho⟩ : ∃ o, o = yx l0 j := ⟨_, rfl⟩
      rw [← ho] at hx0 hx1 hx2 hx3 hx4 hx5 hx6
      have HO : Hid (rdD l0 j = o) := ho.symm
      clear ho
      have HB : zQ (Below w.heap.size w wr) := ⟨HB5.out⟩
      replace hx0 := hz HB hx0
      replace hx1 := hz HB hx1
      replace hx2 := hz HB hx2
      replace hx3 := hz HB hx3
      replace hx4 := hz HB hx4
      replace hx5 := hz HB hx5
      replace hx6 := hz HB hx6
      clear HB y0 y1 y2 y3 y4 y5 y6
      go_upto_region 11 with fail
      have BKo : (wr.alloc (.cells #[.string o.f0, .int .i64 o.f1, .int .i64 o.f2.f0, .int .i64 o.f2.f1, .int .i64 o.f3, .int .i64 o.f4, .int .i64 o.f5] 53 (0, 0))).heap[wr.heap.size]? = some (.cells #[.string o.f0, .int .i64 o.f1, .int .i64 o.f2.f0, .int .i64 o.f2.f1, .int .i64 o.f3, .int .i64 o.f4, .int .i64 o.f5] 53 (0, 0)) := xM wr _
      have HB6 : Hid (Below w.heap.size w (wr.alloc (.cells #[.string o.f0, .int .i64 o.f1, .int .i64 o.f2.f0, .int .i64 o.f2.f1, .int .i64 o.f3, .int .i64 o.f4, .int .i64 o.f5] 53 (0, 0)))) := HB5.out.alloc HB5.out.size _
      have BK6 : Hid ((wr.alloc (.cells #[.string o.f0, .int .i64 o.f1, .int .i64 o.f2.f0, .int .i64 o.f2.f1, .int .i64 o.f3, .int .i64 o.f4, .int .i64 o.f5] 53 (0, 0))).heap[gb]? = some (.cells #[.string d.f0, .int .i64 d.f1, .int .i64 d.f2.f0, .int .i64 d.f2.f1, .int .i64 d.f3, .int .i64 d.f4, .int .i64 d.f5] 53 (0, 0))) := zJ BK5.out _
      generalize wr.heap.size = gb2 at BKo ⊢
      generalize wr.alloc _ = w6 at BKo HB6 BK6 ⊢
      clear hx0 hx1 hx2 hx3 hx4 hx5 hx6 HB5 BK5
      have z0 : w6.cell? ⟨gb2, 0, none⟩ = some (.string o.f0) := (zD BKo 0).trans rfl
      have y0 : w6.cell? ⟨gb, 0, none⟩ = some (.string d.f0) := (zD BK6.out 0).trans rfl
      clear BKo
      cases hq : sameN o.f0 d.f0 with
      | true =>
       have hqq : (o.f0.toList == d.f0.toList) = true := hq
       have HT : Hid (twB l0 i = true) := (show _ = _ by
        unfold twB
        rw [HD.out, List.any_eq_true]
        refine ⟨o, ?_, hq⟩
        have h9 : (l0.take i)[j]? = some o := by
         rw [List.getElem?_take, if_pos hjl, ← HO.out]
         show l0[j]? = some (l0.getD (j : Int).toNat _)
         rw [Int.toNat_natCast, List.getD_eq_getElem?_getD, List.getElem?_eq_getElem (by omega)]
         rfl
        exact List.mem_of_getElem? h9)
       clear hq
       go_wp2
       go_ret
       exact ⟨7, rfl, HIT.out 7 (by rw [HFI.out]; unfold dF; rw [if_neg (by rw [HN1.out]; decide), if_pos HT.out]) (by decide), HB6.out⟩
      | false =>
       have hqq : (o.f0.toList == d.f0.toList) = false := hq
       have HQ : Hid (sameN o.f0 d.f0 = false) := hq
       clear hq
       go_wp2
       go_roundg (i - (j + 1))
       case measure => omega
       case rel =>
        refine ⟨j + 1, by first | rfl | (congr 1; omega), by omega, Nat.le_refl _, ?_, HB6, BK6⟩
        show ∀ m : Nat, m < j + 1 → _
        intro m hm
        rcases Nat.lt_succ_iff_lt_or_eq.1 hm with h | rfl
        ·exact HS.out m h
        ·rw [HO.out]
         exact HQ.out
     ·obtain rfl : j = i := by omega
      have hjz : ¬ (j : Int) < (j : Int) := by omega
      have HN2 : Hid (¬ twB l0 j = true) := (show ¬ _ = _ from fun h => by
       unfold twB at h
       rw [HD.out, List.any_eq_true] at h
       obtain ⟨x, hx, hs⟩ := h
       obtain ⟨m, hm, rfl⟩ := List.getElem_of_mem hx
       rw [List.length_take] at hm
       have h2 := HS.out m (by omega)
       rw [List.getElem_take] at hs
       have h3 : rdD l0 m = l0[m] := by
        show l0.getD (m : Int).toNat _ = _
        rw [Int.toNat_natCast, List.getD_eq_getElem?_getD, List.getElem?_eq_getElem (by omega)]
        rfl
       rw [← h3, h2] at hs
       cases hs)
      have HB4 : Hid (Below w.heap.size w wr) := HB5
      have BK4 : Hid (wr.heap[gb]? = some (.cells #[.string d.f0, .int .i64 d.f1, .int .i64 d.f2.f0, .int .i64 d.f2.f1, .int .i64 d.f3, .int .i64 d.f4, .int .i64 d.f5] 53 (0, 0))) := BK5
      clear HB5 BK5 HS hcut
      cases b3 with
      | false =>
       go_wp2_with (go_at_call 26; (with_reducible refine (CD.out _).mono ?_); rintro e w5 ⟨rfl, hb⟩; replace HB4 : Hid (Below w.heap.size w _) := HB4.out.trans (hb.mono HB4.out.size); replace BK4 : Hid (_ = _) := qC BK4.out hb; clear y0 y1 y2 y3 y4 y5 y6 hb; obtain ⟨y0, y1, y2, y3, y4, y5, y6⟩ := cz7 BK4.out)
       go_ret
       exact ⟨1, rfl, HIT.out 1 (by rw [HFI.out]; unfold dF; rw [if_neg (by rw [HN1.out]; decide), if_neg HN2.out, if_pos HN3.out]) (by decide), HB4.out⟩
      | true =>
      go_upto_region 16 with (go_at_call 26; (with_reducible refine (CD.out _).mono ?_); rintro e w5 ⟨rfl, hb⟩; replace HB4 : Hid (Below w.heap.size w _) := HB4.out.trans (hb.mono HB4.out.size); replace BK4 : Hid (_ = _) := qC BK4.out hb; clear y0 y1 y2 y3 y4 y5 y6 hb; obtain ⟨y0, y1, y2, y3, y4, y5, y6⟩ := cz7 BK4.out)
      go_cut [40] (fun v40 wc => ∃ b4 : Bool, v40 = .bool b4 ∧ Hid (b4 = true ↔ (0 < j ∧ d.f1 < (rdD l0 ((j - 1 : Nat) : Int)).f1)) ∧ Hid (Below w.heap.size w wc) ∧ Hid (wc.heap[gb]? = some (.cells #[.string d.f0, .int .i64 d.f1, .int .i64 d.f2.f0, .int .i64 d.f2.f1, .int .i64 d.f3, .int .i64 d.f4, .int .i64 d.f5] 53 (0, 0))))
      case first =>
       by_cases hi0 : 0 < j
       ·have hi0z : (0 : Int) < (j : Int) := by omega
        obtain ⟨m, hm⟩ : ∃ m, m = j - 1 := ⟨_, rfl⟩
        have hmi : m < l0.length := by omega
        have hmz : (m : Int) < (l0.length : Int) := by omega
        have hm0 : (0 : Int) ≤ (m : Int) := by omega
        obtain ⟨ad2, e2, hv0, hv1, hv2⟩ := uN HR0.out (m : Int) hm0 hmz
        cases e2
        rw [Int.toNat_natCast] at hv1
        replace hv1 := hz ⟨HB4.out⟩ hv1
        have wm : IntKind.i64.wrap ((j : Int) - 1) = (m : Int) := by rw [IntKind.wrap_i64]; omega
        have HM : Hid (m = j - 1) := hm
        clear hm hv0 hv2
        obtain ⟨pm, hpm⟩ : ∃ pm, pm = (yx l0 m).f1 := ⟨_, rfl⟩
        rw [← hpm] at hv1
        have HPM : Hid (pm = (rdD l0 m).f1) := hpm
        clear hpm
        go_quiet (fail)
        try go_wp2
        go_meet
        case rel =>
         refine ⟨decide (d.f1 < pm), by first | rfl | (simp; done), (show _ ↔ _ from ?_), jZ HB4.out _, zV BK4.out _⟩
         rw [decide_eq_true_iff, HPM.out, HM.out]
         exact ⟨fun h => ⟨hi0, h⟩, fun h => h.2⟩
       ·have hi0z : ¬ (0 : Int) < (j : Int) := by omega
        have hi0d : decide ((0 : Int) < (j : Int)) = false := decide_eq_false hi0z
        go_quiet (fail)
        try go_wp2
        go_meet
        case rel =>
         refine ⟨false, by first | rfl | (simp; done), (show _ ↔ _ from ?_), jZ HB4.out _, zV BK4.out _⟩
         exact ⟨fun h => (by cases h), fun h => absurd h.1 hi0⟩
      case rest =>
       obtain ⟨b4, rfl, HO, HB8, BK8⟩ := hcut
       clear y0 y1 y2 y3 y4 y5 y6 HB4 BK4
       have HB4 : Hid (Below w.heap.size w wc) := HB8
       have BK4 : Hid (wc.heap[gb]? = some (.cells #[.string d.f0, .int .i64 d.f1, .int .i64 d.f2.f0, .int .i64 d.f2.f1, .int .i64 d.f3, .int .i64 d.f4, .int .i64 d.f5] 53 (0, 0))) := BK8
       clear HB8 BK8
       obtain ⟨y0, y1, y2, y3, y4, y5, y6⟩ := cz7 BK4.out
       cases b4 with
       | true =>
        go_wp2
        go_ret
        exact ⟨8, rfl, HIT.out 8 (by rw [HFI.out]; unfold dF; rw [if_neg (by rw [HN1.out]; decide), if_neg HN2.out, if_neg (by rw [HN3.out]; decide), if_pos (by rw [HD.out]; exact HO.out.1 (by first | rfl | trivial))]) (by decide), HB4.out⟩
       | false =>
       have HO4 : Hid (¬ (0 < j ∧ (rdD l0 j).f1 < (rdD l0 ((j - 1 : Nat) : Int)).f1)) := (show ¬ _ from fun h => by
        rw [HD.out] at h
        have := HO.out.2 h
        cases this)
       have HFJ : Hid (F j = if mfB b5 ≠ 0 then mfB b5 else if outB (rdD l0 j) = true then 1 else 0) := (show _ = _ by
        rw [HFI.out]
        unfold dF
        rw [if_neg (by rw [HN1.out]; decide), if_neg HN2.out, if_neg (by rw [HN3.out]; decide), if_neg HO4.out]
        show (if mfB (mb j) ≠ 0 then mfB (mb j) else _) = _
        rw [HN5.out])
       clear HO
       have HO5 : Hid (outB (rdD l0 j) = !((decide (0 ≤ d.f3) && decide (d.f3 ≤ 10000)) && (decide (0 ≤ d.f4) && decide (d.f4 ≤ d.f3)) && (decide (0 ≤ d.f5) && decide (d.f5 ≤ 1000)))) := (show outB (rdD l0 j) = _ by rw [HD.out]; exact outB_eq d)
       have ho1 := within_eq d.f3 0 10000
       have ho2 := within_eq d.f4 0 d.f3
       have ho3 := within_eq d.f5 0 1000
       generalize (decide (0 ≤ d.f3) && decide (d.f3 ≤ 10000)) = o1 at ho1 HO5
       generalize (decide (0 ≤ d.f4) && decide (d.f4 ≤ d.f3)) = o2 at ho2 HO5
       generalize (decide (0 ≤ d.f5) && decide (d.f5 ≤ 1000)) = o3 at ho3 HO5
       have C1 : Aside _ := fun (W : World) => (jF.calls d.f3 0 10000 o1 W ho1).mono (R' := fun e w' => e = .returned (.bool o1) ∧ Below W.heap.size W w') fun e w' h => ⟨h.1, h.2.below⟩
       have C2 : Aside _ := fun (W : World) => (jF.calls d.f4 0 d.f3 o2 W ho2).mono (R' := fun e w' => e = .returned (.bool o2) ∧ Below W.heap.size W w') fun e w' h => ⟨h.1, h.2.below⟩
       have C3 : Aside _ := fun (W : World) => (jF.calls d.f5 0 1000 o3 W ho3).mono (R' := fun e w' => e = .returned (.bool o3) ∧ Below W.heap.size W w') fun e w' h => ⟨h.1, h.2.below⟩
       clear ho1 ho2 ho3
       cases b5 with
       | false =>
        go_wp2_with (first | (go_at_call 27; (with_reducible refine (CM.out _).mono ?_); rintro e w5 ⟨rfl, hb⟩; replace HB4 : Hid (Below w.heap.size w _) := HB4.out.trans (hb.mono HB4.out.size); replace BK4 : Hid (_ = _) := qC BK4.out hb; clear y0 y1 y2 y3 y4 y5 y6 hb; obtain ⟨y0, y1, y2, y3, y4, y5, y6⟩ := cz7 BK4.out))
        go_ret
        exact ⟨1, rfl, HIT.out 1 (by rw [HFJ.out]; rfl) (by decide), HB4.out⟩
       | true =>
       cases o1 with
       | false =>
        go_wp2_with (first | (go_at_call 27; (with_reducible refine (CM.out _).mono ?_); rintro e w5 ⟨rfl, hb⟩; replace HB4 : Hid (Below w.heap.size w _) := HB4.out.trans (hb.mono HB4.out.size); replace BK4 : Hid (_ = _) := qC BK4.out hb; clear y0 y1 y2 y3 y4 y5 y6 hb; obtain ⟨y0, y1, y2, y3, y4, y5, y6⟩ := cz7 BK4.out) | (go_at_call 28; (with_reducible refine (C1.out _).mono ?_); rintro e w5 ⟨rfl, hb⟩; replace HB4 : Hid (Below w.heap.size w _) := HB4.out.trans (hb.mono HB4.out.size); replace BK4 : Hid (_ = _) := qC BK4.out hb; clear y0 y1 y2 y3 y4 y5 y6 hb; obtain ⟨y0, y1, y2, y3, y4, y5, y6⟩ := cz7 BK4.out))
        go_ret
        exact ⟨1, rfl, HIT.out 1 (by rw [HFJ.out]; rw [HO5.out]; rfl) (by decide), HB4.out⟩
       | true =>
       cases o2 with
       | false =>
        go_wp2_with (first | (go_at_call 27; (with_reducible refine (CM.out _).mono ?_); rintro e w5 ⟨rfl, hb⟩; replace HB4 : Hid (Below w.heap.size w _) := HB4.out.trans (hb.mono HB4.out.size); replace BK4 : Hid (_ = _) := qC BK4.out hb; clear y0 y1 y2 y3 y4 y5 y6 hb; obtain ⟨y0, y1, y2, y3, y4, y5, y6⟩ := cz7 BK4.out) | (go_at_call 28; (with_reducible refine (C1.out _).mono ?_); rintro e w5 ⟨rfl, hb⟩; replace HB4 : Hid (Below w.heap.size w _) := HB4.out.trans (hb.mono HB4.out.size); replace BK4 : Hid (_ = _) := qC BK4.out hb; clear y0 y1 y2 y3 y4 y5 y6 hb; obtain ⟨y0, y1, y2, y3, y4, y5, y6⟩ := cz7 BK4.out) | (go_at_call 28; (with_reducible refine (C2.out _).mono ?_); rintro e w5 ⟨rfl, hb⟩; replace HB4 : Hid (Below w.heap.size w _) := HB4.out.trans (hb.mono HB4.out.size); replace BK4 : Hid (_ = _) := qC BK4.out hb; clear y0 y1 y2 y3 y4 y5 y6 hb; obtain ⟨y0, y1, y2, y3, y4, y5, y6⟩ := cz7 BK4.out))
        go_ret
        exact ⟨1, rfl, HIT.out 1 (by rw [HFJ.out]; rw [HO5.out]; rfl) (by decide), HB4.out⟩
       | true =>
       cases o3 with
       | false =>
        go_wp2_with (first | (go_at_call 27; (with_reducible refine (CM.out _).mono ?_); rintro e w5 ⟨rfl, hb⟩; replace HB4 : Hid (Below w.heap.size w _) := HB4.out.trans (hb.mono HB4.out.size); replace BK4 : Hid (_ = _) := qC BK4.out hb; clear y0 y1 y2 y3 y4 y5 y6 hb; obtain ⟨y0, y1, y2, y3, y4, y5, y6⟩ := cz7 BK4.out) | (go_at_call 28; (with_reducible refine (C1.out _).mono ?_); rintro e w5 ⟨rfl, hb⟩; replace HB4 : Hid (Below w.heap.size w _) := HB4.out.trans (hb.mono HB4.out.size); replace BK4 : Hid (_ = _) := qC BK4.out hb; clear y0 y1 y2 y3 y4 y5 y6 hb; obtain ⟨y0, y1, y2, y3, y4, y5, y6⟩ := cz7 BK4.out) | (go_at_call 28; (with_reducible refine (C2.out _).mono ?_); rintro e w5 ⟨rfl, hb⟩; replace HB4 : Hid (Below w.heap.size w _) := HB4.out.trans (hb.mono HB4.out.size); replace BK4 : Hid (_ = _) := qC BK4.out hb; clear y0 y1 y2 y3 y4 y5 y6 hb; obtain ⟨y0, y1, y2, y3, y4, y5, y6⟩ := cz7 BK4.out) | (go_at_call 28; (with_reducible refine (C3.out _).mono ?_); rintro e w5 ⟨rfl, hb⟩; replace HB4 : Hid (Below w.heap.size w _) := HB4.out.trans (hb.mono HB4.out.size); replace BK4 : Hid (_ = _) := qC BK4.out hb; clear y0 y1 y2 y3 y4 y5 y6 hb; obtain ⟨y0, y1, y2, y3, y4, y5, y6⟩ := cz7 BK4.out))
        go_ret
        exact ⟨1, rfl, HIT.out 1 (by rw [HFJ.out]; rw [HO5.out]; rfl) (by decide), HB4.out⟩
       | true =>
        go_wp2_with (first | (go_at_call 27; (with_reducible refine (CM.out _).mono ?_); rintro e w5 ⟨rfl, hb⟩; replace HB4 : Hid (Below w.heap.size w _) := HB4.out.trans (hb.mono HB4.out.size); replace BK4 : Hid (_ = _) := qC BK4.out hb; clear y0 y1 y2 y3 y4 y5 y6 hb; obtain ⟨y0, y1, y2, y3, y4, y5, y6⟩ := cz7 BK4.out) | (go_at_call 28; (with_reducible refine (C1.out _).mono ?_); rintro e w5 ⟨rfl, hb⟩; replace HB4 : Hid (Below w.heap.size w _) := HB4.out.trans (hb.mono HB4.out.size); replace BK4 : Hid (_ = _) := qC BK4.out hb; clear y0 y1 y2 y3 y4 y5 y6 hb; obtain ⟨y0, y1, y2, y3, y4, y5, y6⟩ := cz7 BK4.out) | (go_at_call 28; (with_reducible refine (C2.out _).mono ?_); rintro e w5 ⟨rfl, hb⟩; replace HB4 : Hid (Below w.heap.size w _) := HB4.out.trans (hb.mono HB4.out.size); replace BK4 : Hid (_ = _) := qC BK4.out hb; clear y0 y1 y2 y3 y4 y5 y6 hb; obtain ⟨y0, y1, y2, y3, y4, y5, y6⟩ := cz7 BK4.out) | (go_at_call 28; (with_reducible refine (C3.out _).mono ?_); rintro e w5 ⟨rfl, hb⟩; replace HB4 : Hid (Below w.heap.size w _) := HB4.out.trans (hb.mono HB4.out.size); replace BK4 : Hid (_ = _) := qC BK4.out hb; clear y0 y1 y2 y3 y4 y5 y6 hb; obtain ⟨y0, y1, y2, y3, y4, y5, y6⟩ := cz7 BK4.out))
        go_roundg (l0.length - (j + 1))
        case measure => omega
        case rel =>
         refine ⟨j + 1, by first | rfl | (congr 1; omega), by omega, Nat.le_refl _, ?_, HB4⟩
         show ∀ m : Nat, m < j + 1 → F m = 0
         intro m hm
         rcases Nat.lt_succ_iff_lt_or_eq.1 hm with h | rfl
         ·exact HZ.out m h
         ·rw [HFJ.out, HO5.out]
          rfl
   ·have hltz : ¬ (i : Int) < (l0.length : Int) := by omega
    have hil : i = l0.length := by omega
    go_wp2
    go_ret
    exact ⟨0, rfl, by unfold ChkD; rw [if_neg hbig]; exact .inl ⟨rfl, fun j hj => HF.out ▸ HZ.out j (by omega)⟩, HBL.out⟩
end Go.Proofs.YtaihfoihlbileaaGreatDoor.R6
namespace Go.Proofs.YtaihfoihlbileaaGreatDoor.R6
open Go Go.Proofs Go.RowKit YtaihfoihlbileaaGreatDoorW.PrintWords
def Tends {α : Type} (F : Nat → Option α) (v : α) : Prop := ∃ k0, ∀ k, k0 ≤ k → F k = some v
theorem Tends.const {α : Type} (v : α) : Tends (fun _ => some v) v := ⟨0, fun _ _ => rfl⟩
theorem Tends.of {α : Type} {F : Nat → Option α} {v : α} (h : ∀ k, F k = some v) : Tends F v := ⟨0, fun k _ => h k⟩
theorem Tends.bind {α β : Type} {F : Nat → Option α} {G : Nat → α → Option β} {a : α} {b : β} (hF : Tends F a) (hG : Tends (fun k => G k a) b) : Tends (fun k => (F k).bind (G k)) b := by
 obtain ⟨k0, h0⟩ := hF
 obtain ⟨k1, h1⟩ := hG
 refine ⟨max k0 k1, fun k hk => ?_⟩
 show (F k).bind (G k) = some b
 rw [h0 k (by omega)]
 exact h1 k (by omega)
theorem Tends.step {α : Type} {F B : Nat → Option α} {v : α} (h : ∀ k, F (k + 1) = B k) (hB : Tends B v) : Tends F v := by
 obtain ⟨k0, h0⟩ := hB
 refine ⟨k0 + 1, fun k hk => ?_⟩
 obtain ⟨j, rfl⟩ : ∃ j, k = j + 1 := ⟨k - 1, by omega⟩
 rw [h j]
 exact h0 j (by omega)
theorem w64 {n : Int} (h0 : -9223372036854775808 ≤ n) (h1 : n ≤ 9223372036854775807) : wrap64 n = n := by unfold wrap64; omega
def vl : List Int → Int
 | [] => 0
 | d :: r => d + 1000000 * vl r
def Dg (l : List Int) : Prop := ∀ d ∈ l, 0 ≤ d ∧ d < 1000000
def dgs (n : Nat) : List Int := if h : n = 0 then [] else ((n % 1000000 : Nat) : Int) :: dgs (n / 1000000)
termination_by n
decreasing_by omega
theorem yE : dgs 0 = [] := by unfold dgs; simp
theorem kX {n : Nat} (h : n ≠ 0) : dgs n = ((n % 1000000 : Nat) : Int) :: dgs (n / 1000000) := by
 rw [dgs]
 simp [h]
theorem Dg.nil : Dg [] := fun d h => by cases h
theorem Dg.cons {d : Int} {l : List Int} (h0 : 0 ≤ d) (h1 : d < 1000000) (h : Dg l) : Dg (d :: l) := by
 intro x hx
 rcases List.mem_cons.1 hx with rfl | hx
 ·exact ⟨h0, h1⟩
 ·exact h x hx
theorem Dg.head {d : Int} {l : List Int} (h : Dg (d :: l)) : 0 ≤ d ∧ d < 1000000 := h d (List.mem_cons_self ..)
theorem Dg.tail {d : Int} {l : List Int} (h : Dg (d :: l)) : Dg l := fun x hx => h x (List.mem_cons_of_mem _ hx)
theorem Dg.append {a b : List Int} (ha : Dg a) (hb : Dg b) : Dg (a ++ b) := fun x hx => by
 rcases List.mem_append.1 hx with h | h
 ·exact ha x h
 ·exact hb x h
theorem Dg.drop {l : List Int} (h : Dg l) (n : Nat) : Dg (l.drop n) := fun x hx => h x (List.mem_of_mem_drop hx)
theorem vl_nonneg : ∀ {l : List Int}, Dg l → 0 ≤ vl l
 | [], _ => Int.le_refl 0
 | d :: r, h => by
  have h1 := vl_nonneg h.tail
  have h2 := h.head
  show 0 ≤ d + 1000000 * vl r
  omega
theorem dgs_vl_cons {d : Int} {m : Nat} (h0 : 0 ≤ d) (h1 : d < 1000000) (h : d ≠ 0 ∨ m ≠ 0) : dgs (d + 1000000 * (m : Int)).toNat = d :: dgs m := by
 have e : (d + 1000000 * (m : Int)).toNat = d.toNat + 1000000 * m := by omega
 rw [e, kX (by omega)]
 have e1 : (d.toNat + 1000000 * m) % 1000000 = d.toNat := by omega
 have e2 : (d.toNat + 1000000 * m) / 1000000 = m := by omega
 rw [e1, e2]
 congr 1
 omega
def tr : List Int → List Int
 | [] => []
 | d :: r => if tr r = [] ∧ d = 0 then [] else d :: tr r
theorem tr_dgs : ∀ {l : List Int}, Dg l → tr l = dgs (vl l).toNat
 | [], _ => by simp [tr, vl, yE]
 | d :: r, h => by
  have ih := tr_dgs h.tail
  have hv := vl_nonneg h.tail
  have hd := h.head
  show (if tr r = [] ∧ d = 0 then [] else d :: tr r) = dgs (d + 1000000 * vl r).toNat
  rw [ih]
  obtain ⟨m, hm⟩ : ∃ m : Nat, vl r = (m : Int) := ⟨(vl r).toNat, by omega⟩
  rw [hm]
  simp only [Int.toNat_natCast]
  by_cases hz : d = 0 ∧ m = 0
  ·obtain ⟨rfl, rfl⟩ := hz
   simp [yE]
  ·rw [dgs_vl_cons hd.1 hd.2 (by omega)]
   rw [if_neg]
   rintro ⟨h1, h2⟩
   apply hz
   refine ⟨h2, ?_⟩
   by_cases hm0 : m = 0
   ·exact hm0
   ·rw [kX hm0] at h1
    cases h1
theorem yN : ∀ n, Dg (dgs n) := by
 intro n
 induction n using Nat.strongRecOn with
 | ind n ih =>
  by_cases h : n = 0
  ·subst h
   rw [yE]
   exact Dg.nil
  ·rw [kX h]
   exact Dg.cons (by omega) (by omega) (ih _ (by omega))
theorem vl_dgs : ∀ n : Nat, vl (dgs n) = (n : Int) := by
 intro n
 induction n using Nat.strongRecOn with
 | ind n ih =>
  by_cases h : n = 0
  ·subst h
   rw [yE]
   rfl
  ·rw [kX h]
   show ((n % 1000000 : Nat) : Int) + 1000000 * vl (dgs (n / 1000000)) = _
   rw [ih _ (by omega)]
   omega
theorem dgs_eq_nil {n : Nat} : dgs n = [] ↔ n = 0 := by
 constructor
 ·intro h
  by_cases hn : n = 0
  ·exact hn
  ·rw [kX hn] at h
   cases h
 ·rintro rfl
  exact yE
theorem dgs_len_pow : ∀ (m n : Nat), n < 1000000 ^ m → (dgs n).length ≤ m := by
 intro m
 induction m with
 | zero =>
  intro n h
  have : n = 0 := by simpa using h
  subst this
  simp [yE]
 | succ m ih =>
  intro n h
  by_cases hn : n = 0
  ·subst hn
   simp [yE]
  ·rw [kX hn]
   have : n / 1000000 < 1000000 ^ m := by
    rw [Nat.div_lt_iff_lt_mul (by omega)]
    rw [Nat.pow_succ] at h
    exact h
   have := ih _ this
   simp
   exact this
theorem tr_snoc_zero : ∀ l : List Int, tr (l ++ [0]) = tr l
 | [] => by simp [tr]
 | d :: r => by
  show (if tr (r ++ [0]) = [] ∧ d = 0 then [] else d :: tr (r ++ [0])) = (if tr r = [] ∧ d = 0 then [] else d :: tr r)
  rw [tr_snoc_zero r]
theorem tr_snoc_ne : ∀ (l : List Int) {x : Int}, x ≠ 0 → tr (l ++ [x]) = l ++ [x]
 | [], x, h => by simp [tr, h]
 | d :: r, x, h => by
  show (if tr (r ++ [x]) = [] ∧ d = 0 then [] else d :: tr (r ++ [x])) = d :: (r ++ [x])
  rw [tr_snoc_ne r h, if_neg]
  rintro ⟨h1, _⟩
  simp at h1
def enc (n : Int) : Bool × List Int := (decide (n < 0), dgs n.natAbs)
theorem rd_snoc (l : List Int) (x : Int) : rd (l ++ [x]) (l.length : Int) = x := by
 unfold rd
 simp
theorem rd_nat (l : List Int) (i : Nat) : rd l (i : Int) = l.getD i 0 := by
 unfold rd
 simp
theorem vl_drop (l : List Int) (i : Nat) : vl (l.drop i) = l.getD i 0 + 1000000 * vl (l.drop (i + 1)) := by
 by_cases h : i < l.length
 ·rw [List.drop_eq_getElem_cons h]
  show l[i] + 1000000 * vl (l.drop (i + 1)) = _
  simp [h]
 ·rw [List.drop_eq_nil_of_le (by omega), List.drop_eq_nil_of_le (by omega)]
  simp [vl, h]
theorem Dg.getD {l : List Int} (h : Dg l) (i : Nat) : 0 ≤ l.getD i 0 ∧ l.getD i 0 < 1000000 := by
 by_cases hi : i < l.length
 ·have := h l[i] (List.getElem_mem hi)
  simpa [hi] using this
 ·simp [hi]
theorem r_trimmed (neg : Bool) : ∀ (n : Nat) (l : List Int), l.length = n → n < 4611686018427387904 → Tends (fun k => zx.l0 k neg l) ((if tr l = [] then false else neg), tr l) := by
 intro n
 induction n with
 | zero =>
  intro l hl _
  obtain rfl := List.length_eq_zero_iff.1 hl
  refine Tends.step (fun k => by rw [zx.l0]) ?_
  exact Tends.of fun k => by simp [tr]
 | succ n ih =>
  intro l hl hn
  obtain rfl | ⟨l', x, rfl⟩ := List.eq_nil_or_concat l
  ·simp at hl
  rw [List.concat_eq_append] at hl ⊢
  have hl' : l'.length = n := by simpa using hl
  refine Tends.step (fun k => by rw [zx.l0]) ?_
  have hL : (l' ++ [x]).length = l'.length + 1 := by simp
  have e : wrap64 (((l' ++ [x]).length : Int) - 1) = (l'.length : Int) := by rw [w64 (by omega) (by omega)]; omega
  simp only [e]
  have c1 : ((l' ++ [x]).length : Int) > 0 := by omega
  have c2 : (0 : Int) ≤ (l'.length : Int) := by omega
  have c3 : (l'.length : Int) < ((l' ++ [x]).length : Int) := by omega
  have c4 : ¬ ((l' ++ [x]).length : Int) = 0 := by omega
  simp only [if_pos c1, if_pos c2, if_pos c3, rd_snoc, if_neg c4, if_pos (show (l'.length : Int) ≤ ((l' ++ [x]).length : Int) by omega)]
  by_cases hx : x = 0
  ·subst hx
   simp only [if_true, Int.toNat_natCast, List.take_left]
   rw [tr_snoc_zero]
   exact ih l' hl' (by omega)
  ·simp only [if_neg hx]
   rw [tr_snoc_ne _ hx]
   simp only [List.append_eq_nil_iff, List.cons_ne_self, and_false, if_false]
   exact Tends.const _
theorem r_trim {neg : Bool} {l : List Int} {m : Nat} (hl : l.length < 4611686018427387904) (hd : Dg l) (hv : vl l = (m : Int)) : Tends (fun k => zx.f k neg l) ((if m = 0 then false else neg), dgs m) := by
 have h := r_trimmed neg l.length l rfl hl
 rw [tr_dgs hd, hv, Int.toNat_natCast] at h
 simp only [dgs_eq_nil] at h
 exact h
theorem r_Of_l0 (neg : Bool) : ∀ (j : Nat) (x : Int) (ds : List Int), x.natAbs < 1000000 ^ j → -9223372036854775808 ≤ x → x ≤ 9223372036854775807 → ds.length + j < 17592186044416 → Tends (fun k => qZ.l0 k x neg ds) (neg, ds ++ dgs x.natAbs) := by
 intro j
 induction j with
 | zero =>
  intro x ds h _ _ _
  have hx : x = 0 := by
   have : x.natAbs = 0 := by simpa using h
   omega
  subst hx
  refine Tends.step (fun k => by rw [qZ.l0]) ?_
  simp only [if_true]
  exact Tends.of fun k => by simp [yE]
 | succ j ih =>
  intro x ds h h0 h1 hl
  refine Tends.step (fun k => by rw [qZ.l0]) ?_
  by_cases hx : x = 0
  ·subst hx
   simp only [if_true]
   exact Tends.of fun k => by simp [yE]
  ·simp only [if_neg hx, if_pos (show ds.length < 17592186044416 by omega)]
   have e1 : (x.tdiv 1000000).natAbs = x.natAbs / 1000000 := Int.natAbs_tdiv x 1000000
   have e2 : (x.tmod 1000000).natAbs = x.natAbs % 1000000 := Int.natAbs_tmod x 1000000
   have e3 : wrap64 (x.tdiv 1000000) = x.tdiv 1000000 := w64 (by omega) (by omega)
   have e4 : wrap64 (-(x.tmod 1000000)) = -(x.tmod 1000000) := w64 (by omega) (by omega)
   have e5 : mx (x.tmod 1000000) (-(x.tmod 1000000)) = ((x.natAbs % 1000000 : Nat) : Int) := by
    unfold mx
    split <;> omega
   have h2 : x.natAbs / 1000000 < 1000000 ^ j := by
    rw [Nat.div_lt_iff_lt_mul (by omega)]
    rw [Nat.pow_succ] at h
    exact h
   rw [e3, e4, e5]
   have hh := ih (x.tdiv 1000000) (ds ++ [((x.natAbs % 1000000 : Nat) : Int)]) (by rw [e1]; exact h2) (by omega) (by omega) (by simp; omega)
   rw [e1, List.append_assoc] at hh
   rw [kX (show x.natAbs ≠ 0 by omega)]
   exact hh
theorem r_Of {n : Int} (h0 : -9223372036854775808 ≤ n) (h1 : n ≤ 9223372036854775807) : Tends (fun k => qZ.f k n) (enc n) := by
  have h := r_Of_l0 (decide (n < 0)) 4 n [] (by have : (1000000 : Nat) ^ 4 = 1000000000000000000000000 := by rfl
                                                omega) h0 h1 (by simp)
  exact h
theorem r_Minus (n : Int) : jP.f (enc n).1 (enc n).2 = some (enc (-n)) := by
 unfold jP.f enc
 by_cases h : n = 0
 ·subst h
  simp [yE]
 ·have h1 : dgs n.natAbs ≠ [] := fun e => by rw [dgs_eq_nil] at e; omega
  have h2 : ((dgs n.natAbs).length : Int) > 0 := by
   have := List.length_pos_iff.2 h1
   omega
  simp only [if_pos h2, Int.natAbs_neg]
  congr 2
  by_cases hn : n < 0
  ·simp only [hn, decide_true, Bool.not_true]
   symm
   apply decide_eq_false
   omega
  ·simp only [hn, decide_false, Bool.not_false]
   symm
   apply decide_eq_true
   omega
theorem r_Sign (n : Int) : xZ.f (enc n).1 (enc n).2 = some n.sign := by
 unfold xZ.f enc
 by_cases h : n = 0
 ·subst h
  simp [yE]
 ·have h1 : dgs n.natAbs ≠ [] := fun e => by rw [dgs_eq_nil] at e; omega
  have h2 : ¬ ((dgs n.natAbs).length : Int) = 0 := by
   have := List.length_pos_iff.2 h1
   omega
  simp only [if_neg h2]
  by_cases hn : n < 0
  ·simp [hn, Int.sign_eq_neg_one_of_neg hn]
  ·simp [hn, Int.sign_eq_one_of_pos (show 0 < n by omega)]
def sz : List Int → List Int → Int
 | x :: a, y :: b => if sz a b = 0 then x - y else sz a b
 | _, _ => 0
theorem sz_snoc : ∀ (a b : List Int) (x y : Int), a.length = b.length → sz (a ++ [x]) (b ++ [y]) = if x = y then sz a b else x - y
 | [], [], x, y, _ => by simp [sz]; omega
 | u :: a, v :: b, x, y, h => by
  have ih := sz_snoc a b x y (by simpa using h)
  show (if sz (a ++ [x]) (b ++ [y]) = 0 then u - v else sz (a ++ [x]) (b ++ [y])) = _
  rw [ih]
  by_cases e : x = y
  ·simp [e, sz]
  ·simp [e]
   omega
 | [], _ :: _, _, _, h => by simp at h
 | _ :: _, [], _, _, h => by simp at h
theorem sz_vl : ∀ (a b : List Int), a.length = b.length → Dg a → Dg b → (sz a b < 0 ↔ vl a < vl b) ∧ (sz a b = 0 ↔ vl a = vl b) ∧ -1000000 < sz a b ∧ sz a b < 1000000
 | [], [], _, _, _ => by simp [sz, vl]
 | u :: a, v :: b, h, ha, hb => by
  have ih := sz_vl a b (by simpa using h) ha.tail hb.tail
  have h1 := ha.head
  have h2 := hb.head
  show ((if sz a b = 0 then u - v else sz a b) < 0 ↔ u + 1000000 * vl a < v + 1000000 * vl b) ∧ ((if sz a b = 0 then u - v else sz a b) = 0 ↔ u + 1000000 * vl a = v + 1000000 * vl b) ∧ _ < (if sz a b = 0 then u - v else sz a b) ∧ (if sz a b = 0 then u - v else sz a b) < _
  by_cases e : sz a b = 0
  ·simp only [e, if_true]
   have := ih.2.1.1 e
   omega
  ·simp only [e, if_false]
   have h3 : ¬ vl a = vl b := fun q => e (ih.2.1.2 q)
   have h4 := ih.1
   have h5 := ih.2.2
   refine ⟨?_, ?_, h5.1, h5.2⟩
   ·rw [h4]
    omega
   ·constructor
    ·intro q
     exact absurd q (by simp)
    ·intro q
     omega
 | [], _ :: _, h, _, _ => by simp at h
 | _ :: _, [], h, _, _ => by simp at h
theorem take_succ_getD {l : List Int} {i : Nat} (h : i < l.length) : l.take (i + 1) = l.take i ++ [l.getD i 0] := by
 rw [List.take_add_one]
 simp [h]
theorem r_sizes_l0 (a b : List Int) (ha : Dg a) (hb : Dg b) (hab : a.length = b.length) (hlen : a.length < 4611686018427387904) : ∀ (n : Nat), n ≤ a.length → Tends (fun k => zM.l0 k a b ((n : Int) - 1)) (sz (a.take n) (b.take n)) := by
 intro n
 induction n with
 | zero =>
  intro _
  refine Tends.step (fun k => by rw [zM.l0]) ?_
  exact Tends.of fun k => by simp [sz]
 | succ n ih =>
  intro hn
  refine Tends.step (fun k => by rw [zM.l0]) ?_
  have e0 : (((n + 1 : Nat) : Int) - 1) = (n : Int) := by omega
  simp only [e0]
  have g1 := ha.getD n
  have g2 := hb.getD n
  simp only [if_pos (show (n : Int) ≥ 0 by omega), if_pos (show (n : Int) < (a.length : Int) by omega), if_pos (show (n : Int) < (b.length : Int) by omega), rd_nat]
  rw [take_succ_getD (show n < a.length by omega), take_succ_getD (show n < b.length by omega), sz_snoc _ _ _ _ (by simp [hab])]
  by_cases e : a.getD n 0 = b.getD n 0
  ·simp only [if_pos e]
   rw [w64 (by omega) (by omega)]
   exact ih (by omega)
  ·simp only [if_neg e]
   rw [w64 (by omega) (by omega)]
   exact Tends.const _
theorem dgs_len_mono : ∀ (m n : Nat), n ≤ m → (dgs n).length ≤ (dgs m).length := by
 intro m
 induction m using Nat.strongRecOn with
 | ind m ih =>
  intro n h
  by_cases hn : n = 0
  ·subst hn
   simp [yE]
  ·rw [kX hn, kX (show m ≠ 0 by omega)]
   have := ih (m / 1000000) (by omega) (n / 1000000) (by omega)
   simp
   exact this
theorem r_sizes {m n : Nat} (hm : (dgs m).length < 4611686018427387904) (hn : (dgs n).length < 4611686018427387904) : ∃ t : Int, Tends (fun k => zM.f k (dgs m) (dgs n)) t ∧ (t < 0 ↔ m < n) := by
 unfold zM.f
 by_cases h : (dgs m).length = (dgs n).length
 ·refine ⟨sz (dgs m) (dgs n), ?_, ?_⟩
  ·simp only [if_pos (show ((dgs m).length : Int) = ((dgs n).length : Int) by omega)]
   rw [w64 (by omega) (by omega)]
   have := r_sizes_l0 (dgs m) (dgs n) (yN m) (yN n) h hm _ (Nat.le_refl _)
   rw [List.take_length, h, List.take_length] at this
   rw [h]
   exact this
  ·have := (sz_vl _ _ h (yN m) (yN n)).1
   rw [vl_dgs, vl_dgs] at this
   rw [this]
   omega
 ·refine ⟨((dgs m).length : Int) - ((dgs n).length : Int), ?_, ?_⟩
  ·simp only [if_neg (show ¬ ((dgs m).length : Int) = ((dgs n).length : Int) by omega)]
   rw [w64 (by omega) (by omega)]
   exact Tends.const _
  ·constructor
   ·intro hlt
    by_cases hmn : m < n
    ·exact hmn
    ·have := dgs_len_mono m n (by omega)
     omega
   ·intro hlt
    have := dgs_len_mono n m (by omega)
    omega
def addc : Nat → Int → List Int → List Int → List Int
 | 0, _, _, _ => []
 | n + 1, c, a, b => (a.getD 0 0 + b.getD 0 0 + c) % 1000000 :: addc n ((a.getD 0 0 + b.getD 0 0 + c) / 1000000) (a.drop 1) (b.drop 1)
theorem addc_vl : ∀ (n : Nat) (c : Int) (a b : List Int), Dg a → Dg b → 0 ≤ c → c ≤ 1 → Dg (addc n c a b) ∧ (vl a + vl b + c < 1000000 ^ n → vl (addc n c a b) = vl a + vl b + c)
 | 0, c, a, b, ha, hb, h0, h1 => by
  refine ⟨Dg.nil, fun h => ?_⟩
  have := vl_nonneg ha
  have := vl_nonneg hb
  simp only [Int.pow_zero] at h
  show (0 : Int) = _
  omega
 | n + 1, c, a, b, ha, hb, h0, h1 => by
  have g1 := ha.getD 0
  have g2 := hb.getD 0
  have ih := addc_vl n ((a.getD 0 0 + b.getD 0 0 + c) / 1000000) (a.drop 1) (b.drop 1) (ha.drop 1) (hb.drop 1) (by omega) (by omega)
  have e1 := vl_drop a 0
  have e2 := vl_drop b 0
  simp only [List.drop_zero, Nat.zero_add] at e1 e2
  refine ⟨Dg.cons (by omega) (by omega) ih.1, fun h => ?_⟩
  rw [Int.pow_succ] at h
  show (a.getD 0 0 + b.getD 0 0 + c) % 1000000 + 1000000 * vl (addc n _ _ _) = _
  rw [ih.2 (by omega)]
  omega
theorem addc_len : ∀ (n : Nat) (c : Int) (a b : List Int), (addc n c a b).length = n
 | 0, _, _, _ => rfl
 | n + 1, c, a, b => by
  show (addc n _ _ _).length + 1 = n + 1
  rw [addc_len n]
theorem r_digit (l : List Int) (i : Nat) : qE.f l (i : Int) = some (l.getD i 0) := by
 unfold qE.f
 by_cases h : i < l.length
 ·simp only [if_pos (show (i : Int) < (l.length : Int) by omega), if_pos (show (0 : Int) ≤ (i : Int) by omega), rd_nat]
 ·simp only [if_neg (show ¬ (i : Int) < (l.length : Int) by omega)]
  simp [h]
theorem uy (l : List Int) (i : Nat) : (l.drop i).getD 0 0 = l.getD i 0 := by
 simp [List.getD_eq_getElem?_getD, List.getElem?_drop]
theorem r_Plus_l1 (a b : List Int) (ha : Dg a) (hb : Dg b) (na nb neg : Bool) (N : Nat) (hN : N < 17592186044416) : ∀ (m i : Nat) (c : Int) (acc : List Int), m + i = N → acc.length = i → 0 ≤ c → c ≤ 1 → ∀ {v : Bool × List Int}, Tends (fun k => zx.f k neg (acc ++ addc m c (a.drop i) (b.drop i))) v → Tends (fun k => zX.l1 k c (N : Int) (i : Int) na a nb b neg acc) v := by
 intro m
 induction m with
 | zero =>
  intro i c acc hi hacc h0 h1 v hv
  refine Tends.step (fun k => by rw [zX.l1]) ?_
  simp only [if_neg (show ¬ (i : Int) < (N : Int) by omega)]
  rw [show addc 0 c (a.drop i) (b.drop i) = [] from rfl, List.append_nil] at hv
  exact Tends.bind hv (Tends.const _)
 | succ m ih =>
  intro i c acc hi hacc h0 h1 v hv
  refine Tends.step (fun k => by rw [zX.l1]) ?_
  have g1 := ha.getD i
  have g2 := hb.getD i
  simp only [if_pos (show (i : Int) < (N : Int) by omega), r_digit, Option.bind_some, if_pos (show acc.length < 17592186044416 by omega)]
  have e1 : wrap64 (a.getD i 0 + b.getD i 0) = a.getD i 0 + b.getD i 0 := w64 (by omega) (by omega)
  have e2 : wrap64 (a.getD i 0 + b.getD i 0 + c) = a.getD i 0 + b.getD i 0 + c := w64 (by omega) (by omega)
  have e3 : (a.getD i 0 + b.getD i 0 + c).tdiv 1000000 = (a.getD i 0 + b.getD i 0 + c) / 1000000 := Int.tdiv_eq_ediv_of_nonneg (by omega)
  have e4 : (a.getD i 0 + b.getD i 0 + c).tmod 1000000 = (a.getD i 0 + b.getD i 0 + c) % 1000000 := Int.tmod_eq_emod_of_nonneg (by omega)
  have e5 : wrap64 ((a.getD i 0 + b.getD i 0 + c) / 1000000) = (a.getD i 0 + b.getD i 0 + c) / 1000000 := w64 (by omega) (by omega)
  have e6 : wrap64 ((i : Int) + 1) = ((i + 1 : Nat) : Int) := by rw [w64] <;> omega
  rw [e1, e2, e3, e4, e5, e6]
  refine ih (i + 1) _ _ (by omega) (by simp; omega) (by omega) (by omega) ?_
  rw [show addc (m + 1) c (a.drop i) (b.drop i) = ((a.drop i).getD 0 0 + (b.drop i).getD 0 0 + c) % 1000000 :: addc m (((a.drop i).getD 0 0 + (b.drop i).getD 0 0 + c) / 1000000) ((a.drop i).drop 1) ((b.drop i).drop 1) from rfl] at hv
  rw [uy, uy, List.drop_drop, List.drop_drop] at hv
  rw [List.append_assoc]
  exact hv
def subc : Nat → Int → List Int → List Int → List Int
 | 0, _, _, _ => []
 | n + 1, c, a, b => if a.getD 0 0 - b.getD 0 0 - c < 0 then (a.getD 0 0 - b.getD 0 0 - c + 1000000) :: subc n 1 (a.drop 1) (b.drop 1) else (a.getD 0 0 - b.getD 0 0 - c) :: subc n 0 (a.drop 1) (b.drop 1)
theorem subc_len : ∀ (n : Nat) (c : Int) (a b : List Int), (subc n c a b).length = n
 | 0, _, _, _ => rfl
 | n + 1, c, a, b => by
  unfold subc
  split <;> simp [subc_len n]
theorem subc_vl : ∀ (n : Nat) (c : Int) (a b : List Int), Dg a → Dg b → 0 ≤ c → c ≤ 1 → Dg (subc n c a b) ∧ (vl b + c ≤ vl a → a.length ≤ n → vl (subc n c a b) = vl a - vl b - c)
 | 0, c, a, b, ha, hb, h0, h1 => by
  refine ⟨Dg.nil, fun h hl => ?_⟩
  have : a = [] := List.length_eq_zero_iff.1 (by omega)
  subst this
  have := vl_nonneg hb
  show (0 : Int) = _
  simp only [vl] at h ⊢
  omega
 | n + 1, c, a, b, ha, hb, h0, h1 => by
  have g1 := ha.getD 0
  have g2 := hb.getD 0
  have e1 := vl_drop a 0
  have e2 := vl_drop b 0
  simp only [List.drop_zero, Nat.zero_add] at e1 e2
  have i1 := subc_vl n 1 (a.drop 1) (b.drop 1) (ha.drop 1) (hb.drop 1) (by omega) (by omega)
  have i0 := subc_vl n 0 (a.drop 1) (b.drop 1) (ha.drop 1) (hb.drop 1) (by omega) (by omega)
  unfold subc
  by_cases hc : a.getD 0 0 - b.getD 0 0 - c < 0
  ·rw [if_pos hc]
   refine ⟨Dg.cons (by omega) (by omega) i1.1, fun h hl => ?_⟩
   show _ + 1000000 * vl (subc n 1 _ _) = _
   rw [i1.2 (by omega) (by simp; omega)]
   omega
  ·rw [if_neg hc]
   refine ⟨Dg.cons (by omega) (by omega) i0.1, fun h hl => ?_⟩
   show _ + 1000000 * vl (subc n 0 _ _) = _
   rw [i0.2 (by omega) (by simp; omega)]
   omega
theorem r_Plus_l0 (a b : List Int) (ha : Dg a) (hb : Dg b) (na nb neg : Bool) (hN : a.length < 17592186044416) : ∀ (m i : Nat) (c : Int) (acc : List Int), m + i = a.length → acc.length = i → 0 ≤ c → c ≤ 1 → ∀ {v : Bool × List Int}, Tends (fun k => zx.f k neg (acc ++ subc m c (a.drop i) (b.drop i))) v → Tends (fun k => zX.l0 k c (a.length : Int) (i : Int) na a nb b neg acc) v := by
 intro m
 induction m with
 | zero =>
  intro i c acc hi hacc h0 h1 v hv
  refine Tends.step (fun k => by rw [zX.l0]) ?_
  simp only [if_neg (show ¬ (i : Int) < (a.length : Int) by omega)]
  rw [show subc 0 c (a.drop i) (b.drop i) = [] from rfl, List.append_nil] at hv
  exact Tends.bind hv (Tends.const _)
 | succ m ih =>
  intro i c acc hi hacc h0 h1 v hv
  refine Tends.step (fun k => by rw [zX.l0]) ?_
  have g1 := ha.getD i
  have g2 := hb.getD i
  simp only [if_pos (show (i : Int) < (a.length : Int) by omega), if_pos (show (0 : Int) ≤ (i : Int) by omega), r_digit, rd_nat, Option.bind_some, if_pos (show acc.length < 17592186044416 by omega)]
  have e1 : wrap64 (a.getD i 0 - b.getD i 0) = a.getD i 0 - b.getD i 0 := w64 (by omega) (by omega)
  have e2 : wrap64 (a.getD i 0 - b.getD i 0 - c) = a.getD i 0 - b.getD i 0 - c := w64 (by omega) (by omega)
  have e3 : wrap64 (a.getD i 0 - b.getD i 0 - c + 1000000) = a.getD i 0 - b.getD i 0 - c + 1000000 := w64 (by omega) (by omega)
  have e6 : wrap64 ((i : Int) + 1) = ((i + 1 : Nat) : Int) := by rw [w64] <;> omega
  rw [e1, e2, e3, e6]
  unfold subc at hv
  rw [uy, uy, List.drop_drop, List.drop_drop] at hv
  by_cases hc : a.getD i 0 - b.getD i 0 - c < 0
  ·simp only [if_pos hc] at hv ⊢
   refine ih (i + 1) _ _ (by omega) (by simp; omega) (by omega) (by omega) ?_
   rw [List.append_assoc]
   exact hv
  ·simp only [if_neg hc] at hv ⊢
   refine ih (i + 1) _ _ (by omega) (by simp; omega) (by omega) (by omega) ?_
   rw [List.append_assoc]
   exact hv
theorem r_Plus_th_l0 (a b : List Int) (ha : Dg a) (hb : Dg b) (na nb neg : Bool) (hN : a.length < 17592186044416) : ∀ (m i : Nat) (c : Int) (acc : List Int), m + i = a.length → acc.length = i → 0 ≤ c → c ≤ 1 → ∀ {v : Bool × List Int}, Tends (fun k => zx.f k neg (acc ++ subc m c (a.drop i) (b.drop i))) v → Tends (fun k => zH.l0 k c (a.length : Int) (i : Int) na a nb b neg acc) v := by
 intro m
 induction m with
 | zero =>
  intro i c acc hi hacc h0 h1 v hv
  refine Tends.step (fun k => by rw [zH.l0]) ?_
  simp only [if_neg (show ¬ (i : Int) < (a.length : Int) by omega)]
  rw [show subc 0 c (a.drop i) (b.drop i) = [] from rfl, List.append_nil] at hv
  exact Tends.bind hv (Tends.const _)
 | succ m ih =>
  intro i c acc hi hacc h0 h1 v hv
  refine Tends.step (fun k => by rw [zH.l0]) ?_
  have g1 := ha.getD i
  have g2 := hb.getD i
  simp only [if_pos (show (i : Int) < (a.length : Int) by omega), if_pos (show (0 : Int) ≤ (i : Int) by omega), r_digit, rd_nat, Option.bind_some, if_pos (show acc.length < 17592186044416 by omega)]
  have e1 : wrap64 (a.getD i 0 - b.getD i 0) = a.getD i 0 - b.getD i 0 := w64 (by omega) (by omega)
  have e2 : wrap64 (a.getD i 0 - b.getD i 0 - c) = a.getD i 0 - b.getD i 0 - c := w64 (by omega) (by omega)
  have e3 : wrap64 (a.getD i 0 - b.getD i 0 - c + 1000000) = a.getD i 0 - b.getD i 0 - c + 1000000 := w64 (by omega) (by omega)
  have e6 : wrap64 ((i : Int) + 1) = ((i + 1 : Nat) : Int) := by rw [w64] <;> omega
  rw [e1, e2, e3, e6]
  unfold subc at hv
  rw [uy, uy, List.drop_drop, List.drop_drop] at hv
  by_cases hc : a.getD i 0 - b.getD i 0 - c < 0
  ·simp only [if_pos hc] at hv ⊢
   refine ih (i + 1) _ _ (by omega) (by simp; omega) (by omega) (by omega) ?_
   rw [List.append_assoc]
   exact hv
  ·simp only [if_neg hc] at hv ⊢
   refine ih (i + 1) _ _ (by omega) (by simp; omega) (by omega) (by omega) ?_
   rw [List.append_assoc]
   exact hv
theorem vl_lt_pow : ∀ {l : List Int}, Dg l → vl l < 1000000 ^ l.length
 | [], _ => by simp [vl]
 | d :: r, h => by
  have := vl_lt_pow h.tail
  have h1 := h.head
  rw [List.length_cons, Int.pow_succ]
  show d + 1000000 * vl r < _
  omega
theorem pow6_pos : ∀ n : Nat, 0 < (1000000 : Int) ^ n
 | 0 => by simp
 | n + 1 => by
  have := pow6_pos n
  rw [Int.pow_succ]
  omega
theorem pow_mono6 {a b : Nat} (h : a ≤ b) : (1000000 : Int) ^ a ≤ 1000000 ^ b := by
 induction h with
 | refl => exact Int.le_refl _
 | step _ ih =>
  rw [Int.pow_succ]
  have := pow6_pos a
  omega
def Lo (n : Int) : Prop := (dgs n.natAbs).length < 8796093022208
theorem r_Plus_fo_same {m n : Nat} (neg : Bool) (hm : (dgs m).length < 8796093022208) (hn : (dgs n).length < 8796093022208) : Tends (fun k => zX.f k neg (dgs m) neg (dgs n)) ((if m + n = 0 then false else neg), dgs (m + n)) := by
 unfold zX.f
 have e0 : ¬ (!(neg == neg)) = true := by simp
 simp only [if_neg e0]
 have v1 := vl_dgs m
 have v2 := vl_dgs n
 have p1 := vl_lt_pow (yN m)
 have p2 := vl_lt_pow (yN n)
 have key : ∀ N : Nat, (dgs m).length + 1 ≤ N → (dgs n).length + 1 ≤ N → N < 17592186044416 → Tends (fun k => zX.l1 k 0 (N : Int) 0 neg (dgs m) neg (dgs n) neg []) ((if m + n = 0 then false else neg), dgs (m + n)) := by
  intro N h1 h2 h3
  have q1 := pow_mono6 h1
  have q2 := pow_mono6 h2
  rw [Int.pow_succ] at q1 q2
  refine r_Plus_l1 (dgs m) (dgs n) (yN m) (yN n) neg neg neg N h3 N 0 0 [] (by omega) rfl (by omega) (by omega) ?_
  have hv := addc_vl N 0 (dgs m) (dgs n) (yN m) (yN n) (by omega) (by omega)
  simp only [List.drop_zero, List.nil_append]
  refine r_trim (by rw [addc_len]; omega) hv.1 ?_
  rw [hv.2 (by omega)]
  omega
 by_cases h : ((dgs m).length : Int) < ((dgs n).length : Int)
 ·simp only [if_pos h]
  rw [show wrap64 (((dgs n).length : Int) + 1) = (((dgs n).length + 1 : Nat) : Int) by rw [w64] <;> omega]
  exact key _ (by omega) (by omega) (by omega)
 ·simp only [if_neg h]
  rw [show wrap64 (((dgs m).length : Int) + 1) = (((dgs m).length + 1 : Nat) : Int) by rw [w64] <;> omega]
  exact key _ (by omega) (by omega) (by omega)
theorem r_Plus {a b : Int} (ha : Lo a) (hb : Lo b) : Tends (fun k => jY.f k (enc a).1 (enc a).2 (enc b).1 (enc b).2) (enc (a + b)) := by
 unfold Lo at ha hb
 unfold jY.f enc
 dsimp only
 by_cases hs : decide (a < 0) = decide (b < 0)
 ·have e0 : ¬ (!(decide (a < 0) == decide (b < 0))) = true := by simp [hs]
  simp only [if_neg e0]
  have h := r_Plus_fo_same (m := a.natAbs) (n := b.natAbs) (decide (b < 0)) ha hb
  rw [hs]
  have hs' : a < 0 ↔ b < 0 := by simpa using hs
  have e1 : a.natAbs + b.natAbs = (a + b).natAbs := by omega
  rw [e1] at h
  have e2 : (if (a + b).natAbs = 0 then false else decide (b < 0)) = decide (a + b < 0) := by
   split
   ·symm
    apply decide_eq_false
    omega
   ·congr 1
    apply propext
    omega
  rw [e2] at h
  exact h
 ·have e0 : (!(decide (a < 0) == decide (b < 0))) = true := by simpa using hs
  simp only [if_pos e0]
  have hs' : ¬ (a < 0 ↔ b < 0) := by simpa using hs
  obtain ⟨t, ht, htl⟩ := r_sizes (m := a.natAbs) (n := b.natAbs) (by omega) (by omega)
  refine Tends.bind ht ?_
  by_cases h : t < 0
  ·simp only [if_pos h]
   have hlt := htl.1 h
   unfold zH.f
   simp only [if_pos e0]
   refine Tends.bind ht ?_
   simp only [if_pos h]
   have hv := subc_vl (dgs b.natAbs).length 0 (dgs b.natAbs) (dgs a.natAbs) (yN _) (yN _) (by omega) (by omega)
   rw [vl_dgs, vl_dgs] at hv
   refine r_Plus_th_l0 (dgs b.natAbs) (dgs a.natAbs) (yN _) (yN _) _ _ _ (by omega) (dgs b.natAbs).length 0 0 [] (by omega) rfl (by omega) (by omega) ?_
   simp only [List.drop_zero, List.nil_append]
   have hr := r_trim (neg := decide (b < 0)) (m := (a + b).natAbs) (by rw [subc_len]; omega) hv.1 (by rw [hv.2 (by omega) (Nat.le_refl _)]; omega)
   have e2 : (if (a + b).natAbs = 0 then false else decide (b < 0)) = decide (a + b < 0) := by
    split
    ·symm
     apply decide_eq_false
     omega
    ·congr 1
     apply propext
     omega
   rw [e2] at hr
   exact hr
  ·simp only [if_neg h]
   have hge : b.natAbs ≤ a.natAbs := by
    by_cases q : a.natAbs < b.natAbs
    ·exact absurd (htl.2 q) h
    ·omega
   unfold zX.f
   simp only [if_pos e0]
   refine Tends.bind ht ?_
   simp only [if_neg h]
   have hv := subc_vl (dgs a.natAbs).length 0 (dgs a.natAbs) (dgs b.natAbs) (yN _) (yN _) (by omega) (by omega)
   rw [vl_dgs, vl_dgs] at hv
   refine r_Plus_l0 (dgs a.natAbs) (dgs b.natAbs) (yN _) (yN _) _ _ _ (by omega) (dgs a.natAbs).length 0 0 [] (by omega) rfl (by omega) (by omega) ?_
   simp only [List.drop_zero, List.nil_append]
   have hr := r_trim (neg := decide (a < 0)) (m := (a + b).natAbs) (by rw [subc_len]; omega) hv.1 (by rw [hv.2 (by omega) (Nat.le_refl _)]; omega)
   have e2 : (if (a + b).natAbs = 0 then false else decide (a < 0)) = decide (a + b < 0) := by
    split
    ·symm
     apply decide_eq_false
     omega
    ·congr 1
     apply propext
     omega
   rw [e2] at hr
   exact hr
theorem Lo.neg {a : Int} (h : Lo a) : Lo (-a) := by
 unfold Lo at h ⊢
 rw [Int.natAbs_neg]
 exact h
theorem r_Cmp {a b : Int} (ha : Lo a) (hb : Lo b) : Tends (fun k => jv.f k (enc a).1 (enc a).2 (enc b).1 (enc b).2) (a - b).sign := by
 unfold jv.f
 simp only [r_Minus, Option.bind_some]
 refine Tends.bind (r_Plus ha hb.neg) ?_
 simp only [r_Sign, Option.bind_some]
 rw [Int.sub_eq_add_neg]
 exact Tends.const _
theorem vl_set : ∀ (l : List Int) (p : Nat) (v : Int), p < l.length → vl (l.set p v) = vl l + (v - l.getD p 0) * 1000000 ^ p
 | [], p, v, h => by simp at h
 | d :: r, 0, v, _ => by
  show v + 1000000 * vl r = d + 1000000 * vl r + (v - d) * 1
  omega
 | d :: r, p + 1, v, h => by
  have ih := vl_set r p v (by simpa using h)
  show d + 1000000 * vl (r.set p v) = d + 1000000 * vl r + (v - r.getD p 0) * 1000000 ^ (p + 1)
  rw [ih, Int.pow_succ]
  grind
theorem getD_set (l : List Int) (p q : Nat) (v : Int) (hp : p < l.length) : (l.set p v).getD q 0 = if q = p then v else l.getD q 0 := by
 by_cases h : q = p
 ·subst h
  simp [hp]
 ·simp only [List.getD_eq_getElem?_getD, List.getElem?_set]
  have h' : ¬ p = q := fun e => h e.symm
  simp [h, h']
theorem set_getD (l : List Int) (p : Nat) (hp : p < l.length) : l.set p (l.getD p 0) = l := by
 apply List.ext_getElem?
 intro i
 rw [List.getElem?_set]
 by_cases h : p = i
 ·subst h
  simp [hp]
 ·simp [h]
def RowI (n i j lb : Nat) (out : List Int) : Prop :=
 out.length = n ∧ (∀ q, 0 ≤ out.getD q 0) ∧ (∀ q, q ≠ i + j → out.getD q 0 < 1000000) ∧ out.getD (i + j) 0 ≤ 1999998 ∧ (∀ q, i + lb ≤ q → q ≠ i + j → out.getD q 0 = 0) ∧ (j = lb → out.getD (i + j) 0 < 1000000)
theorem r_TimesOf_l1 (a b : List Int) (ha : Dg a) (hb : Dg b) (nb neg : Bool) (n : Nat) (hn : n = a.length + b.length + 1) (hbig : n ≤ 35184372088832) (i : Nat) (hi : i < a.length) : ∀ (m j : Nat) (out : List Int), m + j = b.length → RowI n i j b.length out →
  ∃ out' : List Int, RowI n i b.length b.length out' ∧ vl out' = vl out + a.getD i 0 * vl (b.drop j) * 1000000 ^ (i + j) ∧ ∀ {v : Bool × List Int}, Tends (fun k => zZ.l0 k a (a.length : Int) ((i + 1 : Nat) : Int) nb b neg out') v → Tends (fun k => zZ.l1 k (i : Int) (a.getD i 0) a (a.length : Int) (i : Int) b (b.length : Int) (j : Int) nb b neg out) v := by
 intro m
 induction m with
 | zero =>
  intro j out hm hI
  have hj : j = b.length := by omega
  subst hj
  refine ⟨out, hI, ?_, ?_⟩
  ·rw [List.drop_eq_nil_of_le (Nat.le_refl _)]
   simp [vl]
  ·intro v hv
   refine Tends.step (fun k => by rw [zZ.l1]) ?_
   simp only [if_neg (show ¬ (b.length : Int) < (b.length : Int) by omega)]
   rw [show wrap64 ((i : Int) + 1) = ((i + 1 : Nat) : Int) by rw [w64] <;> omega]
   exact hv
 | succ m ih =>
  intro j out hm hI
  have w1 : wrap64 ((i : Int) + (j : Int)) = ((i + j : Nat) : Int) := by rw [w64] <;> omega
  have w2 : wrap64 (((i + j : Nat) : Int) + 1) = ((i + j + 1 : Nat) : Int) := by rw [w64] <;> omega
  have w3 : wrap64 ((j : Int) + 1) = ((j + 1 : Nat) : Int) := by rw [w64] <;> omega
  have hol := hI.1
  have c1 : (j : Int) < (b.length : Int) := by omega
  have c2 : (0 : Int) ≤ (j : Int) := by omega
  have c3 : (0 : Int) ≤ ((i + j : Nat) : Int) := by omega
  have c4 : ((i + j : Nat) : Int) < (out.length : Int) := by omega
  have c5 : (0 : Int) ≤ ((i + j + 1 : Nat) : Int) := by omega
  have c6 : ((i + j + 1 : Nat) : Int) < (out.length : Int) := by omega
  obtain ⟨h1, h2, h3, h4, h5, h6⟩ := hI
  have ga := ha.getD i
  have gb := hb.getD j
  have hx0 : 0 ≤ a.getD i 0 * b.getD j 0 := Int.mul_nonneg ga.1 gb.1
  have hx1 : a.getD i 0 * b.getD j 0 ≤ 999999 * 999999 := Int.mul_le_mul (by omega) (by omega) gb.1 (by omega)
  obtain ⟨x, hx⟩ : ∃ x, a.getD i 0 * b.getD j 0 = x := ⟨_, rfl⟩
  rw [hx] at hx0 hx1
  obtain ⟨o, ho⟩ : ∃ o, out.getD (i + j) 0 = o := ⟨_, rfl⟩
  obtain ⟨o1, ho1⟩ : ∃ o1, out.getD (i + j + 1) 0 = o1 := ⟨_, rfl⟩
  have q0 := h2 (i + j)
  have q1 := h2 (i + j + 1)
  have q2 := h3 (i + j + 1) (by omega)
  rw [ho] at q0 h4
  rw [ho1] at q1 q2
  have k0 : 0 ≤ (o + x) / 1000000 := by omega
  have k1 : (o + x) / 1000000 ≤ 999999 := by omega
  have k2 : 0 ≤ (o + x) % 1000000 := by omega
  have k3 : (o + x) % 1000000 < 1000000 := by omega
  have k4 := Int.emod_add_mul_ediv (o + x) 1000000
  have l1 : (out.set (i + j) (o + x)).length = out.length := by simp
  have l2 : ((out.set (i + j) (o + x)).set (i + j + 1) (o1 + (o + x) / 1000000)).length = out.length := by simp
  have s1 : (out.set (i + j) (o + x)).getD (i + j) 0 = o + x := by rw [getD_set _ _ _ _ (by omega), if_pos rfl]
  have s2 : (out.set (i + j) (o + x)).getD (i + j + 1) 0 = o1 := by rw [getD_set _ _ _ _ (by omega), if_neg (by omega), ho1]
  have s3 : ((out.set (i + j) (o + x)).set (i + j + 1) (o1 + (o + x) / 1000000)).getD (i + j) 0 = o + x := by rw [getD_set _ _ _ _ (by omega), if_neg (by omega), s1]
  have u0 : wrap64 x = x := w64 (by omega) (by omega)
  have u1 : wrap64 (o + x) = o + x := w64 (by omega) (by omega)
  have u2 : (o + x).tdiv 1000000 = (o + x) / 1000000 := Int.tdiv_eq_ediv_of_nonneg (by omega)
  have u3 : (o + x).tmod 1000000 = (o + x) % 1000000 := Int.tmod_eq_emod_of_nonneg (by omega)
  have u4 : wrap64 ((o + x) / 1000000) = (o + x) / 1000000 := w64 (by omega) (by omega)
  have u5 : wrap64 (o1 + (o + x) / 1000000) = o1 + (o + x) / 1000000 := w64 (by omega) (by omega)
  obtain ⟨out', hout'⟩ : ∃ z, ((out.set (i + j) (o + x)).set (i + j + 1) (o1 + (o + x) / 1000000)).set (i + j) ((o + x) % 1000000) = z := ⟨_, rfl⟩
  have hlen' : out'.length = n := by rw [← hout']; simp [h1]
  have g' : ∀ q, out'.getD q 0 = if q = i + j then (o + x) % 1000000 else if q = i + j + 1 then o1 + (o + x) / 1000000 else out.getD q 0 := by
   intro q
   rw [← hout', getD_set _ _ _ _ (by omega), getD_set _ _ _ _ (by omega), getD_set _ _ _ _ (by omega)]
   by_cases e : q = i + j
   ·simp [e]
   ·simp [e]
  have hval : vl out' = vl out + x * 1000000 ^ (i + j) := by
   rw [← hout', vl_set _ _ _ (by omega), vl_set _ _ _ (by omega), vl_set _ _ _ (by omega), s2, s3, ho, Int.pow_succ]
   clear g' s1 s2 s3 l1 l2 u0 u1 u2 u3 u4 u5 hout' hlen' h2 h3 h5 h6 ha hb ih
   grind
  have hI' : RowI n i (j + 1) b.length out' := by
   refine ⟨hlen', ?_, ?_, ?_, ?_, ?_⟩
   ·intro q
    rw [g']
    have := h2 q
    split
    ·omega
    ·split <;> omega
   ·intro q hq
    rw [g']
    have := h3 q
    split
    ·omega
    ·split
     ·omega
     ·rename_i e _
      exact this e
   ·rw [show i + (j + 1) = i + j + 1 by omega, g']
    simp only [if_neg (show ¬ i + j + 1 = i + j by omega), if_true]
    omega
   ·intro q hq hq2
    rw [g']
    simp only [if_neg (show ¬ q = i + j by omega), if_neg (show ¬ q = i + j + 1 by omega)]
    exact h5 q hq (by omega)
   ·intro e
    rw [show i + (j + 1) = i + j + 1 by omega, g']
    simp only [if_neg (show ¬ i + j + 1 = i + j by omega), if_true]
    have := h5 (i + j + 1) (by omega) (by omega)
    rw [ho1] at this
    omega
  obtain ⟨out2, hI2, hv2, ht2⟩ := ih (j + 1) out' (by omega) hI'
  refine ⟨out2, hI2, ?_, ?_⟩
  ·rw [hv2, hval, vl_drop b j, ← hx, show i + (j + 1) = i + j + 1 by omega, Int.pow_succ]
   grind
  ·intro v hv
   refine Tends.step (fun k => by rw [zZ.l1]) ?_
   simp only [if_pos c1, if_pos c2, w1, w2, w3, rd_nat, Option.bind_some, Int.toNat_natCast]
   simp only [if_pos c3, if_pos c4, if_pos c5, if_pos c6]
   rw [hx, ho, u0, u1, s1, s2, u2, u4, u5, s3, u3, hout']
   exact ht2 hv
theorem Dg.of_getD {l : List Int} (h : ∀ q, 0 ≤ l.getD q 0 ∧ l.getD q 0 < 1000000) : Dg l := by
 intro d hd
 obtain ⟨i, hi, rfl⟩ := List.getElem_of_mem hd
 have := h i
 simpa [hi] using this
theorem r_TimesOf_l0 (a b : List Int) (ha : Dg a) (hb : Dg b) (nb neg : Bool) (n : Nat) (hn : n = a.length + b.length + 1) (hbig : n ≤ 35184372088832) : ∀ (m i : Nat) (out : List Int), m + i = a.length → RowI n i 0 b.length out → (∀ q, out.getD q 0 < 1000000) →
  ∃ out' : List Int, Dg out' ∧ out'.length = n ∧ vl out' = vl out + vl (a.drop i) * vl b * 1000000 ^ i ∧ ∀ {v : Bool × List Int}, Tends (fun k => zZ.l2 k ((n : Int) - 1) 0 neg out') v → Tends (fun k => zZ.l0 k a (a.length : Int) (i : Int) nb b neg out) v := by
 intro m
 induction m with
 | zero =>
  intro i out hm hI hall
  have hi : i = a.length := by omega
  subst hi
  refine ⟨out, Dg.of_getD fun q => ⟨hI.2.1 q, hall q⟩, hI.1, ?_, ?_⟩
  ·rw [List.drop_eq_nil_of_le (Nat.le_refl _)]
   simp [vl]
  ·intro v hv
   refine Tends.step (fun k => by rw [zZ.l0]) ?_
   simp only [if_neg (show ¬ (a.length : Int) < (a.length : Int) by omega)]
   rw [hI.1, show wrap64 ((n : Int) - 1) = (n : Int) - 1 from w64 (by omega) (by omega)]
   exact hv
 | succ m ih =>
  intro i out hm hI hall
  obtain ⟨out1, hI1, hv1, ht1⟩ := r_TimesOf_l1 a b ha hb nb neg n hn hbig i (by omega) b.length 0 out (by omega) hI
  obtain ⟨h1, h2, h3, h4, h5, h6⟩ := hI1
  have hall1 : ∀ q, out1.getD q 0 < 1000000 := by
   intro q
   by_cases e : q = i + b.length
   ·rw [e]
    exact h6 rfl
   ·exact h3 q e
  have hI2 : RowI n (i + 1) 0 b.length out1 := by
   refine ⟨h1, h2, fun q _ => hall1 q, ?_, ?_, fun _ => hall1 _⟩
   ·have := hall1 (i + 1 + 0)
    omega
   ·intro q hq hq2
    exact h5 q (by omega) (by omega)
  obtain ⟨out2, hd2, hl2, hv2, ht2⟩ := ih (i + 1) out1 (by omega) hI2 hall1
  refine ⟨out2, hd2, hl2, ?_, ?_⟩
  ·rw [hv2, hv1, vl_drop a i, Int.pow_succ, List.drop_zero, Nat.add_zero]
   clear ih ht1 ht2 hI hI2 h1 h2 h3 h4 h5 h6 hall hall1 hd2 hl2 hv2 hv1
   grind
  ·intro v hv
   refine Tends.step (fun k => by rw [zZ.l0]) ?_
   simp only [if_pos (show (i : Int) < (a.length : Int) by omega), if_pos (show (0 : Int) ≤ (i : Int) by omega), rd_nat]
   exact ht1 (ht2 hv)
theorem r_TimesOf_l2 (neg : Bool) (out : List Int) (hd : Dg out) (hbig : out.length ≤ 35184372088832) {v : Bool × List Int} (hv : Tends (fun k => zx.f k neg out) v) : ∀ (m i : Nat), m + i + 1 = out.length → Tends (fun k => zZ.l2 k ((out.length : Int) - 1) (i : Int) neg out) v := by
 intro m
 induction m with
 | zero =>
  intro i hi
  refine Tends.step (fun k => by rw [zZ.l2]) ?_
  simp only [if_neg (show ¬ (i : Int) < (out.length : Int) - 1 by omega)]
  exact Tends.bind hv (Tends.const _)
 | succ m ih =>
  intro i hi
  refine Tends.step (fun k => by rw [zZ.l2]) ?_
  have g0 := hd.getD i
  have g1 := hd.getD (i + 1)
  have w1 : wrap64 ((i : Int) + 1) = ((i + 1 : Nat) : Int) := by rw [w64] <;> omega
  have u2 : (out.getD i 0).tdiv 1000000 = 0 := by
   rw [Int.tdiv_eq_ediv_of_nonneg g0.1]
   omega
  have u3 : (out.getD i 0).tmod 1000000 = out.getD i 0 := by
   rw [Int.tmod_eq_emod_of_nonneg g0.1]
   omega
  have u4 : wrap64 0 = 0 := w64 (by omega) (by omega)
  have u5 : wrap64 (out.getD (i + 1) 0 + 0) = out.getD (i + 1) 0 := by rw [w64] <;> omega
  simp only [w1, rd_nat, Option.bind_some, Int.toNat_natCast]
  simp only [if_pos (show (i : Int) < (out.length : Int) - 1 by omega), if_pos (show (0 : Int) ≤ (i : Int) by omega), if_pos (show (i : Int) < (out.length : Int) by omega), if_pos (show (0 : Int) ≤ ((i + 1 : Nat) : Int) by omega), if_pos (show ((i + 1 : Nat) : Int) < (out.length : Int) by omega)]
  rw [u2, u4, u5, set_getD _ _ (by omega), u3, set_getD _ _ (by omega)]
  exact ih (i + 1) (by omega)
theorem vl_replicate : ∀ n : Nat, vl (List.replicate n 0) = 0
 | 0 => rfl
 | n + 1 => by
  rw [List.replicate_succ]
  show 0 + 1000000 * vl (List.replicate n 0) = 0
  rw [vl_replicate n]
  rfl
theorem vS (n q : Nat) : (List.replicate n (0 : Int)).getD q 0 = 0 := by
 rw [List.getD_eq_getElem?_getD, List.getElem?_replicate]
 split <;> rfl
theorem enc_mul_sign (a b : Int) : (if (a * b).natAbs = 0 then false else !(decide (a < 0) == decide (b < 0))) = decide (a * b < 0) := by
 rcases Int.lt_trichotomy a 0 with ha | ha | ha
 ·rcases Int.lt_trichotomy b 0 with hb | hb | hb
  ·have := Int.mul_pos_of_neg_of_neg ha hb
   have h1 : ¬ a * b < 0 := by omega
   have h2 : ¬ (a * b).natAbs = 0 := by omega
   simp [ha, hb, h1, h2]
  ·subst hb
   simp
  ·have := Int.mul_neg_of_neg_of_pos ha hb
   have h2 : ¬ (a * b).natAbs = 0 := by omega
   have h3 : ¬ b < 0 := by omega
   simp [ha, this, h2, h3]
 ·subst ha
  simp
 ·rcases Int.lt_trichotomy b 0 with hb | hb | hb
  ·have := Int.mul_neg_of_pos_of_neg ha hb
   have h2 : ¬ (a * b).natAbs = 0 := by omega
   have h3 : ¬ a < 0 := by omega
   simp [hb, this, h2, h3]
  ·subst hb
   simp
  ·have := Int.mul_pos ha hb
   have h1 : ¬ a * b < 0 := by omega
   have h2 : ¬ (a * b).natAbs = 0 := by omega
   have h3 : ¬ a < 0 := by omega
   have h4 : ¬ b < 0 := by omega
   simp [h1, h3, h4]
theorem r_TimesOf {a b : Int} (ha : Lo a) (hb : Lo b) : Tends (fun k => zZ.f k (enc a).1 (enc a).2 (enc b).1 (enc b).2) (enc (a * b)) := by
 unfold Lo at ha hb
 unfold zZ.f enc
 dsimp only
 obtain ⟨n, hn⟩ : ∃ n : Nat, n = (dgs a.natAbs).length + (dgs b.natAbs).length + 1 := ⟨_, rfl⟩
 have w1 : wrap64 (((dgs a.natAbs).length : Int) + ((dgs b.natAbs).length : Int)) = ((dgs a.natAbs).length : Int) + ((dgs b.natAbs).length : Int) := w64 (by omega) (by omega)
 have w2 : wrap64 (((dgs a.natAbs).length : Int) + ((dgs b.natAbs).length : Int) + 1) = (n : Int) := by rw [w64] <;> omega
 simp only [w1, w2, Int.toNat_natCast, if_pos (show (0 : Int) ≤ (n : Int) by omega), if_pos (show n ≤ 35184372088832 by omega)]
 have hI : RowI n 0 0 (dgs b.natAbs).length (List.replicate n 0) := by
  exact ⟨by simp, fun q => by rw [vS]; omega, fun q _ => by rw [vS]; omega, by rw [vS]; omega, fun q _ _ => vS _ _, fun _ => by rw [vS]; omega⟩
 obtain ⟨out, hd, hl, hv, ht⟩ := r_TimesOf_l0 (dgs a.natAbs) (dgs b.natAbs) (yN _) (yN _) (decide (b < 0)) (!(decide (a < 0) == decide (b < 0))) n hn (by omega) (dgs a.natAbs).length 0 (List.replicate n 0) (by omega) hI (by intro q; rw [vS]; omega)
 refine ht ?_
 rw [vl_replicate, List.drop_zero, vl_dgs, vl_dgs] at hv
 have hm : vl out = ((a * b).natAbs : Int) := by
  rw [hv, Int.natAbs_mul]
  simp
 have hr := r_trim (neg := !(decide (a < 0) == decide (b < 0))) (by omega) hd hm
 rw [enc_mul_sign] at hr
 have := r_TimesOf_l2 (!(decide (a < 0) == decide (b < 0))) out hd (by omega) hr (n - 1) 0 (by omega)
 rw [hl] at this
 exact this
theorem pow10_lt (j : Nat) (h : j ≤ 180) : (10 : Nat) ^ j < 1000000 ^ 31 := by
 have h1 : (10 : Nat) ^ j ≤ 10 ^ 180 := Nat.pow_le_pow_right (by omega) h
 have h2 : (1000000 : Nat) ^ 31 = 10 ^ 186 := by
  rw [show (1000000 : Nat) = 10 ^ 6 from rfl, ← Nat.pow_mul]
 rw [h2]
 have h3 : (10 : Nat) ^ 186 = 10 ^ 180 * 10 ^ 6 := by rw [← Nat.pow_add]
 have h4 : 0 < (10 : Nat) ^ 180 := Nat.pow_pos (by omega)
 rw [h3]
 omega
theorem Lo_pow10 {j : Nat} (h : j ≤ 180) : Lo ((10 : Int) ^ j) := by
 unfold Lo
 have e : ((10 : Int) ^ j).natAbs = 10 ^ j := by
  rw [Int.natAbs_pow]
  rfl
 rw [e]
 have := dgs_len_pow 31 _ (pow10_lt j h)
 omega
theorem Lo_small {n : Int} (h0 : -9223372036854775808 ≤ n) (h1 : n ≤ 9223372036854775807) : Lo n := by
 unfold Lo
 have := dgs_len_pow 4 n.natAbs (by
  have : (1000000 : Nat) ^ 4 = 1000000000000000000000000 := by rfl
  omega)
 omega
theorem r_Power_l0 (n : Nat) (hn : n ≤ 180) : ∀ (m i : Nat), m + i = n → Tends (fun k => qW.l0 k (n : Int) (i : Int) (enc ((10 : Int) ^ i)).1 (enc ((10 : Int) ^ i)).2) (enc ((10 : Int) ^ n)) := by
 intro m
 induction m with
 | zero =>
  intro i hi
  have : i = n := by omega
  subst this
  refine Tends.step (fun k => by rw [qW.l0]) ?_
  simp only [if_neg (show ¬ (i : Int) < (i : Int) by omega)]
  exact Tends.const _
 | succ m ih =>
  intro i hi
  refine Tends.step (fun k => by rw [qW.l0]) ?_
  simp only [if_pos (show (i : Int) < (n : Int) by omega)]
  refine Tends.bind (r_Of (n := 10) (by omega) (by omega)) ?_
  refine Tends.bind (r_TimesOf (Lo_pow10 (j := i) (by omega)) (Lo_small (n := 10) (by omega) (by omega))) ?_
  rw [show wrap64 ((i : Int) + 1) = ((i + 1 : Nat) : Int) by rw [w64] <;> omega]
  have := ih (i + 1) (by omega)
  rw [Int.pow_succ] at this
  exact this
theorem r_Power {n : Nat} (hn : n ≤ 180) : Tends (fun k => qW.f k (n : Int)) (enc ((10 : Int) ^ n)) := by
 unfold qW.f
 refine Tends.bind (r_Of (n := 1) (by omega) (by omega)) ?_
 exact r_Power_l0 n hn n 0 (by omega)
theorem r_At {u pl p : Int} (hu0 : -9223372036854775808 ≤ u) (hu1 : u ≤ 9223372036854775807) (h0 : pl ≤ p) (h1 : p - pl ≤ 180) : Tends (fun k => qy.f k u pl p) (enc (u * 10 ^ (p - pl).toNat)) := by
 unfold qy.f
 refine Tends.bind (r_Of hu0 hu1) ?_
 rw [show wrap64 (p - pl) = (((p - pl).toNat : Nat) : Int) by rw [w64] <;> omega]
 refine Tends.bind (r_Power (by omega)) ?_
 exact Tends.bind (r_TimesOf (Lo_small hu0 hu1) (Lo_pow10 (by omega))) (Tends.const _)
theorem Tends.all {α : Type} {F : Nat → Nat → Option α} {v : Nat → α} : ∀ n : Nat, (∀ i, i < n → Tends (F i) (v i)) → ∃ k0, ∀ k, k0 ≤ k → ∀ i, i < n → F i k = some (v i)
 | 0, _ => ⟨0, fun _ _ i hi => absurd hi (Nat.not_lt_zero i)⟩
 | n + 1, h => by
  obtain ⟨k0, h0⟩ := Tends.all n fun i hi => h i (by omega)
  obtain ⟨k1, h1⟩ := h n (by omega)
  refine ⟨max k0 k1, fun k hk i hi => ?_⟩
  by_cases e : i = n
  ·subst e
   exact h1 k (by omega)
  ·exact h0 k (by omega) i (by omega)
theorem kW {n : Nat} (h : n ≤ 9) : (1 : Int) ≤ 10 ^ n ∧ (10 : Int) ^ n ≤ 1000000000 := by
 match n, h with
 | 0, _ | 1, _ | 2, _ | 3, _ | 4, _ | 5, _ | 6, _ | 7, _ | 8, _ | 9, _ => decide
theorem Lo_big {n : Int} (h : n.natAbs ≤ 1000000000000000000000000000000) : Lo n := by
 unfold Lo
 have := dgs_len_pow 6 n.natAbs (by
  have : (1000000 : Nat) ^ 6 = 1000000000000000000000000000000000000 := by rfl
  omega)
 omega
theorem pw (e : Nat) (he : e ≤ 9) (k : Nat) (hk : 11 ≤ k) : qN.f k (e : Int) = some (10 ^ e) := by
 obtain ⟨j, rfl⟩ : ∃ j, k = j + 11 := ⟨k - 11, by omega⟩
 match e, he with
 | 0, _ | 1, _ | 2, _ | 3, _ | 4, _ | 5, _ | 6, _ | 7, _ | 8, _ | 9, _ => simp [qN.f, qN.l0, wrap64]
def GoodM (u p : Int) : Prop := 0 < u ∧ u ≤ 10000000000000 ∧ 0 ≤ p ∧ p ≤ 4 ∧ u * 10 ^ (4 - p).toNat ≤ 10000000000000
theorem pw4 {p : Int} (h0 : 0 ≤ p) (h4 : p ≤ 4) (k : Nat) (hk : 11 ≤ k) : qN.f k (wrap64 (4 - p)) = some (10 ^ (4 - p).toNat) := by
 rw [w64 (by omega) (by omega), show (4 - p : Int) = (((4 - p).toNat : Nat) : Int) by omega, pw _ (by omega) k hk, Int.toNat_natCast]
def gmB (u p : Int) : Bool := decide (0 < u) && decide (0 ≤ p) && decide (p ≤ 4) && decide (u ≤ 1000000000 * 10 ^ p.toNat)
theorem p5 {p : Int} (h0 : 0 ≤ p) (h4 : p ≤ 4) : p = 0 ∨ p = 1 ∨ p = 2 ∨ p = 3 ∨ p = 4 := by omega
theorem gm_iff {u p : Int} : gmB u p = true ↔ 0 < u ∧ 0 ≤ p ∧ p ≤ 4 ∧ u ≤ 1000000000 * 10 ^ p.toNat := by
 unfold gmB
 simp only [Bool.and_eq_true, decide_eq_true_eq, and_assoc]
theorem gm_good {u p : Int} (h : gmB u p = true) : GoodM u p := by
 obtain ⟨h0, h1, h2, h3⟩ := gm_iff.1 h
 refine ⟨h0, ?_, h1, h2, ?_⟩ <;> rcases p5 h1 h2 with rfl | rfl | rfl | rfl | rfl <;> simp at h3 ⊢ <;> omega
theorem money_gm (u p : Int) (k : Nat) (hk : 11 ≤ k) : qY.f k u p = some (mfB (gmB u p)) := by
 unfold qY.f jG.f
 simp only [uJ, Option.bind_some]
 have bad : ∀ (h : ¬ (0 < u ∧ 0 ≤ p ∧ p ≤ 4 ∧ u ≤ 1000000000 * 10 ^ p.toNat)), mfB (gmB u p) = 1 := fun h => by
  rw [show gmB u p = false from Bool.eq_false_iff.2 fun e => h (gm_iff.1 e)]
  rfl
 have big : 0 ≤ p → p ≤ 4 → (10 : Int) ^ p.toNat ≤ 10000 ∧ 1 ≤ (10 : Int) ^ p.toNat := fun h1 h2 => by
  rcases p5 h1 h2 with rfl | rfl | rfl | rfl | rfl <;> decide
 by_cases h1 : (decide (u < -1000000000000000) || decide (u > 1000000000000000)) = true
 ·rw [bad fun h => by
   have := big h.2.1 h.2.2.1
   simp only [Bool.or_eq_true, decide_eq_true_eq] at h1
   omega]
  simp [h1]
 by_cases h2 : (decide (p < 0) || decide (p > 9)) = true
 ·rw [bad fun h => by
   simp only [Bool.or_eq_true, decide_eq_true_eq] at h2
   omega]
  simp [h1, h2]
 by_cases h3 : u ≤ 0
 ·rw [bad fun h => by omega]
  simp [h1, h2, h3]
 by_cases h4 : p > 4
 ·rw [bad fun h => by omega]
  simp [h1, h2, h3, h4]
 have q1 : -1000000000000000 ≤ u ∧ u ≤ 1000000000000000 := by
  simp only [Bool.or_eq_true, decide_eq_true_eq, not_or, Int.not_lt] at h1
  omega
 have q2 : 0 ≤ p ∧ p ≤ 9 := by
  simp only [Bool.or_eq_true, decide_eq_true_eq, not_or, Int.not_lt] at h2
  omega
 have hp : qN.f k p = some (10 ^ p.toNat) := by
  have := pw p.toNat (by omega) k hk
  rw [show ((p.toNat : Nat) : Int) = p by omega] at this
  exact this
 obtain ⟨b1, b0⟩ := big q2.1 (by omega)
 have hw1 : wrap64 (1000000000 * 10 ^ p.toNat) = 1000000000 * 10 ^ p.toNat := w64 (by omega) (by omega)
 have hw2 : wrap64 (-(1000000000 * 10 ^ p.toNat)) = -(1000000000 * 10 ^ p.toNat) := w64 (by omega) (by omega)
 by_cases h5 : u ≤ 1000000000 * 10 ^ p.toNat
 ·have e1 : (decide (u < -(1000000000 * 10 ^ p.toNat)) || decide (u > 1000000000 * 10 ^ p.toNat)) = false := by
   rw [decide_eq_false (by omega), decide_eq_false (by omega)]
   rfl
  rw [gm_iff.2 ⟨by omega, q2.1, by omega, h5⟩]
  simp only [if_neg h1, if_neg h2, if_neg h3, if_neg h4, Option.bind_some, if_true, xV.f, hp, hw1, hw2, uJ, e1]
  rfl
 ·have e1 : (decide (u < -(1000000000 * 10 ^ p.toNat)) || decide (u > 1000000000 * 10 ^ p.toNat)) = true := by
   rw [decide_eq_true (show u > 1000000000 * 10 ^ p.toNat by omega), Bool.or_true]
  rw [bad fun h => h5 h.2.2.2]
  simp only [if_neg h1, if_neg h2, if_neg h3, if_neg h4, Option.bind_some, if_true, xV.f, hp, hw1, hw2, uJ, e1]
  rfl
theorem r_cmp {u p a : Int} (hu : -1000000000000000 ≤ u ∧ u ≤ 1000000000000000) (hp : 0 ≤ p ∧ p ≤ 4) (ha : 0 ≤ a ∧ a ≤ 1000000000) : Tends (fun k => qF.f k u p a 0) (u * 10 ^ (9 - p).toNat - a * 1000000000).sign := by
 unfold qF.f
 obtain ⟨b0, b1⟩ := kW (n := (9 - p).toNat) (by omega)
 refine Tends.bind (r_At (by omega) (by omega) (by omega) (by omega)) (Tends.bind (r_At (pl := 0) (p := 9) (by omega) (by omega) (by omega) (by omega)) (Tends.bind (r_Cmp (a := u * 10 ^ (9 - p).toNat) (b := a * 10 ^ (9 - 0 : Int).toNat) ?_ ?_) ?_))
 ·refine Lo_big ?_
  rw [Int.natAbs_mul]
  exact Nat.le_trans (Nat.mul_le_mul (show u.natAbs ≤ 1000000000000000 by omega) (show ((10 : Int) ^ (9 - p).toNat).natAbs ≤ 1000000000 by omega)) (by decide)
 ·refine Lo_big ?_
  show (a * 1000000000).natAbs ≤ _
  omega
 ·exact Tends.const _
theorem r_isMoney (u p : Int) : Tends (fun k => zN.f k u p) (gmB u p) := by
 have hbad : ∀ (h : ¬ (0 < u ∧ 0 ≤ p ∧ p ≤ 4 ∧ u ≤ 1000000000 * 10 ^ p.toNat)), gmB u p = false := fun h => Bool.eq_false_iff.2 fun e => h (gm_iff.1 e)
 unfold zN.f jK.f jV.f qG.f
 by_cases h1 : -1000000000000000 ≤ u ∧ u ≤ 1000000000000000
 ·by_cases h2 : 0 ≤ p ∧ p ≤ 9
  ·by_cases h3 : p ≤ 4
   ·have e1 : decide (u ≤ 1000000000000000) = true := decide_eq_true h1.2
    have e2 : decide (p ≤ 9) = true := decide_eq_true h2.2
    simp only [if_pos h1.1, if_pos h2.1, e1, e2, if_pos h3, Option.bind_some, if_true]
    have c0 := r_cmp (a := 0) h1 ⟨h2.1, h3⟩ (by omega)
    have c1 := r_cmp (a := 1000000000) h1 ⟨h2.1, h3⟩ (by omega)
    have hpos : (0 : Int) < 10 ^ (9 - p).toNat := by have := (kW (n := (9 - p).toNat) (by omega)).1; omega
    by_cases h4 : 0 ≤ u
    ·have s0 : (u * 10 ^ (9 - p).toNat - 0 * 1000000000).sign ≥ 0 := by
      have := Int.mul_nonneg h4 (Int.le_of_lt hpos)
      rw [Int.zero_mul, Int.sub_zero]
      exact Int.sign_nonneg_iff.2 this
     have hin : Tends (fun k => (qF.f k u p 0 0).bind fun t452 => if t452 ≥ 0 then (qF.f k u p 1000000000 0).bind fun t453 => some (decide (t453 ≤ 0)) else some false) (decide (u ≤ 1000000000 * 10 ^ p.toNat)) := by
      refine Tends.bind c0 ?_
      simp only [if_pos s0]
      refine Tends.bind c1 ?_
      have e : ((u * 10 ^ (9 - p).toNat - 1000000000 * 1000000000).sign ≤ 0) ↔ u ≤ 1000000000 * 10 ^ p.toNat := by
       rw [Int.sign_nonpos_iff]
       rcases p5 h2.1 h3 with rfl | rfl | rfl | rfl | rfl <;> simp <;> omega
      rw [show decide (u ≤ 1000000000 * 10 ^ p.toNat) = decide ((u * 10 ^ (9 - p).toNat - 1000000000 * 1000000000).sign ≤ 0) from decide_eq_decide.2 e.symm]
      exact Tends.const _
     by_cases h5 : u ≤ 1000000000 * 10 ^ p.toNat
     ·rw [decide_eq_true h5] at hin
      refine Tends.bind hin ?_
      simp only [if_true]
      by_cases h6 : u > 0
      ·rw [gm_iff.2 ⟨h6, h2.1, h3, h5⟩, decide_eq_true h6]
       exact Tends.const _
      ·rw [hbad (by omega), decide_eq_false h6]
       exact Tends.const _
     ·rw [decide_eq_false h5] at hin
      refine Tends.bind hin ?_
      simp only [Bool.false_eq_true, if_false]
      rw [hbad (by omega)]
      exact Tends.const _
    ·have s0 : ¬ (u * 10 ^ (9 - p).toNat - 0 * 1000000000).sign ≥ 0 := by
      have := Int.mul_neg_of_neg_of_pos (show u < 0 by omega) hpos
      rw [Int.zero_mul, Int.sub_zero, Int.sign_eq_neg_one_of_neg this]
      decide
     rw [hbad (by omega)]
     refine Tends.bind (a := false) (Tends.bind c0 ?_) ?_
     ·simp only [if_neg s0]
      exact Tends.const _
     ·simp only [Bool.false_eq_true, if_false]
      exact Tends.const _
   ·have e1 : decide (u ≤ 1000000000000000) = true := decide_eq_true h1.2
    have e2 : decide (p ≤ 9) = true := decide_eq_true h2.2
    simp only [if_pos h1.1, if_pos h2.1, e1, e2, if_neg h3, Option.bind_some, if_true, Bool.false_eq_true, if_false]
    rw [hbad (by omega)]
    exact Tends.const _
  ·rw [hbad (by omega)]
   refine Tends.of fun k => ?_
   have e1 : decide (u ≤ 1000000000000000) = true := decide_eq_true h1.2
   by_cases h3 : 0 ≤ p
   ·have e2 : decide (p ≤ 9) = false := decide_eq_false (by omega)
    simp [h1.1, e1, h3, e2]
   ·simp [h1.1, e1, h3]
 ·have hbb : gmB u p = false := hbad fun h => by
   have : (10 : Int) ^ p.toNat ≤ 10000 := by rcases p5 h.2.1 h.2.2.1 with rfl | rfl | rfl | rfl | rfl <;> decide
   omega
  rw [hbb]
  refine Tends.of fun k => ?_
  by_cases h3 : -1000000000000000 ≤ u
  ·have e2 : decide (u ≤ 1000000000000000) = false := decide_eq_false (by omega)
   simp [h3, e2]
  ·simp [h3]
theorem fine_l0 : ∀ (m k : Nat) (x n i : Int), 0 ≤ x → x * 10 ^ m ≤ 9000000000000000000 → i + m = n → 0 ≤ i → n ≤ 10 → m < k → zL.l0 k x n i = some (x * 10 ^ m) := by
 intro m
 induction m with
 | zero =>
  intro k x n i _ _ h3 _ _ hk
  obtain ⟨k, rfl⟩ : ∃ j, k = j + 1 := ⟨k - 1, by omega⟩
  rw [zL.l0, if_neg (by omega)]
  simp
 | succ m ih =>
  intro k x n i h1 h2 h3 h4 h5 hk
  obtain ⟨k, rfl⟩ : ∃ j, k = j + 1 := ⟨k - 1, by omega⟩
  have e : x * 10 ^ (m + 1) = x * 10 * 10 ^ m := by rw [Int.pow_succ, Int.mul_comm (10 ^ m) 10, Int.mul_assoc]
  have hle : x * 10 ≤ x * 10 * 10 ^ m := by
   have : (0 : Int) < 10 ^ m := Int.pow_pos (by decide)
   have := Int.mul_le_mul_of_nonneg_left (show (1 : Int) ≤ 10 ^ m by omega) (show 0 ≤ x * 10 by omega)
   omega
  rw [e] at h2 ⊢
  rw [zL.l0, if_pos (by omega), w64 (n := x * 10) (by omega) (by omega), w64 (n := i + 1) (by omega) (by omega)]
  exact ih k (x * 10) n (i + 1) (by omega) h2 (by omega) (by omega) h5 (by omega)
theorem fine_eq {u p : Int} (h0 : 0 ≤ u) (h1 : 0 ≤ p) (h2 : p ≤ 4) (h3 : u * 10 ^ (4 - p).toNat ≤ 10000000000000) (k : Nat) (hk : 11 ≤ k) : zL.f k u p = some (u * 10 ^ (4 - p).toNat) := by
 unfold zL.f
 rw [w64 (n := 4 - p) (by omega) (by omega)]
 exact fine_l0 (4 - p).toNat k u (4 - p) 0 h0 (by omega) (by omega) (by omega) (by omega) (by omega)
def fnV (d : SDe) : Int := Int.tdiv (d.f2.f0 * d.f5) 1000 * 10 ^ (4 - d.f2.f1).toNat
theorem finen_eq {d : SDe} (h : GoodM d.f2.f0 d.f2.f1) (h0 : 0 ≤ d.f5) (h1 : d.f5 ≤ 1000) (k : Nat) (hk : 11 ≤ k) : zL.f k (wrap64 (Int.tdiv (wrap64 (d.f2.f0 * d.f5)) 1000)) d.f2.f1 = some (fnV d) := by
 obtain ⟨g0, g1, g2, g3, g4⟩ := h
 have hq := (kW (n := (4 - d.f2.f1).toNat) (by omega)).1
 have hm : 0 ≤ d.f2.f0 * d.f5 := Int.mul_nonneg (by omega) h0
 have hm2 : d.f2.f0 * d.f5 ≤ d.f2.f0 * 1000 := Int.mul_le_mul_of_nonneg_left h1 (by omega)
 have hd : Int.tdiv (d.f2.f0 * d.f5) 1000 = d.f2.f0 * d.f5 / 1000 := Int.tdiv_eq_ediv_of_nonneg hm
 have hd2 : 0 ≤ d.f2.f0 * d.f5 / 1000 ∧ d.f2.f0 * d.f5 / 1000 ≤ d.f2.f0 := by omega
 have hd4 : d.f2.f0 * d.f5 / 1000 * 10 ^ (4 - d.f2.f1).toNat ≤ d.f2.f0 * 10 ^ (4 - d.f2.f1).toNat := Int.mul_le_mul_of_nonneg_right hd2.2 (by omega)
 unfold fnV
 rw [w64 (n := d.f2.f0 * d.f5) (by omega) (by omega), hd, w64 (n := d.f2.f0 * d.f5 / 1000) (by omega) (by omega)]
 exact fine_eq hd2.1 g2 g3 (by omega) k hk
theorem cents_eq {u p : Int} (h : GoodM u p) (k : Nat) (hk : 11 ≤ k) : xD.f k u p = some (u * 10 ^ (4 - p).toNat) := by
 obtain ⟨h0, h1, h2, h3, h4⟩ := h
 have hq := (kW (n := (4 - p).toNat) (by omega)).1
 have hnn : 0 ≤ u * 10 ^ (4 - p).toNat := Int.mul_nonneg (by omega) (by omega)
 unfold xD.f
 rw [pw4 h2 h3 k hk]
 show some (wrap64 _) = _
 rw [w64 (by omega) (by omega)]
def dscV (d : SDe) (o : Int) : Int := mn (Int.tdiv (d.f2.f0 * d.f5) 1000 * 10 ^ (4 - d.f2.f1).toNat) o
theorem discount_eq {d : SDe} (h : GoodM d.f2.f0 d.f2.f1) (h0 : 0 ≤ d.f5) (h1 : d.f5 ≤ 1000) (k : Nat) (hk : 11 ≤ k) (o pa t dn : Int) :
  jq.f k d.f0 d.f1 d.f2.f0 d.f2.f1 d.f3 d.f4 d.f5 o pa t dn = some (dscV d o, d.f0, d.f1, d.f2.f0, d.f2.f1, d.f3, d.f4, d.f5, o, pa, t, dn) := by
 obtain ⟨g0, g1, g2, g3, g4⟩ := h
 have hq := (kW (n := (4 - d.f2.f1).toNat) (by omega)).1
 have hm : 0 ≤ d.f2.f0 * d.f5 := Int.mul_nonneg (by omega) h0
 have hm2 : d.f2.f0 * d.f5 ≤ d.f2.f0 * 1000 := Int.mul_le_mul_of_nonneg_left h1 (by omega)
 have hd : Int.tdiv (d.f2.f0 * d.f5) 1000 = d.f2.f0 * d.f5 / 1000 := Int.tdiv_eq_ediv_of_nonneg hm
 have hd2 : 0 ≤ d.f2.f0 * d.f5 / 1000 ∧ d.f2.f0 * d.f5 / 1000 ≤ d.f2.f0 := by omega
 have hd3 : 0 ≤ d.f2.f0 * d.f5 / 1000 * 10 ^ (4 - d.f2.f1).toNat := Int.mul_nonneg hd2.1 (by omega)
 have hd4 : d.f2.f0 * d.f5 / 1000 * 10 ^ (4 - d.f2.f1).toNat ≤ d.f2.f0 * 10 ^ (4 - d.f2.f1).toNat := Int.mul_le_mul_of_nonneg_right hd2.2 (by omega)
 unfold jq.f dscV
 rw [pw4 g2 g3 k hk]
 simp only [Option.bind_some]
 rw [w64 (n := d.f2.f0 * d.f5) (by omega) (by omega), hd, w64 (n := d.f2.f0 * d.f5 / 1000) (by omega) (by omega), w64 (by omega) (by omega)]
theorem dscV_le {d : SDe} (h : GoodM d.f2.f0 d.f2.f1) (h0 : 0 ≤ d.f5) (o : Int) (ho : 0 ≤ o) : 0 ≤ dscV d o ∧ dscV d o ≤ o := by
 obtain ⟨g0, g1, g2, g3, g4⟩ := h
 have hq := (kW (n := (4 - d.f2.f1).toNat) (by omega)).1
 have hm : 0 ≤ d.f2.f0 * d.f5 := Int.mul_nonneg (by omega) h0
 have hd : Int.tdiv (d.f2.f0 * d.f5) 1000 = d.f2.f0 * d.f5 / 1000 := Int.tdiv_eq_ediv_of_nonneg hm
 have hd3 : 0 ≤ d.f2.f0 * d.f5 / 1000 * 10 ^ (4 - d.f2.f1).toNat := Int.mul_nonneg (by omega) (by omega)
 unfold dscV mn
 rw [hd]
 split <;> omega
def okB (x : Int) : Bool := (decide (97 ≤ x) && decide (x ≤ 122)) || (decide (48 ≤ x) && decide (x ≤ 57)) || (x == 45)
def allB (s : ByteArray) : Nat → Nat → Bool
 | 0, _ => true
 | m + 1, i => okB (bt s (i : Int)) && allB s m (i + 1)
def nameOK (s : ByteArray) : Bool := decide (1 ≤ s.size) && decide (s.size ≤ 40) && decide (97 ≤ bt s 0) && decide (bt s 0 ≤ 122) && allB s s.size 0
theorem n_isName_l0 (s : ByteArray) (hs : s.size ≤ 9223372036854775807) : ∀ (m i : Nat), m + i = s.size → Tends (fun k => zF.l0 k s (s.size : Int) (i : Int)) (allB s m i) := by
 intro m
 induction m with
 | zero =>
  intro i hi
  refine Tends.step (fun k => by rw [zF.l0]) ?_
  simp only [if_neg (show ¬ (i : Int) < (s.size : Int) by omega)]
  exact Tends.const _
 | succ m ih =>
  intro i hi
  have hn := ih (i + 1) (by omega)
  have w1 : wrap64 ((i : Int) + 1) = ((i + 1 : Nat) : Int) := by rw [w64] <;> omega
  refine Tends.step (fun k => by rw [zF.l0]) ?_
  simp only [if_pos (show (i : Int) < (s.size : Int) by omega), if_pos (show (0 : Int) ≤ (i : Int) by omega), w1]
  unfold allB
  obtain ⟨b, hb⟩ : ∃ b, bt s (i : Int) = b := ⟨_, rfl⟩
  rw [hb]
  by_cases h1 : b < 97
  ·simp only [if_pos h1]
   by_cases h2 : b < 48
   ·simp only [if_pos h2]
    by_cases h3 : b = 45
    ·have e : okB b = true := by subst h3; rfl
     simp only [if_pos h3, e, Bool.true_and]
     exact hn
    ·have e : okB b = false := by
      unfold okB
      simp only [Bool.or_eq_false_iff, Bool.and_eq_false_iff, decide_eq_false_iff_not, beq_eq_false_iff_ne]
      omega
     simp only [if_neg h3, e, Bool.false_and]
     exact Tends.const _
   ·simp only [if_neg h2]
    by_cases h3 : b > 57
    ·simp only [if_pos h3]
     have h4 : ¬ b = 45 := by omega
     have e : okB b = false := by
      unfold okB
      simp only [Bool.or_eq_false_iff, Bool.and_eq_false_iff, decide_eq_false_iff_not, beq_eq_false_iff_ne]
      omega
     simp only [if_neg h4, e, Bool.false_and]
     exact Tends.const _
    ·have e : okB b = true := by
      unfold okB
      simp only [Bool.or_eq_true, Bool.and_eq_true, decide_eq_true_eq, beq_iff_eq]
      omega
     simp only [if_neg h3, e, Bool.true_and]
     exact hn
  ·simp only [if_neg h1]
   by_cases h2 : b > 122
   ·have h4 : ¬ b < 48 := by omega
    have h5 : b > 57 := by omega
    have h6 : ¬ b = 45 := by omega
    have e : okB b = false := by
     unfold okB
     simp only [Bool.or_eq_false_iff, Bool.and_eq_false_iff, decide_eq_false_iff_not, beq_eq_false_iff_ne]
     omega
    simp only [if_pos h2, if_neg h4, if_pos h5, if_neg h6, e, Bool.false_and]
    exact Tends.const _
   ·have e : okB b = true := by
     unfold okB
     simp only [Bool.or_eq_true, Bool.and_eq_true, decide_eq_true_eq, beq_iff_eq]
     omega
    simp only [if_neg h2, e, Bool.true_and]
    exact hn
theorem toList_nil (s : ByteArray) : s.toList = ([] : List UInt8) ↔ s.size = 0 := by
 rw [ByteArray.toList_eq]
 obtain ⟨⟨l⟩⟩ := s
 simp [ByteArray.size]
theorem n_IsName (s : ByteArray) : Tends (fun k => zS.f k s) (nameOK s) := by
 unfold zS.f
 refine Tends.bind ?_ (Tends.const _)
 unfold zF.f nameOK
 have bad : Tends (fun k => zF.j0 k s true) false := by
  refine Tends.step (fun k => by rw [zF.j0]) ?_
  simp only [if_true]
  exact Tends.const _
 by_cases h0 : s.size = 0
 ·simp only [if_pos ((toList_nil s).2 h0)]
  rw [show decide (1 ≤ s.size) = false from decide_eq_false (by omega)]
  simp only [Bool.false_and]
  exact bad
 ·simp only [if_neg (fun e => h0 ((toList_nil s).1 e))]
  by_cases h1 : (s.size : Int) > 40
  ·simp only [if_pos h1]
   rw [show decide (s.size ≤ 40) = false from decide_eq_false (by omega)]
   simp only [Bool.and_false, Bool.false_and]
   exact bad
  ·simp only [if_neg h1, if_pos (show 0 < (s.size : Int) by omega)]
   rw [show decide (1 ≤ s.size) = true from decide_eq_true (by omega), show decide (s.size ≤ 40) = true from decide_eq_true (by omega)]
   by_cases h2 : bt s 0 < 97
   ·simp only [if_pos h2]
    rw [show decide (97 ≤ bt s 0) = false from decide_eq_false (by omega)]
    simp only [Bool.and_false, Bool.false_and]
    exact bad
   ·simp only [if_neg h2]
    rw [show decide (97 ≤ bt s 0) = true from decide_eq_true (by omega)]
    by_cases h3 : bt s 0 > 122
    ·rw [show decide (bt s 0 ≤ 122) = false from decide_eq_false (by omega), decide_eq_true h3]
     simp only [Bool.and_false, Bool.false_and]
     exact bad
    ·rw [show decide (bt s 0 ≤ 122) = true from decide_eq_true (by omega), decide_eq_false h3]
     simp only [Bool.and_true, Bool.true_and]
     refine Tends.step (fun k => by rw [zF.j0]) ?_
     simp only [Bool.false_eq_true, if_false]
     exact n_isName_l0 s (by omega) s.size 0 (by omega)
theorem dw_nil_or {p : UInt8 → Bool} : ∀ l : List UInt8, l.dropWhile p = [] ∧ (∀ b ∈ l, p b = true) ∨ ∃ y ys, l.dropWhile p = y :: ys ∧ p y = false
 | [] => Or.inl ⟨rfl, fun b h => by cases h⟩
 | x :: l => by
  by_cases h : p x = true
  ·simp only [List.dropWhile_cons, h, if_true]
   rcases dw_nil_or (p := p) l with ⟨h1, h2⟩ | h1
   ·exact Or.inl ⟨h1, fun b hb => by
     rcases List.mem_cons.1 hb with rfl | hb
     ·exact h
     ·exact h2 b hb⟩
   ·exact Or.inr h1
  ·exact Or.inr ⟨x, l, by simp [h], by simpa using h⟩
theorem dw_all {p : UInt8 → Bool} : ∀ l : List UInt8, (∀ b ∈ l, p b = true) → l.dropWhile p = []
 | [], _ => rfl
 | x :: l, h => by
  rw [List.dropWhile_cons, h x (List.mem_cons_self ..)]
  simp only [if_true]
  exact dw_all l fun b hb => h b (List.mem_cons_of_mem _ hb)
theorem trimS_nil (l cs : List UInt8) : Lib.trimS l cs = [] ↔ ∀ b ∈ l, cs.contains b = true := by
 unfold Lib.trimS Lib.trimLeftS Lib.trimRightS
 constructor
 ·intro h
  rcases dw_nil_or (p := (cs.contains ·)) l.reverse with ⟨_, h2⟩ | ⟨y, ys, h1, h2⟩
  ·intro b hb
   exact h2 b (List.mem_reverse.2 hb)
  ·exfalso
   rw [h1] at h
   rcases dw_nil_or (p := (cs.contains ·)) (y :: ys).reverse with ⟨_, h4⟩ | ⟨z, zs, h3, _⟩
   ·have := h4 y (by simp)
    rw [this] at h2
    cases h2
   ·rw [h3] at h
    cases h
 ·intro h
  rw [dw_all (p := (cs.contains ·)) l.reverse fun b hb => h b (List.mem_reverse.1 hb)]
  rfl
def nameCut : ByteArray := ⟨#[97, 98, 99, 100, 101, 102, 103, 104, 105, 106, 107, 108, 109, 110, 111, 112, 113, 114, 115, 116, 117, 118, 119, 120, 121, 122, 48, 49, 50, 51, 52, 53, 54, 55, 56, 57, 45]⟩
theorem cut_okB_fin : ∀ n : Fin 256, nameCut.data.toList.contains (UInt8.ofNat n.1) = okB (n.1 : Int) := by decide +kernel
theorem cut_okB (b : UInt8) : nameCut.data.toList.contains b = okB (b.toNat : Int) := by
 have := cut_okB_fin ⟨b.toNat, b.toNat_lt⟩
 simpa using this
theorem bt_get (s : ByteArray) (i : Nat) (h : i < s.size) : bt s (i : Int) = ((s.data.toList[i]'(by simpa using h)).toNat : Int) := by
 unfold bt
 simp only [Int.toNat_natCast, h, dif_pos]
 rfl
theorem allB_iff (s : ByteArray) : ∀ (m i : Nat), m + i = s.size → (allB s m i = true ↔ ∀ b ∈ s.data.toList.drop i, okB (b.toNat : Int) = true) := by
 intro m
 induction m with
 | zero =>
  intro i hi
  have hl : s.size = s.data.toList.length := by rw [Array.length_toList]; rfl
  rw [List.drop_eq_nil_of_le (by omega)]
  simp [allB]
 | succ m ih =>
  intro i hi
  have hl : i < s.data.toList.length := by
   have : s.size = s.data.toList.length := by rw [Array.length_toList]; rfl
   omega
  rw [List.drop_eq_getElem_cons hl]
  unfold allB
  rw [Bool.and_eq_true, ih (i + 1) (by omega), bt_get s i (by omega)]
  simp only [List.mem_cons, forall_eq_or_imp]
theorem n_kitIsName (s : ByteArray) : jH.f s = some (nameOK s) := by
 unfold jH.f nameOK
 by_cases h0 : (s.size : Int) < 1
 ·simp only [if_pos h0]
  rw [show decide (1 ≤ s.size) = false from decide_eq_false (by omega)]
  simp only [Bool.false_and]
 ·simp only [if_neg h0]
  rw [show decide (1 ≤ s.size) = true from decide_eq_true (by omega)]
  by_cases h1 : (s.size : Int) > 40
  ·simp only [if_pos h1]
   rw [show decide (s.size ≤ 40) = false from decide_eq_false (by omega)]
   simp only [Bool.and_false, Bool.false_and]
  ·simp only [if_neg h1, if_pos (show 0 < (s.size : Int) by omega)]
   rw [show decide (s.size ≤ 40) = true from decide_eq_true (by omega)]
   by_cases h2 : bt s 0 < 97
   ·simp only [if_pos h2]
    rw [show decide (97 ≤ bt s 0) = false from decide_eq_false (by omega)]
    simp only [Bool.and_false, Bool.false_and]
   ·simp only [if_neg h2]
    rw [show decide (97 ≤ bt s 0) = true from decide_eq_true (by omega)]
    by_cases h3 : bt s 0 > 122
    ·simp only [if_pos h3]
     rw [show decide (bt s 0 ≤ 122) = false from decide_eq_false (by omega)]
     simp only [Bool.and_false, Bool.false_and]
    ·simp only [if_neg h3]
     rw [show decide (bt s 0 ≤ 122) = true from decide_eq_true (by omega)]
     simp only [Bool.and_true, Bool.true_and]
     show (yZ.f s nameCut).bind _ = _
     unfold yZ.f
     rw [if_pos ⟨by omega, by decide +kernel, by decide +kernel⟩]
     simp only [Option.bind_some]
     congr 1
     rw [ByteArray.toList_eq]
     have e := allB_iff s s.size 0 (by omega)
     rw [List.drop_zero] at e
     have e2 := trimS_nil s.data.toList nameCut.data.toList
     by_cases h4 : allB s s.size 0 = true
     ·rw [h4]
      have : Lib.trimS s.data.toList nameCut.data.toList = [] := e2.2 fun b hb => by
       rw [cut_okB]
       exact e.1 h4 b hb
      simp [this]
     ·have h5 : ¬ Lib.trimS s.data.toList nameCut.data.toList = [] := fun q => h4 (e.2 fun b hb => by
       rw [← cut_okB]
       exact e2.1 q b hb)
      rw [show allB s s.size 0 = false by simpa using h4]
      simp [h5]
theorem name_size {s : ByteArray} (h : nameOK s = true) : s.size ≤ 40 := by
 unfold nameOK at h
 simp only [Bool.and_eq_true, decide_eq_true_eq] at h
 omega
theorem index_any (l : List ByteArray) (x : ByteArray) (hl : l.length ≤ 1000) : ∀ (m i : Nat), m + i = l.length → ∃ r : Int, Tends (fun k => zR.l0 k l x (l.length : Int) (i : Int)) r := by
 intro m
 induction m with
 | zero =>
  intro i hi
  refine ⟨-1, ?_⟩
  refine Tends.step (fun k => by rw [zR.l0]) ?_
  simp only [if_neg (show ¬ (i : Int) < (l.length : Int) by omega)]
  exact Tends.const _
 | succ m ih =>
  intro i hi
  obtain ⟨r, hr⟩ := ih (i + 1) (by omega)
  have w1 : wrap64 ((i : Int) + 1) = ((i + 1 : Nat) : Int) := by rw [w64] <;> omega
  by_cases h : x.toList = (rdOf ByteArray.empty l i).toList
  ·refine ⟨i, ?_⟩
   refine Tends.step (fun k => by rw [zR.l0]) ?_
   simp only [if_pos (show (i : Int) < (l.length : Int) by omega), if_pos (show (0 : Int) ≤ (i : Int) by omega), if_pos h]
   exact Tends.const _
  ·refine ⟨r, ?_⟩
   refine Tends.step (fun k => by rw [zR.l0]) ?_
   simp only [if_pos (show (i : Int) < (l.length : Int) by omega), if_pos (show (0 : Int) ≤ (i : Int) by omega), if_neg h, w1]
   exact hr
theorem cont_any (l : List ByteArray) (x : ByteArray) (hl : l.length ≤ 1000) : ∃ b : Bool, Tends (fun k => zy.f k l x) b := by
 obtain ⟨r, hr⟩ := index_any l x hl l.length 0 (by omega)
 unfold zy.f zR.f
 exact ⟨_, Tends.bind hr (Tends.const _)⟩
def GoodP (p : SPa) : Prop := dayB p.f0 = true ∧ GoodM p.f1.f0 p.f1.f1 ∧ p.f2.length ≤ 100 ∧ ∀ j : Nat, j < p.f2.length → (rdOf ByteArray.empty p.f2 j).size ≤ 40
theorem cp_l1 (l1 : List SPa) (i : Nat) (p : SPa) (hp : p.f2.length ≤ 100) (P : Prop) (hrest : ∃ e : Int, Tends (fun k => zC.l0 k l1 l1 (l1.length : Int) (wrap64 ((i : Int) + 1))) e ∧ Tends (fun k => zK.l0 k l1 l1 (l1.length : Int) (wrap64 ((i : Int) + 1))) e ∧ (e = 0 → P)) :
  ∀ (m q : Nat), m + q = p.f2.length → ∃ e : Int, Tends (fun k => zC.l1 k l1 l1 (l1.length : Int) (i : Int) p.f2 (p.f2.length : Int) (q : Int) p.f0 p.f1.f0 p.f1.f1 p.f2) e ∧ Tends (fun k => zK.l1 k l1 l1 (l1.length : Int) (i : Int) p.f2 (p.f2.length : Int) (q : Int) p.f0 p.f1.f0 p.f1.f1 p.f2) e ∧ (e = 0 → P ∧ ∀ j : Nat, q ≤ j → j < p.f2.length → (rdOf ByteArray.empty p.f2 j).size ≤ 40) := by
 intro m
 induction m with
 | zero =>
  intro q hq
  obtain ⟨e, he, he2, hP⟩ := hrest
  have hz : ¬ (q : Int) < (p.f2.length : Int) := by omega
  refine ⟨e, Tends.step (fun k => by rw [zC.l1]) ?_, Tends.step (fun k => by rw [zK.l1]) ?_, fun h => ⟨hP h, fun j h1 h2 => by omega⟩⟩
  ·simp only [if_neg hz]
   exact he
  ·simp only [if_neg hz]
   exact he2
 | succ m ih =>
  intro q hq
  obtain ⟨e, he, he2, hP⟩ := ih (q + 1) (by omega)
  have w1 : wrap64 ((q : Int) + 1) = ((q + 1 : Nat) : Int) := by rw [w64] <;> omega
  have z1 : (q : Int) < (p.f2.length : Int) := by omega
  have z2 : (0 : Int) ≤ (q : Int) := by omega
  have z3 : (q : Int) ≤ (p.f2.length : Int) := by omega
  have hk := n_kitIsName (rdOf ByteArray.empty p.f2 q)
  have hr := n_IsName (rdOf ByteArray.empty p.f2 q)
  have hs := @name_size (rdOf ByteArray.empty p.f2 q)
  generalize nameOK (rdOf ByteArray.empty p.f2 q) = b at hk hr hs
  obtain ⟨c, hc⟩ := cont_any (p.f2.take q) (rdOf ByteArray.empty p.f2 q) (by rw [List.length_take]; omega)
  cases b with
  | false =>
   refine ⟨5, Tends.step (fun k => by rw [zC.l1]) ?_, Tends.step (fun k => by rw [zK.l1]) ?_, fun h => by cases h⟩
   ·simp only [if_pos z1, if_pos z2, hk, Option.bind_some]
    exact Tends.const _
   ·simp only [if_pos z1, if_pos z2]
    exact Tends.bind hr (Tends.const _)
  | true =>
   cases c with
   | true =>
    refine ⟨7, Tends.step (fun k => by rw [zC.l1]) ?_, Tends.step (fun k => by rw [zK.l1]) ?_, fun h => by cases h⟩
    ·simp only [if_pos z1, if_pos z2, hk, Option.bind_some, if_true, if_pos z3, Int.toNat_natCast]
     exact Tends.bind hc (Tends.const _)
    ·simp only [if_pos z1, if_pos z2, if_pos z3, Int.toNat_natCast]
     exact Tends.bind hr (Tends.bind hc (Tends.const _))
   | false =>
    refine ⟨e, Tends.step (fun k => by rw [zC.l1]) ?_, Tends.step (fun k => by rw [zK.l1]) ?_, fun h => ⟨(hP h).1, fun j h1 h2 => ?_⟩⟩
    ·simp only [if_pos z1, if_pos z2, hk, Option.bind_some, if_true, if_pos z3, Int.toNat_natCast, w1]
     exact Tends.bind hc he
    ·simp only [if_pos z1, if_pos z2, if_pos z3, Int.toNat_natCast, w1]
     exact Tends.bind hr (Tends.bind hc he2)
    ·by_cases hj : j = q
     ·subst hj
      exact hs rfl
     ·exact (hP h).2 j (by omega) h2
def GoodQ (l1 : List SPa) (j : Nat) : Prop := GoodP (rdA l1 j) ∧ (0 < j → ¬ (rdA l1 j).f0 < (rdA l1 ((j - 1 : Nat) : Int)).f0)
theorem cp_l0 (l1 : List SPa) (hl : l1.length ≤ 500) : ∀ (m i : Nat), m + i = l1.length → ∃ e : Int, Tends (fun k => zC.l0 k l1 l1 (l1.length : Int) (i : Int)) e ∧ Tends (fun k => zK.l0 k l1 l1 (l1.length : Int) (i : Int)) e ∧ (e = 0 → ∀ j : Nat, i ≤ j → j < l1.length → GoodQ l1 j) := by
 intro m
 induction m with
 | zero =>
  intro i hi
  have hz : ¬ (i : Int) < (l1.length : Int) := by omega
  refine ⟨0, Tends.step (fun k => by rw [zC.l0]) ?_, Tends.step (fun k => by rw [zK.l0]) ?_, fun _ j h1 h2 => by omega⟩
  ·simp only [if_neg hz]
   exact Tends.const _
  ·simp only [if_neg hz]
   exact Tends.const _
 | succ m ih =>
  intro i hi
  obtain ⟨e, he, heR, hP⟩ := ih (i + 1) (by omega)
  have w1 : wrap64 ((i : Int) + 1) = ((i + 1 : Nat) : Int) := by rw [w64] <;> omega
  have z1 : (i : Int) < (l1.length : Int) := by omega
  have z2 : (0 : Int) ≤ (i : Int) := by omega
  have hj1 : ∀ x34 : Bool, ∃ e2 : Int, Tends (fun k => zC.j1 k l1 l1 (l1.length : Int) (i : Int) x34 (rdA l1 i).f0 (rdA l1 i).f1.f0 (rdA l1 i).f1.f1 (rdA l1 i).f2) e2 ∧ Tends (fun k => zK.j1 k l1 l1 (l1.length : Int) (i : Int) x34 (rdA l1 i).f0 (rdA l1 i).f1.f0 (rdA l1 i).f1.f1 (rdA l1 i).f2) e2 ∧
    (e2 = 0 → (x34 = false) ∧ (∀ j : Nat, i + 1 ≤ j → j < l1.length → GoodQ l1 j) ∧ GoodM (rdA l1 i).f1.f0 (rdA l1 i).f1.f1 ∧ (rdA l1 i).f2.length ≤ 100 ∧ ∀ j : Nat, j < (rdA l1 i).f2.length → (rdOf ByteArray.empty (rdA l1 i).f2 j).size ≤ 40) := by
   intro x34
   cases x34 with
   | true =>
    refine ⟨8, Tends.step (fun k => by rw [zC.j1]) ?_, Tends.step (fun k => by rw [zK.j1]) ?_, fun h => by cases h⟩
    ·exact Tends.const _
    ·exact Tends.const _
   | false =>
    have hmt : Tends (fun k => qY.f k (rdA l1 i).f1.f0 (rdA l1 i).f1.f1) (mfB (gmB (rdA l1 i).f1.f0 (rdA l1 i).f1.f1)) := ⟨11, fun k hk => money_gm _ _ k hk⟩
    have hrt := r_isMoney (rdA l1 i).f1.f0 (rdA l1 i).f1.f1
    have hgood := @gm_good (rdA l1 i).f1.f0 (rdA l1 i).f1.f1
    generalize gmB (rdA l1 i).f1.f0 (rdA l1 i).f1.f1 = mb at hmt hrt hgood
    cases mb with
    | true =>
     replace hmt : Tends (fun k => qY.f k (rdA l1 i).f1.f0 (rdA l1 i).f1.f1) 0 := hmt
     by_cases hbig : ((rdA l1 i).f2.length : Int) > 100
     ·refine ⟨2, Tends.step (fun k => by rw [zC.j1]) ?_, Tends.step (fun k => by rw [zK.j1]) ?_, fun h => by cases h⟩
      ·simp only [Bool.false_eq_true, if_false]
       refine Tends.bind hmt ?_
       simp only [if_true, if_pos hbig]
       exact Tends.const _
      ·simp only [Bool.false_eq_true, if_false]
       refine Tends.bind hrt ?_
       simp only [if_true, if_pos hbig]
       exact Tends.const _
     ·obtain ⟨e2, he2, he3, hP2⟩ := cp_l1 l1 i (rdA l1 i) (by omega) (∀ j : Nat, i + 1 ≤ j → j < l1.length → GoodQ l1 j) ⟨e, by rw [w1]; exact he, by rw [w1]; exact heR, hP⟩ (rdA l1 i).f2.length 0 (by omega)
      refine ⟨e2, Tends.step (fun k => by rw [zC.j1]) ?_, Tends.step (fun k => by rw [zK.j1]) ?_, fun h => ⟨rfl, (hP2 h).1, hgood rfl, by omega, fun j hj => (hP2 h).2 j (Nat.zero_le _) hj⟩⟩
      ·simp only [Bool.false_eq_true, if_false]
       refine Tends.bind hmt ?_
       simp only [if_true, if_neg hbig]
       exact he2
      ·simp only [Bool.false_eq_true, if_false]
       refine Tends.bind hrt ?_
       simp only [if_true, if_neg hbig]
       exact he3
    | false =>
     replace hmt : Tends (fun k => qY.f k (rdA l1 i).f1.f0 (rdA l1 i).f1.f1) 1 := hmt
     refine ⟨1, Tends.step (fun k => by rw [zC.j1]) ?_, Tends.step (fun k => by rw [zK.j1]) ?_, fun h => by cases h⟩
     ·simp only [Bool.false_eq_true, if_false]
      refine Tends.bind hmt ?_
      exact Tends.const _
     ·simp only [Bool.false_eq_true, if_false]
      refine Tends.bind hrt ?_
      exact Tends.const _
  cases hd : dayB (rdA l1 i).f0 with
  | false =>
   refine ⟨1, Tends.step (fun k => by rw [zC.l0]) ?_, Tends.step (fun k => by rw [zK.l0]) ?_, fun h => by cases h⟩
   ·simp only [if_pos z1, if_pos z2, isDay_eq, hd, Option.bind_some]
    exact Tends.const _
   ·simp only [if_pos z1, if_pos z2, isDayR_eq, hd, Option.bind_some]
    exact Tends.const _
  | true =>
   by_cases hi0 : (i : Int) > 0
   ·have w2 : wrap64 ((i : Int) - 1) = (i : Int) - 1 := by rw [w64] <;> omega
    have z3 : (0 : Int) ≤ (i : Int) - 1 := by omega
    have z4 : (i : Int) - 1 < (l1.length : Int) := by omega
    obtain ⟨e2, he2, he3, hP2⟩ := hj1 (decide ((rdA l1 i).f0 < (rdA l1 ((i : Int) - 1)).f0))
    refine ⟨e2, Tends.step (fun k => by rw [zC.l0]) ?_, Tends.step (fun k => by rw [zK.l0]) ?_, fun h j h1 h2 => ?_⟩
    ·simp only [if_pos z1, if_pos z2, isDay_eq, hd, Option.bind_some, if_true, if_pos hi0, w2, if_pos z3, if_pos z4]
     exact he2
    ·simp only [if_pos z1, if_pos z2, isDayR_eq, hd, Option.bind_some, if_true, if_pos hi0, w2, if_pos z3, if_pos z4]
     exact he3
    ·by_cases hj : j = i
     ·subst hj
      refine ⟨⟨hd, (hP2 h).2.2⟩, fun _ => ?_⟩
      rw [show ((j - 1 : Nat) : Int) = (j : Int) - 1 by omega]
      exact of_decide_eq_false (hP2 h).1
     ·exact (hP2 h).2.1 j (by omega) h2
   ·obtain ⟨e2, he2, he3, hP2⟩ := hj1 false
    refine ⟨e2, Tends.step (fun k => by rw [zC.l0]) ?_, Tends.step (fun k => by rw [zK.l0]) ?_, fun h j h1 h2 => ?_⟩
    ·simp only [if_pos z1, if_pos z2, isDay_eq, hd, Option.bind_some, if_true, if_neg hi0]
     exact he2
    ·simp only [if_pos z1, if_pos z2, isDayR_eq, hd, Option.bind_some, if_true, if_neg hi0]
     exact he3
    ·by_cases hj : j = i
     ·subst hj
      exact ⟨⟨hd, (hP2 h).2.2⟩, fun h0 => absurd (by omega) hi0⟩
     ·exact (hP2 h).2.1 j (by omega) h2
theorem payments_both (l1 : List SPa) : ∃ e : Int, Tends (fun k => zC.f k l1) e ∧ Tends (fun k => zK.f k l1) e ∧ (e = 0 → l1.length ≤ 500 ∧ ∀ j : Nat, j < l1.length → GoodQ l1 j) := by
 unfold zC.f zK.f
 by_cases h : (l1.length : Int) > 500
 ·exact ⟨2, by simp only [if_pos h]; exact Tends.const _, by simp only [if_pos h]; exact Tends.const _, fun h => by cases h⟩
 ·obtain ⟨e, he, he2, hP⟩ := cp_l0 l1 (by omega) l1.length 0 (by omega)
  exact ⟨e, by simp only [if_neg h]; exact he, by simp only [if_neg h]; exact he2, fun h0 => ⟨by omega, fun j hj => hP h0 j (Nat.zero_le _) hj⟩⟩
structure InvV (d : SDe) (c : Int) (v : V4) : Prop where
 o : 0 ≤ v.owes
 p : 0 ≤ v.paid
 t : 0 ≤ v.taken
 s : v.paid + v.taken + v.owes = c
 dn : v.done = 0 ↔ 0 < v.owes
 d0 : 0 ≤ v.done
 tk : v.done = 0 → v.taken = 0
 dy : 0 < v.done → d.f1 ≤ v.done
theorem pay_inv {d : SDe} {c : Int} {v : V4} {left day : Int} (h : InvV d c v) (hc : c ≤ 10000000000000) (hl : 0 ≤ left) (hl2 : left ≤ 10000000000000) (hd : 1 ≤ day) (hth : d.f1 ≤ day) (h0 : v.done = 0) :
  InvV d c (payV v left day).2 ∧ 0 ≤ (payV v left day).1 ∧ (payV v left day).1 ≤ left ∧ (payV v left day).1 + (payV v left day).2.paid = left + v.paid := by
 obtain ⟨o, p, t, s, dn, d0, tk, dy⟩ := h
 have ht := tk h0
 have ho := dn.1 h0
 have hm : 0 ≤ mn left v.owes ∧ mn left v.owes ≤ v.owes ∧ mn left v.owes ≤ left := by unfold mn; split <;> omega
 unfold payV
 generalize mn left v.owes = n at hm
 rw [w64 (n := left - n) (by omega) (by omega), w64 (n := v.owes - n) (by omega) (by omega), w64 (n := v.paid + n) (by omega) (by omega)]
 by_cases hz : v.owes - n = 0
 ·rw [if_pos hz]
  refine ⟨⟨?_, ?_, ?_, ?_, ?_, ?_, ?_, ?_⟩, ?_, ?_, ?_⟩ <;> dsimp only <;> omega
 ·rw [if_neg hz]
  refine ⟨⟨?_, ?_, ?_, ?_, ?_, ?_, ?_, ?_⟩, ?_, ?_, ?_⟩ <;> dsimp only <;> omega
theorem named_inv {d : SDe} {c : Int} {v : V4} {left day dsc : Int} (h : InvV d c v) (hc : c ≤ 10000000000000) (hl : 0 ≤ left) (hl2 : left ≤ 10000000000000) (hd : 1 ≤ day) (hth : d.f1 ≤ day) (h0 : v.done = 0) (hs0 : 0 ≤ dsc) (hs1 : dsc ≤ v.owes) :
  InvV d c (yQ d dsc v left day).2 ∧ 0 ≤ (yQ d dsc v left day).1 ∧ (yQ d dsc v left day).1 ≤ left ∧ (yQ d dsc v left day).1 + (yQ d dsc v left day).2.paid = left + v.paid := by
 have hp := pay_inv h hc hl hl2 hd hth h0
 by_cases hx : wrap64 (v.owes - dsc) > left ∨ day > wrap64 (d.f1 + d.f4)
 ·have e : yQ d dsc v left day = payV v left day := by
   unfold yQ uQ payV
   rw [if_pos hx]
  rw [e]
  exact hp
 ·obtain ⟨o, p, t, s, dn, d0, tk, dy⟩ := h
  have ht := tk h0
  have ho := dn.1 h0
  have e : yQ d dsc v left day = (wrap64 (left - wrap64 (v.owes - dsc)), ⟨0, wrap64 (v.paid + wrap64 (v.owes - dsc)), dsc, day⟩) := by
   unfold yQ uQ
   rw [if_neg hx]
  rw [w64 (n := v.owes - dsc) (by omega) (by omega)] at hx e
  rw [e, w64 (n := left - (v.owes - dsc)) (by omega) (by omega), w64 (n := v.paid + (v.owes - dsc)) (by omega) (by omega)]
  refine ⟨⟨?_, ?_, ?_, ?_, ?_, ?_, ?_, ?_⟩, ?_, ?_, ?_⟩ <;> dsimp only <;> omega
def psum (S : Nat → V4) : Nat → Int
 | 0 => 0
 | n + 1 => psum S n + (S n).paid
theorem psum_upd (S : Nat → V4) (j : Nat) (v : V4) : ∀ n, psum (upd S j v) n = psum S n + (if j < n then v.paid - (S j).paid else 0)
 | 0 => by simp [psum]
 | n + 1 => by
  rw [psum, psum, psum_upd S j v n]
  unfold upd
  by_cases h : n = j
  ·subst h
   rw [if_pos rfl, if_neg (by omega), if_pos (by omega)]
   omega
  ·rw [if_neg h]
   by_cases h2 : j < n
   ·rw [if_pos h2, if_pos (by omega)]
    omega
   ·rw [if_neg h2, if_neg (by omega)]
    omega
def SInv (l0 : List SDe) (cv : Nat → Int) (S : Nat → V4) : Prop := ∀ j : Nat, j < l0.length → InvV (rdD l0 j) (cv j) (S j)
structure Ok0 (l0 : List SDe) (cv : Nat → Int) (dsc : Nat → Int → Int) : Prop where
 c : ∀ j : Nat, j < l0.length → 0 < cv j ∧ cv j ≤ 10000000000000
 s : ∀ j : Nat, j < l0.length → ∀ o : Int, 0 ≤ o → 0 ≤ dsc j o ∧ dsc j o ≤ o
def StepOK (l0 : List SDe) (cv : Nat → Int) (s s' : Int × (Nat → V4)) : Prop := SInv l0 cv s'.2 ∧ 0 ≤ s'.1 ∧ s'.1 ≤ s.1 ∧ s'.1 + psum s'.2 l0.length = s.1 + psum s.2 l0.length
theorem SInv.upd {l0 : List SDe} {cv : Nat → Int} {S : Nat → V4} (h : SInv l0 cv S) {j : Nat} {v : V4} (hv : InvV (rdD l0 j) (cv j) v) : SInv l0 cv (upd S j v) := by
 intro i hi
 unfold Go.Proofs.YtaihfoihlbileaaGreatDoor.R6.upd
 by_cases e : i = j
 ·rw [if_pos e, e]
  exact hv
 ·rw [if_neg e]
  exact h i hi
theorem there_at {d : SDe} {v : V4} {day : Int} (h : yj d v day = true) : d.f1 ≤ day ∧ v.done = 0 := by
 unfold yj at h
 split at h
 ·exact ⟨by assumption, by simpa using h⟩
 ·cases h
theorem stepN_ok {l0 : List SDe} {cv : Nat → Int} {dsc : Nat → Int → Int} (K : Ok0 l0 cv dsc) {day : Int} (hd : 1 ≤ day) {o : Option Nat} (ho : ∀ j, o = some j → j < l0.length) {s : Int × (Nat → V4)} (hS : SInv l0 cv s.2) (h0 : 0 ≤ s.1) (h1 : s.1 ≤ 10000000000000) : StepOK l0 cv s (stepN l0 dsc day o s) := by
 cases o with
 | none => exact ⟨hS, h0, Int.le_refl _, rfl⟩
 | some j =>
  have hj := ho j rfl
  show StepOK l0 cv s (if yj (rdD l0 j) (s.2 j) day = true then _ else s)
  by_cases hth : yj (rdD l0 j) (s.2 j) day = true
  ·rw [if_pos hth]
   obtain ⟨ha, hb⟩ := there_at hth
   have hi := hS j hj
   obtain ⟨a, b, c, e⟩ := named_inv (dsc := dsc j (s.2 j).owes) hi (K.c j hj).2 h0 h1 hd ha hb (K.s j hj _ hi.o).1 (K.s j hj _ hi.o).2
   refine ⟨hS.upd a, b, c, ?_⟩
   show _ + psum (upd _ _ _) _ = _
   rw [psum_upd, if_pos hj]
   omega
  ·rw [if_neg hth]
   exact ⟨hS, h0, Int.le_refl _, rfl⟩
theorem stepO_ok {l0 : List SDe} {cv : Nat → Int} {dsc : Nat → Int → Int} (K : Ok0 l0 cv dsc) {day : Int} (hd : 1 ≤ day) {j : Nat} (hj : j < l0.length) {s : Int × (Nat → V4)} (hS : SInv l0 cv s.2) (h0 : 0 ≤ s.1) (h1 : s.1 ≤ 10000000000000) : StepOK l0 cv s (stepO l0 day j s) := by
 unfold stepO
 by_cases hth : s.1 > 0 ∧ yj (rdD l0 j) (s.2 j) day = true
 ·rw [if_pos hth]
  obtain ⟨ha, hb⟩ := there_at hth.2
  have hi := hS j hj
  obtain ⟨a, b, c, e⟩ := pay_inv hi (K.c j hj).2 h0 h1 hd ha hb
  refine ⟨hS.upd a, b, c, ?_⟩
  show _ + psum (upd _ _ _) _ = _
  rw [psum_upd, if_pos hj]
  omega
 ·rw [if_neg hth]
  exact ⟨hS, h0, Int.le_refl _, rfl⟩
theorem StepOK.trans {l0 : List SDe} {cv : Nat → Int} {a b c : Int × (Nat → V4)} (h : StepOK l0 cv a b) (k : StepOK l0 cv b c) : StepOK l0 cv a c :=
 ⟨k.1, k.2.1, Int.le_trans k.2.2.1 h.2.2.1, k.2.2.2.trans h.2.2.2⟩
theorem runN_ok {l0 : List SDe} {cv : Nat → Int} {dsc : Nat → Int → Int} (K : Ok0 l0 cv dsc) {day : Int} (hd : 1 ≤ day) (nm : Nat → ByteArray) {s : Int × (Nat → V4)} (hS : SInv l0 cv s.2) (h0 : 0 ≤ s.1) (h1 : s.1 ≤ 10000000000000) : ∀ k, StepOK l0 cv s (runN l0 dsc day nm s k)
 | 0 => ⟨hS, h0, Int.le_refl _, rfl⟩
 | k + 1 => by
  have h := runN_ok K hd nm hS h0 h1 k
  exact h.trans (stepN_ok K hd (fun j e => uT e) h.1 h.2.1 (Int.le_trans h.2.2.1 h1))
theorem runO_ok {l0 : List SDe} {cv : Nat → Int} {dsc : Nat → Int → Int} (K : Ok0 l0 cv dsc) {day : Int} (hd : 1 ≤ day) {od : List Nat} (hod : ∀ j ∈ od, j < l0.length) {s : Int × (Nat → V4)} (hS : SInv l0 cv s.2) (h0 : 0 ≤ s.1) (h1 : s.1 ≤ 10000000000000) : ∀ k, k ≤ od.length → StepOK l0 cv s (runO l0 day od s k)
 | 0, _ => ⟨hS, h0, Int.le_refl _, rfl⟩
 | k + 1, hk => by
  have h := runO_ok K hd hod hS h0 h1 k (by omega)
  refine h.trans (stepO_ok K hd (hod _ ?_) h.1 h.2.1 (Int.le_trans h.2.2.1 h1))
  rw [List.getD_eq_getElem?_getD, List.getElem?_eq_getElem (by omega)]
  exact List.getElem_mem _
def isum : List Int → Int
 | [] => 0
 | x :: r => x + isum r
theorem isum_snoc (l : List Int) (x : Int) : isum (l ++ [x]) = isum l + x := by
 induction l with
 | nil => simp [isum]
 | cons y r ih => simp only [List.cons_append, isum, ih]; omega
def csum (pc : Nat → Int) : Nat → Int
 | 0 => 0
 | n + 1 => csum pc n + pc n
theorem psum_ini (cv : Nat → Int) : ∀ n, psum (iniV cv) n = 0
 | 0 => rfl
 | n + 1 => by rw [psum, psum_ini cv n]; rfl
theorem runP_ok {l0 : List SDe} {cv : Nat → Int} {dsc : Nat → Int → Int} (K : Ok0 l0 cv dsc) {od : List Nat} (hod : ∀ j ∈ od, j < l0.length) (l1 : List SPa) (pc : Nat → Int)
  (hday : ∀ i : Nat, i < l1.length → 1 ≤ (rdA l1 i).f0) (hpc : ∀ i : Nat, i < l1.length → 0 ≤ pc i ∧ pc i ≤ 10000000000000) :
  ∀ m, m ≤ l1.length → SInv l0 cv (runP l0 cv dsc od l1 pc m).1 ∧ (∀ x ∈ (runP l0 cv dsc od l1 pc m).2, 0 ≤ x ∧ x ≤ 10000000000000) ∧ isum (runP l0 cv dsc od l1 pc m).2 + psum (runP l0 cv dsc od l1 pc m).1 l0.length = csum pc m
 | 0, _ => by
  refine ⟨fun j hj => ?_, fun x hx => (by cases hx), ?_⟩
  ·have := K.c j hj
   show InvV _ _ (iniV cv j)
   unfold iniV
   refine ⟨?_, ?_, ?_, ?_, ?_, ?_, ?_, ?_⟩ <;> dsimp only <;> omega
  ·show isum [] + psum (iniV cv) l0.length = 0
   rw [psum_ini]
   rfl
 | m + 1, hm => by
  obtain ⟨h1, h2, h3⟩ := runP_ok K hod l1 pc hday hpc m (by omega)
  have hp := hpc m (by omega)
  have hd := hday m (by omega)
  have hN := runN_ok K hd (fun k => rdOf ByteArray.empty (rdA l1 m).f2 k) (s := (pc m, (runP l0 cv dsc od l1 pc m).1)) h1 hp.1 hp.2 (rdA l1 m).f2.length
  have hO := hN.trans (runO_ok K hd hod hN.1 hN.2.1 (Int.le_trans hN.2.2.1 hp.2) od.length (Nat.le_refl _))
  obtain ⟨a, b, c, d⟩ := hO
  refine ⟨a, fun x hx => ?_, ?_⟩
  ·rcases List.mem_append.1 hx with h | h
   ·exact h2 x h
   ·have := List.mem_singleton.1 h
    rw [this]
    exact ⟨b, Int.le_trans c hp.2⟩
  ·show isum ((runP l0 cv dsc od l1 pc m).2 ++ [(oneP l0 dsc od (rdA l1 m) (pc m) (runP l0 cv dsc od l1 pc m).1).1]) + psum (oneP l0 dsc od (rdA l1 m) (pc m) (runP l0 cv dsc od l1 pc m).1).2 l0.length = csum pc m + pc m
   rw [isum_snoc]
   unfold oneP
   dsimp only at d
   omega
end Go.Proofs.YtaihfoihlbileaaGreatDoor.R6
