/- What orders the debts: (*debt).last and the closure that compares two of them. -/
import Derived.Test.YtaihfoihlbileaaDoorR4x
import Derived.Test.YtaihfoihlbileaaDoorR4sp
namespace Go.Proofs.YtaihfoihlbileaaDoor.R4
open Go Go.Proofs Go.RowKit Go.Sort Go.Proofs.YtaihfoihlbileaaDoorW.PrintWords Go.Proofs.YtaihfoihlbileaaDoorW.PrintLast Go.Proofs.YtaihfoihlbileaaDoorW.PrintMore

/-- a debt as it lies in memory -/
structure DS where
  nm : ByteArray
  day : Int
  units : Int
  places : Int
  days : Int
  within : Int
  disc : Int
  owes : Int
  paid : Int
  taken : Int
  done : Int
def DS.obj (x : DS) : Obj := .cells #[.string x.nm, .int .i64 x.day, .int .i64 x.units, .int .i64 x.places, .int .i64 x.days, .int .i64 x.within, .int .i64 x.disc, .int .i64 x.owes, .int .i64 x.paid, .int .i64 x.taken, .int .i64 x.done] 60 (0, 0)
def DS.last (x : DS) : Int := wrap64 (x.day + x.days)
set_option maxHeartbeats 1000000 in
set_option maxRecDepth 1000000 in
theorem last_calls (g : Nat) (x : DS) (w : World) (HG : w.heap[g]? = some x.obj) :
    Calls Tryd.prog 29 #[.pointer (some ⟨g, 0, none⟩)] w fun e w' => e = .returned (.int .i64 x.last) ∧ w' = w.drewN 1 := by
  have c1 := cellS60_1 HG
  have c4 := cellS60_4 HG
  obtain ⟨r, hr⟩ : ∃ r, r = x.last := ⟨_, rfl⟩
  have wr : IntKind.i64.wrap (x.day + x.days) = r := (i64_w _).trans hr.symm
  rw [← hr]
  clear HG hr
  go_enter Tryd.func29, Tryd.ntmps29
  go_wp2
  go_big_region
  all_goals go_wp2
  go_ret
  exact ⟨rfl, rfl⟩
set_option maxHeartbeats 1000000 in
set_option maxRecDepth 1000000 in
theorem compare_calls (g g' : Nat) (x x' : DS) (w : World) (HG : w.heap[g]? = some x.obj) (HG' : w.heap[g']? = some x'.obj) :
    Calls Tryd.prog 28 #[.pointer (some ⟨g, 0, none⟩), .pointer (some ⟨g', 0, none⟩)] w fun e w' => e = .returned (.int .i64 (wrap64 (x.last - x'.last))) ∧ ∃ q, w' = w.drewN q := by
  have h1 := last_calls g x w HG
  have h2 := last_calls g' x' (w.drewN 1) HG'
  obtain ⟨r, hr⟩ : ∃ r, r = wrap64 (x.last - x'.last) := ⟨_, rfl⟩
  have wr : IntKind.i64.wrap (x.last - x'.last) = r := (i64_w _).trans hr.symm
  rw [← hr]
  clear HG HG' hr
  go_enter Tryd.func28, Tryd.ntmps28
  go_wp2_with (first | (go_at_call 29; (with_reducible refine h1.mono ?_); rintro e w1 ⟨rfl, rfl⟩) | (go_at_call 29; (with_reducible refine h2.mono ?_); rintro e w2 ⟨rfl, rfl⟩))
  go_ret
  exact ⟨rfl, 2, rfl⟩
/-- the debts that are sorted: their pointers -/
def encF {n : Nat} (gs : Fin n → Nat) (i : Fin n) : Value := .pointer (some ⟨gs i, 0, none⟩)
theorem encF_one {n : Nat} (gs : Fin n → Nat) : OneCell (encF gs) := fun _ => rfl
theorem heap_sortWorld {α : Type} [Inhabited α] (enc : α → Value) (w : World) (blk off m : Nat) (X : Array α) (os : Array Obj) (g : Nat) (o : Obj) (h : w.heap[g]? = some o) (hne : g ≠ blk) : (sortWorld enc w blk off m X os).heap[g]? = some o := by
  show ((w.heap.modify blk _) ++ os)[g]? = some o
  have hlt : g < w.heap.size := (Array.getElem?_eq_some_iff.1 h).1
  rw [Array.getElem?_append_left (by simpa using hlt), Array.getElem?_modify, if_neg (Ne.symm hne)]
  exact h
theorem cmp_reads {n : Nat} [Inhabited (Fin n)] (gs : Fin n → Nat) (xs : Fin n → DS) (blk off : Nat) (w : World) (h : ∀ i, w.heap[gs i]? = some (xs i).obj) (hne : ∀ i, gs i ≠ blk) (size : Nat) :
    CmpReads Tryd.prog 28 #[] (encF gs) (fun i j => wrap64 ((xs i).last - (xs j).last)) blk off size w := by
  intro m os dk _ x y
  exact compare_calls (gs x) (gs y) (xs x) (xs y) _ (heap_sortWorld _ _ _ _ _ _ _ _ _ (h x) (hne x)) (heap_sortWorld _ _ _ _ _ _ _ _ _ (h y) (hne y))
end Go.Proofs.YtaihfoihlbileaaDoor.R4
