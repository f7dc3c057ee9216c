/- What an argument reads as: out of the form's reading of it come the kinds of the printed contracts. No law in sight. -/
import Derived.Test.YtaihfoihlbileaaDoorR4x0
import Derived.ChangeArms
import Derived.ChangeSame
import Derived.DataReads
import Derived.ProofKit
namespace Go.Proofs.YtaihfoihlbileaaDoor.R4
open Go Go.Proofs Go.RowKit YtaihfoihlbileaaDoorW.PrintWords

theorem addr_add_add (a : Addr) (m n : Nat) : (a.add m).add n = a.add (m + n) := by
  unfold Addr.add
  by_cases h1 : m = 0 <;> by_cases h2 : n = 0 <;> simp [h1, h2, Nat.add_assoc]
section
variable {H : Type} (enc : TypeId × Value → H) (P : Program) (w : World) (sp : Nat → Bool) (hd : Bool)
def Opens {α : Type} (d : Kd α) (t : TypeId) (V : α → Prop) : Prop := ∀ (fuel : Nat) (cs : List Value) (x : DataW H × List MemPlace), DataW.trod enc P w 0 sp hd fuel t cs = some x → ∃ a, d.K w a cs ∧ V a
def OpensFs {α : Type} (fs : List Field) (o tot : Nat) (d : Kd α) (V : α → Prop) : Prop := ∀ (n : Nat) (cs : List Value), cs.length = tot → (∀ f ∈ fs, ∃ y, DataW.trod enc P w 0 sp hd n f.type ((cs.drop f.offset).take (P.cellsOf f.type)) = some y) → ∃ a, d.K w a (cs.drop o) ∧ V a
variable {enc P w sp hd}
theorem opens_int {t : TypeId} {k : IntKind} (ht : P.underlying t = some (.int k)) : Opens enc P w sp hd (Kd.int k) t (fun n => (Lit.int k n).wf = true) := by
  intro fuel cs x h
  cases fuel with
  | zero => simp [DataW.trod] at h
  | succ fuel =>
    unfold DataW.trod at h
    rw [ht] at h
    split at h <;> simp_all
    rename_i k' n _
    obtain ⟨⟨rfl, hw⟩, _⟩ := h
    exact ⟨n, rfl, hw⟩
theorem opens_bool {t : TypeId} (ht : P.underlying t = some .bool) : Opens enc P w sp hd Kd.bool t (fun _ => True) := by
  intro fuel cs x h
  cases fuel with
  | zero => simp [DataW.trod] at h
  | succ fuel =>
    unfold DataW.trod at h
    rw [ht] at h
    split at h <;> simp_all
    rename_i b
    cases b
    · exact .inl rfl
    · exact .inr rfl
theorem opens_string {t : TypeId} (ht : P.underlying t = some .string) : Opens enc P w sp hd Kd.string t (fun s => s.size ≤ maxLen) := by
  intro fuel cs x h
  cases fuel with
  | zero => simp [DataW.trod] at h
  | succ fuel =>
    unfold DataW.trod at h
    rw [ht] at h
    split at h <;> simp_all
    rename_i s
    exact ⟨s, rfl, h.1⟩
theorem opens_iso {α β : Type} {d : Kd α} {t : TypeId} {V : α → Prop} (g : β → α) (hg : ∀ y, ∃ x, g x = y) (h : Opens enc P w sp hd d t V) : Opens enc P w sp hd (Kd.iso d g) t (fun x => V (g x)) := by
  intro fuel cs x hx
  obtain ⟨a, hK, hV⟩ := h fuel cs x hx
  obtain ⟨b, rfl⟩ := hg a
  exact ⟨b, hK, hV⟩
theorem opensFs_last {α : Type} {d : Kd α} {f : Field} {o tot : Nat} {V : α → Prop} (ho : f.offset = o) (hs : o + P.cellsOf f.type = tot) (h : Opens enc P w sp hd d f.type V) : OpensFs enc P w sp hd [f] o tot d V := by
  intro n cs hl hf
  obtain ⟨y, hy⟩ := hf f (List.mem_singleton.2 rfl)
  obtain ⟨a, hK, hV⟩ := h n _ y hy
  rw [ho, List.take_of_length_le (by rw [List.length_drop]; omega)] at hK
  exact ⟨a, hK, hV⟩
theorem opensFs_cons {α β : Type} {d : Kd α} {d' : Kd β} {f : Field} {fs : List Field} {o tot : Nat} {V : α → Prop} {V' : β → Prop} (ho : f.offset = o) (h : Opens enc P w sp hd d f.type V) (h' : OpensFs enc P w sp hd fs (o + P.cellsOf f.type) tot d' V') :
    OpensFs enc P w sp hd (f :: fs) o tot (Kd.pair d d') (fun p => V p.1 ∧ V' p.2) := by
  intro n cs hl hf
  obtain ⟨y, hy⟩ := hf f (List.mem_cons_self ..)
  obtain ⟨a, hK, hV⟩ := h n _ y hy
  obtain ⟨b, hK', hV'⟩ := h' n cs hl (fun g hg => hf g (List.mem_cons_of_mem _ hg))
  rw [ho] at hK
  refine ⟨(a, b), ⟨_, _, ?_, hK, hK'⟩, hV, hV'⟩
  rw [← List.drop_drop, List.take_append_drop]
theorem opens_struct {α : Type} {d : Kd α} {t : TypeId} {fs : Array Field} {V : α → Prop} (ht : P.underlying t = some (.struct fs)) (h : OpensFs enc P w sp hd fs.toList 0 (P.cellsOf t) d V) : Opens enc P w sp hd d t V := by
  intro fuel cs x hx
  obtain ⟨xs, n, _, _, hl, hlen, hf⟩ := DataW.trod_struct ht hx
  have := h n cs hl (fun f hf' => by
    obtain ⟨i, hi, rfl⟩ := List.getElem_of_mem hf'
    have hi' : i < fs.size := by simpa using hi
    have h1 := hf i fs[i] (by simp [hi'])
    have h2 : i < xs.length := by rw [hlen]; exact hi'
    rw [List.getElem?_eq_getElem h2] at h1
    exact ⟨_, by simpa using h1⟩)
  simpa using this
theorem opens_slice {α : Type} {d : Kd α} {t e : TypeId} {V : α → Prop} (ht : P.underlying t = some (.slice e)) (hs : P.cellsOf e = d.sz) (h : Opens enc P w sp hd d e V) :
    Opens enc P w sp hd (Kd.slice e d) t (fun l => l.length ≤ maxLen ∧ ∀ x ∈ l, V x) := by
  intro fuel cs x hx
  rcases DataW.trod_slice ht hx with ⟨rfl, _⟩ | ⟨a, len, cap, elems, rest, n, _, rfl, _, hb, hl, hm, hlen, hel, _, _⟩
  · exact ⟨[], ⟨none, 0, rfl, Nat.le_refl _, Kd.C_nil _ _⟩, by simp, by simp⟩
  · have each : ∀ i : Fin len, ∃ p : α × List Value, w.cells? 0 (a.add (i.1 * P.cellsOf e)) (P.cellsOf e) = some p.2 ∧ d.K w p.1 p.2 ∧ V p.1 := by
      intro i
      have h1 := hel i.1 i.2
      rw [List.getElem?_eq_getElem (by rw [hlen]; exact i.2)] at h1
      obtain ⟨c, hc, hc2⟩ := Option.bind_eq_some_iff.1 h1
      obtain ⟨y, hK, hV⟩ := h n c _ hc2
      exact ⟨(y, c), hc, hK, hV⟩
    let g : Fin len → α × List Value := fun i => Classical.choose (each i)
    have hg : ∀ i, _ := fun i => Classical.choose_spec (each i)
    let l : List α := List.ofFn fun i => (g i).1
    have hll : l.length = len := by simp [l]
    refine ⟨l, ⟨some a, cap, by rw [hll], by rw [hll]; exact hl, ⟨rfl, ?_, fun _ => ⟨a, rfl, ?_⟩⟩⟩, ?_, ?_⟩
    · rw [hll]
      have : maxLen ≤ 9223372036854775807 := by decide
      omega
    · intro j p hj
      have hjl : j < len := by
        by_cases q : j < l.length
        · rw [hll] at q
          exact q
        · rw [List.getElem?_eq_none (by omega)] at hj
          cases hj
      obtain ⟨h1, h2, h3⟩ := hg ⟨j, hjl⟩
      have hp : p = (g ⟨j, hjl⟩).1 := by
        have : l[j]? = some (g ⟨j, hjl⟩).1 := by
          show (List.ofFn fun i => (g i).1)[j]? = _
          rw [List.getElem?_ofFn, dif_pos hjl]
        rw [this] at hj
        exact (Option.some.inj hj).symm
      subst hp
      refine ⟨(g ⟨j, hjl⟩).2, d.K_len h2, h2, fun i u hu => ?_⟩
      obtain ⟨_, h4, h5⟩ := World.cells?_some h1
      have hi : i < (g ⟨j, hjl⟩).2.length := by
        by_cases q : i < (g ⟨j, hjl⟩).2.length
        · exact q
        · rw [List.getElem?_eq_none (by omega)] at hu
          cases hu
      have h6 := h5 i (by rw [← h4]; exact hi)
      have h7 : (a.add (j * P.cellsOf e)).add i = a.add (j * d.sz + i) := by
        rw [hs, addr_add_add]
      rw [h7] at h6
      exact h6.trans hu
    · rw [hll]
      omega
    · intro y hy
      obtain ⟨i, rfl⟩ := (List.mem_ofFn ..).1 hy
      exact (hg i).2.2
end
end Go.Proofs.YtaihfoihlbileaaDoor.R4
