/- Plain readings: what a value's cells, read as data, say of it, kind by kind (whole numbers, bools, strings, slices, structs). Conditions: none. -/
import Derived.ChangeArms
import Derived.DataReads
import Derived.Deep.Slices
import Derived.Test.YtggfndobfpmoaaaWWords
namespace Go.Proofs.Ytggfndobfpmoaaa.RowOpen
open Go.Proofs.YtggfndobfpmoaaaW.PrintWords Go.ChangeShapes Go.WideShapes Go.Deep

/-- Whatever can be read as data of this type says one value of the kind, and that value is in order. -/
def Opens {α : Type} (P : Program) (t : TypeId) (d : Kd α) (ok : α → Prop) : Prop :=
  ∀ (H : Type) (enc : TypeId × Value → H) (w : World) (fuel : Nat) (cs : List Value) (x : DataW H × List MemPlace),
    DataW.trod enc P w 0 (fun _ => true) true fuel t cs = some x → ∃ y, d.K w y cs ∧ ok y

theorem Opens.int {P : Program} {t : TypeId} {k : IntKind} (ht : P.underlying t = some (.int k)) : Opens P t (Kd.int k) (fun n => (Lit.int k n).wf = true) := by
  intro H enc w fuel cs x h
  obtain ⟨n, rfl, _, hw⟩ := DataW.trod_int ht h
  exact ⟨n, rfl, hw⟩
theorem Opens.bool {P : Program} {t : TypeId} (ht : P.underlying t = some .bool) : Opens P t Kd.bool (fun _ => True) := by
  intro H enc w fuel cs x h
  obtain ⟨b, rfl, _⟩ := DataW.trod_bool ht h
  exact ⟨b, rfl, trivial⟩
theorem Opens.string {P : Program} {t : TypeId} (ht : P.underlying t = some .string) : Opens P t Kd.string (fun s => s.size ≤ maxLen) := by
  intro H enc w fuel cs x h
  obtain ⟨s, rfl, _, hs⟩ := DataW.trod_string ht h
  exact ⟨s, rfl, hs⟩

theorem lists {α : Type} (Q : Nat → α → Prop) : ∀ n, (∀ i, i < n → ∃ y, Q i y) → ∃ ys : List α, ys.length = n ∧ ∀ j y, ys[j]? = some y → Q j y
  | 0, _ => ⟨[], rfl, fun j y h => by simp at h⟩
  | n + 1, h => by
    obtain ⟨ys, hl, hy⟩ := lists Q n (fun i hi => h i (Nat.lt_succ_of_lt hi))
    obtain ⟨z, hz⟩ := h n (Nat.lt_succ_self n)
    refine ⟨ys ++ [z], by simp [hl], fun j y hj => ?_⟩
    rcases Nat.lt_or_ge j ys.length with hlt | hge
    · rw [List.getElem?_append_left hlt] at hj
      exact hy j y hj
    · rw [List.getElem?_append_right hge] at hj
      have hj0 : j - ys.length = 0 := by
        have := (List.getElem?_eq_some_iff.1 hj).1
        simpa using this
      rw [hj0] at hj
      have e : z = y := by simpa using hj
      have e2 : j = n := by omega
      rw [← e, e2]
      exact hz

theorem Opens.slice {α : Type} {P : Program} {t e : TypeId} {d : Kd α} {ok : α → Prop} (ht : P.underlying t = some (.slice e)) (hs : P.cellsOf e = d.sz) (he : Opens P e d ok) :
    Opens P t (Kd.slice e d) (fun xs => xs.length ≤ maxLen ∧ ∀ y, y ∈ xs → ok y) := by
  intro H enc w fuel cs x h
  rcases open_slice ht h with ⟨rfl, _⟩ | ⟨a, len, cap, m, n, D, Pl, rfl, _, hl, hm, hmm, _, hi⟩
  · exact ⟨[], ⟨none, 0, rfl, Nat.le_refl _, rfl, by simp, fun h => absurd h (by simp)⟩, by simp, fun y hy => by simp at hy⟩
  · have hlm : len ≤ m := by rw [hmm]; simp; exact hl
    obtain ⟨ys, hyl, hy⟩ := lists (fun i y => ok y ∧ ∃ c : List Value, c.length = d.sz ∧ d.K w y c ∧ ∀ j u, c[j]? = some u → w.cell? (a.add (i * d.sz + j)) = some u) len (fun i hil => by
      obtain ⟨cs', hc, ht'⟩ := hi i (by omega)
      obtain ⟨y, hK, hok⟩ := he H enc w n cs' _ ht'
      obtain ⟨_, hcl, hat⟩ := World.cells?_some hc
      refine ⟨y, hok, cs', d.K_len hK, hK, fun j u hu => ?_⟩
      have hj : j < P.cellsOf e := by
        have := (List.getElem?_eq_some_iff.1 hu).1
        omega
      have := hat j hj
      rw [hs, Go.Deep.add_add] at this
      rw [this, hu])
    have hle : ys.length ≤ maxLen := by rw [hyl]; omega
    refine ⟨ys, ⟨some a, cap, by rw [hyl], by rw [hyl]; exact hl, rfl, hle, fun _ => ⟨a, rfl, fun j p hj => (hy j p hj).2⟩⟩, hle, fun y hmem => ?_⟩
    obtain ⟨j, hj, rfl⟩ := List.getElem_of_mem hmem
    exact (hy j _ (List.getElem?_eq_getElem hj)).1

/-- The same of the fields of a struct, from a place on. -/
def OpensFs {α : Type} (P : Program) (fs : List Field) (off : Nat) (d : Kd α) (ok : α → Prop) : Prop :=
  ∀ (H : Type) (enc : TypeId × Value → H) (w : World) (n : Nat) (cs : List Value), cs.length = off + d.sz →
    (∀ f, f ∈ fs → ∃ x, DataW.trod enc P w 0 (fun _ => true) true n f.type ((cs.drop f.offset).take (P.cellsOf f.type)) = some x) → ∃ y, d.K w y (cs.drop off) ∧ ok y
theorem OpensFs.one {α : Type} {P : Program} {f : Field} {off : Nat} {d : Kd α} {ok : α → Prop} (ho : f.offset = off) (hs : P.cellsOf f.type = d.sz) (he : Opens P f.type d ok) : OpensFs P [f] off d ok := by
  intro H enc w n cs hl h
  obtain ⟨x, hx⟩ := h f (by simp)
  rw [ho, hs, List.take_of_length_le (by simp; omega)] at hx
  exact he H enc w n _ x hx
theorem OpensFs.cons {α β : Type} {P : Program} {f : Field} {fs : List Field} {off : Nat} {d : Kd α} {d' : Kd β} {ok : α → Prop} {ok' : β → Prop} (ho : f.offset = off) (hs : P.cellsOf f.type = d.sz) (he : Opens P f.type d ok)
    (hr : OpensFs P fs (off + d.sz) d' ok') : OpensFs P (f :: fs) off (Kd.pair d d') (fun p => ok p.1 ∧ ok' p.2) := by
  intro H enc w n cs hl h
  have hl' : cs.length = off + (d.sz + d'.sz) := hl
  obtain ⟨x, hx⟩ := h f (by simp)
  rw [ho, hs] at hx
  obtain ⟨y, hK, hok⟩ := he H enc w n _ x hx
  obtain ⟨z, hK', hok'⟩ := hr H enc w n cs (by omega) (fun g hg => h g (List.mem_cons_of_mem _ hg))
  refine ⟨(y, z), ⟨(cs.drop off).take d.sz, cs.drop (off + d.sz), ?_, hK, hK'⟩, hok, hok'⟩
  rw [← List.drop_drop, List.take_append_drop]
theorem Opens.struct {α β : Type} {P : Program} {t : TypeId} {fs : Array Field} {d : Kd α} {ok : α → Prop} (ht : P.underlying t = some (.struct fs)) (hs : P.cellsOf t = d.sz) (hf : OpensFs P fs.toList 0 d ok) (f : β → α) (g : α → β) (hg : ∀ y, f (g y) = y) :
    Opens P t (Kd.iso d f) (fun b => ok (f b)) := by
  intro H enc w fuel cs x h
  obtain ⟨xs, n, rfl, _, hl, hlen, hat⟩ := DataW.trod_struct ht h
  obtain ⟨y, hK, hok⟩ := hf H enc w n cs (by omega) (fun q hq => by
    obtain ⟨i, hi, rfl⟩ := List.getElem_of_mem hq
    have hi' : i < fs.size := by simpa using hi
    have := hat i (fs.toList[i]'hi) (by simp [hi'])
    rw [List.getElem?_eq_getElem (by omega)] at this
    exact ⟨_, this⟩)
  refine ⟨g y, ?_, by show ok (f (g y)); rw [hg]; exact hok⟩
  show d.K w (f (g y)) cs
  rw [hg]
  exact hK
end Go.Proofs.Ytggfndobfpmoaaa.RowOpen
