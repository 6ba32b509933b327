/- How an argument that is read as data is told by a kind: numbers, bools, strings, slices, structs, in any nesting. No condition. -/
import Derived.Test.YtdllommmccgleaaWMore
import Derived.Deep.Slices
import Derived.ChangeArms
import Derived.DataReads
import Derived.RowKit
namespace Go.Proofs.YtdllommmccgleaaW.Opens
open Go.RowKit Go.ChangeShapes Go.WideShapes Go.Deep Go.Proofs.YtdllommmccgleaaW.PrintWords

/-- What is read as data at type t is a value of kind d that is ok. -/
structure Opens {α : Type} (P : Program) (t : TypeId) (d : Kd α) (ok : α → Prop) : Prop where
  out : ∀ {H : Type} (enc : TypeId × Value → H) (w : World) (base : Nat) (spare : Nat → Bool) (held : Bool) (fuel : Nat) (cs : List Value) (x : DataW H × List MemPlace),
    DataW.trod enc P w base spare held fuel t cs = some x → ∃ a : α, d.K w a cs ∧ ok a

section
variable {P : Program} {t e : TypeId}
theorem opens_int {k : IntKind} (ht : P.underlying t = some (.int k)) : Opens P t (Kd.int k) (fun n => (Lit.int k n).wf = true) := by
  constructor
  intro H enc w base spare held fuel cs x h
  obtain ⟨n, rfl, _, hw⟩ := DataW.trod_int ht h
  exact ⟨n, rfl, hw⟩
theorem opens_bool (ht : P.underlying t = some .bool) : Opens P t Kd.bool (fun _ => True) := by
  constructor
  intro H enc w base spare held fuel cs x h
  obtain ⟨b, rfl, _⟩ := DataW.trod_bool ht h
  exact ⟨b, rfl, trivial⟩
theorem opens_string (ht : P.underlying t = some .string) : Opens P t Kd.string (fun s => s.size ≤ maxLen) := by
  constructor
  intro H enc w base spare held fuel cs x h
  obtain ⟨s, rfl, _, hz⟩ := DataW.trod_string ht h
  exact ⟨s, rfl, hz⟩
theorem all_get {α : Type} (p : Nat → α → Prop) : ∀ (n : Nat), (∀ i, i < n → ∃ a, p i a) → ∃ l : List α, l.length = n ∧ ∀ i a, l[i]? = some a → p i a
  | 0, _ => ⟨[], rfl, fun i a h => by simp at h⟩
  | n + 1, h => by
    obtain ⟨l, hl, hp⟩ := all_get p n (fun i hi => h i (by omega))
    obtain ⟨a, ha⟩ := h n (by omega)
    refine ⟨l ++ [a], by simp [hl], fun i b hb => ?_⟩
    rcases Nat.lt_or_ge i n with h1 | h1
    · rw [List.getElem?_append_left (by omega)] at hb
      exact hp i b hb
    · rw [List.getElem?_append_right (by omega)] at hb
      have hi : i = n := by
        have := (List.getElem?_eq_some_iff.1 hb).1
        simp at this
        omega
      subst hi
      rw [hl] at hb
      simp at hb
      rw [← hb]
      exact ha
theorem opens_slice {α : Type} {d : Kd α} {ok : α → Prop} (ht : P.underlying t = some (.slice e)) (hsz : P.cellsOf e = d.sz) (he : Opens P e d ok) : Opens P t (Kd.slice e d) (fun l => l.length ≤ maxLen ∧ ∀ x ∈ l, ok x) := by
  constructor
  intro H enc w base spare held fuel cs x h
  rcases open_slice ht h with ⟨rfl, _⟩ | ⟨a, len, cap, m, n, D, Pl, rfl, _, hl, hm, hmm, _, hi⟩
  · exact ⟨[], ⟨none, 0, rfl, Nat.le_refl _, rfl, by simp, fun h0 => absurd h0 (by simp)⟩, by simp, fun x hx => by cases hx⟩
  · have hle : len ≤ m := by rw [hmm]; split <;> omega
    obtain ⟨l, hl2, hp⟩ := all_get (fun i (y : α) => ∃ cs', cs'.length = d.sz ∧ d.K w y cs' ∧ ok y ∧ ∀ j u, cs'[j]? = some u → w.cell? (a.add (i * d.sz + j)) = some u) len (fun i hlt => by
      obtain ⟨cs', hc, hr⟩ := hi i (by omega)
      obtain ⟨y, hK, hok⟩ := he.out enc w base spare held n cs' _ hr
      obtain ⟨_, hcl, hat⟩ := World.cells?_some hc
      refine ⟨y, cs', by rw [hcl, hsz], hK, hok, fun j u hu => ?_⟩
      have hj : j < cs'.length := (List.getElem?_eq_some_iff.1 hu).1
      have := hat j (by omega)
      rw [hu] at this
      rw [← this, hsz, Deep.add_add])
    subst hl2
    refine ⟨l, ⟨some a, cap, rfl, hl, rfl, by unfold maxLen at hm; omega, fun _ => ⟨a, rfl, fun j p hj => ?_⟩⟩, by omega, fun y hy => ?_⟩
    · obtain ⟨cs', h1, h2, _, h4⟩ := hp j p hj
      exact ⟨cs', h1, h2, h4⟩
    · obtain ⟨i, hi2⟩ := List.getElem?_of_mem hy
      obtain ⟨_, _, _, h3, _⟩ := hp i y hi2
      exact h3

/-- Fields from cell 'off' on. -/
structure OpensFs {α : Type} (P : Program) (fs : List Field) (off : Nat) (d : Kd α) (ok : α → Prop) : Prop where
  out : ∀ {H : Type} (enc : TypeId × Value → H) (w : World) (base : Nat) (spare : Nat → Bool) (held : Bool) (n : Nat) (cs : List Value), cs.length = off + d.sz →
    (∀ f ∈ fs, ∃ x, DataW.trod enc P w base spare held n f.type ((cs.drop f.offset).take (P.cellsOf f.type)) = some x) → ∃ a : α, d.K w a (cs.drop off) ∧ ok a
theorem opensFs_last {α : Type} {d : Kd α} {ok : α → Prop} {f : Field} {off : Nat} (ho : f.offset = off) (hsz : P.cellsOf f.type = d.sz) (h : Opens P f.type d ok) : OpensFs P [f] off d ok := by
  constructor
  intro H enc w base spare held n cs hl hf
  obtain ⟨x, hx⟩ := hf f (by simp)
  rw [ho, hsz, List.take_of_length_le (by rw [List.length_drop]; omega)] at hx
  exact h.out enc w base spare held n _ x hx
theorem opensFs_cons {α β : Type} {a : Kd α} {b : Kd β} {oka : α → Prop} {okb : β → Prop} {f : Field} {fs : List Field} {off : Nat} (ho : f.offset = off) (hsz : P.cellsOf f.type = a.sz)
    (h : Opens P f.type a oka) (k : OpensFs P fs (off + a.sz) b okb) : OpensFs P (f :: fs) off (Kd.pair a b) (fun x => oka x.1 ∧ okb x.2) := by
  constructor
  intro H enc w base spare held n cs hl hf
  obtain ⟨x, hx⟩ := hf f (by simp)
  rw [ho, hsz] at hx
  obtain ⟨y, hy, hoy⟩ := h.out enc w base spare held n _ x hx
  obtain ⟨z, hz, hoz⟩ := k.out enc w base spare held n cs (by rw [hl]; show off + (a.sz + b.sz) = _; omega) (fun g hg => hf g (by simp [hg]))
  refine ⟨(y, z), ⟨_, _, ?_, hy, hz⟩, hoy, hoz⟩
  rw [← List.drop_drop, List.take_append_drop]
theorem opens_struct {α β : Type} {d : Kd α} {ok : α → Prop} {f : β → α} {g : α → β} {fs : List Field} (ht : P.underlying t = some (.struct fs.toArray)) (hsz : P.cellsOf t = d.sz) (hg : ∀ x, f (g x) = x)
    (h : OpensFs P fs 0 d ok) : Opens P t (Kd.iso d f) (fun y => ok (f y)) := by
  constructor
  intro H enc w base spare held fuel cs x hx
  obtain ⟨xs, n, _, _, hl, hxl, hf⟩ := DataW.trod_struct ht hx
  obtain ⟨a, ha, hok⟩ := h.out enc w base spare held n cs (by rw [hl, hsz]; omega) (fun q hq => by
    obtain ⟨i, hi⟩ := List.getElem?_of_mem hq
    have h1 := hf i q (by simpa using hi)
    have hlt : i < xs.length := by
      have := (List.getElem?_eq_some_iff.1 hi).1
      rw [hxl]
      simpa using this
    exact ⟨xs[i], by rw [h1, List.getElem?_eq_getElem hlt]⟩)
  refine ⟨g a, ?_, ?_⟩
  · show d.K w (f (g a)) cs
    rw [hg]
    simpa using ha
  · show ok (f (g a))
    rw [hg]
    exact hok
theorem opens_imp {α : Type} {d d' : Kd α} {ok ok' : α → Prop} (h : Opens P t d ok) (hd : d = d') (hk : ∀ x, ok x → ok' x) : Opens P t d' ok' := by
  subst hd
  constructor
  intro H enc w base spare held fuel cs x hx
  obtain ⟨a, ha, hok⟩ := h.out enc w base spare held fuel cs x hx
  exact ⟨a, ha, hk a hok⟩
end
end Go.Proofs.YtdllommmccgleaaW.Opens
