/- Plain laws, without Go, that the law FnExactSameExpr leans on. No condition. -/
import Derived.Test.YtdllommmccgleaaYx0
import Derived.Test.YtdllommmccgleaaYx1
import Derived.Test.YtdllommmccgleaaYx2
import Derived.Test.YtdllommmccgleaaYx3
import Derived.Test.YtdllommmccgleaaYx4
import Derived.Test.YtdllommmccgleaaYx5
import Derived.Test.YtdllommmccgleaaYx6
import Derived.Test.YtdllommmccgleaaYx7
import Derived.Test.YtdllommmccgleaaYx8
import Derived.Test.YtdllommmccgleaaWMore
import Derived.IntWalk
import Derived.Laws.BitsLemmas
import Derived.Lib.Bytealg
import Derived.Lib.Strings
import Derived.Sort.Walk0
set_option linter.unusedSimpArgs false
set_option linter.unusedVariables false
namespace Go.Proofs.Ytdllommmccgleaa.Y
open Go.RowKit Go.Proofs.YtdllommmccgleaaW.PrintWords Go.Proofs.YtdllommmccgleaaW.PrintLast Go.Proofs.YtdllommmccgleaaW.PrintMore
theorem Ev.iteT {α : Type} {c : Prop} [Decidable c] {g f : Nat → Option α} {r : α} (h : c) (k : Ev g r) : Ev (fun n => if c then g n else f n) r := by
 simpa only [if_pos h] using k
theorem Ev.iteF {α : Type} {c : Prop} [Decidable c] {g f : Nat → Option α} {r : α} (h : ¬ c) (k : Ev f r) : Ev (fun n => if c then g n else f n) r := by
 simpa only [if_neg h] using k
/-- A callee without rounds. -/
theorem Ev.bind0 {α β : Type} {g : Option α} {f : Nat → α → Option β} {a : α} {r : β} (h : g = some a) (k : Ev (fun n => f n a) r) : Ev (fun n => g.bind (f n)) r := by
 subst h
 simpa only [Option.bind_some] using k
theorem Ev.some_ {α : Type} {x r : α} (h : x = r) : Ev (fun _ => some x) r := ⟨0, fun _ _ => by rw [h]⟩
theorem Ev.bool {b r : Bool} (h : b = r) : Ev (fun _ => some b) r := Ev.some_ h
theorem wrapN {i : Nat} (h : i < 4611686018427387904) : wrap64 ((i : Int) + 1) = ((i + 1 : Nat) : Int) := by
 unfold wrap64
 omega
theorem wrapI {x : Int} (h : -9223372036854775808 ≤ x ∧ x ≤ 9223372036854775807) : wrap64 x = x := by
 unfold wrap64
 omega
theorem rdOf_nat {α : Type} (d : α) (l : List α) (i : Nat) (h : i < l.length) : rdOf d l (i : Int) = l[i] := by
 simp [rdOf, List.getD_eq_getElem?_getD, List.getElem?_eq_getElem h]
theorem getD_nat {α : Type} (d : α) (l : List α) (i : Nat) (h : i < l.length) : l.getD (i : Int).toNat d = l[i] := by
 simp [List.getD_eq_getElem?_getD, List.getElem?_eq_getElem h]
theorem size_list (s : ByteArray) : s.data.toList.length = s.size := by rw [Array.length_toList]; rfl
theorem bt_nat (s : ByteArray) (i : Nat) (h : i < s.data.toList.length) : bt s (i : Int) = ((s.data.toList[i]).toNat : Int) := by
 have h' : i < s.size := by rw [← size_list]; exact h
 unfold bt
 rw [dif_pos (by simpa using h')]
 rfl
/-- A list seen from place i on. -/
theorem drop_cons {α : Type} {l : List α} {i : Nat} {b : α} {t : List α} (h : l.drop i = b :: t) : ∃ hi : i < l.length, l[i] = b ∧ l.drop (i + 1) = t := by
 have hi : i < l.length := by
  rcases Nat.lt_or_ge i l.length with h1 | h1
  ·exact h1
  ·rw [List.drop_of_length_le h1] at h
   cases h
 refine ⟨hi, ?_, ?_⟩
 ·rw [List.drop_eq_getElem_cons hi] at h
  exact (List.cons.inj h).1
 ·rw [List.drop_eq_getElem_cons hi] at h
  exact (List.cons.inj h).2
theorem drop_nil {α : Type} {l : List α} {i : Nat} (h : l.drop i = []) : l.length ≤ i := by
 have := congrArg List.length h
 rw [List.length_drop] at this
 simpa using Nat.sub_eq_zero_iff_le.1 this
theorem toList_inj {a b : ByteArray} (h : a.toList = b.toList) : a = b := by
 rw [Lib.toList_data, Lib.toList_data] at h
 cases a with
 | mk x => cases b with
  | mk y =>
   have : x = y := Array.ext' h
   rw [this]
theorem toList_iff {a b : ByteArray} : a.toList = b.toList ↔ a = b := ⟨toList_inj, fun h => by rw [h]⟩
def lowB (b : UInt8) : Bool := decide (97 ≤ (b.toNat : Int)) && decide ((b.toNat : Int) ≤ 122)
/-- What is asked of a name behind its letters. -/
def nameEnd (s : ByteArray) : Bool := decide (1 ≤ s.size) && (decide (s.size ≤ 6) && (s.toList != ([97, 110, 100] : List UInt8) && (s.toList != ([111, 114] : List UInt8) && s.toList != ([110, 111, 116] : List UInt8))))
def nameS (s : ByteArray) : Bool := s.data.toList.all lowB && nameEnd s
theorem inRange_ev (a b c : Int) : spec_inRange.f a b c = some (decide (b ≤ a ∧ a ≤ c)) := by
 unfold spec_inRange.f
 by_cases h : b ≤ a
 ·rw [if_pos h]
  simp [h]
 ·rw [if_neg h]
  simp [h]
theorem data_extract (s : ByteArray) (a b : Nat) : (s.extract a b).data.toList = (s.data.toList.take b).drop a := by
 rw [ByteArray.data_extract, Array.toList_extract, List.extract_eq_take_drop, List.drop_take]
def memB (l : List ByteArray) (x : ByteArray) : Bool := l.any fun y => decide (y = x)
theorem memB_iff {l : List ByteArray} {x : ByteArray} : memB l x = true ↔ x ∈ l := by
 simp [memB]
theorem memB_eq {l : List ByteArray} {x : ByteArray} {p : Prop} [Decidable p] (h : p ↔ x ∈ l) : decide p = memB l x := by
 rw [Bool.eq_iff_iff, memB_iff]
 simpa using h
theorem index_loop (l : List ByteArray) (x : ByteArray) (hl : l.length ≤ 4611686018427387903) : ∀ (t : List ByteArray) (i : Nat), l.drop i = t → i ≤ l.length →
  ∃ r : Int, Ev (fun k => slices_Index_string_string.l0 k l x (l.length : Int) (i : Int)) r ∧ (0 ≤ r ↔ x ∈ t) := by
 intro t
 induction t with
 | nil =>
  intro i h hi
  have hl2 := drop_nil h
  exact ⟨-1, Ev.step (fun k => rfl) (Ev.iteF (by omega) (Ev.some_ rfl)), by simp⟩
 | cons b t ih =>
  intro i h hi
  obtain ⟨hl2, hb, ht⟩ := drop_cons h
  by_cases h1 : x = b
  ·refine ⟨(i : Int), Ev.step (fun k => rfl) (Ev.iteT (by omega) (Ev.iteT (by omega) (Ev.iteT (by omega) (Ev.iteT ?_ (Ev.some_ rfl))))), by simp [h1]⟩
   rw [rdOf_nat _ _ _ hl2, hb, h1]
  ·obtain ⟨r, hr, hm⟩ := ih (i + 1) ht (by omega)
   refine ⟨r, Ev.step (fun k => rfl) (Ev.iteT (by omega) (Ev.iteT (by omega) (Ev.iteT (by omega) (Ev.iteF ?_ ?_)))), by simp [h1, hm]⟩
   ·rw [rdOf_nat _ _ _ hl2, hb, toList_iff]
    exact h1
   ·rw [wrapN (by omega)]
    exact hr
theorem contains_ev (l : List ByteArray) (x : ByteArray) (hl : l.length ≤ 4611686018427387903) : Ev (fun k => slices_Contains_string_string.f k l x) (memB l x) := by
 obtain ⟨r, hr, hm⟩ := index_loop l x hl l 0 rfl (Nat.zero_le _)
 exact Ev.bind hr (Ev.bool (memB_eq hm))
theorem hasText_loop (l : List ByteArray) (x : ByteArray) (hl : l.length ≤ 4611686018427387903) : ∀ (t : List ByteArray) (i : Nat), l.drop i = t → i ≤ l.length →
  Ev (fun k => spec_hasText.l0 k l x (i : Int)) (memB t x) := by
 intro t
 induction t with
 | nil =>
  intro i h hi
  have hl2 := drop_nil h
  exact Ev.step (fun k => rfl) (Ev.iteF (by omega) (Ev.some_ rfl))
 | cons b t ih =>
  intro i h hi
  obtain ⟨hl2, hb, ht⟩ := drop_cons h
  refine Ev.step (fun k => rfl) (Ev.iteT (by omega) (Ev.iteT (by omega) ?_))
  rw [rdOf_nat _ _ _ hl2, hb]
  by_cases h1 : b = x
  ·exact Ev.iteT (by rw [h1]) (Ev.some_ (by simp [memB, h1]))
  ·refine Ev.iteF (by rw [toList_iff]; exact h1) ?_
   rw [wrapN (by omega)]
   have e : memB (b :: t) x = memB t x := by simp [memB, h1]
   rw [e]
   exact ih (i + 1) ht (by omega)
theorem hasText_ev (l : List ByteArray) (x : ByteArray) (hl : l.length ≤ 4611686018427387903) : Ev (fun k => spec_hasText.f k l x) (memB l x) :=
 hasText_loop l x hl l 0 rfl (Nat.zero_le _)
theorem rdT_nat (l : List S28) (i : Nat) (h : i < l.length) : rd_T28 l (i : Int) = l[i] := by
 unfold rd_T28
 exact getD_nat _ _ _ h
def addM (o : List ByteArray) (x : ByteArray) : List ByteArray := if memB o x = true then o else o ++ [x]
theorem addM_length (o : List ByteArray) (x : ByteArray) : (addM o x).length ≤ o.length + 1 := by
 unfold addM
 split <;> simp
inductive Ex where
 | leaf (w : List UInt8)
 | not (a : Ex)
 | and (a b : Ex)
 | or (a b : Ex)
def BA (l : List UInt8) : ByteArray := ⟨l.toArray⟩
theorem BA_data (l : List UInt8) : (BA l).data.toList = l := rfl
theorem BA_size (l : List UInt8) : (BA l).size = l.length := rfl
theorem BA_of (s : ByteArray) : BA s.data.toList = s := by cases s; rfl
/-- A text that begins so, cut behind it. -/
def cutL : List UInt8 → List UInt8 → Option (List UInt8)
 | [], s => some s
 | _ :: _, [] => none
 | p :: ps, c :: s => if p = c then cutL ps s else none
def nameL (w : List UInt8) : Bool := nameS (BA w)
def wordL (name : List UInt8) (at_ : Bool) : Option (Ex × List UInt8) :=
 if nameL (name.takeWhile lowB) = true then some (.leaf (if at_ = true then 64 :: name.takeWhile lowB else name.takeWhile lowB), name.dropWhile lowB) else none
def rowL (P : List UInt8 → Option (Ex × List UInt8)) (mk : Ex → Ex → Ex) (sep : List UInt8) : Nat → Ex → List UInt8 → Option (Ex × List UInt8)
 | 0, _, _ => none
 | n + 1, e, s => match cutL sep s with
  | none => some (e, s)
  | some r => match P r with
   | none => none
   | some x => rowL P mk sep n (mk e x.1) x.2
def sNot : List UInt8 := [110, 111, 116, 32]
def sAnd : List UInt8 := [32, 97, 110, 100, 32]
def sOr : List UInt8 := [32, 111, 114, 32]
def andL (P : List UInt8 → Option (Ex × List UInt8)) (n : Nat) (s : List UInt8) : Option (Ex × List UInt8) := (P s).bind fun x => rowL P .and sAnd n x.1 x.2
def orL (P : List UInt8 → Option (Ex × List UInt8)) (n : Nat) (s : List UInt8) : Option (Ex × List UInt8) := (andL P n s).bind fun x => rowL (andL P n) .or sOr n x.1 x.2
def facL : Nat → List UInt8 → Option (Ex × List UInt8)
 | 0, _ => none
 | n + 1, s => match cutL sNot s with
  | some r => (facL n r).map fun x => (.not x.1, x.2)
  | none => match cutL [40] s with
   | some r => (orL (facL n) n r).bind fun x => (cutL [41] x.2).map fun t => (x.1, t)
   | none => match cutL [64] s with
    | some r => wordL r true
    | none => wordL s false
/-- A whole text is read as e. -/
def Parses (s : List UInt8) (e : Ex) : Prop := orL (facL (s.length + 1)) (s.length + 1) s = some (e, [])
theorem cutL_length : ∀ {p s r : List UInt8}, cutL p s = some r → s.length = p.length + r.length
 | [], s, r, h => by simp only [cutL, Option.some.injEq] at h; subst h; simp
 | _ :: _, [], r, h => by simp [cutL] at h
 | p :: ps, c :: s, r, h => by
  unfold cutL at h
  split at h
  ·have := cutL_length h
   simp only [List.length_cons]
   omega
  ·cases h
theorem cutL_some : ∀ {p s r : List UInt8}, cutL p s = some r → s = p ++ r
 | [], s, r, h => by simp only [cutL, Option.some.injEq] at h; subst h; rfl
 | _ :: _, [], r, h => by simp [cutL] at h
 | p :: ps, c :: s, r, h => by
  unfold cutL at h
  split at h
  ·next e => rw [e, cutL_some h]; rfl
  ·cases h
theorem takeW_dropW (s : List UInt8) : (s.takeWhile lowB).length + (s.dropWhile lowB).length = s.length := by
 have := congrArg List.length (List.takeWhile_append_dropWhile (p := lowB) (l := s))
 rwa [List.length_append] at this
theorem nameL_pos {w : List UInt8} (h : nameL w = true) : 1 ≤ w.length ∧ w.length ≤ 6 := by
 unfold nameL nameS nameEnd at h
 rw [Bool.and_eq_true, Bool.and_eq_true, Bool.and_eq_true, decide_eq_true_iff, decide_eq_true_iff] at h
 exact ⟨h.2.1, h.2.2.1⟩
theorem wordL_length {s t : List UInt8} {b : Bool} {e : Ex} (h : wordL s b = some (e, t)) : t.length < s.length := by
 unfold wordL at h
 split at h
 ·next hn =>
  have h1 := nameL_pos hn
  have h2 := takeW_dropW s
  simp only [Option.some.injEq, Prod.mk.injEq] at h
  rw [← h.2]
  omega
 ·cases h
/-- P reads something. -/
def Shrinks (P : List UInt8 → Option (Ex × List UInt8)) : Prop := ∀ s e t, P s = some (e, t) → t.length < s.length
theorem rowL_length {P : List UInt8 → Option (Ex × List UInt8)} (hP : Shrinks P) (mk : Ex → Ex → Ex) (sep : List UInt8) : ∀ (n : Nat) (e : Ex) (s : List UInt8) (e' : Ex) (t : List UInt8), rowL P mk sep n e s = some (e', t) → t.length ≤ s.length
 | 0, e, s, e', t, h => by simp [rowL] at h
 | n + 1, e, s, e', t, h => by
  unfold rowL at h
  cases hc : cutL sep s with
  | none =>
   rw [hc] at h
   simp only at h
   simp only [Option.some.injEq, Prod.mk.injEq] at h
   rw [h.2]
   exact Nat.le_refl _
  | some r =>
   rw [hc] at h
   simp only at h
   cases hp : P r with
   | none => rw [hp] at h; simp only at h; cases h
   | some x =>
    rw [hp] at h
    simp only at h
    have h1 := rowL_length hP mk sep n _ _ _ _ h
    have h2 := hP r x.1 x.2 hp
    have h3 := cutL_length hc
    omega
theorem andL_shrinks {P : List UInt8 → Option (Ex × List UInt8)} (hP : Shrinks P) (n : Nat) : Shrinks (andL P n) := by
 intro s e t h
 obtain ⟨x, hx, h⟩ := Option.bind_eq_some_iff.mp h
 have h1 := hP s x.1 x.2 hx
 have h2 := rowL_length hP _ _ _ _ _ _ _ h
 omega
theorem orL_shrinks {P : List UInt8 → Option (Ex × List UInt8)} (hP : Shrinks P) (n : Nat) : Shrinks (orL P n) := by
 intro s e t h
 obtain ⟨x, hx, h⟩ := Option.bind_eq_some_iff.mp h
 have h1 := andL_shrinks hP n s x.1 x.2 hx
 have h2 := rowL_length (andL_shrinks hP n) _ _ _ _ _ _ _ h
 omega
theorem facL_shrinks : ∀ n, Shrinks (facL n)
 | 0 => fun s e t h => by simp [facL] at h
 | n + 1 => fun s e t h => by
  unfold facL at h
  cases h1 : cutL sNot s with
  | some r =>
   rw [h1] at h
   simp only at h
   obtain ⟨x, hx, h⟩ := Option.map_eq_some_iff.mp h
   have h2 := facL_shrinks n r x.1 x.2 hx
   have h3 := cutL_length h1
   have h4 : x.2 = t := congrArg Prod.snd h
   rw [← h4]
   omega
  | none =>
   rw [h1] at h
   simp only at h
   cases h2 : cutL [40] s with
   | some r =>
    rw [h2] at h
    simp only at h
    obtain ⟨x, hx, h⟩ := Option.bind_eq_some_iff.mp h
    obtain ⟨y, hy, h⟩ := Option.map_eq_some_iff.mp h
    have h3 := orL_shrinks (facL_shrinks n) n r x.1 x.2 hx
    have h4 := cutL_length h2
    have h5 := cutL_length hy
    have h6 : y = t := congrArg Prod.snd h
    rw [← h6]
    omega
   | none =>
    rw [h2] at h
    simp only at h
    cases h3 : cutL [64] s with
    | some r =>
     rw [h3] at h
     simp only at h
     have h4 := wordL_length h
     have h5 := cutL_length h3
     omega
    | none =>
     rw [h3] at h
     simp only at h
     exact wordL_length h
def SameOn (P Q : List UInt8 → Option (Ex × List UInt8)) (n : Nat) : Prop := ∀ s, s.length < n → P s = Q s
theorem rowL_same {P Q : List UInt8 → Option (Ex × List UInt8)} (hP : Shrinks P) {n : Nat} (h : SameOn P Q n) (mk : Ex → Ex → Ex) (sep : List UInt8) (hs : 0 < sep.length) : ∀ (j j' : Nat) (e : Ex) (s : List UInt8), s.length < j → s.length < j' → s.length < n → rowL P mk sep j e s = rowL Q mk sep j' e s
 | 0, _, _, _, h1, _, _ => absurd h1 (by omega)
 | _ + 1, 0, _, _, _, h2, _ => absurd h2 (by omega)
 | j + 1, j' + 1, e, s, h1, h2, h3 => by
  unfold rowL
  cases hc : cutL sep s with
  | none => rfl
  | some r =>
   have h4 := cutL_length hc
   simp only
   rw [← h r (by omega)]
   cases hp : P r with
   | none => rfl
   | some x =>
    have h5 := hP r x.1 x.2 hp
    exact rowL_same hP h mk sep hs j j' _ _ (by omega) (by omega) (by omega)
theorem andL_same {P Q : List UInt8 → Option (Ex × List UInt8)} (hP : Shrinks P) {n : Nat} (h : SameOn P Q n) (j j' : Nat) (hj : n ≤ j) (hj' : n ≤ j') : SameOn (andL P j) (andL Q j') n := by
 intro s hs
 unfold andL
 rw [← h s hs]
 cases hp : P s with
 | none => rfl
 | some x =>
  have h5 := hP s x.1 x.2 hp
  exact rowL_same hP h _ _ (by decide) _ _ _ _ (by omega) (by omega) (by omega)
theorem orL_same {P Q : List UInt8 → Option (Ex × List UInt8)} (hP : Shrinks P) {n : Nat} (h : SameOn P Q n) (j j' : Nat) (hj : n ≤ j) (hj' : n ≤ j') : SameOn (orL P j) (orL Q j') n := by
 intro s hs
 have ha := andL_same hP h j j' hj hj'
 unfold orL
 rw [← ha s hs]
 cases hp : andL P j s with
 | none => rfl
 | some x =>
  have h5 := andL_shrinks hP j s x.1 x.2 hp
  exact rowL_same (andL_shrinks hP j) ha _ _ (by decide) _ _ _ _ (by omega) (by omega) (by omega)
theorem facL_same : ∀ (n m m' : Nat), n ≤ m → n ≤ m' → SameOn (facL m) (facL m') n
 | 0, _, _, _, _ => fun s hs => absurd hs (by omega)
 | n + 1, 0, _, h, _ => absurd h (by omega)
 | n + 1, _ + 1, 0, _, h => absurd h (by omega)
 | n + 1, m + 1, m' + 1, h1, h2 => fun s hs => by
  have ih := facL_same n m m' (by omega) (by omega)
  unfold facL
  cases hc : cutL sNot s with
  | some r =>
   have h4 := cutL_length hc
   simp only [sNot, List.length_cons, List.length_nil] at h4
   simp only
   rw [ih r (by omega)]
  | none =>
   simp only
   cases hc2 : cutL [40] s with
   | some r =>
    have h4 := cutL_length hc2
    simp only [List.length_cons, List.length_nil] at h4
    simp only
    rw [orL_same (facL_shrinks m) ih m m' (by omega) (by omega) r (by omega)]
   | none => rfl
theorem Parses.at_ {s : List UInt8} {e : Ex} (h : Parses s e) (m j : Nat) (hm : s.length < m) (hj : s.length < j) : orL (facL m) j s = some (e, []) := by
 rw [← h]
 exact (orL_same (facL_shrinks _) (facL_same (s.length + 1) _ _ (by omega) (by omega)) _ _ (by omega) (by omega) s (by omega)).symm
def wordOk (w : List UInt8) : Prop := nameL w = true ∨ ∃ v, w = 64 :: v ∧ nameL v = true
def Ex.WF : Ex → Prop
 | .leaf w => wordOk w
 | .not a => a.WF
 | .and a b => a.WF ∧ b.WF
 | .or a b => a.WF ∧ b.WF
def wordE (m : ByteArray) (l : List ByteArray) (w : List UInt8) : Bool := if w.head? = some 64 then decide (BA w.tail = m) else memB l (BA w)
def Ex.ev (m : ByteArray) (l : List ByteArray) : Ex → Bool
 | .leaf w => wordE m l w
 | .not a => !(a.ev m l)
 | .and a b => a.ev m l && b.ev m l
 | .or a b => a.ev m l || b.ev m l
def Ex.at_ : Ex → List ByteArray → List ByteArray
 | .leaf w, l => addM l (BA w)
 | .not a, l => a.at_ l
 | .and a b, l => b.at_ (a.at_ l)
 | .or a b, l => b.at_ (a.at_ l)
def AllWF (P : List UInt8 → Option (Ex × List UInt8)) : Prop := ∀ s e t, P s = some (e, t) → e.WF
theorem wordL_wf {s t : List UInt8} {b : Bool} {e : Ex} (h : wordL s b = some (e, t)) : e.WF := by
 unfold wordL at h
 split at h
 ·next hn =>
  simp only [Option.some.injEq, Prod.mk.injEq] at h
  rw [← h.1]
  cases b with
  | true => exact .inr ⟨_, rfl, hn⟩
  | false => exact .inl hn
 ·cases h
theorem rowL_wf {P : List UInt8 → Option (Ex × List UInt8)} (hP : AllWF P) {mk : Ex → Ex → Ex} (hm : ∀ a b, a.WF → b.WF → (mk a b).WF) (sep : List UInt8) : ∀ (n : Nat) (e : Ex) (s : List UInt8) (e' : Ex) (t : List UInt8), e.WF → rowL P mk sep n e s = some (e', t) → e'.WF
 | 0, e, s, e', t, _, h => by simp [rowL] at h
 | n + 1, e, s, e', t, he, h => by
  unfold rowL at h
  cases hc : cutL sep s with
  | none =>
   rw [hc] at h
   simp only [Option.some.injEq, Prod.mk.injEq] at h
   rw [← h.1]
   exact he
  | some r =>
   rw [hc] at h
   simp only at h
   cases hp : P r with
   | none => rw [hp] at h; simp only at h; cases h
   | some x =>
    rw [hp] at h
    simp only at h
    exact rowL_wf hP hm sep n _ _ _ _ (hm _ _ he (hP r x.1 x.2 hp)) h
theorem andL_wf {P : List UInt8 → Option (Ex × List UInt8)} (hP : AllWF P) (n : Nat) : AllWF (andL P n) := by
 intro s e t h
 obtain ⟨x, hx, h⟩ := Option.bind_eq_some_iff.mp h
 exact rowL_wf hP (mk := .and) (fun a b ha hb => ⟨ha, hb⟩) _ _ _ _ _ _ (hP s x.1 x.2 hx) h
theorem orL_wf {P : List UInt8 → Option (Ex × List UInt8)} (hP : AllWF P) (n : Nat) : AllWF (orL P n) := by
 intro s e t h
 obtain ⟨x, hx, h⟩ := Option.bind_eq_some_iff.mp h
 exact rowL_wf (andL_wf hP n) (mk := .or) (fun a b ha hb => ⟨ha, hb⟩) _ _ _ _ _ _ (andL_wf hP n s x.1 x.2 hx) h
theorem facL_wf : ∀ n, AllWF (facL n)
 | 0 => fun s e t h => by simp [facL] at h
 | n + 1 => fun s e t h => by
  unfold facL at h
  cases h1 : cutL sNot s with
  | some r =>
   rw [h1] at h
   simp only at h
   obtain ⟨x, hx, h⟩ := Option.map_eq_some_iff.mp h
   simp only [Prod.mk.injEq] at h
   rw [← h.1]
   exact facL_wf n r x.1 x.2 hx
  | none =>
   rw [h1] at h
   simp only at h
   cases h2 : cutL [40] s with
   | some r =>
    rw [h2] at h
    simp only at h
    obtain ⟨x, hx, h⟩ := Option.bind_eq_some_iff.mp h
    obtain ⟨y, hy, h⟩ := Option.map_eq_some_iff.mp h
    simp only [Prod.mk.injEq] at h
    rw [← h.1]
    exact orL_wf (facL_wf n) n r x.1 x.2 hx
   | none =>
    rw [h2] at h
    simp only at h
    cases h3 : cutL [64] s with
    | some r =>
     rw [h3] at h
     simp only at h
     exact wordL_wf h
    | none =>
     rw [h3] at h
     simp only at h
     exact wordL_wf h
theorem Parses.wf {s : List UInt8} {e : Ex} (h : Parses s e) : e.WF := orL_wf (facL_wf _) _ _ _ _ h
def Upto {α : Type} (d : Nat) (g : Nat → Option α) (r : α) : Prop := ∀ k, d ≤ k → g k = some r
theorem Upto.step {α : Type} {d : Nat} {g f : Nat → Option α} {r : α} (h : ∀ k, g (k + 1) = f k) (k : Upto d f r) : Upto (d + 1) g r := fun n hn => by
 obtain ⟨m, rfl⟩ : ∃ m, n = m + 1 := ⟨n - 1, by omega⟩
 rw [h]
 exact k m (by omega)
theorem Upto.bind {α β : Type} {d : Nat} {g : Nat → Option α} {f : Nat → α → Option β} {a : α} {r : β} (h : Upto d g a) (k : Upto d (fun n => f n a) r) : Upto d (fun n => (g n).bind (f n)) r := fun n hn => by
 show (g n).bind (f n) = some r
 rw [h n hn]
 exact k n hn
theorem Upto.bind0 {α β : Type} {d : Nat} {g : Option α} {f : Nat → α → Option β} {a : α} {r : β} (h : g = some a) (k : Upto d (fun n => f n a) r) : Upto d (fun n => g.bind (f n)) r := fun n hn => by
 show g.bind (f n) = some r
 rw [h]
 exact k n hn
theorem Upto.iteT {α : Type} {d : Nat} {c : Prop} [Decidable c] {g f : Nat → Option α} {r : α} (h : c) (k : Upto d g r) : Upto d (fun n => if c then g n else f n) r := fun n hn => (if_pos h).trans (k n hn)
theorem Upto.iteF {α : Type} {d : Nat} {c : Prop} [Decidable c] {g f : Nat → Option α} {r : α} (h : ¬ c) (k : Upto d f r) : Upto d (fun n => if c then g n else f n) r := fun n hn => (if_neg h).trans (k n hn)
theorem Upto.some_ {α : Type} {d : Nat} {x r : α} (h : x = r) : Upto d (fun _ => some x) r := fun _ _ => by rw [h]
theorem Upto.le {α : Type} {d d' : Nat} {g : Nat → Option α} {r : α} (k : Upto d g r) (h : d ≤ d') : Upto d' g r := fun n hn => k n (by omega)
theorem Upto.ev {α : Type} {d : Nat} {g : Nat → Option α} {r : α} (k : Upto d g r) : Ev g r := ⟨d, k⟩
theorem nameOk_upto (s : ByteArray) (hs : s.size ≤ 4611686018427387903) : ∀ (t : List UInt8) (i : Nat), s.data.toList.drop i = t → i ≤ s.size →
  Upto (t.length + 1) (fun k => impl_nameOk.l0 k s (s.size : Int) (i : Int)) (t.all lowB && nameEnd s) := by
 intro t
 induction t with
 | nil =>
  intro i h hi
  have hl := drop_nil h
  rw [size_list] at hl
  refine Upto.step (d := 0) (fun k => rfl) (Upto.iteF (by omega) ?_)
  simp only [List.all_nil, Bool.true_and]
  unfold nameEnd
  by_cases h1 : 1 ≤ s.size
  ·refine Upto.iteT (by omega) ?_
   by_cases h2 : s.size ≤ 6
   ·refine Upto.iteT (by omega) ?_
    by_cases h3 : s.toList = ([97, 110, 100] : List UInt8)
    ·exact Upto.iteT h3 (Upto.some_ (by simp [h3]))
    ·refine Upto.iteF h3 ?_
     by_cases h4 : s.toList = ([111, 114] : List UInt8)
     ·exact Upto.iteT h4 (Upto.some_ (by simp [h4]))
     ·exact Upto.iteF h4 (Upto.some_ (by simp [h1, h2, bne_iff_ne.2 h3, bne_iff_ne.2 h4]))
   ·exact Upto.iteF (by omega) (Upto.some_ (by simp [h2]))
  ·exact Upto.iteF (by omega) (Upto.some_ (by simp [h1]))
 | cons b t ih =>
  intro i h hi
  obtain ⟨hl, hb, ht⟩ := drop_cons h
  have hl' := hl
  rw [size_list] at hl'
  refine Upto.step (d := t.length + 1) (fun k => rfl) (Upto.iteT (by omega) (Upto.iteT (by omega) (Upto.iteT (by omega) ?_)))
  rw [bt_nat s i hl, hb]
  by_cases h1 : (b.toNat : Int) < 97
  ·exact Upto.iteT h1 (Upto.some_ (by simp [lowB]; omega))
  ·refine Upto.iteF h1 ?_
   by_cases h2 : (b.toNat : Int) > 122
   ·exact Upto.iteT h2 (Upto.some_ (by simp [lowB]; omega))
   ·refine Upto.iteF h2 ?_
    rw [wrapN (by omega)]
    have := ih (i + 1) ht (by omega)
    have e : lowB b = true := by simp [lowB]; omega
    rw [List.all_cons, e, Bool.true_and]
    exact this
theorem nameOk_at (w : List UInt8) (hw : w.length ≤ 4611686018427387903) : Upto (w.length + 1) (fun k => impl_nameOk.f k (BA w)) (nameL w) :=
 nameOk_upto (BA w) hw w 0 rfl (Nat.zero_le _)
theorem validName_upto (s : ByteArray) (hs : s.size ≤ 4611686018427387903) : ∀ (t : List UInt8) (i : Nat), s.data.toList.drop i = t → i ≤ s.size →
  Upto (t.length + 1) (fun k => spec_validName.l0 k s (i : Int)) (t.all lowB && nameEnd s) := by
 intro t
 induction t with
 | nil =>
  intro i h hi
  have hl := drop_nil h
  rw [size_list] at hl
  refine Upto.step (d := 0) (fun k => rfl) (Upto.iteF (by omega) (Upto.bind0 (inRange_ev _ _ _) ?_))
  simp only [List.all_nil, Bool.true_and]
  unfold nameEnd
  by_cases h1 : 1 ≤ s.size
  ·by_cases h2 : s.size ≤ 6
   ·refine Upto.iteT (by simp; omega) ?_
    by_cases h3 : s.toList = ([97, 110, 100] : List UInt8)
    ·exact Upto.iteT h3 (Upto.some_ (by simp [h3]))
    ·refine Upto.iteF h3 ?_
     by_cases h4 : s.toList = ([111, 114] : List UInt8)
     ·exact Upto.iteT h4 (Upto.some_ (by simp [h4]))
     ·exact Upto.iteF h4 (Upto.some_ (by simp [h1, h2, bne_iff_ne.2 h3, bne_iff_ne.2 h4]))
   ·exact Upto.iteF (by simp; omega) (Upto.some_ (by simp [h2]))
  ·exact Upto.iteF (by simp; omega) (Upto.some_ (by simp [h1]))
 | cons b t ih =>
  intro i h hi
  obtain ⟨hl, hb, ht⟩ := drop_cons h
  have hl' := hl
  rw [size_list] at hl'
  refine Upto.step (d := t.length + 1) (fun k => rfl) (Upto.iteT (by omega) (Upto.iteT (by omega) ?_))
  rw [bt_nat s i hl, hb]
  by_cases h1 : (b.toNat : Int) < 97
  ·exact Upto.iteT h1 (Upto.some_ (by simp [lowB]; omega))
  ·refine Upto.iteF h1 ?_
   by_cases h2 : (b.toNat : Int) > 122
   ·exact Upto.iteT h2 (Upto.some_ (by simp [lowB]; omega))
   ·refine Upto.iteF h2 ?_
    rw [wrapN (by omega)]
    have := ih (i + 1) ht (by omega)
    have e : lowB b = true := by simp [lowB]; omega
    rw [List.all_cons, e, Bool.true_and]
    exact this
theorem validName_at (w : List UInt8) (hw : w.length ≤ 4611686018427387903) : Upto (w.length + 1) (fun k => spec_validName.f k (BA w)) (nameL w) :=
 validName_upto (BA w) hw w 0 rfl (Nat.zero_le _)
def encE : Ex → S55
 | .leaf w => ⟨BA w, []⟩
 | .not a => ⟨BA [110, 111, 116], [encE a]⟩
 | .and a b => ⟨BA [97, 110, 100], [encE a, encE b]⟩
 | .or a b => ⟨BA [111, 114], [encE a, encE b]⟩
theorem eta_ex (x : S55) : (⟨x.f0, x.f1⟩ : S55) = x := by cases x; rfl
theorem BA_ext {s : ByteArray} {l : List UInt8} (h : s.data.toList = l) : s = BA l := by rw [← h, BA_of]
theorem BA_extract (s : List UInt8) (a b : Nat) : (BA s).extract a b = BA ((s.take b).drop a) := BA_ext (data_extract (BA s) a b)
theorem cutL_take : ∀ (p s : List UInt8), cutL p s = if s.take p.length = p then some (s.drop p.length) else none
 | [], s => by simp [cutL]
 | p :: ps, [] => by simp [cutL]
 | p :: ps, c :: s => by
  unfold cutL
  rw [cutL_take ps s, List.length_cons, List.take_succ_cons, List.drop_succ_cons]
  by_cases e : p = c
  ·subst e
   rw [if_pos rfl]
   by_cases h : s.take ps.length = ps
   ·rw [if_pos h, if_pos (by rw [h])]
   ·rw [if_neg h, if_neg (fun hh => h (List.cons.inj hh).2)]
  ·rw [if_neg e, if_neg (fun hh => e (List.cons.inj hh).1.symm)]
theorem cutPrefix_eq (s p : List UInt8) : strings_CutPrefix.f (BA s) (BA p) = some (match cutL p s with | some r => (BA r, true) | none => (BA s, false)) := by
 have hH : stringslite_HasPrefix.f (BA s) (BA p) = some (decide (s.take p.length = p)) := by
  unfold stringslite_HasPrefix.f
  rw [BA_size, BA_size]
  by_cases h : (s.length : Int) ≥ (p.length : Int)
  ·rw [if_pos h, if_pos (by omega), if_pos (by omega), BA_extract, Int.toNat_natCast, List.drop_zero, Lib.toList_data, Lib.toList_data, BA_data, BA_data]
   congr 1
   rw [Bool.eq_iff_iff, decide_eq_true_iff, beq_iff_eq]
  ·rw [if_neg h, decide_eq_false (fun e => h (by have := congrArg List.length e; rw [List.length_take] at this; omega))]
 unfold strings_CutPrefix.f stringslite_CutPrefix.f
 rw [hH, Option.bind_some, cutL_take]
 by_cases h : s.take p.length = p
 ·have hl : p.length ≤ s.length := by have := congrArg List.length h; rw [List.length_take] at this; omega
  rw [decide_eq_true h, if_pos rfl, BA_size, BA_size, if_pos (by omega), if_pos (by omega), if_pos h, Int.toNat_natCast, BA_extract, List.take_of_length_le (Nat.le_refl _)]
  rfl
 ·rw [decide_eq_false h, if_neg (by decide), if_neg h]
  rfl
/-- T reads what P reads, of texts of fewer than n bytes. -/
def TGood (T : TkF) (n : Nat) (P : List UInt8 → Option (Ex × List UInt8)) : Prop := ∀ s : List UInt8, s.length < n →
 (∀ x, P s = some x → T (BA s) = some ((encE x.1).f0, (encE x.1).f1, BA x.2, true)) ∧ (P s = none → ∃ x y z, T (BA s) = some (x, y, z, false))
theorem row_loop {T : TkF} {n : Nat} {P : List UInt8 → Option (Ex × List UInt8)} (hT : TGood T n P) (hP : Shrinks P) {mk : Ex → Ex → Ex} {w sep : List UInt8} (hs : 0 < sep.length) (hm : ∀ a b, encE (mk a b) = ⟨BA w, [encE a, encE b]⟩) :
  ∀ (j : Nat) (e : Ex) (s : List UInt8), s.length < j → s.length < n →
   (∀ x, rowL P mk sep j e s = some x → Upto (j + 1) (fun k => impl_row.l0 T (BA w) (BA sep) k (encE e).f0 (encE e).f1 (BA s) true) ((encE x.1).f0, (encE x.1).f1, BA x.2, true)) ∧
   (rowL P mk sep j e s = none → ∃ x y z, Upto (j + 1) (fun k => impl_row.l0 T (BA w) (BA sep) k (encE e).f0 (encE e).f1 (BA s) true) (x, y, z, false))
 | 0, _, _, h, _ => absurd h (by omega)
 | j + 1, e, s, h1, h2 => by
  have hcut := cutPrefix_eq s sep
  unfold rowL
  cases hc : cutL sep s with
  | none =>
   rw [hc] at hcut
   simp only
   refine ⟨fun x hx => ?_, fun hx => by cases hx⟩
   obtain rfl := Option.some.inj hx
   exact Upto.step (d := j + 1) (fun k => rfl) (Upto.iteT rfl (Upto.bind0 hcut (Upto.iteF (by simp) (Upto.some_ rfl))))
  | some r =>
   rw [hc] at hcut
   have hl := cutL_length hc
   obtain ⟨g1, g2⟩ := hT r (by omega)
   simp only
   cases hp : P r with
   | none =>
    obtain ⟨x, y, z, hz⟩ := g2 hp
    simp only
    refine ⟨fun x hx => (by cases hx), fun _ => ⟨_, _, z, Upto.step (d := j + 1) (fun k => rfl) (Upto.iteT rfl (Upto.bind0 hcut (Upto.iteT rfl (Upto.bind0 hz (Upto.step (d := j) (fun k => rfl) (Upto.iteF (by simp) (Upto.some_ rfl)))))))⟩⟩
   | some q =>
    have hz := g1 q hp
    have hq := hP r q.1 q.2 hp
    simp only
    obtain ⟨i1, i2⟩ := row_loop hT hP hs hm j (mk e q.1) q.2 (by omega) (by omega)
    rw [hm e q.1] at i1 i2
    refine ⟨fun x hx => ?_, fun hx => ?_⟩
    ·refine Upto.step (d := j + 1) (fun k => rfl) (Upto.iteT rfl (Upto.bind0 hcut (Upto.iteT rfl (Upto.bind0 hz ?_))))
     simp only [eta_ex]
     exact i1 x hx
    ·obtain ⟨x, y, z, hu⟩ := i2 hx
     refine ⟨x, y, z, Upto.step (d := j + 1) (fun k => rfl) (Upto.iteT rfl (Upto.bind0 hcut (Upto.iteT rfl (Upto.bind0 hz ?_))))⟩
     simp only [eta_ex]
     exact hu
theorem row_good {T : TkF} {n : Nat} {P : List UInt8 → Option (Ex × List UInt8)} (hT : TGood T n P) (hP : Shrinks P) {mk : Ex → Ex → Ex} {w sep : List UInt8} (hs : 0 < sep.length) (hm : ∀ a b, encE (mk a b) = ⟨BA w, [encE a, encE b]⟩) (k m : Nat) (hk : m + 1 ≤ k) (hmn : n ≤ m) :
  TGood (impl_row.f T (BA w) (BA sep) k) n (fun s => (P s).bind fun x => rowL P mk sep m x.1 x.2) := by
 intro s hsn
 obtain ⟨g1, g2⟩ := hT s hsn
 cases hp : P s with
 | none =>
  obtain ⟨x, y, z, hz⟩ := g2 hp
  refine ⟨fun x hx => by simp [hp] at hx, fun _ => ⟨x, y, z, ?_⟩⟩
  unfold impl_row.f
  rw [hz]
  obtain ⟨k, rfl⟩ : ∃ q, k = q + 1 := ⟨k - 1, by omega⟩
  show impl_row.l0 T (BA w) (BA sep) (k + 1) x y z false = _
  unfold impl_row.l0
  rw [if_neg (by decide)]
 | some q =>
  have hz := g1 q hp
  have hq := hP s q.1 q.2 hp
  obtain ⟨i1, i2⟩ := row_loop hT hP hs hm m q.1 q.2 (by omega) (by omega)
  refine ⟨fun x hx => ?_, fun hx => ?_⟩
  ·simp only [hp, Option.bind_some] at hx
   unfold impl_row.f
   rw [hz]
   exact i1 x hx k hk
  ·simp only [hp, Option.bind_some] at hx
   obtain ⟨x, y, z, hu⟩ := i2 hx
   refine ⟨x, y, z, ?_⟩
   unfold impl_row.f
   rw [hz]
   exact hu k hk
theorem bt_BA {s : List UInt8} {i : Nat} {c : UInt8} (h : i < s.length) (hb : s[i] = c) : bt (BA s) (i : Int) = (c.toNat : Int) := by subst hb; exact bt_nat (BA s) i h
theorem take_takeW : ∀ (s : List UInt8), s.take (s.takeWhile lowB).length = s.takeWhile lowB
 | [] => rfl
 | c :: s => by
  rw [List.takeWhile_cons]
  cases h : lowB c with
  | true => rw [if_pos rfl, List.length_cons, List.take_succ_cons, take_takeW s]
  | false => rw [if_neg (by decide)]; rfl
theorem drop_takeW : ∀ (s : List UInt8), s.drop (s.takeWhile lowB).length = s.dropWhile lowB
 | [] => rfl
 | c :: s => by
  rw [List.takeWhile_cons, List.dropWhile_cons]
  cases h : lowB c with
  | true => rw [if_pos rfl, if_pos rfl, List.length_cons, List.drop_succ_cons, drop_takeW s]
  | false => rw [if_neg (by decide), if_neg (by decide)]; rfl
theorem letters_loop (x0 : ByteArray) (name : List UInt8) (b : Bool) (hn : name.length ≤ 4611686018427387903) (r : ByteArray × List S55 × ByteArray × Bool) (d : Nat) : ∀ (t : List UInt8) (i : Nat), name.drop i = t → i ≤ name.length →
  Upto d (fun k => impl_takeFactor.j1 k x0 (BA name) b ((i + (t.takeWhile lowB).length : Nat) : Int)) r → Upto (t.length + d + 1) (fun k => impl_takeFactor.l0 k x0 (BA name) b (i : Int)) r := by
 intro t
 induction t with
 | nil =>
  intro i h hi hj
  have hl := drop_nil h
  refine (Upto.step (d := d) (fun k => rfl) (Upto.iteF (by rw [BA_size]; omega) hj)).le (by simp)
 | cons c t ih =>
  intro i h hi hj
  obtain ⟨hl, hb, ht⟩ := drop_cons h
  refine (Upto.step (d := t.length + d + 1) (fun k => rfl) (Upto.iteT (by rw [BA_size]; omega) (Upto.iteT (by omega) ?_))).le (by simp; omega)
  rw [bt_BA hl hb]
  rw [List.takeWhile_cons] at hj
  by_cases h1 : (c.toNat : Int) ≥ 97
  ·refine Upto.iteT h1 ?_
   by_cases h2 : (c.toNat : Int) ≤ 122
   ·have e : lowB c = true := by simp [lowB]; omega
    rw [if_pos e, List.length_cons, show i + ((t.takeWhile lowB).length + 1) = (i + 1) + (t.takeWhile lowB).length by omega] at hj
    refine Upto.iteT h2 ?_
    rw [wrapN (by omega)]
    exact ih (i + 1) ht (by omega) hj
   ·have e : lowB c = false := by simp [lowB]; omega
    rw [if_neg (by rw [e]; decide)] at hj
    exact Upto.iteF h2 (hj.le (by omega))
  ·have e : lowB c = false := by simp [lowB]; omega
   rw [if_neg (by rw [e]; decide)] at hj
   exact Upto.iteF h1 (hj.le (by omega))
theorem word_good (x0 : ByteArray) (name : List UInt8) (b : Bool) (hn : name.length ≤ 4611686018427387903) :
  (∀ x, wordL name b = some x → Upto (2 * name.length + 4) (fun k => impl_takeFactor.l0 k x0 (BA name) b 0) ((encE x.1).f0, (encE x.1).f1, BA x.2, true)) ∧
  (wordL name b = none → Upto (2 * name.length + 4) (fun k => impl_takeFactor.l0 k x0 (BA name) b 0) (⟨#[]⟩, [], x0, false)) := by
 have hw := takeW_dropW name
 have hsz : (BA name).size = name.length := rfl
 have hok := (nameOk_at (name.takeWhile lowB) (by omega)).le (d' := name.length + 1) (by omega)
 have hx : (BA name).extract 0 (((name.takeWhile lowB).length : Nat) : Int).toNat = BA (name.takeWhile lowB) := by rw [BA_extract, Int.toNat_natCast, List.drop_zero, take_takeW]
 have hy : (BA name).extract (((name.takeWhile lowB).length : Nat) : Int).toNat (BA name).size = BA (name.dropWhile lowB) := by rw [BA_extract, Int.toNat_natCast, BA_size, List.take_of_length_le (Nat.le_refl _), drop_takeW]
 have go : ∀ r, Upto (name.length + 2) (fun k => impl_takeFactor.j1 k x0 (BA name) b (((name.takeWhile lowB).length : Nat) : Int)) r → Upto (2 * name.length + 4) (fun k => impl_takeFactor.l0 k x0 (BA name) b 0) r := fun r hr =>
  (letters_loop x0 name b hn r (name.length + 2) name 0 rfl (Nat.zero_le _) (by rw [Nat.zero_add]; exact hr)).le (by omega)
 unfold wordL
 cases hc : nameL (name.takeWhile lowB) with
 | true =>
  rw [hc] at hok
  refine ⟨fun x h => go _ ?_, fun h => by simp at h⟩
  rw [if_pos rfl] at h
  obtain rfl := Option.some.inj h
  refine Upto.step (d := name.length + 1) (fun k => by rw [impl_takeFactor.j1]) (Upto.iteT (by omega) (Upto.iteT (by omega) ?_))
  rw [hx, hy]
  refine Upto.bind hok (Upto.iteT rfl ?_)
  cases b with
  | true => exact Upto.iteT rfl (Upto.iteT (by omega) (Upto.some_ (by rfl)))
  | false => exact Upto.iteF (by simp) (Upto.some_ rfl)
 | false =>
  rw [hc] at hok
  refine ⟨fun x h => by simp at h, fun _ => go _ ?_⟩
  refine Upto.step (d := name.length + 1) (fun k => by rw [impl_takeFactor.j1]) (Upto.iteT (by omega) (Upto.iteT (by omega) ?_))
  rw [hx, hy]
  exact Upto.bind hok (Upto.iteF (by simp) (Upto.some_ rfl))
theorem or_good {T : TkF} {n : Nat} {P : List UInt8 → Option (Ex × List UInt8)} (hT : TGood T n P) (hP : Shrinks P) (k m : Nat) (hk : m + 1 ≤ k) (hmn : n ≤ m) : TGood (orRow T k) n (orL P m) :=
 row_good (row_good hT hP (mk := .and) (w := [97, 110, 100]) (sep := sAnd) (by decide) (fun _ _ => rfl) k m hk hmn) (andL_shrinks hP m) (mk := .or) (w := [111, 114]) (sep := sOr) (by decide) (fun _ _ => rfl) k m hk hmn
theorem fac_good : ∀ (n k : Nat), 2 * n + 8 ≤ k → n ≤ 4611686018427387903 → TGood (impl_takeFactor.f k) n (facL n)
 | 0, _, _, _ => fun s hs => absurd hs (by omega)
 | _ + 1, 0, h, _ => absurd h (by omega)
 | n + 1, k + 1, hk, hn => fun s hs => by
  have ih := fac_good n k (by omega) (by omega)
  have hO := or_good ih (facL_shrinks n) k n (by omega) (Nat.le_refl _)
  have c1 := cutPrefix_eq s sNot
  have c2 := cutPrefix_eq s [40]
  have c3 := cutPrefix_eq s [64]
  unfold impl_takeFactor.f facL
  rw [show (⟨#[110, 111, 116, 32]⟩ : ByteArray) = BA sNot from rfl, show (⟨#[40]⟩ : ByteArray) = BA [40] from rfl, show (⟨#[64]⟩ : ByteArray) = BA [64] from rfl, show (⟨#[41]⟩ : ByteArray) = BA [41] from rfl, c1]
  cases h1 : cutL sNot s with
  | some r =>
   have hl := cutL_length h1
   simp only [sNot, List.length_cons, List.length_nil] at hl
   obtain ⟨g1, g2⟩ := ih r (by omega)
   simp only [Option.bind_some, if_true]
   cases hf : facL n r with
   | none =>
    obtain ⟨x, y, z, hz⟩ := g2 hf
    rw [hz]
    exact ⟨fun x hx => by simp at hx, fun _ => ⟨_, _, _, rfl⟩⟩
   | some q =>
    rw [g1 q hf]
    refine ⟨fun x hx => ?_, fun hx => by simp at hx⟩
    obtain rfl := Option.some.inj hx
    simp only [Option.bind_some, eta_ex]
    rfl
  | none =>
   simp only [Option.bind_some]
   rw [if_neg (by decide), c2]
   cases h2 : cutL [40] s with
   | some r =>
    have hl := cutL_length h2
    simp only [List.length_cons, List.length_nil] at hl
    obtain ⟨g1, g2⟩ := hO r (by omega)
    simp only [Option.bind_some, if_true]
    cases hf : orL (facL n) n r with
    | none =>
     obtain ⟨x, y, z, hz⟩ := g2 hf
     rw [hz]
     simp only [Option.bind_some]
     obtain ⟨zl, rfl⟩ : ∃ zl, z = BA zl := ⟨_, (BA_of z).symm⟩
     rw [cutPrefix_eq zl [41]]
     exact ⟨fun x hx => by simp at hx, fun _ => ⟨_, _, _, rfl⟩⟩
    | some q =>
     rw [g1 q hf]
     simp only [Option.bind_some]
     rw [cutPrefix_eq q.2 [41]]
     cases h4 : cutL [41] q.2 with
     | none => exact ⟨fun x hx => by simp [h4] at hx, fun _ => ⟨_, _, _, rfl⟩⟩
     | some u =>
      refine ⟨fun x hx => ?_, fun hx => by simp [h4] at hx⟩
      simp only [h4, Option.map_some, Option.some.injEq] at hx
      subst hx
      rfl
   | none =>
    simp only [Option.bind_some]
    rw [if_neg (by decide), c3]
    cases h3 : cutL [64] s with
    | some r =>
     have hl := cutL_length h3
     simp only [List.length_cons, List.length_nil] at hl
     obtain ⟨g1, g2⟩ := word_good (BA s) r true (by omega)
     exact ⟨fun x hx => g1 x hx k (by omega), fun hx => ⟨_, _, _, g2 hx k (by omega)⟩⟩
    | none =>
     obtain ⟨g1, g2⟩ := word_good (BA s) s false (by omega)
     exact ⟨fun x hx => g1 x hx k (by omega), fun hx => ⟨_, _, _, g2 hx k (by omega)⟩⟩
/-- A text of an expression: at most 60 bytes, read whole. -/
def ExprOk (s : List UInt8) : Prop := s.length ≤ 60 ∧ ∃ e, Parses s e
theorem readExpr_yes {s : List UInt8} {e : Ex} (h : Parses s e) (hs : s.length ≤ 60) : Ev (fun k => impl_readExpr.f k (BA s)) ((encE e).f0, (encE e).f1, true) := by
 refine ⟨200, fun k hk => ?_⟩
 have hO := or_good (fac_good (s.length + 1) k (by omega) (by omega)) (facL_shrinks _) k (s.length + 1) (by omega) (Nat.le_refl _)
 have h1 := (hO s (by omega)).1 _ h
 show impl_readExpr.f k (BA s) = _
 unfold impl_readExpr.f impl_takeRow.f
 rw [if_neg (by rw [BA_size]; omega), if_pos rfl, h1]
 simp only [Option.bind_some, if_true]
 rw [Lib.toList_data, BA_data]
 rfl
theorem readExpr_no {s : List UInt8} (h : ¬ ExprOk s) : ∃ x y, Ev (fun k => impl_readExpr.f k (BA s)) (x, y, false) := by
 by_cases hs : s.length ≤ 60
 ·cases hp : orL (facL (s.length + 1)) (s.length + 1) s with
  | none =>
   obtain ⟨x, y, z, hz⟩ := (or_good (fac_good (s.length + 1) 200 (by omega) (by omega)) (facL_shrinks _) 200 (s.length + 1) (by omega) (Nat.le_refl _) s (by omega)).2 hp
   have hz0 : impl_readExpr.f 200 (BA s) = some (x, y, false) := by
    unfold impl_readExpr.f impl_takeRow.f
    rw [if_neg (by rw [BA_size]; omega), if_pos rfl, hz]
    rfl
   exact ⟨x, y, Ev.of (fun k => impl_readExpr.mono (BA s) k) hz0⟩
  | some q =>
   refine ⟨(encE q.1).f0, (encE q.1).f1, 200, fun k hk => ?_⟩
   have hO := or_good (fac_good (s.length + 1) k (by omega) (by omega)) (facL_shrinks _) k (s.length + 1) (by omega) (Nat.le_refl _)
   have h1 := (hO s (by omega)).1 _ hp
   have hne : q.2 ≠ [] := fun e => h ⟨hs, q.1, by unfold Parses; rw [hp, ← e]⟩
   show impl_readExpr.f k (BA s) = _
   unfold impl_readExpr.f impl_takeRow.f
   rw [if_neg (by rw [BA_size]; omega), if_pos rfl, h1]
   simp only [Option.bind_some, if_true]
   rw [Lib.toList_data, BA_data]
   congr 3
   exact beq_eq_false_iff_ne.2 hne
 ·refine ⟨⟨#[]⟩, [], 0, fun k _ => ?_⟩
  show impl_readExpr.f k (BA s) = _
  unfold impl_readExpr.f
  rw [if_pos (by rw [BA_size]; omega)]
theorem hasText_upto (l : List ByteArray) (x : ByteArray) (hl : l.length ≤ 4611686018427387903) : ∀ (t : List ByteArray) (i : Nat), l.drop i = t → i ≤ l.length →
  Upto (t.length + 1) (fun k => spec_hasText.l0 k l x (i : Int)) (memB t x) := by
 intro t
 induction t with
 | nil =>
  intro i h hi
  have hl2 := drop_nil h
  exact Upto.step (d := 0) (fun k => rfl) (Upto.iteF (by omega) (Upto.some_ rfl))
 | cons b t ih =>
  intro i h hi
  obtain ⟨hl2, hb, ht⟩ := drop_cons h
  refine Upto.step (d := t.length + 1) (fun k => by rw [spec_hasText.l0]) (Upto.iteT (by omega) (Upto.iteT (by omega) ?_))
  rw [rdOf_nat _ _ _ hl2, hb, wrapN (by omega)]
  by_cases c : b.toList = x.toList
  ·refine Upto.iteT c (Upto.some_ ?_)
   rw [toList_inj c]
   simp [memB]
  ·refine Upto.iteF c ?_
   have := ih (i + 1) ht (by omega)
   rw [show memB (b :: t) x = memB t x by simp only [memB, List.any_cons]; rw [decide_eq_false (fun e => c (by rw [e])), Bool.false_or]]
   exact this
theorem hasText_at (l : List ByteArray) (x : ByteArray) (hl : l.length ≤ 4611686018427387903) : Upto (l.length + 1) (fun k => spec_hasText.f k l x) (memB l x) := hasText_upto l x hl l 0 rfl (Nat.zero_le _)
theorem eat_eq (text w : List UInt8) (i : Nat) (m nm : ByteArray) (a b : List ByteArray) (ok : Bool) (hi : i ≤ text.length) (hz : text.length + w.length ≤ 4611686018427387903) :
  spec_eat.f (BA text) (i : Int) m nm a b ok (BA w) = some (match cutL w (text.drop i) with | some _ => (true, BA text, ((i + w.length : Nat) : Int), m, nm, ok) | none => (false, BA text, (i : Int), m, nm, ok)) := by
 have hw : wrap64 ((i : Int) + (w.length : Int)) = ((i + w.length : Nat) : Int) := by rw [wrapI (by omega)]; omega
 unfold spec_eat.f
 rw [BA_size, BA_size, hw, cutL_take]
 by_cases h : ((i + w.length : Nat) : Int) > (text.length : Int)
 ·rw [if_pos h, if_neg]
  intro e
  have := congrArg List.length e
  rw [List.length_take, List.length_drop] at this
  omega
 ·rw [if_neg h, if_pos (by omega), if_pos (by omega), if_pos (by omega), Int.toNat_natCast, Int.toNat_natCast, BA_extract, List.drop_take, Nat.add_sub_cancel_left, Lib.toList_data, Lib.toList_data, BA_data, BA_data]
  by_cases c : (text.drop i).take w.length = w
  ·rw [if_pos c, if_pos c]
  ·rw [if_neg c, if_neg c]
theorem nameAt_loop (text : List UInt8) (q : Nat) (m nm : ByteArray) (a b : List ByteArray) (ok : Bool) (hz : text.length ≤ 4611686018427387903) : ∀ (t : List UInt8) (i : Nat), text.drop i = t → i ≤ text.length → q ≤ i →
  Upto (t.length + 1) (fun k => spec_nameAt.l0 k (q : Int) (BA text) (i : Int) m nm a b ok) (BA ((text.take (i + (t.takeWhile lowB).length)).drop q), BA text, ((i + (t.takeWhile lowB).length : Nat) : Int), m, nm, ok) := by
 intro t
 have hsz : (BA text).size = text.length := rfl
 have hend : ∀ (i : Nat), (BA text).extract (q : Int).toNat ((i : Nat) : Int).toNat = BA ((text.take i).drop q) := fun i => by rw [Int.toNat_natCast, Int.toNat_natCast, BA_extract]
 induction t with
 | nil =>
  intro i h hi hq
  have hl := drop_nil h
  refine Upto.step (d := 0) (fun k => by rw [spec_nameAt.l0]) (Upto.iteF (by omega) (Upto.iteT (by omega) (Upto.iteT (by omega) (Upto.iteT (by omega) (Upto.some_ ?_)))))
  rw [hend]
  rfl
 | cons c t ih =>
  intro i h hi hq
  obtain ⟨hl, hb, ht⟩ := drop_cons h
  refine Upto.step (d := t.length + 1) (fun k => by rw [spec_nameAt.l0]) (Upto.iteT (by omega) (Upto.iteT (by omega) ?_))
  rw [bt_BA hl hb, List.takeWhile_cons]
  by_cases h1 : (c.toNat : Int) ≥ 97
  ·refine Upto.iteT h1 ?_
   by_cases h2 : (c.toNat : Int) ≤ 122
   ·have e : lowB c = true := by simp [lowB]; omega
    rw [if_pos e, List.length_cons, show i + ((t.takeWhile lowB).length + 1) = (i + 1) + (t.takeWhile lowB).length by omega]
    refine Upto.iteT h2 ?_
    rw [wrapN (by omega)]
    exact ih (i + 1) ht (by omega) (by omega)
   ·have e : lowB c = false := by simp [lowB]; omega
    rw [if_neg (show ¬ lowB c = true by rw [e]; decide)]
    refine Upto.iteF h2 (Upto.iteT (by omega) (Upto.iteT (by omega) (Upto.iteT (by omega) (Upto.some_ ?_))))
    rw [hend]
    rfl
  ·have e : lowB c = false := by simp [lowB]; omega
   rw [if_neg (show ¬ lowB c = true by rw [e]; decide)]
   refine Upto.iteF h1 (Upto.iteT (by omega) (Upto.iteT (by omega) (Upto.iteT (by omega) (Upto.some_ ?_))))
   rw [hend]
   rfl
theorem nameAt_at (text : List UInt8) (i : Nat) (m nm : ByteArray) (a b : List ByteArray) (ok : Bool) (hz : text.length ≤ 4611686018427387903) (hi : i ≤ text.length) :
  Upto (text.length + 1) (fun k => spec_nameAt.f k (BA text) (i : Int) m nm a b ok) (BA ((text.drop i).takeWhile lowB), BA text, ((i + ((text.drop i).takeWhile lowB).length : Nat) : Int), m, nm, ok) := by
 have h := nameAt_loop text i m nm a b ok hz _ i rfl hi (Nat.le_refl _)
 rw [List.drop_take, Nat.add_sub_cancel_left, take_takeW] at h
 exact h.le (by rw [List.length_drop]; omega)
/-- F reads what P reads of the text from place i on, and says what the tree says. -/
def SGood (F : StF) (text : List UInt8) (m nm : ByteArray) (l d : List ByteArray) (n : Nat) (P : List UInt8 → Option (Ex × List UInt8)) : Prop := ∀ i : Nat, i ≤ text.length → (text.drop i).length < n →
 (∀ x, P (text.drop i) = some x → ∃ q : Nat, q ≤ text.length ∧ text.drop q = x.2 ∧ F (BA text) (i : Int) m nm l d true = some (x.1.ev m l, BA text, (q : Int), m, nm, true)) ∧
 (P (text.drop i) = none → ∃ (b : Bool) (q : Nat), q ≤ text.length ∧ F (BA text) (i : Int) m nm l d true = some (b, BA text, (q : Int), m, nm, false))
theorem srow_loop {G : Nat → StF} {L : Nat → Bool → ByteArray → Int → ByteArray → ByteArray → List ByteArray → List ByteArray → Bool → Option (Bool × ByteArray × Int × ByteArray × ByteArray × Bool)} {op : Bool → Bool → Bool} {mk : Ex → Ex → Ex} {sep : List UInt8} {text : List UInt8} {m nm : ByteArray} {l d : List ByteArray} {n K : Nat} {P : List UInt8 → Option (Ex × List UInt8)}
  (hL : ∀ k x t i m nm a b ok, L (k + 1) x t i m nm a b ok = if ok = true then (spec_eat.f t i m nm a b ok (BA sep)).bind fun e => (if e.1 = true then ((G k e.2.1 e.2.2.1 e.2.2.2.1 e.2.2.2.2.1 a b e.2.2.2.2.2).bind fun y => L k (op x y.1) y.2.1 y.2.2.1 y.2.2.2.1 y.2.2.2.2.1 a b y.2.2.2.2.2) else (some (x, e.2.1, e.2.2.1, e.2.2.2.1, e.2.2.2.2.1, e.2.2.2.2.2))) else (some (x, t, i, m, nm, ok)))
  (hG : ∀ k, K ≤ k → SGood (G k) text m nm l d n P) (hP : Shrinks P) (hs : 0 < sep.length) (hz : text.length + sep.length ≤ 4611686018427387903) (hev : ∀ a b, (mk a b).ev m l = op (a.ev m l) (b.ev m l)) :
  ∀ (j : Nat) (e : Ex) (i : Nat), i ≤ text.length → (text.drop i).length < j → (text.drop i).length < n →
   (∀ x, rowL P mk sep j e (text.drop i) = some x → ∃ q : Nat, q ≤ text.length ∧ text.drop q = x.2 ∧ ∀ k, K + j + 1 ≤ k → L k (e.ev m l) (BA text) (i : Int) m nm l d true = some (x.1.ev m l, BA text, (q : Int), m, nm, true)) ∧
   (rowL P mk sep j e (text.drop i) = none → ∀ k, K + j + 1 ≤ k → ∃ (b : Bool) (q : Nat), q ≤ text.length ∧ L k (e.ev m l) (BA text) (i : Int) m nm l d true = some (b, BA text, (q : Int), m, nm, false))
 | 0, _, _, _, h, _ => absurd h (by omega)
 | j + 1, e, i, hi, h1, h2 => by
  have he := eat_eq text sep i m nm l d true hi hz
  unfold rowL
  cases hc : cutL sep (text.drop i) with
  | none =>
   rw [hc] at he
   simp only at he ⊢
   refine ⟨fun x hx => ⟨i, hi, ?_, fun k hk => ?_⟩, fun hx => (by cases hx)⟩
   ·rw [← Option.some.inj hx]
   ·obtain ⟨k, rfl⟩ : ∃ q, k = q + 1 := ⟨k - 1, by omega⟩
    rw [hL, if_pos rfl, he, ← Option.some.inj hx]
    rfl
  | some r =>
   rw [hc] at he
   have hl := cutL_length hc
   have hr : text.drop (i + sep.length) = r := by
    have := cutL_some hc
    rw [← List.drop_drop, this, List.drop_left]
   rw [List.length_drop] at hl h1 h2
   have hl3 : (text.drop (i + sep.length)).length < n := by rw [List.length_drop]; omega
   simp only at he ⊢
   rw [← hr]
   cases hp : P (text.drop (i + sep.length)) with
   | none =>
    refine ⟨fun x hx => (by cases hx), fun _ k hk => ?_⟩
    obtain ⟨k, rfl⟩ : ∃ q, k = q + 1 + 1 := ⟨k - 2, by omega⟩
    obtain ⟨b, q, hq, hb⟩ := (hG (k + 1) (by omega) (i + sep.length) (by omega) hl3).2 hp
    refine ⟨op (e.ev m l) b, q, hq, ?_⟩
    rw [hL, if_pos rfl, he]
    simp only [Option.bind_some, if_true]
    rw [hb]
    simp only [Option.bind_some]
    rw [hL, if_neg (by decide)]
   | some y =>
    have hy := hP _ y.1 y.2 hp
    rw [hr] at hy
    simp only
    obtain ⟨q0, hq0, hd0, _⟩ := (hG K (Nat.le_refl _) (i + sep.length) (by omega) hl3).1 y hp
    have hgo : ∀ k, K ≤ k → G k (BA text) ((i + sep.length : Nat) : Int) m nm l d true = some (y.1.ev m l, BA text, (q0 : Int), m, nm, true) := by
     intro k hk
     obtain ⟨q, hq, hd, hg⟩ := (hG k hk (i + sep.length) (by omega) hl3).1 y hp
     have : q = q0 := by
      have e1 := congrArg List.length (hd.trans hd0.symm)
      rw [List.length_drop, List.length_drop] at e1
      omega
     rw [← this]
     exact hg
    have hlen : (text.drop q0).length = y.2.length := by rw [hd0]
    obtain ⟨i1, i2⟩ := srow_loop hL hG hP hs hz hev j (mk e y.1) q0 hq0 (by omega) (by omega)
    rw [hd0] at i1 i2
    refine ⟨fun x hx => ?_, fun hx k hk => ?_⟩
    ·obtain ⟨q, hq, hd, hk2⟩ := i1 x hx
     refine ⟨q, hq, hd, fun k hk => ?_⟩
     obtain ⟨k, rfl⟩ : ∃ q, k = q + 1 := ⟨k - 1, by omega⟩
     rw [hL, if_pos rfl, he]
     simp only [Option.bind_some, if_true]
     rw [hgo k (by omega)]
     simp only [Option.bind_some]
     rw [← hev]
     exact hk2 k (by omega)
    ·obtain ⟨k, rfl⟩ : ∃ q, k = q + 1 := ⟨k - 1, by omega⟩
     obtain ⟨b, q, hq, hb⟩ := i2 hx k (by omega)
     refine ⟨b, q, hq, ?_⟩
     rw [hL, if_pos rfl, he]
     simp only [Option.bind_some, if_true]
     rw [hgo k (by omega)]
     simp only [Option.bind_some]
     rw [← hev]
     exact hb
theorem srow_good {G : Nat → StF} {L : Nat → Bool → ByteArray → Int → ByteArray → ByteArray → List ByteArray → List ByteArray → Bool → Option (Bool × ByteArray × Int × ByteArray × ByteArray × Bool)} {op : Bool → Bool → Bool} {mk : Ex → Ex → Ex} {sep : List UInt8} {text : List UInt8} {m nm : ByteArray} {l d : List ByteArray} {n K : Nat} {P : List UInt8 → Option (Ex × List UInt8)}
  (hL : ∀ k x t i m nm a b ok, L (k + 1) x t i m nm a b ok = if ok = true then (spec_eat.f t i m nm a b ok (BA sep)).bind fun e => (if e.1 = true then ((G k e.2.1 e.2.2.1 e.2.2.2.1 e.2.2.2.2.1 a b e.2.2.2.2.2).bind fun y => L k (op x y.1) y.2.1 y.2.2.1 y.2.2.2.1 y.2.2.2.2.1 a b y.2.2.2.2.2) else (some (x, e.2.1, e.2.2.1, e.2.2.2.1, e.2.2.2.2.1, e.2.2.2.2.2))) else (some (x, t, i, m, nm, ok)))
  (hG : ∀ k, K ≤ k → SGood (G k) text m nm l d n P) (hP : Shrinks P) (hs : 0 < sep.length) (hz : text.length + sep.length ≤ 4611686018427387903) (hev : ∀ a b, (mk a b).ev m l = op (a.ev m l) (b.ev m l)) (j k : Nat) (hj : n ≤ j) (hk : K + j + 1 ≤ k) :
  SGood (fun t i m nm a b ok => (G k t i m nm a b ok).bind fun y => L k y.1 y.2.1 y.2.2.1 y.2.2.2.1 y.2.2.2.2.1 a b y.2.2.2.2.2) text m nm l d n (fun s => (P s).bind fun x => rowL P mk sep j x.1 x.2) := by
 intro i hi hn
 obtain ⟨g1, g2⟩ := hG k (by omega) i hi hn
 cases hp : P (text.drop i) with
 | none =>
  obtain ⟨b, q, hq, hb⟩ := g2 hp
  refine ⟨fun x hx => by simp [hp] at hx, fun _ => ⟨b, q, hq, ?_⟩⟩
  obtain ⟨k, rfl⟩ : ∃ q, k = q + 1 := ⟨k - 1, by omega⟩
  simp only [hb, Option.bind_some]
  rw [hL, if_neg (by decide)]
 | some y =>
  obtain ⟨q0, hq0, hd0, hg⟩ := g1 y hp
  have hy := hP _ y.1 y.2 hp
  have hlen : (text.drop q0).length = y.2.length := by rw [hd0]
  obtain ⟨i1, i2⟩ := srow_loop hL hG hP hs hz hev j y.1 q0 hq0 (by omega) (by omega)
  rw [hd0] at i1 i2
  refine ⟨fun x hx => ?_, fun hx => ?_⟩
  ·simp only [hp, Option.bind_some] at hx
   obtain ⟨q, hq, hd, hk2⟩ := i1 x hx
   refine ⟨q, hq, hd, ?_⟩
   simp only [hg, Option.bind_some]
   exact hk2 k hk
  ·simp only [hp, Option.bind_some] at hx
   obtain ⟨b, q, hq, hb⟩ := i2 hx k hk
   refine ⟨b, q, hq, ?_⟩
   simp only [hg, Option.bind_some]
   exact hb
theorem term_step (F : StF) (k : Nat) (x : Bool) (t : ByteArray) (i : Int) (m nm : ByteArray) (a b : List ByteArray) (ok : Bool) : spec_term.l0 F (k + 1) x t i m nm a b ok = if ok = true then (spec_eat.f t i m nm a b ok (BA sAnd)).bind fun e => (if e.1 = true then ((F e.2.1 e.2.2.1 e.2.2.2.1 e.2.2.2.2.1 a b e.2.2.2.2.2).bind fun y => spec_term.l0 F k (x && y.1) y.2.1 y.2.2.1 y.2.2.2.1 y.2.2.2.2.1 a b y.2.2.2.2.2) else (some (x, e.2.1, e.2.2.1, e.2.2.2.1, e.2.2.2.2.1, e.2.2.2.2.2))) else (some (x, t, i, m, nm, ok)) := by
 cases x <;> rfl
theorem expr_step (F : StF) (k : Nat) (x : Bool) (t : ByteArray) (i : Int) (m nm : ByteArray) (a b : List ByteArray) (ok : Bool) : spec_expr0.l0 F (k + 1) x t i m nm a b ok = if ok = true then (spec_eat.f t i m nm a b ok (BA sOr)).bind fun e => (if e.1 = true then ((spec_term.f F k e.2.1 e.2.2.1 e.2.2.2.1 e.2.2.2.2.1 a b e.2.2.2.2.2).bind fun y => spec_expr0.l0 F k (x || y.1) y.2.1 y.2.2.1 y.2.2.2.1 y.2.2.2.2.1 a b y.2.2.2.2.2) else (some (x, e.2.1, e.2.2.1, e.2.2.2.1, e.2.2.2.2.1, e.2.2.2.2.2))) else (some (x, t, i, m, nm, ok)) := by
 cases x <;> rfl
theorem sor_good {F : StF} {text : List UInt8} {m nm : ByteArray} {l d : List ByteArray} {n : Nat} {P : List UInt8 → Option (Ex × List UInt8)} (hF : SGood F text m nm l d n P) (hP : Shrinks P) (hz : text.length ≤ 4611686018427387890) (j k : Nat) (hj : n ≤ j) (hk : 2 * j + 2 ≤ k) : SGood (spec_expr0.f F k) text m nm l d n (orL P j) :=
 srow_good (G := fun q => spec_term.f F q) (L := fun q => spec_expr0.l0 F q) (op := or) (mk := .or) (sep := sOr) (K := j + 1) (expr_step F)
  (fun q hq => srow_good (G := fun _ => F) (L := fun q => spec_term.l0 F q) (op := and) (mk := .and) (sep := sAnd) (K := 0) (term_step F) (fun _ _ => hF) hP (by decide) (by simp [sAnd]; omega) (fun _ _ => rfl) j q hj (by omega))
  (andL_shrinks hP j) (by decide) (by simp [sOr]; omega) (fun _ _ => rfl) j k hj (by omega)
theorem cut_drop {text p r : List UInt8} {i : Nat} (hc : cutL p (text.drop i) = some r) : text.drop (i + p.length) = r ∧ i + p.length + r.length = max i text.length := by
 have := cutL_some hc
 refine ⟨by rw [← List.drop_drop, this, List.drop_left], ?_⟩
 have h2 := congrArg List.length this
 rw [List.length_drop, List.length_append] at h2
 have h3 := cutL_length hc
 rw [List.length_drop] at h3
 by_cases h : i ≤ text.length
 ·omega
 ·rw [List.drop_of_length_le (by omega)] at this
  have h4 := congrArg List.length this
  simp at h4
  omega
theorem drop_word (text : List UInt8) (i : Nat) (hi : i ≤ text.length) : text.drop (i + ((text.drop i).takeWhile lowB).length) = (text.drop i).dropWhile lowB ∧ i + ((text.drop i).takeWhile lowB).length ≤ text.length := by
 refine ⟨by rw [← List.drop_drop, drop_takeW], ?_⟩
 have := takeW_dropW (text.drop i)
 rw [List.length_drop] at this
 omega
theorem toList_beq (a b : ByteArray) : (a.toList == b.toList) = decide (b = a) := by
 rw [Bool.eq_iff_iff, beq_iff_eq, decide_eq_true_iff, toList_iff]
 exact eq_comm
theorem name_not_at {w : List UInt8} (h : nameL w = true) : w.head? ≠ some 64 := by
 unfold nameL nameS at h
 rw [Bool.and_eq_true, List.all_eq_true, BA_data] at h
 cases w with
 | nil => simp
 | cons c w =>
  have := h.1 c List.mem_cons_self
  intro e
  rw [List.head?_cons, Option.some.injEq] at e
  rw [e] at this
  exact absurd this (by decide)
theorem wordE_at (m : ByteArray) (l : List ByteArray) (w : List UInt8) : wordE m l (64 :: w) = decide (BA w = m) := by
 unfold wordE
 rw [List.head?_cons, if_pos rfl, List.tail_cons]
theorem bindS {α β : Type} {x : Option α} {a : α} {f : α → Option β} {r : Option β} (h : x = some a) (k : f a = r) : x.bind f = r := by
 rw [h]
 exact k
theorem iteS {α : Type} {c : Prop} [Decidable c] {a b r : α} (h : c) (k : a = r) : (if c then a else b) = r := (if_pos h).trans k
theorem iteN {α : Type} {c : Prop} [Decidable c] {a b r : α} (h : ¬ c) (k : b = r) : (if c then a else b) = r := (if_neg h).trans k
theorem eat_yes {text w : List UInt8} {i : Nat} {m nm : ByteArray} {a b : List ByteArray} {ok : Bool} (hi : i ≤ text.length) (hz : text.length + w.length ≤ 4611686018427387903) {r : List UInt8} (h : cutL w (text.drop i) = some r) : spec_eat.f (BA text) (i : Int) m nm a b ok (BA w) = some (true, BA text, ((i + w.length : Nat) : Int), m, nm, ok) := by
 rw [eat_eq text w i m nm a b ok hi hz, h]
theorem eat_no {text w : List UInt8} {i : Nat} {m nm : ByteArray} {a b : List ByteArray} {ok : Bool} (hi : i ≤ text.length) (hz : text.length + w.length ≤ 4611686018427387903) (h : cutL w (text.drop i) = none) : spec_eat.f (BA text) (i : Int) m nm a b ok (BA w) = some (false, BA text, (i : Int), m, nm, ok) := by
 rw [eat_eq text w i m nm a b ok hi hz, h]
/-- A factor that begins with not. -/
theorem sfac_not {k : Nat} {text : List UInt8} {i : Nat} {m nm : ByteArray} {l d : List ByteArray} {b ok : Bool} {q : Int}
  (h1 : spec_eat.f (BA text) (i : Int) m nm l d true (BA sNot) = some (true, BA text, ((i + 4 : Nat) : Int), m, nm, true))
  (h2 : spec_factor.f k (BA text) ((i + 4 : Nat) : Int) m nm l d true = some (b, BA text, q, m, nm, ok)) : spec_factor.f (k + 1) (BA text) (i : Int) m nm l d true = some (!b, BA text, q, m, nm, ok) := by
 rw [spec_factor.f]
 exact bindS h1 (iteS rfl (bindS h2 rfl))
/-- .. with a bracket. -/
theorem sfac_par {k : Nat} {text : List UInt8} {i : Nat} {m nm : ByteArray} {l d : List ByteArray} {b ok e : Bool} {q q2 : Int}
  (h1 : spec_eat.f (BA text) (i : Int) m nm l d true (BA sNot) = some (false, BA text, (i : Int), m, nm, true))
  (h2 : spec_eat.f (BA text) (i : Int) m nm l d true (BA [40]) = some (true, BA text, ((i + 1 : Nat) : Int), m, nm, true))
  (h3 : spec_expr0.f (spec_factor.f k) k (BA text) ((i + 1 : Nat) : Int) m nm l d true = some (b, BA text, q, m, nm, ok))
  (h4 : spec_eat.f (BA text) q m nm l d ok (BA [41]) = some (e, BA text, q2, m, nm, ok)) : spec_factor.f (k + 1) (BA text) (i : Int) m nm l d true = some (b, BA text, q2, m, nm, e && ok) := by
 rw [spec_factor.f]
 cases e with
 | true => exact bindS h1 (iteN Bool.false_ne_true (bindS h2 (iteS rfl (bindS h3 (bindS h4 (iteS rfl rfl))))))
 | false => exact bindS h1 (iteN Bool.false_ne_true (bindS h2 (iteS rfl (bindS h3 (bindS h4 (iteN Bool.false_ne_true rfl))))))
/-- .. with @. -/
theorem sfac_mod {k : Nat} {text w : List UInt8} {i : Nat} {m nm : ByteArray} {l d : List ByteArray} {v : Bool} {q : Int}
  (h1 : spec_eat.f (BA text) (i : Int) m nm l d true (BA sNot) = some (false, BA text, (i : Int), m, nm, true))
  (h2 : spec_eat.f (BA text) (i : Int) m nm l d true (BA [40]) = some (false, BA text, (i : Int), m, nm, true))
  (h3 : spec_eat.f (BA text) (i : Int) m nm l d true (BA [64]) = some (true, BA text, ((i + 1 : Nat) : Int), m, nm, true))
  (h4 : spec_nameAt.f k (BA text) ((i + 1 : Nat) : Int) m nm l d true = some (BA w, BA text, q, m, nm, true))
  (h5 : spec_validName.f k (BA w) = some v) : spec_factor.f (k + 1) (BA text) (i : Int) m nm l d true = some (decide (BA w = m), BA text, q, m, nm, v) := by
 rw [spec_factor.f, ← toList_beq]
 exact bindS h1 (iteN Bool.false_ne_true (bindS h2 (iteN Bool.false_ne_true (bindS h3 (iteS rfl (bindS h4 (iteS rfl (bindS h5 rfl))))))))
/-- .. and a mark. -/
theorem sfac_mark {k : Nat} {text w : List UInt8} {i : Nat} {m nm : ByteArray} {l d : List ByteArray} {v t : Bool} {q : Int}
  (h1 : spec_eat.f (BA text) (i : Int) m nm l d true (BA sNot) = some (false, BA text, (i : Int), m, nm, true))
  (h2 : spec_eat.f (BA text) (i : Int) m nm l d true (BA [40]) = some (false, BA text, (i : Int), m, nm, true))
  (h3 : spec_eat.f (BA text) (i : Int) m nm l d true (BA [64]) = some (false, BA text, (i : Int), m, nm, true))
  (h4 : spec_nameAt.f k (BA text) (i : Int) m nm l d true = some (BA w, BA text, q, m, nm, true))
  (h5 : spec_validName.f k (BA w) = some v) (h6 : spec_hasText.f k l (BA w) = some t) : spec_factor.f (k + 1) (BA text) (i : Int) m nm l d true = some (t, BA text, q, m, nm, v) := by
 rw [spec_factor.f]
 exact bindS h1 (iteN Bool.false_ne_true (bindS h2 (iteN Bool.false_ne_true (bindS h3 (iteN Bool.false_ne_true (bindS h4 (iteS rfl (bindS h5 (bindS h6 rfl)))))))))
theorem sfac_good (text : List UInt8) (m nm : ByteArray) (l d : List ByteArray) (hz : text.length ≤ 4611686018427387890) (hl : l.length ≤ 4611686018427387890) : ∀ (n k : Nat), 2 * n + 10 + l.length + text.length ≤ k → SGood (spec_factor.f k) text m nm l d n (facL n)
 | 0, _, _ => fun i hi hn => absurd hn (by omega)
 | _ + 1, 0, h => absurd h (by omega)
 | n + 1, k + 1, hk => fun i hi hn => by
  have ih := sfac_good text m nm l d hz hl n k (by omega)
  have hO := sor_good ih (facL_shrinks n) hz n k (Nat.le_refl _) (by omega)
  have hl4 : sNot.length = 4 := rfl
  have hl1 : ∀ c : UInt8, [c].length = 1 := fun _ => rfl
  rw [List.length_drop] at hn
  unfold facL
  cases h1 : cutL sNot (text.drop i) with
  | some r =>
   have e1 := eat_yes (m := m) (nm := nm) (a := l) (b := d) (ok := true) hi (by rw [hl4]; omega) h1
   obtain ⟨hr, hlen⟩ := cut_drop h1
   rw [hl4] at hr hlen e1
   obtain ⟨g1, g2⟩ := ih (i + 4) (by omega) (by rw [List.length_drop]; omega)
   rw [hr] at g1 g2
   cases hf : facL n r with
   | none =>
    obtain ⟨b, q, hq, hb⟩ := g2 hf
    exact ⟨fun x hx => by simp [hf] at hx, fun _ => ⟨!b, q, hq, sfac_not e1 hb⟩⟩
   | some y =>
    obtain ⟨q, hq, hd, hb⟩ := g1 y hf
    refine ⟨fun x hx => ?_, fun hx => by simp [hf] at hx⟩
    simp only [hf, Option.map_some, Option.some.injEq] at hx
    subst hx
    exact ⟨q, hq, hd, sfac_not e1 hb⟩
  | none =>
   have e1 := eat_no (m := m) (nm := nm) (a := l) (b := d) (ok := true) hi (by rw [hl4]; omega) h1
   simp only
   cases h2 : cutL [40] (text.drop i) with
   | some r =>
    have e2 := eat_yes (m := m) (nm := nm) (a := l) (b := d) (ok := true) hi (by rw [hl1]; omega) h2
    obtain ⟨hr, hlen⟩ := cut_drop h2
    rw [hl1] at hr hlen e2
    obtain ⟨g1, g2⟩ := hO (i + 1) (by omega) (by rw [List.length_drop]; omega)
    rw [hr] at g1 g2
    simp only
    cases hf : orL (facL n) n r with
    | none =>
     obtain ⟨b, q, hq, hb⟩ := g2 hf
     cases h4 : cutL [41] (text.drop q) with
     | none =>
      have e4 := eat_no (m := m) (nm := nm) (a := l) (b := d) (ok := false) hq (by rw [hl1]; omega) h4
      exact ⟨fun x hx => by simp at hx, fun _ => ⟨b, q, hq, sfac_par e1 e2 hb e4⟩⟩
     | some u =>
      have e4 := eat_yes (m := m) (nm := nm) (a := l) (b := d) (ok := false) hq (by rw [hl1]; omega) h4
      obtain ⟨hu, hulen⟩ := cut_drop h4
      rw [hl1] at hulen e4
      exact ⟨fun x hx => by simp at hx, fun _ => ⟨b, q + 1, by omega, sfac_par e1 e2 hb e4⟩⟩
    | some y =>
     obtain ⟨q, hq, hd, hb⟩ := g1 y hf
     rw [Option.bind_some]
     cases h4 : cutL [41] y.2 with
     | none =>
      have e4 := eat_no (m := m) (nm := nm) (a := l) (b := d) (ok := true) hq (by rw [hl1]; omega) (hd.symm ▸ h4)
      exact ⟨fun x hx => by simp at hx, fun _ => ⟨_, q, hq, sfac_par e1 e2 hb e4⟩⟩
     | some u =>
      have h5 : cutL [41] (text.drop q) = some u := by rw [hd]; exact h4
      have e4 := eat_yes (m := m) (nm := nm) (a := l) (b := d) (ok := true) hq (by rw [hl1]; omega) h5
      obtain ⟨hu, hulen⟩ := cut_drop h5
      rw [hl1] at hu hulen e4
      refine ⟨fun x hx => ?_, fun hx => by simp at hx⟩
      simp only [Option.map_some, Option.some.injEq] at hx
      subst hx
      exact ⟨q + 1, by omega, hu, sfac_par e1 e2 hb e4⟩
   | none =>
    have e2 := eat_no (m := m) (nm := nm) (a := l) (b := d) (ok := true) hi (by rw [hl1]; omega) h2
    simp only
    cases h3 : cutL [64] (text.drop i) with
    | some r =>
     have e3 := eat_yes (m := m) (nm := nm) (a := l) (b := d) (ok := true) hi (by rw [hl1]; omega) h3
     obtain ⟨hr, hlen⟩ := cut_drop h3
     rw [hl1] at hr hlen e3
     have hN := nameAt_at text (i + 1) m nm l d true (by omega) (by omega) k (by omega)
     obtain ⟨hd, hq⟩ := drop_word text (i + 1) (by omega)
     rw [hr] at hN hd hq
     have hV := validName_at (r.takeWhile lowB) (by have := takeW_dropW r; omega) k (by have := takeW_dropW r; omega)
     have key := sfac_mod e1 e2 e3 hN hV
     simp only
     unfold wordL
     cases hn : nameL (r.takeWhile lowB) with
     | true =>
      rw [hn] at key
      rw [if_pos rfl]
      refine ⟨fun x hx => ?_, fun hx => by simp at hx⟩
      obtain rfl := Option.some.inj hx
      exact ⟨_, hq, hd, by rw [key, if_pos rfl, Ex.ev, wordE_at]⟩
     | false =>
      rw [hn] at key
      exact ⟨fun x hx => by simp at hx, fun _ => ⟨_, _, hq, key⟩⟩
    | none =>
     have e3 := eat_no (m := m) (nm := nm) (a := l) (b := d) (ok := true) hi (by rw [hl1]; omega) h3
     have hN := nameAt_at text i m nm l d true (by omega) hi k (by omega)
     obtain ⟨hd, hq⟩ := drop_word text i hi
     generalize hr : text.drop i = r at hN hd hq
     have hrl : r.length = text.length - i := by rw [← hr, List.length_drop]
     have hV := validName_at (r.takeWhile lowB) (by have := takeW_dropW r; omega) k (by have := takeW_dropW r; omega)
     have hT := hasText_at l (BA (r.takeWhile lowB)) (by omega) k (by omega)
     have key := sfac_mark e1 e2 e3 hN hV hT
     simp only
     unfold wordL
     cases hn : nameL (r.takeWhile lowB) with
     | true =>
      rw [hn] at key
      rw [if_pos rfl]
      refine ⟨fun x hx => ?_, fun hx => by simp at hx⟩
      obtain rfl := Option.some.inj hx
      refine ⟨_, hq, hd, ?_⟩
      rw [key, if_neg (by decide), Ex.ev]
      unfold wordE
      rw [if_neg (name_not_at hn)]
     | false =>
      rw [hn] at key
      exact ⟨fun x hx => by simp at hx, fun _ => ⟨_, _, hq, key⟩⟩
/-- What evaluate answers: of an expression what its tree says; of another text that it is none. -/
theorem evaluate_yes {s : List UInt8} {e : Ex} (h : Parses s e) (hs : s.length ≤ 60) (m nm : ByteArray) (l d : List ByteArray) (hl : l.length ≤ 4611686018427387890) : Ev (fun k => spec_evaluate.f k (BA s) m nm l d) (e.ev m l, true) := by
 refine ⟨2 * s.length + 20 + l.length + s.length, fun k hk => ?_⟩
 have hF := sfac_good s m nm l d (by omega) hl (s.length + 1) k (by omega)
 have hO := sor_good hF (facL_shrinks _) (by omega) (s.length + 1) k (Nat.le_refl _) (by omega)
 obtain ⟨q, hq, hd, hb⟩ := (hO 0 (Nat.zero_le _) (by rw [List.drop_zero]; omega)).1 (e, []) (by rw [List.drop_zero]; exact h)
 have hqe : q = s.length := by
  have := congrArg List.length hd
  rw [List.length_drop, List.length_nil] at this
  omega
 show spec_evaluate.f k (BA s) m nm l d = _
 unfold spec_evaluate.f spec_expr.f
 rw [if_pos (by rw [BA_size]; omega)]
 have hb2 : spec_expr0.f (spec_factor.f k) k (BA s) 0 m nm l d true = some (e.ev m l, BA s, (q : Int), m, nm, true) := hb
 rw [hb2, BA_size, hqe]
 simp
theorem evaluate_no {s : List UInt8} (h : ¬ ExprOk s) (m nm : ByteArray) (l d : List ByteArray) (hl : l.length ≤ 4611686018427387890) : ∃ b, Ev (fun k => spec_evaluate.f k (BA s) m nm l d) (b, false) := by
 by_cases hs : s.length ≤ 60
 ·have key : ∃ b, spec_evaluate.f (2 * s.length + 20 + l.length + s.length) (BA s) m nm l d = some (b, false) := by
   have hF := sfac_good s m nm l d (by omega) hl (s.length + 1) (2 * s.length + 20 + l.length + s.length) (by omega)
   have hO := sor_good hF (facL_shrinks _) (by omega) (s.length + 1) (2 * s.length + 20 + l.length + s.length) (Nat.le_refl _) (by omega)
   obtain ⟨g1, g2⟩ := hO 0 (Nat.zero_le _) (by rw [List.drop_zero]; omega)
   rw [List.drop_zero] at g1 g2
   unfold spec_evaluate.f spec_expr.f
   rw [if_pos (by rw [BA_size]; omega)]
   cases hp : orL (facL (s.length + 1)) (s.length + 1) s with
   | none =>
    obtain ⟨b, q, hq, hb⟩ := g2 hp
    have hb2 : spec_expr0.f (spec_factor.f (2 * s.length + 20 + l.length + s.length)) (2 * s.length + 20 + l.length + s.length) (BA s) 0 m nm l d true = some (b, BA s, (q : Int), m, nm, false) := hb
    rw [hb2]
    exact ⟨b, rfl⟩
   | some y =>
    obtain ⟨q, hq, hd, hb⟩ := g1 y hp
    have hb2 : spec_expr0.f (spec_factor.f (2 * s.length + 20 + l.length + s.length)) (2 * s.length + 20 + l.length + s.length) (BA s) 0 m nm l d true = some (y.1.ev m l, BA s, (q : Int), m, nm, true) := hb
    have hne : q ≠ s.length := by
     intro e
     rw [e, List.drop_length] at hd
     exact h ⟨hs, y.1, by unfold Parses; rw [hp, hd]⟩
    rw [hb2, BA_size]
    refine ⟨y.1.ev m l, ?_⟩
    simp only [Option.bind_some, Bool.true_and]
    rw [decide_eq_false (by omega)]
  obtain ⟨b, hb⟩ := key
  exact ⟨b, Ev.of (fun k => spec_evaluate.mono (BA s) m nm l d k) hb⟩
 ·refine ⟨false, 0, fun k _ => ?_⟩
  show spec_evaluate.f k (BA s) m nm l d = _
  unfold spec_evaluate.f
  rw [if_neg (by rw [BA_size]; omega)]
theorem toList_BA (l : List UInt8) : (BA l).toList = l := by rw [Lib.toList_data]; rfl
theorem name_parts {w : List UInt8} (h : nameL w = true) : 1 ≤ w.length ∧ w ≠ [97, 110, 100] ∧ w ≠ [111, 114] ∧ w ≠ [110, 111, 116] := by
 have h1 := nameL_pos h
 unfold nameL nameS nameEnd at h
 rw [Bool.and_eq_true, Bool.and_eq_true, Bool.and_eq_true, Bool.and_eq_true, Bool.and_eq_true, toList_BA, bne_iff_ne, bne_iff_ne, bne_iff_ne] at h
 exact ⟨h1.1, h.2.2.2.1, h.2.2.2.2.1, h.2.2.2.2.2⟩
theorem word_parts {w : List UInt8} (h : wordOk w) : 1 ≤ w.length ∧ w ≠ [97, 110, 100] ∧ w ≠ [111, 114] ∧ w ≠ [110, 111, 116] := by
 rcases h with h | ⟨v, rfl, h⟩
 ·exact name_parts h
 ·refine ⟨by rw [List.length_cons]; omega, ?_, ?_, ?_⟩ <;> (intro e; have := (List.cons.inj e).1; exact absurd this (by decide))
theorem holds_ev (m : ByteArray) (l : List ByteArray) (hl : l.length ≤ 4611686018427387903) : ∀ e : Ex, e.WF → Ev (fun k => impl_expr_holds.f k (encE e).f0 (encE e).f1 m l) (e.ev m l)
 | .not a, h => by
  refine Ev.step (fun k => by rw [impl_expr_holds.f]) ?_
  refine Ev.iteT (toList_BA _) (Ev.iteT (by show (0 : Int) < ((1 : Nat) : Int); omega) ?_)
  exact Ev.bind (holds_ev m l hl a h) (Ev.some_ rfl)
 | .and a b, h => by
  refine Ev.step (fun k => by rw [impl_expr_holds.f]) ?_
  refine Ev.iteF (by rw [show (encE (.and a b)).f0 = BA [97, 110, 100] from rfl, toList_BA]; decide) (Ev.iteT (toList_BA _) (Ev.iteT (by show (0 : Int) < ((2 : Nat) : Int); omega) ?_))
  refine Ev.bind (holds_ev m l hl a h.1) ?_
  show Ev _ (a.ev m l && b.ev m l)
  cases a.ev m l with
  | true => exact Ev.iteT rfl (Ev.iteT (by show (1 : Int) < ((2 : Nat) : Int); omega) (Ev.bind (holds_ev m l hl b h.2) (Ev.some_ (Bool.true_and _).symm)))
  | false => exact Ev.iteF (by decide) (Ev.some_ rfl)
 | .or a b, h => by
  refine Ev.step (fun k => by rw [impl_expr_holds.f]) ?_
  refine Ev.iteF (by rw [show (encE (.or a b)).f0 = BA [111, 114] from rfl, toList_BA]; decide) (Ev.iteF (by rw [show (encE (.or a b)).f0 = BA [111, 114] from rfl, toList_BA]; decide) (Ev.iteT (toList_BA _) (Ev.iteT (by show (0 : Int) < ((2 : Nat) : Int); omega) ?_)))
  refine Ev.bind (holds_ev m l hl a h.1) ?_
  show Ev _ (a.ev m l || b.ev m l)
  cases a.ev m l with
  | true => exact Ev.iteT rfl (Ev.some_ rfl)
  | false => exact Ev.iteF (by decide) (Ev.iteT (by show (1 : Int) < ((2 : Nat) : Int); omega) (Ev.bind (holds_ev m l hl b h.2) (Ev.some_ (Bool.false_or _).symm)))
 | .leaf w, h => by
  have hw := word_parts h
  have e0 : (encE (.leaf w)).f0 = BA w := rfl
  have hz : (BA w).size = w.length := rfl
  rw [e0]
  refine Ev.step (fun k => by rw [impl_expr_holds.f]) ?_
  refine Ev.iteF (by rw [toList_BA]; exact hw.2.2.2) (Ev.iteF (by rw [toList_BA]; exact hw.2.1) (Ev.iteF (by rw [toList_BA]; exact hw.2.2.1) (Ev.iteT (by omega) ?_)))
  show Ev _ (wordE m l w)
  cases w with
  | nil => exact absurd hw.1 (by simp)
  | cons c v =>
   have hb : bt (BA (c :: v)) 0 = (c.toNat : Int) := bt_BA (s := c :: v) (i := 0) (by simp) rfl
   rw [hb]
   unfold wordE
   rw [List.head?_cons]
   by_cases hc : c = 64
   ·subst hc
    rw [if_pos rfl]
    refine Ev.iteT rfl (Ev.iteT (by omega) (Ev.some_ ?_))
    rw [BA_extract, toList_beq, List.take_of_length_le (Nat.le_of_eq hz.symm), List.drop_one]
    rw [Bool.eq_iff_iff, decide_eq_true_iff, decide_eq_true_iff]
    exact eq_comm
   ·rw [if_neg (fun e => hc (Option.some.inj e))]
    refine Ev.iteF (fun e => hc (UInt8.toNat_inj.1 (by have : ((64 : UInt8).toNat : Int) = 64 := rfl; omega))) (Ev.bind (contains_ev l _ hl) (Ev.some_ rfl))
/-- How many words a tree has. -/
def Ex.cnt : Ex → Nat
 | .leaf _ => 1
 | .not a => a.cnt
 | .and a b => a.cnt + b.cnt
 | .or a b => a.cnt + b.cnt
theorem at_length : ∀ (e : Ex) (l : List ByteArray), (e.at_ l).length ≤ l.length + e.cnt
 | .leaf w, l => addM_length l _
 | .not a, l => at_length a l
 | .and a b, l => by
  have h1 := at_length a l
  have h2 := at_length b (a.at_ l)
  show (b.at_ (a.at_ l)).length ≤ l.length + (a.cnt + b.cnt)
  omega
 | .or a b, l => by
  have h1 := at_length a l
  have h2 := at_length b (a.at_ l)
  show (b.at_ (a.at_ l)).length ≤ l.length + (a.cnt + b.cnt)
  omega
theorem atoms_ev : ∀ (e : Ex) (l : List ByteArray), l.length + e.cnt ≤ 8796093022207 → Ev (fun k => impl_expr_atoms.f k (encE e).f0 (encE e).f1 l) (e.at_ l)
 | .leaf w, l, h => by
  have h' : l.length + 1 ≤ 8796093022207 := h
  refine Ev.step (fun k => by rw [impl_expr_atoms.f]) ?_
  refine Ev.iteT rfl (Ev.bind (contains_ev l _ (by omega)) ?_)
  show Ev _ (addM l (BA w))
  by_cases hc : memB l (BA w) = true
  ·rw [show addM l (BA w) = l from if_pos hc]
   exact Ev.iteT hc (Ev.some_ rfl)
  ·rw [show addM l (BA w) = l ++ [BA w] from if_neg hc]
   exact Ev.iteF hc (Ev.iteT (by omega) (Ev.some_ rfl))
 | .not a, l, h => by
  refine Ev.step (fun k => by rw [impl_expr_atoms.f]) ?_
  refine Ev.iteF (by show ¬ (1 : Nat) = 0; omega) ?_
  exact Ev.bind (atoms_ev a l h) (Ev.some_ rfl)
 | .and a b, l, h => by
  have h' : l.length + (a.cnt + b.cnt) ≤ 8796093022207 := h
  have h1 := at_length a l
  refine Ev.step (fun k => by rw [impl_expr_atoms.f]) ?_
  refine Ev.iteF (by show ¬ (2 : Nat) = 0; omega) ?_
  exact Ev.bind (atoms_ev a l (by omega)) (Ev.bind (atoms_ev b _ (by omega)) (Ev.some_ rfl))
 | .or a b, l, h => by
  have h' : l.length + (a.cnt + b.cnt) ≤ 8796093022207 := h
  have h1 := at_length a l
  refine Ev.step (fun k => by rw [impl_expr_atoms.f]) ?_
  refine Ev.iteF (by show ¬ (2 : Nat) = 0; omega) ?_
  exact Ev.bind (atoms_ev a l (by omega)) (Ev.bind (atoms_ev b _ (by omega)) (Ev.some_ rfl))
def CntOk (P : List UInt8 → Option (Ex × List UInt8)) : Prop := ∀ s e t, P s = some (e, t) → e.cnt + t.length ≤ s.length
theorem rowL_cnt {P : List UInt8 → Option (Ex × List UInt8)} (hP : CntOk P) {mk : Ex → Ex → Ex} (hm : ∀ a b, (mk a b).cnt = a.cnt + b.cnt) (sep : List UInt8) : ∀ (n : Nat) (e : Ex) (s : List UInt8) (e' : Ex) (t : List UInt8), rowL P mk sep n e s = some (e', t) → e'.cnt + t.length ≤ e.cnt + s.length
 | 0, e, s, e', t, h => by simp [rowL] at h
 | n + 1, e, s, e', t, h => by
  unfold rowL at h
  cases hc : cutL sep s with
  | none =>
   rw [hc] at h
   simp only [Option.some.injEq, Prod.mk.injEq] at h
   rw [h.1, h.2]
   exact Nat.le_refl _
  | some r =>
   rw [hc] at h
   simp only at h
   cases hp : P r with
   | none => rw [hp] at h; simp only at h; cases h
   | some x =>
    rw [hp] at h
    simp only at h
    have h1 := rowL_cnt hP hm sep n _ _ _ _ h
    have h2 := hP r x.1 x.2 hp
    have h3 := cutL_length hc
    rw [hm] at h1
    omega
theorem andL_cnt {P : List UInt8 → Option (Ex × List UInt8)} (hP : CntOk P) (n : Nat) : CntOk (andL P n) := by
 intro s e t h
 obtain ⟨x, hx, h⟩ := Option.bind_eq_some_iff.mp h
 have h1 := hP s x.1 x.2 hx
 have h2 := rowL_cnt hP (mk := .and) (fun _ _ => rfl) _ _ _ _ _ _ h
 omega
theorem orL_cnt {P : List UInt8 → Option (Ex × List UInt8)} (hP : CntOk P) (n : Nat) : CntOk (orL P n) := by
 intro s e t h
 obtain ⟨x, hx, h⟩ := Option.bind_eq_some_iff.mp h
 have h1 := andL_cnt hP n s x.1 x.2 hx
 have h2 := rowL_cnt (andL_cnt hP n) (mk := .or) (fun _ _ => rfl) _ _ _ _ _ _ h
 omega
theorem wordL_cnt {s t : List UInt8} {b : Bool} {e : Ex} (h : wordL s b = some (e, t)) : e.cnt + t.length ≤ s.length := by
 have h1 := wordL_length h
 unfold wordL at h
 split at h
 ·simp only [Option.some.injEq, Prod.mk.injEq] at h
  rw [← h.1]
  show 1 + t.length ≤ s.length
  omega
 ·cases h
theorem facL_cnt : ∀ n, CntOk (facL n)
 | 0 => fun s e t h => by simp [facL] at h
 | n + 1 => fun s e t h => by
  unfold facL at h
  cases h1 : cutL sNot s with
  | some r =>
   rw [h1] at h
   simp only at h
   obtain ⟨x, hx, h⟩ := Option.map_eq_some_iff.mp h
   have h2 := facL_cnt n r x.1 x.2 hx
   have h3 := cutL_length h1
   simp only [Prod.mk.injEq] at h
   rw [← h.1, ← h.2]
   show x.1.cnt + _ ≤ _
   omega
  | none =>
   rw [h1] at h
   simp only at h
   cases h2 : cutL [40] s with
   | some r =>
    rw [h2] at h
    simp only at h
    obtain ⟨x, hx, h⟩ := Option.bind_eq_some_iff.mp h
    obtain ⟨y, hy, h⟩ := Option.map_eq_some_iff.mp h
    have h3 := orL_cnt (facL_cnt n) n r x.1 x.2 hx
    have h4 := cutL_length h2
    have h5 := cutL_length hy
    simp only [Prod.mk.injEq] at h
    rw [← h.1, ← h.2]
    omega
   | none =>
    rw [h2] at h
    simp only at h
    cases h3 : cutL [64] s with
    | some r =>
     rw [h3] at h
     simp only at h
     have h4 := wordL_cnt h
     have h5 := cutL_length h3
     omega
    | none =>
     rw [h3] at h
     simp only at h
     exact wordL_cnt h
theorem Parses.cnt {s : List UInt8} {e : Ex} (h : Parses s e) : e.cnt ≤ s.length := orL_cnt (facL_cnt _) _ _ _ _ h
theorem specValid_yes {s : List UInt8} {e : Ex} (h : Parses s e) (hs : s.length ≤ 60) : Ev (fun k => spec_validExpr.f k (BA s)) true := by
 unfold spec_validExpr.f
 exact Ev.bind (evaluate_yes h hs _ _ [] [] (by simp)) (Ev.some_ rfl)
theorem specValid_no {s : List UInt8} (h : ¬ ExprOk s) : Ev (fun k => spec_validExpr.f k (BA s)) false := by
 obtain ⟨b, hb⟩ := evaluate_no h ⟨#[]⟩ ⟨#[]⟩ [] [] (by simp)
 unfold spec_validExpr.f
 exact Ev.bind hb (Ev.some_ rfl)
theorem BA_append (a b : List UInt8) : BA a ++ BA b = BA (a ++ b) := BA_ext (by rw [ByteArray.data_append, Array.toList_append]; rfl)
theorem addM_mem {l : List ByteArray} {x y : ByteArray} : y ∈ addM l x ↔ y ∈ l ∨ y = x := by
 unfold addM
 split
 ·next h => exact ⟨.inl, fun e => e.elim id (fun e => e ▸ memB_iff.1 h)⟩
 ·rw [List.mem_append, List.mem_singleton]
def atB (c : UInt8) : Bool := decide ((c.toNat : Int) = 64) || lowB c
def isWord (w : List UInt8) : Bool := w != [] && (w != [97, 110, 100] && (w != [111, 114] && w != [110, 111, 116]))
def flushL (w : List UInt8) (acc : List ByteArray) : List ByteArray := if isWord w = true then addM acc (BA w) else acc
def lexL : List UInt8 → List UInt8 → List ByteArray → List ByteArray
 | [], w, acc => flushL w acc
 | c :: s, w, acc => if atB c = true then lexL s (w ++ [c]) acc else lexL s [] (flushL w acc)
/-- No word goes on here. -/
def StopL (t : List UInt8) : Prop := ∀ c r, t = c :: r → atB c = false
theorem lex_stop {t : List UInt8} (h : StopL t) (w : List UInt8) (acc : List ByteArray) : lexL t w acc = lexL t [] (flushL w acc) := by
 cases t with
 | nil => rfl
 | cons c r =>
  have e := h c r rfl
  unfold lexL
  rw [e]
  rfl
theorem lex_run : ∀ (u t w : List UInt8) (acc : List ByteArray), (∀ c ∈ u, atB c = true) → lexL (u ++ t) w acc = lexL t (w ++ u) acc
 | [], t, w, acc, _ => by rw [List.nil_append, List.append_nil]
 | c :: u, t, w, acc, h => by
  rw [List.cons_append]
  show (if atB c = true then lexL (u ++ t) (w ++ [c]) acc else lexL (u ++ t) [] (flushL w acc)) = _
  rw [if_pos (h c List.mem_cons_self), lex_run u t _ acc (fun x hx => h x (List.mem_cons_of_mem _ hx)), List.append_assoc]
  rfl
theorem isWord_ok {w : List UInt8} (h : wordOk w) : isWord w = true := by
 obtain ⟨h1, h2, h3, h4⟩ := word_parts h
 have h0 : w ≠ [] := fun e => by rw [e] at h1; simp at h1
 unfold isWord
 rw [Bool.and_eq_true, Bool.and_eq_true, Bool.and_eq_true, bne_iff_ne, bne_iff_ne, bne_iff_ne, bne_iff_ne]
 exact ⟨h0, h2, h3, h4⟩
theorem lowB_atB {c : UInt8} (h : lowB c = true) : atB c = true := by unfold atB; rw [h, Bool.or_true]
theorem takeW_low : ∀ (s : List UInt8), ∀ c ∈ s.takeWhile lowB, lowB c = true
 | [], c, h => by cases h
 | x :: s, c, h => by
  rw [List.takeWhile_cons] at h
  split at h
  ·next hx => exact (List.mem_cons.1 h).elim (fun e => e ▸ hx) (takeW_low s c)
  ·cases h
def LexOk (P : List UInt8 → Option (Ex × List UInt8)) : Prop := ∀ s e t, P s = some (e, t) → StopL t → ∀ acc, lexL s [] acc = lexL t [] (e.at_ acc)
theorem word_lex (s : List UInt8) (hn : nameL (s.takeWhile lowB) = true) (ht : StopL (s.dropWhile lowB)) (acc : List ByteArray) : lexL s [] acc = lexL (s.dropWhile lowB) [] (addM acc (BA (s.takeWhile lowB))) := by
 have h1 := lex_run (s.takeWhile lowB) (s.dropWhile lowB) [] acc (fun c hc => lowB_atB (takeW_low s c hc))
 rw [List.takeWhile_append_dropWhile, List.nil_append] at h1
 rw [h1, lex_stop ht]
 unfold flushL
 rw [if_pos (isWord_ok (.inl hn))]
theorem mod_lex (s : List UInt8) (hn : nameL (s.takeWhile lowB) = true) (ht : StopL (s.dropWhile lowB)) (acc : List ByteArray) : lexL (64 :: s) [] acc = lexL (s.dropWhile lowB) [] (addM acc (BA (64 :: s.takeWhile lowB))) := by
 have h1 := lex_run (64 :: s.takeWhile lowB) (s.dropWhile lowB) [] acc (fun c hc => (List.mem_cons.1 hc).elim (fun e => by rw [e]; decide) (fun hc => lowB_atB (takeW_low s c hc)))
 rw [List.cons_append, List.takeWhile_append_dropWhile, List.nil_append] at h1
 rw [h1, lex_stop ht]
 unfold flushL
 rw [if_pos (isWord_ok (.inr ⟨_, rfl, hn⟩))]
theorem stop_32 (r : List UInt8) : StopL (32 :: r) := fun c x h => by rw [← (List.cons.inj h).1]; decide
theorem stop_41 (r : List UInt8) : StopL (41 :: r) := fun c x h => by rw [← (List.cons.inj h).1]; decide
theorem rowL_stopL {P : List UInt8 → Option (Ex × List UInt8)} {mk : Ex → Ex → Ex} {sep u : List UInt8} (hs : sep = 32 :: u) : ∀ (n : Nat) (e : Ex) (s : List UInt8) (e' : Ex) (t : List UInt8), rowL P mk sep n e s = some (e', t) → StopL t → StopL s
 | 0, e, s, e', t, h, _ => by simp [rowL] at h
 | n + 1, e, s, e', t, h, ht => by
  unfold rowL at h
  cases hc : cutL sep s with
  | none =>
   rw [hc] at h
   simp only [Option.some.injEq, Prod.mk.injEq] at h
   rw [h.2]
   exact ht
  | some r =>
   rw [cutL_some hc, hs, List.cons_append]
   exact stop_32 _
theorem rowL_lex {P : List UInt8 → Option (Ex × List UInt8)} (hP : LexOk P) {mk : Ex → Ex → Ex} (hm : ∀ a b l, (mk a b).at_ l = b.at_ (a.at_ l)) {sep u : List UInt8} (hs : sep = 32 :: u) (hl : ∀ r acc, lexL (sep ++ r) [] acc = lexL r [] acc) : ∀ (n : Nat) (e : Ex) (s : List UInt8) (e' : Ex) (t : List UInt8), rowL P mk sep n e s = some (e', t) → StopL t → ∀ acc, lexL s [] (e.at_ acc) = lexL t [] (e'.at_ acc)
 | 0, e, s, e', t, h, _ => by simp [rowL] at h
 | n + 1, e, s, e', t, h, ht => fun acc => by
  unfold rowL at h
  cases hc : cutL sep s with
  | none =>
   rw [hc] at h
   simp only [Option.some.injEq, Prod.mk.injEq] at h
   rw [h.1, h.2]
  | some r =>
   rw [hc] at h
   simp only at h
   cases hp : P r with
   | none => rw [hp] at h; simp only at h; cases h
   | some x =>
    rw [hp] at h
    simp only at h
    have h1 := rowL_lex hP hm hs hl n _ _ _ _ h ht acc
    rw [hm] at h1
    rw [cutL_some hc, hl, hP r x.1 x.2 hp (rowL_stopL hs n _ _ _ _ h ht), h1]
theorem and_blank (r : List UInt8) (acc : List ByteArray) : lexL (sAnd ++ r) [] acc = lexL r [] acc := rfl
theorem or_blank (r : List UInt8) (acc : List ByteArray) : lexL (sOr ++ r) [] acc = lexL r [] acc := rfl
theorem not_blank (r : List UInt8) (acc : List ByteArray) : lexL (sNot ++ r) [] acc = lexL r [] acc := rfl
theorem open_blank (r : List UInt8) (acc : List ByteArray) : lexL ([40] ++ r) [] acc = lexL r [] acc := rfl
theorem shut_blank (r : List UInt8) (acc : List ByteArray) : lexL ([41] ++ r) [] acc = lexL r [] acc := rfl
theorem andL_lex {P : List UInt8 → Option (Ex × List UInt8)} (hP : LexOk P) (n : Nat) : LexOk (andL P n) := by
 intro s e t h ht acc
 obtain ⟨x, hx, h⟩ := Option.bind_eq_some_iff.mp h
 rw [hP s x.1 x.2 hx (rowL_stopL (u := [97, 110, 100, 32]) rfl n _ _ _ _ h ht)]
 exact rowL_lex hP (mk := .and) (fun _ _ _ => rfl) (u := [97, 110, 100, 32]) rfl and_blank n _ _ _ _ h ht acc
theorem orL_lex {P : List UInt8 → Option (Ex × List UInt8)} (hP : LexOk P) (n : Nat) : LexOk (orL P n) := by
 intro s e t h ht acc
 obtain ⟨x, hx, h⟩ := Option.bind_eq_some_iff.mp h
 rw [andL_lex hP n s x.1 x.2 hx (rowL_stopL (u := [111, 114, 32]) rfl n _ _ _ _ h ht)]
 exact rowL_lex (andL_lex hP n) (mk := .or) (fun _ _ _ => rfl) (u := [111, 114, 32]) rfl or_blank n _ _ _ _ h ht acc
theorem facL_lex : ∀ n, LexOk (facL n)
 | 0 => fun s e t h => by simp [facL] at h
 | n + 1 => fun s e t h ht acc => by
  unfold facL at h
  cases h1 : cutL sNot s with
  | some r =>
   rw [h1] at h
   simp only at h
   obtain ⟨x, hx, h⟩ := Option.map_eq_some_iff.mp h
   simp only [Prod.mk.injEq] at h
   rw [cutL_some h1, not_blank, ← h.1, ← h.2]
   exact facL_lex n r x.1 x.2 hx (by rw [h.2]; exact ht) acc
  | none =>
   rw [h1] at h
   simp only at h
   cases h2 : cutL [40] s with
   | some r =>
    rw [h2] at h
    simp only at h
    obtain ⟨x, hx, h⟩ := Option.bind_eq_some_iff.mp h
    obtain ⟨y, hy, h⟩ := Option.map_eq_some_iff.mp h
    simp only [Prod.mk.injEq] at h
    have e2 := cutL_some hy
    rw [cutL_some h2, open_blank, orL_lex (facL_lex n) n r x.1 x.2 hx (by rw [e2]; exact stop_41 _), e2, shut_blank, h.1, h.2]
   | none =>
    rw [h2] at h
    simp only at h
    cases h3 : cutL [64] s with
    | some r =>
     rw [h3] at h
     simp only at h
     unfold wordL at h
     split at h
     ·next hn =>
      simp only [Option.some.injEq, Prod.mk.injEq] at h
      rw [cutL_some h3, ← h.1, ← h.2]
      exact mod_lex r hn (by rw [h.2]; exact ht) acc
     ·cases h
    | none =>
     rw [h3] at h
     simp only at h
     unfold wordL at h
     split at h
     ·next hn =>
      simp only [Option.some.injEq, Prod.mk.injEq] at h
      rw [← h.1, ← h.2]
      exact word_lex s hn (by rw [h.2]; exact ht) acc
     ·cases h
theorem Parses.lex {s : List UInt8} {e : Ex} (h : Parses s e) : lexL s [] [] = e.at_ [] :=
 orL_lex (facL_lex _) _ _ _ _ h (fun c r h => by cases h) []
theorem addWord_ev (l : List ByteArray) (x : ByteArray) (hl : l.length ≤ 8796093022207) : Ev (fun k => spec_addText.f k l x) (addM l x) := by
 unfold spec_addText.f
 refine Ev.bind (hasText_ev l x (by omega)) ?_
 unfold addM
 cases hc : memB l x with
 | true => exact Ev.iteT rfl (Ev.some_ rfl)
 | false => exact Ev.iteF (by simp) (Ev.iteT (by omega) (Ev.some_ rfl))
theorem flush_length (w : List UInt8) (acc : List ByteArray) : (flushL w acc).length ≤ acc.length + 1 := by
 unfold flushL
 split
 ·exact addM_length acc _
 ·omega
theorem sAtoms_flush (text w : List UInt8) (acc : List ByteArray) (i : Nat) (hi : i < 4611686018427387903) (ha : acc.length ≤ 8796093022207) (r : List ByteArray) (h : Ev (fun k => spec_atoms.l0 k (BA text) (flushL w acc) (BA []) ((i + 1 : Nat) : Int)) r) :
  Ev (fun k => spec_atoms.j1 k (BA text) acc (BA w) (i : Int) false) r := by
 unfold flushL at h
 refine Ev.step (fun k => by rw [spec_atoms.j1, toList_BA, wrapN (by omega)]) ?_
 refine Ev.iteF (by simp) ?_
 by_cases h0 : w = []
 ·rw [if_neg (by rw [h0]; decide)] at h
  exact Ev.iteT h0 h
 ·refine Ev.iteF h0 ?_
  by_cases h1 : w = [97, 110, 100]
  ·rw [if_neg (by rw [h1]; decide)] at h
   exact Ev.iteT h1 h
  ·refine Ev.iteF h1 ?_
   by_cases h2 : w = [111, 114]
   ·rw [if_neg (by rw [h2]; decide)] at h
    exact Ev.iteT h2 h
   ·refine Ev.iteF h2 ?_
    by_cases h3 : w = [110, 111, 116]
    ·rw [if_neg (by rw [h3]; decide)] at h
     exact Ev.iteT h3 h
    ·rw [if_pos (by unfold isWord; rw [Bool.and_eq_true, Bool.and_eq_true, Bool.and_eq_true, bne_iff_ne, bne_iff_ne, bne_iff_ne, bne_iff_ne]; exact ⟨h0, h1, h2, h3⟩)] at h
     exact Ev.iteF h3 (Ev.bind (addWord_ev acc _ ha) h)
theorem sAtoms_loop (text : List UInt8) (hz : text.length ≤ 8796093022000) : ∀ (t : List UInt8) (i : Nat) (w : List UInt8) (acc : List ByteArray), text.drop i = t → i ≤ text.length → w.length ≤ i → acc.length ≤ i →
  Ev (fun k => spec_atoms.l0 k (BA text) acc (BA w) (i : Int)) (lexL t w acc) := by
 intro t
 induction t with
 | nil =>
  intro i w acc h hi hw ha
  have hl := drop_nil h
  have hsz : (BA text).size = text.length := rfl
  refine Ev.step (fun k => by rw [spec_atoms.l0]) ?_
  refine Ev.iteT (by omega) (Ev.iteF (by omega) (sAtoms_flush text w acc i (by omega) (by omega) _ ?_))
  refine Ev.step (fun k => by rw [spec_atoms.l0]) ?_
  exact Ev.iteF (by omega) (Ev.some_ rfl)
 | cons c t ih =>
  intro i w acc h hi hw ha
  obtain ⟨hl, hb, ht⟩ := drop_cons h
  have hsz : (BA text).size = text.length := rfl
  have hflag : Ev (fun k => spec_atoms.j1 k (BA text) acc (BA w) (i : Int) (atB c)) (lexL (c :: t) w acc) := by
   show Ev _ (if atB c = true then lexL t (w ++ [c]) acc else lexL t [] (flushL w acc))
   cases hc : atB c with
   | true =>
    have hx : (BA text).extract i (i + 1) = BA [c] := by
     rw [BA_extract]
     refine congrArg BA ?_
     rw [List.take_succ_eq_append_getElem hl, hb, List.drop_left' (by rw [List.length_take]; omega)]
    rw [if_pos rfl]
    refine Ev.step (fun k => by rw [spec_atoms.j1, wrapN (by omega), Int.toNat_natCast, Int.toNat_natCast, hx, BA_append]) ?_
    refine Ev.iteT rfl (Ev.iteT (by omega) (Ev.iteT (by omega) (Ev.iteT (by omega) (Ev.iteT ?_ ?_))))
    ·rw [BA_size, BA_size, List.length_singleton]; omega
    ·exact ih (i + 1) (w ++ [c]) acc ht (by omega) (by rw [List.length_append, List.length_singleton]; omega) (by omega)
   | false =>
    rw [if_neg (by decide)]
    have hf := flush_length w acc
    exact sAtoms_flush text w acc i (by omega) (by omega) _ (ih (i + 1) [] _ ht (by omega) (Nat.zero_le _) (by omega))
  refine Ev.step (fun k => by rw [spec_atoms.l0, bt_BA hl hb]) ?_
  refine Ev.iteT (by omega) (Ev.iteT (by omega) (Ev.iteT (by omega) ?_))
  by_cases h1 : (c.toNat : Int) = 64
  ·rw [show atB c = true by unfold atB; rw [decide_eq_true h1, Bool.true_or]] at hflag
   exact Ev.iteT h1 hflag
  ·rw [show atB c = lowB c by unfold atB; rw [decide_eq_false h1, Bool.false_or]] at hflag
   refine Ev.iteF h1 ?_
   by_cases h2 : (c.toNat : Int) ≥ 97
   ·rw [show lowB c = decide ((c.toNat : Int) ≤ 122) by unfold lowB; rw [decide_eq_true (show (97 : Int) ≤ (c.toNat : Int) from h2), Bool.true_and]] at hflag
    exact Ev.iteT h2 hflag
   ·rw [show lowB c = false by unfold lowB; rw [decide_eq_false (show ¬ (97 : Int) ≤ (c.toNat : Int) from h2), Bool.false_and]] at hflag
    exact Ev.iteF h2 hflag
theorem specAtoms0_yes {s : List UInt8} {e : Ex} (h : Parses s e) (hs : s.length ≤ 60) : Ev (fun k => spec_atoms.f k (BA s)) (e.at_ []) := by
 unfold spec_atoms.f
 rw [← h.lex]
 exact sAtoms_loop s (by omega) s 0 [] [] rfl (Nat.zero_le _) (Nat.zero_le _) (Nat.zero_le _)
theorem and_one (n : Nat) (hn : n < 4611686018427387904) : Go.bits .and .i64 (n : Int) 1 = ((n % 2 : Nat) : Int) := by
 have hk : IntKind.i64.bits = 64 := rfl
 have ha' : n % 2 ^ 64 = n := Nat.mod_eq_of_lt (by omega)
 have h1 : (1 : Int) = ((1 : Nat) : Int) := rfl
 rw [h1]
 simp only [Go.bits, hk, BitVec.ofInt_natCast, BitVec.toNat_and, BitVec.toNat_ofNat, ha']
 rw [IntKind.wrap_i64, show (1 : Nat) % 2 ^ 64 = 1 from rfl, Nat.and_one_is_mod]
 omega
theorem shr_nat (s i : Nat) (hi : i ≤ 60) : shr .i64 (s : Int) (i : Int) = ((s / 2 ^ i : Nat) : Int) := by
 unfold shr
 have hk : IntKind.i64.bits = 64 := rfl
 rw [Int.toNat_natCast, hk, Nat.min_eq_left (by omega)]
 simp
theorem two_pow_le {n : Nat} (h : n ≤ 6) : 1 ≤ 2 ^ n ∧ 2 ^ n ≤ 64 := by
 have h1 : n = 0 ∨ n = 1 ∨ n = 2 ∨ n = 3 ∨ n = 4 ∨ n = 5 ∨ n = 6 := by omega
 rcases h1 with rfl | rfl | rfl | rfl | rfl | rfl | rfl <;> decide
theorem shl_nat (n : Nat) (hn : n ≤ 6) : shl .i64 1 (n : Int) = ((2 ^ n : Nat) : Int) := by
 unfold shl
 have hk : IntKind.i64.bits = 64 := rfl
 have hp := two_pow_le hn
 have e : (1 : Int) * 2 ^ n = ((2 ^ n : Nat) : Int) := by simp
 rw [Int.toNat_natCast, hk, Nat.min_eq_left (by omega), e, IntKind.wrap_i64]
 omega
/-- The marks that a number chooses. -/
def selB : List ByteArray → Nat → List ByteArray
 | [], _ => []
 | x :: t, n => if n % 2 = 1 then x :: selB t (n / 2) else selB t (n / 2)
def allN (f : Nat → Bool) : Nat → Nat → Bool
 | _, 0 => true
 | s, d + 1 => f s && allN f (s + 1) d
def okAt (ea eb : Ex) (marks : List ByteArray) (m : ByteArray) (s : Nat) : Bool := ea.ev m (selB marks s) == eb.ev m (selB marks s)
theorem same_l3 (ea eb : Ex) (hea : ea.WF) (heb : eb.WF) (marks mods : List ByteArray) (m : ByteArray) (ml mi cap : Int) (s : Nat) (hs : s ≤ 64) (hm : marks.length ≤ 6) (r : Bool) : ∀ (t : List ByteArray) (i : Nat) (acc : List ByteArray), marks.drop i = t → i ≤ marks.length → acc.length ≤ i →
  ((ea.ev m (acc ++ selB t (s / 2 ^ i)) == eb.ev m (acc ++ selB t (s / 2 ^ i))) = false → r = false) →
  ((ea.ev m (acc ++ selB t (s / 2 ^ i)) == eb.ev m (acc ++ selB t (s / 2 ^ i))) = true → Ev (fun k => impl_SameExpr.l2 k marks m mods ml mi cap ((s + 1 : Nat) : Int) (encE ea).f0 (encE ea).f1 (encE eb).f0 (encE eb).f1) r) →
  Ev (fun k => impl_SameExpr.l3 k marks m (s : Int) acc mods ml mi cap (s : Int) marks (marks.length : Int) (i : Int) (encE ea).f0 (encE ea).f1 (encE eb).f0 (encE eb).f1) r := by
 intro t
 induction t with
 | nil =>
  intro i acc h hi hac h0 h1
  have hl := drop_nil h
  have e : acc ++ selB [] (s / 2 ^ i) = acc := List.append_nil _
  rw [e] at h0 h1
  refine Ev.step (fun k => by rw [impl_SameExpr.l3]) ?_
  refine Ev.iteF (by omega) (Ev.bind (holds_ev m acc (by omega) ea hea) (Ev.bind (holds_ev m acc (by omega) eb heb) ?_))
  cases hc : (ea.ev m acc == eb.ev m acc) with
  | false =>
   rw [h0 hc]
   exact Ev.iteT (by rw [bne, hc]; rfl) (Ev.some_ rfl)
  | true =>
   refine Ev.iteF (by rw [bne, hc]; decide) ?_
   rw [wrapN (by omega)]
   exact h1 hc
 | cons b t ih =>
  intro i acc h hi hac h0 h1
  obtain ⟨hl, hb, ht⟩ := drop_cons h
  have hdiv : s / 2 ^ (i + 1) = s / 2 ^ i / 2 := by rw [Nat.pow_succ, Nat.div_div_eq_div_mul]
  have hsm : s / 2 ^ i ≤ s := Nat.div_le_self _ _
  refine Ev.step (fun k => by rw [impl_SameExpr.l3]) ?_
  refine Ev.iteT (by omega) (Ev.iteT (by omega) (Ev.iteT (by omega) ?_))
  rw [rdOf_nat _ _ _ hl, hb, shr_nat s i (by omega), and_one _ (by omega), wrapN (by omega)]
  by_cases hc : s / 2 ^ i % 2 = 1
  ·have e : acc ++ selB (b :: t) (s / 2 ^ i) = (acc ++ [b]) ++ selB t (s / 2 ^ (i + 1)) := by
    rw [hdiv, show selB (b :: t) (s / 2 ^ i) = b :: selB t (s / 2 ^ i / 2) from if_pos hc, List.append_assoc]
    rfl
   rw [e] at h0 h1
   exact Ev.iteT (by omega) (Ev.iteT (by omega) (ih (i + 1) (acc ++ [b]) ht (by omega) (by rw [List.length_append, List.length_singleton]; omega) h0 h1))
  ·have e : acc ++ selB (b :: t) (s / 2 ^ i) = acc ++ selB t (s / 2 ^ (i + 1)) := by
    rw [hdiv, show selB (b :: t) (s / 2 ^ i) = selB t (s / 2 ^ i / 2) from if_neg hc]
   rw [e] at h0 h1
   exact Ev.iteF (by omega) (ih (i + 1) acc ht (by omega) (by omega) h0 h1)
theorem same_l2 (ea eb : Ex) (hea : ea.WF) (heb : eb.WF) (marks mods : List ByteArray) (m : ByteArray) (ml : Int) (mi : Nat) (hmi : mi ≤ 100) (hm : marks.length ≤ 6) (r : Bool) (hr : Ev (fun k => impl_SameExpr.l1 k marks mods ml ((mi + 1 : Nat) : Int) (encE ea).f0 (encE ea).f1 (encE eb).f0 (encE eb).f1) r) : ∀ (d s : Nat), s + d = 2 ^ marks.length →
  Ev (fun k => impl_SameExpr.l2 k marks m mods ml (mi : Int) ((2 ^ marks.length : Nat) : Int) (s : Int) (encE ea).f0 (encE ea).f1 (encE eb).f0 (encE eb).f1) (allN (okAt ea eb marks m) s d && r)
 | 0, s, h => by
  refine Ev.step (fun k => by rw [impl_SameExpr.l2]) ?_
  refine Ev.iteF (by omega) ?_
  rw [wrapN (by omega)]
  exact hr
 | d + 1, s, h => by
  have hp := two_pow_le hm
  have ih := same_l2 ea eb hea heb marks mods m ml mi hmi hm r hr d (s + 1) (by omega)
  refine Ev.step (fun k => by rw [impl_SameExpr.l2]) ?_
  refine Ev.iteT (by omega) ?_
  have e0 : s / 2 ^ 0 = s := by simp
  have hd : okAt ea eb marks m s = (ea.ev m (selB marks s) == eb.ev m (selB marks s)) := rfl
  refine same_l3 ea eb hea heb marks mods m ml mi _ s (by omega) hm _ marks 0 [] rfl (Nat.zero_le _) (by simp) ?_ ?_
  ·rw [e0, List.nil_append]
   intro hc
   show (okAt ea eb marks m s && allN (okAt ea eb marks m) (s + 1) d && r) = false
   rw [hd, hc, Bool.false_and, Bool.false_and]
  ·rw [e0, List.nil_append]
   intro hc
   show Ev _ (okAt ea eb marks m s && allN (okAt ea eb marks m) (s + 1) d && r)
   rw [hd, hc, Bool.true_and]
   exact ih
theorem same_l1 (ea eb : Ex) (hea : ea.WF) (heb : eb.WF) (marks mods : List ByteArray) (hm : marks.length ≤ 6) (hz : mods.length ≤ 100) : ∀ (t : List ByteArray) (i : Nat), mods.drop i = t → i ≤ mods.length →
  Ev (fun k => impl_SameExpr.l1 k marks mods (mods.length : Int) (i : Int) (encE ea).f0 (encE ea).f1 (encE eb).f0 (encE eb).f1) (t.all fun m => allN (okAt ea eb marks m) 0 (2 ^ marks.length)) := by
 intro t
 induction t with
 | nil =>
  intro i h hi
  have hl := drop_nil h
  refine Ev.step (fun k => by rw [impl_SameExpr.l1]) ?_
  exact Ev.iteF (by omega) (Ev.some_ rfl)
 | cons b t ih =>
  intro i h hi
  obtain ⟨hl, hb, ht⟩ := drop_cons h
  refine Ev.step (fun k => by rw [impl_SameExpr.l1]) ?_
  refine Ev.iteT (by omega) (Ev.iteT (by omega) (Ev.iteT (by omega) ?_))
  rw [rdOf_nat _ _ _ hl, hb, shl_nat _ hm, List.all_cons]
  exact same_l2 ea eb hea heb marks mods b _ i (by omega) hm _ (ih (i + 1) ht (by omega)) _ 0 (by omega)
/-- A word's bytes begin with @. -/
def isMod (x : ByteArray) : Bool := x.data.toList.head? == some 64
def modsOf (l : List ByteArray) : List ByteArray := (l.filter isMod).map fun x => x.extract 1 x.size
def marksOf (l : List ByteArray) : List ByteArray := l.filter fun x => !(isMod x)
theorem modsOf_cons_t {x : ByteArray} {t : List ByteArray} (h : isMod x = true) : modsOf (x :: t) = x.extract 1 x.size :: modsOf t := by simp [modsOf, h]
theorem modsOf_cons_f {x : ByteArray} {t : List ByteArray} (h : isMod x = false) : modsOf (x :: t) = modsOf t := by simp [modsOf, h]
theorem marksOf_cons_t {x : ByteArray} {t : List ByteArray} (h : isMod x = true) : marksOf (x :: t) = marksOf t := by simp [marksOf, h]
theorem marksOf_cons_f {x : ByteArray} {t : List ByteArray} (h : isMod x = false) : marksOf (x :: t) = x :: marksOf t := by simp [marksOf, h]
theorem marksOf_length (l : List ByteArray) : (marksOf l).length ≤ l.length := List.length_filter_le ..
theorem modsOf_length (l : List ByteArray) : (modsOf l).length ≤ l.length := by
 unfold modsOf
 rw [List.length_map]
 exact List.length_filter_le ..
/-- A list of words. -/
def Words (l : List ByteArray) : Prop := ∀ x ∈ l, ∃ w, x = BA w ∧ wordOk w
theorem addM_words {l : List ByteArray} {w : List UInt8} (h : Words l) (hw : wordOk w) : Words (addM l (BA w)) := by
 unfold addM
 split
 ·exact h
 ·intro x hx
  rcases List.mem_append.1 hx with hx | hx
  ·exact h x hx
  ·exact ⟨w, List.mem_singleton.1 hx, hw⟩
theorem at_words : ∀ (e : Ex) (l : List ByteArray), e.WF → Words l → Words (e.at_ l)
 | .leaf w, l, h, hl => addM_words hl h
 | .not a, l, h, hl => at_words a l h hl
 | .and a b, l, h, hl => at_words b _ h.2 (at_words a l h.1 hl)
 | .or a b, l, h, hl => at_words b _ h.2 (at_words a l h.1 hl)
theorem same_l0 (ea eb : Ex) (A : List ByteArray) (hA : Words A) (hz : A.length ≤ 6) (r : Bool) : ∀ (t : List ByteArray) (i : Nat) (x10 x11 : List ByteArray), A.drop i = t → i ≤ A.length → x10.length ≤ i + 1 → x11.length ≤ i →
  Ev (fun k => impl_SameExpr.l1 k (x11 ++ marksOf t) (x10 ++ modsOf t) ((x10 ++ modsOf t).length : Int) 0 (encE ea).f0 (encE ea).f1 (encE eb).f0 (encE eb).f1) r →
  Ev (fun k => impl_SameExpr.l0 k x10 x11 A (A.length : Int) (i : Int) (encE ea).f0 (encE ea).f1 (encE eb).f0 (encE eb).f1) r := by
 intro t
 induction t with
 | nil =>
  intro i x10 x11 h hi h10 h11 hr
  have hl := drop_nil h
  have e1 : x11 ++ marksOf [] = x11 := List.append_nil _
  have e2 : x10 ++ modsOf [] = x10 := List.append_nil _
  rw [e1, e2] at hr
  refine Ev.step (fun k => by rw [impl_SameExpr.l0]) ?_
  exact Ev.iteF (by omega) hr
 | cons b t ih =>
  intro i x10 x11 h hi h10 h11 hr
  obtain ⟨hl, hb, ht⟩ := drop_cons h
  obtain ⟨w, hw, hok⟩ := hA b (hb ▸ List.getElem_mem hl)
  have hwp := word_parts hok
  have hsz : b.size = w.length := by rw [hw]; rfl
  refine Ev.step (fun k => by rw [impl_SameExpr.l0]) ?_
  refine Ev.iteT (by omega) (Ev.iteT (by omega) (Ev.iteT (by omega) ?_))
  rw [rdOf_nat _ _ _ hl, hb, wrapN (by omega)]
  refine Ev.iteT (by omega) ?_
  cases w with
  | nil => exact absurd hwp.1 (by simp)
  | cons c v =>
   have hbt : bt b 0 = (c.toNat : Int) := by rw [hw]; exact bt_BA (s := c :: v) (i := 0) (by simp) rfl
   rw [hbt]
   by_cases hc : c = 64
   ·have hm : isMod b = true := by rw [hw, hc]; rfl
    rw [modsOf_cons_t hm, marksOf_cons_t hm] at hr
    rw [hc]
    refine Ev.iteT rfl (Ev.iteT (by omega) (Ev.iteT (by omega) (ih (i + 1) _ _ ht (by omega) (by rw [List.length_append, List.length_singleton]; omega) (by omega) ?_)))
    rw [List.append_assoc]
    exact hr
   ·have hm : isMod b = false := by
     rw [hw]
     show ((c :: v).head? == some (64 : UInt8)) = false
     rw [List.head?_cons, beq_eq_false_iff_ne]
     exact fun e => hc (Option.some.inj e)
    rw [modsOf_cons_f hm, marksOf_cons_f hm] at hr
    refine Ev.iteF (fun e => hc (UInt8.toNat_inj.1 (by have : ((64 : UInt8).toNat : Int) = 64 := rfl; omega))) (Ev.iteT (by omega) (ih (i + 1) _ _ ht (by omega) (by omega) (by rw [List.length_append, List.length_singleton]; omega) ?_))
    rw [List.append_assoc]
    exact hr
/-- Do two trees say the same, whatever the module, and the marks? (As far as the program looks.) -/
def sameV (ea eb : Ex) : Bool := decide ((eb.at_ (ea.at_ [])).length ≤ 6) && ((BA [] :: modsOf (eb.at_ (ea.at_ []))).all fun m => allN (okAt ea eb (marksOf (eb.at_ (ea.at_ []))) m) 0 (2 ^ (marksOf (eb.at_ (ea.at_ []))).length))
theorem implSame_yes {a b : List UInt8} {ea eb : Ex} (ha : Parses a ea) (hb : Parses b eb) (hsa : a.length ≤ 60) (hsb : b.length ≤ 60) : Ev (fun k => impl_SameExpr.f k (BA a) (BA b)) (sameV ea eb) := by
 have h1 := ha.cnt
 have h2 := hb.cnt
 have h3 := at_length ea []
 have hn0 : ([] : List ByteArray).length = 0 := rfl
 unfold impl_SameExpr.f
 refine Ev.bind (readExpr_yes ha hsa) (Ev.bind (readExpr_yes hb hsb) (Ev.iteT rfl ?_))
 refine Ev.step (fun k => by rw [impl_SameExpr.j0]) ?_
 refine Ev.iteF (by simp) (Ev.bind (atoms_ev ea [] (by omega)) (Ev.bind (atoms_ev eb _ (by omega)) ?_))
 unfold sameV
 by_cases hc : (eb.at_ (ea.at_ [])).length ≤ 6
 ·rw [decide_eq_true hc, Bool.true_and]
  have hm := marksOf_length (eb.at_ (ea.at_ []))
  have hd := modsOf_length (eb.at_ (ea.at_ []))
  refine Ev.iteF (by omega) (same_l0 ea eb _ (at_words eb _ hb.wf (at_words ea _ ha.wf (fun x hx => by cases hx))) hc _ _ 0 _ _ rfl (Nat.zero_le _) (by simp) (by simp) ?_)
  rw [List.nil_append]
  exact same_l1 ea eb ha.wf hb.wf (marksOf (eb.at_ (ea.at_ []))) (BA [] :: modsOf (eb.at_ (ea.at_ []))) (by omega) (by rw [List.length_cons]; omega) _ 0 rfl (Nat.zero_le _)
 ·rw [decide_eq_false hc, Bool.false_and]
  exact Ev.iteT (by omega) (Ev.some_ rfl)
theorem implSame_no {a b : List UInt8} (h : ¬ (ExprOk a ∧ ExprOk b)) : Ev (fun k => impl_SameExpr.f k (BA a) (BA b)) false := by
 have hb : ∃ y, Ev (fun k => impl_readExpr.f k (BA b)) y ∧ (y.2.2 = true → ExprOk b) := by
  by_cases h2 : ExprOk b
  ·obtain ⟨h3, e, h4⟩ := h2
   exact ⟨_, readExpr_yes h4 h3, fun _ => ⟨h3, e, h4⟩⟩
  ·obtain ⟨x, y, hr⟩ := readExpr_no h2
   exact ⟨_, hr, fun e => by cases e⟩
 obtain ⟨y, hy, hyb⟩ := hb
 unfold impl_SameExpr.f
 by_cases h1 : ExprOk a
 ·obtain ⟨h3, e, h4⟩ := h1
  refine Ev.bind (readExpr_yes h4 h3) (Ev.bind hy (Ev.iteT rfl ?_))
  refine Ev.step (fun k => by rw [impl_SameExpr.j0]) ?_
  refine Ev.iteT ?_ (Ev.some_ rfl)
  cases hc : y.2.2 with
  | false => rfl
  | true => exact absurd ⟨⟨h3, e, h4⟩, hyb hc⟩ h
 ·obtain ⟨x, z, hr⟩ := readExpr_no h1
  refine Ev.bind hr (Ev.bind hy (Ev.iteF (by simp) ?_))
  refine Ev.step (fun k => by rw [impl_SameExpr.j0]) ?_
  exact Ev.iteT rfl (Ev.some_ rfl)
def mkW (m : ByteArray) : S28 := ⟨m, (⟨#[]⟩ : ByteArray), ([] : List ByteArray), ([] : List ByteArray)⟩
def addK (x : ByteArray) (q : S28) : S28 := ⟨q.f0, (⟨#[]⟩ : ByteArray), q.f2 ++ [x], ([] : List ByteArray)⟩
def wK : List S28 → List ByteArray → List S28
 | out, [] => out
 | out, x :: t => wK (out ++ out.map (addK x)) t
theorem wK_length : ∀ (M : List ByteArray) (out : List S28), (wK out M).length = out.length * 2 ^ M.length
 | [], out => by simp [wK]
 | x :: t, out => by
  unfold wK
  rw [wK_length t, List.length_append, List.length_map, List.length_cons, Nat.pow_succ, Nat.add_mul, Nat.mul_comm (2 ^ t.length) 2, Nat.mul_left_comm]
  omega
theorem wK_marks (n : Nat) : ∀ (M : List ByteArray) (out : List S28), (∀ q ∈ out, q.f2.length + M.length ≤ n) → ∀ q ∈ wK out M, q.f2.length ≤ n
 | [], out, h => fun q hq => by have := h q hq; simpa using this
 | x :: t, out, h => by
  unfold wK
  refine wK_marks n t _ (fun q hq => ?_)
  rcases List.mem_append.1 hq with hq | hq
  ·have := h q hq
   rw [List.length_cons] at this
   omega
  ·obtain ⟨p, hp, rfl⟩ := List.mem_map.1 hq
   have := h p hp
   rw [List.length_cons] at this
   show (p.f2 ++ [x]).length + t.length ≤ n
   rw [List.length_append, List.length_singleton]
   omega
theorem word_at {b : ByteArray} (h : ∃ w, b = BA w ∧ wordOk w) : ∃ c : UInt8, 1 ≤ b.size ∧ bt b 0 = (c.toNat : Int) ∧ isMod b = decide (c = 64) := by
 obtain ⟨w, rfl, hok⟩ := h
 have hwp := word_parts hok
 cases w with
 | nil => exact absurd hwp.1 (by simp)
 | cons c v =>
  refine ⟨c, by rw [BA_size, List.length_cons]; omega, bt_BA (s := c :: v) (i := 0) (by simp) rfl, ?_⟩
  show ((c :: v).head? == some (64 : UInt8)) = decide (c = 64)
  rw [List.head?_cons, Bool.eq_iff_iff, beq_iff_eq, decide_eq_true_iff]
  exact ⟨fun e => Option.some.inj e, fun e => by rw [e]⟩
theorem at_64 {c : UInt8} (h : ¬ c = 64) : ¬ (c.toNat : Int) = 64 := fun e => h (UInt8.toNat_inj.1 (by have : ((64 : UInt8).toNat : Int) = 64 := rfl; omega))
theorem worlds_l2 (A : List ByteArray) (hz : A.length ≤ 6) (i : Nat) (hi : i < A.length) (O : List S28) (hO : O.length ≤ 1000) (hf : ∀ q ∈ O, q.f2.length ≤ 6) (r : List S28) (hr : Ev (fun k => spec_worlds.l1 k A (O ++ O.map (addK A[i])) ((i + 1 : Nat) : Int)) r) : ∀ (d j : Nat), j + d = O.length →
  Ev (fun k => spec_worlds.l2 k A (O ++ (O.take j).map (addK A[i])) (i : Int) (O.length : Int) (j : Int)) r
 | 0, j, h => by
  refine Ev.step (fun k => by rw [spec_worlds.l2]) ?_
  rw [List.take_of_length_le (by omega), wrapN (i := i) (by omega)]
  exact Ev.iteF (by omega) hr
 | d + 1, j, h => by
  have ih := worlds_l2 A hz i hi O hO hf r hr d (j + 1) (by omega)
  have hj : j < O.length := by omega
  have hl : j < (O ++ (O.take j).map (addK A[i])).length := by rw [List.length_append]; omega
  have hm := hf _ (List.getElem_mem hj)
  have hlen : (O ++ (O.take j).map (addK A[i])).length = O.length + j := by rw [List.length_append, List.length_map, List.length_take]; omega
  have e0 : rd_T28 (O ++ (O.take j).map (addK A[i])) (j : Int) = O[j] := by rw [rdT_nat _ _ hl, List.getElem_append_left hj]
  have e1 : O ++ (O.take (j + 1)).map (addK A[i]) = (O ++ (O.take j).map (addK A[i])) ++ [addK A[i] O[j]] := by
   rw [List.take_succ_eq_append_getElem hj, List.map_append, List.append_assoc]
   rfl
  rw [e1] at ih
  refine Ev.step (fun k => by rw [spec_worlds.l2]) ?_
  rw [e0, rdOf_nat _ _ _ hi, wrapN (i := j) (by omega)]
  refine Ev.iteT (by omega) (Ev.iteT (by omega) (Ev.iteT (by omega) (Ev.bind0 rfl (Ev.iteT ?_ (Ev.bind0 rfl (Ev.iteT (by omega) (Ev.iteT (by omega) (Ev.bind0 rfl (Ev.iteT ?_ (Ev.bind0 rfl (Ev.iteT ?_ ih)))))))))))
  ·show (0 : Nat) + _ < _; omega
  ·show ([] ++ O[j].f2).length + 1 < _; rw [List.nil_append]; omega
  ·show _ + 1 < _; omega
theorem worlds_l1 (A : List ByteArray) (hA : Words A) (hz : A.length ≤ 6) : ∀ (t : List ByteArray) (i : Nat) (O : List S28), A.drop i = t → i ≤ A.length → O.length * 2 ^ t.length ≤ 1000 → (∀ q ∈ O, q.f2.length ≤ i) →
  Ev (fun k => spec_worlds.l1 k A O (i : Int)) (wK O (marksOf t)) := by
 intro t
 induction t with
 | nil =>
  intro i O h hi hO hf
  have hl := drop_nil h
  refine Ev.step (fun k => by rw [spec_worlds.l1]) ?_
  exact Ev.iteF (by omega) (Ev.some_ rfl)
 | cons b t ih =>
  intro i O h hi hO hf
  obtain ⟨hl, hb, ht⟩ := drop_cons h
  obtain ⟨c, hs, hbt, hm⟩ := word_at (hA b (hb ▸ List.getElem_mem hl))
  rw [List.length_cons, Nat.pow_succ] at hO
  have hp : 0 < 2 ^ t.length := Nat.two_pow_pos _
  have h1 : O.length * 2 ^ t.length ≤ 1000 := by
   have : O.length * (2 ^ t.length * 2) = (O.length * 2 ^ t.length) * 2 := (Nat.mul_assoc ..).symm
   omega
  have h2 : O.length ≤ 1000 := Nat.le_trans (Nat.le_mul_of_pos_right _ hp) h1
  refine Ev.step (fun k => by rw [spec_worlds.l1]) ?_
  rw [rdOf_nat _ _ _ hl, hb, hbt, wrapN (by omega)]
  refine Ev.iteT (by omega) (Ev.iteT (by omega) (Ev.iteT (by omega) ?_))
  by_cases hc : c = 64
  ·rw [marksOf_cons_t (by rw [hm, decide_eq_true hc])]
   exact Ev.iteT (by rw [hc]; rfl) (ih (i + 1) O ht (by omega) h1 (fun q hq => by have := hf q hq; omega))
  ·rw [marksOf_cons_f (by rw [hm, decide_eq_false hc])]
   refine Ev.iteF (at_64 hc) ?_
   have hn : (O ++ O.map (addK b)).length * 2 ^ t.length ≤ 1000 := by
    rw [List.length_append, List.length_map, Nat.add_mul]
    have : O.length * (2 ^ t.length * 2) = (O.length * 2 ^ t.length) * 2 := (Nat.mul_assoc ..).symm
    omega
   have hnext := ih (i + 1) (O ++ O.map (addK b)) ht (by omega) hn (fun q hq => by
    rcases List.mem_append.1 hq with hq | hq
    ·have := hf q hq; omega
    ·obtain ⟨p, hp2, rfl⟩ := List.mem_map.1 hq
     have := hf p hp2
     show (p.f2 ++ [b]).length ≤ _
     rw [List.length_append, List.length_singleton]
     omega)
   have h3 := worlds_l2 A hz i hl O h2 (fun q hq => by have := hf q hq; omega) _ (by rw [hb]; exact hnext) O.length 0 (by omega)
   rw [List.take_zero, List.map_nil, List.append_nil] at h3
   exact h3
theorem worlds_l0 (A : List ByteArray) (hA : Words A) (hz : A.length ≤ 6) (r : List S28) : ∀ (t : List ByteArray) (i : Nat) (O : List S28), A.drop i = t → i ≤ A.length → O.length ≤ i + 1 →
  Ev (fun k => spec_worlds.l1 k A (O ++ (modsOf t).map mkW) 0) r → Ev (fun k => spec_worlds.l0 k A O (i : Int)) r := by
 intro t
 induction t with
 | nil =>
  intro i O h hi hO hr
  have hl := drop_nil h
  rw [show O ++ (modsOf []).map mkW = O from List.append_nil _] at hr
  refine Ev.step (fun k => by rw [spec_worlds.l0]) ?_
  exact Ev.iteF (by omega) hr
 | cons b t ih =>
  intro i O h hi hO hr
  obtain ⟨hl, hb, ht⟩ := drop_cons h
  obtain ⟨c, hs, hbt, hm⟩ := word_at (hA b (hb ▸ List.getElem_mem hl))
  refine Ev.step (fun k => by rw [spec_worlds.l0]) ?_
  rw [rdOf_nat _ _ _ hl, hb, hbt, wrapN (by omega)]
  refine Ev.iteT (by omega) (Ev.iteT (by omega) (Ev.iteT (by omega) ?_))
  by_cases hc : c = 64
  ·rw [modsOf_cons_t (by rw [hm, decide_eq_true hc]), List.map_cons] at hr
   refine Ev.iteT (by rw [hc]; rfl) (Ev.iteT (by omega) (Ev.bind0 rfl (Ev.iteT (by show O.length + 1 < _; omega) (ih (i + 1) (O ++ [mkW (b.extract 1 b.size)]) ht (by omega) (by rw [List.length_append, List.length_singleton]; omega) ?_))))
   rw [List.append_assoc]
   exact hr
  ·rw [modsOf_cons_f (by rw [hm, decide_eq_false hc])] at hr
   exact Ev.iteF (at_64 hc) (ih (i + 1) O ht (by omega) (by omega) hr)
def worldsV (A : List ByteArray) : List S28 := wK ((BA [] :: modsOf A).map mkW) (marksOf A)
theorem pow_small {n : Nat} (h : n ≤ 6) : 2 ^ n ≤ 64 := (two_pow_le h).2
theorem worlds_ev (A : List ByteArray) (hA : Words A) (hz : A.length ≤ 6) : Ev (fun k => spec_worlds.f k A) (worldsV A) := by
 have hm := modsOf_length A
 have hp := pow_small hz
 unfold spec_worlds.f worldsV
 refine worlds_l0 A hA hz _ A 0 [mkW (BA [])] rfl (Nat.zero_le _) (by simp) ?_
 refine worlds_l1 A hA hz A 0 _ rfl (Nat.zero_le _) ?_ ?_
 ·rw [List.length_append, List.length_singleton, List.length_map]
  have : (1 + (modsOf A).length) * 2 ^ A.length ≤ 7 * 64 := Nat.mul_le_mul (by omega) hp
  omega
 ·intro q hq
  have : q.f2 = [] := by
   rcases List.mem_append.1 hq with hq | hq
   ·rw [List.mem_singleton.1 hq]; rfl
   ·obtain ⟨p, _, rfl⟩ := List.mem_map.1 hq; rfl
  rw [this]
  exact Nat.le_refl _
theorem worldsV_length (A : List ByteArray) (hz : A.length ≤ 6) : (worldsV A).length ≤ 448 := by
 have hm := modsOf_length A
 have hk := marksOf_length A
 have hp := pow_small (n := (marksOf A).length) (by omega)
 unfold worldsV
 rw [wK_length, List.length_map, List.length_cons]
 have : ((modsOf A).length + 1) * 2 ^ (marksOf A).length ≤ 7 * 64 := Nat.mul_le_mul (by omega) hp
 omega
theorem worldsV_marks (A : List ByteArray) (hz : A.length ≤ 6) : ∀ q ∈ worldsV A, q.f2.length ≤ 6 := by
 have hk := marksOf_length A
 refine wK_marks 6 _ _ (fun q hq => ?_)
 obtain ⟨p, _, rfl⟩ := List.mem_map.1 hq
 show 0 + _ ≤ 6
 omega
def Sel : List ByteArray → (List ByteArray → Prop) → Prop
 | [], P => P []
 | x :: t, P => Sel t P ∧ Sel t (fun l => P (x :: l))
theorem sel_nums : ∀ (t : List ByteArray) (P : List ByteArray → Prop), Sel t P ↔ ∀ s, s < 2 ^ t.length → P (selB t s)
 | [], P => ⟨fun h s _ => h, fun h => h 0 (by simp)⟩
 | x :: t, P => by
  have e : 2 ^ (x :: t).length = 2 ^ t.length * 2 := by rw [List.length_cons, Nat.pow_succ]
  unfold Sel
  rw [sel_nums t P, sel_nums t (fun l => P (x :: l)), e]
  constructor
  ·intro h s hs
   unfold selB
   split
   ·exact h.2 (s / 2) (by omega)
   ·exact h.1 (s / 2) (by omega)
  ·intro h
   refine ⟨fun s hs => ?_, fun s hs => ?_⟩
   ·have := h (2 * s) (by omega)
    unfold selB at this
    rw [if_neg (by omega), Nat.mul_div_cancel_left _ (by omega)] at this
    exact this
   ·have := h (2 * s + 1) (by omega)
    unfold selB at this
    rw [if_pos (by omega), show (2 * s + 1) / 2 = s by omega] at this
    exact this
theorem allN_iff {f : Nat → Bool} : ∀ (d s : Nat), allN f s d = true ↔ ∀ i, s ≤ i → i < s + d → f i = true
 | 0, s => ⟨fun _ i h1 h2 => absurd h2 (by omega), fun _ => rfl⟩
 | d + 1, s => by
  unfold allN
  rw [Bool.and_eq_true, allN_iff d (s + 1)]
  constructor
  ·intro h i h1 h2
   rcases Nat.eq_or_lt_of_le h1 with rfl | h3
   ·exact h.1
   ·exact h.2 i (by omega) (by omega)
  ·exact fun h => ⟨h s (Nat.le_refl _) (by omega), fun i h1 h2 => h i (by omega) (by omega)⟩
theorem wK_all (g : ByteArray → List ByteArray → Prop) : ∀ (M : List ByteArray) (out : List S28), (∀ q ∈ wK out M, g q.f0 q.f2) ↔ ∀ q ∈ out, Sel M (fun l => g q.f0 (q.f2 ++ l))
 | [], out => by
  unfold wK Sel
  simp only [List.append_nil]
 | x :: t, out => by
  unfold wK Sel
  rw [wK_all g t]
  constructor
  ·intro h q hq
   refine ⟨h q (List.mem_append_left _ hq), ?_⟩
   have := h (addK x q) (List.mem_append_right _ (List.mem_map.2 ⟨q, hq, rfl⟩))
   have e : (fun l => g (addK x q).f0 ((addK x q).f2 ++ l)) = fun l => g q.f0 (q.f2 ++ x :: l) := by
    funext l
    show g q.f0 ((q.f2 ++ [x]) ++ l) = _
    rw [List.append_assoc]
    rfl
   rw [e] at this
   exact this
  ·intro h q hq
   rcases List.mem_append.1 hq with hq | hq
   ·exact (h q hq).1
   ·obtain ⟨p, hp, rfl⟩ := List.mem_map.1 hq
    have e : (fun l => g (addK x p).f0 ((addK x p).f2 ++ l)) = fun l => g p.f0 (p.f2 ++ x :: l) := by
     funext l
     show g p.f0 ((p.f2 ++ [x]) ++ l) = _
     rw [List.append_assoc]
     rfl
    rw [e]
    exact (h p hp).2
def agree (ea eb : Ex) (q : S28) : Bool := ea.ev q.f0 q.f2 == eb.ev q.f0 q.f2
theorem worlds_same (ea eb : Ex) (A : List ByteArray) : (worldsV A).all (agree ea eb) = (BA [] :: modsOf A).all fun m => allN (okAt ea eb (marksOf A) m) 0 (2 ^ (marksOf A).length) := by
 rw [Bool.eq_iff_iff, List.all_eq_true, List.all_eq_true]
 have h1 := wK_all (fun m l => (ea.ev m l == eb.ev m l) = true) (marksOf A) ((BA [] :: modsOf A).map mkW)
 refine h1.trans ?_
 constructor
 ·intro h m hm
  rw [allN_iff]
  intro s _ hs
  have := (sel_nums _ _).1 (h (mkW m) (List.mem_map.2 ⟨m, hm, rfl⟩)) s (by omega)
  exact this
 ·intro h q hq
  obtain ⟨m, hm, rfl⟩ := List.mem_map.1 hq
  rw [sel_nums]
  intro s hs
  exact (allN_iff _ _).1 (h m hm) s (Nat.zero_le _) (by omega)
theorem addM_old {l : List ByteArray} {x : ByteArray} (h : x ∈ l) : addM l x = l := if_pos (memB_iff.2 h)
def addAll : List ByteArray → List ByteArray → List ByteArray
 | l, [] => l
 | l, x :: t => addAll (addM l x) t
theorem addAll_append : ∀ (a l b : List ByteArray), addAll l (a ++ b) = addAll (addAll l a) b
 | [], l, b => rfl
 | x :: a, l, b => addAll_append a (addM l x) b
theorem addAll_mem : ∀ (a l : List ByteArray) (x : ByteArray), x ∈ addAll l a ↔ x ∈ l ∨ x ∈ a
 | [], l, x => by simp [addAll]
 | y :: a, l, x => by
  unfold addAll
  rw [addAll_mem a, addM_mem, List.mem_cons, or_assoc]
theorem addAll_at : ∀ (e : Ex) (l acc : List ByteArray), addAll l (e.at_ acc) = e.at_ (addAll l acc)
 | .leaf w, l, acc => by
  show addAll l (addM acc (BA w)) = addM (addAll l acc) (BA w)
  by_cases h : BA w ∈ acc
  ·rw [addM_old h, addM_old ((addAll_mem acc l _).2 (.inr h))]
  ·rw [show addM acc (BA w) = acc ++ [BA w] from if_neg (fun z => h (memB_iff.1 z)), addAll_append]
   rfl
 | .not a, l, acc => addAll_at a l acc
 | .and a b, l, acc => by
  show addAll l (b.at_ (a.at_ acc)) = b.at_ (a.at_ (addAll l acc))
  rw [addAll_at b, addAll_at a]
 | .or a b, l, acc => by
  show addAll l (b.at_ (a.at_ acc)) = b.at_ (a.at_ (addAll l acc))
  rw [addAll_at b, addAll_at a]
theorem sSame_l1 {a b : List UInt8} {ea eb : Ex} (ha : Parses a ea) (hb : Parses b eb) (hsa : a.length ≤ 60) (hsb : b.length ≤ 60) (L : List S28) (hL : L.length ≤ 1000) (hf : ∀ q ∈ L, q.f2.length ≤ 6) : ∀ (t : List S28) (i : Nat), L.drop i = t → i ≤ L.length →
  Ev (fun k => spec_SameExpr.l1 k (BA a) (BA b) L (i : Int)) (t.all (agree ea eb)) := by
 intro t
 induction t with
 | nil =>
  intro i h hi
  have hl := drop_nil h
  refine Ev.step (fun k => by rw [spec_SameExpr.l1]) ?_
  exact Ev.iteF (by omega) (Ev.some_ rfl)
 | cons q t ih =>
  intro i h hi
  obtain ⟨hl, hq, ht⟩ := drop_cons h
  have hm := hf q (hq ▸ List.getElem_mem hl)
  refine Ev.step (fun k => by rw [spec_SameExpr.l1]) ?_
  rw [rdT_nat _ _ hl, hq, wrapN (by omega), List.all_cons]
  refine Ev.iteT (by omega) (Ev.iteT (by omega) (Ev.bind (evaluate_yes ha hsa q.f0 q.f1 q.f2 q.f3 (by omega)) (Ev.bind (evaluate_yes hb hsb q.f0 q.f1 q.f2 q.f3 (by omega)) ?_)))
  cases hc : agree ea eb q with
  | false =>
   have hc2 : (ea.ev q.f0 q.f2 == eb.ev q.f0 q.f2) = false := hc
   exact Ev.iteT (by show (!(ea.ev q.f0 q.f2 == eb.ev q.f0 q.f2)) = true; rw [hc2]; rfl) (Ev.some_ rfl)
  | true =>
   have hc2 : (ea.ev q.f0 q.f2 == eb.ev q.f0 q.f2) = true := hc
   rw [Bool.true_and]
   exact Ev.iteF (by show ¬ (!(ea.ev q.f0 q.f2 == eb.ev q.f0 q.f2)) = true; rw [hc2]; decide) (ih (i + 1) ht (by omega))
theorem sSame_l0 (a b : List UInt8) (B : List ByteArray) (hB : B.length ≤ 60) (r : Bool) : ∀ (t : List ByteArray) (i : Nat) (l : List ByteArray), B.drop i = t → i ≤ B.length → l.length ≤ 60 + i →
  (∀ l', l' = addAll l t → Ev (fun k => if (l'.length : Int) > 6 then some false else (spec_worlds.f k l').bind fun t160 => (spec_SameExpr.l1 k (BA a) (BA b) t160 0)) r) → Ev (fun k => spec_SameExpr.l0 k (BA a) (BA b) l B (i : Int)) r := by
 intro t
 induction t with
 | nil =>
  intro i l h hi hl2 hr
  have hl := drop_nil h
  refine Ev.step (fun k => by rw [spec_SameExpr.l0]) ?_
  exact Ev.iteF (by omega) (hr l rfl)
 | cons x t ih =>
  intro i l h hi hl2 hr
  obtain ⟨hl, hx, ht⟩ := drop_cons h
  have hg := addM_length l x
  refine Ev.step (fun k => by rw [spec_SameExpr.l0]) ?_
  rw [rdOf_nat _ _ _ hl, hx, wrapN (by omega)]
  exact Ev.iteT (by omega) (Ev.iteT (by omega) (Ev.bind (addWord_ev l x (by omega)) (ih (i + 1) _ ht (by omega) (by omega) hr)))
theorem specSame_yes {a b : List UInt8} {ea eb : Ex} (ha : Parses a ea) (hb : Parses b eb) (hsa : a.length ≤ 60) (hsb : b.length ≤ 60) : Ev (fun k => spec_SameExpr.f k (BA a) (BA b)) (sameV ea eb) := by
 have h1 := ha.cnt
 have h2 := hb.cnt
 have h3 := at_length ea []
 have h4 := at_length eb []
 have hn0 : ([] : List ByteArray).length = 0 := rfl
 unfold spec_SameExpr.f
 refine Ev.bind (specValid_yes ha hsa) (Ev.iteT rfl (Ev.bind (specValid_yes hb hsb) ?_))
 refine Ev.step (fun k => by rw [spec_SameExpr.j0]) ?_
 refine Ev.iteF (by simp) (Ev.bind (specAtoms0_yes ha hsa) (Ev.bind (specAtoms0_yes hb hsb) ?_))
 refine sSame_l0 a b (eb.at_ []) (by omega) _ _ 0 _ rfl (Nat.zero_le _) (by omega) (fun l' hl' => ?_)
 rw [List.drop_zero, addAll_at eb] at hl'
 have hl2 : l' = eb.at_ (ea.at_ []) := hl'
 subst hl2
 unfold sameV
 by_cases hc : (eb.at_ (ea.at_ [])).length ≤ 6
 ·have hA := at_words eb _ hb.wf (at_words ea [] ha.wf (fun x hx => by cases hx))
  have hv := worldsV_length _ hc
  rw [decide_eq_true hc, Bool.true_and, ← worlds_same]
  refine Ev.iteF (by omega) (Ev.bind (worlds_ev _ hA hc) ?_)
  exact sSame_l1 ha hb hsa hsb _ (by omega) (worldsV_marks _ hc) _ 0 rfl (Nat.zero_le _)
 ·rw [decide_eq_false hc, Bool.false_and]
  exact Ev.iteT (by omega) (Ev.some_ rfl)
theorem specSame_no {a b : List UInt8} (h : ¬ (ExprOk a ∧ ExprOk b)) : Ev (fun k => spec_SameExpr.f k (BA a) (BA b)) false := by
 unfold spec_SameExpr.f
 by_cases h1 : ExprOk a
 ·have h2 : ¬ ExprOk b := fun z => h ⟨h1, z⟩
  obtain ⟨h3, e, h4⟩ := h1
  refine Ev.bind (specValid_yes h4 h3) (Ev.iteT rfl (Ev.bind (specValid_no h2) ?_))
  refine Ev.step (fun k => by rw [spec_SameExpr.j0]) ?_
  exact Ev.iteT rfl (Ev.some_ rfl)
 ·refine Ev.bind (specValid_no h1) (Ev.iteF (by simp) ?_)
  refine Ev.step (fun k => by rw [spec_SameExpr.j0]) ?_
  exact Ev.iteT rfl (Ev.some_ rfl)
end Go.Proofs.Ytdllommmccgleaa.Y
