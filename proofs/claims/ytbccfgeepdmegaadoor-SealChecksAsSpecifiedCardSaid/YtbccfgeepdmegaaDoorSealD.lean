/- Plain: keys and rings, as the program and as the reference reckon with them. No program, no memory. -/
import Derived.Test.YtbccfgeepdmegaaDoorSha
set_option linter.unusedVariables false
set_option linter.unusedSimpArgs false
set_option linter.unnecessarySimpa false
namespace Go.Proofs.YtbccfgeepdmegaaDoor
structure KeyD where
  party : Int
  serial : Int
  secret : ByteArray
  fr : Int
  to : Int
  deriving DecidableEq
namespace KeyD
/-- the numbers are those of int, the secret of a length that Go bears -/
def ok (k : KeyD) : Prop := (-9223372036854775808 ≤ k.party ∧ k.party < 9223372036854775808) ∧ (-9223372036854775808 ≤ k.serial ∧ k.serial < 9223372036854775808) ∧ k.secret.size ≤ 9223372036854775807 ∧ (-9223372036854775808 ≤ k.fr ∧ k.fr < 9223372036854775808) ∧ (-9223372036854775808 ≤ k.to ∧ k.to < 9223372036854775808)
def valid (k : KeyD) : Bool := decide (1 ≤ k.party ∧ k.party ≤ 2147483648 ∧ 1 ≤ k.serial ∧ k.serial ≤ 2147483648 ∧ 1 ≤ k.secret.size ∧ k.secret.size ≤ 64 ∧ 0 ≤ k.fr ∧ k.fr < k.to ∧ k.to ≤ 1048577)
/-- k stands before the key (p, s) -/
def before (k : KeyD) (p s : Int) : Bool := decide (k.party < p ∨ k.party = p ∧ k.serial < s)
def lt (a b : KeyD) : Bool := a.before b.party b.serial
def is (k : KeyD) (p s : Int) : Bool := decide (k.party = p ∧ k.serial = s)
def counts (k : KeyD) (day : Int) : Bool := decide (k.fr ≤ day ∧ day < k.to)
theorem valid_iff (k : KeyD) : k.valid = true ↔ (1 ≤ k.party ∧ k.party ≤ 2147483648 ∧ 1 ≤ k.serial ∧ k.serial ≤ 2147483648 ∧ 1 ≤ k.secret.size ∧ k.secret.size ≤ 64 ∧ 0 ≤ k.fr ∧ k.fr < k.to ∧ k.to ≤ 1048577) := decide_eq_true_iff
theorem before_iff (k : KeyD) (p s : Int) : k.before p s = true ↔ (k.party < p ∨ k.party = p ∧ k.serial < s) := decide_eq_true_iff
theorem is_iff (k : KeyD) (p s : Int) : k.is p s = true ↔ (k.party = p ∧ k.serial = s) := decide_eq_true_iff
theorem counts_iff (k : KeyD) (d : Int) : k.counts d = true ↔ (k.fr ≤ d ∧ d < k.to) := decide_eq_true_iff
theorem lt_iff (a b : KeyD) : a.lt b = true ↔ (a.party < b.party ∨ a.party = b.party ∧ a.serial < b.serial) := decide_eq_true_iff
attribute [irreducible] valid before is counts
end KeyD
/-- the i-th key is valid, and behind the one before it -/
def goodAt (l : List KeyD) (i : Nat) : Bool :=
  match l[i]? with
  | none => true
  | some k => k.valid && (match i with
    | 0 => true
    | j + 1 => match l[j]? with
      | none => true
      | some a => a.lt k)
theorem goodAt_iff (l : List KeyD) (i : Nat) : goodAt l i = true ↔ ∀ k, l[i]? = some k → k.valid = true ∧ ∀ (j : Nat) (a : KeyD), i = j + 1 → l[j]? = some a → a.lt k = true := by
  unfold goodAt
  cases h : l[i]? with
  | none => simp
  | some k =>
    cases i with
    | zero => simp
    | succ j => cases h2 : l[j]? with
      | none => simp only [h2, Bool.and_true, Option.some.injEq]
                constructor
                · intro hv k' hk; subst hk
                  refine ⟨hv, fun j' a hj ha => ?_⟩
                  cases (Nat.succ.inj hj); rw [h2] at ha; exact absurd ha (by simp)
                · intro hv; exact (hv k rfl).1
      | some a => simp only [h2, Bool.and_eq_true, Option.some.injEq]
                  constructor
                  · intro hv k' hk; subst hk
                    refine ⟨hv.1, fun j' a' hj ha => ?_⟩
                    cases (Nat.succ.inj hj); rw [h2] at ha; cases ha; exact hv.2
                  · intro hv; exact ⟨(hv k rfl).1, (hv k rfl).2 j a rfl h2⟩
def ring (l : List KeyD) : Bool := (List.range l.length).all (goodAt l) && decide (l.length ≤ 500)
theorem ring_iff' (l : List KeyD) : ring l = true ↔ (∀ i, i < l.length → goodAt l i = true) ∧ l.length ≤ 500 := by
  simp [ring]
theorem ring_iff (l : List KeyD) : ring l = true ↔ (∀ i, i < l.length → ∀ k, l[i]? = some k → k.valid = true ∧ ∀ (j : Nat) (a : KeyD), i = j + 1 → l[j]? = some a → a.lt k = true) ∧ l.length ≤ 500 := by
  rw [ring_iff']; simp only [goodAt_iff]
theorem ring_done {l : List KeyD} (h : ∀ i, i < l.length → goodAt l i = true) : ring l = decide (l.length ≤ 500) := by
  rw [Bool.eq_iff_iff, ring_iff']; simp only [decide_eq_true_iff]
  exact ⟨fun ⟨_, b⟩ => b, fun b => ⟨h, b⟩⟩
theorem ring_invalid {l : List KeyD} {i : Nat} {k : KeyD} (hk : l[i]? = some k) (hv : k.valid = false) : ring l = false := by
  rw [Bool.eq_false_iff]; intro h
  have hi : i < l.length := by have := List.getElem?_eq_some_iff.mp hk; exact this.1
  have := ((ring_iff l).mp h).1 i hi k hk
  rw [hv] at this; exact absurd this.1 (by decide)
theorem ring_unsorted {l : List KeyD} {i : Nat} {k a : KeyD} (hk : l[i + 1]? = some k) (ha : l[i]? = some a) (hv : a.lt k = false) : ring l = false := by
  rw [Bool.eq_false_iff]; intro h
  have hi : i + 1 < l.length := by have := List.getElem?_eq_some_iff.mp hk; exact this.1
  have := (((ring_iff l).mp h).1 (i + 1) hi k hk).2 i a rfl ha
  rw [hv] at this; exact absurd this (by decide)
theorem ring_valid {l : List KeyD} (h : ring l = true) {i : Nat} {k : KeyD} (hk : l[i]? = some k) : k.valid = true := by
  have hi : i < l.length := by have := List.getElem?_eq_some_iff.mp hk; exact this.1
  exact (((ring_iff l).mp h).1 i hi k hk).1
theorem ring_lt {l : List KeyD} (h : ring l = true) {i j : Nat} (hij : i < j) : ∀ {a b : KeyD}, l[i]? = some a → l[j]? = some b → a.lt b = true := by
  induction hij with
  | refl => intro a b ha hb
            have hi := (List.getElem?_eq_some_iff.mp hb).1
            exact (((ring_iff l).mp h).1 _ hi b hb).2 i a rfl ha
  | @step m hm ih => intro a b ha hb
                     have hi := (List.getElem?_eq_some_iff.mp hb).1
                     have hm' : m < l.length := by omega
                     have hc : l[m]? = some l[m] := List.getElem?_eq_getElem hm'
                     have h1 := ih ha hc
                     have h2 := (((ring_iff l).mp h).1 _ hi b hb).2 m _ rfl hc
                     rw [KeyD.lt_iff] at h1 h2 ⊢
                     omega
/-- sorted: enough for the search -/
def sorted (l : List KeyD) : Prop := ∀ (i j : Nat) (a b : KeyD), i < j → l[i]? = some a → l[j]? = some b → a.lt b = true
theorem ring_sorted {l : List KeyD} (h : ring l = true) : sorted l := fun _ _ _ _ hij ha hb => ring_lt h hij ha hb
def find (l : List KeyD) (p s : Int) : Option KeyD := l.find? (·.is p s)
/-- what makes a number the place -/
structure IsPlace (l : List KeyD) (p s : Int) (i : Nat) : Prop where
  le : i ≤ l.length
  lo : ∀ j a, j < i → l[j]? = some a → a.before p s = true
  hi : ∀ j a, i ≤ j → l[j]? = some a → a.before p s = false
theorem KeyD.lt_before {a k : KeyD} : a.lt k = a.before k.party k.serial := rfl
theorem IsPlace.unique {l : List KeyD} {p s : Int} {i j : Nat} (a : IsPlace l p s i) (b : IsPlace l p s j) : i = j := by
  have key : ∀ {i j : Nat}, IsPlace l p s i → IsPlace l p s j → ¬ i < j := by
    intro i j a b hij
    have hl : i < l.length := Nat.lt_of_lt_of_le hij b.le
    have h1 := a.hi i l[i] (Nat.le_refl _) (List.getElem?_eq_getElem hl)
    have h2 := b.lo i l[i] hij (List.getElem?_eq_getElem hl)
    rw [h1] at h2; exact absurd h2 (by decide)
  have h1 := key a b
  have h2 := key b a
  omega
theorem find_at {l : List KeyD} {p s : Int} {i : Nat} {k : KeyD} (h : IsPlace l p s i) (hk : l[i]? = some k) (his : k.is p s = true) : find l p s = some k := by
  unfold find
  rw [List.find?_eq_some_iff_getElem]
  obtain ⟨hi, rfl⟩ := List.getElem?_eq_some_iff.mp hk
  refine ⟨his, i, hi, rfl, fun j hj => ?_⟩
  have hl : j < l.length := Nat.lt_trans hj hi
  have := h.lo j l[j] hj (List.getElem?_eq_getElem hl)
  rw [KeyD.before_iff] at this
  rw [Bool.not_eq_true', ← Bool.not_eq_true, KeyD.is_iff]
  omega
theorem find_none {l : List KeyD} {p s : Int} {i : Nat} (hs : sorted l) (h : IsPlace l p s i) (hk : ∀ k, l[i]? = some k → k.is p s = false) : find l p s = none := by
  unfold find
  rw [List.find?_eq_none]
  intro k hkm his
  obtain ⟨j, hj, rfl⟩ := List.mem_iff_getElem.mp hkm
  have hjs : l[j]? = some l[j] := List.getElem?_eq_getElem hj
  rcases Nat.lt_trichotomy j i with hji | rfl | hji
  · have := h.lo j _ hji hjs
    rw [KeyD.before_iff] at this; rw [KeyD.is_iff] at his; omega
  · rw [hk _ hjs] at his; exact absurd his (by decide)
  · have hi : i < l.length := Nat.lt_trans hji hj
    have his' := h.hi i l[i] (Nat.le_refl _) (List.getElem?_eq_getElem hi)
    have hne := hk _ (List.getElem?_eq_getElem hi)
    have hlt := hs i j _ _ hji (List.getElem?_eq_getElem hi) hjs
    rw [← Bool.not_eq_true, KeyD.before_iff] at his'
    rw [← Bool.not_eq_true, KeyD.is_iff] at hne
    rw [KeyD.lt_iff] at hlt; rw [KeyD.is_iff] at his
    omega
/-- the reference's put, one key on -/
def putStep (k : KeyD) (st : List KeyD × Bool) (r : KeyD) : List KeyD × Bool :=
  let st' := if st.2 = false ∧ r.lt k = false then (st.1 ++ [k], true) else st
  if r.is k.party k.serial then st' else (st'.1 ++ [r], st'.2)
def putTo (k : KeyD) (l : List KeyD) : List KeyD × Bool := l.foldl (putStep k) ([], false)
def put (l : List KeyD) (k : KeyD) : List KeyD := if (putTo k l).2 then (putTo k l).1 else (putTo k l).1 ++ [k]
theorem putTo_snoc (k : KeyD) (l : List KeyD) (r : KeyD) : putTo k (l ++ [r]) = putStep k (putTo k l) r := by simp [putTo]
theorem putTo_before (k : KeyD) (l : List KeyD) (h : ∀ a ∈ l, a.lt k = true) (o : List KeyD) : l.foldl (putStep k) (o, false) = (o ++ l, false) := by
  induction l generalizing o with
  | nil => simp
  | cons a l ih =>
    have ha := h a (by simp)
    have hn : a.is k.party k.serial = false := by
      rw [← Bool.not_eq_true, KeyD.is_iff]; rw [KeyD.lt_iff] at ha; omega
    rw [List.foldl_cons]
    have : putStep k (o, false) a = (o ++ [a], false) := by simp [putStep, ha, hn]
    rw [this, ih (fun b hb => h b (by simp [hb]))]; simp
theorem putTo_behind (k : KeyD) (l : List KeyD) (h : ∀ a ∈ l, a.is k.party k.serial = false) (o : List KeyD) : l.foldl (putStep k) (o, true) = (o ++ l, true) := by
  induction l generalizing o with
  | nil => simp
  | cons a l ih =>
    have hn := h a (by simp)
    rw [List.foldl_cons]
    have : putStep k (o, true) a = (o ++ [a], true) := by simp [putStep, hn]
    rw [this, ih (fun b hb => h b (by simp [hb]))]; simp
theorem take_before {l : List KeyD} {p s : Int} {i : Nat} (h : IsPlace l p s i) : ∀ a ∈ l.take i, a.before p s = true := by
  intro a ha
  obtain ⟨j, hj, rfl⟩ := List.mem_iff_getElem.mp ha
  simp only [List.length_take] at hj
  have hjl : j < l.length := by omega
  exact h.lo j _ (by omega) (by simp [List.getElem?_eq_getElem hjl])
theorem drop_behind {l : List KeyD} (hs : sorted l) {p s : Int} {i : Nat} (h : IsPlace l p s i) : ∀ a ∈ l.drop (i + 1), a.is p s = false := by
  intro a ha
  obtain ⟨j, hj, rfl⟩ := List.mem_iff_getElem.mp ha
  simp only [List.length_drop] at hj
  have hjl : i + 1 + j < l.length := by omega
  have hi : i < l.length := by omega
  have h1 := h.hi i l[i] (Nat.le_refl _) (List.getElem?_eq_getElem hi)
  have h2 := hs i (i + 1 + j) _ _ (by omega) (List.getElem?_eq_getElem hi) (List.getElem?_eq_getElem hjl)
  rw [← Bool.not_eq_true, KeyD.before_iff] at h1
  rw [KeyD.lt_iff] at h2
  rw [List.getElem_drop, ← Bool.not_eq_true, KeyD.is_iff]
  omega
theorem put_set {l : List KeyD} (hs : sorted l) {k a : KeyD} {i : Nat} (h : IsPlace l k.party k.serial i) (ha : l[i]? = some a) (his : a.is k.party k.serial = true) : put l k = l.set i k := by
  obtain ⟨hi, rfl⟩ := List.getElem?_eq_some_iff.mp ha
  have e : l = l.take i ++ l[i] :: l.drop (i + 1) := by
    rw [List.getElem_cons_drop, List.take_append_drop]
  have hb := h.hi i _ (Nat.le_refl _) ha
  have e2 : putTo k l = (l.take i ++ [k] ++ l.drop (i + 1), true) := by
    have e3 : putTo k l = (l.take i ++ l[i] :: l.drop (i + 1)).foldl (putStep k) ([], false) := by rw [← e]; rfl
    rw [e3, List.foldl_append, putTo_before k _ (take_before h), List.foldl_cons]
    have e4 : putStep k ([] ++ List.take i l, false) l[i] = (List.take i l ++ [k], true) := by simp [putStep, KeyD.lt_before, hb, his]
    rw [e4, putTo_behind k _ (drop_behind hs h)]
  rw [put, e2, List.set_eq_take_append_cons_drop]; simp [hi]
theorem put_insert {l : List KeyD} (hs : sorted l) {k : KeyD} {i : Nat} (h : IsPlace l k.party k.serial i) (hn : ∀ a, l[i]? = some a → a.is k.party k.serial = false) : put l k = l.take i ++ [k] ++ l.drop i := by
  by_cases hi : i < l.length
  · have ha : l[i]? = some l[i] := List.getElem?_eq_getElem hi
    have hb := h.hi i _ (Nat.le_refl _) ha
    have his := hn _ ha
    have e : l = l.take i ++ l[i] :: l.drop (i + 1) := by
      rw [List.getElem_cons_drop, List.take_append_drop]
    have e2 : putTo k l = (l.take i ++ [k] ++ l.drop i, true) := by
      have e3 : putTo k l = (l.take i ++ l[i] :: l.drop (i + 1)).foldl (putStep k) ([], false) := by rw [← e]; rfl
      rw [e3, List.foldl_append, putTo_before k _ (take_before h), List.foldl_cons]
      have e4 : putStep k ([] ++ List.take i l, false) l[i] = (List.take i l ++ [k] ++ [l[i]], true) := by simp [putStep, KeyD.lt_before, hb, his]
      rw [e4, putTo_behind k _ (drop_behind hs h), List.append_assoc, List.append_assoc, List.append_assoc]
      congr 1
      rw [← List.getElem_cons_drop hi]; rfl
    rw [put, e2]; simp
  · have hl : i = l.length := by have := h.le; omega
    have hb : ∀ a ∈ l, a.lt k = true := by have := take_before h; rw [hl, List.take_length] at this; exact this
    have e2 : putTo k l = (l, false) := by rw [putTo, putTo_before k l hb]; simp
    rw [put, e2, hl]; simp
end Go.Proofs.YtbccfgeepdmegaaDoor
