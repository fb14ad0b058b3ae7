/- Plain: what a rotation of a ring gives. -/
import Derived.Test.YtbccfgeepdmegaaDoorSealL
set_option linter.unusedVariables false
set_option linter.unusedSimpArgs false
set_option linter.unnecessarySimpa false
namespace Go.Proofs.YtbccfgeepdmegaaDoor
theorem place_ex {l : List KeyD} (hs : sorted l) (p s : Int) : ∃ i, IsPlace l p s i := by
  refine ⟨l.findIdx (fun a => !a.before p s), List.findIdx_le_length, fun j a hj ha => ?_, fun j a hj ha => ?_⟩
  · obtain ⟨hl, rfl⟩ := List.getElem?_eq_some_iff.mp ha
    have := List.not_of_lt_findIdx hj
    simpa using this
  · obtain ⟨hl, rfl⟩ := List.getElem?_eq_some_iff.mp ha
    have hlt : l.findIdx (fun a => !a.before p s) < l.length := by omega
    have h0 := List.findIdx_getElem (p := fun a : KeyD => !a.before p s) (xs := l) (w := hlt)
    have h1 : KeyD.before (l[l.findIdx (fun a : KeyD => !a.before p s)]'hlt) p s = false := by simpa using h0
    by_cases e : l.findIdx (fun a => !a.before p s) = j
    · subst e; exact h1
    · have h2 := hs _ j _ _ (show l.findIdx (fun a => !a.before p s) < j by omega) (List.getElem?_eq_getElem hlt) (List.getElem?_eq_getElem hl)
      rw [← Bool.not_eq_true, KeyD.before_iff] at h1 ⊢
      rw [KeyD.lt_iff] at h2
      omega
theorem sorted_iff_pairwise (l : List KeyD) : sorted l ↔ l.Pairwise (fun a b => a.lt b = true) := by
  rw [List.pairwise_iff_getElem]
  constructor
  · intro h i j hi hj hij
    exact h i j _ _ hij (List.getElem?_eq_getElem hi) (List.getElem?_eq_getElem hj)
  · intro h i j a b hij ha hb
    obtain ⟨hi, rfl⟩ := List.getElem?_eq_some_iff.mp ha
    obtain ⟨hj, rfl⟩ := List.getElem?_eq_some_iff.mp hb
    exact h i j hi hj hij
theorem insert_sorted {l : List KeyD} (hs : sorted l) {k : KeyD} {i : Nat} (h : IsPlace l k.party k.serial i) (hn : find l k.party k.serial = none) : sorted (l.take i ++ [k] ++ l.drop i) := by
  rw [sorted_iff_pairwise] at hs ⊢
  have hsplit : (l.take i ++ l.drop i).Pairwise (fun a b => a.lt b = true) := by rw [List.take_append_drop]; exact hs
  obtain ⟨p1, p2, p3⟩ := List.pairwise_append.1 hsplit
  have hb : ∀ b ∈ l.drop i, k.lt b = true := by
    intro b hb
    obtain ⟨x, hx, rfl⟩ := List.mem_iff_getElem.mp hb
    simp only [List.length_drop] at hx
    have hxl : i + x < l.length := by omega
    have h1 := h.hi (i + x) l[i + x] (by omega) (List.getElem?_eq_getElem hxl)
    unfold find at hn
    rw [List.find?_eq_none] at hn
    have h2 := hn l[i + x] (List.getElem_mem hxl)
    rw [KeyD.is_iff] at h2
    rw [← Bool.not_eq_true, KeyD.before_iff] at h1
    rw [List.getElem_drop, KeyD.lt_iff]
    omega
  rw [List.append_assoc, List.pairwise_append]
  refine ⟨p1, ?_, fun a ha b hb' => ?_⟩
  · rw [List.singleton_append, List.pairwise_cons]
    exact ⟨hb, p2⟩
  · rw [List.singleton_append, List.mem_cons] at hb'
    rcases hb' with rfl | hb'
    · exact take_before h a ha
    · exact p3 a ha b hb'
theorem ring_of {l : List KeyD} (hs : sorted l) (hv : ∀ k ∈ l, k.valid = true) (hn : l.length ≤ 500) : ring l = true := by
  rw [ring_iff]
  refine ⟨fun i _ k hk => ⟨hv k (List.mem_of_getElem? hk), fun j a e ha => hs j i a k (by omega) ha hk⟩, hn⟩
theorem ring_mem {l : List KeyD} (h : ring l = true) {k : KeyD} (hk : k ∈ l) : k.valid = true := by
  obtain ⟨i, hi⟩ := List.mem_iff_getElem?.1 hk
  exact ring_valid h hi
theorem ofD_nil_of {l : List KeyD} {p : Int} (h : ∀ k ∈ l, k.party ≠ p) : ofD l p = [] := by
  unfold ofD
  rw [List.filter_eq_nil_iff]
  intro a ha
  simpa using h a ha
theorem ofD_append (a b : List KeyD) (p : Int) : ofD (a ++ b) p = ofD a p ++ ofD b p := by unfold ofD; rw [List.filter_append]
theorem ofD_one (k : KeyD) : ofD [k] k.party = [k] := by unfold ofD; simp
/-- the segment of the party, its last key apart -/
theorem seg_last {l : List KeyD} (hs : sorted l) {p : Int} {la : KeyD} (h : lastD l p = some la) {i : Nat} (hi : l[i]? = some la) : ofD l p = ofD (l.take i) p ++ [la] ∧ ∀ d, ofD (l.set i (capped la d)) p = ofD (l.take i) p ++ [capped la d] := by
  obtain ⟨_, hp, htop⟩ := last_top hs h
  obtain ⟨hil, e0⟩ := List.getElem?_eq_some_iff.mp hi
  have hd : ofD (l.drop (i + 1)) p = [] := by
    refine ofD_nil_of fun k hk hkp => ?_
    obtain ⟨x, hx, rfl⟩ := List.mem_iff_getElem.mp hk
    simp only [List.length_drop] at hx
    have hxl : i + 1 + x < l.length := by omega
    rw [List.getElem_drop] at hkp
    have h1 := hs i (i + 1 + x) la l[i + 1 + x] (by omega) hi (List.getElem?_eq_getElem hxl)
    have h2 := htop l[i + 1 + x] (List.getElem_mem hxl) hkp
    rw [KeyD.lt_iff] at h1
    omega
  have e1 : l = l.take i ++ ([la] ++ l.drop (i + 1)) := by
    rw [List.singleton_append, ← e0, List.getElem_cons_drop, List.take_append_drop]
  constructor
  · conv => lhs; rw [e1]
    rw [ofD_append, ofD_append, hd, ← hp, ofD_one]
    simp
  · intro d
    have e2 : l.set i (capped la d) = l.take i ++ ([capped la d] ++ l.drop (i + 1)) := by
      rw [List.set_eq_take_append_cons_drop, if_pos hil]; simp
    have hp2 : (capped la d).party = p := hp
    rw [e2, ofD_append, ofD_append, hd, ← hp2, ofD_one]
    simp
theorem capped_valid {la : KeyD} {d : Int} (h : la.valid = true) (hd : la.fr < d) : (capped la d).valid = true := by
  rw [KeyD.valid_iff] at h ⊢
  have e1 : (capped la d).party = la.party := rfl
  have e2 : (capped la d).serial = la.serial := rfl
  have e3 : (capped la d).secret = la.secret := rfl
  have e4 : (capped la d).fr = la.fr := rfl
  have e5 : (capped la d).to = min la.to d := rfl
  rw [e1, e2, e3, e4, e5]
  omega
theorem curS_ne (seg : List KeyD) (d : Int) (h : seg ≠ []) : (curS seg d).2 ≠ 5 := by
  unfold curS
  cases seg.reverse.find? (fun k => k.counts d) with
  | some a => simp
  | none => simp [h]
theorem rot_shape {l : List KeyD} (hr : ring l = true) {p : Int} {secret : ByteArray} {d : Int} (he : rotE l p secret d = 0) :
    ∃ la nk i, lastD l p = some la ∧ l[i]? = some la ∧ nk = nextK la p secret d ∧ nk.valid = true ∧ la.fr < d ∧ l.length ≠ 500 ∧ rotL l p secret d = put (l.set i (capped la d)) nk := by
  cases hl : lastD l p with
  | none => rw [(rot_none hl secret d).1] at he; cases he
  | some la =>
    cases hv : (nextK la p secret d).valid with
    | false => rw [(rot_invalid hl hv).1] at he; cases he
    | true =>
      by_cases hd : d ≤ la.fr
      · rw [(rot_time hl hv hd).1] at he; cases he
      · obtain ⟨r1, r2⟩ := rot_ok hl hv hd
        by_cases h5 : l.length = 500
        · rw [r1, if_pos h5] at he; cases he
        · obtain ⟨i, hi⟩ := List.mem_iff_getElem?.1 (last_top (ring_sorted hr) hl).1
          exact ⟨la, _, i, rfl, hi, rfl, hv, by omega, h5, by rw [r2, if_neg h5, put_capped (ring_sorted hr) hi]⟩
theorem rot_bad {l : List KeyD} {p : Int} {secret : ByteArray} {d : Int} (he : rotE l p secret d ≠ 0) : rotL l p secret d = [] := by
  cases hl : lastD l p with
  | none => exact (rot_none hl secret d).2
  | some la =>
    cases hv : (nextK la p secret d).valid with
    | false => exact (rot_invalid hl hv).2
    | true =>
      by_cases hd : d ≤ la.fr
      · exact (rot_time hl hv hd).2
      · obtain ⟨r1, r2⟩ := rot_ok hl hv hd
        by_cases h5 : l.length = 500
        · rw [r2, if_pos h5]
        · rw [r1, if_neg h5] at he; exact absurd rfl he
theorem rot_law {l : List KeyD} (hr : ring l = true) {p : Int} {secret : ByteArray} {d : Int} (he : rotE l p secret d = 0) :
    ring (rotL l p secret d) = true ∧ (rotL l p secret d).length = l.length + 1 ∧ ∀ o : Int, o ≤ 1048576 →
      (d ≤ o → (curD (rotL l p secret d) p o).2 = 0 ∧ (curD (rotL l p secret d) p o).1.fr = d ∧ (curD (rotL l p secret d) p o).1.secret = secret) ∧
      (o < d → (curD (rotL l p secret d) p o).2 = (curD l p o).2 ∧ (curD (rotL l p secret d) p o).1.serial = (curD l p o).1.serial ∧ (curD (rotL l p secret d) p o).1.secret = (curD l p o).1.secret) := by
  obtain ⟨la, nk, i, hla, hi, hnk, hv, hfd, h5, hL⟩ := rot_shape hr he
  have hs := ring_sorted hr
  have hs' := set_sorted hs hi d
  have hnp : nk.party = p := by rw [hnk]; rfl
  have hns : nk.serial = la.serial + 1 := by rw [hnk]; rfl
  have hnf : nk.fr = d := by rw [hnk]; rfl
  have hnt : nk.to = 1048577 := by rw [hnk]; rfl
  have hnc : nk.secret = secret := by rw [hnk]; rfl
  have hfn : find (l.set i (capped la d)) nk.party nk.serial = none := by rw [hnp, hns]; exact find_top hs hla hi d
  obtain ⟨j, hj⟩ := place_ex hs' nk.party nk.serial
  have hput : put (l.set i (capped la d)) nk = (l.set i (capped la d)).take j ++ [nk] ++ (l.set i (capped la d)).drop j := by
    refine put_insert hs' hj fun a ha => ?_
    unfold find at hfn
    rw [List.find?_eq_none] at hfn
    simpa using hfn a (List.mem_of_getElem? ha)
  obtain ⟨g1, g2⟩ := seg_last hs hla hi
  have g3 := g2 d
  obtain ⟨_, hpa, htop⟩ := last_top hs hla
  have hdrop : ofD ((l.set i (capped la d)).drop j) p = [] := by
    refine ofD_nil_of fun k hk hkp => ?_
    obtain ⟨x, hx, rfl⟩ := List.mem_iff_getElem.mp hk
    simp only [List.length_drop] at hx
    have hxl : j + x < (l.set i (capped la d)).length := by omega
    rw [List.getElem_drop] at hkp
    have h1 := hj.hi (j + x) _ (by omega) (List.getElem?_eq_getElem hxl)
    obtain ⟨b, hb, e1, e2⟩ := set_names hi d (List.getElem?_eq_getElem hxl)
    have h2 := htop b (List.mem_of_getElem? hb) (by omega)
    rw [← Bool.not_eq_true, KeyD.before_iff] at h1
    omega
  have hseg : ofD (rotL l p secret d) p = ofD (l.take i) p ++ [capped la d] ++ [nk] := by
    rw [hL, hput, ofD_append, ofD_append, hdrop]
    have e3 : ofD ((l.set i (capped la d)).take j) p = ofD (l.take i) p ++ [capped la d] := by
      rw [← g3]
      conv => rhs; rw [← List.take_append_drop j (l.set i (capped la d))]
      rw [ofD_append, hdrop, List.append_nil]
    rw [e3, ← hnp, ofD_one, List.append_nil]
  refine ⟨?_, ?_, fun o ho => ⟨fun hdo => ?_, fun hod => ?_⟩⟩
  · rw [hL, hput]
    refine ring_of (insert_sorted hs' hj hfn) ?_ ?_
    · intro k hk
      rw [List.mem_append, List.mem_append] at hk
      have hin : ∀ k ∈ l.set i (capped la d), k.valid = true := fun k hk => by
        rcases List.mem_or_eq_of_mem_set hk with h | h
        · exact ring_mem hr h
        · rw [h]; exact capped_valid (ring_mem hr (List.mem_of_getElem? hi)) hfd
      rcases hk with (hk | hk) | hk
      · exact hin k (List.mem_of_mem_take hk)
      · simp at hk; rw [hk]; exact hv
      · exact hin k (List.mem_of_mem_drop hk)
    · have := ((ring_iff l).1 hr).2
      have hjl := hj.le
      simp only [List.length_append, List.length_take, List.length_drop, List.length_set, List.length_cons, List.length_nil] at hjl ⊢
      omega
  · rw [hL, hput]
    have hjl := hj.le
    simp only [List.length_append, List.length_take, List.length_drop, List.length_set, List.length_cons, List.length_nil] at hjl ⊢
    omega
  · have hc : nk.counts o = true := by rw [KeyD.counts_iff, hnf, hnt]; omega
    have e : curD (rotL l p secret d) p o = (nk, 0) := by rw [curD_eq, hseg, curS_snoc, if_pos hc]
    rw [e]
    exact ⟨rfl, hnf, hnc⟩
  · have hc : nk.counts o = false := by rw [← Bool.not_eq_true, KeyD.counts_iff, hnf]; omega
    have e : curD (rotL l p secret d) p o = curS (ofD (l.take i) p ++ [capped la d]) o := by
      rw [curD_eq, hseg, curS_snoc, hc]
      simp only [Bool.false_eq_true, if_false]
      rw [if_neg (curS_ne _ _ (by simp))]
    have e2 : curD l p o = curS (ofD (l.take i) p ++ [la]) o := by rw [curD_eq, g1]
    have hcc : (capped la d).counts o = la.counts o := by
      rw [Bool.eq_iff_iff, KeyD.counts_iff, KeyD.counts_iff]
      show (la.fr ≤ o ∧ o < min la.to d) ↔ _
      omega
    rw [e, e2, curS_snoc, curS_snoc, hcc]
    split
    · exact ⟨rfl, rfl, rfl⟩
    · exact ⟨rfl, rfl, rfl⟩
end Go.Proofs.YtbccfgeepdmegaaDoor
