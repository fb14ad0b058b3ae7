/- Walks: Rotate, Revoke. -/
import Derived.Test.YtbccfgeepdmegaaDoorSealK
set_option linter.unusedVariables false
set_option linter.unusedSimpArgs false
set_option linter.unnecessarySimpa false
namespace Go.Proofs.YtbccfgeepdmegaaDoor
open Go Go.RowKit Mem
attribute [local go_sem ↓] Go.wp_at_zero Go.wp_at_succ veil_lk veil_sk
theorem lastD_snoc (l : List KeyD) (k : KeyD) (p : Int) : lastD (l ++ [k]) p = if k.party = p then some k else lastD l p := by
  have h := lastD_take (l := l ++ [k]) (p := p) (i := l.length) (k := k) (by simp)
  rw [List.take_of_length_le (by simp), List.take_left] at h
  exact h
theorem lastD_eq (l : List KeyD) (p : Int) : lastD l p = (ofD l p).getLast? := by
  suffices h : ∀ n : Nat, n ≤ l.length → lastD (l.take n) p = (ofD (l.take n) p).getLast? by
    have := h l.length (Nat.le_refl _); rwa [List.take_length] at this
  intro n
  induction n with
  | zero => intro _; rw [List.take_zero, last_nil]; rfl
  | succ n ih =>
    intro hn
    have hl : n < l.length := by omega
    have e := ih (by omega)
    rw [List.take_succ_eq_append_getElem hl, lastD_snoc, e]
    by_cases hp : l[n].party = p
    · rw [if_pos hp]
      have e2 : ofD (l.take n ++ [l[n]]) p = ofD (l.take n) p ++ [l[n]] := by unfold ofD; rw [List.filter_append]; simp [hp]
      rw [e2]; simp
    · rw [if_neg hp]
      have e2 : ofD (l.take n ++ [l[n]]) p = ofD (l.take n) p := by unfold ofD; rw [List.filter_append]; simp [hp]
      rw [e2]
/-- the new key of a rotation -/
def nextK (la : KeyD) (p : Int) (secret : ByteArray) (d : Int) : KeyD := ⟨p, la.serial + 1, secret, d, 1048577⟩
/-- what Rotate returns -/
def rotE (l : List KeyD) (p : Int) (secret : ByteArray) (d : Int) : Int := match lastD l p with
  | none => 5
  | some la => if (nextK la p secret d).valid then (if d ≤ la.fr then 9 else if l.length = 500 then 2 else 0) else 1
def rotL (l : List KeyD) (p : Int) (secret : ByteArray) (d : Int) : List KeyD := match lastD l p with
  | none => []
  | some la => if rotE l p secret d = 0 then put (put l (capped la d)) (nextK la p secret d) else []
theorem rot_none {l : List KeyD} {p : Int} (h : lastD l p = none) (secret : ByteArray) (d : Int) : rotE l p secret d = 5 ∧ rotL l p secret d = [] := by
  unfold rotL rotE; rw [h]; exact ⟨rfl, rfl⟩
theorem rot_invalid {l : List KeyD} {p : Int} {la : KeyD} (h : lastD l p = some la) {secret : ByteArray} {d : Int} (hv : (nextK la p secret d).valid = false) : rotE l p secret d = 1 ∧ rotL l p secret d = [] := by
  have e : rotE l p secret d = 1 := by unfold rotE; rw [h]; simp [hv]
  exact ⟨e, by unfold rotL; rw [h, e]; rfl⟩
theorem rot_time {l : List KeyD} {p : Int} {la : KeyD} (h : lastD l p = some la) {secret : ByteArray} {d : Int} (hv : (nextK la p secret d).valid = true) (hd : d ≤ la.fr) : rotE l p secret d = 9 ∧ rotL l p secret d = [] := by
  have e : rotE l p secret d = 9 := by unfold rotE; rw [h]; simp [hv, hd]
  exact ⟨e, by unfold rotL; rw [h, e]; rfl⟩
theorem rot_ok {l : List KeyD} {p : Int} {la : KeyD} (h : lastD l p = some la) {secret : ByteArray} {d : Int} (hv : (nextK la p secret d).valid = true) (hd : ¬ d ≤ la.fr) : rotE l p secret d = (if l.length = 500 then 2 else 0) ∧ rotL l p secret d = (if l.length = 500 then [] else put (put l (capped la d)) (nextK la p secret d)) := by
  have e : rotE l p secret d = if l.length = 500 then 2 else 0 := by unfold rotE; rw [h]; simp [hv, hd]
  refine ⟨e, ?_⟩
  unfold rotL; rw [h]; simp only [e]
  by_cases h5 : l.length = 500
  · simp [h5]
  · simp [h5]
/-- a key of a ring, found -/
theorem mem_find {l : List KeyD} (hs : sorted l) {k : KeyD} (hk : k ∈ l) : find l k.party k.serial = some k := by
  obtain ⟨i, hi⟩ := List.mem_iff_getElem?.1 hk
  have hp : IsPlace l k.party k.serial i := by
    refine ⟨Nat.le_of_lt (List.getElem?_eq_some_iff.mp hi).1, fun j a hj ha => ?_, fun j a hj ha => ?_⟩
    · exact hs j i a k hj ha hi
    · by_cases e : j = i
      · subst e; rw [hi] at ha; cases ha
        rw [← Bool.not_eq_true, KeyD.before_iff]; omega
      · have := hs i j k a (by omega) hi ha
        rw [KeyD.lt_iff] at this
        rw [← Bool.not_eq_true, KeyD.before_iff]; omega
  exact find_at hp hi ((KeyD.is_iff _ _ _).2 ⟨rfl, rfl⟩)
theorem put_capped {l : List KeyD} (hs : sorted l) {k : KeyD} {i : Nat} (hi : l[i]? = some k) (d : Int) : put l (capped k d) = l.set i (capped k d) := by
  have hp : IsPlace l k.party k.serial i := by
    refine ⟨Nat.le_of_lt (List.getElem?_eq_some_iff.mp hi).1, fun j a hj ha => ?_, fun j a hj ha => ?_⟩
    · exact hs j i a k hj ha hi
    · by_cases e : j = i
      · subst e; rw [hi] at ha; cases ha
        rw [← Bool.not_eq_true, KeyD.before_iff]; omega
      · have := hs i j k a (by omega) hi ha
        rw [KeyD.lt_iff] at this
        rw [← Bool.not_eq_true, KeyD.before_iff]; omega
  exact put_set hs (k := capped k d) hp hi ((KeyD.is_iff _ _ _).2 ⟨rfl, rfl⟩)
/-- the names of the keys after an end is set are those from before -/
theorem set_names {l : List KeyD} {k : KeyD} {i : Nat} (hi : l[i]? = some k) (d : Int) {x : Nat} {a : KeyD} (ha : (l.set i (capped k d))[x]? = some a) : ∃ b, l[x]? = some b ∧ b.party = a.party ∧ b.serial = a.serial := by
  rw [List.getElem?_set] at ha
  split at ha
  · rename_i e; subst e
    split at ha
    · cases ha; exact ⟨k, hi, rfl, rfl⟩
    · cases ha
  · exact ⟨a, ha, rfl, rfl⟩
theorem set_sorted {l : List KeyD} (hs : sorted l) {k : KeyD} {i : Nat} (hi : l[i]? = some k) (d : Int) : sorted (l.set i (capped k d)) := by
  intro x y a b hxy ha hb
  obtain ⟨a', ha', e1, e2⟩ := set_names hi d ha
  obtain ⟨b', hb', e3, e4⟩ := set_names hi d hb
  have h := hs x y a' b' hxy ha' hb'
  rw [KeyD.lt_iff] at h ⊢
  omega
/-- no key behind the last of a party -/
theorem last_top {l : List KeyD} (hs : sorted l) {p : Int} {la : KeyD} (h : lastD l p = some la) : la ∈ l ∧ la.party = p ∧ ∀ k ∈ l, k.party = p → k.serial ≤ la.serial := by
  rw [lastD_eq] at h
  have hm := List.mem_of_getLast? h
  have hmf := List.mem_filter.1 hm
  refine ⟨hmf.1, by simpa using hmf.2, fun k hk hp => ?_⟩
  have hkm : k ∈ ofD l p := List.mem_filter.2 ⟨hk, by simpa using hp⟩
  obtain ⟨x, hx, rfl⟩ := List.mem_iff_getElem.mp hkm
  rw [List.getLast?_eq_getElem?] at h
  have hpw : (ofD l p).Pairwise (fun a b => a.lt b = true) := by
    refine List.Pairwise.filter _ ?_
    rw [List.pairwise_iff_getElem]
    intro i j hi hj hij
    exact hs i j _ _ hij (List.getElem?_eq_getElem hi) (List.getElem?_eq_getElem hj)
  obtain ⟨hl, e⟩ := List.getElem?_eq_some_iff.mp h
  by_cases hxe : x = (ofD l p).length - 1
  · subst hxe; rw [e]; exact Int.le_refl _
  · have := List.pairwise_iff_getElem.1 hpw x ((ofD l p).length - 1) hx hl (by omega)
    rw [e, KeyD.lt_iff] at this
    have h2 : la.party = p := by simpa using hmf.2
    omega
theorem find_top {l : List KeyD} (hs : sorted l) {p : Int} {la : KeyD} (h : lastD l p = some la) {i : Nat} (hi : l[i]? = some la) (d : Int) : find (l.set i (capped la d)) p (la.serial + 1) = none := by
  unfold find
  rw [List.find?_eq_none]
  intro a ha his
  obtain ⟨x, hx⟩ := List.mem_iff_getElem?.1 ha
  obtain ⟨b, hb, e1, e2⟩ := set_names hi d hx
  rw [KeyD.is_iff] at his
  have := (last_top hs h).2.2 b (List.mem_of_getElem? hb) (by omega)
  omega
theorem next_ok {l : List KeyD} (hr : ring l = true) {p : Int} {la : KeyD} (h : lastD l p = some la) {secret : ByteArray} {d : Int} (hsec : secret.size ≤ 9223372036854775807) (hd : -9223372036854775808 ≤ d ∧ d < 9223372036854775808) : (nextK la p secret d).ok := by
  obtain ⟨hm, hp, _⟩ := last_top (ring_sorted hr) h
  obtain ⟨i, hi⟩ := List.mem_iff_getElem?.1 hm
  have hv := ring_valid hr hi
  rw [KeyD.valid_iff] at hv
  refine ⟨?_, ?_, hsec, hd, ?_⟩
  · show -9223372036854775808 ≤ p ∧ p < 9223372036854775808; omega
  · show -9223372036854775808 ≤ la.serial + 1 ∧ la.serial + 1 < 9223372036854775808; omega
  · show -9223372036854775808 ≤ (1048577 : Int) ∧ (1048577 : Int) < 9223372036854775808; omega
theorem add_rot {l : List KeyD} (hr : ring l = true) {p : Int} {la : KeyD} (h : lastD l p = some la) {secret : ByteArray} {d : Int} (hv : (nextK la p secret d).valid = true) (hd : ¬ d ≤ la.fr) :
    addE (put l (capped la d)) (nextK la p secret d) = rotE l p secret d ∧ addL (put l (capped la d)) (nextK la p secret d) = rotL l p secret d := by
  obtain ⟨hm, hp, _⟩ := last_top (ring_sorted hr) h
  obtain ⟨i, hi⟩ := List.mem_iff_getElem?.1 hm
  have e0 := put_capped (ring_sorted hr) hi d
  have hf : find (put l (capped la d)) (nextK la p secret d).party (nextK la p secret d).serial = none := by rw [e0]; exact find_top (ring_sorted hr) h hi d
  have hlen : (put l (capped la d)).length = l.length := by rw [e0, List.length_set]
  obtain ⟨r1, r2⟩ := rot_ok h hv hd
  by_cases h5 : l.length = 500
  · obtain ⟨a1, a2⟩ := add_full hv hf (by rw [hlen]; exact h5)
    rw [r1, r2, a1, a2, if_pos h5, if_pos h5]; exact ⟨rfl, rfl⟩
  · obtain ⟨a1, a2⟩ := add_ok hv hf (by rw [hlen]; exact h5)
    rw [r1, r2, a1, a2, if_neg h5, if_neg h5]; exact ⟨rfl, rfl⟩
attribute [irreducible] rotE rotL
theorem kC_next (la : KeyD) (p : Int) (secret : ByteArray) (d : Int) : kC (nextK la p secret d) = [.int .i64 p, .int .i64 (la.serial + 1), .string secret, .int .i64 d, .int .i64 1048577] := rfl
set_option maxRecDepth 100000 in
set_option maxHeartbeats 8000000 in
theorem rotate_keys (A : Option Addr) (cap : Nat) (l : List KeyD) (p : Int) (secret : ByteArray) (d : Int) (w : World) (hl : Ks w A l) (hr : ring l = true) (hn : l.length ≤ 1000000) (hcap : l.length ≤ cap) (hc2 : cap ≤ 9223372036854775807)
    (hsec : secret.size ≤ 9223372036854775807) (hd : -9223372036854775808 ≤ d ∧ d < 9223372036854775808) :
    Calls Tryd.prog 29 #[.slice A l.length cap, .int .i64 p, .string secret, .int .i64 d] w fun e w' => ∃ v, e = .returned (.tuple #[v, .int .i64 (rotE l p secret d)]) ∧ KsF w' v (rotL l p secret d) ∧ Below w.heap.size w w' := by
  have hk5 := fun k => hide (kC_size k)
  have hkl := fun a b => hide (kC_len a b)
  have hko := fun k => hide (kC_ones k)
  have hof := fun W h => of_keys A cap l p W h hr hn hcap hc2
  have hle := lastD_eq l p
  cases hlast : lastD l p with
  | none =>
    obtain ⟨e1, e2⟩ := rot_none hlast secret d
    rw [e1, e2]
    rw [hlast] at hle
    have h0 : ofD l p = [] := List.getLast?_eq_none_iff.1 hle.symm
    rw [h0] at hof
    replace hof := hide hof
    clear hle hlast e1 e2 h0
    go_enter Tryd.func29, Tryd.ntmps29
    go_wp2_with (go_at_call 37; refine (hof.out _ hl).mono ?_; rintro e w2 ⟨B, rfl, L2, hb2⟩)
    go_ret2
    exact ⟨_, rfl, nil_ksf _, hb2⟩
  | some la =>
    rw [hlast] at hle
    have hne : ofD l p ≠ [] := by intro h; rw [h] at hle; cases hle
    obtain ⟨n, hnn⟩ : ∃ n, (ofD l p).length = n + 1 := ⟨(ofD l p).length - 1, by have := List.length_pos_iff.2 hne; omega⟩
    have hgl : (ofD l p)[n]? = some la := by rw [List.getLast?_eq_getElem?, hnn] at hle; exact hle.symm
    have hnl : n + 1 ≤ 1000000 := by have h2 : (ofD l p).length ≤ l.length := List.length_filter_le _ _; omega
    rw [hnn] at hof
    obtain ⟨hmem, hpa, _⟩ := last_top (ring_sorted hr) hlast
    have hfind := mem_find (ring_sorted hr) hmem
    have hlav : la.valid = true := by
      obtain ⟨i, hi⟩ := List.mem_iff_getElem?.1 hmem
      exact ring_valid hr hi
    have hok := next_ok hr hlast hsec hd
    have hsb : 1 ≤ la.serial ∧ la.serial ≤ 2147483648 := by rw [KeyD.valid_iff] at hlav; omega
    obtain ⟨hs1, hs2⟩ := hsb
    replace hof := hide hof
    replace hgl := hide hgl
    replace hfind := hide hfind
    replace hok := hide hok
    clear hle hne hmem hlav
    have z0 : (0 : Int) ≤ (n : Int) := by omega
    cases hv : (nextK la p secret d).valid with
    | false =>
      obtain ⟨e1, e2⟩ := rot_invalid hlast hv
      rw [e1, e2]
      clear e1 e2
      replace hlast := hide hlast
      replace hpa := hide hpa
      go_enter Tryd.func29, Tryd.ntmps29
      go_wp2_with (first
        | (go_at_call 37; refine (hof.out _ hl).mono ?_; rintro e w2 ⟨B, rfl, L2, hb2⟩; obtain ⟨b, off, eB, hbl, hkc⟩ := Ks.get L2 hgl.out; rw [eB]; have eB2 := hide eB; clear eB)
        | (refine vl_load_at b (off + n * 5) (kC la) _ (by rfl) hkc Tryd.underlying24 (by rfl) (hk5 _).out ?_; simp only [kC]; (try simp only [Act.put, List.setIfInBounds_toArray, List.set_cons_zero, List.set_cons_succ]))
        | (refine vl_store w2.heap.size 24 (kC la) (kC (key0 0 0)) (by rfl) (by rfl) (Blk.new w2 _ _) (hk5 _).out (hkl _ _).out (hko _).out ?_; rw [setRow_alloc]; have X3 := Blk.new w2 (kC la) 24; have B3 := ext_alloc hb2 (.cells (kC la).toArray 24); generalize w2.alloc (.cells (kC la).toArray 24) = w3 at *; obtain ⟨c0, c1, c2, c3, c4⟩ := kbox X3; (try simp only [Act.put, List.setIfInBounds_toArray, List.set_cons_zero, List.set_cons_succ]))
        | (refine vl_store w3.heap.size 24 (kC (nextK la p secret d)) (kC (key0 0 0)) (by rfl) (by rfl) (Blk.new w3 _ _) (hk5 _).out (hkl _ _).out (hko _).out ?_; rw [setRow_alloc]; have X4 := Blk.new w3 (kC (nextK la p secret d)) 24; have B4 := ext_alloc B3 (.cells (kC (nextK la p secret d)).toArray 24); generalize w3.alloc (.cells (kC (nextK la p secret d)).toArray 24) = w4 at *; (try simp only [Act.put, List.setIfInBounds_toArray, List.set_cons_zero, List.set_cons_succ]))
        | (refine vl_load w3.heap.size 24 (kC (nextK la p secret d)) _ (by rfl) X4 Tryd.underlying24 (by rfl) (hk5 _).out ?_; simp only [kC_next]; (try simp only [Act.put, List.setIfInBounds_toArray, List.set_cons_zero, List.set_cons_succ]))
        | (go_at_call 12; refine (valid_any (nextK la p secret d) _ hok.out).mono ?_; rintro e w5 ⟨rfl, hb5⟩; have B5 := ext_trans B4 hb5))
      go_ret2
      exact ⟨_, rfl, nil_ksf _, B5⟩
    | true =>
      by_cases hdf : d ≤ la.fr
      · obtain ⟨e1, e2⟩ := rot_time hlast hv hdf
        rw [e1, e2]
        clear e1 e2
        replace hlast := hide hlast
        replace hpa := hide hpa
        go_enter Tryd.func29, Tryd.ntmps29
        go_wp2_with (first
          | (go_at_call 37; refine (hof.out _ hl).mono ?_; rintro e w2 ⟨B, rfl, L2, hb2⟩; obtain ⟨b, off, eB, hbl, hkc⟩ := Ks.get L2 hgl.out; rw [eB]; have eB2 := hide eB; clear eB)
          | (refine vl_load_at b (off + n * 5) (kC la) _ (by rfl) hkc Tryd.underlying24 (by rfl) (hk5 _).out ?_; simp only [kC]; (try simp only [Act.put, List.setIfInBounds_toArray, List.set_cons_zero, List.set_cons_succ]))
          | (refine vl_store w2.heap.size 24 (kC la) (kC (key0 0 0)) (by rfl) (by rfl) (Blk.new w2 _ _) (hk5 _).out (hkl _ _).out (hko _).out ?_; rw [setRow_alloc]; have X3 := Blk.new w2 (kC la) 24; have B3 := ext_alloc hb2 (.cells (kC la).toArray 24); generalize w2.alloc (.cells (kC la).toArray 24) = w3 at *; obtain ⟨c0, c1, c2, c3, c4⟩ := kbox X3; (try simp only [Act.put, List.setIfInBounds_toArray, List.set_cons_zero, List.set_cons_succ]))
          | (refine vl_store w3.heap.size 24 (kC (nextK la p secret d)) (kC (key0 0 0)) (by rfl) (by rfl) (Blk.new w3 _ _) (hk5 _).out (hkl _ _).out (hko _).out ?_; rw [setRow_alloc]; have X4 := Blk.new w3 (kC (nextK la p secret d)) 24; have Y4 := X3.alloc (.cells (kC (nextK la p secret d)).toArray 24); have B4 := ext_alloc B3 (.cells (kC (nextK la p secret d)).toArray 24); generalize w3.alloc (.cells (kC (nextK la p secret d)).toArray 24) = w4 at *; (try simp only [Act.put, List.setIfInBounds_toArray, List.set_cons_zero, List.set_cons_succ]))
          | (refine vl_load w3.heap.size 24 (kC (nextK la p secret d)) _ (by rfl) X4 Tryd.underlying24 (by rfl) (hk5 _).out ?_; simp only [kC_next]; (try simp only [Act.put, List.setIfInBounds_toArray, List.set_cons_zero, List.set_cons_succ]))
          | (go_at_call 12; refine (valid_any (nextK la p secret d) _ hok.out).mono ?_; rintro e w5 ⟨rfl, hb5⟩; have B5 := ext_trans B4 hb5; have Y5 := Y4.ext hb5; have X5 := X4.ext hb5; obtain ⟨y0, y1, y2, y3, y4⟩ := kbox Y5))
        go_ret2
        exact ⟨_, rfl, nil_ksf _, B5⟩
      · obtain ⟨e1, e2⟩ := add_rot hr hlast hv hdf
        rw [← e1, ← e2]
        clear e1 e2
        have hend := fun W h => end_keys A cap l la d W h (ring_sorted hr) hn hfind.out
        have hmm := hide (List.mem_iff_getElem?.1 (last_top (ring_sorted hr) hlast).1)
        have hpc : ∃ i, l[i]? = some la ∧ put l (capped la d) = l.set i (capped la d) := by
          obtain ⟨i, hi⟩ := hmm.out
          exact ⟨i, hi, put_capped (ring_sorted hr) hi d⟩
        have hps : sorted (put l (capped la d)) ∧ (put l (capped la d)).length ≤ 1000000 := by
          obtain ⟨i, hi, e⟩ := hpc
          rw [e]
          exact ⟨set_sorted (ring_sorted hr) hi d, by rw [List.length_set]; exact hn⟩
        clear hpc
        replace hmm := hide hmm
        replace hps := hide hps
        replace hend := hide hend
        replace hlast := hide hlast
        replace hpa := hide hpa
        go_enter Tryd.func29, Tryd.ntmps29
        go_wp2_with (first
          | (go_at_call 37; refine (hof.out _ hl).mono ?_; rintro e w2 ⟨B, rfl, L2, hb2⟩; obtain ⟨b, off, eB, hbl, hkc⟩ := Ks.get L2 hgl.out; rw [eB]; have eB2 := hide eB; clear eB)
          | (refine vl_load_at b (off + n * 5) (kC la) _ (by rfl) hkc Tryd.underlying24 (by rfl) (hk5 _).out ?_; simp only [kC]; (try simp only [Act.put, List.setIfInBounds_toArray, List.set_cons_zero, List.set_cons_succ]))
          | (refine vl_store w2.heap.size 24 (kC la) (kC (key0 0 0)) (by rfl) (by rfl) (Blk.new w2 _ _) (hk5 _).out (hkl _ _).out (hko _).out ?_; rw [setRow_alloc]; have X3 := Blk.new w2 (kC la) 24; have B3 := ext_alloc hb2 (.cells (kC la).toArray 24); generalize w2.alloc (.cells (kC la).toArray 24) = w3 at *; obtain ⟨c0, c1, c2, c3, c4⟩ := kbox X3; (try simp only [Act.put, List.setIfInBounds_toArray, List.set_cons_zero, List.set_cons_succ]))
          | (refine vl_store w3.heap.size 24 (kC (nextK la p secret d)) (kC (key0 0 0)) (by rfl) (by rfl) (Blk.new w3 _ _) (hk5 _).out (hkl _ _).out (hko _).out ?_; rw [setRow_alloc]; have X4 := Blk.new w3 (kC (nextK la p secret d)) 24; have Y4 := X3.alloc (.cells (kC (nextK la p secret d)).toArray 24); have B4 := ext_alloc B3 (.cells (kC (nextK la p secret d)).toArray 24); generalize w3.alloc (.cells (kC (nextK la p secret d)).toArray 24) = w4 at *; (try simp only [Act.put, List.setIfInBounds_toArray, List.set_cons_zero, List.set_cons_succ]))
          | (refine vl_load w3.heap.size 24 (kC (nextK la p secret d)) _ (by rfl) X4 Tryd.underlying24 (by rfl) (hk5 _).out ?_; simp only [kC_next]; (try simp only [Act.put, List.setIfInBounds_toArray, List.set_cons_zero, List.set_cons_succ]))
          | (go_at_call 12; refine (valid_any (nextK la p secret d) _ hok.out).mono ?_; rintro e w5 ⟨rfl, hb5⟩; have B5 := ext_trans B4 hb5; have Y5 := Y4.ext hb5; have X5 := X4.ext hb5; obtain ⟨y0, y1, y2, y3, y4⟩ := kbox Y5))
        obtain ⟨nk, hnk⟩ : ∃ nk, nk = nextK la p secret d := ⟨_, rfl⟩
        rw [← hnk] at X5 hok
        have L5 := Ks.below hl B5
        have hnk2 := hide hnk
        clear hnk X4 Y4 X3
        refine wp_region_held_drew (S := (fun w' => (w'.cell? ⟨w2.heap.size, 0, none⟩ = some (.int .i64 la.party) ∧ w'.cell? ⟨w2.heap.size, 1, none⟩ = some (.int .i64 la.serial) ∧ w'.cell? ⟨w2.heap.size, 2, none⟩ = some (.string la.secret) ∧ w'.cell? ⟨w2.heap.size, 3, none⟩ = some (.int .i64 la.fr) ∧ w'.cell? ⟨w2.heap.size, 4, none⟩ = some (.int .i64 la.to)) ∧ (w'.cell? ⟨w3.heap.size, 0, none⟩ = some (.int .i64 nk.party) ∧ w'.cell? ⟨w3.heap.size, 1, none⟩ = some (.int .i64 nk.serial) ∧ w'.cell? ⟨w3.heap.size, 2, none⟩ = some (.string nk.secret) ∧ w'.cell? ⟨w3.heap.size, 3, none⟩ = some (.int .i64 nk.fr) ∧ w'.cell? ⟨w3.heap.size, 4, none⟩ = some (.int .i64 nk.to)))) (by kernel_rfl) (⟨kbox Y5, kbox X5⟩) (fun hHeld => ?_)
        (refine wpAnyH_take (i := 0) (oi := ⟨some 41, _, _, _, _, _⟩) (v := ?_) rfl (by kernel_rfl) (by kernel_rfl) (by kernel_rfl) (fun _ _ _ h => h) (Or.inl ⟨by kernel_rfl, ?_⟩) hHeld ?_; rotate_left; (focus (intro wS hSw; (try dsimp only at hSw); go_simp; (try with_reducible rfl); done)); (try simp only [Act.put, List.setIfInBounds_toArray, List.set_cons_zero, List.set_cons_succ]); refine wpAnyH_take (i := 1) (oi := ⟨some 42, _, _, _, _, _⟩) (v := ?_) rfl (by kernel_rfl) (by kernel_rfl) (by kernel_rfl) (fun _ _ _ h => h) (Or.inl ⟨by kernel_rfl, ?_⟩) hHeld ?_; rotate_left; (focus (intro wS hSw; (try dsimp only at hSw); go_simp; (try with_reducible rfl); done)); (try simp only [Act.put, List.setIfInBounds_toArray, List.set_cons_zero, List.set_cons_succ]); refine wpAnyH_take (i := 2) (oi := ⟨some 43, _, _, _, _, _⟩) (v := ?_) rfl (by kernel_rfl) (by kernel_rfl) (by kernel_rfl) (fun _ _ _ h => h) (Or.inl ⟨by kernel_rfl, ?_⟩) hHeld ?_; rotate_left; (focus (intro wS hSw; (try dsimp only at hSw); go_simp; (try with_reducible rfl); done)); (try simp only [Act.put, List.setIfInBounds_toArray, List.set_cons_zero, List.set_cons_succ]); refine wpAnyH_take (i := 4) (oi := ⟨some 45, _, _, _, _, _⟩) (v := ?_) rfl (by kernel_rfl) (by kernel_rfl) (by kernel_rfl) (fun _ _ _ h => h) (Or.inl ⟨by kernel_rfl, ?_⟩) hHeld ?_; rotate_left; (focus (intro wS hSw; (try dsimp only at hSw); go_simp; (try with_reducible rfl); done)); (try simp only [Act.put, List.setIfInBounds_toArray, List.set_cons_zero, List.set_cons_succ]))
        (refine wpAnyH_ready (rs := [3]) (by kernel_rfl) (by simp) ?_; refine AllReadyH.cons (o := ⟨some 44, _, _, _, _, _⟩) rfl (fun K hK => ?_) AllReadyH.nil; go_simp)
        refine (hend.out _ (Rd.drew L5)).mono ?_
        rintro e w6 ⟨v6, rfl, F6, hb6⟩
        have Y6 := Y5.drew.ext hb6
        have X6 := X5.drew.ext hb6
        have B6 := ext_trans (ext_drew B5) hb6
        obtain ⟨A6, cap6, e6, K6, q1, q2, q3⟩ := F6
        rw [e6]
        clear e6
        (refine hK.out _ _ (⟨kbox Y6, kbox X6⟩) (fun hHeld => ?_); clear hK K; (try simp only [Act.put, List.setIfInBounds_toArray, List.set_cons_zero, List.set_cons_succ]))
        (refine wpAnyH_ready (rs := [5]) (by kernel_rfl) (by simp) ?_; refine AllReadyH.cons (o := ⟨some 46, _, _, _, _, _⟩) rfl (fun K hK => ?_) AllReadyH.nil; go_simp)
        refine (add_keys A6 cap6 (put l (capped la d)) nk _ K6 hps.out.1 hok.out hps.out.2 q1 q2 q3).mono ?_
        rintro e w7 ⟨v7, rfl, F7, hb7⟩
        have Y7 := Y6.ext hb7
        have X7 := X6.ext hb7
        have B7 := ext_trans B6 hb7
        (refine hK.out _ _ (⟨kbox Y7, kbox X7⟩) (fun hHeld => ?_); clear hK K; (try simp only [Act.put, List.setIfInBounds_toArray, List.set_cons_zero, List.set_cons_succ]))
        (refine wpAnyH_take (i := 6) (oi := ⟨some 47, _, _, _, _, _⟩) (v := ?_) rfl (by kernel_rfl) (by kernel_rfl) (by kernel_rfl) (fun _ _ _ h => h) (Or.inl ⟨by kernel_rfl, ?_⟩) hHeld ?_; rotate_left; (focus (intro wS hSw; (try dsimp only at hSw); go_simp; (try with_reducible rfl); done)); (try simp only [Act.put, List.setIfInBounds_toArray, List.set_cons_zero, List.set_cons_succ]); refine wpAnyH_take (i := 7) (oi := ⟨some 48, _, _, _, _, _⟩) (v := ?_) rfl (by kernel_rfl) (by kernel_rfl) (by kernel_rfl) (fun _ _ _ h => h) (Or.inl ⟨by kernel_rfl, ?_⟩) hHeld ?_; rotate_left; (focus (intro wS hSw; (try dsimp only at hSw); go_simp; (try with_reducible rfl); done)); (try simp only [Act.put, List.setIfInBounds_toArray, List.set_cons_zero, List.set_cons_succ]); refine wpAnyH_take (i := 8) (oi := ⟨some 8, _, _, _, _, _⟩) (v := ?_) rfl (by kernel_rfl) (by kernel_rfl) (by kernel_rfl) (fun _ _ _ h => h) (Or.inl ⟨by kernel_rfl, ?_⟩) hHeld ?_; rotate_left; (focus (intro wS hSw; (try dsimp only at hSw); go_simp; (try with_reducible rfl); done)); (try simp only [Act.put, List.setIfInBounds_toArray, List.set_cons_zero, List.set_cons_succ]); refine wpAnyH_take (i := 9) (oi := ⟨some 9, _, _, _, _, _⟩) (v := ?_) rfl (by kernel_rfl) (by kernel_rfl) (by kernel_rfl) (fun _ _ _ h => h) (Or.inl ⟨by kernel_rfl, ?_⟩) hHeld ?_; rotate_left; (focus (intro wS hSw; (try dsimp only at hSw); go_simp; (try with_reducible rfl); done)); (try simp only [Act.put, List.setIfInBounds_toArray, List.set_cons_zero, List.set_cons_succ]))
        (refine wpAnyH_done (by kernel_rfl) ?_ _)
        go_wp2_with fail
        go_ret2
        have e := hnk2.out
        subst e
        exact ⟨_, rfl, F7, B7⟩
/-- what Revoke returns -/
def revE (l : List KeyD) (p s d : Int) : Int := match find l p s with
  | none => 5
  | some k => if d ≤ k.fr then 9 else 0
def revL (l : List KeyD) (p s d : Int) : List KeyD := match find l p s with
  | none => []
  | some k => if d ≤ k.fr then [] else put l (capped k d)
theorem rev_none {l : List KeyD} {p s : Int} (h : find l p s = none) (d : Int) : revE l p s d = 5 ∧ revL l p s d = [] := by unfold revE revL; rw [h]; exact ⟨rfl, rfl⟩
theorem rev_time {l : List KeyD} {p s d : Int} {k : KeyD} (h : find l p s = some k) (hd : d ≤ k.fr) : revE l p s d = 9 ∧ revL l p s d = [] := by unfold revE revL; rw [h]; simp [hd]
theorem rev_ok {l : List KeyD} {p s d : Int} {k : KeyD} (h : find l p s = some k) (hd : ¬ d ≤ k.fr) : revE l p s d = 0 ∧ revL l p s d = put l (capped k d) := by unfold revE revL; rw [h]; simp [hd]
attribute [irreducible] revE revL
theorem find_self {l : List KeyD} {p s : Int} {k : KeyD} (h : find l p s = some k) : k.party = p ∧ k.serial = s := by
  unfold find at h
  have := List.find?_some h
  rwa [KeyD.is_iff] at this
set_option maxRecDepth 100000 in
set_option maxHeartbeats 4000000 in
theorem revoke_keys (A : Option Addr) (cap : Nat) (l : List KeyD) (p s d : Int) (w : World) (hl : Ks w A l) (hr : ring l = true) (hn : l.length ≤ 1000000) :
    Calls Tryd.prog 30 #[.slice A l.length cap, .int .i64 p, .int .i64 s, .int .i64 d] w fun e w' => ∃ v, e = .returned (.tuple #[v, .int .i64 (revE l p s d)]) ∧ KsF w' v (revL l p s d) ∧ Below w.heap.size w w' := by
  have hk5 := fun k => hide (kC_size k)
  have hkl := fun a b => hide (kC_len a b)
  have hko := fun k => hide (kC_ones k)
  have hfc := fun W h => find_any A cap l p s W h (ring_sorted hr) hn
  cases hf : find l p s with
  | none =>
    obtain ⟨e1, e2⟩ := rev_none hf d
    rw [e1, e2]
    rw [findK_none hf, findE_none hf] at hfc
    replace hfc := hide hfc
    clear e1 e2 hf
    go_enter Tryd.func30, Tryd.ntmps30
    go_wp2_with (first
      | (go_at_call 15; refine (hfc.out _ hl).mono ?_; rintro e w2 ⟨rfl, hb2⟩; unfold kV)
      | (refine vl_store w2.heap.size 24 (kC (key0 0 0)) (kC (key0 0 0)) (by rfl) (by rfl) (Blk.new w2 _ _) (hk5 _).out (hkl _ _).out (hko _).out ?_; rw [setRow_alloc]; have B3 := ext_alloc hb2 (.cells (kC (key0 0 0)).toArray 24); generalize w2.alloc (.cells (kC (key0 0 0)).toArray 24) = w3 at *; (try simp only [Act.put, List.setIfInBounds_toArray, List.set_cons_zero, List.set_cons_succ])))
    go_ret2
    exact ⟨_, rfl, nil_ksf _, B3⟩
  | some k =>
    obtain ⟨hkp, hks⟩ := find_self hf
    rw [findK_some hf, findE_some hf] at hfc
    replace hfc := hide hfc
    by_cases hd : d ≤ k.fr
    · obtain ⟨e1, e2⟩ := rev_time hf hd
      rw [e1, e2]
      clear e1 e2 hf hkp hks
      go_enter Tryd.func30, Tryd.ntmps30
      go_wp2_with (first
        | (go_at_call 15; refine (hfc.out _ hl).mono ?_; rintro e w2 ⟨rfl, hb2⟩; unfold kV)
        | (refine vl_store w2.heap.size 24 (kC k) (kC (key0 0 0)) (by rfl) (by rfl) (Blk.new w2 _ _) (hk5 _).out (hkl _ _).out (hko _).out ?_; rw [setRow_alloc]; have X3 := Blk.new w2 (kC k) 24; have B3 := ext_alloc hb2 (.cells (kC k).toArray 24); generalize w2.alloc (.cells (kC k).toArray 24) = w3 at *; obtain ⟨c0, c1, c2, c3, c4⟩ := kbox X3; (try simp only [Act.put, List.setIfInBounds_toArray, List.set_cons_zero, List.set_cons_succ])))
      go_ret2
      exact ⟨_, rfl, nil_ksf _, B3⟩
    · obtain ⟨e1, e2⟩ := rev_ok hf hd
      rw [e1, e2]
      have hend := fun W h => end_keys A cap l k d W h (ring_sorted hr) hn (by rw [hkp, hks]; exact hf)
      replace hend := hide hend
      clear e1 e2 hf hkp hks
      go_enter Tryd.func30, Tryd.ntmps30
      go_wp2_with (first
        | (go_at_call 15; refine (hfc.out _ hl).mono ?_; rintro e w2 ⟨rfl, hb2⟩; unfold kV)
        | (refine vl_store w2.heap.size 24 (kC k) (kC (key0 0 0)) (by rfl) (by rfl) (Blk.new w2 _ _) (hk5 _).out (hkl _ _).out (hko _).out ?_; rw [setRow_alloc]; have X3 := Blk.new w2 (kC k) 24; have B3 := ext_alloc hb2 (.cells (kC k).toArray 24); generalize hw3 : w2.alloc (.cells (kC k).toArray 24) = w3 at *; clear hw3; have L3 := Ks.below hl B3; obtain ⟨c0, c1, c2, c3, c4⟩ := kbox X3; (try simp only [Act.put, List.setIfInBounds_toArray, List.set_cons_zero, List.set_cons_succ]))
        | (refine vl_load w2.heap.size 24 (kC k) _ (by rfl) X3 Tryd.underlying24 (by rfl) (hk5 _).out ?_; simp only [kC]; (try simp only [Act.put, List.setIfInBounds_toArray, List.set_cons_zero, List.set_cons_succ]))
        | (go_at_call 45; refine (hend.out _ L3).mono ?_; rintro e w4 ⟨v4, rfl, F4, hb4⟩; have B4 := ext_trans B3 hb4))
      go_ret2
      exact ⟨_, rfl, F4, B4⟩
end Go.Proofs.YtbccfgeepdmegaaDoor
