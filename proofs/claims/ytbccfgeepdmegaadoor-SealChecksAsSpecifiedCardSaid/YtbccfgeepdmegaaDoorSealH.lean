/- Walk: of. Plain: the segment of a party; Current. -/
import Derived.Test.YtbccfgeepdmegaaDoorSealG
set_option linter.unusedVariables false
set_option linter.unusedSimpArgs false
set_option linter.unnecessarySimpa false
namespace Go.Proofs.YtbccfgeepdmegaaDoor
open Go Go.RowKit Mem
attribute [local go_sem ↓] Go.wp_at_zero Go.wp_at_succ veil_lk veil_sk
/-- the keys of a party -/
def ofD (l : List KeyD) (p : Int) : List KeyD := l.filter (fun k => decide (k.party = p))
theorem ofD_seg {l : List KeyD} (hr : ring l = true) {p : Int} {i j : Nat} (hi : IsPlace l p 0 i) (hij : i ≤ j) (hj : j ≤ l.length) (hm : ∀ x k, i ≤ x → x < j → l[x]? = some k → k.party = p) (he : ∀ k, l[j]? = some k → k.party ≠ p) : ofD l p = (l.drop i).take (j - i) := by
  have e1 : l = l.take i ++ ((l.drop i).take (j - i) ++ l.drop j) := by
    have : (l.drop i).drop (j - i) = l.drop j := by rw [List.drop_drop]; congr 1; omega
    rw [← this, List.take_append_drop, List.take_append_drop]
  have f1 : (l.take i).filter (fun k => decide (k.party = p)) = [] := by
    rw [List.filter_eq_nil_iff]
    intro a ha
    obtain ⟨x, hx, rfl⟩ := List.mem_iff_getElem.mp ha
    simp only [List.length_take] at hx
    have hxl : x < l.length := by omega
    have hx1 : l[x]? = some l[x] := List.getElem?_eq_getElem hxl
    have hb := hi.lo x _ (by omega) hx1
    have hv := ring_valid hr hx1
    rw [KeyD.before_iff] at hb
    rw [KeyD.valid_iff] at hv
    simp only [List.getElem_take, decide_eq_true_eq]
    omega
  have f2 : ((l.drop i).take (j - i)).filter (fun k => decide (k.party = p)) = (l.drop i).take (j - i) := by
    rw [List.filter_eq_self]
    intro a ha
    obtain ⟨x, hx, rfl⟩ := List.mem_iff_getElem.mp ha
    simp only [List.length_take, List.length_drop] at hx
    have hxl : i + x < l.length := by omega
    simp only [List.getElem_take, List.getElem_drop, decide_eq_true_eq]
    exact hm (i + x) _ (by omega) (by omega) (List.getElem?_eq_getElem hxl)
  have f3 : (l.drop j).filter (fun k => decide (k.party = p)) = [] := by
    rw [List.filter_eq_nil_iff]
    intro a ha
    obtain ⟨x, hx, rfl⟩ := List.mem_iff_getElem.mp ha
    simp only [List.length_drop] at hx
    have hxl : j + x < l.length := by omega
    have hjl : j < l.length := by omega
    simp only [List.getElem_drop, decide_eq_true_eq]
    have hj1 : l[j]? = some l[j] := List.getElem?_eq_getElem hjl
    have hnb := hi.hi j _ hij hj1
    have hne := he _ hj1
    rw [← Bool.not_eq_true, KeyD.before_iff] at hnb
    by_cases hx0 : x = 0
    · subst hx0; exact hne
    · have hlt := ring_lt hr (show j < j + x by omega) hj1 (List.getElem?_eq_getElem hxl)
      rw [KeyD.lt_iff] at hlt
      omega
  unfold ofD
  conv => lhs; rw [e1]
  rw [List.filter_append, List.filter_append, f1, f2, f3]; simp
/-- Current, by the segment -/
def curS (seg : List KeyD) (d : Int) : KeyD × Int := match seg.reverse.find? (fun k => k.counts d) with
  | some k => (k, 0)
  | none => (key0 0 0, if seg = [] then 5 else 9)
theorem curS_snoc (seg : List KeyD) (k : KeyD) (d : Int) : curS (seg ++ [k]) d = if k.counts d then (k, 0) else if (curS seg d).2 = 5 then ((curS seg d).1, 9) else curS seg d := by
  unfold curS
  rw [List.reverse_append, List.reverse_singleton, List.singleton_append, List.find?_cons]
  cases hc : k.counts d with
  | true => simp
  | false =>
    simp only [Bool.false_eq_true, if_false]
    cases hf : seg.reverse.find? (fun k => k.counts d) with
    | some a => simp
    | none =>
      by_cases he : seg = []
      · subst he; simp
      · simp [he]
theorem curD_snoc (l : List KeyD) (k : KeyD) (p d : Int) : curD (l ++ [k]) p d = curStep p d (curD l p d) k := by
  have h := curD_take (l := l ++ [k]) (p := p) (d := d) (i := l.length) (k := k) (by simp)
  rw [List.take_of_length_le (by simp), List.take_left] at h
  exact h
theorem curD_eq (l : List KeyD) (p d : Int) : curD l p d = curS (ofD l p) d := by
  suffices h : ∀ n : Nat, n ≤ l.length → curD (l.take n) p d = curS (ofD (l.take n) p) d by
    have := h l.length (Nat.le_refl _); rwa [List.take_length] at this
  intro n
  induction n with
  | zero => intro _; rw [List.take_zero, curD_nil]; rfl
  | succ n ih =>
    intro hn
    have hl : n < l.length := by omega
    have e := ih (by omega)
    rw [List.take_succ_eq_append_getElem hl, curD_snoc, e]
    unfold curStep
    by_cases hp : l[n].party = p
    · rw [if_pos hp]
      have e2 : ofD (l.take n ++ [l[n]]) p = ofD (l.take n) p ++ [l[n]] := by unfold ofD; rw [List.filter_append]; simp [hp]
      rw [e2, curS_snoc]
    · rw [if_neg hp]
      have e2 : ofD (l.take n ++ [l[n]]) p = ofD (l.take n) p := by unfold ofD; rw [List.filter_append]; simp [hp]
      rw [e2]
theorem ks_seg_nil {w : World} {B : Option Addr} {l : List KeyD} {i n : Nat} (h : n = 0) : Ks w B ((l.drop i).take n) := by
  subst h; intro hn; simp [keysC] at hn
theorem at_seg {w : World} {b off : Nat} {l : List KeyD} (h : At w b off (keysC l)) (i n : Nat) : At w b (off + i * 5) (keysC ((l.drop i).take n)) := by
  have := h.sub (i * 5) (n * 5)
  rwa [keysC_drop, keysC_take] at this
theorem ks_ne {l : List KeyD} {i n : Nat} (h : 0 < (keysC ((l.drop i).take n)).length) : 0 < (keysC l).length := by
  rw [keysC_length, List.length_take, List.length_drop] at h
  rw [keysC_length]; omega
theorem ks_seg_some {w : World} {b off : Nat} {l : List KeyD} (h : Ks w (some ⟨b, off, none⟩) l) (i n : Nat) : Ks w (some ⟨b, off + i * 5, none⟩) ((l.drop i).take n) := fun hn => by
  obtain ⟨b', off', e, hat⟩ := h (ks_ne hn)
  cases e
  exact ⟨b, off + i * 5, rfl, at_seg hat i n⟩
theorem ks_seg_map {w : World} {A : Option Addr} {l : List KeyD} (h : Ks w A l) (i n : Nat) : Ks w (Option.map (fun x => x.add (i * 5)) A) ((l.drop i).take n) := fun hn => by
  obtain ⟨b, off, rfl, hat⟩ := h (ks_ne hn)
  exact ⟨b, off + i * 5, by simp only [Option.map_some, add_at], at_seg hat i n⟩
set_option maxRecDepth 100000 in
set_option maxHeartbeats 4000000 in
theorem of_keys (A : Option Addr) (cap : Nat) (l : List KeyD) (p : Int) (w : World) (hl : Ks w A l) (hr : ring l = true) (hn : l.length ≤ 1000000) (hcap : l.length ≤ cap) (hc2 : cap ≤ 9223372036854775807) :
    Calls Tryd.prog 37 #[.slice A l.length cap, .int .i64 p] w fun e w' => ∃ B, e = .returned (.slice B (ofD l p).length (ofD l p).length) ∧ Ks w' B (ofD l p) ∧ Below w.heap.size w w' := by
  have hpl := fun W h => place_any A cap l p 0 W h (ring_sorted hr) hn
  replace hpl := hide hpl
  replace hr := hide hr
  go_enter Tryd.func37, Tryd.ntmps37
  go_wp2_with (go_at_call 36; refine (hpl.out _ hl).mono ?_; rintro e w2 ⟨i, hi, rfl, hb⟩; have L2 := Ks.below hl hb; have hil := hi.le; replace hi := hide hi; have i0 : (0 : Int) ≤ (i : Int) := by omega)
  go_loop [7] (fun a => ∃ j : Nat, a = .int .i64 j ∧ i ≤ j ∧ j ≤ l.length ∧ Hid (∀ x k, i ≤ x → x < j → l[x]? = some k → k.party = p)) (fun a => l.length - (intOf a).toNat)
  case atStart => exact ⟨i, rfl, Nat.le_refl _, hil, hide (fun x k h1 h2 => absurd h2 (by omega))⟩
  case round =>
    obtain ⟨j, rfl, hij, hj, hm⟩ := hrel
    have j0 : (0 : Int) ≤ (j : Int) := by omega
    have ij : (i : Int) ≤ (j : Int) := by omega
    have jc : (j : Int) ≤ (cap : Int) := by omega
    have jn : j ≤ cap := by omega
    by_cases hlt : j < l.length
    · have hlt' : (j : Int) < (l.length : Int) := by omega
      obtain ⟨k, hk⟩ : ∃ k, l[j]? = some k := ⟨l[j], List.getElem?_eq_getElem hlt⟩
      obtain ⟨b, off, hA, hbl, hkc⟩ := Ks.get L2 hk
      obtain ⟨c0, _⟩ := kcell hkc
      replace hk := hide hk
      by_cases hp : k.party = p
      · have hp' : (k.party == p) = true := by simpa using hp
        replace hp := hide hp
        subst hA
        go_wp2_with fail
        go_round
        case rel => exact ⟨j + 1, by go_num, by omega, by omega, hide (fun x y h1 h2 hy => by
          by_cases e : x = j
          · subst e; rw [hk.out] at hy; cases hy; exact hp.out
          · exact hm.out x y h1 (by omega) hy)⟩
        case measure => simp [intOf]; omega
      · have hp' : (k.party == p) = false := by simpa using hp
        have hseg := hide (ofD_seg hr.out hi.out hij hj hm.out (fun y hy => by rw [hk.out] at hy; cases hy; exact hp))
        subst hA
        go_wp2_with fail
        all_goals
          go_ret
          have e1 := hseg.out
          have e2 : (ofD l p).length = j - i := by rw [e1, List.length_take, List.length_drop]; omega
          refine ⟨_, by first | (rw [e2]; rfl) | (rw [e2, Nat.sub_eq_zero_of_le (by omega)]; rfl), ?_, hb⟩
          rw [e1]
          first
            | exact ks_seg_map L2 _ _
            | exact ks_seg_some L2 _ _
            | exact ks_seg_nil (by omega)
    · obtain rfl : j = l.length := by omega
      have hseg := hide (ofD_seg hr.out hi.out hij hj hm.out (fun y hy => by rw [List.getElem?_eq_none (Nat.le_refl _)] at hy; cases hy))
      go_wp2_with fail
      all_goals
        go_ret
        have e1 := hseg.out
        have e2 : (ofD l p).length = l.length - i := by rw [e1, List.length_take, List.length_drop]; omega
        refine ⟨_, by first | (rw [e2]; rfl) | (rw [e2, Nat.sub_eq_zero_of_le (by omega)]; rfl), ?_, hb⟩
        rw [e1]
        first
          | exact ks_seg_map L2 _ _
          | exact ks_seg_some L2 _ _
          | exact ks_seg_nil (by omega)
end Go.Proofs.YtbccfgeepdmegaaDoor
