/- Walks: the reference's Find, Last, Current. -/
import Derived.Test.YtbccfgeepdmegaaDoorSealF
set_option linter.unusedVariables false
set_option linter.unusedSimpArgs false
set_option linter.unnecessarySimpa false
namespace Go.Proofs.YtbccfgeepdmegaaDoor
open Go Go.RowKit Mem
theorem veil_ld37 {d : Option Tmp} {x : Operand} {t : TypeId} {p : String} {af : Array Edge} {a : Act} {w : World} {K : Act → World → Prop} {Q : Exit → Act → World → Prop} : Oper.wp Tryd.prog ⟨d, .load 37 x, t, p, af, none⟩ a w K Q = Vlt Tryd.prog ⟨d, .load 37 x, t, p, af, none⟩ a w K Q := vl_eq
theorem veil_st37 {d : Option Tmp} {x y : Operand} {t : TypeId} {p : String} {af : Array Edge} {a : Act} {w : World} {K : Act → World → Prop} {Q : Exit → Act → World → Prop} : Oper.wp Tryd.prog ⟨d, .store 37 x y, t, p, af, none⟩ a w K Q = Vlt Tryd.prog ⟨d, .store 37 x y, t, p, af, none⟩ a w K Q := vl_eq
attribute [local go_sem ↓] Go.wp_at_zero Go.wp_at_succ veil_lk veil_sk veil_ld37 veil_st37
/-- a key and an error -/
def keyedC (k : KeyD) (e : Int) : List Value := kC k ++ [.int .i64 e]
theorem keyedC_ones (k : KeyD) (e : Int) : ones (keyedC k e) := fun v hv => by
  rcases List.mem_append.1 hv with hv | hv
  · exact kC_ones k v hv
  · simp only [List.mem_singleton] at hv; subst hv; rfl
theorem keyedC_size (k : KeyD) (e : Int) : (Tryd.prog.info? 37).map (·.size) = some (keyedC k e).length := by show _ = some 6; kernel_rfl
theorem keyedC_len (a b : KeyD) (e f : Int) : (keyedC a e).length = (keyedC b f).length := rfl
theorem find_scan {l : List KeyD} {p s : Int} {i : Nat} {k : KeyD} (h : ∀ x y, x < i → l[x]? = some y → y.is p s = false) (hk : l[i]? = some k) (hi : k.is p s = true) : find l p s = some k := by
  unfold find
  rw [List.find?_eq_some_iff_getElem]
  obtain ⟨hlt, rfl⟩ := List.getElem?_eq_some_iff.mp hk
  exact ⟨hi, i, hlt, rfl, fun j hj => by rw [h j _ hj (List.getElem?_eq_getElem (by omega))]; rfl⟩
theorem find_scan_none {l : List KeyD} {p s : Int} (h : ∀ x y, x < l.length → l[x]? = some y → y.is p s = false) : find l p s = none := by
  unfold find
  rw [List.find?_eq_none]
  intro k hk
  obtain ⟨j, hj, rfl⟩ := List.mem_iff_getElem.mp hk
  rw [h j _ hj (List.getElem?_eq_getElem hj)]; decide
theorem scan_next {l : List KeyD} {i : Nat} {k : KeyD} {q : KeyD → Prop} (h : ∀ x y, x < i → l[x]? = some y → q y) (hk : l[i]? = some k) (hq : q k) : ∀ x y, x < i + 1 → l[x]? = some y → q y := by
  intro x y hx hy
  by_cases e : x = i
  · subst e; rw [hk] at hy; cases hy; exact hq
  · exact h x y (by omega) hy
theorem is_t {k : KeyD} {p s : Int} (h1 : k.party = p) (h2 : k.serial = s) : k.is p s = true := (KeyD.is_iff _ _ _).2 ⟨h1, h2⟩
theorem is_f {k : KeyD} {p s : Int} (h : ¬ (k.party = p ∧ k.serial = s)) : k.is p s = false := by rw [← Bool.not_eq_true, KeyD.is_iff]; exact h
set_option maxRecDepth 100000 in
set_option maxHeartbeats 2000000 in
theorem rfind_any (A : Option Addr) (cap : Nat) (l : List KeyD) (p s : Int) (w : World) (hl : Ks w A l) (hn : l.length ≤ 1000000) :
    Calls Tryd.prog 18 #[.slice A l.length cap, .int .i64 p, .int .i64 s] w fun e w' => e = .returned (.agg (keyedC (findK l p s) (findE l p s)).toArray) ∧ Below w.heap.size w w' := by
  have hks := fun k e => hide (keyedC_size k e)
  have hkl := fun a b e f => hide (keyedC_len a b e f)
  have hko := fun k e => hide (keyedC_ones k e)
  have hk5 := fun k => hide (kC_size k)
  have hb := (Below.refl w.heap.size w).alloc (Nat.le_refl _) (.cells (keyedC (key0 0 0) 0).toArray 37)
  have hB : Blk _ _ 37 _ := Blk.new w (keyedC (key0 0 0) 0) 37
  have hL := Rd.alloc hl (.cells (keyedC (key0 0 0) 0).toArray 37)
  go_enter Tryd.func18, Tryd.ntmps18
  go_wp2_with fail
  obtain ⟨W, hW⟩ : ∃ W, W = w.alloc (.cells (keyedC (key0 0 0) 0).toArray 37) := ⟨_, rfl⟩
  change Code.wp _ _ _ _ (w.alloc (.cells (keyedC (key0 0 0) 0).toArray 37))
  rw [← hW] at hb hB hL ⊢
  clear hW hl
  go_loop [7] (fun a => ∃ i : Nat, a = .int .i64 i ∧ i ≤ l.length ∧ Hid (∀ x y, x < i → l[x]? = some y → y.is p s = false)) (fun a => l.length - (intOf a).toNat)
  case atStart => exact ⟨0, rfl, Nat.zero_le _, hide (fun x y hx => absurd hx (by omega))⟩
  case round =>
    obtain ⟨i, rfl, hil, hsc⟩ := hrel
    by_cases hlt : i < l.length
    · have i1 : (i : Int) < (l.length : Int) := by omega
      have i2 : (0 : Int) ≤ (i : Int) := by omega
      obtain ⟨k, hk⟩ : ∃ k, l[i]? = some k := ⟨l[i], List.getElem?_eq_getElem hlt⟩
      obtain ⟨b, off, hA, hbl, hkc⟩ := Ks.get hL hk
      replace hk := hide hk
      subst hA
      obtain ⟨c0, c1, _⟩ := kcell hkc
      by_cases h1 : k.party = p
      · have h1' : (k.party == p) = true := by simpa using h1
        by_cases h2 : k.serial = s
        · have h2' : (k.serial == s) = true := by simpa using h2
          have hf := hide (find_scan hsc.out hk.out (is_t h1 h2))
          replace h1 := hide h1
          replace h2 := hide h2
          go_wp2_with (first
            | (refine vl_load_at b (off + i * 5) (kC k) _ (by rfl) hkc Tryd.underlying24 (by rfl) (hk5 _).out ?_; simp only [kC]; (try simp only [Act.put, List.setIfInBounds_toArray, List.set_cons_zero, List.set_cons_succ]))
            | (refine vl_store w.heap.size 37 (keyedC k 0) (keyedC (key0 0 0) 0) (by rfl) (by rfl) hB (hks _ _).out (hkl _ _ _ _).out (hko _ _).out ?_; (try simp only [Act.put, List.setIfInBounds_toArray, List.set_cons_zero, List.set_cons_succ])))
          exact ret_blk rfl w.heap.size _ _ _ rfl (hB.setRow _) Tryd.underlying37 rfl (hks _ _).out rfl ⟨by rw [findK_some hf.out, findE_some hf.out], below_setRow hb (Nat.le_refl _) _⟩
        · have h2' : (k.serial == s) = false := by simpa using h2
          have hf := hide (is_f (k := k) (p := p) (s := s) (fun h => h2 h.2))
          replace h1 := hide h1
          go_wp2_with fail
          go_round
          case rel => exact ⟨i + 1, by go_num, by omega, hide (scan_next hsc.out hk.out hf.out)⟩
          case measure => simp [intOf]; omega
      · have h1' : (k.party == p) = false := by simpa using h1
        have hf := hide (is_f (k := k) (p := p) (s := s) (fun h => h1 h.1))
        go_wp2_with fail
        go_round
        case rel => exact ⟨i + 1, by go_num, by omega, hide (scan_next hsc.out hk.out hf.out)⟩
        case measure => simp [intOf]; omega
    · obtain rfl : i = l.length := by omega
      have hf := hide (find_scan_none hsc.out)
      go_wp2_with (first
        | (refine vl_store w.heap.size 37 (keyedC (key0 0 0) 5) (keyedC (key0 0 0) 0) (by rfl) (by rfl) hB (hks _ _).out (hkl _ _ _ _).out (hko _ _).out ?_; (try simp only [Act.put, List.setIfInBounds_toArray, List.set_cons_zero, List.set_cons_succ])))
      exact ret_blk rfl w.heap.size _ _ _ rfl (hB.setRow _) Tryd.underlying37 rfl (hks _ _).out rfl ⟨by rw [findK_none hf.out, findE_none hf.out], below_setRow hb (Nat.le_refl _) _⟩
/-- the last key of a party, among the first i -/
def lastD (l : List KeyD) (p : Int) : Option KeyD := l.foldl (fun o k => if k.party = p then some k else o) none
theorem lastD_take {l : List KeyD} {p : Int} {i : Nat} {k : KeyD} (hk : l[i]? = some k) : lastD (l.take (i + 1)) p = if k.party = p then some k else lastD (l.take i) p := by
  obtain ⟨h, rfl⟩ := List.getElem?_eq_some_iff.mp hk
  unfold lastD
  rw [List.take_succ_eq_append_getElem h, List.foldl_append]; rfl
def lastK (o : Option KeyD) : KeyD := o.getD (key0 0 0)
def lastE (o : Option KeyD) : Int := if o.isSome then 0 else 5
theorem lastK_some (k : KeyD) : lastK (some k) = k := rfl
theorem lastE_some (k : KeyD) : lastE (some k) = 0 := rfl
theorem last_nil (p : Int) : lastD [] p = none := rfl
theorem lastK_none : lastK none = key0 0 0 := rfl
theorem lastE_none : lastE none = 5 := rfl
attribute [irreducible] lastD lastK lastE
set_option maxRecDepth 100000 in
set_option maxHeartbeats 2000000 in
theorem rlast_any (A : Option Addr) (cap : Nat) (l : List KeyD) (p : Int) (w : World) (hl : Ks w A l) (hn : l.length ≤ 1000000) :
    Calls Tryd.prog 46 #[.slice A l.length cap, .int .i64 p] w fun e w' => e = .returned (.agg (keyedC (lastK (lastD l p)) (lastE (lastD l p))).toArray) ∧ Below w.heap.size w w' := by
  have hks := fun k e => hide (keyedC_size k e)
  have hkl := fun a b e f => hide (keyedC_len a b e f)
  have hko := fun k e => hide (keyedC_ones k e)
  have hk5 := fun k => hide (kC_size k)
  have hb := below_setRow (((Below.refl w.heap.size w).alloc (Nat.le_refl _) (.cells (keyedC (key0 0 0) 0).toArray 37)).alloc (by simp) (.cells (keyedC (key0 0 0) 0).toArray 37)) (Nat.le_succ _) (keyedC (key0 0 0) 5).toArray
  have hB : Blk _ _ 37 _ := ((Blk.new w (keyedC (key0 0 0) 0) 37).alloc (.cells (keyedC (key0 0 0) 0).toArray 37)).setRow_ne (b' := w.heap.size + 1) (by omega) (keyedC (key0 0 0) 5).toArray
  have hX : Blk _ _ 37 _ := (blk_new1 w (.cells (keyedC (key0 0 0) 0).toArray 37) (keyedC (key0 0 0) 0) 37).setRow (keyedC (key0 0 0) 5)
  have hL := Ks.below hl hb
  go_enter Tryd.func46, Tryd.ntmps46
  go_wp2_with (refine vl_store (w.heap.size + 1) 37 (keyedC (key0 0 0) 5) (keyedC (key0 0 0) 0) (by rfl) (by rfl) (blk_new1 w _ (keyedC (key0 0 0) 0) 37) (hks _ _).out (hkl _ _ _ _).out (hko _ _).out ?_; (try simp only [Act.put, List.setIfInBounds_toArray, List.set_cons_zero, List.set_cons_succ]))
  change Code.wp _ _ _ _ (((w.alloc (.cells (keyedC (key0 0 0) 0).toArray 37)).alloc (.cells (keyedC (key0 0 0) 0).toArray 37)).setRow (w.heap.size + 1) (keyedC (key0 0 0) 5).toArray)
  generalize ((w.alloc (.cells (keyedC (key0 0 0) 0).toArray 37)).alloc (.cells (keyedC (key0 0 0) 0).toArray 37)).setRow (w.heap.size + 1) (keyedC (key0 0 0) 5).toArray = W at *
  go_loopw [6] (fun a wr => ∃ i : Nat, a = .int .i64 i ∧ i ≤ l.length ∧ Below w.heap.size w wr ∧ Blk wr w.heap.size 37 (keyedC (key0 0 0) 0) ∧ Blk wr (w.heap.size + 1) 37 (keyedC (lastK (lastD (l.take i) p)) (lastE (lastD (l.take i) p)))) (fun a _ => l.length - (intOf a).toNat)
  case atStart => exact ⟨0, rfl, Nat.zero_le _, hb, hB, by rw [List.take_zero, last_nil, lastK_none, lastE_none]; exact hX⟩
  case round =>
    clear hb hB hX hL
    obtain ⟨i, rfl, hil, hb, hB, hX⟩ := hrel
    have hL := hl.below hb
    by_cases hlt : i < l.length
    · have i1 : (i : Int) < (l.length : Int) := by omega
      have i2 : (0 : Int) ≤ (i : Int) := by omega
      obtain ⟨k, hk⟩ : ∃ k, l[i]? = some k := ⟨l[i], List.getElem?_eq_getElem hlt⟩
      obtain ⟨b, off, hA, hbl, hkc⟩ := Ks.get hL hk
      have htk := lastD_take (p := p) hk
      replace hk := hide hk
      subst hA
      obtain ⟨c0, c1, _⟩ := kcell hkc
      by_cases h1 : k.party = p
      · have h1' : (k.party == p) = true := by simpa using h1
        rw [if_pos h1] at htk
        replace h1 := hide h1
        replace htk := hide htk
        go_wp2_with (first
          | (refine vl_load_at b (off + i * 5) (kC k) _ (by rfl) hkc Tryd.underlying24 (by rfl) (hk5 _).out ?_; simp only [kC]; (try simp only [Act.put, List.setIfInBounds_toArray, List.set_cons_zero, List.set_cons_succ]))
          | (refine vl_store (w.heap.size + 1) 37 (keyedC k 0) _ (by rfl) (by rfl) hX (hks _ _).out (hkl _ _ _ _).out (hko _ _).out ?_; (try simp only [Act.put, List.setIfInBounds_toArray, List.set_cons_zero, List.set_cons_succ])))
        go_roundw
        case rel => exact ⟨i + 1, by go_num, by omega, below_setRow hb (Nat.le_succ _) _, hB.setRow_ne (by omega) _, by rw [htk.out]; have h := hX.setRow (keyedC k 0); rw [lastK_some, lastE_some]; exact h⟩
        case measure => simp [intOf]; omega
      · have h1' : (k.party == p) = false := by simpa using h1
        rw [if_neg h1] at htk
        replace htk := hide htk
        go_wp2_with fail
        go_roundw
        case rel => exact ⟨i + 1, by go_num, by omega, hb, hB, by rw [htk.out]; exact hX⟩
        case measure => simp [intOf]; omega
    · obtain rfl : i = l.length := by omega
      rw [List.take_length] at hX
      go_wp2_with (first
        | (refine vl_load (w.heap.size + 1) 37 (keyedC (lastK (lastD l p)) (lastE (lastD l p))) _ (by rfl) hX Tryd.underlying37 (by rfl) (hks _ _).out ?_; (try simp only [Act.put, List.setIfInBounds_toArray, List.set_cons_zero, List.set_cons_succ]))
        | (refine vl_store w.heap.size 37 (keyedC (lastK (lastD l p)) (lastE (lastD l p))) (keyedC (key0 0 0) 0) (by rfl) (by rfl) hB (hks _ _).out (hkl _ _ _ _).out (hko _ _).out ?_; (try simp only [Act.put, List.setIfInBounds_toArray, List.set_cons_zero, List.set_cons_succ])))
      exact ret_blk rfl w.heap.size _ _ _ rfl (hB.setRow _) Tryd.underlying37 rfl (hks _ _).out rfl ⟨rfl, below_setRow hb (Nat.le_refl _) _⟩
/-- the reference's Current, one key on -/
def curStep (p d : Int) (o : KeyD × Int) (k : KeyD) : KeyD × Int := if k.party = p then (if k.counts d then (k, 0) else if o.2 = 5 then (o.1, 9) else o) else o
def curD (l : List KeyD) (p d : Int) : KeyD × Int := l.foldl (curStep p d) (key0 0 0, 5)
theorem curD_take {l : List KeyD} {p d : Int} {i : Nat} {k : KeyD} (hk : l[i]? = some k) : curD (l.take (i + 1)) p d = curStep p d (curD (l.take i) p d) k := by
  obtain ⟨h, rfl⟩ := List.getElem?_eq_some_iff.mp hk
  unfold curD
  rw [List.take_succ_eq_append_getElem h, List.foldl_append]; rfl
theorem curD_nil (p d : Int) : curD [] p d = (key0 0 0, 5) := rfl
attribute [irreducible] curD
set_option maxRecDepth 100000 in
set_option maxHeartbeats 4000000 in
theorem rcurrent_any (A : Option Addr) (cap : Nat) (l : List KeyD) (p d : Int) (w : World) (hl : Ks w A l) (hn : l.length ≤ 1000000) :
    Calls Tryd.prog 19 #[.slice A l.length cap, .int .i64 p, .int .i64 d] w fun e w' => e = .returned (.agg (keyedC (curD l p d).1 (curD l p d).2).toArray) ∧ Below w.heap.size w w' := by
  have hks := fun k e => hide (keyedC_size k e)
  have hkl := fun a b e f => hide (keyedC_len a b e f)
  have hko := fun k e => hide (keyedC_ones k e)
  have hk5 := fun k => hide (kC_size k)
  have hb := below_setRow (((Below.refl w.heap.size w).alloc (Nat.le_refl _) (.cells (keyedC (key0 0 0) 0).toArray 37)).alloc (by simp) (.cells (keyedC (key0 0 0) 0).toArray 37)) (Nat.le_succ _) (keyedC (key0 0 0) 5).toArray
  have hB : Blk _ _ 37 _ := ((Blk.new w (keyedC (key0 0 0) 0) 37).alloc (.cells (keyedC (key0 0 0) 0).toArray 37)).setRow_ne (b' := w.heap.size + 1) (by omega) (keyedC (key0 0 0) 5).toArray
  have hX : Blk _ _ 37 _ := (blk_new1 w (.cells (keyedC (key0 0 0) 0).toArray 37) (keyedC (key0 0 0) 0) 37).setRow (keyedC (key0 0 0) 5)
  have hL := Ks.below hl hb
  go_enter Tryd.func19, Tryd.ntmps19
  go_wp2_with (refine vl_store (w.heap.size + 1) 37 (keyedC (key0 0 0) 5) (keyedC (key0 0 0) 0) (by rfl) (by rfl) (blk_new1 w _ (keyedC (key0 0 0) 0) 37) (hks _ _).out (hkl _ _ _ _).out (hko _ _).out ?_; (try simp only [Act.put, List.setIfInBounds_toArray, List.set_cons_zero, List.set_cons_succ]))
  change Code.wp _ _ _ _ (((w.alloc (.cells (keyedC (key0 0 0) 0).toArray 37)).alloc (.cells (keyedC (key0 0 0) 0).toArray 37)).setRow (w.heap.size + 1) (keyedC (key0 0 0) 5).toArray)
  generalize ((w.alloc (.cells (keyedC (key0 0 0) 0).toArray 37)).alloc (.cells (keyedC (key0 0 0) 0).toArray 37)).setRow (w.heap.size + 1) (keyedC (key0 0 0) 5).toArray = W at *
  go_loopw [8] (fun a wr => ∃ i : Nat, a = .int .i64 i ∧ i ≤ l.length ∧ Below w.heap.size w wr ∧ Blk wr w.heap.size 37 (keyedC (key0 0 0) 0) ∧ Blk wr (w.heap.size + 1) 37 (keyedC (curD (l.take i) p d).1 (curD (l.take i) p d).2)) (fun a _ => l.length - (intOf a).toNat)
  case atStart => exact ⟨0, rfl, Nat.zero_le _, hb, hB, by rw [List.take_zero, curD_nil]; exact hX⟩
  case round =>
    clear hb hB hX hL
    obtain ⟨i, rfl, hil, hb, hB, hX⟩ := hrel
    have hL := hl.below hb
    by_cases hlt : i < l.length
    · have i1 : (i : Int) < (l.length : Int) := by omega
      have i2 : (0 : Int) ≤ (i : Int) := by omega
      obtain ⟨k, hk⟩ : ∃ k, l[i]? = some k := ⟨l[i], List.getElem?_eq_getElem hlt⟩
      obtain ⟨b, off, hA, hbl, hkc⟩ := Ks.get hL hk
      have htk := curD_take (p := p) (d := d) hk
      obtain ⟨K0, E0, hKE⟩ : ∃ K0 E0, curD (l.take i) p d = (K0, E0) := ⟨_, _, rfl⟩
      rw [hKE] at htk hX
      unfold curStep at htk
      replace hKE := hide hKE
      replace hk := hide hk
      subst hA
      obtain ⟨c0, c1, _⟩ := kcell hkc
      by_cases h1 : k.party = p
      · have h1' : (k.party == p) = true := by simpa using h1
        have h1'' : (k.party != p) = false := by simpa using h1
        rw [if_pos h1] at htk
        replace h1 := hide h1
        cases hc : k.counts d with
        | true =>
          rw [if_pos hc] at htk
          replace htk := hide htk
          go_wp2_with (first
            | (refine vl_load_at b (off + i * 5) (kC k) _ (by rfl) (by first | exact hkc2 | exact hkc) Tryd.underlying24 (by rfl) (hk5 _).out ?_; simp only [kC]; (try simp only [Act.put, List.setIfInBounds_toArray, List.set_cons_zero, List.set_cons_succ]))
            | (go_at_call 41; refine (rcounts_any k d _).mono ?_; rintro e w2 ⟨rfl, hb2⟩; have hkc2 := hkc.below hb2; have hX2 := hX.ext hb2; have hB2 := hB.ext hb2; have hb3 := ext_trans hb hb2)
            | (refine vl_store (w.heap.size + 1) 37 (keyedC k 0) _ (by rfl) (by rfl) hX2 (hks _ _).out (hkl _ _ _ _).out (hko _ _).out ?_; (try simp only [Act.put, List.setIfInBounds_toArray, List.set_cons_zero, List.set_cons_succ])))
          go_roundw
          case rel => exact ⟨i + 1, by go_num, by omega, below_setRow hb3 (Nat.le_succ _) _, hB2.setRow_ne (by omega) _, by rw [htk.out]; exact hX2.setRow (keyedC k 0)⟩
          case measure => simp [intOf]; omega
        | false =>
          rw [hc, if_neg (by simp)] at htk
          by_cases h5 : E0 = 5
          · rw [if_pos h5] at htk
            subst h5
            replace htk := hide htk
            go_wp2_with (first
              | (refine vl_load_at b (off + i * 5) (kC k) _ (by rfl) hkc Tryd.underlying24 (by rfl) (hk5 _).out ?_; simp only [kC]; (try simp only [Act.put, List.setIfInBounds_toArray, List.set_cons_zero, List.set_cons_succ]))
              | (go_at_call 41; refine (rcounts_any k d _).mono ?_; rintro e w2 ⟨rfl, hb2⟩; have hX2 := hX.ext hb2; have hB2 := hB.ext hb2; have hb3 := ext_trans hb hb2; have x5 := hX2.cell (i := 5) rfl; have f5 := hX2.frozen 5))
            go_roundw
            case rel => exact ⟨i + 1, by go_num, by omega, hb3.setCell (Nat.le_succ _) _, hB2.set_ne (by omega) _ _, by rw [htk.out]; exact hX2.set 5 (.int .i64 9)⟩
            case measure => simp [intOf]; omega
          · rw [if_neg h5] at htk
            have h5' : (E0 == 5) = false := by simpa using h5
            replace htk := hide htk
            go_wp2_with (first
              | (refine vl_load_at b (off + i * 5) (kC k) _ (by rfl) hkc Tryd.underlying24 (by rfl) (hk5 _).out ?_; simp only [kC]; (try simp only [Act.put, List.setIfInBounds_toArray, List.set_cons_zero, List.set_cons_succ]))
              | (go_at_call 41; refine (rcounts_any k d _).mono ?_; rintro e w2 ⟨rfl, hb2⟩; have hX2 := hX.ext hb2; have hB2 := hB.ext hb2; have hb3 := ext_trans hb hb2; have x5 := hX2.cell (i := 5) rfl))
            go_roundw
            case rel => exact ⟨i + 1, by go_num, by omega, hb3, hB2, by rw [htk.out]; exact hX2⟩
            case measure => simp [intOf]; omega
      · have h1' : (k.party == p) = false := by simpa using h1
        have h1'' : (k.party != p) = true := by simpa using h1
        rw [if_neg h1] at htk
        replace htk := hide htk
        go_wp2_with fail
        go_roundw
        case rel => exact ⟨i + 1, by go_num, by omega, hb, hB, by rw [htk.out]; exact hX⟩
        case measure => simp [intOf]; omega
    · obtain rfl : i = l.length := by omega
      rw [List.take_length] at hX
      go_wp2_with (first
        | (refine vl_load (w.heap.size + 1) 37 (keyedC (curD l p d).1 (curD l p d).2) _ (by rfl) hX Tryd.underlying37 (by rfl) (hks _ _).out ?_; (try simp only [Act.put, List.setIfInBounds_toArray, List.set_cons_zero, List.set_cons_succ]))
        | (refine vl_store w.heap.size 37 (keyedC (curD l p d).1 (curD l p d).2) (keyedC (key0 0 0) 0) (by rfl) (by rfl) hB (hks _ _).out (hkl _ _ _ _).out (hko _ _).out ?_; (try simp only [Act.put, List.setIfInBounds_toArray, List.set_cons_zero, List.set_cons_succ])))
      exact ret_blk rfl w.heap.size _ _ _ rfl (hB.setRow _) Tryd.underlying37 rfl (hks _ _).out rfl ⟨rfl, below_setRow hb (Nat.le_refl _) _⟩
end Go.Proofs.YtbccfgeepdmegaaDoor
