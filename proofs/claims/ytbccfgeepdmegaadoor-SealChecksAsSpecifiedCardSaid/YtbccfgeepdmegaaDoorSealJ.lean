/- Walk: Current. -/
import Derived.Test.YtbccfgeepdmegaaDoorSealI
import Derived.Test.YtbccfgeepdmegaaDoorRets
set_option linter.unusedVariables false
set_option linter.unusedSimpArgs false
set_option linter.unnecessarySimpa false
namespace Go.Proofs.YtbccfgeepdmegaaDoor
open Go Go.RowKit Go.Shelf Mem
attribute [local go_sem] Oper.semAt_some
theorem blk_own {β : Type} {B b t : Nat} {cs : List Value} : OwnFrom B (fun (_ : β) W => Blk W b t cs) := fun _ A B' row h hg hr =>
  (hg.block b h.lt (fun e => by
    obtain ⟨_, o, ho, hc⟩ := hr b e.symm
    unfold Blk at h; rw [h] at ho; cases ho; simp [Obj.isCells] at hc)).trans h
theorem pure_own {β : Type} {B : Nat} {p : β → Prop} : OwnFrom B (fun (s : β) (_ : World) => p s) := fun _ _ _ _ h _ _ => h
theorem keeps_below {W W' : World} (hb : Below W.heap.size W W') : KeepsOthers W W' := ⟨hb.size, fun k o hk _ => (hb.block k (Array.getElem?_eq_some_iff.1 hk).1).trans hk⟩
theorem keeps_set {A W : World} (h : KeepsOthers A W) (p : Addr) (v : Value) : KeepsOthers A (W.setCell p v) := h.trans (KeepsOthers.setCell _ _ _)
theorem size_own {β : Type} {B n : Nat} : OwnFrom B (fun (_ : β) W => n ≤ W.heap.size) := fun _ _ _ _ h hg _ => Nat.le_trans h hg.size
theorem seg_valid {l : List KeyD} (hr : ring l = true) (p : Int) : ∃ seg : List { k : KeyD // k.valid = true }, seg.map (·.1) = ofD l p := by
  have h : ∀ k ∈ ofD l p, k.valid = true := fun k hk => by
    obtain ⟨i, hi⟩ := List.mem_iff_getElem?.1 (List.mem_filter.1 hk).1
    exact ring_valid hr hi
  exact ⟨(ofD l p).attachWith _ h, by simp [List.attachWith_map_subtype_val]⟩
theorem valid_to {k : KeyD} (h : k.valid = true) : 0 < k.to ∧ k.to ≤ 1048577 := by rw [KeyD.valid_iff] at h; omega
set_option maxRecDepth 100000 in
set_option maxHeartbeats 8000000 in
theorem current_keys (A : Option Addr) (cap : Nat) (l : List KeyD) (p d : Int) (w : World) (hl : Ks w A l) (hr : ring l = true) (hn : l.length ≤ 1000000) (hcap : l.length ≤ cap) (hc2 : cap ≤ 9223372036854775807) (hd : -9223372036854775808 ≤ d) :
    Calls Tryd.prog 16 #[.slice A l.length cap, .int .i64 p, .int .i64 d] w fun e w' => e = .returned (.tuple #[kV (curD l p d).1, .int .i64 (curD l p d).2]) ∧ Below w.heap.size w w' := by
  rw [curD_eq]
  obtain ⟨seg, hseg⟩ := seg_valid hr p
  have hof := fun W h => of_keys A cap l p W h hr hn hcap hc2
  rw [← hseg] at hof ⊢
  rw [List.length_map] at hof
  replace hof := hide hof
  replace hseg := hide hseg
  have hb0 := (((Below.refl w.heap.size w).alloc (Nat.le_refl _) (.cells #[.int .i64 d] 3)).alloc (by simp) (.cells (kC (key0 0 0)).toArray 24)).alloc (by simp; omega) (.cells #[.int .i64 0] 28)
  have hD := ((Blk.new w [.int .i64 d] 3).alloc (.cells (kC (key0 0 0)).toArray 24)).alloc (.cells #[.int .i64 0] 28)
  have hK := (blk_new1 w (.cells #[.int .i64 d] 3) (kC (key0 0 0)) 24).alloc (.cells #[.int .i64 0] 28)
  have hE := blk_new2 w (.cells #[.int .i64 d] 3) (.cells (kC (key0 0 0)).toArray 24) [.int .i64 0] 28
  have hL0 := Ks.below hl hb0
  refine (callsIn_wide (n := 3)).1 ?_
  refine callsIn_of_wp_marks Tryd.func16 rfl trivial ?_ rfl
  simp only [Tryd.ntmps16, List.size_toArray, List.length_cons, List.length_nil, Nat.reduceAdd, Nat.reduceSub, Array.replicate_succ, Array.replicate_zero, List.push_toArray, List.append_toArray, List.nil_append, List.cons_append]
  gi_wp2_with (first
    | (refine ⟨trivial, ?_⟩; gi_at_call 37; refine (callsIn_wide.2 (hof.out _ hL0)).mono ?_; rintro e w2 ⟨B, rfl, L2, hb2⟩; have D2 := hD.ext hb2; have K2 := hK.ext hb2; have E2 := hE.ext hb2; have B2 := ext_trans hb0 hb2)
    | (refine ⟨trivial, ?_⟩; gi_at_call 38; refine (back_in Fence.wide _ trivial rfl _ _ _ _).mono ?_; rintro e w' ⟨rfl, rfl⟩))
  have hBs := Blk.new w2 [.slice B seg.length seg.length] 22
  have hA2 : 0 < seg.length → ∀ b off, B = some ⟨b, off, none⟩ → b < w2.heap.size + 1 := fun h0 b off e => by
    obtain ⟨b', off', e', hlt, _⟩ := Ks.get L2 (i := 0) (k := (seg[0]).1) (by rw [List.getElem?_map, List.getElem?_eq_getElem h0]; rfl)
    rw [e] at e'; cases e'; omega
  have hlen : seg.length ≤ 1000000 := by
    have h := congrArg List.length hseg.out
    rw [List.length_map] at h
    have h2 : (ofD l p).length ≤ l.length := List.length_filter_le _ _
    omega
  have D3 := D2.alloc (.cells #[.slice B seg.length seg.length] 22)
  have K3 := K2.alloc (.cells #[.slice B seg.length seg.length] 22)
  have E3 := E2.alloc (.cells #[.slice B seg.length seg.length] 22)
  have B3 := ext_alloc B2 (.cells #[.slice B seg.length seg.length] 22)
  have L3 : Ks _ B _ := Rd.alloc L2 (.cells #[.slice B seg.length seg.length] 22)
  obtain ⟨w3, hw3, hsz, hBs, D3, K3, E3, B3, L3⟩ : ∃ w3, w3 = w2.alloc (.cells #[.slice B seg.length seg.length] 22) ∧ w3.heap.size = w2.heap.size + 1 ∧ Blk w3 w2.heap.size 22 [.slice B seg.length seg.length] ∧ Blk w3 w.heap.size 3 [.int .i64 d] ∧ Blk w3 (w.heap.size + 1) 24 (kC (key0 0 0)) ∧ Blk w3 (w.heap.size + 2) 28 [.int .i64 0] ∧ Below w.heap.size w w3 ∧ Ks w3 B (seg.map (·.1)) := ⟨_, rfl, World.size_alloc _ _, hBs, D3, K3, E3, B3, L3⟩
  rw [← hw3]
  clear hw3
  have z2 := E2.lt
  refine wpIn_rangeFunc_ownH rfl (by omega) (gf := 51) (lb := #[.pointer (some ⟨w2.heap.size, 0, none⟩)]) rfl trivial (enters_of Tryd.func51 (by kernel_rfl) rfl)
    (back_stops Fence.wide 2 trivial rfl (by omega) w2.heap.size (w2.heap.size + 1) B seg.length seg hlen w3 (by omega) (by omega) hA2 (hBs.cell rfl) L3) belowK_t (belowK_b (by omega)) (Below.refl _ _) (fun _ => rfl)
    (fun pre W => (((((∀ x ∈ pre, x.2.1.counts d = false) ∧ Blk W w.heap.size 3 [.int .i64 d]) ∧ Blk W (w.heap.size + 1) 24 (kC (key0 0 0))) ∧ Blk W (w.heap.size + 2) 28 [.int .i64 0]) ∧ w3.heap.size ≤ W.heap.size) ∧ Below w.heap.size w W)
    (fun c pre W => (((c = .ret ∧ ∃ ini last, pre = ini ++ [last] ∧ (∀ x ∈ ini, x.2.1.counts d = false) ∧ last.2.1.counts d = true ∧ Blk W (w.heap.size + 1) 24 (kC last.2.1))) ∧ Blk W (w.heap.size + 2) 28 [.int .i64 0]) ∧ Below w.heap.size w W)
    (OwnFrom.and (OwnFrom.and (OwnFrom.and (OwnFrom.and (OwnFrom.and pure_own blk_own) blk_own) blk_own) size_own) (ownFrom_below (Nat.le_refl _) (by omega)))
    (fun c => OwnFrom.and (OwnFrom.and (fun _ _ _ _ h hg hr => ⟨h.1, by
      obtain ⟨_, ini, last, e1, e2, e3, e4⟩ := h
      exact ⟨ini, last, e1, e2, e3, blk_own (β := Unit) () _ _ _ e4 hg hr⟩⟩) blk_own) (ownFrom_below (Nat.le_refl _) (by omega)))
    ⟨⟨⟨⟨⟨by simp, D3⟩, K3⟩, E3⟩, Nat.le_refl _⟩, B3⟩
    (fun x a' W => ∃ Bx, w3.heap.size ≤ Bx ∧ Blk W Bx 24 (kC x.2.1) ∧ a' = { tmps := #[.slice A l.length cap, .int .i64 p, .int .i64 d, undef, undef, .pointer (some ⟨w.heap.size, 0, none⟩), .pointer (some ⟨w.heap.size + 1, 0, none⟩), .pointer (some ⟨w.heap.size + 1 + 1, 0, none⟩), .slice B seg.length seg.length, undef, .pointer (some ⟨Bx, 0, none⟩), .slice A l.length cap, .int .i64 p, .slice B seg.length seg.length, .slice B seg.length seg.length, .func (.func 51) #[] #[.pointer (some ⟨w2.heap.size, 0, none⟩)], .int .i64 x.1, kV x.2.1, undef, undef, undef, undef, undef, undef, undef, undef, undef], defers := [] })
    (fun x a' _ _ _ _ h hg hr => by
      obtain ⟨Bx, h1, h2, h3⟩ := h
      exact ⟨Bx, h1, blk_own (β := Unit) () _ _ _ h2 hg hr, h3⟩) ?assign ?body ?done ?stop
  case assign =>
    rintro l' pre ⟨ix, x⟩ W K ⟨⟨⟨⟨⟨hp, hDW⟩, hKW⟩, hEW⟩, hsW⟩, hBW⟩ hK
    unfold IKenc kV at *
    gi_wp2
    exact hK _ _ ((KeepsOthers.alloc _ _).from _) ((Below.refl _ W).alloc (by omega) _) ⟨⟨⟨⟨⟨hp, hDW.alloc _⟩, hKW.alloc _⟩, hEW.alloc _⟩, by simp; omega⟩, ext_alloc hBW _⟩ ⟨W.heap.size, hsW, Blk.new W (kC x.1) 24, rfl⟩
  case body =>
    rintro l' pre ⟨ix, x⟩ a' W hl' ⟨r, hr'⟩ ⟨⟨⟨⟨⟨hp, hDW⟩, hKW⟩, hEW⟩, hsW⟩, hBW⟩ ⟨Bx, hBx, hX, rfl⟩ _
    have d0 := hDW.cell (i := 0) rfl
    obtain ⟨c0, c1, c2, c3, c4⟩ := kbox hX
    have hto := valid_to x.2
    unfold kV
    cases hc : x.1.counts d with
    | true =>
      gi_wp2_with (refine ⟨trivial, ?_⟩; gi_at_call 39; go_loud (refine (CallsIn.inRound l' (callsIn_wide.2 (counts_any x.1 d _ hd hto))).mono ?_; rintro e w4 ⟨rfl, hb4⟩; have X4 := hX.ext hb4; have K4 := hKW.ext hb4; have E4 := hEW.ext hb4; have B4 := ext_trans hBW hb4; obtain ⟨g0, g1, g2, g3, g4⟩ := kbox X4; obtain ⟨k0, k1, k2, k3, k4⟩ := kbox K4; have f0 := K4.frozen 0; have f1 := K4.frozen 1; have f2 := K4.frozen 2; have f3 := K4.frozen 3; have f4 := K4.frozen 4; have e0 := E4.cell (i := 0) rfl; have fe := E4.frozen 0; have n1 : Bx ≠ w.heap.size + 1 := (by omega); have n2 : Bx ≠ w.heap.size + 1 + 1 := (by omega)))
      refine ⟨(keeps_set (keeps_set (keeps_set (keeps_set (keeps_set (keeps_set (keeps_below hb4) _ _) _ _) _ _) _ _) _ _) _ _).from _, ⟨⟨rfl, pre, (ix, x), rfl, hp, hc, ?_⟩, ?_⟩, ?_⟩
      · exact (((((K4.set 0 _).set 1 _).set 2 _).set 3 _).set 4 _).set_ne (by omega) 0 _
      · exact (((((E4.set_ne (by omega) 0 _).set_ne (by omega) 1 _).set_ne (by omega) 2 _).set_ne (by omega) 3 _).set_ne (by omega) 4 _).set 0 _
      · exact (((((B4.setCell (p := ⟨w.heap.size + 1, 0, none⟩) (Nat.le_succ _) _).setCell (p := ⟨w.heap.size + 1, 1, none⟩) (Nat.le_succ _) _).setCell (p := ⟨w.heap.size + 1, 2, none⟩) (Nat.le_succ _) _).setCell (p := ⟨w.heap.size + 1, 3, none⟩) (Nat.le_succ _) _).setCell (p := ⟨w.heap.size + 1, 4, none⟩) (Nat.le_succ _) _).setCell (p := ⟨w.heap.size + 1 + 1, 0, none⟩) (by show w.heap.size ≤ w.heap.size + 1 + 1; omega) _
    | false =>
      gi_wp2_with (refine ⟨trivial, ?_⟩; gi_at_call 39; refine (CallsIn.inRound l' (callsIn_wide.2 (counts_any x.1 d _ hd hto))).mono ?_; rintro e w4 ⟨rfl, hb4⟩)
      exact ⟨(keeps_below hb4).from _, hb4.mono (by omega), ⟨⟨⟨⟨⟨fun y hy => (List.mem_append.1 hy).elim (hp y) (fun e => by simp at e; subst e; exact hc), hDW.ext hb4⟩, hKW.ext hb4⟩, hEW.ext hb4⟩, Nat.le_trans hsW hb4.size⟩, ext_trans hBW hb4⟩⟩
  case done =>
    rintro D ys W hD hys ⟨⟨⟨⟨⟨hp, hDW⟩, hKW⟩, hEW⟩, hsW⟩, hBW⟩ hK
    have hcur : curS (seg.map (·.1)) d = (key0 0 0, if seg.map (·.1) = [] then 5 else 9) := by
      unfold curS
      have hf : (seg.map (·.1)).reverse.find? (fun k => k.counts d) = none := by
        rw [← hys, List.find?_eq_none]
        intro k hk
        obtain ⟨x, hx, rfl⟩ := List.mem_map.1 hk
        rw [hp x hx]; decide
      rw [hf]
    obtain ⟨k0, k1, k2, k3, k4⟩ := kbox hKW
    have f0 := hKW.frozen 0
    have f1 := hKW.frozen 1
    have f2 := hKW.frozen 2
    have f3 := hKW.frozen 3
    have f4 := hKW.frozen 4
    have e0 := hEW.cell (i := 0) rfl
    have fe := hEW.frozen 0
    replace hcur := hide hcur
    by_cases h0 : seg = []
    · have hl0 : ((seg.length : Int) == 0) = true := by rw [h0]; rfl
      have hl1 := hide h0
      clear h0
      gi_wp2
      refine ⟨by simp, .inl ⟨_, _, rfl, run_takeDeferred ((keeps_set (keeps_set (keeps_set (keeps_set (keeps_set (keeps_set (KeepsOthers.refl W) ⟨w.heap.size + 1, 0, none⟩ _) ⟨w.heap.size + 1, 1, none⟩ _) ⟨w.heap.size + 1, 2, none⟩ _) ⟨w.heap.size + 1, 3, none⟩ _) ⟨w.heap.size + 1, 4, none⟩ _) ⟨w.heap.size + 1 + 1, 0, none⟩ _).same D _ hK rfl), ?_⟩⟩
      have hK' := (keeps_set (keeps_set (keeps_set (keeps_set (keeps_set (keeps_set (KeepsOthers.refl W) ⟨w.heap.size + 1, 0, none⟩ (.int .i64 0)) ⟨w.heap.size + 1, 1, none⟩ (.int .i64 0)) ⟨w.heap.size + 1, 2, none⟩ (.string ⟨#[]⟩)) ⟨w.heap.size + 1, 3, none⟩ (.int .i64 0)) ⟨w.heap.size + 1, 4, none⟩ (.int .i64 0)) ⟨w.heap.size + 1 + 1, 0, none⟩ (.int .i64 5)).same D _ hK rfl
      have X5 := (((((hKW.set 0 (.int .i64 0)).set 1 (.int .i64 0)).set 2 (.string ⟨#[]⟩)).set 3 (.int .i64 0)).set 4 (.int .i64 0)).set_ne (b' := w.heap.size + 1 + 1) (by omega) 0 (.int .i64 5)
      have E5 := (((((hEW.set_ne (b' := w.heap.size + 1) (by omega) 0 (.int .i64 0)).set_ne (b' := w.heap.size + 1) (by omega) 1 (.int .i64 0)).set_ne (b' := w.heap.size + 1) (by omega) 2 (.string ⟨#[]⟩)).set_ne (b' := w.heap.size + 1) (by omega) 3 (.int .i64 0)).set_ne (b' := w.heap.size + 1) (by omega) 4 (.int .i64 0)).set 0 (.int .i64 5)
      have B5 := (((((hBW.setCell (p := ⟨w.heap.size + 1, 0, none⟩) (Nat.le_succ _) (.int .i64 0)).setCell (p := ⟨w.heap.size + 1, 1, none⟩) (Nat.le_succ _) (.int .i64 0)).setCell (p := ⟨w.heap.size + 1, 2, none⟩) (Nat.le_succ _) (.string ⟨#[]⟩)).setCell (p := ⟨w.heap.size + 1, 3, none⟩) (Nat.le_succ _) (.int .i64 0)).setCell (p := ⟨w.heap.size + 1, 4, none⟩) (Nat.le_succ _) (.int .i64 0)).setCell (p := ⟨w.heap.size + 1 + 1, 0, none⟩) (by show w.heap.size ≤ w.heap.size + 1 + 1; omega) (.int .i64 5)
      have hrow : ∀ r, some D = some r → 0 ≤ r ∧ ∃ o : Obj, (World.heap _)[r]? = some o ∧ o.isCells = false := fun r e => by cases e; exact ⟨Nat.zero_le _, _, hK', rfl⟩
      refine ⟨_, results_blk_cell rfl (w.heap.size + 1) 24 (kC (key0 0 0)) _ _ rfl (blk_own (β := Unit) () _ _ _ X5 (grownBy_putObj' _ D (.deferred none)) hrow) Tryd.underlying24 rfl (kC_size _) (w.heap.size + 1 + 1) (.int .i64 5) rfl ((blk_own (β := Unit) () _ _ _ E5 (grownBy_putObj' _ D (.deferred none)) hrow).cell rfl) Tryd.underlying28 rfl, by rw [hcur.out, if_pos (by rw [hl1.out]; rfl)]; rfl, B5.trans (belowK_b (w := w) (Nat.le_refl _) _ D _ _ (by omega) hK' rfl rfl)⟩
    · have hl0 : ((seg.length : Int) == 0) = false := by
        have : seg.length ≠ 0 := fun h => h0 (List.eq_nil_of_length_eq_zero h)
        simp; omega
      have hl1 := hide h0
      clear h0
      gi_wp2
      refine ⟨by simp, .inl ⟨_, _, rfl, run_takeDeferred ((keeps_set (keeps_set (keeps_set (keeps_set (keeps_set (keeps_set (KeepsOthers.refl W) ⟨w.heap.size + 1, 0, none⟩ _) ⟨w.heap.size + 1, 1, none⟩ _) ⟨w.heap.size + 1, 2, none⟩ _) ⟨w.heap.size + 1, 3, none⟩ _) ⟨w.heap.size + 1, 4, none⟩ _) ⟨w.heap.size + 1 + 1, 0, none⟩ _).same D _ hK rfl), ?_⟩⟩
      have hK' := (keeps_set (keeps_set (keeps_set (keeps_set (keeps_set (keeps_set (KeepsOthers.refl W) ⟨w.heap.size + 1, 0, none⟩ (.int .i64 0)) ⟨w.heap.size + 1, 1, none⟩ (.int .i64 0)) ⟨w.heap.size + 1, 2, none⟩ (.string ⟨#[]⟩)) ⟨w.heap.size + 1, 3, none⟩ (.int .i64 0)) ⟨w.heap.size + 1, 4, none⟩ (.int .i64 0)) ⟨w.heap.size + 1 + 1, 0, none⟩ (.int .i64 9)).same D _ hK rfl
      have X5 := (((((hKW.set 0 (.int .i64 0)).set 1 (.int .i64 0)).set 2 (.string ⟨#[]⟩)).set 3 (.int .i64 0)).set 4 (.int .i64 0)).set_ne (b' := w.heap.size + 1 + 1) (by omega) 0 (.int .i64 9)
      have E5 := (((((hEW.set_ne (b' := w.heap.size + 1) (by omega) 0 (.int .i64 0)).set_ne (b' := w.heap.size + 1) (by omega) 1 (.int .i64 0)).set_ne (b' := w.heap.size + 1) (by omega) 2 (.string ⟨#[]⟩)).set_ne (b' := w.heap.size + 1) (by omega) 3 (.int .i64 0)).set_ne (b' := w.heap.size + 1) (by omega) 4 (.int .i64 0)).set 0 (.int .i64 9)
      have B5 := (((((hBW.setCell (p := ⟨w.heap.size + 1, 0, none⟩) (Nat.le_succ _) (.int .i64 0)).setCell (p := ⟨w.heap.size + 1, 1, none⟩) (Nat.le_succ _) (.int .i64 0)).setCell (p := ⟨w.heap.size + 1, 2, none⟩) (Nat.le_succ _) (.string ⟨#[]⟩)).setCell (p := ⟨w.heap.size + 1, 3, none⟩) (Nat.le_succ _) (.int .i64 0)).setCell (p := ⟨w.heap.size + 1, 4, none⟩) (Nat.le_succ _) (.int .i64 0)).setCell (p := ⟨w.heap.size + 1 + 1, 0, none⟩) (by show w.heap.size ≤ w.heap.size + 1 + 1; omega) (.int .i64 9)
      have hrow : ∀ r, some D = some r → 0 ≤ r ∧ ∃ o : Obj, (World.heap _)[r]? = some o ∧ o.isCells = false := fun r e => by cases e; exact ⟨Nat.zero_le _, _, hK', rfl⟩
      refine ⟨_, results_blk_cell rfl (w.heap.size + 1) 24 (kC (key0 0 0)) _ _ rfl (blk_own (β := Unit) () _ _ _ X5 (grownBy_putObj' _ D (.deferred none)) hrow) Tryd.underlying24 rfl (kC_size _) (w.heap.size + 1 + 1) (.int .i64 9) rfl ((blk_own (β := Unit) () _ _ _ E5 (grownBy_putObj' _ D (.deferred none)) hrow).cell rfl) Tryd.underlying28 rfl, by rw [hcur.out, if_neg (by intro h; exact hl1.out (List.map_eq_nil_iff.1 h))]; rfl, B5.trans (belowK_b (w := w) (Nat.le_refl _) _ D _ _ (by omega) hK' rfl rfl)⟩
  case stop =>
    rintro D c pre W hD hpre ⟨⟨⟨rfl, ini, last, rfl, hini, hlast, hKW⟩, hEW⟩, hBW⟩ hK
    gi_wp2
    refine ⟨by simp, .inl ⟨_, _, rfl, run_takeDeferred hK, ?_⟩⟩
    have hcur : curS (seg.map (·.1)) d = (last.2.1, 0) := by
      unfold curS
      have hf : (seg.map (·.1)).reverse.find? (fun k => k.counts d) = some last.2.1 := by
        obtain ⟨rest, hrest⟩ := hpre
        rw [← hrest, List.map_append, List.append_assoc, List.find?_append]
        have h1 : (ini.map (·.2.1)).find? (fun k => k.counts d) = none := by
          rw [List.find?_eq_none]
          intro k hk
          obtain ⟨x, hx, rfl⟩ := List.mem_map.1 hk
          rw [hini x hx]; decide
        rw [h1]
        simp [hlast]
      rw [hf]
    have hrow : ∀ r, some D = some r → 0 ≤ r ∧ ∃ o : Obj, W.heap[r]? = some o ∧ o.isCells = false := fun r e => by cases e; exact ⟨Nat.zero_le _, _, hK, rfl⟩
    refine ⟨_, results_blk_cell rfl (w.heap.size + 1) 24 (kC last.2.1) _ _ rfl (blk_own (β := Unit) () _ _ _ hKW (grownBy_putObj' _ D (.deferred none)) hrow) Tryd.underlying24 rfl (kC_size _) (w.heap.size + 1 + 1) (.int .i64 0) rfl ((blk_own (β := Unit) () _ _ _ hEW (grownBy_putObj' _ D (.deferred none)) hrow).cell rfl) Tryd.underlying28 rfl, by rw [hcur]; rfl, hBW.trans (belowK_b (w := w) (Nat.le_refl _) W D _ _ (by omega) hK rfl rfl)⟩
end Go.Proofs.YtbccfgeepdmegaaDoor
