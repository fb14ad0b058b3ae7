/- Walk: the statement SealChecksAsSpecified. -/
import Derived.Test.YtbccfgeepdmegaaDoorSanX
import Derived.Test.YtbccfgeepdmegaaDoorRefD
import Derived.Test.YtbccfgeepdmegaaDoorRhH
set_option linter.unusedVariables false
set_option linter.unusedSimpArgs false
set_option linter.unnecessarySimpa false
namespace Go.Proofs.YtbccfgeepdmegaaDoor
open Go Go.RowKit Mem
attribute [local go_sem ↓] Go.wp_at_zero Go.wp_at_succ veil_lk veil_sk veil_glk veil_lseal veil_sseal veil_glseal veil_ldig veil_sdig veil_gldig
/-- what lies there while the statement runs -/
structure EnvC (w W : World) (R : Option Addr) (l : List KeyD) (A : Option Addr) (ps : List ByteArray) (k : KeyD) (sg dg : List Nat) : Prop where
  ks : Ks W R l
  ra : Rd W A (ps.map .string)
  cs : At W 0 0 (Sha.K.map vu32)
  cr : At W 1 0 (Sha.K.map vu32)
  bx : Blk W w.heap.size 24 (kC k)
  bs : Blk W (w.heap.size + 1) 43 (sg.map vu8)
  bd : Blk W (w.heap.size + 1 + 1) 44 (dg.map vu8)
  lt : Below w.heap.size w W
variable {w W W' : World} {R A : Option Addr} {l : List KeyD} {ps : List ByteArray} {k : KeyD} {sg dg : List Nat}
theorem EnvC.ext (h : EnvC w W R l A ps k sg dg) (hb : Below W.heap.size W W') : EnvC w W' R l A ps k sg dg :=
  ⟨h.ks.below hb, Rd.below h.ra hb, h.cs.below hb, h.cr.below hb, h.bx.ext hb, h.bs.ext hb, h.bd.ext hb, ext_trans h.lt hb⟩
theorem EnvC.alloc (h : EnvC w W R l A ps k sg dg) (o : Obj) : EnvC w (W.alloc o) R l A ps k sg dg := h.ext ((Below.refl _ _).alloc (Nat.le_refl _) o)
theorem EnvC.drew (h : EnvC w W R l A ps k sg dg) : EnvC w W.drew R l A ps k sg dg := h.ext (Below.refl _ _).drew
theorem inp_mk (tag : Int) (a : ByteArray) (ps : List ByteArray) (ha : a.size ≤ 300) (hps : ∀ p ∈ ps, p.size ≤ 300) (hn : ps.length ≤ 8) : (Sha.inp tag (((a :: ps) ++ [a]).map Bs)).length ≤ 1000000 := by
  have h := inp_len tag (((a :: ps) ++ [a]).map Bs) 300 (by decide) (fun p hp => by
    obtain ⟨q, hq, rfl⟩ := List.mem_map.1 hp
    rw [Bs_length]
    simp only [List.mem_append, List.mem_cons, List.not_mem_nil, or_false] at hq
    rcases hq with (rfl | hq) | rfl
    · exact ha
    · exact hps q hq
    · exact ha)
  rw [List.length_map, List.length_append, List.length_cons, List.length_cons, List.length_nil] at h
  have : (ps.length + 1 + (0 + 1)) * (300 + 10) ≤ 10 * (300 + 10) := Nat.mul_le_mul_right _ (by omega)
  omega
theorem inp_bl (tag : Int) (a : ByteArray) (ps : List ByteArray) (ha : a.size ≤ 300) (hps : ∀ p ∈ ps, p.size ≤ 300) (hn : ps.length ≤ 8) : (Sha.inp tag ((a :: ps).map Bs)).length ≤ 1000000 := by
  have h := inp_mk tag a ps ha hps hn
  rw [List.map_append] at h
  exact Nat.le_trans (inp_pre _ _ _) h
set_option maxRecDepth 100000 in
set_option maxHeartbeats 64000000 in
theorem law4_any (R : Option Addr) (rc : Nat) (l : List KeyD) (k : KeyD) (serial tag : Int) (A : Option Addr) (cap : Nat) (ps : List ByteArray) (nonce : ByteArray) (sg dg : List Nat) (d : Int) (w : World) (hl : Ks w R l) (hln : l.length ≤ 9223372036854775807)
    (hks : k.secret.size ≤ 9223372036854775807) (hp : Rd w A (ps.map .string)) (hnp : ps.length ≤ 9223372036854775807) (hno : nonce.size ≤ 9223372036854775807) (hsg : D16 sg) (hdg : D16 dg) (hd : -9223372036854775808 ≤ d) (hK : At w 0 0 (Sha.K.map vu32)) (hK2 : At w 1 0 (Sha.K.map vu32)) :
    Calls Tryd.prog 4 #[.slice R l.length rc, kV k, .int .i64 serial, .int .i64 tag, .slice A ps.length cap, .string nonce, .agg (sg.map vu8).toArray, .agg (dg.map vu8).toArray, .int .i64 d] w fun e w' => e = .returned (.bool true) ∧ Below w.heap.size w w' := by
  obtain ⟨W, hW, E0⟩ : ∃ W, W = ((w.alloc (.cells #[.int .i64 k.party, .int .i64 k.serial, .string k.secret, .int .i64 k.fr, .int .i64 k.to] 24)).alloc (.cells (sg.map vu8).toArray 43)).alloc (.cells (dg.map vu8).toArray 44) ∧ EnvC w W R l A ps k sg dg := by
    have b3 := ext_alloc (ext_alloc (ext_alloc (Below.refl w.heap.size w) (.cells #[.int .i64 k.party, .int .i64 k.serial, .string k.secret, .int .i64 k.fr, .int .i64 k.to] 24)) (.cells (sg.map vu8).toArray 43)) (.cells (dg.map vu8).toArray 44)
    exact ⟨_, rfl, Ks.below hl b3, Rd.below hp b3, hK.below b3, hK2.below b3, ((Blk.new w (kC k) 24).alloc _).alloc _, (blk_at (sg.map vu8) 43 (by simp)).alloc _, blk_at (dg.map vu8) 44 (by simp), b3⟩
  clear hl hp hK hK2
  unfold kV
  by_cases h1 : 30 < l.length
  · have h1' : (30 : Int) < (l.length : Int) := by omega
    go_enter Tryd.func4, Tryd.ntmps4
    go_wp2_with (go_at_call 9; rw [← hW]; refine (sanity_any _ E0.cs).mono ?_; rintro e w2 ⟨rfl, hb2⟩)
    go_ret
    exact ⟨rfl, (E0.ext hb2).lt⟩
  have h1' : ¬ (30 : Int) < (l.length : Int) := by omega
  have hrring := fun W h => rring_any R rc l W h (by omega)
  have hsh := fun W h => short_any A cap ps 8 W h hnp
  cases hr : ring l with
  | false =>
    rw [hr] at hrring
    replace hrring := hide hrring
    replace hr := hide hr
    go_enter Tryd.func4, Tryd.ntmps4
    go_wp2_with (first
      | (go_at_call 11; rw [← hW]; refine (hrring.out _ E0.ks).mono ?_; rintro e w1 ⟨rfl, hb1⟩; have E1 := E0.ext hb1)
      | (go_at_call 9; refine (sanity_any _ E1.cs).mono ?_; rintro e w2 ⟨rfl, hb2⟩))
    go_ret
    exact ⟨rfl, (E1.ext hb2).lt⟩
  | true =>
    rw [hr] at hrring
    replace hrring := hide hrring
    cases hs : shortD ps 8 with
    | false =>
      rw [hs] at hsh
      replace hsh := hide hsh
      replace hs := hide hs
      replace hr := hide hr
      go_enter Tryd.func4, Tryd.ntmps4
      go_wp2_with (first
        | (go_at_call 11; rw [← hW]; refine (hrring.out _ E0.ks).mono ?_; rintro e w1 ⟨rfl, hb1⟩; have E1 := E0.ext hb1)
        | (go_at_call 21; refine (hsh.out _ E1.ra).mono ?_; rintro e w2 ⟨rfl, hb2⟩; have E2 := E1.ext hb2)
        | (go_at_call 9; refine (sanity_any _ E2.cs).mono ?_; rintro e w3 ⟨rfl, hb3⟩))
      go_ret
      exact ⟨rfl, (E2.ext hb3).lt⟩
    | true =>
      rw [hs] at hsh
      replace hsh := hide hsh
      rw [shortD_iff] at hs
      by_cases h4 : 300 < nonce.size
      · have h4' : (300 : Int) < (nonce.size : Int) := by omega
        replace hs := hide hs
        replace hr := hide hr
        go_enter Tryd.func4, Tryd.ntmps4
        go_wp2_with (first
          | (go_at_call 11; rw [← hW]; refine (hrring.out _ E0.ks).mono ?_; rintro e w1 ⟨rfl, hb1⟩; have E1 := E0.ext hb1)
          | (go_at_call 21; refine (hsh.out _ E1.ra).mono ?_; rintro e w2 ⟨rfl, hb2⟩; have E2 := E1.ext hb2)
          | (go_at_call 9; refine (sanity_any _ E2.cs).mono ?_; rintro e w3 ⟨rfl, hb3⟩))
        go_ret
        exact ⟨rfl, (E2.ext hb3).lt⟩
      have h4' : ¬ (300 : Int) < (nonce.size : Int) := by omega
      by_cases h5 : 300 < k.secret.size
      · have h5' : (300 : Int) < (k.secret.size : Int) := by omega
        replace hs := hide hs
        replace hr := hide hr
        go_enter Tryd.func4, Tryd.ntmps4
        go_wp2_with (first
          | (go_at_call 11; rw [← hW]; refine (hrring.out _ E0.ks).mono ?_; rintro e w1 ⟨rfl, hb1⟩; have E1 := E0.ext hb1)
          | (go_at_call 21; refine (hsh.out _ E1.ra).mono ?_; rintro e w2 ⟨rfl, hb2⟩; have E2 := E1.ext hb2; have c2 := E2.bx.cell (i := 2) rfl)
          | (go_at_call 9; refine (sanity_any _ E2.cs).mono ?_; rintro e w3 ⟨rfl, hb3⟩))
        go_ret
        exact ⟨rfl, (E2.ext hb3).lt⟩
      have h5' : ¬ (300 : Int) < (k.secret.size : Int) := by omega
      have hps : ∀ p ∈ ps, p.size ≤ 1000000 := fun p hp => by have := hs.1 p hp; omega
      have hn8 : ps.length ≤ 8 := by have := hs.2; omega
      have hmk := fun W h h' => make_any k tag A cap ps W h hps (by omega) (by omega) h'
      have hrm := fun W h h' => rmake_any k tag A cap ps W h (by omega) (inp_mk tag k.secret ps (by omega) hs.1 hn8) h'
      have hck := fun W h h' h'' => check_any R rc l k.party serial tag A cap ps sg hsg d W h hr (by omega) hd h' hps (by omega) h''
      have hrk := fun W h h' h'' => rcheck_any R rc l k.party serial tag A cap ps sg hsg d W h (by omega) h' (by omega) (fun q hq => by
        have hv := find_valid hr hq
        rw [KeyD.valid_iff] at hv
        exact inp_mk tag q.secret ps (by omega) hs.1 hn8) h''
      have hbl := fun W h h' => blind_any nonce A cap ps W h hps (by omega) (by omega) h'
      have hrb := fun W h h' => rblind_any nonce A cap ps W h (by omega) (inp_bl 121 nonce ps (by omega) hs.1 hn8) h'
      have hop := fun e he W h h' => opens_any e he nonce A cap ps W h hps (by omega) (by omega) h'
      have hF16 := mk_16 k.secret tag ps
      have hG16 := bl_16 nonce ps
      obtain ⟨F, hF⟩ : ∃ F, F = mk k.secret tag ps := ⟨_, rfl⟩
      obtain ⟨G, hG⟩ : ∃ G, G = bl nonce ps := ⟨_, rfl⟩
      obtain ⟨C, hC⟩ : ∃ C, C = chkE l k.party serial tag ps sg d := ⟨_, rfl⟩
      rw [← hF] at hmk hrm hF16
      rw [← hG] at hbl hrb hop hG16
      rw [← hC] at hck hrk
      have o1 := hop G hG16
      have o2 := hop dg hdg
      have q1 := fun W => eqIn_seal hF16 hF16 W
      have q2 := fun W => eqIn_dig hG16 hG16 W
      have q3 := fun W => eqIn_dig hdg hG16 W
      rw [show decide (F = F) = true from decide_eq_true rfl] at q1
      rw [show decide (G = G) = true from decide_eq_true rfl] at q2 o1
      obtain ⟨r, hrr⟩ : ∃ r, r = decide (dg = G) := ⟨_, rfl⟩
      have hr2 : decide (G = dg) = r := by rw [hrr]; exact decide_eq_decide.2 eq_comm
      rw [← hrr] at q3
      rw [hr2] at o2
      have i1 := hide (d16_seal hF16)
      have i2 := hide (d16_seal hsg)
      have j1 := hide (d16_dig hG16)
      have j2 := hide (show (List.replicate 16 (Value.int .u8 0)).length = (G.map vu8).length by rw [List.length_map, hG16.1]; rfl)
      have j3 := hide (vu8_ones G)
      have j4 := hide (d16_dig hdg)
      replace hmk := hide hmk
      replace hrm := hide hrm
      replace hck := hide hck
      replace hrk := hide hrk
      replace hbl := hide hbl
      replace hrb := hide hrb
      replace o1 := hide o1
      replace o2 := hide o2
      replace hs := hide hs
      replace hr := hide hr
      clear hrr hr2 hF hG hC hps hop hsg hdg hF16 hG16
      cases r
      all_goals (
        go_enter Tryd.func4, Tryd.ntmps4
        go_wp2_with fail
        rw [← hW]
        refine (hrring.out _ E0.ks).mono ?_
        rintro e w1 ⟨rfl, hb1⟩
        have E1 := E0.ext hb1
        clear E0 hb1 hW
        go_wp2_with fail
        refine (hsh.out _ E1.ra).mono ?_
        rintro e w2 ⟨rfl, hb2⟩
        have E2 := E1.ext hb2
        clear E1 hb2
        have c2 := E2.bx.cell (i := 2) rfl
        go_wp2_with fail
        refine wp_region_held_drew (S := (fun w' => (w'.cell? ⟨w.heap.size, 0, none⟩ = some (.int .i64 k.party) ∧ w'.cell? ⟨w.heap.size, 1, none⟩ = some (.int .i64 k.serial) ∧ w'.cell? ⟨w.heap.size, 2, none⟩ = some (.string k.secret) ∧ w'.cell? ⟨w.heap.size, 3, none⟩ = some (.int .i64 k.fr) ∧ w'.cell? ⟨w.heap.size, 4, none⟩ = some (.int .i64 k.to)) ∧ At w' (w.heap.size + 1) 0 (sg.map vu8))) (by kernel_rfl) (⟨kbox E2.bx, At.of_blk E2.bs⟩) (fun hHeld => ?_)
        (refine wpAnyH_take (i := 0) (oi := ⟨some 46, _, _, _, _, _⟩) (v := ?_) rfl (by kernel_rfl) (by kernel_rfl) (by kernel_rfl) (fun _ _ _ h => h) (Or.inl ⟨by kernel_rfl, ?_⟩) hHeld ?_; rotate_left; (focus (intro wS hSw; (try dsimp only at hSw); go_simp; (try with_reducible rfl); done)); (try simp only [Act.put, List.setIfInBounds_toArray, List.set_cons_zero, List.set_cons_succ]); refine wpAnyH_take (i := 1) (oi := ⟨some 47, _, _, _, _, _⟩) (v := ?_) rfl (by kernel_rfl) (by kernel_rfl) (by kernel_rfl) (fun _ _ _ h => h) (Or.inl ⟨by kernel_rfl, ?_⟩) hHeld ?_; rotate_left; (focus (intro wS hSw; (try dsimp only at hSw); go_simp; (try with_reducible rfl); done)); (try simp only [Act.put, List.setIfInBounds_toArray, List.set_cons_zero, List.set_cons_succ]); refine wpAnyH_take (i := 2) (oi := ⟨some 48, _, _, _, _, _⟩) (v := ?_) rfl (by kernel_rfl) (by kernel_rfl) (by kernel_rfl) (fun _ _ _ h => h) (Or.inl ⟨by kernel_rfl, ?_⟩) hHeld ?_; rotate_left; (focus (intro wS hSw; (try dsimp only at hSw); go_simp; (try with_reducible rfl); done)); (try simp only [Act.put, List.setIfInBounds_toArray, List.set_cons_zero, List.set_cons_succ]); refine wpAnyH_take (i := 4) (oi := ⟨some 50, _, _, _, _, _⟩) (v := ?_) rfl (by kernel_rfl) (by kernel_rfl) (by kernel_rfl) (fun _ _ _ h => h) (Or.inl ⟨by kernel_rfl, ?_⟩) hHeld ?_; rotate_left; (focus (intro wS hSw; (try dsimp only at hSw); go_simp; (try with_reducible rfl); done)); (try simp only [Act.put, List.setIfInBounds_toArray, List.set_cons_zero, List.set_cons_succ]); refine wpAnyH_take (i := 5) (oi := ⟨some 51, _, _, _, _, _⟩) (v := ?_) rfl (by kernel_rfl) (by kernel_rfl) (by kernel_rfl) (fun _ _ _ h => h) (Or.inl ⟨by kernel_rfl, ?_⟩) hHeld ?_; rotate_left; (focus (intro wS hSw; (try dsimp only at hSw); go_simp; (try with_reducible rfl); done)); (try simp only [Act.put, List.setIfInBounds_toArray, List.set_cons_zero, List.set_cons_succ]); refine wpAnyH_take (i := 6) (oi := ⟨some 52, _, _, _, _, _⟩) (v := ?_) rfl (by kernel_rfl) (by kernel_rfl) (by kernel_rfl) (fun _ _ _ h => h) (Or.inl ⟨by kernel_rfl, ?_⟩) hHeld ?_; rotate_left; (focus (intro wS hSw; (try dsimp only at hSw); go_simp; (try with_reducible rfl); done)); (try simp only [Act.put, List.setIfInBounds_toArray, List.set_cons_zero, List.set_cons_succ]))
        (refine wpAnyH_ready (rs := [3]) (by kernel_rfl) (by simp) ?_; refine AllReadyH.cons (o := ⟨some 49, _, _, _, _, _⟩) rfl (fun K hK => ?_) AllReadyH.nil; go_simp)
        refine (hmk.out _ E2.drew.ra E2.drew.cs).mono ?_
        rintro e w3 ⟨rfl, hb3⟩
        have E3 := E2.drew.ext hb3
        clear E2 hb3 c2
        (refine hK.out _ _ (⟨kbox E3.bx, At.of_blk E3.bs⟩) (fun hHeld => ?_); clear hK K; (try simp only [Act.put, List.setIfInBounds_toArray, List.set_cons_zero, List.set_cons_succ]))
        (refine wpAnyH_ready (rs := [7]) (by kernel_rfl) (by simp) ?_; refine AllReadyH.cons (o := ⟨some 53, _, _, _, _, _⟩) rfl (fun K hK => ?_) AllReadyH.nil; go_simp)
        refine (hrm.out _ E3.ra E3.cr).mono ?_
        rintro e w4 ⟨rfl, hb4⟩
        have E4 := E3.ext hb4
        clear E3 hb4
        (refine hK.out _ _ (⟨kbox E4.bx, At.of_blk E4.bs⟩) (fun hHeld => ?_); clear hK K; (try simp only [Act.put, List.setIfInBounds_toArray, List.set_cons_zero, List.set_cons_succ]))
        (refine wpAnyH_take (i := 8) (oi := ⟨some 54, _, _, _, _, _⟩) (v := ?_) rfl (by kernel_rfl) (by kernel_rfl) (by kernel_rfl) (fun _ _ _ h => h) (Or.inl ⟨by kernel_rfl, ?_⟩) hHeld ?_; rotate_left; (focus (intro wS hSw; (try dsimp only at hSw); go_simp; (try with_reducible rfl); done)); (try simp only [Act.put, List.setIfInBounds_toArray, List.set_cons_zero, List.set_cons_succ]); refine wpAnyH_take (i := 9) (oi := ⟨some 55, _, _, _, _, _⟩) (v := ?_) rfl (by kernel_rfl) (by kernel_rfl) (by kernel_rfl) (fun _ _ _ h => h) (Or.inl ⟨by kernel_rfl, ?_⟩) hHeld ?_; rotate_left; (focus (intro wS hSw; (try dsimp only at hSw); go_simp; (try with_reducible rfl); done)); (try simp only [Act.put, List.setIfInBounds_toArray, List.set_cons_zero, List.set_cons_succ]); refine wpAnyH_take (i := 10) (oi := ⟨some 56, _, _, _, _, _⟩) (v := ?_) rfl (by kernel_rfl) (by kernel_rfl) (by kernel_rfl) (fun _ _ _ h => h) (Or.inl ⟨by kernel_rfl, ?_⟩) hHeld ?_; rotate_left; (focus (intro wS hSw; (try dsimp only at hSw); go_simp; (try with_reducible rfl); done)); (try simp only [Act.put, List.setIfInBounds_toArray, List.set_cons_zero, List.set_cons_succ]); refine wpAnyH_take (i := 11) (oi := ⟨some 57, _, _, _, _, _⟩) (v := ?_) rfl (by kernel_rfl) (by kernel_rfl) (by kernel_rfl) (fun _ _ _ h => h) (Or.inl ⟨by kernel_rfl, ?_⟩) hHeld ?_; rotate_left; (focus (intro wS hSw; (try dsimp only at hSw); go_simp; (try with_reducible rfl); done)); (try simp only [Act.put, List.setIfInBounds_toArray, List.set_cons_zero, List.set_cons_succ]); refine wpAnyH_take (i := 12) (oi := ⟨some 58, _, _, _, _, _⟩) (v := ?_) rfl (by kernel_rfl) (by kernel_rfl) (by kernel_rfl) (fun _ _ _ h => h) (Or.inl ⟨by kernel_rfl, ?_⟩) hHeld ?_; rotate_left; (focus (intro wS hSw; (try dsimp only at hSw); go_simp; (try with_reducible rfl); done)); (try simp only [Act.put, List.setIfInBounds_toArray, List.set_cons_zero, List.set_cons_succ]); refine wpAnyH_take (i := 13) (oi := ⟨some 59, _, _, _, _, _⟩) (v := ?_) rfl (by kernel_rfl) (by kernel_rfl) (by kernel_rfl) (fun _ _ _ h => h) (Or.inl ⟨by kernel_rfl, ?_⟩) hHeld ?_; rotate_left; (focus (intro wS hSw; (try dsimp only at hSw); go_simp; (try with_reducible rfl); done)); (try simp only [Act.put, List.setIfInBounds_toArray, List.set_cons_zero, List.set_cons_succ]); refine wpAnyH_take (i := 14) (oi := ⟨some 60, _, _, _, _, _⟩) (v := ?_) rfl (by kernel_rfl) (by kernel_rfl) (by kernel_rfl) (fun _ _ _ h => h) (Or.inl ⟨by kernel_rfl, ?_⟩) hHeld ?_; rotate_left; (focus (intro wS hSw; (try dsimp only at hSw); go_simp; (try with_reducible rfl); done)); (try simp only [Act.put, List.setIfInBounds_toArray, List.set_cons_zero, List.set_cons_succ]); refine wpAnyH_take (i := 15) (oi := ⟨some 61, _, _, _, _, _⟩) (v := ?_) rfl (by kernel_rfl) (by kernel_rfl) (by kernel_rfl) (fun _ _ _ h => h) (Or.inl ⟨by kernel_rfl, ?_⟩) hHeld ?_; rotate_left; (focus (intro wS hSw; (try dsimp only at hSw); go_simp; (try with_reducible rfl); done)); (try simp only [Act.put, List.setIfInBounds_toArray, List.set_cons_zero, List.set_cons_succ]))
        (refine wpAnyH_take (i := 16) (oi := ⟨some 62, _, _, _, _, _⟩) (v := .agg (sg.map vu8).toArray) rfl (by kernel_rfl) (by kernel_rfl) (by kernel_rfl) (fun _ _ _ h => h) (yieldsIf_load_mid (by kernel_rfl) 43 _ rfl (w.heap.size + 1) 0 (by rfl) (sg.map vu8) _ (fun _ h => ?_) Tryd.underlying43 rfl i2.out) hHeld ?_; (focus ((try dsimp only at h); first | exact h | exact h.1 | exact h.2); done); (try simp only [Act.put, List.setIfInBounds_toArray, List.set_cons_zero, List.set_cons_succ]))
        (refine wpAnyH_take (i := 17) (oi := ⟨some 63, _, _, _, _, _⟩) (v := ?_) rfl (by kernel_rfl) (by kernel_rfl) (by kernel_rfl) (fun _ _ _ h => h) (Or.inl ⟨by kernel_rfl, ?_⟩) hHeld ?_; rotate_left; (focus (intro wS hSw; (try dsimp only at hSw); go_simp; (try with_reducible rfl); done)); (try simp only [Act.put, List.setIfInBounds_toArray, List.set_cons_zero, List.set_cons_succ]); refine wpAnyH_take (i := 19) (oi := ⟨some 65, _, _, _, _, _⟩) (v := ?_) rfl (by kernel_rfl) (by kernel_rfl) (by kernel_rfl) (fun _ _ _ h => h) (Or.inl ⟨by kernel_rfl, ?_⟩) hHeld ?_; rotate_left; (focus (intro wS hSw; (try dsimp only at hSw); go_simp; (try with_reducible rfl); done)); (try simp only [Act.put, List.setIfInBounds_toArray, List.set_cons_zero, List.set_cons_succ]); refine wpAnyH_take (i := 20) (oi := ⟨some 66, _, _, _, _, _⟩) (v := ?_) rfl (by kernel_rfl) (by kernel_rfl) (by kernel_rfl) (fun _ _ _ h => h) (Or.inl ⟨by kernel_rfl, ?_⟩) hHeld ?_; rotate_left; (focus (intro wS hSw; (try dsimp only at hSw); go_simp; (try with_reducible rfl); done)); (try simp only [Act.put, List.setIfInBounds_toArray, List.set_cons_zero, List.set_cons_succ]); refine wpAnyH_take (i := 21) (oi := ⟨some 67, _, _, _, _, _⟩) (v := ?_) rfl (by kernel_rfl) (by kernel_rfl) (by kernel_rfl) (fun _ _ _ h => h) (Or.inl ⟨by kernel_rfl, ?_⟩) hHeld ?_; rotate_left; (focus (intro wS hSw; (try dsimp only at hSw); go_simp; (try with_reducible rfl); done)); (try simp only [Act.put, List.setIfInBounds_toArray, List.set_cons_zero, List.set_cons_succ]); refine wpAnyH_take (i := 22) (oi := ⟨some 68, _, _, _, _, _⟩) (v := ?_) rfl (by kernel_rfl) (by kernel_rfl) (by kernel_rfl) (fun _ _ _ h => h) (Or.inl ⟨by kernel_rfl, ?_⟩) hHeld ?_; rotate_left; (focus (intro wS hSw; (try dsimp only at hSw); go_simp; (try with_reducible rfl); done)); (try simp only [Act.put, List.setIfInBounds_toArray, List.set_cons_zero, List.set_cons_succ]); refine wpAnyH_take (i := 23) (oi := ⟨some 69, _, _, _, _, _⟩) (v := ?_) rfl (by kernel_rfl) (by kernel_rfl) (by kernel_rfl) (fun _ _ _ h => h) (Or.inl ⟨by kernel_rfl, ?_⟩) hHeld ?_; rotate_left; (focus (intro wS hSw; (try dsimp only at hSw); go_simp; (try with_reducible rfl); done)); (try simp only [Act.put, List.setIfInBounds_toArray, List.set_cons_zero, List.set_cons_succ]); refine wpAnyH_take (i := 24) (oi := ⟨some 70, _, _, _, _, _⟩) (v := ?_) rfl (by kernel_rfl) (by kernel_rfl) (by kernel_rfl) (fun _ _ _ h => h) (Or.inl ⟨by kernel_rfl, ?_⟩) hHeld ?_; rotate_left; (focus (intro wS hSw; (try dsimp only at hSw); go_simp; (try with_reducible rfl); done)); (try simp only [Act.put, List.setIfInBounds_toArray, List.set_cons_zero, List.set_cons_succ]))
        (refine wpAnyH_take (i := 25) (oi := ⟨some 71, _, _, _, _, _⟩) (v := .agg (sg.map vu8).toArray) rfl (by kernel_rfl) (by kernel_rfl) (by kernel_rfl) (fun _ _ _ h => h) (yieldsIf_load_mid (by kernel_rfl) 43 _ rfl (w.heap.size + 1) 0 (by rfl) (sg.map vu8) _ (fun _ h => ?_) Tryd.underlying43 rfl i2.out) hHeld ?_; (focus ((try dsimp only at h); first | exact h | exact h.1 | exact h.2); done); (try simp only [Act.put, List.setIfInBounds_toArray, List.set_cons_zero, List.set_cons_succ]))
        (refine wpAnyH_take (i := 26) (oi := ⟨some 72, _, _, _, _, _⟩) (v := ?_) rfl (by kernel_rfl) (by kernel_rfl) (by kernel_rfl) (fun _ _ _ h => h) (Or.inl ⟨by kernel_rfl, ?_⟩) hHeld ?_; rotate_left; (focus (intro wS hSw; (try dsimp only at hSw); go_simp; (try with_reducible rfl); done)); (try simp only [Act.put, List.setIfInBounds_toArray, List.set_cons_zero, List.set_cons_succ]))
        (refine wpAnyH_ready (rs := [18]) (by kernel_rfl) (by simp) ?_; refine AllReadyH.cons (o := ⟨some 64, _, _, _, _, _⟩) rfl (fun K hK => ?_) AllReadyH.nil; go_simp)
        refine (hck.out _ E4.ks E4.ra E4.cs).mono ?_
        rintro e w5 ⟨rfl, hb5⟩
        have E5 := E4.ext hb5
        clear E4 hb5
        (refine hK.out _ _ (⟨kbox E5.bx, At.of_blk E5.bs⟩) (fun hHeld => ?_); clear hK K; (try simp only [Act.put, List.setIfInBounds_toArray, List.set_cons_zero, List.set_cons_succ]))
        (refine wpAnyH_ready (rs := [27]) (by kernel_rfl) (by simp) ?_; refine AllReadyH.cons (o := ⟨some 73, _, _, _, _, _⟩) rfl (fun K hK => ?_) AllReadyH.nil; go_simp)
        refine (hrk.out _ E5.ks E5.ra E5.cr).mono ?_
        rintro e w6 ⟨rfl, hb6⟩
        have E6 := E5.ext hb6
        clear E5 hb6
        (refine hK.out _ _ (⟨kbox E6.bx, At.of_blk E6.bs⟩) (fun hHeld => ?_); clear hK K; (try simp only [Act.put, List.setIfInBounds_toArray, List.set_cons_zero, List.set_cons_succ]))
        (refine wpAnyH_take (i := 28) (oi := ⟨some 74, _, _, _, _, _⟩) (v := ?_) rfl (by kernel_rfl) (by kernel_rfl) (by kernel_rfl) (fun _ _ _ h => h) (Or.inl ⟨by kernel_rfl, ?_⟩) hHeld ?_; rotate_left; (focus (intro wS hSw; (try dsimp only at hSw); go_simp; (try with_reducible rfl); done)); (try simp only [Act.put, List.setIfInBounds_toArray, List.set_cons_zero, List.set_cons_succ]); refine wpAnyH_take (i := 29) (oi := ⟨some 75, _, _, _, _, _⟩) (v := ?_) rfl (by kernel_rfl) (by kernel_rfl) (by kernel_rfl) (fun _ _ _ h => h) (Or.inl ⟨by kernel_rfl, ?_⟩) hHeld ?_; rotate_left; (focus (intro wS hSw; (try dsimp only at hSw); go_simp; (try with_reducible rfl); done)); (try simp only [Act.put, List.setIfInBounds_toArray, List.set_cons_zero, List.set_cons_succ]); refine wpAnyH_take (i := 30) (oi := ⟨some 19, _, _, _, _, _⟩) (v := ?_) rfl (by kernel_rfl) (by kernel_rfl) (by kernel_rfl) (fun _ _ _ h => h) (Or.inl ⟨by kernel_rfl, ?_⟩) hHeld ?_; rotate_left; (focus (intro wS hSw; (try dsimp only at hSw); go_simp; (try with_reducible rfl); done)); (try simp only [Act.put, List.setIfInBounds_toArray, List.set_cons_zero, List.set_cons_succ]))
        (refine wpAnyH_done (by kernel_rfl) ?_ _)
        go_wp2_with fail
        refine (hrb.out _ E6.ra E6.cr).mono ?_
        rintro e w7 ⟨rfl, hb7⟩
        have E7 := E6.ext hb7
        clear E6 hb7
        go_wp2_with fail
        refine vl_store w7.heap.size 44 (G.map vu8) (List.replicate 16 (.int .u8 0)) (by rfl) (by rfl) (Blk.new w7 _ _) j1.out j2.out j3.out ?_
        rw [setRow_alloc]
        have E8 := E7.alloc (.cells (G.map vu8).toArray 44)
        have G8 := Blk.new w7 (G.map vu8) 44
        generalize w7.alloc (.cells (G.map vu8).toArray 44) = w8 at *
        clear E7
        (try simp only [Act.put, List.setIfInBounds_toArray, List.set_cons_zero, List.set_cons_succ])
        go_wp2_with fail
        refine wp_region_held_drew (S := (fun w' => At w' (w.heap.size + 1 + 1) 0 (dg.map vu8) ∧ At w' w7.heap.size 0 (G.map vu8))) (by kernel_rfl) (⟨At.of_blk E8.bd, At.of_blk G8⟩) (fun hHeld => ?_)
        (refine wpAnyH_ready (rs := [0]) (by kernel_rfl) (by simp) ?_; refine AllReadyH.cons (o := ⟨some 79, _, _, _, _, _⟩) rfl (fun K hK => ?_) AllReadyH.nil; go_simp)
        refine (sanity_any _ E8.drew.cs).mono ?_
        rintro e w9 ⟨rfl, hb9⟩
        have E9 := E8.drew.ext hb9
        have G9 := G8.drew.ext hb9
        clear E8 G8 hb9
        (refine hK.out _ _ (⟨At.of_blk E9.bd, At.of_blk G9⟩) (fun hHeld => ?_); clear hK K; (try simp only [Act.put, List.setIfInBounds_toArray, List.set_cons_zero, List.set_cons_succ]))
        (refine wpAnyH_take (i := 1) (oi := ⟨some 80, _, _, _, _, _⟩) (v := ?_) rfl (by kernel_rfl) (by kernel_rfl) (by kernel_rfl) (fun _ _ _ h => h) (Or.inl ⟨by kernel_rfl, ?_⟩) hHeld ?_; rotate_left; (focus (intro wS hSw; (try dsimp only at hSw); go_simp; (try with_reducible rfl); done)); (try simp only [Act.put, List.setIfInBounds_toArray, List.set_cons_zero, List.set_cons_succ]); refine wpAnyH_take (i := 2) (oi := ⟨some 81, _, _, _, _, _⟩) (v := ?_) rfl (by kernel_rfl) (by kernel_rfl) (by kernel_rfl) (fun _ _ _ h => h) (Or.inl ⟨by kernel_rfl, ?_⟩) hHeld ?_; rotate_left; (focus (intro wS hSw; (try dsimp only at hSw); go_simp; (try with_reducible rfl); done)); (try simp only [Act.put, List.setIfInBounds_toArray, List.set_cons_zero, List.set_cons_succ]); refine wpAnyH_take (i := 3) (oi := ⟨some 82, _, _, _, _, _⟩) (v := ?_) rfl (by kernel_rfl) (by kernel_rfl) (by kernel_rfl) (fun _ _ _ h => h) (Or.inl ⟨by kernel_rfl, ?_⟩) hHeld ?_; rotate_left; (focus (intro wS hSw; (try dsimp only at hSw); go_simp; (try with_reducible rfl); done)); (try simp only [Act.put, List.setIfInBounds_toArray, List.set_cons_zero, List.set_cons_succ]); refine wpAnyH_take (i := 4) (oi := ⟨some 83, _, _, _, _, _⟩) (v := ?_) rfl (by kernel_rfl) (by kernel_rfl) (by kernel_rfl) (fun _ _ _ h => h) (Or.inl ⟨by kernel_rfl, ?_⟩) hHeld ?_; rotate_left; (focus (intro wS hSw; (try dsimp only at hSw); go_simp; (try with_reducible rfl); done)); (try simp only [Act.put, List.setIfInBounds_toArray, List.set_cons_zero, List.set_cons_succ]); refine wpAnyH_take (i := 5) (oi := ⟨some 84, _, _, _, _, _⟩) (v := ?_) rfl (by kernel_rfl) (by kernel_rfl) (by kernel_rfl) (fun _ _ _ h => h) (Or.inl ⟨by kernel_rfl, ?_⟩) hHeld ?_; rotate_left; (focus (intro wS hSw; (try dsimp only at hSw); go_simp; (try with_reducible rfl); done)); (try simp only [Act.put, List.setIfInBounds_toArray, List.set_cons_zero, List.set_cons_succ]); refine wpAnyH_take (i := 6) (oi := ⟨some 85, _, _, _, _, _⟩) (v := ?_) rfl (by kernel_rfl) (by kernel_rfl) (by kernel_rfl) (fun _ _ _ h => h) (Or.inl ⟨by kernel_rfl, ?_⟩) hHeld ?_; rotate_left; (focus (intro wS hSw; (try dsimp only at hSw); go_simp; (try with_reducible rfl); done)); (try simp only [Act.put, List.setIfInBounds_toArray, List.set_cons_zero, List.set_cons_succ]))
        (refine wpAnyH_take (i := 8) (oi := ⟨some 87, _, _, _, _, _⟩) (v := .agg (G.map vu8).toArray) rfl (by kernel_rfl) (by kernel_rfl) (by kernel_rfl) (fun _ _ _ h => h) (yieldsIf_load_mid (by kernel_rfl) 44 _ rfl w7.heap.size 0 (by rfl) (G.map vu8) _ (fun _ h => ?_) Tryd.underlying44 rfl j1.out) hHeld ?_; (focus ((try dsimp only at h); first | exact h | exact h.1 | exact h.2); done); (try simp only [Act.put, List.setIfInBounds_toArray, List.set_cons_zero, List.set_cons_succ]))
        (refine wpAnyH_ready (rs := [7]) (by kernel_rfl) (by simp) ?_; refine AllReadyH.cons (o := ⟨some 86, _, _, _, _, _⟩) rfl (fun K hK => ?_) AllReadyH.nil; go_simp)
        refine (hbl.out _ E9.ra E9.cs).mono ?_
        rintro e w10 ⟨rfl, hb10⟩
        have E10 := E9.ext hb10
        have G10 := G9.ext hb10
        clear E9 G9 hb10
        (refine hK.out _ _ (⟨At.of_blk E10.bd, At.of_blk G10⟩) (fun hHeld => ?_); clear hK K; (try simp only [Act.put, List.setIfInBounds_toArray, List.set_cons_zero, List.set_cons_succ]))
        (refine wpAnyH_take (i := 9) (oi := ⟨some 88, _, _, _, _, _⟩) (v := ?_) rfl (by kernel_rfl) (by kernel_rfl) (by kernel_rfl) (fun _ _ _ h => h) (Or.inl ⟨by kernel_rfl, ?_⟩) hHeld ?_; rotate_left; (focus (intro wS hSw; (try dsimp only at hSw); go_simp; (try with_reducible rfl); done)); (try simp only [Act.put, List.setIfInBounds_toArray, List.set_cons_zero, List.set_cons_succ]); refine wpAnyH_take (i := 10) (oi := ⟨some 89, _, _, _, _, _⟩) (v := ?_) rfl (by kernel_rfl) (by kernel_rfl) (by kernel_rfl) (fun _ _ _ h => h) (Or.inl ⟨by kernel_rfl, ?_⟩) hHeld ?_; rotate_left; (focus (intro wS hSw; (try dsimp only at hSw); go_simp; (try with_reducible rfl); done)); (try simp only [Act.put, List.setIfInBounds_toArray, List.set_cons_zero, List.set_cons_succ]); refine wpAnyH_take (i := 11) (oi := ⟨some 90, _, _, _, _, _⟩) (v := ?_) rfl (by kernel_rfl) (by kernel_rfl) (by kernel_rfl) (fun _ _ _ h => h) (Or.inl ⟨by kernel_rfl, ?_⟩) hHeld ?_; rotate_left; (focus (intro wS hSw; (try dsimp only at hSw); go_simp; (try with_reducible rfl); done)); (try simp only [Act.put, List.setIfInBounds_toArray, List.set_cons_zero, List.set_cons_succ]); refine wpAnyH_take (i := 13) (oi := ⟨some 92, _, _, _, _, _⟩) (v := ?_) rfl (by kernel_rfl) (by kernel_rfl) (by kernel_rfl) (fun _ _ _ h => h) (Or.inl ⟨by kernel_rfl, ?_⟩) hHeld ?_; rotate_left; (focus (intro wS hSw; (try dsimp only at hSw); go_simp; (try with_reducible rfl); done)); (try simp only [Act.put, List.setIfInBounds_toArray, List.set_cons_zero, List.set_cons_succ]); refine wpAnyH_take (i := 14) (oi := ⟨some 93, _, _, _, _, _⟩) (v := ?_) rfl (by kernel_rfl) (by kernel_rfl) (by kernel_rfl) (fun _ _ _ h => h) (Or.inl ⟨by kernel_rfl, ?_⟩) hHeld ?_; rotate_left; (focus (intro wS hSw; (try dsimp only at hSw); go_simp; (try with_reducible rfl); done)); (try simp only [Act.put, List.setIfInBounds_toArray, List.set_cons_zero, List.set_cons_succ]))
        (refine wpAnyH_take (i := 12) (oi := ⟨some 91, _, _, _, _, _⟩) (v := .agg (G.map vu8).toArray) rfl (by kernel_rfl) (by kernel_rfl) (by kernel_rfl) (fun _ _ _ h => h) (yieldsIf_load_mid (by kernel_rfl) 44 _ rfl w7.heap.size 0 (by rfl) (G.map vu8) _ (fun _ h => ?_) Tryd.underlying44 rfl j1.out) hHeld ?_; (focus ((try dsimp only at h); first | exact h | exact h.1 | exact h.2); done); (try simp only [Act.put, List.setIfInBounds_toArray, List.set_cons_zero, List.set_cons_succ]))
        (refine wpAnyH_ready (rs := [15]) (by kernel_rfl) (by simp) ?_; refine AllReadyH.cons (o := ⟨some 94, _, _, _, _, _⟩) rfl (fun K hK => ?_) AllReadyH.nil; go_simp)
        refine (o1.out _ E10.ra E10.cs).mono ?_
        rintro e w11 ⟨rfl, hb11⟩
        have E11 := E10.ext hb11
        have G11 := G10.ext hb11
        clear E10 G10 hb11
        (refine hK.out _ _ (⟨At.of_blk E11.bd, At.of_blk G11⟩) (fun hHeld => ?_); clear hK K; (try simp only [Act.put, List.setIfInBounds_toArray, List.set_cons_zero, List.set_cons_succ]))
        (refine wpAnyH_take (i := 16) (oi := ⟨some 95, _, _, _, _, _⟩) (v := ?_) rfl (by kernel_rfl) (by kernel_rfl) (by kernel_rfl) (fun _ _ _ h => h) (Or.inl ⟨by kernel_rfl, ?_⟩) hHeld ?_; rotate_left; (focus (intro wS hSw; (try dsimp only at hSw); go_simp; (try with_reducible rfl); done)); (try simp only [Act.put, List.setIfInBounds_toArray, List.set_cons_zero, List.set_cons_succ]); refine wpAnyH_take (i := 17) (oi := ⟨some 96, _, _, _, _, _⟩) (v := ?_) rfl (by kernel_rfl) (by kernel_rfl) (by kernel_rfl) (fun _ _ _ h => h) (Or.inl ⟨by kernel_rfl, ?_⟩) hHeld ?_; rotate_left; (focus (intro wS hSw; (try dsimp only at hSw); go_simp; (try with_reducible rfl); done)); (try simp only [Act.put, List.setIfInBounds_toArray, List.set_cons_zero, List.set_cons_succ]); refine wpAnyH_take (i := 19) (oi := ⟨some 98, _, _, _, _, _⟩) (v := ?_) rfl (by kernel_rfl) (by kernel_rfl) (by kernel_rfl) (fun _ _ _ h => h) (Or.inl ⟨by kernel_rfl, ?_⟩) hHeld ?_; rotate_left; (focus (intro wS hSw; (try dsimp only at hSw); go_simp; (try with_reducible rfl); done)); (try simp only [Act.put, List.setIfInBounds_toArray, List.set_cons_zero, List.set_cons_succ]); refine wpAnyH_take (i := 20) (oi := ⟨some 99, _, _, _, _, _⟩) (v := ?_) rfl (by kernel_rfl) (by kernel_rfl) (by kernel_rfl) (fun _ _ _ h => h) (Or.inl ⟨by kernel_rfl, ?_⟩) hHeld ?_; rotate_left; (focus (intro wS hSw; (try dsimp only at hSw); go_simp; (try with_reducible rfl); done)); (try simp only [Act.put, List.setIfInBounds_toArray, List.set_cons_zero, List.set_cons_succ]))
        (refine wpAnyH_take (i := 18) (oi := ⟨some 97, _, _, _, _, _⟩) (v := .agg (dg.map vu8).toArray) rfl (by kernel_rfl) (by kernel_rfl) (by kernel_rfl) (fun _ _ _ h => h) (yieldsIf_load_mid (by kernel_rfl) 44 _ rfl (w.heap.size + 1 + 1) 0 (by rfl) (dg.map vu8) _ (fun _ h => ?_) Tryd.underlying44 rfl j4.out) hHeld ?_; (focus ((try dsimp only at h); first | exact h | exact h.1 | exact h.2); done); (try simp only [Act.put, List.setIfInBounds_toArray, List.set_cons_zero, List.set_cons_succ]))
        (refine wpAnyH_take (i := 22) (oi := ⟨some 101, _, _, _, _, _⟩) (v := .agg (dg.map vu8).toArray) rfl (by kernel_rfl) (by kernel_rfl) (by kernel_rfl) (fun _ _ _ h => h) (yieldsIf_load_mid (by kernel_rfl) 44 _ rfl (w.heap.size + 1 + 1) 0 (by rfl) (dg.map vu8) _ (fun _ h => ?_) Tryd.underlying44 rfl j4.out) hHeld ?_; (focus ((try dsimp only at h); first | exact h | exact h.1 | exact h.2); done); (try simp only [Act.put, List.setIfInBounds_toArray, List.set_cons_zero, List.set_cons_succ]))
        (refine wpAnyH_take (i := 23) (oi := ⟨some 102, _, _, _, _, _⟩) (v := .agg (G.map vu8).toArray) rfl (by kernel_rfl) (by kernel_rfl) (by kernel_rfl) (fun _ _ _ h => h) (yieldsIf_load_mid (by kernel_rfl) 44 _ rfl w7.heap.size 0 (by rfl) (G.map vu8) _ (fun _ h => ?_) Tryd.underlying44 rfl j1.out) hHeld ?_; (focus ((try dsimp only at h); first | exact h | exact h.1 | exact h.2); done); (try simp only [Act.put, List.setIfInBounds_toArray, List.set_cons_zero, List.set_cons_succ]))
        (refine wpAnyH_take (i := 24) (oi := ⟨some 103, _, _, _, _, _⟩) (v := ?_) rfl (by kernel_rfl) (by kernel_rfl) (by kernel_rfl) (fun _ _ _ h => h) (Or.inl ⟨by kernel_rfl, ?_⟩) hHeld ?_; rotate_left; (focus (intro wS hSw; (try dsimp only at hSw); go_simp; (try with_reducible rfl); done)); (try simp only [Act.put, List.setIfInBounds_toArray, List.set_cons_zero, List.set_cons_succ]))
        (refine wpAnyH_ready (rs := [21]) (by kernel_rfl) (by simp) ?_; refine AllReadyH.cons (o := ⟨some 100, _, _, _, _, _⟩) rfl (fun K hK => ?_) AllReadyH.nil; go_simp)
        refine (o2.out _ E11.ra E11.cs).mono ?_
        rintro e w12 ⟨rfl, hb12⟩
        have E12 := E11.ext hb12
        have G12 := G11.ext hb12
        clear E11 G11 hb12
        (refine hK.out _ _ (⟨At.of_blk E12.bd, At.of_blk G12⟩) (fun hHeld => ?_); clear hK K; (try simp only [Act.put, List.setIfInBounds_toArray, List.set_cons_zero, List.set_cons_succ]))
        (refine wpAnyH_take (i := 25) (oi := ⟨some 104, _, _, _, _, _⟩) (v := ?_) rfl (by kernel_rfl) (by kernel_rfl) (by kernel_rfl) (fun _ _ _ h => h) (Or.inl ⟨by kernel_rfl, ?_⟩) hHeld ?_; rotate_left; (focus (intro wS hSw; (try dsimp only at hSw); go_simp; (try with_reducible rfl); done)); (try simp only [Act.put, List.setIfInBounds_toArray, List.set_cons_zero, List.set_cons_succ]); refine wpAnyH_take (i := 26) (oi := ⟨some 105, _, _, _, _, _⟩) (v := ?_) rfl (by kernel_rfl) (by kernel_rfl) (by kernel_rfl) (fun _ _ _ h => h) (Or.inl ⟨by kernel_rfl, ?_⟩) hHeld ?_; rotate_left; (focus (intro wS hSw; (try dsimp only at hSw); go_simp; (try with_reducible rfl); done)); (try simp only [Act.put, List.setIfInBounds_toArray, List.set_cons_zero, List.set_cons_succ]); refine wpAnyH_take (i := 27) (oi := ⟨some 18, _, _, _, _, _⟩) (v := ?_) rfl (by kernel_rfl) (by kernel_rfl) (by kernel_rfl) (fun _ _ _ h => h) (Or.inl ⟨by kernel_rfl, ?_⟩) hHeld ?_; rotate_left; (focus (intro wS hSw; (try dsimp only at hSw); go_simp; (try with_reducible rfl); done)); (try simp only [Act.put, List.setIfInBounds_toArray, List.set_cons_zero, List.set_cons_succ]))
        (refine wpAnyH_done (by kernel_rfl) ?_ _)
        go_wp2_with fail
        go_ret
        exact ⟨rfl, E12.lt⟩)
end Go.Proofs.YtbccfgeepdmegaaDoor
