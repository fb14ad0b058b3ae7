/- Walk: the statement SealRotatesInTime. -/
import Derived.Test.YtbccfgeepdmegaaDoorSanX
import Derived.Test.YtbccfgeepdmegaaDoorRefC
import Derived.Test.YtbccfgeepdmegaaDoorLawC0
set_option linter.unusedVariables false
set_option linter.unusedSimpArgs false
set_option linter.unnecessarySimpa false
namespace Go.Proofs.YtbccfgeepdmegaaDoor
open Go Go.RowKit Mem
attribute [local go_sem ↓] Go.wp_at_zero Go.wp_at_succ veil_lk veil_sk veil_glk
/-- what lies there while the statement runs -/
structure EnvC (w W : World) (A : Option Addr) (l : List KeyD) : Prop where
  ks : Ks W A l
  cs : At W 0 0 (Sha.K.map vu32)
  lt : Below w.heap.size w W
theorem EnvC.ext {w W W' : World} {A : Option Addr} {l : List KeyD} (h : EnvC w W A l) (hb : Below W.heap.size W W') : EnvC w W' A l := ⟨h.ks.below hb, h.cs.below hb, ext_trans h.lt hb⟩
theorem EnvC.alloc {w W : World} {A : Option Addr} {l : List KeyD} (h : EnvC w W A l) (o : Obj) : EnvC w (W.alloc o) A l := h.ext ((Below.refl _ _).alloc (Nat.le_refl _) o)
theorem EnvC.drew {w W : World} {A : Option Addr} {l : List KeyD} (h : EnvC w W A l) : EnvC w W.drew A l := h.ext (Below.refl _ _).drew
set_option maxRecDepth 100000 in
set_option maxHeartbeats 32000000 in
theorem law5_any (A : Option Addr) (cap : Nat) (l : List KeyD) (x : Int) (secret : ByteArray) (d o : Int) (w : World) (hl : Ks w A l) (hok : oks l) (hcap : l.length ≤ cap) (hc2 : cap ≤ 9223372036854775807) (hx : 0 ≤ x ∧ x < 256) (hsz : secret.size ≤ 9223372036854775807)
    (hd : -9223372036854775808 ≤ d ∧ d < 9223372036854775808) (hK : At w 0 0 (Sha.K.map vu32)) :
    Calls Tryd.prog 5 #[.slice A l.length cap, .int .u8 x, .string secret, .int .i64 d, .int .i64 o] w fun e w' => e = .returned (.bool true) ∧ Below w.heap.size w w' := by
  have hk5 := fun k => hide (kC_size k)
  have hkl := fun a b => hide (kC_len a b)
  have hko := fun k => hide (kC_ones k)
  by_cases h0 : l.length = 0
  · have h0' : (l.length : Int) = 0 := by omega
    go_enter Tryd.func5, Tryd.ntmps5
    go_wp2_with (go_at_call 9; refine (sanity_any _ hK).mono ?_; rintro e w2 ⟨rfl, hb2⟩)
    go_ret
    exact ⟨rfl, hb2⟩
  have h0' : ((l.length : Int) == 0) = false := beq_eq_false_iff_ne.2 (by omega)
  by_cases h30 : 30 < l.length
  · have h30' : (30 : Int) < (l.length : Int) := by omega
    go_enter Tryd.func5, Tryd.ntmps5
    go_wp2_with (go_at_call 9; refine (sanity_any _ hK).mono ?_; rintro e w2 ⟨rfl, hb2⟩)
    go_ret
    exact ⟨rfl, hb2⟩
  have h30' : ¬ (30 : Int) < (l.length : Int) := by omega
  have hn : l.length ≤ 1000000 := by omega
  have hrring := fun W h => rring_any A cap l W h hn
  cases hr : ring l with
  | false =>
    rw [hr] at hrring
    replace hrring := hide hrring
    replace hr := hide hr
    go_enter Tryd.func5, Tryd.ntmps5
    go_wp2_with (first
      | (go_at_call 11; refine (hrring.out _ hl).mono ?_; rintro e w1 ⟨rfl, hb1⟩; have K1 := At.below hK hb1)
      | (go_at_call 9; refine (sanity_any _ K1).mono ?_; rintro e w2 ⟨rfl, hb2⟩))
    go_ret
    exact ⟨rfl, ext_trans hb1 hb2⟩
  | true =>
    rw [hr] at hrring
    replace hrring := hide hrring
    by_cases hs3 : 300 < secret.size
    · have hs3' : (300 : Int) < (secret.size : Int) := by omega
      replace hr := hide hr
      go_enter Tryd.func5, Tryd.ntmps5
      go_wp2_with (first
        | (go_at_call 11; refine (hrring.out _ hl).mono ?_; rintro e w1 ⟨rfl, hb1⟩; have K1 := At.below hK hb1)
        | (go_at_call 9; refine (sanity_any _ K1).mono ?_; rintro e w2 ⟨rfl, hb2⟩))
      go_ret
      exact ⟨rfl, ext_trans hb1 hb2⟩
    have hs3' : ¬ (300 : Int) < (secret.size : Int) := by omega
    by_cases ho1 : o < 0
    · replace hr := hide hr
      go_enter Tryd.func5, Tryd.ntmps5
      go_wp2_with (first
        | (go_at_call 11; refine (hrring.out _ hl).mono ?_; rintro e w1 ⟨rfl, hb1⟩; have K1 := At.below hK hb1)
        | (go_at_call 9; refine (sanity_any _ K1).mono ?_; rintro e w2 ⟨rfl, hb2⟩))
      go_ret
      exact ⟨rfl, ext_trans hb1 hb2⟩
    by_cases ho2 : 1048576 < o
    · replace hr := hide hr
      go_enter Tryd.func5, Tryd.ntmps5
      go_wp2_with (first
        | (go_at_call 11; refine (hrring.out _ hl).mono ?_; rintro e w1 ⟨rfl, hb1⟩; have K1 := At.below hK hb1)
        | (go_at_call 9; refine (sanity_any _ K1).mono ?_; rintro e w2 ⟨rfl, hb2⟩))
      go_ret
      exact ⟨rfl, ext_trans hb1 hb2⟩
    obtain ⟨n, hnn⟩ : ∃ n, n = x.toNat % l.length := ⟨_, rfl⟩
    have hnl : n < l.length := by rw [hnn]; exact Nat.mod_lt _ (by omega)
    obtain ⟨k, hkn⟩ : ∃ k, l[n]? = some k := ⟨_, List.getElem?_eq_getElem hnl⟩
    have hx1 := i64_id x (by omega)
    have hx2 : x.tmod (l.length : Int) = (n : Int) := by
      obtain ⟨x', rfl⟩ := Int.eq_ofNat_of_zero_le hx.1
      rw [hnn, Int.tmod_eq_emod_of_nonneg (by omega)]
      simp
    have hx3 := i64_id (n : Int) (by omega)
    obtain ⟨b, off, rfl, hbl, hkc⟩ := Ks.get hl hkn
    obtain ⟨c0, _⟩ := kcell hkc
    have hrot := fun W h => rotate_keys (some ⟨b, off, none⟩) cap l k.party secret d W h hr hn hcap hc2 hsz hd
    have hcur := fun W h => current_keys (some ⟨b, off, none⟩) cap l k.party o W h hr hn hcap hc2 (by omega)
    have z0 : (0 : Int) ≤ (n : Int) := by omega
    have z1 : (n : Int) < (l.length : Int) := by omega
    have E0 : EnvC w w (some ⟨b, off, none⟩) l := ⟨hl, hK, Below.refl _ _⟩
    by_cases he : rotE l k.party secret d = 0
    · obtain ⟨m1, m2, m3⟩ := rot_law hr he
      have m4 := m3 o (by omega)
      rw [he] at hrot
      obtain ⟨m, hm⟩ : ∃ m, m = rotL l k.party secret d := ⟨_, rfl⟩
      rw [← hm] at hrot m1 m2 m4
      have hcm := fun A' cap' W h h1 h2 => current_keys A' cap' m k.party o W h m1 (by omega) h1 h2 (by omega)
      have hrm := fun A' cap' W h => rring_any A' cap' m W h (by omega)
      rw [m1] at hrm
      have hw1 : IntKind.i64.wrap ((l.length : Int) + 1) = (m.length : Int) := by rw [i64_id _ (by omega), m2]; simp
      replace hrot := hide hrot
      replace hcm := hide hcm
      replace hrm := hide hrm
      replace hcur := hide hcur
      replace hr := hide hr
      replace hkc := hide hkc
      clear hnn hkn he m3 hm hl hK
      by_cases hdo : d ≤ o
      · obtain ⟨e1, e2, e3⟩ := m4.1 hdo
        obtain ⟨⟨xp, xs, xk, xf, xt⟩, hc1⟩ : ∃ c, c = (curD m k.party o).1 := ⟨_, rfl⟩
        obtain ⟨cy, hcy⟩ : ∃ c, c = (curD l k.party o).1 := ⟨_, rfl⟩
        obtain ⟨ey, hey⟩ : ∃ c, c = (curD l k.party o).2 := ⟨_, rfl⟩
        rw [← hc1] at hcm e2 e3
        rw [e1] at hcm
        rw [← hcy, ← hey] at hcur
        simp only at e2 e3
        rw [e2, e3] at hcm
        clear e1 e2 e3 hc1 hcy hey m4 m1 m2
        go_enter Tryd.func5, Tryd.ntmps5
        go_wp2_with fail
        refine (hrring.out _ E0.ks).mono ?_
        rintro e w1 ⟨rfl, hb1⟩
        have E1 := E0.ext hb1
        have c1 := (kcell (At.below hkc.out hb1)).1
        clear E0 hb1 c0
        go_wp2_with fail
        refine (hrot.out _ E1.ks).mono ?_
        rintro e w2 ⟨v2, rfl, ⟨A2, cap2, rfl, L2, q1, q2, q3⟩, hb2⟩
        have E2 := E1.ext hb2
        clear E1 hb2 c1
        go_wp2_with fail
        refine (hcm.out _ _ _ L2 q1 q2).mono ?_
        rintro e w3 ⟨rfl, hb3⟩
        unfold kV
        have E3 := E2.ext hb3
        have L3 := Ks.below L2 hb3
        clear E2 L2 hb3
        go_wp2_with fail
        refine vl_store w3.heap.size 24 (kC ⟨xp, xs, secret, d, xt⟩) (kC (key0 0 0)) (by rfl) (by rfl) (Blk.new w3 _ _) (hk5 _).out (hkl _ _).out (hko _).out ?_
        rw [setRow_alloc]
        have E4 := E3.alloc (.cells (kC ⟨xp, xs, secret, d, xt⟩).toArray 24)
        have L4 := Rd.alloc L3 (.cells (kC ⟨xp, xs, secret, d, xt⟩).toArray 24)
        have X4 := Blk.new w3 (kC ⟨xp, xs, secret, d, xt⟩) 24
        generalize w3.alloc (.cells (kC ⟨xp, xs, secret, d, xt⟩).toArray 24) = w4 at *
        clear E3 L3
        (try simp only [Act.put, List.setIfInBounds_toArray, List.set_cons_zero, List.set_cons_succ])
        go_wp2_with fail
        refine (hcur.out _ E4.ks).mono ?_
        rintro e w5 ⟨rfl, hb5⟩
        unfold kV
        have E5 := E4.ext hb5
        have L5 := Ks.below L4 hb5
        have X5 := X4.ext hb5
        clear E4 L4 X4 hb5
        go_wp2_with fail
        refine vl_store w5.heap.size 24 (kC cy) (kC (key0 0 0)) (by rfl) (by rfl) (Blk.new w5 _ _) (hk5 _).out (hkl _ _).out (hko _).out ?_
        rw [setRow_alloc]
        have E6 := E5.alloc (.cells (kC cy).toArray 24)
        have L6 := Rd.alloc L5 (.cells (kC cy).toArray 24)
        have X6 := X5.alloc (.cells (kC cy).toArray 24)
        have Y6 := Blk.new w5 (kC cy) 24
        generalize w5.alloc (.cells (kC cy).toArray 24) = w6 at *
        clear E5 L5 X5
        (try simp only [Act.put, List.setIfInBounds_toArray, List.set_cons_zero, List.set_cons_succ])
        go_wp2_with fail
        refine (hrm.out _ _ _ L6).mono ?_
        rintro e w7 ⟨rfl, hb7⟩
        have E7 := E6.ext hb7
        have X7 := X6.ext hb7
        have Y7 := Y6.ext hb7
        clear E6 L6 X6 Y6 hb7
        go_wp2_with fail
        refine (sanity_any _ E7.cs).mono ?_
        rintro e w8 ⟨rfl, hb8⟩
        have X8 := X7.ext hb8
        have E8 := E7.ext hb8
        have x3 := X8.cell (i := 3) rfl
        have x2 := X8.cell (i := 2) rfl
        go_wp2_with fail
        go_ret
        exact ⟨rfl, E8.lt⟩
      · obtain ⟨e1, e2, e3⟩ := m4.2 (by omega)
        obtain ⟨⟨xp, xs, xk, xf, xt⟩, hc1⟩ : ∃ c, c = (curD m k.party o).1 := ⟨_, rfl⟩
        obtain ⟨⟨yp, ys, yk, yf, yt⟩, hcy⟩ : ∃ c, c = (curD l k.party o).1 := ⟨_, rfl⟩
        obtain ⟨ey, hey⟩ : ∃ c, c = (curD l k.party o).2 := ⟨_, rfl⟩
        rw [← hc1, ← hcy] at e2 e3
        simp only at e2 e3
        subst e2 e3
        rw [← hc1, e1, ← hey] at hcm
        rw [← hcy, ← hey] at hcur
        clear e1 hc1 hcy hey m4 m1 m2
        by_cases hz : ey = 0
        all_goals (
          go_enter Tryd.func5, Tryd.ntmps5
          go_wp2_with fail
          refine (hrring.out _ E0.ks).mono ?_
          rintro e w1 ⟨rfl, hb1⟩
          have E1 := E0.ext hb1
          have c1 := (kcell (At.below hkc.out hb1)).1
          clear E0 hb1 c0
          go_wp2_with fail
          refine (hrot.out _ E1.ks).mono ?_
          rintro e w2 ⟨v2, rfl, ⟨A2, cap2, rfl, L2, q1, q2, q3⟩, hb2⟩
          have E2 := E1.ext hb2
          clear E1 hb2 c1
          go_wp2_with fail
          refine (hcm.out _ _ _ L2 q1 q2).mono ?_
          rintro e w3 ⟨rfl, hb3⟩
          unfold kV
          have E3 := E2.ext hb3
          have L3 := Ks.below L2 hb3
          clear E2 L2 hb3
          go_wp2_with fail
          refine vl_store w3.heap.size 24 (kC ⟨xp, xs, xk, xf, xt⟩) (kC (key0 0 0)) (by rfl) (by rfl) (Blk.new w3 _ _) (hk5 _).out (hkl _ _).out (hko _).out ?_
          rw [setRow_alloc]
          have E4 := E3.alloc (.cells (kC ⟨xp, xs, xk, xf, xt⟩).toArray 24)
          have L4 := Rd.alloc L3 (.cells (kC ⟨xp, xs, xk, xf, xt⟩).toArray 24)
          have X4 := Blk.new w3 (kC ⟨xp, xs, xk, xf, xt⟩) 24
          generalize w3.alloc (.cells (kC ⟨xp, xs, xk, xf, xt⟩).toArray 24) = w4 at *
          clear E3 L3
          (try simp only [Act.put, List.setIfInBounds_toArray, List.set_cons_zero, List.set_cons_succ])
          go_wp2_with fail
          refine (hcur.out _ E4.ks).mono ?_
          rintro e w5 ⟨rfl, hb5⟩
          unfold kV
          have E5 := E4.ext hb5
          have L5 := Ks.below L4 hb5
          have X5 := X4.ext hb5
          clear E4 L4 X4 hb5
          go_wp2_with fail
          refine vl_store w5.heap.size 24 (kC ⟨yp, xs, xk, yf, yt⟩) (kC (key0 0 0)) (by rfl) (by rfl) (Blk.new w5 _ _) (hk5 _).out (hkl _ _).out (hko _).out ?_
          rw [setRow_alloc]
          have E6 := E5.alloc (.cells (kC ⟨yp, xs, xk, yf, yt⟩).toArray 24)
          have L6 := Rd.alloc L5 (.cells (kC ⟨yp, xs, xk, yf, yt⟩).toArray 24)
          have X6 := X5.alloc (.cells (kC ⟨yp, xs, xk, yf, yt⟩).toArray 24)
          have Y6 := Blk.new w5 (kC ⟨yp, xs, xk, yf, yt⟩) 24
          generalize w5.alloc (.cells (kC ⟨yp, xs, xk, yf, yt⟩).toArray 24) = w6 at *
          clear E5 L5 X5
          (try simp only [Act.put, List.setIfInBounds_toArray, List.set_cons_zero, List.set_cons_succ])
          go_wp2_with fail
          refine (hrm.out _ _ _ L6).mono ?_
          rintro e w7 ⟨rfl, hb7⟩
          have E7 := E6.ext hb7
          have X7 := X6.ext hb7
          have Y7 := Y6.ext hb7
          clear E6 L6 X6 Y6 hb7
          go_wp2_with fail
          refine (sanity_any _ E7.cs).mono ?_
          rintro e w8 ⟨rfl, hb8⟩
          have X8 := X7.ext hb8
          have Y8 := Y7.ext hb8
          have E8 := E7.ext hb8
          have x1 := X8.cell (i := 1) rfl
          have x2 := X8.cell (i := 2) rfl
          have y1 := Y8.cell (i := 1) rfl
          have y2 := Y8.cell (i := 2) rfl
          go_wp2_with fail
          go_ret
          exact ⟨rfl, E8.lt⟩)
    · rw [rot_bad he] at hrot
      obtain ⟨re, hre⟩ : ∃ re, re = rotE l k.party secret d := ⟨_, rfl⟩
      rw [← hre] at hrot he
      have he' : (re == 0) = false := by simpa using he
      replace hrot := hide hrot
      replace hcur := hide hcur
      replace hr := hide hr
      replace hkc := hide hkc
      clear hre hnn hkn hl hK he
      go_enter Tryd.func5, Tryd.ntmps5
      go_wp2_with fail
      refine (hrring.out _ E0.ks).mono ?_
      rintro e w1 ⟨rfl, hb1⟩
      have E1 := E0.ext hb1
      have c1 := (kcell (At.below hkc.out hb1)).1
      go_wp2_with fail
      refine (hrot.out _ E1.ks).mono ?_
      rintro e w2 ⟨v2, rfl, ⟨A2, cap2, rfl, L2, q1, q2, q3⟩, hb2⟩
      have E2 := E1.ext hb2
      go_wp2_with fail
      refine (sanity_any _ E2.cs).mono ?_
      rintro e w3 ⟨rfl, hb3⟩
      have E3 := E2.ext hb3
      go_wp2_with fail
      go_ret
      exact ⟨rfl, E3.lt⟩
end Go.Proofs.YtbccfgeepdmegaaDoor
