/- Walk: the statement SealChangesRings. -/
import Derived.Test.YtbccfgeepdmegaaDoorSanX
import Derived.Test.YtbccfgeepdmegaaDoorRefE
import Derived.Test.YtbccfgeepdmegaaDoorLawC0
set_option linter.unusedVariables false
set_option linter.unusedSimpArgs false
set_option linter.unnecessarySimpa false
namespace Go.Proofs.YtbccfgeepdmegaaDoor
open Go Go.RowKit Mem
attribute [local go_sem ↓] Go.wp_at_zero Go.wp_at_succ veil_lk veil_sk veil_glk
theorem rotL_len {l : List KeyD} (hr : ring l = true) (p : Int) (secret : ByteArray) (d : Int) : (rotL l p secret d).length ≤ l.length + 1 := by
  by_cases he : rotE l p secret d = 0
  · rw [(rot_law hr he).2.1]; omega
  · rw [rot_bad he]; simp
theorem revL_len (l : List KeyD) (p s d : Int) : (revL l p s d).length ≤ l.length + 1 := by
  cases hf : find l p s with
  | none => rw [(rev_none hf d).2]; simp
  | some k =>
    by_cases hd : d ≤ k.fr
    · rw [(rev_time hf hd).2]; simp
    · rw [(rev_ok hf hd).2]
      have h := putTo_len (capped k d) l
      unfold put
      split
      · rename_i hc; rw [hc] at h; simpa using h
      · rename_i hc
        have hf : (putTo (capped k d) l).2 = false := by simpa using hc
        rw [hf] at h; simpa using h
/-- what lies there while the statement runs -/
structure EnvE (w W : World) (A : Option Addr) (l : List KeyD) : Prop where
  ks : Ks W A l
  cs : At W 0 0 (Sha.K.map vu32)
  lt : Below w.heap.size w W
theorem EnvE.ext {w W W' : World} {A : Option Addr} {l : List KeyD} (h : EnvE w W A l) (hb : Below W.heap.size W W') : EnvE w W' A l := ⟨h.ks.below hb, h.cs.below hb, ext_trans h.lt hb⟩
theorem EnvE.alloc {w W : World} {A : Option Addr} {l : List KeyD} (h : EnvE w W A l) (o : Obj) : EnvE w (W.alloc o) A l := h.ext ((Below.refl _ _).alloc (Nat.le_refl _) o)
set_option maxRecDepth 100000 in
set_option maxHeartbeats 32000000 in
theorem law7_any (A : Option Addr) (cap : Nat) (l : List KeyD) (p s : Int) (secret : ByteArray) (d : Int) (w : World) (hl : Ks w A l) (hcap : l.length ≤ cap) (hc2 : cap ≤ 9223372036854775807) (hsz : secret.size ≤ 9223372036854775807)
    (hd : -9223372036854775808 ≤ d ∧ d < 9223372036854775808) (hK : At w 0 0 (Sha.K.map vu32)) :
    Calls Tryd.prog 7 #[.slice A l.length cap, .int .i64 p, .int .i64 s, .string secret, .int .i64 d] w fun e w' => e = .returned (.bool true) ∧ Below w.heap.size w w' := by
  by_cases h30 : 30 < l.length
  · have h30' : (30 : Int) < (l.length : Int) := by omega
    go_enter Tryd.func7, Tryd.ntmps7
    go_wp2_with (go_at_call 9; refine (sanity_any _ hK).mono ?_; rintro e w2 ⟨rfl, hb2⟩)
    go_ret
    exact ⟨rfl, hb2⟩
  have h30' : ¬ (30 : Int) < (l.length : Int) := by omega
  have hn : l.length ≤ 1000000 := by omega
  have hrring := fun W h => rring_any A cap l W h hn
  cases hr : ring l with
  | false =>
    rw [hr] at hrring
    replace hrring := hide hrring
    replace hr := hide hr
    go_enter Tryd.func7, Tryd.ntmps7
    go_wp2_with (first
      | (go_at_call 11; refine (hrring.out _ hl).mono ?_; rintro e w1 ⟨rfl, hb1⟩; have K1 := At.below hK hb1)
      | (go_at_call 9; refine (sanity_any _ K1).mono ?_; rintro e w2 ⟨rfl, hb2⟩))
    go_ret
    exact ⟨rfl, ext_trans hb1 hb2⟩
  | true =>
    rw [hr] at hrring
    replace hrring := hide hrring
    by_cases hs3 : 300 < secret.size
    · have hs3' : (300 : Int) < (secret.size : Int) := by omega
      replace hr := hide hr
      go_enter Tryd.func7, Tryd.ntmps7
      go_wp2_with (first
        | (go_at_call 11; refine (hrring.out _ hl).mono ?_; rintro e w1 ⟨rfl, hb1⟩; have K1 := At.below hK hb1)
        | (go_at_call 9; refine (sanity_any _ K1).mono ?_; rintro e w2 ⟨rfl, hb2⟩))
      go_ret
      exact ⟨rfl, ext_trans hb1 hb2⟩
    have hs3' : ¬ (300 : Int) < (secret.size : Int) := by omega
    have hrot := fun W h => rotate_keys A cap l p secret d W h hr hn hcap hc2 hsz hd
    have hrev := fun W h => revoke_keys A cap l p s d W h hr hn
    have hrrot := fun W h => rrotate_any A cap l p secret d W h hr hn hsz hd
    have hrrev := fun W h => rrevoke_any A cap l p s d W h hn
    have n1 : (rotL l p secret d).length ≤ 1000000 := by have := rotL_len hr p secret d; omega
    have n2 : (revL l p s d).length ≤ 1000000 := by have := revL_len l p s d; omega
    obtain ⟨m, hm⟩ : ∃ m, m = rotL l p secret d := ⟨_, rfl⟩
    obtain ⟨em, hem⟩ : ∃ m, m = rotE l p secret d := ⟨_, rfl⟩
    obtain ⟨v, hv⟩ : ∃ m, m = revL l p s d := ⟨_, rfl⟩
    obtain ⟨ev, hev⟩ : ∃ m, m = revE l p s d := ⟨_, rfl⟩
    rw [← hm] at hrot hrrot n1
    rw [← hem] at hrot hrrot
    rw [← hv] at hrev hrrev n2
    rw [← hev] at hrev hrrev
    have s1 := fun B C c c' W h h' => same_any B C c c' m m W h h' n1 n1
    have s2 := fun B C c c' W h h' => same_any B C c c' v v W h h' n2 n2
    rw [show decide (m = m) = true from decide_eq_true rfl] at s1
    rw [show decide (v = v) = true from decide_eq_true rfl] at s2
    have E0 : EnvE w w A l := ⟨hl, hK, Below.refl _ _⟩
    replace hrot := hide hrot
    replace hrev := hide hrev
    replace hrrot := hide hrrot
    replace hrrev := hide hrrev
    replace s1 := hide s1
    replace s2 := hide s2
    replace hr := hide hr
    clear hm hem hv hev n1 n2 hl hK
    go_enter Tryd.func7, Tryd.ntmps7
    go_wp2_with fail
    refine (hrring.out _ E0.ks).mono ?_
    rintro e w1 ⟨rfl, hb1⟩
    have E1 := E0.ext hb1
    clear E0 hb1
    go_wp2_with fail
    refine (hrot.out _ E1.ks).mono ?_
    rintro e w2 ⟨v2, rfl, ⟨A2, c2, rfl, L2, _, _, _⟩, hb2⟩
    have E2 := E1.ext hb2
    clear E1 hb2
    go_wp2_with fail
    refine (hrev.out _ E2.ks).mono ?_
    rintro e w3 ⟨v3, rfl, ⟨A3, c3, rfl, M3, _, _, _⟩, hb3⟩
    have E3 := E2.ext hb3
    have L3 := Ks.below L2 hb3
    clear E2 L2 hb3
    go_wp2_with fail
    refine (hrrot.out _ E3.ks).mono ?_
    rintro e w4 ⟨v4, rfl, ⟨A4, c4, rfl, X4⟩, hb4⟩
    have E4 := E3.ext hb4
    have L4 := Ks.below L3 hb4
    have M4 := Ks.below M3 hb4
    clear E3 L3 M3 hb4
    go_wp2_with fail
    have E5 := E4.alloc (.cells #[.slice A4 m.length c4, .int .i64 em] 34)
    have L5 := Rd.alloc L4 (.cells #[.slice A4 m.length c4, .int .i64 em] 34)
    have M5 := Rd.alloc M4 (.cells #[.slice A4 m.length c4, .int .i64 em] 34)
    have X5 := Rd.alloc X4 (.cells #[.slice A4 m.length c4, .int .i64 em] 34)
    have D5 := Blk.new w4 [.slice A4 m.length c4, .int .i64 em] 34
    refine (hrrev.out _ E5.ks).mono ?_
    rintro e w6 ⟨v6, rfl, ⟨A6, c6, rfl, Y6⟩, hb6⟩
    have E6 := E5.ext hb6
    have L6 := Ks.below L5 hb6
    have M6 := Ks.below M5 hb6
    have X6 := Ks.below X5 hb6
    have D6 := D5.ext hb6
    clear E5 L5 M5 X5 D5 E4 L4 M4 X4 hb6
    go_wp2_with fail
    have E7 := E6.alloc (.cells #[.slice A6 v.length c6, .int .i64 ev] 34)
    have L7 := Rd.alloc L6 (.cells #[.slice A6 v.length c6, .int .i64 ev] 34)
    have M7 := Rd.alloc M6 (.cells #[.slice A6 v.length c6, .int .i64 ev] 34)
    have X7 := Rd.alloc X6 (.cells #[.slice A6 v.length c6, .int .i64 ev] 34)
    have Y7 := Rd.alloc Y6 (.cells #[.slice A6 v.length c6, .int .i64 ev] 34)
    have D7 := D6.alloc (.cells #[.slice A6 v.length c6, .int .i64 ev] 34)
    have F7 := Blk.new w6 [.slice A6 v.length c6, .int .i64 ev] 34
    refine (sanity_any _ E7.cs).mono ?_
    rintro e w8 ⟨rfl, hb8⟩
    have E8 := E7.ext hb8
    have L8 := Ks.below L7 hb8
    have M8 := Ks.below M7 hb8
    have X8 := Ks.below X7 hb8
    have Y8 := Ks.below Y7 hb8
    have D8 := D7.ext hb8
    have F8 := F7.ext hb8
    clear E7 L7 M7 X7 Y7 D7 F7 E6 L6 M6 X6 Y6 D6 hb8
    have d0 := D8.cell (i := 0) rfl
    have d1 := D8.cell (i := 1) rfl
    have f0 := F8.cell (i := 0) rfl
    have f1 := F8.cell (i := 1) rfl
    go_wp2_with fail
    refine (s1.out _ _ _ _ _ L8 X8).mono ?_
    rintro e w9 ⟨rfl, hb9⟩
    have E9 := E8.ext hb9
    have M9 := Ks.below M8 hb9
    have Y9 := Ks.below Y8 hb9
    have D9 := D8.ext hb9
    have F9 := F8.ext hb9
    clear E8 L8 M8 X8 Y8 D8 F8 hb9 d0 d1 f0 f1
    have d1 := D9.cell (i := 1) rfl
    have f0 := F9.cell (i := 0) rfl
    have f1 := F9.cell (i := 1) rfl
    go_wp2_with fail
    refine (s2.out _ _ _ _ _ M9 Y9).mono ?_
    rintro e w10 ⟨rfl, hb10⟩
    have E10 := E9.ext hb10
    have D10 := D9.ext hb10
    have F10 := F9.ext hb10
    clear E9 M9 Y9 D9 F9 hb10 d1 f0 f1
    have f1 := F10.cell (i := 1) rfl
    go_wp2_with fail
    go_ret
    exact ⟨rfl, E10.lt⟩
end Go.Proofs.YtbccfgeepdmegaaDoor
