/- Walk: the statement SealHoldsInItsDays. -/
import Derived.Test.YtbccfgeepdmegaaDoorSanX
import Derived.Test.YtbccfgeepdmegaaDoorRefC
import Derived.Test.YtbccfgeepdmegaaDoorRefD
import Derived.Test.YtbccfgeepdmegaaDoorLawC0
set_option linter.unusedVariables false
set_option linter.unusedSimpArgs false
set_option linter.unnecessarySimpa false
namespace Go.Proofs.YtbccfgeepdmegaaDoor
open Go Go.RowKit Mem
attribute [local go_sem ↓] Go.wp_at_zero Go.wp_at_succ veil_lk veil_sk veil_glk veil_lseal veil_sseal veil_glseal
/-- what lies there while the statement runs -/
structure EnvF (w W : World) (R : Option Addr) (l : List KeyD) (A : Option Addr) (ps : List ByteArray) : Prop where
  ks : Ks W R l
  ra : Rd W A (ps.map .string)
  cs : At W 0 0 (Sha.K.map vu32)
  lt : Below w.heap.size w W
theorem EnvF.ext {w W W' : World} {R : Option Addr} {l : List KeyD} {A : Option Addr} {ps : List ByteArray} (h : EnvF w W R l A ps) (hb : Below W.heap.size W W') : EnvF w W' R l A ps :=
  ⟨h.ks.below hb, Rd.below h.ra hb, h.cs.below hb, ext_trans h.lt hb⟩
theorem EnvF.alloc {w W : World} {R : Option Addr} {l : List KeyD} {A : Option Addr} {ps : List ByteArray} (h : EnvF w W R l A ps) (o : Obj) : EnvF w (W.alloc o) R l A ps := h.ext ((Below.refl _ _).alloc (Nat.le_refl _) o)
/-- another seal: one bit is turned -/
def flip (F : List Nat) (j b : Nat) : List Nat := F.set j (F.getD j 0 ^^^ 2 ^ b)
theorem getD_at {F : List Nat} {j : Nat} (hj : j < F.length) : F.getD j 0 = F[j] := by simp [List.getD, List.getElem?_eq_getElem hj]
theorem getD_off {F : List Nat} {j : Nat} (hj : F.length ≤ j) : F.getD j 0 = 0 := by simp [List.getD, List.getElem?_eq_none hj]
theorem flip_16 {F : List Nat} (h : D16 F) (j : Nat) {b : Nat} (hb : b < 8) : D16 (flip F j b) := by
  refine ⟨by unfold flip; rw [List.length_set]; exact h.1, fun x hx => ?_⟩
  unfold flip at hx
  rcases List.mem_or_eq_of_mem_set hx with h1 | h1
  · exact h.2 x h1
  · rw [h1]
    have h2 : F.getD j 0 < 2 ^ 8 := by
      by_cases hj : j < F.length
      · rw [getD_at hj]; exact h.2 _ (List.getElem_mem hj)
      · rw [getD_off (by omega)]; decide
    have h3 : 2 ^ b < 2 ^ 8 := Nat.pow_lt_pow_right (by decide) hb
    exact Nat.xor_lt_two_pow h2 h3
theorem flip_ne {F : List Nat} (j b : Nat) (hj : j < F.length) : F ≠ flip F j b := by
  intro h
  have h1 := congrArg (fun l => l[j]?) h
  unfold flip at h1
  simp only [List.getElem?_set_self hj, List.getElem?_eq_getElem hj, Option.some.injEq, getD_at hj] at h1
  have h2 : F[j] ^^^ F[j] = F[j] ^^^ (F[j] ^^^ 2 ^ b) := congrArg (fun y => F[j] ^^^ y) h1
  rw [Nat.xor_self, ← Nat.xor_assoc, Nat.xor_self, Nat.zero_xor] at h2
  have h3 : 0 < 2 ^ b := Nat.two_pow_pos b
  omega
/-- Revoke keeps a ring -/
theorem rev_ring {l : List KeyD} (hr : ring l = true) {k : KeyD} (hk : k ∈ l) {d : Int} (hd : k.fr < d) :
    ring (put l (capped k d)) = true ∧ (put l (capped k d)).length = l.length ∧ find (put l (capped k d)) k.party k.serial = some (capped k d) := by
  have hs := ring_sorted hr
  obtain ⟨i, hi⟩ := List.mem_iff_getElem?.1 hk
  rw [put_capped hs hi]
  have hs' := set_sorted hs hi d
  refine ⟨ring_of hs' (fun a ha => ?_) (by rw [List.length_set]; exact ((ring_iff l).1 hr).2), List.length_set, ?_⟩
  · rcases List.mem_or_eq_of_mem_set ha with h | h
    · exact ring_mem hr h
    · rw [h]; exact capped_valid (ring_mem hr hk) hd
  · have hm : capped k d ∈ l.set i (capped k d) := List.mem_of_getElem? (List.getElem?_set_self (List.getElem?_eq_some_iff.mp hi).1)
    exact mem_find hs' hm
set_option maxRecDepth 100000 in
set_option maxHeartbeats 64000000 in
theorem law8_any (R : Option Addr) (rc : Nat) (l : List KeyD) (x tag : Int) (A : Option Addr) (cap : Nat) (ps : List ByteArray) (d fr bit : Int) (w : World) (hl : Ks w R l) (hcap : l.length ≤ rc) (hc2 : rc ≤ 9223372036854775807) (hx : 0 ≤ x ∧ x < 256) (hbit : 0 ≤ bit ∧ bit < 256)
    (hp : Rd w A (ps.map .string)) (hnp : ps.length ≤ 9223372036854775807) (hd : -9223372036854775808 ≤ d ∧ d < 9223372036854775808) (hfr : -9223372036854775808 ≤ fr ∧ fr < 9223372036854775808) (hK : At w 0 0 (Sha.K.map vu32)) :
    Calls Tryd.prog 8 #[.slice R l.length rc, .int .u8 x, .int .i64 tag, .slice A ps.length cap, .int .i64 d, .int .i64 fr, .int .u8 bit] w fun e w' => e = .returned (.bool true) ∧ Below w.heap.size w w' := by
  have hk5 := fun k => hide (kC_size k)
  have hkl := fun a b => hide (kC_len a b)
  have hko := fun k => hide (kC_ones k)
  by_cases h0 : l.length = 0
  · have h0' : (l.length : Int) = 0 := by omega
    go_enter Tryd.func8, Tryd.ntmps8
    go_wp2_with (go_at_call 9; refine (sanity_any _ hK).mono ?_; rintro e w2 ⟨rfl, hb2⟩)
    go_ret
    exact ⟨rfl, hb2⟩
  have h0' : ((l.length : Int) == 0) = false := beq_eq_false_iff_ne.2 (by omega)
  by_cases h30 : 30 < l.length
  · have h30' : (30 : Int) < (l.length : Int) := by omega
    go_enter Tryd.func8, Tryd.ntmps8
    go_wp2_with (go_at_call 9; refine (sanity_any _ hK).mono ?_; rintro e w2 ⟨rfl, hb2⟩)
    go_ret
    exact ⟨rfl, hb2⟩
  have h30' : ¬ (30 : Int) < (l.length : Int) := by omega
  have hn : l.length ≤ 1000000 := by omega
  have hrring := fun W h => rring_any R rc l W h hn
  have hsh := fun W h => short_any A cap ps 8 W h hnp
  cases hr : ring l with
  | false =>
    rw [hr] at hrring
    replace hrring := hide hrring
    replace hr := hide hr
    go_enter Tryd.func8, Tryd.ntmps8
    go_wp2_with (first
      | (go_at_call 11; refine (hrring.out _ hl).mono ?_; rintro e w1 ⟨rfl, hb1⟩; have K1 := At.below hK hb1)
      | (go_at_call 9; refine (sanity_any _ K1).mono ?_; rintro e w2 ⟨rfl, hb2⟩))
    go_ret
    exact ⟨rfl, ext_trans hb1 hb2⟩
  | true =>
    rw [hr] at hrring
    replace hrring := hide hrring
    cases hs : shortD ps 8 with
    | false =>
      rw [hs] at hsh
      replace hsh := hide hsh
      replace hs := hide hs
      replace hr := hide hr
      go_enter Tryd.func8, Tryd.ntmps8
      go_wp2_with (first
        | (go_at_call 11; refine (hrring.out _ hl).mono ?_; rintro e w1 ⟨rfl, hb1⟩; have K1 := At.below hK hb1)
        | (go_at_call 21; refine (hsh.out _ (Rd.below hp hb1)).mono ?_; rintro e w2 ⟨rfl, hb2⟩; have K2 := At.below K1 hb2)
        | (go_at_call 9; refine (sanity_any _ K2).mono ?_; rintro e w3 ⟨rfl, hb3⟩))
      go_ret
      exact ⟨rfl, ext_trans (ext_trans hb1 hb2) hb3⟩
    | true =>
      rw [hs] at hsh
      replace hsh := hide hsh
      rw [shortD_iff] at hs
      have hps : ∀ p ∈ ps, p.size ≤ 1000000 := fun p hp => by have := hs.1 p hp; omega
      have hn8 : ps.length ≤ 1000 := by have := hs.2; omega
      obtain ⟨n, hnn⟩ : ∃ n, n = x.toNat % l.length := ⟨_, rfl⟩
      have hnl : n < l.length := by rw [hnn]; exact Nat.mod_lt _ (by omega)
      obtain ⟨k, hkn⟩ : ∃ k, l[n]? = some k := ⟨_, List.getElem?_eq_getElem hnl⟩
      have hx1 := i64_id x (by omega)
      have hx2 : x.tmod (l.length : Int) = (n : Int) := by
        obtain ⟨x', rfl⟩ := Int.eq_ofNat_of_zero_le hx.1
        rw [hnn, Int.tmod_eq_emod_of_nonneg (by omega)]
        simp
      have hx3 := i64_id (n : Int) (by omega)
      have hmem : k ∈ l := List.mem_of_getElem? hkn
      have hval := ring_mem hr hmem
      have hfind := mem_find (ring_sorted hr) hmem
      have hsec : k.secret.size ≤ 1000000 := by rw [KeyD.valid_iff] at hval; omega
      obtain ⟨b, off, rfl, hbl, hkc⟩ := Ks.get hl hkn
      have z0 : (0 : Int) ≤ (n : Int) := by omega
      have z1 : (n : Int) < (l.length : Int) := by omega
      have hmk := fun W h h' => make_any k tag A cap ps W h hps hsec hn8 h'
      have hF16 := mk_16 k.secret tag ps
      have hchk := fun sg hsg W h h' h'' => check_any (some ⟨b, off, none⟩) rc l k.party k.serial tag A cap ps sg hsg d W h hr hn hd.1 h' hps hn8 h''
      have hrev := fun W h => revoke_keys (some ⟨b, off, none⟩) rc l k.party k.serial fr W h hr hn
      obtain ⟨B, rfl⟩ := Int.eq_ofNat_of_zero_le hbit.1
      have hB : B < 256 := by omega
      obtain ⟨q8, hq8⟩ : ∃ q, q = B / 8 := ⟨_, rfl⟩
      obtain ⟨j, hj⟩ : ∃ j, j = q8 % 16 := ⟨_, rfl⟩
      have hj16 : j < 16 := by omega
      obtain ⟨sh, hsh8⟩ : ∃ s, s = B % 8 := ⟨_, rfl⟩
      have hs8 : sh < 8 := by omega
      have hG16 := flip_16 hF16 j hs8
      have hGne := flip_ne (F := mk k.secret tag ps) j sh (by rw [hF16.1]; exact hj16)
      obtain ⟨F, hF⟩ : ∃ F, F = mk k.secret tag ps := ⟨_, rfl⟩
      have hcF := hchk _ hF16
      have hcG := hchk _ hG16
      have eF : k.counts d = true → chkE l k.party k.serial tag ps (mk k.secret tag ps) d = 0 := fun hc => by rw [chk_counts hfind tag ps _ hc, if_pos rfl]
      have eG : k.counts d = true → chkE l k.party k.serial tag ps (flip (mk k.secret tag ps) j sh) d = 8 := fun hc => by rw [chk_counts hfind tag ps _ hc, if_neg hGne]
      have eT : ∀ sg, k.counts d = false → chkE l k.party k.serial tag ps sg d = 9 := fun sg hc => chk_time hfind tag ps sg hc
      rw [← hF] at hmk hF16 hG16 hcF hcG eF eG
      obtain ⟨G, hG⟩ : ∃ G, G = flip F j sh := ⟨_, rfl⟩
      rw [← hG] at hG16 hcG eG
      have i1 := hide (d16_seal hF16)
      have i2 := hide (show (List.replicate 16 (Value.int .u8 0)).length = (F.map vu8).length by rw [List.length_map, hF16.1]; rfl)
      have i3 := hide (vu8_ones F)
      have g1 := hide (d16_seal hG16)
      have u1 : (B : Int).tdiv 8 = (q8 : Int) := by rw [hq8, Int.tdiv_eq_ediv_of_nonneg (by omega)]; simp
      have u2 : (q8 : Int).tmod 16 = (j : Int) := by rw [hj, Int.tmod_eq_emod_of_nonneg (by omega)]; simp
      have u3 : (B : Int).tmod 8 = (sh : Int) := by rw [hsh8, Int.tmod_eq_emod_of_nonneg (by omega)]; simp
      have u4 : IntKind.u8.wrap (q8 : Int) = (q8 : Int) := by rw [IntKind.wrap_u8]; omega
      have u5 := i64_id (q8 : Int) (by omega)
      have u6 := i64_id (j : Int) (by omega)
      have u7 : IntKind.u8.wrap (sh : Int) = (sh : Int) := by rw [IntKind.wrap_u8]; omega
      have u8 : (0 : Int) ≤ (j : Int) := by omega
      have u9 : (j : Int) < 16 := by omega
      have v9 : (0 : Int) ≤ (sh : Int) := by omega
      obtain ⟨pw, hpw⟩ : ∃ p, p = 2 ^ sh := ⟨_, rfl⟩
      have hpw8 : pw < 2 ^ 8 := by rw [hpw]; exact Nat.pow_lt_pow_right (by decide) hs8
      have v1 : ((2 : Int) ^ sh % 256) = (pw : Int) := by
        have e2 : ((2 : Int) ^ sh) = (pw : Int) := by rw [hpw]; simp
        rw [e2]; omega
      obtain ⟨y0, hy0⟩ : ∃ y, y = F.getD j 0 := ⟨_, rfl⟩
      obtain ⟨y1, hy1⟩ : ∃ y, y = y0 ^^^ pw := ⟨_, rfl⟩
      have hy8 : y0 < 2 ^ 8 := by rw [hy0, getD_at (by rw [hF16.1]; exact hj16)]; exact hF16.2 _ (List.getElem_mem _)
      have v2 : bits .xor .u8 (y0 : Int) (pw : Int) = (y1 : Int) := by
        have ha' : y0 % 2 ^ IntKind.u8.bits = y0 := Nat.mod_eq_of_lt hy8
        have hb' : pw % 2 ^ IntKind.u8.bits = pw := Nat.mod_eq_of_lt hpw8
        simp only [bits, BitVec.ofInt_natCast, BitVec.toNat_xor, BitVec.toNat_ofNat, ha', hb']
        rw [← hy1, IntKind.wrap_u8]
        have := Nat.xor_lt_two_pow (n := 8) hy8 hpw8
        rw [← hy1] at this
        omega
      have hGs : (F.map vu8).set j (.int .u8 (y1 : Int)) = G.map vu8 := by
        rw [hG]; unfold flip
        rw [List.map_set, ← hy0, ← hpw, ← hy1]; rfl
      have hF0 : (F.map vu8)[j]? = some (.int .u8 (y0 : Int)) := by
        rw [List.getElem?_map, List.getElem?_eq_getElem (by rw [hF16.1]; exact hj16), hy0, getD_at (by rw [hF16.1]; exact hj16)]; rfl
      replace hGs := hide hGs
      replace hF0 := hide hF0
      replace hq8 := hide hq8
      replace hpw := hide hpw
      replace hy0 := hide hy0
      replace hy1 := hide hy1
      replace hpw8 := hide hpw8
      replace hy8 := hide hy8
      have E0 : EnvF w w (some ⟨b, off, none⟩) l A ps := ⟨hl, hp, hK, Below.refl _ _⟩
      have EI := hide E0
      replace hkc := hide hkc
      replace hsh := hide hsh
      replace hmk := hide hmk
      clear hchk hGne hnn hkn hl hp hK
      have hcase : (k.fr ≤ d ∧ d < k.to ∧ chkE l k.party k.serial tag ps F d = 0 ∧ chkE l k.party k.serial tag ps G d = 8) ∨ (k.fr ≤ d ∧ ¬ d < k.to ∧ chkE l k.party k.serial tag ps F d = 9 ∧ chkE l k.party k.serial tag ps G d = 9) ∨ (¬ k.fr ≤ d ∧ chkE l k.party k.serial tag ps F d = 9 ∧ chkE l k.party k.serial tag ps G d = 9) := by
        by_cases h1 : k.fr ≤ d
        · by_cases h2 : d < k.to
          · have hc := (KeyD.counts_iff k d).2 ⟨h1, h2⟩
            exact .inl ⟨h1, h2, eF hc, eG hc⟩
          · have hc : k.counts d = false := by rw [← Bool.not_eq_true, KeyD.counts_iff]; omega
            exact .inr (.inl ⟨h1, h2, eT _ hc, eT _ hc⟩)
        · have hc : k.counts d = false := by rw [← Bool.not_eq_true, KeyD.counts_iff]; omega
          exact .inr (.inr ⟨h1, eT _ hc, eT _ hc⟩)
      clear eF eG eT
      by_cases hq : fr ≤ k.fr
      · obtain ⟨r1, r2⟩ := rev_time hfind hq
        rw [r1, r2] at hrev
        clear r1 r2
        rcases hcase with ⟨h1, h2, eF, eG⟩ | ⟨h1, h2, eF, eG⟩ | ⟨h1, eF, eG⟩
        all_goals (
          rw [eF] at hcF
          rw [eG] at hcG
          replace hcF := hide hcF
          replace hcG := hide hcG
          replace hrev := hide hrev
          clear eF eG
          replace hF := hide hF
          replace hG := hide hG
          replace hj := hide hj
          replace hsh8 := hide hsh8
          replace hfind := hide hfind
          replace hval := hide hval
          replace hmem := hide hmem
          replace hF16 := hide hF16
          replace hG16 := hide hG16
          replace hr := hide hr
          replace hs := hide hs
          replace hps := hide hps
          go_enter Tryd.func8, Tryd.ntmps8
          go_wp2_with fail
          refine (hrring.out _ E0.ks).mono ?_
          rintro e w1 ⟨rfl, hb1⟩
          have E1 := E0.ext hb1
          have C1 := At.below hkc.out hb1
          clear E0 hb1
          go_wp2_with fail
          refine (hsh.out _ E1.ra).mono ?_
          rintro e w2 ⟨rfl, hb2⟩
          have E2 := E1.ext hb2
          have C2 := At.below C1 hb2
          clear E1 C1 hb2
          go_wp2_with fail
          refine vl_load_at b (off + n * 5) (kC k) _ (by rfl) C2 Tryd.underlying24 (by rfl) (hk5 _).out ?_
          simp only [kC]
          (try simp only [Act.put, List.setIfInBounds_toArray, List.set_cons_zero, List.set_cons_succ])
          go_wp2_with fail
          refine vl_store w2.heap.size 24 (kC k) (kC (key0 0 0)) (by rfl) (by rfl) (Blk.new w2 _ _) (hk5 _).out (hkl _ _).out (hko _).out ?_
          rw [setRow_alloc]
          have E3 := E2.alloc (.cells (kC k).toArray 24)
          have X3 := Blk.new w2 (kC k) 24
          generalize w2.alloc (.cells (kC k).toArray 24) = w3 at *
          clear E2 C2
          (try simp only [Act.put, List.setIfInBounds_toArray, List.set_cons_zero, List.set_cons_succ])
          go_wp2_with fail
          refine vl_load w2.heap.size 24 (kC k) _ (by rfl) X3 Tryd.underlying24 (by rfl) (hk5 _).out ?_
          simp only [kC]
          (try simp only [Act.put, List.setIfInBounds_toArray, List.set_cons_zero, List.set_cons_succ])
          go_wp2_with fail
          refine (hmk.out _ E3.ra E3.cs).mono ?_
          rintro e w4 ⟨rfl, hb4⟩
          have E4 := E3.ext hb4
          have X4 := X3.ext hb4
          clear E3 X3 hb4
          go_wp2_with fail
          refine vl_store w4.heap.size 43 (F.map vu8) (List.replicate 16 (.int .u8 0)) (by rfl) (by rfl) (Blk.new w4 _ _) i1.out i2.out i3.out ?_
          rw [setRow_alloc]
          have E5 := E4.alloc (.cells (F.map vu8).toArray 43)
          have X5 := X4.alloc (.cells (F.map vu8).toArray 43)
          have S5 := Blk.new w4 (F.map vu8) 43
          generalize w4.alloc (.cells (F.map vu8).toArray 43) = w5 at *
          clear E4 X4
          obtain ⟨x0, x1, x2, x3, x4⟩ := kbox X5
          (try simp only [Act.put, List.setIfInBounds_toArray, List.set_cons_zero, List.set_cons_succ])
          go_wp2_with fail
          refine vl_load w4.heap.size 43 (F.map vu8) _ (by rfl) S5 Tryd.underlying43 (by rfl) i1.out ?_
          (try simp only [Act.put, List.setIfInBounds_toArray, List.set_cons_zero, List.set_cons_succ])
          go_wp2_with fail
          refine (hcF.out _ E5.ks E5.ra E5.cs).mono ?_
          rintro e w6 ⟨rfl, hb6⟩
          have E6 := E5.ext hb6
          have X6 := X5.ext hb6
          have S6 := S5.ext hb6
          clear E5 X5 S5 hb6 x0 x1 x2 x3 x4
          go_wp2_with fail
          refine vl_load w4.heap.size 43 (F.map vu8) _ (by rfl) S6 Tryd.underlying43 (by rfl) i1.out ?_
          (try simp only [Act.put, List.setIfInBounds_toArray, List.set_cons_zero, List.set_cons_succ])
          go_wp2_with fail
          refine vl_store w6.heap.size 43 (F.map vu8) (List.replicate 16 (.int .u8 0)) (by rfl) (by rfl) (Blk.new w6 _ _) i1.out i2.out i3.out ?_
          rw [setRow_alloc]
          have E7 := E6.alloc (.cells (F.map vu8).toArray 43)
          have X7 := X6.alloc (.cells (F.map vu8).toArray 43)
          have S7 := S6.alloc (.cells (F.map vu8).toArray 43)
          have T7 := Blk.new w6 (F.map vu8) 43
          have s4 : w2.heap.size < w6.heap.size := X6.lt
          have s5 : w4.heap.size < w6.heap.size := S6.lt
          have s0 : w.heap.size ≤ w6.heap.size := E6.lt.size
          generalize w6.alloc (.cells (F.map vu8).toArray 43) = w7 at *
          clear E6 X6 S6
          have t7 := T7.cell hF0.out
          have ft := T7.frozen j
          (try simp only [Act.put, List.setIfInBounds_toArray, List.set_cons_zero, List.set_cons_succ])
          go_upto_region 9 with fail
          generalize hw8 : w7.setCell ⟨w6.heap.size, j, none⟩ (.int .u8 (y1 : Int)) = w8
          have T8 := T7.set j (.int .u8 (y1 : Int))
          have X8 := X7.set_ne (b' := w6.heap.size) (by omega) j (.int .u8 (y1 : Int))
          have S8 := S7.set_ne (b' := w6.heap.size) (by omega) j (.int .u8 (y1 : Int))
          have lt8 := E7.lt.setCell (p := ⟨w6.heap.size, j, none⟩) s0 (.int .u8 (y1 : Int))
          rw [hw8] at T8 X8 S8 lt8
          rw [hGs.out] at T8
          have E8 : EnvF w w8 (some ⟨b, off, none⟩) l A ps := ⟨Ks.below EI.out.ks lt8, Rd.below EI.out.ra lt8, EI.out.cs.below lt8, lt8⟩
          clear hw8 T7 X7 S7 E7 lt8 t7 ft
          obtain ⟨x0, x1, x2, x3, x4⟩ := kbox X8
          go_wp2_with fail
          refine vl_load w6.heap.size 43 (G.map vu8) _ (by rfl) T8 Tryd.underlying43 (by rfl) g1.out ?_
          (try simp only [Act.put, List.setIfInBounds_toArray, List.set_cons_zero, List.set_cons_succ])
          go_wp2_with fail
          refine (hcG.out _ E8.ks E8.ra E8.cs).mono ?_
          rintro e w9 ⟨rfl, hb9⟩
          have E9 := E8.ext hb9
          have X9 := X8.ext hb9
          have S9 := S8.ext hb9
          clear E8 X8 S8 T8 hb9 x0 x1 x2 x3 x4
          obtain ⟨x0, x1, x2, x3, x4⟩ := kbox X9
          go_wp2_with fail
          refine (hrev.out _ E9.ks).mono ?_
          rintro e w10 ⟨v10, rfl, ⟨A10, c10, rfl, M10, q1, q2, q3⟩, hb10⟩
          have E10 := E9.ext hb10
          have X10 := X9.ext hb10
          have S10 := S9.ext hb10
          clear E9 X9 S9 hb10 x0 x1 x2 x3 x4
          obtain ⟨x0, x1, x2, x3, x4⟩ := kbox X10
          go_wp2_with fail
          refine (sanity_any _ E10.cs).mono ?_
          rintro e w11 ⟨rfl, hb11⟩
          have E11 := E10.ext hb11
          have X11 := X10.ext hb11
          clear x0 x1 x2 x3 x4
          have x3 := (kbox X11).2.2.2.1
          go_wp2_with fail
          go_ret
          exact ⟨rfl, E11.lt⟩)
      · obtain ⟨r1, r2⟩ := rev_ok hfind hq
        rw [r1, r2] at hrev
        clear r1 r2
        obtain ⟨m1, m2, m3⟩ := rev_ring hr hmem (d := fr) (by omega)
        have hM : chkE (put l (capped k fr)) k.party k.serial tag ps F d = if k.fr ≤ d ∧ d < k.to ∧ d < fr then 0 else 9 := by
          by_cases hc : k.fr ≤ d ∧ d < k.to ∧ d < fr
          · have hcc : (capped k fr).counts d = true := by
              rw [KeyD.counts_iff]; show k.fr ≤ d ∧ d < min k.to fr; omega
            rw [chk_counts m3 tag ps _ hcc, if_pos hc, hF]
            exact if_pos rfl
          · have hcc : (capped k fr).counts d = false := by
              rw [← Bool.not_eq_true, KeyD.counts_iff]; show ¬ (k.fr ≤ d ∧ d < min k.to fr); omega
            rw [chk_time m3 tag ps _ hcc, if_neg hc]
        obtain ⟨m, hm⟩ : ∃ m, m = put l (capped k fr) := ⟨_, rfl⟩
        rw [← hm] at hrev m1 m2 hM
        have hcm := fun R' rc' W h h' h'' => check_any R' rc' m k.party k.serial tag A cap ps F hF16 d W h m1 (by omega) hd.1 h' hps hn8 h''
        have hrm := fun R' rc' W h => rring_any R' rc' m W h (by omega)
        rw [hM] at hcm
        rw [m1] at hrm
        rw [m2] at hcm hrm
        replace hrm := hide hrm
        clear m1 m3 hm hM
        rcases hcase with ⟨h1, h2, eF, eG⟩ | ⟨h1, h2, eF, eG⟩ | ⟨h1, eF, eG⟩ <;> by_cases hz : d < fr
        any_goals (exfalso; omega)
        all_goals (
          first | rw [if_pos (by omega)] at hcm | rw [if_neg (by omega)] at hcm
          replace hcm := hide hcm
          rw [eF] at hcF
          rw [eG] at hcG
          replace hcF := hide hcF
          replace hcG := hide hcG
          replace hrev := hide hrev
          clear eF eG
          replace hF := hide hF
          replace hG := hide hG
          replace hj := hide hj
          replace hsh8 := hide hsh8
          replace hfind := hide hfind
          replace hval := hide hval
          replace hmem := hide hmem
          replace hF16 := hide hF16
          replace hG16 := hide hG16
          replace hr := hide hr
          replace hs := hide hs
          replace hps := hide hps
          go_enter Tryd.func8, Tryd.ntmps8
          go_wp2_with fail
          refine (hrring.out _ E0.ks).mono ?_
          rintro e w1 ⟨rfl, hb1⟩
          have E1 := E0.ext hb1
          have C1 := At.below hkc.out hb1
          clear E0 hb1
          go_wp2_with fail
          refine (hsh.out _ E1.ra).mono ?_
          rintro e w2 ⟨rfl, hb2⟩
          have E2 := E1.ext hb2
          have C2 := At.below C1 hb2
          clear E1 C1 hb2
          go_wp2_with fail
          refine vl_load_at b (off + n * 5) (kC k) _ (by rfl) C2 Tryd.underlying24 (by rfl) (hk5 _).out ?_
          simp only [kC]
          (try simp only [Act.put, List.setIfInBounds_toArray, List.set_cons_zero, List.set_cons_succ])
          go_wp2_with fail
          refine vl_store w2.heap.size 24 (kC k) (kC (key0 0 0)) (by rfl) (by rfl) (Blk.new w2 _ _) (hk5 _).out (hkl _ _).out (hko _).out ?_
          rw [setRow_alloc]
          have E3 := E2.alloc (.cells (kC k).toArray 24)
          have X3 := Blk.new w2 (kC k) 24
          generalize w2.alloc (.cells (kC k).toArray 24) = w3 at *
          clear E2 C2
          (try simp only [Act.put, List.setIfInBounds_toArray, List.set_cons_zero, List.set_cons_succ])
          go_wp2_with fail
          refine vl_load w2.heap.size 24 (kC k) _ (by rfl) X3 Tryd.underlying24 (by rfl) (hk5 _).out ?_
          simp only [kC]
          (try simp only [Act.put, List.setIfInBounds_toArray, List.set_cons_zero, List.set_cons_succ])
          go_wp2_with fail
          refine (hmk.out _ E3.ra E3.cs).mono ?_
          rintro e w4 ⟨rfl, hb4⟩
          have E4 := E3.ext hb4
          have X4 := X3.ext hb4
          clear E3 X3 hb4
          go_wp2_with fail
          refine vl_store w4.heap.size 43 (F.map vu8) (List.replicate 16 (.int .u8 0)) (by rfl) (by rfl) (Blk.new w4 _ _) i1.out i2.out i3.out ?_
          rw [setRow_alloc]
          have E5 := E4.alloc (.cells (F.map vu8).toArray 43)
          have X5 := X4.alloc (.cells (F.map vu8).toArray 43)
          have S5 := Blk.new w4 (F.map vu8) 43
          generalize w4.alloc (.cells (F.map vu8).toArray 43) = w5 at *
          clear E4 X4
          obtain ⟨x0, x1, x2, x3, x4⟩ := kbox X5
          (try simp only [Act.put, List.setIfInBounds_toArray, List.set_cons_zero, List.set_cons_succ])
          go_wp2_with fail
          refine vl_load w4.heap.size 43 (F.map vu8) _ (by rfl) S5 Tryd.underlying43 (by rfl) i1.out ?_
          (try simp only [Act.put, List.setIfInBounds_toArray, List.set_cons_zero, List.set_cons_succ])
          go_wp2_with fail
          refine (hcF.out _ E5.ks E5.ra E5.cs).mono ?_
          rintro e w6 ⟨rfl, hb6⟩
          have E6 := E5.ext hb6
          have X6 := X5.ext hb6
          have S6 := S5.ext hb6
          clear E5 X5 S5 hb6 x0 x1 x2 x3 x4
          go_wp2_with fail
          refine vl_load w4.heap.size 43 (F.map vu8) _ (by rfl) S6 Tryd.underlying43 (by rfl) i1.out ?_
          (try simp only [Act.put, List.setIfInBounds_toArray, List.set_cons_zero, List.set_cons_succ])
          go_wp2_with fail
          refine vl_store w6.heap.size 43 (F.map vu8) (List.replicate 16 (.int .u8 0)) (by rfl) (by rfl) (Blk.new w6 _ _) i1.out i2.out i3.out ?_
          rw [setRow_alloc]
          have E7 := E6.alloc (.cells (F.map vu8).toArray 43)
          have X7 := X6.alloc (.cells (F.map vu8).toArray 43)
          have S7 := S6.alloc (.cells (F.map vu8).toArray 43)
          have T7 := Blk.new w6 (F.map vu8) 43
          have s4 : w2.heap.size < w6.heap.size := X6.lt
          have s5 : w4.heap.size < w6.heap.size := S6.lt
          have s0 : w.heap.size ≤ w6.heap.size := E6.lt.size
          generalize w6.alloc (.cells (F.map vu8).toArray 43) = w7 at *
          clear E6 X6 S6
          have t7 := T7.cell hF0.out
          have ft := T7.frozen j
          (try simp only [Act.put, List.setIfInBounds_toArray, List.set_cons_zero, List.set_cons_succ])
          go_upto_region 9 with fail
          generalize hw8 : w7.setCell ⟨w6.heap.size, j, none⟩ (.int .u8 (y1 : Int)) = w8
          have T8 := T7.set j (.int .u8 (y1 : Int))
          have X8 := X7.set_ne (b' := w6.heap.size) (by omega) j (.int .u8 (y1 : Int))
          have S8 := S7.set_ne (b' := w6.heap.size) (by omega) j (.int .u8 (y1 : Int))
          have lt8 := E7.lt.setCell (p := ⟨w6.heap.size, j, none⟩) s0 (.int .u8 (y1 : Int))
          rw [hw8] at T8 X8 S8 lt8
          rw [hGs.out] at T8
          have E8 : EnvF w w8 (some ⟨b, off, none⟩) l A ps := ⟨Ks.below EI.out.ks lt8, Rd.below EI.out.ra lt8, EI.out.cs.below lt8, lt8⟩
          clear hw8 T7 X7 S7 E7 lt8 t7 ft
          obtain ⟨x0, x1, x2, x3, x4⟩ := kbox X8
          go_wp2_with fail
          refine vl_load w6.heap.size 43 (G.map vu8) _ (by rfl) T8 Tryd.underlying43 (by rfl) g1.out ?_
          (try simp only [Act.put, List.setIfInBounds_toArray, List.set_cons_zero, List.set_cons_succ])
          go_wp2_with fail
          refine (hcG.out _ E8.ks E8.ra E8.cs).mono ?_
          rintro e w9 ⟨rfl, hb9⟩
          have E9 := E8.ext hb9
          have X9 := X8.ext hb9
          have S9 := S8.ext hb9
          clear E8 X8 S8 T8 hb9 x0 x1 x2 x3 x4
          obtain ⟨x0, x1, x2, x3, x4⟩ := kbox X9
          go_wp2_with fail
          refine (hrev.out _ E9.ks).mono ?_
          rintro e w10 ⟨v10, rfl, ⟨A10, c10, rfl, M10, q1, q2, q3⟩, hb10⟩
          have E10 := E9.ext hb10
          have X10 := X9.ext hb10
          have S10 := S9.ext hb10
          clear E9 X9 S9 hb10 x0 x1 x2 x3 x4
          obtain ⟨x0, x1, x2, x3, x4⟩ := kbox X10
          go_wp2_with fail
          refine vl_load w4.heap.size 43 (F.map vu8) _ (by rfl) S10 Tryd.underlying43 (by rfl) i1.out ?_
          (try simp only [Act.put, List.setIfInBounds_toArray, List.set_cons_zero, List.set_cons_succ])
          go_wp2_with fail
          refine (hcm.out _ _ _ M10 E10.ra E10.cs).mono ?_
          rintro e w11 ⟨rfl, hb11⟩
          have E11 := E10.ext hb11
          have M11 := Ks.below M10 hb11
          clear E10 M10 X10 S10 hb11 x0 x1 x2 x3 x4
          go_wp2_with fail
          refine (sanity_any _ E11.cs).mono ?_
          rintro e w12 ⟨rfl, hb12⟩
          have E12 := E11.ext hb12
          have M12 := Ks.below M11 hb12
          clear E11 M11 hb12
          go_wp2_with fail
          refine (hrm.out _ _ _ M12).mono ?_
          rintro e w13 ⟨rfl, hb13⟩
          have E13 := E12.ext hb13
          go_wp2_with fail
          go_ret
          refine ⟨?_, E13.lt⟩
          first | rfl | simp [hz])
end Go.Proofs.YtbccfgeepdmegaaDoor
