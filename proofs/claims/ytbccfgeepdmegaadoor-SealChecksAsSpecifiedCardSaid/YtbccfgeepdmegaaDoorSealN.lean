/- Walks: Make, Blind, Opens, Check. -/
import Derived.Test.YtbccfgeepdmegaaDoorSealM
import Derived.Test.YtbccfgeepdmegaaDoorSealL
import Derived.Test.YtbccfgeepdmegaaDoorHashE
import Derived.Test.YtbccfgeepdmegaaDoorRets
import Derived.Stop.BytesEq
import Derived.Test.YtbccfgeepdmegaaDoorSealJ
set_option linter.unusedVariables false
set_option linter.unusedSimpArgs false
set_option linter.unnecessarySimpa false
namespace Go.Proofs.YtbccfgeepdmegaaDoor
open Go Go.RowKit Mem
theorem veil_lseal {d : Option Tmp} {x : Operand} {t : TypeId} {p : String} {af : Array Edge} {a : Act} {w : World} {K : Act → World → Prop} {Q : Exit → Act → World → Prop} : Oper.wp Tryd.prog ⟨d, .load 43 x, t, p, af, none⟩ a w K Q = Vlt Tryd.prog ⟨d, .load 43 x, t, p, af, none⟩ a w K Q := vl_eq
theorem veil_sseal {d : Option Tmp} {x y : Operand} {t : TypeId} {p : String} {af : Array Edge} {a : Act} {w : World} {K : Act → World → Prop} {Q : Exit → Act → World → Prop} : Oper.wp Tryd.prog ⟨d, .store 43 x y, t, p, af, none⟩ a w K Q = Vlt Tryd.prog ⟨d, .store 43 x y, t, p, af, none⟩ a w K Q := vl_eq
theorem veil_ldig {d : Option Tmp} {x : Operand} {t : TypeId} {p : String} {af : Array Edge} {a : Act} {w : World} {K : Act → World → Prop} {Q : Exit → Act → World → Prop} : Oper.wp Tryd.prog ⟨d, .load 44 x, t, p, af, none⟩ a w K Q = Vlt Tryd.prog ⟨d, .load 44 x, t, p, af, none⟩ a w K Q := vl_eq
theorem veil_sdig {d : Option Tmp} {x y : Operand} {t : TypeId} {p : String} {af : Array Edge} {a : Act} {w : World} {K : Act → World → Prop} {Q : Exit → Act → World → Prop} : Oper.wp Tryd.prog ⟨d, .store 44 x y, t, p, af, none⟩ a w K Q = Vlt Tryd.prog ⟨d, .store 44 x y, t, p, af, none⟩ a w K Q := vl_eq
attribute [local go_sem ↓] Go.wp_at_zero Go.wp_at_succ veil_lk veil_sk veil_lseal veil_sseal veil_ldig veil_sdig
theorem cells_u8 {l : List Nat} (h : ∀ x ∈ l, x < 256) : l.map vu8 = (l.map UInt8.ofNat).map Extern.Stop.cell := by
  rw [List.map_map]
  apply List.map_congr_left
  intro x hx
  have := h x hx
  simp [vu8, Extern.Stop.cell, UInt8.toNat_ofNat', Nat.mod_eq_of_lt this]
theorem beq_u8 {l m : List Nat} (hl : ∀ x ∈ l, x < 256) (hm : ∀ x ∈ m, x < 256) : (l.map UInt8.ofNat == m.map UInt8.ofNat) = decide (l = m) := by
  rw [Bool.eq_iff_iff, beq_iff_eq, decide_eq_true_iff]
  constructor
  · intro h
    have h2 := congrArg (List.map UInt8.toNat) h
    rw [List.map_map, List.map_map] at h2
    have e : ∀ n : List Nat, (∀ x ∈ n, x < 256) → n.map (UInt8.toNat ∘ UInt8.ofNat) = n := fun n hn => by
      conv => rhs; rw [← List.map_id n]
      apply List.map_congr_left
      intro x hx
      have := hn x hx
      simp [UInt8.toNat_ofNat', Nat.mod_eq_of_lt this]
    rwa [e l hl, e m hm] at h2
  · rintro rfl; rfl
theorem eqIn_u8 {t e n : Nat} (ht : Tryd.prog.underlying t = some (.array n e)) (he : Tryd.prog.underlying e = some (.int .u8)) (hsz : ∀ w, (sizeOf e).run Tryd.prog w = .ok 1 w) {l m : List Nat} (hl : ∀ x ∈ l, x < 256) (hm : ∀ x ∈ m, x < 256) (h1 : l.length = n) (h2 : m.length = n) (w : World) :
    (Op.equalIn 10000 t (.agg (l.map vu8).toArray) (.agg (m.map vu8).toArray)).run Tryd.prog w = .ok (decide (l = m)) w := by
  rw [cells_u8 hl, cells_u8 hm, run_equalIn_bytes w 9998 t e n ht he hsz _ _ (by simpa using h1) (by simpa using h2), beq_u8 hl hm]
theorem size_u8 (w : World) : (sizeOf 5).run Tryd.prog w = .ok 1 w := by
  have h : (Tryd.prog.info? 5).map (·.size) = some 1 := by kernel_rfl
  cases hq : Tryd.prog.info? 5 with
  | none => simp [hq] at h
  | some i => have : i.size = 1 := by simpa [hq] using h
              simp [sizeOf, typeInfo, hq, this]
/-- sixteen bytes -/
def D16 (l : List Nat) : Prop := l.length = 16 ∧ ∀ x ∈ l, x < 256
theorem dig_16 (tag : Int) (ps : List (List Nat)) : D16 (Sha.dig tag ps) := ⟨Sha.dig_length _ _, Sha.dig_lt _ _⟩
theorem d16_dig {l : List Nat} (h : D16 l) : (Tryd.prog.info? 44).map (·.size) = some (l.map vu8).length := by rw [List.length_map, h.1]; kernel_rfl
theorem d16_seal {l : List Nat} (h : D16 l) : (Tryd.prog.info? 43).map (·.size) = some (l.map vu8).length := by rw [List.length_map, h.1]; kernel_rfl
theorem vu8_ones (l : List Nat) : ones (l.map vu8) := fun v hv => by obtain ⟨x, _, rfl⟩ := List.mem_map.1 hv; rfl
theorem eqIn_dig {l m : List Nat} (hl : D16 l) (hm : D16 m) (w : World) : (Op.equalIn 10000 44 (.agg (l.map vu8).toArray) (.agg (m.map vu8).toArray)).run Tryd.prog w = .ok (decide (l = m)) w :=
  eqIn_u8 Tryd.underlying44 Tryd.underlying5 size_u8 hl.2 hm.2 hl.1 hm.1 w
theorem eqIn_seal {l m : List Nat} (hl : D16 l) (hm : D16 m) (w : World) : (Op.equalIn 10000 43 (.agg (l.map vu8).toArray) (.agg (m.map vu8).toArray)).run Tryd.prog w = .ok (decide (l = m)) w :=
  eqIn_u8 Tryd.underlying43 Tryd.underlying5 size_u8 hl.2 hm.2 hl.1 hm.1 w
theorem inp_len (tag : Int) (ps : List (List Nat)) (M : Nat) (hM : M < 9223372036854775808) (h : ∀ p ∈ ps, p.length ≤ M) : (Sha.inp tag ps).length ≤ 1 + ps.length * (M + 10) := by
  rw [Sha.inp_eq, List.length_cons]
  have : (ps.flatMap Wire.bytes).length ≤ ps.length * (M + 10) := by
    induction ps with
    | nil => simp
    | cons a l ih =>
      have h1 := ih (fun p hp => h p (by simp [hp]))
      have h2 := h a (by simp)
      have h3 : (Wire.bytes a).length ≤ 10 + a.length := by
        unfold Wire.bytes; rw [List.length_append]
        have := Wire.int_len (n := (a.length : Int)) (by omega) (by omega)
        omega
      rw [List.flatMap_cons, List.length_append, List.length_cons, Nat.add_mul]
      omega
  omega
theorem own_rd {w : World} {base e n : Nat} {v : Value} {xs : List Value} (h : w.ownsRow base e 1 v n xs) (hn : 0 < n) : ∃ g cap, v = .slice (some ⟨g, 0, none⟩) n cap ∧ Rd w (some ⟨g, 0, none⟩) xs := by
  obtain ⟨g, cap, e1, _, _, _, _, hat⟩ := own_at h hn
  exact ⟨g, cap, e1, fun _ => ⟨g, 0, rfl, hat⟩⟩
theorem rd_new (w : World) (cs : List Value) (t : Nat) : Rd (w.alloc (.cells cs.toArray t)) (some ⟨w.heap.size, 0, none⟩) cs := fun _ => ⟨w.heap.size, 0, rfl, At.of_blk (Blk.new w cs t)⟩
/-- the seal of a key -/
def mk (secret : ByteArray) (tag : Int) (ps : List ByteArray) : List Nat := Sha.dig tag (((secret :: ps) ++ [secret]).map Bs)
theorem mk_16 (secret : ByteArray) (tag : Int) (ps : List ByteArray) : D16 (mk secret tag ps) := dig_16 _ _
theorem mk_eq (secret : ByteArray) (tag : Int) (ps : List ByteArray) : mk secret tag ps = Sha.dig tag (((secret :: ps) ++ [secret]).map Bs) := rfl
attribute [irreducible] mk
theorem blk_at {w : World} {n : Nat} (cs : List Value) (t : Nat) (h : w.heap.size = n) : Blk (w.alloc (.cells cs.toArray t)) n t cs := h ▸ Blk.new w cs t
theorem rd_blk {w : World} {b t : Nat} {cs : List Value} (h : Blk w b t cs) : Rd w (some ⟨b, 0, none⟩) cs := fun _ => ⟨b, 0, rfl, At.of_blk h⟩
theorem parts_bound {ps : List ByteArray} (hps : ∀ p ∈ ps, p.size ≤ 1000000) (hn : ps.length ≤ 2000) (tag : Int) : (Sha.inp tag (ps.map Bs)).length < 1152921504606846975 := by
  have h := inp_len tag (ps.map Bs) 1000000 (by decide) (fun p hp => by obtain ⟨q, hq, rfl⟩ := List.mem_map.1 hp; rw [Bs_length]; exact hps q hq)
  rw [List.length_map] at h
  have : ps.length * (1000000 + 10) ≤ 2000 * (1000000 + 10) := Nat.mul_le_mul_right _ hn
  omega
set_option maxRecDepth 100000 in
set_option maxHeartbeats 4000000 in
theorem make_any (k : KeyD) (tag : Int) (A : Option Addr) (cap : Nat) (ps : List ByteArray) (w : World) (hp : Rd w A (ps.map .string)) (hps : ∀ p ∈ ps, p.size ≤ 1000000) (hsec : k.secret.size ≤ 1000000) (hn : ps.length ≤ 1000) (hK : At w 0 0 (Sha.K.map vu32)) :
    Calls Tryd.prog 22 #[kV k, .int .i64 tag, .slice A ps.length cap] w fun e w' => e = .returned (.agg ((mk k.secret tag ps).map vu8).toArray) ∧ Below w.heap.size w w' := by
  obtain ⟨W, hW, G, M, R1, R2, hb⟩ : ∃ W, W = (((((w.alloc (.cells #[.int .i64 k.party, .int .i64 k.serial, .string k.secret, .int .i64 k.fr, .int .i64 k.to] 24)).alloc (.cells #[.int .u8 0, .int .u8 0, .int .u8 0, .int .u8 0, .int .u8 0, .int .u8 0, .int .u8 0, .int .u8 0, .int .u8 0, .int .u8 0, .int .u8 0, .int .u8 0, .int .u8 0, .int .u8 0, .int .u8 0, .int .u8 0] 43)).alloc (.cells #[.string k.secret] 9)).alloc (.cells #[.string k.secret] 9)).alloc (.cells #[.slice (some ⟨w.heap.size + 1 + 1, 0, none⟩) 1 1, .slice A ps.length cap, .slice (some ⟨w.heap.size + 1 + 1 + 1, 0, none⟩) 1 1] 41)) ∧
      Blk W (w.heap.size + 1 + 1 + 1 + 1) 41 [.slice (some ⟨w.heap.size + 1 + 1, 0, none⟩) 1 1, .slice A ps.length cap, .slice (some ⟨w.heap.size + 1 + 1 + 1, 0, none⟩) 1 1] ∧ Blk W (w.heap.size + 1) 43 (List.replicate 16 (.int .u8 0)) ∧ Blk W (w.heap.size + 1 + 1) 9 [.string k.secret] ∧ Blk W (w.heap.size + 1 + 1 + 1) 9 [.string k.secret] ∧ Below w.heap.size w W :=
    ⟨_, rfl, blk_at _ _ (by simp), (((blk_at (List.replicate 16 (.int .u8 0)) 43 (by simp)).alloc _).alloc _).alloc _, ((blk_at [.string k.secret] 9 (by simp)).alloc _).alloc _, (blk_at [.string k.secret] 9 (by simp)).alloc _, ext_alloc (ext_alloc (ext_alloc (ext_alloc (ext_alloc (Below.refl _ _) _) _) _) _) _⟩
  obtain ⟨segs, hsegs⟩ : ∃ segs : List Seg, segs = [((some ⟨w.heap.size + 1 + 1, 0, none⟩ : Option Addr), 1, [k.secret]), (A, cap, ps), (some ⟨w.heap.size + 1 + 1 + 1, 0, none⟩, 1, [k.secret])] := ⟨_, rfl⟩
  have hall : allS segs = (k.secret :: ps) ++ [k.secret] := by rw [hsegs]; unfold allS; simp
  have hcon := fun cap' h1 h2 h3 h4 h5 => concat_strs segs (w.heap.size + 1 + 1 + 1 + 1) cap' W h1 h2 h3 h4 h5
  have hcc := hcon 3 (by rw [hsegs]; exact G) (by
    rw [hsegs]; intro s hs
    simp only [List.mem_cons, List.not_mem_nil, or_false] at hs
    rcases hs with rfl | rfl | rfl
    · exact rd_blk R1
    · exact Rd.below hp hb
    · exact rd_blk R2) (by rw [hall]; simp; omega) (by rw [hall]; simp) (by rw [hsegs]; simp)
  rw [hall, show segs.length = 3 by rw [hsegs]; rfl] at hcc
  have hof := fun A' cap' W' h h2 => of_any tag A' cap' ((k.secret :: ps) ++ [k.secret]) W' h (fun p hp => by
    simp only [List.cons_append, List.mem_cons, List.mem_append, List.not_mem_nil, or_false] at hp
    rcases hp with rfl | hp | rfl
    · omega
    · have := hps p hp; omega
    · omega) (parts_bound (fun p hp => by
      simp only [List.cons_append, List.mem_cons, List.mem_append, List.not_mem_nil, or_false] at hp
      rcases hp with rfl | hp | rfl
      · exact hsec
      · exact hps p hp
      · exact hsec) (by simp; omega) tag) h2
  rw [← mk_eq] at hof
  have hmk := mk_16 k.secret tag ps
  obtain ⟨F, hF⟩ : ∃ F, F = mk k.secret tag ps := ⟨_, rfl⟩
  rw [← hF] at hof hmk ⊢
  have i1 := hide (d16_seal hmk)
  have i2 := hide (show (List.replicate 16 (Value.int .u8 0)).length = (F.map vu8).length by rw [List.length_map, hmk.1]; rfl)
  have i3 := hide (vu8_ones F)
  replace hcc := hide hcc
  replace hof := hide hof
  replace hF := hide hF
  have hKW := hide (hK.below hb)
  have hl0 : 0 < ((k.secret :: ps) ++ [k.secret]).length := by simp
  obtain ⟨al, hal⟩ : ∃ al, al = (k.secret :: ps) ++ [k.secret] := ⟨_, rfl⟩
  rw [← hal] at hl0
  have hal2 := hide hal
  clear hcon hall hsegs hal G R1 R2
  unfold kV
  go_enter Tryd.func22, Tryd.ntmps22
  go_wp2_with (first
    | (go_at_call 43; rw [← hW]; have hc := hcc.out; rw [← hal2.out] at hc; refine hc.mono ?_; rintro e w2 ⟨v2, rfl, own2, hb2⟩; have M2 := M.ext hb2; have B2 := ext_trans hb hb2; obtain ⟨g2, cap2, e2, rd2⟩ := own_rd own2 hl0; rw [e2]; have K2 := hKW.out.below hb2; clear e2 own2)
    | (go_at_call 42; have ho := hof.out; rw [← hal2.out] at ho; refine (ho _ _ _ rd2 K2).mono ?_; rintro e w3 ⟨rfl, hb3⟩; have M3 := M2.ext hb3; have B3 := ext_trans B2 hb3)
    | (refine vl_store (w.heap.size + 1) 43 (F.map vu8) (List.replicate 16 (.int .u8 0)) (by rfl) (by rfl) M3 i1.out i2.out i3.out ?_; (try simp only [Act.put, List.setIfInBounds_toArray, List.set_cons_zero, List.set_cons_succ])))
  exact ret_blk rfl (w.heap.size + 1) _ _ _ rfl (M3.setRow _) Tryd.underlying43 rfl i1.out rfl ⟨rfl, below_setRow B3 (Nat.le_succ _) _⟩
/-- a blinded digest -/
def bl (nonce : ByteArray) (ps : List ByteArray) : List Nat := Sha.dig 121 ((nonce :: ps).map Bs)
theorem bl_16 (nonce : ByteArray) (ps : List ByteArray) : D16 (bl nonce ps) := dig_16 _ _
theorem bl_eq (nonce : ByteArray) (ps : List ByteArray) : bl nonce ps = Sha.dig 121 ((nonce :: ps).map Bs) := rfl
attribute [irreducible] bl
set_option maxRecDepth 100000 in
set_option maxHeartbeats 4000000 in
theorem blind_any (nonce : ByteArray) (A : Option Addr) (cap : Nat) (ps : List ByteArray) (w : World) (hp : Rd w A (ps.map .string)) (hps : ∀ p ∈ ps, p.size ≤ 1000000) (hsec : nonce.size ≤ 1000000) (hn : ps.length ≤ 1000) (hK : At w 0 0 (Sha.K.map vu32)) :
    Calls Tryd.prog 27 #[.string nonce, .slice A ps.length cap] w fun e w' => e = .returned (.agg ((bl nonce ps).map vu8).toArray) ∧ Below w.heap.size w w' := by
  obtain ⟨W, hW, G, M, R1, hb⟩ : ∃ W, W = (((w.alloc (.cells #[.int .u8 0, .int .u8 0, .int .u8 0, .int .u8 0, .int .u8 0, .int .u8 0, .int .u8 0, .int .u8 0, .int .u8 0, .int .u8 0, .int .u8 0, .int .u8 0, .int .u8 0, .int .u8 0, .int .u8 0, .int .u8 0] 44)).alloc (.cells #[.string nonce] 9)).alloc (.cells #[.slice (some ⟨w.heap.size + 1, 0, none⟩) 1 1, .slice A ps.length cap] 41)) ∧
      Blk W (w.heap.size + 1 + 1) 41 [.slice (some ⟨w.heap.size + 1, 0, none⟩) 1 1, .slice A ps.length cap] ∧ Blk W w.heap.size 44 (List.replicate 16 (.int .u8 0)) ∧ Blk W (w.heap.size + 1) 9 [.string nonce] ∧ Below w.heap.size w W :=
    ⟨_, rfl, blk_at _ _ (by simp), ((blk_at (List.replicate 16 (.int .u8 0)) 44 (by simp)).alloc _).alloc _, (blk_at [.string nonce] 9 (by simp)).alloc _, ext_alloc (ext_alloc (ext_alloc (Below.refl _ _) _) _) _⟩
  obtain ⟨segs, hsegs⟩ : ∃ segs : List Seg, segs = [((some ⟨w.heap.size + 1, 0, none⟩ : Option Addr), 1, [nonce]), (A, cap, ps)] := ⟨_, rfl⟩
  have hall : allS segs = nonce :: ps := by rw [hsegs]; unfold allS; simp
  have hcon := fun cap' h1 h2 h3 h4 h5 => concat_strs segs (w.heap.size + 1 + 1) cap' W h1 h2 h3 h4 h5
  have hcc := hcon 2 (by rw [hsegs]; exact G) (by
    rw [hsegs]; intro s hs
    simp only [List.mem_cons, List.not_mem_nil, or_false] at hs
    rcases hs with rfl | rfl
    · exact rd_blk R1
    · exact Rd.below hp hb) (by rw [hall]; simp; omega) (by rw [hall]; simp) (by rw [hsegs]; simp)
  rw [hall, show segs.length = 2 by rw [hsegs]; rfl] at hcc
  have hof := fun A' cap' W' h h2 => of_any 121 A' cap' (nonce :: ps) W' h (fun p hp => by
    simp only [List.mem_cons] at hp
    rcases hp with rfl | hp
    · omega
    · have := hps p hp; omega) (parts_bound (fun p hp => by
      simp only [List.mem_cons] at hp
      rcases hp with rfl | hp
      · exact hsec
      · exact hps p hp) (by simp; omega) 121) h2
  rw [← bl_eq] at hof
  have hmk := bl_16 nonce ps
  obtain ⟨F, hF⟩ : ∃ F, F = bl nonce ps := ⟨_, rfl⟩
  rw [← hF] at hof hmk ⊢
  have i1 := hide (d16_dig hmk)
  have i2 := hide (show (List.replicate 16 (Value.int .u8 0)).length = (F.map vu8).length by rw [List.length_map, hmk.1]; rfl)
  have i3 := hide (vu8_ones F)
  replace hcc := hide hcc
  replace hof := hide hof
  replace hF := hide hF
  have hKW := hide (hK.below hb)
  have hl0 : 0 < (nonce :: ps).length := by simp
  obtain ⟨al, hal⟩ : ∃ al, al = nonce :: ps := ⟨_, rfl⟩
  rw [← hal] at hl0
  have hal2 := hide hal
  clear hcon hall hsegs hal G R1
  go_enter Tryd.func27, Tryd.ntmps27
  go_wp2_with (first
    | (go_at_call 43; rw [← hW]; have hc := hcc.out; rw [← hal2.out] at hc; refine hc.mono ?_; rintro e w2 ⟨v2, rfl, own2, hb2⟩; have M2 := M.ext hb2; have B2 := ext_trans hb hb2; obtain ⟨g2, cap2, e2, rd2⟩ := own_rd own2 hl0; rw [e2]; have K2 := hKW.out.below hb2; clear e2 own2)
    | (go_at_call 42; have ho := hof.out; rw [← hal2.out] at ho; refine (ho _ _ _ rd2 K2).mono ?_; rintro e w3 ⟨rfl, hb3⟩; have M3 := M2.ext hb3; have B3 := ext_trans B2 hb3)
    | (refine vl_store w.heap.size 44 (F.map vu8) (List.replicate 16 (.int .u8 0)) (by rfl) (by rfl) M3 i1.out i2.out i3.out ?_; (try simp only [Act.put, List.setIfInBounds_toArray, List.set_cons_zero, List.set_cons_succ])))
  exact ret_blk rfl w.heap.size _ _ _ rfl (M3.setRow _) Tryd.underlying44 rfl i1.out rfl ⟨rfl, below_setRow B3 (Nat.le_refl _) _⟩
set_option maxRecDepth 100000 in
set_option maxHeartbeats 4000000 in
theorem opens_any (d : List Nat) (hd : D16 d) (nonce : ByteArray) (A : Option Addr) (cap : Nat) (ps : List ByteArray) (w : World) (hp : Rd w A (ps.map .string)) (hps : ∀ p ∈ ps, p.size ≤ 1000000) (hsec : nonce.size ≤ 1000000) (hn : ps.length ≤ 1000) (hK : At w 0 0 (Sha.K.map vu32)) :
    Calls Tryd.prog 28 #[.agg (d.map vu8).toArray, .string nonce, .slice A ps.length cap] w fun e w' => e = .returned (.bool (decide (bl nonce ps = d))) ∧ Below w.heap.size w w' := by
  have hb := (Below.refl w.heap.size w).alloc (Nat.le_refl _) (.cells (d.map vu8).toArray 44)
  have hX := Blk.new w (d.map vu8) 44
  have hpW := Rd.alloc hp (.cells (d.map vu8).toArray 44)
  have hKW := hK.alloc (.cells (d.map vu8).toArray 44)
  have heq := fun W => eqIn_dig (bl_16 nonce ps) hd W
  have hbl := fun W h h2 => blind_any nonce A cap ps W h hps hsec hn h2
  obtain ⟨F, hF⟩ : ∃ F, F = bl nonce ps := ⟨_, rfl⟩
  rw [← hF] at heq hbl ⊢
  have i1 := hide (d16_dig hd)
  replace hF := hide hF
  replace hbl := hide hbl
  replace hKW := hide hKW
  replace hd := hide hd
  replace hps := hide hps
  go_enter Tryd.func28, Tryd.ntmps28
  go_wp2_with fail
  generalize w.alloc (.cells (d.map vu8).toArray 44) = W at *
  refine wp_region_held_drew (S := (fun w' => At w' w.heap.size 0 (d.map vu8))) (by kernel_rfl) (At.of_blk hX) (fun hHeld => ?_)
  (refine wpAnyH_take (i := 0) (oi := ⟨some 7, _, _, _, _, _⟩) (v := ?_) rfl (by kernel_rfl) (by kernel_rfl) (by kernel_rfl) (fun _ _ _ h => h) (Or.inl ⟨by kernel_rfl, ?_⟩) hHeld ?_; rotate_left; (focus (intro wS hSw; (try dsimp only at hSw); go_simp; (try with_reducible rfl); done)); (try simp only [Act.put, List.setIfInBounds_toArray, List.set_cons_zero, List.set_cons_succ]); refine wpAnyH_take (i := 1) (oi := ⟨some 8, _, _, _, _, _⟩) (v := ?_) rfl (by kernel_rfl) (by kernel_rfl) (by kernel_rfl) (fun _ _ _ h => h) (Or.inl ⟨by kernel_rfl, ?_⟩) hHeld ?_; rotate_left; (focus (intro wS hSw; (try dsimp only at hSw); go_simp; (try with_reducible rfl); done)); (try simp only [Act.put, List.setIfInBounds_toArray, List.set_cons_zero, List.set_cons_succ]))
  (refine wpAnyH_take (i := 3) (oi := ⟨some 10, _, _, _, _, _⟩) (v := .agg (d.map vu8).toArray) rfl (by kernel_rfl) (by kernel_rfl) (by kernel_rfl) (fun _ _ _ h => h) (yieldsIf_load_mid (by kernel_rfl) 44 _ rfl w.heap.size 0 (by rfl) (d.map vu8) _ (fun _ h => ?_) Tryd.underlying44 rfl i1.out) hHeld ?_; (focus ((try dsimp only at h); first | exact h | exact h.1 | exact h.2); done); (try simp only [Act.put, List.setIfInBounds_toArray, List.set_cons_zero, List.set_cons_succ]))
  (refine wpAnyH_ready (rs := [2]) (by kernel_rfl) (by simp) ?_; refine AllReadyH.cons (o := ⟨some 9, _, _, _, _, _⟩) rfl (fun K hK => ?_) AllReadyH.nil; go_simp)
  refine (hbl.out _ (Rd.drew hpW) hKW.out.drew).mono ?_
  rintro e w2 ⟨rfl, hb2⟩
  have X2 := hX.drew.ext hb2
  have B2 := ext_trans (ext_drew hb) hb2
  (refine hK.out _ _ (At.of_blk X2) (fun hHeld => ?_); clear hK K; (try simp only [Act.put, List.setIfInBounds_toArray, List.set_cons_zero, List.set_cons_succ]))
  (refine wpAnyH_take (i := 4) (oi := ⟨some 11, _, _, _, _, _⟩) (v := ?_) rfl (by kernel_rfl) (by kernel_rfl) (by kernel_rfl) (fun _ _ _ h => h) (Or.inl ⟨by kernel_rfl, ?_⟩) hHeld ?_; rotate_left; (focus (intro wS hSw; (try dsimp only at hSw); go_simp; (try with_reducible rfl); done)); (try simp only [Act.put, List.setIfInBounds_toArray, List.set_cons_zero, List.set_cons_succ]); refine wpAnyH_take (i := 5) (oi := ⟨some 6, _, _, _, _, _⟩) (v := ?_) rfl (by kernel_rfl) (by kernel_rfl) (by kernel_rfl) (fun _ _ _ h => h) (Or.inl ⟨by kernel_rfl, ?_⟩) hHeld ?_; rotate_left; (focus (intro wS hSw; (try dsimp only at hSw); go_simp; (try with_reducible rfl); done)); (try simp only [Act.put, List.setIfInBounds_toArray, List.set_cons_zero, List.set_cons_succ]))
  (refine wpAnyH_done (by kernel_rfl) ?_ _)
  go_wp2_with fail
  go_ret
  exact ⟨rfl, B2⟩
/-- what Check returns -/
def chkE (l : List KeyD) (p s tag : Int) (ps : List ByteArray) (sg : List Nat) (d : Int) : Int := match find l p s with
  | none => 5
  | some k => if k.counts d then (if mk k.secret tag ps = sg then 0 else 8) else 9
theorem chk_none {l : List KeyD} {p s : Int} (h : find l p s = none) (tag : Int) (ps : List ByteArray) (sg : List Nat) (d : Int) : chkE l p s tag ps sg d = 5 := by unfold chkE; rw [h]
theorem chk_time {l : List KeyD} {p s : Int} {k : KeyD} (h : find l p s = some k) (tag : Int) (ps : List ByteArray) (sg : List Nat) {d : Int} (hc : k.counts d = false) : chkE l p s tag ps sg d = 9 := by unfold chkE; rw [h]; simp [hc]
theorem chk_counts {l : List KeyD} {p s : Int} {k : KeyD} (h : find l p s = some k) (tag : Int) (ps : List ByteArray) (sg : List Nat) {d : Int} (hc : k.counts d = true) : chkE l p s tag ps sg d = if mk k.secret tag ps = sg then 0 else 8 := by unfold chkE; rw [h]; simp [hc]
attribute [irreducible] chkE
theorem find_valid {l : List KeyD} (hr : ring l = true) {p s : Int} {k : KeyD} (h : find l p s = some k) : k.valid = true := by
  have hm : k ∈ l := by unfold find at h; exact List.mem_of_find?_eq_some h
  obtain ⟨i, hi⟩ := List.mem_iff_getElem?.1 hm
  exact ring_valid hr hi
set_option maxRecDepth 100000 in
set_option maxHeartbeats 8000000 in
theorem check_any (R : Option Addr) (rcap : Nat) (l : List KeyD) (p s tag : Int) (A : Option Addr) (cap : Nat) (ps : List ByteArray) (sg : List Nat) (hsg : D16 sg) (d : Int) (w : World) (hl : Ks w R l) (hr : ring l = true) (hln : l.length ≤ 1000000) (hd : -9223372036854775808 ≤ d)
    (hp : Rd w A (ps.map .string)) (hps : ∀ p ∈ ps, p.size ≤ 1000000) (hn : ps.length ≤ 1000) (hK : At w 0 0 (Sha.K.map vu32)) :
    Calls Tryd.prog 24 #[.slice R l.length rcap, .int .i64 p, .int .i64 s, .int .i64 tag, .slice A ps.length cap, .agg (sg.map vu8).toArray, .int .i64 d] w fun e w' => e = .returned (.int .i64 (chkE l p s tag ps sg d)) ∧ Below w.heap.size w w' := by
  have hk5 := fun k => hide (kC_size k)
  have hkl := fun a b => hide (kC_len a b)
  have hko := fun k => hide (kC_ones k)
  have hb := (Below.refl w.heap.size w).alloc (Nat.le_refl _) (.cells (sg.map vu8).toArray 43)
  have hX := Blk.new w (sg.map vu8) 43
  have hfc := fun W h => find_any R rcap l p s W h (ring_sorted hr) hln
  have hlW := Ks.below hl hb
  have hpW := Rd.below hp hb
  have hKW := hide (hK.below hb)
  have i1 := hide (d16_seal hsg)
  replace hps := hide hps
  cases hf : find l p s with
  | none =>
    rw [chk_none hf]
    rw [findK_none hf, findE_none hf] at hfc
    replace hfc := hide hfc
    clear hf
    go_enter Tryd.func24, Tryd.ntmps24
    go_wp2_with (first
      | (go_at_call 15; refine (hfc.out _ hlW).mono ?_; rintro e w2 ⟨rfl, hb2⟩; unfold kV; have B2 := ext_trans hb hb2)
      | (refine vl_store w2.heap.size 24 (kC (key0 0 0)) (kC (key0 0 0)) (by rfl) (by rfl) (Blk.new w2 _ _) (hk5 _).out (hkl _ _).out (hko _).out ?_; rw [setRow_alloc]; have B3 := ext_alloc B2 (.cells (kC (key0 0 0)).toArray 24); generalize w2.alloc (.cells (kC (key0 0 0)).toArray 24) = w3 at *; (try simp only [Act.put, List.setIfInBounds_toArray, List.set_cons_zero, List.set_cons_succ])))
    go_ret
    exact ⟨rfl, B3⟩
  | some k =>
    have hkv := find_valid hr hf
    have hto := valid_to hkv
    have hsec : k.secret.size ≤ 1000000 := by rw [KeyD.valid_iff] at hkv; omega
    have hmake := fun W h h2 => make_any k tag A cap ps W h hps.out hsec hn h2
    have heq := fun W => eqIn_seal (mk_16 k.secret tag ps) hsg W
    rw [findK_some hf, findE_some hf] at hfc
    replace hfc := hide hfc
    replace hsg := hide hsg
    cases hc : k.counts d with
    | false =>
      rw [chk_time hf tag ps sg hc]
      clear hf heq hmake
      replace hkv := hide hkv
      go_enter Tryd.func24, Tryd.ntmps24
      go_wp2_with (first
        | (go_at_call 15; refine (hfc.out _ hlW).mono ?_; rintro e w2 ⟨rfl, hb2⟩; unfold kV; have B2 := ext_trans hb hb2)
        | (refine vl_store w2.heap.size 24 (kC k) (kC (key0 0 0)) (by rfl) (by rfl) (Blk.new w2 _ _) (hk5 _).out (hkl _ _).out (hko _).out ?_; rw [setRow_alloc]; have X3 := Blk.new w2 (kC k) 24; have B3 := ext_alloc B2 (.cells (kC k).toArray 24); generalize w2.alloc (.cells (kC k).toArray 24) = w3 at *; (try simp only [Act.put, List.setIfInBounds_toArray, List.set_cons_zero, List.set_cons_succ]))
        | (refine vl_load w2.heap.size 24 (kC k) _ (by rfl) X3 Tryd.underlying24 (by rfl) (hk5 _).out ?_; simp only [kC]; (try simp only [Act.put, List.setIfInBounds_toArray, List.set_cons_zero, List.set_cons_succ]))
        | (go_at_call 39; refine (counts_any k d _ hd hto).mono ?_; rintro e w4 ⟨rfl, hb4⟩; have B4 := ext_trans B3 hb4))
      go_ret
      exact ⟨rfl, B4⟩
    | true =>
      rw [chk_counts hf tag ps sg hc]
      clear hf
      replace hkv := hide hkv
      obtain ⟨F, hF⟩ : ∃ F, F = mk k.secret tag ps := ⟨_, rfl⟩
      rw [← hF] at hmake heq ⊢
      replace hF := hide hF
      replace hmake := hide hmake
      cases hdec : decide (F = sg)
      all_goals
        rw [hdec] at heq
        first | rw [if_neg (of_decide_eq_false hdec)] | rw [if_pos (of_decide_eq_true hdec)]
        replace hdec := hide hdec
        go_enter Tryd.func24, Tryd.ntmps24
        go_wp2_with (first
          | (go_at_call 15; refine (hfc.out _ hlW).mono ?_; rintro e w2 ⟨rfl, hb2⟩; unfold kV; have B2 := ext_trans hb hb2; have S2 := hX.ext hb2; have K2 := hide (hKW.out.below hb2); have P2 := Rd.below hpW hb2)
          | (refine vl_store w2.heap.size 24 (kC k) (kC (key0 0 0)) (by rfl) (by rfl) (Blk.new w2 _ _) (hk5 _).out (hkl _ _).out (hko _).out ?_; rw [setRow_alloc]; have X3 := Blk.new w2 (kC k) 24; have B3 := ext_alloc B2 (.cells (kC k).toArray 24); have S3 := S2.alloc (.cells (kC k).toArray 24); have K3 := hide (K2.out.alloc (.cells (kC k).toArray 24)); have P3 := Rd.alloc P2 (.cells (kC k).toArray 24); generalize w2.alloc (.cells (kC k).toArray 24) = w3 at *; (try simp only [Act.put, List.setIfInBounds_toArray, List.set_cons_zero, List.set_cons_succ]))
          | (refine vl_load w2.heap.size 24 (kC k) _ (by rfl) X3 Tryd.underlying24 (by rfl) (hk5 _).out ?_; simp only [kC]; (try simp only [Act.put, List.setIfInBounds_toArray, List.set_cons_zero, List.set_cons_succ]))
          | (go_at_call 39; refine (counts_any k d _ hd hto).mono ?_; rintro e w4 ⟨rfl, hb4⟩; have B4 := ext_trans B3 hb4; have S4 := S3.ext hb4; have X4 := X3.ext hb4; have K4 := hide (K3.out.below hb4); have P4 := Rd.below P3 hb4))
        refine wp_region_held_drew (S := (fun w' => (w'.cell? ⟨w2.heap.size, 0, none⟩ = some (.int .i64 k.party) ∧ w'.cell? ⟨w2.heap.size, 1, none⟩ = some (.int .i64 k.serial) ∧ w'.cell? ⟨w2.heap.size, 2, none⟩ = some (.string k.secret) ∧ w'.cell? ⟨w2.heap.size, 3, none⟩ = some (.int .i64 k.fr) ∧ w'.cell? ⟨w2.heap.size, 4, none⟩ = some (.int .i64 k.to)) ∧ At w' w.heap.size 0 (sg.map vu8))) (by kernel_rfl) (⟨kbox X4, At.of_blk S4⟩) (fun hHeld => ?_)
        (refine wpAnyH_take (i := 0) (oi := ⟨some 34, _, _, _, _, _⟩) (v := ?_) rfl (by kernel_rfl) (by kernel_rfl) (by kernel_rfl) (fun _ _ _ h => h) (Or.inl ⟨by kernel_rfl, ?_⟩) hHeld ?_; rotate_left; (focus (intro wS hSw; (try dsimp only at hSw); go_simp; (try with_reducible rfl); done)); (try simp only [Act.put, List.setIfInBounds_toArray, List.set_cons_zero, List.set_cons_succ]); refine wpAnyH_take (i := 1) (oi := ⟨some 35, _, _, _, _, _⟩) (v := ?_) rfl (by kernel_rfl) (by kernel_rfl) (by kernel_rfl) (fun _ _ _ h => h) (Or.inl ⟨by kernel_rfl, ?_⟩) hHeld ?_; rotate_left; (focus (intro wS hSw; (try dsimp only at hSw); go_simp; (try with_reducible rfl); done)); (try simp only [Act.put, List.setIfInBounds_toArray, List.set_cons_zero, List.set_cons_succ]); refine wpAnyH_take (i := 2) (oi := ⟨some 36, _, _, _, _, _⟩) (v := ?_) rfl (by kernel_rfl) (by kernel_rfl) (by kernel_rfl) (fun _ _ _ h => h) (Or.inl ⟨by kernel_rfl, ?_⟩) hHeld ?_; rotate_left; (focus (intro wS hSw; (try dsimp only at hSw); go_simp; (try with_reducible rfl); done)); (try simp only [Act.put, List.setIfInBounds_toArray, List.set_cons_zero, List.set_cons_succ]))
        (refine wpAnyH_take (i := 4) (oi := ⟨some 38, _, _, _, _, _⟩) (v := .agg (sg.map vu8).toArray) rfl (by kernel_rfl) (by kernel_rfl) (by kernel_rfl) (fun _ _ _ h => h) (yieldsIf_load_mid (by kernel_rfl) 43 _ rfl w.heap.size 0 (by rfl) (sg.map vu8) _ (fun _ h => ?_) Tryd.underlying43 rfl i1.out) hHeld ?_; (focus ((try dsimp only at h); first | exact h | exact h.1 | exact h.2); done); (try simp only [Act.put, List.setIfInBounds_toArray, List.set_cons_zero, List.set_cons_succ]))
        (refine wpAnyH_ready (rs := [3]) (by kernel_rfl) (by simp) ?_; refine AllReadyH.cons (o := ⟨some 37, _, _, _, _, _⟩) rfl (fun K hK => ?_) AllReadyH.nil; go_simp)
        refine (hmake.out _ (Rd.drew P4) K4.out.drew).mono ?_
        rintro e w5 ⟨rfl, hb5⟩
        have X5 := X4.drew.ext hb5
        have S5 := S4.drew.ext hb5
        have B5 := ext_trans (ext_drew B4) hb5
        (refine hK.out _ _ (⟨kbox X5, At.of_blk S5⟩) (fun hHeld => ?_); clear hK K; (try simp only [Act.put, List.setIfInBounds_toArray, List.set_cons_zero, List.set_cons_succ]))
        (refine wpAnyH_take (i := 5) (oi := ⟨some 39, _, _, _, _, _⟩) (v := ?_) rfl (by kernel_rfl) (by kernel_rfl) (by kernel_rfl) (fun _ _ _ h => h) (Or.inl ⟨by kernel_rfl, ?_⟩) hHeld ?_; rotate_left; (focus (intro wS hSw; (try dsimp only at hSw); go_simp; (try with_reducible rfl); done)); (try simp only [Act.put, List.setIfInBounds_toArray, List.set_cons_zero, List.set_cons_succ]); refine wpAnyH_take (i := 6) (oi := ⟨some 33, _, _, _, _, _⟩) (v := ?_) rfl (by kernel_rfl) (by kernel_rfl) (by kernel_rfl) (fun _ _ _ h => h) (Or.inl ⟨by kernel_rfl, ?_⟩) hHeld ?_; rotate_left; (focus (intro wS hSw; (try dsimp only at hSw); go_simp; (try with_reducible rfl); done)); (try simp only [Act.put, List.setIfInBounds_toArray, List.set_cons_zero, List.set_cons_succ]))
        (refine wpAnyH_done (by kernel_rfl) ?_ _)
        go_wp2_with fail
      · go_ret
        exact ⟨rfl, B5⟩
      · go_ret
        exact ⟨rfl, B5⟩
end Go.Proofs.YtbccfgeepdmegaaDoor
