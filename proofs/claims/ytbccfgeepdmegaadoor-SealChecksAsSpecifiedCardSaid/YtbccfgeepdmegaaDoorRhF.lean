/- Walks: the reference's hash: Input, Short, Of. -/
import Derived.Test.YtbccfgeepdmegaaDoorRhD
import Derived.Test.YtbccfgeepdmegaaDoorOf0
import Derived.Test.YtbccfgeepdmegaaDoorWireB
import Derived.Test.YtbccfgeepdmegaaDoorApp
set_option linter.unusedVariables false
set_option linter.unusedSimpArgs false
set_option linter.unnecessarySimpa false
namespace Go.Proofs.YtbccfgeepdmegaaDoor
open Go Go.RowKit Mem
theorem ownr_below {w w' : World} {base e size n : Nat} {v : Value} {xs : List Value} (h : w.ownsRow base e size v n xs) (hb : Below w.heap.size w w') : w'.ownsRow base e size v n xs :=
  h.kept (row := none) ⟨hb.os, hb.tape, hb.output, hb.size, fun i hi _ => hb.block i hi⟩ (by cases hv : v.ownBlock with | none => exact .inl rfl | some g => exact .inr (by simp))
theorem inp_pre (tag : Int) (l m : List (List Nat)) : (Sha.inp tag l).length ≤ (Sha.inp tag (l ++ m)).length := by
  rw [Sha.inp_eq, Sha.inp_eq]; simp
theorem le_sum_mem : ∀ (l : List Nat) (x : Nat), x ∈ l → x ≤ l.sum
  | a :: l, x, h => by
    rw [List.sum_cons]
    rcases List.mem_cons.1 h with rfl | h
    · omega
    · have := le_sum_mem l x h; omega
theorem inp_part (tag : Int) (l : List (List Nat)) (p : List Nat) (h : p ∈ l) : p.length ≤ (Sha.inp tag l).length := by
  rw [Sha.inp_eq, List.length_cons]
  have h1 : (Wire.bytes p).length ≤ (l.flatMap Wire.bytes).length := by
    rw [List.length_flatMap]
    exact le_sum_mem _ _ (List.mem_map.2 ⟨p, h, rfl⟩)
  have h2 : (Wire.bytes p).length = (Wire.int (p.length : Int)).length + p.length := by unfold Wire.bytes; rw [List.length_append]
  omega
theorem inp_count (tag : Int) (l : List (List Nat)) : l.length ≤ (Sha.inp tag l).length := by
  rw [Sha.inp_eq, List.length_cons]
  have : l.length ≤ (l.flatMap Wire.bytes).length := by
    induction l with
    | nil => simp
    | cons a l ih => rw [List.flatMap_cons, List.length_append, List.length_cons]; have := Wire.bytes_pos a; omega
  omega
set_option maxRecDepth 100000 in
set_option maxHeartbeats 2000000 in
theorem rinput_any (tag : Int) (A : Option Addr) (cap : Nat) (ps : List ByteArray) (w : World) (hp : Rd w A (ps.map .string)) (hlen : (Sha.inp tag (ps.map Bs)).length ≤ 1000000) :
    Calls Tryd.prog 58 #[.int .i64 tag, .slice A ps.length cap] w (RetB w (Sha.inp tag (ps.map Bs))) := by
  have htI : tag % 256 = (((tag % 256).toNat : Nat) : Int) := by omega
  have htw : IntKind.u8.wrap tag = (((tag % 256).toNat : Nat) : Int) := by rw [IntKind.wrap_u8]; exact htI
  obtain ⟨tg, htg⟩ : ∃ tg, tg = (tag % 256).toNat := ⟨_, rfl⟩
  have hin0 : Sha.inp tag (([] : List ByteArray).map Bs) = [tg] := by rw [Sha.inp_eq, htg]; rfl
  rw [← htg] at htw htI
  replace htg := hide htg
  obtain ⟨i0, hi, hi0, hi1, hi2⟩ := info_parts info_u8
  replace hi := hide hi
  replace hi0 := hide hi0
  replace hi1 := hide hi1
  replace hi2 := hide hi2
  have hcn := inp_count tag (ps.map Bs)
  rw [List.length_map] at hcn
  have hpl : ps.length ≤ 1000000 := by omega
  clear hcn
  replace hlen := hide hlen
  have own0 : (w.alloc (.cells #[.int .u8 (tg : Int)] 5)).ownsRow w.heap.size 5 1 (.slice (some ⟨w.heap.size, 0, none⟩) 1 1) (Sha.inp tag ((ps.take 0).map Bs)).length ((Sha.inp tag ((ps.take 0).map Bs)).map vu8) := by
    rw [List.take_zero, hin0]
    exact ⟨rfl, .inr ⟨w.heap.size, 1, #[.int .u8 (tg : Int)], rfl, Nat.le_refl _, Blk.new w [.int .u8 (tg : Int)] 5, Nat.le_refl _, by decide, rfl, rfl⟩⟩
  have b0 := ext_alloc (Below.refl w.heap.size w) (.cells #[.int .u8 (tg : Int)] 5)
  replace own0 := hide own0
  replace htI := hide htI
  replace hin0 := hide hin0
  go_enter Tryd.func58, Tryd.ntmps58
  go_wp2_with fail
  go_loopw [5, 6] (fun b a wr => ∃ (j : Nat) (v : Value), j ≤ ps.length ∧ a = .int .i64 j ∧ b = v ∧ wr.ownsRow w.heap.size 5 1 v (Sha.inp tag ((ps.take j).map Bs)).length ((Sha.inp tag ((ps.take j).map Bs)).map vu8) ∧ Below w.heap.size w wr) (fun _ a _ => ps.length - (intOf a).toNat)
  case atStart => exact ⟨0, _, Nat.zero_le _, rfl, rfl, own0.out, b0⟩
  case round =>
    clear own0 b0
    obtain ⟨j, v, hj, rfl, rfl, hown, hb⟩ := hrel
    by_cases hlt : j < ps.length
    · obtain ⟨p, hpj⟩ : ∃ p, ps[j]? = some p := ⟨ps[j], List.getElem?_eq_getElem hlt⟩
      have etk : ps.take (j + 1) = ps.take j ++ [p] := by rw [List.take_add_one, hpj]; rfl
      have einp : Sha.inp tag ((ps.take (j + 1)).map Bs) = Sha.inp tag ((ps.take j).map Bs) ++ Wire.bytes (Bs p) := by rw [etk, List.map_append]; exact Sha.inp_snoc _ _ _
      have hle : (Sha.inp tag ((ps.take (j + 1)).map Bs)).length ≤ 1000000 := by
        have h1 := inp_pre tag ((ps.take (j + 1)).map Bs) ((ps.drop (j + 1)).map Bs)
        rw [← List.map_append, List.take_append_drop] at h1
        have := hlen.out; omega
      have hps : p.size ≤ 1000000 := by
        have h1 := inp_part tag (ps.map Bs) (Bs p) (List.mem_map.2 ⟨p, List.mem_of_getElem? hpj, rfl⟩)
        rw [Bs_length] at h1
        have := hlen.out; omega
      have hw := hide (rbytes_any p wr (by omega))
      have hwl := Wire.bytes_pos (Bs p)
      obtain ⟨b, off, rfl, hbl, hcell⟩ := hp.cell (i := j) (v := .string p) (by rw [List.getElem?_map, hpj]; rfl)
      have hc2 : wr.cell? ⟨b, off + j, none⟩ = some (.string p) := by rw [hb.cell (p := ⟨b, off + j, none⟩) hbl]; exact hcell
      obtain ⟨wb, hwb⟩ : ∃ wb, wb = Wire.bytes (Bs p) := ⟨_, rfl⟩
      rw [← hwb] at hw hwl einp
      rw [einp, List.length_append] at hle
      have ho : ∀ u ∈ wb.map vu8, u.oneCell' = true := by simp [vu8, Value.oneCell']
      replace hwb := hide hwb
      replace einp := hide einp
      replace etk := hide etk
      replace hpj := hide hpj
      replace ho := hide ho
      replace hlen := hide hlen
      have hbs := hb.size
      clear hp hps hcell
      obtain ⟨L, hL⟩ : ∃ L, L = Sha.inp tag ((ps.take j).map Bs) := ⟨_, rfl⟩
      rw [← hL] at hown hle einp
      replace hL := hide hL
      go_wp2_with (first
        | (go_at_call 64; refine hw.out.mono ?_; rintro e w1 ⟨v1, rfl, own1, hb1⟩; obtain ⟨g1, cap1, rfl, _, _, _, _, hat1⟩ := own_at own1 hwl; have own2 := hide (ownr_below hown hb1); have hsrc := hide (Src.of_rd (size := 1) (m := wb.length) (fun _ => ⟨g1, 0, rfl, hat1⟩ : Rd w1 (some ⟨g1, 0, none⟩) (wb.map vu8)) (by simp) (by decide)); have B1 := ext_trans hb hb1; have bs1 := hb1.size)
        | (at_builtin; refine wpList_append_src rfl (.tmp 16) (.tmp 21) 89 rfl w.heap.size 5 i0 (.int .u8 0) 1 1 Tryd.underlying89 hi.out hi0.out hi1.out hi2.out rfl (by decide) _ _ _ (by rfl) own2.out (some ⟨g1, 0, none⟩) wb.length cap1 (wb.map vu8) (by rfl) hsrc.out ho.out ?c1 ?c2 ?c3 ?_; (case c1 => simp only [maxLen]; omega); (case c2 => omega); (case c3 => omega); intro v3 w3 own3 g3; have B3 := below_grown1 B1 (by omega) own2.out (Nat.le_refl _) g3))
      rw [← List.length_append, ← List.map_append] at own3
      rw [← einp.out] at own3
      go_roundw
      case rel => exact ⟨j + 1, _, by omega, by go_num, rfl, own3, B3⟩
      case measure => simp [intOf]; omega
    · have ej : j = ps.length := by omega
      rw [ej, List.take_length] at hown
      replace ej := hide ej
      go_wp2_with fail
      go_ret
      exact ⟨_, rfl, hown, hb⟩
end Go.Proofs.YtbccfgeepdmegaaDoor
