/- Plain: SHA-256 over lists of natural numbers, as the program and as the reference reckon it. No program, no memory. -/
namespace Go.Proofs.YtbccfgeepdmegaaDoor
namespace Sha
abbrev M32 : Nat := 4294967296
/-- rotate right of a 32-bit word. -/
def rotr (x n : Nat) : Nat := (x >>> n) ||| ((x <<< (32 - n)) % 4294967296)
def mix (x i j k : Nat) : Nat := rotr x i ^^^ rotr x j ^^^ rotr x k
def sg0 (p : Nat) : Nat := rotr p 7 ^^^ rotr p 18 ^^^ (p >>> 3)
def sg1 (q : Nat) : Nat := rotr q 17 ^^^ rotr q 19 ^^^ (q >>> 10)
/-- a word out of its first j bytes -/
def wpart (m : List Nat) (t : Nat) : Nat → Nat
  | 0 => 0
  | j + 1 => ((wpart m t j * 256) % 4294967296) ||| m.getD (4 * t + j) 0
def word (m : List Nat) (t : Nat) : Nat := wpart m t 4
def first16 (m : List Nat) : List Nat := (List.range 16).map (word m)
def stepW (a b c d : Nat) : Nat := (a + sg0 b + c + sg1 d) % 4294967296
def schedGo : Nat → List Nat → List Nat
  | 0, ws => ws
  | n + 1, ws => schedGo n (ws ++ [stepW (ws.getD (ws.length - 16) 0) (ws.getD (ws.length - 15) 0) (ws.getD (ws.length - 7) 0) (ws.getD (ws.length - 2) 0)])
def sched (m : List Nat) : List Nat := schedGo 48 (first16 m)

theorem schedGo_length (n : Nat) : ∀ ws : List Nat, (schedGo n ws).length = ws.length + n := by
  induction n with
  | zero => intro ws; simp [schedGo]
  | succ n ih => intro ws; simp only [schedGo]; rw [ih]; simp; omega
theorem schedGo_prefix (n : Nat) : ∀ (ws : List Nat) (i : Nat), i < ws.length → (schedGo n ws).getD i 0 = ws.getD i 0 := by
  induction n with
  | zero => intro ws i _; rfl
  | succ n ih =>
    intro ws i hi
    simp only [schedGo]
    rw [ih _ i (by simp; omega)]
    simp only [List.getD_eq_getElem?_getD]
    rw [List.getElem?_append_left hi]
theorem schedGo_get (n : Nat) : ∀ (ws : List Nat) (t : Nat), 16 ≤ ws.length → ws.length ≤ t → t < ws.length + n →
    (schedGo n ws).getD t 0 = stepW ((schedGo n ws).getD (t - 16) 0) ((schedGo n ws).getD (t - 15) 0) ((schedGo n ws).getD (t - 7) 0) ((schedGo n ws).getD (t - 2) 0) := by
  induction n with
  | zero => intro ws t _ h1 h2; omega
  | succ n ih =>
    intro ws t h16 h1 h2
    by_cases e : t = ws.length
    · subst e
      simp only [schedGo]
      generalize hx : stepW (ws.getD (ws.length - 16) 0) (ws.getD (ws.length - 15) 0) (ws.getD (ws.length - 7) 0) (ws.getD (ws.length - 2) 0) = x
      have g : ∀ i, i < ws.length → (schedGo n (ws ++ [x])).getD i 0 = ws.getD i 0 := by
        intro i hi
        rw [schedGo_prefix n _ i (by simp; omega)]
        simp only [List.getD_eq_getElem?_getD]
        rw [List.getElem?_append_left hi]
      rw [g (ws.length - 16) (by omega), g (ws.length - 15) (by omega), g (ws.length - 7) (by omega), g (ws.length - 2) (by omega), hx, schedGo_prefix n _ _ (by simp)]
      simp [List.getD_eq_getElem?_getD]
    · simp only [schedGo]
      exact ih _ t (by simp; omega) (by simp; omega) (by simp; omega)
theorem first16_length (m : List Nat) : (first16 m).length = 16 := by simp [first16]
theorem sched_length (m : List Nat) : (sched m).length = 64 := by unfold sched; rw [schedGo_length, first16_length]
theorem sched_word (m : List Nat) (t : Nat) (h : t < 16) : (sched m).getD t 0 = word m t := by
  unfold sched
  rw [schedGo_prefix _ _ _ (by rw [first16_length]; exact h)]
  simp [first16, List.getD_eq_getElem?_getD, List.getElem?_map, List.getElem?_range h]
theorem sched_step (m : List Nat) (t : Nat) (h1 : 16 ≤ t) (h2 : t < 64) :
    (sched m).getD t 0 = stepW ((sched m).getD (t - 16) 0) ((sched m).getD (t - 15) 0) ((sched m).getD (t - 7) 0) ((sched m).getD (t - 2) 0) :=
  schedGo_get 48 (first16 m) t (by rw [first16_length]; exact Nat.le_refl _) (by rw [first16_length]; exact h1) (by rw [first16_length]; exact h2)

theorem rotr_lt (x n : Nat) (hx : x < 4294967296) : rotr x n < 4294967296 := by
  unfold rotr
  apply Nat.or_lt_two_pow (n := 32)
  · exact Nat.lt_of_le_of_lt (Nat.shiftRight_le _ _) hx
  · exact Nat.mod_lt _ (by decide)
theorem shr_lt (x n : Nat) (hx : x < 4294967296) : x >>> n < 4294967296 := Nat.lt_of_le_of_lt (Nat.shiftRight_le _ _) hx
theorem xor_lt {a b : Nat} (ha : a < 4294967296) (hb : b < 4294967296) : a ^^^ b < 4294967296 := Nat.xor_lt_two_pow (n := 32) ha hb
theorem and_lt {a b : Nat} (hb : b < 4294967296) : a &&& b < 4294967296 := Nat.and_lt_two_pow (n := 32) _ hb
theorem or_lt {a b : Nat} (ha : a < 4294967296) (hb : b < 4294967296) : a ||| b < 4294967296 := Nat.or_lt_two_pow (n := 32) ha hb
theorem mix_lt (x i j k : Nat) (hx : x < 4294967296) : mix x i j k < 4294967296 := xor_lt (xor_lt (rotr_lt _ _ hx) (rotr_lt _ _ hx)) (rotr_lt _ _ hx)
theorem sg0_lt (x : Nat) (hx : x < 4294967296) : sg0 x < 4294967296 := xor_lt (xor_lt (rotr_lt _ _ hx) (rotr_lt _ _ hx)) (shr_lt _ _ hx)
theorem sg1_lt (x : Nat) (hx : x < 4294967296) : sg1 x < 4294967296 := xor_lt (xor_lt (rotr_lt _ _ hx) (rotr_lt _ _ hx)) (shr_lt _ _ hx)
theorem wpart_lt (m : List Nat) (hm : ∀ x ∈ m, x < 256) (t j : Nat) : wpart m t j < 4294967296 := by
  cases j with
  | zero => simp [wpart]
  | succ j =>
    simp only [wpart]
    refine or_lt (Nat.mod_lt _ (by decide)) ?_
    rw [List.getD_eq_getElem?_getD]
    cases h : m[4 * t + j]? with
    | none => decide
    | some x => have := hm x (List.mem_of_getElem? h); simp; omega
theorem stepW_lt (a b c d : Nat) : stepW a b c d < 4294967296 := Nat.mod_lt _ (by decide)
theorem sched_lt (m : List Nat) (hm : ∀ x ∈ m, x < 256) (t : Nat) : (sched m).getD t 0 < 4294967296 := by
  by_cases h : t < 16
  · rw [sched_word m t h]; exact wpart_lt m hm t 4
  · by_cases h2 : t < 64
    · rw [sched_step m t (by omega) h2]; exact stepW_lt _ _ _ _
    · rw [List.getD_eq_getElem?_getD, List.getElem?_eq_none (by rw [sched_length]; omega)]; decide

/-- word t of the schedule -/
def W (m : List Nat) (t : Nat) : Nat := (sched m).getD t 0
theorem W_word (m : List Nat) (t : Nat) (h : t < 16) : W m t = word m t := sched_word m t h
theorem W_step (m : List Nat) (t : Nat) (h1 : 16 ≤ t) (h2 : t < 64) : W m t = stepW (W m (t - 16)) (W m (t - 15)) (W m (t - 7)) (W m (t - 2)) := sched_step m t h1 h2
theorem W_lt (m : List Nat) (hm : ∀ x ∈ m, x < 256) (t : Nat) : W m t < 4294967296 := sched_lt m hm t
/-- one round: the eight words -/
structure S8 where
  a : Nat
  b : Nat
  c : Nat
  d : Nat
  e : Nat
  f : Nat
  g : Nat
  h : Nat
def S8.list (s : S8) : List Nat := [s.a, s.b, s.c, s.d, s.e, s.f, s.g, s.h]
def S8.ok (s : S8) : Prop := s.a < 4294967296 ∧ s.b < 4294967296 ∧ s.c < 4294967296 ∧ s.d < 4294967296 ∧ s.e < 4294967296 ∧ s.f < 4294967296 ∧ s.g < 4294967296 ∧ s.h < 4294967296
def ch (e f g : Nat) : Nat := (e &&& f) ^^^ ((4294967295 - e) &&& g)
def maj (a b c : Nat) : Nat := (a &&& b) ^^^ (a &&& c) ^^^ (b &&& c)
def t1 (s : S8) (k w : Nat) : Nat := (s.h + mix s.e 6 11 25 + ch s.e s.f s.g + k + w) % 4294967296
def t2 (s : S8) : Nat := (mix s.a 2 13 22 + maj s.a s.b s.c) % 4294967296
def round (s : S8) (k w : Nat) : S8 := ⟨(t1 s k w + t2 s) % 4294967296, s.a, s.b, s.c, (s.d + t1 s k w) % 4294967296, s.e, s.f, s.g⟩
def K : List Nat := [
  0x428a2f98, 0x71374491, 0xb5c0fbcf, 0xe9b5dba5, 0x3956c25b, 0x59f111f1, 0x923f82a4, 0xab1c5ed5,
  0xd807aa98, 0x12835b01, 0x243185be, 0x550c7dc3, 0x72be5d74, 0x80deb1fe, 0x9bdc06a7, 0xc19bf174,
  0xe49b69c1, 0xefbe4786, 0x0fc19dc6, 0x240ca1cc, 0x2de92c6f, 0x4a7484aa, 0x5cb0a9dc, 0x76f988da,
  0x983e5152, 0xa831c66d, 0xb00327c8, 0xbf597fc7, 0xc6e00bf3, 0xd5a79147, 0x06ca6351, 0x14292967,
  0x27b70a85, 0x2e1b2138, 0x4d2c6dfc, 0x53380d13, 0x650a7354, 0x766a0abb, 0x81c2c92e, 0x92722c85,
  0xa2bfe8a1, 0xa81a664b, 0xc24b8b70, 0xc76c51a3, 0xd192e819, 0xd6990624, 0xf40e3585, 0x106aa070,
  0x19a4c116, 0x1e376c08, 0x2748774c, 0x34b0bcb5, 0x391c0cb3, 0x4ed8aa4a, 0x5b9cca4f, 0x682e6ff3,
  0x748f82ee, 0x78a5636f, 0x84c87814, 0x8cc70208, 0x90befffa, 0xa4506ceb, 0xbef9a3f7, 0xc67178f2]
def Kn (n : Nat) : Nat := K.getD n 0
def rounds (ws : List Nat) (s : S8) : Nat → S8
  | 0 => s
  | n + 1 => round (rounds ws s n) (K.getD n 0) (ws.getD n 0)
def Rn (m : List Nat) (s : S8) (n : Nat) : S8 := rounds (sched m) s n
theorem Rn_zero (m : List Nat) (s : S8) : Rn m s 0 = s := rfl
theorem Rn_succ (m : List Nat) (s : S8) (n : Nat) : Rn m s (n + 1) = round (Rn m s n) (Kn n) (W m n) := rfl
def addS (s v : S8) : S8 := ⟨(s.a + v.a) % 4294967296, (s.b + v.b) % 4294967296, (s.c + v.c) % 4294967296, (s.d + v.d) % 4294967296, (s.e + v.e) % 4294967296, (s.f + v.f) % 4294967296, (s.g + v.g) % 4294967296, (s.h + v.h) % 4294967296⟩
def compress (s : S8) (m : List Nat) : S8 := addS s (rounds (sched m) s 64)
def init : S8 := ⟨0x6a09e667, 0xbb67ae85, 0x3c6ef372, 0xa54ff53a, 0x510e527f, 0x9b05688c, 0x1f83d9ab, 0x5be0cd19⟩
theorem init_ok : init.ok := by unfold S8.ok init; decide
theorem round_ok {s : S8} (h : s.ok) (k w : Nat) : (round s k w).ok := by
  obtain ⟨h1, h2, h3, h4, h5, h6, h7, h8⟩ := h
  exact ⟨Nat.mod_lt _ (by decide), h1, h2, h3, Nat.mod_lt _ (by decide), h5, h6, h7⟩
theorem rounds_ok {s : S8} (h : s.ok) (ws : List Nat) (n : Nat) : (rounds ws s n).ok := by
  induction n with
  | zero => exact h
  | succ n ih => exact round_ok ih _ _
theorem addS_ok (s v : S8) : (addS s v).ok := ⟨Nat.mod_lt _ (by decide), Nat.mod_lt _ (by decide), Nat.mod_lt _ (by decide), Nat.mod_lt _ (by decide), Nat.mod_lt _ (by decide), Nat.mod_lt _ (by decide), Nat.mod_lt _ (by decide), Nat.mod_lt _ (by decide)⟩
theorem compress_ok (s : S8) (m : List Nat) : (compress s m).ok := addS_ok _ _
theorem Rn_ok {s : S8} (h : s.ok) (m : List Nat) (n : Nat) : (Rn m s n).ok := rounds_ok h _ n
theorem compress_eq (s : S8) (m : List Nat) : compress s m = addS s (Rn m s 64) := rfl
theorem Kn_lt (n : Nat) : Kn n < 4294967296 := by
  unfold Kn
  by_cases h : n < 64
  · have : ∀ i : Fin 64, K.getD i.val 0 < 4294967296 := by decide
    exact this ⟨n, h⟩
  · rw [List.getD_eq_getElem?_getD, List.getElem?_eq_none (by simp [K]; omega)]; decide
theorem Kn_get (n : Nat) (h : n < 64) : K[n]? = some (Kn n) := by
  unfold Kn
  rw [List.getD_eq_getElem?_getD, List.getElem?_eq_getElem (by simp [K]; omega)]; rfl
theorem ch_eq (e f g : Nat) : ch e f g = (e &&& f) ^^^ ((4294967295 - e) &&& g) := rfl
theorem maj_eq (a b c : Nat) : maj a b c = (a &&& b) ^^^ (a &&& c) ^^^ (b &&& c) := rfl
theorem t1_eq (s : S8) (k w : Nat) : t1 s k w = (s.h + mix s.e 6 11 25 + ch s.e s.f s.g + k + w) % 4294967296 := rfl
theorem t2_eq (s : S8) : t2 s = (mix s.a 2 13 22 + maj s.a s.b s.c) % 4294967296 := rfl
theorem round_eq (s : S8) (k w : Nat) : round s k w = ⟨(t1 s k w + t2 s) % 4294967296, s.a, s.b, s.c, (s.d + t1 s k w) % 4294967296, s.e, s.f, s.g⟩ := rfl
theorem addS_eq (s v : S8) : addS s v = ⟨(s.a + v.a) % 4294967296, (s.b + v.b) % 4294967296, (s.c + v.c) % 4294967296, (s.d + v.d) % 4294967296, (s.e + v.e) % 4294967296, (s.f + v.f) % 4294967296, (s.g + v.g) % 4294967296, (s.h + v.h) % 4294967296⟩ := rfl
theorem K_lt (n : Nat) : K.getD n 0 < 4294967296 := by
  by_cases h : n < 64
  · have : ∀ i : Fin 64, K.getD i.val 0 < 4294967296 := by decide
    exact this ⟨n, h⟩
  · rw [List.getD_eq_getElem?_getD, List.getElem?_eq_none (by simp [K]; omega)]; decide
def add32 (a b : Nat) : Nat := (a + b) % 4294967296
theorem add32_eq (a b : Nat) : add32 a b = (a + b) % 4294967296 := rfl
theorem add32_lt (a b : Nat) : add32 a b < 4294967296 := Nat.mod_lt _ (by decide)
theorem round_add (A B C D E F G H k w : Nat) : round ⟨A, B, C, D, E, F, G, H⟩ k w = ⟨add32 (t1 ⟨A, B, C, D, E, F, G, H⟩ k w) (t2 ⟨A, B, C, D, E, F, G, H⟩), A, B, C, add32 D (t1 ⟨A, B, C, D, E, F, G, H⟩ k w), E, F, G⟩ := rfl
theorem addS_add (a b c d e f g h A B C D E F G H : Nat) : addS ⟨a, b, c, d, e, f, g, h⟩ ⟨A, B, C, D, E, F, G, H⟩ = ⟨add32 a A, add32 b B, add32 c C, add32 d D, add32 e E, add32 f F, add32 g G, add32 h H⟩ := rfl
theorem mix_eq (x i j k : Nat) : mix x i j k = rotr x i ^^^ rotr x j ^^^ rotr x k := rfl
theorem sg0_eq (p : Nat) : sg0 p = rotr p 7 ^^^ rotr p 18 ^^^ (p >>> 3) := rfl
theorem sg1_eq (q : Nat) : sg1 q = rotr q 17 ^^^ rotr q 19 ^^^ (q >>> 10) := rfl
theorem stepW_eq (a b c d : Nat) : stepW a b c d = (a + sg0 b + c + sg1 d) % 4294967296 := rfl
theorem rotr_eq (x n : Nat) : rotr x n = (x >>> n) ||| ((x <<< (32 - n)) % 4294967296) := rfl
theorem wpart_zero (m : List Nat) (t : Nat) : wpart m t 0 = 0 := rfl
theorem wpart_succ (m : List Nat) (t j : Nat) : wpart m t (j + 1) = ((wpart m t j * 256) % 4294967296) ||| m.getD (4 * t + j) 0 := rfl
theorem word_eq (m : List Nat) (t : Nat) : word m t = wpart m t 4 := rfl
attribute [irreducible] add32 rotr mix sg0 sg1 sched W ch maj t1 t2 round rounds Rn Kn compress word wpart stepW addS
end Sha
end Go.Proofs.YtbccfgeepdmegaaDoor
