/- Plain memory words over any program: a block known whole (Blk), a stretch of cells (At), a slice's value that reads as cells (Sl). -/
import Derived.WalkKit
import Derived.WalkSmall
import Derived.Laws.BitsLemmas
import Derived.Laws.Rows
import Derived.StillTailTactics
import Derived.Laws.CopyRow
import Derived.Lib.Strings
set_option linter.unusedVariables false
set_option linter.unusedSimpArgs false
set_option linter.unnecessarySimpa false
namespace Go.Proofs.YtbccfgeepdmegaaDoor
open Go Go.RowKit
def vu32 (x : Nat) : Value := .int .u32 x
def vu8 (x : Nat) : Value := .int .u8 x
/-- the bytes of a string, as numbers -/
def Bs (s : ByteArray) : List Nat := s.data.toList.map UInt8.toNat
theorem Bs_length (s : ByteArray) : (Bs s).length = s.size := by simp [Bs]
theorem Bs_lt (s : ByteArray) : ∀ x ∈ Bs s, x < 256 := by
  intro x hx
  simp only [Bs, List.mem_map] at hx
  obtain ⟨b, _, rfl⟩ := hx
  exact b.toNat_lt
theorem Bs_extract (s : ByteArray) (a b : Nat) : Bs (s.extract a b) = ((Bs s).drop a).take (b - a) := by
  unfold Bs
  rw [Lib.extract_data]
  simp [List.map_drop, List.map_take]
theorem str_ne {s : ByteArray} (h : s.size ≠ 0) : s.toList.isEmpty = false := by
  rw [Lib.toList_data]
  cases hx : s.data.toList with
  | nil => exact absurd (by rw [← Bs_length, Bs, hx]; rfl) h
  | cons a l => rfl
theorem str_nil {s : ByteArray} (h : s.size = 0) : s.toList.isEmpty = true := by
  rw [Lib.toList_data]
  cases hx : s.data.toList with
  | nil => rfl
  | cons a l => have := Bs_length s; rw [Bs, hx, h] at this; simp at this
namespace Mem
theorem hide {p : Prop} (h : p) : Hid p := h
/-- Block b holds just the cells cs, none frozen. -/
def Blk (w : World) (b : Nat) (t : TypeId) (cs : List Value) : Prop := w.heap[b]? = some (.cells cs.toArray t (0, 0))
/-- From off on block b holds cs. -/
def At (w : World) (b off : Nat) (cs : List Value) : Prop := ∀ i v, cs[i]? = some v → w.cell? ⟨b, off + i, none⟩ = some v
variable {w w' : World} {b b' t B : Nat} {cs : List Value} {v : Value}
theorem Blk.cell (h : Blk w b t cs) {i : Nat} (hi : cs[i]? = some v) : w.cell? ⟨b, i, none⟩ = some v := by
  rw [cell_of_row w b i _ _ _ h]; simpa using hi
theorem Blk.frozen (h : Blk w b t cs) (i : Nat) : w.frozen? ⟨b, i, none⟩ = false := frozen_of_row w b i _ _ h
theorem Blk.lt (h : Blk w b t cs) : b < w.heap.size := by
  by_cases hlt : b < w.heap.size
  · exact hlt
  · have hn : w.heap[b]? = none := by simp; omega
    unfold Blk at h; rw [hn] at h; cases h
theorem Blk.set (h : Blk w b t cs) (i : Nat) (v : Value) : Blk (w.setCell ⟨b, i, none⟩ v) b t (cs.set i v) := by
  unfold Blk
  rw [heap_setCell_same w b i _ _ v h]
  simp
theorem Blk.set_ne (h : Blk w b t cs) (hne : b ≠ b') (i : Nat) (v : Value) : Blk (w.setCell ⟨b', i, none⟩ v) b t cs := by
  unfold Blk; rw [heap_setCell_other _ _ _ _ hne]; exact h
theorem Blk.alloc (h : Blk w b t cs) (o : Obj) : Blk (w.alloc o) b t cs := by
  unfold Blk; rw [Below.heap_alloc w o b h.lt]; exact h
theorem Blk.new (w : World) (cs : List Value) (t : Nat) : Blk (w.alloc (.cells cs.toArray t (0, 0))) w.heap.size t cs := heap_alloc_new w _
theorem blk_new1 (w : World) (o : Obj) (cs : List Value) (t : Nat) : Blk ((w.alloc o).alloc (.cells cs.toArray t (0, 0))) (w.heap.size + 1) t cs := heap_alloc2_new w _ _
theorem Blk.below (h : Blk w b t cs) (hb : Below B w w') (hlt : b < B) : Blk w' b t cs := by
  unfold Blk; rw [hb.block b hlt]; exact h
theorem Blk.drew (h : Blk w b t cs) : Blk w.drew b t cs := h
theorem Blk.drewN (h : Blk w b t cs) {n : Nat} : Blk (w.drewN n) b t cs := h
theorem At.drewN {off n : Nat} (h : At w b off cs) : At (w.drewN n) b off cs := h
theorem set_self {α : Type} {l : List α} {i : Nat} {x : α} (h : l[i]? = some x) : l.set i x = l := by
  apply List.ext_getElem?
  intro j
  rw [List.getElem?_set]
  split
  · rename_i e; subst e
    split
    · exact h.symm
    · rename_i hn; rw [List.getElem?_eq_none (by omega)]
  · rfl
theorem At.nil (w : World) (b off : Nat) : At w b off [] := fun i v h => by simp at h
theorem At.below {off : Nat} (h : At w b off cs) (hb : Below w.heap.size w w') : At w' b off cs := fun i v hi => by
  have hc := h i v hi
  rw [hb.cell (p := ⟨b, off + i, none⟩) (block_lt_of_cell hc)]
  exact hc
theorem At.of_blk (h : Blk w b t cs) : At w b 0 cs := fun i v hi => by rw [Nat.zero_add]; exact h.cell hi
theorem At.sub {off : Nat} (h : At w b off cs) (k n : Nat) : At w b (off + k) ((cs.drop k).take n) := fun i v hi => by
  rw [List.getElem?_take] at hi
  split at hi
  · rw [List.getElem?_drop] at hi
    rw [Nat.add_assoc]; exact h _ _ hi
  · cases hi

/-- Law: a store of one-cell values is 'stored'; see the kit. Reading a variable of several cells. -/
theorem run_loadVar_at (P : Program) (w : World) (b off : Nat) (ty : TypeId) (cs : List Value) (d : TypeDesc) (h : At w b off cs)
    (hu : P.underlying ty = some d) (hd : (match d with | .struct _ | .array _ _ => true | _ => false) = true) (hi : (P.info? ty).map (·.size) = some cs.length) :
    (loadVar ty ⟨b, off, none⟩).run P w = .ok (.agg cs.toArray) w := by
  have hl : (loadCells ⟨b, off, none⟩ cs.length).run P w = .ok cs.toArray w :=
    run_loadCells_list (P := P) w ⟨b, off, none⟩ cs (fun j v hv => by
      have hadd : (⟨b, off, none⟩ : Addr).add j = ⟨b, off + j, none⟩ := by unfold Addr.add; split <;> simp_all
      rw [hadd]; exact h j v hv)
  cases hq : P.info? ty with
  | none => simp [hq] at hi
  | some i =>
    have hs : i.size = cs.length := by simpa [hq] using hi
    have hagg : (isAgg ty).run P w = .ok true w := by
      unfold isAgg
      rw [Sem.run_bind, run_underlying hu w]
      cases d <;> simp_all
    simp [loadVar, Sem.run_bind, hagg, sizeOf, typeInfo, hq, hs, hl]
theorem wpList_load_at {P : Program} {ops : Array Oper} {rest : List Oper} {o : Oper} {a : Act} {w : World} {Q : Exit → Act → World → Prop} (hgd : o.guard = none) (ty : TypeId) (x : Operand) (ho : o.op = .load ty x)
    (b off : Nat) (hx : a.eval x = .pointer (some ⟨b, off, none⟩)) (cs : List Value) (d : TypeDesc) (hg : At w b off cs)
    (hu : P.underlying ty = some d) (hd : (match d with | .struct _ | .array _ _ => true | _ => false) = true) (hi : (P.info? ty).map (·.size) = some cs.length)
    (h : wpList P ops Q rest (a.put o.dst (.agg cs.toArray)) w) : wpList P ops Q (o :: rest) a w :=
  wpList_plain hgd fun _ hK => by
    unfold Oper.wp execOp
    simp only [ho, hx, Instr.loadAt, Instr.sureAddr, Sem.run_bind, Sem.run_pure, Result.andThen_ok, run_loadVar_at P w b off ty cs d hg hu hd hi]
    exact hK _ _ h

theorem at_op {P : Program} {ops : Array Oper} {rest : List Oper} {o : Oper} {a : Act} {w : World} {Q : Exit → Act → World → Prop} (op : Op) (_h : o.op = op)
    (g : wpList P ops Q (o :: rest) a w) : wpList P ops Q (o :: rest) a w := g
theorem at_dst {P : Program} {ops : Array Oper} {rest : List Oper} {o : Oper} {a : Act} {w : World} {Q : Exit → Act → World → Prop} (n : Nat) (_h : o.dst = some n)
    (g : wpList P ops Q (o :: rest) a w) : wpList P ops Q (o :: rest) a w := g
theorem wpList_load_blk {P : Program} {ops : Array Oper} {rest : List Oper} {o : Oper} {a : Act} {w : World} {Q : Exit → Act → World → Prop} (hgd : o.guard = none) (ty : TypeId) (x : Operand) (ho : o.op = .load ty x)
    (b : Nat) (hx : a.eval x = .pointer (some ⟨b, 0, none⟩)) (t : Nat) (cs : List Value) (d : TypeDesc) (hg : Blk w b t cs)
    (hu : P.underlying ty = some d) (hd : (match d with | .struct _ | .array _ _ => true | _ => false) = true) (hi : (P.info? ty).map (·.size) = some cs.length)
    (h : wpList P ops Q rest (a.put o.dst (.agg cs.toArray)) w) : wpList P ops Q (o :: rest) a w :=
  wpList_load_row hgd ty x ho b hx t cs.toArray (0, 0) d hg hu hd (by simpa using hi) h
theorem Blk.setRow (h : Blk w b t cs) (cs' : List Value) : Blk (w.setRow b cs'.toArray) b t cs' := setRow_heap w b _ _ t _ h
theorem Blk.setRow_ne (h : Blk w b t cs) (hne : b ≠ b') (cs' : Array Value) : Blk (w.setRow b' cs') b t cs := by
  unfold Blk; rw [setRow_other w b' b cs' hne]; exact h
theorem below_setRow {B : Nat} {a w : World} (h : Below B a w) {g : Nat} (hg : B ≤ g) (cs : Array Value) : Below B a (w.setRow g cs) :=
  h.trans ⟨rfl, rfl, rfl, by simp, fun k hk => setRow_other w g k cs (by omega)⟩
theorem wpList_store_blk {P : Program} {ops : Array Oper} {rest : List Oper} {o : Oper} {a : Act} {w : World} {Q : Exit → Act → World → Prop} (hgd : o.guard = none) (ty : TypeId) (x y : Operand) (ho : o.op = .store ty x y)
    (b : Nat) (cs' : List Value) (hx : a.eval x = .pointer (some ⟨b, 0, none⟩)) (hy : a.eval y = .agg cs'.toArray)
    (t : Nat) (cs : List Value) (hg : Blk w b t cs) (hi : (P.info? ty).map (·.size) = some cs'.length)
    (hold : cs.length = cs'.length) (h1 : cs'.all (·.oneCell') = true)
    (h : wpList P ops Q rest (a.put o.dst undef) (w.setRow b cs'.toArray)) : wpList P ops Q (o :: rest) a w :=
  wpList_store_row hgd ty x y ho b cs'.toArray hx hy t cs.toArray hg (by simpa using hi) (by simpa using hold) (by simpa using h1) h
theorem setRow_alloc (w : World) (cs cs' : Array Value) (t : Nat) (fr : Nat × Nat) : (w.alloc (.cells cs t fr)).setRow w.heap.size cs' = w.alloc (.cells cs' t fr) := by
  have e2 : ∀ (h : Array Obj) (x : Obj) (f : Obj → Obj), (h.push x).modify h.size f = h.push (f x) := by
    intro h x f
    apply Array.ext
    · simp
    · intro i h1 h2
      simp only [Array.size_push] at h2
      rw [Array.getElem_modify]
      by_cases e : h.size = i
      · subst e; simp
      · rw [if_neg e, Array.getElem_push, Array.getElem_push, dif_pos (by omega), dif_pos (by omega)]
  unfold World.setRow World.alloc
  simp only [e2]
theorem wpList_store_new {P : Program} {ops : Array Oper} {rest : List Oper} {o : Oper} {a : Act} {w : World} {Q : Exit → Act → World → Prop} (hgd : o.guard = none) (ty : TypeId) (x y : Operand) (ho : o.op = .store ty x y)
    (cs' cs : List Value) (t : Nat) (hx : a.eval x = .pointer (some ⟨w.heap.size, 0, none⟩)) (hy : a.eval y = .agg cs'.toArray)
    (hi : (P.info? ty).map (·.size) = some cs'.length) (hold : cs.length = cs'.length) (h1 : cs'.all (·.oneCell') = true)
    (h : wpList P ops Q rest (a.put o.dst undef) (w.alloc (.cells cs'.toArray t))) : wpList P ops Q (o :: rest) a (w.alloc (.cells cs.toArray t)) := by
  refine wpList_store_blk hgd ty x y ho w.heap.size cs' hx hy t cs (Blk.new w cs t) hi hold h1 ?_
  rw [setRow_alloc]; exact h
theorem ret_blk {P : Program} {fn : Func} {R : Ending → World → Prop} {a : Act} {w : World} {p : Tmp} {ty : TypeId} (h : fn.results = #[.cell p ty]) (b t : Nat) (cs : List Value) (d : TypeDesc)
    (hp : a.tmps.getD p undef = .pointer (some ⟨b, 0, none⟩)) (hg : Blk w b t cs)
    (hu : P.underlying ty = some d) (hd : (match d with | .struct _ | .array _ _ => true | _ => false) = true) (hi : (P.info? ty).map (·.size) = some cs.length)
    (hdef : a.defers = []) (hR : R (.returned (.agg cs.toArray)) w) : bodyPost P fn R .ret a w :=
  bodyPost_ret (results_cell_row h a.tmps w b t cs.toArray (0, 0) d hp hg hu hd (by simpa using hi)) hdef hR

/-- the kit's law of a region that draws and ends in a tail of its own, its world written as a draw -/
theorem wp_region_tail {P : Program} {id : Nat} {Q : Exit → Act → World → Prop} {a : Act} {w : World} {l : List Oper} (n : Nat) (hm : P.follows .mixedOrders = true) (hB : Region.lexTailB .any l.toArray n = true)
    (h : wpStill P l.toArray w.drew (fun a' => wpList P l.toArray Q (l.drop n) a' w.drew) (l.take n) a) : (Code.region id l.toArray true).wp P Q a w := wp_region_still_tail n hm hB h
theorem i64_id (n : Int) (h : -9223372036854775808 ≤ n ∧ n < 9223372036854775808) : IntKind.i64.wrap n = n := by
  rw [IntKind.wrap_i64]; omega
theorem below_setRow' {B : Nat} {a w : World} {g : Nat} (h : Below B a w) (hg : B ≤ g) (cs : Array Value) : Below B a (w.setRow g cs) := below_setRow h hg cs
theorem far4 (h : Blk w b t cs) (hne : b ≠ b') {v0 v1 v2 v3 : Value} : Blk ((((w.setCell ⟨b', 0, none⟩ v0).setCell ⟨b', 1, none⟩ v1).setCell ⟨b', 2, none⟩ v2).setCell ⟨b', 3, none⟩ v3) b t cs :=
  (((h.set_ne hne 0 _).set_ne hne 1 _).set_ne hne 2 _).set_ne hne 3 _
theorem below4 {a : World} (h : Below B a w) (hB : B ≤ b') {v0 v1 v2 v3 : Value} : Below B a ((((w.setCell ⟨b', 0, none⟩ v0).setCell ⟨b', 1, none⟩ v1).setCell ⟨b', 2, none⟩ v2).setCell ⟨b', 3, none⟩ v3) :=
  (((h.setCell (p := ⟨b', 0, none⟩) hB _).setCell (p := ⟨b', 1, none⟩) hB _).setCell (p := ⟨b', 2, none⟩) hB _).setCell (p := ⟨b', 3, none⟩) hB _
theorem run_copy_str (P : Program) (w : World) (dT sT ty elem : TypeId) (g o dLen dCap : Nat) (s : ByteArray) (cur : List Value) (t n : Nat)
    (hu : P.underlying dT = some (.slice elem)) (hs : (P.info? elem).map (·.size) = some 1) (hn : n = min s.size dLen)
    (hg : Blk w g t cur) (hfit : o + n ≤ cur.length) :
    (Builtin.copy_ #[dT, sT] ty #[.slice (some ⟨g, o, none⟩) dLen dCap, .string s]).run P w =
      .ok (goInt n) (w.setRow g (cur.take o ++ ((Bs s).take n).map vu8 ++ cur.drop (o + n)).toArray) := by
  have hcs : ((Bs s).take n).map vu8 = List.take n (List.map (fun b => (Value.int .u8 b.toNat : Value)) s.data.toList) := by
    simp only [Bs, List.map_take, List.map_map]; rfl
  have hlen : (((Bs s).take n).map vu8).length = n := by rw [List.length_map, List.length_take, Bs_length]; omega
  have hst := run_storeCells_at P g o t (((Bs s).take n).map vu8) 0 cur.toArray w hg (by rw [hlen]; simpa using hfit) (fun v hv => by simp only [List.mem_map] at hv; obtain ⟨x, _, rfl⟩ := hv; rfl)
  cases hq : P.info? elem with
  | none => simp [hq] at hs
  | some i =>
    have hi : i.size = 1 := by simpa [hq] using hs
    rw [hlen] at hst
    rw [hcs] at hst ⊢
    simp only [Nat.add_zero, List.append_assoc] at hst ⊢
    simp [Builtin.copy_, run_underlying hu, Builtin.lenOf, Builtin.firstCells, sizeOf, typeInfo, hq, show Nat.min s.size dLen = n from hn.symm, hst]
theorem wpList_copy_str {P : Program} {ops : Array Oper} {rest : List Oper} {o : Oper} {a : Act} {w : World} {Q : Exit → Act → World → Prop} (hgd : o.guard = none) (d s : Operand) (dT sT : TypeId)
    (ho : o.op = .call { callee := .builtin .copy, args := #[d, s], argTypes := #[dT, sT] }) (elem : TypeId) (hu : P.underlying dT = some (.slice elem)) (hsz : (P.info? elem).map (·.size) = some 1)
    (g off dLen dCap n : Nat) (x : ByteArray) (hd : a.eval d = .slice (some ⟨g, off, none⟩) dLen dCap) (hx : a.eval s = .string x) (cur : List Value) (t : Nat) (hg : Blk w g t cur) (hn : n = min x.size dLen) (hfit : off + n ≤ cur.length)
    (h : wpList P ops Q rest (a.put o.dst (goInt n)) (w.setRow g (cur.take off ++ ((Bs x).take n).map vu8 ++ cur.drop (off + n)).toArray)) : wpList P ops Q (o :: rest) a w := by
  refine wpList_plain hgd fun K hK => ?_
  have hrun := run_copy_str P w dT sT o.type elem g off dLen dCap x cur t n hu hsz hn hg hfit
  unfold Oper.wp
  simp [execOp, ho, resolve, invoke, builtin, hd, hx, hrun, Result.andThen]
  exact hK _ _ (by simpa using h)
/-- a contract for every world that leaves the world alone, at a call inside a quiet region: the first, and a later one -/
theorem quiet1 {P : Program} {f : FuncId} {args : Array Value} {v : Value} (h : ∀ W : World, Calls P f args W fun e w' => e = .returned v ∧ W = w') (w : World) (n : Nat) :
    Calls P f args (w.drewN n) fun e w'' => e = .returned v ∧ ∃ m, w'' = w.drewN m :=
  (h (w.drewN n)).mono fun _ _ hh => ⟨hh.1, n, hh.2.symm⟩
theorem quiet2 {P : Program} {f : FuncId} {args : Array Value} {v : Value} (h : ∀ W : World, Calls P f args W fun e w' => e = .returned v ∧ W = w') (w : World) (a n : Nat) :
    Calls P f args (w.drewN (a + n)) fun e w'' => e = .returned v ∧ ∃ m, w'' = w.drewN (a + m) :=
  (h (w.drewN (a + n))).mono fun _ _ hh => ⟨hh.1, n, hh.2.symm⟩
theorem run_index_arr {P : Program} (w : World) {t e n : Nat} (hu : P.underlying t = some (.array n e)) {de : TypeDesc} (hue : P.underlying e = some de) (hde : (match de with | .struct _ | .array _ _ => true | _ => false) = false)
    (hsz : (P.info? e).map (·.size) = some 1) (cs : List Value) (k : IntKind) (i : Nat) (hi : i < n) (v : Value) (hv : cs[i]? = some v) :
    (Instr.index t (.agg cs.toArray) (.int k i)).run P w = .ok v w := by
  have hagg : (isAgg e).run P w = .ok false w := by
    unfold isAgg
    rw [Sem.run_bind, run_underlying hue w]
    cases de <;> simp_all
  cases hq : P.info? e with
  | none => simp [hq] at hsz
  | some d =>
    have hs : d.size = 1 := by simpa [hq] using hsz
    simp [Instr.index, run_underlying hu, asIntOf, hi, sizeOf, typeInfo, hq, hs, part, hagg, hv, Sem.run_bind]
theorem run_arrayAt {P : Program} (w : World) {arr n el : Nat} (hu : P.underlying arr = some (.array n el)) (a : Option Addr) (len cap : Nat) (hn : n ≤ len) :
    (Instr.arrayAt arr (.slice a len cap)).run P w = .ok (.pointer a) w := by
  unfold Instr.arrayAt
  rw [Sem.run_bind, run_underlying hu w]
  simp [show ¬ len < n by omega]
theorem run_shl (P : Program) (w : World) (k yk : IntKind) (x y : Int) (hy : 0 ≤ y) :
    (Op.shift .shl k x yk y).run P w = .ok (.int k (k.wrap (x * 2 ^ (min y.toNat k.bits)))) w := by
  unfold Op.shift
  rw [if_neg (by omega)]
  rfl
theorem run_shr (P : Program) (w : World) (k yk : IntKind) (x y : Int) (hy : 0 ≤ y) :
    (Op.shift .shr k x yk y).run P w = .ok (.int k (x.fdiv (2 ^ (min y.toNat k.bits)))) w := by
  unfold Op.shift
  rw [if_neg (by omega)]
  rfl
theorem wrap_u32_id (n : Int) (h0 : 0 ≤ n) (h : n < 2 ^ 32) : IntKind.u32.wrap n = n := by
  rw [IntKind.wrap_u32]; omega
theorem or32 (a b : Nat) (ha : a < 4294967296) (hb : b < 4294967296) : bits .or .u32 a b = ((a ||| b : Nat) : Int) :=
  (bits_nat .u32 32 (by decide) wrap_u32_id a b ha hb).2
theorem and32 (a b : Nat) (ha : a < 4294967296) (hb : b < 4294967296) : bits .and .u32 a b = ((a &&& b : Nat) : Int) :=
  (bits_nat .u32 32 (by decide) wrap_u32_id a b ha hb).1
theorem xor32 (a b : Nat) (ha : a < 4294967296) (hb : b < 4294967296) : bits .xor .u32 a b = ((a ^^^ b : Nat) : Int) := by
  have ha' : a % 2 ^ IntKind.u32.bits = a := Nat.mod_eq_of_lt ha
  have hb' : b % 2 ^ IntKind.u32.bits = b := Nat.mod_eq_of_lt hb
  simp only [bits, BitVec.ofInt_natCast, BitVec.toNat_xor, BitVec.toNat_ofNat, ha', hb']
  exact wrap_u32_id _ (Int.natCast_nonneg _) (by exact_mod_cast Nat.xor_lt_two_pow (n := 32) ha hb)
end Mem
end Go.Proofs.YtbccfgeepdmegaaDoor
