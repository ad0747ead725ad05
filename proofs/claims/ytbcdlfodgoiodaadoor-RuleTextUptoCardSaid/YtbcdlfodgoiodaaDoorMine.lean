/- Words of my own for the walks of the foreign texts. -/
import Derived.Test.YtbcdlfodgoiodaaDoorProg
import Derived.Test.YtbcdlfodgoiodaaDoorWMore
import Derived.Test.YtbcdlfodgoiodaaDoorWKept
import Derived.Test.YtbcdlfodgoiodaaDoorWWords
import Derived.Lib.ConvBytes
import Derived.Lib.AppendStr
import Derived.Lib.SliceRun
import Derived.Laws.CopyOwn
import Derived.Lib.Bytealg
import Derived.Lib.Strings
import Derived.Lib.Walk
namespace Go.Proofs.YtbcdlfodgoiodaaDoorW.Mine
open Go Go.RowKit Go.Proofs.YtbcdlfodgoiodaaDoorW.PrintWords
set_option linter.unusedVariables false
/-- A walk stops here. -/
def Hold (p : Prop) : Prop := p
theorem hold_ {p : Prop} (h : Hold p) : p := h
/-- '[]byte(s)' makes a row that is read. -/
theorem conv_bytes {P : Program} {ops : Array Oper} {o : Oper} {rest : List Oper} {a : Act} {Q : Exit → Act → World → Prop} {W : World} (src dst e : TypeId) (x : Operand) (s : ByteArray) {u : TypeDesc}
    (hs1 : P.underlying src = some u) (hd : P.underlying dst = some (.slice e)) (he : P.underlying e = some (.int .u8)) (hs : s.size ≤ 9223372036854775807)
    (hgd : o.guard = none) (ho : o.op = .convert src dst x) (hx : a.eval x = .string s)
    (h : ∀ A c w1, s.size ≤ c → Kd.C (Kd.int .u8) w1 A s.size (bytesOf s) → Below W.heap.size W w1 → wpList P ops Q rest (a.put o.dst (.slice A s.size c)) w1) : wpList P ops Q (o :: rest) a W := by
  have hrun : (execOp a.eval o).run P W = .ok (.value (.slice (some ⟨W.heap.size, 0, none⟩) s.size (grownCap W s.size 0 e))) (Lib.bytesWorld W e s) := by
    have h1 := print_bytes src dst e hs1 hd he s W
    unfold execOp
    rw [ho]
    simp only [hx]
    go_simp
  exact Kd.event_run hgd hrun (h _ _ _ (grownCap_ge _ _ _ _) (Kd.C_of_reads (h1 := fun _ => rfl) (bytes_reads W e s hs)) (bytes_below (Below.refl _ _) (Nat.le_refl _) e s))
theorem blk_set6 {w : World} {g : Nat} {t : TypeId} {a0 a1 a2 a3 a4 a5 b0 b1 b2 b3 b4 b5 : Value} (h : w.heap[g]? = some (.cells #[a0, a1, a2, a3, a4, a5] t (0, 0))) :
    ((((((w.setCell ⟨g, 0, none⟩ b0).setCell ⟨g, 1, none⟩ b1).setCell ⟨g, 2, none⟩ b2).setCell ⟨g, 3, none⟩ b3).setCell ⟨g, 4, none⟩ b4).setCell ⟨g, 5, none⟩ b5).heap[g]? = some (.cells #[b0, b1, b2, b3, b4, b5] t (0, 0)) :=
  (blk_set (blk_set (blk_set (blk_set (blk_set (blk_set h 0 _) 1 _) 2 _) 3 _) 4 _) 5 _).trans rfl
theorem below_set6 {B : Nat} {w0 w : World} {g : Nat} {b0 b1 b2 b3 b4 b5 : Value} (hg : B ≤ g) (h : Below B w0 w) :
    Below B w0 ((((((w.setCell ⟨g, 0, none⟩ b0).setCell ⟨g, 1, none⟩ b1).setCell ⟨g, 2, none⟩ b2).setCell ⟨g, 3, none⟩ b3).setCell ⟨g, 4, none⟩ b4).setCell ⟨g, 5, none⟩ b5) :=
  (((((h.setCell hg _).setCell hg _).setCell hg _).setCell hg _).setCell hg _).setCell hg _
/-- 'string(b)', b read. -/
theorem conv_str {P : Program} {ops : Array Oper} {o : Oper} {rest : List Oper} {a : Act} {Q : Exit → Act → World → Prop} {W : World} (src dst e : TypeId) (x : Operand) (A : Option Addr) (n c : Nat) (xs : List Int)
    (hs : P.underlying src = some (.slice e)) (he : P.underlying e = some (.int .u8)) (hd : P.underlying dst = some .string) (hgd : o.guard = none) (ho : o.op = .convert src dst x) (hx : a.eval x = .slice A n c)
    (hC : Kd.C (Kd.int .u8) W A n xs) (h : wpList P ops Q rest (a.put o.dst (.string (strOfNums xs))) W) : wpList P ops Q (o :: rest) a W := by
  have hrun : (execOp a.eval o).run P W = .ok (.value (.string (strOfNums xs))) W := by
    have h1 := Kd.C_string hs he hd (c := c) hC
    unfold execOp
    rw [ho]
    simp only [hx]
    go_simp
  exact Kd.event_run hgd hrun h
/-- A block lives on where another row was appended to. -/
theorem own_blk {α : Type} {d : Kd α} {e t : Nat} {B : Nat} {ok : Nat → Prop} {W W1 : World} {v : Value} {xs : List α} {g : Nat} {cs : Array Value} (hne : e ≠ t) (HO : Kd.R d e W B ok v xs) (BK : W.heap[g]? = some (.cells cs t (0, 0))) (hg : W.grownBy W1 v.ownBlock) :
    W1.heap[g]? = some (.cells cs t (0, 0)) := blk_grown BK hg (Kd.R_ne HO BK hne)
/-- The greatest of three. -/
def mx3 (a b c : Int) : Int := max (max a b) c
theorem max_ints3 (ats : Array TypeId) (ty : TypeId) (k1 k2 k3 : IntKind) (a b c : Int) : Builtin.max_ ats ty #[.int k1 a, .int k2 b, .int k3 c] = pure (.int k1 (mx3 a b c)) := by
  simp only [Builtin.max_, List.foldlM_cons, List.foldlM_nil, Builtin.max2, gt_iff_lt, pure_bind, mx3]
  congr 2
  simp only [Int.max_def]
  split <;> split <;> split <;> omega
/-- The greater of two. -/
def mx2 (a b : Int) : Int := max a b
theorem max_ints2 (ats : Array TypeId) (ty : TypeId) (k1 k2 : IntKind) (a b : Int) : Builtin.max_ ats ty #[.int k1 a, .int k2 b] = pure (.int k1 (mx2 a b)) := by
  simp only [Builtin.max_, List.foldlM_cons, List.foldlM_nil, Builtin.max2, bind_pure, mx2, gt_iff_lt]
  congr 2
  simp only [Int.max_def]
  split <;> split <;> omega
/-- The least of two. -/
def mn2 (a b : Int) : Int := min a b
theorem min_ints2 (ats : Array TypeId) (ty : TypeId) (k1 k2 : IntKind) (a b : Int) : Builtin.min_ ats ty #[.int k1 a, .int k2 b] = pure (.int k1 (mn2 a b)) := by
  simp only [Builtin.min_, List.foldlM_cons, List.foldlM_nil, Builtin.min2, bind_pure, mn2]
  congr 2
  simp only [Int.min_def]
  split <;> split <;> omega
/-- Block g alone has been written (and orders drawn). -/
structure Only (w w' : World) (g : Nat) : Prop where
  os : w'.os = w.os
  tape : w'.tape = w.tape
  output : w'.output = w.output
  size : w'.heap.size = w.heap.size
  block : ∀ i, i ≠ g → w'.heap[i]? = w.heap[i]?
theorem Only.refl (w : World) (g : Nat) : Only w w g := ⟨rfl, rfl, rfl, rfl, fun _ _ => rfl⟩
theorem Only.trans {w w1 w2 : World} {g : Nat} (h : Only w w1 g) (k : Only w1 w2 g) : Only w w2 g :=
  ⟨k.os.trans h.os, k.tape.trans h.tape, k.output.trans h.output, k.size.trans h.size, fun i hi => (k.block i hi).trans (h.block i hi)⟩
theorem Only.drew {w w1 : World} {g : Nat} (h : Only w w1 g) : Only w w1.drew g := ⟨h.os, h.tape, h.output, h.size, h.block⟩
theorem Only.drewN {w w1 : World} {g : Nat} (h : Only w w1 g) (n : Nat) : Only w (w1.drewN n) g := ⟨h.os, h.tape, h.output, h.size, h.block⟩
theorem Only.setCell {w w1 : World} {g : Nat} (h : Only w w1 g) (j : Nat) (u : Value) : Only w (w1.setCell ⟨g, j, none⟩ u) g := by
  have hb : Below 0 w1 (w1.setCell ⟨g, j, none⟩ u) := (Below.refl 0 w1).setCell (Nat.zero_le _) u
  exact ⟨hb.os.trans h.os, hb.tape.trans h.tape, hb.output.trans h.output, (World.size_setCell _ _ _).trans h.size, fun i hi => (Below.heap_setCell w1 ⟨g, j, none⟩ u i hi).trans (h.block i hi)⟩
theorem Only.below {w0 w w' : World} {g B : Nat} (h : Only w w' g) (hb : Below B w0 w) (hg : B ≤ g) : Below B w0 w' :=
  ⟨h.os.trans hb.os, h.tape.trans hb.tape, h.output.trans hb.output, by rw [h.size]; exact hb.size, fun i hi => (h.block i (by omega)).trans (hb.block i hi)⟩
/-- A row of scalars, its own block alone named. -/
theorem own_alone {k : IntKind} {e : Nat} {w : World} {base : Nat} {ok : Nat → Prop} {v : Value} {xs : List Int} (h : Kd.R (Kd.int k) e w base ok v xs) : Kd.R (Kd.int k) e w base (fun i => v.ownBlock = some i) v xs := Kd.R_of_own (Kd.own_of_R h) (fun _ hk => hk)
/-- A block lives on where a call has written no more than a row of its own. -/
theorem kept_blk {α : Type} {d : Kd α} (e t : Nat) {B : Nat} {ok : Nat → Prop} {W W1 : World} {v : Value} {xs : List α} {g : Nat} {cs : Array Value} (hne : e ≠ t) (HO : Kd.R d e W B ok v xs) (BK : W.heap[g]? = some (.cells cs t (0, 0))) (hk : Kept W W1 (fun i => v.ownBlock = some i)) :
    W1.heap[g]? = some (.cells cs t (0, 0)) := (hk.2 g (blk_lt BK) (fun he => Kd.R_ne HO BK hne he.symm)).trans BK
section
variable {P : Program} {ops : Array Oper} {rest : List Oper} {o : Oper} {a : Act} {Q : Exit → Act → World → Prop}
theorem run_append_str {w0 W : World} (base : Nat) (t u e ty : TypeId) (ht : P.underlying t = some (.slice e)) (hu : P.underlying u = some .string) (hinfo : (P.info? e).map (fun i => (i.zero, i.size, i.bytes)) = some (some (.int .u8 0), 1, 1))
    (v : Value) (xs : List Int) (y : ByteArray) {ok : Nat → Prop} (HO : Kd.R (Kd.int .u8) e W base ok v xs) (HB : Below base w0 W) (hbase : base ≤ W.heap.size) (hl : xs.length + y.size ≤ 140737488355328) :
    ∃ v1 w1, (Builtin.append_ #[t, u] ty #[v, .string y]).run P W = .ok v1 w1 ∧ Kd.R (Kd.int .u8) e w1 base (fun _ => True) v1 (xs ++ bytesOf y) ∧ Below base w0 w1 ∧ W.grownBy w1 v.ownBlock := by
  obtain ⟨i0, hi, hzz⟩ := Option.map_eq_some_iff.1 hinfo
  simp only [Prod.mk.injEq] at hzz
  obtain ⟨hz0, hz1, hz2⟩ := hzz
  have ho := Kd.own_of_R HO
  obtain ⟨v1, w1, hr, h2, h3, h4⟩ := Lib.run_append_own_string (P := P) W base t u ty e i0 ht hu hi hz0 hz1 hz2 v xs.length _ ho y (by simp only [maxLen]; omega) hl hbase
  refine ⟨v1, w1, hr, Kd.R_of_own ?_ (fun _ _ => trivial), HB.grown h3 hbase (own_base ho), h3⟩
  have hl2 : (xs ++ bytesOf y).length = xs.length + y.size := by rw [List.length_append, bytesOf_length]
  have hc : encs (Value.int .u8) (xs ++ bytesOf y) = encs (Value.int .u8) xs ++ Lib.strCells y := by
    simp [encs, bytesOf, Lib.strCells]
  rw [hl2, hc]; exact h2
theorem R_append_str {w0 W : World} (base : Nat) (hgd : o.guard = none) (s x : Operand) (t u e : TypeId)
    (ho : o.op = .call { callee := .builtin .append, args := #[s, x], argTypes := #[t, u] })
    (ht : P.underlying t = some (.slice e)) (hu : P.underlying u = some .string) (hinfo : (P.info? e).map (fun i => (i.zero, i.size, i.bytes)) = some (some (.int .u8 0), 1, 1))
    (v : Value) (xs : List Int) (y : ByteArray) {ok : Nat → Prop} (hs : a.eval s = v) (hx : a.eval x = .string y)
    (HO : Kd.R (Kd.int .u8) e W base ok v xs) (HB : Below base w0 W) (hbase : base ≤ W.heap.size) (hl : xs.length + y.size ≤ 140737488355328)
    (h : ∀ v1 w1, Kd.R (Kd.int .u8) e w1 base (fun _ => True) v1 (xs ++ bytesOf y) → Below base w0 w1 → W.grownBy w1 v.ownBlock → wpList P ops Q rest (a.put o.dst v1) w1) :
    wpList P ops Q (o :: rest) a W := by
  refine wpList_plain hgd fun K hK => ?_
  obtain ⟨v1, w1, hr, h2, h3, h4⟩ := run_append_str (P := P) base t u e o.type ht hu hinfo v xs y HO HB hbase hl
  unfold Oper.wp execOp
  simp only [ho, resolve, invoke, builtin, Sem.run_bind, Sem.run_pure, Result.andThen_ok, List.map_toArray, List.map_cons, List.map_nil, hs, hx, hr]
  exact hK _ _ (h v1 w1 h2 h3 h4)
theorem R_append_str_step {Kc : Act → World → Prop} {w0 W : World} (base : Nat) (hw : Region.wanted o (yielded ops a.tmps) = true) (s x : Operand) (t u e : TypeId)
    (ho : o.op = .call { callee := .builtin .append, args := #[s, x], argTypes := #[t, u] })
    (ht : P.underlying t = some (.slice e)) (hu : P.underlying u = some .string) (hinfo : (P.info? e).map (fun i => (i.zero, i.size, i.bytes)) = some (some (.int .u8 0), 1, 1))
    (v : Value) (xs : List Int) (y : ByteArray) {ok : Nat → Prop} (hs : a.eval s = v) (hx : a.eval x = .string y)
    (HO : Kd.R (Kd.int .u8) e W base ok v xs) (HB : Below base w0 W) (hbase : base ≤ W.heap.size) (hl : xs.length + y.size ≤ 140737488355328)
    (h : ∀ v1 w1, Kd.R (Kd.int .u8) e w1 base (fun _ => True) v1 (xs ++ bytesOf y) → Below base w0 w1 → W.grownBy w1 v.ownBlock → Kc (a.put o.dst v1) w1) :
    if Region.wanted o (yielded ops a.tmps) = true then Oper.wp P o a W Kc Q else Kc (a.put o.dst undef) W := by
  rw [if_pos hw]
  obtain ⟨v1, w1, hr, h2, h3, h4⟩ := run_append_str (P := P) base t u e o.type ht hu hinfo v xs y HO HB hbase hl
  unfold Oper.wp execOp
  simp only [ho, resolve, invoke, builtin, Sem.run_bind, Sem.run_pure, Result.andThen_ok, List.map_toArray, List.map_cons, List.map_nil, hs, hx, hr]
  exact h v1 w1 h2 h3 h4
end
/-- 'copy' of a row that is read, into the head of a row of the call's own. -/
theorem R_copy {P : Program} {ops : Array Oper} {o : Oper} {rest : List Oper} {a : Act} {Q : Exit → Act → World → Prop} {w0 W : World} (base : Nat) (hgd : o.guard = none) (d s : Operand) (dT sT e : TypeId) (k : IntKind)
    (ho : o.op = .call { callee := .builtin .copy, args := #[d, s], argTypes := #[dT, sT] }) (hu : P.underlying dT = some (.slice e)) (hsz : (P.info? e).map (·.size) = some 1)
    (v : Value) (zs xs : List Int) (A : Option Addr) (c : Nat) (hd : a.eval d = v) (hs : a.eval s = .slice A xs.length c) {ok : Nat → Prop}
    (HO : Kd.R (Kd.int k) e W base ok v zs) (HC : Kd.C (Kd.int k) W A xs.length xs) (hl : xs.length ≤ zs.length) (HB : Below base w0 W)
    (h : ∀ w1, Kd.R (Kd.int k) e w1 base ok v (xs ++ zs.drop xs.length) → Below base w0 w1 → W.grownBy w1 v.ownBlock → wpList P ops Q rest (a.put o.dst (goInt xs.length)) w1) :
    wpList P ops Q (o :: rest) a W := by
  have hown := Kd.own_of_R HO
  have hok : ∀ j, v.ownBlock = some j → ok j := HO.1
  have hself : W.grownBy W v.ownBlock := ⟨rfl, rfl, rfl, Nat.le_refl _, fun _ _ _ => rfl⟩
  by_cases h0 : xs.length = 0
  · obtain rfl := List.eq_nil_of_length_eq_zero h0
    obtain ⟨A1, c1, rfl, hc1, hC1⟩ := Kd.R_reads HO
    refine wpList_copy_nothing hgd d s dT sT ho e hu hsz A1 A zs.length c1 0 c hd hs (by simp) ?_
    exact h W (by simpa using HO) HB hself
  · obtain ⟨hlen, hh⟩ := hown
    rcases hh with ⟨_, hz⟩ | ⟨g, cap, cur, rfl, hb, hg, hc1, hc2, hc3, hc4⟩
    · omega
    · obtain ⟨_, _, hrd⟩ := Kd.reads_of_C (d := (0 : Int)) HC
      obtain ⟨ad, rfl, hcell⟩ := hrd (by omega)
      rw [Nat.mul_one] at hc3 hc4
      have hcl : (encs (Value.int k) xs).length = xs.length := encs_length xs
      have hcur : xs.length ≤ cur.size := by omega
      refine wpList_copy_own hgd d s dT sT ho e hu hsz g 0 zs.length cap ad xs.length c hd hs cur e hg (encs (Value.int k) xs) ?_ ?_ ?_ ?_ ?_
      · rw [hcl]; exact (Nat.min_eq_left hl).symm
      · intro j v hj
        have hjl : j < xs.length := by
          rcases Nat.lt_or_ge j xs.length with h | h
          · exact h
          · rw [List.getElem?_eq_none (by omega)] at hj; cases hj
        rw [encs_get (d := (0 : Int)) xs j hjl] at hj
        injection hj with hj
        rw [← hj]; exact hcell j hjl
      · omega
      · intro v hv
        simp only [encs, List.mem_map] at hv
        obtain ⟨x, _, rfl⟩ := hv
        rfl
      · rw [hcl, List.take_zero, List.nil_append, Nat.zero_add]
        have hnew := setRow_heap W g cur (encs (Value.int k) xs ++ cur.toList.drop xs.length).toArray e (0, 0) hg
        refine h _ (Kd.R_of_own ⟨?_, .inr ⟨g, cap, _, ?_, hb, hnew, ?_, hc2, ?_, ?_⟩⟩ hok) (below_setRow HB hb _) ⟨rfl, rfl, rfl, by simp [World.setRow], fun j hj hne => setRow_other W g j _ (fun e => hne (by rw [e]; rfl))⟩
        · rw [encs_length, Nat.mul_one]
        · have : (xs ++ zs.drop xs.length).length = zs.length := by simp; omega
          rw [this]
        · simp; omega
        · simp [hcl]; omega
        · have e1 : (xs ++ zs.drop xs.length).length = zs.length := by simp; omega
          rw [e1, Nat.mul_one]
          have e2 : cur.toList = encs (Value.int k) zs ++ cur.toList.drop zs.length := by rw [← hc4, List.take_append_drop]
          show List.take zs.length (encs (Value.int k) xs ++ cur.toList.drop xs.length) = _
          rw [encs_append, List.take_append, hcl, List.take_of_length_le (by omega)]
          congr 1
          rw [e2, List.drop_append_of_le_length (by rw [encs_length]; exact hl), List.take_append]
          have e3 : (List.drop xs.length (encs (Value.int k) zs)).length = zs.length - xs.length := by rw [List.length_drop, encs_length]
          rw [e3, Nat.sub_self, List.take_zero, List.append_nil, List.take_of_length_le (by omega)]
          simp [encs, List.map_drop]
/-- how many blocks there are behind a row, u being there ahead of it -/
def usedF (u : Int) (a : List Int) : Int := a.foldl (fun u x => max u (x + 1)) u
def legalF (u : Int) : List Int → Bool
  | [] => true
  | x :: r => decide (0 ≤ x ∧ x ≤ u) && legalF (max u (x + 1)) r
end Go.Proofs.YtbcdlfodgoiodaaDoorW.Mine
