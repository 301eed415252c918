/- Slices of structs that read as lists: a row of cells, some to an element. -/
import Derived.Test.YtnfgpcccmbblcaaDoorVals
namespace Go.Proofs.YtnfgpcccmbblcaaDoor
open Go.RowKit

/-- A slice of n elements of 'size' cells each, whose cells are cs. -/
def IsRow (size : Nat) (v : Value) (n : Nat) (cs : List Value) (w : World) : Prop :=
  cs.length = n * size ∧ ∃ a cap, v = .slice a n cap ∧ (a = none → cap = 0) ∧ (n = 0 ∨ ∃ b off, a = some ⟨b, off, none⟩ ∧ VAt b off cs w)
theorem IsRow.ret {size n : Nat} {v : Value} {cs : List Value} {w w' : World} (h : IsRow size v n cs w) (hb : Below w.heap.size w w') : IsRow size v n cs w' := by
  obtain ⟨hl, a, cap, h1, h0, h2⟩ := h
  refine ⟨hl, a, cap, h1, h0, ?_⟩
  rcases h2 with h2 | ⟨b, off, h2, h3⟩
  · exact .inl h2
  · exact .inr ⟨b, off, h2, h3.ret hb⟩
theorem IsRow.nil (size : Nat) (w : World) : IsRow size (.slice none 0 0) 0 [] w := ⟨by simp, none, 0, rfl, fun _ => rfl, .inl rfl⟩
theorem IsRow.of_vals {v : Value} {vs : List Value} {w : World} (h : IsVals v vs w) : IsRow 1 v vs.length vs w := by
  obtain ⟨a, cap, h1, h0, h2⟩ := h
  refine ⟨by simp, a, cap, h1, h0, ?_⟩
  rcases h2 with rfl | h2
  · exact .inl rfl
  · exact .inr h2
theorem IsRow.vals {v : Value} {n : Nat} {vs : List Value} {w : World} (h : IsRow 1 v n vs w) : IsVals v vs w := by
  obtain ⟨hl, a, cap, h1, h0, h2⟩ := h
  obtain rfl : n = vs.length := by omega
  refine ⟨a, cap, h1, h0, ?_⟩
  rcases h2 with h2 | h2
  · exact .inl (List.eq_nil_of_length_eq_zero h2)
  · exact .inr h2
/-- A row of the call's own. -/
theorem own_row {w : World} {B n size : Nat} {e : TypeId} {v : Value} {cs : List Value} (h : w.ownsRow B e size v n cs) : IsRow size v n cs w := by
  refine ⟨h.1, ?_⟩
  rcases h.2 with ⟨rfl, h0⟩ | ⟨g, cap, cur, rfl, hg1, hg2, hg3⟩
  · exact ⟨none, 0, by rw [h0], fun _ => rfl, .inl h0⟩
  · refine ⟨some ⟨g, 0, none⟩, cap, rfl, (fun h => by cases h), .inr ⟨g, 0, rfl, ?_, fun j hj => ?_⟩⟩
    · rcases Nat.lt_or_ge g w.heap.size with h' | h'
      · exact h'
      · simp [Array.getElem?_eq_none h'] at hg2
    · have := h.cells (g := g) rfl j cs[j] (List.getElem?_eq_getElem hj)
      rw [add_zero_plain] at this
      rw [Nat.zero_add, this]
section
variable {P : Program}
/-- 'append(v, x...)' onto a row of the call's own, whatever row x is. -/
theorem run_app_row (w : World) (base : Nat) (t ty e : TypeId) (i : TypeInfo) (z : Value) (size bytes : Nat) (ht : P.underlying t = some (.slice e)) (hi : P.info? e = some i) (hz : i.zero = some z)
    (hsize : i.size = size) (hby : i.bytes = bytes) (hzs : z.cells.size = size) (hsz : 0 < size)
    (v : Value) (n : Nat) (xs : List Value) (hown : w.ownsRow base e size v n xs) (x : Value) (m : Nat) (ys : List Value) (hx : IsRow size x m ys w) (h1 : ∀ u ∈ ys, u.oneCell' = true)
    (h63 : n + m ≤ 9223372036854775807) (hbytes : (n + m) * bytes ≤ 140737488355328) (hbase : base ≤ w.heap.size) :
    ∃ v' w', (Builtin.append_ #[t, t] ty #[v, x]).run P w = .ok v' w' ∧ w'.ownsRow base e size v' (n + m) (xs ++ ys) ∧ w.grownBy w' v.ownBlock := by
  obtain ⟨hl, a, cap, rfl, h0, hc⟩ := hx
  have h64 : n + m ≤ maxLen := by unfold maxLen; exact h63
  cases a with
  | none =>
    obtain rfl : m = 0 := by
      rcases hc with h | ⟨b, off, h, _⟩
      · exact h
      · cases h
    obtain rfl : ys = [] := List.eq_nil_of_length_eq_zero (by simpa using hl)
    refine ⟨v, w, ?_, by simpa using hown, World.grownBy.refl w _⟩
    rcases hown.2 with ⟨rfl, rfl⟩ | ⟨g, cap', cur, rfl, _, _, hnc, _⟩
    · simp [Builtin.append_, run_underlying ht, sizeOf, typeInfo, hi, Builtin.lenOf, Builtin.firstCells]
    · simp [Builtin.append_, run_underlying ht, sizeOf, typeInfo, hi, Builtin.lenOf, Builtin.firstCells, hnc, storeCells]
  | some ad =>
    have hcells : ∀ j u, ys[j]? = some u → w.cell? (ad.add j) = some u := by
      intro j u hj
      rcases hc with rfl | ⟨b, off, h, hv⟩
      · obtain rfl : ys = [] := List.eq_nil_of_length_eq_zero (by simpa using hl)
        simp at hj
      · cases h
        exact hv.cells j u hj
    obtain ⟨v', w', h2, h3, h4, _⟩ := run_append_own (P := P) w base t ty e i z size bytes ht hi hz hsize hby hzs hsz v n xs hown ad m cap ys hl hcells h1 h64 hbytes hbase
    exact ⟨v', w', h2, h3, h4⟩
theorem wp_app_row {w : World} {o : Oper} {a : Act} {K : Act → World → Prop} {Q : Exit → Act → World → Prop} (s x : Operand) (t : TypeId)
    (ho : o.op = .call { callee := .builtin .append, args := #[s, x], argTypes := #[t, t] })
    (base : Nat) (e : TypeId) (i : TypeInfo) (z : Value) (size bytes : Nat) (ht : P.underlying t = some (.slice e)) (hi : P.info? e = some i) (hz : i.zero = some z)
    (hsize : i.size = size) (hby : i.bytes = bytes) (hzs : z.cells.size = size) (hsz : 0 < size)
    (v : Value) (n : Nat) (xs : List Value) (hs : a.eval s = v) (hown : w.ownsRow base e size v n xs) (y : Value) (hx : a.eval x = y) (m : Nat) (ys : List Value) (hr : IsRow size y m ys w) (h1 : ∀ u ∈ ys, u.oneCell' = true)
    (h63 : n + m ≤ 9223372036854775807) (hbytes : (n + m) * bytes ≤ 140737488355328) (hbase : base ≤ w.heap.size)
    (h : ∀ v' w', w'.ownsRow base e size v' (n + m) (xs ++ ys) → w.grownBy w' v.ownBlock → K (a.put o.dst v') w') : o.wp P a w K Q := by
  obtain ⟨v', w', hrun, h2, h3⟩ := run_app_row (P := P) w base t o.type e i z size bytes ht hi hz hsize hby hzs hsz v n xs hown y m ys hr h1 h63 hbytes hbase
  unfold Oper.wp execOp
  simp only [ho, resolve, invoke, builtin, Sem.run_bind, Sem.run_pure, Result.andThen_ok, List.map_toArray, List.map_cons, List.map_nil, hs, hx, hrun]
  exact h v' w' h2 h3
theorem wpList_app_row {w : World} {ops : Array Oper} {rest : List Oper} {o : Oper} {a : Act} {Q : Exit → Act → World → Prop} (hgd : o.guard = none) (s x : Operand) (t : TypeId)
    (ho : o.op = .call { callee := .builtin .append, args := #[s, x], argTypes := #[t, t] })
    (base : Nat) (e : TypeId) (i : TypeInfo) (z : Value) (size bytes : Nat) (ht : P.underlying t = some (.slice e)) (hi : P.info? e = some i) (hz : i.zero = some z)
    (hsize : i.size = size) (hby : i.bytes = bytes) (hzs : z.cells.size = size) (hsz : 0 < size)
    (v : Value) (n : Nat) (xs : List Value) (hs : a.eval s = v) (hown : w.ownsRow base e size v n xs) (y : Value) (hx : a.eval x = y) (m : Nat) (ys : List Value) (hr : IsRow size y m ys w) (h1 : ∀ u ∈ ys, u.oneCell' = true)
    (h63 : n + m ≤ 9223372036854775807) (hbytes : (n + m) * bytes ≤ 140737488355328) (hbase : base ≤ w.heap.size)
    (h : ∀ v' w', w'.ownsRow base e size v' (n + m) (xs ++ ys) → w.grownBy w' v.ownBlock → wpList P ops Q rest (a.put o.dst v') w') : wpList P ops Q (o :: rest) a w :=
  wpList_plain hgd fun _ hK => wp_app_row s x t ho base e i z size bytes ht hi hz hsize hby hzs hsz v n xs hs hown y hx m ys hr h1 h63 hbytes hbase fun v' w' h2 h3 => hK _ _ (h v' w' h2 h3)
/-- .. at a step that a slot guards, the slot being true. -/
theorem wpList_app_row_at {w : World} {ops : Array Oper} {rest : List Oper} {o : Oper} {a : Act} {Q : Exit → Act → World → Prop} (hgd : Region.wanted o (yielded ops a.tmps) = true) (s x : Operand) (t : TypeId)
    (ho : o.op = .call { callee := .builtin .append, args := #[s, x], argTypes := #[t, t] })
    (base : Nat) (e : TypeId) (i : TypeInfo) (z : Value) (size bytes : Nat) (ht : P.underlying t = some (.slice e)) (hi : P.info? e = some i) (hz : i.zero = some z)
    (hsize : i.size = size) (hby : i.bytes = bytes) (hzs : z.cells.size = size) (hsz : 0 < size)
    (v : Value) (n : Nat) (xs : List Value) (hs : a.eval s = v) (hown : w.ownsRow base e size v n xs) (y : Value) (hx : a.eval x = y) (m : Nat) (ys : List Value) (hr : IsRow size y m ys w) (h1 : ∀ u ∈ ys, u.oneCell' = true)
    (h63 : n + m ≤ 9223372036854775807) (hbytes : (n + m) * bytes ≤ 140737488355328) (hbase : base ≤ w.heap.size)
    (h : ∀ v' w', w'.ownsRow base e size v' (n + m) (xs ++ ys) → w.grownBy w' v.ownBlock → wpList P ops Q rest (a.put o.dst v') w') : wpList P ops Q (o :: rest) a w := by
  simp only [wpList]
  rw [if_pos hgd]
  exact .inl (wp_app_row s x t ho base e i z size bytes ht hi hz hsize hby hzs hsz v n xs hs hown y hx m ys hr h1 h63 hbytes hbase h)
end
end Go.Proofs.YtnfgpcccmbblcaaDoor
