/- wire.Check; for wire.Feed. -/
import Derived.Test.YthgmgmbjjjnhnaaGreatDoorWiF
import Derived.Test.YthgmgmbjjjnhnaaGreatDoorGf
namespace Go.Proofs.YthgmgmbjjjnhnaaGreatDoor
open Go.RowKit

def wiM (s : List UInt8) : Bool := match wiO s with | .more => true | _ => false
theorem wiM_iff {s : List UInt8} : wiM s = true ↔ wiO s = .more := by
  unfold wiM
  cases wiO s <;> simp
theorem oneV_formM (s : List UInt8) : ∃ (a : Cm) (n : Int), oneV s = .tuple #[cmV a, .int .i64 n, .bool (wiM s)] := by
  unfold oneV wiM
  cases wiO s with
  | more => exact ⟨(0, [], [], false), 0, rfl⟩
  | bad st => exact ⟨(st, [], [], false), s.length, rfl⟩
  | done h b k n => exact ⟨(200, h, b, k), n, rfl⟩
def wiCk (b : List UInt8) (off : Bool) : Int := if (off && decide (b = []) || !off && wiM b) = true then 0 else 8
/-- A wire, in two cells of its own. -/
structure WrAt (L : Nat) (a b : Value) (w : World) : Prop where
  lt : L < w.heap.size
  c0 : w.cell? ⟨L, 0, none⟩ = some a
  c1 : w.cell? ⟨L, 1, none⟩ = some b
  f0 : w.frozen? ⟨L, 0, none⟩ = false
  f1 : w.frozen? ⟨L, 1, none⟩ = false
theorem WrAt.ret2 {L B : Nat} {a b : Value} {w w' : World} (h : WrAt L a b w) (hL : L < B) (hb : Below B w w') : WrAt L a b w' := by
  obtain ⟨h0, h1, h2, h3, h4⟩ := h
  exact ⟨Nat.lt_of_lt_of_le h0 hb.size, (hb.cell (p := ⟨L, 0, none⟩) hL).trans h1, (hb.cell (p := ⟨L, 1, none⟩) hL).trans h2, (hb.frozen (p := ⟨L, 0, none⟩) hL).trans h3, (hb.frozen (p := ⟨L, 1, none⟩) hL).trans h4⟩
theorem WrAt.ret' {L : Nat} {a b : Value} {w w' : World} (h : WrAt L a b w) (hb : Below w.heap.size w w') : WrAt L a b w' := h.ret2 h.lt hb
theorem WrAt.new (w : World) (a b : Value) : WrAt w.heap.size a b (w.alloc (.cells #[a, b] 44)) := by constructor <;> simp
set_option maxHeartbeats 4000000 in
set_option maxRecDepth 100000 in
theorem wi_Check (X : ByteArray) (off : Bool) (w : World) (hs : X.size ≤ 1000000) (hm : ML w) : Calls Tryz.prog 20 #[.agg #[.string X, .bool off]] w (Ret w (.int .i64 (wiCk X.data.toList off))) := by
  have q0 := (Below.refl w.heap.size w).alloc (Nat.le_refl _) (.cells #[.string X, .bool off] 44)
  have A0 := Lib.hid (WrAt.new w (.string X) (.bool off))
  obtain ⟨m, m0, m1, m2, m3⟩ := A0.out
  have O0 := wi_One X _ hs (hm.ret q0)
  obtain ⟨⟨a1, a2, a3, a4⟩, n, hv⟩ := oneV_formM X.data.toList
  rw [hv] at O0
  simp only [cmV] at O0
  obtain ⟨mo, hmo⟩ : ∃ b, wiM X.data.toList = b := ⟨_, rfl⟩
  unfold wiCk
  rw [hmo] at O0 ⊢
  have OH := Lib.hid O0
  clear O0 hv hmo hm
  by_cases hX : X.size = 0
  · obtain rfl : X = ⟨#[]⟩ := str_ext (List.eq_nil_of_length_eq_zero (by rw [size_toList]; exact hX))
    cases off <;> cases mo
    all_goals
      go_enter Tryz.func20, Tryz.ntmps20
      go_wp2_with fail
      refine OH.out.mono ?_
      rintro e w1 ⟨rfl, hb⟩
      have q1 := q0.trans (hb.mono q0.size)
      obtain ⟨y, y0, y1, y2, y3⟩ := A0.out.ret' hb
      have hlt := y
      clear hb
      go_wp2_with fail
      go_ret
      exact ⟨rfl, q1.alloc q1.size _⟩
  · have e1 := isEmpty_of_pos (s := X) (by omega)
    have e2 := ne_nil_of_pos (s := X) (by omega)
    have hne : X.data.toList ≠ [] := fun h => hX (by rw [← size_toList, h]; rfl)
    rw [decide_eq_false hne]
    cases off <;> cases mo
    all_goals
      go_enter Tryz.func20, Tryz.ntmps20
      go_wp2_with fail
      refine OH.out.mono ?_
      rintro e w1 ⟨rfl, hb⟩
      have q1 := q0.trans (hb.mono q0.size)
      obtain ⟨y, y0, y1, y2, y3⟩ := A0.out.ret' hb
      have hlt := y
      clear hb
      go_wp2_with fail
      go_ret
      exact ⟨rfl, q1.alloc q1.size _⟩
/-! ### Feed -/
def cmsV (l : List Cm) : List Value := l.flatMap fun c => [.int .i64 c.1, .string ⟨c.2.1.toArray⟩, .string ⟨c.2.2.1.toArray⟩, .bool c.2.2.2]
theorem cmsV_len (l : List Cm) : (cmsV l).length = l.length * 4 := by
  induction l with
  | nil => rfl
  | cons c l ih =>
    unfold cmsV at ih ⊢
    rw [List.flatMap_cons, List.length_append, ih, List.length_cons]
    simp
    omega
theorem cmsV_snoc (l : List Cm) (c : Cm) : cmsV (l ++ [c]) = cmsV l ++ [.int .i64 c.1, .string ⟨c.2.1.toArray⟩, .string ⟨c.2.2.1.toArray⟩, .bool c.2.2.2] := by simp [cmsV]
/-- A slice of what came. -/
def IsCames (v : Value) (l : List Cm) (w : World) : Prop := IsRow 4 v l.length (cmsV l) w
/-- What Feed answers. -/
def fdT (X : List UInt8) (off : Bool) (D : List UInt8) : (List UInt8 × Bool) × List Cm × Int :=
  if wiCk X off ≠ 0 then (([], false), [], wiCk X off)
  else if 16384 < D.length then (([], false), [], 4)
  else if off = true then ((X, true), [], 0)
  else match (wiR (X ++ D)).2 with
    | none => (([], true), (wiR (X ++ D)).1, 0)
    | some t => ((t, false), (wiR (X ++ D)).1, 0)
def FdIs (x : (List UInt8 × Bool) × List Cm × Int) (w : World) (e : Ending) (w' : World) : Prop :=
  ∃ v, e = .returned (.tuple #[.agg #[.string ⟨x.1.1.toArray⟩, .bool x.1.2], v, .int .i64 x.2.2]) ∧ IsCames v x.2.1 w' ∧ Below w.heap.size w w'
/-- What Feed's rounds keep. -/
structure FdS (b B : Nat) (w : World) (v : Value) (cs : List Cm) (X : ByteArray) (f : Bool) (W : World) : Prop where
  out : W.heap[b + 1]? = some (.cells #[.string X, .bool f] 44 (0, 0))
  box : Boxed W (b + 2) 45 v
  row : W.ownsRow (B + 1) 40 4 v cs.length (cmsV cs)
  err : Boxed W (b + 3) 24 (.int .i64 0)
  bel : Below b w W
  lt : B < W.heap.size
  le : b + 4 ≤ B
theorem FdS.keep {b B D : Nat} {w : World} {v : Value} {cs : List Cm} {X : ByteArray} {f : Bool} {W W' : World} {row : Option Nat} (h : FdS b B w v cs X f W) (hw : b = w.heap.size) (hD : b ≤ D) (hg : W.grownBy W' row)
    (hrow : ∀ r, row = some r → r = B ∨ (D ≤ r ∧ ∃ o : Obj, W.heap[r]? = some o ∧ o.isCells = false)) : FdS b B w v cs X f W' := by
  obtain ⟨ho, hb, hr, he, hB, hl, hbB⟩ := h
  have key : ∀ k (o : Obj), W.heap[k]? = some o → o.isCells = true → k ≠ B → some k ≠ row := by
    intro k o hk hc hne e
    rcases hrow k e.symm with h1 | ⟨_, o', h2, h3⟩
    · exact hne h1
    · rw [hk] at h2
      cases h2
      rw [hc] at h3
      cases h3
  have hs := hB.size
  refine ⟨(hg.block _ (by omega) (key _ _ ho rfl (by omega))).trans ho, hb.kept hg (key _ _ hb rfl (by omega)), hr.kept hg ?_, he.kept hg (key _ _ he rfl (by omega)), hB.grown hg (by omega) ?_, Nat.lt_of_lt_of_le hl hg.size, hbB⟩
  · rcases hr.2 with ⟨rfl, _⟩ | ⟨g, cap, cur, rfl, hgl, hgb, _⟩
    · exact .inl rfl
    · refine .inr fun e => ?_
      exact key g _ hgb rfl (by omega) e
  · intro k hk
    rcases hrow k hk with h1 | ⟨h1, _⟩ <;> omega
def FdI (b B : Nat) (s : List UInt8) (w : World) (pre : List It) (W : World) : Prop :=
  ∃ v X, FdS b B w v (pre.map (·.1)) X false W ∧ X.data.toList = restAt s pre ∧ ∀ y ∈ pre, goes y = true
def FdX (b B : Nat) (w : World) (c : Code) (pre : List It) (W : World) : Prop :=
  c = .ret ∧ ∃ v, FdS b B w v (pre.map (·.1)) ⟨#[]⟩ true W ∧ ∃ p x, pre = p ++ [x] ∧ goes x = false ∧ ∀ y ∈ p, goes y = true
theorem fdI_own {b B D : Nat} {s : List UInt8} {w : World} (hw : b = w.heap.size) (hD : b ≤ D) : OwnV B D (FdI b B s w) := by
  rintro pre W W' row ⟨v, X, hS, h1, h2⟩ hg hrow
  exact ⟨v, X, hS.keep hw hD hg hrow, h1, h2⟩
theorem fdX_own {b B D : Nat} {w : World} (hw : b = w.heap.size) (hD : b ≤ D) (c : Code) : OwnV B D (FdX b B w c) := by
  rintro pre W W' row ⟨hc, v, hS, h2⟩ hg hrow
  exact ⟨hc, v, hS.keep hw hD hg hrow, h2⟩
end Go.Proofs.YthgmgmbjjjnhnaaGreatDoor
