/- For head.Parse: a range over lines' iterator that collects into the result's own box, or leaves by a goto. -/
import Derived.Test.YtnfgpcccmbblcaaDoorHdD
import Derived.Test.YtnfgpcccmbblcaaDoorHdE
import Derived.Test.YtnfgpcccmbblcaaDoorAsUa
import Derived.Laws.ResultCell
import Derived.Deep.Onto
import Derived.WalkMore
import Derived.ScopeJumps
import Derived.OrdersIn
import Derived.RegionIn
namespace Go.Proofs.YtnfgpcccmbblcaaDoor
open Go.RowKit

attribute [local go_sem] Oper.semAt_some

/-- What Parse's rounds keep. -/
def HdI (R B : Nat) (w : World) (pre : List (List UInt8 × Bool)) (W : World) : Prop :=
  (∃ v fs, flds pre = some fs ∧ Boxed W R 22 v ∧ W.ownsRow (B + 1) 52 2 v fs.length (prV fs)) ∧ Below R w W ∧ B < W.heap.size
/-- .. and how they are left. -/
def HdX (R : Nat) (w : World) (c : Code) (pre : List (List UInt8 × Bool)) (W : World) : Prop :=
  c = .goto 0 ∧ flds pre = none ∧ (∃ v, Boxed W R 22 v) ∧ Below R w W
theorem hdI_own {R B D : Nat} {w : World} (hR : R = w.heap.size) (hB : B = R + 1) (hD : R ≤ D) : OwnV B D (HdI R B w) := by
  rintro s W W' row ⟨⟨v, fs, hf, hv, hr⟩, hb, hl⟩ hg hrow
  refine ⟨⟨v, fs, hf, hv.kept hg ?_, hr.kept hg ?_⟩, hb.grown hg ?_ ?_, Nat.lt_of_lt_of_le hl hg.size⟩
  · intro e
    rcases hrow R e.symm with h | ⟨_, o, ho, hc⟩
    · omega
    · rw [show W.heap[R]? = _ from hv] at ho
      cases ho
      cases hc
  · rcases hr.2 with ⟨rfl, _⟩ | ⟨g, cap, cur, rfl, hgl, hgb, _⟩
    · exact .inl rfl
    · refine .inr fun e => ?_
      have e' : row = some g := e.symm
      rcases hrow g e' with h | ⟨_, o, ho, hc⟩
      · omega
      · rw [hgb] at ho
        cases ho
        cases hc
  · have := hb.size
    omega
  · intro k hk
    rcases hrow k hk with h | ⟨h, _⟩
    · omega
    · omega
theorem hdX_own {R B D : Nat} {w : World} (hR : R = w.heap.size) (hB : B = R + 1) (hD : R ≤ D) (c : Code) : OwnV B D (HdX R w c) := by
  rintro s W W' row ⟨hc0, hf, ⟨v, hv⟩, hb⟩ hg hrow
  refine ⟨hc0, hf, ⟨v, hv.kept hg ?_⟩, hb.grown hg ?_ ?_⟩
  · intro e
    rcases hrow R e.symm with h | ⟨_, o, ho, hc⟩
    · omega
    · rw [show W.heap[R]? = _ from hv] at ho
      cases ho
      cases hc
  · have := hb.size
    omega
  · intro k hk
    rcases hrow k hk with h | ⟨h, _⟩
    · omega
    · omega
/-- What holds while a round's region goes on. -/
structure RSt (R B : Nat) (v : Value) (xs : List Value) (n : Nat) (w W0 W : World) : Prop where
  box : Boxed W R 22 v
  row : W.ownsRow (B + 1) 52 2 v n xs
  bel : Below R w W
  oth : KeepsOthers W0 W
  kv : KeepV B W0 W
  lt : B < W.heap.size
theorem RSt.call {R B n : Nat} {v : Value} {xs : List Value} {w W0 W W' : World} (h : RSt R B v xs n w W0 W) (hb : Below W.heap.size W W') : RSt R B v xs n w W0 W' :=
  ⟨boxed_below h.box hb, own_below h.row hb, h.bel.trans (hb.mono (by have := h.box.lt; omega)), h.oth.trans ⟨hb.size, fun k o hk _ => (hb.block k (lt_of_get hk)).trans hk⟩, keepV_trans h.kv ⟨hb.size, hb.block B h.lt⟩, Nat.lt_of_lt_of_le h.lt hb.size⟩
/-- .. and behind it. -/
def REnd (R B : Nat) (v' : Value) (ys : List Value) (m : Nat) (w W0 W : World) : Prop :=
  Boxed W R 22 v' ∧ W.ownsRow (B + 1) 52 2 v' m ys ∧ Below R w W ∧ KeepsOthers W0 W ∧ KeepV B W0 W ∧ B < W.heap.size
theorem RSt.done {R B n m : Nat} {v v' : Value} {xs ys : List Value} {w W0 W w1 : World} (h : RSt R B v xs n w W0 W) (hR : R = w.heap.size) (hB : B = R + 1) (tmp : Obj) (hown' : w1.ownsRow (B + 1) 52 2 v' m ys) (hgrow : (W.alloc tmp).grownBy w1 v.ownBlock) :
    w1.cell? ⟨R, 0, none⟩ = some v ∧ w1.frozen? ⟨R, 0, none⟩ = false ∧ REnd R B v' ys m w W0 (w1.setCell ⟨R, 0, none⟩ v') := by
  have hbs := h.bel.size
  have hl := h.lt
  obtain ⟨hv1, hv2, hr2, hk2, hb2⟩ := h.box.appended (by decide) (h.row.mono (by omega : R ≤ B + 1)) (by omega) (Nat.le_refl _) (hown'.mono (by omega : R ≤ B + 1)) hgrow
  have hr3 := hown'.kept (grownBy_setCell' w1 R v') (.inr (hv1.not_row (by decide) hown').symm)
  have hkv : KeepV B W (w1.setCell ⟨R, 0, none⟩ v') := by
    refine ⟨hb2.size, ?_⟩
    rw [Below.heap_setCell _ _ _ B (by simp; omega)]
    rw [hgrow.block B (by simp; omega) (row_low h.row (by omega))]
    exact Below.heap_alloc _ _ _ hl
  exact ⟨hv1.cell, hv1.frozen, hv2, hr3, h.bel.trans hb2, h.oth.trans hk2, keepV_trans h.kv hkv, Nat.lt_of_lt_of_le hl hb2.size⟩
theorem wpIn_app_row {Fc : Fence} {N : Nat} {P : Program} {w : World} {o : Oper} {a : Act} {K : Act → World → Prop} {Q : Exit → Act → World → Prop} (s x : Operand) (t : TypeId)
    (ho : o.op = .call { callee := .builtin .append, args := #[s, x], argTypes := #[t, t] })
    (base : Nat) (e : TypeId) (i : TypeInfo) (z : Value) (size bytes : Nat) (ht : P.underlying t = some (.slice e)) (hi : P.info? e = some i) (hz : i.zero = some z)
    (hsize : i.size = size) (hby : i.bytes = bytes) (hzs : z.cells.size = size) (hsz : 0 < size)
    (v : Value) (n : Nat) (xs : List Value) (hs : a.eval s = v) (hown : w.ownsRow base e size v n xs) (y : Value) (hx : a.eval x = y) (m : Nat) (ys : List Value) (hr : IsRow size y m ys w) (h1 : ∀ u ∈ ys, u.oneCell' = true)
    (h63 : n + m ≤ 9223372036854775807) (hbytes : (n + m) * bytes ≤ 140737488355328) (hbase : base ≤ w.heap.size)
    (h : ∀ v' w', w'.ownsRow base e size v' (n + m) (xs ++ ys) → w.grownBy w' v.ownBlock → K (a.put o.dst v') w') : o.wpIn Fc N P a w K Q := by
  obtain ⟨v', w', hrun, r1, r2⟩ := run_app_row (P := P) w base t o.type e i z size bytes ht hi hz hsize hby hzs hsz v n xs hown y m ys hr h1 h63 hbytes hbase
  unfold Oper.wpIn
  refine ⟨?_, ?_⟩
  · simp [Oper.about, ho, resolve, Target.leads, Sem.run_pure]
  · rw [Oper.semAt_plain Fc _ _ (by rw [ho]; intro c hc'; cases hc')]
    simp [execOp, ho, resolve, invoke, builtin, hs, hx, hrun, Result.andThen]
    exact h v' w' r1 r2
/-- What holds at a goto to the label. -/
def HdJ (l : List UInt8) (w : World) (a : Act) (W : World) : Prop :=
  hdV l = [] ∧ (∃ v, Boxed W w.heap.size 22 v) ∧ Below w.heap.size w W ∧ ∃ D, w.heap.size ≤ D ∧ W.heap[D]? = some (.deferred (some [])) ∧
    ∃ y0 y1 y4 y5 y6 y7 y8 y9 y10 y11 y12 y13 y14 y15 y16 y17 y18 y19 y20 y21 y22 y23 y24 y25 y26 y27 y28 y29 y30 y31 y32 y33 y34 y35 y36 y37 y38 y39 y40 y41 y42 y43 y44 y45 y46 y47 y48 y49 y50, a = { tmps := #[y0, y1, .pointer (some ⟨w.heap.size, 0, none⟩), .int .i64 (hdE l), y4, y5, y6, y7, y8, y9, y10, y11, y12, y13, y14, y15, y16, y17, y18, y19, y20, y21, y22, y23, y24, y25, y26, y27, y28, y29, y30, y31, y32, y33, y34, y35, y36, y37, y38, y39, y40, y41, y42, y43, y44, y45, y46, y47, y48, y49, y50], defers := [{ target := .collected D, args := #[] }] }
theorem hd_end {w W2 : World} {D R : Nat} {v : Value} (hR : R = w.heap.size) (hb : Below R w W2) (hbx : Boxed W2 R 22 v) (hK : W2.heap[D]? = some (.deferred (some []))) (hD : R ≤ D) (nv : Value) :
    (W2.setCell ⟨R, 0, none⟩ nv).heap[D]? = some (.deferred (some [])) ∧ Boxed ((W2.setCell ⟨R, 0, none⟩ nv).putObj D (.deferred none)) R 22 nv ∧ Below w.heap.size w ((W2.setCell ⟨R, 0, none⟩ nv).putObj D (.deferred none)) := by
  have hne : D ≠ R := by
    rintro rfl
    rw [show W2.heap[D]? = _ from hbx] at hK
    cases hK
  have h1 : (W2.setCell ⟨R, 0, none⟩ nv).heap[D]? = some (.deferred (some [])) := (Below.heap_setCell _ _ _ D hne).trans hK
  refine ⟨h1, (hbx.set nv).kept (grownBy_putObj' _ D _) (fun e => hne (by cases e; rfl)), ?_⟩
  subst hR
  have hs := hb.size
  refine (hb.setCell (p := ⟨w.heap.size, 0, none⟩) (Nat.le_refl _) nv).grown (grownBy_putObj' _ D _) ?_ (fun k hk => by cases hk; exact hD)
  exact Nat.le_trans hs (grownBy_setCell' W2 w.heap.size nv).size
theorem hd_ret {fn : Func} {tmps : Array Value} {W : World} {R : Nat} {v e : Value} (h : fn.results = #[.cell 2 22, .tmp 3]) (h2 : tmps.getD 2 undef = .pointer (some ⟨R, 0, none⟩)) (h3 : tmps.getD 3 undef = e) (hbx : Boxed W R 22 v) :
    (results fn tmps).run Tryd.prog W = .ok (.tuple #[v, e]) W := by
  have hc := hbx.cell
  rw [results_cell_tmp h, h2, h3]
  simp [go_sem, Result.andThen, hc]
theorem hdE_none {l : List UInt8} (hl : l.length ≤ 16384) (h : hdA l = none) : hdE l = 140 ∧ hdV l = [] := by
  have h1 : hdE l = 140 := by
    unfold hdE
    rw [if_neg (by omega), h]
  exact ⟨h1, hdE_bad (by rw [h1]; decide)⟩
theorem flds_stop {l : List UInt8} {pre : List (List UInt8 × Bool)} (hp : pre <+: lns l) (hf : flds pre = none) : hdA l = none := by
  obtain ⟨r, hr⟩ := hp
  unfold hdA
  rw [← hr, flds_app, hf]
  rfl
end Go.Proofs.YtnfgpcccmbblcaaDoor
