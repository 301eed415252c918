/- HdFa, HdF, HdH: put together by mergetpl.py. -/
import Derived.Test.YthgmgmbjjjnhnaaGreatDoorGe
import Derived.Test.YthgmgmbjjjnhnaaGreatDoorGc
import Derived.Laws.ResultCell
import Derived.Deep.Onto
import Derived.WalkMore
import Derived.ScopeJumps
import Derived.OrdersIn
import Derived.RegionIn
namespace Go.Proofs.YthgmgmbjjjnhnaaGreatDoor
open Go.RowKit

attribute [local go_sem] Oper.semAt_some

/-- What Parse's rounds keep. -/
def HdI (R B : Nat) (w : World) (pre : List (List UInt8 × Bool)) (W : World) : Prop :=
  (∃ v fs, flds pre = some fs ∧ Boxed W R 62 v ∧ W.ownsRow (B + 1) 106 2 v fs.length (prV fs)) ∧ Below R w W ∧ B < W.heap.size
/-- .. and how they are left. -/
def HdX (R : Nat) (w : World) (c : Code) (pre : List (List UInt8 × Bool)) (W : World) : Prop :=
  c = .goto 0 ∧ flds pre = none ∧ (∃ v, Boxed W R 62 v) ∧ Below R w W
theorem hdI_own {R B D : Nat} {w : World} (hR : R = w.heap.size) (hB : B = R + 1) (hD : R ≤ D) : OwnV B D (HdI R B w) := by
  rintro s W W' row ⟨⟨v, fs, hf, hv, hr⟩, hb, hl⟩ hg hrow
  refine ⟨⟨v, fs, hf, hv.kept hg ?_, hr.kept hg ?_⟩, hb.grown hg ?_ ?_, Nat.lt_of_lt_of_le hl hg.size⟩
  · intro e
    rcases hrow R e.symm with h | ⟨_, o, ho, hc⟩
    · omega
    · rw [show W.heap[R]? = _ from hv] at ho
      cases ho
      cases hc
  · rcases hr.2 with ⟨rfl, _⟩ | ⟨g, cap, cur, rfl, hgl, hgb, _⟩
    · exact .inl rfl
    · refine .inr fun e => ?_
      have e' : row = some g := e.symm
      rcases hrow g e' with h | ⟨_, o, ho, hc⟩
      · omega
      · rw [hgb] at ho
        cases ho
        cases hc
  · have := hb.size
    omega
  · intro k hk
    rcases hrow k hk with h | ⟨h, _⟩
    · omega
    · omega
theorem hdX_own {R B D : Nat} {w : World} (hR : R = w.heap.size) (hB : B = R + 1) (hD : R ≤ D) (c : Code) : OwnV B D (HdX R w c) := by
  rintro s W W' row ⟨hc0, hf, ⟨v, hv⟩, hb⟩ hg hrow
  refine ⟨hc0, hf, ⟨v, hv.kept hg ?_⟩, hb.grown hg ?_ ?_⟩
  · intro e
    rcases hrow R e.symm with h | ⟨_, o, ho, hc⟩
    · omega
    · rw [show W.heap[R]? = _ from hv] at ho
      cases ho
      cases hc
  · have := hb.size
    omega
  · intro k hk
    rcases hrow k hk with h | ⟨h, _⟩
    · omega
    · omega
/-- What holds while a round's region goes on. -/
structure RSt (R B : Nat) (v : Value) (xs : List Value) (n : Nat) (w W0 W : World) : Prop where
  box : Boxed W R 62 v
  row : W.ownsRow (B + 1) 106 2 v n xs
  bel : Below R w W
  oth : KeepsOthers W0 W
  kv : KeepV B W0 W
  lt : B < W.heap.size
theorem RSt.call {R B n : Nat} {v : Value} {xs : List Value} {w W0 W W' : World} (h : RSt R B v xs n w W0 W) (hb : Below W.heap.size W W') : RSt R B v xs n w W0 W' :=
  ⟨boxed_below h.box hb, own_below h.row hb, h.bel.trans (hb.mono (by have := h.box.lt; omega)), h.oth.trans ⟨hb.size, fun k o hk _ => (hb.block k (lt_of_get hk)).trans hk⟩, keepV_trans h.kv ⟨hb.size, hb.block B h.lt⟩, Nat.lt_of_lt_of_le h.lt hb.size⟩
/-- .. and behind it. -/
def REnd (R B : Nat) (v' : Value) (ys : List Value) (m : Nat) (w W0 W : World) : Prop :=
  Boxed W R 62 v' ∧ W.ownsRow (B + 1) 106 2 v' m ys ∧ Below R w W ∧ KeepsOthers W0 W ∧ KeepV B W0 W ∧ B < W.heap.size
theorem RSt.done {R B n m : Nat} {v v' : Value} {xs ys : List Value} {w W0 W w1 : World} (h : RSt R B v xs n w W0 W) (hR : R = w.heap.size) (hB : B = R + 1) (tmp : Obj) (hown' : w1.ownsRow (B + 1) 106 2 v' m ys) (hgrow : (W.alloc tmp).grownBy w1 v.ownBlock) :
    w1.cell? ⟨R, 0, none⟩ = some v ∧ w1.frozen? ⟨R, 0, none⟩ = false ∧ REnd R B v' ys m w W0 (w1.setCell ⟨R, 0, none⟩ v') := by
  have hbs := h.bel.size
  have hl := h.lt
  obtain ⟨hv1, hv2, hr2, hk2, hb2⟩ := h.box.appended (by decide) (h.row.mono (by omega : R ≤ B + 1)) (by omega) (Nat.le_refl _) (hown'.mono (by omega : R ≤ B + 1)) hgrow
  have hr3 := hown'.kept (grownBy_setCell' w1 R v') (.inr (hv1.not_row (by decide) hown').symm)
  have hkv : KeepV B W (w1.setCell ⟨R, 0, none⟩ v') := by
    refine ⟨hb2.size, ?_⟩
    rw [Below.heap_setCell _ _ _ B (by simp; omega)]
    rw [hgrow.block B (by simp; omega) (row_low h.row (by omega))]
    exact Below.heap_alloc _ _ _ hl
  exact ⟨hv1.cell, hv1.frozen, hv2, hr3, h.bel.trans hb2, h.oth.trans hk2, keepV_trans h.kv hkv, Nat.lt_of_lt_of_le hl hb2.size⟩
theorem wpIn_app_row {Fc : Fence} {N : Nat} {P : Program} {w : World} {o : Oper} {a : Act} {K : Act → World → Prop} {Q : Exit → Act → World → Prop} (s x : Operand) (t : TypeId)
    (ho : o.op = .call { callee := .builtin .append, args := #[s, x], argTypes := #[t, t] })
    (base : Nat) (e : TypeId) (i : TypeInfo) (z : Value) (size bytes : Nat) (ht : P.underlying t = some (.slice e)) (hi : P.info? e = some i) (hz : i.zero = some z)
    (hsize : i.size = size) (hby : i.bytes = bytes) (hzs : z.cells.size = size) (hsz : 0 < size)
    (v : Value) (n : Nat) (xs : List Value) (hs : a.eval s = v) (hown : w.ownsRow base e size v n xs) (y : Value) (hx : a.eval x = y) (m : Nat) (ys : List Value) (hr : IsRow size y m ys w) (h1 : ∀ u ∈ ys, u.oneCell' = true)
    (h63 : n + m ≤ 9223372036854775807) (hbytes : (n + m) * bytes ≤ 140737488355328) (hbase : base ≤ w.heap.size)
    (h : ∀ v' w', w'.ownsRow base e size v' (n + m) (xs ++ ys) → w.grownBy w' v.ownBlock → K (a.put o.dst v') w') : o.wpIn Fc N P a w K Q := by
  obtain ⟨v', w', hrun, r1, r2⟩ := run_app_row (P := P) w base t o.type e i z size bytes ht hi hz hsize hby hzs hsz v n xs hown y m ys hr h1 h63 hbytes hbase
  unfold Oper.wpIn
  refine ⟨?_, ?_⟩
  · simp [Oper.about, ho, resolve, Target.leads, Sem.run_pure]
  · rw [Oper.semAt_plain Fc _ _ (by rw [ho]; intro c hc'; cases hc')]
    simp [execOp, ho, resolve, invoke, builtin, hs, hx, hrun, Result.andThen]
    exact h v' w' r1 r2
/-- What holds at a goto to the label. -/
def HdJ (l : List UInt8) (w : World) (a : Act) (W : World) : Prop :=
  hdV l = [] ∧ (∃ v, Boxed W w.heap.size 62 v) ∧ Below w.heap.size w W ∧ ∃ D, w.heap.size ≤ D ∧ W.heap[D]? = some (.deferred (some [])) ∧
    ∃ y0 y1 y4 y5 y6 y7 y8 y9 y10 y11 y12 y13 y14 y15 y16 y17 y18 y19 y20 y21 y22 y23 y24 y25 y26 y27 y28 y29 y30 y31 y32 y33 y34 y35 y36 y37 y38 y39 y40 y41 y42 y43 y44 y45 y46 y47 y48 y49 y50, a = { tmps := #[y0, y1, .pointer (some ⟨w.heap.size, 0, none⟩), .int .i64 (hdE l), y4, y5, y6, y7, y8, y9, y10, y11, y12, y13, y14, y15, y16, y17, y18, y19, y20, y21, y22, y23, y24, y25, y26, y27, y28, y29, y30, y31, y32, y33, y34, y35, y36, y37, y38, y39, y40, y41, y42, y43, y44, y45, y46, y47, y48, y49, y50], defers := [{ target := .collected D, args := #[] }] }
theorem hd_end {w W2 : World} {D R : Nat} {v : Value} (hR : R = w.heap.size) (hb : Below R w W2) (hbx : Boxed W2 R 62 v) (hK : W2.heap[D]? = some (.deferred (some []))) (hD : R ≤ D) (nv : Value) :
    (W2.setCell ⟨R, 0, none⟩ nv).heap[D]? = some (.deferred (some [])) ∧ Boxed ((W2.setCell ⟨R, 0, none⟩ nv).putObj D (.deferred none)) R 62 nv ∧ Below w.heap.size w ((W2.setCell ⟨R, 0, none⟩ nv).putObj D (.deferred none)) := by
  have hne : D ≠ R := by
    rintro rfl
    rw [show W2.heap[D]? = _ from hbx] at hK
    cases hK
  have h1 : (W2.setCell ⟨R, 0, none⟩ nv).heap[D]? = some (.deferred (some [])) := (Below.heap_setCell _ _ _ D hne).trans hK
  refine ⟨h1, (hbx.set nv).kept (grownBy_putObj' _ D _) (fun e => hne (by cases e; rfl)), ?_⟩
  subst hR
  have hs := hb.size
  refine (hb.setCell (p := ⟨w.heap.size, 0, none⟩) (Nat.le_refl _) nv).grown (grownBy_putObj' _ D _) ?_ (fun k hk => by cases hk; exact hD)
  exact Nat.le_trans hs (grownBy_setCell' W2 w.heap.size nv).size
theorem hd_ret {fn : Func} {tmps : Array Value} {W : World} {R : Nat} {v e : Value} (h : fn.results = #[.cell 2 62, .tmp 3]) (h2 : tmps.getD 2 undef = .pointer (some ⟨R, 0, none⟩)) (h3 : tmps.getD 3 undef = e) (hbx : Boxed W R 62 v) :
    (results fn tmps).run Tryz.prog W = .ok (.tuple #[v, e]) W := by
  have hc := hbx.cell
  rw [results_cell_tmp h, h2, h3]
  simp [go_sem, Result.andThen, hc]
theorem hdE_none {l : List UInt8} (hl : l.length ≤ 16384) (h : hdA l = none) : hdE l = 140 ∧ hdV l = [] := by
  have h1 : hdE l = 140 := by
    unfold hdE
    rw [if_neg (by omega), h]
  exact ⟨h1, hdE_bad (by rw [h1]; decide)⟩
theorem flds_stop {l : List UInt8} {pre : List (List UInt8 × Bool)} (hp : pre <+: lns l) (hf : flds pre = none) : hdA l = none := by
  obtain ⟨r, hr⟩ := hp
  unfold hdA
  rw [← hr, flds_app, hf]
  rfl
end Go.Proofs.YthgmgmbjjjnhnaaGreatDoor
namespace Go.Proofs.YthgmgmbjjjnhnaaGreatDoor
open Go.RowKit

attribute [local go_sem] Oper.semAt_some

/-- .. and the row is new. -/
def HdIsF (l : List UInt8) (w : World) (e : Ending) (w' : World) : Prop := ∃ v, e = .returned (.tuple #[v, .int .i64 (hdE l)]) ∧ IsPairs v (hdV l) w' ∧ Below w.heap.size w w' ∧ ∀ k, v.ownBlock = some k → w.heap.size ≤ k
set_option maxRecDepth 100000 in
set_option maxHeartbeats 16000000 in
theorem hd_Parse_inF (s : ByteArray) (w : World) (hs : s.size ≤ 16384) (hm : ML w) : Calls Tryz.prog 62 #[.string s] w (HdIsF s.data.toList w) := by
  obtain ⟨i0, hi, hz0, hz1, hz2⟩ := info_parts vinfo_pair
  have LD := Lib.hid fun w => hd_lines s w
  have HNB := Lib.hid (lns_len s.data.toList.length s.data.toList (Nat.le_refl _))
  have HM := Lib.hid hm
  have g0 : ¬ (16384 : Int) < s.size := by omega
  have g00 : decide ((16384 : Int) < s.size) = false := decide_eq_false g0
  have HLM := Lib.hid (lns_mem s.data.toList.length s.data.toList (Nat.le_refl _))
  clear hm
  refine (callsIn_wide (n := 3)).1 ?_
  refine callsIn_of_wp_marks Tryz.func62 rfl trivial ?_ rfl
  simp only [Tryz.ntmps62, List.size_toArray, List.length_cons, List.length_nil, Nat.reduceAdd, Nat.reduceSub, Array.replicate_succ, Array.replicate_zero, List.push_toArray, List.append_toArray, List.nil_append, List.cons_append]
  refine wpIn_wide.2 ?_
  go_wp2_with fail
  refine wp_scope_jumps 0 (HdJ s.data.toList w) (fun _ _ => 0) (by rfl) ?_ ?_
  · refine (wpIn_wide (n := 3)).1 ?_
    gi_wp2_with fail
    refine ⟨trivial, callsIn_wide.2 ((LD.out _).mono ?_)⟩
    rintro e w1 ⟨rfl, rfl⟩
    gi_wp2_with fail
    have bR := (Boxed.new w 62 (.slice none 0 0)).alloc (.cells #[.string s] 9)
    have bS := Boxed.new (w.alloc (.cells #[.slice none 0 0] 62)) 9 (.string s)
    rw [World.size_alloc] at bS
    have hB0 : Below w.heap.size w ((w.alloc (.cells #[.slice none 0 0] 62)).alloc (.cells #[.string s] 9)) := ((Below.refl _ w).alloc (Nat.le_refl _) _).alloc (by simp) _
    refine range_lawG (gf := 131) (lb := #[.pointer (some ⟨w.heap.size + 1, 0, none⟩)]) rfl (enters_of Tryz.func131 (by kernel_rfl) rfl) (B := w.heap.size + 1) (by simp) (encs := encP) (S := fun xs => xs = lns s.data.toList) (Sp := fun pre => pre <+: lns s.data.toList) (N := (lns s.data.toList).length) (G := ML)
      (lines1_seq (w.heap.size + 1) s _ (by omega) bS) (fun _ => rfl) (HdI w.heap.size (w.heap.size + 1) w) (HdX w.heap.size w) (hdI_own rfl rfl (by simp; omega)) (hdX_own rfl rfl (by simp; omega)) (fun _ _ h => HM.out.ret h.2.1) ⟨⟨_, [], rfl, bR, World.ownsRow_nil _ _ _ _⟩, hB0, by simp⟩
      (fun x => { tmps := #[.string s, undef, .pointer (some ⟨w.heap.size, 0, none⟩), .int .i64 140, .string ⟨x.1.toArray⟩, .bool x.2, undef, undef, undef, .string s, .int .i64 s.size, .bool false, .string s, .func (.func 131) #[] #[.pointer (some ⟨w.heap.size + 1, 0, none⟩)], .string ⟨x.1.toArray⟩, .bool x.2, undef, undef, undef, undef, undef, undef, undef, undef, undef, undef, undef, undef, undef, undef, undef, undef, undef, undef, undef, undef, undef, undef, undef, undef, undef, undef, undef, undef, undef, undef, undef, undef, undef, undef, undef], defers := [] }) ?assign ?body ?done ?stop
    case assign =>
      intro l x W K hK
      obtain ⟨X, hX⟩ : ∃ X : ByteArray, ⟨x.1.toArray⟩ = X := ⟨_, rfl⟩
      rw [hX] at hK
      unfold encP
      rw [hX]
      gi_wp2_with fail
      exact hK
    case body =>
      rintro l pre ⟨x1, x2⟩ W ⟨⟨v, fs, hf, hv, hrow⟩, hBl, hL⟩ hlt hyp
      have zx : x1.length ≤ s.data.toList.length := HLM.out _ hyp
      rw [size_toList] at zx
      have zfs := flds_len hf
      have hHN := HNB.out
      rw [size_toList] at hHN
      obtain ⟨X, hX⟩ : ∃ X : ByteArray, ⟨x1.toArray⟩ = X := ⟨_, rfl⟩
      have hXl : X.data.toList = x1 := by rw [← hX]
      have zX : X.size ≤ 1000000 := by rw [← size_toList, hXl]; omega
      have C0 := fun w => st_Cut1 X 58 w zX
      rw [hXl] at C0
      simp only at hX ⊢
      rw [hX]
      have hfb : fldB x1 = (x1.contains 58 && (tok (cA 58 x1) && pln (cR 58 x1))) := rfl
      have hfv : fldV x1 = (lowL (cA 58 x1), trm (cR 58 x1)) := rfl
      have zA0 := cA_le 58 x1
      have zR0 : (cR 58 x1).length ≤ x1.length := by
        unfold cR
        rw [List.length_drop]
        exact Nat.le_trans (Nat.sub_le _ _) (List.dropWhile_sublist _).length_le
      obtain ⟨N, hN⟩ : ∃ X : ByteArray, ⟨(cA 58 x1).toArray⟩ = X := ⟨_, rfl⟩
      obtain ⟨V, hV⟩ : ∃ X : ByteArray, ⟨(cR 58 x1).toArray⟩ = X := ⟨_, rfl⟩
      have hNl : N.data.toList = cA 58 x1 := by rw [← hN]
      have hVl : V.data.toList = cR 58 x1 := by rw [← hV]
      have zN : N.size ≤ 1000000 := by rw [← size_toList, hNl]; omega
      have zV : V.size ≤ 1000000 := by rw [← size_toList, hVl]; omega
      rw [hN, hV] at C0
      rw [← hNl, ← hVl] at hfb hfv
      obtain ⟨c, hcc⟩ : ∃ b, x1.contains 58 = b := ⟨_, rfl⟩
      obtain ⟨k, hk⟩ : ∃ b, tok N.data.toList = b := ⟨_, rfl⟩
      obtain ⟨p, hp⟩ : ∃ b, pln V.data.toList = b := ⟨_, rfl⟩
      rw [hcc] at C0 hfb
      rw [hk, hp] at hfb
      have CH := Lib.hid C0
      have KH := Lib.hid fun w => token_at N k w zN hk
      have PH := Lib.hid fun w => plain_at V p w zV hp
      have hflds : flds (pre ++ [(x1, x2)]) = if x2 = true ∧ (c && (k && p)) = true then some (fs ++ [(lowL N.data.toList, trm V.data.toList)]) else none := by
        rw [flds_app, hf, Option.bind_some]
        simp only [flds, hfb, hfv]
        split <;> simp
      have LH0 := fun w => as_Lower N w zN
      have TH0 := fun w => as_Trim V w zV
      obtain ⟨A, hA⟩ : ∃ X : ByteArray, ⟨(lowL N.data.toList).toArray⟩ = X := ⟨_, rfl⟩
      obtain ⟨D, hD⟩ : ∃ X : ByteArray, ⟨(trm V.data.toList).toArray⟩ = X := ⟨_, rfl⟩
      rw [hA] at LH0
      rw [hD] at TH0
      have LH := Lib.hid LH0
      have TH := Lib.hid TH0
      have hpv : prV (fs ++ [(lowL N.data.toList, trm V.data.toList)]) = prV fs ++ [.string A, .string D] := by
        rw [prV_app, ← hA, ← hD]
        rfl
      have HPV := Lib.hid hpv
      have HFL := Lib.hid hflds
      have HS0 := Lib.hid (RSt.mk hv hrow hBl (KeepsOthers.refl W) ⟨Nat.le_refl _, rfl⟩ hL : RSt w.heap.size (w.heap.size + 1) v (prV fs) fs.length w W W)
      have HBAD : Hid (∀ W', (flds (pre ++ [(x1, x2)]) = none) → RSt w.heap.size (w.heap.size + 1) v (prV fs) fs.length w W W' → KeepsOthers W W' ∧ HdX w.heap.size w (.goto 0) (pre ++ [(x1, x2)]) W') := Lib.hid fun W' h1 h2 => ⟨h2.oth, rfl, h1, ⟨_, h2.box⟩, h2.bel⟩
      clear C0 LH0 TH0 hX hXl hN hV hNl hVl hcc hk hp hfb hfv hA hD hpv hflds hf hv hrow hBl hL zx zA0 zR0 hyp
      cases x2 with
      | false =>
        gi_wp2_with fail
        refine ⟨trivial, callsIn_wide.2 ((CH.out _).mono ?_)⟩
        rintro e w2 ⟨rfl, hb2⟩
        gi_wp2_with fail
        refine ⟨trivial, ?_⟩
        gi_wp2_with fail
        refine ⟨trivial, ?_⟩
        gi_wp2_with fail
        refine wpIn_goto ?_
        exact HBAD.out _ (by rw [HFL.out]; simp) (HS0.out.call hb2)
      | true =>
        gi_wp2_with fail
        refine ⟨trivial, callsIn_wide.2 ((CH.out _).mono ?_)⟩
        rintro e w2 ⟨rfl, hb2⟩
        have HS := Lib.hid (HS0.out.call hb2)
        clear hb2
        cases c with
        | false =>
          gi_wp2_with fail
          refine ⟨trivial, ?_⟩
          gi_wp2_with fail
          refine ⟨trivial, ?_⟩
          gi_wp2_with fail
          refine wpIn_goto ?_
          exact HBAD.out _ (by rw [HFL.out]; simp) HS.out
        | true =>
          gi_wp2_with fail
          refine ⟨trivial, callsIn_wide.2 ((KH.out _).mono ?_)⟩
          rintro e w3 ⟨rfl, hb3⟩
          have HS := Lib.hid (HS.out.call hb3)
          clear hb3
          cases k with
          | false =>
            gi_wp2_with fail
            refine ⟨trivial, ?_⟩
            gi_wp2_with fail
            refine wpIn_goto ?_
            exact HBAD.out _ (by rw [HFL.out]; simp) HS.out
          | true =>
            gi_wp2_with fail
            refine ⟨trivial, callsIn_wide.2 ((PH.out _).mono ?_)⟩
            rintro e w4 ⟨rfl, hb4⟩
            have HS := Lib.hid (HS.out.call hb4)
            clear hb4
            cases p with
            | false =>
              gi_wp2_with fail
              refine wpIn_goto ?_
              exact HBAD.out _ (by rw [HFL.out]; simp) HS.out
            | true =>
              gi_wp2_with fail
              have fin8 : ∀ v' m W', m = pre.length + 1 → REnd w.heap.size (w.heap.size + 1) v' (prV fs ++ [.string A, .string D]) m w W W' → KeepsOthers W W' ∧ KeepV (w.heap.size + 1) W W' ∧ HdI w.heap.size (w.heap.size + 1) w (pre ++ [(x1, true)]) W' := by
                rintro v' m W' rfl ⟨r1, r2, r3, r4, r5, r6⟩
                refine ⟨r4, r5, ⟨v', fs ++ [(lowL N.data.toList, trm V.data.toList)], by rw [HFL.out]; simp, r1, ?_⟩, r3, r6⟩
                rw [HPV.out, List.length_append, zfs]
                exact r2
              have HS := Lib.hid (HS.out.call (Below.drew (Below.refl _ _)))
              have hc := HS.out.box.cell
              refine wpIn_region_any (by kernel_rfl) ?_
              change wpAnyIn _ _ _ _ _ _ _ _ _ (World.drew _)
              refine wpAnyIn_ready (rs := [0, 1, 3]) (by kernel_rfl) (by simp) ?_
              refine AllReadyIn.cons rfl (fun K hK => ?_) ?_
              · go_simp
                refine hK _ _ ?_
                clear hK K
                refine wpAnyIn_ready (rs := [1, 3]) (by kernel_rfl) (by simp) ?_
                refine AllReadyIn.cons rfl (fun K hK => ?_) ?_
                · go_simp
                  refine hK _ _ ?_
                  clear hK K
                  refine wpAnyIn_ready (rs := [2, 3]) (by kernel_rfl) (by simp) ?_
                  refine AllReadyIn.cons rfl (fun K hK => ?_) ?_
                  · go_simp
                    refine ⟨trivial, callsIn_wide.2 ((LH.out _).mono ?_)⟩
                    rintro e w5 ⟨rfl, hb5⟩
                    have HS := Lib.hid (HS.out.call hb5)
                    have hc := HS.out.box.cell
                    clear hb5
                    refine hK _ _ ?_
                    clear hK K
                    refine wpAnyIn_ready (rs := [3]) (by kernel_rfl) (by simp) ?_
                    refine AllReadyIn.cons rfl (fun K hK => ?_) ?_
                    · go_simp
                      refine hK _ _ ?_
                      clear hK K
                      refine wpAnyIn_ready (rs := [4]) (by kernel_rfl) (by simp) ?_
                      refine AllReadyIn.cons rfl (fun K hK => ?_) ?_
                      · go_simp
                        refine ⟨trivial, callsIn_wide.2 ((TH.out _).mono ?_)⟩
                        rintro e w5 ⟨rfl, hb5⟩
                        have HS := Lib.hid (HS.out.call hb5)
                        have hc := HS.out.box.cell
                        clear hb5
                        refine hK _ _ ?_
                        clear hK K
                        refine wpAnyIn_ready (rs := [5]) (by kernel_rfl) (by simp) ?_
                        refine AllReadyIn.cons rfl (fun K hK => ?_) ?_
                        · go_simp
                          refine hK _ _ ?_
                          clear hK K
                          refine wpAnyIn_ready (rs := [6]) (by kernel_rfl) (by simp) ?_
                          refine AllReadyIn.cons rfl (fun K hK => ?_) ?_
                          · go_simp
                            refine hK _ _ ?_
                            clear hK K
                            have hc6 := (HS.out.box.alloc (.cells #[.string A, .string D] 106)).cell
                            refine wpAnyIn_ready (rs := [7]) (by kernel_rfl) (by simp) ?_
                            refine AllReadyIn.cons rfl (fun K hK => ?_) ?_
                            · rw [if_pos (by rfl)]
                              refine wpIn_app_row _ _ _ (by rfl) (w.heap.size + 1 + 1) 106 i0 _ 2 32 Tryz.underlying62 hi hz0 hz1 hz2 rfl (by omega) v fs.length (prV fs) (by rfl) (HS.out.row.alloc _) (.slice (some ⟨_, 0, none⟩) 1 1) (by rfl) 1 [.string A, .string D] (new_row2 _ _ _) (by simp [Value.oneCell']) (by omega) (by omega) (by have := HS.out.lt; simp; omega) ?_
                              intro v' w7 hown' hgrow
                              obtain ⟨g', cap', rfl⟩ := ownsRow_succ hown'
                              obtain ⟨hc7, hf7, HE⟩ := HS.out.done rfl rfl _ hown' hgrow
                              clear hown' hgrow
                              refine hK _ _ ?_
                              clear hK K
                              refine wpAnyIn_ready (rs := [8]) (by kernel_rfl) (by simp) ?_
                              refine AllReadyIn.cons rfl (fun K hK => ?_) ?_
                              · go_simp
                                refine hK _ _ ?_
                                clear hK K
                                refine wpAnyIn_done (by kernel_rfl) ?_ _
                                rw [zfs] at HE
                                exact fin8 _ _ _ (by rfl) HE
                              exact AllReadyIn.nil
                            exact AllReadyIn.nil
                          exact AllReadyIn.nil
                        exact AllReadyIn.nil
                      exact AllReadyIn.nil
                    exact AllReadyIn.nil
                  refine AllReadyIn.cons rfl (fun K hK => ?_) ?_
                  · go_simp
                    refine hK _ _ ?_
                    clear hK K
                    refine wpAnyIn_ready (rs := [2]) (by kernel_rfl) (by simp) ?_
                    refine AllReadyIn.cons rfl (fun K hK => ?_) ?_
                    · go_simp
                      refine ⟨trivial, callsIn_wide.2 ((LH.out _).mono ?_)⟩
                      rintro e w5 ⟨rfl, hb5⟩
                      have HS := Lib.hid (HS.out.call hb5)
                      have hc := HS.out.box.cell
                      clear hb5
                      refine hK _ _ ?_
                      clear hK K
                      refine wpAnyIn_ready (rs := [4]) (by kernel_rfl) (by simp) ?_
                      refine AllReadyIn.cons rfl (fun K hK => ?_) ?_
                      · go_simp
                        refine ⟨trivial, callsIn_wide.2 ((TH.out _).mono ?_)⟩
                        rintro e w5 ⟨rfl, hb5⟩
                        have HS := Lib.hid (HS.out.call hb5)
                        have hc := HS.out.box.cell
                        clear hb5
                        refine hK _ _ ?_
                        clear hK K
                        refine wpAnyIn_ready (rs := [5]) (by kernel_rfl) (by simp) ?_
                        refine AllReadyIn.cons rfl (fun K hK => ?_) ?_
                        · go_simp
                          refine hK _ _ ?_
                          clear hK K
                          refine wpAnyIn_ready (rs := [6]) (by kernel_rfl) (by simp) ?_
                          refine AllReadyIn.cons rfl (fun K hK => ?_) ?_
                          · go_simp
                            refine hK _ _ ?_
                            clear hK K
                            have hc6 := (HS.out.box.alloc (.cells #[.string A, .string D] 106)).cell
                            refine wpAnyIn_ready (rs := [7]) (by kernel_rfl) (by simp) ?_
                            refine AllReadyIn.cons rfl (fun K hK => ?_) ?_
                            · rw [if_pos (by rfl)]
                              refine wpIn_app_row _ _ _ (by rfl) (w.heap.size + 1 + 1) 106 i0 _ 2 32 Tryz.underlying62 hi hz0 hz1 hz2 rfl (by omega) v fs.length (prV fs) (by rfl) (HS.out.row.alloc _) (.slice (some ⟨_, 0, none⟩) 1 1) (by rfl) 1 [.string A, .string D] (new_row2 _ _ _) (by simp [Value.oneCell']) (by omega) (by omega) (by have := HS.out.lt; simp; omega) ?_
                              intro v' w7 hown' hgrow
                              obtain ⟨g', cap', rfl⟩ := ownsRow_succ hown'
                              obtain ⟨hc7, hf7, HE⟩ := HS.out.done rfl rfl _ hown' hgrow
                              clear hown' hgrow
                              refine hK _ _ ?_
                              clear hK K
                              refine wpAnyIn_ready (rs := [8]) (by kernel_rfl) (by simp) ?_
                              refine AllReadyIn.cons rfl (fun K hK => ?_) ?_
                              · go_simp
                                refine hK _ _ ?_
                                clear hK K
                                refine wpAnyIn_done (by kernel_rfl) ?_ _
                                rw [zfs] at HE
                                exact fin8 _ _ _ (by rfl) HE
                              exact AllReadyIn.nil
                            exact AllReadyIn.nil
                          exact AllReadyIn.nil
                        exact AllReadyIn.nil
                      exact AllReadyIn.nil
                    exact AllReadyIn.nil
                  exact AllReadyIn.nil
                refine AllReadyIn.cons rfl (fun K hK => ?_) ?_
                · go_simp
                  refine hK _ _ ?_
                  clear hK K
                  refine wpAnyIn_ready (rs := [1]) (by kernel_rfl) (by simp) ?_
                  refine AllReadyIn.cons rfl (fun K hK => ?_) ?_
                  · go_simp
                    refine hK _ _ ?_
                    clear hK K
                    refine wpAnyIn_ready (rs := [2]) (by kernel_rfl) (by simp) ?_
                    refine AllReadyIn.cons rfl (fun K hK => ?_) ?_
                    · go_simp
                      refine ⟨trivial, callsIn_wide.2 ((LH.out _).mono ?_)⟩
                      rintro e w5 ⟨rfl, hb5⟩
                      have HS := Lib.hid (HS.out.call hb5)
                      have hc := HS.out.box.cell
                      clear hb5
                      refine hK _ _ ?_
                      clear hK K
                      refine wpAnyIn_ready (rs := [4]) (by kernel_rfl) (by simp) ?_
                      refine AllReadyIn.cons rfl (fun K hK => ?_) ?_
                      · go_simp
                        refine ⟨trivial, callsIn_wide.2 ((TH.out _).mono ?_)⟩
                        rintro e w5 ⟨rfl, hb5⟩
                        have HS := Lib.hid (HS.out.call hb5)
                        have hc := HS.out.box.cell
                        clear hb5
                        refine hK _ _ ?_
                        clear hK K
                        refine wpAnyIn_ready (rs := [5]) (by kernel_rfl) (by simp) ?_
                        refine AllReadyIn.cons rfl (fun K hK => ?_) ?_
                        · go_simp
                          refine hK _ _ ?_
                          clear hK K
                          refine wpAnyIn_ready (rs := [6]) (by kernel_rfl) (by simp) ?_
                          refine AllReadyIn.cons rfl (fun K hK => ?_) ?_
                          · go_simp
                            refine hK _ _ ?_
                            clear hK K
                            have hc6 := (HS.out.box.alloc (.cells #[.string A, .string D] 106)).cell
                            refine wpAnyIn_ready (rs := [7]) (by kernel_rfl) (by simp) ?_
                            refine AllReadyIn.cons rfl (fun K hK => ?_) ?_
                            · rw [if_pos (by rfl)]
                              refine wpIn_app_row _ _ _ (by rfl) (w.heap.size + 1 + 1) 106 i0 _ 2 32 Tryz.underlying62 hi hz0 hz1 hz2 rfl (by omega) v fs.length (prV fs) (by rfl) (HS.out.row.alloc _) (.slice (some ⟨_, 0, none⟩) 1 1) (by rfl) 1 [.string A, .string D] (new_row2 _ _ _) (by simp [Value.oneCell']) (by omega) (by omega) (by have := HS.out.lt; simp; omega) ?_
                              intro v' w7 hown' hgrow
                              obtain ⟨g', cap', rfl⟩ := ownsRow_succ hown'
                              obtain ⟨hc7, hf7, HE⟩ := HS.out.done rfl rfl _ hown' hgrow
                              clear hown' hgrow
                              refine hK _ _ ?_
                              clear hK K
                              refine wpAnyIn_ready (rs := [8]) (by kernel_rfl) (by simp) ?_
                              refine AllReadyIn.cons rfl (fun K hK => ?_) ?_
                              · go_simp
                                refine hK _ _ ?_
                                clear hK K
                                refine wpAnyIn_done (by kernel_rfl) ?_ _
                                rw [zfs] at HE
                                exact fin8 _ _ _ (by rfl) HE
                              exact AllReadyIn.nil
                            exact AllReadyIn.nil
                          exact AllReadyIn.nil
                        exact AllReadyIn.nil
                      exact AllReadyIn.nil
                    exact AllReadyIn.nil
                  exact AllReadyIn.nil
                exact AllReadyIn.nil
              refine AllReadyIn.cons rfl (fun K hK => ?_) ?_
              · go_simp
                refine hK _ _ ?_
                clear hK K
                refine wpAnyIn_ready (rs := [0, 2, 3]) (by kernel_rfl) (by simp) ?_
                refine AllReadyIn.cons rfl (fun K hK => ?_) ?_
                · go_simp
                  refine hK _ _ ?_
                  clear hK K
                  refine wpAnyIn_ready (rs := [2, 3]) (by kernel_rfl) (by simp) ?_
                  refine AllReadyIn.cons rfl (fun K hK => ?_) ?_
                  · go_simp
                    refine ⟨trivial, callsIn_wide.2 ((LH.out _).mono ?_)⟩
                    rintro e w5 ⟨rfl, hb5⟩
                    have HS := Lib.hid (HS.out.call hb5)
                    have hc := HS.out.box.cell
                    clear hb5
                    refine hK _ _ ?_
                    clear hK K
                    refine wpAnyIn_ready (rs := [3]) (by kernel_rfl) (by simp) ?_
                    refine AllReadyIn.cons rfl (fun K hK => ?_) ?_
                    · go_simp
                      refine hK _ _ ?_
                      clear hK K
                      refine wpAnyIn_ready (rs := [4]) (by kernel_rfl) (by simp) ?_
                      refine AllReadyIn.cons rfl (fun K hK => ?_) ?_
                      · go_simp
                        refine ⟨trivial, callsIn_wide.2 ((TH.out _).mono ?_)⟩
                        rintro e w5 ⟨rfl, hb5⟩
                        have HS := Lib.hid (HS.out.call hb5)
                        have hc := HS.out.box.cell
                        clear hb5
                        refine hK _ _ ?_
                        clear hK K
                        refine wpAnyIn_ready (rs := [5]) (by kernel_rfl) (by simp) ?_
                        refine AllReadyIn.cons rfl (fun K hK => ?_) ?_
                        · go_simp
                          refine hK _ _ ?_
                          clear hK K
                          refine wpAnyIn_ready (rs := [6]) (by kernel_rfl) (by simp) ?_
                          refine AllReadyIn.cons rfl (fun K hK => ?_) ?_
                          · go_simp
                            refine hK _ _ ?_
                            clear hK K
                            have hc6 := (HS.out.box.alloc (.cells #[.string A, .string D] 106)).cell
                            refine wpAnyIn_ready (rs := [7]) (by kernel_rfl) (by simp) ?_
                            refine AllReadyIn.cons rfl (fun K hK => ?_) ?_
                            · rw [if_pos (by rfl)]
                              refine wpIn_app_row _ _ _ (by rfl) (w.heap.size + 1 + 1) 106 i0 _ 2 32 Tryz.underlying62 hi hz0 hz1 hz2 rfl (by omega) v fs.length (prV fs) (by rfl) (HS.out.row.alloc _) (.slice (some ⟨_, 0, none⟩) 1 1) (by rfl) 1 [.string A, .string D] (new_row2 _ _ _) (by simp [Value.oneCell']) (by omega) (by omega) (by have := HS.out.lt; simp; omega) ?_
                              intro v' w7 hown' hgrow
                              obtain ⟨g', cap', rfl⟩ := ownsRow_succ hown'
                              obtain ⟨hc7, hf7, HE⟩ := HS.out.done rfl rfl _ hown' hgrow
                              clear hown' hgrow
                              refine hK _ _ ?_
                              clear hK K
                              refine wpAnyIn_ready (rs := [8]) (by kernel_rfl) (by simp) ?_
                              refine AllReadyIn.cons rfl (fun K hK => ?_) ?_
                              · go_simp
                                refine hK _ _ ?_
                                clear hK K
                                refine wpAnyIn_done (by kernel_rfl) ?_ _
                                rw [zfs] at HE
                                exact fin8 _ _ _ (by rfl) HE
                              exact AllReadyIn.nil
                            exact AllReadyIn.nil
                          exact AllReadyIn.nil
                        exact AllReadyIn.nil
                      exact AllReadyIn.nil
                    exact AllReadyIn.nil
                  refine AllReadyIn.cons rfl (fun K hK => ?_) ?_
                  · go_simp
                    refine hK _ _ ?_
                    clear hK K
                    refine wpAnyIn_ready (rs := [2]) (by kernel_rfl) (by simp) ?_
                    refine AllReadyIn.cons rfl (fun K hK => ?_) ?_
                    · go_simp
                      refine ⟨trivial, callsIn_wide.2 ((LH.out _).mono ?_)⟩
                      rintro e w5 ⟨rfl, hb5⟩
                      have HS := Lib.hid (HS.out.call hb5)
                      have hc := HS.out.box.cell
                      clear hb5
                      refine hK _ _ ?_
                      clear hK K
                      refine wpAnyIn_ready (rs := [4]) (by kernel_rfl) (by simp) ?_
                      refine AllReadyIn.cons rfl (fun K hK => ?_) ?_
                      · go_simp
                        refine ⟨trivial, callsIn_wide.2 ((TH.out _).mono ?_)⟩
                        rintro e w5 ⟨rfl, hb5⟩
                        have HS := Lib.hid (HS.out.call hb5)
                        have hc := HS.out.box.cell
                        clear hb5
                        refine hK _ _ ?_
                        clear hK K
                        refine wpAnyIn_ready (rs := [5]) (by kernel_rfl) (by simp) ?_
                        refine AllReadyIn.cons rfl (fun K hK => ?_) ?_
                        · go_simp
                          refine hK _ _ ?_
                          clear hK K
                          refine wpAnyIn_ready (rs := [6]) (by kernel_rfl) (by simp) ?_
                          refine AllReadyIn.cons rfl (fun K hK => ?_) ?_
                          · go_simp
                            refine hK _ _ ?_
                            clear hK K
                            have hc6 := (HS.out.box.alloc (.cells #[.string A, .string D] 106)).cell
                            refine wpAnyIn_ready (rs := [7]) (by kernel_rfl) (by simp) ?_
                            refine AllReadyIn.cons rfl (fun K hK => ?_) ?_
                            · rw [if_pos (by rfl)]
                              refine wpIn_app_row _ _ _ (by rfl) (w.heap.size + 1 + 1) 106 i0 _ 2 32 Tryz.underlying62 hi hz0 hz1 hz2 rfl (by omega) v fs.length (prV fs) (by rfl) (HS.out.row.alloc _) (.slice (some ⟨_, 0, none⟩) 1 1) (by rfl) 1 [.string A, .string D] (new_row2 _ _ _) (by simp [Value.oneCell']) (by omega) (by omega) (by have := HS.out.lt; simp; omega) ?_
                              intro v' w7 hown' hgrow
                              obtain ⟨g', cap', rfl⟩ := ownsRow_succ hown'
                              obtain ⟨hc7, hf7, HE⟩ := HS.out.done rfl rfl _ hown' hgrow
                              clear hown' hgrow
                              refine hK _ _ ?_
                              clear hK K
                              refine wpAnyIn_ready (rs := [8]) (by kernel_rfl) (by simp) ?_
                              refine AllReadyIn.cons rfl (fun K hK => ?_) ?_
                              · go_simp
                                refine hK _ _ ?_
                                clear hK K
                                refine wpAnyIn_done (by kernel_rfl) ?_ _
                                rw [zfs] at HE
                                exact fin8 _ _ _ (by rfl) HE
                              exact AllReadyIn.nil
                            exact AllReadyIn.nil
                          exact AllReadyIn.nil
                        exact AllReadyIn.nil
                      exact AllReadyIn.nil
                    exact AllReadyIn.nil
                  exact AllReadyIn.nil
                refine AllReadyIn.cons rfl (fun K hK => ?_) ?_
                · go_simp
                  refine ⟨trivial, callsIn_wide.2 ((LH.out _).mono ?_)⟩
                  rintro e w5 ⟨rfl, hb5⟩
                  have HS := Lib.hid (HS.out.call hb5)
                  have hc := HS.out.box.cell
                  clear hb5
                  refine hK _ _ ?_
                  clear hK K
                  refine wpAnyIn_ready (rs := [0, 3]) (by kernel_rfl) (by simp) ?_
                  refine AllReadyIn.cons rfl (fun K hK => ?_) ?_
                  · go_simp
                    refine hK _ _ ?_
                    clear hK K
                    refine wpAnyIn_ready (rs := [3]) (by kernel_rfl) (by simp) ?_
                    refine AllReadyIn.cons rfl (fun K hK => ?_) ?_
                    · go_simp
                      refine hK _ _ ?_
                      clear hK K
                      refine wpAnyIn_ready (rs := [4]) (by kernel_rfl) (by simp) ?_
                      refine AllReadyIn.cons rfl (fun K hK => ?_) ?_
                      · go_simp
                        refine ⟨trivial, callsIn_wide.2 ((TH.out _).mono ?_)⟩
                        rintro e w5 ⟨rfl, hb5⟩
                        have HS := Lib.hid (HS.out.call hb5)
                        have hc := HS.out.box.cell
                        clear hb5
                        refine hK _ _ ?_
                        clear hK K
                        refine wpAnyIn_ready (rs := [5]) (by kernel_rfl) (by simp) ?_
                        refine AllReadyIn.cons rfl (fun K hK => ?_) ?_
                        · go_simp
                          refine hK _ _ ?_
                          clear hK K
                          refine wpAnyIn_ready (rs := [6]) (by kernel_rfl) (by simp) ?_
                          refine AllReadyIn.cons rfl (fun K hK => ?_) ?_
                          · go_simp
                            refine hK _ _ ?_
                            clear hK K
                            have hc6 := (HS.out.box.alloc (.cells #[.string A, .string D] 106)).cell
                            refine wpAnyIn_ready (rs := [7]) (by kernel_rfl) (by simp) ?_
                            refine AllReadyIn.cons rfl (fun K hK => ?_) ?_
                            · rw [if_pos (by rfl)]
                              refine wpIn_app_row _ _ _ (by rfl) (w.heap.size + 1 + 1) 106 i0 _ 2 32 Tryz.underlying62 hi hz0 hz1 hz2 rfl (by omega) v fs.length (prV fs) (by rfl) (HS.out.row.alloc _) (.slice (some ⟨_, 0, none⟩) 1 1) (by rfl) 1 [.string A, .string D] (new_row2 _ _ _) (by simp [Value.oneCell']) (by omega) (by omega) (by have := HS.out.lt; simp; omega) ?_
                              intro v' w7 hown' hgrow
                              obtain ⟨g', cap', rfl⟩ := ownsRow_succ hown'
                              obtain ⟨hc7, hf7, HE⟩ := HS.out.done rfl rfl _ hown' hgrow
                              clear hown' hgrow
                              refine hK _ _ ?_
                              clear hK K
                              refine wpAnyIn_ready (rs := [8]) (by kernel_rfl) (by simp) ?_
                              refine AllReadyIn.cons rfl (fun K hK => ?_) ?_
                              · go_simp
                                refine hK _ _ ?_
                                clear hK K
                                refine wpAnyIn_done (by kernel_rfl) ?_ _
                                rw [zfs] at HE
                                exact fin8 _ _ _ (by rfl) HE
                              exact AllReadyIn.nil
                            exact AllReadyIn.nil
                          exact AllReadyIn.nil
                        exact AllReadyIn.nil
                      exact AllReadyIn.nil
                    exact AllReadyIn.nil
                  refine AllReadyIn.cons rfl (fun K hK => ?_) ?_
                  · go_simp
                    refine hK _ _ ?_
                    clear hK K
                    refine wpAnyIn_ready (rs := [0, 4]) (by kernel_rfl) (by simp) ?_
                    refine AllReadyIn.cons rfl (fun K hK => ?_) ?_
                    · go_simp
                      refine hK _ _ ?_
                      clear hK K
                      refine wpAnyIn_ready (rs := [4]) (by kernel_rfl) (by simp) ?_
                      refine AllReadyIn.cons rfl (fun K hK => ?_) ?_
                      · go_simp
                        refine ⟨trivial, callsIn_wide.2 ((TH.out _).mono ?_)⟩
                        rintro e w5 ⟨rfl, hb5⟩
                        have HS := Lib.hid (HS.out.call hb5)
                        have hc := HS.out.box.cell
                        clear hb5
                        refine hK _ _ ?_
                        clear hK K
                        refine wpAnyIn_ready (rs := [5]) (by kernel_rfl) (by simp) ?_
                        refine AllReadyIn.cons rfl (fun K hK => ?_) ?_
                        · go_simp
                          refine hK _ _ ?_
                          clear hK K
                          refine wpAnyIn_ready (rs := [6]) (by kernel_rfl) (by simp) ?_
                          refine AllReadyIn.cons rfl (fun K hK => ?_) ?_
                          · go_simp
                            refine hK _ _ ?_
                            clear hK K
                            have hc6 := (HS.out.box.alloc (.cells #[.string A, .string D] 106)).cell
                            refine wpAnyIn_ready (rs := [7]) (by kernel_rfl) (by simp) ?_
                            refine AllReadyIn.cons rfl (fun K hK => ?_) ?_
                            · rw [if_pos (by rfl)]
                              refine wpIn_app_row _ _ _ (by rfl) (w.heap.size + 1 + 1) 106 i0 _ 2 32 Tryz.underlying62 hi hz0 hz1 hz2 rfl (by omega) v fs.length (prV fs) (by rfl) (HS.out.row.alloc _) (.slice (some ⟨_, 0, none⟩) 1 1) (by rfl) 1 [.string A, .string D] (new_row2 _ _ _) (by simp [Value.oneCell']) (by omega) (by omega) (by have := HS.out.lt; simp; omega) ?_
                              intro v' w7 hown' hgrow
                              obtain ⟨g', cap', rfl⟩ := ownsRow_succ hown'
                              obtain ⟨hc7, hf7, HE⟩ := HS.out.done rfl rfl _ hown' hgrow
                              clear hown' hgrow
                              refine hK _ _ ?_
                              clear hK K
                              refine wpAnyIn_ready (rs := [8]) (by kernel_rfl) (by simp) ?_
                              refine AllReadyIn.cons rfl (fun K hK => ?_) ?_
                              · go_simp
                                refine hK _ _ ?_
                                clear hK K
                                refine wpAnyIn_done (by kernel_rfl) ?_ _
                                rw [zfs] at HE
                                exact fin8 _ _ _ (by rfl) HE
                              exact AllReadyIn.nil
                            exact AllReadyIn.nil
                          exact AllReadyIn.nil
                        exact AllReadyIn.nil
                      exact AllReadyIn.nil
                    refine AllReadyIn.cons rfl (fun K hK => ?_) ?_
                    · go_simp
                      refine ⟨trivial, callsIn_wide.2 ((TH.out _).mono ?_)⟩
                      rintro e w5 ⟨rfl, hb5⟩
                      have HS := Lib.hid (HS.out.call hb5)
                      have hc := HS.out.box.cell
                      clear hb5
                      refine hK _ _ ?_
                      clear hK K
                      refine wpAnyIn_ready (rs := [0, 5]) (by kernel_rfl) (by simp) ?_
                      refine AllReadyIn.cons rfl (fun K hK => ?_) ?_
                      · go_simp
                        refine hK _ _ ?_
                        clear hK K
                        refine wpAnyIn_ready (rs := [5]) (by kernel_rfl) (by simp) ?_
                        refine AllReadyIn.cons rfl (fun K hK => ?_) ?_
                        · go_simp
                          refine hK _ _ ?_
                          clear hK K
                          refine wpAnyIn_ready (rs := [6]) (by kernel_rfl) (by simp) ?_
                          refine AllReadyIn.cons rfl (fun K hK => ?_) ?_
                          · go_simp
                            refine hK _ _ ?_
                            clear hK K
                            have hc6 := (HS.out.box.alloc (.cells #[.string A, .string D] 106)).cell
                            refine wpAnyIn_ready (rs := [7]) (by kernel_rfl) (by simp) ?_
                            refine AllReadyIn.cons rfl (fun K hK => ?_) ?_
                            · rw [if_pos (by rfl)]
                              refine wpIn_app_row _ _ _ (by rfl) (w.heap.size + 1 + 1) 106 i0 _ 2 32 Tryz.underlying62 hi hz0 hz1 hz2 rfl (by omega) v fs.length (prV fs) (by rfl) (HS.out.row.alloc _) (.slice (some ⟨_, 0, none⟩) 1 1) (by rfl) 1 [.string A, .string D] (new_row2 _ _ _) (by simp [Value.oneCell']) (by omega) (by omega) (by have := HS.out.lt; simp; omega) ?_
                              intro v' w7 hown' hgrow
                              obtain ⟨g', cap', rfl⟩ := ownsRow_succ hown'
                              obtain ⟨hc7, hf7, HE⟩ := HS.out.done rfl rfl _ hown' hgrow
                              clear hown' hgrow
                              refine hK _ _ ?_
                              clear hK K
                              refine wpAnyIn_ready (rs := [8]) (by kernel_rfl) (by simp) ?_
                              refine AllReadyIn.cons rfl (fun K hK => ?_) ?_
                              · go_simp
                                refine hK _ _ ?_
                                clear hK K
                                refine wpAnyIn_done (by kernel_rfl) ?_ _
                                rw [zfs] at HE
                                exact fin8 _ _ _ (by rfl) HE
                              exact AllReadyIn.nil
                            exact AllReadyIn.nil
                          exact AllReadyIn.nil
                        exact AllReadyIn.nil
                      refine AllReadyIn.cons rfl (fun K hK => ?_) ?_
                      · go_simp
                        refine hK _ _ ?_
                        clear hK K
                        refine wpAnyIn_ready (rs := [0, 6]) (by kernel_rfl) (by simp) ?_
                        refine AllReadyIn.cons rfl (fun K hK => ?_) ?_
                        · go_simp
                          refine hK _ _ ?_
                          clear hK K
                          refine wpAnyIn_ready (rs := [6]) (by kernel_rfl) (by simp) ?_
                          refine AllReadyIn.cons rfl (fun K hK => ?_) ?_
                          · go_simp
                            refine hK _ _ ?_
                            clear hK K
                            have hc6 := (HS.out.box.alloc (.cells #[.string A, .string D] 106)).cell
                            refine wpAnyIn_ready (rs := [7]) (by kernel_rfl) (by simp) ?_
                            refine AllReadyIn.cons rfl (fun K hK => ?_) ?_
                            · rw [if_pos (by rfl)]
                              refine wpIn_app_row _ _ _ (by rfl) (w.heap.size + 1 + 1) 106 i0 _ 2 32 Tryz.underlying62 hi hz0 hz1 hz2 rfl (by omega) v fs.length (prV fs) (by rfl) (HS.out.row.alloc _) (.slice (some ⟨_, 0, none⟩) 1 1) (by rfl) 1 [.string A, .string D] (new_row2 _ _ _) (by simp [Value.oneCell']) (by omega) (by omega) (by have := HS.out.lt; simp; omega) ?_
                              intro v' w7 hown' hgrow
                              obtain ⟨g', cap', rfl⟩ := ownsRow_succ hown'
                              obtain ⟨hc7, hf7, HE⟩ := HS.out.done rfl rfl _ hown' hgrow
                              clear hown' hgrow
                              refine hK _ _ ?_
                              clear hK K
                              refine wpAnyIn_ready (rs := [8]) (by kernel_rfl) (by simp) ?_
                              refine AllReadyIn.cons rfl (fun K hK => ?_) ?_
                              · go_simp
                                refine hK _ _ ?_
                                clear hK K
                                refine wpAnyIn_done (by kernel_rfl) ?_ _
                                rw [zfs] at HE
                                exact fin8 _ _ _ (by rfl) HE
                              exact AllReadyIn.nil
                            exact AllReadyIn.nil
                          exact AllReadyIn.nil
                        refine AllReadyIn.cons rfl (fun K hK => ?_) ?_
                        · go_simp
                          refine hK _ _ ?_
                          clear hK K
                          have hc6 := (HS.out.box.alloc (.cells #[.string A, .string D] 106)).cell
                          refine wpAnyIn_ready (rs := [0]) (by kernel_rfl) (by simp) ?_
                          refine AllReadyIn.cons rfl (fun K hK => ?_) ?_
                          · go_simp
                            refine hK _ _ ?_
                            clear hK K
                            refine wpAnyIn_ready (rs := [7]) (by kernel_rfl) (by simp) ?_
                            refine AllReadyIn.cons rfl (fun K hK => ?_) ?_
                            · rw [if_pos (by rfl)]
                              refine wpIn_app_row _ _ _ (by rfl) (w.heap.size + 1 + 1) 106 i0 _ 2 32 Tryz.underlying62 hi hz0 hz1 hz2 rfl (by omega) v fs.length (prV fs) (by rfl) (HS.out.row.alloc _) (.slice (some ⟨_, 0, none⟩) 1 1) (by rfl) 1 [.string A, .string D] (new_row2 _ _ _) (by simp [Value.oneCell']) (by omega) (by omega) (by have := HS.out.lt; simp; omega) ?_
                              intro v' w7 hown' hgrow
                              obtain ⟨g', cap', rfl⟩ := ownsRow_succ hown'
                              obtain ⟨hc7, hf7, HE⟩ := HS.out.done rfl rfl _ hown' hgrow
                              clear hown' hgrow
                              refine hK _ _ ?_
                              clear hK K
                              refine wpAnyIn_ready (rs := [8]) (by kernel_rfl) (by simp) ?_
                              refine AllReadyIn.cons rfl (fun K hK => ?_) ?_
                              · go_simp
                                refine hK _ _ ?_
                                clear hK K
                                refine wpAnyIn_done (by kernel_rfl) ?_ _
                                rw [zfs] at HE
                                exact fin8 _ _ _ (by rfl) HE
                              exact AllReadyIn.nil
                            exact AllReadyIn.nil
                          exact AllReadyIn.nil
                        exact AllReadyIn.nil
                      exact AllReadyIn.nil
                    exact AllReadyIn.nil
                  exact AllReadyIn.nil
                refine AllReadyIn.cons rfl (fun K hK => ?_) ?_
                · go_simp
                  refine hK _ _ ?_
                  clear hK K
                  refine wpAnyIn_ready (rs := [0, 2]) (by kernel_rfl) (by simp) ?_
                  refine AllReadyIn.cons rfl (fun K hK => ?_) ?_
                  · go_simp
                    refine hK _ _ ?_
                    clear hK K
                    refine wpAnyIn_ready (rs := [2]) (by kernel_rfl) (by simp) ?_
                    refine AllReadyIn.cons rfl (fun K hK => ?_) ?_
                    · go_simp
                      refine ⟨trivial, callsIn_wide.2 ((LH.out _).mono ?_)⟩
                      rintro e w5 ⟨rfl, hb5⟩
                      have HS := Lib.hid (HS.out.call hb5)
                      have hc := HS.out.box.cell
                      clear hb5
                      refine hK _ _ ?_
                      clear hK K
                      refine wpAnyIn_ready (rs := [4]) (by kernel_rfl) (by simp) ?_
                      refine AllReadyIn.cons rfl (fun K hK => ?_) ?_
                      · go_simp
                        refine ⟨trivial, callsIn_wide.2 ((TH.out _).mono ?_)⟩
                        rintro e w5 ⟨rfl, hb5⟩
                        have HS := Lib.hid (HS.out.call hb5)
                        have hc := HS.out.box.cell
                        clear hb5
                        refine hK _ _ ?_
                        clear hK K
                        refine wpAnyIn_ready (rs := [5]) (by kernel_rfl) (by simp) ?_
                        refine AllReadyIn.cons rfl (fun K hK => ?_) ?_
                        · go_simp
                          refine hK _ _ ?_
                          clear hK K
                          refine wpAnyIn_ready (rs := [6]) (by kernel_rfl) (by simp) ?_
                          refine AllReadyIn.cons rfl (fun K hK => ?_) ?_
                          · go_simp
                            refine hK _ _ ?_
                            clear hK K
                            have hc6 := (HS.out.box.alloc (.cells #[.string A, .string D] 106)).cell
                            refine wpAnyIn_ready (rs := [7]) (by kernel_rfl) (by simp) ?_
                            refine AllReadyIn.cons rfl (fun K hK => ?_) ?_
                            · rw [if_pos (by rfl)]
                              refine wpIn_app_row _ _ _ (by rfl) (w.heap.size + 1 + 1) 106 i0 _ 2 32 Tryz.underlying62 hi hz0 hz1 hz2 rfl (by omega) v fs.length (prV fs) (by rfl) (HS.out.row.alloc _) (.slice (some ⟨_, 0, none⟩) 1 1) (by rfl) 1 [.string A, .string D] (new_row2 _ _ _) (by simp [Value.oneCell']) (by omega) (by omega) (by have := HS.out.lt; simp; omega) ?_
                              intro v' w7 hown' hgrow
                              obtain ⟨g', cap', rfl⟩ := ownsRow_succ hown'
                              obtain ⟨hc7, hf7, HE⟩ := HS.out.done rfl rfl _ hown' hgrow
                              clear hown' hgrow
                              refine hK _ _ ?_
                              clear hK K
                              refine wpAnyIn_ready (rs := [8]) (by kernel_rfl) (by simp) ?_
                              refine AllReadyIn.cons rfl (fun K hK => ?_) ?_
                              · go_simp
                                refine hK _ _ ?_
                                clear hK K
                                refine wpAnyIn_done (by kernel_rfl) ?_ _
                                rw [zfs] at HE
                                exact fin8 _ _ _ (by rfl) HE
                              exact AllReadyIn.nil
                            exact AllReadyIn.nil
                          exact AllReadyIn.nil
                        exact AllReadyIn.nil
                      exact AllReadyIn.nil
                    exact AllReadyIn.nil
                  refine AllReadyIn.cons rfl (fun K hK => ?_) ?_
                  · go_simp
                    refine ⟨trivial, callsIn_wide.2 ((LH.out _).mono ?_)⟩
                    rintro e w5 ⟨rfl, hb5⟩
                    have HS := Lib.hid (HS.out.call hb5)
                    have hc := HS.out.box.cell
                    clear hb5
                    refine hK _ _ ?_
                    clear hK K
                    refine wpAnyIn_ready (rs := [0, 4]) (by kernel_rfl) (by simp) ?_
                    refine AllReadyIn.cons rfl (fun K hK => ?_) ?_
                    · go_simp
                      refine hK _ _ ?_
                      clear hK K
                      refine wpAnyIn_ready (rs := [4]) (by kernel_rfl) (by simp) ?_
                      refine AllReadyIn.cons rfl (fun K hK => ?_) ?_
                      · go_simp
                        refine ⟨trivial, callsIn_wide.2 ((TH.out _).mono ?_)⟩
                        rintro e w5 ⟨rfl, hb5⟩
                        have HS := Lib.hid (HS.out.call hb5)
                        have hc := HS.out.box.cell
                        clear hb5
                        refine hK _ _ ?_
                        clear hK K
                        refine wpAnyIn_ready (rs := [5]) (by kernel_rfl) (by simp) ?_
                        refine AllReadyIn.cons rfl (fun K hK => ?_) ?_
                        · go_simp
                          refine hK _ _ ?_
                          clear hK K
                          refine wpAnyIn_ready (rs := [6]) (by kernel_rfl) (by simp) ?_
                          refine AllReadyIn.cons rfl (fun K hK => ?_) ?_
                          · go_simp
                            refine hK _ _ ?_
                            clear hK K
                            have hc6 := (HS.out.box.alloc (.cells #[.string A, .string D] 106)).cell
                            refine wpAnyIn_ready (rs := [7]) (by kernel_rfl) (by simp) ?_
                            refine AllReadyIn.cons rfl (fun K hK => ?_) ?_
                            · rw [if_pos (by rfl)]
                              refine wpIn_app_row _ _ _ (by rfl) (w.heap.size + 1 + 1) 106 i0 _ 2 32 Tryz.underlying62 hi hz0 hz1 hz2 rfl (by omega) v fs.length (prV fs) (by rfl) (HS.out.row.alloc _) (.slice (some ⟨_, 0, none⟩) 1 1) (by rfl) 1 [.string A, .string D] (new_row2 _ _ _) (by simp [Value.oneCell']) (by omega) (by omega) (by have := HS.out.lt; simp; omega) ?_
                              intro v' w7 hown' hgrow
                              obtain ⟨g', cap', rfl⟩ := ownsRow_succ hown'
                              obtain ⟨hc7, hf7, HE⟩ := HS.out.done rfl rfl _ hown' hgrow
                              clear hown' hgrow
                              refine hK _ _ ?_
                              clear hK K
                              refine wpAnyIn_ready (rs := [8]) (by kernel_rfl) (by simp) ?_
                              refine AllReadyIn.cons rfl (fun K hK => ?_) ?_
                              · go_simp
                                refine hK _ _ ?_
                                clear hK K
                                refine wpAnyIn_done (by kernel_rfl) ?_ _
                                rw [zfs] at HE
                                exact fin8 _ _ _ (by rfl) HE
                              exact AllReadyIn.nil
                            exact AllReadyIn.nil
                          exact AllReadyIn.nil
                        exact AllReadyIn.nil
                      exact AllReadyIn.nil
                    refine AllReadyIn.cons rfl (fun K hK => ?_) ?_
                    · go_simp
                      refine ⟨trivial, callsIn_wide.2 ((TH.out _).mono ?_)⟩
                      rintro e w5 ⟨rfl, hb5⟩
                      have HS := Lib.hid (HS.out.call hb5)
                      have hc := HS.out.box.cell
                      clear hb5
                      refine hK _ _ ?_
                      clear hK K
                      refine wpAnyIn_ready (rs := [0, 5]) (by kernel_rfl) (by simp) ?_
                      refine AllReadyIn.cons rfl (fun K hK => ?_) ?_
                      · go_simp
                        refine hK _ _ ?_
                        clear hK K
                        refine wpAnyIn_ready (rs := [5]) (by kernel_rfl) (by simp) ?_
                        refine AllReadyIn.cons rfl (fun K hK => ?_) ?_
                        · go_simp
                          refine hK _ _ ?_
                          clear hK K
                          refine wpAnyIn_ready (rs := [6]) (by kernel_rfl) (by simp) ?_
                          refine AllReadyIn.cons rfl (fun K hK => ?_) ?_
                          · go_simp
                            refine hK _ _ ?_
                            clear hK K
                            have hc6 := (HS.out.box.alloc (.cells #[.string A, .string D] 106)).cell
                            refine wpAnyIn_ready (rs := [7]) (by kernel_rfl) (by simp) ?_
                            refine AllReadyIn.cons rfl (fun K hK => ?_) ?_
                            · rw [if_pos (by rfl)]
                              refine wpIn_app_row _ _ _ (by rfl) (w.heap.size + 1 + 1) 106 i0 _ 2 32 Tryz.underlying62 hi hz0 hz1 hz2 rfl (by omega) v fs.length (prV fs) (by rfl) (HS.out.row.alloc _) (.slice (some ⟨_, 0, none⟩) 1 1) (by rfl) 1 [.string A, .string D] (new_row2 _ _ _) (by simp [Value.oneCell']) (by omega) (by omega) (by have := HS.out.lt; simp; omega) ?_
                              intro v' w7 hown' hgrow
                              obtain ⟨g', cap', rfl⟩ := ownsRow_succ hown'
                              obtain ⟨hc7, hf7, HE⟩ := HS.out.done rfl rfl _ hown' hgrow
                              clear hown' hgrow
                              refine hK _ _ ?_
                              clear hK K
                              refine wpAnyIn_ready (rs := [8]) (by kernel_rfl) (by simp) ?_
                              refine AllReadyIn.cons rfl (fun K hK => ?_) ?_
                              · go_simp
                                refine hK _ _ ?_
                                clear hK K
                                refine wpAnyIn_done (by kernel_rfl) ?_ _
                                rw [zfs] at HE
                                exact fin8 _ _ _ (by rfl) HE
                              exact AllReadyIn.nil
                            exact AllReadyIn.nil
                          exact AllReadyIn.nil
                        exact AllReadyIn.nil
                      refine AllReadyIn.cons rfl (fun K hK => ?_) ?_
                      · go_simp
                        refine hK _ _ ?_
                        clear hK K
                        refine wpAnyIn_ready (rs := [0, 6]) (by kernel_rfl) (by simp) ?_
                        refine AllReadyIn.cons rfl (fun K hK => ?_) ?_
                        · go_simp
                          refine hK _ _ ?_
                          clear hK K
                          refine wpAnyIn_ready (rs := [6]) (by kernel_rfl) (by simp) ?_
                          refine AllReadyIn.cons rfl (fun K hK => ?_) ?_
                          · go_simp
                            refine hK _ _ ?_
                            clear hK K
                            have hc6 := (HS.out.box.alloc (.cells #[.string A, .string D] 106)).cell
                            refine wpAnyIn_ready (rs := [7]) (by kernel_rfl) (by simp) ?_
                            refine AllReadyIn.cons rfl (fun K hK => ?_) ?_
                            · rw [if_pos (by rfl)]
                              refine wpIn_app_row _ _ _ (by rfl) (w.heap.size + 1 + 1) 106 i0 _ 2 32 Tryz.underlying62 hi hz0 hz1 hz2 rfl (by omega) v fs.length (prV fs) (by rfl) (HS.out.row.alloc _) (.slice (some ⟨_, 0, none⟩) 1 1) (by rfl) 1 [.string A, .string D] (new_row2 _ _ _) (by simp [Value.oneCell']) (by omega) (by omega) (by have := HS.out.lt; simp; omega) ?_
                              intro v' w7 hown' hgrow
                              obtain ⟨g', cap', rfl⟩ := ownsRow_succ hown'
                              obtain ⟨hc7, hf7, HE⟩ := HS.out.done rfl rfl _ hown' hgrow
                              clear hown' hgrow
                              refine hK _ _ ?_
                              clear hK K
                              refine wpAnyIn_ready (rs := [8]) (by kernel_rfl) (by simp) ?_
                              refine AllReadyIn.cons rfl (fun K hK => ?_) ?_
                              · go_simp
                                refine hK _ _ ?_
                                clear hK K
                                refine wpAnyIn_done (by kernel_rfl) ?_ _
                                rw [zfs] at HE
                                exact fin8 _ _ _ (by rfl) HE
                              exact AllReadyIn.nil
                            exact AllReadyIn.nil
                          exact AllReadyIn.nil
                        refine AllReadyIn.cons rfl (fun K hK => ?_) ?_
                        · go_simp
                          refine hK _ _ ?_
                          clear hK K
                          have hc6 := (HS.out.box.alloc (.cells #[.string A, .string D] 106)).cell
                          refine wpAnyIn_ready (rs := [0]) (by kernel_rfl) (by simp) ?_
                          refine AllReadyIn.cons rfl (fun K hK => ?_) ?_
                          · go_simp
                            refine hK _ _ ?_
                            clear hK K
                            refine wpAnyIn_ready (rs := [7]) (by kernel_rfl) (by simp) ?_
                            refine AllReadyIn.cons rfl (fun K hK => ?_) ?_
                            · rw [if_pos (by rfl)]
                              refine wpIn_app_row _ _ _ (by rfl) (w.heap.size + 1 + 1) 106 i0 _ 2 32 Tryz.underlying62 hi hz0 hz1 hz2 rfl (by omega) v fs.length (prV fs) (by rfl) (HS.out.row.alloc _) (.slice (some ⟨_, 0, none⟩) 1 1) (by rfl) 1 [.string A, .string D] (new_row2 _ _ _) (by simp [Value.oneCell']) (by omega) (by omega) (by have := HS.out.lt; simp; omega) ?_
                              intro v' w7 hown' hgrow
                              obtain ⟨g', cap', rfl⟩ := ownsRow_succ hown'
                              obtain ⟨hc7, hf7, HE⟩ := HS.out.done rfl rfl _ hown' hgrow
                              clear hown' hgrow
                              refine hK _ _ ?_
                              clear hK K
                              refine wpAnyIn_ready (rs := [8]) (by kernel_rfl) (by simp) ?_
                              refine AllReadyIn.cons rfl (fun K hK => ?_) ?_
                              · go_simp
                                refine hK _ _ ?_
                                clear hK K
                                refine wpAnyIn_done (by kernel_rfl) ?_ _
                                rw [zfs] at HE
                                exact fin8 _ _ _ (by rfl) HE
                              exact AllReadyIn.nil
                            exact AllReadyIn.nil
                          exact AllReadyIn.nil
                        exact AllReadyIn.nil
                      exact AllReadyIn.nil
                    exact AllReadyIn.nil
                  exact AllReadyIn.nil
                exact AllReadyIn.nil
              refine AllReadyIn.cons rfl (fun K hK => ?_) ?_
              · go_simp
                refine hK _ _ ?_
                clear hK K
                refine wpAnyIn_ready (rs := [0, 1]) (by kernel_rfl) (by simp) ?_
                refine AllReadyIn.cons rfl (fun K hK => ?_) ?_
                · go_simp
                  refine hK _ _ ?_
                  clear hK K
                  refine wpAnyIn_ready (rs := [1]) (by kernel_rfl) (by simp) ?_
                  refine AllReadyIn.cons rfl (fun K hK => ?_) ?_
                  · go_simp
                    refine hK _ _ ?_
                    clear hK K
                    refine wpAnyIn_ready (rs := [2]) (by kernel_rfl) (by simp) ?_
                    refine AllReadyIn.cons rfl (fun K hK => ?_) ?_
                    · go_simp
                      refine ⟨trivial, callsIn_wide.2 ((LH.out _).mono ?_)⟩
                      rintro e w5 ⟨rfl, hb5⟩
                      have HS := Lib.hid (HS.out.call hb5)
                      have hc := HS.out.box.cell
                      clear hb5
                      refine hK _ _ ?_
                      clear hK K
                      refine wpAnyIn_ready (rs := [4]) (by kernel_rfl) (by simp) ?_
                      refine AllReadyIn.cons rfl (fun K hK => ?_) ?_
                      · go_simp
                        refine ⟨trivial, callsIn_wide.2 ((TH.out _).mono ?_)⟩
                        rintro e w5 ⟨rfl, hb5⟩
                        have HS := Lib.hid (HS.out.call hb5)
                        have hc := HS.out.box.cell
                        clear hb5
                        refine hK _ _ ?_
                        clear hK K
                        refine wpAnyIn_ready (rs := [5]) (by kernel_rfl) (by simp) ?_
                        refine AllReadyIn.cons rfl (fun K hK => ?_) ?_
                        · go_simp
                          refine hK _ _ ?_
                          clear hK K
                          refine wpAnyIn_ready (rs := [6]) (by kernel_rfl) (by simp) ?_
                          refine AllReadyIn.cons rfl (fun K hK => ?_) ?_
                          · go_simp
                            refine hK _ _ ?_
                            clear hK K
                            have hc6 := (HS.out.box.alloc (.cells #[.string A, .string D] 106)).cell
                            refine wpAnyIn_ready (rs := [7]) (by kernel_rfl) (by simp) ?_
                            refine AllReadyIn.cons rfl (fun K hK => ?_) ?_
                            · rw [if_pos (by rfl)]
                              refine wpIn_app_row _ _ _ (by rfl) (w.heap.size + 1 + 1) 106 i0 _ 2 32 Tryz.underlying62 hi hz0 hz1 hz2 rfl (by omega) v fs.length (prV fs) (by rfl) (HS.out.row.alloc _) (.slice (some ⟨_, 0, none⟩) 1 1) (by rfl) 1 [.string A, .string D] (new_row2 _ _ _) (by simp [Value.oneCell']) (by omega) (by omega) (by have := HS.out.lt; simp; omega) ?_
                              intro v' w7 hown' hgrow
                              obtain ⟨g', cap', rfl⟩ := ownsRow_succ hown'
                              obtain ⟨hc7, hf7, HE⟩ := HS.out.done rfl rfl _ hown' hgrow
                              clear hown' hgrow
                              refine hK _ _ ?_
                              clear hK K
                              refine wpAnyIn_ready (rs := [8]) (by kernel_rfl) (by simp) ?_
                              refine AllReadyIn.cons rfl (fun K hK => ?_) ?_
                              · go_simp
                                refine hK _ _ ?_
                                clear hK K
                                refine wpAnyIn_done (by kernel_rfl) ?_ _
                                rw [zfs] at HE
                                exact fin8 _ _ _ (by rfl) HE
                              exact AllReadyIn.nil
                            exact AllReadyIn.nil
                          exact AllReadyIn.nil
                        exact AllReadyIn.nil
                      exact AllReadyIn.nil
                    exact AllReadyIn.nil
                  exact AllReadyIn.nil
                refine AllReadyIn.cons rfl (fun K hK => ?_) ?_
                · go_simp
                  refine hK _ _ ?_
                  clear hK K
                  refine wpAnyIn_ready (rs := [0, 2]) (by kernel_rfl) (by simp) ?_
                  refine AllReadyIn.cons rfl (fun K hK => ?_) ?_
                  · go_simp
                    refine hK _ _ ?_
                    clear hK K
                    refine wpAnyIn_ready (rs := [2]) (by kernel_rfl) (by simp) ?_
                    refine AllReadyIn.cons rfl (fun K hK => ?_) ?_
                    · go_simp
                      refine ⟨trivial, callsIn_wide.2 ((LH.out _).mono ?_)⟩
                      rintro e w5 ⟨rfl, hb5⟩
                      have HS := Lib.hid (HS.out.call hb5)
                      have hc := HS.out.box.cell
                      clear hb5
                      refine hK _ _ ?_
                      clear hK K
                      refine wpAnyIn_ready (rs := [4]) (by kernel_rfl) (by simp) ?_
                      refine AllReadyIn.cons rfl (fun K hK => ?_) ?_
                      · go_simp
                        refine ⟨trivial, callsIn_wide.2 ((TH.out _).mono ?_)⟩
                        rintro e w5 ⟨rfl, hb5⟩
                        have HS := Lib.hid (HS.out.call hb5)
                        have hc := HS.out.box.cell
                        clear hb5
                        refine hK _ _ ?_
                        clear hK K
                        refine wpAnyIn_ready (rs := [5]) (by kernel_rfl) (by simp) ?_
                        refine AllReadyIn.cons rfl (fun K hK => ?_) ?_
                        · go_simp
                          refine hK _ _ ?_
                          clear hK K
                          refine wpAnyIn_ready (rs := [6]) (by kernel_rfl) (by simp) ?_
                          refine AllReadyIn.cons rfl (fun K hK => ?_) ?_
                          · go_simp
                            refine hK _ _ ?_
                            clear hK K
                            have hc6 := (HS.out.box.alloc (.cells #[.string A, .string D] 106)).cell
                            refine wpAnyIn_ready (rs := [7]) (by kernel_rfl) (by simp) ?_
                            refine AllReadyIn.cons rfl (fun K hK => ?_) ?_
                            · rw [if_pos (by rfl)]
                              refine wpIn_app_row _ _ _ (by rfl) (w.heap.size + 1 + 1) 106 i0 _ 2 32 Tryz.underlying62 hi hz0 hz1 hz2 rfl (by omega) v fs.length (prV fs) (by rfl) (HS.out.row.alloc _) (.slice (some ⟨_, 0, none⟩) 1 1) (by rfl) 1 [.string A, .string D] (new_row2 _ _ _) (by simp [Value.oneCell']) (by omega) (by omega) (by have := HS.out.lt; simp; omega) ?_
                              intro v' w7 hown' hgrow
                              obtain ⟨g', cap', rfl⟩ := ownsRow_succ hown'
                              obtain ⟨hc7, hf7, HE⟩ := HS.out.done rfl rfl _ hown' hgrow
                              clear hown' hgrow
                              refine hK _ _ ?_
                              clear hK K
                              refine wpAnyIn_ready (rs := [8]) (by kernel_rfl) (by simp) ?_
                              refine AllReadyIn.cons rfl (fun K hK => ?_) ?_
                              · go_simp
                                refine hK _ _ ?_
                                clear hK K
                                refine wpAnyIn_done (by kernel_rfl) ?_ _
                                rw [zfs] at HE
                                exact fin8 _ _ _ (by rfl) HE
                              exact AllReadyIn.nil
                            exact AllReadyIn.nil
                          exact AllReadyIn.nil
                        exact AllReadyIn.nil
                      exact AllReadyIn.nil
                    exact AllReadyIn.nil
                  refine AllReadyIn.cons rfl (fun K hK => ?_) ?_
                  · go_simp
                    refine ⟨trivial, callsIn_wide.2 ((LH.out _).mono ?_)⟩
                    rintro e w5 ⟨rfl, hb5⟩
                    have HS := Lib.hid (HS.out.call hb5)
                    have hc := HS.out.box.cell
                    clear hb5
                    refine hK _ _ ?_
                    clear hK K
                    refine wpAnyIn_ready (rs := [0, 4]) (by kernel_rfl) (by simp) ?_
                    refine AllReadyIn.cons rfl (fun K hK => ?_) ?_
                    · go_simp
                      refine hK _ _ ?_
                      clear hK K
                      refine wpAnyIn_ready (rs := [4]) (by kernel_rfl) (by simp) ?_
                      refine AllReadyIn.cons rfl (fun K hK => ?_) ?_
                      · go_simp
                        refine ⟨trivial, callsIn_wide.2 ((TH.out _).mono ?_)⟩
                        rintro e w5 ⟨rfl, hb5⟩
                        have HS := Lib.hid (HS.out.call hb5)
                        have hc := HS.out.box.cell
                        clear hb5
                        refine hK _ _ ?_
                        clear hK K
                        refine wpAnyIn_ready (rs := [5]) (by kernel_rfl) (by simp) ?_
                        refine AllReadyIn.cons rfl (fun K hK => ?_) ?_
                        · go_simp
                          refine hK _ _ ?_
                          clear hK K
                          refine wpAnyIn_ready (rs := [6]) (by kernel_rfl) (by simp) ?_
                          refine AllReadyIn.cons rfl (fun K hK => ?_) ?_
                          · go_simp
                            refine hK _ _ ?_
                            clear hK K
                            have hc6 := (HS.out.box.alloc (.cells #[.string A, .string D] 106)).cell
                            refine wpAnyIn_ready (rs := [7]) (by kernel_rfl) (by simp) ?_
                            refine AllReadyIn.cons rfl (fun K hK => ?_) ?_
                            · rw [if_pos (by rfl)]
                              refine wpIn_app_row _ _ _ (by rfl) (w.heap.size + 1 + 1) 106 i0 _ 2 32 Tryz.underlying62 hi hz0 hz1 hz2 rfl (by omega) v fs.length (prV fs) (by rfl) (HS.out.row.alloc _) (.slice (some ⟨_, 0, none⟩) 1 1) (by rfl) 1 [.string A, .string D] (new_row2 _ _ _) (by simp [Value.oneCell']) (by omega) (by omega) (by have := HS.out.lt; simp; omega) ?_
                              intro v' w7 hown' hgrow
                              obtain ⟨g', cap', rfl⟩ := ownsRow_succ hown'
                              obtain ⟨hc7, hf7, HE⟩ := HS.out.done rfl rfl _ hown' hgrow
                              clear hown' hgrow
                              refine hK _ _ ?_
                              clear hK K
                              refine wpAnyIn_ready (rs := [8]) (by kernel_rfl) (by simp) ?_
                              refine AllReadyIn.cons rfl (fun K hK => ?_) ?_
                              · go_simp
                                refine hK _ _ ?_
                                clear hK K
                                refine wpAnyIn_done (by kernel_rfl) ?_ _
                                rw [zfs] at HE
                                exact fin8 _ _ _ (by rfl) HE
                              exact AllReadyIn.nil
                            exact AllReadyIn.nil
                          exact AllReadyIn.nil
                        exact AllReadyIn.nil
                      exact AllReadyIn.nil
                    refine AllReadyIn.cons rfl (fun K hK => ?_) ?_
                    · go_simp
                      refine ⟨trivial, callsIn_wide.2 ((TH.out _).mono ?_)⟩
                      rintro e w5 ⟨rfl, hb5⟩
                      have HS := Lib.hid (HS.out.call hb5)
                      have hc := HS.out.box.cell
                      clear hb5
                      refine hK _ _ ?_
                      clear hK K
                      refine wpAnyIn_ready (rs := [0, 5]) (by kernel_rfl) (by simp) ?_
                      refine AllReadyIn.cons rfl (fun K hK => ?_) ?_
                      · go_simp
                        refine hK _ _ ?_
                        clear hK K
                        refine wpAnyIn_ready (rs := [5]) (by kernel_rfl) (by simp) ?_
                        refine AllReadyIn.cons rfl (fun K hK => ?_) ?_
                        · go_simp
                          refine hK _ _ ?_
                          clear hK K
                          refine wpAnyIn_ready (rs := [6]) (by kernel_rfl) (by simp) ?_
                          refine AllReadyIn.cons rfl (fun K hK => ?_) ?_
                          · go_simp
                            refine hK _ _ ?_
                            clear hK K
                            have hc6 := (HS.out.box.alloc (.cells #[.string A, .string D] 106)).cell
                            refine wpAnyIn_ready (rs := [7]) (by kernel_rfl) (by simp) ?_
                            refine AllReadyIn.cons rfl (fun K hK => ?_) ?_
                            · rw [if_pos (by rfl)]
                              refine wpIn_app_row _ _ _ (by rfl) (w.heap.size + 1 + 1) 106 i0 _ 2 32 Tryz.underlying62 hi hz0 hz1 hz2 rfl (by omega) v fs.length (prV fs) (by rfl) (HS.out.row.alloc _) (.slice (some ⟨_, 0, none⟩) 1 1) (by rfl) 1 [.string A, .string D] (new_row2 _ _ _) (by simp [Value.oneCell']) (by omega) (by omega) (by have := HS.out.lt; simp; omega) ?_
                              intro v' w7 hown' hgrow
                              obtain ⟨g', cap', rfl⟩ := ownsRow_succ hown'
                              obtain ⟨hc7, hf7, HE⟩ := HS.out.done rfl rfl _ hown' hgrow
                              clear hown' hgrow
                              refine hK _ _ ?_
                              clear hK K
                              refine wpAnyIn_ready (rs := [8]) (by kernel_rfl) (by simp) ?_
                              refine AllReadyIn.cons rfl (fun K hK => ?_) ?_
                              · go_simp
                                refine hK _ _ ?_
                                clear hK K
                                refine wpAnyIn_done (by kernel_rfl) ?_ _
                                rw [zfs] at HE
                                exact fin8 _ _ _ (by rfl) HE
                              exact AllReadyIn.nil
                            exact AllReadyIn.nil
                          exact AllReadyIn.nil
                        exact AllReadyIn.nil
                      refine AllReadyIn.cons rfl (fun K hK => ?_) ?_
                      · go_simp
                        refine hK _ _ ?_
                        clear hK K
                        refine wpAnyIn_ready (rs := [0, 6]) (by kernel_rfl) (by simp) ?_
                        refine AllReadyIn.cons rfl (fun K hK => ?_) ?_
                        · go_simp
                          refine hK _ _ ?_
                          clear hK K
                          refine wpAnyIn_ready (rs := [6]) (by kernel_rfl) (by simp) ?_
                          refine AllReadyIn.cons rfl (fun K hK => ?_) ?_
                          · go_simp
                            refine hK _ _ ?_
                            clear hK K
                            have hc6 := (HS.out.box.alloc (.cells #[.string A, .string D] 106)).cell
                            refine wpAnyIn_ready (rs := [7]) (by kernel_rfl) (by simp) ?_
                            refine AllReadyIn.cons rfl (fun K hK => ?_) ?_
                            · rw [if_pos (by rfl)]
                              refine wpIn_app_row _ _ _ (by rfl) (w.heap.size + 1 + 1) 106 i0 _ 2 32 Tryz.underlying62 hi hz0 hz1 hz2 rfl (by omega) v fs.length (prV fs) (by rfl) (HS.out.row.alloc _) (.slice (some ⟨_, 0, none⟩) 1 1) (by rfl) 1 [.string A, .string D] (new_row2 _ _ _) (by simp [Value.oneCell']) (by omega) (by omega) (by have := HS.out.lt; simp; omega) ?_
                              intro v' w7 hown' hgrow
                              obtain ⟨g', cap', rfl⟩ := ownsRow_succ hown'
                              obtain ⟨hc7, hf7, HE⟩ := HS.out.done rfl rfl _ hown' hgrow
                              clear hown' hgrow
                              refine hK _ _ ?_
                              clear hK K
                              refine wpAnyIn_ready (rs := [8]) (by kernel_rfl) (by simp) ?_
                              refine AllReadyIn.cons rfl (fun K hK => ?_) ?_
                              · go_simp
                                refine hK _ _ ?_
                                clear hK K
                                refine wpAnyIn_done (by kernel_rfl) ?_ _
                                rw [zfs] at HE
                                exact fin8 _ _ _ (by rfl) HE
                              exact AllReadyIn.nil
                            exact AllReadyIn.nil
                          exact AllReadyIn.nil
                        refine AllReadyIn.cons rfl (fun K hK => ?_) ?_
                        · go_simp
                          refine hK _ _ ?_
                          clear hK K
                          have hc6 := (HS.out.box.alloc (.cells #[.string A, .string D] 106)).cell
                          refine wpAnyIn_ready (rs := [0]) (by kernel_rfl) (by simp) ?_
                          refine AllReadyIn.cons rfl (fun K hK => ?_) ?_
                          · go_simp
                            refine hK _ _ ?_
                            clear hK K
                            refine wpAnyIn_ready (rs := [7]) (by kernel_rfl) (by simp) ?_
                            refine AllReadyIn.cons rfl (fun K hK => ?_) ?_
                            · rw [if_pos (by rfl)]
                              refine wpIn_app_row _ _ _ (by rfl) (w.heap.size + 1 + 1) 106 i0 _ 2 32 Tryz.underlying62 hi hz0 hz1 hz2 rfl (by omega) v fs.length (prV fs) (by rfl) (HS.out.row.alloc _) (.slice (some ⟨_, 0, none⟩) 1 1) (by rfl) 1 [.string A, .string D] (new_row2 _ _ _) (by simp [Value.oneCell']) (by omega) (by omega) (by have := HS.out.lt; simp; omega) ?_
                              intro v' w7 hown' hgrow
                              obtain ⟨g', cap', rfl⟩ := ownsRow_succ hown'
                              obtain ⟨hc7, hf7, HE⟩ := HS.out.done rfl rfl _ hown' hgrow
                              clear hown' hgrow
                              refine hK _ _ ?_
                              clear hK K
                              refine wpAnyIn_ready (rs := [8]) (by kernel_rfl) (by simp) ?_
                              refine AllReadyIn.cons rfl (fun K hK => ?_) ?_
                              · go_simp
                                refine hK _ _ ?_
                                clear hK K
                                refine wpAnyIn_done (by kernel_rfl) ?_ _
                                rw [zfs] at HE
                                exact fin8 _ _ _ (by rfl) HE
                              exact AllReadyIn.nil
                            exact AllReadyIn.nil
                          exact AllReadyIn.nil
                        exact AllReadyIn.nil
                      exact AllReadyIn.nil
                    exact AllReadyIn.nil
                  exact AllReadyIn.nil
                exact AllReadyIn.nil
              exact AllReadyIn.nil
    case done =>
      rintro D xs W hD rfl ⟨⟨v, fs, hf, hv, hrow⟩, hB, hL⟩ hK
      have hD' : w.heap.size ≤ D := by simp at hD; omega
      have hc := hv.cell
      have hfz := hv.frozen
      clear bR bS
      have hip : IsPairs v fs W := own_row hrow
      obtain ⟨sa, cap, rfl⟩ := hip.form
      have hHN := HNB.out
      rw [size_toList] at hHN
      have zfs := flds_len hf
      obtain ⟨m, hm⟩ : ∃ m, fs.length = m := ⟨_, rfl⟩
      have HIP := Lib.hid hip
      have HA : Hid (hdA s.data.toList = some fs) := Lib.hid hf
      have HV := Lib.hid hv
      have HK := Lib.hid hK
      have HM := Lib.hid hm
      have HR := Lib.hid hrow
      rw [hm] at hc zfs
      have hml : m ≤ s.size := by rw [zfs]; exact hHN
      clear hv hK hrow hip hf zfs
      by_cases h32 : 32 < m
      · have hE := hdE_many HA.out (by rw [HM.out]; exact h32)
        have HE := Lib.hid hE
        have g1 : (32 : Int) < m := by omega
        clear hE
        rw [hm] at HV
        clear hm
        gi_wp2_with fail
        refine wpIn_goto ?_
        refine ⟨rfl, HE.out.2, ⟨_, HV.out⟩, hB, D, hD', HK.out, ?_⟩
        rw [HE.out.1]
        exact ⟨_, _, _, _, _, _, _, _, _, _, _, _, _, _, _, _, _, _, _, _, _, _, _, _, _, _, _, _, _, _, _, _, _, _, _, _, _, _, _, _, _, _, _, _, _, _, _, _, _, rfl⟩
      · have hE := hdE_of (by rw [size_toList]; exact hs) HA.out (by rw [HM.out]; omega)
        have HE := Lib.hid hE
        have g1 : ¬ (32 : Int) < m := by omega
        clear hE
        rw [hm] at HV HR
        clear hm
        gi_wp2_with fail
        obtain ⟨k1, k2, k3⟩ := hd_end rfl hB HV.out HK.out hD' (.slice sa m cap)
        refine ⟨by simp, .inl ⟨_, _, rfl, run_takeDeferred k1, ?_⟩⟩
        refine ⟨_, hd_ret rfl rfl rfl k2, .slice sa m cap, by rw [HE.out.1]; rfl, ?_, k3, fun k hk => by have := (HR.out.lt k hk).1; omega⟩
        rw [HE.out.2]
        show IsRow 2 _ fs.length _ _
        rw [HM.out]
        exact own_row (ownsRow_putObj (HR.out.kept (grownBy_setCell' W w.heap.size _) (.inr (HV.out.not_row (by decide) HR.out).symm)) _ k1 rfl)
    case stop =>
      rintro D c pre W hD hpre ⟨rfl, hf, ⟨v, hv⟩, hB⟩ hK
      have hD' : w.heap.size ≤ D := by simp at hD; omega
      clear bR bS
      refine wpIn_goto ?_
      obtain ⟨hE, hV⟩ := hdE_none (by rw [size_toList]; exact hs) (flds_stop hpre hf)
      refine ⟨rfl, hV, ⟨v, hv⟩, hB, D, hD', hK, ?_⟩
      rw [hE]
      exact ⟨_, _, _, _, _, _, _, _, _, _, _, _, _, _, _, _, _, _, _, _, _, _, _, _, _, _, _, _, _, _, _, _, _, _, _, _, _, _, _, _, _, _, _, _, _, _, _, _, _, rfl⟩
  · rintro a W ⟨hV, ⟨v, hv⟩, hB, D, hD, hK, y0, y1, y4, y5, y6, y7, y8, y9, y10, y11, y12, y13, y14, y15, y16, y17, y18, y19, y20, y21, y22, y23, y24, y25, y26, y27, y28, y29, y30, y31, y32, y33, y34, y35, y36, y37, y38, y39, y40, y41, y42, y43, y44, y45, y46, y47, y48, y49, y50, rfl⟩
    have hc := hv.cell
    have hfz := hv.frozen
    clear LD HNB HM HLM
    obtain ⟨E, hE⟩ : ∃ E, hdE s.data.toList = E := ⟨_, rfl⟩
    have HE := Lib.hid hE
    rw [hE]
    clear hE
    go_wp2_with fail
    obtain ⟨k1, k2, k3⟩ := hd_end rfl hB hv hK hD (.slice none 0 0)
    refine ⟨by simp, .inl ⟨_, _, rfl, run_takeDeferred k1, ?_⟩⟩
    exact ⟨_, hd_ret rfl rfl rfl k2, .slice none 0 0, by rw [HE.out]; rfl, by rw [hV]; exact IsPairs.nil _, k3, fun k hk => by cases hk⟩
end Go.Proofs.YthgmgmbjjjnhnaaGreatDoor
namespace Go.Proofs.YthgmgmbjjjnhnaaGreatDoor
open Go.RowKit

attribute [local go_sem] Oper.semAt_some

/-- What holds at the first goto: nothing deferred. -/
def HdK (l : List UInt8) (w : World) (a : Act) (W : World) : Prop :=
  hdV l = [] ∧ (∃ v, Boxed W w.heap.size 62 v) ∧ Below w.heap.size w W ∧
    ∃ y0 y1 y4 y5 y6 y7 y8 y9 y10 y11 y12 y13 y14 y15 y16 y17 y18 y19 y20 y21 y22 y23 y24 y25 y26 y27 y28 y29 y30 y31 y32 y33 y34 y35 y36 y37 y38 y39 y40 y41 y42 y43 y44 y45 y46 y47 y48 y49 y50, a = { tmps := #[y0, y1, .pointer (some ⟨w.heap.size, 0, none⟩), .int .i64 (hdE l), y4, y5, y6, y7, y8, y9, y10, y11, y12, y13, y14, y15, y16, y17, y18, y19, y20, y21, y22, y23, y24, y25, y26, y27, y28, y29, y30, y31, y32, y33, y34, y35, y36, y37, y38, y39, y40, y41, y42, y43, y44, y45, y46, y47, y48, y49, y50], defers := [] }
set_option maxRecDepth 100000 in
set_option maxHeartbeats 4000000 in
theorem hd_Parse_bigF (s : ByteArray) (w : World) (hs : 16384 < s.size) (hs2 : s.size ≤ 1000000) : Calls Tryz.prog 62 #[.string s] w (HdIsF s.data.toList w) := by
  have hE : hdE s.data.toList = 4 := by unfold hdE; rw [if_pos (by rw [size_toList]; exact hs)]
  have hV := hdE_bad (l := s.data.toList) (by rw [hE]; decide)
  have HE := Lib.hid (And.intro hE hV)
  clear hE hV
  have g0 : (16384 : Int) < s.size := by omega
  have g00 : decide ((16384 : Int) < s.size) = true := decide_eq_true g0
  refine (callsIn_wide (n := 3)).1 ?_
  refine callsIn_of_wp_marks Tryz.func62 rfl trivial ?_ rfl
  simp only [Tryz.ntmps62, List.size_toArray, List.length_cons, List.length_nil, Nat.reduceAdd, Nat.reduceSub, Array.replicate_succ, Array.replicate_zero, List.push_toArray, List.append_toArray, List.nil_append, List.cons_append]
  refine wpIn_wide.2 ?_
  go_wp2_with fail
  refine wp_scope_jumps 0 (HdK s.data.toList w) (fun _ _ => 0) (by rfl) ?_ ?_
  · refine (wpIn_wide (n := 3)).1 ?_
    gi_wp2_with fail
    refine wpIn_goto ?_
    refine ⟨rfl, HE.out.2, ⟨_, Boxed.new w 62 (.slice none 0 0)⟩, (Below.refl _ w).alloc (Nat.le_refl _) _, ?_⟩
    rw [HE.out.1]
    exact ⟨_, _, _, _, _, _, _, _, _, _, _, _, _, _, _, _, _, _, _, _, _, _, _, _, _, _, _, _, _, _, _, _, _, _, _, _, _, _, _, _, _, _, _, _, _, _, _, _, _, rfl⟩
  · rintro a W ⟨hV, ⟨v, hv⟩, hB, y0, y1, y4, y5, y6, y7, y8, y9, y10, y11, y12, y13, y14, y15, y16, y17, y18, y19, y20, y21, y22, y23, y24, y25, y26, y27, y28, y29, y30, y31, y32, y33, y34, y35, y36, y37, y38, y39, y40, y41, y42, y43, y44, y45, y46, y47, y48, y49, y50, rfl⟩
    have hc := hv.cell
    have hfz := hv.frozen
    obtain ⟨E, hE⟩ : ∃ E, hdE s.data.toList = E := ⟨_, rfl⟩
    have HE2 := Lib.hid hE
    rw [hE]
    clear hE
    have hv2 := hv.set (.slice none 0 0)
    go_wp2_with fail
    exact ⟨_, hd_ret rfl rfl rfl hv2, .slice none 0 0, by rw [HE2.out]; rfl, by rw [hV]; exact IsPairs.nil _, hB.setCell (p := ⟨w.heap.size, 0, none⟩) (Nat.le_refl _) _, fun k hk => by cases hk⟩
theorem hd_ParseF (s : ByteArray) (w : World) (hs : s.size ≤ 1000000) (hm : ML w) : Calls Tryz.prog 62 #[.string s] w (HdIsF s.data.toList w) := by
  by_cases h : 16384 < s.size
  · exact hd_Parse_bigF s w h hs
  · exact hd_Parse_inF s w (by omega) hm
theorem hd_Parse (s : ByteArray) (w : World) (hs : s.size ≤ 1000000) (hm : ML w) : Calls Tryz.prog 62 #[.string s] w (HdIs s.data.toList w) :=
  (hd_ParseF s w hs hm).mono fun _ _ ⟨v, h1, h2, h3, _⟩ => ⟨v, h1, h2, h3⟩
end Go.Proofs.YthgmgmbjjjnhnaaGreatDoor
