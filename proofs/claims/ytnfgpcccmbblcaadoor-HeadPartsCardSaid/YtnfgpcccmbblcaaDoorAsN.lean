/- ascii.List: a range over listed's iterator that collects into the result's own box. -/
import Derived.Test.YtnfgpcccmbblcaaDoorAsM
import Derived.Laws.ResultCell
import Derived.Deep.Onto
namespace Go.Proofs.YtnfgpcccmbblcaaDoor
open Go.RowKit

attribute [local go_sem] Oper.semAt_some

/-- What List's rounds keep: the result's box holds a slice of the call's own. -/
def LstI (R B : Nat) (w : World) (pre : List (List UInt8)) (W : World) : Prop :=
  (∃ v, Boxed W R 53 v ∧ W.ownsRow (B + 1) 9 1 v pre.length (strV pre)) ∧ Below R w W ∧ B < W.heap.size
theorem one_new (w : World) (y : Value) (e : TypeId) : ∀ j u, [y][j]? = some u → (w.alloc (.cells #[y] e)).cell? ((⟨w.heap.size, 0, none⟩ : Addr).add j) = some u := by
  intro j u hj
  match j, hj with
  | 0, hj => simp at hj; subst hj; simp [Addr.add]
theorem row_low {w : World} {base : Nat} {e : TypeId} {size : Nat} {v : Value} {n : Nat} {xs : List Value} (h : w.ownsRow base e size v n xs) {b : Nat} (hb : b < base) : some b ≠ v.ownBlock := by
  rcases h.2 with ⟨rfl, _⟩ | ⟨g, cap, cur, rfl, hg, _⟩
  · simp [Value.ownBlock]
  · intro e
    have : b = g := by simpa [Value.ownBlock] using e
    omega
theorem lstI_own {R B D : Nat} {w : World} (hR : R = w.heap.size) (hB : B = R + 1) (hD : R ≤ D) : OwnV B D (LstI R B w) := by
  rintro s W W' row ⟨⟨v, hv, hr⟩, hb, hl⟩ hg hrow
  refine ⟨⟨v, hv.kept hg ?_, hr.kept hg ?_⟩, hb.grown hg ?_ ?_, Nat.lt_of_lt_of_le hl hg.size⟩
  · intro e
    rcases hrow R e.symm with h | ⟨_, o, ho, hc⟩
    · omega
    · rw [show W.heap[R]? = _ from hv] at ho
      cases ho
      cases hc
  · rcases hr.2 with ⟨rfl, _⟩ | ⟨g, cap, cur, rfl, hgl, hgb, _⟩
    · exact .inl rfl
    · refine .inr fun e => ?_
      have e' : row = some g := e.symm
      rcases hrow g e' with h | ⟨_, o, ho, hc⟩
      · omega
      · rw [hgb] at ho
        cases ho
        cases hc
  · have := hb.size
    omega
  · intro k hk
    rcases hrow k hk with h | ⟨h, _⟩
    · omega
    · omega
theorem lst_end {w W2 : World} {D R : Nat} {v : Value} (hR : R = w.heap.size) (hb : Below R w W2) (hbx : Boxed W2 R 53 v) (hK : W2.heap[D]? = some (.deferred (some []))) (hD : R ≤ D) (nv : Value) :
    (W2.setCell ⟨R, 0, none⟩ nv).heap[D]? = some (.deferred (some [])) ∧ Boxed ((W2.setCell ⟨R, 0, none⟩ nv).putObj D (.deferred none)) R 53 nv ∧ Below w.heap.size w ((W2.setCell ⟨R, 0, none⟩ nv).putObj D (.deferred none)) := by
  have hne : D ≠ R := by
    rintro rfl
    rw [show W2.heap[D]? = _ from hbx] at hK
    cases hK
  have h1 : (W2.setCell ⟨R, 0, none⟩ nv).heap[D]? = some (.deferred (some [])) := (Below.heap_setCell _ _ _ D hne).trans hK
  refine ⟨h1, (hbx.set nv).kept (grownBy_putObj' _ D _) (fun e => hne (by cases e; rfl)), ?_⟩
  subst hR
  have hs := hb.size
  refine (hb.setCell (p := ⟨w.heap.size, 0, none⟩) (Nat.le_refl _) nv).grown (grownBy_putObj' _ D _) ?_ (fun k hk => by cases hk; exact hD)
  exact Nat.le_trans hs (grownBy_setCell' W2 w.heap.size nv).size
theorem ret_cell {fn : Func} {tmps : Array Value} {W : World} {R : Nat} {v e : Value} (h : fn.results = #[.cell 2 53, .tmp 3]) (h2 : tmps.getD 2 undef = .pointer (some ⟨R, 0, none⟩)) (h3 : tmps.getD 3 undef = e) (hbx : Boxed W R 53 v) :
    (results fn tmps).run Tryd.prog W = .ok (.tuple #[v, e]) W := by
  have hc := hbx.cell
  rw [results_cell_tmp h, h2, h3]
  simp [go_sem, Result.andThen, hc]
set_option maxRecDepth 100000 in
set_option maxHeartbeats 8000000 in
theorem as_List (s : ByteArray) (w : World) (hs : s.size ≤ 1000000) : Calls Tryd.prog 74 #[.string s] w (LstIs s.data.toList w) := by
  obtain ⟨i0, hi, hz0, hz1, hz2⟩ := info_parts vinfo_str
  have LD := Lib.hid fun w => as_listed s w
  have hN : (lstP s.data.toList).length ≤ s.size + 1 := by
    have h1 := lstG_len (cutG 44 [] s.data.toList)
    have h2 := cutG_len 44 s.data.toList []
    rw [size_toList] at h2
    exact Nat.le_trans h1 h2
  have HNB := Lib.hid hN
  clear hN
  refine (callsIn_wide (n := 3)).1 ?_
  refine callsIn_of_wp_marks Tryd.func74 rfl trivial ?_ rfl
  simp only [Tryd.ntmps74, List.size_toArray, List.length_cons, List.length_nil, Nat.reduceAdd, Nat.reduceSub, Array.replicate_succ, Array.replicate_zero, List.push_toArray, List.append_toArray, List.nil_append, List.cons_append]
  gi_wp2_with fail
  refine ⟨trivial, callsIn_wide.2 ((LD.out _).mono ?_)⟩
  rintro e w1 ⟨rfl, rfl⟩
  gi_wp2_with fail
  have bR := (Boxed.new w 53 (.slice none 0 0)).alloc (.cells #[.string s] 9)
  have bS := Boxed.new (w.alloc (.cells #[.slice none 0 0] 53)) 9 (.string s)
  rw [World.size_alloc] at bS
  have hB0 : Below w.heap.size w ((w.alloc (.cells #[.slice none 0 0] 53)).alloc (.cells #[.string s] 9)) := ((Below.refl _ w).alloc (Nat.le_refl _) _).alloc (by simp) _
  refine range_law (gf := 126) (lb := #[.pointer (some ⟨w.heap.size + 1, 0, none⟩)]) rfl (enters_of Tryd.func126 (by kernel_rfl) rfl) (B := w.heap.size + 1) (by simp) (encs := encL) (S := fun xs => xs = lstP s.data.toList) (Sp := fun _ => True) (N := (lstP s.data.toList).length)
    (listed1_seq (w.heap.size + 1) s _ hs bS) (fun _ => rfl) (LstI w.heap.size (w.heap.size + 1) w) (fun _ _ _ => False) (lstI_own rfl rfl (by simp; omega)) (fun _ _ _ _ _ h _ _ => h.elim) ⟨⟨_, bR, World.ownsRow_nil _ _ _ _⟩, hB0, by simp⟩
    (fun x => { tmps := #[.string s, undef, .pointer (some ⟨w.heap.size, 0, none⟩), .int .i64 0, .string ⟨x.toArray⟩, .string s, .func (.func 126) #[] #[.pointer (some ⟨w.heap.size + 1, 0, none⟩)], .string ⟨x.toArray⟩, undef, undef, undef, undef, undef, undef, undef, undef, undef, undef, undef, undef], defers := [] }) ?assign ?body ?done ?stop
  case assign =>
    intro l x W K hK
    obtain ⟨X, hX⟩ : ∃ X : ByteArray, ⟨x.toArray⟩ = X := ⟨_, rfl⟩
    rw [hX] at hK
    unfold encL
    rw [hX]
    gi_wp2_with fail
    exact hK
  case stop =>
    rintro D c pre W _ _ h _
    exact h.elim
  case body =>
    rintro l pre x W ⟨⟨v, hv, hrow⟩, hB, hL⟩ hlt
    have hc := hv.cell
    have hsz := hB.size
    have hHN := HNB.out
    have hsn := strV_snoc pre x
    obtain ⟨X, hX⟩ : ∃ X : ByteArray, ⟨x.toArray⟩ = X := ⟨_, rfl⟩
    rw [hX] at hsn ⊢
    have HV := Lib.hid hv
    have HR := Lib.hid hrow
    have HS := Lib.hid hsn
    clear hv hrow bR bS hX hsn
    gi_wp2_with (gi_at_builtin; refine wpListIn_append_own _ rfl _ _ 53 rfl (w.heap.size + 1 + 1) 9 i0 (.string ⟨#[]⟩) 1 16 Tryd.underlying53 hi hz0 hz1 hz2 rfl (by decide) _ _ _ rfl (HR.out.alloc _) ⟨W.heap.size, 0, none⟩ 1 1 [.string X] rfl rfl (one_new _ _ _) (by simp [Value.oneCell']) (by unfold maxLen; omega) (by omega) (by simp; omega) ?_; intro v' w1 hown' hgrow _; obtain ⟨g', cap', rfl⟩ := ownsRow_succ hown'; obtain ⟨hv1, hv2, hr2, hk2, hb2⟩ := HV.out.appended (by decide) (HR.out.mono (by omega : w.heap.size ≤ _)) hsz (Nat.le_refl _) (hown'.mono (by omega : w.heap.size ≤ _)) hgrow; have hc1 := hv1.cell; have hf1 := hv1.frozen)
    have hr3 := hown'.kept (grownBy_setCell' w1 w.heap.size (.slice (some ⟨g', 0, none⟩) (pre.length + 1) cap')) (.inr (hv1.not_row (by decide) hown').symm)
    have hkv : KeepV (w.heap.size + 1) W (w1.setCell ⟨w.heap.size, 0, none⟩ (.slice (some ⟨g', 0, none⟩) (pre.length + 1) cap')) := by
      refine ⟨hb2.size, ?_⟩
      rw [Below.heap_setCell _ _ _ (w.heap.size + 1) (by simp)]
      rw [hgrow.block (w.heap.size + 1) (by simp; omega) (row_low HR.out (by omega))]
      exact Below.heap_alloc _ _ _ hL
    exact ⟨hk2, hkv, ⟨⟨_, hv2, by rw [HS.out, List.length_append]; exact hr3⟩, hB.trans hb2, Nat.lt_of_lt_of_le hL hb2.size⟩⟩
  case done =>
    rintro D xs W hD rfl ⟨⟨v, hv, hrow⟩, hB, hL⟩ hK
    have hD' : w.heap.size ≤ D := by simp at hD; omega
    have hov := own_vals hrow
    have hsz := hB.size
    obtain ⟨a, cap, rfl, hz, hcells⟩ := hov
    rw [strV_len] at hv hrow
    obtain ⟨m, hm⟩ : ∃ m, (lstP s.data.toList).length = m := ⟨_, rfl⟩
    have HIV : Hid (IsVals (.slice a m cap) (strV (lstP s.data.toList)) W) := Lib.hid ⟨a, cap, by rw [strV_len, hm], hz, hcells⟩
    have hHN := HNB.out
    rw [hm] at hv hrow hHN
    have hc := hv.cell
    have hf := hv.frozen
    have HV := Lib.hid hv
    have HR := Lib.hid hrow
    have HM := Lib.hid hm
    have HK := Lib.hid hK
    clear hv hrow bR bS hcells hm hK hz
    by_cases h16 : 16 < m
    · have hE : lstE s.data.toList = 4 := by unfold lstE; rw [if_pos (by rw [HM.out]; exact h16)]
      have hVv : lstV s.data.toList = [] := by unfold lstV; rw [if_neg (by rw [hE]; decide)]
      have HE := Lib.hid (And.intro hE hVv)
      clear hE hVv
      have g1 : (16 : Int) < m := by omega
      gi_wp2_with fail
      obtain ⟨k1, k2, k3⟩ := lst_end rfl hB HV.out HK.out hD' (.slice none 0 0)
      refine ⟨by simp, .inl ⟨_, _, rfl, run_takeDeferred k1, ?_⟩⟩
      exact ⟨_, ret_cell rfl rfl rfl k2, .slice none 0 0, by rw [HE.out.1]; rfl, by rw [HE.out.2]; exact IsVals.nil _, k3⟩
    · have g1 : ¬ (16 : Int) < m := by omega
      have hxb : ∀ x ∈ lstP s.data.toList, x.length ≤ 1000000 := fun x hx => by
        have := lstP_bound hx
        rw [size_toList] at this
        omega
      have H := has_lst (.slice a m cap) (lstP s.data.toList) m HM.out (by omega) hxb W HIV.out
      cases hall : (lstP s.data.toList).all tok with
      | true =>
        have hE : lstE s.data.toList = 0 := by unfold lstE; rw [if_neg (by rw [HM.out]; exact h16), hall]; rfl
        have hVv : lstV s.data.toList = lstP s.data.toList := by unfold lstV; rw [if_pos hE]
        rw [hall] at H
        have HE := Lib.hid (And.intro hE hVv)
        have HH := Lib.hid H
        clear hE hVv hxb H hall
        gi_wp2_with fail
        refine ⟨trivial, callsIn_wide.2 (HH.out.mono ?_)⟩
        rintro e w2 ⟨rfl, hb2⟩
        have hv2 := boxed_below HV.out hb2
        have hc2 := hv2.cell
        have hf2 := hv2.frozen
        have HV2 := Lib.hid hv2
        have HR2 := Lib.hid (own_below HR.out hb2)
        have HK2 := Lib.hid ((hb2.block D (lt_of_get HK.out)).trans HK.out)
        have hB2 := hB.trans (hb2.mono hsz)
        clear hv2
        gi_wp2_with fail
        obtain ⟨k1, k2, k3⟩ := lst_end rfl hB2 HV2.out HK2.out hD' (.slice a m cap)
        refine ⟨by simp, .inl ⟨_, _, rfl, run_takeDeferred k1, ?_⟩⟩
        refine ⟨_, ret_cell rfl rfl rfl k2, .slice a m cap, by rw [HE.out.1]; rfl, ?_, k3⟩
        rw [HE.out.2]
        exact own_vals (ownsRow_putObj (HR2.out.kept (grownBy_setCell' w2 w.heap.size _) (.inr (HV2.out.not_row (by decide) HR2.out).symm)) _ k1 rfl)
      | false =>
        have hE : lstE s.data.toList = 8 := by unfold lstE; rw [if_neg (by rw [HM.out]; exact h16), hall]; rfl
        have hVv : lstV s.data.toList = [] := by unfold lstV; rw [if_neg (by rw [hE]; decide)]
        rw [hall] at H
        have HE := Lib.hid (And.intro hE hVv)
        have HH := Lib.hid H
        clear hE hVv hxb H hall
        gi_wp2_with fail
        refine ⟨trivial, callsIn_wide.2 (HH.out.mono ?_)⟩
        rintro e w2 ⟨rfl, hb2⟩
        have hv2 := boxed_below HV.out hb2
        have hc2 := hv2.cell
        have hf2 := hv2.frozen
        have HV2 := Lib.hid hv2
        have HK2 := Lib.hid ((hb2.block D (lt_of_get HK.out)).trans HK.out)
        have hB2 := hB.trans (hb2.mono hsz)
        clear hv2
        gi_wp2_with fail
        obtain ⟨k1, k2, k3⟩ := lst_end rfl hB2 HV2.out HK2.out hD' (.slice none 0 0)
        refine ⟨by simp, .inl ⟨_, _, rfl, run_takeDeferred k1, ?_⟩⟩
        exact ⟨_, ret_cell rfl rfl rfl k2, .slice none 0 0, by rw [HE.out.1]; rfl, by rw [HE.out.2]; exact IsVals.nil _, k3⟩
end Go.Proofs.YtnfgpcccmbblcaaDoor
