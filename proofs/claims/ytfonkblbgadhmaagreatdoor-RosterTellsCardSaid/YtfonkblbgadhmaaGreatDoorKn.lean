/- RoK, RoL, RoS, RoT, RoU: put together by mergetpl.py. -/
import Derived.Test.YtfonkblbgadhmaaGreatDoorKm
namespace Go.Proofs.YtfonkblbgadhmaaGreatDoor
open Go.RowKit Go.Lib

/-- 'clear(s[i:])' of a row of the call's own. -/
theorem run_clear_own {P : Program} (w : World) (B g n cap size i : Nat) (t e : TypeId) (z : Value) (xs : List Value) (ht : P.underlying t = some (.slice e)) (hv : ∀ w, (zeroValue e).run P w = .ok z w) (hz : z.cells.size = size)
    (h1 : ∀ u ∈ z.cells.toList, u.oneCell' = true) (hown : w.ownsRow B e size (.slice (some ⟨g, 0, none⟩) n cap) n xs) (hi : i < n) :
    ∃ w', (∀ ty, (Builtin.clear_ #[t] ty #[.slice (some ⟨g, i * size, none⟩) (n - i) (cap - i)]).run P w = .ok (.tuple #[]) w') ∧ w'.ownsRow B e size (.slice (some ⟨g, 0, none⟩) i cap) i (xs.take (i * size)) ∧ w.grownBy w' (some g) := by
  rcases hown.2 with ⟨h, _⟩ | ⟨g', cap', cur, h, hbg, hg, hnc, hcm, hcs, htake⟩
  · simp at h
  · simp only [Value.slice.injEq, Option.some.injEq, Addr.mk.injEq, and_true, true_and] at h
    obtain ⟨rfl, rfl⟩ := h
    have hl : (Builtin.zeroCells z.cells (n - i)).toList.length = (n - i) * size := by rw [Array.length_toList, size_zeroCells, hz]
    have hone : ∀ v ∈ (Builtin.zeroCells z.cells (n - i)).toList, v.oneCell' = true := by
      intro v hv'
      simp only [Builtin.zeroCells, Array.toList_map, List.mem_map, Array.toList_range] at hv'
      obtain ⟨j, hj, rfl⟩ := hv'
      have hj2 := List.mem_range.1 hj
      have hs0 : 0 < z.cells.size := by
        rcases Nat.eq_zero_or_pos z.cells.size with h | h
        · rw [h, Nat.mul_zero] at hj2; omega
        · exact h
      have hm : j % z.cells.size < z.cells.size := Nat.mod_lt _ hs0
      rw [getElem!_pos z.cells (j % z.cells.size) hm]
      exact h1 _ (by simp)
    have hsum : i * size + (n - i) * size = n * size := by rw [← Nat.add_mul]; congr 1; omega
    have hle : n * size ≤ cap * size := Nat.mul_le_mul_right _ hnc
    have hst := run_storeCells_at P g (i * size) e (Builtin.zeroCells z.cells (n - i)).toList 0 cur w hg (by rw [hl, hcs]; omega) hone
    simp only [Nat.add_zero] at hst
    obtain ⟨m, hm⟩ : ∃ m, n - i = m + 1 := ⟨n - i - 1, by omega⟩
    refine ⟨w.setRow g (cur.toList.take (i * size) ++ (Builtin.zeroCells z.cells (n - i)).toList ++ cur.toList.drop (i * size + (Builtin.zeroCells z.cells (n - i)).toList.length)).toArray, ?_, ⟨?_, .inr ⟨g, cap, _, rfl, hbg, setRow_heap w g cur _ e _ hg, by omega, hcm, ?_, ?_⟩⟩, ⟨rfl, rfl, rfl, by simp [World.setRow], fun k _ hk => setRow_other w g k _ (fun e => hk (by simp [e]))⟩⟩
    · intro ty
      rw [hm] at hst ⊢
      simp [Builtin.clear_, run_underlying ht, hv, hst]
    · rw [List.length_take, hown.1]
      exact Nat.min_eq_left (by omega)
    · simp only [List.size_toArray, List.length_append, List.length_take, List.length_drop, Array.length_toList, hcs, size_zeroCells, hz]
      omega
    · rw [List.append_assoc, List.take_append_of_le_length (by rw [List.length_take, Array.length_toList, hcs]; omega), List.take_take, Nat.min_self, ← htake, List.take_take, Nat.min_eq_left (by omega)]
theorem filter_idx {q : It → Bool} {M : List Im} {k : Nat} (hk : k < M.length) (hn : (M.take k).any (fun p => q p.1) = false) (h : q (M[k]).1 = true) : (M.take (k + 1)).filter (fun p => !q p.1) = M.take k := by
  rw [List.take_succ_eq_append_getElem hk, List.filter_append]
  have e1 : (M.take k).filter (fun p => !q p.1) = M.take k := List.filter_eq_self.2 fun p hp => by
    have := List.any_eq_false.1 hn p hp
    simpa using this
  rw [e1]
  simp [h]
theorem idxQ_cases (q : It → Bool) (M : List Im) : (idxQ q (M.map Prod.fst) = -1 ∧ M.filter (fun p => !q p.1) = M) ∨ ∃ k, ∃ h : k < M.length, idxQ q (M.map Prod.fst) = k ∧ (M.take k).any (fun p => q p.1) = false ∧ q (M[k]).1 = true := by
  unfold idxQ
  cases h : (M.map Prod.fst).findIdx? q with
  | none =>
    rw [List.findIdx?_eq_none_iff] at h
    refine .inl ⟨rfl, List.filter_eq_self.2 fun p hp => ?_⟩
    have := h p.1 (List.mem_map_of_mem hp)
    simpa using this
  | some k =>
    obtain ⟨hk, h1, h2⟩ := List.findIdx?_eq_some_iff_getElem.1 h
    rw [List.length_map] at hk
    rw [List.getElem_map] at h1
    refine .inr ⟨k, hk, rfl, ?_, h1⟩
    rw [List.any_eq_false]
    intro p hp
    obtain ⟨j, hj, rfl⟩ := List.mem_iff_getElem.1 hp
    rw [List.length_take] at hj
    have := h2 j (by omega)
    rw [List.getElem_map] at this
    rw [List.getElem_take]
    simpa using this
end Go.Proofs.YtfonkblbgadhmaaGreatDoor
namespace Go.Proofs.YtfonkblbgadhmaaGreatDoor
open Go.RowKit Go.Lib

def PredAll (f : Value) (q : It → Bool) : Prop := ∃ g lb, f = .func (.func g) #[] lb ∧ (∀ args w, (callFunc g args).run Tryz.prog w = .ok (.enter g args) w) ∧ ∀ (p : Im) (W : World), Calls Tryz.prog g (#[itA p] ++ lb) W (Ret W (.bool (q p.1)))
theorem PredAll.is {f : Value} {q : It → Bool} (h : PredAll f q) (M : List Im) (w : World) : PredIs f q M w := by
  obtain ⟨g, lb, h1, h2, h3⟩ := h
  exact ⟨g, lb, h1, h2, fun p _ W _ => h3 p W⟩
/-- the row, in place or in new memory, of these contacts. -/
def RowIs (B : Nat) (w : World) (N : List Im) (e : Ending) (w' : World) : Prop := ∃ a c, e = .returned (.slice a N.length c) ∧ OwnItems B (.slice a N.length c) N w' ∧ Below B w w'
theorem zero_item : ∀ w, (zeroValue 31).run Tryz.prog w = .ok (.agg #[.string ⟨#[]⟩, .string ⟨#[]⟩, .slice none 0 0, .bool false, .bool false, .bool false, .bool false, .bool false]) w := by
  intro w
  simp [go_sem]
theorem run_clearI (w : World) (B g n cap i : Nat) (M : List Im) (hown : w.ownsRow B 31 8 (.slice (some ⟨g, 0, none⟩) n cap) n (itV M)) (hi : i < n) :
    ∃ w', (∀ ty, (Builtin.clear_ #[22] ty #[.slice (some ⟨g, i * 8, none⟩) (n - i) (cap - i)]).run Tryz.prog w = .ok (.tuple #[]) w') ∧ w'.ownsRow B 31 8 (.slice (some ⟨g, 0, none⟩) i cap) i (itV (M.take i)) ∧ w.grownBy w' (some g) := by
  rw [itV_take]
  exact run_clear_own w B g n cap 8 i _ _ _ _ Tryz.underlying22 zero_item rfl (by intro u hu; simp [Value.cells] at hu; rcases hu with rfl | rfl | rfl <;> rfl) hown hi
theorem set_take_drop {α : Type _} {X : List α} {i : Nat} (hi : i < X.length) (p : α) (j : Nat) (hij : i ≤ j) : (X.set i p).take (i + 1) = X.take i ++ [p] ∧ (X.set i p).drop (j + 1) = X.drop (j + 1) := by
  refine ⟨?_, List.drop_set_of_lt (by omega)⟩
  rw [List.take_succ_eq_append_getElem (by simpa using hi), List.getElem_set_self, List.take_set_of_le (Nat.le_refl _)]
theorem filter_snoc {q : It → Bool} {M : List Im} {j : Nat} (h : j < M.length) (p : Im) (hp : M[j] = p) : (q p.1 = true → (M.take (j + 1)).filter (fun p => !q p.1) = (M.take j).filter (fun p => !q p.1)) ∧ (q p.1 = false → (M.take (j + 1)).filter (fun p => !q p.1) = (M.take j).filter (fun p => !q p.1) ++ [p]) := by
  rw [List.take_succ_eq_append_getElem h, List.filter_append, hp]
  exact ⟨fun e => by simp [e], fun e => by simp [e]⟩
set_option maxHeartbeats 4000000 in
set_option maxRecDepth 100000 in
theorem sl_DeleteFunc (v f : Value) (q : It → Bool) (M : List Im) (B : Nat) (w : World) (hv : OwnItems B v M w) (hB : B ≤ w.heap.size) (hM : M.length ≤ 100000) (hf : PredAll f q) :
    Calls Tryz.prog 38 #[v, f] w (RowIs B w (M.filter fun p => !q p.1)) := by
  have IX := Lib.hid (sl_IndexFunc v f q M w hv.items hM (hf.is M w))
  obtain ⟨g, lb, rfl, eg, hg⟩ := hf
  obtain ⟨a, cap, rfl, hcap⟩ := row_form hv.1
  obtain ⟨L, hL⟩ : ∃ L, M.length = L := ⟨_, rfl⟩
  rw [hL] at hv hM IX hcap ⊢
  rcases idxQ_cases q M with ⟨e, hall⟩ | ⟨k, hk, e, hno, hyes⟩
  · rw [e] at IX
    rw [hall]
    have HV := Lib.hid hv
    have HL := Lib.hid hL
    clear e hall hL hg hv
    go_enter Tryz.func38, Tryz.ntmps38
    go_wp2_with fail
    refine IX.out.mono ?_
    rintro e w3 ⟨rfl, hb⟩
    go_wp2_with fail
    go_ret
    exact ⟨a, cap, by rw [HL.out]; rfl, by rw [HL.out]; exact HV.out.ret hb, hb.mono hB⟩
  · rw [e] at IX
    have hkL : k < L := by omega
    obtain ⟨b, rfl, -, hbB, hbl⟩ := own_some hv.1 (by omega)
    have h0 := filter_idx hk hno hyes
    obtain ⟨N, hN⟩ : ∃ N, M.filter (fun p => !q p.1) = N := ⟨_, rfl⟩
    rw [hN]
    have HN := Lib.hid hN
    have HL := Lib.hid hL
    have HV := Lib.hid hv
    have H0 := Lib.hid h0
    have HG := Lib.hid hg
    clear e hno hyes hL hN hg hv h0
    go_enter Tryz.func38, Tryz.ntmps38
    go_wp2_with fail
    refine IX.out.mono ?_
    rintro e w3 ⟨rfl, hb⟩
    have HV3 := Lib.hid (HV.out.ret hb)
    have hb3 := hb.mono hB
    have hs3 := hb.size
    clear hb
    go_wp2_with fail
    go_loopw [5, 6] (fun i j wx => ∃ (I J : Nat) (X : List Im), I < J ∧ J ≤ L ∧ i = .int .i64 I ∧ j = .int .i64 J ∧ X.length = L ∧ X.take I = (M.take J).filter (fun p => !q p.1) ∧ X.drop J = M.drop J ∧ wx.ownsRow B 31 8 (.slice (some ⟨b, 0, none⟩) L cap) L (itV X) ∧ (∀ p ∈ M, wx.ownsRow B 9 1 (gvI p) p.1.g.length (strV p.1.g)) ∧ Below B w wx) (fun _ j _ => L - (intOf j).toNat)
    case atStart => exact ⟨k, k + 1, M, by omega, by omega, rfl, by go_num, HL.out, H0.out.symm, rfl, by have := HV3.out.1; rwa [HL.out] at this, HV3.out.2, hb3⟩
    case round =>
      obtain ⟨I, J, X, hIJ, hJ, rfl, rfl, hXl, hXt, hXd, o0, n0, q0⟩ := hrel
      have hws := q0.size
      by_cases hlt : J < L
      · have hJM : J < M.length := by rw [HL.out]; exact hlt
        obtain ⟨p, hp⟩ : ∃ p, M[J] = p := ⟨_, rfl⟩
        have hXJ : X[J]? = some p := by
          have h1 : (X.drop J)[0]? = (M.drop J)[0]? := by rw [hXd]
          rw [List.getElem?_drop, List.getElem?_drop, Nat.add_zero, List.getElem?_eq_getElem hJM, hp] at h1
          exact h1
        have hfs := filter_snoc (q := q) hJM p hp
        obtain ⟨i0, i1, i2, i3, i4, i5, i6, i7⟩ := own_cells o0 J hlt hXl p hXJ
        have al := (Below.refl wr.heap.size wr).alloc (Nat.le_refl _) (.cells (itC p).toArray 31)
        have x1 := It8.new wr (.string ⟨p.1.j.toArray⟩) (.string ⟨p.1.n.toArray⟩) (gvI p) (.bool p.1.s.1) (.bool p.1.s.2.1) (.bool p.1.s.2.2.1) (.bool p.1.s.2.2.2) (.bool p.1.k) 31
        have bb : b < wr.heap.size := by omega
        have hBr : B ≤ wr.heap.size := by omega
        have AL : Hid (Below wr.heap.size wr (wr.alloc (.cells (itC p).toArray 31))) := Lib.hid al
        have X1 := Lib.hid x1
        have CH := Lib.hid (HG.out p)
        have O0 := Lib.hid o0
        have N0 := Lib.hid n0
        have XL := Lib.hid hXl
        have XT := Lib.hid hXt
        have XD := Lib.hid hXd
        have Q0 := Lib.hid q0
        clear hp hXJ al x1 o0 n0 hXl hXt hXd q0
        obtain ⟨x, hx⟩ : ∃ x, q p.1 = x := ⟨_, rfl⟩
        rw [hx] at CH hfs
        have FS := Lib.hid hfs
        clear hx hfs
        obtain ⟨l, d0, d1, d2, d3, d4, d5, d6, d7, g0, g1, g2, g3, g4, g5, g6, g7⟩ := X1.out
        cases x with
        | true =>
          go_wp2_with (go_at_fn g; refine (CH.out _).mono ?_; rintro e w1 ⟨rfl, hb⟩)
          go_wp2_with fail
          (refine ⟨?_, ?measure⟩; (repeat apply Exists.intro); refine ⟨?rel, rfl⟩)
          case rel =>
            have ht := AL.out.trans (hb.mono AL.out.size)
            exact ⟨I, J + 1, X, by omega, by omega, rfl, by go_num, XL.out, by rw [FS.out.1 (by first | exact rfl | exact trivial)]; exact XT.out, by rw [← List.drop_drop, XD.out, List.drop_drop], own_below O0.out ht, fun p hp => own_below (N0.out p hp) ht, Q0.out.trans (ht.mono hBr)⟩
          case measure => simp [intOf]; omega
        | false =>
          have hI : I < L := by omega
          obtain ⟨pI, hpI⟩ : ∃ pI, X[I]? = some pI := ⟨_, List.getElem?_eq_getElem (by rw [XL.out]; exact hI)⟩
          have PI := Lib.hid hpI
          clear hpI
          go_wp2_with (
            go_at_fn g
            refine (CH.out _).mono ?_
            rintro e w1 ⟨rfl, hb⟩
            clear l d0 d1 d2 d3 d4 d5 d6 d7 g0 g1 g2 g3 g4 g5 g6 g7 i0 i1 i2 i3 i4 i5 i6 i7
            have x2 := X1.out.ret hb
            have ht := AL.out.trans (hb.mono AL.out.size)
            have o2 := own_below O0.out ht
            have j0 := o2.frozenAt (I * 8)
            have j1 := o2.frozenAt (I * 8 + 1)
            have j2 := o2.frozenAt (I * 8 + 2)
            have j3 := o2.frozenAt (I * 8 + 3)
            have j4 := o2.frozenAt (I * 8 + 4)
            have j5 := o2.frozenAt (I * 8 + 5)
            have j6 := o2.frozenAt (I * 8 + 6)
            have j7 := o2.frozenAt (I * 8 + 7)
            obtain ⟨m0, m1, m2, m3, m4, m5, m6, m7⟩ := own_cells o2 I hI XL.out pI PI.out
            have HT := Lib.hid ht
            have O2 := Lib.hid o2
            clear hb ht o2
            obtain ⟨l, d0, d1, d2, d3, d4, d5, d6, d7, g0, g1, g2, g3, g4, g5, g6, g7⟩ := x2)
          clear l d0 d1 d2 d3 d4 d5 d6 d7 g0 g1 g2 g3 g4 g5 g6 g7 j0 j1 j2 j3 j4 j5 j6 j7 m0 m1 m2 m3 m4 m5 m6 m7
          (refine ⟨?_, ?measure⟩; (repeat apply Exists.intro); refine ⟨?rel, rfl⟩)
          case rel =>
            have o3 := row_store8 O2.out XL.out I hI p
            have hst := set_take_drop (X := X) (i := I) (by rw [XL.out]; exact hI) p J (by omega)
            refine ⟨I + 1, J + 1, X.set I p, by omega, by omega, by go_num, by go_num, by rw [List.length_set]; exact XL.out, by rw [FS.out.2 (by first | exact rfl | exact trivial), hst.1, XT.out], by rw [hst.2, ← List.drop_drop, XD.out, List.drop_drop], o3, fun p' hp' => ?_, ?_⟩
            · have h1 := own_below (N0.out p' hp') HT.out
              exact grp_far h1 (own_apart O2.out h1)
            · exact st8_below (Q0.out.trans (HT.out.mono hBr)) hbB
          case measure => simp [intOf]; omega
      · obtain rfl : J = L := by omega
        have hM2 : M.take J = M := List.take_of_length_le (by rw [HL.out]; exact Nat.le_refl _)
        rw [hM2, HN.out] at hXt
        obtain ⟨w', he, hown, hgrow⟩ := run_clearI wr B b J cap I X o0 hIJ
        rw [hXt] at hown
        have hNl : N.length = I := by rw [← hXt, List.length_take, hXl]; omega
        have HOW := Lib.hid hown
        have HGR := Lib.hid hgrow
        have N0 := Lib.hid n0
        have O0 := Lib.hid o0
        have NL := Lib.hid hNl
        have Q0 := Lib.hid q0
        have hIc : I ≤ cap := by omega
        clear hown hgrow n0 o0 hXt hXd hXl hNl hM2 q0
        go_wp2_with fail
        go_ret
        refine ⟨_, cap, by rw [NL.out]; rfl, ⟨by rw [NL.out]; exact HOW.out, fun p hp => ?_⟩, ?_⟩
        · have hpM : p ∈ M := by rw [← HN.out] at hp; exact (List.mem_filter.1 hp).1
          have h1 := N0.out p hpM
          have h2 := own_apart O0.out h1
          refine h1.kept HGR.out ?_
          cases hv : (gvI p).ownBlock with
          | none => exact .inl rfl
          | some b' => exact .inr (by rw [← hv]; exact h2)
        · exact Q0.out.grown HGR.out (by omega) (fun k hk => by cases hk; exact hbB)
end Go.Proofs.YtfonkblbgadhmaaGreatDoor
namespace Go.Proofs.YtfonkblbgadhmaaGreatDoor
open Go.RowKit Go.Lib

def shownL (L : List It) (ver : Int) : List It := if mayR L ver then L.filter fun x => x.k else []
def ShownIs (w : World) (L : List It) (ver : Int) (e : Ending) (w' : World) : Prop := ∃ a c, e = .returned (.tuple #[.slice a (shownL L ver).length c, .int .i64 (if mayR L ver then 0 else 8)]) ∧ OwnR w (shownL L ver) (.slice a (shownL L ver).length c) w'
theorem all_Shown : PredAll (.func (.func 39) #[] #[]) (fun x => !x.k) := ⟨_, _, rfl, e_Shown1, fun p W => ro_Shown1 p W⟩
theorem map_filterK (M : List Im) : (M.filter fun p => p.1.k).map Prod.fst = (M.map Prod.fst).filter fun x => x.k := by
  rw [List.filter_map]
  rfl
theorem fld_items (a : Option Addr) (n c : Nat) (ver : Int) (w : World) : (Instr.field 24 (.agg #[.slice a n c, .int .i64 ver]) 0).run Tryz.prog w = .ok (.slice a n c) w := by
  simp [Instr.field, go_sem]
  rfl
set_option maxHeartbeats 1000000 in
set_option maxRecDepth 100000 in
theorem ro_Shown (v : Value) (ver : Int) (M : List Im) (w : World) (hv : IsItems v M w) (hs : SmallI M) (hm : ML w) :
    Calls Tryz.prog 12 #[.agg #[v, .int .i64 ver]] w (ShownIs w (M.map Prod.fst) ver) := by
  obtain ⟨a, cap, hf, hnil⟩ := hv.form
  obtain ⟨L, hL⟩ : ∃ L, M.length = L := ⟨_, rfl⟩
  have hL16 := hs.1
  rw [hL] at hf hL16
  subst hf
  have r0 := Two.new w (.slice a L cap) (.int .i64 ver) 24
  have q0 := (Below.refl w.heap.size w).alloc (Nat.le_refl _) (.cells #[.slice a L cap, .int .i64 ver] 24)
  obtain ⟨W, hW⟩ : ∃ W, w.alloc (.cells #[.slice a L cap, .int .i64 ver] 24) = W := ⟨_, rfl⟩
  have s0 : W.heap.size = w.heap.size + 1 := by rw [← hW]; simp
  rw [hW] at r0 q0
  have hv1 := hv.ret q0
  have CK := Lib.hid (ro_Check (.slice a L cap) ver M W hv1 hs (hm.ret q0))
  have TW := Lib.hid fun (W' : World) (hb : Below W.heap.size W W') => ro_Twin (.slice a L cap) ver M W' (hv1.ret hb) hs.1 (fun p hp => (hs.2 p hp).2.2.1)
  have HW := Lib.hid hW
  have S0 := Lib.hid s0
  have HM : Hid (M.length ≤ 1000) := Lib.hid hs.1
  clear hW s0 hv hv1 hs hm hnil hL
  unfold ShownIs shownL
  obtain ⟨l, c0, c1, f0, f1⟩ := id r0
  cases hmay : mayR (M.map Prod.fst) ver with
  | false =>
    rw [hmay] at CK
    simp only [Bool.false_eq_true, if_false] at CK ⊢
    clear hmay
    go_enter Tryz.func12, Tryz.ntmps12
    go_wp2_with fail
    rw [HW.out]
    go_wp2_with (refine CK.out.mono ?_; rintro e w3 ⟨rfl, hb⟩)
    go_ret2
    exact ⟨none, 0, rfl, [], rfl, OwnItems.nil _ _, q0.trans (hb.mono q0.size)⟩
  | true =>
    rw [hmay] at CK
    simp only [if_true] at CK ⊢
    clear hmay
    go_enter Tryz.func12, Tryz.ntmps12
    go_wp2_with fail
    rw [HW.out]
    go_wp2_with fail
    refine CK.out.mono ?_
    rintro e w3 ⟨rfl, hb⟩
    clear l c0 c1 f0 f1
    obtain ⟨l, c0, c1, f0, f1⟩ := r0.ret hb
    have q3 := q0.trans (hb.mono q0.size)
    have T3 := Lib.hid (TW.out w3 hb)
    clear hb
    go_wp2_with fail
    refine T3.out.mono ?_
    rintro e w4 ⟨a', c', rfl, N, hN, hown, hb⟩
    have q4 := q3.trans (hb.mono q3.size)
    clear l c0 c1 f0 f1
    have hlen : N.length = M.length := by rw [← List.length_map (f := Prod.fst), hN, List.length_map]
    have DF := Lib.hid (sl_DeleteFunc _ (.func (.func 39) #[] #[]) (fun x => !x.k) N w.heap.size w4 (hown.mono q3.size) q4.size (by rw [hlen]; have := HM.out; omega) all_Shown)
    simp only [Bool.not_not] at DF
    have HN := Lib.hid hN
    rw [List.length_map] at DF
    have fl := fun w => fld_items a' M.length c' ver w
    clear hb hown hN hlen
    go_wp2_with fail
    refine DF.out.mono ?_
    rintro e w5 ⟨a5, c5, rfl, hown, hb⟩
    have HO := Lib.hid hown
    clear hown
    go_wp2_with fail
    go_ret2
    have e1 := map_filterK N
    rw [HN.out] at e1
    rw [← e1, List.length_map]
    exact ⟨a5, c5, rfl, _, rfl, HO.out, q4.trans hb⟩
end Go.Proofs.YtfonkblbgadhmaaGreatDoor
namespace Go.Proofs.YtfonkblbgadhmaaGreatDoor
open Go.RowKit Go.Lib

/-- a contact of these, or none. -/
def F21 (w : World) (M : List Im) (t : List UInt8) (e : Ending) (w' : World) : Prop := Below w.heap.size w w' ∧
  ((∃ p ∈ M, findL (M.map Prod.fst) t = some p.1 ∧ e = .returned (.tuple #[itA p, .bool true])) ∨ (findL (M.map Prod.fst) t = none ∧ e = .returned (.tuple #[itA (it0, (none, 0)), .bool false])))
theorem find_hit {L : List It} {t : List UInt8} {k : Nat} (hk : k < L.length) (hn : (L.take k).any (fun x => x.j == t) = false) (h : (L[k].j == t) = true) : findL L t = some L[k] := by
  unfold findL
  rw [List.find?_eq_some_iff_getElem]
  refine ⟨h, k, hk, rfl, fun j hj => ?_⟩
  have := List.any_eq_false.1 hn (L[j]'(by omega)) (by
    rw [List.mem_iff_getElem]
    exact ⟨j, by rw [List.length_take]; omega, by rw [List.getElem_take]⟩)
  simpa using this
theorem find_miss {L : List It} {t : List UInt8} (h : L.any (fun x => x.j == t) = false) : findL L t = none := by
  unfold findL
  rw [List.find?_eq_none]
  intro x hx
  exact List.any_eq_false.1 h x hx
set_option maxHeartbeats 2000000 in
set_option maxRecDepth 100000 in
theorem r21_Find (v : Value) (ver : Int) (M : List Im) (t : ByteArray) (w : World) (hv : IsItems v M w) (hM : M.length ≤ 1000) :
    Calls Tryz.prog 11 #[.agg #[v, .int .i64 ver], .string t] w (F21 w M t.data.toList) := by
  obtain ⟨a0, cap0, hf, -⟩ := hv.form
  obtain ⟨L, hL⟩ : ∃ L, M.length = L := ⟨_, rfl⟩
  rw [hL] at hf hM
  subst hf
  have r0 := Two.new w (.slice a0 L cap0) (.int .i64 ver) 24
  have q0 := (Below.refl w.heap.size w).alloc (Nat.le_refl _) (.cells #[.slice a0 L cap0, .int .i64 ver] 24)
  obtain ⟨W0, hW0⟩ : ∃ W, w.alloc (.cells #[.slice a0 L cap0, .int .i64 ver] 24) = W := ⟨_, rfl⟩
  have s0 : W0.heap.size = w.heap.size + 1 := by rw [← hW0]; simp
  rw [hW0] at r0 q0
  have al2 := (Below.refl W0.heap.size W0).alloc (Nat.le_refl _) (.cells #[.string ⟨#[]⟩, .string ⟨#[]⟩, .slice none 0 0, .bool false, .bool false, .bool false, .bool false, .bool false] 31)
  have z2 := It8.new W0 (.string ⟨#[]⟩) (.string ⟨#[]⟩) (.slice none 0 0) (.bool false) (.bool false) (.bool false) (.bool false) (.bool false) 31
  have r2 := r0.ret al2
  have q2 := q0.trans (al2.mono q0.size)
  obtain ⟨W2, hW2⟩ : ∃ W, W0.alloc (.cells #[.string ⟨#[]⟩, .string ⟨#[]⟩, .slice none 0 0, .bool false, .bool false, .bool false, .bool false, .bool false] 31) = W := ⟨_, rfl⟩
  have s2 : W2.heap.size = w.heap.size + 2 := by rw [← hW2]; simp; omega
  rw [hW2] at z2 r2 q2
  rw [s0] at z2
  have HW : Hid ((w.alloc (.cells #[.slice a0 L cap0, .int .i64 ver] 24)).alloc (.cells #[.string ⟨#[]⟩, .string ⟨#[]⟩, .slice none 0 0, .bool false, .bool false, .bool false, .bool false, .bool false] 31) = W2) := Lib.hid (by rw [hW0, hW2])
  have HV := Lib.hid (hv.ret q2)
  have HL := Lib.hid hL
  have S2 := Lib.hid s2
  have hl2 : (M.map Prod.fst).length = L := by rw [List.length_map, hL]
  have HL2 := Lib.hid hl2
  have hEq : ∀ x ∈ M, M = M := fun _ _ => rfl
  clear hW0 hW2 s0 s2 al2 r0 q0 hv hL hl2 hEq
  go_enter Tryz.func11, Tryz.ntmps11
  go_wp2_with fail
  rw [HW.out]
  go_loopw [6] (fun i wx => ∃ k : Nat, k ≤ L ∧ i = .int .i64 k ∧ ((M.map Prod.fst).take k).any (fun x => x.j == t.data.toList) = false ∧ wx = W2) (fun i _ => L - (intOf i).toNat)
  case atStart => exact ⟨0, Nat.zero_le _, rfl, rfl, rfl⟩
  case round =>
    obtain ⟨k, hk, rfl, hany, rfl⟩ := hrel
    obtain ⟨l, c0, c1, f0, f1⟩ := id r2
    by_cases hlt : k < L
    · have hkM : k < M.length := by rw [HL.out]; exact hlt
      obtain ⟨b, off, cp, hf, hb0, hc⟩ := HV.out.cell hkM
      rw [HL.out] at hf
      simp only [Value.slice.injEq, true_and] at hf
      obtain ⟨rfl, rfl⟩ := hf
      have hkm : k < (M.map Prod.fst).length := by rw [HL2.out]; exact hlt
      have hsn : ((M.map Prod.fst).take (k + 1)).any (fun x => x.j == t.data.toList) = (M[k].1.j == t.data.toList) := by
        rw [List.take_succ_eq_append_getElem hkm, List.any_append, hany]
        simp
      have hat : (M[k].1.j == t.data.toList) = true → findL (M.map Prod.fst) t.data.toList = some M[k].1 := fun h => by
        have := find_hit hkm hany (by rw [List.getElem_map]; exact h)
        rwa [List.getElem_map] at this
      have hmem := List.getElem_mem hkM
      obtain ⟨p, hp⟩ : ∃ p, M[k] = p := ⟨_, rfl⟩
      rw [hp] at hc hsn hat hmem
      obtain ⟨i0, i1, i2, i3, i4, i5, i6, i7⟩ := hc
      have h2 : (p.1.j == t.toList) = (p.1.j == t.data.toList) := by rw [Lib.toList_data]
      obtain ⟨x, hx⟩ : ∃ x, (p.1.j == t.data.toList) = x := ⟨_, rfl⟩
      rw [hx] at hsn hat h2
      have HS := Lib.hid hsn
      have HA := Lib.hid hat
      have HP := Lib.hid hmem
      obtain ⟨m, d0, d1, d2, d3, d4, d5, d6, d7, g0, g1, g2, g3, g4, g5, g6, g7⟩ := id z2
      have Z2 := Lib.hid z2
      have Q2 := Lib.hid q2
      clear hp hkm hsn hat hx hany hmem z2 q2
      cases x with
      | true =>
        go_wp2_with fail
        refine bodyPost_ret (ret_item2 rfl rfl rfl (Z2.out.store)) rfl ⟨st8_below Q2.out (by omega), .inl ⟨p, HP.out, HA.out (by first | exact rfl | exact trivial), rfl⟩⟩
      | false =>
        go_wp2_with fail
        go_roundw
        case rel => exact ⟨k + 1, by omega, by go_num, HS.out, (by first | exact rfl | trivial)⟩
        case measure => simp [intOf]; omega
    · have he : (M.map Prod.fst).take k = M.map Prod.fst := List.take_of_length_le (by rw [HL2.out]; omega)
      rw [he] at hany
      have HA := Lib.hid (find_miss hany)
      obtain ⟨m, d0, d1, d2, d3, d4, d5, d6, d7, g0, g1, g2, g3, g4, g5, g6, g7⟩ := id z2
      have Z2 := Lib.hid z2
      have Q2 := Lib.hid q2
      clear hany he z2 q2
      go_wp2_with fail
      refine bodyPost_ret (ret_item2 rfl rfl rfl (Z2.out.store)) rfl ⟨st8_below Q2.out (by omega), .inr ⟨HA.out, rfl⟩⟩
end Go.Proofs.YtfonkblbgadhmaaGreatDoor
namespace Go.Proofs.YtfonkblbgadhmaaGreatDoor
open Go.RowKit Go.Lib

def bigI (x : It) : Bool := decide (500 < x.j.length) || (decide (500 < x.n.length) || (decide (10 < x.g.length) || x.g.any fun y => decide (500 < y.length)))
def greatP (L : List It) : Bool := (L.take 20).any bigI || decide (18 < L.length)
theorem great_hit {L : List It} {k : Nat} (h20 : k < 20) (hk : k < L.length) (h : bigI L[k] = true) : greatP L = true := by
  unfold greatP
  have : (L.take 20).any bigI = true := List.any_eq_true.2 ⟨L[k], by rw [List.mem_iff_getElem]; exact ⟨k, by rw [List.length_take]; omega, by rw [List.getElem_take]⟩, h⟩
  rw [this]; rfl
theorem great_end {L : List It} {k : Nat} (h : (L.take k).any bigI = false) (hk : k = 20 ∨ L.length ≤ k ∧ k ≤ 20) : greatP L = decide (18 < L.length) := by
  unfold greatP
  have e : L.take 20 = L.take k := by
    rcases hk with rfl | ⟨h1, h2⟩
    · rfl
    · rw [List.take_of_length_le (by omega), List.take_of_length_le (by omega)]
  rw [e, h, Bool.false_or]
theorem great_not {L : List It} (h : greatP L = false) : L.length ≤ 18 ∧ ∀ x ∈ L, x.j.length ≤ 500 ∧ x.n.length ≤ 500 ∧ x.g.length ≤ 10 ∧ ∀ y ∈ x.g, y.length ≤ 500 := by
  unfold greatP at h
  rw [Bool.or_eq_false_iff, decide_eq_false_iff_not] at h
  obtain ⟨h1, h2⟩ := h
  rw [List.take_of_length_le (by omega)] at h1
  refine ⟨by omega, fun x hx => ?_⟩
  have := List.any_eq_false.1 h1 x hx
  unfold bigI at this
  simp only [Bool.or_eq_true, decide_eq_true_eq, List.any_eq_true, not_or, not_exists, not_and, Nat.not_lt] at this
  exact ⟨this.1, this.2.1, this.2.2.1, fun y hy => this.2.2.2 y hy⟩
theorem sz_mk (l : List UInt8) : (⟨l.toArray⟩ : ByteArray).size = l.length := by rw [← size_toList]
set_option maxHeartbeats 4000000 in
set_option maxRecDepth 100000 in
theorem r21_Great (v : Value) (ver : Int) (M : List Im) (w : World) (hv : IsItems v M w) :
    Calls Tryz.prog 8 #[.agg #[v, .int .i64 ver]] w (Ret w (.bool (greatP (M.map Prod.fst)))) := by
  obtain ⟨a0, cap0, hf, -⟩ := hv.form
  obtain ⟨L, hL⟩ : ∃ L, M.length = L := ⟨_, rfl⟩
  rw [hL] at hf
  subst hf
  obtain ⟨O, hO⟩ : ∃ O, greatP (M.map Prod.fst) = O := ⟨_, rfl⟩
  rw [hO]
  have r0 := Two.new w (.slice a0 L cap0) (.int .i64 ver) 24
  have q0 := (Below.refl w.heap.size w).alloc (Nat.le_refl _) (.cells #[.slice a0 L cap0, .int .i64 ver] 24)
  obtain ⟨W0, hW0⟩ : ∃ W, w.alloc (.cells #[.slice a0 L cap0, .int .i64 ver] 24) = W := ⟨_, rfl⟩
  rw [hW0] at r0 q0
  have HW := Lib.hid hW0
  have HV := Lib.hid hv
  have HL := Lib.hid hL
  have hl2 : (M.map Prod.fst).length = L := by rw [List.length_map, hL]
  have HL2 := Lib.hid hl2
  have HO := Lib.hid hO
  clear hW0 hv hL hl2 hO
  go_enter Tryz.func8, Tryz.ntmps8
  go_wp2_with fail
  rw [HW.out]
  go_loopw [3] (fun i wx => ∃ k : Nat, k ≤ L ∧ k ≤ 20 ∧ i = .int .i64 k ∧ ((M.map Prod.fst).take k).any bigI = false ∧ Two w.heap.size (.slice a0 L cap0) (.int .i64 ver) wx ∧ Below w.heap.size w wx) (fun i _ => 20 - (intOf i).toNat)
  case atStart => exact ⟨0, Nat.zero_le _, by omega, rfl, rfl, r0, q0⟩
  case round =>
    obtain ⟨k, hk, hk20, rfl, hany, rr, hbw⟩ := hrel
    obtain ⟨l, c0, c1, f0, f1⟩ := id rr
    have hws := hbw.size
    by_cases hlt : k < L
    · by_cases h20 : k < 20
      · have hkM : k < M.length := by rw [HL.out]; exact hlt
        obtain ⟨b, off, cp, hf, hb0, hc⟩ := (HV.out.ret hbw).cell hkM
        rw [HL.out] at hf
        simp only [Value.slice.injEq, true_and] at hf
        obtain ⟨rfl, rfl⟩ := hf
        have hkm : k < (M.map Prod.fst).length := by rw [HL2.out]; exact hlt
        have hsn : bigI M[k].1 = false → ((M.map Prod.fst).take (k + 1)).any bigI = false := fun h => by
          rw [List.take_succ_eq_append_getElem hkm, List.any_append, hany, List.getElem_map]
          simp [h]
        have hat : bigI M[k].1 = true → O = true := fun h => by
          rw [← HO.out]
          exact great_hit h20 hkm (by rw [List.getElem_map]; exact h)
        have hgr := (HV.out.ret hbw).2 _ (List.getElem_mem hkM)
        obtain ⟨p, hp⟩ : ∃ p, M[k] = p := ⟨_, rfl⟩
        rw [hp] at hc hsn hat hgr
        obtain ⟨i0, i1, i2, i3, i4, i5, i6, i7⟩ := hc
        have al := (Below.refl wr.heap.size wr).alloc (Nat.le_refl _) (.cells (itC p).toArray 31)
        have x1 := It8.new wr (.string ⟨p.1.j.toArray⟩) (.string ⟨p.1.n.toArray⟩) (gvI p) (.bool p.1.s.1) (.bool p.1.s.2.1) (.bool p.1.s.2.2.1) (.bool p.1.s.2.2.2) (.bool p.1.k) 31
        have rr2 := rr.ret al
        have q2 := hbw.trans (al.mono hws)
        have hgr2 := hgr.ret al
        obtain ⟨V, hV⟩ : ∃ V, wr.alloc (.cells (itC p).toArray 31) = V := ⟨_, rfl⟩
        rw [hV] at x1 rr2 q2 hgr2
        have HVV := Lib.hid hV
        have zj := sz_mk p.1.j
        have zn := sz_mk p.1.n
        obtain ⟨B, hB⟩ : ∃ B, bigI p.1 = B := ⟨_, rfl⟩
        rw [hB] at hsn hat
        have HS := Lib.hid hsn
        have HA := Lib.hid hat
        have HB := Lib.hid hB
        have HG := Lib.hid hgr2
        have RR := Lib.hid rr2
        have QQ := Lib.hid q2
        obtain ⟨m, d0, d1, d2, d3, d4, d5, d6, d7, g0, g1, g2, g3, g4, g5, g6, g7⟩ := id x1
        clear hp hsn hat hB hgr hgr2 hkm hany rr rr2 q2 hbw hV al
        by_cases h1 : 500 < p.1.j.length ∨ 500 < p.1.n.length ∨ 10 < p.1.g.length
        · have hbt : B = true := by
            rw [← HB.out]
            unfold bigI
            rcases h1 with h | h | h <;> simp [h]
          subst hbt
          have := HA.out (by first | exact rfl | trivial)
          subst this
          have hjN : ((500 : Int) < (p.1.j.length : Int)) ∨ ¬((500 : Int) < (p.1.j.length : Int)) := Decidable.em _
          have hnN : ((500 : Int) < (p.1.n.length : Int)) ∨ ¬((500 : Int) < (p.1.n.length : Int)) := Decidable.em _
          rcases hjN with hj | hj
          · clear hnN h1
            go_wp2_with fail
            rw [HVV.out]
            go_wp2_with fail
            go_ret
            exact ⟨rfl, QQ.out⟩
          · rcases hnN with hn | hn
            · clear h1
              go_wp2_with fail
              rw [HVV.out]
              go_wp2_with fail
              go_ret
              exact ⟨rfl, QQ.out⟩
            · have hg : (10 : Int) < (p.1.g.length : Int) := by omega
              clear h1
              go_wp2_with fail
              rw [HVV.out]
              go_wp2_with fail
              go_ret
              exact ⟨rfl, QQ.out⟩
        · have hj : ¬((500 : Int) < (p.1.j.length : Int)) := by omega
          have hn : ¬((500 : Int) < (p.1.n.length : Int)) := by omega
          have hg : ¬((10 : Int) < (p.1.g.length : Int)) := by omega
          have hbB : B = p.1.g.any fun y => decide (500 < y.length) := by
            rw [← HB.out]
            unfold bigI
            have e1 : decide (500 < p.1.j.length) = false := decide_eq_false (by omega)
            have e2 : decide (500 < p.1.n.length) = false := decide_eq_false (by omega)
            have e3 : decide (10 < p.1.g.length) = false := decide_eq_false (by omega)
            rw [e1, e2, e3]; rfl
          have HBB := Lib.hid hbB
          clear h1 hbB
          go_wp2_with fail
          rw [HVV.out]
          go_wp2_with fail
          go_loopw [5] (fun i wx => ∃ e : Nat, e ≤ p.1.g.length ∧ i = .int .i64 e ∧ (p.1.g.take e).any (fun y => decide (500 < y.length)) = false ∧ wx = V) (fun i _ => p.1.g.length - (intOf i).toNat)
          case atStart => exact ⟨0, Nat.zero_le _, rfl, rfl, rfl⟩
          case round =>
            obtain ⟨e, he, rfl, hany2, rfl⟩ := hrel
            by_cases hle : e < p.1.g.length
            · obtain ⟨b2, off2, cp2, hf2, hb2, hc2⟩ := vals_cell' HG.out.1 (k := e) (by rw [strV_len]; exact hle)
              rw [strV_len] at hf2
              have hck := hc2 e (by rw [strV_len]; exact hle)
              have e1 : (strV p.1.g)[e]'(by rw [strV_len]; exact hle) = .string ⟨(p.1.g[e]).toArray⟩ := by simp [strV]
              rw [e1] at hck
              simp only [Value.slice.injEq, true_and] at hf2
              obtain ⟨hf2a, hf2b⟩ := hf2
              have zy := sz_mk p.1.g[e]
              have hs2 : (p.1.g.take (e + 1)).any (fun y => decide (500 < y.length)) = decide (500 < (p.1.g[e]).length) := by
                rw [List.take_succ_eq_append_getElem hle, List.any_append, hany2]
                simp
              have hh : 500 < (p.1.g[e]).length → B = true := fun h => by
                rw [HBB.out, List.any_eq_true]
                exact ⟨_, List.getElem_mem hle, decide_eq_true h⟩
              obtain ⟨y, hy⟩ : ∃ y, p.1.g[e] = y := ⟨_, rfl⟩
              rw [hy] at hck zy hs2 hh
              have HS2 := Lib.hid hs2
              have e2 : gvI p = .slice (some ⟨b2, off2, none⟩) p.1.g.length p.2.2 := by show Value.slice p.2.1 _ _ = _; rw [hf2a]
              rw [e2] at d2
              clear e2
              clear hs2 hy e1 hc2 hany2
              by_cases h5 : 500 < y.length
              · have hbt := hh h5
                subst hbt
                have := HA.out (by first | exact rfl | trivial)
                subst this
                have h5i : (500 : Int) < (y.length : Int) := by omega
                clear hh
                go_wp2_with fail
                go_ret
                exact ⟨rfl, QQ.out⟩
              · have h5i : ¬((500 : Int) < (y.length : Int)) := by omega
                clear hh
                go_wp2_with fail
                go_roundw
                case rel => exact ⟨e + 1, by omega, by go_num, by rw [HS2.out]; exact decide_eq_false h5, by first | rfl | trivial⟩
                case measure => simp [intOf]; omega
            · have hfull : p.1.g.take e = p.1.g := List.take_of_length_le (by omega)
              rw [hfull] at hany2
              have hbf : B = false := by rw [HBB.out]; exact hany2
              subst hbf
              clear hfull hany2
              go_wp2_with fail
              go_roundw
              case rel => exact ⟨k + 1, by omega, by omega, by go_num, HS.out (by first | exact rfl | trivial), RR.out, QQ.out⟩
              case measure => simp [intOf]; omega
      · have hE := great_end hany (.inl (by omega))
        rw [HO.out, HL2.out] at hE
        have h18 : 18 < L := by omega
        rw [decide_eq_true h18] at hE
        subst hE
        clear hany
        go_wp2_with fail
        go_ret
        exact ⟨by simp; omega, hbw⟩
    · have hE := great_end hany (.inr ⟨by rw [HL2.out]; omega, hk20⟩)
      rw [HO.out, HL2.out] at hE
      clear hany
      by_cases h18 : 18 < L
      · rw [decide_eq_true h18] at hE
        subst hE
        go_wp2_with fail
        go_ret
        exact ⟨by simp; omega, hbw⟩
      · rw [decide_eq_false h18] at hE
        subst hE
        go_wp2_with fail
        go_ret
        exact ⟨by simp; omega, hbw⟩
end Go.Proofs.YtfonkblbgadhmaaGreatDoor
