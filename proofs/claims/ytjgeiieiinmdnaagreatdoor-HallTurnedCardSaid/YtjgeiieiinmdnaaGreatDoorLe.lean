/- HsI, HaF: put together by mergetpl.py. -/
import Derived.Test.YtjgeiieiinmdnaaGreatDoorLb
import Derived.Test.YtjgeiieiinmdnaaGreatDoorRoIn
import Derived.Test.YtjgeiieiinmdnaaGreatDoorLc
import Derived.Test.YtjgeiieiinmdnaaGreatDoorLa
namespace Go.Proofs.YtjgeiieiinmdnaaGreatDoor
open Go.RowKit Go.Lib

theorem V_len_ac (M : List AcI) : (acY.fl M).length = M.length * 3 := fl_len acY M
theorem V_app_ac (M N : List AcI) : acY.fl (M ++ N) = acY.fl M ++ acY.fl N := fl_app acY M N
theorem V_cons_ac (p : AcI) (M : List AcI) : acY.fl (p :: M) = acY.cs p ++ acY.fl M := rfl
theorem V_drop_ac (M : List AcI) (k : Nat) : acY.fl (M.drop k) = (acY.fl M).drop (k * 3) := fl_drop acY M k
theorem V_one_ac (M : List AcI) : ∀ u ∈ acY.fl M, u.oneCell' = true := fl_oneC acY M
theorem C_one_ac (p : AcI) : ∀ u ∈ acY.cs p, u.oneCell' = true := acY.one p
theorem C_len_ac (p : AcI) : (acY.cs p).length = 3 := rfl
theorem V_one1_ac (p : AcI) : acY.fl [p] = acY.cs p := fl_one acY p
def InsIs_ac (B : Nat) (w : World) (v : Value) (N : List AcI) (e : Ending) (w' : World) : Prop := ∃ v', e = .returned v' ∧ w'.ownsRow B 33 3 v' N.length (acY.fl N) ∧ w.grownBy w' v.ownBlock ∧ ∀ g, v'.ownBlock = some g → v.ownBlock = some g ∨ w.heap.size ≤ g
/-- where a row lies behind an append of one: where it lay, or in new memory. -/
theorem app1_vb_ac {w w' : World} {B n xb : Nat} {ty : TypeId} {v v' : Value} {xs : List Value} {p : AcI} (hown : w.ownsRow B 33 3 v n xs) (hn : n ≤ 100000)
  (hx : ∀ j u, (acY.cs p)[j]? = some u → w.cell? ((⟨xb, 0, none⟩ : Addr).add j) = some u)
  (hr : (Builtin.append_ #[22, 22] ty #[v, .slice (some ⟨xb, 0, none⟩) 1 1]).run Tryz.prog w = .ok v' w') : ∀ g, v'.ownBlock = some g → v.ownBlock = some g ∨ w.heap.size ≤ g := by
 obtain ⟨i0, hi0, hz0, hz1, hz2⟩ := info_parts vinfo_ac
 have hP1 : ∀ u ∈ acY.cs p, u.oneCell' = true := by intro u hu; exact C_one_ac p u hu
 have hl : (acY.cs p).length = 1 * i0.size := by rw [hz1]; rfl
 rcases id hown.2 with ⟨rfl, rfl⟩ | ⟨g, cap, cur, rfl, hbg, hg, hnc, hcm, hcs, htake⟩
 ·have h := run_append_nil (P := Tryz.prog) w 22 ty 33 i0 _ Tryz.underlying22 hi0 hz0 ⟨xb, 0, none⟩ 1 1 (acY.cs p) hl hx (by omega) (by omega) (by rw [hz2]; omega)
  rw [h] at hr
  injection hr with h1 _
  subst h1
  intro g hg
  cases hg
  exact .inr (Nat.le_refl _)
 ·by_cases hroom : n + 1 ≤ cap
  ·have h := run_append_room (P := Tryz.prog) w 22 ty 33 i0 Tryz.underlying22 hi0 g n cap cur hg ⟨xb, 0, none⟩ 1 1 (acY.cs p) hl hx hP1 hroom (by rw [hl, hcs, hz1, ← Nat.add_mul]; exact Nat.mul_le_mul_right _ hroom)
   rw [h] at hr
   injection hr with h1 _
   subst h1
   intro g' hg'
   exact .inl hg'
  ·have h := run_append_grow (P := Tryz.prog) w 22 ty 33 i0 _ Tryz.underlying22 hi0 hz0 ⟨g, 0, none⟩ n cap xs (by rw [hz1]; exact hown.1) (hown.cells (g := g) rfl) ⟨xb, 0, none⟩ 1 1 (acY.cs p) hl hx (by omega) (by omega) (growslice_fits (by omega) (by rw [hz2]; omega))
   rw [h] at hr
   injection hr with h1 _
   subst h1
   intro g hg
   cases hg
   exact .inr (Nat.le_refl _)
set_option maxHeartbeats 4000000 in
set_option maxRecDepth 100000 in
theorem sl_Insert_ac (B : Nat) (v : Value) (M : List AcI) (i xb : Nat) (p : AcI) (w : World) (hown : w.ownsRow B 33 3 v M.length (acY.fl M)) (hB : B ≤ w.heap.size) (hi : i ≤ M.length) (hM : M.length ≤ 100000)
  (hx : w.heap[xb]? = some (.cells (acY.cs p).toArray 33 (0, 0))) (hne : v.ownBlock ≠ some xb) :
  Calls Tryz.prog 120 #[v, .int .i64 i, .slice (some ⟨xb, 0, none⟩) 1 1] w (InsIs_ac B w v (M.take i ++ p :: M.drop i)) := by
 obtain ⟨i0, hi0, hz0, hz1, hz2⟩ := info_parts vinfo_ac
 have hxr : ∀ W : World, W.heap[xb]? = w.heap[xb]? → ∀ j u, (acY.cs p)[j]? = some u → W.cell? ((⟨xb, 0, none⟩ : Addr).add j) = some u := fun W hW j u hj => by
  rw [Addr.add_lit]
  simp only [World.cell?, hW, hx, Nat.zero_add]
  simpa using hj
 have hxl : xb < w.heap.size := by
  rcases Nat.lt_or_ge xb w.heap.size with h | h
  ·exact h
  ·rw [Array.getElem?_eq_none h] at hx
   cases hx
 have hlen : (M.take i ++ p :: M.drop i).length = M.length + 1 := by rw [List.length_append, List.length_cons, List.length_take, List.length_drop]; omega
 have hitv : acY.fl (M.take i ++ p :: M.drop i) = acY.fl (M.take i) ++ (acY.cs p ++ acY.fl (M.drop i)) := by rw [V_app_ac, V_cons_ac]
 obtain ⟨n, hn⟩ : ∃ n, M.length = n := ⟨_, rfl⟩
 rw [hn] at hown hi hM hlen
 obtain ⟨a, c, rfl, hnc⟩ := row_form hown
 by_cases hin : i = n
 ·subst hin
  have hrow : IsRow 3 (.slice (some ⟨xb, 0, none⟩) 1 1) 1 (acY.cs p) w := by
   refine ⟨rfl, some ⟨xb, 0, none⟩, 1, rfl, (fun h => by cases h), .inr ⟨xb, 0, rfl, hxl, fun j hj => ?_⟩⟩
   have := hxr w rfl j _ (List.getElem?_eq_getElem hj)
   rw [Addr.add_lit] at this
   rw [this]
  have hfin : M.take i ++ p :: M.drop i = M ++ [p] := by rw [List.take_of_length_le (by omega), List.drop_eq_nil_of_le (by omega)]
  rw [hfin] at hlen hitv ⊢
  obtain ⟨v', w', hr, hown', hgrow⟩ := run_app_row (P := Tryz.prog) w B 22 22 33 i0 _ 3 48 Tryz.underlying22 hi0 hz0 hz1 hz2 rfl (by omega) _ i (acY.fl M) hown (.slice (some ⟨xb, 0, none⟩) 1 1) 1 (acY.cs p) hrow (by intro u hu; exact C_one_ac p u hu) (by omega) (by omega) hB
  have HVB := Lib.hid (app1_vb_ac hown hM (hxr w rfl) hr)
  have hr2 : ∀ ty, (Builtin.append_ #[22, 22] ty #[.slice a i c, .slice (some ⟨xb, 0, none⟩) 1 1]).run Tryz.prog w = .ok v' w' := fun ty => hr
  have RR := Lib.hid hr2
  have HLN := Lib.hid hlen
  have HO3 := Lib.hid hown'
  have HG := Lib.hid hgrow
  clear hxr hfin hlen hitv hown hrow hn hx hr hr2 hown' hgrow
  by_cases hci : c = i
  ·subst hci
   go_enter Tryz.func120, Tryz.ntmps120
   go_wp2_with (at_builtin; refine Hid.out ?_)
   refine Lib.hid ?_
   refine Lib.wpList_append_run _ rfl _ _ _ _ rfl _ _ rfl rfl _ _ (RR.out _) ?_
   go_wp2_with fail
   go_ret
   exact ⟨v', rfl, by rw [HLN.out, V_app_ac, V_one1_ac]; exact HO3.out, HG.out, HVB.out⟩
  ·have w0 : (i : Int) ≤ (c : Int) := by omega
   go_enter Tryz.func120, Tryz.ntmps120
   go_wp2_with (at_builtin; refine Hid.out ?_)
   refine Lib.hid ?_
   refine Lib.wpList_append_run _ rfl _ _ _ _ rfl _ _ rfl rfl _ _ (RR.out _) ?_
   go_wp2_with fail
   go_ret
   exact ⟨v', rfl, by rw [HLN.out, V_app_ac, V_one1_ac]; exact HO3.out, HG.out, HVB.out⟩
 ·have hlt : i < n := by omega
  obtain ⟨g, rfl, -, hgB, hgl⟩ := own_some hown (by omega)
  have hgx : g ≠ xb := fun e => hne (by rw [e]; rfl)
  have hTl : (acY.fl (M.take i)).length = i * 3 := by rw [V_len_ac, List.length_take]; congr 1; omega
  have hDl : (acY.fl (M.drop i)).length = (n - i) * 3 := by rw [V_len_ac, List.length_drop, hn]
  have hMs : acY.fl M = acY.fl (M.take i) ++ acY.fl (M.drop i) := by rw [← V_app_ac, List.take_append_drop]
  have hMd : (acY.fl M).drop (i * 3) = acY.fl (M.drop i) := (V_drop_ac M i).symm
  have hP1 : ∀ u ∈ acY.cs p, u.oneCell' = true := by intro u hu; exact C_one_ac p u hu
  have hsz : (Tryz.prog.info? 33).map (·.size) = some 3 := by rw [hi0]; simp [hz1]
  have hc63 : c ≤ 9223372036854775807 := by
   rcases hown.2 with ⟨h, _⟩ | ⟨g', cap', cur, h, _, _, _, h4, _⟩
   ·simp at h
   ·simp only [Value.slice.injEq] at h
    obtain ⟨_, _, rfl⟩ := h
    unfold maxLen at h4
    exact h4
  have w1 : IntKind.i64.wrap ((i : Int) + 1) = (i : Int) + 1 := IntWalk.i64_in _ (by omega)
  have w2 : ((i : Int) + 1).toNat = i + 1 := by omega
  have w3 : (0 : Int) ≤ (i : Int) + 1 := by omega
  have w4 : ¬ (c = i) := by omega
  have w5 : (i : Int) ≤ (n : Int) := by omega
  have w6 : ¬ ((i : Int) = (n : Int)) := by omega
  have w7 : IntKind.i64.wrap ((n : Int) + 1) = (n : Int) + 1 := IntWalk.i64_in _ (by omega)
  have w8 : ((n : Int) + 1).toNat = n + 1 := by omega
  by_cases hroom : n + 1 ≤ c
  ·have v1 : ¬ ((c : Int) < (n : Int) + 1) := by omega
   have v2 : ¬ (c = i + 1) := by omega
   have v3 : (i : Int) ≤ (n : Int) + 1 := by omega
   have v4 : (i : Int) + 1 ≤ (n : Int) + 1 := by omega
   have v5 : (n : Int) + 1 ≤ (c : Int) := by omega
   obtain ⟨st, hst, hwide⟩ := own_wider hown hroom
   obtain ⟨W2, hcp1, own2, grow2⟩ := run_copy_own w.drew B g (n + 1) c 3 (i + 1) (n + 1 - (i + 1)) (c - (i + 1)) 22 22 33 ⟨g, i * 3, none⟩ (n + 1 - i) (c - i) _ (acY.fl (M.drop i)) Tryz.underlying22 hsz hwide.drew
    (by rw [hDl]; congr 1; simp only [Nat.min_def]; split <;> omega) (fun j v hj => own_addr hown (i * 3) j v (by rw [hMd]; exact hj)) (by rw [hDl, ← Nat.add_mul]; exact Nat.mul_le_mul_right _ (by omega)) (fun u hu => V_one_ac _ u hu)
   have hx2 : W2.heap[xb]? = w.heap[xb]? := grow2.block xb hxl (fun e => hgx (by cases e; rfl))
   obtain ⟨W3, hcp2, own3, grow3⟩ := run_copy_own W2 B g (n + 1) c 3 i (n + 1 - i) (c - i) 22 22 33 ⟨xb, 0, none⟩ 1 1 _ (acY.cs p) Tryz.underlying22 hsz own2
    (by rw [C_len_ac]; have : Nat.min 1 (n + 1 - i) = 1 := by simp only [Nat.min_def]; split <;> omega
        rw [this]) (hxr W2 hx2) (by rw [C_len_ac]; omega) hP1
   have hov : ∀ lb cb, (callFunc 166 #[.slice (some ⟨xb, 0, none⟩) 1 1, .slice (some ⟨g, (i + 1) * 3, none⟩) lb cb]).run Tryz.prog w = .ok (.value (.bool false)) w := fun lb cb => by
    rcases hwide.2 with ⟨h, _⟩ | ⟨g', cap', cur, h, _, hg', _, _, hcs', _⟩
    ·simp at h
    ·simp only [Value.slice.injEq, Option.some.injEq, Addr.mk.injEq, and_true, true_and] at h
     obtain ⟨rfl, rfl⟩ := h
     rw [run_callFunc_extern Tryz.func166 (by kernel_rfl) (by kernel_rfl) (by kernel_rfl) (e := Extern.SlicesOverlaps.overlaps #[22, 22] #[4]) (by kernel_rfl),
      Lib.run_overlaps_apart w 22 4 33 Tryz.underlying22 3 (fun w => by simp [sizeOf, typeInfo, hi0, hz1]) ⟨xb, 0, none⟩ ⟨g, (i + 1) * 3, none⟩ 1 1 lb cb (fun e => hgx e.symm) 33 33 3 cur.size (by simp only [World.shape?, hx]; rfl) (by simp only [World.shape?, hg']) (by omega) (by simp [World.frozen?, hx]) (by simp [World.frozen?, hx])]
     rfl
   have hfin : acY.fl (M.take i) ++ (acY.cs p ++ acY.fl (M.drop i)) = _ := (ins_room (acY.fl (M.take i)) (acY.fl (M.drop i)) st (acY.cs p) (by rw [hst]; rfl)).symm
   rw [hTl, C_len_ac, ← hMs, show i * 3 + 3 = (i + 1) * 3 by omega] at hfin
   rw [C_len_ac, show i * 3 + 3 = (i + 1) * 3 by omega, ← hfin] at own3
   have HO := Lib.hid own3
   have HG := Lib.hid (grown_trans2 (w := w) (w1 := W2) ⟨grow2.os, grow2.tape, grow2.output, grow2.size, grow2.block⟩ grow3)
   have HLN := Lib.hid hlen
   have HI := Lib.hid hitv
   have CP1 := Lib.hid hcp1
   have CP2 := Lib.hid hcp2
   have OV := Lib.hid hov
   clear hx hxr hown hwide own2 own3 grow2 grow3 hTl hDl hMs hMd hP1 hsz hst hx2 hcp1 hcp2 hfin hlen hitv hn hov hne
   go_enter Tryz.func120, Tryz.ntmps120
   have mixed : Tryz.prog.follows Departure.mixedOrders = true := by kernel_rfl
   go_wp2_with (simp only [OV.out])
   go_region_law_o (refine step_copy_runI rfl _ _ 22 22 rfl _ _ (by simp [Act.eval, Act.put]) (by simp [Act.eval, Act.put]) (CP1.out _) ?_)
   have cp2 := CP2.out
   go_wp2_with fail
   go_ret
   exact ⟨_, rfl, by rw [HLN.out, HI.out]; exact HO.out, HG.out, fun g' hg' => .inl hg'⟩
  ·obtain rfl : c = n := by omega
   have hkk : (c : Int) + 1 - (i : Int) = ((c + 1 - i : Nat) : Int) := by omega
   have hik : i + (c + 1 - i) = c + 1 := by omega
   have hold : (Builtin.firstCells i0.size i (.slice (some ⟨g, 0, none⟩) i c)).run Tryz.prog w.drew = .ok (acY.fl (M.take i)).toArray w.drew := by
    rw [hz1]
    exact run_firstCells_some w.drew 3 i ⟨g, 0, none⟩ i c (acY.fl (M.take i)) hTl (fun j u hj => by
     have h2 : (acY.fl M)[j]? = some u := by
      rw [hMs, List.getElem?_append_left]
      ·exact hj
      ·rcases Nat.lt_or_ge j (acY.fl (M.take i)).length with h | h
       ·exact h
       ·rw [List.getElem?_eq_none h] at hj; cases hj
     exact hown.cells (g := g) rfl j u h2)
   have hrz := fun ty => Lib.run_append_grow_zeros w 22 3 ty 33 i0 _ .i64 .i64 Tryz.underlying22 Tryz.underlying3 hi0 hz0 (some ⟨g, 0, none⟩) i c (acY.fl (M.take i)) hold (c + 1 - i) (by omega) (by omega) (by omega) (by omega) (by rw [hz2]; omega) (by rw [hz2, hik]; exact growslice_fits (by omega) (by omega))
   rw [hik] at hrz
   have hge := grownCap_ge w (c + 1) c 33
   have hmx : grownCap w (c + 1) c 33 ≤ maxLen := grownCap_le_maxLen w (c + 1) c 33 (by unfold maxLen; omega)
   obtain ⟨G, hG⟩ : ∃ G, grownCap w (c + 1) c 33 = G := ⟨_, rfl⟩
   rw [hG] at hrz hge hmx
   obtain ⟨Z, hZ⟩ : ∃ Z, (Builtin.zeroCells (Value.cells (.agg #[.string ⟨#[]⟩, .slice none 0 0, .int .i64 0])) (c + 1 - i)).toList = Z := ⟨_, rfl⟩
   have hZl : Z.length = (c + 1 - i) * 3 := by rw [← hZ, Array.length_toList, size_zeroCells]; rfl
   have own1 : (w.drew.alloc (.cells ((acY.fl (M.take i)).toArray ++ Builtin.zeroCells (Value.cells (.agg #[.string ⟨#[]⟩, .slice none 0 0, .int .i64 0])) (c + 1 - i) ++ Builtin.zeroCells (Value.cells (.agg #[.string ⟨#[]⟩, .slice none 0 0, .int .i64 0])) (G - (c + 1))) 33)).ownsRow B 33 3 (.slice (some ⟨w.heap.size, 0, none⟩) (c + 1) G) (c + 1) (acY.fl (M.take i) ++ Z) := by
    have hlen1 : (acY.fl (M.take i) ++ Z).length = (c + 1) * 3 := by rw [List.length_append, hTl, hZl, ← Nat.add_mul, hik]
    refine ⟨hlen1, .inr ⟨w.heap.size, G, _, rfl, hB, heap_alloc_new w.drew _, hge, hmx, ?_, ?_⟩⟩
    ·simp only [Array.size_append, List.size_toArray, size_zeroCells, hTl]
     show i * 3 + (c + 1 - i) * 3 + (G - (c + 1)) * 3 = G * 3
     omega
    ·simp only [Array.toList_append]
     rw [hZ, ← hlen1]
     exact List.take_left
   have grow1 : w.grownBy (w.drew.alloc (.cells ((acY.fl (M.take i)).toArray ++ Builtin.zeroCells (Value.cells (.agg #[.string ⟨#[]⟩, .slice none 0 0, .int .i64 0])) (c + 1 - i) ++ Builtin.zeroCells (Value.cells (.agg #[.string ⟨#[]⟩, .slice none 0 0, .int .i64 0])) (G - (c + 1))) 33)) (some g) := ⟨rfl, rfl, rfl, by simp, fun k hk _ => heap_alloc_old w.drew _ hk⟩
   obtain ⟨W1, hW1⟩ : ∃ W1, w.drew.alloc (.cells ((acY.fl (M.take i)).toArray ++ Builtin.zeroCells (Value.cells (.agg #[.string ⟨#[]⟩, .slice none 0 0, .int .i64 0])) (c + 1 - i) ++ Builtin.zeroCells (Value.cells (.agg #[.string ⟨#[]⟩, .slice none 0 0, .int .i64 0])) (G - (c + 1))) 33) = W1 := ⟨_, rfl⟩
   have hrz2 : ∀ ty, (Builtin.append_ #[22, 3] ty #[.slice (some ⟨g, 0, none⟩) i c, .int .i64 ((c : Int) + 1 - (i : Int))]).run Tryz.prog w = .ok (.slice (some ⟨w.heap.size, 0, none⟩) (c + 1) G) W1 := fun ty => by rw [hkk, ← hW1]; exact hrz ty
   have hx1 : W1.heap[xb]? = w.heap[xb]? := by rw [← hW1]; exact heap_alloc_old w.drew _ hxl
   have hg1 : W1.heap[g]? = w.heap[g]? := by rw [← hW1]; exact heap_alloc_old w.drew _ hgl
   rw [hW1] at own1 grow1
   obtain ⟨W2, hcp1, own2, grow2⟩ := run_copy_own W1 B w.heap.size (c + 1) G 3 i (c + 1 - i) (G - i) 22 22 33 ⟨xb, 0, none⟩ 1 1 _ (acY.cs p) Tryz.underlying22 hsz own1
    (by rw [C_len_ac]; have : Nat.min 1 (c + 1 - i) = 1 := by simp only [Nat.min_def]; split <;> omega
        rw [this]) (hxr W1 hx1) (by rw [C_len_ac]; omega) hP1
   have hs1 : w.heap.size < W1.heap.size := (own1.lt _ rfl).2
   have hg2 : W2.heap[g]? = w.heap[g]? := (grow2.block g (by omega) (fun e => by cases e; omega)).trans hg1
   obtain ⟨W3, hcp2, own3, grow3⟩ := run_copy_own W2.drew B w.heap.size (c + 1) G 3 (i + 1) (c + 1 - (i + 1)) (G - (i + 1)) 22 22 33 ⟨g, i * 3, none⟩ (c - i) (c - i) _ (acY.fl (M.drop i)) Tryz.underlying22 hsz own2.drew
    (by rw [hDl]; congr 1; simp only [Nat.min_def]; split <;> omega) (fun j u hj => by
     have h := own_addr hown (i * 3) j u (by rw [hMd]; exact hj)
     rw [Addr.add_lit] at h ⊢
     simp only [World.cell?] at h ⊢
     rw [show W2.drew.heap[g]? = w.heap[g]? from hg2]
     exact h) (by rw [hDl, ← Nat.add_mul]; exact Nat.mul_le_mul_right _ (by omega)) (fun u hu => V_one_ac _ u hu)
   have hfin := ins_grow (acY.fl (M.take i)) (acY.fl (M.drop i)) Z (acY.cs p) (by rw [hZl, hDl, C_len_ac]; omega)
   rw [hTl, C_len_ac, show i * 3 + 3 = (i + 1) * 3 by omega] at hfin
   rw [C_len_ac, show i * 3 + 3 = (i + 1) * 3 by omega, hfin] at own3
   have u1 : ¬ (G = i) := by omega
   have u2 : ¬ (G = i + 1) := by omega
   have u3 : (c : Int) < (c : Int) + 1 := by omega
   have u4 : G ≤ 9223372036854775807 := by unfold maxLen at hmx; exact hmx
   have u5 : (i : Int) ≤ (c : Int) + 1 := by omega
   have u6 : (i : Int) + 1 ≤ (c : Int) + 1 := by omega
   have u7 : IntKind.i64.wrap ((c : Int) + 1 - (i : Int)) = (c : Int) + 1 - (i : Int) := IntWalk.i64_in _ (by omega)
   have HO := Lib.hid own3
   have g2 := grown_new (row := some g) grow1 grow2 (Nat.le_refl _)
   have HG := Lib.hid (grown_new (w := w) (w1 := W2) (row := some g) g2 (g := w.heap.size) ⟨grow3.os, grow3.tape, grow3.output, grow3.size, grow3.block⟩ (Nat.le_refl _))
   have HLN := Lib.hid hlen
   have HI := Lib.hid hitv
   have CP1 := Lib.hid hcp1
   have CP2 := Lib.hid hcp2
   have RZ := Lib.hid hrz2
   clear hx hxr hown own1 own2 own3 grow1 grow2 grow3 g2 hTl hDl hMs hMd hP1 hsz hx1 hg1 hg2 hcp1 hcp2 hfin hlen hitv hn hne hrz hrz2 hW1 hZ hZl hG hold hge hmx hkk hik hs1
   go_enter Tryz.func120, Tryz.ntmps120
   go_wp2_with (at_builtin; refine Hid.out ?_)
   refine Lib.hid ?_
   refine Lib.wpList_append_run _ rfl _ _ _ _ rfl _ _ rfl rfl _ _ (RZ.out _) ?_
   have mixed : Tryz.prog.follows Departure.mixedOrders = true := by kernel_rfl
   have cp1 := CP1.out
   go_wp2_with fail
   go_region_law_o (refine step_copy_runI rfl _ _ 22 22 rfl _ _ (by simp [Act.eval, Act.put]) (by simp [Act.eval, Act.put]) (CP2.out _) ?_)
   go_wp2_with fail
   go_ret
   exact ⟨_, rfl, by rw [HLN.out, HI.out]; exact HO.out, HG.out, fun g' hg' => by (cases hg'; exact .inr (Nat.le_refl _))⟩
theorem V_len_rs (M : List RsI) : (rsY.fl M).length = M.length * 6 := fl_len rsY M
theorem V_app_rs (M N : List RsI) : rsY.fl (M ++ N) = rsY.fl M ++ rsY.fl N := fl_app rsY M N
theorem V_cons_rs (p : RsI) (M : List RsI) : rsY.fl (p :: M) = rsY.cs p ++ rsY.fl M := rfl
theorem V_take_rs (M : List RsI) (k : Nat) : rsY.fl (M.take k) = (rsY.fl M).take (k * 6) := fl_take rsY M k
theorem V_drop_rs (M : List RsI) (k : Nat) : rsY.fl (M.drop k) = (rsY.fl M).drop (k * 6) := fl_drop rsY M k
theorem V_one_rs (M : List RsI) : ∀ u ∈ rsY.fl M, u.oneCell' = true := fl_oneC rsY M
theorem C_one_rs (p : RsI) : ∀ u ∈ rsY.cs p, u.oneCell' = true := rsY.one p
theorem C_len_rs (p : RsI) : (rsY.cs p).length = 6 := rfl
theorem V_one1_rs (p : RsI) : rsY.fl [p] = rsY.cs p := fl_one rsY p
theorem V_nil_rs : rsY.fl [] = [] := rfl
theorem erase_eq_rs (M : List RsI) (i : Nat) : M.take i ++ M.drop (i + 1) = M.eraseIdx i := (List.eraseIdx_eq_take_drop_succ M i).symm
def InsIs_rs (B : Nat) (w : World) (v : Value) (N : List RsI) (e : Ending) (w' : World) : Prop := ∃ v', e = .returned v' ∧ w'.ownsRow B 38 6 v' N.length (rsY.fl N) ∧ w.grownBy w' v.ownBlock ∧ ∀ g, v'.ownBlock = some g → v.ownBlock = some g ∨ w.heap.size ≤ g
theorem zero_rs (w : World) : (zeroValue 38).run Tryz.prog w = .ok (.agg #[.string ⟨#[]⟩, .bool false, .int .i64 0, .slice none 0 0, .bool false, .slice none 0 0]) w := by
 obtain ⟨i0, hi0, hz0, hz1, hz2⟩ := info_parts vinfo_rs
 simp [zeroValue, typeInfo, hi0, hz0]
theorem run_clear_rs (w : World) (B g n cap i : Nat) (M : List RsI) (hown : w.ownsRow B 38 6 (.slice (some ⟨g, 0, none⟩) n cap) n (rsY.fl M)) (hi : i < n) :
  ∃ w', (∀ ty, (Builtin.clear_ #[23] ty #[.slice (some ⟨g, i * 6, none⟩) (n - i) (cap - i)]).run Tryz.prog w = .ok (.tuple #[]) w') ∧ w'.ownsRow B 38 6 (.slice (some ⟨g, 0, none⟩) i cap) i (rsY.fl (M.take i)) ∧ w.grownBy w' (some g) := by
 rw [V_take_rs]
 exact run_clear_own w B g n cap 6 i _ _ _ _ Tryz.underlying23 zero_rs rfl (by decide) hown hi
/-- where a row lies behind an append of one: where it lay, or in new memory. -/
theorem app1_vb_rs {w w' : World} {B n xb : Nat} {ty : TypeId} {v v' : Value} {xs : List Value} {p : RsI} (hown : w.ownsRow B 38 6 v n xs) (hn : n ≤ 100000)
  (hx : ∀ j u, (rsY.cs p)[j]? = some u → w.cell? ((⟨xb, 0, none⟩ : Addr).add j) = some u)
  (hr : (Builtin.append_ #[23, 23] ty #[v, .slice (some ⟨xb, 0, none⟩) 1 1]).run Tryz.prog w = .ok v' w') : ∀ g, v'.ownBlock = some g → v.ownBlock = some g ∨ w.heap.size ≤ g := by
 obtain ⟨i0, hi0, hz0, hz1, hz2⟩ := info_parts vinfo_rs
 have hP1 : ∀ u ∈ rsY.cs p, u.oneCell' = true := by intro u hu; exact C_one_rs p u hu
 have hl : (rsY.cs p).length = 1 * i0.size := by rw [hz1]; rfl
 rcases id hown.2 with ⟨rfl, rfl⟩ | ⟨g, cap, cur, rfl, hbg, hg, hnc, hcm, hcs, htake⟩
 ·have h := run_append_nil (P := Tryz.prog) w 23 ty 38 i0 _ Tryz.underlying23 hi0 hz0 ⟨xb, 0, none⟩ 1 1 (rsY.cs p) hl hx (by omega) (by omega) (by rw [hz2]; omega)
  rw [h] at hr
  injection hr with h1 _
  subst h1
  intro g hg
  cases hg
  exact .inr (Nat.le_refl _)
 ·by_cases hroom : n + 1 ≤ cap
  ·have h := run_append_room (P := Tryz.prog) w 23 ty 38 i0 Tryz.underlying23 hi0 g n cap cur hg ⟨xb, 0, none⟩ 1 1 (rsY.cs p) hl hx hP1 hroom (by rw [hl, hcs, hz1, ← Nat.add_mul]; exact Nat.mul_le_mul_right _ hroom)
   rw [h] at hr
   injection hr with h1 _
   subst h1
   intro g' hg'
   exact .inl hg'
  ·have h := run_append_grow (P := Tryz.prog) w 23 ty 38 i0 _ Tryz.underlying23 hi0 hz0 ⟨g, 0, none⟩ n cap xs (by rw [hz1]; exact hown.1) (hown.cells (g := g) rfl) ⟨xb, 0, none⟩ 1 1 (rsY.cs p) hl hx (by omega) (by omega) (growslice_fits (by omega) (by rw [hz2]; omega))
   rw [h] at hr
   injection hr with h1 _
   subst h1
   intro g hg
   cases hg
   exact .inr (Nat.le_refl _)
set_option maxHeartbeats 4000000 in
set_option maxRecDepth 100000 in
theorem sl_Insert_rs (B : Nat) (v : Value) (M : List RsI) (i xb : Nat) (p : RsI) (w : World) (hown : w.ownsRow B 38 6 v M.length (rsY.fl M)) (hB : B ≤ w.heap.size) (hi : i ≤ M.length) (hM : M.length ≤ 100000)
  (hx : w.heap[xb]? = some (.cells (rsY.cs p).toArray 38 (0, 0))) (hne : v.ownBlock ≠ some xb) :
  Calls Tryz.prog 155 #[v, .int .i64 i, .slice (some ⟨xb, 0, none⟩) 1 1] w (InsIs_rs B w v (M.take i ++ p :: M.drop i)) := by
 obtain ⟨i0, hi0, hz0, hz1, hz2⟩ := info_parts vinfo_rs
 have hxr : ∀ W : World, W.heap[xb]? = w.heap[xb]? → ∀ j u, (rsY.cs p)[j]? = some u → W.cell? ((⟨xb, 0, none⟩ : Addr).add j) = some u := fun W hW j u hj => by
  rw [Addr.add_lit]
  simp only [World.cell?, hW, hx, Nat.zero_add]
  simpa using hj
 have hxl : xb < w.heap.size := by
  rcases Nat.lt_or_ge xb w.heap.size with h | h
  ·exact h
  ·rw [Array.getElem?_eq_none h] at hx
   cases hx
 have hlen : (M.take i ++ p :: M.drop i).length = M.length + 1 := by rw [List.length_append, List.length_cons, List.length_take, List.length_drop]; omega
 have hitv : rsY.fl (M.take i ++ p :: M.drop i) = rsY.fl (M.take i) ++ (rsY.cs p ++ rsY.fl (M.drop i)) := by rw [V_app_rs, V_cons_rs]
 obtain ⟨n, hn⟩ : ∃ n, M.length = n := ⟨_, rfl⟩
 rw [hn] at hown hi hM hlen
 obtain ⟨a, c, rfl, hnc⟩ := row_form hown
 by_cases hin : i = n
 ·subst hin
  have hrow : IsRow 6 (.slice (some ⟨xb, 0, none⟩) 1 1) 1 (rsY.cs p) w := by
   refine ⟨rfl, some ⟨xb, 0, none⟩, 1, rfl, (fun h => by cases h), .inr ⟨xb, 0, rfl, hxl, fun j hj => ?_⟩⟩
   have := hxr w rfl j _ (List.getElem?_eq_getElem hj)
   rw [Addr.add_lit] at this
   rw [this]
  have hfin : M.take i ++ p :: M.drop i = M ++ [p] := by rw [List.take_of_length_le (by omega), List.drop_eq_nil_of_le (by omega)]
  rw [hfin] at hlen hitv ⊢
  obtain ⟨v', w', hr, hown', hgrow⟩ := run_app_row (P := Tryz.prog) w B 23 23 38 i0 _ 6 88 Tryz.underlying23 hi0 hz0 hz1 hz2 rfl (by omega) _ i (rsY.fl M) hown (.slice (some ⟨xb, 0, none⟩) 1 1) 1 (rsY.cs p) hrow (by intro u hu; exact C_one_rs p u hu) (by omega) (by omega) hB
  have HVB := Lib.hid (app1_vb_rs hown hM (hxr w rfl) hr)
  have hr2 : ∀ ty, (Builtin.append_ #[23, 23] ty #[.slice a i c, .slice (some ⟨xb, 0, none⟩) 1 1]).run Tryz.prog w = .ok v' w' := fun ty => hr
  have RR := Lib.hid hr2
  have HLN := Lib.hid hlen
  have HO3 := Lib.hid hown'
  have HG := Lib.hid hgrow
  clear hxr hfin hlen hitv hown hrow hn hx hr hr2 hown' hgrow
  by_cases hci : c = i
  ·subst hci
   go_enter Tryz.func155, Tryz.ntmps155
   go_wp2_with (at_builtin; refine Hid.out ?_)
   refine Lib.hid ?_
   refine Lib.wpList_append_run _ rfl _ _ _ _ rfl _ _ rfl rfl _ _ (RR.out _) ?_
   go_wp2_with fail
   go_ret
   exact ⟨v', rfl, by rw [HLN.out, V_app_rs, V_one1_rs]; exact HO3.out, HG.out, HVB.out⟩
  ·have w0 : (i : Int) ≤ (c : Int) := by omega
   go_enter Tryz.func155, Tryz.ntmps155
   go_wp2_with (at_builtin; refine Hid.out ?_)
   refine Lib.hid ?_
   refine Lib.wpList_append_run _ rfl _ _ _ _ rfl _ _ rfl rfl _ _ (RR.out _) ?_
   go_wp2_with fail
   go_ret
   exact ⟨v', rfl, by rw [HLN.out, V_app_rs, V_one1_rs]; exact HO3.out, HG.out, HVB.out⟩
 ·have hlt : i < n := by omega
  obtain ⟨g, rfl, -, hgB, hgl⟩ := own_some hown (by omega)
  have hgx : g ≠ xb := fun e => hne (by rw [e]; rfl)
  have hTl : (rsY.fl (M.take i)).length = i * 6 := by rw [V_len_rs, List.length_take]; congr 1; omega
  have hDl : (rsY.fl (M.drop i)).length = (n - i) * 6 := by rw [V_len_rs, List.length_drop, hn]
  have hMs : rsY.fl M = rsY.fl (M.take i) ++ rsY.fl (M.drop i) := by rw [← V_app_rs, List.take_append_drop]
  have hMd : (rsY.fl M).drop (i * 6) = rsY.fl (M.drop i) := (V_drop_rs M i).symm
  have hP1 : ∀ u ∈ rsY.cs p, u.oneCell' = true := by intro u hu; exact C_one_rs p u hu
  have hsz : (Tryz.prog.info? 38).map (·.size) = some 6 := by rw [hi0]; simp [hz1]
  have hc63 : c ≤ 9223372036854775807 := by
   rcases hown.2 with ⟨h, _⟩ | ⟨g', cap', cur, h, _, _, _, h4, _⟩
   ·simp at h
   ·simp only [Value.slice.injEq] at h
    obtain ⟨_, _, rfl⟩ := h
    unfold maxLen at h4
    exact h4
  have w1 : IntKind.i64.wrap ((i : Int) + 1) = (i : Int) + 1 := IntWalk.i64_in _ (by omega)
  have w2 : ((i : Int) + 1).toNat = i + 1 := by omega
  have w3 : (0 : Int) ≤ (i : Int) + 1 := by omega
  have w4 : ¬ (c = i) := by omega
  have w5 : (i : Int) ≤ (n : Int) := by omega
  have w6 : ¬ ((i : Int) = (n : Int)) := by omega
  have w7 : IntKind.i64.wrap ((n : Int) + 1) = (n : Int) + 1 := IntWalk.i64_in _ (by omega)
  have w8 : ((n : Int) + 1).toNat = n + 1 := by omega
  by_cases hroom : n + 1 ≤ c
  ·have v1 : ¬ ((c : Int) < (n : Int) + 1) := by omega
   have v2 : ¬ (c = i + 1) := by omega
   have v3 : (i : Int) ≤ (n : Int) + 1 := by omega
   have v4 : (i : Int) + 1 ≤ (n : Int) + 1 := by omega
   have v5 : (n : Int) + 1 ≤ (c : Int) := by omega
   obtain ⟨st, hst, hwide⟩ := own_wider hown hroom
   obtain ⟨W2, hcp1, own2, grow2⟩ := run_copy_own w.drew B g (n + 1) c 6 (i + 1) (n + 1 - (i + 1)) (c - (i + 1)) 23 23 38 ⟨g, i * 6, none⟩ (n + 1 - i) (c - i) _ (rsY.fl (M.drop i)) Tryz.underlying23 hsz hwide.drew
    (by rw [hDl]; congr 1; simp only [Nat.min_def]; split <;> omega) (fun j v hj => own_addr hown (i * 6) j v (by rw [hMd]; exact hj)) (by rw [hDl, ← Nat.add_mul]; exact Nat.mul_le_mul_right _ (by omega)) (fun u hu => V_one_rs _ u hu)
   have hx2 : W2.heap[xb]? = w.heap[xb]? := grow2.block xb hxl (fun e => hgx (by cases e; rfl))
   obtain ⟨W3, hcp2, own3, grow3⟩ := run_copy_own W2 B g (n + 1) c 6 i (n + 1 - i) (c - i) 23 23 38 ⟨xb, 0, none⟩ 1 1 _ (rsY.cs p) Tryz.underlying23 hsz own2
    (by rw [C_len_rs]; have : Nat.min 1 (n + 1 - i) = 1 := by simp only [Nat.min_def]; split <;> omega
        rw [this]) (hxr W2 hx2) (by rw [C_len_rs]; omega) hP1
   have hov : ∀ lb cb, (callFunc 198 #[.slice (some ⟨xb, 0, none⟩) 1 1, .slice (some ⟨g, (i + 1) * 6, none⟩) lb cb]).run Tryz.prog w = .ok (.value (.bool false)) w := fun lb cb => by
    rcases hwide.2 with ⟨h, _⟩ | ⟨g', cap', cur, h, _, hg', _, _, hcs', _⟩
    ·simp at h
    ·simp only [Value.slice.injEq, Option.some.injEq, Addr.mk.injEq, and_true, true_and] at h
     obtain ⟨rfl, rfl⟩ := h
     rw [run_callFunc_extern Tryz.func198 (by kernel_rfl) (by kernel_rfl) (by kernel_rfl) (e := Extern.SlicesOverlaps.overlaps #[23, 23] #[4]) (by kernel_rfl),
      Lib.run_overlaps_apart w 23 4 38 Tryz.underlying23 6 (fun w => by simp [sizeOf, typeInfo, hi0, hz1]) ⟨xb, 0, none⟩ ⟨g, (i + 1) * 6, none⟩ 1 1 lb cb (fun e => hgx e.symm) 38 38 6 cur.size (by simp only [World.shape?, hx]; rfl) (by simp only [World.shape?, hg']) (by omega) (by simp [World.frozen?, hx]) (by simp [World.frozen?, hx])]
     rfl
   have hfin : rsY.fl (M.take i) ++ (rsY.cs p ++ rsY.fl (M.drop i)) = _ := (ins_room (rsY.fl (M.take i)) (rsY.fl (M.drop i)) st (rsY.cs p) (by rw [hst]; rfl)).symm
   rw [hTl, C_len_rs, ← hMs, show i * 6 + 6 = (i + 1) * 6 by omega] at hfin
   rw [C_len_rs, show i * 6 + 6 = (i + 1) * 6 by omega, ← hfin] at own3
   have HO := Lib.hid own3
   have HG := Lib.hid (grown_trans2 (w := w) (w1 := W2) ⟨grow2.os, grow2.tape, grow2.output, grow2.size, grow2.block⟩ grow3)
   have HLN := Lib.hid hlen
   have HI := Lib.hid hitv
   have CP1 := Lib.hid hcp1
   have CP2 := Lib.hid hcp2
   have OV := Lib.hid hov
   clear hx hxr hown hwide own2 own3 grow2 grow3 hTl hDl hMs hMd hP1 hsz hst hx2 hcp1 hcp2 hfin hlen hitv hn hov hne
   go_enter Tryz.func155, Tryz.ntmps155
   have mixed : Tryz.prog.follows Departure.mixedOrders = true := by kernel_rfl
   go_wp2_with (simp only [OV.out])
   go_region_law_o (refine step_copy_runI rfl _ _ 23 23 rfl _ _ (by simp [Act.eval, Act.put]) (by simp [Act.eval, Act.put]) (CP1.out _) ?_)
   have cp2 := CP2.out
   go_wp2_with fail
   go_ret
   exact ⟨_, rfl, by rw [HLN.out, HI.out]; exact HO.out, HG.out, fun g' hg' => .inl hg'⟩
  ·obtain rfl : c = n := by omega
   have hkk : (c : Int) + 1 - (i : Int) = ((c + 1 - i : Nat) : Int) := by omega
   have hik : i + (c + 1 - i) = c + 1 := by omega
   have hold : (Builtin.firstCells i0.size i (.slice (some ⟨g, 0, none⟩) i c)).run Tryz.prog w.drew = .ok (rsY.fl (M.take i)).toArray w.drew := by
    rw [hz1]
    exact run_firstCells_some w.drew 6 i ⟨g, 0, none⟩ i c (rsY.fl (M.take i)) hTl (fun j u hj => by
     have h2 : (rsY.fl M)[j]? = some u := by
      rw [hMs, List.getElem?_append_left]
      ·exact hj
      ·rcases Nat.lt_or_ge j (rsY.fl (M.take i)).length with h | h
       ·exact h
       ·rw [List.getElem?_eq_none h] at hj; cases hj
     exact hown.cells (g := g) rfl j u h2)
   have hrz := fun ty => Lib.run_append_grow_zeros w 23 3 ty 38 i0 _ .i64 .i64 Tryz.underlying23 Tryz.underlying3 hi0 hz0 (some ⟨g, 0, none⟩) i c (rsY.fl (M.take i)) hold (c + 1 - i) (by omega) (by omega) (by omega) (by omega) (by rw [hz2]; omega) (by rw [hz2, hik]; exact growslice_fits (by omega) (by omega))
   rw [hik] at hrz
   have hge := grownCap_ge w (c + 1) c 38
   have hmx : grownCap w (c + 1) c 38 ≤ maxLen := grownCap_le_maxLen w (c + 1) c 38 (by unfold maxLen; omega)
   obtain ⟨G, hG⟩ : ∃ G, grownCap w (c + 1) c 38 = G := ⟨_, rfl⟩
   rw [hG] at hrz hge hmx
   obtain ⟨Z, hZ⟩ : ∃ Z, (Builtin.zeroCells (Value.cells (.agg #[.string ⟨#[]⟩, .bool false, .int .i64 0, .slice none 0 0, .bool false, .slice none 0 0])) (c + 1 - i)).toList = Z := ⟨_, rfl⟩
   have hZl : Z.length = (c + 1 - i) * 6 := by rw [← hZ, Array.length_toList, size_zeroCells]; rfl
   have own1 : (w.drew.alloc (.cells ((rsY.fl (M.take i)).toArray ++ Builtin.zeroCells (Value.cells (.agg #[.string ⟨#[]⟩, .bool false, .int .i64 0, .slice none 0 0, .bool false, .slice none 0 0])) (c + 1 - i) ++ Builtin.zeroCells (Value.cells (.agg #[.string ⟨#[]⟩, .bool false, .int .i64 0, .slice none 0 0, .bool false, .slice none 0 0])) (G - (c + 1))) 38)).ownsRow B 38 6 (.slice (some ⟨w.heap.size, 0, none⟩) (c + 1) G) (c + 1) (rsY.fl (M.take i) ++ Z) := by
    have hlen1 : (rsY.fl (M.take i) ++ Z).length = (c + 1) * 6 := by rw [List.length_append, hTl, hZl, ← Nat.add_mul, hik]
    refine ⟨hlen1, .inr ⟨w.heap.size, G, _, rfl, hB, heap_alloc_new w.drew _, hge, hmx, ?_, ?_⟩⟩
    ·simp only [Array.size_append, List.size_toArray, size_zeroCells, hTl]
     show i * 6 + (c + 1 - i) * 6 + (G - (c + 1)) * 6 = G * 6
     omega
    ·simp only [Array.toList_append]
     rw [hZ, ← hlen1]
     exact List.take_left
   have grow1 : w.grownBy (w.drew.alloc (.cells ((rsY.fl (M.take i)).toArray ++ Builtin.zeroCells (Value.cells (.agg #[.string ⟨#[]⟩, .bool false, .int .i64 0, .slice none 0 0, .bool false, .slice none 0 0])) (c + 1 - i) ++ Builtin.zeroCells (Value.cells (.agg #[.string ⟨#[]⟩, .bool false, .int .i64 0, .slice none 0 0, .bool false, .slice none 0 0])) (G - (c + 1))) 38)) (some g) := ⟨rfl, rfl, rfl, by simp, fun k hk _ => heap_alloc_old w.drew _ hk⟩
   obtain ⟨W1, hW1⟩ : ∃ W1, w.drew.alloc (.cells ((rsY.fl (M.take i)).toArray ++ Builtin.zeroCells (Value.cells (.agg #[.string ⟨#[]⟩, .bool false, .int .i64 0, .slice none 0 0, .bool false, .slice none 0 0])) (c + 1 - i) ++ Builtin.zeroCells (Value.cells (.agg #[.string ⟨#[]⟩, .bool false, .int .i64 0, .slice none 0 0, .bool false, .slice none 0 0])) (G - (c + 1))) 38) = W1 := ⟨_, rfl⟩
   have hrz2 : ∀ ty, (Builtin.append_ #[23, 3] ty #[.slice (some ⟨g, 0, none⟩) i c, .int .i64 ((c : Int) + 1 - (i : Int))]).run Tryz.prog w = .ok (.slice (some ⟨w.heap.size, 0, none⟩) (c + 1) G) W1 := fun ty => by rw [hkk, ← hW1]; exact hrz ty
   have hx1 : W1.heap[xb]? = w.heap[xb]? := by rw [← hW1]; exact heap_alloc_old w.drew _ hxl
   have hg1 : W1.heap[g]? = w.heap[g]? := by rw [← hW1]; exact heap_alloc_old w.drew _ hgl
   rw [hW1] at own1 grow1
   obtain ⟨W2, hcp1, own2, grow2⟩ := run_copy_own W1 B w.heap.size (c + 1) G 6 i (c + 1 - i) (G - i) 23 23 38 ⟨xb, 0, none⟩ 1 1 _ (rsY.cs p) Tryz.underlying23 hsz own1
    (by rw [C_len_rs]; have : Nat.min 1 (c + 1 - i) = 1 := by simp only [Nat.min_def]; split <;> omega
        rw [this]) (hxr W1 hx1) (by rw [C_len_rs]; omega) hP1
   have hs1 : w.heap.size < W1.heap.size := (own1.lt _ rfl).2
   have hg2 : W2.heap[g]? = w.heap[g]? := (grow2.block g (by omega) (fun e => by cases e; omega)).trans hg1
   obtain ⟨W3, hcp2, own3, grow3⟩ := run_copy_own W2.drew B w.heap.size (c + 1) G 6 (i + 1) (c + 1 - (i + 1)) (G - (i + 1)) 23 23 38 ⟨g, i * 6, none⟩ (c - i) (c - i) _ (rsY.fl (M.drop i)) Tryz.underlying23 hsz own2.drew
    (by rw [hDl]; congr 1; simp only [Nat.min_def]; split <;> omega) (fun j u hj => by
     have h := own_addr hown (i * 6) j u (by rw [hMd]; exact hj)
     rw [Addr.add_lit] at h ⊢
     simp only [World.cell?] at h ⊢
     rw [show W2.drew.heap[g]? = w.heap[g]? from hg2]
     exact h) (by rw [hDl, ← Nat.add_mul]; exact Nat.mul_le_mul_right _ (by omega)) (fun u hu => V_one_rs _ u hu)
   have hfin := ins_grow (rsY.fl (M.take i)) (rsY.fl (M.drop i)) Z (rsY.cs p) (by rw [hZl, hDl, C_len_rs]; omega)
   rw [hTl, C_len_rs, show i * 6 + 6 = (i + 1) * 6 by omega] at hfin
   rw [C_len_rs, show i * 6 + 6 = (i + 1) * 6 by omega, hfin] at own3
   have u1 : ¬ (G = i) := by omega
   have u2 : ¬ (G = i + 1) := by omega
   have u3 : (c : Int) < (c : Int) + 1 := by omega
   have u4 : G ≤ 9223372036854775807 := by unfold maxLen at hmx; exact hmx
   have u5 : (i : Int) ≤ (c : Int) + 1 := by omega
   have u6 : (i : Int) + 1 ≤ (c : Int) + 1 := by omega
   have u7 : IntKind.i64.wrap ((c : Int) + 1 - (i : Int)) = (c : Int) + 1 - (i : Int) := IntWalk.i64_in _ (by omega)
   have HO := Lib.hid own3
   have g2 := grown_new (row := some g) grow1 grow2 (Nat.le_refl _)
   have HG := Lib.hid (grown_new (w := w) (w1 := W2) (row := some g) g2 (g := w.heap.size) ⟨grow3.os, grow3.tape, grow3.output, grow3.size, grow3.block⟩ (Nat.le_refl _))
   have HLN := Lib.hid hlen
   have HI := Lib.hid hitv
   have CP1 := Lib.hid hcp1
   have CP2 := Lib.hid hcp2
   have RZ := Lib.hid hrz2
   clear hx hxr hown own1 own2 own3 grow1 grow2 grow3 g2 hTl hDl hMs hMd hP1 hsz hx1 hg1 hg2 hcp1 hcp2 hfin hlen hitv hn hne hrz hrz2 hW1 hZ hZl hG hold hge hmx hkk hik hs1
   go_enter Tryz.func155, Tryz.ntmps155
   go_wp2_with (at_builtin; refine Hid.out ?_)
   refine Lib.hid ?_
   refine Lib.wpList_append_run _ rfl _ _ _ _ rfl _ _ rfl rfl _ _ (RZ.out _) ?_
   have mixed : Tryz.prog.follows Departure.mixedOrders = true := by kernel_rfl
   have cp1 := CP1.out
   go_wp2_with fail
   go_region_law_o (refine step_copy_runI rfl _ _ 23 23 rfl _ _ (by simp [Act.eval, Act.put]) (by simp [Act.eval, Act.put]) (CP2.out _) ?_)
   go_wp2_with fail
   go_ret
   exact ⟨_, rfl, by rw [HLN.out, HI.out]; exact HO.out, HG.out, fun g' hg' => by (cases hg'; exact .inr (Nat.le_refl _))⟩
set_option maxHeartbeats 4000000 in
set_option maxRecDepth 100000 in
theorem sl_Delete_rs (B : Nat) (v : Value) (M : List RsI) (i : Nat) (w : World) (hown : w.ownsRow B 38 6 v M.length (rsY.fl M)) (hi : i < M.length) (hM : M.length ≤ 100000) :
  Calls Tryz.prog 96 #[v, .int .i64 i, .int .i64 ((i : Int) + 1)] w (InsIs_rs B w v (M.eraseIdx i)) := by
 obtain ⟨i0, hi0, hz0, hz1, hz2⟩ := info_parts vinfo_rs
 obtain ⟨n, hn⟩ : ∃ n, M.length = n := ⟨_, rfl⟩
 rw [hn] at hown hi hM
 obtain ⟨a, c, rfl, hnc⟩ := row_form hown
 obtain ⟨g, rfl, -, hgB, hgl⟩ := own_some hown (by omega)
 have hlen : (M.eraseIdx i).length = n - 1 := by rw [List.length_eraseIdx, if_pos (by omega), hn]
 have hTl : (rsY.fl (M.take i)).length = i * 6 := by rw [V_len_rs, List.length_take]; congr 1; omega
 have hDl : (rsY.fl (M.drop (i + 1))).length = (n - (i + 1)) * 6 := by rw [V_len_rs, List.length_drop, hn]
 have hMd : (rsY.fl M).drop ((i + 1) * 6) = rsY.fl (M.drop (i + 1)) := (V_drop_rs M (i + 1)).symm
 have hMt : (rsY.fl M).take (i * 6) = rsY.fl (M.take i) := (V_take_rs M i).symm
 have hMl : (rsY.fl M).drop ((n - 1) * 6) = rsY.fl (M.drop (n - 1)) := (V_drop_rs M (n - 1)).symm
 have hc63 : c ≤ 9223372036854775807 := by
  rcases hown.2 with ⟨h, _⟩ | ⟨g', cap', cur, h, _, _, _, h4, _⟩
  ·simp at h
  ·simp only [Value.slice.injEq] at h
   obtain ⟨_, _, rfl⟩ := h
   unfold maxLen at h4
   exact h4
 have hown' : w.drew.ownsRow B 38 i0.size (.slice (some ⟨g, 0, none⟩) n c) n (rsY.fl M) := by rw [hz1]; exact hown.drew
 have key : ∀ a' : Addr, (∀ j u, (rsY.fl (M.drop (i + 1)))[j]? = some u → w.cell? (a'.add j) = some u) → ∀ cc, ∃ w', (∀ ty, (Builtin.append_ #[23, 23] ty #[.slice (some ⟨g, 0, none⟩) i c, .slice (some a') (n - (i + 1)) cc]).run Tryz.prog w.drew = .ok (.slice (some ⟨g, 0, none⟩) (n - 1) c) w') ∧
   w'.ownsRow B 38 6 (.slice (some ⟨g, 0, none⟩) n c) n (rsY.fl (M.eraseIdx i ++ M.drop (n - 1))) ∧ w.grownBy w' (some g) := fun a' ha cc => by
  obtain ⟨w', h1, h2, h3⟩ := run_app_own_in w.drew B g n c i 23 38 i0 Tryz.underlying23 hi0 a' (n - (i + 1)) cc (rsY.fl M) (rsY.fl (M.drop (i + 1))) hown' (by rw [hDl, hz1]) ha (by omega) (fun u hu => V_one_rs _ u hu)
  rw [show i + (n - (i + 1)) = n - 1 by omega] at h1
  rw [hz1, hMt, hDl, show i * 6 + (n - (i + 1)) * 6 = (n - 1) * 6 by omega, hMl, ← V_app_rs, ← V_app_rs, erase_eq_rs] at h2
  exact ⟨w', h1, h2, ⟨h3.os, h3.tape, h3.output, h3.size, h3.block⟩⟩
 have w1 : ((i : Int) + 1).toNat = i + 1 := by omega
 have w2 : (0 : Int) ≤ (i : Int) + 1 := by omega
 have w3 : (i : Int) ≤ (i : Int) + 1 := by omega
 have w4 : (i : Int) + 1 ≤ (n : Int) := by omega
 have w5 : ¬ ((i : Int) = (i : Int) + 1) := by omega
 have w6 : (i : Int) ≤ (c : Int) := by omega
 have w7 : ((n - 1 : Nat) : Int) ≤ (n : Int) := by omega
 have w8 : ¬ (c = n - 1) := by omega
 have w9 : (n : Int) ≤ (c : Int) := by omega
 have fin : ∀ W1 : World, W1.ownsRow B 38 6 (.slice (some ⟨g, 0, none⟩) n c) n (rsY.fl (M.eraseIdx i ++ M.drop (n - 1))) → w.grownBy W1 (some g) →
   ∃ w', (∀ ty, (Builtin.clear_ #[23] ty #[.slice (some ⟨g, (n - 1) * 6, none⟩) (n - (n - 1)) (c - (n - 1))]).run Tryz.prog W1 = .ok (.tuple #[]) w') ∧ w'.ownsRow B 38 6 (.slice (some ⟨g, 0, none⟩) (n - 1) c) (M.eraseIdx i).length (rsY.fl (M.eraseIdx i)) ∧ w.grownBy w' (some g) := fun W1 h1 h2 => by
  obtain ⟨w', e1, e2, e3⟩ := run_clear_rs W1 B g n c (n - 1) _ h1 (by omega)
  have e4 : (M.eraseIdx i ++ M.drop (n - 1)).take (n - 1) = M.eraseIdx i := by rw [← hlen]; exact List.take_left
  rw [e4] at e2
  exact ⟨w', e1, by rw [hlen]; exact e2, grown_trans2 h2 e3⟩
 by_cases hcc : c = i + 1
 ·obtain ⟨W1, ap, own1, gr1⟩ := key ⟨g, 0, none⟩ (fun j u hj => by
   have : M.drop (i + 1) = [] := List.drop_eq_nil_of_le (by omega)
   rw [this] at hj
   simp [V_nil_rs] at hj) 0
  obtain ⟨W2, cl, own2, gr2⟩ := fin W1 own1 gr1
  have hni : n = i + 1 := by omega
  have hn1 : n - 1 = i := by omega
  have hn2 : n - (n - 1) = 1 := by omega
  rw [hn2, hn1] at cl
  have hn3 : n - (i + 1) = 0 := by omega
  rw [hn3, hn1] at ap
  rw [hn1] at own2
  have hci : c - i = 1 := by omega
  rw [hci] at cl
  have AP := Lib.hid ap
  have HO := Lib.hid own2
  have HG := Lib.hid gr2
  subst hcc
  subst hni
  clear ap own1 gr1 own2 gr2 key fin hown hown' hlen hTl hDl hMd hMt hMl hn
  go_enter Tryz.func96, Tryz.ntmps96
  have mixed : Tryz.prog.follows Departure.mixedOrders = true := by kernel_rfl
  go_wp2_with fail
  go_region_law_o (refine step_append_runI rfl _ _ 23 23 rfl (.slice (some ⟨g, 0, none⟩) i (i + 1)) (.slice (some ⟨g, 0, none⟩) 0 0) (by simp [Act.eval, Act.put]) (by simp [Act.eval, Act.put]) (AP.out _) ?_)
  have CLR := cl
  go_wp2_with fail
  go_ret
  exact ⟨_, rfl, HO.out, HG.out, fun g' hg' => .inl hg'⟩
 ·obtain ⟨W1, ap, own1, gr1⟩ := key ⟨g, (i + 1) * 6, none⟩ (fun j u hj => own_addr hown ((i + 1) * 6) j u (by rw [hMd]; exact hj)) (c - (i + 1))
  obtain ⟨W2, cl, own2, gr2⟩ := fin W1 own1 gr1
  have AP := Lib.hid ap
  have HO := Lib.hid own2
  have HG := Lib.hid gr2
  clear ap own1 gr1 own2 gr2 key fin hown hown' hlen hTl hDl hMd hMt hMl hn
  go_enter Tryz.func96, Tryz.ntmps96
  have mixed : Tryz.prog.follows Departure.mixedOrders = true := by kernel_rfl
  go_wp2_with fail
  go_region_law_o (refine step_append_runI rfl _ _ 23 23 rfl _ _ (by simp [Act.eval, Act.put]) (by simp [Act.eval, Act.put]) (AP.out _) ?_)
  have CLR := cl
  go_wp2_with fail
  go_ret
  exact ⟨_, rfl, HO.out, HG.out, fun g' hg' => .inl hg'⟩
end Go.Proofs.YtjgeiieiinmdnaaGreatDoor
namespace Go.Proofs.YtjgeiieiinmdnaaGreatDoor
open Go.RowKit Go.Lib

section
variable {α : Type}
/-- is one of that name there, by its address? -/
def thO (nm : α → List UInt8) (M : List α) (t : List UInt8) : Bool := match M[poG nm M t]? with
 | some y => decide (ordT (nm y) t = 0)
 | none => false
/-- .. put in its place. -/
def puO (nm : α → List UInt8) (M : List α) (x : α) : List α := if thO nm M (nm x) then M.set (poG nm M (nm x)) x else M.take (poG nm M (nm x)) ++ x :: M.drop (poG nm M (nm x))
theorem thO_lt {nm : α → List UInt8} {M : List α} {t : List UInt8} (h : thO nm M t = true) : poG nm M t < M.length := by
 rcases Nat.lt_or_ge (poG nm M t) M.length with h1 | h1
 ·exact h1
 ·unfold thO at h
  rw [List.getElem?_eq_none h1] at h
  cases h
theorem search_G {nm : α → List UInt8} {M : List α} {t : List UInt8} (hc : chG nm M = true) (k : Nat) (h : k < M.length) : decide (ordT (nm M[k]) t < 0) = decide (k < poG nm M t) := by
 rw [ordT_neg]
 exact posL_iffG hc k h
end
set_option maxRecDepth 100000 in
theorem ha_put1_ac (x : AcI) (t : List UInt8) (Ls : Nat) (w : World) (hs : Ls < w.heap.size) (cs : w.cell? ⟨Ls, 1, none⟩ = some nm_ac) (zx : x.j.length ≤ 10000) (zt : t.length ≤ 10000) (hm : ML w) :
  Calls Tryz.prog 118 #[x.v, .string ⟨t.toArray⟩, .pointer (some ⟨Ls, 0, none⟩)] w (Ret w (.int .i64 (ordT x.j t))) := by
 have HO := Lib.hid fun (W : World) (m : ML W) => show Calls Tryz.prog 119 #[.string ⟨x.j.toArray⟩, .string ⟨t.toArray⟩] W (Ret W (.int .i64 (ordT x.j t))) from ha_order ⟨x.j.toArray⟩ ⟨t.toArray⟩ W (by rw [← size_toList]; exact zx) (by rw [← size_toList]; exact zt) m
 have HM := Lib.hid hm
 have en := e_ac
 clear hm
 obtain ⟨W0, hW, y0, bs⟩ := Sx.start1 w [.string ⟨x.j.toArray⟩, x.iv, .int .i64 x.ver] 33
 have HW := Lib.hid hW
 clear hW
 have q := bs.q
 go_enter Tryz.func118, Tryz.ntmps118
 have c_y0 := bs.at 0 0 rfl rfl
 have c_y1 := bs.at 0 1 rfl rfl
 have c_y2 := bs.at 0 2 rfl rfl
 go_wp2_with fail
 rw [HW.out]
 refine (ha_nm_ac x W0).mono ?_
 rintro e w1 ⟨rfl, hb⟩
 clear c_y0 c_y1 c_y2 cs
 replace bs := bs.ret hb
 replace q := bs.q
 clear hb
 go_wp2_with fail
 refine (HO.out w1 (HM.out.ret q)).mono ?_
 rintro e w2 ⟨rfl, hb⟩
 replace bs := bs.ret hb
 replace q := bs.q
 clear hb
 go_wp2_with fail
 go_ret
 exact ⟨rfl, q⟩
theorem e_put_ac : ∀ args w, (callFunc 118 args).run Tryz.prog w = .ok (.enter 118 args) w := enters_of Tryz.func118 (by kernel_rfl) rfl
set_option maxHeartbeats 4000000 in
set_option maxRecDepth 100000 in
theorem ha_put_ac (a : Option Addr) (c : Nat) (M : List AcI) (x : AcI) (w : World) (hv : IsL acY (.slice a M.length c) M w) (hM : M.length ≤ 1000) (hj : ∀ y ∈ M, y.j.length ≤ 10000) (zx : x.j.length ≤ 10000) (hc : chG (fun x : AcI => x.j) M = true) (hm : ML w) :
  Calls Tryz.prog 58 #[.agg #[.slice a M.length c, nm_ac], x.v] w (NewL acY w (puO (fun x : AcI => x.j) M x)) := by
 obtain ⟨L, hL⟩ : ∃ L, M.length = L := ⟨_, rfl⟩
 obtain ⟨P, hP⟩ : ∃ P, poG (fun x : AcI => x.j) M x.j = P := ⟨_, rfl⟩
 obtain ⟨F, hF⟩ : ∃ F, thO (fun x : AcI => x.j) M x.j = F := ⟨_, rfl⟩
 have hPL : P ≤ L := by rw [← hP, ← hL]; exact posL_leG (nm := (fun x : AcI => x.j)) M x.j
 have hF1 : ∀ h : P < M.length, F = decide (ordT M[P].j x.j = 0) := fun h => by
  rw [← hF]
  unfold thO
  rw [hP, List.getElem?_eq_getElem h]
 have hF2 : ¬ P < M.length → F = false := fun h => by
  rw [← hF]
  unfold thO
  rw [hP, List.getElem?_eq_none (by omega)]
 have hres : puO (fun x : AcI => x.j) M x = if F then M.set P x else M.take P ++ x :: M.drop P := by unfold puO; rw [hF, hP]
 rw [hres]
 have hrow : IsL acY (.slice a L c) M w := by rw [← hL]; exact hv
 have BSF := Lib.hid fun (W : World) (hb : Below w.heap.size w W) (Ls : Nat) (hs : Ls < W.heap.size) (cs : W.cell? ⟨Ls, 1, none⟩ = some nm_ac) =>
  sl_Search_ac (.slice a L c) (.func (.func 118) #[] #[.pointer (some ⟨Ls, 0, none⟩)]) ⟨x.j.toArray⟩ (fun y => ordT y.j x.j) M P F W (hrow.ret hb) (by omega) ⟨_, _, rfl, e_put_ac, fun y hy V hV => ha_put1_ac y x.j Ls V (Nat.lt_of_lt_of_le hs hV.size) (((bcell hV).1 _ _ hs).trans cs) (hj y hy) zx (hm.ret (hb.trans (hV.mono hb.size)))⟩ (by omega) (fun k h => by rw [← hP]; exact search_G hc k h) hF1 hF2
 have CLN := Lib.hid fun (W : World) (hb : Below w.heap.size w W) => sl_Clone_ac (.slice a L c) M W (hrow.ret hb) (by omega)
 have hFl : F = true → P < L := fun h => by rw [← hP, ← hL]; exact thO_lt (by rw [hF]; exact h)
 have HL := Lib.hid hL
 have en := e_ac
 rw [hL]
 clear hv hj hc hm hP hF hF1 hF2 hres hrow
 cases F with
 | true =>
  have hlt := hFl rfl
  clear hFl
  simp only [if_true]
  obtain ⟨W0, hW, y0, bs⟩ := Sx.start2 w [.slice a L c, nm_ac] 79 [.string ⟨x.j.toArray⟩, x.iv, .int .i64 x.ver] 33
  have HW := Lib.hid hW
  clear hW
  have q := bs.q
  go_enter Tryz.func58, Tryz.ntmps58
  go_wp2_with fail
  rw [HW.out]
  replace bs := bs.ret (Below.drew (Below.refl _ _))
  replace q := bs.q
  have y1 : W0.drew.heap.size = W0.heap.size := rfl
  refine wp_region_held_drew (S := fun w' => w'.cell? ⟨w.heap.size, 0, none⟩ = some (.slice a L c) ∧ w'.cell? ⟨w.heap.size, 1, none⟩ = some (nm_ac) ∧ w'.cell? ⟨w.heap.size + 1, 0, none⟩ = some (.string ⟨x.j.toArray⟩) ∧ w'.cell? ⟨w.heap.size + 1, 1, none⟩ = some (x.iv) ∧ w'.cell? ⟨w.heap.size + 1, 2, none⟩ = some (.int .i64 x.ver)) (by kernel_rfl) ⟨bs.at 0 0 rfl rfl, bs.at 0 1 rfl rfl, bs.at 1 0 rfl rfl, bs.at 1 1 rfl rfl, bs.at 1 2 rfl rfl⟩ (fun hHeld => ?_)
  generalize W0.drew = w1 at bs q y1 hHeld ⊢
  refine tk_start [(0, some 9), (1, some 10), (2, some 11), (3, some 12), (4, some 13), (6, some 15)] ?_
  iterate 6
   refine tk_step (v := ?_) (by kernel_rfl) (by kernel_rfl) (fun _ _ _ h => h) (by assumption) (fun o ho w' hSw => ?_) ?_
   rotate_left
   ·simp only [List.getElem?_toArray, List.getElem?_cons_succ, List.getElem?_cons_zero, Option.some.injEq] at ho; subst ho; (try dsimp only at hSw); go_simp; try with_reducible rfl
   simp only [Act.put, List.setIfInBounds_toArray, List.set_cons_zero, List.set_cons_succ]
  refine tk_end ?_
  refine tk_call (i := 5) (by kernel_rfl) (by kernel_rfl) (fun o ho K hK => ?_)
  simp only [List.getElem?_toArray, List.getElem?_cons_succ, List.getElem?_cons_zero, Option.some.injEq] at ho
  subst ho
  go_simp
  refine (ha_nm_ac x w1).mono ?_
  rintro e w2 ⟨rfl, hb⟩
  replace bs := bs.ret hb
  replace q := bs.q
  clear hb
  go_simp
  clear hHeld
  refine hK.out _ _ ⟨bs.at 0 0 rfl rfl, bs.at 0 1 rfl rfl, bs.at 1 0 rfl rfl, bs.at 1 1 rfl rfl, bs.at 1 2 rfl rfl⟩ (fun hHeld => ?_)
  clear hK K
  refine tk_call (i := 7) (by kernel_rfl) (by kernel_rfl) (fun o ho K hK => ?_)
  simp only [List.getElem?_toArray, List.getElem?_cons_succ, List.getElem?_cons_zero, Option.some.injEq] at ho
  subst ho
  go_simp
  refine (BSF.out w2 q w.heap.size (bs.lt _ (List.mem_of_getElem? (i := 0) rfl)) (bs.at 0 1 rfl rfl)).mono ?_
  rintro e w3 ⟨rfl, hb⟩
  replace bs := bs.ret hb
  replace q := bs.q
  clear hb
  go_simp
  clear hHeld
  refine hK.out _ _ ⟨bs.at 0 0 rfl rfl, bs.at 0 1 rfl rfl, bs.at 1 0 rfl rfl, bs.at 1 1 rfl rfl, bs.at 1 2 rfl rfl⟩ (fun hHeld => ?_)
  clear hK K
  refine tk_start [(8, some 8), (9, some 17), (10, some 18), (11, some 5), (12, some 6)] ?_
  iterate 5
   refine tk_step (v := ?_) (by kernel_rfl) (by kernel_rfl) (fun _ _ _ h => h) (by assumption) (fun o ho w' hSw => ?_) ?_
   rotate_left
   ·simp only [List.getElem?_toArray, List.getElem?_cons_succ, List.getElem?_cons_zero, Option.some.injEq] at ho; subst ho; (try dsimp only at hSw); go_simp; try with_reducible rfl
   simp only [Act.put, List.setIfInBounds_toArray, List.set_cons_zero, List.set_cons_succ]
  refine tk_end ?_
  refine wpAnyH_done (by kernel_rfl) ?_ _
  clear hHeld
  have c_s0 := bs.at 0 0 rfl rfl
  have c_s1 := bs.at 0 1 rfl rfl
  go_wp2_with fail
  have qs := q.size
  refine (CLN.out w3 q).mono ?_
  rintro e w4 ⟨a1, c1, rfl, hown, hb⟩
  clear c_s0 c_s1
  replace bs := bs.ret hb
  replace q := bs.q
  clear hb
  rw [HL.out] at hown
  obtain ⟨g, rfl, -, hg0, hg1⟩ := own_some hown (by omega)
  have wn : (P : Int) < (L : Int) := by omega
  have hown : w4.ownsRow w.heap.size 33 3 (.slice (some ⟨g, 0, none⟩) L c1) L (acY.fl M) := hown.mono qs
  have HO := Lib.hid hown
  have hP2 : P < M.length := by rw [HL.out]; exact hlt
  obtain ⟨y, hy⟩ : ∃ y, M[P] = y := ⟨_, rfl⟩
  have i0 : w4.cell? ⟨g, P * 3, none⟩ = some (.string ⟨y.j.toArray⟩) := by
   have := hown.cellAt (P * 3) (by omega)
   rw [this]
   have := fl_at acY M P hP2 0 (by decide)
   rw [hy] at this
   exact this
  have j0 := hown.frozenAt (P * 3)
  have i1 : w4.cell? ⟨g, P * 3 + 1, none⟩ = some (y.iv) := by
   have := hown.cellAt (P * 3 + 1) (by omega)
   rw [this]
   have := fl_at acY M P hP2 1 (by decide)
   rw [hy] at this
   exact this
  have j1 := hown.frozenAt (P * 3 + 1)
  have i2 : w4.cell? ⟨g, P * 3 + 2, none⟩ = some (.int .i64 y.ver) := by
   have := hown.cellAt (P * 3 + 2) (by omega)
   rw [this]
   have := fl_at acY M P hP2 2 (by decide)
   rw [hy] at this
   exact this
  have j2 := hown.frozenAt (P * 3 + 2)
  have c_x0 := bs.at 1 0 rfl rfl
  have c_x1 := bs.at 1 1 rfl rfl
  have c_x2 := bs.at 1 2 rfl rfl
  go_wp2_with fail
  clear c_x0 c_x1 c_x2
  go_ret
  refine ⟨some ⟨g, 0, none⟩, c1, by rw [List.length_set, HL.out]; rfl, ?_, ?_⟩
  ·have := row_store HO.out HL.out P (by omega) x
   rw [List.length_set, HL.out]
   exact this
  ·exact below_sets ([.string ⟨x.j.toArray⟩, x.iv, .int .i64 x.ver] : List Value) (g := g) q (Nat.le_trans qs hg0) (P * 3)
 | false =>
  clear hFl
  simp only [Bool.false_eq_true, if_false]
  obtain ⟨W0, hW, y0, bs⟩ := Sx.start2 w [.slice a L c, nm_ac] 79 [.string ⟨x.j.toArray⟩, x.iv, .int .i64 x.ver] 33
  have HW := Lib.hid hW
  clear hW
  have q := bs.q
  go_enter Tryz.func58, Tryz.ntmps58
  go_wp2_with fail
  rw [HW.out]
  replace bs := bs.ret (Below.drew (Below.refl _ _))
  replace q := bs.q
  have y1 : W0.drew.heap.size = W0.heap.size := rfl
  refine wp_region_held_drew (S := fun w' => w'.cell? ⟨w.heap.size, 0, none⟩ = some (.slice a L c) ∧ w'.cell? ⟨w.heap.size, 1, none⟩ = some (nm_ac) ∧ w'.cell? ⟨w.heap.size + 1, 0, none⟩ = some (.string ⟨x.j.toArray⟩) ∧ w'.cell? ⟨w.heap.size + 1, 1, none⟩ = some (x.iv) ∧ w'.cell? ⟨w.heap.size + 1, 2, none⟩ = some (.int .i64 x.ver)) (by kernel_rfl) ⟨bs.at 0 0 rfl rfl, bs.at 0 1 rfl rfl, bs.at 1 0 rfl rfl, bs.at 1 1 rfl rfl, bs.at 1 2 rfl rfl⟩ (fun hHeld => ?_)
  generalize W0.drew = w1 at bs q y1 hHeld ⊢
  refine tk_start [(0, some 9), (1, some 10), (2, some 11), (3, some 12), (4, some 13), (6, some 15)] ?_
  iterate 6
   refine tk_step (v := ?_) (by kernel_rfl) (by kernel_rfl) (fun _ _ _ h => h) (by assumption) (fun o ho w' hSw => ?_) ?_
   rotate_left
   ·simp only [List.getElem?_toArray, List.getElem?_cons_succ, List.getElem?_cons_zero, Option.some.injEq] at ho; subst ho; (try dsimp only at hSw); go_simp; try with_reducible rfl
   simp only [Act.put, List.setIfInBounds_toArray, List.set_cons_zero, List.set_cons_succ]
  refine tk_end ?_
  refine tk_call (i := 5) (by kernel_rfl) (by kernel_rfl) (fun o ho K hK => ?_)
  simp only [List.getElem?_toArray, List.getElem?_cons_succ, List.getElem?_cons_zero, Option.some.injEq] at ho
  subst ho
  go_simp
  refine (ha_nm_ac x w1).mono ?_
  rintro e w2 ⟨rfl, hb⟩
  replace bs := bs.ret hb
  replace q := bs.q
  clear hb
  go_simp
  clear hHeld
  refine hK.out _ _ ⟨bs.at 0 0 rfl rfl, bs.at 0 1 rfl rfl, bs.at 1 0 rfl rfl, bs.at 1 1 rfl rfl, bs.at 1 2 rfl rfl⟩ (fun hHeld => ?_)
  clear hK K
  refine tk_call (i := 7) (by kernel_rfl) (by kernel_rfl) (fun o ho K hK => ?_)
  simp only [List.getElem?_toArray, List.getElem?_cons_succ, List.getElem?_cons_zero, Option.some.injEq] at ho
  subst ho
  go_simp
  refine (BSF.out w2 q w.heap.size (bs.lt _ (List.mem_of_getElem? (i := 0) rfl)) (bs.at 0 1 rfl rfl)).mono ?_
  rintro e w3 ⟨rfl, hb⟩
  replace bs := bs.ret hb
  replace q := bs.q
  clear hb
  go_simp
  clear hHeld
  refine hK.out _ _ ⟨bs.at 0 0 rfl rfl, bs.at 0 1 rfl rfl, bs.at 1 0 rfl rfl, bs.at 1 1 rfl rfl, bs.at 1 2 rfl rfl⟩ (fun hHeld => ?_)
  clear hK K
  refine tk_start [(8, some 8), (9, some 17), (10, some 18), (11, some 5), (12, some 6)] ?_
  iterate 5
   refine tk_step (v := ?_) (by kernel_rfl) (by kernel_rfl) (fun _ _ _ h => h) (by assumption) (fun o ho w' hSw => ?_) ?_
   rotate_left
   ·simp only [List.getElem?_toArray, List.getElem?_cons_succ, List.getElem?_cons_zero, Option.some.injEq] at ho; subst ho; (try dsimp only at hSw); go_simp; try with_reducible rfl
   simp only [Act.put, List.setIfInBounds_toArray, List.set_cons_zero, List.set_cons_succ]
  refine tk_end ?_
  refine wpAnyH_done (by kernel_rfl) ?_ _
  clear hHeld
  go_wp2_with fail
  replace bs := bs.ret (Below.drew (Below.refl _ _))
  replace q := bs.q
  have y4 : w3.drew.heap.size = w3.heap.size := rfl
  refine wp_region_held_drew (S := fun w' => w'.cell? ⟨w.heap.size, 0, none⟩ = some (.slice a L c) ∧ w'.cell? ⟨w.heap.size, 1, none⟩ = some (nm_ac) ∧ w'.cell? ⟨w.heap.size + 1, 0, none⟩ = some (.string ⟨x.j.toArray⟩) ∧ w'.cell? ⟨w.heap.size + 1, 1, none⟩ = some (x.iv) ∧ w'.cell? ⟨w.heap.size + 1, 2, none⟩ = some (.int .i64 x.ver)) (by kernel_rfl) ⟨bs.at 0 0 rfl rfl, bs.at 0 1 rfl rfl, bs.at 1 0 rfl rfl, bs.at 1 1 rfl rfl, bs.at 1 2 rfl rfl⟩ (fun hHeld => ?_)
  generalize w3.drew = w4 at bs q y4 hHeld ⊢
  refine tk_start [(0, some 28), (1, some 29), (3, some 31), (4, some 32)] ?_
  iterate 4
   refine tk_step (v := ?_) (by kernel_rfl) (by kernel_rfl) (fun _ _ _ h => h) (by assumption) (fun o ho w' hSw => ?_) ?_
   rotate_left
   ·simp only [List.getElem?_toArray, List.getElem?_cons_succ, List.getElem?_cons_zero, Option.some.injEq] at ho; subst ho; (try dsimp only at hSw); go_simp; try with_reducible rfl
   simp only [Act.put, List.setIfInBounds_toArray, List.set_cons_zero, List.set_cons_succ]
  refine tk_end ?_
  refine wpAnyH_ready (rs := [2, 5]) (by kernel_rfl) (by simp) ?_
  refine tk_cons (by kernel_rfl) (fun o ho K hK => ?_) ?_
  ·simp only [List.getElem?_toArray, List.getElem?_cons_succ, List.getElem?_cons_zero, Option.some.injEq] at ho
   subst ho
   go_simp
   refine (CLN.out w4 q).mono ?_
   rintro e w5 ⟨a1, c1, rfl, hown, hb⟩
   have o_c := OwX.mk' bs hown
   replace bs := bs.ret hb
   replace q := bs.q
   clear hb
   go_simp
   clear hHeld
   refine hK.out _ _ ⟨bs.at 0 0 rfl rfl, bs.at 0 1 rfl rfl, bs.at 1 0 rfl rfl, bs.at 1 1 rfl rfl, bs.at 1 2 rfl rfl⟩ (fun hHeld => ?_)
   clear hK K
   refine tk_call (i := 5) (by kernel_rfl) (by kernel_rfl) (fun o ho K hK => ?_)
   simp only [List.getElem?_toArray, List.getElem?_cons_succ, List.getElem?_cons_zero, Option.some.injEq] at ho
   subst ho
   go_simp
   have hpx : HpX (w5.heap.size) [.string ⟨x.j.toArray⟩, x.iv, .int .i64 x.ver] 33 (w5.alloc (.cells #[.string ⟨x.j.toArray⟩, x.iv, .int .i64 x.ver] 33)) := ⟨by rw [← show w5.heap.size = w5.heap.size from rfl]; exact World.alloc_heap_new _ _⟩
   obtain ⟨w6, hw6, y6, al, bs⟩ := bs.alloc (w5.heap.size) rfl [.string ⟨x.j.toArray⟩, x.iv, .int .i64 x.ver] 33
   replace o_c := o_c.alloc (w5.heap.size) rfl al
   clear al
   replace q := bs.q
   have o_h : HpX (w5.heap.size) [.string ⟨x.j.toArray⟩, x.iv, .int .i64 x.ver] 33 w6 := by rw [← hw6]; exact hpx
   clear hpx
   rw [hw6]
   go_simp
   clear hHeld
   refine hK.out _ _ ⟨bs.at 0 0 rfl rfl, bs.at 0 1 rfl rfl, bs.at 1 0 rfl rfl, bs.at 1 1 rfl rfl, bs.at 1 2 rfl rfl⟩ (fun hHeld => ?_)
   clear hK K
   refine tk_call (i := 6) (by kernel_rfl) (by kernel_rfl) (fun o ho K hK => ?_)
   simp only [List.getElem?_toArray, List.getElem?_cons_succ, List.getElem?_cons_zero, Option.some.injEq] at ho
   subst ho
   go_simp
   have hins := sl_Insert_ac w.heap.size (.slice a1 M.length c1) M P (w5.heap.size) x w6 o_c.1 q.size (by omega) (by omega) o_h.h (fun e => o_c.2 _ e (by simp))
   rw [HL.out] at hins
   refine hins.mono ?_
   rintro e w7 ⟨v', rfl, hrow, hgr, hvb⟩
   clear hins hvb
   replace bs := bs.grown hgr (fun g hg => ⟨(o_c.1.lt g (by rw [HL.out]; exact hg)).1, o_c.2 g (by rw [HL.out]; exact hg)⟩)
   replace q := bs.q
   clear o_c o_h
   go_simp
   clear hHeld
   refine hK.out _ _ ⟨bs.at 0 0 rfl rfl, bs.at 0 1 rfl rfl, bs.at 1 0 rfl rfl, bs.at 1 1 rfl rfl, bs.at 1 2 rfl rfl⟩ (fun hHeld => ?_)
   clear hK K
   refine tk_on (i := 7) (some 4) (v := ?_) (by kernel_rfl) (by kernel_rfl) (by kernel_rfl) (by kernel_rfl) (fun _ _ _ h => h) (by assumption) (fun o ho w' hSw => ?_) ?_
   rotate_left
   ·(simp only [List.getElem?_toArray, List.getElem?_cons_succ, List.getElem?_cons_zero, Option.some.injEq] at ho; subst ho; (try dsimp only at hSw); go_simp; try with_reducible rfl)
   simp only [Act.put, List.setIfInBounds_toArray, List.set_cons_zero, List.set_cons_succ]
   refine wpAnyH_done (by kernel_rfl) ?_ _
   clear hHeld
   obtain ⟨a2, c2, rfl, -⟩ := row_form hrow
   go_wp2_with fail
   go_ret
   exact ⟨a2, c2, rfl, hrow, q⟩
  refine tk_cons (by kernel_rfl) (fun o ho K hK => ?_) ?_
  ·simp only [List.getElem?_toArray, List.getElem?_cons_succ, List.getElem?_cons_zero, Option.some.injEq] at ho
   subst ho
   go_simp
   have hpx : HpX (w3.heap.size) [.string ⟨x.j.toArray⟩, x.iv, .int .i64 x.ver] 33 (w4.alloc (.cells #[.string ⟨x.j.toArray⟩, x.iv, .int .i64 x.ver] 33)) := ⟨by rw [← show w4.heap.size = w3.heap.size from (by omega)]; exact World.alloc_heap_new _ _⟩
   obtain ⟨w5, hw5, y5, al, bs⟩ := bs.alloc (w3.heap.size) (by omega) [.string ⟨x.j.toArray⟩, x.iv, .int .i64 x.ver] 33
   clear al
   replace q := bs.q
   have o_h : HpX (w3.heap.size) [.string ⟨x.j.toArray⟩, x.iv, .int .i64 x.ver] 33 w5 := by rw [← hw5]; exact hpx
   clear hpx
   rw [hw5]
   go_simp
   clear hHeld
   refine hK.out _ _ ⟨bs.at 0 0 rfl rfl, bs.at 0 1 rfl rfl, bs.at 1 0 rfl rfl, bs.at 1 1 rfl rfl, bs.at 1 2 rfl rfl⟩ (fun hHeld => ?_)
   clear hK K
   refine tk_call (i := 2) (by kernel_rfl) (by kernel_rfl) (fun o ho K hK => ?_)
   simp only [List.getElem?_toArray, List.getElem?_cons_succ, List.getElem?_cons_zero, Option.some.injEq] at ho
   subst ho
   go_simp
   refine (CLN.out w5 q).mono ?_
   rintro e w6 ⟨a1, c1, rfl, hown, hb⟩
   have o_c := OwX.mk' bs hown
   replace o_h := o_h.ret hb
   replace bs := bs.ret hb
   replace q := bs.q
   clear hb
   go_simp
   clear hHeld
   refine hK.out _ _ ⟨bs.at 0 0 rfl rfl, bs.at 0 1 rfl rfl, bs.at 1 0 rfl rfl, bs.at 1 1 rfl rfl, bs.at 1 2 rfl rfl⟩ (fun hHeld => ?_)
   clear hK K
   refine tk_call (i := 6) (by kernel_rfl) (by kernel_rfl) (fun o ho K hK => ?_)
   simp only [List.getElem?_toArray, List.getElem?_cons_succ, List.getElem?_cons_zero, Option.some.injEq] at ho
   subst ho
   go_simp
   have hins := sl_Insert_ac w.heap.size (.slice a1 M.length c1) M P (w3.heap.size) x w6 o_c.1 q.size (by omega) (by omega) o_h.h (fun e => o_c.2 _ e (by simp))
   rw [HL.out] at hins
   refine hins.mono ?_
   rintro e w7 ⟨v', rfl, hrow, hgr, hvb⟩
   clear hins hvb
   replace bs := bs.grown hgr (fun g hg => ⟨(o_c.1.lt g (by rw [HL.out]; exact hg)).1, o_c.2 g (by rw [HL.out]; exact hg)⟩)
   replace q := bs.q
   clear o_c o_h
   go_simp
   clear hHeld
   refine hK.out _ _ ⟨bs.at 0 0 rfl rfl, bs.at 0 1 rfl rfl, bs.at 1 0 rfl rfl, bs.at 1 1 rfl rfl, bs.at 1 2 rfl rfl⟩ (fun hHeld => ?_)
   clear hK K
   refine tk_on (i := 7) (some 4) (v := ?_) (by kernel_rfl) (by kernel_rfl) (by kernel_rfl) (by kernel_rfl) (fun _ _ _ h => h) (by assumption) (fun o ho w' hSw => ?_) ?_
   rotate_left
   ·(simp only [List.getElem?_toArray, List.getElem?_cons_succ, List.getElem?_cons_zero, Option.some.injEq] at ho; subst ho; (try dsimp only at hSw); go_simp; try with_reducible rfl)
   simp only [Act.put, List.setIfInBounds_toArray, List.set_cons_zero, List.set_cons_succ]
   refine wpAnyH_done (by kernel_rfl) ?_ _
   clear hHeld
   obtain ⟨a2, c2, rfl, -⟩ := row_form hrow
   go_wp2_with fail
   go_ret
   exact ⟨a2, c2, rfl, hrow, q⟩
  exact AllReadyH.nil
set_option maxRecDepth 100000 in
theorem ha_put1_rs (x : RsI) (t : List UInt8) (Ls : Nat) (w : World) (hs : Ls < w.heap.size) (cs : w.cell? ⟨Ls, 1, none⟩ = some nm_rs) (zx : x.j.length ≤ 10000) (zt : t.length ≤ 10000) (hm : ML w) :
  Calls Tryz.prog 154 #[x.v, .string ⟨t.toArray⟩, .pointer (some ⟨Ls, 0, none⟩)] w (Ret w (.int .i64 (ordT x.j t))) := by
 have HO := Lib.hid fun (W : World) (m : ML W) => show Calls Tryz.prog 119 #[.string ⟨x.j.toArray⟩, .string ⟨t.toArray⟩] W (Ret W (.int .i64 (ordT x.j t))) from ha_order ⟨x.j.toArray⟩ ⟨t.toArray⟩ W (by rw [← size_toList]; exact zx) (by rw [← size_toList]; exact zt) m
 have HM := Lib.hid hm
 have en := e_rs
 clear hm
 obtain ⟨W0, hW, y0, bs⟩ := Sx.start1 w [.string ⟨x.j.toArray⟩, .bool x.on, .int .i64 x.pr, x.lv, .bool x.ask, x.sv] 38
 have HW := Lib.hid hW
 clear hW
 have q := bs.q
 go_enter Tryz.func154, Tryz.ntmps154
 have c_y0 := bs.at 0 0 rfl rfl
 have c_y1 := bs.at 0 1 rfl rfl
 have c_y2 := bs.at 0 2 rfl rfl
 have c_y3 := bs.at 0 3 rfl rfl
 have c_y4 := bs.at 0 4 rfl rfl
 have c_y5 := bs.at 0 5 rfl rfl
 go_wp2_with fail
 rw [HW.out]
 refine (ha_nm_rs x W0).mono ?_
 rintro e w1 ⟨rfl, hb⟩
 clear c_y0 c_y1 c_y2 c_y3 c_y4 c_y5 cs
 replace bs := bs.ret hb
 replace q := bs.q
 clear hb
 go_wp2_with fail
 refine (HO.out w1 (HM.out.ret q)).mono ?_
 rintro e w2 ⟨rfl, hb⟩
 replace bs := bs.ret hb
 replace q := bs.q
 clear hb
 go_wp2_with fail
 go_ret
 exact ⟨rfl, q⟩
theorem e_put_rs : ∀ args w, (callFunc 154 args).run Tryz.prog w = .ok (.enter 154 args) w := enters_of Tryz.func154 (by kernel_rfl) rfl
set_option maxHeartbeats 4000000 in
set_option maxRecDepth 100000 in
theorem ha_put_rs (a : Option Addr) (c : Nat) (M : List RsI) (x : RsI) (w : World) (hv : IsL rsY (.slice a M.length c) M w) (hM : M.length ≤ 1000) (hj : ∀ y ∈ M, y.j.length ≤ 10000) (zx : x.j.length ≤ 10000) (hc : chG (fun x : RsI => x.j) M = true) (hm : ML w) :
  Calls Tryz.prog 94 #[.agg #[.slice a M.length c, nm_rs], x.v] w (NewL rsY w (puO (fun x : RsI => x.j) M x)) := by
 obtain ⟨L, hL⟩ : ∃ L, M.length = L := ⟨_, rfl⟩
 obtain ⟨P, hP⟩ : ∃ P, poG (fun x : RsI => x.j) M x.j = P := ⟨_, rfl⟩
 obtain ⟨F, hF⟩ : ∃ F, thO (fun x : RsI => x.j) M x.j = F := ⟨_, rfl⟩
 have hPL : P ≤ L := by rw [← hP, ← hL]; exact posL_leG (nm := (fun x : RsI => x.j)) M x.j
 have hF1 : ∀ h : P < M.length, F = decide (ordT M[P].j x.j = 0) := fun h => by
  rw [← hF]
  unfold thO
  rw [hP, List.getElem?_eq_getElem h]
 have hF2 : ¬ P < M.length → F = false := fun h => by
  rw [← hF]
  unfold thO
  rw [hP, List.getElem?_eq_none (by omega)]
 have hres : puO (fun x : RsI => x.j) M x = if F then M.set P x else M.take P ++ x :: M.drop P := by unfold puO; rw [hF, hP]
 rw [hres]
 have hrow : IsL rsY (.slice a L c) M w := by rw [← hL]; exact hv
 have BSF := Lib.hid fun (W : World) (hb : Below w.heap.size w W) (Ls : Nat) (hs : Ls < W.heap.size) (cs : W.cell? ⟨Ls, 1, none⟩ = some nm_rs) =>
  sl_Search_rs (.slice a L c) (.func (.func 154) #[] #[.pointer (some ⟨Ls, 0, none⟩)]) ⟨x.j.toArray⟩ (fun y => ordT y.j x.j) M P F W (hrow.ret hb) (by omega) ⟨_, _, rfl, e_put_rs, fun y hy V hV => ha_put1_rs y x.j Ls V (Nat.lt_of_lt_of_le hs hV.size) (((bcell hV).1 _ _ hs).trans cs) (hj y hy) zx (hm.ret (hb.trans (hV.mono hb.size)))⟩ (by omega) (fun k h => by rw [← hP]; exact search_G hc k h) hF1 hF2
 have CLN := Lib.hid fun (W : World) (hb : Below w.heap.size w W) => sl_Clone_rs (.slice a L c) M W (hrow.ret hb) (by omega)
 have hFl : F = true → P < L := fun h => by rw [← hP, ← hL]; exact thO_lt (by rw [hF]; exact h)
 have HL := Lib.hid hL
 have en := e_rs
 rw [hL]
 clear hv hj hc hm hP hF hF1 hF2 hres hrow
 cases F with
 | true =>
  have hlt := hFl rfl
  clear hFl
  simp only [if_true]
  obtain ⟨W0, hW, y0, bs⟩ := Sx.start2 w [.slice a L c, nm_rs] 84 [.string ⟨x.j.toArray⟩, .bool x.on, .int .i64 x.pr, x.lv, .bool x.ask, x.sv] 38
  have HW := Lib.hid hW
  clear hW
  have q := bs.q
  go_enter Tryz.func94, Tryz.ntmps94
  go_wp2_with fail
  rw [HW.out]
  replace bs := bs.ret (Below.drew (Below.refl _ _))
  replace q := bs.q
  have y1 : W0.drew.heap.size = W0.heap.size := rfl
  refine wp_region_held_drew (S := fun w' => w'.cell? ⟨w.heap.size, 0, none⟩ = some (.slice a L c) ∧ w'.cell? ⟨w.heap.size, 1, none⟩ = some (nm_rs) ∧ w'.cell? ⟨w.heap.size + 1, 0, none⟩ = some (.string ⟨x.j.toArray⟩) ∧ w'.cell? ⟨w.heap.size + 1, 1, none⟩ = some (.bool x.on) ∧ w'.cell? ⟨w.heap.size + 1, 2, none⟩ = some (.int .i64 x.pr) ∧ w'.cell? ⟨w.heap.size + 1, 3, none⟩ = some (x.lv) ∧ w'.cell? ⟨w.heap.size + 1, 4, none⟩ = some (.bool x.ask) ∧ w'.cell? ⟨w.heap.size + 1, 5, none⟩ = some (x.sv)) (by kernel_rfl) ⟨bs.at 0 0 rfl rfl, bs.at 0 1 rfl rfl, bs.at 1 0 rfl rfl, bs.at 1 1 rfl rfl, bs.at 1 2 rfl rfl, bs.at 1 3 rfl rfl, bs.at 1 4 rfl rfl, bs.at 1 5 rfl rfl⟩ (fun hHeld => ?_)
  generalize W0.drew = w1 at bs q y1 hHeld ⊢
  refine tk_start [(0, some 9), (1, some 10), (2, some 11), (3, some 12), (4, some 13), (6, some 15)] ?_
  iterate 6
   refine tk_step (v := ?_) (by kernel_rfl) (by kernel_rfl) (fun _ _ _ h => h) (by assumption) (fun o ho w' hSw => ?_) ?_
   rotate_left
   ·simp only [List.getElem?_toArray, List.getElem?_cons_succ, List.getElem?_cons_zero, Option.some.injEq] at ho; subst ho; (try dsimp only at hSw); go_simp; try with_reducible rfl
   simp only [Act.put, List.setIfInBounds_toArray, List.set_cons_zero, List.set_cons_succ]
  refine tk_end ?_
  refine tk_call (i := 5) (by kernel_rfl) (by kernel_rfl) (fun o ho K hK => ?_)
  simp only [List.getElem?_toArray, List.getElem?_cons_succ, List.getElem?_cons_zero, Option.some.injEq] at ho
  subst ho
  go_simp
  refine (ha_nm_rs x w1).mono ?_
  rintro e w2 ⟨rfl, hb⟩
  replace bs := bs.ret hb
  replace q := bs.q
  clear hb
  go_simp
  clear hHeld
  refine hK.out _ _ ⟨bs.at 0 0 rfl rfl, bs.at 0 1 rfl rfl, bs.at 1 0 rfl rfl, bs.at 1 1 rfl rfl, bs.at 1 2 rfl rfl, bs.at 1 3 rfl rfl, bs.at 1 4 rfl rfl, bs.at 1 5 rfl rfl⟩ (fun hHeld => ?_)
  clear hK K
  refine tk_call (i := 7) (by kernel_rfl) (by kernel_rfl) (fun o ho K hK => ?_)
  simp only [List.getElem?_toArray, List.getElem?_cons_succ, List.getElem?_cons_zero, Option.some.injEq] at ho
  subst ho
  go_simp
  refine (BSF.out w2 q w.heap.size (bs.lt _ (List.mem_of_getElem? (i := 0) rfl)) (bs.at 0 1 rfl rfl)).mono ?_
  rintro e w3 ⟨rfl, hb⟩
  replace bs := bs.ret hb
  replace q := bs.q
  clear hb
  go_simp
  clear hHeld
  refine hK.out _ _ ⟨bs.at 0 0 rfl rfl, bs.at 0 1 rfl rfl, bs.at 1 0 rfl rfl, bs.at 1 1 rfl rfl, bs.at 1 2 rfl rfl, bs.at 1 3 rfl rfl, bs.at 1 4 rfl rfl, bs.at 1 5 rfl rfl⟩ (fun hHeld => ?_)
  clear hK K
  refine tk_start [(8, some 8), (9, some 17), (10, some 18), (11, some 5), (12, some 6)] ?_
  iterate 5
   refine tk_step (v := ?_) (by kernel_rfl) (by kernel_rfl) (fun _ _ _ h => h) (by assumption) (fun o ho w' hSw => ?_) ?_
   rotate_left
   ·simp only [List.getElem?_toArray, List.getElem?_cons_succ, List.getElem?_cons_zero, Option.some.injEq] at ho; subst ho; (try dsimp only at hSw); go_simp; try with_reducible rfl
   simp only [Act.put, List.setIfInBounds_toArray, List.set_cons_zero, List.set_cons_succ]
  refine tk_end ?_
  refine wpAnyH_done (by kernel_rfl) ?_ _
  clear hHeld
  have c_s0 := bs.at 0 0 rfl rfl
  have c_s1 := bs.at 0 1 rfl rfl
  go_wp2_with fail
  have qs := q.size
  refine (CLN.out w3 q).mono ?_
  rintro e w4 ⟨a1, c1, rfl, hown, hb⟩
  clear c_s0 c_s1
  replace bs := bs.ret hb
  replace q := bs.q
  clear hb
  rw [HL.out] at hown
  obtain ⟨g, rfl, -, hg0, hg1⟩ := own_some hown (by omega)
  have wn : (P : Int) < (L : Int) := by omega
  have hown : w4.ownsRow w.heap.size 38 6 (.slice (some ⟨g, 0, none⟩) L c1) L (rsY.fl M) := hown.mono qs
  have HO := Lib.hid hown
  have hP2 : P < M.length := by rw [HL.out]; exact hlt
  obtain ⟨y, hy⟩ : ∃ y, M[P] = y := ⟨_, rfl⟩
  have i0 : w4.cell? ⟨g, P * 6, none⟩ = some (.string ⟨y.j.toArray⟩) := by
   have := hown.cellAt (P * 6) (by omega)
   rw [this]
   have := fl_at rsY M P hP2 0 (by decide)
   rw [hy] at this
   exact this
  have j0 := hown.frozenAt (P * 6)
  have i1 : w4.cell? ⟨g, P * 6 + 1, none⟩ = some (.bool y.on) := by
   have := hown.cellAt (P * 6 + 1) (by omega)
   rw [this]
   have := fl_at rsY M P hP2 1 (by decide)
   rw [hy] at this
   exact this
  have j1 := hown.frozenAt (P * 6 + 1)
  have i2 : w4.cell? ⟨g, P * 6 + 2, none⟩ = some (.int .i64 y.pr) := by
   have := hown.cellAt (P * 6 + 2) (by omega)
   rw [this]
   have := fl_at rsY M P hP2 2 (by decide)
   rw [hy] at this
   exact this
  have j2 := hown.frozenAt (P * 6 + 2)
  have i3 : w4.cell? ⟨g, P * 6 + 3, none⟩ = some (y.lv) := by
   have := hown.cellAt (P * 6 + 3) (by omega)
   rw [this]
   have := fl_at rsY M P hP2 3 (by decide)
   rw [hy] at this
   exact this
  have j3 := hown.frozenAt (P * 6 + 3)
  have i4 : w4.cell? ⟨g, P * 6 + 4, none⟩ = some (.bool y.ask) := by
   have := hown.cellAt (P * 6 + 4) (by omega)
   rw [this]
   have := fl_at rsY M P hP2 4 (by decide)
   rw [hy] at this
   exact this
  have j4 := hown.frozenAt (P * 6 + 4)
  have i5 : w4.cell? ⟨g, P * 6 + 5, none⟩ = some (y.sv) := by
   have := hown.cellAt (P * 6 + 5) (by omega)
   rw [this]
   have := fl_at rsY M P hP2 5 (by decide)
   rw [hy] at this
   exact this
  have j5 := hown.frozenAt (P * 6 + 5)
  have c_x0 := bs.at 1 0 rfl rfl
  have c_x1 := bs.at 1 1 rfl rfl
  have c_x2 := bs.at 1 2 rfl rfl
  have c_x3 := bs.at 1 3 rfl rfl
  have c_x4 := bs.at 1 4 rfl rfl
  have c_x5 := bs.at 1 5 rfl rfl
  go_wp2_with fail
  clear c_x0 c_x1 c_x2 c_x3 c_x4 c_x5
  go_ret
  refine ⟨some ⟨g, 0, none⟩, c1, by rw [List.length_set, HL.out]; rfl, ?_, ?_⟩
  ·have := row_store HO.out HL.out P (by omega) x
   rw [List.length_set, HL.out]
   exact this
  ·exact below_sets ([.string ⟨x.j.toArray⟩, .bool x.on, .int .i64 x.pr, x.lv, .bool x.ask, x.sv] : List Value) (g := g) q (Nat.le_trans qs hg0) (P * 6)
 | false =>
  clear hFl
  simp only [Bool.false_eq_true, if_false]
  obtain ⟨W0, hW, y0, bs⟩ := Sx.start2 w [.slice a L c, nm_rs] 84 [.string ⟨x.j.toArray⟩, .bool x.on, .int .i64 x.pr, x.lv, .bool x.ask, x.sv] 38
  have HW := Lib.hid hW
  clear hW
  have q := bs.q
  go_enter Tryz.func94, Tryz.ntmps94
  go_wp2_with fail
  rw [HW.out]
  replace bs := bs.ret (Below.drew (Below.refl _ _))
  replace q := bs.q
  have y1 : W0.drew.heap.size = W0.heap.size := rfl
  refine wp_region_held_drew (S := fun w' => w'.cell? ⟨w.heap.size, 0, none⟩ = some (.slice a L c) ∧ w'.cell? ⟨w.heap.size, 1, none⟩ = some (nm_rs) ∧ w'.cell? ⟨w.heap.size + 1, 0, none⟩ = some (.string ⟨x.j.toArray⟩) ∧ w'.cell? ⟨w.heap.size + 1, 1, none⟩ = some (.bool x.on) ∧ w'.cell? ⟨w.heap.size + 1, 2, none⟩ = some (.int .i64 x.pr) ∧ w'.cell? ⟨w.heap.size + 1, 3, none⟩ = some (x.lv) ∧ w'.cell? ⟨w.heap.size + 1, 4, none⟩ = some (.bool x.ask) ∧ w'.cell? ⟨w.heap.size + 1, 5, none⟩ = some (x.sv)) (by kernel_rfl) ⟨bs.at 0 0 rfl rfl, bs.at 0 1 rfl rfl, bs.at 1 0 rfl rfl, bs.at 1 1 rfl rfl, bs.at 1 2 rfl rfl, bs.at 1 3 rfl rfl, bs.at 1 4 rfl rfl, bs.at 1 5 rfl rfl⟩ (fun hHeld => ?_)
  generalize W0.drew = w1 at bs q y1 hHeld ⊢
  refine tk_start [(0, some 9), (1, some 10), (2, some 11), (3, some 12), (4, some 13), (6, some 15)] ?_
  iterate 6
   refine tk_step (v := ?_) (by kernel_rfl) (by kernel_rfl) (fun _ _ _ h => h) (by assumption) (fun o ho w' hSw => ?_) ?_
   rotate_left
   ·simp only [List.getElem?_toArray, List.getElem?_cons_succ, List.getElem?_cons_zero, Option.some.injEq] at ho; subst ho; (try dsimp only at hSw); go_simp; try with_reducible rfl
   simp only [Act.put, List.setIfInBounds_toArray, List.set_cons_zero, List.set_cons_succ]
  refine tk_end ?_
  refine tk_call (i := 5) (by kernel_rfl) (by kernel_rfl) (fun o ho K hK => ?_)
  simp only [List.getElem?_toArray, List.getElem?_cons_succ, List.getElem?_cons_zero, Option.some.injEq] at ho
  subst ho
  go_simp
  refine (ha_nm_rs x w1).mono ?_
  rintro e w2 ⟨rfl, hb⟩
  replace bs := bs.ret hb
  replace q := bs.q
  clear hb
  go_simp
  clear hHeld
  refine hK.out _ _ ⟨bs.at 0 0 rfl rfl, bs.at 0 1 rfl rfl, bs.at 1 0 rfl rfl, bs.at 1 1 rfl rfl, bs.at 1 2 rfl rfl, bs.at 1 3 rfl rfl, bs.at 1 4 rfl rfl, bs.at 1 5 rfl rfl⟩ (fun hHeld => ?_)
  clear hK K
  refine tk_call (i := 7) (by kernel_rfl) (by kernel_rfl) (fun o ho K hK => ?_)
  simp only [List.getElem?_toArray, List.getElem?_cons_succ, List.getElem?_cons_zero, Option.some.injEq] at ho
  subst ho
  go_simp
  refine (BSF.out w2 q w.heap.size (bs.lt _ (List.mem_of_getElem? (i := 0) rfl)) (bs.at 0 1 rfl rfl)).mono ?_
  rintro e w3 ⟨rfl, hb⟩
  replace bs := bs.ret hb
  replace q := bs.q
  clear hb
  go_simp
  clear hHeld
  refine hK.out _ _ ⟨bs.at 0 0 rfl rfl, bs.at 0 1 rfl rfl, bs.at 1 0 rfl rfl, bs.at 1 1 rfl rfl, bs.at 1 2 rfl rfl, bs.at 1 3 rfl rfl, bs.at 1 4 rfl rfl, bs.at 1 5 rfl rfl⟩ (fun hHeld => ?_)
  clear hK K
  refine tk_start [(8, some 8), (9, some 17), (10, some 18), (11, some 5), (12, some 6)] ?_
  iterate 5
   refine tk_step (v := ?_) (by kernel_rfl) (by kernel_rfl) (fun _ _ _ h => h) (by assumption) (fun o ho w' hSw => ?_) ?_
   rotate_left
   ·simp only [List.getElem?_toArray, List.getElem?_cons_succ, List.getElem?_cons_zero, Option.some.injEq] at ho; subst ho; (try dsimp only at hSw); go_simp; try with_reducible rfl
   simp only [Act.put, List.setIfInBounds_toArray, List.set_cons_zero, List.set_cons_succ]
  refine tk_end ?_
  refine wpAnyH_done (by kernel_rfl) ?_ _
  clear hHeld
  go_wp2_with fail
  replace bs := bs.ret (Below.drew (Below.refl _ _))
  replace q := bs.q
  have y4 : w3.drew.heap.size = w3.heap.size := rfl
  refine wp_region_held_drew (S := fun w' => w'.cell? ⟨w.heap.size, 0, none⟩ = some (.slice a L c) ∧ w'.cell? ⟨w.heap.size, 1, none⟩ = some (nm_rs) ∧ w'.cell? ⟨w.heap.size + 1, 0, none⟩ = some (.string ⟨x.j.toArray⟩) ∧ w'.cell? ⟨w.heap.size + 1, 1, none⟩ = some (.bool x.on) ∧ w'.cell? ⟨w.heap.size + 1, 2, none⟩ = some (.int .i64 x.pr) ∧ w'.cell? ⟨w.heap.size + 1, 3, none⟩ = some (x.lv) ∧ w'.cell? ⟨w.heap.size + 1, 4, none⟩ = some (.bool x.ask) ∧ w'.cell? ⟨w.heap.size + 1, 5, none⟩ = some (x.sv)) (by kernel_rfl) ⟨bs.at 0 0 rfl rfl, bs.at 0 1 rfl rfl, bs.at 1 0 rfl rfl, bs.at 1 1 rfl rfl, bs.at 1 2 rfl rfl, bs.at 1 3 rfl rfl, bs.at 1 4 rfl rfl, bs.at 1 5 rfl rfl⟩ (fun hHeld => ?_)
  generalize w3.drew = w4 at bs q y4 hHeld ⊢
  refine tk_start [(0, some 28), (1, some 29), (3, some 31), (4, some 32)] ?_
  iterate 4
   refine tk_step (v := ?_) (by kernel_rfl) (by kernel_rfl) (fun _ _ _ h => h) (by assumption) (fun o ho w' hSw => ?_) ?_
   rotate_left
   ·simp only [List.getElem?_toArray, List.getElem?_cons_succ, List.getElem?_cons_zero, Option.some.injEq] at ho; subst ho; (try dsimp only at hSw); go_simp; try with_reducible rfl
   simp only [Act.put, List.setIfInBounds_toArray, List.set_cons_zero, List.set_cons_succ]
  refine tk_end ?_
  refine wpAnyH_ready (rs := [2, 5]) (by kernel_rfl) (by simp) ?_
  refine tk_cons (by kernel_rfl) (fun o ho K hK => ?_) ?_
  ·simp only [List.getElem?_toArray, List.getElem?_cons_succ, List.getElem?_cons_zero, Option.some.injEq] at ho
   subst ho
   go_simp
   refine (CLN.out w4 q).mono ?_
   rintro e w5 ⟨a1, c1, rfl, hown, hb⟩
   have o_c := OwX.mk' bs hown
   replace bs := bs.ret hb
   replace q := bs.q
   clear hb
   go_simp
   clear hHeld
   refine hK.out _ _ ⟨bs.at 0 0 rfl rfl, bs.at 0 1 rfl rfl, bs.at 1 0 rfl rfl, bs.at 1 1 rfl rfl, bs.at 1 2 rfl rfl, bs.at 1 3 rfl rfl, bs.at 1 4 rfl rfl, bs.at 1 5 rfl rfl⟩ (fun hHeld => ?_)
   clear hK K
   refine tk_call (i := 5) (by kernel_rfl) (by kernel_rfl) (fun o ho K hK => ?_)
   simp only [List.getElem?_toArray, List.getElem?_cons_succ, List.getElem?_cons_zero, Option.some.injEq] at ho
   subst ho
   go_simp
   have hpx : HpX (w5.heap.size) [.string ⟨x.j.toArray⟩, .bool x.on, .int .i64 x.pr, x.lv, .bool x.ask, x.sv] 38 (w5.alloc (.cells #[.string ⟨x.j.toArray⟩, .bool x.on, .int .i64 x.pr, x.lv, .bool x.ask, x.sv] 38)) := ⟨by rw [← show w5.heap.size = w5.heap.size from rfl]; exact World.alloc_heap_new _ _⟩
   obtain ⟨w6, hw6, y6, al, bs⟩ := bs.alloc (w5.heap.size) rfl [.string ⟨x.j.toArray⟩, .bool x.on, .int .i64 x.pr, x.lv, .bool x.ask, x.sv] 38
   replace o_c := o_c.alloc (w5.heap.size) rfl al
   clear al
   replace q := bs.q
   have o_h : HpX (w5.heap.size) [.string ⟨x.j.toArray⟩, .bool x.on, .int .i64 x.pr, x.lv, .bool x.ask, x.sv] 38 w6 := by rw [← hw6]; exact hpx
   clear hpx
   rw [hw6]
   go_simp
   clear hHeld
   refine hK.out _ _ ⟨bs.at 0 0 rfl rfl, bs.at 0 1 rfl rfl, bs.at 1 0 rfl rfl, bs.at 1 1 rfl rfl, bs.at 1 2 rfl rfl, bs.at 1 3 rfl rfl, bs.at 1 4 rfl rfl, bs.at 1 5 rfl rfl⟩ (fun hHeld => ?_)
   clear hK K
   refine tk_call (i := 6) (by kernel_rfl) (by kernel_rfl) (fun o ho K hK => ?_)
   simp only [List.getElem?_toArray, List.getElem?_cons_succ, List.getElem?_cons_zero, Option.some.injEq] at ho
   subst ho
   go_simp
   have hins := sl_Insert_rs w.heap.size (.slice a1 M.length c1) M P (w5.heap.size) x w6 o_c.1 q.size (by omega) (by omega) o_h.h (fun e => o_c.2 _ e (by simp))
   rw [HL.out] at hins
   refine hins.mono ?_
   rintro e w7 ⟨v', rfl, hrow, hgr, hvb⟩
   clear hins hvb
   replace bs := bs.grown hgr (fun g hg => ⟨(o_c.1.lt g (by rw [HL.out]; exact hg)).1, o_c.2 g (by rw [HL.out]; exact hg)⟩)
   replace q := bs.q
   clear o_c o_h
   go_simp
   clear hHeld
   refine hK.out _ _ ⟨bs.at 0 0 rfl rfl, bs.at 0 1 rfl rfl, bs.at 1 0 rfl rfl, bs.at 1 1 rfl rfl, bs.at 1 2 rfl rfl, bs.at 1 3 rfl rfl, bs.at 1 4 rfl rfl, bs.at 1 5 rfl rfl⟩ (fun hHeld => ?_)
   clear hK K
   refine tk_on (i := 7) (some 4) (v := ?_) (by kernel_rfl) (by kernel_rfl) (by kernel_rfl) (by kernel_rfl) (fun _ _ _ h => h) (by assumption) (fun o ho w' hSw => ?_) ?_
   rotate_left
   ·(simp only [List.getElem?_toArray, List.getElem?_cons_succ, List.getElem?_cons_zero, Option.some.injEq] at ho; subst ho; (try dsimp only at hSw); go_simp; try with_reducible rfl)
   simp only [Act.put, List.setIfInBounds_toArray, List.set_cons_zero, List.set_cons_succ]
   refine wpAnyH_done (by kernel_rfl) ?_ _
   clear hHeld
   obtain ⟨a2, c2, rfl, -⟩ := row_form hrow
   go_wp2_with fail
   go_ret
   exact ⟨a2, c2, rfl, hrow, q⟩
  refine tk_cons (by kernel_rfl) (fun o ho K hK => ?_) ?_
  ·simp only [List.getElem?_toArray, List.getElem?_cons_succ, List.getElem?_cons_zero, Option.some.injEq] at ho
   subst ho
   go_simp
   have hpx : HpX (w3.heap.size) [.string ⟨x.j.toArray⟩, .bool x.on, .int .i64 x.pr, x.lv, .bool x.ask, x.sv] 38 (w4.alloc (.cells #[.string ⟨x.j.toArray⟩, .bool x.on, .int .i64 x.pr, x.lv, .bool x.ask, x.sv] 38)) := ⟨by rw [← show w4.heap.size = w3.heap.size from (by omega)]; exact World.alloc_heap_new _ _⟩
   obtain ⟨w5, hw5, y5, al, bs⟩ := bs.alloc (w3.heap.size) (by omega) [.string ⟨x.j.toArray⟩, .bool x.on, .int .i64 x.pr, x.lv, .bool x.ask, x.sv] 38
   clear al
   replace q := bs.q
   have o_h : HpX (w3.heap.size) [.string ⟨x.j.toArray⟩, .bool x.on, .int .i64 x.pr, x.lv, .bool x.ask, x.sv] 38 w5 := by rw [← hw5]; exact hpx
   clear hpx
   rw [hw5]
   go_simp
   clear hHeld
   refine hK.out _ _ ⟨bs.at 0 0 rfl rfl, bs.at 0 1 rfl rfl, bs.at 1 0 rfl rfl, bs.at 1 1 rfl rfl, bs.at 1 2 rfl rfl, bs.at 1 3 rfl rfl, bs.at 1 4 rfl rfl, bs.at 1 5 rfl rfl⟩ (fun hHeld => ?_)
   clear hK K
   refine tk_call (i := 2) (by kernel_rfl) (by kernel_rfl) (fun o ho K hK => ?_)
   simp only [List.getElem?_toArray, List.getElem?_cons_succ, List.getElem?_cons_zero, Option.some.injEq] at ho
   subst ho
   go_simp
   refine (CLN.out w5 q).mono ?_
   rintro e w6 ⟨a1, c1, rfl, hown, hb⟩
   have o_c := OwX.mk' bs hown
   replace o_h := o_h.ret hb
   replace bs := bs.ret hb
   replace q := bs.q
   clear hb
   go_simp
   clear hHeld
   refine hK.out _ _ ⟨bs.at 0 0 rfl rfl, bs.at 0 1 rfl rfl, bs.at 1 0 rfl rfl, bs.at 1 1 rfl rfl, bs.at 1 2 rfl rfl, bs.at 1 3 rfl rfl, bs.at 1 4 rfl rfl, bs.at 1 5 rfl rfl⟩ (fun hHeld => ?_)
   clear hK K
   refine tk_call (i := 6) (by kernel_rfl) (by kernel_rfl) (fun o ho K hK => ?_)
   simp only [List.getElem?_toArray, List.getElem?_cons_succ, List.getElem?_cons_zero, Option.some.injEq] at ho
   subst ho
   go_simp
   have hins := sl_Insert_rs w.heap.size (.slice a1 M.length c1) M P (w3.heap.size) x w6 o_c.1 q.size (by omega) (by omega) o_h.h (fun e => o_c.2 _ e (by simp))
   rw [HL.out] at hins
   refine hins.mono ?_
   rintro e w7 ⟨v', rfl, hrow, hgr, hvb⟩
   clear hins hvb
   replace bs := bs.grown hgr (fun g hg => ⟨(o_c.1.lt g (by rw [HL.out]; exact hg)).1, o_c.2 g (by rw [HL.out]; exact hg)⟩)
   replace q := bs.q
   clear o_c o_h
   go_simp
   clear hHeld
   refine hK.out _ _ ⟨bs.at 0 0 rfl rfl, bs.at 0 1 rfl rfl, bs.at 1 0 rfl rfl, bs.at 1 1 rfl rfl, bs.at 1 2 rfl rfl, bs.at 1 3 rfl rfl, bs.at 1 4 rfl rfl, bs.at 1 5 rfl rfl⟩ (fun hHeld => ?_)
   clear hK K
   refine tk_on (i := 7) (some 4) (v := ?_) (by kernel_rfl) (by kernel_rfl) (by kernel_rfl) (by kernel_rfl) (fun _ _ _ h => h) (by assumption) (fun o ho w' hSw => ?_) ?_
   rotate_left
   ·(simp only [List.getElem?_toArray, List.getElem?_cons_succ, List.getElem?_cons_zero, Option.some.injEq] at ho; subst ho; (try dsimp only at hSw); go_simp; try with_reducible rfl)
   simp only [Act.put, List.setIfInBounds_toArray, List.set_cons_zero, List.set_cons_succ]
   refine wpAnyH_done (by kernel_rfl) ?_ _
   clear hHeld
   obtain ⟨a2, c2, rfl, -⟩ := row_form hrow
   go_wp2_with fail
   go_ret
   exact ⟨a2, c2, rfl, hrow, q⟩
  exact AllReadyH.nil
end Go.Proofs.YtjgeiieiinmdnaaGreatDoor
