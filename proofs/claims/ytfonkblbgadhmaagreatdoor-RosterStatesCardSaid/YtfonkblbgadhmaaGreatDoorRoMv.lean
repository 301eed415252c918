/- A call that turns a roster under way: what it leaves as it was. -/
import Derived.Test.YtfonkblbgadhmaaGreatDoorRoUa
import Derived.Test.YtfonkblbgadhmaaGreatDoorRoIn
namespace Go.Proofs.YtfonkblbgadhmaaGreatDoor
open Go.RowKit Go.Lib

/-- all blocks but U and one row stay. -/
def Kpt (U : Nat) (r : Option Nat) (w w' : World) : Prop := w.heap.size ≤ w'.heap.size ∧ ∀ k, k < w.heap.size → k ≠ U → some k ≠ r → w'.heap[k]? = w.heap[k]?
/-- .. with the boxes that were laid meanwhile. -/
def KpA (U : Nat) (r : Option Nat) (w : World) (ad : List Nat) (w' : World) : Prop := Kpt U r w w' ∧ ∀ a ∈ ad, a = U ∨ w.heap.size ≤ a
theorem heap_sets : ∀ (vs : List Value) (w : World) (g o k : Nat), k ≠ g → (w.setCells g o vs).heap[k]? = w.heap[k]?
 | [], _, _, _, _, _ => rfl
 | v :: r, w, g, o, k, h => by
  rw [World.setCells, heap_sets r _ g (o + 1) k h]
  exact heap_setCell_other w ⟨g, o, none⟩ k v h
section
variable {U : Nat} {r : Option Nat} {w w1 w2 : World} {ad : List Nat}
theorem KpA.start (U : Nat) (r : Option Nat) (w : World) : KpA U r w [U] w := ⟨⟨Nat.le_refl _, fun _ _ _ _ => rfl⟩, fun _ ha => .inl (List.mem_singleton.1 ha)⟩
theorem KpA.ret (h : KpA U r w ad w1) (hb : Below w1.heap.size w1 w2) : KpA U r w ad w2 := ⟨⟨Nat.le_trans h.1.1 hb.size, fun k hk h1 h2 => (hb.block k (Nat.lt_of_lt_of_le hk h.1.1)).trans (h.1.2 k hk h1 h2)⟩, h.2⟩
theorem KpA.sets (h : KpA U r w ad w1) (k : Nat) {A o : Nat} {vs : List Value} (hk : ad[k]? = some A) (e : w1.setCells A o vs = w2) : KpA U r w ad w2 := by
 subst e
 refine ⟨⟨by rw [size_sets]; exact h.1.1, fun j hj h1 h2 => ?_⟩, h.2⟩
 rw [heap_sets _ _ _ _ _ (fun e => ?_)]
 ·exact h.1.2 j hj h1 h2
 ·rcases h.2 A (List.mem_of_getElem? hk) with h3 | h3
  ·exact h1 (e.trans h3)
  ·omega
theorem KpA.alloc (h : KpA U r w ad w1) (A : Nat) (hA : w1.heap.size = A) (hb : Below w1.heap.size w1 w2) : KpA U r w (ad ++ [A]) w2 := ⟨(h.ret hb).1, fun a ha => by
 rcases List.mem_append.1 ha with ha | ha
 ·exact h.2 a ha
 ·have := List.mem_singleton.1 ha
  have h3 := h.1.1
  omega⟩
theorem KpA.kept {r' : Option Nat} (h : KpA U r w ad w1) (hk : Kpt U r' w1 w2) (hr : ∀ g, r' = some g → r = some g ∨ w.heap.size ≤ g) : KpA U r w ad w2 :=
 ⟨⟨Nat.le_trans h.1.1 hk.1, fun j hj h1 h2 => (hk.2 j (Nat.lt_of_lt_of_le hj h.1.1) h1 (fun e => by
  rcases hr j e.symm with h3 | h3
  ·exact h2 h3.symm
  ·omega)).trans (h.1.2 j hj h1 h2)⟩, h.2⟩
end
/-- what a method of a roster under way does with memory: from row v of M to row v' of M'. -/
structure Mv (w0 : World) (U : Nat) (v : Value) (M : List Im) (v' : Value) (M' : List Im) (w w' : World) : Prop where
 q : Below w0.heap.size w w'
 kp : Kpt U v.ownBlock w w'
 vb : ∀ g, v'.ownBlock = some g → v.ownBlock = some g ∨ w.heap.size ≤ g
 st : ∀ ad u n xs, U ∈ ad → OwX w0 ad 9 1 u n xs w → OwX w0 ad 9 1 u n xs w'
theorem Sx.turned {w0 w w' : World} {bs : Bs} {U : Nat} {v v' : Value} {M M' : List Im} {cs cs' : List Value} (h : Sx w0 bs w) (k : Nat) (hk : bs[k]? = some (U, cs)) (mv : Mv w0 U v M v' M' w w') (hv : ∀ g, v.ownBlock = some g → g ∉ bs.map Prod.fst) (hU : Bx U cs' w') : Sx w0 (bs.set k (U, cs')) w' := by
 have hA := h.bx _ (List.mem_of_getElem? hk)
 have hkl : k < bs.length := by
  rcases Nat.lt_or_ge k bs.length with h1 | h1
  ·exact h1
  ·rw [List.getElem?_eq_none h1] at hk
   cases hk
 have hge : bs[k] = (U, cs) := by rw [List.getElem?_eq_getElem hkl] at hk; exact Option.some.inj hk
 refine ⟨fun b hb => ?_, ?_, h.q.trans mv.q⟩
 ·obtain ⟨j, hj, rfl⟩ := List.mem_iff_getElem.1 hb
  rw [List.length_set] at hj
  rw [List.getElem_set]
  split
  ·exact ⟨hU, hA.2⟩
  ·rename_i hne
   have hb2 := h.bx bs[j] (List.getElem_mem hj)
   refine ⟨hb2.1.same (mv.kp.2 _ hb2.1.lt ?_ (fun e => hv _ e.symm (List.mem_map_of_mem (List.getElem_mem hj)))), hb2.2⟩
   have hp := List.pairwise_iff_getElem.1 h.pw
   rcases Nat.lt_or_gt_of_ne hne with h1 | h1
   ·have := hp k j hkl hj h1
    rw [hge] at this
    exact fun e => this e.symm
   ·have := hp j k hj hkl h1
    rw [hge] at this
    exact this
 ·rw [List.pairwise_iff_getElem]
  intro i j hi hj hij
  rw [List.length_set] at hi hj
  have hp := List.pairwise_iff_getElem.1 h.pw i j hi hj hij
  rw [List.getElem_set, List.getElem_set]
  split
  ·rename_i e
   subst e
   rw [if_neg (by omega)]
   rw [hge] at hp
   exact hp
  ·split
   ·rename_i e
    subst e
    rw [hge] at hp
    exact hp
   ·exact hp
/-- of's block joins the boxes. -/
theorem Sx.join {w0 w w' : World} {bs : Bs} {U : Nat} {cs : List Value} (h : Sx w0 bs w) (hb : Below w.heap.size w w') (hU : Bx U cs w') (hl : w.heap.size ≤ U) : Sx w0 (bs ++ [(U, cs)]) w' := by
 refine ⟨fun b hm => ?_, ?_, h.q.trans (hb.mono h.q.size)⟩
 ·rcases List.mem_append.1 hm with hm | hm
  ·exact ⟨(h.bx b hm).1.ret hb, (h.bx b hm).2⟩
  ·cases List.mem_singleton.1 hm
   exact ⟨hU, Nat.le_trans h.q.size hl⟩
 ·refine List.pairwise_append.2 ⟨h.pw, List.pairwise_singleton .., fun a ha b hm => ?_⟩
  cases List.mem_singleton.1 hm
  have := h.lt a ha
  show a.1 ≠ U
  omega
theorem UnS.ownX {w0 w w' : World} {bs : Bs} {U : Nat} {v : Value} {M : List Im} {ver : Int} {p : Im} {n : Nat} {th : Bool} (h : UnS w.heap.size U v M ver p n th w') (hs : Sx w0 bs w) : OwnX w0 (bs.map Prod.fst ++ [U]) v M w' := by
 have ho := OwnX.mk' hs h.own
 refine ⟨⟨ho.1.1, fun g hg hm => ?_⟩, fun q hq => ⟨(ho.2 q hq).1, fun g hg hm => ?_⟩⟩
 ·rcases List.mem_append.1 hm with hm | hm
  ·exact ho.1.2 g hg hm
  ·cases List.mem_singleton.1 hm
   exact h.ap hg
 ·rcases List.mem_append.1 hm with hm | hm
  ·exact (ho.2 q hq).2 g hg hm
  ·cases List.mem_singleton.1 hm
   exact h.aq q hq hg
/-! ### pushed -/
/-- U's cells are given, and the row: what a method wants. -/
structure Ur (w0 : World) (U : Nat) (v : Value) (M : List Im) (ver : Int) (p : Im) (n : Nat) (th : Bool) (w : World) : Prop where
 bx : Bx U (uC v ver p n th) w
 ow : OwnX w0 [U] v M w
 le : w0.heap.size ≤ U
set_option maxHeartbeats 1000000 in
set_option maxRecDepth 100000 in
theorem ro_pushed (w0 : World) (U : Nat) (v : Value) (M : List Im) (ver : Int) (p : Im) (n : Nat) (th : Bool) (w : World) (hu : Ur w0 U v M ver p n th w) (h0 : 0 ≤ ver) (h1 : ver ≤ mostV) :
  Calls Tryz.prog 54 #[.pointer (some ⟨U, 0, none⟩)] w (fun e w' => e = .returned (.tuple #[]) ∧ Mv w0 U v M v M w w' ∧ Ur w0 U v M (nextV ver) p n th w' ∧ ∀ ad, U ∈ ad → OwnX w0 ad v M w → OwnX w0 ad v M w') := by
 have c1 := hu.bx.at 1 rfl
 have f1 := hu.bx.fz 1 (by simp)
 unfold mostV at h1
 have hw : IntKind.i64.wrap (ver + 1) = ver + 1 := IntWalk.i64_in _ (by omega)
 have fin : Bx U (uC v (nextV ver) p n th) (w.setCell ⟨U, 1, none⟩ (.int .i64 (nextV ver))) := hu.bx.set 1 (by simp) _
 have key : ∀ W, w.setCell ⟨U, 1, none⟩ (.int .i64 (nextV ver)) = W → Mv w0 U v M v M w W ∧ Ur w0 U v M (nextV ver) p n th W ∧ ∀ ad, U ∈ ad → OwnX w0 ad v M w → OwnX w0 ad v M W := fun W hW => by
  have hrow : ∀ (ad : List Nat) {e : TypeId} {sz : Nat} {u : Value} {m : Nat} {xs : List Value}, U ∈ ad → OwX w0 ad e sz u m xs w → OwX w0 ad e sz u m xs W := fun ad e sz u m xs hm h => by
   rw [← hW]
   exact ⟨own_set h.1 (fun e => h.2 U e hm) _, h.2⟩
  have hown : ∀ ad, U ∈ ad → OwnX w0 ad v M w → OwnX w0 ad v M W := fun ad hm h => ⟨hrow ad hm h.1, fun q hq => hrow ad hm (h.2 q hq)⟩
  refine ⟨⟨?_, ⟨?_, fun k hk hne _ => ?_⟩, fun g hg => .inl hg, fun ad u m xs hm h => hrow ad hm h⟩, ⟨by rw [← hW]; exact fin, hown [U] (by simp) hu.ow, hu.le⟩, hown⟩
  ·rw [← hW]
   exact (Below.refl _ w).setCell (p := ⟨U, 1, none⟩) hu.le _
  ·rw [← hW]
   simp
  ·rw [← hW]
   exact heap_setCell_other w ⟨U, 1, none⟩ k _ hne
 by_cases hle : ver + 1 ≤ 9007199254740991
 ·have hn : nextV ver = ver + 1 := by unfold nextV mostV; rw [if_pos hle]
  rw [hn] at key ⊢
  have hmn : min (ver + 1) 9007199254740991 = ver + 1 := Int.min_eq_left hle
  have KY := Lib.hid key
  clear key fin hn hu
  go_enter Tryz.func54, Tryz.ntmps54
  go_wp2_with fail
  exact bodyPost_end (results_none rfl _ _ _) rfl ⟨rfl, KY.out _ rfl⟩
 ·have hn : nextV ver = 9007199254740991 := by unfold nextV mostV; rw [if_neg hle]
  rw [hn] at key ⊢
  have hmn : min (ver + 1) 9007199254740991 = 9007199254740991 := Int.min_eq_right (by omega)
  have KY := Lib.hid key
  clear key fin hn hu
  go_enter Tryz.func54, Tryz.ntmps54
  go_wp2_with fail
  exact bodyPost_end (results_none rfl _ _ _) rfl ⟨rfl, KY.out _ rfl⟩
end Go.Proofs.YtfonkblbgadhmaaGreatDoor
