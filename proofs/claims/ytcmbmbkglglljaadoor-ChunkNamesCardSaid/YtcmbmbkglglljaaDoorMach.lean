/- strings.Builder as the last field of chunk's machine. PRINTED BY PROGRAM (gen_mach.py) from XBld. -/
import Derived.Test.YtcmbmbkglglljaaDoorBld
namespace Go.Proofs.YtcmbmbkglglljaaDoor
open Go.RowKit

theorem mc_lies : liesAt Tryd.prog Tryd.prog.depth 60 (6 / Tryd.prog.cellsOf 60) 4 51 1 = true := by kernel_rfl
/-- The machine in block b: its four numbers, what its builder's own address is, the bytes it holds. -/
def MAt (B b : Nat) (st sz mn sn : Int) (p : Value) (bs : List Value) (w : World) : Prop :=
  B ≤ b ∧ ∃ v, w.heap[b]? = some (.cells #[.int .i64 st, .int .i64 sz, .int .i64 mn, .int .i64 sn, p, v] 60 (0, 0)) ∧ w.ownsRow B 5 1 v bs.length bs ∧ v.ownBlock ≠ some b ∧ (bs = [] → v = .slice none 0 0)
def IsM (B b : Nat) (st sz mn sn : Int) (bs : List Value) (w : World) : Prop :=
  MAt B b st sz mn sn (.pointer none) bs w ∨ MAt B b st sz mn sn (.pointer (some ⟨b, 4, none⟩)) bs w

theorem MAt.lt {B b : Nat} {st sz mn sn : Int} {p : Value} {bs : List Value} {w : World} (h : MAt B b st sz mn sn p bs w) : b < w.heap.size := by
  obtain ⟨_, v, hb, _⟩ := h
  rcases Nat.lt_or_ge b w.heap.size with h' | h'
  · exact h'
  · simp [Array.getElem?_eq_none h'] at hb
theorem MAt.used {B b : Nat} {st sz mn sn : Int} {p : Value} {bs : List Value} {w : World} (h : MAt B b st sz mn sn p bs w) (q : Value) : MAt B b st sz mn sn q bs (w.setCell ⟨b, 4, none⟩ q) := by
  obtain ⟨hB, v, hb, hown, hne, hz⟩ := h
  refine ⟨hB, v, ?_, ?_, hne, hz⟩
  · simp [World.setCell, Array.getElem?_modify, hb]
  · refine hown.kept (row := some b) ⟨rfl, rfl, rfl, by simp [World.setCell], fun k _ hk => Below.heap_setCell _ _ _ _ (fun e => hk (by simp [e]))⟩ ?_
    exact Or.inr hne
theorem MAt.put {B b : Nat} {st sz mn sn : Int} {p v v' : Value} {bs' : List Value} {w : World} (hB : B ≤ b) (hb : w.heap[b]? = some (.cells #[.int .i64 st, .int .i64 sz, .int .i64 mn, .int .i64 sn, p, v] 60 (0, 0))) (hown : w.ownsRow B 5 1 v' bs'.length bs') (hz' : bs' = [] → v' = .slice none 0 0) :
    MAt B b st sz mn sn p bs' (w.setCell ⟨b, 5, none⟩ v') := by
  have hne := Lib.ownBlock_ne hown hb (by decide)
  refine ⟨hB, v', ?_, ?_, hne, hz'⟩
  · simp [World.setCell, Array.getElem?_modify, hb]
  · exact hown.kept (row := some b) ⟨rfl, rfl, rfl, by simp [World.setCell], fun k _ hk => Below.heap_setCell _ _ _ _ (fun e => hk (by simp [e]))⟩ (Or.inr hne)
/-- A number of the machine's put: the row of its bytes is another block. -/
theorem MAt.set {B b : Nat} {st sz mn sn : Int} {p : Value} {bs : List Value} {w : World} (h : MAt B b st sz mn sn p bs w) (k : Nat) (x : Int) (st' sz' mn' sn' : Int)
    (hk : (#[.int .i64 st, .int .i64 sz, .int .i64 mn, .int .i64 sn, p] : Array Value).setIfInBounds k (.int .i64 x) = #[.int .i64 st', .int .i64 sz', .int .i64 mn', .int .i64 sn', p]) (hk5 : k < 5) : MAt B b st' sz' mn' sn' p bs (w.setCell ⟨b, k, none⟩ (.int .i64 x)) := by
  obtain ⟨hB, v, hb, hown, hne, hz⟩ := h
  refine ⟨hB, v, ?_, ?_, hne, hz⟩
  · have e : (#[.int .i64 st, .int .i64 sz, .int .i64 mn, .int .i64 sn, p, v] : Array Value).setIfInBounds k (.int .i64 x) = ((#[.int .i64 st, .int .i64 sz, .int .i64 mn, .int .i64 sn, p] : Array Value).setIfInBounds k (.int .i64 x)).push v := by
      match k, hk5 with
      | 0, _ => rfl
      | 1, _ => rfl
      | 2, _ => rfl
      | 3, _ => rfl
      | 4, _ => rfl
    rw [hk] at e
    have e' := congrArg Array.toList e
    simp [World.setCell, Array.getElem?_modify, hb]
    simpa using e'
  · refine hown.kept (row := some b) ⟨rfl, rfl, rfl, by simp [World.setCell], fun k _ hk => Below.heap_setCell _ _ _ _ (fun e => hk (by simp [e]))⟩ ?_
    exact Or.inr hne

set_option maxHeartbeats 1000000 in
set_option maxRecDepth 100000 in
theorem mc_check_used (b : Nat) (w : World) (h0 : w.cell? ⟨b, 4, none⟩ = some (.pointer (some ⟨b, 4, none⟩))) :
    Calls Tryd.prog 54 #[.pointer (some ⟨b, 4, none⟩)] w fun e w' => e = .returned (.tuple #[]) ∧ w' = w := by
  obtain ⟨j, hj, _⟩ := Option.map_eq_some_iff.1 bl_info
  go_enter Tryd.func54, Tryd.ntmps54
  go_wp2
  rw [Lib.run_neq_ptr_same w _ Tryd.underlying49 hj]
  go_wp2
  go_end0
  exact ⟨rfl, rfl⟩

set_option maxHeartbeats 1000000 in
set_option maxRecDepth 100000 in
theorem mc_check_fresh (b : Nat) (w : World) (h0 : w.cell? ⟨b, 4, none⟩ = some (.pointer none)) (hsh : w.shape? b = some (60, 6)) (hfz : w.frozen? ⟨b, 4, none⟩ = false) :
    Calls Tryd.prog 54 #[.pointer (some ⟨b, 4, none⟩)] w fun e w' => e = .returned (.tuple #[]) ∧ w' = w.setCell ⟨b, 4, none⟩ (.pointer (some ⟨b, 4, none⟩)) := by
  obtain ⟨j, hj, hjs⟩ := Option.map_eq_some_iff.1 bl_info
  go_enter Tryd.func54, Tryd.ntmps54
  go_wp2
  rw [Lib.run_to_unsafe w ⟨b, 4, none⟩ Tryd.underlying49 Tryd.underlying94 hj (by rw [hjs]; decide) hsh ((by decide : 4 < 6))]
  simp only [Result.andThen]
  rw [Oper.upon_value]
  go_wp2
  rw [run_callFunc_extern Tryd.func73 (by kernel_rfl) (by kernel_rfl) (by kernel_rfl) (e := Extern.AbiNoEscape.same) (by kernel_rfl)]
  rw [Lib.run_noEscape]
  simp only [Result.andThen]
  rw [Oper.upon_value]
  go_wp2
  rw [Lib.run_from_unsafe w ⟨b, 4, none⟩ Tryd.underlying94 Tryd.underlying49 hj hsh mc_lies]
  simp only [Result.andThen]
  rw [Oper.upon_value]
  go_wp2
  go_end0
  exact ⟨rfl, rfl⟩

theorem mc_check (B b : Nat) (st sz mn sn : Int) (bs : List Value) (w : World) (h : IsM B b st sz mn sn bs w) :
    Calls Tryd.prog 54 #[.pointer (some ⟨b, 4, none⟩)] w fun e w' => e = .returned (.tuple #[]) ∧ (MAt B b st sz mn sn (.pointer (some ⟨b, 4, none⟩)) bs w' ∧ Below B w w') := by
  rcases h with h | h
  · refine (mc_check_fresh b w (by obtain ⟨_, v, hb, _⟩ := h; simp [World.cell?, hb]) (by obtain ⟨_, v, hb, _⟩ := h; simp [World.shape?, hb]) (by obtain ⟨_, v, hb, _⟩ := h; simp [World.frozen?, hb])).mono ?_
    rintro e w' ⟨rfl, rfl⟩
    exact ⟨rfl, h.used _, (Below.refl B w).setCell (p := ⟨b, 4, none⟩) h.1 _⟩
  · refine (mc_check_used b w (by obtain ⟨_, v, hb, _⟩ := h; simp [World.cell?, hb])).mono ?_
    rintro e w' ⟨rfl, rfl⟩
    exact ⟨rfl, h, Below.refl B _⟩

set_option maxHeartbeats 2000000 in
set_option maxRecDepth 100000 in
theorem mc_WriteByte (B b : Nat) (st sz mn sn : Int) (bs : List Value) (c : Int) (w : World) (h : IsM B b st sz mn sn bs w) (hlen : bs.length + 1 ≤ 140737488355328) (hBw : B ≤ w.heap.size) :
    Calls Tryd.prog 59 #[.pointer (some ⟨b, 4, none⟩), .int .u8 c] w fun e w' => e = .returned .nilIface ∧ (MAt B b st sz mn sn (.pointer (some ⟨b, 4, none⟩)) (bs ++ [.int .u8 c]) w' ∧ Below B w w') := by
  obtain ⟨i0, hi, hz0, hz1, hz2⟩ := info_parts bl_byte
  go_enter Tryd.func59, Tryd.ntmps59
  go_wp2_with (go_at_call 54; refine (mc_check B b st sz mn sn bs _ h).mono ?_)
  rintro e w1 ⟨rfl, h1, hb1⟩
  obtain ⟨hB, v, hbk, hown, hne, _⟩ := h1
  have c0 : w1.cell? ⟨b, 4, none⟩ = some (.pointer (some ⟨b, 4, none⟩)) := by rw [Lib.cell_of_heap hbk]; rfl
  have c1 : w1.cell? ⟨b, 5, none⟩ = some v := by rw [Lib.cell_of_heap hbk]; rfl
  go_wp2_with (at_builtin; refine wpList_append_own _ rfl _ _ 29 rfl B 5 i0 (.int .u8 0) 1 1 Tryd.underlying29 hi hz0 hz1 hz2 rfl (by decide) _ _ _ rfl (hown.alloc _) ⟨w1.heap.size, 0, none⟩ 1 1 [.int .u8 c] rfl rfl ?c1 ?c2 ?c3 ?c4 ?c5 ?_)
  case c1 =>
    intro j u hj
    match j, hj with
    | 0, hj => simp at hj; subst hj; simp [Addr.add]
  case c2 => intro u hu; simp at hu; subst hu; rfl
  case c3 => unfold maxLen; omega
  case c4 => omega
  case c5 => have := hb1.size; simp; omega
  intro v' w2 hown' hgrow _
  have hlt : b < w1.heap.size := by
    rcases Nat.lt_or_ge b w1.heap.size with h' | h'
    · exact h'
    · simp [Array.getElem?_eq_none h'] at hbk
  have hb2 : w2.heap[b]? = some (.cells #[.int .i64 st, .int .i64 sz, .int .i64 mn, .int .i64 sn, .pointer (some ⟨b, 4, none⟩), v] 60 (0, 0)) := by
    rw [hgrow.block b (by simp; omega) (fun e => hne e.symm), Lib.alloc_old w1 _ b hlt]
    exact hbk
  have d0 : w2.cell? ⟨b, 4, none⟩ = some (.pointer (some ⟨b, 4, none⟩)) := by rw [Lib.cell_of_heap hb2]; rfl
  have d1 : w2.cell? ⟨b, 5, none⟩ = some v := by rw [Lib.cell_of_heap hb2]; rfl
  have f1 : w2.frozen? ⟨b, 5, none⟩ = false := Lib.frozen_of_heap hb2 5
  obtain ⟨g, cap, rfl⟩ : ∃ g cap, v' = .slice (some ⟨g, 0, none⟩) (bs.length + 1) cap := by
    rcases hown'.2 with ⟨_, h0⟩ | ⟨g, cap, cur, hv, _⟩
    · omega
    · exact ⟨g, cap, hv⟩
  go_wp2
  go_ret
  refine ⟨rfl, ?_, ?_⟩
  · exact MAt.put hB hb2 (bs' := bs ++ [.int .u8 c]) (by simpa using hown') (by simp)
  · exact ((hb1.alloc (by have := hb1.size; omega) _).grown hgrow (by have := hb1.size; simp; omega) (fun k hk => (hown.lt k hk).1)).setCell (p := ⟨b, 5, none⟩) hB _

set_option maxHeartbeats 1000000 in
set_option maxRecDepth 100000 in
theorem mc_Len (B b : Nat) (st sz mn sn : Int) (bs : List Value) (w : World) (h : IsM B b st sz mn sn bs w) :
    Calls Tryd.prog 79 #[.pointer (some ⟨b, 4, none⟩)] w fun e w' => e = .returned (.int .i64 bs.length) ∧ w' = w := by
  obtain ⟨p, hB, v, hbk, hown, hne, hz⟩ : ∃ p, MAt B b st sz mn sn p bs w := by
    rcases h with h | h
    · exact ⟨_, h⟩
    · exact ⟨_, h⟩
  obtain ⟨ao, cap, rfl⟩ : ∃ ao cap, v = .slice ao bs.length cap := by
    rcases hown.2 with ⟨hv, h0⟩ | ⟨g, cap, cur, hv, _⟩
    · exact ⟨none, 0, by rw [hv, h0]⟩
    · exact ⟨_, _, hv⟩
  have c1 : w.cell? ⟨b, 5, none⟩ = some (.slice ao bs.length cap) := by rw [Lib.cell_of_heap hbk]; rfl
  go_enter Tryd.func79, Tryd.ntmps79
  go_wp2
  go_ret
  exact ⟨rfl, rfl⟩

set_option maxHeartbeats 2000000 in
set_option maxRecDepth 100000 in
theorem mc_String (B b : Nat) (st sz mn sn : Int) (l : List UInt8) (w : World) (h : IsM B b st sz mn sn (Lib.byteCells l) w) (h0 : l ≠ []) :
    Calls Tryd.prog 38 #[.pointer (some ⟨b, 4, none⟩)] w fun e w' => e = .returned (.string ⟨l.toArray⟩) ∧ Below B w w' := by
  obtain ⟨p, hB, v, hbk, hown, hne, hz⟩ : ∃ p, MAt B b st sz mn sn p (Lib.byteCells l) w := by
    rcases h with h | h
    · exact ⟨_, h⟩
    · exact ⟨_, h⟩
  have hl0 : l.length ≠ 0 := by simpa using h0
  rw [Lib.byteCells_length] at hown
  obtain ⟨g, cap, cur, rfl, hbg, hg, hnc, hcm, hcs, htake⟩ : ∃ g cap cur, v = .slice (some ⟨g, 0, none⟩) l.length cap ∧ B ≤ g ∧ w.heap[g]? = some (.cells cur 5 (0, 0)) ∧ l.length ≤ cap ∧ cap ≤ maxLen ∧ cur.size = cap * 1 ∧ cur.toList.take (l.length * 1) = Lib.byteCells l := by
    rcases hown.2 with ⟨_, hz⟩ | ⟨g, cap, cur, hv, r⟩
    · exact absurd hz hl0
    · exact ⟨g, cap, cur, hv, r⟩
  have c1 : w.drew.cell? ⟨b, 5, none⟩ = some (.slice (some ⟨g, 0, none⟩) l.length cap) := by
    have : w.drew.heap[b]? = some (.cells #[.int .i64 st, .int .i64 sz, .int .i64 mn, .int .i64 sn, p, .slice (some ⟨g, 0, none⟩) l.length cap] 60 (0, 0)) := hbk
    rw [Lib.cell_of_heap this]; rfl
  have hSD : (Builtin.unsafeSliceData_ #[29] 76 #[.slice (some ⟨g, 0, none⟩) l.length cap]).run Tryd.prog w.drew = .ok (.pointer (some ⟨g, 0, none⟩)) w.drew :=
    Lib.run_unsafeSliceData_row _ _ _ _ _ _ (by omega)
  have hUS : (Builtin.unsafeString_ #[76, 3] 9 #[.pointer (some ⟨g, 0, none⟩), .int .i64 l.length]).run Tryd.prog w.drew = .ok (.string ⟨l.toArray⟩) (w.drew.freeze ⟨g, 0, none⟩ l.length) := by
    refine Lib.run_unsafeString_row w.drew 76 3 9 5 Tryd.underlying76 (by kernel_rfl) g cur.size (by have hg' : w.drew.heap[g]? = some (.cells cur 5 (0, 0)) := hg; simp [World.shape?, hg']) l h0 (by omega) (by unfold maxLen at hcm; omega) ?_
    intro j x hx
    have := hown.cells (g := g) rfl j (.int .u8 x.toNat) (by simp [Lib.byteCells, hx])
    exact this
  have mixed : Tryd.prog.follows Departure.mixedOrders = true := by kernel_rfl
  go_enter Tryd.func38, Tryd.ntmps38
  go_wp2
  go_region_o
  all_goals (go_wp2; go_ret; exact ⟨rfl, Lib.below_freeze (Below.drew (Below.refl B w)) (p := ⟨g, 0, none⟩) hbg _⟩)

set_option maxHeartbeats 2000000 in
set_option maxRecDepth 100000 in
/-- .. of a builder that was never written. -/
theorem mc_String_nil (b : Nat) (st sz mn sn : Int) (B : Nat) (p : Value) (w : World) (hbk : w.heap[b]? = some (.cells #[.int .i64 st, .int .i64 sz, .int .i64 mn, .int .i64 sn, p, .slice none 0 0] 60 (0, 0))) :
    Calls Tryd.prog 38 #[.pointer (some ⟨b, 4, none⟩)] w fun e w' => e = .returned (.string ⟨#[]⟩) ∧ Below B w w' := by
  have hUS : ∀ W q, (Builtin.unsafeString_ #[76, 3] 9 #[.pointer q, .int .i64 0]).run Tryd.prog W = .ok (.string .empty) W := fun W q => Lib.run_unsafeString_none W _ _ _ q
  have c1 : w.drew.cell? ⟨b, 5, none⟩ = some (.slice none 0 0) := by
    have : w.drew.heap[b]? = some (.cells #[.int .i64 st, .int .i64 sz, .int .i64 mn, .int .i64 sn, p, .slice none 0 0] 60 (0, 0)) := hbk
    rw [Lib.cell_of_heap this]; rfl
  have hSD : (Builtin.unsafeSliceData_ #[29] 76 #[.slice none 0 0]).run Tryd.prog w.drew = .ok (.pointer none) w.drew := rfl
  have mixed : Tryd.prog.follows Departure.mixedOrders = true := by kernel_rfl
  go_enter Tryd.func38, Tryd.ntmps38
  go_wp2
  go_region_o
  all_goals (go_wp2; go_ret; exact ⟨rfl, Below.drew (Below.refl B w)⟩)
theorem mc_String_any (B b : Nat) (st sz mn sn : Int) (l : List UInt8) (w : World) (h : IsM B b st sz mn sn (Lib.byteCells l) w) :
    Calls Tryd.prog 38 #[.pointer (some ⟨b, 4, none⟩)] w fun e w' => e = .returned (.string ⟨l.toArray⟩) ∧ Below B w w' := by
  by_cases h0 : l = []
  · subst h0
    obtain ⟨p, hB, v, hbk, hown, hne, hz⟩ : ∃ p, MAt B b st sz mn sn p (Lib.byteCells []) w := by
      rcases h with h | h
      · exact ⟨_, h⟩
      · exact ⟨_, h⟩
    have := hz rfl
    subst this
    exact mc_String_nil b st sz mn sn B p w hbk
  · exact mc_String B b st sz mn sn l w h h0
end Go.Proofs.YtcmbmbkglglljaaDoor
