/- Mach, ChA, ChF, ChB, ChC, ChD, ChG, ChE: put together by mergetpl.py. -/
import Derived.Test.YthgmgmbjjjnhnaaGreatDoorGn
import Derived.Test.YthgmgmbjjjnhnaaGreatDoorGa
import Derived.Deep.QuietTactic
import Derived.BigQuiet
import Derived.Lib.Bytealg
namespace Go.Proofs.YthgmgmbjjjnhnaaGreatDoor
open Go.RowKit

theorem mc_lies : liesAt Tryz.prog Tryz.prog.depth 211 (6 / Tryz.prog.cellsOf 211) 4 92 1 = true := by kernel_rfl
/-- The machine in block b: its four numbers, what its builder's own address is, the bytes it holds. -/
def MAt (B b : Nat) (st sz mn sn : Int) (p : Value) (bs : List Value) (w : World) : Prop :=
  B ≤ b ∧ ∃ v, w.heap[b]? = some (.cells #[.int .i64 st, .int .i64 sz, .int .i64 mn, .int .i64 sn, p, v] 211 (0, 0)) ∧ w.ownsRow B 5 1 v bs.length bs ∧ v.ownBlock ≠ some b ∧ (bs = [] → v = .slice none 0 0)
def IsM (B b : Nat) (st sz mn sn : Int) (bs : List Value) (w : World) : Prop :=
  MAt B b st sz mn sn (.pointer none) bs w ∨ MAt B b st sz mn sn (.pointer (some ⟨b, 4, none⟩)) bs w

theorem MAt.lt {B b : Nat} {st sz mn sn : Int} {p : Value} {bs : List Value} {w : World} (h : MAt B b st sz mn sn p bs w) : b < w.heap.size := by
  obtain ⟨_, v, hb, _⟩ := h
  rcases Nat.lt_or_ge b w.heap.size with h' | h'
  · exact h'
  · simp [Array.getElem?_eq_none h'] at hb
theorem MAt.used {B b : Nat} {st sz mn sn : Int} {p : Value} {bs : List Value} {w : World} (h : MAt B b st sz mn sn p bs w) (q : Value) : MAt B b st sz mn sn q bs (w.setCell ⟨b, 4, none⟩ q) := by
  obtain ⟨hB, v, hb, hown, hne, hz⟩ := h
  refine ⟨hB, v, ?_, ?_, hne, hz⟩
  · simp [World.setCell, Array.getElem?_modify, hb]
  · refine hown.kept (row := some b) ⟨rfl, rfl, rfl, by simp [World.setCell], fun k _ hk => Below.heap_setCell _ _ _ _ (fun e => hk (by simp [e]))⟩ ?_
    exact Or.inr hne
theorem MAt.put {B b : Nat} {st sz mn sn : Int} {p v v' : Value} {bs' : List Value} {w : World} (hB : B ≤ b) (hb : w.heap[b]? = some (.cells #[.int .i64 st, .int .i64 sz, .int .i64 mn, .int .i64 sn, p, v] 211 (0, 0))) (hown : w.ownsRow B 5 1 v' bs'.length bs') (hz' : bs' = [] → v' = .slice none 0 0) :
    MAt B b st sz mn sn p bs' (w.setCell ⟨b, 5, none⟩ v') := by
  have hne := Lib.ownBlock_ne hown hb (by decide)
  refine ⟨hB, v', ?_, ?_, hne, hz'⟩
  · simp [World.setCell, Array.getElem?_modify, hb]
  · exact hown.kept (row := some b) ⟨rfl, rfl, rfl, by simp [World.setCell], fun k _ hk => Below.heap_setCell _ _ _ _ (fun e => hk (by simp [e]))⟩ (Or.inr hne)
/-- A number of the machine's put: the row of its bytes is another block. -/
theorem MAt.set {B b : Nat} {st sz mn sn : Int} {p : Value} {bs : List Value} {w : World} (h : MAt B b st sz mn sn p bs w) (k : Nat) (x : Int) (st' sz' mn' sn' : Int)
    (hk : (#[.int .i64 st, .int .i64 sz, .int .i64 mn, .int .i64 sn, p] : Array Value).setIfInBounds k (.int .i64 x) = #[.int .i64 st', .int .i64 sz', .int .i64 mn', .int .i64 sn', p]) (hk5 : k < 5) : MAt B b st' sz' mn' sn' p bs (w.setCell ⟨b, k, none⟩ (.int .i64 x)) := by
  obtain ⟨hB, v, hb, hown, hne, hz⟩ := h
  refine ⟨hB, v, ?_, ?_, hne, hz⟩
  · have e : (#[.int .i64 st, .int .i64 sz, .int .i64 mn, .int .i64 sn, p, v] : Array Value).setIfInBounds k (.int .i64 x) = ((#[.int .i64 st, .int .i64 sz, .int .i64 mn, .int .i64 sn, p] : Array Value).setIfInBounds k (.int .i64 x)).push v := by
      match k, hk5 with
      | 0, _ => rfl
      | 1, _ => rfl
      | 2, _ => rfl
      | 3, _ => rfl
      | 4, _ => rfl
    rw [hk] at e
    have e' := congrArg Array.toList e
    simp [World.setCell, Array.getElem?_modify, hb]
    simpa using e'
  · refine hown.kept (row := some b) ⟨rfl, rfl, rfl, by simp [World.setCell], fun k _ hk => Below.heap_setCell _ _ _ _ (fun e => hk (by simp [e]))⟩ ?_
    exact Or.inr hne

set_option maxHeartbeats 1000000 in
set_option maxRecDepth 100000 in
theorem mc_check_used (b : Nat) (w : World) (h0 : w.cell? ⟨b, 4, none⟩ = some (.pointer (some ⟨b, 4, none⟩))) :
    Calls Tryz.prog 83 #[.pointer (some ⟨b, 4, none⟩)] w fun e w' => e = .returned (.tuple #[]) ∧ w' = w := by
  obtain ⟨j, hj, _⟩ := Option.map_eq_some_iff.1 bl_info
  go_enter Tryz.func83, Tryz.ntmps83
  go_wp2
  rw [Lib.run_neq_ptr_same w _ Tryz.underlying90 hj]
  go_wp2
  go_end0
  exact ⟨rfl, rfl⟩

set_option maxHeartbeats 1000000 in
set_option maxRecDepth 100000 in
theorem mc_check_fresh (b : Nat) (w : World) (h0 : w.cell? ⟨b, 4, none⟩ = some (.pointer none)) (hsh : w.shape? b = some (211, 6)) (hfz : w.frozen? ⟨b, 4, none⟩ = false) :
    Calls Tryz.prog 83 #[.pointer (some ⟨b, 4, none⟩)] w fun e w' => e = .returned (.tuple #[]) ∧ w' = w.setCell ⟨b, 4, none⟩ (.pointer (some ⟨b, 4, none⟩)) := by
  obtain ⟨j, hj, hjs⟩ := Option.map_eq_some_iff.1 bl_info
  go_enter Tryz.func83, Tryz.ntmps83
  go_wp2
  rw [Lib.run_to_unsafe w ⟨b, 4, none⟩ Tryz.underlying90 Tryz.underlying176 hj (by rw [hjs]; decide) hsh ((by decide : 4 < 6))]
  simp only [Result.andThen]
  rw [Oper.upon_value]
  go_wp2
  rw [run_callFunc_extern Tryz.func117 (by kernel_rfl) (by kernel_rfl) (by kernel_rfl) (e := Extern.AbiNoEscape.same) (by kernel_rfl)]
  rw [Lib.run_noEscape]
  simp only [Result.andThen]
  rw [Oper.upon_value]
  go_wp2
  rw [Lib.run_from_unsafe w ⟨b, 4, none⟩ Tryz.underlying176 Tryz.underlying90 hj hsh mc_lies]
  simp only [Result.andThen]
  rw [Oper.upon_value]
  go_wp2
  go_end0
  exact ⟨rfl, rfl⟩

theorem mc_check (B b : Nat) (st sz mn sn : Int) (bs : List Value) (w : World) (h : IsM B b st sz mn sn bs w) :
    Calls Tryz.prog 83 #[.pointer (some ⟨b, 4, none⟩)] w fun e w' => e = .returned (.tuple #[]) ∧ (MAt B b st sz mn sn (.pointer (some ⟨b, 4, none⟩)) bs w' ∧ Below B w w') := by
  rcases h with h | h
  · refine (mc_check_fresh b w (by obtain ⟨_, v, hb, _⟩ := h; simp [World.cell?, hb]) (by obtain ⟨_, v, hb, _⟩ := h; simp [World.shape?, hb]) (by obtain ⟨_, v, hb, _⟩ := h; simp [World.frozen?, hb])).mono ?_
    rintro e w' ⟨rfl, rfl⟩
    exact ⟨rfl, h.used _, (Below.refl B w).setCell (p := ⟨b, 4, none⟩) h.1 _⟩
  · refine (mc_check_used b w (by obtain ⟨_, v, hb, _⟩ := h; simp [World.cell?, hb])).mono ?_
    rintro e w' ⟨rfl, rfl⟩
    exact ⟨rfl, h, Below.refl B _⟩

set_option maxHeartbeats 2000000 in
set_option maxRecDepth 100000 in
theorem mc_WriteByte (B b : Nat) (st sz mn sn : Int) (bs : List Value) (c : Int) (w : World) (h : IsM B b st sz mn sn bs w) (hlen : bs.length + 1 ≤ 140737488355328) (hBw : B ≤ w.heap.size) :
    Calls Tryz.prog 175 #[.pointer (some ⟨b, 4, none⟩), .int .u8 c] w fun e w' => e = .returned .nilIface ∧ (MAt B b st sz mn sn (.pointer (some ⟨b, 4, none⟩)) (bs ++ [.int .u8 c]) w' ∧ Below B w w') := by
  obtain ⟨i0, hi, hz0, hz1, hz2⟩ := info_parts bl_byte
  go_enter Tryz.func175, Tryz.ntmps175
  go_wp2_with (go_at_call 83; refine (mc_check B b st sz mn sn bs _ h).mono ?_)
  rintro e w1 ⟨rfl, h1, hb1⟩
  obtain ⟨hB, v, hbk, hown, hne, _⟩ := h1
  have c0 : w1.cell? ⟨b, 4, none⟩ = some (.pointer (some ⟨b, 4, none⟩)) := by rw [Lib.cell_of_heap hbk]; rfl
  have c1 : w1.cell? ⟨b, 5, none⟩ = some v := by rw [Lib.cell_of_heap hbk]; rfl
  go_wp2_with (at_builtin; refine wpList_append_own _ rfl _ _ 38 rfl B 5 i0 (.int .u8 0) 1 1 Tryz.underlying38 hi hz0 hz1 hz2 rfl (by decide) _ _ _ rfl (hown.alloc _) ⟨w1.heap.size, 0, none⟩ 1 1 [.int .u8 c] rfl rfl ?c1 ?c2 ?c3 ?c4 ?c5 ?_)
  case c1 =>
    intro j u hj
    match j, hj with
    | 0, hj => simp at hj; subst hj; simp [Addr.add]
  case c2 => intro u hu; simp at hu; subst hu; rfl
  case c3 => unfold maxLen; omega
  case c4 => omega
  case c5 => have := hb1.size; simp; omega
  intro v' w2 hown' hgrow _
  have hlt : b < w1.heap.size := by
    rcases Nat.lt_or_ge b w1.heap.size with h' | h'
    · exact h'
    · simp [Array.getElem?_eq_none h'] at hbk
  have hb2 : w2.heap[b]? = some (.cells #[.int .i64 st, .int .i64 sz, .int .i64 mn, .int .i64 sn, .pointer (some ⟨b, 4, none⟩), v] 211 (0, 0)) := by
    rw [hgrow.block b (by simp; omega) (fun e => hne e.symm), Lib.alloc_old w1 _ b hlt]
    exact hbk
  have d0 : w2.cell? ⟨b, 4, none⟩ = some (.pointer (some ⟨b, 4, none⟩)) := by rw [Lib.cell_of_heap hb2]; rfl
  have d1 : w2.cell? ⟨b, 5, none⟩ = some v := by rw [Lib.cell_of_heap hb2]; rfl
  have f1 : w2.frozen? ⟨b, 5, none⟩ = false := Lib.frozen_of_heap hb2 5
  obtain ⟨g, cap, rfl⟩ : ∃ g cap, v' = .slice (some ⟨g, 0, none⟩) (bs.length + 1) cap := by
    rcases hown'.2 with ⟨_, h0⟩ | ⟨g, cap, cur, hv, _⟩
    · omega
    · exact ⟨g, cap, hv⟩
  go_wp2
  go_ret
  refine ⟨rfl, ?_, ?_⟩
  · exact MAt.put hB hb2 (bs' := bs ++ [.int .u8 c]) (by simpa using hown') (by simp)
  · exact ((hb1.alloc (by have := hb1.size; omega) _).grown hgrow (by have := hb1.size; simp; omega) (fun k hk => (hown.lt k hk).1)).setCell (p := ⟨b, 5, none⟩) hB _

set_option maxHeartbeats 1000000 in
set_option maxRecDepth 100000 in
theorem mc_Len (B b : Nat) (st sz mn sn : Int) (bs : List Value) (w : World) (h : IsM B b st sz mn sn bs w) :
    Calls Tryz.prog 189 #[.pointer (some ⟨b, 4, none⟩)] w fun e w' => e = .returned (.int .i64 bs.length) ∧ w' = w := by
  obtain ⟨p, hB, v, hbk, hown, hne, hz⟩ : ∃ p, MAt B b st sz mn sn p bs w := by
    rcases h with h | h
    · exact ⟨_, h⟩
    · exact ⟨_, h⟩
  obtain ⟨ao, cap, rfl⟩ : ∃ ao cap, v = .slice ao bs.length cap := by
    rcases hown.2 with ⟨hv, h0⟩ | ⟨g, cap, cur, hv, _⟩
    · exact ⟨none, 0, by rw [hv, h0]⟩
    · exact ⟨_, _, hv⟩
  have c1 : w.cell? ⟨b, 5, none⟩ = some (.slice ao bs.length cap) := by rw [Lib.cell_of_heap hbk]; rfl
  go_enter Tryz.func189, Tryz.ntmps189
  go_wp2
  go_ret
  exact ⟨rfl, rfl⟩

set_option maxHeartbeats 2000000 in
set_option maxRecDepth 100000 in
theorem mc_String (B b : Nat) (st sz mn sn : Int) (l : List UInt8) (w : World) (h : IsM B b st sz mn sn (Lib.byteCells l) w) (h0 : l ≠ []) :
    Calls Tryz.prog 45 #[.pointer (some ⟨b, 4, none⟩)] w fun e w' => e = .returned (.string ⟨l.toArray⟩) ∧ Below B w w' := by
  obtain ⟨p, hB, v, hbk, hown, hne, hz⟩ : ∃ p, MAt B b st sz mn sn p (Lib.byteCells l) w := by
    rcases h with h | h
    · exact ⟨_, h⟩
    · exact ⟨_, h⟩
  have hl0 : l.length ≠ 0 := by simpa using h0
  rw [Lib.byteCells_length] at hown
  obtain ⟨g, cap, cur, rfl, hbg, hg, hnc, hcm, hcs, htake⟩ : ∃ g cap cur, v = .slice (some ⟨g, 0, none⟩) l.length cap ∧ B ≤ g ∧ w.heap[g]? = some (.cells cur 5 (0, 0)) ∧ l.length ≤ cap ∧ cap ≤ maxLen ∧ cur.size = cap * 1 ∧ cur.toList.take (l.length * 1) = Lib.byteCells l := by
    rcases hown.2 with ⟨_, hz⟩ | ⟨g, cap, cur, hv, r⟩
    · exact absurd hz hl0
    · exact ⟨g, cap, cur, hv, r⟩
  have c1 : w.drew.cell? ⟨b, 5, none⟩ = some (.slice (some ⟨g, 0, none⟩) l.length cap) := by
    have : w.drew.heap[b]? = some (.cells #[.int .i64 st, .int .i64 sz, .int .i64 mn, .int .i64 sn, p, .slice (some ⟨g, 0, none⟩) l.length cap] 211 (0, 0)) := hbk
    rw [Lib.cell_of_heap this]; rfl
  have hSD : (Builtin.unsafeSliceData_ #[38] 143 #[.slice (some ⟨g, 0, none⟩) l.length cap]).run Tryz.prog w.drew = .ok (.pointer (some ⟨g, 0, none⟩)) w.drew :=
    Lib.run_unsafeSliceData_row _ _ _ _ _ _ (by omega)
  have hUS : (Builtin.unsafeString_ #[143, 3] 9 #[.pointer (some ⟨g, 0, none⟩), .int .i64 l.length]).run Tryz.prog w.drew = .ok (.string ⟨l.toArray⟩) (w.drew.freeze ⟨g, 0, none⟩ l.length) := by
    refine Lib.run_unsafeString_row w.drew 143 3 9 5 Tryz.underlying143 (by kernel_rfl) g cur.size (by have hg' : w.drew.heap[g]? = some (.cells cur 5 (0, 0)) := hg; simp [World.shape?, hg']) l h0 (by omega) (by unfold maxLen at hcm; omega) ?_
    intro j x hx
    have := hown.cells (g := g) rfl j (.int .u8 x.toNat) (by simp [Lib.byteCells, hx])
    exact this
  have mixed : Tryz.prog.follows Departure.mixedOrders = true := by kernel_rfl
  go_enter Tryz.func45, Tryz.ntmps45
  go_wp2
  go_region_o
  all_goals (go_wp2; go_ret; exact ⟨rfl, Lib.below_freeze (Below.drew (Below.refl B w)) (p := ⟨g, 0, none⟩) hbg _⟩)

set_option maxHeartbeats 2000000 in
set_option maxRecDepth 100000 in
/-- .. of a builder that was never written. -/
theorem mc_String_nil (b : Nat) (st sz mn sn : Int) (B : Nat) (p : Value) (w : World) (hbk : w.heap[b]? = some (.cells #[.int .i64 st, .int .i64 sz, .int .i64 mn, .int .i64 sn, p, .slice none 0 0] 211 (0, 0))) :
    Calls Tryz.prog 45 #[.pointer (some ⟨b, 4, none⟩)] w fun e w' => e = .returned (.string ⟨#[]⟩) ∧ Below B w w' := by
  have hUS : ∀ W q, (Builtin.unsafeString_ #[143, 3] 9 #[.pointer q, .int .i64 0]).run Tryz.prog W = .ok (.string .empty) W := fun W q => Lib.run_unsafeString_none W _ _ _ q
  have c1 : w.drew.cell? ⟨b, 5, none⟩ = some (.slice none 0 0) := by
    have : w.drew.heap[b]? = some (.cells #[.int .i64 st, .int .i64 sz, .int .i64 mn, .int .i64 sn, p, .slice none 0 0] 211 (0, 0)) := hbk
    rw [Lib.cell_of_heap this]; rfl
  have hSD : (Builtin.unsafeSliceData_ #[38] 143 #[.slice none 0 0]).run Tryz.prog w.drew = .ok (.pointer none) w.drew := rfl
  have mixed : Tryz.prog.follows Departure.mixedOrders = true := by kernel_rfl
  go_enter Tryz.func45, Tryz.ntmps45
  go_wp2
  go_region_o
  all_goals (go_wp2; go_ret; exact ⟨rfl, Below.drew (Below.refl B w)⟩)
theorem mc_String_any (B b : Nat) (st sz mn sn : Int) (l : List UInt8) (w : World) (h : IsM B b st sz mn sn (Lib.byteCells l) w) :
    Calls Tryz.prog 45 #[.pointer (some ⟨b, 4, none⟩)] w fun e w' => e = .returned (.string ⟨l.toArray⟩) ∧ Below B w w' := by
  by_cases h0 : l = []
  · subst h0
    obtain ⟨p, hB, v, hbk, hown, hne, hz⟩ : ∃ p, MAt B b st sz mn sn p (Lib.byteCells []) w := by
      rcases h with h | h
      · exact ⟨_, h⟩
      · exact ⟨_, h⟩
    have := hz rfl
    subst this
    exact mc_String_nil b st sz mn sn B p w hbk
  · exact mc_String B b st sz mn sn l w h h0
end Go.Proofs.YthgmgmbjjjnhnaaGreatDoor
namespace Go.Proofs.YthgmgmbjjjnhnaaGreatDoor
open Go.RowKit

theorem MAt.facts {B b : Nat} {st sz mn sn : Int} {p : Value} {bs : List Value} {w : World} (h : MAt B b st sz mn sn p bs w) :
    w.cell? ⟨b, 0, none⟩ = some (.int .i64 st) ∧ w.cell? ⟨b, 1, none⟩ = some (.int .i64 sz) ∧ w.cell? ⟨b, 2, none⟩ = some (.int .i64 mn) ∧ w.cell? ⟨b, 3, none⟩ = some (.int .i64 sn)
    ∧ w.frozen? ⟨b, 0, none⟩ = false ∧ w.frozen? ⟨b, 1, none⟩ = false ∧ w.frozen? ⟨b, 2, none⟩ = false ∧ w.frozen? ⟨b, 3, none⟩ = false := by
  obtain ⟨_, v, hb, _⟩ := h
  simp [World.cell?, World.frozen?, hb]
theorem IsM.at {B b : Nat} {st sz mn sn : Int} {bs : List Value} {w : World} (h : IsM B b st sz mn sn bs w) : ∃ p, (p = .pointer none ∨ p = .pointer (some ⟨b, 4, none⟩)) ∧ MAt B b st sz mn sn p bs w := by
  rcases h with h | h
  · exact ⟨_, .inl rfl, h⟩
  · exact ⟨_, .inr rfl, h⟩
theorem IsM.of {B b : Nat} {st sz mn sn : Int} {bs : List Value} {w : World} {p : Value} (hp : p = .pointer none ∨ p = .pointer (some ⟨b, 4, none⟩)) (h : MAt B b st sz mn sn p bs w) : IsM B b st sz mn sn bs w := by
  rcases hp with rfl | rfl
  · exact .inl h
  · exact .inr h

theorem IsM.drewN {B b : Nat} {st sz mn sn : Int} {bs : List Value} {w : World} (h : IsM B b st sz mn sn bs w) (n : Nat) : IsM B b st sz mn sn bs (w.drewN n) := h
theorem Below.drewN_ (B : Nat) (w : World) (n : Nat) : Below B w (w.drewN n) := ⟨rfl, rfl, rfl, Nat.le_refl _, fun _ _ => rfl⟩
set_option maxHeartbeats 1000000 in
theorem mc_next (B b : Nat) (st sz mn sn x : Int) (bs : List Value) (w : World) (h : IsM B b st sz mn sn bs w) :
    Calls Tryz.prog 172 #[.pointer (some ⟨b, 0, none⟩), .int .i64 x] w fun e w' => e = .returned (.tuple #[]) ∧ IsM B b x sz mn 0 bs w' ∧ Below B w w' := by
  obtain ⟨p, hp, h⟩ := h.at
  obtain ⟨c0, c1, c2, c3, f0, f1, f2, f3⟩ := h.facts
  go_enter Tryz.func172, Tryz.ntmps172
  go_wp2_with fail
  go_end0
  exact ⟨rfl, IsM.of hp ((h.set 0 x x sz mn sn rfl (by omega)).set 3 0 x sz mn 0 rfl (by omega)), ((Below.refl B w).setCell (p := ⟨b, 0, none⟩) h.1 _).setCell (p := ⟨b, 3, none⟩) h.1 _⟩

set_option maxHeartbeats 1000000 in
theorem mc_told_ok (B b : Nat) (st sz mn sn : Int) (bs : List Value) (w : World) (h : IsM B b st sz mn sn bs w) (h0 : 0 ≤ sz) (h2 : sz ≤ 100000) (h1 : (bs.length : Int) + sz ≤ 8192) :
    Calls Tryz.prog 174 #[.pointer (some ⟨b, 0, none⟩)] w fun e w' => e = .returned (.int .i64 0) ∧ IsM B b 3 sz mn 0 bs w' ∧ Below B w w' := by
  obtain ⟨p, hp, h'⟩ := h.at
  obtain ⟨c0, c1, c2, c3, f0, f1, f2, f3⟩ := h'.facts
  have e1 : IntKind.i64.wrap ((bs.length : Int) + sz) = (bs.length : Int) + sz := IntWalk.i64_in _ (by omega)
  have H := Lib.hid h
  clear h h' hp
  go_enter Tryz.func174, Tryz.ntmps174
  go_wp2_with fail
  go_quiet ((go_at_call 189; exact Calls.quiet_of_same (mc_Len B b st sz mn sn bs _ H.out)))
  go_wp2_with fail
  refine (mc_next B b st sz mn sn 3 bs _ (H.out.drewN _)).mono ?_
  rintro e w1 ⟨rfl, h3, hb⟩
  go_wp2_with fail
  go_ret
  exact ⟨rfl, h3, (Below.drewN_ B w _).trans hb⟩
theorem mc_told_no (B b : Nat) (st sz mn sn : Int) (bs : List Value) (w : World) (h : IsM B b st sz mn sn bs w) (h0 : 0 ≤ sz) (h2 : sz ≤ 100000) (h3 : bs.length ≤ 8192) (h1 : 8192 < (bs.length : Int) + sz) :
    Calls Tryz.prog 174 #[.pointer (some ⟨b, 0, none⟩)] w fun e w' => e = .returned (.int .i64 4) ∧ Below B w w' := by
  obtain ⟨p, hp, h'⟩ := h.at
  obtain ⟨c0, c1, c2, c3, f0, f1, f2, f3⟩ := h'.facts
  have e1 : IntKind.i64.wrap ((bs.length : Int) + sz) = (bs.length : Int) + sz := IntWalk.i64_in _ (by omega)
  have H := Lib.hid h
  clear h h' hp
  go_enter Tryz.func174, Tryz.ntmps174
  go_wp2_with fail
  go_quiet ((go_at_call 189; exact Calls.quiet_of_same (mc_Len B b st sz mn sn bs _ H.out)))
  go_wp2_with fail
  go_ret
  exact ⟨rfl, Below.drewN_ B w _⟩
set_option maxHeartbeats 1000000 in
theorem ch_digit (c : UInt8) (w : World) : Calls Tryz.prog 173 #[.int .u8 c.toNat] w fun e w' => e = .returned (.int .i64 (if Lib.indexByte [48, 49, 50, 51, 52, 53, 54, 55, 56, 57, 97, 98, 99, 100, 101, 102] c < 0 then Lib.indexByte [48, 49, 50, 51, 52, 53, 54, 55, 56, 57, 65, 66, 67, 68, 69, 70] c else Lib.indexByte [48, 49, 50, 51, 52, 53, 54, 55, 56, 57, 97, 98, 99, 100, 101, 102] c)) ∧ w' = w := by
  have e : c.toNat.toUInt8 = c := by simp
  have I1 := fun w => Tryz.strings_IndexByte ⟨#[48, 49, 50, 51, 52, 53, 54, 55, 56, 57, 97, 98, 99, 100, 101, 102]⟩ c.toNat w
  have I2 := fun w => Tryz.strings_IndexByte ⟨#[48, 49, 50, 51, 52, 53, 54, 55, 56, 57, 65, 66, 67, 68, 69, 70]⟩ c.toNat w
  rw [show ((c.toNat : Int)).toNat.toUInt8 = c by simp] at I1 I2
  obtain ⟨x, hx⟩ : ∃ x, Lib.indexByte [48, 49, 50, 51, 52, 53, 54, 55, 56, 57, 97, 98, 99, 100, 101, 102] c = x := ⟨_, rfl⟩
  obtain ⟨y, hy⟩ : ∃ y, Lib.indexByte [48, 49, 50, 51, 52, 53, 54, 55, 56, 57, 65, 66, 67, 68, 69, 70] c = y := ⟨_, rfl⟩
  rw [hx, hy]
  rw [show (ByteArray.mk #[48, 49, 50, 51, 52, 53, 54, 55, 56, 57, 97, 98, 99, 100, 101, 102]).data.toList = [48, 49, 50, 51, 52, 53, 54, 55, 56, 57, 97, 98, 99, 100, 101, 102] from rfl, hx] at I1
  rw [show (ByteArray.mk #[48, 49, 50, 51, 52, 53, 54, 55, 56, 57, 65, 66, 67, 68, 69, 70]).data.toList = [48, 49, 50, 51, 52, 53, 54, 55, 56, 57, 65, 66, 67, 68, 69, 70] from rfl, hy] at I2
  have J1 := Lib.hid I1
  have J2 := Lib.hid I2
  clear I1 I2 hx hy e
  by_cases h : x < 0
  · rw [if_pos h]
    go_enter Tryz.func173, Tryz.ntmps173
    go_wp2_with fail
    refine (J1.out _).mono ?_
    rintro e w1 ⟨rfl, rfl⟩
    go_wp2_with fail
    refine (J2.out _).mono ?_
    rintro e w2 ⟨rfl, rfl⟩
    go_wp2_with fail
    go_ret
    exact ⟨rfl, rfl⟩
  · rw [if_neg h]
    go_enter Tryz.func173, Tryz.ntmps173
    go_wp2_with fail
    refine (J1.out _).mono ?_
    rintro e w1 ⟨rfl, rfl⟩
    go_wp2_with fail
    go_ret
    exact ⟨rfl, rfl⟩

set_option maxHeartbeats 1000000 in
/-- mark: the first byte of a line's end, and the second. -/
theorem mc_mark0 (B b : Nat) (st sz mn : Int) (bs : List Value) (c : UInt8) (w : World) (h : IsM B b st sz mn 0 bs w) :
    Calls Tryz.prog 176 #[.pointer (some ⟨b, 0, none⟩), .int .u8 c.toNat] w fun e w' => e = .returned (.tuple #[.bool ((c.toNat : Int) == 13), .bool false]) ∧ IsM B b st sz mn 1 bs w' ∧ Below B w w' := by
  obtain ⟨p, hp, h⟩ := h.at
  obtain ⟨c0, c1, c2, c3, f0, f1, f2, f3⟩ := h.facts
  go_enter Tryz.func176, Tryz.ntmps176
  go_wp2_with fail
  go_quiet (fail)
  go_wp2_with fail
  go_ret2
  exact ⟨rfl, (IsM.of hp (h.set 3 1 st sz mn 1 rfl (by omega))).drewN _, ((Below.refl B w).setCell (p := ⟨b, 3, none⟩) h.1 _).trans (Below.drewN_ B _ _)⟩
set_option maxHeartbeats 1000000 in
theorem mc_mark1 (B b : Nat) (st sz mn : Int) (bs : List Value) (c : UInt8) (w : World) (h : IsM B b st sz mn 1 bs w) :
    Calls Tryz.prog 176 #[.pointer (some ⟨b, 0, none⟩), .int .u8 c.toNat] w fun e w' => e = .returned (.tuple #[.bool ((c.toNat : Int) == 10), .bool true]) ∧ IsM B b st sz mn 2 bs w' ∧ Below B w w' := by
  obtain ⟨p, hp, h⟩ := h.at
  obtain ⟨c0, c1, c2, c3, f0, f1, f2, f3⟩ := h.facts
  go_enter Tryz.func176, Tryz.ntmps176
  go_wp2_with fail
  go_quiet (fail)
  go_wp2_with fail
  go_ret2
  exact ⟨rfl, (IsM.of hp (h.set 3 2 st sz mn 2 rfl (by omega))).drewN _, ((Below.refl B w).setCell (p := ⟨b, 3, none⟩) h.1 _).trans (Below.drewN_ B _ _)⟩
end Go.Proofs.YthgmgmbjjjnhnaaGreatDoor
namespace Go.Proofs.YthgmgmbjjjnhnaaGreatDoor
open Go.RowKit

/-- A hexadecimal digit's number; -1: it is none. -/
def hexN (c : UInt8) : Int := if 48 ≤ c.toNat ∧ c.toNat ≤ 57 then c.toNat - 48 else if 97 ≤ c.toNat ∧ c.toNat ≤ 102 then c.toNat - 87 else if 65 ≤ c.toNat ∧ c.toNat ≤ 70 then c.toNat - 55 else -1
def dgN (c : UInt8) : Int := if Lib.indexByte [48, 49, 50, 51, 52, 53, 54, 55, 56, 57, 97, 98, 99, 100, 101, 102] c < 0 then Lib.indexByte [48, 49, 50, 51, 52, 53, 54, 55, 56, 57, 65, 66, 67, 68, 69, 70] c else Lib.indexByte [48, 49, 50, 51, 52, 53, 54, 55, 56, 57, 97, 98, 99, 100, 101, 102] c
theorem dg_hex' : ∀ n : Fin 256, dgN (UInt8.ofNat n.val) = hexN (UInt8.ofNat n.val) := by decide +kernel
theorem dg_hex (c : UInt8) : dgN c = hexN c := by
  have := dg_hex' ⟨c.toNat, c.toNat_lt⟩
  simpa using this
theorem hexN_le (c : UInt8) : -1 ≤ hexN c ∧ hexN c ≤ 15 := by
  unfold hexN
  split
  · omega
  · split
    · omega
    · split <;> omega

/-- chunk's machine: what it waits for, the size, how many digits, how many bytes of a line's end, the content. -/
structure CM where
  st : Nat
  sz : Nat
  mn : Nat
  sn : Nat
  body : List UInt8
def CM.told (m : CM) : CM × Int := if 8192 < m.body.length + m.sz then (m, 4) else ({ m with st := 3, sn := 0 }, 0)
def CM.digits (m : CM) (c : UInt8) : CM × Int :=
  if 0 ≤ hexN c ∧ m.mn < 4 then ({ m with sz := 16 * m.sz + (hexN c).toNat, mn := m.mn + 1 }, 0)
  else if c ≠ 13 ∨ m.mn = 0 then (m, 160) else ({ m with st := 2, sn := 0 }, 0)
/-- The two bytes of a line's end; behind them the state z. -/
def CM.mark (m : CM) (z : Nat) (c : UInt8) : CM × Int :=
  if m.sn = 0 then ({ m with sn := 1 }, if c = 13 then 0 else 160) else ({ m with st := z, sn := 0 }, if c = 10 then 0 else 160)
def CM.take (m : CM) (c : UInt8) : CM × Int :=
  match m.st with
  | 0 => if c = 48 then ({ m with st := 5, sn := 0 }, 0) else CM.digits { m with st := 1, sn := 0, sz := 0, mn := 0 } c
  | 1 => m.digits c
  | 2 => if c ≠ 10 then (m, 160) else m.told
  | 3 => if 0 < m.sz then ({ m with body := m.body ++ [c], sz := m.sz - 1 }, 0) else CM.mark { m with st := 4, sn := 0 } 0 c
  | 4 => m.mark 0 c
  | 5 => m.mark 6 c
  | 6 => m.mark 7 c
  | _ => (m, 0)
/-- What stays true of the machine. -/
structure CM.Ok (m : CM) : Prop where
  st : m.st ≤ 7
  sn : m.sn ≤ 1
  mn : m.mn ≤ 4
  sz : m.sz < 16 ^ m.mn
  body : m.body.length ≤ 8192
  data : m.st = 3 → m.body.length + m.sz ≤ 8192
  dig : m.st = 1 → 1 ≤ m.mn
end Go.Proofs.YthgmgmbjjjnhnaaGreatDoor
namespace Go.Proofs.YthgmgmbjjjnhnaaGreatDoor
open Go.RowKit

theorem ch_dg (c : UInt8) (w : World) : Calls Tryz.prog 173 #[.int .u8 c.toNat] w fun e w' => e = .returned (.int .i64 (dgN c)) ∧ w' = w := ch_digit c w

set_option maxHeartbeats 1000000 in
theorem take_first0 (B b : Nat) (sz mn sn : Int) (bs : List Value) (w : World) (h : IsM B b 0 sz mn sn bs w) :
    Calls Tryz.prog 145 #[.pointer (some ⟨b, 0, none⟩), .int .u8 48] w fun e w' => e = .returned (.int .i64 0) ∧ IsM B b 5 sz mn 0 bs w' ∧ Below B w w' := by
  obtain ⟨p, hp, h'⟩ := h.at
  obtain ⟨c0, c1, c2, c3, f0, f1, f2, f3⟩ := h'.facts
  have H := Lib.hid h'
  have HM := Lib.hid h
  have HB := Lib.hid h'.1
  have HP := Lib.hid hp
  clear h h' hp
  go_enter Tryz.func145, Tryz.ntmps145
  go_wp2_with fail
  refine (mc_next B b 0 sz mn sn 5 bs w HM.out).mono ?_
  rintro e w1 ⟨rfl, h3, hb⟩
  go_wp2_with fail
  go_ret
  exact ⟨rfl, h3, hb⟩

set_option maxHeartbeats 1000000 in
theorem take_digit (B b : Nat) (sz mn sn d : Int) (c : UInt8) (bs : List Value) (w : World) (h : IsM B b 1 sz mn sn bs w) (hd : dgN c = d) (h0 : 0 ≤ d) (h1 : d ≤ 15) (h2 : mn < 4) (h4 : 0 ≤ mn) (h3 : 0 ≤ sz) (h5 : sz ≤ 65536) :
    Calls Tryz.prog 145 #[.pointer (some ⟨b, 0, none⟩), .int .u8 c.toNat] w fun e w' => e = .returned (.int .i64 0) ∧ IsM B b 1 (16 * sz + d) (mn + 1) sn bs w' ∧ Below B w w' := by
  obtain ⟨p, hp, h'⟩ := h.at
  obtain ⟨c0, c1, c2, c3, f0, f1, f2, f3⟩ := h'.facts
  have D0 := fun w => ch_dg c w
  rw [hd] at D0
  have D := Lib.hid D0
  clear hd D0
  have e1 : IntKind.i64.wrap (16 * sz) = 16 * sz := IntWalk.i64_in _ (by omega)
  have e2 : IntKind.i64.wrap (16 * sz + d) = 16 * sz + d := IntWalk.i64_in _ (by omega)
  have e3 : IntKind.i64.wrap (mn + 1) = mn + 1 := IntWalk.i64_in _ (by omega)
  have H := Lib.hid h'
  have HM := Lib.hid h
  have HB := Lib.hid h'.1
  have HP := Lib.hid hp
  clear h h' hp
  go_enter Tryz.func145, Tryz.ntmps145
  go_wp2_with fail
  refine (D.out _).mono ?_
  rintro e w1 ⟨rfl, rfl⟩
  go_wp2_with fail
  go_region
  all_goals go_wp2_with fail
  all_goals go_ret
  all_goals exact ⟨rfl, IsM.of HP.out (((show MAt B b 1 sz mn sn p bs w1.drew from H.out).set 1 _ 1 (16 * sz + d) mn sn rfl (by omega)).set 2 _ 1 (16 * sz + d) (mn + 1) sn rfl (by omega)), (((Below.refl B w1).drew).setCell (p := ⟨b, 1, none⟩) HB.out _).setCell (p := ⟨b, 2, none⟩) HB.out _⟩

set_option maxHeartbeats 1000000 in
theorem take_bad_neg (B b : Nat) (sz mn sn d : Int) (c : UInt8) (bs : List Value) (w : World) (h : IsM B b 1 sz mn sn bs w) (hd : dgN c = d) (h0 : d < 0) (hc : ((c.toNat : Int) == 13) = false) :
    Calls Tryz.prog 145 #[.pointer (some ⟨b, 0, none⟩), .int .u8 c.toNat] w fun e w' => e = .returned (.int .i64 160) ∧ Below B w w' := by
  obtain ⟨p, hp, h'⟩ := h.at
  obtain ⟨c0, c1, c2, c3, f0, f1, f2, f3⟩ := h'.facts
  have D0 := fun w => ch_dg c w
  rw [hd] at D0
  have D := Lib.hid D0
  clear hd D0
  have H := Lib.hid h'
  have HM := Lib.hid h
  have HB := Lib.hid h'.1
  have HP := Lib.hid hp
  clear h h' hp
  go_enter Tryz.func145, Tryz.ntmps145
  go_wp2_with fail
  refine (D.out _).mono ?_
  rintro e w1 ⟨rfl, rfl⟩
  go_wp2_with fail
  go_ret
  exact ⟨rfl, Below.refl B _⟩

set_option maxHeartbeats 1000000 in
theorem take_line_neg (B b : Nat) (sz mn sn d : Int) (bs : List Value) (w : World) (h : IsM B b 1 sz mn sn bs w) (hd : dgN 13 = d) (h0 : d < 0) (hm : (mn == 0) = false) :
    Calls Tryz.prog 145 #[.pointer (some ⟨b, 0, none⟩), .int .u8 13] w fun e w' => e = .returned (.int .i64 0) ∧ IsM B b 2 sz mn 0 bs w' ∧ Below B w w' := by
  obtain ⟨p, hp, h'⟩ := h.at
  obtain ⟨c0, c1, c2, c3, f0, f1, f2, f3⟩ := h'.facts
  have D0 := fun w => ch_dg 13 w
  rw [hd] at D0
  have D := Lib.hid D0
  clear hd D0
  have H := Lib.hid h'
  have HM := Lib.hid h
  have HB := Lib.hid h'.1
  have HP := Lib.hid hp
  clear h h' hp
  go_enter Tryz.func145, Tryz.ntmps145
  go_wp2_with fail
  refine (D.out _).mono ?_
  rintro e w1 ⟨rfl, rfl⟩
  go_wp2_with fail
  refine (mc_next B b 1 sz mn sn 2 bs w1 HM.out).mono ?_
  rintro e w2 ⟨rfl, h3, hb⟩
  go_wp2_with fail
  go_ret
  exact ⟨rfl, h3, hb⟩

set_option maxHeartbeats 1000000 in
theorem take_bad_full (B b : Nat) (sz mn sn d : Int) (c : UInt8) (bs : List Value) (w : World) (h : IsM B b 1 sz mn sn bs w) (hd : dgN c = d) (h0 : 0 ≤ d) (h2 : 4 ≤ mn) (hc : ((c.toNat : Int) == 13) = false) :
    Calls Tryz.prog 145 #[.pointer (some ⟨b, 0, none⟩), .int .u8 c.toNat] w fun e w' => e = .returned (.int .i64 160) ∧ Below B w w' := by
  obtain ⟨p, hp, h'⟩ := h.at
  obtain ⟨c0, c1, c2, c3, f0, f1, f2, f3⟩ := h'.facts
  have D0 := fun w => ch_dg c w
  rw [hd] at D0
  have D := Lib.hid D0
  clear hd D0
  have H := Lib.hid h'
  have HM := Lib.hid h
  have HB := Lib.hid h'.1
  have HP := Lib.hid hp
  clear h h' hp
  go_enter Tryz.func145, Tryz.ntmps145
  go_wp2_with fail
  refine (D.out _).mono ?_
  rintro e w1 ⟨rfl, rfl⟩
  go_wp2_with fail
  go_ret
  exact ⟨rfl, Below.refl B _⟩

set_option maxHeartbeats 1000000 in
theorem take_line_full (B b : Nat) (sz mn sn d : Int) (bs : List Value) (w : World) (h : IsM B b 1 sz mn sn bs w) (hd : dgN 13 = d) (h0 : 0 ≤ d) (h2 : 4 ≤ mn) (hm : (mn == 0) = false) :
    Calls Tryz.prog 145 #[.pointer (some ⟨b, 0, none⟩), .int .u8 13] w fun e w' => e = .returned (.int .i64 0) ∧ IsM B b 2 sz mn 0 bs w' ∧ Below B w w' := by
  obtain ⟨p, hp, h'⟩ := h.at
  obtain ⟨c0, c1, c2, c3, f0, f1, f2, f3⟩ := h'.facts
  have D0 := fun w => ch_dg 13 w
  rw [hd] at D0
  have D := Lib.hid D0
  clear hd D0
  have H := Lib.hid h'
  have HM := Lib.hid h
  have HB := Lib.hid h'.1
  have HP := Lib.hid hp
  clear h h' hp
  go_enter Tryz.func145, Tryz.ntmps145
  go_wp2_with fail
  refine (D.out _).mono ?_
  rintro e w1 ⟨rfl, rfl⟩
  go_wp2_with fail
  refine (mc_next B b 1 sz mn sn 2 bs w1 HM.out).mono ?_
  rintro e w2 ⟨rfl, h3, hb⟩
  go_wp2_with fail
  go_ret
  exact ⟨rfl, h3, hb⟩

set_option maxHeartbeats 1000000 in
theorem take_lf_no (B b : Nat) (sz mn sn : Int) (c : UInt8) (bs : List Value) (w : World) (h : IsM B b 2 sz mn sn bs w) (hc : ((c.toNat : Int) == 10) = false) :
    Calls Tryz.prog 145 #[.pointer (some ⟨b, 0, none⟩), .int .u8 c.toNat] w fun e w' => e = .returned (.int .i64 160) ∧ Below B w w' := by
  obtain ⟨p, hp, h'⟩ := h.at
  obtain ⟨c0, c1, c2, c3, f0, f1, f2, f3⟩ := h'.facts
  have H := Lib.hid h'
  have HM := Lib.hid h
  have HB := Lib.hid h'.1
  have HP := Lib.hid hp
  clear h h' hp
  go_enter Tryz.func145, Tryz.ntmps145
  go_wp2_with fail
  go_ret
  exact ⟨rfl, Below.refl B _⟩

set_option maxHeartbeats 1000000 in
theorem take_lf_ok (B b : Nat) (sz mn sn : Int) (bs : List Value) (w : World) (h : IsM B b 2 sz mn sn bs w) (h0 : 0 ≤ sz) (h2 : sz ≤ 100000) (h1 : (bs.length : Int) + sz ≤ 8192) :
    Calls Tryz.prog 145 #[.pointer (some ⟨b, 0, none⟩), .int .u8 10] w fun e w' => e = .returned (.int .i64 0) ∧ IsM B b 3 sz mn 0 bs w' ∧ Below B w w' := by
  obtain ⟨p, hp, h'⟩ := h.at
  obtain ⟨c0, c1, c2, c3, f0, f1, f2, f3⟩ := h'.facts
  have H := Lib.hid h'
  have HM := Lib.hid h
  have HB := Lib.hid h'.1
  have HP := Lib.hid hp
  clear h h' hp
  go_enter Tryz.func145, Tryz.ntmps145
  go_wp2_with fail
  refine (mc_told_ok B b 2 sz mn sn bs w HM.out h0 h2 h1).mono ?_
  rintro e w1 ⟨rfl, h3, hb⟩
  go_wp2_with fail
  go_ret
  exact ⟨rfl, h3, hb⟩

set_option maxHeartbeats 1000000 in
theorem take_lf_many (B b : Nat) (sz mn sn : Int) (bs : List Value) (w : World) (h : IsM B b 2 sz mn sn bs w) (h0 : 0 ≤ sz) (h2 : sz ≤ 100000) (h3 : bs.length ≤ 8192) (h1 : 8192 < (bs.length : Int) + sz) :
    Calls Tryz.prog 145 #[.pointer (some ⟨b, 0, none⟩), .int .u8 10] w fun e w' => e = .returned (.int .i64 4) ∧ Below B w w' := by
  obtain ⟨p, hp, h'⟩ := h.at
  obtain ⟨c0, c1, c2, c3, f0, f1, f2, f3⟩ := h'.facts
  have H := Lib.hid h'
  have HM := Lib.hid h
  have HB := Lib.hid h'.1
  have HP := Lib.hid hp
  clear h h' hp
  go_enter Tryz.func145, Tryz.ntmps145
  go_wp2_with fail
  refine (mc_told_no B b 2 sz mn sn bs w HM.out h0 h2 h3 h1).mono ?_
  rintro e w1 ⟨rfl, hb⟩
  go_wp2_with fail
  go_ret
  exact ⟨rfl, hb⟩

set_option maxHeartbeats 1000000 in
theorem take_4_cr_no (B b : Nat) (sz mn : Int) (c : UInt8) (bs : List Value) (w : World) (h : IsM B b 4 sz mn 0 bs w) (hc : ((c.toNat : Int) == 13) = false) :
    Calls Tryz.prog 145 #[.pointer (some ⟨b, 0, none⟩), .int .u8 c.toNat] w fun e w' => e = .returned (.int .i64 160) ∧ Below B w w' := by
  obtain ⟨p, hp, h'⟩ := h.at
  obtain ⟨c0, c1, c2, c3, f0, f1, f2, f3⟩ := h'.facts
  have H := Lib.hid h'
  have HM := Lib.hid h
  have HB := Lib.hid h'.1
  have HP := Lib.hid hp
  clear h h' hp
  go_enter Tryz.func145, Tryz.ntmps145
  go_wp2_with fail
  refine (mc_mark0 B b 4 sz mn bs c w HM.out).mono ?_
  rintro e w1 ⟨rfl, h3, hb⟩
  go_wp2_with fail
  go_ret
  exact ⟨rfl, hb⟩

set_option maxHeartbeats 1000000 in
theorem take_4_cr (B b : Nat) (sz mn : Int) (bs : List Value) (w : World) (h : IsM B b 4 sz mn 0 bs w) :
    Calls Tryz.prog 145 #[.pointer (some ⟨b, 0, none⟩), .int .u8 13] w fun e w' => e = .returned (.int .i64 0) ∧ IsM B b 4 sz mn 1 bs w' ∧ Below B w w' := by
  obtain ⟨p, hp, h'⟩ := h.at
  obtain ⟨c0, c1, c2, c3, f0, f1, f2, f3⟩ := h'.facts
  have H := Lib.hid h'
  have HM := Lib.hid h
  have HB := Lib.hid h'.1
  have HP := Lib.hid hp
  clear h h' hp
  go_enter Tryz.func145, Tryz.ntmps145
  go_wp2_with fail
  refine (mc_mark0 B b 4 sz mn bs 13 w HM.out).mono ?_
  rintro e w1 ⟨rfl, h3, hb⟩
  go_wp2_with fail
  go_ret
  exact ⟨rfl, h3, hb⟩

set_option maxHeartbeats 1000000 in
theorem take_4_lf_no (B b : Nat) (sz mn : Int) (c : UInt8) (bs : List Value) (w : World) (h : IsM B b 4 sz mn 1 bs w) (hc : ((c.toNat : Int) == 10) = false) :
    Calls Tryz.prog 145 #[.pointer (some ⟨b, 0, none⟩), .int .u8 c.toNat] w fun e w' => e = .returned (.int .i64 160) ∧ Below B w w' := by
  obtain ⟨p, hp, h'⟩ := h.at
  obtain ⟨c0, c1, c2, c3, f0, f1, f2, f3⟩ := h'.facts
  have H := Lib.hid h'
  have HM := Lib.hid h
  have HB := Lib.hid h'.1
  have HP := Lib.hid hp
  clear h h' hp
  go_enter Tryz.func145, Tryz.ntmps145
  go_wp2_with fail
  refine (mc_mark1 B b 4 sz mn bs c w HM.out).mono ?_
  rintro e w1 ⟨rfl, h3, hb⟩
  obtain ⟨p1, hp1, h1'⟩ := h3.at
  obtain ⟨d0, d1, d2, d3, g0, g1, g2, g3⟩ := h1'.facts
  have H3 := Lib.hid h3
  clear h3 h1' hp1
  go_wp2_with fail
  refine (mc_next B b 4 sz mn 2 0 bs w1 H3.out).mono ?_
  rintro e w2 ⟨rfl, h4, hb2⟩
  go_wp2_with fail
  go_ret
  exact ⟨rfl, hb.trans hb2⟩

set_option maxHeartbeats 1000000 in
theorem take_4_lf (B b : Nat) (sz mn : Int) (bs : List Value) (w : World) (h : IsM B b 4 sz mn 1 bs w) :
    Calls Tryz.prog 145 #[.pointer (some ⟨b, 0, none⟩), .int .u8 10] w fun e w' => e = .returned (.int .i64 0) ∧ IsM B b 0 sz mn 0 bs w' ∧ Below B w w' := by
  obtain ⟨p, hp, h'⟩ := h.at
  obtain ⟨c0, c1, c2, c3, f0, f1, f2, f3⟩ := h'.facts
  have H := Lib.hid h'
  have HM := Lib.hid h
  have HB := Lib.hid h'.1
  have HP := Lib.hid hp
  clear h h' hp
  go_enter Tryz.func145, Tryz.ntmps145
  go_wp2_with fail
  refine (mc_mark1 B b 4 sz mn bs 10 w HM.out).mono ?_
  rintro e w1 ⟨rfl, h3, hb⟩
  obtain ⟨p1, hp1, h1'⟩ := h3.at
  obtain ⟨d0, d1, d2, d3, g0, g1, g2, g3⟩ := h1'.facts
  have H3 := Lib.hid h3
  clear h3 h1' hp1
  go_wp2_with fail
  refine (mc_next B b 4 sz mn 2 0 bs w1 H3.out).mono ?_
  rintro e w2 ⟨rfl, h4, hb2⟩
  go_wp2_with fail
  go_ret
  exact ⟨rfl, h4, hb.trans hb2⟩

set_option maxHeartbeats 1000000 in
theorem take_5_cr_no (B b : Nat) (sz mn : Int) (c : UInt8) (bs : List Value) (w : World) (h : IsM B b 5 sz mn 0 bs w) (hc : ((c.toNat : Int) == 13) = false) :
    Calls Tryz.prog 145 #[.pointer (some ⟨b, 0, none⟩), .int .u8 c.toNat] w fun e w' => e = .returned (.int .i64 160) ∧ Below B w w' := by
  obtain ⟨p, hp, h'⟩ := h.at
  obtain ⟨c0, c1, c2, c3, f0, f1, f2, f3⟩ := h'.facts
  have H := Lib.hid h'
  have HM := Lib.hid h
  have HB := Lib.hid h'.1
  have HP := Lib.hid hp
  clear h h' hp
  go_enter Tryz.func145, Tryz.ntmps145
  go_wp2_with fail
  refine (mc_mark0 B b 5 sz mn bs c w HM.out).mono ?_
  rintro e w1 ⟨rfl, h3, hb⟩
  go_wp2_with fail
  go_ret
  exact ⟨rfl, hb⟩

set_option maxHeartbeats 1000000 in
theorem take_5_cr (B b : Nat) (sz mn : Int) (bs : List Value) (w : World) (h : IsM B b 5 sz mn 0 bs w) :
    Calls Tryz.prog 145 #[.pointer (some ⟨b, 0, none⟩), .int .u8 13] w fun e w' => e = .returned (.int .i64 0) ∧ IsM B b 5 sz mn 1 bs w' ∧ Below B w w' := by
  obtain ⟨p, hp, h'⟩ := h.at
  obtain ⟨c0, c1, c2, c3, f0, f1, f2, f3⟩ := h'.facts
  have H := Lib.hid h'
  have HM := Lib.hid h
  have HB := Lib.hid h'.1
  have HP := Lib.hid hp
  clear h h' hp
  go_enter Tryz.func145, Tryz.ntmps145
  go_wp2_with fail
  refine (mc_mark0 B b 5 sz mn bs 13 w HM.out).mono ?_
  rintro e w1 ⟨rfl, h3, hb⟩
  go_wp2_with fail
  go_ret
  exact ⟨rfl, h3, hb⟩

set_option maxHeartbeats 1000000 in
theorem take_5_lf_no (B b : Nat) (sz mn : Int) (c : UInt8) (bs : List Value) (w : World) (h : IsM B b 5 sz mn 1 bs w) (hc : ((c.toNat : Int) == 10) = false) :
    Calls Tryz.prog 145 #[.pointer (some ⟨b, 0, none⟩), .int .u8 c.toNat] w fun e w' => e = .returned (.int .i64 160) ∧ Below B w w' := by
  obtain ⟨p, hp, h'⟩ := h.at
  obtain ⟨c0, c1, c2, c3, f0, f1, f2, f3⟩ := h'.facts
  have H := Lib.hid h'
  have HM := Lib.hid h
  have HB := Lib.hid h'.1
  have HP := Lib.hid hp
  clear h h' hp
  go_enter Tryz.func145, Tryz.ntmps145
  go_wp2_with fail
  refine (mc_mark1 B b 5 sz mn bs c w HM.out).mono ?_
  rintro e w1 ⟨rfl, h3, hb⟩
  obtain ⟨p1, hp1, h1'⟩ := h3.at
  obtain ⟨d0, d1, d2, d3, g0, g1, g2, g3⟩ := h1'.facts
  have H3 := Lib.hid h3
  clear h3 h1' hp1
  go_wp2_with fail
  refine (mc_next B b 5 sz mn 2 6 bs w1 H3.out).mono ?_
  rintro e w2 ⟨rfl, h4, hb2⟩
  go_wp2_with fail
  go_ret
  exact ⟨rfl, hb.trans hb2⟩

set_option maxHeartbeats 1000000 in
theorem take_5_lf (B b : Nat) (sz mn : Int) (bs : List Value) (w : World) (h : IsM B b 5 sz mn 1 bs w) :
    Calls Tryz.prog 145 #[.pointer (some ⟨b, 0, none⟩), .int .u8 10] w fun e w' => e = .returned (.int .i64 0) ∧ IsM B b 6 sz mn 0 bs w' ∧ Below B w w' := by
  obtain ⟨p, hp, h'⟩ := h.at
  obtain ⟨c0, c1, c2, c3, f0, f1, f2, f3⟩ := h'.facts
  have H := Lib.hid h'
  have HM := Lib.hid h
  have HB := Lib.hid h'.1
  have HP := Lib.hid hp
  clear h h' hp
  go_enter Tryz.func145, Tryz.ntmps145
  go_wp2_with fail
  refine (mc_mark1 B b 5 sz mn bs 10 w HM.out).mono ?_
  rintro e w1 ⟨rfl, h3, hb⟩
  obtain ⟨p1, hp1, h1'⟩ := h3.at
  obtain ⟨d0, d1, d2, d3, g0, g1, g2, g3⟩ := h1'.facts
  have H3 := Lib.hid h3
  clear h3 h1' hp1
  go_wp2_with fail
  refine (mc_next B b 5 sz mn 2 6 bs w1 H3.out).mono ?_
  rintro e w2 ⟨rfl, h4, hb2⟩
  go_wp2_with fail
  go_ret
  exact ⟨rfl, h4, hb.trans hb2⟩

set_option maxHeartbeats 1000000 in
theorem take_6_cr_no (B b : Nat) (sz mn : Int) (c : UInt8) (bs : List Value) (w : World) (h : IsM B b 6 sz mn 0 bs w) (hc : ((c.toNat : Int) == 13) = false) :
    Calls Tryz.prog 145 #[.pointer (some ⟨b, 0, none⟩), .int .u8 c.toNat] w fun e w' => e = .returned (.int .i64 160) ∧ Below B w w' := by
  obtain ⟨p, hp, h'⟩ := h.at
  obtain ⟨c0, c1, c2, c3, f0, f1, f2, f3⟩ := h'.facts
  have H := Lib.hid h'
  have HM := Lib.hid h
  have HB := Lib.hid h'.1
  have HP := Lib.hid hp
  clear h h' hp
  go_enter Tryz.func145, Tryz.ntmps145
  go_wp2_with fail
  refine (mc_mark0 B b 6 sz mn bs c w HM.out).mono ?_
  rintro e w1 ⟨rfl, h3, hb⟩
  go_wp2_with fail
  go_ret
  exact ⟨rfl, hb⟩

set_option maxHeartbeats 1000000 in
theorem take_6_cr (B b : Nat) (sz mn : Int) (bs : List Value) (w : World) (h : IsM B b 6 sz mn 0 bs w) :
    Calls Tryz.prog 145 #[.pointer (some ⟨b, 0, none⟩), .int .u8 13] w fun e w' => e = .returned (.int .i64 0) ∧ IsM B b 6 sz mn 1 bs w' ∧ Below B w w' := by
  obtain ⟨p, hp, h'⟩ := h.at
  obtain ⟨c0, c1, c2, c3, f0, f1, f2, f3⟩ := h'.facts
  have H := Lib.hid h'
  have HM := Lib.hid h
  have HB := Lib.hid h'.1
  have HP := Lib.hid hp
  clear h h' hp
  go_enter Tryz.func145, Tryz.ntmps145
  go_wp2_with fail
  refine (mc_mark0 B b 6 sz mn bs 13 w HM.out).mono ?_
  rintro e w1 ⟨rfl, h3, hb⟩
  go_wp2_with fail
  go_ret
  exact ⟨rfl, h3, hb⟩

set_option maxHeartbeats 1000000 in
theorem take_6_lf_no (B b : Nat) (sz mn : Int) (c : UInt8) (bs : List Value) (w : World) (h : IsM B b 6 sz mn 1 bs w) (hc : ((c.toNat : Int) == 10) = false) :
    Calls Tryz.prog 145 #[.pointer (some ⟨b, 0, none⟩), .int .u8 c.toNat] w fun e w' => e = .returned (.int .i64 160) ∧ Below B w w' := by
  obtain ⟨p, hp, h'⟩ := h.at
  obtain ⟨c0, c1, c2, c3, f0, f1, f2, f3⟩ := h'.facts
  have H := Lib.hid h'
  have HM := Lib.hid h
  have HB := Lib.hid h'.1
  have HP := Lib.hid hp
  clear h h' hp
  go_enter Tryz.func145, Tryz.ntmps145
  go_wp2_with fail
  refine (mc_mark1 B b 6 sz mn bs c w HM.out).mono ?_
  rintro e w1 ⟨rfl, h3, hb⟩
  obtain ⟨p1, hp1, h1'⟩ := h3.at
  obtain ⟨d0, d1, d2, d3, g0, g1, g2, g3⟩ := h1'.facts
  have H3 := Lib.hid h3
  clear h3 h1' hp1
  go_wp2_with fail
  refine (mc_next B b 6 sz mn 2 7 bs w1 H3.out).mono ?_
  rintro e w2 ⟨rfl, h4, hb2⟩
  go_wp2_with fail
  go_ret
  exact ⟨rfl, hb.trans hb2⟩

set_option maxHeartbeats 1000000 in
theorem take_6_lf (B b : Nat) (sz mn : Int) (bs : List Value) (w : World) (h : IsM B b 6 sz mn 1 bs w) :
    Calls Tryz.prog 145 #[.pointer (some ⟨b, 0, none⟩), .int .u8 10] w fun e w' => e = .returned (.int .i64 0) ∧ IsM B b 7 sz mn 0 bs w' ∧ Below B w w' := by
  obtain ⟨p, hp, h'⟩ := h.at
  obtain ⟨c0, c1, c2, c3, f0, f1, f2, f3⟩ := h'.facts
  have H := Lib.hid h'
  have HM := Lib.hid h
  have HB := Lib.hid h'.1
  have HP := Lib.hid hp
  clear h h' hp
  go_enter Tryz.func145, Tryz.ntmps145
  go_wp2_with fail
  refine (mc_mark1 B b 6 sz mn bs 10 w HM.out).mono ?_
  rintro e w1 ⟨rfl, h3, hb⟩
  obtain ⟨p1, hp1, h1'⟩ := h3.at
  obtain ⟨d0, d1, d2, d3, g0, g1, g2, g3⟩ := h1'.facts
  have H3 := Lib.hid h3
  clear h3 h1' hp1
  go_wp2_with fail
  refine (mc_next B b 6 sz mn 2 7 bs w1 H3.out).mono ?_
  rintro e w2 ⟨rfl, h4, hb2⟩
  go_wp2_with fail
  go_ret
  exact ⟨rfl, h4, hb.trans hb2⟩
end Go.Proofs.YthgmgmbjjjnhnaaGreatDoor
namespace Go.Proofs.YthgmgmbjjjnhnaaGreatDoor
open Go.RowKit

set_option maxHeartbeats 1000000 in
theorem take_first_bad (B b : Nat) (sz mn sn d : Int) (c : UInt8) (bs : List Value) (w : World) (h : IsM B b 0 sz mn sn bs w) (h48 : ((c.toNat : Int) == 48) = false) (hd : dgN c = d) (h0 : d < 0) :
    Calls Tryz.prog 145 #[.pointer (some ⟨b, 0, none⟩), .int .u8 c.toNat] w fun e w' => e = .returned (.int .i64 160) ∧ Below B w w' := by
  obtain ⟨p, hp, h'⟩ := h.at
  obtain ⟨c0, c1, c2, c3, f0, f1, f2, f3⟩ := h'.facts
  have D0 := fun w => ch_dg c w
  rw [hd] at D0
  have D := Lib.hid D0
  clear hd D0
  have H := Lib.hid h'
  have HM := Lib.hid h
  have HB := Lib.hid h'.1
  have HP := Lib.hid hp
  clear h h' hp
  go_enter Tryz.func145, Tryz.ntmps145
  go_wp2_with fail
  refine (mc_next B b 0 sz mn sn 1 bs w HM.out).mono ?_
  rintro e w1 ⟨rfl, h3, hb⟩
  obtain ⟨p1, hp1, h1'⟩ := h3.at
  obtain ⟨d0, d1, d2, d3, g0, g1, g2, g3⟩ := h1'.facts
  have H3 := Lib.hid h3
  have H4 := Lib.hid h1'
  have HQ := Lib.hid hp1
  clear h3 h1' hp1
  go_wp2_with fail
  refine (D.out _).mono ?_
  rintro e w2 ⟨rfl, rfl⟩
  go_wp2_with fail
  all_goals go_ret
  all_goals exact ⟨rfl, (hb.setCell (p := ⟨b, 1, none⟩) HB.out _).setCell (p := ⟨b, 2, none⟩) HB.out _⟩

set_option maxHeartbeats 1000000 in
theorem take_first (B b : Nat) (sz mn sn d : Int) (c : UInt8) (bs : List Value) (w : World) (h : IsM B b 0 sz mn sn bs w) (h48 : ((c.toNat : Int) == 48) = false) (hd : dgN c = d) (h0 : 0 ≤ d) (h1 : d ≤ 15) :
    Calls Tryz.prog 145 #[.pointer (some ⟨b, 0, none⟩), .int .u8 c.toNat] w fun e w' => e = .returned (.int .i64 0) ∧ IsM B b 1 d 1 0 bs w' ∧ Below B w w' := by
  obtain ⟨p, hp, h'⟩ := h.at
  obtain ⟨c0, c1, c2, c3, f0, f1, f2, f3⟩ := h'.facts
  have D0 := fun w => ch_dg c w
  rw [hd] at D0
  have D := Lib.hid D0
  clear hd D0
  have H := Lib.hid h'
  have HM := Lib.hid h
  have HB := Lib.hid h'.1
  have HP := Lib.hid hp
  clear h h' hp
  go_enter Tryz.func145, Tryz.ntmps145
  go_wp2_with fail
  refine (mc_next B b 0 sz mn sn 1 bs w HM.out).mono ?_
  rintro e w1 ⟨rfl, h3, hb⟩
  obtain ⟨p1, hp1, h1'⟩ := h3.at
  obtain ⟨d0, d1, d2, d3, g0, g1, g2, g3⟩ := h1'.facts
  have H3 := Lib.hid h3
  have H4 := Lib.hid h1'
  have HQ := Lib.hid hp1
  clear h3 h1' hp1
  go_wp2_with fail
  refine (D.out _).mono ?_
  rintro e w2 ⟨rfl, hw2⟩
  have H5 := Lib.hid ((H4.out.set 1 0 1 0 mn 0 rfl (by omega)).set 2 0 1 0 0 0 rfl (by omega))
  rw [← hw2] at H5
  have hB2 : Below B w1 w2 := by rw [hw2]; exact ((Below.refl B w1).setCell (p := ⟨b, 1, none⟩) HB.out _).setCell (p := ⟨b, 2, none⟩) HB.out _
  clear hw2
  obtain ⟨k0, k1, k2, k3, l0, l1, l2, l3⟩ := H5.out.facts
  have e2 : IntKind.i64.wrap d = d := IntWalk.i64_in _ (by omega)
  go_wp2_with fail
  go_region
  all_goals go_wp2_with fail
  all_goals go_ret
  all_goals exact ⟨rfl, IsM.of HQ.out (((show MAt B b 1 0 0 0 p1 bs w2.drew from H5.out).set 1 _ 1 d 0 0 rfl (by omega)).set 2 _ 1 d 1 0 rfl (by omega)), ((((hb.trans hB2)).drew).setCell (p := ⟨b, 1, none⟩) HB.out _).setCell (p := ⟨b, 2, none⟩) HB.out _⟩

set_option maxHeartbeats 1000000 in
theorem take_3_cr_no (B b : Nat) (mn sn : Int) (c : UInt8) (bs : List Value) (w : World) (h : IsM B b 3 0 mn sn bs w) (hc : ((c.toNat : Int) == 13) = false) :
    Calls Tryz.prog 145 #[.pointer (some ⟨b, 0, none⟩), .int .u8 c.toNat] w fun e w' => e = .returned (.int .i64 160) ∧ Below B w w' := by
  obtain ⟨p, hp, h'⟩ := h.at
  obtain ⟨c0, c1, c2, c3, f0, f1, f2, f3⟩ := h'.facts
  have H := Lib.hid h'
  have HM := Lib.hid h
  have HB := Lib.hid h'.1
  have HP := Lib.hid hp
  clear h h' hp
  go_enter Tryz.func145, Tryz.ntmps145
  go_wp2_with fail
  refine (mc_next B b 3 0 mn sn 4 bs w HM.out).mono ?_
  rintro e w1 ⟨rfl, h3, hb⟩
  obtain ⟨p1, hp1, h1'⟩ := h3.at
  obtain ⟨d0, d1, d2, d3, g0, g1, g2, g3⟩ := h1'.facts
  have H3 := Lib.hid h3
  have H4 := Lib.hid h1'
  have HQ := Lib.hid hp1
  clear h3 h1' hp1
  go_wp2_with fail
  refine (mc_mark0 B b 4 0 mn bs c w1 H3.out).mono ?_
  rintro e w2 ⟨rfl, h4, hb2⟩
  go_wp2_with fail
  go_ret
  exact ⟨rfl, hb.trans hb2⟩

set_option maxHeartbeats 1000000 in
theorem take_3_cr (B b : Nat) (mn sn : Int) (bs : List Value) (w : World) (h : IsM B b 3 0 mn sn bs w) :
    Calls Tryz.prog 145 #[.pointer (some ⟨b, 0, none⟩), .int .u8 13] w fun e w' => e = .returned (.int .i64 0) ∧ IsM B b 4 0 mn 1 bs w' ∧ Below B w w' := by
  obtain ⟨p, hp, h'⟩ := h.at
  obtain ⟨c0, c1, c2, c3, f0, f1, f2, f3⟩ := h'.facts
  have H := Lib.hid h'
  have HM := Lib.hid h
  have HB := Lib.hid h'.1
  have HP := Lib.hid hp
  clear h h' hp
  go_enter Tryz.func145, Tryz.ntmps145
  go_wp2_with fail
  refine (mc_next B b 3 0 mn sn 4 bs w HM.out).mono ?_
  rintro e w1 ⟨rfl, h3, hb⟩
  obtain ⟨p1, hp1, h1'⟩ := h3.at
  obtain ⟨d0, d1, d2, d3, g0, g1, g2, g3⟩ := h1'.facts
  have H3 := Lib.hid h3
  have H4 := Lib.hid h1'
  have HQ := Lib.hid hp1
  clear h3 h1' hp1
  go_wp2_with fail
  refine (mc_mark0 B b 4 0 mn bs 13 w1 H3.out).mono ?_
  rintro e w2 ⟨rfl, h4, hb2⟩
  go_wp2_with fail
  go_ret
  exact ⟨rfl, h4, hb.trans hb2⟩

set_option maxHeartbeats 1000000 in
theorem take_3_data (B b : Nat) (sz mn sn : Int) (c : UInt8) (bs : List Value) (w : World) (h : IsM B b 3 sz mn sn bs w) (h0 : 0 < sz) (h1 : sz ≤ 100000) (hl : bs.length ≤ 9000) (hBw : B ≤ w.heap.size) :
    Calls Tryz.prog 145 #[.pointer (some ⟨b, 0, none⟩), .int .u8 c.toNat] w fun e w' => e = .returned (.int .i64 0) ∧ IsM B b 3 (sz - 1) mn sn (bs ++ [.int .u8 c.toNat]) w' ∧ Below B w w' := by
  obtain ⟨p, hp, h'⟩ := h.at
  obtain ⟨c0, c1, c2, c3, f0, f1, f2, f3⟩ := h'.facts
  have H := Lib.hid h'
  have HM := Lib.hid h
  have HB := Lib.hid h'.1
  have HP := Lib.hid hp
  clear h h' hp
  go_enter Tryz.func145, Tryz.ntmps145
  go_wp2_with fail
  refine (mc_WriteByte B b 3 sz mn sn bs c.toNat w HM.out (by omega) hBw).mono ?_
  rintro e w1 ⟨rfl, h3, hb⟩
  obtain ⟨d0, d1, d2, d3, g0, g1, g2, g3⟩ := h3.facts
  have H3 := Lib.hid h3
  clear h3
  go_wp2_with fail
  go_ret
  exact ⟨rfl, .inr (H3.out.set 1 _ 3 (sz - 1) mn sn rfl (by omega)), hb.setCell (p := ⟨b, 1, none⟩) HB.out _⟩
end Go.Proofs.YthgmgmbjjjnhnaaGreatDoor
namespace Go.Proofs.YthgmgmbjjjnhnaaGreatDoor
open Go.RowKit

/-- The machine lies in block b. -/
def CM.In (B b : Nat) (m : CM) (w : World) : Prop := IsM B b m.st m.sz m.mn m.sn (Lib.byteCells m.body) w
/-- What take's contract says. -/
def TakeIs (B b : Nat) (m : CM) (c : UInt8) (w : World) : Prop :=
  Calls Tryz.prog 145 #[.pointer (some ⟨b, 0, none⟩), .int .u8 c.toNat] w fun e w' => e = .returned (.int .i64 (m.take c).2) ∧ ((m.take c).2 = 0 → CM.In B b (m.take c).1 w') ∧ Below B w w'

theorem takes_bad {B b : Nat} {m : CM} {c : UInt8} {w : World} {r : CM × Int} (h : m.take c = r) (h0 : r.2 ≠ 0)
    (k : Calls Tryz.prog 145 #[.pointer (some ⟨b, 0, none⟩), .int .u8 c.toNat] w fun e w' => e = .returned (.int .i64 r.2) ∧ Below B w w') : TakeIs B b m c w := by
  unfold TakeIs
  rw [h]
  exact k.mono fun e w' ⟨h1, h2⟩ => ⟨h1, fun h3 => absurd h3 h0, h2⟩
theorem takes_ok {B b : Nat} {m : CM} {c : UInt8} {w : World} {r : CM × Int} (h : m.take c = r) (h0 : r.2 = 0)
    (k : Calls Tryz.prog 145 #[.pointer (some ⟨b, 0, none⟩), .int .u8 c.toNat] w fun e w' => e = .returned (.int .i64 0) ∧ CM.In B b r.1 w' ∧ Below B w w') : TakeIs B b m c w := by
  unfold TakeIs
  rw [h, h0]
  exact k.mono fun e w' ⟨h1, h2, h3⟩ => ⟨h1, fun _ => h2, h3⟩
theorem u8_ne {c : UInt8} {n : Nat} (hn : n < 256) (h : c ≠ UInt8.ofNat n) : ((c.toNat : Int) == (n : Int)) = false := by
  apply beq_false_of_ne
  intro e
  have e' : c.toNat = n := by omega
  apply h
  apply UInt8.toNat_inj.1
  rw [UInt8.toNat_ofNat', e']
  omega
theorem byteCells_snoc (l : List UInt8) (c : UInt8) : Lib.byteCells (l ++ [c]) = Lib.byteCells l ++ [.int .u8 c.toNat] := by simp [Lib.byteCells]

theorem mc_take (B b : Nat) (m : CM) (hm : m.Ok) (h7 : m.st ≤ 6) (c : UInt8) (w : World) (h : CM.In B b m w) (hBw : B ≤ w.heap.size) : TakeIs B b m c w := by
  obtain ⟨st, sz, mn, sn, body⟩ := m
  have o1 := hm.sn
  have o2 := hm.mn
  have o3 := hm.sz
  have o4 := hm.body
  have o5 := hm.data
  have o6 := hm.dig
  clear hm
  simp only at o1 o2 o3 o4 o5 o6 h7
  have o7 : sz < 65536 := by
    have : 16 ^ mn ≤ 16 ^ 4 := Nat.pow_le_pow_right (by omega) o2
    omega
  have hl : (Lib.byteCells body).length = body.length := Lib.byteCells_length _
  have hx := hexN_le c
  unfold CM.In at h
  simp only at h
  match st, h7 with
  | 0, _ =>
    by_cases h48 : c = 48
    · subst h48
      exact takes_ok (r := (⟨5, sz, mn, 0, body⟩, 0)) (by simp [CM.take]) rfl (take_first0 B b sz mn sn _ w h)
    · have hc := u8_ne (n := 48) (by omega) h48
      by_cases hd : 0 ≤ hexN c
      · refine takes_ok (r := (⟨1, (hexN c).toNat, 1, 0, body⟩, 0)) (by simp [CM.take, CM.digits, h48, hd]) rfl ?_
        have := take_first B b sz mn sn (hexN c) c _ w h hc (dg_hex c) hd hx.2
        refine this.mono fun e w' ⟨h1, h2, h3⟩ => ⟨h1, ?_, h3⟩
        show IsM B b 1 ((hexN c).toNat : Nat) _ _ _ _
        rw [Int.toNat_of_nonneg hd]
        exact h2
      · refine takes_bad (r := (⟨1, 0, 0, 0, body⟩, 160)) (by simp [CM.take, CM.digits, h48, hd]) (by simp) ?_
        exact take_first_bad B b sz mn sn (hexN c) c _ w h hc (dg_hex c) (by omega)
  | 1, _ =>
    have o8 := o6 rfl
    by_cases hd : 0 ≤ hexN c
    · by_cases hf : mn < 4
      · refine takes_ok (r := (⟨1, 16 * sz + (hexN c).toNat, mn + 1, sn, body⟩, 0)) (by simp [CM.take, CM.digits, hd, hf]) rfl ?_
        have := take_digit B b sz mn sn (hexN c) c _ w h (dg_hex c) hd hx.2 (by omega) (by omega) (by omega) (by omega)
        refine this.mono fun e w' ⟨h1, h2, h3⟩ => ⟨h1, ?_, h3⟩
        show IsM B b 1 ((16 * sz + (hexN c).toNat : Nat) : Int) ((mn + 1 : Nat) : Int) _ _ _
        rw [show ((16 * sz + (hexN c).toNat : Nat) : Int) = 16 * (sz : Int) + hexN c by omega, show ((mn + 1 : Nat) : Int) = (mn : Int) + 1 by omega]
        exact h2
      · have hne : c ≠ 13 := by
          intro e
          subst e
          exact absurd hd (by decide)
        exact takes_bad (r := (⟨1, sz, mn, sn, body⟩, 160)) (by simp [CM.take, CM.digits, hd, hf, hne]) (by simp) (take_bad_full B b sz mn sn (hexN c) c _ w h (dg_hex c) hd (by omega) (u8_ne (n := 13) (by omega) hne))
    · by_cases hc : c = 13
      · subst hc
        exact takes_ok (r := (⟨2, sz, mn, 0, body⟩, 0)) (by simp [CM.take, CM.digits, hd]; omega) rfl (take_line_neg B b sz mn sn _ _ w h (dg_hex 13) (by omega) (by apply beq_false_of_ne; omega))
      · exact takes_bad (r := (⟨1, sz, mn, sn, body⟩, 160)) (by simp [CM.take, CM.digits, hd, hc]) (by simp) (take_bad_neg B b sz mn sn _ c _ w h (dg_hex c) (by omega) (u8_ne (n := 13) (by omega) hc))
  | 2, _ =>
    by_cases hc : c = 10
    · subst hc
      by_cases ht : 8192 < body.length + sz
      · exact takes_bad (r := (⟨2, sz, mn, sn, body⟩, 4)) (by simp [CM.take, CM.told, ht]) (by simp) (take_lf_many B b sz mn sn _ w h (by omega) (by omega) (by omega) (by omega))
      · exact takes_ok (r := (⟨3, sz, mn, 0, body⟩, 0)) (by simp [CM.take, CM.told, ht]) rfl (take_lf_ok B b sz mn sn _ w h (by omega) (by omega) (by show ((Lib.byteCells body).length : Int) + sz ≤ 8192; omega))
    · exact takes_bad (r := (⟨2, sz, mn, sn, body⟩, 160)) (by simp [CM.take, hc]) (by simp) (take_lf_no B b sz mn sn c _ w h (u8_ne (n := 10) (by omega) hc))
  | 3, _ =>
    by_cases hs : 0 < sz
    · refine takes_ok (r := (⟨3, sz - 1, mn, sn, body ++ [c]⟩, 0)) (by simp [CM.take, hs]) rfl ?_
      have := take_3_data B b sz mn sn c _ w h (by omega) (by omega) (by omega) hBw
      refine this.mono fun e w' ⟨h1, h2, h3⟩ => ⟨h1, ?_, h3⟩
      show IsM B b 3 ((sz - 1 : Nat) : Int) _ _ (Lib.byteCells (body ++ [c])) _
      rw [byteCells_snoc, show ((sz - 1 : Nat) : Int) = (sz : Int) - 1 by omega]
      exact h2
    · obtain rfl : sz = 0 := by omega
      by_cases hc : c = 13
      · subst hc
        exact takes_ok (r := (⟨4, 0, mn, 1, body⟩, 0)) (by simp [CM.take, CM.mark]) rfl (take_3_cr B b mn sn _ w h)
      · exact takes_bad (r := (⟨4, 0, mn, 1, body⟩, 160)) (by simp [CM.take, CM.mark, hc]) (by simp) (take_3_cr_no B b mn sn c _ w h (u8_ne (n := 13) (by omega) hc))
  | 4, _ =>
    match sn, o1 with
    | 0, _ =>
      by_cases hc : c = 13
      · subst hc
        exact takes_ok (r := (⟨4, sz, mn, 1, body⟩, 0)) (by simp [CM.take, CM.mark]) rfl (take_4_cr B b sz mn _ w h)
      · exact takes_bad (r := (⟨4, sz, mn, 1, body⟩, 160)) (by simp [CM.take, CM.mark, hc]) (by simp) (take_4_cr_no B b sz mn c _ w h (u8_ne (n := 13) (by omega) hc))
    | 1, _ =>
      by_cases hc : c = 10
      · subst hc
        exact takes_ok (r := (⟨0, sz, mn, 0, body⟩, 0)) (by simp [CM.take, CM.mark]) rfl (take_4_lf B b sz mn _ w h)
      · exact takes_bad (r := (⟨0, sz, mn, 0, body⟩, 160)) (by simp [CM.take, CM.mark, hc]) (by simp) (take_4_lf_no B b sz mn c _ w h (u8_ne (n := 10) (by omega) hc))
  | 5, _ =>
    match sn, o1 with
    | 0, _ =>
      by_cases hc : c = 13
      · subst hc
        exact takes_ok (r := (⟨5, sz, mn, 1, body⟩, 0)) (by simp [CM.take, CM.mark]) rfl (take_5_cr B b sz mn _ w h)
      · exact takes_bad (r := (⟨5, sz, mn, 1, body⟩, 160)) (by simp [CM.take, CM.mark, hc]) (by simp) (take_5_cr_no B b sz mn c _ w h (u8_ne (n := 13) (by omega) hc))
    | 1, _ =>
      by_cases hc : c = 10
      · subst hc
        exact takes_ok (r := (⟨6, sz, mn, 0, body⟩, 0)) (by simp [CM.take, CM.mark]) rfl (take_5_lf B b sz mn _ w h)
      · exact takes_bad (r := (⟨6, sz, mn, 0, body⟩, 160)) (by simp [CM.take, CM.mark, hc]) (by simp) (take_5_lf_no B b sz mn c _ w h (u8_ne (n := 10) (by omega) hc))
  | 6, _ =>
    match sn, o1 with
    | 0, _ =>
      by_cases hc : c = 13
      · subst hc
        exact takes_ok (r := (⟨6, sz, mn, 1, body⟩, 0)) (by simp [CM.take, CM.mark]) rfl (take_6_cr B b sz mn _ w h)
      · exact takes_bad (r := (⟨6, sz, mn, 1, body⟩, 160)) (by simp [CM.take, CM.mark, hc]) (by simp) (take_6_cr_no B b sz mn c _ w h (u8_ne (n := 13) (by omega) hc))
    | 1, _ =>
      by_cases hc : c = 10
      · subst hc
        exact takes_ok (r := (⟨7, sz, mn, 0, body⟩, 0)) (by simp [CM.take, CM.mark]) rfl (take_6_lf B b sz mn _ w h)
      · exact takes_bad (r := (⟨7, sz, mn, 0, body⟩, 160)) (by simp [CM.take, CM.mark, hc]) (by simp) (take_6_lf_no B b sz mn c _ w h (u8_ne (n := 10) (by omega) hc))
end Go.Proofs.YthgmgmbjjjnhnaaGreatDoor
namespace Go.Proofs.YthgmgmbjjjnhnaaGreatDoor
open Go.RowKit

theorem digits_keeps {m : CM} (hm : m.Ok) (h1 : m.st = 1) {c : UInt8} (h : (m.digits c).2 = 0) : (m.digits c).1.Ok := by
  obtain ⟨st, sz, mn, sn, body⟩ := m
  obtain ⟨o1, o2, o3, o4, o5, o6, o7⟩ := hm
  have hx := hexN_le c
  simp only at o1 o2 o3 o4 o5 o6 o7 h1
  unfold CM.digits at h ⊢
  simp only at h ⊢
  split at h
  · rename_i hd
    rw [if_pos hd]
    have h16 : 16 ^ (mn + 1) = 16 ^ mn * 16 := Nat.pow_succ 16 mn
    exact ⟨by simp; omega, by simp; omega, by simp; omega, by show 16 * sz + (hexN c).toNat < 16 ^ (mn + 1); omega, by simp; omega, by simp; omega, by simp⟩
  · rename_i hd
    rw [if_neg hd]
    split at h
    · simp at h
    · rename_i hc
      rw [if_neg hc]
      exact ⟨by simp, by simp, by simp; omega, by simpa using o4, by simp; omega, by simp, by simp⟩
theorem mark_keeps {m : CM} (hm : m.Ok) (h3 : m.st ≠ 3) (h1 : m.st ≠ 1) {z : Nat} (hz : z ≤ 7) (hz3 : z ≠ 3) (hz1 : z ≠ 1) {c : UInt8} (h : (m.mark z c).2 = 0) : (m.mark z c).1.Ok := by
  obtain ⟨st, sz, mn, sn, body⟩ := m
  obtain ⟨o1, o2, o3, o4, o5, o6, o7⟩ := hm
  simp only at o1 o2 o3 o4 o5 o6 o7 h1 h3
  unfold CM.mark at h ⊢
  simp only at h ⊢
  split at h
  · rename_i hd
    rw [if_pos hd]
    exact ⟨by simp; omega, by simp, by simp; omega, by simpa using o4, by simp; omega, by simp; omega, by simp; omega⟩
  · rename_i hd
    rw [if_neg hd]
    exact ⟨by simp; omega, by simp, by simp; omega, by simpa using o4, by simp; omega, by simp; omega, by simp; omega⟩
theorem take_keeps {m : CM} (hm : m.Ok) {c : UInt8} (h : (m.take c).2 = 0) : (m.take c).1.Ok := by
  obtain ⟨st, sz, mn, sn, body⟩ := m
  have hm' := hm
  obtain ⟨o1, o2, o3, o4, o5, o6, o7⟩ := hm'
  simp only at o1 o2 o3 o4 o5 o6 o7
  match st, o1 with
  | 0, _ =>
    simp only [CM.take] at h ⊢
    split at h
    · rename_i h48
      rw [if_pos h48]
      exact ⟨by simp, by simp, by simp; omega, by simpa using o4, by simp; omega, by simp, by simp⟩
    · rename_i h48
      rw [if_neg h48]
      have hx := hexN_le c
      unfold CM.digits at h ⊢
      simp only at h ⊢
      split at h
      · rename_i hd
        rw [if_pos hd]
        exact ⟨by simp, by simp, by simp, by show 16 * 0 + (hexN c).toNat < 16 ^ (0 + 1); omega, by simp; omega, by simp, by simp⟩
      · rename_i hd
        rw [if_neg hd]
        split at h
        · simp at h
        · rename_i hc
          simp at hc
  | 1, _ => exact digits_keeps hm rfl h
  | 2, _ =>
    simp only [CM.take] at h ⊢
    split at h
    · simp at h
    · rename_i hc
      rw [if_neg hc]
      unfold CM.told at h ⊢
      simp only at h ⊢
      split at h
      · simp at h
      · rename_i ht
        rw [if_neg ht]
        exact ⟨by simp, by simp, by simp; omega, by simpa using o4, by simp; omega, by simp; omega, by simp⟩
  | 3, _ =>
    have o8 := o6 rfl
    simp only [CM.take] at h ⊢
    split at h
    · rename_i hs
      rw [if_pos hs]
      exact ⟨by simp, by simp; omega, by simp; omega, by show sz - 1 < 16 ^ mn; omega, by simp; omega, by simp; omega, by simp⟩
    · rename_i hs
      rw [if_neg hs]
      exact mark_keeps (m := ⟨4, sz, mn, 0, body⟩) ⟨by simp, by simp, by simp; omega, by simpa using o4, by simp; omega, by simp, by simp⟩ (by simp) (by simp) (by omega) (by omega) (by omega) h
  | 4, _ => exact mark_keeps hm (by simp) (by simp) (by omega) (by omega) (by omega) h
  | 5, _ => exact mark_keeps hm (by simp) (by simp) (by omega) (by omega) (by omega) h
  | 6, _ => exact mark_keeps hm (by simp) (by simp) (by omega) (by omega) (by omega) h
  | 7, _ => exact hm

/-- The run of the machine over bytes: the first error; or how it stands when it is whole, with how many bytes it took; or that it waits. -/
inductive CR where
  | err (e : Int)
  | whole (m : CM) (n : Nat)
  | waits (m : CM)
def CM.run (m : CM) (n : Nat) : List UInt8 → CR
  | [] => .waits m
  | c :: l => if (m.take c).2 ≠ 0 then .err (m.take c).2 else if (m.take c).1.st = 7 then .whole (m.take c).1 (n + 1) else CM.run (m.take c).1 (n + 1) l
def CM.zero : CM := ⟨0, 0, 0, 0, []⟩
/-- What chunk.Decode answers. -/
def dcOf (l : List UInt8) : List UInt8 × Nat × Bool × Int :=
  match CM.zero.run 0 l with
  | .err e => ([], 0, false, e)
  | .whole m n => (m.body, n, true, 0)
  | .waits _ => ([], 0, false, 0)
theorem zero_ok : CM.zero.Ok := ⟨by simp [CM.zero], by simp [CM.zero], by simp [CM.zero], by simp [CM.zero], by simp [CM.zero], by simp [CM.zero], by simp [CM.zero]⟩
/-- More behind it counts for nothing, once it is done or has an error. -/
theorem run_more (l r : List UInt8) : ∀ (m : CM) (n : Nat), (∀ k, m.run n l ≠ .waits k) → m.run n (l ++ r) = m.run n l := by
  induction l with
  | nil => intro m n h; exact absurd rfl (h m)
  | cons c l ih =>
    intro m n h
    simp only [List.cons_append, CM.run] at h ⊢
    split
    · rfl
    · split
      · rfl
      · rename_i h1 h2
        refine ih _ _ fun k hk => h k ?_
        rw [if_neg h1, if_neg h2]
        exact hk
end Go.Proofs.YthgmgmbjjjnhnaaGreatDoor
namespace Go.Proofs.YthgmgmbjjjnhnaaGreatDoor
open Go.RowKit

theorem fresh_mach (w : World) : CM.In w.heap.size w.heap.size CM.zero (w.alloc (.cells #[.int .i64 0, .int .i64 0, .int .i64 0, .int .i64 0, .pointer none, .slice none 0 0] 211)) :=
  .inl ⟨Nat.le_refl _, .slice none 0 0, heap_alloc_new w _, World.ownsRow_nil _ _ _ _, by simp [Value.ownBlock], fun _ => rfl⟩
set_option maxHeartbeats 2000000 in
theorem ch_Decode (s : ByteArray) (w : World) (hs : s.size ≤ 9223372036854775807) :
    Calls Tryz.prog 103 #[.string s] w (Ret w (.tuple #[.string ⟨(dcOf s.data.toList).1.toArray⟩, .int .i64 (dcOf s.data.toList).2.1, .bool (dcOf s.data.toList).2.2.1, .int .i64 (dcOf s.data.toList).2.2.2])) := by
  go_enter Tryz.func103, Tryz.ntmps103
  go_wp2_with fail
  go_step3
  go_wp2_with fail
  go_step3
  go_wp2_with fail
  go_loopw [3, 13] (fun u i wr => ∃ (k : Nat) (m : CM), k ≤ s.size ∧ i = .int .i64 k ∧ u = .int .i64 k ∧ CM.zero.run 0 s.data.toList = m.run k (s.data.toList.drop k) ∧ m.Ok ∧ m.st ≤ 6 ∧ m.In w.heap.size w.heap.size wr ∧ Below w.heap.size w wr) (fun _ i _ => s.size - (intOf i).toNat)
  case atStart => exact ⟨0, CM.zero, Nat.zero_le _, rfl, rfl, by simp, zero_ok, by simp [CM.zero], fresh_mach w, by go_grown⟩
  case round =>
    obtain ⟨k, m, hk, rfl, rfl, hrun, hok, h6, hin, hb⟩ := hrel
    have IN := Lib.hid hin
    obtain ⟨q, hq, hin'⟩ := IsM.at hin
    obtain ⟨c0, c1, c2, c3, f0, f1, f2, f3⟩ := hin'.facts
    clear hin hin' hq
    by_cases hlt : k < s.size
    · have hc : s.data.toList.drop k = s[k] :: s.data.toList.drop (k + 1) := by
        rw [List.drop_eq_getElem_cons (by simpa using hlt)]
        rfl
      rw [hc] at hrun
      have T := mc_take w.heap.size w.heap.size m hok h6 s[k] wr IN.out (by have := hb.size; simpa using this)
      unfold TakeIs at T
      obtain ⟨e, he⟩ : ∃ e, (m.take s[k]).2 = e := ⟨_, rfl⟩
      rw [he] at T
      by_cases h0 : e = 0
      · subst h0
        have hok' := take_keeps hok he
        have TT := Lib.hid T
        clear T
        by_cases h7 : (m.take s[k]).1.st = 7
        · have hd : dcOf s.data.toList = ((m.take s[k]).1.body, k + 1, true, 0) := by
            unfold dcOf
            rw [hrun]
            simp only [CM.run]
            rw [if_neg (by rw [he]; simp), if_pos h7]
          have HD := Lib.hid hd
          obtain ⟨m', hm'⟩ : ∃ m', (m.take s[k]).1 = m' := ⟨_, rfl⟩
          rw [hm'] at h7 HD TT
          clear hd hrun hc hok' he hm'
          obtain ⟨st', sz', mn', sn', body'⟩ := m'
          simp only at h7
          subst h7
          go_wp2_with fail
          refine TT.out.mono ?_
          rintro e' w1 ⟨rfl, hin1, hb1⟩
          have hin2 := hin1 (by simp)
          obtain ⟨q1, hq1, hin3⟩ := IsM.at hin2
          obtain ⟨d0, d1, d2, d3, g0, g1, g2, g3⟩ := hin3.facts
          have d0' : w1.cell? ⟨w.heap.size, 0, none⟩ = some (.int .i64 7) := d0
          have IN2 := Lib.hid hin2
          clear hin1 hin2 hin3 hq1 d0
          go_wp2_with fail
          refine (mc_String_any w.heap.size w.heap.size _ _ _ _ body' w1 IN2.out).mono ?_
          rintro e2 w2 ⟨rfl, hb2⟩
          go_wp2_with fail
          (try rw [Exit.noGoto_ret])
          (try simp only [Exit.inBlock, Exit.then])
          refine bodyPost_ret (results_tmp4 rfl _ _ _) rfl ?_
          rw [HD.out]
          exact ⟨rfl, (hb.trans hb1).trans hb2⟩
        · have hr2 : CM.zero.run 0 s.data.toList = (m.take s[k]).1.run (k + 1) (s.data.toList.drop (k + 1)) := by
            rw [hrun]
            simp only [CM.run]
            rw [if_neg (by rw [he]; simp), if_neg h7]
          have h7' : (m.take s[k]).1.st ≤ 6 := by have := hok'.st; omega
          have HR := Lib.hid hr2
          obtain ⟨m', hm'⟩ : ∃ m', (m.take s[k]).1 = m' := ⟨_, rfl⟩
          rw [hm'] at hok' h7' HR TT
          have g7 : ((m'.st : Int) == 7) = false := by apply beq_false_of_ne; omega
          clear hr2 hrun hc h7
          go_wp2_with fail
          refine TT.out.mono ?_
          rintro e' w1 ⟨rfl, hin1, hb1⟩
          have hin2 := hin1 (by simp)
          obtain ⟨q1, hq1, hin3⟩ := IsM.at hin2
          obtain ⟨d0, d1, d2, d3, g0, g1, g2, g3⟩ := hin3.facts
          have IN2 := Lib.hid hin2
          clear hin1 hin2 hin3 hq1
          go_wp2_with fail
          go_roundw
          case rel => exact ⟨k + 1, m', by omega, by go_num, by go_num, HR.out, hok', h7', IN2.out, hb.trans hb1⟩
          case measure => simp [intOf]; omega
      · have hd : dcOf s.data.toList = ([], 0, false, e) := by
          unfold dcOf
          rw [hrun]
          simp only [CM.run]
          rw [if_pos (by rw [he]; exact h0), he]
        have HD := Lib.hid hd
        have TT := Lib.hid T
        have HRUN := Lib.hid hrun
        clear T hd hrun hc
        have h0' : (e == 0) = false := by simpa using h0
        go_wp2_with fail
        refine TT.out.mono ?_
        rintro e' w1 ⟨rfl, _, hb1⟩
        go_wp2_with fail
        (try rw [Exit.noGoto_ret])
        (try simp only [Exit.inBlock, Exit.then])
        refine bodyPost_ret (results_tmp4 rfl _ _ _) rfl ?_
        rw [HD.out]
        exact ⟨rfl, hb.trans hb1⟩
    · obtain rfl : k = s.size := by omega
      have hd : dcOf s.data.toList = ([], 0, false, 0) := by
        unfold dcOf
        rw [hrun, List.drop_eq_nil_of_le (by simp)]
        rfl
      have HD := Lib.hid hd
      clear hd hrun
      have g7 : ((m.st : Int) == 7) = false := by apply beq_false_of_ne; omega
      go_wp2_with fail
      (try simp only [Exit.inBlock, Exit.then])
      refine bodyPost_ret (results_tmp4 rfl _ _ _) rfl ?_
      rw [HD.out]
      exact ⟨rfl, hb⟩
end Go.Proofs.YthgmgmbjjjnhnaaGreatDoor
