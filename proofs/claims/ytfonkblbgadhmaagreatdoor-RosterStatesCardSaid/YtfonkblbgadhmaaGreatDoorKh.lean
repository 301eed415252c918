/- SubA, SubB: put together by mergetpl.py. -/
import Derived.Test.YtfonkblbgadhmaaGreatDoorRows
import Derived.Test.YtfonkblbgadhmaaGreatDoorGa
namespace Go.Proofs.YtfonkblbgadhmaaGreatDoor
open Go.RowKit

theorem sub_any (a b : Bool) (w : World) : Calls Tryz.prog 114 #[.agg #[.bool a, .bool b]] w (Ret w (.bool (a || b))) := by
 cases a
 all_goals
  go_enter Tryz.func114, Tryz.ntmps114
  go_wp2
  go_ret
  exact ⟨by simp, (Below.refl _ _).alloc (Nat.le_refl _) _⟩
theorem sub_ask (a b : Bool) (w : World) : Calls Tryz.prog 93 #[.agg #[.bool a, .bool b]] w (Ret w (.agg #[.bool a, .bool !a])) := by
 go_enter Tryz.func93, Tryz.ntmps93
 go_wp2
 go_returns
 exact ⟨rfl, by go_grown⟩
theorem sub_yes (a b : Bool) (w : World) : Calls Tryz.prog 96 #[.agg #[.bool a, .bool b]] w (Ret w (.agg #[.bool (a || b), .bool false])) := by
 go_enter Tryz.func96, Tryz.ntmps96
 go_wp2_with (go_at_call 114; refine (sub_any _ _ _).mono ?_; rintro e w' ⟨rfl, hb⟩; obtain ⟨hc, hf⟩ := bcell hb; have hz := hb.size)
 refine bodyPost_ret (v := .agg #[.bool (a || b), .bool false]) (by simp [results, Tryz.results96, go_sem, hc]) rfl ?_
 exact ⟨rfl, ((((Below.refl _ _).alloc (Nat.le_refl _) _).alloc (by simp) _).trans (hb.mono (by simp; omega))).setCell (by simp) _ |>.setCell (by simp) _⟩
theorem sub_none (a b : Bool) (w : World) : Calls Tryz.prog 95 #[.agg #[.bool a, .bool b]] w (Ret w (.agg #[.bool false, .bool false])) := by
 go_enter Tryz.func95, Tryz.ntmps95
 go_wp2
 go_returns
 exact ⟨rfl, by go_grown⟩
theorem sub_always (a b : Bool) (w : World) : Calls Tryz.prog 94 #[.agg #[.bool a, .bool b]] w (Ret w (.bool true)) := by
 go_enter Tryz.func94, Tryz.ntmps94
 go_wp2
 go_returns
 exact ⟨rfl, by go_grown⟩
theorem sub_waits (a b : Bool) (w : World) : Calls Tryz.prog 97 #[.agg #[.bool a, .bool b]] w (Ret w (.bool b)) := by
 go_enter Tryz.func97, Tryz.ntmps97
 go_wp2
 go_returns
 exact ⟨rfl, by go_grown⟩
theorem sub_never (a b : Bool) (w : World) : Calls Tryz.prog 99 #[.agg #[.bool a, .bool b]] w (Ret w (.bool (!(a || b)))) := by
 cases a <;> cases b
 all_goals
  go_enter Tryz.func99, Tryz.ntmps99
  go_wp2
  go_returns
  exact ⟨rfl, by go_grown⟩
theorem sub_either (a b : Bool) (w : World) : Calls Tryz.prog 98 #[.agg #[.bool a, .bool b]] w (Ret w (.bool (a || b))) := by
 cases a <;> cases b
 all_goals
  go_enter Tryz.func98, Tryz.ntmps98
  go_wp2
  go_returns
  exact ⟨rfl, by go_grown⟩
theorem sub_halves (a b c d : Bool) (w : World) : Calls Tryz.prog 66 #[.agg #[.bool a, .bool b, .bool c, .bool d]] w (Ret w (.tuple #[.agg #[.bool a, .bool b], .agg #[.bool c, .bool d]])) := by
 go_enter Tryz.func66, Tryz.ntmps66
 go_wp2
 go_region
 all_goals go_wp2
 all_goals go_returns
 all_goals exact ⟨rfl, by go_grown⟩
theorem sub_whole (a b c d : Bool) (w : World) : Calls Tryz.prog 67 #[.agg #[.bool a, .bool b], .agg #[.bool c, .bool d]] w (Ret w (.agg #[.bool a, .bool b, .bool c, .bool d])) := by
 go_enter Tryz.func67, Tryz.ntmps67
 go_wp2
 go_returns
 exact ⟨rfl, by go_grown⟩
theorem sub_Check (a b c d : Bool) (w : World) : Calls Tryz.prog 71 #[.agg #[.bool a, .bool b, .bool c, .bool d]] w (Ret w (.int .i64 (if a && b || c && d then 8 else 0))) := by
 cases a <;> cases b <;> cases c <;> cases d
 all_goals
  go_enter Tryz.func71, Tryz.ntmps71
  go_wp2
  go_returns
  exact ⟨rfl, by go_grown⟩
end Go.Proofs.YtfonkblbgadhmaaGreatDoor
namespace Go.Proofs.YtfonkblbgadhmaaGreatDoor
open Go.RowKit

/-- A rule: two functions by their numbers. -/
def vRule (f g : Nat) : Value := .agg #[.func (.func f) #[] #[], .func (.func g) #[] #[]]
def entry (k : Int) (f g c : Nat) : MapEntry := { key := .int .u8 k, val := vRule f g, born := c }
def sentMap : Array MapEntry := #[entry 1 93 94 0, entry 3 95 94 1, entry 2 96 97 2, entry 4 95 98 3]
def takenMap : Array MapEntry := #[entry 1 93 99 0, entry 3 95 98 1, entry 2 96 97 2, entry 4 95 98 3]

theorem mapU (w : World) (es : Array MapEntry) (c : Nat) (a : Int) (v : Value) (hf : Instr.findNow (.int .u8) (.int .u8 a) es.toList 0 = some none) :
  (Instr.mapUpdate 102 (.map (some w.heap.size)) (.int .u8 a) v).run Tryz.prog (w.alloc (.map es c)) = .ok () (w.alloc (.map (es.push { key := .int .u8 a, val := v, born := c }) (c + 1))) :=
 run_mapUpdate_new Tryz.underlying102 Tryz.underlying5 w es c a v hf

/-- What 'sent' and 'taken' come to: a map of its own, whose entries are these. -/
def MapIs (w : World) (es : Array MapEntry) (e : Ending) (w' : World) : Prop := ∃ b, e = .returned (.map (some b)) ∧ w'.heap[b]? = some (.map es 4) ∧ Below w.heap.size w w'

theorem sub_sent (w : World) : Calls Tryz.prog 65 #[] w (MapIs w sentMap) := by
 have hmm := @run_makeMap Tryz.prog
 have h0 := mapU w #[] 0 1 (vRule 93 94) rfl
 have h1 := mapU w #[entry 1 93 94 0] 1 3 (vRule 95 94) rfl
 have h2 := mapU w #[entry 1 93 94 0, entry 3 95 94 1] 2 2 (vRule 96 97) rfl
 have h3 := mapU w #[entry 1 93 94 0, entry 3 95 94 1, entry 2 96 97 2] 3 4 (vRule 95 98) rfl
 simp only [entry, vRule, List.push_toArray, List.nil_append, List.cons_append, Nat.reduceAdd] at h0 h1 h2 h3
 go_enter Tryz.func65, Tryz.ntmps65
 go_wp2
 go_ret
 exact ⟨_, rfl, heap_alloc_new _ _, (Below.refl _ _).alloc (Nat.le_refl _) _⟩
theorem sub_taken (w : World) : Calls Tryz.prog 68 #[] w (MapIs w takenMap) := by
 have hmm := @run_makeMap Tryz.prog
 have h0 := mapU w #[] 0 1 (vRule 93 99) rfl
 have h1 := mapU w #[entry 1 93 99 0] 1 3 (vRule 95 98) rfl
 have h2 := mapU w #[entry 1 93 99 0, entry 3 95 98 1] 2 2 (vRule 96 97) rfl
 have h3 := mapU w #[entry 1 93 99 0, entry 3 95 98 1, entry 2 96 97 2] 3 4 (vRule 95 98) rfl
 simp only [entry, vRule, List.push_toArray, List.nil_append, List.cons_append, Nat.reduceAdd] at h0 h1 h2 h3
 go_enter Tryz.func68, Tryz.ntmps68
 go_wp2
 go_ret
 exact ⟨_, rfl, heap_alloc_new _ _, (Below.refl _ _).alloc (Nat.le_refl _) _⟩

/-- The rule of a stanza, for a state that may be: it is there. -/
theorem sub_asked (a b c d : Bool) (k : Int) (m : Nat) (es : Array MapEntry) (i f g : Nat) (w : World) (hm : w.heap[m]? = some (.map es 4)) (ho : (a && b || c && d) = false)
  (hk : Instr.findNow (.int .u8) (.int .u8 k) es.toList 0 = some (some (i, vRule f g))) :
  Calls Tryz.prog 64 #[.agg #[.bool a, .bool b, .bool c, .bool d], .int .u8 k, .map (some m)] w (Ret w (.tuple #[.agg #[.func (.func f) #[] #[], .func (.func g) #[] #[]], .int .i64 0])) := by
 have hl := fun (w1 : World) (h : w1.heap[m]? = some (.map es 4)) => run_lookup_there (P := Tryz.prog) Tryz.underlying102 Tryz.underlying5 h k hk
 unfold vRule at hl
 have hlt : m < w.heap.size := (Array.getElem?_eq_some_iff.1 hm).1
 have HL := Lib.hid hl
 have HO := Lib.hid ho
 have HM := Lib.hid hm
 clear hl hk ho hm
 go_enter Tryz.func64, Tryz.ntmps64
 go_wp2_with (go_at_call 71; refine (sub_Check _ _ _ _ _).mono ?_; rw [HO.out]; rintro e w' ⟨rfl, hb⟩; obtain ⟨hc, hf, hz, hB⟩ := bfacts (w := w) hb (by go_grown); have hl := HL.out w' ((hb.block m (by simp; omega)).trans (by rw [Below.heap_alloc _ _ _ (by simp; omega), Below.heap_alloc _ _ _ (by omega)]; exact HM.out)))
 refine bodyPost_ret (v := .tuple #[.agg #[.func (.func f) #[] #[], .func (.func g) #[] #[]], .int .i64 0]) (by simp (maxDischargeDepth := 9) [results, Tryz.results64, go_sem, hc]) rfl ?_
 exact ⟨rfl, by go_grown⟩
end Go.Proofs.YtfonkblbgadhmaaGreatDoor
