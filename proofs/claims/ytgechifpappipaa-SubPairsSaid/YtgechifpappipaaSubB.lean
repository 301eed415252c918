/- The rules of the package sub: the two maps, and what a stanza's rule is. -/
import Derived.Test.YtgechifpappipaaSubA
namespace Go.Proofs.Ytgechifpappipaa
open Go.RowKit

/-- A rule: two functions by their numbers. -/
def vRule (f g : Nat) : Value := .agg #[.func (.func f) #[] #[], .func (.func g) #[] #[]]
def entry (k : Int) (f g c : Nat) : MapEntry := { key := .int .u8 k, val := vRule f g, born := c }
def sentMap : Array MapEntry := #[entry 1 41 42 0, entry 3 43 42 1, entry 2 44 45 2, entry 4 43 46 3]
def takenMap : Array MapEntry := #[entry 1 41 47 0, entry 3 43 46 1, entry 2 44 45 2, entry 4 43 46 3]

theorem mapU (w : World) (es : Array MapEntry) (c : Nat) (a : Int) (v : Value) (hf : Instr.findNow (.int .u8) (.int .u8 a) es.toList 0 = some none) :
    (Instr.mapUpdate 61 (.map (some w.heap.size)) (.int .u8 a) v).run Try.prog (w.alloc (.map es c)) = .ok () (w.alloc (.map (es.push { key := .int .u8 a, val := v, born := c }) (c + 1))) :=
  run_mapUpdate_new Try.underlying61 Try.underlying5 w es c a v hf

/-- What 'sent' and 'taken' come to: a map of its own, whose entries are these. -/
def MapIs (w : World) (es : Array MapEntry) (e : Ending) (w' : World) : Prop := ∃ b, e = .returned (.map (some b)) ∧ w'.heap[b]? = some (.map es 4) ∧ Below w.heap.size w w'

theorem sub_sent (w : World) : Calls Try.prog 26 #[] w (MapIs w sentMap) := by
  have hmm := @run_makeMap Try.prog
  have h0 := mapU w #[] 0 1 (vRule 41 42) rfl
  have h1 := mapU w #[entry 1 41 42 0] 1 3 (vRule 43 42) rfl
  have h2 := mapU w #[entry 1 41 42 0, entry 3 43 42 1] 2 2 (vRule 44 45) rfl
  have h3 := mapU w #[entry 1 41 42 0, entry 3 43 42 1, entry 2 44 45 2] 3 4 (vRule 43 46) rfl
  simp only [entry, vRule, List.push_toArray, List.nil_append, List.cons_append, Nat.reduceAdd] at h0 h1 h2 h3
  go_enter Try.func26, Try.ntmps26
  go_wp2
  go_ret
  exact ⟨_, rfl, heap_alloc_new _ _, (Below.refl _ _).alloc (Nat.le_refl _) _⟩
theorem sub_taken (w : World) : Calls Try.prog 29 #[] w (MapIs w takenMap) := by
  have hmm := @run_makeMap Try.prog
  have h0 := mapU w #[] 0 1 (vRule 41 47) rfl
  have h1 := mapU w #[entry 1 41 47 0] 1 3 (vRule 43 46) rfl
  have h2 := mapU w #[entry 1 41 47 0, entry 3 43 46 1] 2 2 (vRule 44 45) rfl
  have h3 := mapU w #[entry 1 41 47 0, entry 3 43 46 1, entry 2 44 45 2] 3 4 (vRule 43 46) rfl
  simp only [entry, vRule, List.push_toArray, List.nil_append, List.cons_append, Nat.reduceAdd] at h0 h1 h2 h3
  go_enter Try.func29, Try.ntmps29
  go_wp2
  go_ret
  exact ⟨_, rfl, heap_alloc_new _ _, (Below.refl _ _).alloc (Nat.le_refl _) _⟩

theorem zeroRule (w : World) : (zeroValue 58).run Try.prog w = .ok (.agg #[.nilFunc, .nilFunc]) w := by kernel_rfl

/-- The rule of a stanza, for a state that may be: it is there. -/
theorem sub_asked (a b c d : Bool) (k : Int) (m : Nat) (es : Array MapEntry) (i f g : Nat) (w : World) (hm : w.heap[m]? = some (.map es 4)) (ho : (a && b || c && d) = false)
    (hk : Instr.findNow (.int .u8) (.int .u8 k) es.toList 0 = some (some (i, vRule f g))) :
    Calls Try.prog 25 #[.agg #[.bool a, .bool b, .bool c, .bool d], .int .u8 k, .map (some m)] w (Ret w (.tuple #[.agg #[.func (.func f) #[] #[], .func (.func g) #[] #[]], .int .i64 0])) := by
  have hl := fun (w1 : World) (h : w1.heap[m]? = some (.map es 4)) => run_lookup_there (P := Try.prog) Try.underlying61 Try.underlying5 h k hk
  unfold vRule at hl
  have hlt : m < w.heap.size := (Array.getElem?_eq_some_iff.1 hm).1
  have HL := Lib.hid hl
  have HO := Lib.hid ho
  have HM := Lib.hid hm
  clear hl hk ho hm
  go_enter Try.func25, Try.ntmps25
  go_wp2_with (go_at_call 11; refine (sub_Check _ _ _ _ _).mono ?_; rw [HO.out]; rintro e w' ⟨rfl, hb⟩; obtain ⟨hc, hf, hz, hB⟩ := bfacts (w := w) hb (by go_grown); have hl := HL.out w' ((hb.block m (by simp; omega)).trans (by rw [Below.heap_alloc _ _ _ (by simp; omega), Below.heap_alloc _ _ _ (by omega)]; exact HM.out)))
  refine bodyPost_ret (v := .tuple #[.agg #[.func (.func f) #[] #[], .func (.func g) #[] #[]], .int .i64 0]) (by simp (maxDischargeDepth := 9) [results, Try.results25, go_sem, hc]) rfl ?_
  exact ⟨rfl, by go_grown⟩
/-- .. there is none. -/
theorem sub_asked_not (a b c d : Bool) (k : Int) (m : Nat) (es : Array MapEntry) (w : World) (hm : w.heap[m]? = some (.map es 4)) (ho : (a && b || c && d) = false)
    (hk : Instr.findNow (.int .u8) (.int .u8 k) es.toList 0 = some none) :
    Calls Try.prog 25 #[.agg #[.bool a, .bool b, .bool c, .bool d], .int .u8 k, .map (some m)] w (Ret w (.tuple #[.agg #[.nilFunc, .nilFunc], .int .i64 2])) := by
  have hl := fun (w1 : World) (h : w1.heap[m]? = some (.map es 4)) => run_lookup_not (P := Try.prog) Try.underlying61 Try.underlying5 h k (zeroRule w1) hk
  have hlt : m < w.heap.size := (Array.getElem?_eq_some_iff.1 hm).1
  have HL := Lib.hid hl
  have HO := Lib.hid ho
  have HM := Lib.hid hm
  clear hl hk ho hm
  go_enter Try.func25, Try.ntmps25
  go_wp2_with (go_at_call 11; refine (sub_Check _ _ _ _ _).mono ?_; rw [HO.out]; rintro e w' ⟨rfl, hb⟩; obtain ⟨hc, hf, hz, hB⟩ := bfacts (w := w) hb (by go_grown); have hl := HL.out w' ((hb.block m (by simp; omega)).trans (by rw [Below.heap_alloc _ _ _ (by simp; omega), Below.heap_alloc _ _ _ (by omega)]; exact HM.out)))
  refine bodyPost_ret (v := .tuple #[.agg #[.nilFunc, .nilFunc], .int .i64 2]) (by simp (maxDischargeDepth := 9) [results, Try.results25, go_sem, hc]) rfl ?_
  exact ⟨rfl, by go_grown⟩
/-- .. of a state that may not be. -/
theorem sub_asked_bad (a b c d : Bool) (k : Int) (m : Nat) (w : World) (ho : (a && b || c && d) = true) :
    Calls Try.prog 25 #[.agg #[.bool a, .bool b, .bool c, .bool d], .int .u8 k, .map (some m)] w (Ret w (.tuple #[.agg #[.nilFunc, .nilFunc], .int .i64 8])) := by
  have HO := Lib.hid ho
  clear ho
  go_enter Try.func25, Try.ntmps25
  go_wp2_with (go_at_call 11; refine (sub_Check _ _ _ _ _).mono ?_; rw [HO.out]; rintro e w' ⟨rfl, hb⟩; obtain ⟨hc, hf, hz, hB⟩ := bfacts (w := w) hb (by go_grown))
  refine bodyPost_ret (v := .tuple #[.agg #[.nilFunc, .nilFunc], .int .i64 8]) (by simp (maxDischargeDepth := 9) [results, Try.results25, go_sem, hc]) rfl ?_
  exact ⟨rfl, by go_grown⟩
end Go.Proofs.Ytgechifpappipaa
