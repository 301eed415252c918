import Derived.WalkKit
import Derived.ProofKit
import Derived.WalkSpells
import Derived.Lib.Hide
import Derived.Handy
import Derived.Outline
import Derived.WalkLawsBesides
import Derived.Laws.EntriesVeiled
import Derived.Deep.RegionHeld3
import Derived.Deep.QuietTactic
import Derived.BigQuiet
import Derived.Deep.DeepCutAuto
import Derived.Deep.DrawnRows
import Derived.Deep.DeepFit
import Derived.Maps.Keyed
import Derived.Laws.IdiomRangeMap
namespace Go.Proofs.YtnfgpcccmbblcaaDoor
open Go.RowKit

/-- What a call that only makes memory comes to: the value, and nothing that was there has turned. -/
def Ret (w : World) (v : Value) (e : Ending) (w' : World) : Prop := e = .returned v ∧ Below w.heap.size w w'

theorem bcell {W w1 : World} (hb : Below W.heap.size W w1) : (∀ b o, b < W.heap.size → w1.cell? ⟨b, o, none⟩ = W.cell? ⟨b, o, none⟩) ∧ (∀ b o, b < W.heap.size → w1.frozen? ⟨b, o, none⟩ = W.frozen? ⟨b, o, none⟩) :=
  ⟨fun b o h => hb.cell (p := ⟨b, o, none⟩) h, fun b o h => hb.frozen (p := ⟨b, o, none⟩) h⟩

/-- What is known behind a call that only makes memory: each old cell and mark, the size, and that nothing of w has turned. -/
theorem bfacts {w W w1 : World} (hb : Below W.heap.size W w1) (hW : Below w.heap.size w W) :
    (∀ b o, b < W.heap.size → w1.cell? ⟨b, o, none⟩ = W.cell? ⟨b, o, none⟩) ∧ (∀ b o, b < W.heap.size → w1.frozen? ⟨b, o, none⟩ = W.frozen? ⟨b, o, none⟩) ∧ W.heap.size ≤ w1.heap.size ∧ Below w.heap.size w w1 :=
  ⟨(bcell hb).1, (bcell hb).2, hb.size, hW.trans (hb.mono hW.size)⟩

/-- .. where the call is the first behind a draw. -/
theorem bfactsD {w W w1 : World} (hb : Below W.drew.heap.size W.drew w1) (hW : Below w.heap.size w W) :
    (∀ b o, b < W.heap.size → w1.cell? ⟨b, o, none⟩ = W.cell? ⟨b, o, none⟩) ∧ (∀ b o, b < W.heap.size → w1.frozen? ⟨b, o, none⟩ = W.frozen? ⟨b, o, none⟩) ∧ W.heap.size ≤ w1.heap.size ∧ Below w.heap.size w w1 :=
  bfacts (W := W) ⟨hb.os, hb.tape, hb.output, hb.size, hb.block⟩ hW

theorem setBlock_alloc (w : World) (o o' : Obj) : ChangeMaps.setBlock (w.alloc o) w.heap.size o' = w.alloc o' := by
  unfold ChangeMaps.setBlock World.alloc
  simp [Array.setIfInBounds, Array.push]


/-- A MAP WITH INTEGER KEYS, ALL ITS ENTRIES KNOWN: a new key is put. -/
theorem run_mapUpdate_new {P : Program} {t k e : TypeId} {q : IntKind} (ht : P.underlying t = some (.map k e)) (hk : P.underlying k = some (.int q)) (w : World) (es : Array MapEntry) (c : Nat) (a : Int) (v : Value)
    (hf : Instr.findNow (.int q) (.int q a) es.toList 0 = some none) :
    (Instr.mapUpdate t (.map (some w.heap.size)) (.int q a) v).run P (w.alloc (.map es c)) = .ok () (w.alloc (.map (es.push { key := .int q a, val := v, born := c }) (c + 1))) := by
  have hb : (w.alloc (.map es c)).heap[w.heap.size]? = some (.map es c) := heap_alloc_new w _
  have hc : (Instr.checkKey false 10000 k (.int q a)).run P (w.alloc (.map es c)) = .ok () (w.alloc (.map es c)) := by
    exact MapKept.run_checkKey hk (by simp [MapKept.IsKey]) false 9999
  have hs := setBlock_alloc w (.map es c) (.map (es.push { key := .int q a, val := v, born := c }) (c + 1))
  unfold ChangeMaps.setBlock at hs
  simp [Instr.mapUpdate, run_underlying ht, MapKept.run_getObj_map hb, hc, Instr.findKey, run_underlying hk, hf, MapKept.run_setObj_map _ hb, Result.andThen]
  exact hs

/-- .. a key is looked up: it is there | it is not. -/
theorem run_lookup_there {P : Program} {t k e : TypeId} {q : IntKind} (ht : P.underlying t = some (.map k e)) (hk : P.underlying k = some (.int q)) {w : World} {b : Nat} {es : Array MapEntry} {c : Nat} (hb : w.heap[b]? = some (.map es c)) (a : Int) {i : Nat} {v : Value}
    (hf : Instr.findNow (.int q) (.int q a) es.toList 0 = some (some (i, v))) :
    (Instr.lookup t (.map (some b)) (.int q a) true).run P w = .ok (.tuple #[v, .bool true]) w := by
  have hc : ∀ x, (Instr.checkKey x 10000 k (.int q a)).run P w = .ok () w := fun x => by
    exact MapKept.run_checkKey hk (by simp [MapKept.IsKey]) x 9999
  simp [Instr.lookup, run_underlying ht, MapKept.run_getObj_map hb, hc, Instr.findKey, run_underlying hk, hf, Result.andThen]
theorem run_lookup_not {P : Program} {t k e : TypeId} {q : IntKind} (ht : P.underlying t = some (.map k e)) (hk : P.underlying k = some (.int q)) {w : World} {b : Nat} {es : Array MapEntry} {c : Nat} (hb : w.heap[b]? = some (.map es c)) (a : Int) {z : Value} (hz : (zeroValue e).run P w = .ok z w)
    (hf : Instr.findNow (.int q) (.int q a) es.toList 0 = some none) :
    (Instr.lookup t (.map (some b)) (.int q a) true).run P w = .ok (.tuple #[z, .bool false]) w := by
  have hc : ∀ x, (Instr.checkKey x 10000 k (.int q a)).run P w = .ok () w := fun x => by
    exact MapKept.run_checkKey hk (by simp [MapKept.IsKey]) x 9999
  simp [Instr.lookup, run_underlying ht, MapKept.run_getObj_map hb, hc, Instr.findKey, run_underlying hk, hf, hz, Result.andThen]
/-- Four results. -/
theorem results_tmp4 {fn : Func} {t u v x : Tmp} (h : fn.results = #[.tmp t, .tmp u, .tmp v, .tmp x]) (tmps : Array Value) (P : Program) (w : World) :
    (results fn tmps).run P w = .ok (.tuple #[tmps.getD t undef, tmps.getD u undef, tmps.getD v undef, tmps.getD x undef]) w := by
  simp [results, h]

end Go.Proofs.YtnfgpcccmbblcaaDoor
