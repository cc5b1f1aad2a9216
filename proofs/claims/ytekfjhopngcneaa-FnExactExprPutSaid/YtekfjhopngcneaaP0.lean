
/- From a contract that says 'returns true' to the statement's own words: the arguments as they come in, what is left behind. No conditions. -/
import Derived.Test.YtekfjhopngcneaaRows
import Derived.Test.YtekfjhopngcneaaW9
import Derived.Test.YtekfjhopngcneaaOps4
import Derived.ProofKit
namespace Go.Proofs.Ytekfjhopngcneaa
open Go.ChangeShapes Go.WideShapes Go.ChangeAt Go.RowKit Go.ChangeMaps
set_option maxRecDepth 100000
set_option linter.unusedVariables false
set_option linter.unusedSimpArgs false

theorem ownKnob_none : ownKnob Try.prog.godebug = none := by kernel_rfl
theorem laidOut_all : laidOutB Try.prog = true := by kernel_rfl

/-- A world as it stands when the call begins. -/
def ofWorld (w : World) : Heap := ⟨fun b => w.heap[b]?, w.os, w.output⟩
theorem mem_ofWorld (w : World) : Mem (ofWorld w) [] w := ⟨⟨fun _ _ h => h, rfl, rfl⟩, by simp, by simp⟩
def YES (L : Own) : Post := fun v I' L' => v = .bool true ∧ L = L'

section
variable {H : Type} {enc : TypeId × Value → H} {P : Program} {W W' : World}

theorem heap_kept (h : ∀ (b : Nat) (o : Obj), W.heap[b]? = some o → W'.heap[b]? = some o) {k : Nat} (hk : k < W.heap.size) : W'.heap[k]? = W.heap[k]? := by
  rw [h k _ (Array.getElem?_eq_getElem hk), Array.getElem?_eq_getElem hk]
theorem sameAt_kept (h : ∀ (b : Nat) (o : Obj), W.heap[b]? = some o → W'.heap[b]? = some o) {p : MemPlace} (hp : p.block < W.heap.size) : W.sameAt W' p := by
  cases p with
  | cell b off =>
    have := heap_kept h (k := b) hp
    show W'.cell? _ = W.cell? _
    simp only [World.cell?, this]
  | map b => exact heap_kept h hp
theorem trodAll_kept (hl : laidOutB P = true) (h : ∀ (b : Nat) (o : Obj), W.heap[b]? = some o → W'.heap[b]? = some o) : ∀ {ts : List TypeId} {vs : List Value} {ds : List (DataW H)} {ps : List MemPlace},
    DataW.TrodAll enc P W 0 (fun _ => true) true ts vs ds ps → (∀ t ∈ ts, P.readableRec t = true ∧ t < P.types.size) → (∀ x ∈ ps, x.block < W.heap.size) →
    DataW.TrodAll enc P W' 0 (fun b => decide (b < W.heap.size)) true ts vs ds ps
  | [], [], [], ps, hA, _, _ => hA
  | t :: ts, [], ds, ps, hA, _, _ => by cases ds <;> exact hA.elim
  | t :: ts, v :: vs, [], ps, hA, _, _ => hA.elim
  | [], v :: vs, ds, ps, hA, _, _ => by cases ds <;> exact hA.elim
  | [], [], d :: ds, ps, hA, _, _ => hA.elim
  | t :: ts, v :: vs, d :: ds, ps, hA, hr, hlt => by
    obtain ⟨p, q, h1, h2, rfl⟩ := hA
    refine ⟨p, q, ?_, trodAll_kept hl h h2 (fun t ht => hr t (.tail _ ht)) (fun x hx => hlt x (List.mem_append_right _ hx)), rfl⟩
    have hp : ∀ x ∈ p, x.block < W.heap.size := fun x hx => hlt x (List.mem_append_left _ hx)
    exact WideElems.Trod_stays hl (hr t (.head _)).1 (hr t (.head _)).2 h1 (fun x hx => sameAt_kept h (hp x hx)) (fun x hx => by simpa using hp x hx)
theorem keptBut_kept (h : ∀ (b : Nat) (o : Obj), W.heap[b]? = some o → W'.heap[b]? = some o) (ho : W'.os = W.os) (hp : W'.output = W.output) (may : MemPlace → Prop) : W.keptBut W' may := by
  refine ⟨ho, hp, fun i hi => ?_⟩
  rw [heap_kept h hi]
  split <;> simp_all

/-- A contract 'returns true' gives what a statement asks of one call. -/
theorem calls_yes {f : FuncId} {fn : Func} {s : ChangeSpec} {args : Array Value} {ds gs : List (DataW H)} {before : List MemPlace} {tb : TypeId} (hl : laidOutB P = true)
    (hW : DataW.Whole enc P fn.params.toList s.vars false W args.toList ds gs before) (hv : s.vars = []) (hs : s.fn H (ds ++ gs) = { results := [.lit (.bool true)], args := ds })
    (hrt : fn.resultTypes = #[tb]) (htb : P.underlying tb = some .bool) (hrd : ∀ t ∈ fn.params.toList, P.readableRec t = true ∧ t < P.types.size)
    (hc : Fun P f args.toList (ofWorld W) [] (YES [])) : Calls P f args W fun e W' => ∃ v, e = .returned v ∧ s.post enc P fn false true false false W args v W' := by
  have hc' := hc.run W (mem_ofWorld W)
  rw [Array.toArray_toList] at hc'
  refine hc'.mono fun e W' he => ?_
  obtain ⟨v, I', L', rfl, hle, hm, rfl, rfl⟩ := he
  have hkeep : ∀ (b : Nat) (o : Obj), W.heap[b]? = some o → W'.heap[b]? = some o := fun b o hb => hm.1.1 b o (hle.le b o hb)
  have hlt : ∀ x ∈ before, x.block < W.heap.size := hW.lt
  obtain ⟨p, q, h1, h2, rfl, h4, h5⟩ := id hW
  rw [hv] at h2
  obtain ⟨rfl, rfl⟩ := trodVars_none h2
  refine ⟨_, rfl, ds, [], _, [], p, [], hW, ?_, ?_, ?_, keptBut_kept hkeep (hm.1.2.1.trans hle.os) (hm.1.2.2.trans hle.out) _, fun h => by cases h⟩
  · rw [hs, hrt]
    exact ⟨[], [], shut_bool htb true, rfl, rfl⟩
  · rw [hs]
    exact trodAll_kept hl hkeep h1 hrd (fun x hx => hlt x (List.mem_append_left _ hx))
  · rw [hs, hv]; rfl

/-- A list of texts as it comes in. -/
theorem raw_of {t e : TypeId} (ht : P.underlying t = some (.slice e)) (he : P.underlying e = some .string) (hc : P.cellsOf e = 1) {r : Reach} {b0 : Nat} {v : Value} {d : DataW H} {ps : List MemPlace} {base : Nat} {held : Bool}
    (hval : Value.okWide P W r b0 t v) (hd : DataW.Trod enc P W base (fun _ => true) held t v d ps) : ∃ oa l c, v = .slice oa (List.length l) c ∧ Raw (ofWorld W) oa l c := by
  obtain ⟨a0, len, cap, rfl⟩ := okWide_slice ht hval
  obtain ⟨fuel, hf⟩ := hd
  rcases open_strings ht he hc hf with ⟨hcs, hx⟩ | ⟨a, len', cap', ss, hcs, _, hl, hm, hz, hx, hcell, hws⟩
  · simp [Value.cells] at hcs
    obtain ⟨rfl, rfl, rfl⟩ := hcs
    exact ⟨none, [], 0, rfl, by simp, by simp, by simp, by simp, by simp⟩
  · simp [Value.cells] at hcs
    obtain ⟨rfl, rfl, rfl⟩ := hcs
    simp only [if_true] at hz
    have hlen : ((ss.take len).map fun s => s.data.toList).length = len := by simp; omega
    simp only [maxLen] at hm hws
    refine ⟨some a, (ss.take len).map fun s => s.data.toList, cap, by rw [hlen], ⟨?_, by simp, by rw [hlen]; exact hl, by rw [hlen]; omega, ?_⟩⟩
    · rintro x ⟨⟩
      by_cases h0 : len = 0
      · subst h0; exact .inl (by simp)
      · have hsp := World.cell?_spot (hcell 0 (by omega))
        have ha0 : a.add 0 = a := by simp [Addr.add]
        rw [ha0] at hsp
        have hb : ∃ cc T fr, W.heap[a.block]? = some (.cells cc T fr) := by
          have := hcell 0 (by omega)
          rw [ha0] at this
          unfold World.cell? at this
          split at this
          · exact ⟨_, _, _, by assumption⟩
          · cases this
        obtain ⟨cc, T, fr, hb⟩ := hb
        refine .inr ⟨cc, T, fr, hb, hsp, fun i hi => ?_⟩
        simp only [List.length_map, List.length_take] at hi
        have hi' := hcell i (by omega)
        have hadd : a.add i = ⟨a.block, a.off + i, none⟩ := by
          unfold Addr.add
          split
          · subst_vars; rw [← hsp]; rfl
          · rfl
        rw [hadd] at hi'
        simp only [World.cell?, hb, Option.isSome_none, Bool.false_eq_true, if_false] at hi'
        rw [hi']
        have hsl : i < ss.length := by omega
        simp [sv, str, hsl]
    · intro s hs
      simp only [List.mem_map] at hs
      obtain ⟨b, hb, rfl⟩ := hs
      have := hws b (List.mem_of_mem_take hb)
      have e : b.data.toList.length = b.size := by rw [Array.length_toList]; rfl
      omega
/-- A list of bytes as it comes in. -/
theorem bytes_of {t e : TypeId} (ht : P.underlying t = some (.slice e)) (he : P.underlying e = some (.int .u8)) (hc : P.cellsOf e = 1) {r : Reach} {b0 : Nat} {v : Value} {d : DataW H} {ps : List MemPlace} {base : Nat} {held : Bool}
    (hval : Value.okWide P W r b0 t v) (hd : DataW.Trod enc P W base (fun _ => true) held t v d ps) : ∃ oa l c, v = .slice oa (List.length l) c ∧ Bytes (ofWorld W) oa l c := by
  obtain ⟨a0, len, cap, rfl⟩ := okWide_slice ht hval
  obtain ⟨fuel, hf⟩ := hd
  rcases open_ints ht he hc hf with ⟨hcs, hx⟩ | ⟨a, len', cap', zs, hcs, _, hl, hm, hz, hx, hcell, hwz⟩
  · simp [Value.cells] at hcs
    obtain ⟨rfl, rfl, rfl⟩ := hcs
    exact ⟨none, [], 0, rfl, by simp, by simp, by simp, by simp⟩
  · simp [Value.cells] at hcs
    obtain ⟨rfl, rfl, rfl⟩ := hcs
    simp only [if_true] at hz
    have hlen : ((zs.take len).map fun z => UInt8.ofNat z.toNat).length = len := by simp; omega
    simp only [maxLen] at hm
    refine ⟨some a, (zs.take len).map fun z => UInt8.ofNat z.toNat, cap, by rw [hlen], ⟨?_, by simp, by rw [hlen]; exact hl, by rw [hlen]; omega⟩⟩
    rintro x ⟨⟩
    by_cases h0 : len = 0
    · subst h0; exact .inl (by simp)
    · have hsp := World.cell?_spot (hcell 0 (by omega))
      have ha0 : a.add 0 = a := by simp [Addr.add]
      rw [ha0] at hsp
      have hb : ∃ cc T fr, W.heap[a.block]? = some (.cells cc T fr) := by
        have := hcell 0 (by omega)
        rw [ha0] at this
        unfold World.cell? at this
        split at this
        · exact ⟨_, _, _, by assumption⟩
        · cases this
      obtain ⟨cc, T, fr, hb⟩ := hb
      refine .inr ⟨cc, T, fr, hb, hsp, fun i hi => ?_⟩
      simp only [List.length_map, List.length_take] at hi
      have hi' := hcell i (by omega)
      have hadd : a.add i = ⟨a.block, a.off + i, none⟩ := by
        unfold Addr.add
        split
        · subst_vars; rw [← hsp]; rfl
        · rfl
      rw [hadd] at hi'
      simp only [World.cell?, hb, Option.isSome_none, Bool.false_eq_true, if_false] at hi'
      rw [hi']
      have hsl : i < zs.length := by omega
      have hw := hwz _ (List.getElem_mem hsl)
      have hw2 : 0 ≤ zs[i] ∧ zs[i] ≤ 255 := by simpa [Lit.wf, IntKind.min, IntKind.max, IntKind.signed, IntKind.bits] using hw
      have e : ((zs[i].toNat % 256 : Nat) : Int) = zs[i] := by omega
      simp [bv, hsl, e]
/-- A text as it comes in. -/
theorem txt_of {t : TypeId} (ht : P.underlying t = some .string) {r : Reach} {b0 : Nat} {v : Value} {d : DataW H} {ps : List MemPlace} {base : Nat} {sp : Nat → Bool} {held : Bool}
    (hval : Value.okWide P W r b0 t v) (hd : DataW.Trod enc P W base sp held t v d ps) : ∃ s : Txt, v = .string (str s) ∧ s.length ≤ 9223372036854775807 := by
  obtain ⟨s, rfl, _, _, hs⟩ := open_string ht hval hd
  exact ⟨s.data.toList, by simp [str], by
    have e : s.data.toList.length = s.size := by rw [Array.length_toList]; rfl
    unfold maxLen at hs
    omega⟩
end
end Go.Proofs.Ytekfjhopngcneaa
