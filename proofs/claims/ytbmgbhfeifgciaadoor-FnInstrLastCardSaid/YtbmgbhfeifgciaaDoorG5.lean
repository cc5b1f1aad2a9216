/- From a contract that says 'returns true' to the statement's own words: the arguments as they come in, what is left behind. No conditions. -/
import Derived.Test.YtbmgbhfeifgciaaDoorG4
import Derived.Test.YtbmgbhfeifgciaaDoorRows
import Derived.ProofKit

namespace Go.Proofs.YtbmgbhfeifgciaaDoor
open Go.ChangeShapes Go.WideShapes Go.ChangeAt Go.RowKit Go.ChangeMaps
set_option maxRecDepth 100000
set_option linter.unusedVariables false
set_option linter.unusedSimpArgs false

theorem H7 : laidOutB Tryd.prog = true := by kernel_rfl

def K9 (w : World) : Heap := ⟨fun b => w.heap[b]?, w.os, w.output⟩
theorem L3 (w : World) : Mem (K9 w) [] w := ⟨⟨fun _ _ h => h, rfl, rfl⟩, by simp, by simp⟩
def Te (L : At) : A5 := fun v I' L' => v = .bool true ∧ L = L'

section
variable {H : Type} {enc : TypeId × Value → H} {P : Program} {W W' : World}

theorem Hp (h : ∀ (b : Nat) (o : Obj), W.heap[b]? = some o → W'.heap[b]? = some o) {k : Nat} (hk : k < W.heap.size) : W'.heap[k]? = W.heap[k]? := by
 rw [h k _ (Array.getElem?_eq_getElem hk), Array.getElem?_eq_getElem hk]
theorem Mf (h : ∀ (b : Nat) (o : Obj), W.heap[b]? = some o → W'.heap[b]? = some o) {p : MemPlace} (hp : p.block < W.heap.size) : W.sameAt W' p := by
 cases p with
 | cell b off =>
  have := Hp h (k := b) hp
  show W'.cell? _ = W.cell? _
  simp only [World.cell?, this]
 | map b => exact Hp h hp
theorem Hg (hl : laidOutB P = true) (h : ∀ (b : Nat) (o : Obj), W.heap[b]? = some o → W'.heap[b]? = some o) : ∀ {ts : List TypeId} {vs : List Value} {ds : List (DataW H)} {ps : List MemPlace},
  DataW.TrodAll enc P W 0 (fun _ => true) true ts vs ds ps → (∀ t ∈ ts, P.readableRec t = true ∧ t < P.types.size) → (∀ x ∈ ps, x.block < W.heap.size) →
  DataW.TrodAll enc P W' 0 (fun b => decide (b < W.heap.size)) true ts vs ds ps
 | [], [], [], ps, hA, _, _ => hA
 | t :: ts, [], ds, ps, hA, _, _ => by cases ds <;> exact hA.elim
 | t :: ts, v :: vs, [], ps, hA, _, _ => hA.elim
 | [], v :: vs, ds, ps, hA, _, _ => by cases ds <;> exact hA.elim
 | [], [], d :: ds, ps, hA, _, _ => hA.elim
 | t :: ts, v :: vs, d :: ds, ps, hA, hr, hlt => by
  obtain ⟨p, q, h1, h2, rfl⟩ := hA; refine ⟨p, q, ?_, Hg hl h h2 (fun t ht => hr t (.tail _ ht)) (fun x hx => hlt x (List.mem_append_right _ hx)), rfl⟩
  have hp : ∀ x ∈ p, x.block < W.heap.size := fun x hx => hlt x (List.mem_append_left _ hx)
  exact WideElems.Trod_stays hl (hr t (.head _)).1 (hr t (.head _)).2 h1 (fun x hx => Mf h (hp x hx)) (fun x hx => by simpa using hp x hx)
theorem K1 (h : ∀ (b : Nat) (o : Obj), W.heap[b]? = some o → W'.heap[b]? = some o) (ho : W'.os = W.os) (hp : W'.output = W.output) (may : MemPlace → Prop) : W.keptBut W' may := by
 refine ⟨ho, hp, fun i hi => ?_⟩; rw [Hp h hi]
 split <;> simp_all

theorem Ju {f : FuncId} {fn : Func} {s : ChangeSpec} {args : Array Value} {ds gs : List (DataW H)} {before : List MemPlace} {tb : TypeId} (hl : laidOutB P = true)
  (hW : DataW.Whole enc P fn.params.toList s.vars false W args.toList ds gs before) (hv : s.vars = []) (hs : s.fn H (ds ++ gs) = { results := [.lit (.bool true)], args := ds })
  (hrt : fn.resultTypes = #[tb]) (htb : P.underlying tb = some .bool) (hrd : ∀ t ∈ fn.params.toList, P.readableRec t = true ∧ t < P.types.size)
  (hc : Fun P f args.toList (K9 W) [] (Te [])) : Calls P f args W fun e W' => ∃ v, e = .returned v ∧ s.post enc P fn false true false false W args v W' := by
 have hc' := hc.run W (L3 W)
 rw [Array.toArray_toList] at hc'; refine hc'.mono fun e W' he => ?_
 obtain ⟨v, I', L', rfl, hle, hm, rfl, rfl⟩ := he
 have hkeep : ∀ (b : Nat) (o : Obj), W.heap[b]? = some o → W'.heap[b]? = some o := fun b o hb => hm.1.1 b o (hle.le b o hb)
 have hlt : ∀ x ∈ before, x.block < W.heap.size := hW.lt
 obtain ⟨p, q, h1, h2, rfl, h4, h5⟩ := id hW; rw [hv] at h2; obtain ⟨rfl, rfl⟩ := trodVars_none h2; refine ⟨_, rfl, ds, [], _, [], p, [], hW, ?_, ?_, ?_, K1 hkeep (hm.1.2.1.trans hle.os) (hm.1.2.2.trans hle.out) _, fun h => by cases h⟩
 ·rw [hs, hrt]
  exact ⟨[], [], shut_bool htb true, rfl, rfl⟩
 ·rw [hs]
  exact Hg hl hkeep h1 hrd (fun x hx => hlt x (List.mem_append_left _ hx))
 ·rw [hs, hv]; rfl

theorem Lo {t e : TypeId} (ht : P.underlying t = some (.slice e)) (he : P.underlying e = some (.int .u8)) (hc : P.cellsOf e = 1) {r : Reach} {b0 : Nat} {v : Value} {d : DataW H} {ps : List MemPlace} {base : Nat} {held : Bool}
  (hval : Value.okWide P W r b0 t v) (hd : DataW.Trod enc P W base (fun _ => true) held t v d ps) : ∃ oa l c, v = .slice oa (List.length l) c ∧ Bytes (K9 W) oa l c := by
 obtain ⟨a0, len, cap, rfl⟩ := okWide_slice ht hval; obtain ⟨fuel, hf⟩ := hd
 rcases open_ints ht he hc hf with ⟨hcs, hx⟩ | ⟨a, len', cap', zs, hcs, _, hl, hm, hz, hx, hcell, hwz⟩
 ·simp [Value.cells] at hcs
  obtain ⟨rfl, rfl, rfl⟩ := hcs
  exact ⟨none, [], 0, rfl, by simp, by simp, by simp, by simp⟩
 ·simp [Value.cells] at hcs
  obtain ⟨rfl, rfl, rfl⟩ := hcs
  simp only [if_true] at hz
  have hlen : ((zs.take len).map fun z => UInt8.ofNat z.toNat).length = len := by simp; omega
  simp only [maxLen] at hm
  refine ⟨some a, (zs.take len).map fun z => UInt8.ofNat z.toNat, cap, by rw [hlen], ⟨?_, by simp, by rw [hlen]; exact hl, by rw [hlen]; omega⟩⟩; rintro x ⟨⟩
  by_cases h0 : len = 0
  ·subst h0; exact .inl (by simp)
  ·have hsp := World.cell?_spot (hcell 0 (by omega))
   have ha0 : a.add 0 = a := by simp [Addr.add]
   rw [ha0] at hsp
   have hb : ∃ cc T fr, W.heap[a.block]? = some (.cells cc T fr) := by
    have := hcell 0 (by omega)
    rw [ha0] at this
    unfold World.cell? at this
    split at this
    ·exact ⟨_, _, _, by assumption⟩
    ·cases this
   obtain ⟨cc, T, fr, hb⟩ := hb; refine .inr ⟨cc, T, fr, hb, hsp, fun i hi => ?_⟩
   simp only [List.length_map, List.length_take] at hi
   have hi' := hcell i (by omega)
   have hadd : a.add i = ⟨a.block, a.off + i, none⟩ := by
    unfold Addr.add
    split
    ·subst_vars; rw [← hsp]; rfl
    ·rfl
   rw [hadd] at hi'
   simp only [World.cell?, hb, Option.isSome_none, Bool.false_eq_true, if_false] at hi'
   rw [hi']
   have hsl : i < zs.length := by omega
   have hw := hwz _ (List.getElem_mem hsl)
   have hw2 : 0 ≤ zs[i] ∧ zs[i] ≤ 255 := by simpa [Lit.wf, IntKind.min, IntKind.max, IntKind.signed, IntKind.bits] using hw
   have e : ((zs[i].toNat % 256 : Nat) : Int) = zs[i] := by omega
   simp [bv, hsl, e]
end
set_option maxRecDepth 100000
set_option linter.unusedVariables false
set_option linter.unusedSimpArgs false

section rules
variable {P : Program} {f : FuncId} {n : Nat} {I₀ : Heap} {Q : A5} {k : List Item} {E : D3} {I : Heap} {L : At}
variable {ops : Array Oper} {d : Nat} {ty : TypeId} {pos : String} {af : Array Edge} {g : Option (Nat × Bool)} {l : List Oper}

theorem Pp {b : Nat} {o : Obj} (h : HLe I (I.set b o) → Ah P f n I₀ Q ops l k E (I.set b o) L) : Ah P f n I₀ Q ops l k E I ((b, o) :: L) :=
 fun a w ha hd he hm => h hm.freeze.2 a w ha hd he hm.freeze.1

end rules

theorem Strs.reads {I : Heap} {L : At} {oa : Option Addr} {l : List Af} {c : Nat} (h : Strs I oa l c) (a : Addr) (ha : oa = some a) : Do I L a (l.map sv) := (h.still a ha).reads
theorem Strs.none {I : Heap} {oa : Option Addr} {l : List Af} {c : Nat} (h : Strs I oa l c) (ha : oa = .none) : l.map sv = [] := by rw [h.nil ha]; rfl
theorem Lf {P : Program} {f : FuncId} {n : Nat} {I₀ : Heap} {Q : A5} {todo : List Item} {E : D3} {I : Heap} {L : At} {e : TypeId} {l : List Af} {B : Hl} {m c : Nat}
  (hB : Eh 1 m c (l.map sv) B) (hm : m = l.length) (hlen : l.length ≤ As) (hs : ∀ s ∈ l, s.length ≤ As)
  (h : ∀ I' oa c', HLe I I' → Bw m c B = .slice oa l.length c' → Strs I' oa l c' → RunS P f n I₀ Q todo E I' L) : RunS P f n I₀ Q todo E I (C3 e (l.map sv) B ++ L) := by
 cases B with
 | none =>
  obtain ⟨h1, h2, h3⟩ := hB; obtain rfl : l = [] := by simpa using h1
  exact h I .none 0 (.refl _) rfl ⟨by simp, by simp, by simp, hlen, hs⟩
 | some p =>
  obtain ⟨b, sp⟩ := p; refine Fk fun hle => h _ (some ⟨b, 0, .none⟩) c hle (by rw [← hm]; rfl) ⟨fun y hy => ?_, by simp, by have := hB.2.1; omega, hlen, hs⟩
  cases hy; exact D7
theorem Strs.drop {I : Heap} {oa : Option Addr} {l : List Af} {c : Nat} (h : Strs I oa l c) (a : Nat) (ha : a ≤ l.length) : Strs I (if c = a then oa else oa.map (·.add (a * 1))) (l.drop a) (c - a) := by
 have hcap := h.cap
 refine ⟨fun x hx => ?_, fun hx => ?_, by simp; omega, by have := h.len; simp; omega, fun s hs => h.each s (List.mem_of_mem_drop hs)⟩
 ·by_cases hc : c = a
  ·have : l.drop a = [] := List.drop_eq_nil_of_le (by omega)
   rw [this]; exact .inl rfl
  ·rw [if_neg hc] at hx
   cases oa with
   | none => cases hx
   | some y =>
    cases hx
    refine (h.still y rfl).part (a * 1) ?_; intro j hj
    simp only [List.length_map, List.length_drop] at hj
    simp [Nat.mul_one, show a + j < l.length by omega]
 ·by_cases hc : c = a
  ·exact List.drop_eq_nil_of_le (by omega)
  ·rw [if_neg hc] at hx
   cases oa with
   | none => rw [h.nil rfl]; simp
   | some y => cases hx
set_option maxRecDepth 100000
set_option linter.unusedVariables false
set_option linter.unusedSimpArgs false

section rules
variable {P : Program} {f : FuncId} {n : Nat} {I₀ : Heap} {Q : A5} {k : List Item} {E : D3} {I : Heap} {L : At}
variable {ops : Array Oper} {d : Nat} {ty : TypeId} {pos : String} {af : Array Edge} {g : Option (Nat × Bool)} {l : List Oper}
theorem M3 {T T' : TypeId} {x y : Operand} {a b : Nat} (hx : Au E x = some (.int .u8 (a : Nat))) (hy : Au E y = some (.int .u8 (b : Nat))) (hab : b ≤ a) (ha : a ≤ 255) (hg : Wants ops E g) (hdn : Nat.blt d n = true)
  (h : Ah P f n I₀ Q ops l k ((d, .int .u8 ((a - b : Nat))) :: E) I L) : Ah P f n I₀ Q ops (⟨some d, .binOp .sub T x y T', ty, pos, af, g⟩ :: l) k E I L :=
 Bi (fun ac w he _ => by
  simp only [execOp, he.eval hx, he.eval hy]
  refine Ab (a := _) (w' := w) ?_ |>.trans rfl
  rw [Ab (B8 w)]
  have e : IntKind.u8.wrap ((a : Int) - (b : Int)) = ((a - b : Nat) : Int) := by
   simp [IntKind.wrap, IntKind.bits, IntKind.signed]; omega
  simp [binOp, Op.intArith, e]) hg hdn h
end rules

def Bf (s : Af) : Af := if (s.getD 0 0).toNat = 45 then s.drop 1 else s
def Az (s : Af) : Bool := decide (s = [48]) || (decide (1 ≤ (Bf s).length ∧ (Bf s).length ≤ 3) && (Bf s).all C8 && !decide (((Bf s).getD 0 0).toNat = 48))
def Bt (l : Af) : Nat := l.foldl (fun n b => 10 * n + (b.toNat - 48)) 0
def B6 (s : Af) : Int := if s = [48] then 0 else (if (s.getD 0 0).toNat = 45 then -1 else 1) * (Bt (Bf s) : Nat)

theorem Es (s : Af) (i : Nat) (hi : i < s.length) : Bt (s.take (i + 1)) = 10 * Bt (s.take i) + ((s.getD i 0).toNat - 48) := by
 have e : s.getD i 0 = s[i] := by simp [hi]
 rw [List.take_succ_eq_append_getElem hi, e, Bt, List.foldl_append]
 rfl
theorem Ku : ∀ (l : Af), Bt l + 1 ≤ 256 * 256 ^ l.length := by
 intro l
 have key : ∀ (l : Af) (a : Nat), l.foldl (fun n b => 10 * n + (b.toNat - 48)) a + 1 ≤ (a + 1) * 256 ^ l.length * 256 := by
  intro l
  induction l with
  | nil => intro a; simp; omega
  | cons b r ih =>
   intro a
   have hb := UInt8.toNat_lt b
   refine Nat.le_trans (ih _) ?_; rw [List.length_cons, Nat.pow_succ]
   have h1 : 10 * a + (b.toNat - 48) + 1 ≤ (a + 1) * 256 := by omega
   calc (10 * a + (b.toNat - 48) + 1) * 256 ^ r.length * 256 ≤ ((a + 1) * 256) * 256 ^ r.length * 256 := Nat.mul_le_mul_right _ (Nat.mul_le_mul_right _ h1)
    _ = (a + 1) * (256 ^ r.length * 256) * 256 := by rw [Nat.mul_assoc (a + 1) 256, Nat.mul_comm 256 (256 ^ r.length)]
 have := key l 0
 simp only [Bt]
 omega

theorem E9 (s p : Af) (hs : s.length ≤ As) (hp : p.length ≤ As) (I : Heap) (L : At) : Fun Tryd.prog 58 [.string (str s), .string (str p)] I L (Cr (.string (str (if p.isPrefixOf s then s.drop p.length else s))) I L) := by
 unfold As at hs hp
 refine Ag (by simp) ?_; refine Se rfl (Oa rfl (Aa (Ai (Se rfl (Om rfl (Om rfl ?_)))))); refine Ca rfl (Dq s p hs hp _ _) ?_; rintro _ _ _ _ ⟨rfl, rfl, rfl⟩; refine Aa ?_; refine Si rfl ?_ ?_
 ·intro c0
  have hlen : p.length ≤ s.length := by
   have := (List.isPrefixOf_iff_prefix.1 c0).length_le; exact this
  refine Se rfl (Om rfl (Om rfl ?_)); refine Aw rfl .free rfl ?_; refine Fp rfl rfl _ rfl (by first | omega | exact Ax (by assumption) (by decide) | (simp; done) | (simp; omega) | decide | (simp at *; omega)) .free rfl ?_; refine Oa rfl (Aa (Ac (.tmp rfl .nil) ?_)); refine only rfl ?_
  simp [Bj, c0]
 intro c0; refine Aj (Se rfl (Om rfl (Oa rfl (Aa (Ac (.tmp rfl .nil) ?_))))); refine only rfl ?_
 simp [Bj, c0]
theorem F8 (s p : Af) (hs : s.length ≤ As) (hp : p.length ≤ As) (I : Heap) (L : At) : Fun Tryd.prog 40 [.string (str s), .string (str p)] I L (Cr (.string (str (if p.isPrefixOf s then s.drop p.length else s))) I L) := by
 unfold As at hs hp
 refine Ag (by simp) ?_; refine Se rfl (Oa rfl (Aa (Se rfl (Om rfl (Om rfl ?_))))); refine Ca rfl (E9 s p hs hp _ _) ?_; rintro _ _ _ _ ⟨rfl, rfl, rfl⟩; refine Oa rfl (Aa (Ac (.tmp rfl .nil) ?_)); refine only rfl ?_
 simp [Bj, *]
theorem Nd (s : Af) : (if [45].isPrefixOf s then s.drop [45].length else s) = Bf s := by
 cases s with
 | nil => rfl
 | cons b r =>
  have : ([45].isPrefixOf (b :: r) = true) = (b.toNat = 45) := by
   rw [eq_iff_iff, List.isPrefixOf_iff_prefix]
   simp only [List.cons_prefix_cons, List.nil_prefix, and_true]
   exact ⟨fun h => by rw [← h]; rfl, fun h => UInt8.toNat_inj.1 (by rw [h]; rfl)⟩
  simp [Bf, this]
theorem Ez (s : Af) (hs : s.length ≤ As) (I : Heap) (L : At) : Fun Tryd.prog 21 [.string (str s)] I L (Cr (.bool (Az s)) I L) := by
 have hu : (Bf s).length ≤ s.length := by unfold Bf; split <;> simp
 unfold As at hs
 refine Ag (by simp) ?_; refine Se rfl (Oa rfl (Aa (Se rfl (Om rfl ?_)))); refine Ca rfl ((Nd s) ▸ F8 s [45] (by unfold As; omega) (by decide) _ _) ?_; rintro _ _ _ _ ⟨rfl, rfl, rfl⟩; refine Oa rfl (Aa (Se rfl (Om rfl (Od rfl rfl rfl (Om rfl ?_)))))
 first | refine Fa rfl rfl ?_ ?_ | refine De rfl rfl ?_ ?_ | refine Jq rfl rfl ?_ ?_
 ·intro g2_3
  iterate 4 refine A9 rfl rfl rfl ?_
  refine Gm rfl rfl rfl ?_; refine Gm rfl rfl rfl ?_; refine A9 rfl rfl rfl ?_; refine A9 rfl rfl rfl ?_
  iterate 3 refine Gm rfl rfl rfl ?_
  refine A9 rfl rfl rfl ?_; refine Ot rfl rfl (Oa rfl (Aa (Ac (.tmp rfl .nil) ?_))); refine only rfl ?_; refine congrArg Value.bool ?_; simp only [Az]; grind
 intro g2_3; refine Ow rfl ?_; refine Aw rfl (.met rfl rfl) rfl ?_; refine Bs rfl (.met rfl rfl) rfl (Lt ..) ?_; rintro _ _ _ _ ⟨rfl, rfl, rfl⟩; refine Ow rfl ?_
 first | refine Fa rfl rfl ?_ ?_ | refine De rfl rfl ?_ ?_ | refine Jq rfl rfl ?_ ?_
 ·intro g2_7; refine Ow rfl ?_; refine Bs rfl (.met rfl rfl) rfl (Lr (Bf s) (by unfold As; omega) _ _) ?_; rintro _ _ _ _ ⟨rfl, rfl, rfl⟩; refine A7 rfl rfl (.met rfl rfl) rfl ?_; refine Ow rfl ?_
  first | refine Fa rfl rfl ?_ ?_ | refine De rfl rfl ?_ ?_ | refine Jq rfl rfl ?_ ?_
  ·intro g2_11; refine Ow rfl ?_; refine A2 (i := 0) rfl rfl rfl (by first | omega | exact Ax (by assumption) (by decide) | (simp; done) | (simp; omega) | decide | (simp at *; omega)) (.met rfl rfl) rfl ?_; refine A6 rfl rfl rfl (.met rfl rfl) rfl ?_; refine A7 rfl rfl (.met rfl rfl) rfl ?_; refine Of rfl rfl (Oa rfl (Aa (Ac (.tmp rfl .nil) ?_))); refine only rfl ?_; refine congrArg Value.bool ?_; simp only [Az]; grind
  intro g2_11
  iterate 3 refine A9 rfl rfl rfl ?_
  refine A0 rfl rfl (.met rfl rfl) rfl ?_; refine Of rfl rfl (Oa rfl (Aa (Ac (.tmp rfl .nil) ?_))); refine only rfl ?_; refine congrArg Value.bool ?_; simp only [Az]; grind
 intro g2_7; refine A9 rfl rfl rfl ?_; refine A9 rfl rfl rfl ?_; refine A0 rfl rfl (.met rfl rfl) rfl ?_; refine Ow rfl ?_
 iterate 3 refine A9 rfl rfl rfl ?_
 refine A0 rfl rfl (.met rfl rfl) rfl ?_; refine Of rfl rfl (Oa rfl (Aa (Ac (.tmp rfl .nil) ?_))); refine only rfl ?_; refine congrArg Value.bool ?_; simp only [Az]; grind

def NR (s : Af) (I : Heap) (L : At) : A5 := Cr (.tuple #[.int .i64 (bif Az s then B6 s else 0), .bool (Az s)]) I L
theorem E7 (l : Af) (h : l.length ≤ 3) : Bt l ≤ 4294967296 := by
 have h1 := Ku l
 have h2 : 256 ^ l.length ≤ 256 ^ 3 := Nat.pow_le_pow_right (by decide) h
 have h3 : 256 * 256 ^ l.length ≤ 256 * 256 ^ 3 := Nat.mul_le_mul_left _ h2
 omega
theorem G0         (s : Af ) (hs : s.length ≤ As  ) (I : Heap) (L : At ) : Fun Tryd.prog 38 [.string (str s)] I L (NR s I L) := by
  unfold As   at hs
  have hu : (Bf     s).length ≤ s.length := by unfold Bf    ; split <;> simp
  refine Ag        (by simp) ?_
  refine Se rfl (Oa rfl (Oa rfl (Aa     (Se rfl (Oa rfl (Aa     (Se rfl (Om rfl (Oa rfl (Aa     (Ai    (Se rfl (Om rfl ?_)))))))))))))
  refine Aw        rfl .free rfl ?_
  refine Oc rfl rfl rfl (Om rfl ?_)
  first | refine Fa   rfl rfl ?_ ?_ | refine De    rfl rfl ?_ ?_ | refine Jq  rfl rfl ?_ ?_
  · intro g3_4
    refine Ow rfl ?_
    refine A2      (i := 0) rfl rfl rfl (by first | omega | exact Ax    (by assumption) (by decide) | (simp; done) | (simp; omega) | decide | (simp at *; omega)) (.met rfl rfl) rfl ?_
    refine A6    rfl rfl rfl (.met rfl rfl) rfl ?_
    refine Ot rfl rfl (Aa     ?_)
    refine Si rfl ?_ ?_
    · intro c0
      refine Se rfl (Oa rfl (Aa     (Ap      rfl (Om rfl ?_))))
      refine Fp           rfl rfl 1 rfl (by first | omega | exact Ax    (by assumption) (by decide) | (simp; done) | (simp; omega) | decide | (simp at *; omega)) .free rfl ?_
      refine Oa rfl (Aa     (Ai    (Ai    ?_)))
      obtain ⟨sg, hsg, hsn⟩ : ∃ sg : Int, sg = (if (s.getD 0 0).toNat = 45 then -1 else 1) ∧ (sg = 1 ∨ sg = -1) := ⟨_, rfl, by split <;> simp⟩
      have hneg : (s.getD 0 0).toNat = 45 ∨ ¬ (s.getD 0 0).toNat = 45 := by omega
      refine B4    (E' := [(0, .string (str s)), (4, .int .i64 sg), (5, .string (str (Bf     s)))]) (by
        first
          | (rw [show Bf     s = s.drop 1 from if_pos (by omega), show sg = -1 by rw [hsg, if_pos (by omega)]]; exact ⟨rfl, rfl, rfl, trivial⟩)
          | (have hn : ¬ (s.getD 0 0).toNat = 45 := by
               first | omega | (have h0 : s = [] := by cases s with
                                  | nil => rfl
                                  | cons => simp at *
                                rw [h0]; decide)
             rw [show Bf     s = s from if_neg hn, show sg = 1 by rw [hsg, if_neg hn]]; exact ⟨rfl, rfl, rfl, trivial⟩)) ?_
      generalize hd : Bf     s = ds at *
      refine Ap      rfl (Om rfl (Od rfl rfl rfl (Aa     ?_)))
      refine Si rfl ?_ ?_
      · intro c1
        refine Se rfl (Oa rfl (Oa rfl (Aa     ?_)))
        refine Ac    (.tmp rfl (.tmp rfl .nil)) ?_
        refine only rfl ?_
        rw [‹s = [48]›]; rfl
      intro c1
      refine Aj     (Ai    (Se rfl (Om rfl ?_)))
      refine Aw        rfl .free rfl ?_
      refine Ca rfl (Kz     ..) ?_
      rintro _ _ _ _ ⟨rfl, rfl, rfl⟩
      refine Ck    rfl .free rfl ?_
      refine Om rfl ?_
      first | refine Fa   rfl rfl ?_ ?_ | refine De    rfl rfl ?_ ?_ | refine Jq  rfl rfl ?_ ?_
      · intro g8_5
        iterate 3 refine A9     rfl rfl rfl ?_
        refine Ot rfl rfl (Aa     ?_)
        refine Bk     rfl ?_
        refine Se rfl (Oa rfl (Oa rfl (Aa     ?_)))
        refine Ac    (.tmp rfl (.tmp rfl .nil)) ?_
        refine only rfl ?_
        have hf : Az    s = false := by simp only [Az   , hd]; grind
        rw [hf]; rfl
      intro g8_5
      refine Ow rfl ?_
      refine A2      (i := 0) rfl rfl rfl (by first | omega | exact Ax    (by assumption) (by decide) | (simp; done) | (simp; omega) | decide | (simp at *; omega)) (.met rfl rfl) rfl ?_
      refine A6    rfl rfl rfl (.met rfl rfl) rfl ?_
      refine Of rfl rfl (Aa     ?_)
      refine Si rfl ?_ ?_
      · intro c2
        refine Se rfl (Oa rfl (Oa rfl (Aa     ?_)))
        refine Ac    (.tmp rfl (.tmp rfl .nil)) ?_
        refine only rfl ?_
        have hf : Az    s = false := by simp only [Az   , hd]; grind
        rw [hf]; rfl
      intro c2
      refine Aj     (Se rfl (Oa rfl (Aa     (Ai    (Se rfl (Oa rfl (Aa     (Av      ?_))))))))
      have hl3 : ds.length ≤ 3 ∧ 1 ≤ ds.length := by grind
      refine Cc      (X := Nat) (fun i => ds.length - i) (fun i => [(4, .int .i64 sg), (5, .string (str ds)), (6, .int .i64 (Bt        (ds.take i) : Nat)), (7, .int .i64 (i : Nat))]) (fun _ => I) (fun _ => L) (fun i => i ≤ ds.length ∧ (ds.take i).all C8    = true) 0 ⟨by omega, by simp⟩ ⟨rfl, rfl, rfl, rfl, trivial⟩ Cy    ?_
      rintro i ⟨hi, hall⟩ ih
      have hv := E7            (ds.take i) (by simp; omega)
      refine Ai    (Se rfl (Om rfl (Om rfl ?_)))
      refine Aw        rfl .free rfl ?_
      refine Oc rfl rfl rfl (Aa     ?_)
      refine Si rfl ?_ ?_
      · intro c3
        refine Aj     (Ai    (Av      (Ai    (Se rfl (Om rfl (Om rfl ?_))))))
        refine A2      rfl rfl rfl (by first | omega | exact Ax    (by assumption) (by decide) | (simp; done) | (simp; omega) | decide | (simp at *; omega)) .free rfl ?_
        refine Oc rfl rfl rfl (Om rfl ?_)
        first | refine Fa   rfl rfl ?_ ?_ | refine De    rfl rfl ?_ ?_ | refine Jq  rfl rfl ?_ ?_
        · intro g14_5
          iterate 4 refine A9     rfl rfl rfl ?_
          refine Ot rfl rfl (Aa     ?_)
          refine Bk     rfl ?_
          refine Se rfl (Oa rfl (Oa rfl (Aa     ?_)))
          refine Ac    (.tmp rfl (.tmp rfl .nil)) ?_
          refine only rfl ?_
          have hf : Az    s = false := by
            have := Dp        (p := C8   ) (show i < ds.length by omega) (by rw [C6       ]; exact decide_eq_false (by omega))
            simp only [Az   , hd]; grind
          rw [hf]; rfl
        intro g14_5
        refine Ow rfl (Ow rfl ?_)
        refine A2      rfl rfl rfl (by first | omega | exact Ax    (by assumption) (by decide) | (simp; done) | (simp; omega) | decide | (simp at *; omega)) (.met rfl rfl) rfl ?_
        refine A6    rfl rfl rfl (.met rfl rfl) rfl ?_
        refine Of rfl rfl (Aa     ?_)
        refine Si rfl ?_ ?_
        · intro c4
          refine Se rfl (Oa rfl (Oa rfl (Aa     ?_)))
          refine Ac    (.tmp rfl (.tmp rfl .nil)) ?_
          refine only rfl ?_
          have hf : Az    s = false := by
            have := Dp        (p := C8   ) (show i < ds.length by omega) (by rw [C6       ]; exact decide_eq_false (by omega))
            simp only [Az   , hd]; grind
          rw [hf]; rfl
        intro c4
        refine Aj     (Ap      rfl (Om rfl ?_))
        refine Or rfl rfl rfl ?_
        refine Om rfl (Om rfl ?_)
        refine A2      rfl rfl rfl (by first | omega | exact Ax    (by assumption) (by decide) | (simp; done) | (simp; omega) | decide | (simp at *; omega)) .free rfl ?_
        refine M3     (b := 48) rfl rfl (by omega) (by have := UInt8.toNat_lt (ds.getD i 0); omega) .free rfl ?_
        refine Gl        rfl (by first | exact UInt8.toNat_lt _ | omega) .free rfl ?_
        refine Or rfl rfl rfl ?_
        refine Oa rfl (Aa     (Ar        (Ap      rfl (Om rfl ?_))))
        refine Or rfl rfl rfl ?_
        refine Oa rfl (Aa     ?_)
        refine B4    (E' := [(4, .int .i64 sg), (5, .string (str ds)), (6, .int .i64 (Bt        (ds.take (i + 1)) : Nat)), (7, .int .i64 ((i + 1 : Nat)))]) ⟨rfl, rfl, ?_, rfl, trivial⟩ (ih (i + 1) ⟨by omega, Ew       hall (by omega) (by rw [C6       ]; exact decide_eq_true (by omega))⟩ (by omega))
        rw [Es             ds i (by omega)]
        rfl
      intro c3
      refine C0     rfl ?_
      refine Se rfl (Om rfl (Om rfl ?_))
      refine Gk      rfl rfl rfl (by rcases hsn with h | h <;> rw [h] <;> omega) .free rfl ?_
      refine Oa rfl (Oa rfl (Aa     ?_))
      refine Ac    (.tmp rfl (.tmp rfl .nil)) ?_
      refine only rfl ?_
      have hil : i = ds.length := by omega
      subst hil
      rw [List.take_length] at hall
      have ht : Az    s = true := by simp only [Az   , hd]; grind
      rw [ht, List.take_length, hsg]
      simp only [B6    , hd, if_neg c1, cond_true]
      rfl
    intro c0
    refine Aj     (Ai    (Ai    ?_))
    obtain ⟨sg, hsg, hsn⟩ : ∃ sg : Int, sg = (if (s.getD 0 0).toNat = 45 then -1 else 1) ∧ (sg = 1 ∨ sg = -1) := ⟨_, rfl, by split <;> simp⟩
    have hneg : (s.getD 0 0).toNat = 45 ∨ ¬ (s.getD 0 0).toNat = 45 := by omega
    refine B4    (E' := [(0, .string (str s)), (4, .int .i64 sg), (5, .string (str (Bf     s)))]) (by
      first
        | (rw [show Bf     s = s.drop 1 from if_pos (by omega), show sg = -1 by rw [hsg, if_pos (by omega)]]; exact ⟨rfl, rfl, rfl, trivial⟩)
        | (have hn : ¬ (s.getD 0 0).toNat = 45 := by
             first | omega | (have h0 : s = [] := by cases s with
                                | nil => rfl
                                | cons => simp at *
                              rw [h0]; decide)
           rw [show Bf     s = s from if_neg hn, show sg = 1 by rw [hsg, if_neg hn]]; exact ⟨rfl, rfl, rfl, trivial⟩)) ?_
    generalize hd : Bf     s = ds at *
    refine Ap      rfl (Om rfl (Od rfl rfl rfl (Aa     ?_)))
    refine Si rfl ?_ ?_
    · intro c1
      refine Se rfl (Oa rfl (Oa rfl (Aa     ?_)))
      refine Ac    (.tmp rfl (.tmp rfl .nil)) ?_
      refine only rfl ?_
      rw [‹s = [48]›]; rfl
    intro c1
    refine Aj     (Ai    (Se rfl (Om rfl ?_)))
    refine Aw        rfl .free rfl ?_
    refine Ca rfl (Kz     ..) ?_
    rintro _ _ _ _ ⟨rfl, rfl, rfl⟩
    refine Ck    rfl .free rfl ?_
    refine Om rfl ?_
    first | refine Fa   rfl rfl ?_ ?_ | refine De    rfl rfl ?_ ?_ | refine Jq  rfl rfl ?_ ?_
    · intro g8_5
      iterate 3 refine A9     rfl rfl rfl ?_
      refine Ot rfl rfl (Aa     ?_)
      refine Bk     rfl ?_
      refine Se rfl (Oa rfl (Oa rfl (Aa     ?_)))
      refine Ac    (.tmp rfl (.tmp rfl .nil)) ?_
      refine only rfl ?_
      have hf : Az    s = false := by simp only [Az   , hd]; grind
      rw [hf]; rfl
    intro g8_5
    refine Ow rfl ?_
    refine A2      (i := 0) rfl rfl rfl (by first | omega | exact Ax    (by assumption) (by decide) | (simp; done) | (simp; omega) | decide | (simp at *; omega)) (.met rfl rfl) rfl ?_
    refine A6    rfl rfl rfl (.met rfl rfl) rfl ?_
    refine Of rfl rfl (Aa     ?_)
    refine Si rfl ?_ ?_
    · intro c2
      refine Se rfl (Oa rfl (Oa rfl (Aa     ?_)))
      refine Ac    (.tmp rfl (.tmp rfl .nil)) ?_
      refine only rfl ?_
      have hf : Az    s = false := by simp only [Az   , hd]; grind
      rw [hf]; rfl
    intro c2
    refine Aj     (Se rfl (Oa rfl (Aa     (Ai    (Se rfl (Oa rfl (Aa     (Av      ?_))))))))
    have hl3 : ds.length ≤ 3 ∧ 1 ≤ ds.length := by grind
    refine Cc      (X := Nat) (fun i => ds.length - i) (fun i => [(4, .int .i64 sg), (5, .string (str ds)), (6, .int .i64 (Bt        (ds.take i) : Nat)), (7, .int .i64 (i : Nat))]) (fun _ => I) (fun _ => L) (fun i => i ≤ ds.length ∧ (ds.take i).all C8    = true) 0 ⟨by omega, by simp⟩ ⟨rfl, rfl, rfl, rfl, trivial⟩ Cy    ?_
    rintro i ⟨hi, hall⟩ ih
    have hv := E7            (ds.take i) (by simp; omega)
    refine Ai    (Se rfl (Om rfl (Om rfl ?_)))
    refine Aw        rfl .free rfl ?_
    refine Oc rfl rfl rfl (Aa     ?_)
    refine Si rfl ?_ ?_
    · intro c3
      refine Aj     (Ai    (Av      (Ai    (Se rfl (Om rfl (Om rfl ?_))))))
      refine A2      rfl rfl rfl (by first | omega | exact Ax    (by assumption) (by decide) | (simp; done) | (simp; omega) | decide | (simp at *; omega)) .free rfl ?_
      refine Oc rfl rfl rfl (Om rfl ?_)
      first | refine Fa   rfl rfl ?_ ?_ | refine De    rfl rfl ?_ ?_ | refine Jq  rfl rfl ?_ ?_
      · intro g14_5
        iterate 4 refine A9     rfl rfl rfl ?_
        refine Ot rfl rfl (Aa     ?_)
        refine Bk     rfl ?_
        refine Se rfl (Oa rfl (Oa rfl (Aa     ?_)))
        refine Ac    (.tmp rfl (.tmp rfl .nil)) ?_
        refine only rfl ?_
        have hf : Az    s = false := by
          have := Dp        (p := C8   ) (show i < ds.length by omega) (by rw [C6       ]; exact decide_eq_false (by omega))
          simp only [Az   , hd]; grind
        rw [hf]; rfl
      intro g14_5
      refine Ow rfl (Ow rfl ?_)
      refine A2      rfl rfl rfl (by first | omega | exact Ax    (by assumption) (by decide) | (simp; done) | (simp; omega) | decide | (simp at *; omega)) (.met rfl rfl) rfl ?_
      refine A6    rfl rfl rfl (.met rfl rfl) rfl ?_
      refine Of rfl rfl (Aa     ?_)
      refine Si rfl ?_ ?_
      · intro c4
        refine Se rfl (Oa rfl (Oa rfl (Aa     ?_)))
        refine Ac    (.tmp rfl (.tmp rfl .nil)) ?_
        refine only rfl ?_
        have hf : Az    s = false := by
          have := Dp        (p := C8   ) (show i < ds.length by omega) (by rw [C6       ]; exact decide_eq_false (by omega))
          simp only [Az   , hd]; grind
        rw [hf]; rfl
      intro c4
      refine Aj     (Ap      rfl (Om rfl ?_))
      refine Or rfl rfl rfl ?_
      refine Om rfl (Om rfl ?_)
      refine A2      rfl rfl rfl (by first | omega | exact Ax    (by assumption) (by decide) | (simp; done) | (simp; omega) | decide | (simp at *; omega)) .free rfl ?_
      refine M3     (b := 48) rfl rfl (by omega) (by have := UInt8.toNat_lt (ds.getD i 0); omega) .free rfl ?_
      refine Gl        rfl (by first | exact UInt8.toNat_lt _ | omega) .free rfl ?_
      refine Or rfl rfl rfl ?_
      refine Oa rfl (Aa     (Ar        (Ap      rfl (Om rfl ?_))))
      refine Or rfl rfl rfl ?_
      refine Oa rfl (Aa     ?_)
      refine B4    (E' := [(4, .int .i64 sg), (5, .string (str ds)), (6, .int .i64 (Bt        (ds.take (i + 1)) : Nat)), (7, .int .i64 ((i + 1 : Nat)))]) ⟨rfl, rfl, ?_, rfl, trivial⟩ (ih (i + 1) ⟨by omega, Ew       hall (by omega) (by rw [C6       ]; exact decide_eq_true (by omega))⟩ (by omega))
      rw [Es             ds i (by omega)]
      rfl
    intro c3
    refine C0     rfl ?_
    refine Se rfl (Om rfl (Om rfl ?_))
    refine Gk      rfl rfl rfl (by rcases hsn with h | h <;> rw [h] <;> omega) .free rfl ?_
    refine Oa rfl (Oa rfl (Aa     ?_))
    refine Ac    (.tmp rfl (.tmp rfl .nil)) ?_
    refine only rfl ?_
    have hil : i = ds.length := by omega
    subst hil
    rw [List.take_length] at hall
    have ht : Az    s = true := by simp only [Az   , hd]; grind
    rw [ht, List.take_length, hsg]
    simp only [B6    , hd, if_neg c1, cond_true]
    rfl
  intro g3_4
  iterate 3 refine A9     rfl rfl rfl ?_
  refine Of rfl rfl (Aa     ?_)
  refine Cw      rfl ?_
  refine Aj     (Ai    (Ai    ?_))
  obtain ⟨sg, hsg, hsn⟩ : ∃ sg : Int, sg = (if (s.getD 0 0).toNat = 45 then -1 else 1) ∧ (sg = 1 ∨ sg = -1) := ⟨_, rfl, by split <;> simp⟩
  have hneg : (s.getD 0 0).toNat = 45 ∨ ¬ (s.getD 0 0).toNat = 45 := by omega
  refine B4    (E' := [(0, .string (str s)), (4, .int .i64 sg), (5, .string (str (Bf     s)))]) (by
    first
      | (rw [show Bf     s = s.drop 1 from if_pos (by omega), show sg = -1 by rw [hsg, if_pos (by omega)]]; exact ⟨rfl, rfl, rfl, trivial⟩)
      | (have hn : ¬ (s.getD 0 0).toNat = 45 := by
           first | omega | (have h0 : s = [] := by cases s with
                              | nil => rfl
                              | cons => simp at *
                            rw [h0]; decide)
         rw [show Bf     s = s from if_neg hn, show sg = 1 by rw [hsg, if_neg hn]]; exact ⟨rfl, rfl, rfl, trivial⟩)) ?_
  generalize hd : Bf     s = ds at *
  refine Ap      rfl (Om rfl (Od rfl rfl rfl (Aa     ?_)))
  refine Si rfl ?_ ?_
  · intro c1
    refine Se rfl (Oa rfl (Oa rfl (Aa     ?_)))
    refine Ac    (.tmp rfl (.tmp rfl .nil)) ?_
    refine only rfl ?_
    rw [‹s = [48]›]; rfl
  intro c1
  refine Aj     (Ai    (Se rfl (Om rfl ?_)))
  refine Aw        rfl .free rfl ?_
  refine Ca rfl (Kz     ..) ?_
  rintro _ _ _ _ ⟨rfl, rfl, rfl⟩
  refine Ck    rfl .free rfl ?_
  refine Om rfl ?_
  first | refine Fa   rfl rfl ?_ ?_ | refine De    rfl rfl ?_ ?_ | refine Jq  rfl rfl ?_ ?_
  · intro g8_5
    iterate 3 refine A9     rfl rfl rfl ?_
    refine Ot rfl rfl (Aa     ?_)
    refine Bk     rfl ?_
    refine Se rfl (Oa rfl (Oa rfl (Aa     ?_)))
    refine Ac    (.tmp rfl (.tmp rfl .nil)) ?_
    refine only rfl ?_
    have hf : Az    s = false := by simp only [Az   , hd]; grind
    rw [hf]; rfl
  intro g8_5
  refine Ow rfl ?_
  refine A2      (i := 0) rfl rfl rfl (by first | omega | exact Ax    (by assumption) (by decide) | (simp; done) | (simp; omega) | decide | (simp at *; omega)) (.met rfl rfl) rfl ?_
  refine A6    rfl rfl rfl (.met rfl rfl) rfl ?_
  refine Of rfl rfl (Aa     ?_)
  refine Si rfl ?_ ?_
  · intro c2
    refine Se rfl (Oa rfl (Oa rfl (Aa     ?_)))
    refine Ac    (.tmp rfl (.tmp rfl .nil)) ?_
    refine only rfl ?_
    have hf : Az    s = false := by simp only [Az   , hd]; grind
    rw [hf]; rfl
  intro c2
  refine Aj     (Se rfl (Oa rfl (Aa     (Ai    (Se rfl (Oa rfl (Aa     (Av      ?_))))))))
  have hl3 : ds.length ≤ 3 ∧ 1 ≤ ds.length := by grind
  refine Cc      (X := Nat) (fun i => ds.length - i) (fun i => [(4, .int .i64 sg), (5, .string (str ds)), (6, .int .i64 (Bt        (ds.take i) : Nat)), (7, .int .i64 (i : Nat))]) (fun _ => I) (fun _ => L) (fun i => i ≤ ds.length ∧ (ds.take i).all C8    = true) 0 ⟨by omega, by simp⟩ ⟨rfl, rfl, rfl, rfl, trivial⟩ Cy    ?_
  rintro i ⟨hi, hall⟩ ih
  have hv := E7            (ds.take i) (by simp; omega)
  refine Ai    (Se rfl (Om rfl (Om rfl ?_)))
  refine Aw        rfl .free rfl ?_
  refine Oc rfl rfl rfl (Aa     ?_)
  refine Si rfl ?_ ?_
  · intro c3
    refine Aj     (Ai    (Av      (Ai    (Se rfl (Om rfl (Om rfl ?_))))))
    refine A2      rfl rfl rfl (by first | omega | exact Ax    (by assumption) (by decide) | (simp; done) | (simp; omega) | decide | (simp at *; omega)) .free rfl ?_
    refine Oc rfl rfl rfl (Om rfl ?_)
    first | refine Fa   rfl rfl ?_ ?_ | refine De    rfl rfl ?_ ?_ | refine Jq  rfl rfl ?_ ?_
    · intro g14_5
      iterate 4 refine A9     rfl rfl rfl ?_
      refine Ot rfl rfl (Aa     ?_)
      refine Bk     rfl ?_
      refine Se rfl (Oa rfl (Oa rfl (Aa     ?_)))
      refine Ac    (.tmp rfl (.tmp rfl .nil)) ?_
      refine only rfl ?_
      have hf : Az    s = false := by
        have := Dp        (p := C8   ) (show i < ds.length by omega) (by rw [C6       ]; exact decide_eq_false (by omega))
        simp only [Az   , hd]; grind
      rw [hf]; rfl
    intro g14_5
    refine Ow rfl (Ow rfl ?_)
    refine A2      rfl rfl rfl (by first | omega | exact Ax    (by assumption) (by decide) | (simp; done) | (simp; omega) | decide | (simp at *; omega)) (.met rfl rfl) rfl ?_
    refine A6    rfl rfl rfl (.met rfl rfl) rfl ?_
    refine Of rfl rfl (Aa     ?_)
    refine Si rfl ?_ ?_
    · intro c4
      refine Se rfl (Oa rfl (Oa rfl (Aa     ?_)))
      refine Ac    (.tmp rfl (.tmp rfl .nil)) ?_
      refine only rfl ?_
      have hf : Az    s = false := by
        have := Dp        (p := C8   ) (show i < ds.length by omega) (by rw [C6       ]; exact decide_eq_false (by omega))
        simp only [Az   , hd]; grind
      rw [hf]; rfl
    intro c4
    refine Aj     (Ap      rfl (Om rfl ?_))
    refine Or rfl rfl rfl ?_
    refine Om rfl (Om rfl ?_)
    refine A2      rfl rfl rfl (by first | omega | exact Ax    (by assumption) (by decide) | (simp; done) | (simp; omega) | decide | (simp at *; omega)) .free rfl ?_
    refine M3     (b := 48) rfl rfl (by omega) (by have := UInt8.toNat_lt (ds.getD i 0); omega) .free rfl ?_
    refine Gl        rfl (by first | exact UInt8.toNat_lt _ | omega) .free rfl ?_
    refine Or rfl rfl rfl ?_
    refine Oa rfl (Aa     (Ar        (Ap      rfl (Om rfl ?_))))
    refine Or rfl rfl rfl ?_
    refine Oa rfl (Aa     ?_)
    refine B4    (E' := [(4, .int .i64 sg), (5, .string (str ds)), (6, .int .i64 (Bt        (ds.take (i + 1)) : Nat)), (7, .int .i64 ((i + 1 : Nat)))]) ⟨rfl, rfl, ?_, rfl, trivial⟩ (ih (i + 1) ⟨by omega, Ew       hall (by omega) (by rw [C6       ]; exact decide_eq_true (by omega))⟩ (by omega))
    rw [Es             ds i (by omega)]
    rfl
  intro c3
  refine C0     rfl ?_
  refine Se rfl (Om rfl (Om rfl ?_))
  refine Gk      rfl rfl rfl (by rcases hsn with h | h <;> rw [h] <;> omega) .free rfl ?_
  refine Oa rfl (Oa rfl (Aa     ?_))
  refine Ac    (.tmp rfl (.tmp rfl .nil)) ?_
  refine only rfl ?_
  have hil : i = ds.length := by omega
  subst hil
  rw [List.take_length] at hall
  have ht : Az    s = true := by simp only [Az   , hd]; grind
  rw [ht, List.take_length, hsg]
  simp only [B6    , hd, if_neg c1, cond_true]
  rfl
set_option maxRecDepth 100000
set_option linter.unusedVariables false
set_option linter.unusedSimpArgs false

def Nu : Af := [99, 97, 108, 108]
def Mj : Af := [112, 97, 105, 114]
def Sd : Af := [105, 102]
def Ov : Af := [108, 101, 116]
def P5 : Af := [102, 117, 110]
def Q0 : Af := [102, 115, 116]
def Q1 : Af := [115, 110, 100]
def Fe (h : Af) : Nat × Nat :=
 if h = [43] ∨ h = [45] ∨ h = [42] ∨ h = Nu ∨ h = Mj then (1, 3) else if h = Sd then (1, 4) else if h = Ov then (2, 4) else if h = P5 then (5, 6) else if h = Q0 ∨ h = Q1 then (1, 2) else (0, 0)
def KR (h : Af) (I : Heap) (L : At) : A5 := Cr (.tuple #[.int .i64 ((Fe h).1 : Nat), .int .i64 ((Fe h).2 : Nat)]) I L
def Rs (t : Tree) : List Nat := if t.parts.length = (Fe t.head).2 then List.range' (Fe t.head).1 ((Fe t.head).2 - (Fe t.head).1) else []
def nv (n : Nat) : Value := .int .i64 (n : Nat)
structure Nums (I : Heap) (oa : Option Addr) (l : List Nat) (c : Nat) : Prop where
 still : ∀ x, oa = some x → Still I x (l.map nv)
 nil : oa = none → l = []
 cap : l.length ≤ c
theorem Nums.mono {I I' : Heap} {oa : Option Addr} {l : List Nat} {c : Nat} (hle : HLe I I') (h : Nums I oa l c) : Nums I' oa l c := ⟨fun x hx => (h.still x hx).mono hle, h.nil, h.cap⟩
theorem Nums.at {I : Heap} {oa : Option Addr} {l : List Nat} {c : Nat} (h : Nums I oa l c) (i : Nat) (hi : i < l.length) : ∃ x, oa = some x ∧ Still I (x.add (i * 1)) [.int .i64 (l[i] : Nat)] := by
 cases oa with
 | none => have := h.nil rfl; subst this; simp at hi
 | some x =>
  refine ⟨x, rfl, (h.still x rfl).part (i * 1) ?_⟩; intro j hj; obtain rfl : j = 0 := by simpa using hj
  simp [hi, nv]
def KD (l : List Nat) (L : At) : A5 := fun v I' L' => ∃ oa c, v = .slice oa (List.length l) c ∧ Nums I' oa l c ∧ L = L'
set_option maxRecDepth 100000
set_option linter.unusedVariables false
set_option linter.unusedSimpArgs false

inductive Ty where
 | i
 | fn (a b : Ty)
 | pr (a b : Ty)
def Ty.tree : Ty → Tree
 | .i => .node [105] []
 | .fn a b => .node [] [.node [62] [], a.tree, b.tree]
 | .pr a b => .node [] [.node [42] [], a.tree, b.tree]
def Ty.size : Ty → Nat
 | .i => 1
 | .fn a b => 1 + a.size + b.size
 | .pr a b => 1 + a.size + b.size
def Ty.dec : (a b : Ty) → Decidable (a = b)
 | .i, .i => isTrue rfl
 | .fn a b, .fn c d => match Ty.dec a c, Ty.dec b d with
  | isTrue h, isTrue h' => isTrue (by rw [h, h'])
  | isFalse h, _ => isFalse (fun e => h (Ty.fn.inj e).1)
  | _, isFalse h => isFalse (fun e => h (Ty.fn.inj e).2)
 | .pr a b, .pr c d => match Ty.dec a c, Ty.dec b d with
  | isTrue h, isTrue h' => isTrue (by rw [h, h'])
  | isFalse h, _ => isFalse (fun e => h (Ty.pr.inj e).1)
  | _, isFalse h => isFalse (fun e => h (Ty.pr.inj e).2)
 | .i, .fn _ _ => isFalse (by simp)
 | .i, .pr _ _ => isFalse (by simp)
 | .fn _ _, .i => isFalse (by simp)
 | .fn _ _, .pr _ _ => isFalse (by simp)
 | .pr _ _, .i => isFalse (by simp)
 | .pr _ _, .fn _ _ => isFalse (by simp)
instance : DecidableEq Ty := Ty.dec

inductive B5 where
 | add | sub | mul | call | pair
inductive U2 where
 | fst | snd
def B5.txt : B5 → Af
 | .add => [43] | .sub => [45] | .mul => [42] | .call => Nu | .pair => Mj
def U2.txt : U2 → Af
 | .fst => Q0 | .snd => Q1
inductive Ex where
 | num (s : Af)
 | name (s : Af)
 | bin (o : B5) (a b : Ex)
 | ite (a b c : Ex)
 | lt (x : Af) (a b : Ex)
 | fn (f x : Af) (s t : Ty) (b : Ex)
 | un (o : U2) (a : Ex)
def Ex.tree : Ex → Tree
 | .num s => .node s []
 | .name s => .node s []
 | .bin o a b => .node [] [.node o.txt [], a.tree, b.tree]
 | .ite a b c => .node [] [.node Sd [], a.tree, b.tree, c.tree]
 | .lt x a b => .node [] [.node Ov [], .node x [], a.tree, b.tree]
 | .fn f x s t b => .node [] [.node P5 [], .node f [], .node x [], s.tree, t.tree, b.tree]
 | .un o a => .node [] [.node o.txt [], a.tree]
def Ex.ok : Ex → Bool
 | .num s => Az s
 | .name s => Bq s
 | .bin _ a b => a.ok && b.ok
 | .ite a b c => a.ok && b.ok && c.ok
 | .lt x a b => Bq x && a.ok && b.ok
 | .fn f x s t b => Bq f && Bq x && decide (f ≠ x) && decide (s.size ≤ 16) && decide (t.size ≤ 16) && b.ok
 | .un _ a => a.ok
def Ex.size : Ex → Nat
 | .num _ => 1
 | .name _ => 1
 | .bin _ a b => 1 + a.size + b.size
 | .ite a b c => 1 + a.size + b.size + c.size
 | .lt _ a b => 2 + a.size + b.size
 | .fn _ _ s t b => 3 + s.size + t.size + b.size
 | .un _ a => 1 + a.size

/- From forms. -/
def B5.of (h : Af) : Option B5 :=
 if h = [43] then some .add else if h = [45] then some .sub else if h = [42] then some .mul else if h = Nu then some .call else if h = Mj then some .pair else none
def U2.of (h : Af) : Option U2 := if h = Q0 then some .fst else if h = Q1 then some .snd else none
theorem B5.of_txt (o : B5) : B5.of o.txt = some o := by cases o <;> rfl
theorem U2.of_txt (o : U2) : U2.of o.txt = some o := by cases o <;> rfl
def Tree.ty : Tree → Option Ty
 | .node a [] => if a = [105] then some .i else none
 | .node _ [h, x, y] => match x.ty, y.ty with
  | some a, some b => if h.atom = [62] then some (.fn a b) else if h.atom = [42] then some (.pr a b) else none
  | _, _ => none
 | .node _ _ => none
def Tree.ex : Tree → Option Ex
 | .node a [] => if Bq a then some (.name a) else if Az a then some (.num a) else none
 | .node _ [h, x] => match U2.of h.atom, x.ex with
  | some o, some a => some (.un o a)
  | _, _ => none
 | .node _ [h, x, y] => match B5.of h.atom, x.ex, y.ex with
  | some o, some a, some b => some (.bin o a b)
  | _, _, _ => none
 | .node _ [h, x, y, z] => if h.atom = Sd then (match x.ex, y.ex, z.ex with
   | some a, some b, some c => some (.ite a b c)
   | _, _, _ => none)
  else if h.atom = Ov ∧ Bq x.atom = true then (match y.ex, z.ex with
   | some a, some b => some (.lt x.atom a b)
   | _, _ => none)
  else none
 | .node _ [h, f, x, s, t, b] => if h.atom = P5 ∧ Bq f.atom = true ∧ Bq x.atom = true ∧ f.atom ≠ x.atom ∧ s.size ≤ 16 ∧ t.size ≤ 16 then (match s.ty, t.ty, b.ex with
   | some s, some t, some b => some (.fn f.atom x.atom s t b)
   | _, _, _ => none)
  else none
 | .node _ _ => none

theorem J8 {a : Af} {p : Tree} {ps : List Tree} (h : (Tree.node a (p :: ps)).good = true) : a = [] ∧ p.good = true ∧ Dr ps = true := by
 simp [Tree.good, Dr] at h; exact ⟨h.1, h.2.1, h.2.2⟩
set_option maxRecDepth 100000
set_option linter.unusedVariables false
set_option linter.unusedSimpArgs false

theorem Mk : ∀ ts : List Tree, ts.length ≤ (Cp ts).length
 | [] => Nat.le_refl _
 | t :: ts => by have := Mk ts; simp [Cp]; omega
theorem Jr {p : UInt8 → Bool} {a r : Af} (ha : a.all p = true) (hr : ∀ c, r.head? = some c → p c = false) : (a ++ r).takeWhile p = a ∧ (a ++ r).dropWhile p = r := by
 have hp : ∀ x ∈ a, p x = true := by simpa using ha
 rw [List.takeWhile_append_of_pos hp, List.dropWhile_append_of_pos hp]
 cases r with
 | nil => simp
 | cons c r => have := hr c rfl; simp [List.takeWhile, List.dropWhile, this]
theorem O2 {c : UInt8} (h : Ce c = true) : c.toNat ≠ 40 ∧ c.toNat ≠ 41 ∧ c.toNat ≠ 32 := by
 simp [Ce] at h; omega
mutual
theorem Jb : ∀ (t : Tree) (k : Nat) (r : Af), t.good = true → t.bytes = true → (∀ c, r.head? = some c → Ce c = false) →
  Bg k (t.text ++ r) = if t.depth ≤ k then some (t, r) else none
 | .node a [], k, r, hg, hb, hr => by
  simp [Tree.good, Dr] at hg
  simp only [Tree.bytes, E6, Bool.and_true] at hb
  obtain ⟨h1, h2⟩ := Jr hb hr
  have h40 : ((a ++ r).getD 0 0).toNat ≠ 40 := by
   cases a with
   | nil => exact absurd rfl hg
   | cons c a => simp at hb; exact (O2 hb.1).1
  simp only [Tree.text, Tree.depth, List.isEmpty_nil, cond_true, Nat.zero_le, if_true]
  rw [Dn h40, h1, h2, if_neg hg]
 | .node a (t :: ts), k, r, hg, hb, hr => by
  obtain ⟨rfl, g1, g2⟩ := J8 hg
  simp only [Tree.bytes, E6, Bool.and_eq_true] at hb
  have e : (Tree.node [] (t :: ts)).text ++ r = 40 :: (t.text ++ Cp ts ++ 41 :: r) := by simp [Tree.text]
  rw [e]
  cases k with
  | zero => rw [Eu (by rfl), if_neg (by simp [Tree.depth])]
  | succ k =>
   rw [Ec (by rfl)]
   have hl := Mk ts
   rw [show (40 :: (t.text ++ Cp ts ++ 41 :: r)).drop 1 = t.text ++ Cp ts ++ 41 :: r from rfl]; rw [Hc t ts k _ r g1 g2 hb.2.1 hb.2.2 (by simp; omega)]
   have hdep : (Tree.node [] (t :: ts)).depth = Bz (t :: ts) + 1 := rfl
   by_cases hd : Bz (t :: ts) ≤ k
   ·rw [if_pos hd, if_pos (show (Tree.node [] (t :: ts)).depth ≤ k + 1 by omega)]
   ·rw [if_neg hd, if_neg (show ¬ (Tree.node [] (t :: ts)).depth ≤ k + 1 by omega)]
theorem Hc : ∀ (t : Tree) (ts : List Tree) (k n : Nat) (r : Af), t.good = true → Dr ts = true → t.bytes = true → E6 ts = true → ts.length + 1 ≤ n →
  Bn (Bg k) n (t.text ++ Cp ts ++ 41 :: r) = if Bz (t :: ts) ≤ k then some (t :: ts, r) else none
 | t, [], k, n, r, hg, hg2, hb, hb2, hn => by
  obtain ⟨m, rfl⟩ : ∃ m, n = m + 1 := ⟨n - 1, by simp at hn; omega⟩
  have := Jb t k (41 :: r) hg hb (by intro c hc; simp at hc; subst hc; decide)
  simp only [Cp, List.append_nil, Bn, this]
  by_cases hd : t.depth ≤ k
  ·rw [if_pos hd, if_pos (by simp [Bz]; omega)]; rfl
  ·rw [if_neg hd, if_neg (by simp [Bz]; omega)]
 | t, u :: us, k, n, r, hg, hg2, hb, hb2, hn => by
  obtain ⟨m, rfl⟩ : ∃ m, n = m + 1 := ⟨n - 1, by simp at hn; omega⟩
  simp only [Dr, Bool.and_eq_true] at hg2
  simp only [E6, Bool.and_eq_true] at hb2
  have h1 := Jb t k (32 :: (u.text ++ Cp us ++ 41 :: r)) hg hb (by intro c hc; simp at hc; subst hc; decide)
  have h2 := Hc u us k m r hg2.1 hg2.2 hb2.1 hb2.2 (by simp at hn; omega)
  have e : t.text ++ Cp (u :: us) ++ 41 :: r = t.text ++ 32 :: (u.text ++ Cp us ++ 41 :: r) := by simp [Cp]
  rw [e]
  simp only [Bn, h1]
  by_cases hd : t.depth ≤ k
  ·rw [if_pos hd]
   have c1 : ((32 : UInt8).toNat == 41) = false := by decide
   have c2 : ((32 : UInt8).toNat == 32) = true := by decide
   simp only [c1, c2, cond_false, cond_true, h2]
   by_cases hd2 : Bz (u :: us) ≤ k
   ·rw [if_pos hd2, if_pos (by simp only [Bz] at *; omega)]
   ·rw [if_neg hd2, if_neg (by simp only [Bz] at *; omega)]
  ·rw [if_neg hd, if_neg (by simp [Bz]; omega)]
end
def Tree.fits (t : Tree) : Bool := decide (t.depth ≤ 60) && decide (t.len ≤ 12000)
theorem M7 {s : Af} {t : Tree} (h : Bv s = some t) : t.fits = true ∧ t.good = true ∧ t.bytes = true := by
 obtain ⟨h1, h2⟩ := M6 h
 have h3 := h1.text
 rw [List.append_nil] at h3; refine ⟨?_, h1.good, h1.bytes⟩
 have := h1.depth
 rw [h3, t.text_len] at h2
 simp [Tree.fits, this, h2]

theorem J9 {s : Af} (h : Az s = true) : s.length ≤ 4 := by
 simp only [Az, Bool.or_eq_true, decide_eq_true_eq] at h
 rcases h with rfl | h
 ·decide
 ·simp only [Bool.and_eq_true, decide_eq_true_eq] at h
  have := h.1.1
  unfold Bf at this
  split at this
  ·rw [List.length_drop] at this; omega
  ·omega
def Ex.fine (e : Ex) : Bool := e.ok && decide (e.size ≤ 120) && e.tree.fits
def G7 (s : Af) : Option Ex := match Bv s with
 | some t => match t.ex with
  | some e => if e.size ≤ 120 then some e else none
  | none => none
 | none => none
theorem Ty.size_pos : ∀ a : Ty, 1 ≤ a.size
 | .i => Nat.le_refl _
 | .fn a b => by simp [Ty.size]; omega
 | .pr a b => by simp [Ty.size]; omega
theorem Ty.tree_small : ∀ a : Ty, a.tree.depth + 1 ≤ a.size ∧ a.tree.len + 3 ≤ 5 * a.size
 | .i => ⟨Nat.le_refl _, by simp [Ty.tree, Tree.len, Ty.size]⟩
 | .fn a b => by
  have := a.tree_small; have := b.tree_small; have := a.size_pos; have := b.size_pos
  simp [Ty.tree, Tree.depth, Bz, Tree.len, Df, Ty.size]; omega
 | .pr a b => by
  have := a.tree_small; have := b.tree_small; have := a.size_pos; have := b.size_pos
  simp [Ty.tree, Tree.depth, Bz, Tree.len, Df, Ty.size]; omega
set_option maxRecDepth 100000
set_option linter.unusedVariables false
set_option linter.unusedSimpArgs false

def Ex.occ : Ex → List Af → List Af
 | .num _, _ => []
 | .name s, bd => if s ∈ bd then [] else [s]
 | .bin _ a b, bd => a.occ bd ++ b.occ bd
 | .ite a b c, bd => a.occ bd ++ b.occ bd ++ c.occ bd
 | .lt x a b, bd => a.occ bd ++ b.occ (bd ++ [x])
 | .fn f x _ _ b, bd => b.occ (bd ++ [f, x])
 | .un _ a, bd => a.occ bd
def Qf (l : List Af) (s : Af) : List Af := if s ∈ l then l else l ++ [s]
def Ko (l m : List Af) : List Af := m.foldl Qf l
def Ex.free (e : Ex) : List Af := Ko [] (e.occ [])
def Ex.closed (e : Ex) : Bool := (e.occ []).isEmpty
def Ex.count (n : Af) : Ex → Nat
 | .num _ => 0
 | .name s => if s = n then 1 else 0
 | .bin _ a b => a.count n + b.count n
 | .ite a b c => a.count n + b.count n + c.count n
 | .lt x a b => a.count n + (if x = n then 0 else b.count n)
 | .fn f x _ _ b => if f = n ∨ x = n then 0 else b.count n
 | .un _ a => a.count n
def Ex.put : Ex → Af → Ex → Ex
 | .num s, _, _ => .num s
 | .name s, n, v => if s = n then v else .name s
 | .bin o a b, n, v => .bin o (a.put n v) (b.put n v)
 | .ite a b c, n, v => .ite (a.put n v) (b.put n v) (c.put n v)
 | .lt x a b, n, v => .lt x (a.put n v) (if x = n then b else b.put n v)
 | .fn f x s t b, n, v => .fn f x s t (if f = n ∨ x = n then b else b.put n v)
 | .un o a, n, v => .un o (a.put n v)

/- Types. -/
def Ft (l : List Af) (m : List Ty) (s : Af) : Option Ty := (A3 l s).bind (fun i => m[i]?)
def B5.ty : B5 → Ty → Ty → Option Ty
 | .call, s, t => match s with
  | .fn a b => if a = t then some b else none
  | _ => none
 | .pair, s, t => if (Ty.pr s t).size ≤ 16 then some (.pr s t) else none
 | _, s, t => if s = .i ∧ t = .i then some .i else none
def U2.ty : U2 → Ty → Option Ty
 | .fst, .pr a _ => some a
 | .snd, .pr _ b => some b
 | _, _ => none
def Ex.chk : Ex → List Af → List Ty → Except Ex Ty
 | .num _, _, _ => .ok .i
 | .name s, l, m => match Ft l m s with
  | some t => .ok t
  | none => .error (.name s)
 | .bin o a b, l, m => match a.chk l m with
  | .error e => .error e
  | .ok s => match b.chk l m with
   | .error e => .error e
   | .ok t => match o.ty s t with
    | some u => .ok u
    | none => .error (.bin o a b)
 | .ite a b c, l, m => match a.chk l m with
  | .error e => .error e
  | .ok s => match b.chk l m with
   | .error e => .error e
   | .ok t => match c.chk l m with
    | .error e => .error e
    | .ok u => if s = .i ∧ t = u then .ok t else .error (.ite a b c)
 | .lt x a b, l, m => match a.chk l m with
  | .error e => .error e
  | .ok s => b.chk (l ++ [x]) (m ++ [s])
 | .fn f x s t b, l, m => if (Ty.fn s t).size ≤ 16 then (match b.chk (l ++ [f, x]) (m ++ [.fn s t, s]) with
   | .error e => .error e
   | .ok u => if u = t then .ok (.fn s t) else .error (.fn f x s t b))
  else .error (.fn f x s t b)
 | .un o a, l, m => match a.chk l m with
  | .error e => .error e
  | .ok s => match o.ty s with
   | some u => .ok u
   | none => .error (.un o a)
def Ex.ty (e : Ex) (l : List Af) (m : List Ty) : Option Ty := match e.chk l m with
 | .ok t => some t
 | .error _ => none
set_option maxRecDepth 100000
set_option linter.unusedVariables false
set_option linter.unusedSimpArgs false

def Sv : Tree := .node [] []
def Tree.pt (t : Tree) (i : Nat) : Tree := t.parts.getD i Sv
theorem Tree.pt_at {t : Tree} {i : Nat} (h : i < t.parts.length) : t.pt i = t.parts[i] := by simp [Tree.pt, h]
theorem Tree.pt_lt (t : Tree) (i : Nat) (h : i < t.parts.length) : SizeOf.sizeOf (t.pt i) < SizeOf.sizeOf t := by rw [Tree.pt_at h]; exact t.part_lt i h
theorem Tree.pt_good {t : Tree} (hg : t.good = true) (i : Nat) (h : i < t.parts.length) : (t.pt i).good = true := by rw [Tree.pt_at h]; exact t.good_part hg i h
def Tg (t : Tree) : Bool :=
 if t.head = Ov then Bq (t.pt 1).atom
 else if t.head = P5 then Bq (t.pt 1).atom && Bq (t.pt 2).atom && decide ((t.pt 1).atom ≠ (t.pt 2).atom) && (t.pt 3).typed && (t.pt 4).typed
 else true
set_option maxRecDepth 100000
set_option linter.unusedVariables false
set_option linter.unusedSimpArgs false

def K8 (oa : Option Addr) : Addr := oa.getD ⟨0, 0, none⟩
section rules
variable {P : Program} {f : FuncId} {n : Nat} {I₀ : Heap} {Q : A5} {k : List Item} {E : D3} {I : Heap} {L : At}
variable {ops : Array Oper} {d : Nat} {ty : TypeId} {pos : String} {af : Array Edge} {g : Option (Nat × Bool)} {l : List Oper}
theorem P2 {oa : Option Addr} {m i : Nat} (hn : oa = none → m = 0) (hi : i < m) : oa = some (K8 oa) := by
 cases oa with
 | none => have := hn rfl; omega
 | some x => rfl
theorem Hi {S : World → Prop} {T e : TypeId} {sz bb esz ebb : Nat} {z ez : List Value} {dd : TypeDesc} [ht : Ae P T (.slice e) sz bb z] [hte : Ae P e dd esz ebb ez] {x y : Operand} {oa : Option Addr} {m c : Nat} {i : Int}
  (hx : Au E x = some (.slice oa m c)) (hy : Au E y = some (.int .i64 i)) (i' : Nat) (hi : i = i') (him : i' < m) (hn : oa = none → m = 0) : Dz P E S ⟨some d, .indexAddr T x y, ty, pos, af, g⟩ (.pointer (some ((K8 oa).add (i' * esz)))) :=
 Dw hx hy i' hi him (P2 hn him)
theorem K5 {T e : TypeId} {sz bb esz ebb : Nat} {z ez : List Value} {dd : TypeDesc} [ht : Ae P T (.slice e) sz bb z] [hte : Ae P e dd esz ebb ez] {x y : Operand} {oa : Option Addr} {m c : Nat} {i : Int}
  (hx : Au E x = some (.slice oa m c)) (hy : Au E y = some (.int .i64 i)) (i' : Nat) (hi : i = i') (him : i' < m) (hn : oa = none → m = 0) (hg : Wants ops E g) (hdn : Nat.blt d n = true)
  (h : Ah P f n I₀ Q ops l k ((d, .pointer (some ((K8 oa).add (i' * esz)))) :: E) I L) : Ah P f n I₀ Q ops (⟨some d, .indexAddr T x y, ty, pos, af, g⟩ :: l) k E I L :=
 Bi (Hi hx hy i' hi him hn) hg hdn h
theorem Rh {S : World → Prop} {T e : TypeId} {sz bb esz ebb : Nat} {z ez : List Value} {dd : TypeDesc} [ht : Ae P T (.slice e) sz bb z] [hte : Ae P e dd esz ebb ez] {x y : Operand} {oa : Option Addr} {m c : Nat} {i : Int}
  (hx : Au E x = some (.slice oa m c)) (hy : Au E y = some (.int .i64 i)) (i' : Nat) (hi : i = i') (him : i' < m := by first | omega | exact Ax (by assumption) (by decide) | (simp; done) | (simp; omega) | decide | (simp at *; omega)) (hn : oa = none → m = 0 := by first | assumption | exact FormAt.nil (by assumption) | exact Strs.nil' (by assumption) | exact Nums.nil' (by assumption) | exact Raw.nil' (by assumption)) : Dz P E S ⟨some d, .indexAddr T x y, ty, pos, af, g⟩ (.pointer (some ((K8 oa).add (i' * esz)))) := Hi hx hy i' hi him hn
theorem E1 {T e : TypeId} {sz bb esz ebb : Nat} {z ez : List Value} {dd : TypeDesc} [ht : Ae P T (.slice e) sz bb z] [hte : Ae P e dd esz ebb ez] {x y : Operand} {oa : Option Addr} {m c : Nat} {i : Int}
  (hx : Au E x = some (.slice oa m c)) (hy : Au E y = some (.int .i64 i)) (i' : Nat) (hi : i = i') (hg : Wants ops E g) (hdn : Nat.blt d n = true)
  (h : Ah P f n I₀ Q ops l k ((d, .pointer (some ((K8 oa).add (i' * esz)))) :: E) I L) (him : i' < m := by first | omega | exact Ax (by assumption) (by decide) | (simp; done) | (simp; omega) | decide | (simp at *; omega)) (hn : oa = none → m = 0 := by first | assumption | exact FormAt.nil (by assumption) | exact Strs.nil' (by assumption) | exact Nums.nil' (by assumption) | exact Raw.nil' (by assumption)) : Ah P f n I₀ Q ops (⟨some d, .indexAddr T x y, ty, pos, af, g⟩ :: l) k E I L := K5 hx hy i' hi him hn hg hdn h
theorem Ri {S : World → Prop} {T e : TypeId} {sz bb esz ebb : Nat} {z ez : List Value} {dd : TypeDesc} [ht : Ae P T (.slice e) sz bb z] [hte : Ae P e dd esz ebb ez] {x y : Operand} {oa : Option Addr} {ad : Addr} {m c : Nat} {i : Int}
  (hx : Au E x = some (.slice oa m c)) (hy : Au E y = some (.int .i64 i)) (i' : Nat) (hi : i = i') (him : i' < m := by first | omega | exact Ax (by assumption) (by decide) | (simp; done) | (simp; omega) | decide | (simp at *; omega)) (hn : oa = some ad := by first | rfl | assumption) : Dz P E S ⟨some d, .indexAddr T x y, ty, pos, af, g⟩ (.pointer (some (ad.add (i' * esz)))) := Dw hx hy i' hi him hn
theorem E2 {T e : TypeId} {sz bb esz ebb : Nat} {z ez : List Value} {dd : TypeDesc} [ht : Ae P T (.slice e) sz bb z] [hte : Ae P e dd esz ebb ez] {x y : Operand} {oa : Option Addr} {ad : Addr} {m c : Nat} {i : Int}
  (hx : Au E x = some (.slice oa m c)) (hy : Au E y = some (.int .i64 i)) (i' : Nat) (hi : i = i') (hg : Wants ops E g) (hdn : Nat.blt d n = true)
  (h : Ah P f n I₀ Q ops l k ((d, .pointer (some (ad.add (i' * esz)))) :: E) I L) (him : i' < m := by first | omega | exact Ax (by assumption) (by decide) | (simp; done) | (simp; omega) | decide | (simp at *; omega)) (hn : oa = some ad := by first | rfl | assumption) : Ah P f n I₀ Q ops (⟨some d, .indexAddr T x y, ty, pos, af, g⟩ :: l) k E I L := Bi (Dw hx hy i' hi him hn) hg hdn h
end rules

structure FormAt (I : Heap) (t : Tree) (oa : Option Addr) (c : Nat) (oaf : Nat → Option Addr) (cf : Nat → Nat) : Prop where
 rep : Rep I t [.string (str t.atom), .slice oa t.parts.length c]
 part : ∀ i (hi : i < t.parts.length), Rep I (t.pt i) [.string (str (t.pt i).atom), .slice (oaf i) (t.pt i).parts.length (cf i)] ∧ Still I ((K8 oa).add (i * 2)) [.string (str (t.pt i).atom), .slice (oaf i) (t.pt i).parts.length (cf i)]
 nil : oa = none → t.parts.length = 0
 len : t.parts.length ≤ As
 alen : t.atom.length ≤ As
 cap : t.parts.length ≤ c
theorem FormAt.mono {I I' : Heap} (hle : HLe I I') {t : Tree} {oa : Option Addr} {c : Nat} {oaf : Nat → Option Addr} {cf : Nat → Nat} (h : FormAt I t oa c oaf cf) : FormAt I' t oa c oaf cf :=
 ⟨h.rep.mono hle, fun i hi => ⟨(h.part i hi).1.mono hle, (h.part i hi).2.mono hle⟩, h.nil, h.len, h.alen, h.cap⟩
theorem FormAt.st {I : Heap} {t : Tree} {oa : Option Addr} {c : Nat} {oaf : Nat → Option Addr} {cf : Nat → Nat} (h : FormAt I t oa c oaf cf) (i : Nat) (hi : i < t.parts.length) : Still I ((K8 oa).add (i * 2)) [.string (str (t.pt i).atom), .slice (oaf i) (t.pt i).parts.length (cf i)] := (h.part i hi).2
theorem FormAt.rp {I : Heap} {t : Tree} {oa : Option Addr} {c : Nat} {oaf : Nat → Option Addr} {cf : Nat → Nat} (h : FormAt I t oa c oaf cf) (i : Nat) (hi : i < t.parts.length) : Rep I (t.pt i) [.string (str (t.pt i).atom), .slice (oaf i) (t.pt i).parts.length (cf i)] := (h.part i hi).1
theorem Rep.at' {I : Heap} {t : Tree} {cs : List Value} (h : Rep I t cs) : ∃ oa c oaf cf, cs = [.string (str t.atom), .slice oa t.parts.length c] ∧ FormAt I t oa c oaf cf := by
 obtain ⟨oa, c, vs, rfl, hl, hs, hn, hc, ha, hp⟩ := h.open
 have key : ∀ i, ∃ p : Option Addr × Nat, ∀ hi : i < t.parts.length, Rep I (t.pt i) [.string (str (t.pt i).atom), .slice p.1 (t.pt i).parts.length p.2] ∧ Still I ((K8 oa).add (i * 2)) [.string (str (t.pt i).atom), .slice p.1 (t.pt i).parts.length p.2] := by
  intro i
  by_cases hi : i < t.parts.length
  ·obtain ⟨x, rfl, oa', c', h1, h2⟩ := Rep.at hl hs hn i hi; rw [Tree.pt_at hi]
   exact ⟨(oa', c'), fun _ => ⟨h1, h2⟩⟩
  ·exact ⟨(none, 0), fun h => absurd h hi⟩
 exact ⟨oa, c, fun i => (Classical.choose (key i)).1, fun i => (Classical.choose (key i)).2, rfl, h, fun i hi => Classical.choose_spec (key i) hi, fun e => by rw [hn e]; rfl, hp, ha, hc⟩
theorem Rep.atom_le {I : Heap} {t : Tree} {cs : List Value} (h : Rep I t cs) : t.atom.length ≤ As := by obtain ⟨_, _, _, _, _, _, _, _, ha, _⟩ := h.open; exact ha
theorem Nums.st {I : Heap} {oa : Option Addr} {l : List Nat} {c : Nat} (h : Nums I oa l c) (i : Nat) (hi : i < l.length) : Still I ((K8 oa).add (i * 1)) [.int .i64 (l.getD i 0 : Nat)] := by
 obtain ⟨x, rfl, hx⟩ := h.at i hi; rw [show l.getD i 0 = l[i] by simp [hi]]; exact hx
theorem Nums.nil' {I : Heap} {oa : Option Addr} {l : List Nat} {c : Nat} (h : Nums I oa l c) (e : oa = Option.none) : l.length = 0 := by rw [h.nil e]; rfl
theorem Strs.st {I : Heap} {oa : Option Addr} {l : List Af} {c : Nat} (h : Strs I oa l c) (i : Nat) (hi : i < l.length) : Still I ((K8 oa).add (i * 1)) [.string (str (l.getD i []))] := by
 obtain ⟨x, rfl, hx⟩ := h.at i hi; rw [show l.getD i [] = l[i] by simp [hi]]; exact hx
theorem Strs.nil' {I : Heap} {oa : Option Addr} {l : List Af} {c : Nat} (h : Strs I oa l c) (e : oa = Option.none) : l.length = 0 := by rw [h.nil e]; rfl
theorem Raw.st {I : Heap} {oa : Option Addr} {l : List Af} {c : Nat} (h : Raw I oa l c) (i : Nat) (hi : i < l.length) : Still I ((K8 oa).add (i * 1)) [.string (str (l.getD i []))] := by
 obtain ⟨x, rfl, hx⟩ := h.at i hi; rw [show l.getD i [] = l[i] by simp [hi]]; exact hx
theorem Raw.nil' {I : Heap} {oa : Option Addr} {l : List Af} {c : Nat} (h : Raw I oa l c) (e : oa = Option.none) : l.length = 0 := by rw [h.nil e]; rfl
set_option maxRecDepth 100000
set_option linter.unusedVariables false
set_option linter.unusedSimpArgs false

theorem Gd : ∀ (a b : List Tree), Df (a ++ b) = Df a + Df b
 | [], b => by simp [Df]
 | t :: a, b => by simp [Df, Gd a b]; omega
theorem N4 (ps : List Tree) (i : Nat) (hi : i < ps.length) : Df (ps.take (i + 1)) = Df (ps.take i) + ps[i].len + 1 := by
 rw [List.take_succ_eq_append_getElem hi, Gd]; simp [Df]; omega
theorem Qp (ps : List Tree) (i : Nat) : Df (ps.take i) ≤ Df ps := by
 have h := Gd (ps.take i) (ps.drop i)
 rw [List.take_append_drop] at h
 omega
theorem Tree.len_eq (t : Tree) (h : t.parts ≠ []) : t.len = 1 + Df t.parts := by
 cases t with
 | node a ps => cases ps with
  | nil => exact absurd rfl h
  | cons p ps => rfl
theorem Tree.pt_len (t : Tree) (i : Nat) (hi : i < t.parts.length) : (t.pt i).len + 2 ≤ t.len := by
 rw [Tree.pt_at hi]
 have h1 := Qp t.parts (i + 1)
 rw [N4 _ _ hi] at h1
 have h2 := t.len_eq (by intro e; rw [e] at hi; simp at hi)
 omega
mutual
theorem Tree.depth_len : ∀ t : Tree, t.depth ≤ t.len
 | .node a [] => Nat.zero_le _
 | .node a (p :: ps) => by have := Iw (p :: ps); simp only [Tree.depth, Tree.len, List.isEmpty_cons, cond_false]; omega
theorem Iw : ∀ ts : List Tree, Bz ts ≤ Df ts
 | [] => Nat.le_refl _
 | t :: ts => by have := t.depth_len; have := Iw ts; simp only [Bz, Df]; omega
end
mutual
theorem Tree.size_len : ∀ t : Tree, t.size ≤ t.len + 1
 | .node a [] => by simp [Tree.size]
 | .node a (p :: ps) => by have := Kh (p :: ps); simp only [Tree.size, Tree.len, List.isEmpty_cons, cond_false]; omega
theorem Kh : ∀ ts : List Tree, E4 ts ≤ Df ts
 | [] => Nat.le_refl _
 | t :: ts => by have := t.size_len; have := Kh ts; simp only [E4, Df]; omega
end

end Go.Proofs.YtbmgbhfeifgciaaDoor
