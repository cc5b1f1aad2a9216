/- From a contract that says 'returns true' to the statement's own words: the arguments as they come in, what is left behind. No conditions. -/
import Derived.Test.YtmfagaajiakgoaaGreatDoorG4
import Derived.Test.YtmfagaajiakgoaaGreatDoorRows
import Derived.ProofKit

namespace Go.Proofs.YtmfagaajiakgoaaGreatDoor
open Go.ChangeShapes Go.WideShapes Go.ChangeAt Go.RowKit Go.ChangeMaps
set_option maxRecDepth 100000
set_option linter.unusedVariables false
set_option linter.unusedSimpArgs false

theorem Wy : laidOutB Tryz.prog = true := by kernel_rfl

def Qv (w : World) : Heap := ⟨fun b => w.heap[b]?, w.os, w.output⟩
theorem W1 (w : World) : Mem (Qv w) [] w := ⟨⟨fun _ _ h => h, rfl, rfl⟩, by simp, by simp⟩
def YES (L : Bh) : C3 := fun v I' L' => v = .bool true ∧ L = L'

section
variable {H : Type} {enc : TypeId × Value → H} {P : Program} {W W' : World}

theorem Pj (h : ∀ (b : Nat) (o : Obj), W.heap[b]? = some o → W'.heap[b]? = some o) {k : Nat} (hk : k < W.heap.size) : W'.heap[k]? = W.heap[k]? := by
 rw [h k _ (Array.getElem?_eq_getElem hk), Array.getElem?_eq_getElem hk]
theorem Xh (h : ∀ (b : Nat) (o : Obj), W.heap[b]? = some o → W'.heap[b]? = some o) {p : MemPlace} (hp : p.block < W.heap.size) : W.sameAt W' p := by
 cases p with
 | cell b off =>
  have := Pj h (k := b) hp
  show W'.cell? _ = W.cell? _
  simp only [World.cell?, this]
 | map b => exact Pj h hp
theorem O6 (hl : laidOutB P = true) (h : ∀ (b : Nat) (o : Obj), W.heap[b]? = some o → W'.heap[b]? = some o) : ∀ {ts : List TypeId} {vs : List Value} {ds : List (DataW H)} {ps : List MemPlace},
  DataW.TrodAll enc P W 0 (fun _ => true) true ts vs ds ps → (∀ t ∈ ts, P.readableRec t = true ∧ t < P.types.size) → (∀ x ∈ ps, x.block < W.heap.size) →
  DataW.TrodAll enc P W' 0 (fun b => decide (b < W.heap.size)) true ts vs ds ps
 | [], [], [], ps, hA, _, _ => hA
 | t :: ts, [], ds, ps, hA, _, _ => by cases ds <;> exact hA.elim
 | t :: ts, v :: vs, [], ps, hA, _, _ => hA.elim
 | [], v :: vs, ds, ps, hA, _, _ => by cases ds <;> exact hA.elim
 | [], [], d :: ds, ps, hA, _, _ => hA.elim
 | t :: ts, v :: vs, d :: ds, ps, hA, hr, hlt => by
  obtain ⟨p, q, h1, h2, rfl⟩ := hA; refine ⟨p, q, ?_, O6 hl h h2 (fun t ht => hr t (.tail _ ht)) (fun x hx => hlt x (List.mem_append_right _ hx)), rfl⟩
  have hp : ∀ x ∈ p, x.block < W.heap.size := fun x hx => hlt x (List.mem_append_left _ hx)
  exact WideElems.Trod_stays hl (hr t (.head _)).1 (hr t (.head _)).2 h1 (fun x hx => Xh h (hp x hx)) (fun x hx => by simpa using hp x hx)
theorem Uy (h : ∀ (b : Nat) (o : Obj), W.heap[b]? = some o → W'.heap[b]? = some o) (ho : W'.os = W.os) (hp : W'.output = W.output) (may : MemPlace → Prop) : W.keptBut W' may := by
 refine ⟨ho, hp, fun i hi => ?_⟩; rw [Pj h hi]
 split <;> simp_all

theorem Z7 {f : FuncId} {fn : Func} {s : ChangeSpec} {args : Array Value} {ds gs : List (DataW H)} {before : List MemPlace} {tb : TypeId} (hl : laidOutB P = true)
  (hW : DataW.Whole enc P fn.params.toList s.vars false W args.toList ds gs before) (hv : s.vars = []) (hs : s.fn H (ds ++ gs) = { results := [.lit (.bool true)], args := ds })
  (hrt : fn.resultTypes = #[tb]) (htb : P.underlying tb = some .bool) (hrd : ∀ t ∈ fn.params.toList, P.readableRec t = true ∧ t < P.types.size)
  (hc : Fun P f args.toList (Qv W) [] (YES [])) : Calls P f args W fun e W' => ∃ v, e = .returned v ∧ s.post enc P fn false true false false W args v W' := by
 have hc' := hc.run W (W1 W)
 rw [Array.toArray_toList] at hc'; refine hc'.mono fun e W' he => ?_
 obtain ⟨v, I', L', rfl, hle, hm, rfl, rfl⟩ := he
 have hkeep : ∀ (b : Nat) (o : Obj), W.heap[b]? = some o → W'.heap[b]? = some o := fun b o hb => hm.1.1 b o (hle.le b o hb)
 have hlt : ∀ x ∈ before, x.block < W.heap.size := hW.lt
 obtain ⟨p, q, h1, h2, rfl, h4, h5⟩ := id hW; rw [hv] at h2; obtain ⟨rfl, rfl⟩ := trodVars_none h2; refine ⟨_, rfl, ds, [], _, [], p, [], hW, ?_, ?_, ?_, Uy hkeep (hm.1.2.1.trans hle.os) (hm.1.2.2.trans hle.out) _, fun h => by cases h⟩
 ·rw [hs, hrt]
  exact ⟨[], [], shut_bool htb true, rfl, rfl⟩
 ·rw [hs]
  exact O6 hl hkeep h1 hrd (fun x hx => hlt x (List.mem_append_left _ hx))
 ·rw [hs, hv]; rfl

theorem Ab2 {t e : TypeId} (ht : P.underlying t = some (.slice e)) (he : P.underlying e = some (.int .u8)) (hc : P.cellsOf e = 1) {r : Reach} {b0 : Nat} {v : Value} {d : DataW H} {ps : List MemPlace} {base : Nat} {held : Bool}
  (hval : Value.okWide P W r b0 t v) (hd : DataW.Trod enc P W base (fun _ => true) held t v d ps) : ∃ oa l c, v = .slice oa (List.length l) c ∧ Bytes (Qv W) oa l c := by
 obtain ⟨a0, len, cap, rfl⟩ := okWide_slice ht hval; obtain ⟨fuel, hf⟩ := hd
 rcases open_ints ht he hc hf with ⟨hcs, hx⟩ | ⟨a, len', cap', zs, hcs, _, hl, hm, hz, hx, hcell, hwz⟩
 ·simp [Value.cells] at hcs
  obtain ⟨rfl, rfl, rfl⟩ := hcs
  exact ⟨none, [], 0, rfl, by simp, by simp, by simp, by simp⟩
 ·simp [Value.cells] at hcs
  obtain ⟨rfl, rfl, rfl⟩ := hcs
  simp only [if_true] at hz
  have hlen : ((zs.take len).map fun z => UInt8.ofNat z.toNat).length = len := by simp; omega
  simp only [maxLen] at hm
  refine ⟨some a, (zs.take len).map fun z => UInt8.ofNat z.toNat, cap, by rw [hlen], ⟨?_, by simp, by rw [hlen]; exact hl, by rw [hlen]; omega⟩⟩; rintro x ⟨⟩
  by_cases h0 : len = 0
  ·subst h0; exact .inl Af
  ·have hsp := World.cell?_spot (hcell 0 Aa)
   have ha0 : a.add 0 = a := by simp [Addr.add]
   rw [ha0] at hsp
   have hb : ∃ cc T fr, W.heap[a.block]? = some (.cells cc T fr) := by
    have := hcell 0 Aa
    rw [ha0] at this
    unfold World.cell? at this
    split at this
    ·exact ⟨_, _, _, by assumption⟩
    ·cases this
   obtain ⟨cc, T, fr, hb⟩ := hb; refine .inr ⟨cc, T, fr, hb, hsp, fun i hi => ?_⟩
   simp only [List.length_map, List.length_take] at hi
   have hi' := hcell i Aa
   have hadd : a.add i = ⟨a.block, a.off + i, none⟩ := by
    unfold Addr.add
    split
    ·subst_vars; rw [← hsp]; rfl
    ·rfl
   rw [hadd] at hi'
   simp only [World.cell?, hb, Option.isSome_none, Bool.false_eq_true, if_false] at hi'
   rw [hi']
   have hsl : i < zs.length := by omega
   have hw := hwz _ (List.getElem_mem hsl)
   have hw2 : 0 ≤ zs[i] ∧ zs[i] ≤ 255 := by simpa [Lit.wf, IntKind.min, IntKind.max, IntKind.signed, IntKind.bits] using hw
   have e : ((zs[i].toNat % 256 : Nat) : Int) = zs[i] := by omega
   simp [bv, hsl, e]
end
set_option maxRecDepth 100000
set_option linter.unusedVariables false
set_option linter.unusedSimpArgs false

section rules
variable {P : Program} {f : FuncId} {n : Nat} {I₀ : Heap} {Q : C3} {k : List Item} {E : Hw} {I : Heap} {L : Bh}
variable {ops : Array Oper} {d : Nat} {ty : TypeId} {pos : String} {af : Array Edge} {g : Option (Nat × Bool)} {l : List Oper}

theorem Adg {b : Nat} {o : Obj} (h : HLe I (I.set b o) → A6 P f n I₀ Q ops l k E (I.set b o) L) : A6 P f n I₀ Q ops l k E I ((b, o) :: L) :=
 fun a w ha hd he hm => h hm.freeze.2 a w ha hd he hm.freeze.1

theorem D9 {T e : TypeId} {sz bb esz ebb : Nat} {z ez : List Value} {dd : TypeDesc} [ht : Aw P T (.slice e) sz bb z] [hte : Aw P e dd esz ebb ez]
  (hg : Wants ops E g) (hdn : Nat.blt d n = true)
  (h : ∀ b, A6 P f n I₀ Q ops l k ((d, .slice (some ⟨b, 0, none⟩) 0 0) :: E) I ((b, .cells [].toArray e (0, 0)) :: L)) :
  A6 P f n I₀ Q ops (⟨some d, .buildSlice T 0 #[], ty, pos, af, g⟩ :: l) k E I L := by
 refine Jp rfl hdn (fun a he => hg.wanted a he) fun a w he hm => ?_
 refine ⟨_, _, I, (w.heap.size, .cells [].toArray e (0, 0)) :: L, ?_, hm.alloc _, h _⟩
 simp only [execOp]
 refine Ag (a := .slice (some ⟨w.heap.size, 0, none⟩) 0 0) (w' := { w with heap := w.heap.push (.cells [].toArray e (0, 0)) }) ?_ |>.trans rfl
 unfold Instr.buildSlice
 rw [Ag (A8 ht.und w)]
 simp only []
 rw [Ag (Ff hte w)]; rw [if_neg Aa, if_pos Aa]
 have e0 : ∀ h : Nat → Value, (Array.range 0).map h = #[] := fun h => by simp
 have e1 : (Array.map (fun x : Nat × Operand => (x.fst, a.eval x.snd)) #[]).toList = [] := by simp
 simp only [pure_bind, Nat.zero_mul, e0, e1]
 rfl

theorem Iv {T T2 e : TypeId} {sz bb esz ebb sz2 bb2 : Nat} {z ez z2 : List Value} {dd dd2 : TypeDesc} [ht : Aw P T (.slice e) sz bb z] [hte : Aw P e dd esz ebb ez] [ht2 : Aw P T2 dd2 sz2 bb2 z2]
  {x y : Operand} {B : Kx} {xs ys : List Value} {m c : Nat} {ad2 : Option Addr} {m2 c2 : Nat} {L₀ : Bh} (hni : ∀ kk, dd2 ≠ .int kk) (hez : ez.length = esz)
  (hx : Cf E x = some (B8 m c B)) (hy : Cf E y = some (.slice ad2 m2 c2)) (hB : Ep esz m c xs B) (hL : ∀ w, Mem I L w → Mem I (Cb e xs B ++ L₀) w)
  (hyl : ys.length = m2 * esz) (hyr : ∀ a, ad2 = some a → Gs I L₀ a ys) (hyn : ad2 = none → ys = []) (hyp : ys.all Ct = true) (hesz : 0 < esz)
  (hsize : (m + m2) ≤ 4294967296) (hbytes : ebb ≤ 1024) (hg : Wants ops E g) (hdn : Nat.blt d n = true)
  (h : ∀ B' c', Ep esz (m + m2) c' (xs ++ ys) B' → A6 P f n I₀ Q ops l k ((d, B8 (m + m2) c' B') :: E) I (Cb e (xs ++ ys) B' ++ L₀)) :
  A6 P f n I₀ Q ops (⟨some d, .call ⟨.builtin .append, #[x, y], #[T, T2]⟩, T, pos, af, g⟩ :: l) k E I L := by
 by_cases hm2 : 0 < m2
 ·refine D3 hni hez hx hy hB hL hyl hyr hyn hyp hm2 hesz hsize hbytes hg hdn fun b sp c' hB' => ?_
  exact h (some (b, sp)) c' hB'
 ·obtain rfl : m2 = 0 := by omega
  obtain rfl : ys = [] := List.eq_nil_of_length_eq_zero (by simpa using hyl); refine Jp rfl hdn (fun a he => hg.wanted a he) fun a w he hm => ?_
  have hv : ∃ base cc, B8 m c B = .slice base m cc ∧ m ≤ cc ∧ cc = c := by
   cases B with
   | none => obtain ⟨h1, h2, h3⟩ := hB; exact ⟨none, 0, by simp [B8, h2], by omega, h3.symm⟩
   | some p => exact ⟨_, c, rfl, hB.2.1, rfl⟩
  obtain ⟨base, cc, hbv, hmc, rfl⟩ := hv
  have := Me (P := P) (T2 := T2) (base := base) (x := .slice ad2 0 c2) (w := w) ht hte ht2.und hni hmc rfl (G9 (hL w hm) hyl (fun a _ v _ i hi => absurd hi Af) hyn)
  refine ⟨_, w, I, _, ?_, hL w hm, by simpa using h B cc (by simpa using hB)⟩
  simp only [execOp, resolve, List.map_toArray, List.map, he.eval hx, he.eval hy, pure_bind, invoke, builtin, hbv]
  exact Ag this |>.trans rfl
end rules

theorem D4 (l : List As) : (l.map sv).all Ct = true := by simp [sv, Ct]
theorem Strs.reads {I : Heap} {L : Bh} {oa : Option Addr} {l : List As} {c : Nat} (h : Strs I oa l c) (a : Addr) (ha : oa = some a) : Gs I L a (l.map sv) := (h.still a ha).reads
theorem Strs.none {I : Heap} {oa : Option Addr} {l : List As} {c : Nat} (h : Strs I oa l c) (ha : oa = .none) : l.map sv = [] := by rw [h.nil ha]; rfl
theorem Hk {P : Program} {f : FuncId} {n : Nat} {I₀ : Heap} {Q : C3} {todo : List Item} {E : Hw} {I : Heap} {L : Bh} {e : TypeId} {l : List As} {B : Kx} {m c : Nat}
  (hB : Ep 1 m c (l.map sv) B) (hm : m = l.length) (hlen : l.length ≤ Bb) (hs : ∀ s ∈ l, s.length ≤ Bb)
  (h : ∀ I' oa c', HLe I I' → B8 m c B = .slice oa l.length c' → Strs I' oa l c' → RunS P f n I₀ Q todo E I' L) : RunS P f n I₀ Q todo E I (Cb e (l.map sv) B ++ L) := by
 cases B with
 | none =>
  obtain ⟨h1, h2, h3⟩ := hB; obtain rfl : l = [] := by simpa using h1
  exact h I .none 0 (.refl _) rfl ⟨by simp, by simp, by simp, hlen, hs⟩
 | some p =>
  obtain ⟨b, sp⟩ := p; refine Bv fun hle => h _ (some ⟨b, 0, .none⟩) c hle (by rw [← hm]; rfl) ⟨fun y hy => ?_, by simp, by have := hB.2.1; omega, hlen, hs⟩
  cases hy; exact B0
theorem Strs.drop {I : Heap} {oa : Option Addr} {l : List As} {c : Nat} (h : Strs I oa l c) (a : Nat) (ha : a ≤ l.length) : Strs I (if c = a then oa else oa.map (·.add (a * 1))) (l.drop a) (c - a) := by
 have hcap := h.cap
 refine ⟨fun x hx => ?_, fun hx => ?_, by simp; omega, by have := h.len; simp; omega, fun s hs => h.each s (List.mem_of_mem_drop hs)⟩
 ·by_cases hc : c = a
  ·have : l.drop a = [] := List.drop_eq_nil_of_le Aa
   rw [this]; exact .inl rfl
  ·rw [if_neg hc] at hx
   cases oa with
   | none => cases hx
   | some y =>
    cases hx
    refine (h.still y rfl).part (a * 1) ?_; intro j hj
    simp only [List.length_map, List.length_drop] at hj
    simp [Nat.mul_one, show a + j < l.length by omega]
 ·by_cases hc : c = a
  ·exact List.drop_eq_nil_of_le Aa
  ·rw [if_neg hc] at hx
   cases oa with
   | none => rw [h.nil rfl]; simp
   | some y => cases hx
set_option maxRecDepth 100000
set_option linter.unusedVariables false
set_option linter.unusedSimpArgs false

section rules
variable {P : Program} {f : FuncId} {n : Nat} {I₀ : Heap} {Q : C3} {k : List Item} {E : Hw} {I : Heap} {L : Bh}
variable {ops : Array Oper} {d : Nat} {ty : TypeId} {pos : String} {af : Array Edge} {g : Option (Nat × Bool)} {l : List Oper}
theorem Yu {T T' : TypeId} {x y : Operand} {a b : Nat} (hx : Cf E x = some (.int .u8 (a : Nat))) (hy : Cf E y = some (.int .u8 (b : Nat))) (hab : b ≤ a) (ha : a ≤ 255) (hg : Wants ops E g) (hdn : Nat.blt d n = true)
  (h : A6 P f n I₀ Q ops l k ((d, .int .u8 ((a - b : Nat))) :: E) I L) : A6 P f n I₀ Q ops (⟨some d, .binOp .sub T x y T', ty, pos, af, g⟩ :: l) k E I L :=
 D7 (fun ac w he _ => by
  simp only [execOp, he.eval hx, he.eval hy]
  refine Ag (a := _) (w' := w) ?_ |>.trans rfl
  rw [Ag (Fe w)]
  have e : IntKind.u8.wrap ((a : Int) - (b : Int)) = ((a - b : Nat) : Int) := by
   simp [IntKind.wrap, IntKind.bits, IntKind.signed]; omega
  simp [binOp, Op.intArith, e]) hg hdn h
end rules

def C6 (s : As) : As := if (s.getD 0 0).toNat = 45 then s.drop 1 else s
def Bt (s : As) : Bool := decide (s = [48]) || (decide (1 ≤ (C6 s).length ∧ (C6 s).length ≤ 3) && (C6 s).all Ef && !decide (((C6 s).getD 0 0).toNat = 48))
def Dw (l : As) : Nat := l.foldl (fun n b => 10 * n + (b.toNat - 48)) 0
def Du (s : As) : Int := if s = [48] then 0 else (if (s.getD 0 0).toNat = 45 then -1 else 1) * (Dw (C6 s) : Nat)

theorem J7 (s : As) (i : Nat) (hi : i < s.length) : Dw (s.take (i + 1)) = 10 * Dw (s.take i) + ((s.getD i 0).toNat - 48) := by
 have e : s.getD i 0 = s[i] := by simp [hi]
 rw [List.take_succ_eq_append_getElem hi, e, Dw, List.foldl_append]
 rfl
theorem Ui : ∀ (l : As), Dw l + 1 ≤ 256 * 256 ^ l.length := by
 intro l
 have key : ∀ (l : As) (a : Nat), l.foldl (fun n b => 10 * n + (b.toNat - 48)) a + 1 ≤ (a + 1) * 256 ^ l.length * 256 := by
  intro l
  induction l with
  | nil => intro a; simp; omega
  | cons b r ih =>
   intro a
   have hb := UInt8.toNat_lt b
   refine Nat.le_trans (ih _) ?_; rw [List.length_cons, Nat.pow_succ]
   have h1 : 10 * a + (b.toNat - 48) + 1 ≤ (a + 1) * 256 := by omega
   calc (10 * a + (b.toNat - 48) + 1) * 256 ^ r.length * 256 ≤ ((a + 1) * 256) * 256 ^ r.length * 256 := Nat.mul_le_mul_right _ (Nat.mul_le_mul_right _ h1)
    _ = (a + 1) * (256 ^ r.length * 256) * 256 := by rw [Nat.mul_assoc (a + 1) 256, Nat.mul_comm 256 (256 ^ r.length)]
 have := key l 0
 simp only [Dw]
 omega

theorem K0 (s p : As) (hs : s.length ≤ Bb) (hp : p.length ≤ Bb) (I : Heap) (L : Bh) : Fun Tryz.prog 155 [.string (str s), .string (str p)] I L (Ee (.string (str (if p.isPrefixOf s then s.drop p.length else s))) I L) := by
 unfold Bb at hs hp
 refine Al Af ?_; refine Se rfl (Oa rfl (Ab (Ah (Se rfl (Om rfl (Om rfl ?_)))))); refine Ca rfl (H9 s p hs hp _ _) ?_; rintro _ _ _ _ ⟨rfl, rfl, rfl⟩; refine Ab ?_; refine Si rfl ?_ ?_
 ·intro c0
  have hlen : p.length ≤ s.length := by
   have := (List.isPrefixOf_iff_prefix.1 c0).length_le; exact this
  refine Se rfl (Om rfl (Om rfl ?_)); refine C1 rfl .free rfl ?_; refine Jo rfl rfl _ rfl Bp .free rfl ?_; refine Oa rfl (Ab (Ai (.tmp rfl .nil) ?_)); refine only rfl ?_
  simp [C2, c0]
 intro c0; refine Aj (Se rfl (Om rfl (Oa rfl (Ab (Ai (.tmp rfl .nil) ?_))))); refine only rfl ?_
 simp [C2, c0]
theorem L8 (s p : As) (hs : s.length ≤ Bb) (hp : p.length ≤ Bb) (I : Heap) (L : Bh) : Fun Tryz.prog 111 [.string (str s), .string (str p)] I L (Ee (.string (str (if p.isPrefixOf s then s.drop p.length else s))) I L) := by
 unfold Bb at hs hp
 refine Al Af ?_; refine Se rfl (Oa rfl (Ab (Se rfl (Om rfl (Om rfl ?_))))); refine Ca rfl (K0 s p hs hp _ _) ?_; rintro _ _ _ _ ⟨rfl, rfl, rfl⟩; refine Oa rfl (Ab (Ai (.tmp rfl .nil) ?_)); refine only rfl ?_
 simp [C2, *]
theorem Za (s : As) : (if [45].isPrefixOf s then s.drop [45].length else s) = C6 s := by
 cases s with
 | nil => rfl
 | cons b r =>
  have : ([45].isPrefixOf (b :: r) = true) = (b.toNat = 45) := by
   rw [eq_iff_iff, List.isPrefixOf_iff_prefix]
   simp only [List.cons_prefix_cons, List.nil_prefix, and_true]
   exact ⟨fun h => by rw [← h]; rfl, fun h => UInt8.toNat_inj.1 (by rw [h]; rfl)⟩
  simp [C6, this]
theorem Qd (s : As) (hs : s.length ≤ Bb) (I : Heap) (L : Bh) : Fun Tryz.prog 63 [.string (str s)] I L (Ee (.bool (Bt s)) I L) := by
 have hu : (C6 s).length ≤ s.length := by unfold C6; split <;> simp
 unfold Bb at hs
 refine Al Af ?_; refine Se rfl (Oa rfl (Ab (Se rfl (Om rfl ?_)))); refine Ca rfl ((Za s) ▸ L8 s [45] Bz Ad _ _) ?_; rintro _ _ _ _ ⟨rfl, rfl, rfl⟩; refine Oa rfl (Ab (Se rfl (Om rfl (Od rfl rfl rfl (Om rfl ?_)))))
 first | refine G0 rfl rfl ?_ ?_ | refine E3 rfl rfl ?_ ?_ | refine Ly rfl rfl ?_ ?_
 ·intro g2_3
  iterate 4 refine Ch rfl rfl rfl ?_
  refine Lm rfl rfl rfl ?_; refine Lm rfl rfl rfl ?_; refine Ch rfl rfl rfl ?_; refine Ch rfl rfl rfl ?_
  iterate 3 refine Lm rfl rfl rfl ?_
  refine Ch rfl rfl rfl ?_; refine Ot rfl rfl (Oa rfl (Ab (Ai (.tmp rfl .nil) ?_))); refine only rfl ?_; refine congrArg Value.bool ?_; simp only [Bt]; grind
 intro g2_3; refine Ow rfl ?_; refine C1 rfl (.met rfl rfl) rfl ?_; refine Cv rfl (.met rfl rfl) rfl (Rg ..) ?_; rintro _ _ _ _ ⟨rfl, rfl, rfl⟩; refine Ow rfl ?_
 first | refine G0 rfl rfl ?_ ?_ | refine E3 rfl rfl ?_ ?_ | refine Ly rfl rfl ?_ ?_
 ·intro g2_7; refine Ow rfl ?_; refine Cv rfl (.met rfl rfl) rfl (Qa (C6 s) Bz _ _) ?_; rintro _ _ _ _ ⟨rfl, rfl, rfl⟩; refine Fm rfl rfl (.met rfl rfl) rfl ?_; refine Ow rfl ?_
  first | refine G0 rfl rfl ?_ ?_ | refine E3 rfl rfl ?_ ?_ | refine Ly rfl rfl ?_ ?_
  ·intro g2_11; refine Ow rfl ?_; refine Dn (i := 0) rfl rfl rfl Bp (.met rfl rfl) rfl ?_; refine Dp rfl rfl rfl (.met rfl rfl) rfl ?_; refine Fm rfl rfl (.met rfl rfl) rfl ?_; refine Of rfl rfl (Oa rfl (Ab (Ai (.tmp rfl .nil) ?_))); refine only rfl ?_; refine congrArg Value.bool ?_; simp only [Bt]; grind
  intro g2_11
  iterate 3 refine Ch rfl rfl rfl ?_
  refine Ev rfl rfl (.met rfl rfl) rfl ?_; refine Of rfl rfl (Oa rfl (Ab (Ai (.tmp rfl .nil) ?_))); refine only rfl ?_; refine congrArg Value.bool ?_; simp only [Bt]; grind
 intro g2_7; refine Ch rfl rfl rfl ?_; refine Ch rfl rfl rfl ?_; refine Ev rfl rfl (.met rfl rfl) rfl ?_; refine Ow rfl ?_
 iterate 3 refine Ch rfl rfl rfl ?_
 refine Ev rfl rfl (.met rfl rfl) rfl ?_; refine Of rfl rfl (Oa rfl (Ab (Ai (.tmp rfl .nil) ?_))); refine only rfl ?_; refine congrArg Value.bool ?_; simp only [Bt]; grind

def NR (s : As) (I : Heap) (L : Bh) : C3 := Ee (.tuple #[.int .i64 (bif Bt s then Du s else 0), .bool (Bt s)]) I L
theorem Kz (l : As) (h : l.length ≤ 3) : Dw l ≤ 4294967296 := by
 have h1 := Ui l
 have h2 : 256 ^ l.length ≤ 256 ^ 3 := Nat.pow_le_pow_right Ad h
 have h3 : 256 * 256 ^ l.length ≤ 256 * 256 ^ 3 := Nat.mul_le_mul_left _ h2
 omega
theorem Nl         (s : As ) (hs : s.length ≤ Bb  ) (I : Heap) (L : Bh ) : Fun Tryz.prog 98 [.string (str s)] I L (NR s I L) := by
  unfold Bb   at hs
  have hu : (C6     s).length ≤ s.length := by unfold C6    ; split <;> simp
  refine Al        (by simp) ?_
  refine Se rfl (Oa rfl (Oa rfl (Ab     (Se rfl (Oa rfl (Ab     (Se rfl (Om rfl (Oa rfl (Ab     (Ah    (Se rfl (Om rfl ?_)))))))))))))
  refine C1        rfl .free rfl ?_
  refine Oc rfl rfl rfl (Om rfl ?_)
  first | refine G0   rfl rfl ?_ ?_ | refine E3    rfl rfl ?_ ?_ | refine Ly  rfl rfl ?_ ?_
  · intro g3_4
    refine Ow rfl ?_
    refine Dn      (i := 0) rfl rfl rfl (by first | omega | exact E9    (by assumption) (by decide) | (simp; done) | (simp; omega) | decide | (simp at *; omega)) (.met rfl rfl) rfl ?_
    refine Dp    rfl rfl rfl (.met rfl rfl) rfl ?_
    refine Ot rfl rfl (Ab     ?_)
    refine Si rfl ?_ ?_
    · intro c0
      refine Se rfl (Oa rfl (Ab     (Ao      rfl (Om rfl ?_))))
      refine Jo           rfl rfl 1 rfl (by first | omega | exact E9    (by assumption) (by decide) | (simp; done) | (simp; omega) | decide | (simp at *; omega)) .free rfl ?_
      refine Oa rfl (Ab     (Ah    (Ah    ?_)))
      obtain ⟨sg, hsg, hsn⟩ : ∃ sg : Int, sg = (if (s.getD 0 0).toNat = 45 then -1 else 1) ∧ (sg = 1 ∨ sg = -1) := ⟨_, rfl, by split <;> simp⟩
      have hneg : (s.getD 0 0).toNat = 45 ∨ ¬ (s.getD 0 0).toNat = 45 := by omega
      refine Cw    (E' := [(0, .string (str s)), (4, .int .i64 sg), (5, .string (str (C6     s)))]) (by
        first
          | (rw [show C6     s = s.drop 1 from if_pos (by omega), show sg = -1 by rw [hsg, if_pos (by omega)]]; exact ⟨rfl, rfl, rfl, trivial⟩)
          | (have hn : ¬ (s.getD 0 0).toNat = 45 := by
               first | omega | (have h0 : s = [] := by cases s with
                                  | nil => rfl
                                  | cons => simp at *
                                rw [h0]; decide)
             rw [show C6     s = s from if_neg hn, show sg = 1 by rw [hsg, if_neg hn]]; exact ⟨rfl, rfl, rfl, trivial⟩)) ?_
      generalize hd : C6     s = ds at *
      refine Ao      rfl (Om rfl (Od rfl rfl rfl (Ab     ?_)))
      refine Si rfl ?_ ?_
      · intro c1
        refine Se rfl (Oa rfl (Oa rfl (Ab     ?_)))
        refine Ai    (.tmp rfl (.tmp rfl .nil)) ?_
        refine only rfl ?_
        rw [‹s = [48]›]; rfl
      intro c1
      refine Aj     (Ah    (Se rfl (Om rfl ?_)))
      refine C1        rfl .free rfl ?_
      refine Ca rfl (Rm     ..) ?_
      rintro _ _ _ _ ⟨rfl, rfl, rfl⟩
      refine Dl    rfl .free rfl ?_
      refine Om rfl ?_
      first | refine G0   rfl rfl ?_ ?_ | refine E3    rfl rfl ?_ ?_ | refine Ly  rfl rfl ?_ ?_
      · intro g8_5
        iterate 3 refine Ch     rfl rfl rfl ?_
        refine Ot rfl rfl (Ab     ?_)
        refine Bs     rfl ?_
        refine Se rfl (Oa rfl (Oa rfl (Ab     ?_)))
        refine Ai    (.tmp rfl (.tmp rfl .nil)) ?_
        refine only rfl ?_
        have hf : Bt    s = false := by simp only [Bt   , hd]; grind
        rw [hf]; rfl
      intro g8_5
      refine Ow rfl ?_
      refine Dn      (i := 0) rfl rfl rfl (by first | omega | exact E9    (by assumption) (by decide) | (simp; done) | (simp; omega) | decide | (simp at *; omega)) (.met rfl rfl) rfl ?_
      refine Dp    rfl rfl rfl (.met rfl rfl) rfl ?_
      refine Of rfl rfl (Ab     ?_)
      refine Si rfl ?_ ?_
      · intro c2
        refine Se rfl (Oa rfl (Oa rfl (Ab     ?_)))
        refine Ai    (.tmp rfl (.tmp rfl .nil)) ?_
        refine only rfl ?_
        have hf : Bt    s = false := by simp only [Bt   , hd]; grind
        rw [hf]; rfl
      intro c2
      refine Aj     (Se rfl (Oa rfl (Ab     (Ah    (Se rfl (Oa rfl (Ab     (Ar      ?_))))))))
      have hl3 : ds.length ≤ 3 ∧ 1 ≤ ds.length := by grind
      refine Dv      (X := Nat) (fun i => ds.length - i) (fun i => [(4, .int .i64 sg), (5, .string (str ds)), (6, .int .i64 (Dw        (ds.take i) : Nat)), (7, .int .i64 (i : Nat))]) (fun _ => I) (fun _ => L) (fun i => i ≤ ds.length ∧ (ds.take i).all Ef    = true) 0 ⟨by omega, by simp⟩ ⟨rfl, rfl, rfl, rfl, trivial⟩ Bj    ?_
      rintro i ⟨hi, hall⟩ ih
      have hv := Kz            (ds.take i) (by simp; omega)
      refine Ah    (Se rfl (Om rfl (Om rfl ?_)))
      refine C1        rfl .free rfl ?_
      refine Oc rfl rfl rfl (Ab     ?_)
      refine Si rfl ?_ ?_
      · intro c3
        refine Aj     (Ah    (Ar      (Ah    (Se rfl (Om rfl (Om rfl ?_))))))
        refine Dn      rfl rfl rfl (by first | omega | exact E9    (by assumption) (by decide) | (simp; done) | (simp; omega) | decide | (simp at *; omega)) .free rfl ?_
        refine Oc rfl rfl rfl (Om rfl ?_)
        first | refine G0   rfl rfl ?_ ?_ | refine E3    rfl rfl ?_ ?_ | refine Ly  rfl rfl ?_ ?_
        · intro g14_5
          iterate 4 refine Ch     rfl rfl rfl ?_
          refine Ot rfl rfl (Ab     ?_)
          refine Bs     rfl ?_
          refine Se rfl (Oa rfl (Oa rfl (Ab     ?_)))
          refine Ai    (.tmp rfl (.tmp rfl .nil)) ?_
          refine only rfl ?_
          have hf : Bt    s = false := by
            have := H8        (p := Ef   ) (show i < ds.length by omega) (by rw [Gb       ]; exact decide_eq_false (by omega))
            simp only [Bt   , hd]; grind
          rw [hf]; rfl
        intro g14_5
        refine Ow rfl (Ow rfl ?_)
        refine Dn      rfl rfl rfl (by first | omega | exact E9    (by assumption) (by decide) | (simp; done) | (simp; omega) | decide | (simp at *; omega)) (.met rfl rfl) rfl ?_
        refine Dp    rfl rfl rfl (.met rfl rfl) rfl ?_
        refine Of rfl rfl (Ab     ?_)
        refine Si rfl ?_ ?_
        · intro c4
          refine Se rfl (Oa rfl (Oa rfl (Ab     ?_)))
          refine Ai    (.tmp rfl (.tmp rfl .nil)) ?_
          refine only rfl ?_
          have hf : Bt    s = false := by
            have := H8        (p := Ef   ) (show i < ds.length by omega) (by rw [Gb       ]; exact decide_eq_false (by omega))
            simp only [Bt   , hd]; grind
          rw [hf]; rfl
        intro c4
        refine Aj     (Ao      rfl (Om rfl ?_))
        refine Or rfl rfl rfl ?_
        refine Om rfl (Om rfl ?_)
        refine Dn      rfl rfl rfl (by first | omega | exact E9    (by assumption) (by decide) | (simp; done) | (simp; omega) | decide | (simp at *; omega)) .free rfl ?_
        refine Yu     (b := 48) rfl rfl (by omega) (by have := UInt8.toNat_lt (ds.getD i 0); omega) .free rfl ?_
        refine Mx        rfl (by first | exact UInt8.toNat_lt _ | omega) .free rfl ?_
        refine Or rfl rfl rfl ?_
        refine Oa rfl (Ab     (Aq        (Ao      rfl (Om rfl ?_))))
        refine Or rfl rfl rfl ?_
        refine Oa rfl (Ab     ?_)
        refine Cw    (E' := [(4, .int .i64 sg), (5, .string (str ds)), (6, .int .i64 (Dw        (ds.take (i + 1)) : Nat)), (7, .int .i64 ((i + 1 : Nat)))]) ⟨rfl, rfl, ?_, rfl, trivial⟩ (ih (i + 1) ⟨by omega, Ki       hall (by omega) (by rw [Gb       ]; exact decide_eq_true (by omega))⟩ (by omega))
        rw [J7             ds i (by omega)]
        rfl
      intro c3
      refine Cs     rfl ?_
      refine Se rfl (Om rfl (Om rfl ?_))
      refine Kp      rfl rfl rfl (by rcases hsn with h | h <;> rw [h] <;> omega) .free rfl ?_
      refine Oa rfl (Oa rfl (Ab     ?_))
      refine Ai    (.tmp rfl (.tmp rfl .nil)) ?_
      refine only rfl ?_
      have hil : i = ds.length := by omega
      subst hil
      rw [List.take_length] at hall
      have ht : Bt    s = true := by simp only [Bt   , hd]; grind
      rw [ht, List.take_length, hsg]
      simp only [Du    , hd, if_neg c1, cond_true]
      rfl
    intro c0
    refine Aj     (Ah    (Ah    ?_))
    obtain ⟨sg, hsg, hsn⟩ : ∃ sg : Int, sg = (if (s.getD 0 0).toNat = 45 then -1 else 1) ∧ (sg = 1 ∨ sg = -1) := ⟨_, rfl, by split <;> simp⟩
    have hneg : (s.getD 0 0).toNat = 45 ∨ ¬ (s.getD 0 0).toNat = 45 := by omega
    refine Cw    (E' := [(0, .string (str s)), (4, .int .i64 sg), (5, .string (str (C6     s)))]) (by
      first
        | (rw [show C6     s = s.drop 1 from if_pos (by omega), show sg = -1 by rw [hsg, if_pos (by omega)]]; exact ⟨rfl, rfl, rfl, trivial⟩)
        | (have hn : ¬ (s.getD 0 0).toNat = 45 := by
             first | omega | (have h0 : s = [] := by cases s with
                                | nil => rfl
                                | cons => simp at *
                              rw [h0]; decide)
           rw [show C6     s = s from if_neg hn, show sg = 1 by rw [hsg, if_neg hn]]; exact ⟨rfl, rfl, rfl, trivial⟩)) ?_
    generalize hd : C6     s = ds at *
    refine Ao      rfl (Om rfl (Od rfl rfl rfl (Ab     ?_)))
    refine Si rfl ?_ ?_
    · intro c1
      refine Se rfl (Oa rfl (Oa rfl (Ab     ?_)))
      refine Ai    (.tmp rfl (.tmp rfl .nil)) ?_
      refine only rfl ?_
      rw [‹s = [48]›]; rfl
    intro c1
    refine Aj     (Ah    (Se rfl (Om rfl ?_)))
    refine C1        rfl .free rfl ?_
    refine Ca rfl (Rm     ..) ?_
    rintro _ _ _ _ ⟨rfl, rfl, rfl⟩
    refine Dl    rfl .free rfl ?_
    refine Om rfl ?_
    first | refine G0   rfl rfl ?_ ?_ | refine E3    rfl rfl ?_ ?_ | refine Ly  rfl rfl ?_ ?_
    · intro g8_5
      iterate 3 refine Ch     rfl rfl rfl ?_
      refine Ot rfl rfl (Ab     ?_)
      refine Bs     rfl ?_
      refine Se rfl (Oa rfl (Oa rfl (Ab     ?_)))
      refine Ai    (.tmp rfl (.tmp rfl .nil)) ?_
      refine only rfl ?_
      have hf : Bt    s = false := by simp only [Bt   , hd]; grind
      rw [hf]; rfl
    intro g8_5
    refine Ow rfl ?_
    refine Dn      (i := 0) rfl rfl rfl (by first | omega | exact E9    (by assumption) (by decide) | (simp; done) | (simp; omega) | decide | (simp at *; omega)) (.met rfl rfl) rfl ?_
    refine Dp    rfl rfl rfl (.met rfl rfl) rfl ?_
    refine Of rfl rfl (Ab     ?_)
    refine Si rfl ?_ ?_
    · intro c2
      refine Se rfl (Oa rfl (Oa rfl (Ab     ?_)))
      refine Ai    (.tmp rfl (.tmp rfl .nil)) ?_
      refine only rfl ?_
      have hf : Bt    s = false := by simp only [Bt   , hd]; grind
      rw [hf]; rfl
    intro c2
    refine Aj     (Se rfl (Oa rfl (Ab     (Ah    (Se rfl (Oa rfl (Ab     (Ar      ?_))))))))
    have hl3 : ds.length ≤ 3 ∧ 1 ≤ ds.length := by grind
    refine Dv      (X := Nat) (fun i => ds.length - i) (fun i => [(4, .int .i64 sg), (5, .string (str ds)), (6, .int .i64 (Dw        (ds.take i) : Nat)), (7, .int .i64 (i : Nat))]) (fun _ => I) (fun _ => L) (fun i => i ≤ ds.length ∧ (ds.take i).all Ef    = true) 0 ⟨by omega, by simp⟩ ⟨rfl, rfl, rfl, rfl, trivial⟩ Bj    ?_
    rintro i ⟨hi, hall⟩ ih
    have hv := Kz            (ds.take i) (by simp; omega)
    refine Ah    (Se rfl (Om rfl (Om rfl ?_)))
    refine C1        rfl .free rfl ?_
    refine Oc rfl rfl rfl (Ab     ?_)
    refine Si rfl ?_ ?_
    · intro c3
      refine Aj     (Ah    (Ar      (Ah    (Se rfl (Om rfl (Om rfl ?_))))))
      refine Dn      rfl rfl rfl (by first | omega | exact E9    (by assumption) (by decide) | (simp; done) | (simp; omega) | decide | (simp at *; omega)) .free rfl ?_
      refine Oc rfl rfl rfl (Om rfl ?_)
      first | refine G0   rfl rfl ?_ ?_ | refine E3    rfl rfl ?_ ?_ | refine Ly  rfl rfl ?_ ?_
      · intro g14_5
        iterate 4 refine Ch     rfl rfl rfl ?_
        refine Ot rfl rfl (Ab     ?_)
        refine Bs     rfl ?_
        refine Se rfl (Oa rfl (Oa rfl (Ab     ?_)))
        refine Ai    (.tmp rfl (.tmp rfl .nil)) ?_
        refine only rfl ?_
        have hf : Bt    s = false := by
          have := H8        (p := Ef   ) (show i < ds.length by omega) (by rw [Gb       ]; exact decide_eq_false (by omega))
          simp only [Bt   , hd]; grind
        rw [hf]; rfl
      intro g14_5
      refine Ow rfl (Ow rfl ?_)
      refine Dn      rfl rfl rfl (by first | omega | exact E9    (by assumption) (by decide) | (simp; done) | (simp; omega) | decide | (simp at *; omega)) (.met rfl rfl) rfl ?_
      refine Dp    rfl rfl rfl (.met rfl rfl) rfl ?_
      refine Of rfl rfl (Ab     ?_)
      refine Si rfl ?_ ?_
      · intro c4
        refine Se rfl (Oa rfl (Oa rfl (Ab     ?_)))
        refine Ai    (.tmp rfl (.tmp rfl .nil)) ?_
        refine only rfl ?_
        have hf : Bt    s = false := by
          have := H8        (p := Ef   ) (show i < ds.length by omega) (by rw [Gb       ]; exact decide_eq_false (by omega))
          simp only [Bt   , hd]; grind
        rw [hf]; rfl
      intro c4
      refine Aj     (Ao      rfl (Om rfl ?_))
      refine Or rfl rfl rfl ?_
      refine Om rfl (Om rfl ?_)
      refine Dn      rfl rfl rfl (by first | omega | exact E9    (by assumption) (by decide) | (simp; done) | (simp; omega) | decide | (simp at *; omega)) .free rfl ?_
      refine Yu     (b := 48) rfl rfl (by omega) (by have := UInt8.toNat_lt (ds.getD i 0); omega) .free rfl ?_
      refine Mx        rfl (by first | exact UInt8.toNat_lt _ | omega) .free rfl ?_
      refine Or rfl rfl rfl ?_
      refine Oa rfl (Ab     (Aq        (Ao      rfl (Om rfl ?_))))
      refine Or rfl rfl rfl ?_
      refine Oa rfl (Ab     ?_)
      refine Cw    (E' := [(4, .int .i64 sg), (5, .string (str ds)), (6, .int .i64 (Dw        (ds.take (i + 1)) : Nat)), (7, .int .i64 ((i + 1 : Nat)))]) ⟨rfl, rfl, ?_, rfl, trivial⟩ (ih (i + 1) ⟨by omega, Ki       hall (by omega) (by rw [Gb       ]; exact decide_eq_true (by omega))⟩ (by omega))
      rw [J7             ds i (by omega)]
      rfl
    intro c3
    refine Cs     rfl ?_
    refine Se rfl (Om rfl (Om rfl ?_))
    refine Kp      rfl rfl rfl (by rcases hsn with h | h <;> rw [h] <;> omega) .free rfl ?_
    refine Oa rfl (Oa rfl (Ab     ?_))
    refine Ai    (.tmp rfl (.tmp rfl .nil)) ?_
    refine only rfl ?_
    have hil : i = ds.length := by omega
    subst hil
    rw [List.take_length] at hall
    have ht : Bt    s = true := by simp only [Bt   , hd]; grind
    rw [ht, List.take_length, hsg]
    simp only [Du    , hd, if_neg c1, cond_true]
    rfl
  intro g3_4
  iterate 3 refine Ch     rfl rfl rfl ?_
  refine Of rfl rfl (Ab     ?_)
  refine Ay      rfl ?_
  refine Aj     (Ah    (Ah    ?_))
  obtain ⟨sg, hsg, hsn⟩ : ∃ sg : Int, sg = (if (s.getD 0 0).toNat = 45 then -1 else 1) ∧ (sg = 1 ∨ sg = -1) := ⟨_, rfl, by split <;> simp⟩
  have hneg : (s.getD 0 0).toNat = 45 ∨ ¬ (s.getD 0 0).toNat = 45 := by omega
  refine Cw    (E' := [(0, .string (str s)), (4, .int .i64 sg), (5, .string (str (C6     s)))]) (by
    first
      | (rw [show C6     s = s.drop 1 from if_pos (by omega), show sg = -1 by rw [hsg, if_pos (by omega)]]; exact ⟨rfl, rfl, rfl, trivial⟩)
      | (have hn : ¬ (s.getD 0 0).toNat = 45 := by
           first | omega | (have h0 : s = [] := by cases s with
                              | nil => rfl
                              | cons => simp at *
                            rw [h0]; decide)
         rw [show C6     s = s from if_neg hn, show sg = 1 by rw [hsg, if_neg hn]]; exact ⟨rfl, rfl, rfl, trivial⟩)) ?_
  generalize hd : C6     s = ds at *
  refine Ao      rfl (Om rfl (Od rfl rfl rfl (Ab     ?_)))
  refine Si rfl ?_ ?_
  · intro c1
    refine Se rfl (Oa rfl (Oa rfl (Ab     ?_)))
    refine Ai    (.tmp rfl (.tmp rfl .nil)) ?_
    refine only rfl ?_
    rw [‹s = [48]›]; rfl
  intro c1
  refine Aj     (Ah    (Se rfl (Om rfl ?_)))
  refine C1        rfl .free rfl ?_
  refine Ca rfl (Rm     ..) ?_
  rintro _ _ _ _ ⟨rfl, rfl, rfl⟩
  refine Dl    rfl .free rfl ?_
  refine Om rfl ?_
  first | refine G0   rfl rfl ?_ ?_ | refine E3    rfl rfl ?_ ?_ | refine Ly  rfl rfl ?_ ?_
  · intro g8_5
    iterate 3 refine Ch     rfl rfl rfl ?_
    refine Ot rfl rfl (Ab     ?_)
    refine Bs     rfl ?_
    refine Se rfl (Oa rfl (Oa rfl (Ab     ?_)))
    refine Ai    (.tmp rfl (.tmp rfl .nil)) ?_
    refine only rfl ?_
    have hf : Bt    s = false := by simp only [Bt   , hd]; grind
    rw [hf]; rfl
  intro g8_5
  refine Ow rfl ?_
  refine Dn      (i := 0) rfl rfl rfl (by first | omega | exact E9    (by assumption) (by decide) | (simp; done) | (simp; omega) | decide | (simp at *; omega)) (.met rfl rfl) rfl ?_
  refine Dp    rfl rfl rfl (.met rfl rfl) rfl ?_
  refine Of rfl rfl (Ab     ?_)
  refine Si rfl ?_ ?_
  · intro c2
    refine Se rfl (Oa rfl (Oa rfl (Ab     ?_)))
    refine Ai    (.tmp rfl (.tmp rfl .nil)) ?_
    refine only rfl ?_
    have hf : Bt    s = false := by simp only [Bt   , hd]; grind
    rw [hf]; rfl
  intro c2
  refine Aj     (Se rfl (Oa rfl (Ab     (Ah    (Se rfl (Oa rfl (Ab     (Ar      ?_))))))))
  have hl3 : ds.length ≤ 3 ∧ 1 ≤ ds.length := by grind
  refine Dv      (X := Nat) (fun i => ds.length - i) (fun i => [(4, .int .i64 sg), (5, .string (str ds)), (6, .int .i64 (Dw        (ds.take i) : Nat)), (7, .int .i64 (i : Nat))]) (fun _ => I) (fun _ => L) (fun i => i ≤ ds.length ∧ (ds.take i).all Ef    = true) 0 ⟨by omega, by simp⟩ ⟨rfl, rfl, rfl, rfl, trivial⟩ Bj    ?_
  rintro i ⟨hi, hall⟩ ih
  have hv := Kz            (ds.take i) (by simp; omega)
  refine Ah    (Se rfl (Om rfl (Om rfl ?_)))
  refine C1        rfl .free rfl ?_
  refine Oc rfl rfl rfl (Ab     ?_)
  refine Si rfl ?_ ?_
  · intro c3
    refine Aj     (Ah    (Ar      (Ah    (Se rfl (Om rfl (Om rfl ?_))))))
    refine Dn      rfl rfl rfl (by first | omega | exact E9    (by assumption) (by decide) | (simp; done) | (simp; omega) | decide | (simp at *; omega)) .free rfl ?_
    refine Oc rfl rfl rfl (Om rfl ?_)
    first | refine G0   rfl rfl ?_ ?_ | refine E3    rfl rfl ?_ ?_ | refine Ly  rfl rfl ?_ ?_
    · intro g14_5
      iterate 4 refine Ch     rfl rfl rfl ?_
      refine Ot rfl rfl (Ab     ?_)
      refine Bs     rfl ?_
      refine Se rfl (Oa rfl (Oa rfl (Ab     ?_)))
      refine Ai    (.tmp rfl (.tmp rfl .nil)) ?_
      refine only rfl ?_
      have hf : Bt    s = false := by
        have := H8        (p := Ef   ) (show i < ds.length by omega) (by rw [Gb       ]; exact decide_eq_false (by omega))
        simp only [Bt   , hd]; grind
      rw [hf]; rfl
    intro g14_5
    refine Ow rfl (Ow rfl ?_)
    refine Dn      rfl rfl rfl (by first | omega | exact E9    (by assumption) (by decide) | (simp; done) | (simp; omega) | decide | (simp at *; omega)) (.met rfl rfl) rfl ?_
    refine Dp    rfl rfl rfl (.met rfl rfl) rfl ?_
    refine Of rfl rfl (Ab     ?_)
    refine Si rfl ?_ ?_
    · intro c4
      refine Se rfl (Oa rfl (Oa rfl (Ab     ?_)))
      refine Ai    (.tmp rfl (.tmp rfl .nil)) ?_
      refine only rfl ?_
      have hf : Bt    s = false := by
        have := H8        (p := Ef   ) (show i < ds.length by omega) (by rw [Gb       ]; exact decide_eq_false (by omega))
        simp only [Bt   , hd]; grind
      rw [hf]; rfl
    intro c4
    refine Aj     (Ao      rfl (Om rfl ?_))
    refine Or rfl rfl rfl ?_
    refine Om rfl (Om rfl ?_)
    refine Dn      rfl rfl rfl (by first | omega | exact E9    (by assumption) (by decide) | (simp; done) | (simp; omega) | decide | (simp at *; omega)) .free rfl ?_
    refine Yu     (b := 48) rfl rfl (by omega) (by have := UInt8.toNat_lt (ds.getD i 0); omega) .free rfl ?_
    refine Mx        rfl (by first | exact UInt8.toNat_lt _ | omega) .free rfl ?_
    refine Or rfl rfl rfl ?_
    refine Oa rfl (Ab     (Aq        (Ao      rfl (Om rfl ?_))))
    refine Or rfl rfl rfl ?_
    refine Oa rfl (Ab     ?_)
    refine Cw    (E' := [(4, .int .i64 sg), (5, .string (str ds)), (6, .int .i64 (Dw        (ds.take (i + 1)) : Nat)), (7, .int .i64 ((i + 1 : Nat)))]) ⟨rfl, rfl, ?_, rfl, trivial⟩ (ih (i + 1) ⟨by omega, Ki       hall (by omega) (by rw [Gb       ]; exact decide_eq_true (by omega))⟩ (by omega))
    rw [J7             ds i (by omega)]
    rfl
  intro c3
  refine Cs     rfl ?_
  refine Se rfl (Om rfl (Om rfl ?_))
  refine Kp      rfl rfl rfl (by rcases hsn with h | h <;> rw [h] <;> omega) .free rfl ?_
  refine Oa rfl (Oa rfl (Ab     ?_))
  refine Ai    (.tmp rfl (.tmp rfl .nil)) ?_
  refine only rfl ?_
  have hil : i = ds.length := by omega
  subst hil
  rw [List.take_length] at hall
  have ht : Bt    s = true := by simp only [Bt   , hd]; grind
  rw [ht, List.take_length, hsg]
  simp only [Du    , hd, if_neg c1, cond_true]
  rfl
set_option maxRecDepth 100000
set_option linter.unusedVariables false
set_option linter.unusedSimpArgs false

def El : As := [99, 97, 108, 108]
def D8 : As := [112, 97, 105, 114]
def Hl : As := [105, 102]
def D5 : As := [108, 101, 116]
def Ea : As := [102, 117, 110]
def Fn : As := [102, 115, 116]
def Fo : As := [115, 110, 100]
def A0 (h : As) : Nat × Nat :=
 if h = [43] ∨ h = [45] ∨ h = [42] ∨ h = El ∨ h = D8 then (1, 3) else if h = Hl then (1, 4) else if h = D5 then (2, 4) else if h = Ea then (5, 6) else if h = Fn ∨ h = Fo then (1, 2) else (0, 0)
def KR (h : As) (I : Heap) (L : Bh) : C3 := Ee (.tuple #[.int .i64 ((A0 h).1 : Nat), .int .i64 ((A0 h).2 : Nat)]) I L
theorem Ws       (h : As ) (I : Heap) (L : Bh ) : Fun Tryz.prog 145 [.string (str h)] I L (KR h I L) := by
  refine Al        (by simp) ?_
  refine Se rfl (Oa rfl (Oa rfl (Ab     (Ah    (Se rfl (Om rfl (Ab     (Ar      (Ah    (Se rfl (Od rfl rfl rfl (Oa rfl (Ab     ?_)))))))))))))
  refine Si rfl ?_ ?_
  · intro c0
    refine Aj     ?_
    first | refine St rfl (by first | assumption | omega) ?_ | refine Bs     (by simp [look, Cf , *]) ?_
    refine Se rfl (Oa rfl (Oa rfl (Ab     ?_)))
    refine Ai    (.tmp rfl (.tmp rfl .nil)) ?_
    refine only rfl ?_
    first
      | (subst_vars; rfl)
      | (have e : A0       h = (0, 0) := by unfold A0       El    D8    Hl  D5   Ea   Fn   Fo  ; simp [*]
         rw [e]; rfl)
  intro c0
  refine Se rfl (Od rfl rfl rfl (Oa rfl (Ab     ?_)))
  refine Si rfl ?_ ?_
  · intro c1
    refine Aj     ?_
    first | refine St rfl (by first | assumption | omega) ?_ | refine Bs     (by simp [look, Cf , *]) ?_
    refine Se rfl (Oa rfl (Oa rfl (Ab     ?_)))
    refine Ai    (.tmp rfl (.tmp rfl .nil)) ?_
    refine only rfl ?_
    first
      | (subst_vars; rfl)
      | (have e : A0       h = (0, 0) := by unfold A0       El    D8    Hl  D5   Ea   Fn   Fo  ; simp [*]
         rw [e]; rfl)
  intro c1
  refine Se rfl (Od rfl rfl rfl (Oa rfl (Ab     ?_)))
  refine Si rfl ?_ ?_
  · intro c2
    refine Aj     ?_
    first | refine St rfl (by first | assumption | omega) ?_ | refine Bs     (by simp [look, Cf , *]) ?_
    refine Se rfl (Oa rfl (Oa rfl (Ab     ?_)))
    refine Ai    (.tmp rfl (.tmp rfl .nil)) ?_
    refine only rfl ?_
    first
      | (subst_vars; rfl)
      | (have e : A0       h = (0, 0) := by unfold A0       El    D8    Hl  D5   Ea   Fn   Fo  ; simp [*]
         rw [e]; rfl)
  intro c2
  refine Se rfl (Od rfl rfl rfl (Oa rfl (Ab     ?_)))
  refine Si rfl ?_ ?_
  · intro c3
    refine Aj     ?_
    first | refine St rfl (by first | assumption | omega) ?_ | refine Bs     (by simp [look, Cf , *]) ?_
    refine Se rfl (Oa rfl (Oa rfl (Ab     ?_)))
    refine Ai    (.tmp rfl (.tmp rfl .nil)) ?_
    refine only rfl ?_
    first
      | (subst_vars; rfl)
      | (have e : A0       h = (0, 0) := by unfold A0       El    D8    Hl  D5   Ea   Fn   Fo  ; simp [*]
         rw [e]; rfl)
  intro c3
  refine Ao      rfl (Od rfl rfl rfl (Oa rfl (Ab     ?_)))
  refine Si rfl ?_ ?_
  · intro c4
    refine Se rfl (Oa rfl (Oa rfl (Ab     ?_)))
    refine Ai    (.tmp rfl (.tmp rfl .nil)) ?_
    refine only rfl ?_
    first
      | (subst_vars; rfl)
      | (have e : A0       h = (0, 0) := by unfold A0       El    D8    Hl  D5   Ea   Fn   Fo  ; simp [*]
         rw [e]; rfl)
  intro c4
  refine Se rfl (Od rfl rfl rfl (Oa rfl (Ab     ?_)))
  refine Si rfl ?_ ?_
  · intro c5
    refine Se rfl (Oa rfl (Oa rfl (Ab     ?_)))
    refine Ai    (.tmp rfl (.tmp rfl .nil)) ?_
    refine only rfl ?_
    first
      | (subst_vars; rfl)
      | (have e : A0       h = (0, 0) := by unfold A0       El    D8    Hl  D5   Ea   Fn   Fo  ; simp [*]
         rw [e]; rfl)
  intro c5
  refine Se rfl (Od rfl rfl rfl (Oa rfl (Ab     ?_)))
  refine Si rfl ?_ ?_
  · intro c6
    refine Se rfl (Oa rfl (Oa rfl (Ab     ?_)))
    refine Ai    (.tmp rfl (.tmp rfl .nil)) ?_
    refine only rfl ?_
    first
      | (subst_vars; rfl)
      | (have e : A0       h = (0, 0) := by unfold A0       El    D8    Hl  D5   Ea   Fn   Fo  ; simp [*]
         rw [e]; rfl)
  intro c6
  refine Se rfl (Od rfl rfl rfl (Oa rfl (Ab     ?_)))
  refine Si rfl ?_ ?_
  · intro c7
    refine Se rfl (Oa rfl (Oa rfl (Ab     ?_)))
    refine Ai    (.tmp rfl (.tmp rfl .nil)) ?_
    refine only rfl ?_
    first
      | (subst_vars; rfl)
      | (have e : A0       h = (0, 0) := by unfold A0       El    D8    Hl  D5   Ea   Fn   Fo  ; simp [*]
         rw [e]; rfl)
  intro c7
  refine Ah    (Se rfl (Od rfl rfl rfl (Oa rfl (Ab     ?_))))
  refine Si rfl ?_ ?_
  · intro c8
    refine Aj     ?_
    first | refine St rfl (by first | assumption | omega) ?_ | refine Bs     (by simp [look, Cf , *]) ?_
    refine Se rfl (Oa rfl (Oa rfl (Ab     ?_)))
    refine Ai    (.tmp rfl (.tmp rfl .nil)) ?_
    refine only rfl ?_
    first
      | (subst_vars; rfl)
      | (have e : A0       h = (0, 0) := by unfold A0       El    D8    Hl  D5   Ea   Fn   Fo  ; simp [*]
         rw [e]; rfl)
  intro c8
  refine Ao      rfl (Od rfl rfl rfl (Oa rfl (Ab     ?_)))
  refine Si rfl ?_ ?_
  · intro c9
    refine Se rfl (Oa rfl (Oa rfl (Ab     ?_)))
    refine Ai    (.tmp rfl (.tmp rfl .nil)) ?_
    refine only rfl ?_
    first
      | (subst_vars; rfl)
      | (have e : A0       h = (0, 0) := by unfold A0       El    D8    Hl  D5   Ea   Fn   Fo  ; simp [*]
         rw [e]; rfl)
  intro c9
  refine Aj     (Aq        (Se rfl (Oa rfl (Oa rfl (Ab     ?_)))))
  refine Ai    (.tmp rfl (.tmp rfl .nil)) ?_
  refine only rfl ?_
  first
    | (subst_vars; rfl)
    | (have e : A0       h = (0, 0) := by unfold A0       El    D8    Hl  D5   Ea   Fn   Fo  ; simp [*]
       rw [e]; rfl)

def Cl (t : Tree) : List Nat := if t.parts.length = (A0 t.head).2 then List.range' (A0 t.head).1 ((A0 t.head).2 - (A0 t.head).1) else []
def nv (n : Nat) : Value := .int .i64 (n : Nat)
structure Nums (I : Heap) (oa : Option Addr) (l : List Nat) (c : Nat) : Prop where
 still : ∀ x, oa = some x → Still I x (l.map nv)
 nil : oa = none → l = []
 cap : l.length ≤ c
theorem Nums.mono {I I' : Heap} {oa : Option Addr} {l : List Nat} {c : Nat} (hle : HLe I I') (h : Nums I oa l c) : Nums I' oa l c := ⟨fun x hx => (h.still x hx).mono hle, h.nil, h.cap⟩
theorem Nums.at {I : Heap} {oa : Option Addr} {l : List Nat} {c : Nat} (h : Nums I oa l c) (i : Nat) (hi : i < l.length) : ∃ x, oa = some x ∧ Still I (x.add (i * 1)) [.int .i64 (l[i] : Nat)] := by
 cases oa with
 | none => have := h.nil rfl; subst this; simp at hi
 | some x =>
  refine ⟨x, rfl, (h.still x rfl).part (i * 1) ?_⟩; intro j hj; obtain rfl : j = 0 := by simpa using hj
  simp [hi, nv]
theorem Adc {I : Heap} {b : Nat} {l : List Nat} {e : TypeId} : Nums (I.set b (.cells (l.map nv).toArray e (0, 0))) (some ⟨b, 0, none⟩) l l.length :=
 ⟨fun y hy => by cases hy; simpa using B0 (xs := l.map nv) (ys := []), by simp, Nat.le_refl _⟩
def KD (l : List Nat) (L : Bh) : C3 := fun v I' L' => ∃ oa c, v = .slice oa (List.length l) c ∧ Nums I' oa l c ∧ L = L'
theorem Gz {I : Heap} {b : Nat} {l m : List Nat} {e : TypeId} {L : Bh} (h : l = m) : KD m L (.slice (some ⟨b, 0, none⟩) l.length l.length) (I.set b (.cells (l.map nv).toArray e (0, 0))) L := by
 subst h; exact ⟨_, _, rfl, Adc, rfl⟩
theorem Gg          {I : Heap} {t : Tree} {cs : List Value} (h : Rep I t cs) (L : Bh ) : Fun Tryz.prog 108 [.agg cs.toArray] I L (KD (Cl   t) L) := by
  obtain ⟨oa, c, vs, rfl, hrl, hs, hn, hc, ha, hp⟩ := h.open
  unfold Bb   at hp
  refine Al        (by simp) ?_
  refine Se rfl ?_
  refine Cc    rfl rfl .free rfl ?_
  intro b1
  refine Oa rfl (Ab     (Ah    (Se rfl ?_)))
  refine Cp   rfl .free rfl ?_
  refine Ca rfl (Cj          h _) ?_
  rintro _ _ _ _ ⟨rfl, rfl, rfl⟩
  refine Ab     (Ar      (Ah    (Se rfl (Od rfl rfl rfl (Oa rfl (Ab     ?_))))))
  refine Si rfl ?_ ?_
  · intro c0
    refine Aj     ?_
    first | refine St rfl (by first | assumption | omega) ?_ | refine Bs     (by simp [look, Cf , *]) ?_
    refine Se rfl ?_
    first | refine Oh rfl ?_ | refine Oj rfl ?_
    refine Cp   rfl .free rfl ?_
    refine On rfl (Oc rfl rfl rfl (Ab     ?_))
    refine Si rfl ?_ ?_
    · intro c5
      refine Se rfl ?_
      refine Ol rfl rfl ?_
      intro b15
      refine Oa rfl (Ab     ?_)
      refine Bv       ?_
      intro hz
      refine Ai    (.tmp rfl .nil) ?_
      refine ⟨_, L, hz, fun _ h => h.drop, Gz     (l := [1, 2]) ?_⟩
      have hl : t.parts.length = 3 := by omega
      unfold Cl   A0       El    D8    Hl  D5   Ea   Fn   Fo  
      simp only [*, true_or, or_true, or_false, false_or, if_true, if_false]
      rfl
    intro c5
    refine Aj     (Aq        (Se rfl (Oa rfl (Ab     (Ai    (.tmp rfl .nil) ?_)))))
    have hk : Cl   t = [] := by
      unfold Cl   A0       El    D8    Hl  D5   Ea   Fn   Fo  
      first
        | (have hl : ¬ t.parts.length = 3 := by omega
           simp [*]; done)
        | (have hl : ¬ t.parts.length = 4 := by omega
           simp [*]; done)
        | (have hl : ¬ t.parts.length = 6 := by omega
           simp [*]; done)
        | (have hl : ¬ t.parts.length = 2 := by omega
           simp [*]; done)
        | (simp [*]; done)
    exact ⟨I, L, .refl _, fun _ h => h.drop, none, 0, by rw [hk]; rfl, ⟨by simp, fun _ => hk, by rw [hk]; simp⟩, rfl⟩
  intro c0
  refine Se rfl (Od rfl rfl rfl (Oa rfl (Ab     ?_)))
  refine Si rfl ?_ ?_
  · intro c1
    refine Aj     ?_
    first | refine St rfl (by first | assumption | omega) ?_ | refine Bs     (by simp [look, Cf , *]) ?_
    refine Se rfl ?_
    first | refine Oh rfl ?_ | refine Oj rfl ?_
    refine Cp   rfl .free rfl ?_
    refine On rfl (Oc rfl rfl rfl (Ab     ?_))
    refine Si rfl ?_ ?_
    · intro c5
      refine Se rfl ?_
      refine Ol rfl rfl ?_
      intro b15
      refine Oa rfl (Ab     ?_)
      refine Bv       ?_
      intro hz
      refine Ai    (.tmp rfl .nil) ?_
      refine ⟨_, L, hz, fun _ h => h.drop, Gz     (l := [1, 2]) ?_⟩
      have hl : t.parts.length = 3 := by omega
      unfold Cl   A0       El    D8    Hl  D5   Ea   Fn   Fo  
      simp only [*, true_or, or_true, or_false, false_or, if_true, if_false]
      rfl
    intro c5
    refine Aj     (Aq        (Se rfl (Oa rfl (Ab     (Ai    (.tmp rfl .nil) ?_)))))
    have hk : Cl   t = [] := by
      unfold Cl   A0       El    D8    Hl  D5   Ea   Fn   Fo  
      first
        | (have hl : ¬ t.parts.length = 3 := by omega
           simp [*]; done)
        | (have hl : ¬ t.parts.length = 4 := by omega
           simp [*]; done)
        | (have hl : ¬ t.parts.length = 6 := by omega
           simp [*]; done)
        | (have hl : ¬ t.parts.length = 2 := by omega
           simp [*]; done)
        | (simp [*]; done)
    exact ⟨I, L, .refl _, fun _ h => h.drop, none, 0, by rw [hk]; rfl, ⟨by simp, fun _ => hk, by rw [hk]; simp⟩, rfl⟩
  intro c1
  refine Se rfl (Od rfl rfl rfl (Oa rfl (Ab     ?_)))
  refine Si rfl ?_ ?_
  · intro c2
    refine Aj     ?_
    first | refine St rfl (by first | assumption | omega) ?_ | refine Bs     (by simp [look, Cf , *]) ?_
    refine Se rfl ?_
    first | refine Oh rfl ?_ | refine Oj rfl ?_
    refine Cp   rfl .free rfl ?_
    refine On rfl (Oc rfl rfl rfl (Ab     ?_))
    refine Si rfl ?_ ?_
    · intro c5
      refine Se rfl ?_
      refine Ol rfl rfl ?_
      intro b15
      refine Oa rfl (Ab     ?_)
      refine Bv       ?_
      intro hz
      refine Ai    (.tmp rfl .nil) ?_
      refine ⟨_, L, hz, fun _ h => h.drop, Gz     (l := [1, 2]) ?_⟩
      have hl : t.parts.length = 3 := by omega
      unfold Cl   A0       El    D8    Hl  D5   Ea   Fn   Fo  
      simp only [*, true_or, or_true, or_false, false_or, if_true, if_false]
      rfl
    intro c5
    refine Aj     (Aq        (Se rfl (Oa rfl (Ab     (Ai    (.tmp rfl .nil) ?_)))))
    have hk : Cl   t = [] := by
      unfold Cl   A0       El    D8    Hl  D5   Ea   Fn   Fo  
      first
        | (have hl : ¬ t.parts.length = 3 := by omega
           simp [*]; done)
        | (have hl : ¬ t.parts.length = 4 := by omega
           simp [*]; done)
        | (have hl : ¬ t.parts.length = 6 := by omega
           simp [*]; done)
        | (have hl : ¬ t.parts.length = 2 := by omega
           simp [*]; done)
        | (simp [*]; done)
    exact ⟨I, L, .refl _, fun _ h => h.drop, none, 0, by rw [hk]; rfl, ⟨by simp, fun _ => hk, by rw [hk]; simp⟩, rfl⟩
  intro c2
  refine Se rfl (Od rfl rfl rfl (Oa rfl (Ab     ?_)))
  refine Si rfl ?_ ?_
  · intro c3
    refine Aj     ?_
    first | refine St rfl (by first | assumption | omega) ?_ | refine Bs     (by simp [look, Cf , *]) ?_
    refine Se rfl ?_
    first | refine Oh rfl ?_ | refine Oj rfl ?_
    refine Cp   rfl .free rfl ?_
    refine On rfl (Oc rfl rfl rfl (Ab     ?_))
    refine Si rfl ?_ ?_
    · intro c5
      refine Se rfl ?_
      refine Ol rfl rfl ?_
      intro b15
      refine Oa rfl (Ab     ?_)
      refine Bv       ?_
      intro hz
      refine Ai    (.tmp rfl .nil) ?_
      refine ⟨_, L, hz, fun _ h => h.drop, Gz     (l := [1, 2]) ?_⟩
      have hl : t.parts.length = 3 := by omega
      unfold Cl   A0       El    D8    Hl  D5   Ea   Fn   Fo  
      simp only [*, true_or, or_true, or_false, false_or, if_true, if_false]
      rfl
    intro c5
    refine Aj     (Aq        (Se rfl (Oa rfl (Ab     (Ai    (.tmp rfl .nil) ?_)))))
    have hk : Cl   t = [] := by
      unfold Cl   A0       El    D8    Hl  D5   Ea   Fn   Fo  
      first
        | (have hl : ¬ t.parts.length = 3 := by omega
           simp [*]; done)
        | (have hl : ¬ t.parts.length = 4 := by omega
           simp [*]; done)
        | (have hl : ¬ t.parts.length = 6 := by omega
           simp [*]; done)
        | (have hl : ¬ t.parts.length = 2 := by omega
           simp [*]; done)
        | (simp [*]; done)
    exact ⟨I, L, .refl _, fun _ h => h.drop, none, 0, by rw [hk]; rfl, ⟨by simp, fun _ => hk, by rw [hk]; simp⟩, rfl⟩
  intro c3
  refine Ao      rfl (Od rfl rfl rfl (Oa rfl (Ab     ?_)))
  refine Si rfl ?_ ?_
  · intro c4
    refine Se rfl ?_
    first | refine Oh rfl ?_ | refine Oj rfl ?_
    refine Cp   rfl .free rfl ?_
    refine On rfl (Oc rfl rfl rfl (Ab     ?_))
    refine Si rfl ?_ ?_
    · intro c5
      refine Se rfl ?_
      refine Ol rfl rfl ?_
      intro b15
      refine Oa rfl (Ab     ?_)
      refine Bv       ?_
      intro hz
      refine Ai    (.tmp rfl .nil) ?_
      refine ⟨_, L, hz, fun _ h => h.drop, Gz     (l := [1, 2]) ?_⟩
      have hl : t.parts.length = 3 := by omega
      unfold Cl   A0       El    D8    Hl  D5   Ea   Fn   Fo  
      simp only [*, true_or, or_true, or_false, false_or, if_true, if_false]
      rfl
    intro c5
    refine Aj     (Aq        (Se rfl (Oa rfl (Ab     (Ai    (.tmp rfl .nil) ?_)))))
    have hk : Cl   t = [] := by
      unfold Cl   A0       El    D8    Hl  D5   Ea   Fn   Fo  
      first
        | (have hl : ¬ t.parts.length = 3 := by omega
           simp [*]; done)
        | (have hl : ¬ t.parts.length = 4 := by omega
           simp [*]; done)
        | (have hl : ¬ t.parts.length = 6 := by omega
           simp [*]; done)
        | (have hl : ¬ t.parts.length = 2 := by omega
           simp [*]; done)
        | (simp [*]; done)
    exact ⟨I, L, .refl _, fun _ h => h.drop, none, 0, by rw [hk]; rfl, ⟨by simp, fun _ => hk, by rw [hk]; simp⟩, rfl⟩
  intro c4
  refine Se rfl (Od rfl rfl rfl (Oa rfl (Ab     ?_)))
  refine Si rfl ?_ ?_
  · intro c6
    refine Se rfl ?_
    first | refine Oh rfl ?_ | refine Oj rfl ?_
    refine Cp   rfl .free rfl ?_
    refine On rfl (Oc rfl rfl rfl (Ab     ?_))
    refine Si rfl ?_ ?_
    · intro c7
      refine Se rfl ?_
      refine Ol rfl rfl ?_
      intro b22
      refine Oa rfl (Ab     ?_)
      refine Bv       ?_
      intro hz
      refine Ai    (.tmp rfl .nil) ?_
      refine ⟨_, L, hz, fun _ h => h.drop, Gz     (l := [1, 2, 3]) ?_⟩
      have hl : t.parts.length = 4 := by omega
      unfold Cl   A0       El    D8    Hl  D5   Ea   Fn   Fo  
      simp only [*, true_or, or_true, or_false, false_or, if_true, if_false]
      rfl
    intro c7
    refine Aj     (Aq        (Se rfl (Oa rfl (Ab     (Ai    (.tmp rfl .nil) ?_)))))
    have hk : Cl   t = [] := by
      unfold Cl   A0       El    D8    Hl  D5   Ea   Fn   Fo  
      first
        | (have hl : ¬ t.parts.length = 3 := by omega
           simp [*]; done)
        | (have hl : ¬ t.parts.length = 4 := by omega
           simp [*]; done)
        | (have hl : ¬ t.parts.length = 6 := by omega
           simp [*]; done)
        | (have hl : ¬ t.parts.length = 2 := by omega
           simp [*]; done)
        | (simp [*]; done)
    exact ⟨I, L, .refl _, fun _ h => h.drop, none, 0, by rw [hk]; rfl, ⟨by simp, fun _ => hk, by rw [hk]; simp⟩, rfl⟩
  intro c6
  refine Se rfl (Od rfl rfl rfl (Oa rfl (Ab     ?_)))
  refine Si rfl ?_ ?_
  · intro c8
    refine Se rfl ?_
    first | refine Oh rfl ?_ | refine Oj rfl ?_
    refine Cp   rfl .free rfl ?_
    refine On rfl (Oc rfl rfl rfl (Ab     ?_))
    refine Si rfl ?_ ?_
    · intro c9
      refine Se rfl ?_
      refine Ol rfl rfl ?_
      intro b29
      refine Oa rfl (Ab     ?_)
      refine Bv       ?_
      intro hz
      refine Ai    (.tmp rfl .nil) ?_
      refine ⟨_, L, hz, fun _ h => h.drop, Gz     (l := [2, 3]) ?_⟩
      have hl : t.parts.length = 4 := by omega
      unfold Cl   A0       El    D8    Hl  D5   Ea   Fn   Fo  
      simp only [*, true_or, or_true, or_false, false_or, if_true, if_false]
      rfl
    intro c9
    refine Aj     (Aq        (Se rfl (Oa rfl (Ab     (Ai    (.tmp rfl .nil) ?_)))))
    have hk : Cl   t = [] := by
      unfold Cl   A0       El    D8    Hl  D5   Ea   Fn   Fo  
      first
        | (have hl : ¬ t.parts.length = 3 := by omega
           simp [*]; done)
        | (have hl : ¬ t.parts.length = 4 := by omega
           simp [*]; done)
        | (have hl : ¬ t.parts.length = 6 := by omega
           simp [*]; done)
        | (have hl : ¬ t.parts.length = 2 := by omega
           simp [*]; done)
        | (simp [*]; done)
    exact ⟨I, L, .refl _, fun _ h => h.drop, none, 0, by rw [hk]; rfl, ⟨by simp, fun _ => hk, by rw [hk]; simp⟩, rfl⟩
  intro c8
  refine Se rfl (Od rfl rfl rfl (Oa rfl (Ab     ?_)))
  refine Si rfl ?_ ?_
  · intro c10
    refine Se rfl ?_
    first | refine Oh rfl ?_ | refine Oj rfl ?_
    refine Cp   rfl .free rfl ?_
    refine On rfl (Oc rfl rfl rfl (Ab     ?_))
    refine Si rfl ?_ ?_
    · intro c11
      refine Se rfl ?_
      refine Ol rfl rfl ?_
      intro b36
      refine Oa rfl (Ab     ?_)
      refine Bv       ?_
      intro hz
      refine Ai    (.tmp rfl .nil) ?_
      refine ⟨_, L, hz, fun _ h => h.drop, Gz     (l := [5]) ?_⟩
      have hl : t.parts.length = 6 := by omega
      unfold Cl   A0       El    D8    Hl  D5   Ea   Fn   Fo  
      simp only [*, true_or, or_true, or_false, false_or, if_true, if_false]
      rfl
    intro c11
    refine Aj     (Aq        (Se rfl (Oa rfl (Ab     (Ai    (.tmp rfl .nil) ?_)))))
    have hk : Cl   t = [] := by
      unfold Cl   A0       El    D8    Hl  D5   Ea   Fn   Fo  
      first
        | (have hl : ¬ t.parts.length = 3 := by omega
           simp [*]; done)
        | (have hl : ¬ t.parts.length = 4 := by omega
           simp [*]; done)
        | (have hl : ¬ t.parts.length = 6 := by omega
           simp [*]; done)
        | (have hl : ¬ t.parts.length = 2 := by omega
           simp [*]; done)
        | (simp [*]; done)
    exact ⟨I, L, .refl _, fun _ h => h.drop, none, 0, by rw [hk]; rfl, ⟨by simp, fun _ => hk, by rw [hk]; simp⟩, rfl⟩
  intro c10
  refine Ah    (Se rfl (Od rfl rfl rfl (Oa rfl (Ab     ?_))))
  refine Si rfl ?_ ?_
  · intro c12
    refine Aj     ?_
    first | refine St rfl (by first | assumption | omega) ?_ | refine Bs     (by simp [look, Cf , *]) ?_
    refine Se rfl ?_
    first | refine Oh rfl ?_ | refine Oj rfl ?_
    refine Cp   rfl .free rfl ?_
    refine On rfl (Oc rfl rfl rfl (Ab     ?_))
    refine Si rfl ?_ ?_
    · intro c14
      refine Se rfl ?_
      refine Ol rfl rfl ?_
      intro b44
      refine Oa rfl (Ab     ?_)
      refine Bv       ?_
      intro hz
      refine Ai    (.tmp rfl .nil) ?_
      refine ⟨_, L, hz, fun _ h => h.drop, Gz     (l := [1]) ?_⟩
      have hl : t.parts.length = 2 := by omega
      unfold Cl   A0       El    D8    Hl  D5   Ea   Fn   Fo  
      simp only [*, true_or, or_true, or_false, false_or, if_true, if_false]
      rfl
    intro c14
    refine Aj     (Aq        (Se rfl (Oa rfl (Ab     (Ai    (.tmp rfl .nil) ?_)))))
    have hk : Cl   t = [] := by
      unfold Cl   A0       El    D8    Hl  D5   Ea   Fn   Fo  
      first
        | (have hl : ¬ t.parts.length = 3 := by omega
           simp [*]; done)
        | (have hl : ¬ t.parts.length = 4 := by omega
           simp [*]; done)
        | (have hl : ¬ t.parts.length = 6 := by omega
           simp [*]; done)
        | (have hl : ¬ t.parts.length = 2 := by omega
           simp [*]; done)
        | (simp [*]; done)
    exact ⟨I, L, .refl _, fun _ h => h.drop, none, 0, by rw [hk]; rfl, ⟨by simp, fun _ => hk, by rw [hk]; simp⟩, rfl⟩
  intro c12
  refine Ao      rfl (Od rfl rfl rfl (Oa rfl (Ab     ?_)))
  refine Si rfl ?_ ?_
  · intro c13
    refine Se rfl ?_
    first | refine Oh rfl ?_ | refine Oj rfl ?_
    refine Cp   rfl .free rfl ?_
    refine On rfl (Oc rfl rfl rfl (Ab     ?_))
    refine Si rfl ?_ ?_
    · intro c14
      refine Se rfl ?_
      refine Ol rfl rfl ?_
      intro b44
      refine Oa rfl (Ab     ?_)
      refine Bv       ?_
      intro hz
      refine Ai    (.tmp rfl .nil) ?_
      refine ⟨_, L, hz, fun _ h => h.drop, Gz     (l := [1]) ?_⟩
      have hl : t.parts.length = 2 := by omega
      unfold Cl   A0       El    D8    Hl  D5   Ea   Fn   Fo  
      simp only [*, true_or, or_true, or_false, false_or, if_true, if_false]
      rfl
    intro c14
    refine Aj     (Aq        (Se rfl (Oa rfl (Ab     (Ai    (.tmp rfl .nil) ?_)))))
    have hk : Cl   t = [] := by
      unfold Cl   A0       El    D8    Hl  D5   Ea   Fn   Fo  
      first
        | (have hl : ¬ t.parts.length = 3 := by omega
           simp [*]; done)
        | (have hl : ¬ t.parts.length = 4 := by omega
           simp [*]; done)
        | (have hl : ¬ t.parts.length = 6 := by omega
           simp [*]; done)
        | (have hl : ¬ t.parts.length = 2 := by omega
           simp [*]; done)
        | (simp [*]; done)
    exact ⟨I, L, .refl _, fun _ h => h.drop, none, 0, by rw [hk]; rfl, ⟨by simp, fun _ => hk, by rw [hk]; simp⟩, rfl⟩
  intro c13
  refine Aj     (Aq        (Se rfl (Oa rfl (Ab     (Ai    (.tmp rfl .nil) ?_)))))
  have hk : Cl   t = [] := by
    unfold Cl   A0       El    D8    Hl  D5   Ea   Fn   Fo  
    first
      | (have hl : ¬ t.parts.length = 3 := by omega
         simp [*]; done)
      | (have hl : ¬ t.parts.length = 4 := by omega
         simp [*]; done)
      | (have hl : ¬ t.parts.length = 6 := by omega
         simp [*]; done)
      | (have hl : ¬ t.parts.length = 2 := by omega
         simp [*]; done)
      | (simp [*]; done)
  exact ⟨I, L, .refl _, fun _ h => h.drop, none, 0, by rw [hk]; rfl, ⟨by simp, fun _ => hk, by rw [hk]; simp⟩, rfl⟩
set_option maxRecDepth 100000
set_option linter.unusedVariables false
set_option linter.unusedSimpArgs false

inductive Ty where
 | i
 | fn (a b : Ty)
 | pr (a b : Ty)
def Ty.tree : Ty → Tree
 | .i => .node [105] []
 | .fn a b => .node [] [.node [62] [], a.tree, b.tree]
 | .pr a b => .node [] [.node [42] [], a.tree, b.tree]
def Ty.size : Ty → Nat
 | .i => 1
 | .fn a b => 1 + a.size + b.size
 | .pr a b => 1 + a.size + b.size
def Ty.dec : (a b : Ty) → Decidable (a = b)
 | .i, .i => isTrue rfl
 | .fn a b, .fn c d => match Ty.dec a c, Ty.dec b d with
  | isTrue h, isTrue h' => isTrue (by rw [h, h'])
  | isFalse h, _ => isFalse (fun e => h (Ty.fn.inj e).1)
  | _, isFalse h => isFalse (fun e => h (Ty.fn.inj e).2)
 | .pr a b, .pr c d => match Ty.dec a c, Ty.dec b d with
  | isTrue h, isTrue h' => isTrue (by rw [h, h'])
  | isFalse h, _ => isFalse (fun e => h (Ty.pr.inj e).1)
  | _, isFalse h => isFalse (fun e => h (Ty.pr.inj e).2)
 | .i, .fn _ _ => isFalse (by simp)
 | .i, .pr _ _ => isFalse (by simp)
 | .fn _ _, .i => isFalse (by simp)
 | .fn _ _, .pr _ _ => isFalse (by simp)
 | .pr _ _, .i => isFalse (by simp)
 | .pr _ _, .fn _ _ => isFalse (by simp)
instance : DecidableEq Ty := Ty.dec

inductive B5 where
 | add | sub | mul | call | pair
inductive U2 where
 | fst | snd
def B5.txt : B5 → As
 | .add => [43] | .sub => [45] | .mul => [42] | .call => El | .pair => D8
def U2.txt : U2 → As
 | .fst => Fn | .snd => Fo
inductive Ex where
 | num (s : As)
 | name (s : As)
 | bin (o : B5) (a b : Ex)
 | ite (a b c : Ex)
 | lt (x : As) (a b : Ex)
 | fn (f x : As) (s t : Ty) (b : Ex)
 | un (o : U2) (a : Ex)
def Ex.tree : Ex → Tree
 | .num s => .node s []
 | .name s => .node s []
 | .bin o a b => .node [] [.node o.txt [], a.tree, b.tree]
 | .ite a b c => .node [] [.node Hl [], a.tree, b.tree, c.tree]
 | .lt x a b => .node [] [.node D5 [], .node x [], a.tree, b.tree]
 | .fn f x s t b => .node [] [.node Ea [], .node f [], .node x [], s.tree, t.tree, b.tree]
 | .un o a => .node [] [.node o.txt [], a.tree]
def Ex.ok : Ex → Bool
 | .num s => Bt s
 | .name s => Bn s
 | .bin _ a b => a.ok && b.ok
 | .ite a b c => a.ok && b.ok && c.ok
 | .lt x a b => Bn x && a.ok && b.ok
 | .fn f x s t b => Bn f && Bn x && decide (f ≠ x) && decide (s.size ≤ 16) && decide (t.size ≤ 16) && b.ok
 | .un _ a => a.ok
def Ex.size : Ex → Nat
 | .num _ => 1
 | .name _ => 1
 | .bin _ a b => 1 + a.size + b.size
 | .ite a b c => 1 + a.size + b.size + c.size
 | .lt _ a b => 2 + a.size + b.size
 | .fn _ _ s t b => 3 + s.size + t.size + b.size
 | .un _ a => 1 + a.size

/- From forms. -/
def B5.of (h : As) : Option B5 :=
 if h = [43] then some .add else if h = [45] then some .sub else if h = [42] then some .mul else if h = El then some .call else if h = D8 then some .pair else none
def U2.of (h : As) : Option U2 := if h = Fn then some .fst else if h = Fo then some .snd else none
theorem B5.of_txt (o : B5) : B5.of o.txt = some o := by cases o <;> rfl
theorem U2.of_txt (o : U2) : U2.of o.txt = some o := by cases o <;> rfl
theorem B5.of_eq {h : As} {o : B5} (e : B5.of h = some o) : h = o.txt := by
 unfold B5.of at e
 repeat' split at e
 all_goals first | cases e; assumption | cases e
theorem U2.of_eq {h : As} {o : U2} (e : U2.of h = some o) : h = o.txt := by
 unfold U2.of at e
 repeat' split at e
 all_goals first | cases e; assumption | cases e
def Tree.ty : Tree → Option Ty
 | .node a [] => if a = [105] then some .i else none
 | .node _ [h, x, y] => match x.ty, y.ty with
  | some a, some b => if h.atom = [62] then some (.fn a b) else if h.atom = [42] then some (.pr a b) else none
  | _, _ => none
 | .node _ _ => none
def Tree.ex : Tree → Option Ex
 | .node a [] => if Bn a then some (.name a) else if Bt a then some (.num a) else none
 | .node _ [h, x] => match U2.of h.atom, x.ex with
  | some o, some a => some (.un o a)
  | _, _ => none
 | .node _ [h, x, y] => match B5.of h.atom, x.ex, y.ex with
  | some o, some a, some b => some (.bin o a b)
  | _, _, _ => none
 | .node _ [h, x, y, z] => if h.atom = Hl then (match x.ex, y.ex, z.ex with
   | some a, some b, some c => some (.ite a b c)
   | _, _, _ => none)
  else if h.atom = D5 ∧ Bn x.atom = true then (match y.ex, z.ex with
   | some a, some b => some (.lt x.atom a b)
   | _, _ => none)
  else none
 | .node _ [h, f, x, s, t, b] => if h.atom = Ea ∧ Bn f.atom = true ∧ Bn x.atom = true ∧ f.atom ≠ x.atom ∧ s.size ≤ 16 ∧ t.size ≤ 16 then (match s.ty, t.ty, b.ex with
   | some s, some t, some b => some (.fn f.atom x.atom s t b)
   | _, _, _ => none)
  else none
 | .node _ _ => none

theorem Ty.tree_size : ∀ t : Ty, t.tree.size = t.size
 | .i => rfl
 | .fn a b => by simp [Ty.tree, Tree.size, Ek, Ty.size, a.tree_size, b.tree_size]; omega
 | .pr a b => by simp [Ty.tree, Tree.size, Ek, Ty.size, a.tree_size, b.tree_size]; omega
theorem Ex.tree_size : ∀ e : Ex, e.tree.size = e.size
 | .num s => rfl
 | .name s => rfl
 | .bin o a b => by simp [Ex.tree, Tree.size, Ek, Ex.size, a.tree_size, b.tree_size]; omega
 | .ite a b c => by simp [Ex.tree, Tree.size, Ek, Ex.size, a.tree_size, b.tree_size, c.tree_size]; omega
 | .lt x a b => by simp [Ex.tree, Tree.size, Ek, Ex.size, a.tree_size, b.tree_size]; omega
 | .fn f x s t b => by simp [Ex.tree, Tree.size, Ek, Ex.size, s.tree_size, t.tree_size, b.tree_size]; omega
 | .un o a => by simp [Ex.tree, Tree.size, Ek, Ex.size, a.tree_size]

theorem Tree.ty_isType : ∀ t : Tree, t.isType = t.ty.isSome
 | .node a [] => by simp [Tree.isType, Tree.ty]; split <;> simp_all
 | .node _ [h, x, y] => by
  simp only [Tree.isType, Tree.ty, x.ty_isType, y.ty_isType]
  cases x.ty <;> cases y.ty <;> simp
  by_cases h1 : h.atom = [62]
  ·simp [h1]
  ·by_cases h2 : h.atom = [42] <;> simp [h1, h2]
 | .node _ [h] => rfl
 | .node _ [h, x] => rfl
 | .node _ (h :: x :: y :: z :: r) => rfl
theorem Gy {t : Tree} (h : t.good = true) (ha : t.atom ≠ []) : t = .node t.atom [] := by
 cases t with
 | node a ps => cases ps with
  | nil => rfl
  | cons p ps => simp [Tree.good] at h; exact absurd h.1 ha
theorem Iu {a : As} {p : Tree} {ps : List Tree} (h : (Tree.node a (p :: ps)).good = true) : a = [] ∧ p.good = true ∧ Fh ps = true := by
 simp [Tree.good, Fh] at h; exact ⟨h.1, h.2.1, h.2.2⟩
theorem Tree.ty_tree : ∀ {t : Tree} {a : Ty}, t.good = true → t.ty = some a → t = a.tree
 | .node a [], b, hg, h => by
  simp only [Tree.ty] at h
  split at h <;> cases h
  subst_vars; rfl
 | .node n [h, x, y], b, hg, e => by
  obtain ⟨rfl, hh, hr⟩ := Iu hg
  simp [Fh] at hr
  simp only [Tree.ty] at e
  split at e
  ·rename_i a b' h1 h2
   have e1 := Tree.ty_tree hr.1 h1
   have e2 := Tree.ty_tree hr.2 h2
   split at e
   ·rename_i h3
    cases e
    have e3 := Gy hh (by simp [h3])
    rw [e3, h3, e1, e2]; rfl
   ·split at e
    ·rename_i h3
     cases e
     have e3 := Gy hh (by simp [h3])
     rw [e3, h3, e1, e2]; rfl
    ·cases e
  ·cases e
 | .node _ [h], _, _, e => by simp [Tree.ty] at e
 | .node _ [h, x], _, _, e => by simp [Tree.ty] at e
 | .node _ (h :: x :: y :: z :: r), _, _, e => by simp [Tree.ty] at e
theorem Ty.tree_ty : ∀ a : Ty, a.tree.ty = some a
 | .i => rfl
 | .fn a b => by simp [Ty.tree, Tree.ty, a.tree_ty, b.tree_ty, Tree.atom]
 | .pr a b => by simp [Ty.tree, Tree.ty, a.tree_ty, b.tree_ty, Tree.atom]
theorem Ty.tree_inj {a b : Ty} (h : a.tree = b.tree) : a = b := by
 have := congrArg Tree.ty h
 rw [a.tree_ty, b.tree_ty] at this
 exact Option.some.inj this
theorem Ia {s : As} (h : Bn s = true) : s ≠ [] := by intro e; subst e; cases h
theorem Rp {s : As} (h : Bt s = true) : s ≠ [] := by intro e; subst e; revert h; decide
theorem Hi {s : As} (h : Bn s = true) : Bt s = false := by
 cases s with
 | nil => cases h
 | cons c r =>
  simp [Bn, Oy] at h
  obtain ⟨⟨h1, h2, h3⟩, h4⟩ := h
  have e : C6 (c :: r) = c :: r := by simp [C6]; intro h; omega
  have hc : c ≠ 48 := by intro e; subst e; revert h2; decide
  simp only [Bt, e]
  simp [hc, Ef]
  intros; omega
theorem Tree.ex_tree : ∀ {t : Tree} {a : Ex}, t.good = true → t.ex = some a → t = a.tree ∧ a.ok = true
 | .node a [], b, hg, h => by
  simp only [Tree.ex] at h
  split at h
  ·cases h; exact ⟨rfl, by assumption⟩
  ·split at h
   ·cases h; exact ⟨rfl, by assumption⟩
   ·cases h
 | .node n [h, x], b, hg, e => by
  obtain ⟨rfl, hh, hr⟩ := Iu hg
  simp [Fh] at hr
  simp only [Tree.ex] at e
  split at e
  ·rename_i o a h1 h2
   cases e
   obtain ⟨e1, k1⟩ := Tree.ex_tree hr h2
   have h3 := U2.of_eq h1
   have e3 := Gy hh (by rw [h3]; cases o <;> decide)
   exact ⟨by rw [e3, h3, e1]; rfl, by simpa [Ex.ok] using k1⟩
  ·cases e
 | .node n [h, x, y], b, hg, e => by
  obtain ⟨rfl, hh, hr⟩ := Iu hg
  simp [Fh] at hr
  simp only [Tree.ex] at e
  split at e
  ·rename_i o a b h1 h2 h2'
   cases e
   obtain ⟨e1, k1⟩ := Tree.ex_tree hr.1 h2; obtain ⟨e2, k2⟩ := Tree.ex_tree hr.2 h2'
   have h3 := B5.of_eq h1
   have e3 := Gy hh (by rw [h3]; cases o <;> decide)
   exact ⟨by rw [e3, h3, e1, e2]; rfl, by simp [Ex.ok, k1, k2]⟩
  ·cases e
 | .node n [h, x, y, z], b, hg, e => by
  obtain ⟨rfl, hh, hr⟩ := Iu hg
  simp [Fh] at hr
  simp only [Tree.ex] at e
  split at e
  ·rename_i h3
   split at e
   ·rename_i a b c h1 h2 h2'
    cases e
    obtain ⟨e0, k0⟩ := Tree.ex_tree hr.1 h1; obtain ⟨e1, k1⟩ := Tree.ex_tree hr.2.1 h2; obtain ⟨e2, k2⟩ := Tree.ex_tree hr.2.2 h2'
    have e3 := Gy hh (by rw [h3]; decide)
    exact ⟨by rw [e3, h3, e0, e1, e2]; rfl, by simp [Ex.ok, k0, k1, k2]⟩
   ·cases e
  ·split at e
   ·rename_i h3
    obtain ⟨h3, h4⟩ := h3
    split at e
    ·rename_i b c h2 h2'
     cases e
     obtain ⟨e1, k1⟩ := Tree.ex_tree hr.2.1 h2; obtain ⟨e2, k2⟩ := Tree.ex_tree hr.2.2 h2'
     have e3 := Gy hh (by rw [h3]; decide)
     have e4 := Gy hr.1 (Ia h4)
     refine ⟨?_, by simp [Ex.ok, k1, k2, h4]⟩
     conv => lhs; rw [e3, h3, e4, e1, e2]
     rfl
    ·cases e
   ·cases e
 | .node n [h, f, x, s, t, b], _, hg, e => by
  obtain ⟨rfl, hh, hr⟩ := Iu hg
  simp [Fh] at hr
  simp only [Tree.ex] at e
  split at e
  ·rename_i h3
   obtain ⟨h3, h4, h5, h6, h7, h8⟩ := h3
   split at e
   ·rename_i s' t' b' h1 h2 h2'
    cases e
    have e0 := Tree.ty_tree hr.2.2.1 h1
    have e1 := Tree.ty_tree hr.2.2.2.1 h2
    obtain ⟨e2, k2⟩ := Tree.ex_tree hr.2.2.2.2 h2'
    have e3 := Gy hh (by rw [h3]; decide)
    have e4 := Gy hr.1 (Ia h4)
    have e5 := Gy hr.2.1 (Ia h5)
    rw [e0, Ty.tree_size] at h7; rw [e1, Ty.tree_size] at h8; refine ⟨?_, by simp [Ex.ok, k2, h4, h5, h6, h7, h8]⟩
    conv => lhs; rw [e3, h3, e4, e5, e0, e1, e2]
    rfl
   ·cases e
  ·cases e
 | .node _ [h], _, _, e => by simp [Tree.ex] at e
 | .node _ [h, x, y, z, w], _, _, e => by simp [Tree.ex] at e
 | .node _ (h :: x :: y :: z :: w :: u :: v :: r), _, _, e => by simp [Tree.ex] at e
theorem Ex.tree_ex : ∀ {a : Ex}, a.ok = true → a.tree.ex = some a
 | .num s, h => by
  have h : Bt s = true := h
  have : Bn s = false := by
   cases hn : Bn s with
   | false => rfl
   | true => rw [Hi hn] at h; cases h
  simp [Ex.tree, Tree.ex, this, h]
 | .name s, h => by
  have h : Bn s = true := h
  simp [Ex.tree, Tree.ex, h]
 | .bin o a b, h => by simp [Ex.ok] at h; simp [Ex.tree, Tree.ex, Tree.atom, B5.of_txt, Ex.tree_ex h.1, Ex.tree_ex h.2]
 | .ite a b c, h => by simp [Ex.ok] at h; simp [Ex.tree, Tree.ex, Tree.atom, Ex.tree_ex h.1.1, Ex.tree_ex h.1.2, Ex.tree_ex h.2]
 | .lt x a b, h => by
  simp [Ex.ok] at h
  have : D5 ≠ Hl := by decide
  simp [Ex.tree, Tree.ex, Tree.atom, Ex.tree_ex h.1.2, Ex.tree_ex h.2, h.1.1, this]
 | .fn f x s t b, h => by
  simp [Ex.ok] at h
  obtain ⟨⟨⟨⟨⟨h1, h2⟩, h3⟩, h4⟩, h5⟩, h6⟩ := h
  simp [Ex.tree, Tree.ex, Tree.atom, Ex.tree_ex h6, Ty.tree_ty, Ty.tree_size, *]
 | .un o a, h => by simp [Ex.ok] at h; simp [Ex.tree, Tree.ex, Tree.atom, U2.of_txt, Ex.tree_ex h]
set_option maxRecDepth 100000
set_option linter.unusedVariables false
set_option linter.unusedSimpArgs false

theorem Xp : ∀ ts : List Tree, ts.length ≤ (Fz ts).length
 | [] => Nat.le_refl _
 | t :: ts => by have := Xp ts; simp [Fz]; omega
theorem Ss {p : UInt8 → Bool} {a r : As} (ha : a.all p = true) (hr : ∀ c, r.head? = some c → p c = false) : (a ++ r).takeWhile p = a ∧ (a ++ r).dropWhile p = r := by
 have hp : ∀ x ∈ a, p x = true := by simpa using ha
 rw [List.takeWhile_append_of_pos hp, List.dropWhile_append_of_pos hp]
 cases r with
 | nil => simp
 | cons c r => have := hr c rfl; simp [List.takeWhile, List.dropWhile, this]
theorem Abs {c : UInt8} (h : E7 c = true) : c.toNat ≠ 40 ∧ c.toNat ≠ 41 ∧ c.toNat ≠ 32 := by
 simp [E7] at h; omega
mutual
theorem No : ∀ (t : Tree) (k : Nat) (r : As), t.good = true → t.bytes = true → (∀ c, r.head? = some c → E7 c = false) →
  En k (t.text ++ r) = if t.depth ≤ k then some (t, r) else none
 | .node a [], k, r, hg, hb, hr => by
  simp [Tree.good, Fh] at hg
  simp only [Tree.bytes, Gk, Bool.and_true] at hb
  obtain ⟨h1, h2⟩ := Ss hb hr
  have h40 : ((a ++ r).getD 0 0).toNat ≠ 40 := by
   cases a with
   | nil => exact absurd rfl hg
   | cons c a => simp at hb; exact (Abs hb.1).1
  simp only [Tree.text, Tree.depth, List.isEmpty_nil, cond_true, Nat.zero_le, if_true]
  rw [H5 h40, h1, h2, if_neg hg]
 | .node a (t :: ts), k, r, hg, hb, hr => by
  obtain ⟨rfl, g1, g2⟩ := Iu hg
  simp only [Tree.bytes, Gk, Bool.and_eq_true] at hb
  have e : (Tree.node [] (t :: ts)).text ++ r = 40 :: (t.text ++ Fz ts ++ 41 :: r) := by simp [Tree.text]
  rw [e]
  cases k with
  | zero => rw [Kf Ac, if_neg (by simp [Tree.depth])]
  | succ k =>
   rw [Jb Ac]
   have hl := Xp ts
   rw [show (40 :: (t.text ++ Fz ts ++ 41 :: r)).drop 1 = t.text ++ Fz ts ++ 41 :: r from rfl]; rw [Oz t ts k _ r g1 g2 hb.2.1 hb.2.2 Ci]
   have hdep : (Tree.node [] (t :: ts)).depth = Dr (t :: ts) + 1 := rfl
   by_cases hd : Dr (t :: ts) ≤ k
   ·rw [if_pos hd, if_pos (show (Tree.node [] (t :: ts)).depth ≤ k + 1 by omega)]
   ·rw [if_neg hd, if_neg (show ¬ (Tree.node [] (t :: ts)).depth ≤ k + 1 by omega)]
theorem Oz : ∀ (t : Tree) (ts : List Tree) (k n : Nat) (r : As), t.good = true → Fh ts = true → t.bytes = true → Gk ts = true → ts.length + 1 ≤ n →
  E2 (En k) n (t.text ++ Fz ts ++ 41 :: r) = if Dr (t :: ts) ≤ k then some (t :: ts, r) else none
 | t, [], k, n, r, hg, hg2, hb, hb2, hn => by
  obtain ⟨m, rfl⟩ : ∃ m, n = m + 1 := ⟨n - 1, by simp at hn; omega⟩
  have := No t k (41 :: r) hg hb (by intro c hc; simp at hc; subst hc; decide)
  simp only [Fz, List.append_nil, E2, this]
  by_cases hd : t.depth ≤ k
  ·rw [if_pos hd, if_pos (by simp [Dr]; omega)]; rfl
  ·rw [if_neg hd, if_neg (by simp [Dr]; omega)]
 | t, u :: us, k, n, r, hg, hg2, hb, hb2, hn => by
  obtain ⟨m, rfl⟩ : ∃ m, n = m + 1 := ⟨n - 1, by simp at hn; omega⟩
  simp only [Fh, Bool.and_eq_true] at hg2
  simp only [Gk, Bool.and_eq_true] at hb2
  have h1 := No t k (32 :: (u.text ++ Fz us ++ 41 :: r)) hg hb (by intro c hc; simp at hc; subst hc; decide)
  have h2 := Oz u us k m r hg2.1 hg2.2 hb2.1 hb2.2 (by simp at hn; omega)
  have e : t.text ++ Fz (u :: us) ++ 41 :: r = t.text ++ 32 :: (u.text ++ Fz us ++ 41 :: r) := by simp [Fz]
  rw [e]
  simp only [E2, h1]
  by_cases hd : t.depth ≤ k
  ·rw [if_pos hd]
   have c1 : ((32 : UInt8).toNat == 41) = false := by decide
   have c2 : ((32 : UInt8).toNat == 32) = true := by decide
   simp only [c1, c2, cond_false, cond_true, h2]
   by_cases hd2 : Dr (u :: us) ≤ k
   ·rw [if_pos hd2, if_pos (by simp only [Dr] at *; omega)]
   ·rw [if_neg hd2, if_neg (by simp only [Dr] at *; omega)]
  ·rw [if_neg hd, if_neg (by simp [Dr]; omega)]
end
def Tree.fits (t : Tree) : Bool := decide (t.depth ≤ 60) && decide (t.len ≤ 12000)
theorem W9 {t : Tree} (hg : t.good = true) (hb : t.bytes = true) : C5 t.text = if t.fits then some t else none := by
 have h := No t 60 [] hg hb Af
 rw [List.append_nil] at h
 unfold C5
 rw [h, t.text_len]
 simp only [Tree.fits, Bool.and_eq_true, decide_eq_true_eq]
 by_cases h1 : 12000 < t.len
 ·rw [if_pos h1, if_neg Aa]
 ·rw [if_neg h1]
  by_cases h2 : t.depth ≤ 60
  ·rw [if_pos h2, if_pos Aa]
  ·rw [if_neg h2, if_neg Aa]
theorem H4 {s : As} {t : Tree} (h : C5 s = some t) : t.fits = true ∧ t.good = true ∧ t.bytes = true := by
 obtain ⟨h1, h2⟩ := Ln h
 have h3 := h1.text
 rw [List.append_nil] at h3; refine ⟨?_, h1.good, h1.bytes⟩
 have := h1.depth
 rw [h3, t.text_len] at h2
 simp [Tree.fits, this, h2]

theorem P9 {b : UInt8} (h : Ef b = true) : E7 b = true := by simp [Ef] at h; simp [E7]; omega
theorem Jn {s : As} (h : Bn s = true) : s.all E7 = true := by
 cases s with
 | nil => rfl
 | cons c r =>
  simp only [Bn, Bool.and_eq_true] at h
  simp only [List.all_cons, Bool.and_eq_true]
  refine ⟨by have := h.1.2; simp [Oy] at this; simp [E7]; omega, ?_⟩
  have h2 := h.2
  rw [List.all_eq_true] at h2 ⊢
  exact fun x hx => P9 (h2 x hx)
theorem F3 {s : As} (h : Bn s = true) : s.length ≤ 4 := by
 cases s with
 | nil => simp
 | cons c r => simp [Bn] at h; simp; omega
theorem Qf {s : As} (h : Bt s = true) : s.all E7 = true := by
 simp only [Bt, Bool.or_eq_true, decide_eq_true_eq] at h
 rcases h with rfl | h
 ·decide
 ·simp only [Bool.and_eq_true] at h
  have h2 := h.1.2
  unfold C6 at h2
  have key : ∀ l : As, l.all Ef = true → l.all E7 = true := fun l hl => by
   rw [List.all_eq_true] at hl ⊢
   exact fun x hx => P9 (hl x hx)
  split at h2
  ·cases s with
   | nil => rfl
   | cons c r =>
    rename_i h45
    simp only [List.drop_succ_cons, List.drop_zero] at h2
    simp only [List.all_cons, Bool.and_eq_true]
    refine ⟨?_, key r h2⟩
    simp at h45
    simp [E7, h45]
  ·exact key s h2
theorem Jt {s : As} (h : Bt s = true) : s.length ≤ 4 := by
 simp only [Bt, Bool.or_eq_true, decide_eq_true_eq] at h
 rcases h with rfl | h
 ·decide
 ·simp only [Bool.and_eq_true, decide_eq_true_eq] at h
  have := h.1.1
  unfold C6 at this
  split at this
  ·rw [List.length_drop] at this; omega
  ·omega
theorem Ty.tree_good : ∀ t : Ty, t.tree.good = true ∧ t.tree.bytes = true
 | .i => ⟨rfl, by decide⟩
 | .fn a b => by
  have := a.tree_good; have := b.tree_good
  simp [Ty.tree, Tree.good, Fh, Tree.bytes, Gk, *]; decide
 | .pr a b => by
  have := a.tree_good; have := b.tree_good
  simp [Ty.tree, Tree.good, Fh, Tree.bytes, Gk, *]; decide
theorem Ex.tree_good : ∀ {e : Ex}, e.ok = true → e.tree.good = true ∧ e.tree.bytes = true
 | .num s, h => by
  have h : Bt s = true := h
  have := Rp h; have := Qf h
  simp [Ex.tree, Tree.good, Fh, Tree.bytes, Gk]; exact ⟨by assumption, by simpa using this⟩
 | .name s, h => by
  have h : Bn s = true := h
  have := Ia h; have := Jn h
  simp [Ex.tree, Tree.good, Fh, Tree.bytes, Gk]; exact ⟨by assumption, by simpa using this⟩
 | .bin o a b, h => by
  simp [Ex.ok] at h
  have := Ex.tree_good h.1; have := Ex.tree_good h.2
  simp [Ex.tree, Tree.good, Fh, Tree.bytes, Gk, *]
  cases o <;> decide
 | .ite a b c, h => by
  simp [Ex.ok] at h
  have := Ex.tree_good h.1.1; have := Ex.tree_good h.1.2; have := Ex.tree_good h.2
  simp [Ex.tree, Tree.good, Fh, Tree.bytes, Gk, *]; decide
 | .lt x a b, h => by
  simp [Ex.ok] at h
  have := Ex.tree_good h.1.2; have := Ex.tree_good h.2; have := Ia h.1.1; have h3 := Jn h.1.1
  simp at h3
  simp [Ex.tree, Tree.good, Fh, Tree.bytes, Gk, *]
  exact ⟨by decide, by decide, h3⟩
 | .fn f x s t b, h => by
  simp [Ex.ok] at h
  obtain ⟨⟨⟨⟨⟨h1, h2⟩, h3⟩, h4⟩, h5⟩, h6⟩ := h
  have := Ex.tree_good h6; have := s.tree_good; have := t.tree_good; have := Ia h1; have := Ia h2; have k1 := Jn h1; have k2 := Jn h2
  simp at k1 k2
  simp [Ex.tree, Tree.good, Fh, Tree.bytes, Gk, *]
  exact ⟨by decide, by decide, k1, k2⟩
 | .un o a, h => by
  have h : a.ok = true := h
  have := Ex.tree_good h
  simp [Ex.tree, Tree.good, Fh, Tree.bytes, Gk, *]
  cases o <;> decide

def Ex.fine (e : Ex) : Bool := e.ok && decide (e.size ≤ 120) && e.tree.fits
def Ei (s : As) : Option Ex := match C5 s with
 | some t => match t.ex with
  | some e => if e.size ≤ 120 then some e else none
  | none => none
 | none => none
theorem It {s : As} {e : Ex} (h : Ei s = some e) : C5 s = some e.tree ∧ e.fine = true ∧ s = e.tree.text := by
 unfold Ei at h
 split at h
 ·rename_i t hp
  split at h
  ·rename_i e' he
   split at h
   ·rename_i hz
    cases h
    obtain ⟨h1, h2, h3⟩ := H4 hp; obtain ⟨rfl, h4⟩ := Tree.ex_tree h2 he
    exact ⟨hp, by simp [Ex.fine, h4, hz, h1], (Ke hp).symm⟩
   ·cases h
  ·cases h
 ·cases h
theorem Mp {e : Ex} (h : e.ok = true) : Ei e.tree.text = if e.fine then some e else none := by
 obtain ⟨h1, h2⟩ := Ex.tree_good h
 unfold Ei
 rw [W9 h1 h2]
 simp only [Ex.fine, h, Bool.true_and, Bool.and_eq_true, decide_eq_true_eq]
 by_cases h3 : e.tree.fits = true
 ·simp only [h3, if_true, Ex.tree_ex h, and_true]
 ·simp [h3]
theorem Xr {s : As} {t : Tree} (h : Eg s = some t) : ∃ a : Ty, t = a.tree ∧ a.size ≤ 16 ∧ s = a.tree.text := by
 unfold Eg at h
 cases hp : C5 s with
 | none => rw [hp] at h; cases h
 | some t0 =>
  rw [hp] at h
  simp only [Tree.typed, Tree.ty_isType] at h
  cases ha : t0.ty with
  | none => simp [ha] at h
  | some a =>
   by_cases hz : t0.size ≤ 16
   ·simp [ha, hz] at h
    subst h; obtain rfl := Tree.ty_tree (H4 hp).2.1 ha; rw [Ty.tree_size] at hz
    exact ⟨a, rfl, hz, (Ke hp).symm⟩
   ·simp [ha, hz] at h
theorem Ty.tree_typed (a : Ty) : a.tree.typed = decide (a.size ≤ 16) := by
 simp [Tree.typed, Tree.ty_isType, a.tree_ty, a.tree_size]
theorem Ty.size_pos : ∀ a : Ty, 1 ≤ a.size
 | .i => Nat.le_refl _
 | .fn a b => by simp [Ty.size]; omega
 | .pr a b => by simp [Ty.size]; omega
theorem Ty.tree_small : ∀ a : Ty, a.tree.depth + 1 ≤ a.size ∧ a.tree.len + 3 ≤ 5 * a.size
 | .i => ⟨Nat.le_refl _, by simp [Ty.tree, Tree.len, Ty.size]⟩
 | .fn a b => by
  have := a.tree_small; have := b.tree_small; have := a.size_pos; have := b.size_pos
  simp [Ty.tree, Tree.depth, Dr, Tree.len, Ge, Ty.size]; omega
 | .pr a b => by
  have := a.tree_small; have := b.tree_small; have := a.size_pos; have := b.size_pos
  simp [Ty.tree, Tree.depth, Dr, Tree.len, Ge, Ty.size]; omega
theorem Lv (a : Ty) : Eg a.tree.text = if a.size ≤ 16 then some a.tree else none := by
 obtain ⟨h1, h2⟩ := a.tree_good; obtain ⟨h3, h4⟩ := a.tree_small
 unfold Eg
 rw [W9 h1 h2]
 by_cases h : a.size ≤ 16
 ·have : a.tree.fits = true := by simp [Tree.fits]; omega
  simp [this, a.tree_typed, h]
 ·by_cases hf : a.tree.fits = true
  ·simp [hf, a.tree_typed, h]
  ·simp [hf, h]
set_option maxRecDepth 100000
set_option linter.unusedVariables false
set_option linter.unusedSimpArgs false

def Ex.occ : Ex → List As → List As
 | .num _, _ => []
 | .name s, bd => if s ∈ bd then [] else [s]
 | .bin _ a b, bd => a.occ bd ++ b.occ bd
 | .ite a b c, bd => a.occ bd ++ b.occ bd ++ c.occ bd
 | .lt x a b, bd => a.occ bd ++ b.occ (bd ++ [x])
 | .fn f x _ _ b, bd => b.occ (bd ++ [f, x])
 | .un _ a, bd => a.occ bd
def G1 (l : List As) (s : As) : List As := if s ∈ l then l else l ++ [s]
def Dg (l m : List As) : List As := m.foldl G1 l
def Ex.free (e : Ex) : List As := Dg [] (e.occ [])
def Ex.closed (e : Ex) : Bool := (e.occ []).isEmpty
def Ex.count (n : As) : Ex → Nat
 | .num _ => 0
 | .name s => if s = n then 1 else 0
 | .bin _ a b => a.count n + b.count n
 | .ite a b c => a.count n + b.count n + c.count n
 | .lt x a b => a.count n + (if x = n then 0 else b.count n)
 | .fn f x _ _ b => if f = n ∨ x = n then 0 else b.count n
 | .un _ a => a.count n
def Ex.put : Ex → As → Ex → Ex
 | .num s, _, _ => .num s
 | .name s, n, v => if s = n then v else .name s
 | .bin o a b, n, v => .bin o (a.put n v) (b.put n v)
 | .ite a b c, n, v => .ite (a.put n v) (b.put n v) (c.put n v)
 | .lt x a b, n, v => .lt x (a.put n v) (if x = n then b else b.put n v)
 | .fn f x s t b, n, v => .fn f x s t (if f = n ∨ x = n then b else b.put n v)
 | .un o a, n, v => .un o (a.put n v)

theorem Cu (l m k : List As) : Dg l (m ++ k) = Dg (Dg l m) k := by simp [Dg]
theorem Vz {l : List As} {s x : As} : x ∈ G1 l s ↔ x ∈ l ∨ x = s := by
 unfold G1; split
 ·constructor
  ·exact .inl
  ·rintro (h | rfl) <;> assumption
 ·simp
theorem Jx {x : As} : ∀ {m l : List As}, x ∈ Dg l m ↔ x ∈ l ∨ x ∈ m := by
 intro m
 induction m with
 | nil => intro l; simp [Dg]
 | cons s m ih => intro l; rw [show Dg l (s :: m) = Dg (G1 l s) m from rfl, ih, Vz]; simp [or_assoc]
theorem Ex.free_mem {e : Ex} {x : As} : x ∈ e.free ↔ x ∈ e.occ [] := by simp [Ex.free, Jx]
theorem Qz {m : List As} : Dg [] m = [] ↔ m = [] := by
 constructor
 ·intro h
  cases m with
  | nil => rfl
  | cons s m =>
   have : s ∈ Dg [] (s :: m) := Jx.2 (.inr (.head _))
   rw [h] at this; cases this
 ·rintro rfl; rfl
theorem Ex.closed_free (e : Ex) : e.closed = decide (e.free = []) := by
 rw [Bool.eq_iff_iff]; simp [Ex.closed, Ex.free, Qz]
theorem Ex.occ_filter : ∀ (e : Ex) (bd : List As), e.occ bd = (e.occ []).filter (fun s => decide (s ∉ bd))
 | .num _, bd => rfl
 | .name s, bd => by by_cases h : s ∈ bd <;> simp [Ex.occ, List.filter_cons, h]
 | .bin _ a b, bd => by simp [Ex.occ, a.occ_filter bd, b.occ_filter bd]
 | .ite a b c, bd => by simp [Ex.occ, a.occ_filter bd, b.occ_filter bd, c.occ_filter bd]
 | .lt x a b, bd => by
  simp only [Ex.occ, List.nil_append, List.filter_append]
  rw [a.occ_filter bd, b.occ_filter (bd ++ [x]), b.occ_filter [x], List.filter_filter]
  congr 2; funext s; simp
 | .fn f x _ _ b, bd => by
  simp only [Ex.occ, List.nil_append]
  rw [b.occ_filter (bd ++ [f, x]), b.occ_filter [f, x], List.filter_filter]
  congr 2; funext s; simp
 | .un _ a, bd => by simp [Ex.occ, a.occ_filter bd]
theorem Ex.occ_mem {e : Ex} {bd : List As} {x : As} : x ∈ e.occ bd ↔ x ∈ e.occ [] ∧ x ∉ bd := by
 rw [e.occ_filter bd]; simp
theorem Ex.occ_name : ∀ {e : Ex} {bd : List As}, e.ok = true → ∀ x ∈ e.occ bd, Bn x = true
 | .num _, bd, h, x, hx => by cases hx
 | .name s, bd, h, x, hx => by
  simp only [Ex.occ] at hx
  split at hx
  ·cases hx
  ·simp at hx; subst hx; exact h
 | .bin _ a b, bd, h, x, hx => by
  simp [Ex.ok] at h; simp [Ex.occ] at hx
  rcases hx with hx | hx
  ·exact Ex.occ_name h.1 x hx
  ·exact Ex.occ_name h.2 x hx
 | .ite a b c, bd, h, x, hx => by
  simp [Ex.ok] at h; simp [Ex.occ] at hx
  rcases hx with hx | hx | hx
  ·exact Ex.occ_name h.1.1 x hx
  ·exact Ex.occ_name h.1.2 x hx
  ·exact Ex.occ_name h.2 x hx
 | .lt y a b, bd, h, x, hx => by
  simp [Ex.ok] at h; simp [Ex.occ] at hx
  rcases hx with hx | hx
  ·exact Ex.occ_name h.1.2 x hx
  ·exact Ex.occ_name h.2 x hx
 | .fn f y s t b, bd, h, x, hx => by
  simp [Ex.ok] at h; simp [Ex.occ] at hx
  exact Ex.occ_name h.2 x hx
 | .un _ a, bd, h, x, hx => Ex.occ_name (e := a) h x hx
theorem Ex.put_ok : ∀ {e : Ex} {n : As} {v : Ex}, e.ok = true → v.ok = true → (e.put n v).ok = true
 | .num _, n, v, h, hv => h
 | .name s, n, v, h, hv => by simp only [Ex.put]; split <;> assumption
 | .bin _ a b, n, v, h, hv => by simp [Ex.ok] at h; simp [Ex.put, Ex.ok, Ex.put_ok h.1 hv, Ex.put_ok h.2 hv]
 | .ite a b c, n, v, h, hv => by simp [Ex.ok] at h; simp [Ex.put, Ex.ok, Ex.put_ok h.1.1 hv, Ex.put_ok h.1.2 hv, Ex.put_ok h.2 hv]
 | .lt x a b, n, v, h, hv => by
  simp [Ex.ok] at h
  simp only [Ex.put, Ex.ok, Ex.put_ok h.1.2 hv, h.1.1]
  split
  ·simpa using h.2
  ·simp [Ex.put_ok h.2 hv]
 | .fn f x s t b, n, v, h, hv => by
  simp [Ex.ok] at h
  obtain ⟨⟨⟨⟨⟨h1, h2⟩, h3⟩, h4⟩, h5⟩, h6⟩ := h
  simp only [Ex.put, Ex.ok, h1, h2, h4, h5]
  split
  ·simp [h3, h6]
  ·simp [h3, Ex.put_ok h6 hv]
 | .un _ a, n, v, h, hv => by simp only [Ex.put]; exact Ex.put_ok (e := a) h hv

/- Types. -/
def Fg (l : List As) (m : List Ty) (s : As) : Option Ty := (B9 l s).bind (fun i => m[i]?)
def B5.ty : B5 → Ty → Ty → Option Ty
 | .call, s, t => match s with
  | .fn a b => if a = t then some b else none
  | _ => none
 | .pair, s, t => if (Ty.pr s t).size ≤ 16 then some (.pr s t) else none
 | _, s, t => if s = .i ∧ t = .i then some .i else none
def U2.ty : U2 → Ty → Option Ty
 | .fst, .pr a _ => some a
 | .snd, .pr _ b => some b
 | _, _ => none
def Ex.chk : Ex → List As → List Ty → Except Ex Ty
 | .num _, _, _ => .ok .i
 | .name s, l, m => match Fg l m s with
  | some t => .ok t
  | none => .error (.name s)
 | .bin o a b, l, m => match a.chk l m with
  | .error e => .error e
  | .ok s => match b.chk l m with
   | .error e => .error e
   | .ok t => match o.ty s t with
    | some u => .ok u
    | none => .error (.bin o a b)
 | .ite a b c, l, m => match a.chk l m with
  | .error e => .error e
  | .ok s => match b.chk l m with
   | .error e => .error e
   | .ok t => match c.chk l m with
    | .error e => .error e
    | .ok u => if s = .i ∧ t = u then .ok t else .error (.ite a b c)
 | .lt x a b, l, m => match a.chk l m with
  | .error e => .error e
  | .ok s => b.chk (l ++ [x]) (m ++ [s])
 | .fn f x s t b, l, m => if (Ty.fn s t).size ≤ 16 then (match b.chk (l ++ [f, x]) (m ++ [.fn s t, s]) with
   | .error e => .error e
   | .ok u => if u = t then .ok (.fn s t) else .error (.fn f x s t b))
  else .error (.fn f x s t b)
 | .un o a, l, m => match a.chk l m with
  | .error e => .error e
  | .ok s => match o.ty s with
   | some u => .ok u
   | none => .error (.un o a)
def Ex.ty (e : Ex) (l : List As) (m : List Ty) : Option Ty := match e.chk l m with
 | .ok t => some t
 | .error _ => none
set_option maxRecDepth 100000
set_option linter.unusedVariables false
set_option linter.unusedSimpArgs false

theorem G6 (h : As) : (∃ o : B5, h = o.txt ∧ A0 h = (1, 3)) ∨ (h = Hl ∧ A0 h = (1, 4)) ∨ (h = D5 ∧ A0 h = (2, 4)) ∨ (h = Ea ∧ A0 h = (5, 6)) ∨ (∃ o : U2, h = o.txt ∧ A0 h = (1, 2)) ∨
  (A0 h = (0, 0) ∧ B5.of h = none ∧ U2.of h = none ∧ h ≠ Hl ∧ h ≠ D5 ∧ h ≠ Ea) := by
 unfold A0
 by_cases h1 : h = [43]
 ·exact .inl ⟨.add, h1, by simp [h1]⟩
 by_cases h2 : h = [45]
 ·exact .inl ⟨.sub, h2, by simp [h2]⟩
 by_cases h3 : h = [42]
 ·exact .inl ⟨.mul, h3, by simp [h3]⟩
 by_cases h4 : h = El
 ·exact .inl ⟨.call, h4, by simp [h4]⟩
 by_cases h5 : h = D8
 ·exact .inl ⟨.pair, h5, by simp [h5]⟩
 have hb : ¬ (h = [43] ∨ h = [45] ∨ h = [42] ∨ h = El ∨ h = D8) := by simp [*]
 rw [if_neg hb]
 by_cases h6 : h = Hl
 ·exact .inr (.inl ⟨h6, by rw [if_pos h6]⟩)
 rw [if_neg h6]
 by_cases h7 : h = D5
 ·exact .inr (.inr (.inl ⟨h7, by rw [if_pos h7]⟩))
 rw [if_neg h7]
 by_cases h8 : h = Ea
 ·exact .inr (.inr (.inr (.inl ⟨h8, by rw [if_pos h8]⟩)))
 rw [if_neg h8]
 by_cases h9 : h = Fn
 ·exact .inr (.inr (.inr (.inr (.inl ⟨.fst, h9, by simp [h9]⟩))))
 by_cases h10 : h = Fo
 ·exact .inr (.inr (.inr (.inr (.inl ⟨.snd, h10, by simp [h10]⟩))))
 refine .inr (.inr (.inr (.inr (.inr ⟨by simp [*], ?_, ?_, h6, h7, h8⟩))))
 ·simp [B5.of, *]
 ·simp [U2.of, *]

def W2 : Tree := .node [] []
def Tree.pt (t : Tree) (i : Nat) : Tree := t.parts.getD i W2
theorem Tree.pt_at {t : Tree} {i : Nat} (h : i < t.parts.length) : t.pt i = t.parts[i] := by simp [Tree.pt, h]
theorem Tree.pt_lt (t : Tree) (i : Nat) (h : i < t.parts.length) : SizeOf.sizeOf (t.pt i) < SizeOf.sizeOf t := by rw [Tree.pt_at h]; exact t.part_lt i h
theorem Tree.pt_good {t : Tree} (hg : t.good = true) (i : Nat) (h : i < t.parts.length) : (t.pt i).good = true := by rw [Tree.pt_at h]; exact t.good_part hg i h
def Lh (t : Tree) : Bool :=
 if t.head = D5 then Bn (t.pt 1).atom
 else if t.head = Ea then Bn (t.pt 1).atom && Bn (t.pt 2).atom && decide ((t.pt 1).atom ≠ (t.pt 2).atom) && (t.pt 3).typed && (t.pt 4).typed
 else true
theorem B5.txt_ne (o : B5) : o.txt ≠ Hl ∧ o.txt ≠ D5 ∧ o.txt ≠ Ea ∧ U2.of o.txt = none ∧ o.txt ≠ [] := by cases o <;> decide
theorem U2.txt_ne (o : U2) : o.txt ≠ Hl ∧ o.txt ≠ D5 ∧ o.txt ≠ Ea ∧ o.txt ≠ [] := by cases o <;> decide
theorem U2.txt_b5 (o : U2) : B5.of o.txt = none := by cases o <;> rfl
theorem Tb : ∀ {t : Tree}, t.parts ≠ [] → Cl t = [] → t.ex = none
 | .node a [], h, _ => absurd rfl h
 | .node a (h :: ps), _, hk => by
  have hd : (Tree.node a (h :: ps)).head = h.atom := rfl
  unfold Cl at hk
  rw [hd] at hk
  simp only [Tree.parts] at hk
  rcases G6 h.atom with ⟨o, e, hr⟩ | ⟨e, hr⟩ | ⟨e, hr⟩ | ⟨e, hr⟩ | ⟨o, e, hr⟩ | ⟨hr, e1, e2, e3, e4, e5⟩
  all_goals rw [hr] at hk
  ·rcases ps with _ | ⟨x, _ | ⟨y, _ | ⟨z, _ | ⟨w, _ | ⟨u, _ | ⟨v, ps⟩⟩⟩⟩⟩⟩ <;> first | (simp at hk; done) | simp [Tree.ex, e, o.txt_ne]
  ·rcases ps with _ | ⟨x, _ | ⟨y, _ | ⟨z, _ | ⟨w, _ | ⟨u, _ | ⟨v, ps⟩⟩⟩⟩⟩⟩ <;> first | (simp at hk; done) | simp [Tree.ex, e, U2.of, B5.of, Hl, Fn, Fo, El, D8, D5, Ea]
  ·rcases ps with _ | ⟨x, _ | ⟨y, _ | ⟨z, _ | ⟨w, _ | ⟨u, _ | ⟨v, ps⟩⟩⟩⟩⟩⟩ <;> first | (simp at hk; done) | simp [Tree.ex, e, U2.of, B5.of, Hl, Fn, Fo, El, D8, D5, Ea]
  ·rcases ps with _ | ⟨x, _ | ⟨y, _ | ⟨z, _ | ⟨w, _ | ⟨u, _ | ⟨v, ps⟩⟩⟩⟩⟩⟩ <;> first | (simp at hk; done) | simp [Tree.ex, e, U2.of, B5.of, Hl, Fn, Fo, El, D8, D5, Ea]
  ·have := o.txt_b5
   rcases ps with _ | ⟨x, _ | ⟨y, _ | ⟨z, _ | ⟨w, _ | ⟨u, _ | ⟨v, ps⟩⟩⟩⟩⟩⟩ <;> first | (simp at hk; done) | simp [Tree.ex, e, o.txt_ne, this]
  ·rcases ps with _ | ⟨x, _ | ⟨y, _ | ⟨z, _ | ⟨w, _ | ⟨u, _ | ⟨v, ps⟩⟩⟩⟩⟩⟩ <;> simp [Tree.ex, *]
theorem Adw (t : Tree) : t.typed = (t.ty.isSome && decide (t.size ≤ 16)) := by simp [Tree.typed, Tree.ty_isType]
theorem Tc : ∀ {t : Tree}, Cl t ≠ [] → t.ex.isSome = ((Cl t).all (fun i => (t.pt i).ex.isSome) && Lh t)
 | .node a [], hk => by exact absurd rfl hk
 | .node a (h :: ps), hk => by
  have hd : (Tree.node a (h :: ps)).head = h.atom := rfl
  unfold Cl Lh at *
  rw [hd] at hk ⊢
  simp only [Tree.parts, Tree.pt] at hk ⊢
  rcases G6 h.atom with ⟨o, e, hr⟩ | ⟨e, hr⟩ | ⟨e, hr⟩ | ⟨e, hr⟩ | ⟨o, e, hr⟩ | ⟨hr, e1, e2, e3, e4, e5⟩
  all_goals rw [hr] at hk ⊢
  ·rcases ps with _ | ⟨x, _ | ⟨y, _ | ⟨z, ps⟩⟩⟩ <;> simp at hk
   have := o.txt_ne
   simp [List.range', Tree.ex, e, B5.of_txt, this]
   cases x.ex <;> cases y.ex <;> rfl
  ·rcases ps with _ | ⟨x, _ | ⟨y, _ | ⟨z, _ | ⟨w, ps⟩⟩⟩⟩ <;> simp at hk
   simp [List.range', Tree.ex, e, show Hl ≠ D5 from by decide, show Hl ≠ Ea from by decide]
   cases x.ex <;> cases y.ex <;> cases z.ex <;> rfl
  ·rcases ps with _ | ⟨x, _ | ⟨y, _ | ⟨z, _ | ⟨w, ps⟩⟩⟩⟩ <;> simp at hk
   simp [List.range', Tree.ex, e, show D5 ≠ Hl from by decide]
   cases Bn x.atom <;> cases y.ex <;> cases z.ex <;> simp
  ·rcases ps with _ | ⟨x, _ | ⟨y, _ | ⟨z, _ | ⟨w, _ | ⟨u, _ | ⟨v, ps⟩⟩⟩⟩⟩⟩ <;> simp at hk
   simp [List.range', Tree.ex, e, show Ea ≠ D5 from by decide, Adw]
   cases Bn x.atom <;> cases Bn y.atom <;> by_cases hxy : x.atom = y.atom <;> by_cases hz : z.size ≤ 16 <;> by_cases hw : w.size ≤ 16 <;> cases z.ty <;> cases w.ty <;> cases u.ex <;> simp [*]
  ·rcases ps with _ | ⟨x, _ | ⟨y, ps⟩⟩ <;> simp at hk
   have := o.txt_ne
   simp [List.range', Tree.ex, e, U2.of_txt, this]
   cases x.ex <;> rfl
  ·simp at hk
theorem Zr {t : Tree} {i : Nat} (h : i ∈ Cl t) : i < t.parts.length ∧ 1 ≤ i := by
 unfold Cl at h
 split at h
 ·rename_i hl
  rw [List.mem_range'] at h; obtain ⟨j, hj, rfl⟩ := h
  have : 1 ≤ (A0 t.head).1 ∨ (A0 t.head).2 = 0 := by
   rcases G6 t.head with ⟨o, e, hr⟩ | ⟨e, hr⟩ | ⟨e, hr⟩ | ⟨e, hr⟩ | ⟨o, e, hr⟩ | ⟨hr, _⟩ <;> rw [hr] <;> simp
  omega
 ·cases h
theorem Aeq (t : Tree) : (Cl t).length ≤ 5 := by
 unfold Cl
 split
 ·rw [List.length_range']
  rcases G6 t.head with ⟨o, _, hr⟩ | ⟨_, hr⟩ | ⟨_, hr⟩ | ⟨_, hr⟩ | ⟨o, _, hr⟩ | ⟨hr, _⟩ <;> rw [hr] <;> decide
 ·exact Nat.zero_le _
set_option maxRecDepth 100000
set_option linter.unusedVariables false
set_option linter.unusedSimpArgs false

def Vd (oa : Option Addr) : Addr := oa.getD ⟨0, 0, none⟩
section rules
variable {P : Program} {f : FuncId} {n : Nat} {I₀ : Heap} {Q : C3} {k : List Item} {E : Hw} {I : Heap} {L : Bh}
variable {ops : Array Oper} {d : Nat} {ty : TypeId} {pos : String} {af : Array Edge} {g : Option (Nat × Bool)} {l : List Oper}
theorem Ec {oa : Option Addr} {m i : Nat} (hn : oa = none → m = 0) (hi : i < m) : oa = some (Vd oa) := by
 cases oa with
 | none => have := hn rfl; omega
 | some x => rfl
theorem O9 {S : World → Prop} {T e : TypeId} {sz bb esz ebb : Nat} {z ez : List Value} {dd : TypeDesc} [ht : Aw P T (.slice e) sz bb z] [hte : Aw P e dd esz ebb ez] {x y : Operand} {oa : Option Addr} {m c : Nat} {i : Int}
  (hx : Cf E x = some (.slice oa m c)) (hy : Cf E y = some (.int .i64 i)) (i' : Nat) (hi : i = i') (him : i' < m) (hn : oa = none → m = 0) : Hy P E S ⟨some d, .indexAddr T x y, ty, pos, af, g⟩ (.pointer (some ((Vd oa).add (i' * esz)))) :=
 Im hx hy i' hi him (Ec hn him)
theorem U8 {T e : TypeId} {sz bb esz ebb : Nat} {z ez : List Value} {dd : TypeDesc} [ht : Aw P T (.slice e) sz bb z] [hte : Aw P e dd esz ebb ez] {x y : Operand} {oa : Option Addr} {m c : Nat} {i : Int}
  (hx : Cf E x = some (.slice oa m c)) (hy : Cf E y = some (.int .i64 i)) (i' : Nat) (hi : i = i') (him : i' < m) (hn : oa = none → m = 0) (hg : Wants ops E g) (hdn : Nat.blt d n = true)
  (h : A6 P f n I₀ Q ops l k ((d, .pointer (some ((Vd oa).add (i' * esz)))) :: E) I L) : A6 P f n I₀ Q ops (⟨some d, .indexAddr T x y, ty, pos, af, g⟩ :: l) k E I L :=
 D7 (O9 hx hy i' hi him hn) hg hdn h
theorem Bw {S : World → Prop} {T e : TypeId} {sz bb esz ebb : Nat} {z ez : List Value} {dd : TypeDesc} [ht : Aw P T (.slice e) sz bb z] [hte : Aw P e dd esz ebb ez] {x y : Operand} {oa : Option Addr} {m c : Nat} {i : Int}
  (hx : Cf E x = some (.slice oa m c)) (hy : Cf E y = some (.int .i64 i)) (i' : Nat) (hi : i = i') (him : i' < m := by first | omega | exact E9 (by assumption) (by decide) | (simp; done) | (simp; omega) | decide | (simp at *; omega)) (hn : oa = none → m = 0 := by first | assumption | exact FormAt.nil (by assumption) | exact Strs.nil' (by assumption) | exact Nums.nil' (by assumption) | exact Raw.nil' (by assumption)) : Hy P E S ⟨some d, .indexAddr T x y, ty, pos, af, g⟩ (.pointer (some ((Vd oa).add (i' * esz)))) := O9 hx hy i' hi him hn
theorem Bk {T e : TypeId} {sz bb esz ebb : Nat} {z ez : List Value} {dd : TypeDesc} [ht : Aw P T (.slice e) sz bb z] [hte : Aw P e dd esz ebb ez] {x y : Operand} {oa : Option Addr} {m c : Nat} {i : Int}
  (hx : Cf E x = some (.slice oa m c)) (hy : Cf E y = some (.int .i64 i)) (i' : Nat) (hi : i = i') (hg : Wants ops E g) (hdn : Nat.blt d n = true)
  (h : A6 P f n I₀ Q ops l k ((d, .pointer (some ((Vd oa).add (i' * esz)))) :: E) I L) (him : i' < m := by first | omega | exact E9 (by assumption) (by decide) | (simp; done) | (simp; omega) | decide | (simp at *; omega)) (hn : oa = none → m = 0 := by first | assumption | exact FormAt.nil (by assumption) | exact Strs.nil' (by assumption) | exact Nums.nil' (by assumption) | exact Raw.nil' (by assumption)) : A6 P f n I₀ Q ops (⟨some d, .indexAddr T x y, ty, pos, af, g⟩ :: l) k E I L := U8 hx hy i' hi him hn hg hdn h
theorem Bx {S : World → Prop} {T e : TypeId} {sz bb esz ebb : Nat} {z ez : List Value} {dd : TypeDesc} [ht : Aw P T (.slice e) sz bb z] [hte : Aw P e dd esz ebb ez] {x y : Operand} {oa : Option Addr} {ad : Addr} {m c : Nat} {i : Int}
  (hx : Cf E x = some (.slice oa m c)) (hy : Cf E y = some (.int .i64 i)) (i' : Nat) (hi : i = i') (him : i' < m := by first | omega | exact E9 (by assumption) (by decide) | (simp; done) | (simp; omega) | decide | (simp at *; omega)) (hn : oa = some ad := by first | rfl | assumption) : Hy P E S ⟨some d, .indexAddr T x y, ty, pos, af, g⟩ (.pointer (some (ad.add (i' * esz)))) := Im hx hy i' hi him hn
theorem Bl {T e : TypeId} {sz bb esz ebb : Nat} {z ez : List Value} {dd : TypeDesc} [ht : Aw P T (.slice e) sz bb z] [hte : Aw P e dd esz ebb ez] {x y : Operand} {oa : Option Addr} {ad : Addr} {m c : Nat} {i : Int}
  (hx : Cf E x = some (.slice oa m c)) (hy : Cf E y = some (.int .i64 i)) (i' : Nat) (hi : i = i') (hg : Wants ops E g) (hdn : Nat.blt d n = true)
  (h : A6 P f n I₀ Q ops l k ((d, .pointer (some (ad.add (i' * esz)))) :: E) I L) (him : i' < m := by first | omega | exact E9 (by assumption) (by decide) | (simp; done) | (simp; omega) | decide | (simp at *; omega)) (hn : oa = some ad := by first | rfl | assumption) : A6 P f n I₀ Q ops (⟨some d, .indexAddr T x y, ty, pos, af, g⟩ :: l) k E I L := D7 (Im hx hy i' hi him hn) hg hdn h
theorem Agt {S : World → Prop} {tys : Array TypeId} {x y : Operand} {a b : Int} (hx : Cf E x = some (.int .i64 a)) (hy : Cf E y = some (.int .i64 b)) : Hy P E S ⟨some d, .call ⟨.builtin .max, #[x, y], tys⟩, ty, pos, af, g⟩ (.int .i64 (max a b)) := fun ac w he _ => by
  simp only [execOp, resolve, List.map_toArray, List.map, he.eval hx, he.eval hy, pure_bind, invoke, builtin]
  refine Ag (a := .int .i64 (max a b)) (w' := w) ?_ |>.trans rfl
  have e : (if a < b then b else a) = max a b := by split <;> omega
  simp only [Builtin.max_, List.foldlM, Builtin.max2, GT.gt, e]
  rfl
theorem Agp {tys : Array TypeId} {x y : Operand} {a b : Int} (hx : Cf E x = some (.int .i64 a)) (hy : Cf E y = some (.int .i64 b)) (hg : Wants ops E g) (hdn : Nat.blt d n = true)
  (h : A6 P f n I₀ Q ops l k ((d, .int .i64 (max a b)) :: E) I L) : A6 P f n I₀ Q ops (⟨some d, .call ⟨.builtin .max, #[x, y], tys⟩, ty, pos, af, g⟩ :: l) k E I L :=
 D7 (Agt hx hy) hg hdn h
theorem Dj {c : Operand} {x y : Code} {b : Bool} (hc : Cf E c = some (.bool b)) (hb : b = true) (h : RunS P f n I₀ Q (.code x :: k) E I L) : RunS P f n I₀ Q (.code (.cond c x y) :: k) E I L := by
 subst hb; exact Bs hc h
theorem E6 {c : Operand} {x y : Code} {b : Bool} (hc : Cf E c = some (.bool b)) (hb : b = false) (h : RunS P f n I₀ Q (.code y :: k) E I L) : RunS P f n I₀ Q (.code (.cond c x y) :: k) E I L := by
 subst hb; exact Ay hc h
end rules

structure FormAt (I : Heap) (t : Tree) (oa : Option Addr) (c : Nat) (oaf : Nat → Option Addr) (cf : Nat → Nat) : Prop where
 rep : Rep I t [.string (str t.atom), .slice oa t.parts.length c]
 part : ∀ i (hi : i < t.parts.length), Rep I (t.pt i) [.string (str (t.pt i).atom), .slice (oaf i) (t.pt i).parts.length (cf i)] ∧ Still I ((Vd oa).add (i * 2)) [.string (str (t.pt i).atom), .slice (oaf i) (t.pt i).parts.length (cf i)]
 nil : oa = none → t.parts.length = 0
 len : t.parts.length ≤ Bb
 alen : t.atom.length ≤ Bb
 cap : t.parts.length ≤ c
theorem FormAt.mono {I I' : Heap} (hle : HLe I I') {t : Tree} {oa : Option Addr} {c : Nat} {oaf : Nat → Option Addr} {cf : Nat → Nat} (h : FormAt I t oa c oaf cf) : FormAt I' t oa c oaf cf :=
 ⟨h.rep.mono hle, fun i hi => ⟨(h.part i hi).1.mono hle, (h.part i hi).2.mono hle⟩, h.nil, h.len, h.alen, h.cap⟩
theorem FormAt.st {I : Heap} {t : Tree} {oa : Option Addr} {c : Nat} {oaf : Nat → Option Addr} {cf : Nat → Nat} (h : FormAt I t oa c oaf cf) (i : Nat) (hi : i < t.parts.length) : Still I ((Vd oa).add (i * 2)) [.string (str (t.pt i).atom), .slice (oaf i) (t.pt i).parts.length (cf i)] := (h.part i hi).2
theorem FormAt.rp {I : Heap} {t : Tree} {oa : Option Addr} {c : Nat} {oaf : Nat → Option Addr} {cf : Nat → Nat} (h : FormAt I t oa c oaf cf) (i : Nat) (hi : i < t.parts.length) : Rep I (t.pt i) [.string (str (t.pt i).atom), .slice (oaf i) (t.pt i).parts.length (cf i)] := (h.part i hi).1
theorem Rep.at' {I : Heap} {t : Tree} {cs : List Value} (h : Rep I t cs) : ∃ oa c oaf cf, cs = [.string (str t.atom), .slice oa t.parts.length c] ∧ FormAt I t oa c oaf cf := by
 obtain ⟨oa, c, vs, rfl, hl, hs, hn, hc, ha, hp⟩ := h.open
 have key : ∀ i, ∃ p : Option Addr × Nat, ∀ hi : i < t.parts.length, Rep I (t.pt i) [.string (str (t.pt i).atom), .slice p.1 (t.pt i).parts.length p.2] ∧ Still I ((Vd oa).add (i * 2)) [.string (str (t.pt i).atom), .slice p.1 (t.pt i).parts.length p.2] := by
  intro i
  by_cases hi : i < t.parts.length
  ·obtain ⟨x, rfl, oa', c', h1, h2⟩ := Rep.at hl hs hn i hi; rw [Tree.pt_at hi]
   exact ⟨(oa', c'), fun _ => ⟨h1, h2⟩⟩
  ·exact ⟨(none, 0), fun h => absurd h hi⟩
 exact ⟨oa, c, fun i => (Classical.choose (key i)).1, fun i => (Classical.choose (key i)).2, rfl, h, fun i hi => Classical.choose_spec (key i) hi, fun e => by rw [hn e]; rfl, hp, ha, hc⟩
theorem Rep.atom_le {I : Heap} {t : Tree} {cs : List Value} (h : Rep I t cs) : t.atom.length ≤ Bb := by obtain ⟨_, _, _, _, _, _, _, _, ha, _⟩ := h.open; exact ha
theorem Nums.st {I : Heap} {oa : Option Addr} {l : List Nat} {c : Nat} (h : Nums I oa l c) (i : Nat) (hi : i < l.length) : Still I ((Vd oa).add (i * 1)) [.int .i64 (l.getD i 0 : Nat)] := by
 obtain ⟨x, rfl, hx⟩ := h.at i hi; rw [show l.getD i 0 = l[i] by simp [hi]]; exact hx
theorem Nums.nil' {I : Heap} {oa : Option Addr} {l : List Nat} {c : Nat} (h : Nums I oa l c) (e : oa = Option.none) : l.length = 0 := by rw [h.nil e]; rfl
theorem Strs.st {I : Heap} {oa : Option Addr} {l : List As} {c : Nat} (h : Strs I oa l c) (i : Nat) (hi : i < l.length) : Still I ((Vd oa).add (i * 1)) [.string (str (l.getD i []))] := by
 obtain ⟨x, rfl, hx⟩ := h.at i hi; rw [show l.getD i [] = l[i] by simp [hi]]; exact hx
theorem Strs.nil' {I : Heap} {oa : Option Addr} {l : List As} {c : Nat} (h : Strs I oa l c) (e : oa = Option.none) : l.length = 0 := by rw [h.nil e]; rfl
theorem Raw.st {I : Heap} {oa : Option Addr} {l : List As} {c : Nat} (h : Raw I oa l c) (i : Nat) (hi : i < l.length) : Still I ((Vd oa).add (i * 1)) [.string (str (l.getD i []))] := by
 obtain ⟨x, rfl, hx⟩ := h.at i hi; rw [show l.getD i [] = l[i] by simp [hi]]; exact hx
theorem Raw.nil' {I : Heap} {oa : Option Addr} {l : List As} {c : Nat} (h : Raw I oa l c) (e : oa = Option.none) : l.length = 0 := by rw [h.nil e]; rfl
set_option maxRecDepth 100000
set_option linter.unusedVariables false
set_option linter.unusedSimpArgs false

theorem J8 {I I' : Heap} {L L₀ : Bh} {v u : Value} (hle : HLe I I') (hm : ∀ w, Mem I' L w → Mem I' L₀ w) (h : v = u) : ∃ I₁ L', HLe I I₁ ∧ (∀ w, Mem I' L w → Mem I₁ L' w) ∧ Ee u I L₀ v I₁ L' :=
 ⟨I, L₀, .refl _, fun w hw => (hm w hw).le hle, h.symm, rfl, rfl⟩
theorem Nb : ∀ (a b : List Tree), Dr (a ++ b) = max (Dr a) (Dr b)
 | [], b => by simp [Dr]
 | t :: a, b => by simp only [List.cons_append, Dr, Nb a b]; omega
theorem V7 (ps : List Tree) (i : Nat) (hi : i < ps.length) : Dr (ps.take (i + 1)) = max (Dr (ps.take i)) ps[i].depth := by
 rw [List.take_succ_eq_append_getElem hi, Nb]; simp [Dr]
theorem Mc : ∀ (a b : List Tree), Ge (a ++ b) = Ge a + Ge b
 | [], b => by simp [Ge]
 | t :: a, b => by simp [Ge, Mc a b]; omega
theorem Pn (ps : List Tree) (i : Nat) (hi : i < ps.length) : Ge (ps.take (i + 1)) = Ge (ps.take i) + ps[i].len + 1 := by
 rw [List.take_succ_eq_append_getElem hi, Mc]; simp [Ge]; omega
theorem Zs (ps : List Tree) (i : Nat) : Ge (ps.take i) ≤ Ge ps := by
 have h := Mc (ps.take i) (ps.drop i)
 rw [List.take_append_drop] at h
 omega
theorem Tree.len_eq (t : Tree) (h : t.parts ≠ []) : t.len = 1 + Ge t.parts := by
 cases t with
 | node a ps => cases ps with
  | nil => exact absurd rfl h
  | cons p ps => rfl
theorem Tree.len_atom (t : Tree) (h : t.parts = []) : t.len = t.atom.length := by
 cases t with
 | node a ps => simp [Tree.parts] at h; subst h; rfl
theorem Tree.depth_eq (t : Tree) (h : t.parts ≠ []) : t.depth = Dr t.parts + 1 := by
 cases t with
 | node a ps => cases ps with
  | nil => exact absurd rfl h
  | cons p ps => rfl
theorem Tree.depth_atom (t : Tree) (h : t.parts = []) : t.depth = 0 := by
 cases t with
 | node a ps => simp [Tree.parts] at h; subst h; rfl
theorem Tree.pt_len (t : Tree) (i : Nat) (hi : i < t.parts.length) : (t.pt i).len + 2 ≤ t.len := by
 rw [Tree.pt_at hi]
 have h1 := Zs t.parts (i + 1)
 rw [Pn _ _ hi] at h1
 have h2 := t.len_eq (by intro e; rw [e] at hi; simp at hi)
 omega
mutual
theorem Tree.depth_len : ∀ t : Tree, t.depth ≤ t.len
 | .node a [] => Nat.zero_le _
 | .node a (p :: ps) => by have := Q7 (p :: ps); simp only [Tree.depth, Tree.len, List.isEmpty_cons, cond_false]; omega
theorem Q7 : ∀ ts : List Tree, Dr ts ≤ Ge ts
 | [] => Nat.le_refl _
 | t :: ts => by have := t.depth_len; have := Q7 ts; simp only [Dr, Ge]; omega
end
mutual
theorem Tree.size_len : ∀ t : Tree, t.size ≤ t.len + 1
 | .node a [] => by simp [Tree.size]
 | .node a (p :: ps) => by have := Ts (p :: ps); simp only [Tree.size, Tree.len, List.isEmpty_cons, cond_false]; omega
theorem Ts : ∀ ts : List Tree, Ek ts ≤ Ge ts
 | [] => Nat.le_refl _
 | t :: ts => by have := t.size_len; have := Ts ts; simp only [Ek, Ge]; omega
end

theorem Uq : ∀ (n : Nat) {I : Heap} {t : Tree} {cs : List Value} (_ : SizeOf.sizeOf t < n) (_ : Rep I t cs) (_ : t.len ≤ Bb) (L : Bh),
  Fun Tryz.prog 180 [.agg cs.toArray] I L (Ee (.int .i64 (t.depth : Nat)) I L) := by
 intro n
 induction n with
 | zero => intro I t cs h; omega
 | succ n ihn =>
  intro I t cs hlt h hz L
  unfold Bb at hz
  have hdl := t.depth_len
  obtain ⟨oa, c, oaf, cf, rfl, hf⟩ := h.at'
  have hp := hf.len
  unfold Bb at hp
  refine Al Af ?_; refine Se rfl ?_; refine Cc rfl rfl .free rfl ?_; intro b1; refine Oa rfl (Ab (Ah (Se rfl ?_))); refine Bq rfl .free rfl ?_; refine Ca rfl (Cz h _) ?_; rintro _ _ _ _ ⟨rfl, rfl, rfl⟩; refine Ab ?_; refine Av rfl ?_ ?_
  ·intro c0
   try simp only [nb] at c0
   refine Se rfl (Oa rfl (Ab (Ai (.tmp rfl .nil) ?_))); refine only rfl ?_; rw [t.depth_atom Ey]; rfl
  intro c0
  try simp only [nb] at c0
  have hne : t.parts ≠ [] := by simpa using c0
  have hsz := t.depth_eq hne
  refine Aj (Se rfl (Oa rfl (Ab (Ah (Se rfl (Oh rfl ?_)))))); refine Bd rfl .free rfl ?_; refine On rfl (Om rfl (Ab (Ar ?_))); refine Dv (X := Nat) (fun i => t.parts.length - i) (fun i => [(3, .int .i64 ((Dr (t.parts.take i) : Nat))), (9, .slice oa t.parts.length c), (10, .int .i64 (t.parts.length : Nat)), (11, .int .i64 (i : Nat))]) (fun _ => I) (fun _ => L) (fun i => i ≤ t.parts.length) 0 Aa ⟨rfl, rfl, rfl, rfl, trivial⟩ Bj ?_; rintro i hi ih; refine Se rfl (Oc rfl rfl rfl (Ab (Ah ?_))); refine Av rfl ?_ ?_
  ·intro c1
   try simp only [nb] at c1
   refine Aj (Ah (Ar (Se rfl ?_)))
   first | refine Bk rfl rfl _ rfl .free rfl ?_ | refine Bl rfl rfl _ rfl .free rfl ?_
   refine Gu rfl .free rfl ?_; refine A3 .free rfl ?_; intro b5; refine Bu rfl rfl rfl rfl .free ?_; refine Ab (Ao rfl (Om rfl ?_)); refine Bq rfl .free rfl ?_; refine Ca rfl (ihn (t := t.pt i) (by have := t.pt_lt i Aa; omega) (hf.rp i Aa) (by have := t.pt_len i Aa; unfold Bb; omega) _) ?_; rintro _ _ _ _ ⟨rfl, rfl, rfl⟩; refine Agp rfl rfl .free rfl ?_; refine Oa rfl (Ab (Aq (Ao rfl ?_))); refine Or rfl rfl rfl ?_; refine Om rfl (Ab ?_)
   refine Ck Bj (Cw (E' := [(3, .int .i64 ((Dr (t.parts.take (i + 1)) : Nat))), (9, .slice oa t.parts.length c), (10, .int .i64 (t.parts.length : Nat)), (11, .int .i64 ((i + 1 : Nat)))]) ⟨?_, rfl, rfl, rfl, trivial⟩ (ih (i + 1) Aa Aa)); rw [V7 _ _ Aa, ← Tree.pt_at Aa]; refine congrArg (fun z => some (Value.int .i64 z)) ?_; omega
  intro c1
  try simp only [nb] at c1
  obtain rfl : i = t.parts.length := by omega
  simp only [List.take_length]
  refine Cs rfl ?_; refine Se rfl (Om rfl ?_); refine Or rfl rfl rfl ?_; refine Oa rfl (Ab (Ai (.tmp rfl .nil) ?_)); refine only rfl ?_; rw [hsz]; rfl
theorem Sk : ∀ (n : Nat) {I : Heap} {t : Tree} {cs : List Value} (_ : SizeOf.sizeOf t < n) (_ : Rep I t cs) (_ : t.len ≤ Bb) (L : Bh),
  Fun Tryz.prog 181 [.agg cs.toArray] I L (Ee (.int .i64 (t.len : Nat)) I L) := by
 intro n
 induction n with
 | zero => intro I t cs h; omega
 | succ n ihn =>
  intro I t cs hlt h hz L
  unfold Bb at hz
  obtain ⟨oa, c, oaf, cf, rfl, hf⟩ := h.at'
  have hp := hf.len
  unfold Bb at hp
  refine Al Af ?_; refine Se rfl ?_; refine Cc rfl rfl .free rfl ?_; intro b1; refine Oa rfl (Ab (Ah (Se rfl ?_))); refine Bq rfl .free rfl ?_; refine Ca rfl (Cz h _) ?_; rintro _ _ _ _ ⟨rfl, rfl, rfl⟩; refine Ab ?_; refine Av rfl ?_ ?_
  ·intro c0
   try simp only [nb] at c0
   refine Se rfl (Oh rfl ?_); refine Bd rfl .free rfl ?_; refine C1 rfl .free rfl ?_; refine Oa rfl (Ab (Ai (.tmp rfl .nil) ?_)); refine only rfl ?_; rw [t.len_atom Ey]; rfl
  intro c0
  try simp only [nb] at c0
  have hne : t.parts ≠ [] := by simpa using c0
  have hsz := t.len_eq hne
  refine Aj (Se rfl (Oa rfl (Ab (Ah (Se rfl (Oh rfl ?_)))))); refine Bd rfl .free rfl ?_; refine On rfl (Om rfl (Ab (Ar ?_))); refine Dv (X := Nat) (fun i => t.parts.length - i) (fun i => [(3, .int .i64 ((1 + Ge (t.parts.take i) : Nat))), (12, .slice oa t.parts.length c), (13, .int .i64 (t.parts.length : Nat)), (14, .int .i64 (i : Nat))]) (fun _ => I) (fun _ => L) (fun i => i ≤ t.parts.length) 0 Aa ⟨rfl, rfl, rfl, rfl, trivial⟩ Bj ?_; rintro i hi ih; refine Se rfl (Oc rfl rfl rfl (Ab (Ah ?_))); refine Av rfl ?_ ?_
  ·intro c1
   try simp only [nb] at c1
   have hll := Zs t.parts (i + 1)
   rw [Pn _ _ Aa, ← Tree.pt_at Aa] at hll; refine Aj (Ah (Ar (Se rfl ?_)))
   first | refine Bk rfl rfl _ rfl .free rfl ?_ | refine Bl rfl rfl _ rfl .free rfl ?_
   refine Gu rfl .free rfl ?_; refine A3 .free rfl ?_; intro b5; refine Bu rfl rfl rfl rfl .free ?_; refine Ab (Ao rfl (Om rfl ?_)); refine Bq rfl .free rfl ?_; refine Ca rfl (ihn (t := t.pt i) (by have := t.pt_lt i Aa; omega) (hf.rp i Aa) (by have := t.pt_len i Aa; unfold Bb; omega) _) ?_; rintro _ _ _ _ ⟨rfl, rfl, rfl⟩; refine Or rfl rfl rfl ?_; refine Or rfl rfl rfl ?_; refine Oa rfl (Ab (Aq (Ao rfl ?_))); refine Or rfl rfl rfl ?_; refine Om rfl (Ab ?_)
   refine Ck Bj (Cw (E' := [(3, .int .i64 ((1 + Ge (t.parts.take (i + 1)) : Nat))), (12, .slice oa t.parts.length c), (13, .int .i64 (t.parts.length : Nat)), (14, .int .i64 ((i + 1 : Nat)))]) ⟨?_, rfl, rfl, rfl, trivial⟩ (ih (i + 1) Aa Aa)); rw [Pn _ _ Aa, ← Tree.pt_at Aa]; refine congrArg (fun z => some (Value.int .i64 z)) ?_; omega
  intro c1
  try simp only [nb] at c1
  obtain rfl : i = t.parts.length := by omega
  simp only [List.take_length]
  refine Cs rfl ?_; refine Se rfl (Om rfl (Oa rfl (Ab (Ai (.tmp rfl .nil) ?_)))); refine only rfl ?_; rw [hsz]; rfl
theorem Wf {I : Heap} {t : Tree} {cs : List Value} (h : Rep I t cs) (hz : t.len ≤ Bb) (L : Bh) : Fun Tryz.prog 140 [.agg cs.toArray] I L (Ee (.bool t.fits) I L) := by
 obtain ⟨oa, c, oaf, cf, rfl, hf⟩ := h.at'; refine Al Af ?_; refine Se rfl ?_; refine Cc rfl rfl .free rfl ?_; intro b1; refine Oa rfl (Ab (Se rfl ?_)); refine Bq rfl .free rfl ?_; refine Ca rfl (Uq _ (Nat.lt_succ_self _) h hz _) ?_; rintro _ _ _ _ ⟨rfl, rfl, rfl⟩; refine Oc rfl rfl rfl (Om rfl ?_)
 apply Cy 6 10 rfl
 ·intro g1_4 hk
  try simp only [nb] at g1_4
  refine Bq rfl (.met rfl rfl) rfl ?_; refine Cv rfl (.met rfl rfl) rfl (Sk _ (Nat.lt_succ_self _) h hz _) ?_; rintro _ _ _ _ ⟨rfl, rfl, rfl⟩; refine Dp rfl rfl rfl (.met rfl rfl) rfl ?_; refine Ot rfl rfl ?_
  exact Au 3 rfl rfl hk
 ·intro _ hk; refine A2 3 rfl ?_; refine Of rfl rfl ?_
  exact Au 3 rfl rfl hk
 refine Oa rfl (Ab (Ai (.tmp rfl .nil) ?_)); refine only rfl ?_; refine congrArg Value.bool ?_; rw [Bool.eq_iff_iff]; simp [Tree.fits]; omega
theorem Sg {I : Heap} {t : Tree} {cs : List Value} (h : Rep I t cs) (L : Bh) : Fun Tryz.prog 174 [.agg cs.toArray] I L (Ee (.bool (t.parts.isEmpty && (Bn t.atom || Bt t.atom))) I L) := by
 obtain ⟨oa, c, oaf, cf, rfl, hf⟩ := h.at'
 have ha := hf.alen
 refine Al Af ?_; refine Se rfl ?_; refine Cc rfl rfl .free rfl ?_; intro b1; refine Oa rfl (Ab (Se rfl ?_)); refine Bq rfl .free rfl ?_; refine Ca rfl (Cz h _) ?_; rintro _ _ _ _ ⟨rfl, rfl, rfl⟩; refine Om rfl ?_
 apply Cy 5 14 rfl
 ·intro g1_3 hk
  try simp only [nb] at g1_3
  refine A1 rfl (.met rfl rfl) rfl ?_; refine Bd rfl (.met rfl rfl) rfl ?_; refine Cv rfl (.met rfl rfl) rfl (Ii t.atom ha _ _) ?_; rintro _ _ _ _ ⟨rfl, rfl, rfl⟩; refine Ow rfl ?_
  apply F6 9 13 rfl
  ·intro g1_7 hk
   try simp only [nb] at g1_7
   refine A1 rfl (.met rfl rfl) rfl ?_; refine Bd rfl (.met rfl rfl) rfl ?_; refine Cv rfl (.met rfl rfl) rfl (Qd t.atom ha _ _) ?_; rintro _ _ _ _ ⟨rfl, rfl, rfl⟩; refine Ev rfl rfl (.met rfl rfl) rfl ?_
   exact Au 3 rfl rfl hk
  ·intro _ hk; refine A2 3 rfl ?_; refine Fm rfl rfl (.met rfl rfl) rfl ?_
   exact Au 3 rfl rfl hk
  refine Ot rfl rfl ?_
  exact Au 5 rfl rfl hk
 ·intro _ hk; refine A2 8 rfl ?_; refine Of rfl rfl ?_
  exact Au 8 rfl rfl hk
 refine Oa rfl (Ab (Ai (.tmp rfl .nil) ?_)); refine only rfl ?_
 simp [C2, *]
end Go.Proofs.YtmfagaajiakgoaaGreatDoor
