/- From a contract that says 'returns true' to the statement's own words: the arguments as they come in, what is left behind. No conditions. -/
import Derived.Test.YtbohngcdgmjfaaaGreatDoorG4
import Derived.Test.YtbohngcdgmjfaaaGreatDoorRows
import Derived.ProofKit

namespace Go.Proofs.YtbohngcdgmjfaaaGreatDoor
open Go.ChangeShapes Go.WideShapes Go.ChangeAt Go.RowKit Go.ChangeMaps
set_option maxRecDepth 100000
set_option linter.unusedVariables false
set_option linter.unusedSimpArgs false

theorem Ub : laidOutB Tryz.prog = true := by kernel_rfl

def O2 (w : World) : Heap := ⟨fun b => w.heap[b]?, w.os, w.output⟩
theorem Ue (w : World) : Mem (O2 w) [] w := ⟨⟨fun _ _ h => h, rfl, rfl⟩, by simp, by simp⟩
def YES (L : Bc) : C3 := fun v I' L' => v = .bool true ∧ L = L'

section
variable {H : Type} {enc : TypeId × Value → H} {P : Program} {W W' : World}

theorem M3 (h : ∀ (b : Nat) (o : Obj), W.heap[b]? = some o → W'.heap[b]? = some o) {k : Nat} (hk : k < W.heap.size) : W'.heap[k]? = W.heap[k]? := by
 rw [h k _ (Array.getElem?_eq_getElem hk), Array.getElem?_eq_getElem hk]
theorem Ur (h : ∀ (b : Nat) (o : Obj), W.heap[b]? = some o → W'.heap[b]? = some o) {p : MemPlace} (hp : p.block < W.heap.size) : W.sameAt W' p := by
 cases p with
 | cell b off =>
  have := M3 h (k := b) hp
  show W'.cell? _ = W.cell? _
  simp only [World.cell?, this]
 | map b => exact M3 h hp
theorem Mp (hl : laidOutB P = true) (h : ∀ (b : Nat) (o : Obj), W.heap[b]? = some o → W'.heap[b]? = some o) : ∀ {ts : List TypeId} {vs : List Value} {ds : List (DataW H)} {ps : List MemPlace},
  DataW.TrodAll enc P W 0 (fun _ => true) true ts vs ds ps → (∀ t ∈ ts, P.readableRec t = true ∧ t < P.types.size) → (∀ x ∈ ps, x.block < W.heap.size) →
  DataW.TrodAll enc P W' 0 (fun b => decide (b < W.heap.size)) true ts vs ds ps
 | [], [], [], ps, hA, _, _ => hA
 | t :: ts, [], ds, ps, hA, _, _ => by cases ds <;> exact hA.elim
 | t :: ts, v :: vs, [], ps, hA, _, _ => hA.elim
 | [], v :: vs, ds, ps, hA, _, _ => by cases ds <;> exact hA.elim
 | [], [], d :: ds, ps, hA, _, _ => hA.elim
 | t :: ts, v :: vs, d :: ds, ps, hA, hr, hlt => by
  obtain ⟨p, q, h1, h2, rfl⟩ := hA; refine ⟨p, q, ?_, Mp hl h h2 (fun t ht => hr t (.tail _ ht)) (fun x hx => hlt x (List.mem_append_right _ hx)), rfl⟩
  have hp : ∀ x ∈ p, x.block < W.heap.size := fun x hx => hlt x (List.mem_append_left _ hx)
  exact WideElems.Trod_stays hl (hr t (.head _)).1 (hr t (.head _)).2 h1 (fun x hx => Ur h (hp x hx)) (fun x hx => by simpa using hp x hx)
theorem Sg (h : ∀ (b : Nat) (o : Obj), W.heap[b]? = some o → W'.heap[b]? = some o) (ho : W'.os = W.os) (hp : W'.output = W.output) (may : MemPlace → Prop) : W.keptBut W' may := by
 refine ⟨ho, hp, fun i hi => ?_⟩; rw [M3 h hi]
 split <;> simp_all

theorem Wp {f : FuncId} {fn : Func} {s : ChangeSpec} {args : Array Value} {ds gs : List (DataW H)} {before : List MemPlace} {tb : TypeId} (hl : laidOutB P = true)
  (hW : DataW.Whole enc P fn.params.toList s.vars false W args.toList ds gs before) (hv : s.vars = []) (hs : s.fn H (ds ++ gs) = { results := [.lit (.bool true)], args := ds })
  (hrt : fn.resultTypes = #[tb]) (htb : P.underlying tb = some .bool) (hrd : ∀ t ∈ fn.params.toList, P.readableRec t = true ∧ t < P.types.size)
  (hc : Fun P f args.toList (O2 W) [] (YES [])) : Calls P f args W fun e W' => ∃ v, e = .returned v ∧ s.post enc P fn false true false false W args v W' := by
 have hc' := hc.run W (Ue W)
 rw [Array.toArray_toList] at hc'; refine hc'.mono fun e W' he => ?_
 obtain ⟨v, I', L', rfl, hle, hm, rfl, rfl⟩ := he
 have hkeep : ∀ (b : Nat) (o : Obj), W.heap[b]? = some o → W'.heap[b]? = some o := fun b o hb => hm.1.1 b o (hle.le b o hb)
 have hlt : ∀ x ∈ before, x.block < W.heap.size := hW.lt
 obtain ⟨p, q, h1, h2, rfl, h4, h5⟩ := id hW; rw [hv] at h2; obtain ⟨rfl, rfl⟩ := trodVars_none h2; refine ⟨_, rfl, ds, [], _, [], p, [], hW, ?_, ?_, ?_, Sg hkeep (hm.1.2.1.trans hle.os) (hm.1.2.2.trans hle.out) _, fun h => by cases h⟩
 ·rw [hs, hrt]
  exact ⟨[], [], shut_bool htb true, rfl, rfl⟩
 ·rw [hs]
  exact Mp hl hkeep h1 hrd (fun x hx => hlt x (List.mem_append_left _ hx))
 ·rw [hs, hv]; rfl

theorem X2 {t e : TypeId} (ht : P.underlying t = some (.slice e)) (he : P.underlying e = some (.int .u8)) (hc : P.cellsOf e = 1) {r : Reach} {b0 : Nat} {v : Value} {d : DataW H} {ps : List MemPlace} {base : Nat} {held : Bool}
  (hval : Value.okWide P W r b0 t v) (hd : DataW.Trod enc P W base (fun _ => true) held t v d ps) : ∃ oa l c, v = .slice oa (List.length l) c ∧ Bytes (O2 W) oa l c := by
 obtain ⟨a0, len, cap, rfl⟩ := okWide_slice ht hval; obtain ⟨fuel, hf⟩ := hd
 rcases open_ints ht he hc hf with ⟨hcs, hx⟩ | ⟨a, len', cap', zs, hcs, _, hl, hm, hz, hx, hcell, hwz⟩
 ·simp [Value.cells] at hcs
  obtain ⟨rfl, rfl, rfl⟩ := hcs
  exact ⟨none, [], 0, rfl, by simp, by simp, by simp, by simp⟩
 ·simp [Value.cells] at hcs
  obtain ⟨rfl, rfl, rfl⟩ := hcs
  simp only [if_true] at hz
  have hlen : ((zs.take len).map fun z => UInt8.ofNat z.toNat).length = len := by simp; omega
  simp only [maxLen] at hm
  refine ⟨some a, (zs.take len).map fun z => UInt8.ofNat z.toNat, cap, by rw [hlen], ⟨?_, by simp, by rw [hlen]; exact hl, by rw [hlen]; omega⟩⟩; rintro x ⟨⟩
  by_cases h0 : len = 0
  ·subst h0; exact .inl (by simp)
  ·have hsp := World.cell?_spot (hcell 0 (by omega))
   have ha0 : a.add 0 = a := by simp [Addr.add]
   rw [ha0] at hsp
   have hb : ∃ cc T fr, W.heap[a.block]? = some (.cells cc T fr) := by
    have := hcell 0 (by omega)
    rw [ha0] at this
    unfold World.cell? at this
    split at this
    ·exact ⟨_, _, _, by assumption⟩
    ·cases this
   obtain ⟨cc, T, fr, hb⟩ := hb; refine .inr ⟨cc, T, fr, hb, hsp, fun i hi => ?_⟩
   simp only [List.length_map, List.length_take] at hi
   have hi' := hcell i (by omega)
   have hadd : a.add i = ⟨a.block, a.off + i, none⟩ := by
    unfold Addr.add
    split
    ·subst_vars; rw [← hsp]; rfl
    ·rfl
   rw [hadd] at hi'
   simp only [World.cell?, hb, Option.isSome_none, Bool.false_eq_true, if_false] at hi'
   rw [hi']
   have hsl : i < zs.length := by omega
   have hw := hwz _ (List.getElem_mem hsl)
   have hw2 : 0 ≤ zs[i] ∧ zs[i] ≤ 255 := by simpa [Lit.wf, IntKind.min, IntKind.max, IntKind.signed, IntKind.bits] using hw
   have e : ((zs[i].toNat % 256 : Nat) : Int) = zs[i] := by omega
   simp [bv, hsl, e]
end
set_option maxRecDepth 100000
set_option linter.unusedVariables false
set_option linter.unusedSimpArgs false

section rules
variable {P : Program} {f : FuncId} {n : Nat} {I₀ : Heap} {Q : C3} {k : List Item} {E : Gj} {I : Heap} {L : Bc}
variable {ops : Array Oper} {d : Nat} {ty : TypeId} {pos : String} {af : Array Edge} {g : Option (Nat × Bool)} {l : List Oper}

theorem Fo {b : Nat} {o : Obj} (h : HLe I (I.set b o) → A6 P f n I₀ Q ops l k E (I.set b o) L) : A6 P f n I₀ Q ops l k E I ((b, o) :: L) :=
 fun a w ha hd he hm => h hm.freeze.2 a w ha hd he hm.freeze.1

theorem C5 {T e : TypeId} {sz bb esz ebb : Nat} {z ez : List Value} {dd : TypeDesc} [ht : Aq P T (.slice e) sz bb z] [hte : Aq P e dd esz ebb ez]
  (hg : Wants ops E g) (hdn : Nat.blt d n = true)
  (h : ∀ b, A6 P f n I₀ Q ops l k ((d, .slice (some ⟨b, 0, none⟩) 0 0) :: E) I ((b, .cells [].toArray e (0, 0)) :: L)) :
  A6 P f n I₀ Q ops (⟨some d, .buildSlice T 0 #[], ty, pos, af, g⟩ :: l) k E I L := by
 refine Hk rfl hdn (fun a he => hg.wanted a he) fun a w he hm => ?_
 refine ⟨_, _, I, (w.heap.size, .cells [].toArray e (0, 0)) :: L, ?_, hm.alloc _, h _⟩
 simp only [execOp]
 refine Ad (a := .slice (some ⟨w.heap.size, 0, none⟩) 0 0) (w' := { w with heap := w.heap.push (.cells [].toArray e (0, 0)) }) ?_ |>.trans rfl
 unfold Instr.buildSlice
 rw [Ad (Ay ht.und w)]
 simp only []
 rw [Ad (Ey hte w)]; rw [if_neg (by omega), if_pos (by omega)]
 have e0 : ∀ h : Nat → Value, (Array.range 0).map h = #[] := fun h => by simp
 have e1 : (Array.map (fun x : Nat × Operand => (x.fst, a.eval x.snd)) #[]).toList = [] := by simp
 simp only [pure_bind, Nat.zero_mul, e0, e1]
 rfl

theorem Fm {T T2 e : TypeId} {sz bb esz ebb sz2 bb2 : Nat} {z ez z2 : List Value} {dd dd2 : TypeDesc} [ht : Aq P T (.slice e) sz bb z] [hte : Aq P e dd esz ebb ez] [ht2 : Aq P T2 dd2 sz2 bb2 z2]
  {x y : Operand} {B : H3} {xs ys : List Value} {m c : Nat} {ad2 : Option Addr} {m2 c2 : Nat} {L₀ : Bc} (hni : ∀ kk, dd2 ≠ .int kk) (hez : ez.length = esz)
  (hx : Bo E x = some (Bd m c B)) (hy : Bo E y = some (.slice ad2 m2 c2)) (hB : Cy esz m c xs B) (hL : ∀ w, Mem I L w → Mem I (A2 e xs B ++ L₀) w)
  (hyl : ys.length = m2 * esz) (hyr : ∀ a, ad2 = some a → F5 I L₀ a ys) (hyn : ad2 = none → ys = []) (hyp : ys.all Cs = true) (hesz : 0 < esz)
  (hsize : (m + m2) ≤ 4294967296) (hbytes : ebb ≤ 1024) (hg : Wants ops E g) (hdn : Nat.blt d n = true)
  (h : ∀ B' c', Cy esz (m + m2) c' (xs ++ ys) B' → A6 P f n I₀ Q ops l k ((d, Bd (m + m2) c' B') :: E) I (A2 e (xs ++ ys) B' ++ L₀)) :
  A6 P f n I₀ Q ops (⟨some d, .call ⟨.builtin .append, #[x, y], #[T, T2]⟩, T, pos, af, g⟩ :: l) k E I L := by
 by_cases hm2 : 0 < m2
 ·refine D5 hni hez hx hy hB hL hyl hyr hyn hyp hm2 hesz hsize hbytes hg hdn fun b sp c' hB' => ?_
  exact h (some (b, sp)) c' hB'
 ·obtain rfl : m2 = 0 := by omega
  obtain rfl : ys = [] := List.eq_nil_of_length_eq_zero (by simpa using hyl); refine Hk rfl hdn (fun a he => hg.wanted a he) fun a w he hm => ?_
  have hv : ∃ base cc, Bd m c B = .slice base m cc ∧ m ≤ cc ∧ cc = c := by
   cases B with
   | none => obtain ⟨h1, h2, h3⟩ := hB; exact ⟨none, 0, by simp [Bd, h2], by omega, h3.symm⟩
   | some p => exact ⟨_, c, rfl, hB.2.1, rfl⟩
  obtain ⟨base, cc, hbv, hmc, rfl⟩ := hv
  have := Kv (P := P) (T2 := T2) (base := base) (x := .slice ad2 0 c2) (w := w) ht hte ht2.und hni hmc rfl (Gc (hL w hm) hyl (fun a _ v _ i hi => absurd hi (by simp)) hyn)
  refine ⟨_, w, I, _, ?_, hL w hm, by simpa using h B cc (by simpa using hB)⟩
  simp only [execOp, resolve, List.map_toArray, List.map, he.eval hx, he.eval hy, pure_bind, invoke, builtin, hbv]
  exact Ad this |>.trans rfl
end rules

theorem Cg (l : List Am) : (l.map sv).all Cs = true := by simp [sv, Cs]
theorem Strs.reads {I : Heap} {L : Bc} {oa : Option Addr} {l : List Am} {c : Nat} (h : Strs I oa l c) (a : Addr) (ha : oa = some a) : F5 I L a (l.map sv) := (h.still a ha).reads
theorem Strs.none {I : Heap} {oa : Option Addr} {l : List Am} {c : Nat} (h : Strs I oa l c) (ha : oa = .none) : l.map sv = [] := by rw [h.nil ha]; rfl
theorem Ff {P : Program} {f : FuncId} {n : Nat} {I₀ : Heap} {Q : C3} {todo : List Item} {E : Gj} {I : Heap} {L : Bc} {e : TypeId} {l : List Am} {B : H3} {m c : Nat}
  (hB : Cy 1 m c (l.map sv) B) (hm : m = l.length) (hlen : l.length ≤ Ap) (hs : ∀ s ∈ l, s.length ≤ Ap)
  (h : ∀ I' oa c', HLe I I' → Bd m c B = .slice oa l.length c' → Strs I' oa l c' → RunS P f n I₀ Q todo E I' L) : RunS P f n I₀ Q todo E I (A2 e (l.map sv) B ++ L) := by
 cases B with
 | none =>
  obtain ⟨h1, h2, h3⟩ := hB; obtain rfl : l = [] := by simpa using h1
  exact h I .none 0 (.refl _) rfl ⟨by simp, by simp, by simp, hlen, hs⟩
 | some p =>
  obtain ⟨b, sp⟩ := p; refine Bx fun hle => h _ (some ⟨b, 0, .none⟩) c hle (by rw [← hm]; rfl) ⟨fun y hy => ?_, by simp, by have := hB.2.1; omega, hlen, hs⟩
  cases hy; exact Ax
theorem Strs.drop {I : Heap} {oa : Option Addr} {l : List Am} {c : Nat} (h : Strs I oa l c) (a : Nat) (ha : a ≤ l.length) : Strs I (if c = a then oa else oa.map (·.add (a * 1))) (l.drop a) (c - a) := by
 have hcap := h.cap
 refine ⟨fun x hx => ?_, fun hx => ?_, by simp; omega, by have := h.len; simp; omega, fun s hs => h.each s (List.mem_of_mem_drop hs)⟩
 ·by_cases hc : c = a
  ·have : l.drop a = [] := List.drop_eq_nil_of_le (by omega)
   rw [this]; exact .inl rfl
  ·rw [if_neg hc] at hx
   cases oa with
   | none => cases hx
   | some y =>
    cases hx
    refine (h.still y rfl).part (a * 1) ?_; intro j hj
    simp only [List.length_map, List.length_drop] at hj
    simp [Nat.mul_one, show a + j < l.length by omega]
 ·by_cases hc : c = a
  ·exact List.drop_eq_nil_of_le (by omega)
  ·rw [if_neg hc] at hx
   cases oa with
   | none => rw [h.nil rfl]; simp
   | some y => cases hx
set_option maxRecDepth 100000
set_option linter.unusedVariables false
set_option linter.unusedSimpArgs false

section rules
variable {P : Program} {f : FuncId} {n : Nat} {I₀ : Heap} {Q : C3} {k : List Item} {E : Gj} {I : Heap} {L : Bc}
variable {ops : Array Oper} {d : Nat} {ty : TypeId} {pos : String} {af : Array Edge} {g : Option (Nat × Bool)} {l : List Oper}
theorem Vp {T T' : TypeId} {x y : Operand} {a b : Nat} (hx : Bo E x = some (.int .u8 (a : Nat))) (hy : Bo E y = some (.int .u8 (b : Nat))) (hab : b ≤ a) (ha : a ≤ 255) (hg : Wants ops E g) (hdn : Nat.blt d n = true)
  (h : A6 P f n I₀ Q ops l k ((d, .int .u8 ((a - b : Nat))) :: E) I L) : A6 P f n I₀ Q ops (⟨some d, .binOp .sub T x y T', ty, pos, af, g⟩ :: l) k E I L :=
 D7 (fun ac w he _ => by
  simp only [execOp, he.eval hx, he.eval hy]
  refine Ad (a := _) (w' := w) ?_ |>.trans rfl
  rw [Ad (Fb w)]
  have e : IntKind.u8.wrap ((a : Int) - (b : Int)) = ((a - b : Nat) : Int) := by
   simp [IntKind.wrap, IntKind.bits, IntKind.signed]; omega
  simp [binOp, Op.intArith, e]) hg hdn h
end rules

def Ec (s : Am) : Am := if (s.getD 0 0).toNat = 45 then s.drop 1 else s
def Cr (s : Am) : Bool := decide (s = [48]) || (decide (1 ≤ (Ec s).length ∧ (Ec s).length ≤ 3) && (Ec s).all E2 && !decide (((Ec s).getD 0 0).toNat = 48))
def E3 (l : Am) : Nat := l.foldl (fun n b => 10 * n + (b.toNat - 48)) 0
def Sq (s : Am) : Int := if s = [48] then 0 else (if (s.getD 0 0).toNat = 45 then -1 else 1) * (E3 (Ec s) : Nat)

theorem H4 (s : Am) (i : Nat) (hi : i < s.length) : E3 (s.take (i + 1)) = 10 * E3 (s.take i) + ((s.getD i 0).toNat - 48) := by
 have e : s.getD i 0 = s[i] := by simp [hi]
 rw [List.take_succ_eq_append_getElem hi, e, E3, List.foldl_append]
 rfl
theorem R5 : ∀ (l : Am), E3 l + 1 ≤ 256 * 256 ^ l.length := by
 intro l
 have key : ∀ (l : Am) (a : Nat), l.foldl (fun n b => 10 * n + (b.toNat - 48)) a + 1 ≤ (a + 1) * 256 ^ l.length * 256 := by
  intro l
  induction l with
  | nil => intro a; simp; omega
  | cons b r ih =>
   intro a
   have hb := UInt8.toNat_lt b
   refine Nat.le_trans (ih _) ?_; rw [List.length_cons, Nat.pow_succ]
   have h1 : 10 * a + (b.toNat - 48) + 1 ≤ (a + 1) * 256 := by omega
   calc (10 * a + (b.toNat - 48) + 1) * 256 ^ r.length * 256 ≤ ((a + 1) * 256) * 256 ^ r.length * 256 := Nat.mul_le_mul_right _ (Nat.mul_le_mul_right _ h1)
    _ = (a + 1) * (256 ^ r.length * 256) * 256 := by rw [Nat.mul_assoc (a + 1) 256, Nat.mul_comm 256 (256 ^ r.length)]
 have := key l 0
 simp only [E3]
 omega

theorem I3 (s p : Am) (hs : s.length ≤ Ap) (hp : p.length ≤ Ap) (I : Heap) (L : Bc) : Fun Tryz.prog 126 [.string (str s), .string (str p)] I L (D1 (.string (str (if p.isPrefixOf s then s.drop p.length else s))) I L) := by
 unfold Ap at hs hp
 refine Aj (by simp) ?_; refine Se rfl (Oa rfl (Aa (Ab (Se rfl (Om rfl (Om rfl ?_)))))); refine Ca rfl (Gx s p hs hp _ _) ?_; rintro _ _ _ _ ⟨rfl, rfl, rfl⟩; refine Aa ?_; refine Si rfl ?_ ?_
 ·intro c0
  have hlen : p.length ≤ s.length := by
   have := (List.isPrefixOf_iff_prefix.1 c0).length_le; exact this
  refine Se rfl (Om rfl (Om rfl ?_)); refine C2 rfl .free rfl ?_; refine H0 rfl rfl _ rfl (by first | omega | exact Cb (by assumption) (by decide) | (simp; done) | (simp; omega) | decide | (simp at *; omega)) .free rfl ?_; refine Oa rfl (Aa (Ag (.tmp rfl .nil) ?_)); refine only rfl ?_
  simp [By, c0]
 intro c0; refine Af (Se rfl (Om rfl (Oa rfl (Aa (Ag (.tmp rfl .nil) ?_))))); refine only rfl ?_
 simp [By, c0]
theorem Kl (s p : Am) (hs : s.length ≤ Ap) (hp : p.length ≤ Ap) (I : Heap) (L : Bc) : Fun Tryz.prog 110 [.string (str s), .string (str p)] I L (D1 (.string (str (if p.isPrefixOf s then s.drop p.length else s))) I L) := by
 unfold Ap at hs hp
 refine Aj (by simp) ?_; refine Se rfl (Oa rfl (Aa (Se rfl (Om rfl (Om rfl ?_))))); refine Ca rfl (I3 s p hs hp _ _) ?_; rintro _ _ _ _ ⟨rfl, rfl, rfl⟩; refine Oa rfl (Aa (Ag (.tmp rfl .nil) ?_)); refine only rfl ?_
 simp [By, *]
theorem Vz (s : Am) : (if [45].isPrefixOf s then s.drop [45].length else s) = Ec s := by
 cases s with
 | nil => rfl
 | cons b r =>
  have : ([45].isPrefixOf (b :: r) = true) = (b.toNat = 45) := by
   rw [eq_iff_iff, List.isPrefixOf_iff_prefix]
   simp only [List.cons_prefix_cons, List.nil_prefix, and_true]
   exact ⟨fun h => by rw [← h]; rfl, fun h => UInt8.toNat_inj.1 (by rw [h]; rfl)⟩
  simp [Ec, this]
theorem Tu (s : Am) (hs : s.length ≤ Ap) (I : Heap) (L : Bc) : Fun Tryz.prog 83 [.string (str s)] I L (D1 (.bool (Cr s)) I L) := by
 have hu : (Ec s).length ≤ s.length := by unfold Ec; split <;> simp
 unfold Ap at hs
 refine Aj (by simp) ?_; refine Se rfl (Oa rfl (Aa (Se rfl (Om rfl ?_)))); refine Ca rfl ((Vz s) ▸ Kl s [45] (by unfold Ap; omega) (by decide) _ _) ?_; rintro _ _ _ _ ⟨rfl, rfl, rfl⟩; refine Oa rfl (Aa (Se rfl (Om rfl (Od rfl rfl rfl (Om rfl ?_)))))
 first | refine F4 rfl rfl ?_ ?_ | refine Ek rfl rfl ?_ ?_ | refine Kb rfl rfl ?_ ?_
 ·intro g2_3
  iterate 4 refine Ck rfl rfl rfl ?_
  refine Jr rfl rfl rfl ?_; refine Jr rfl rfl rfl ?_; refine Ck rfl rfl rfl ?_; refine Ck rfl rfl rfl ?_
  iterate 3 refine Jr rfl rfl rfl ?_
  refine Ck rfl rfl rfl ?_; refine Ot rfl rfl (Oa rfl (Aa (Ag (.tmp rfl .nil) ?_))); refine only rfl ?_; refine congrArg Value.bool ?_; simp only [Cr]; grind
 intro g2_3; refine Ow rfl ?_; refine C2 rfl (.met rfl rfl) rfl ?_; refine B6 rfl (.met rfl rfl) rfl (Tv ..) ?_; rintro _ _ _ _ ⟨rfl, rfl, rfl⟩; refine Ow rfl ?_
 first | refine F4 rfl rfl ?_ ?_ | refine Ek rfl rfl ?_ ?_ | refine Kb rfl rfl ?_ ?_
 ·intro g2_7; refine Ow rfl ?_; refine B6 rfl (.met rfl rfl) rfl (Nv (Ec s) (by unfold Ap; omega) _ _) ?_; rintro _ _ _ _ ⟨rfl, rfl, rfl⟩; refine Dj rfl rfl (.met rfl rfl) rfl ?_; refine Ow rfl ?_
  first | refine F4 rfl rfl ?_ ?_ | refine Ek rfl rfl ?_ ?_ | refine Kb rfl rfl ?_ ?_
  ·intro g2_11; refine Ow rfl ?_; refine Dg (i := 0) rfl rfl rfl (by first | omega | exact Cb (by assumption) (by decide) | (simp; done) | (simp; omega) | decide | (simp at *; omega)) (.met rfl rfl) rfl ?_; refine C7 rfl rfl rfl (.met rfl rfl) rfl ?_; refine Dj rfl rfl (.met rfl rfl) rfl ?_; refine Of rfl rfl (Oa rfl (Aa (Ag (.tmp rfl .nil) ?_))); refine only rfl ?_; refine congrArg Value.bool ?_; simp only [Cr]; grind
  intro g2_11
  iterate 3 refine Ck rfl rfl rfl ?_
  refine C1 rfl rfl (.met rfl rfl) rfl ?_; refine Of rfl rfl (Oa rfl (Aa (Ag (.tmp rfl .nil) ?_))); refine only rfl ?_; refine congrArg Value.bool ?_; simp only [Cr]; grind
 intro g2_7; refine Ck rfl rfl rfl ?_; refine Ck rfl rfl rfl ?_; refine C1 rfl rfl (.met rfl rfl) rfl ?_; refine Ow rfl ?_
 iterate 3 refine Ck rfl rfl rfl ?_
 refine C1 rfl rfl (.met rfl rfl) rfl ?_; refine Of rfl rfl (Oa rfl (Aa (Ag (.tmp rfl .nil) ?_))); refine only rfl ?_; refine congrArg Value.bool ?_; simp only [Cr]; grind

def NR (s : Am) (I : Heap) (L : Bc) : C3 := D1 (.tuple #[.int .i64 (bif Cr s then Sq s else 0), .bool (Cr s)]) I L
theorem Iz (l : Am) (h : l.length ≤ 3) : E3 l ≤ 4294967296 := by
 have h1 := R5 l
 have h2 : 256 ^ l.length ≤ 256 ^ 3 := Nat.pow_le_pow_right (by decide) h
 have h3 : 256 * 256 ^ l.length ≤ 256 * 256 ^ 3 := Nat.mul_le_mul_left _ h2
 omega
theorem Vj         (s : Am ) (hs : s.length ≤ Ap  ) (I : Heap) (L : Bc ) : Fun Tryz.prog 58 [.string (str s)] I L (NR s I L) := by
  unfold Ap   at hs
  have hu : (Ec     s).length ≤ s.length := by unfold Ec    ; split <;> simp
  refine Aj        (by simp) ?_
  refine Se rfl (Oa rfl (Oa rfl (Aa     (Se rfl (Oa rfl (Aa     (Se rfl (Om rfl (Oa rfl (Aa     (Ab    (Se rfl (Om rfl ?_)))))))))))))
  refine C2        rfl .free rfl ?_
  refine Oc rfl rfl rfl (Om rfl ?_)
  first | refine F4   rfl rfl ?_ ?_ | refine Ek    rfl rfl ?_ ?_ | refine Kb  rfl rfl ?_ ?_
  · intro g3_4
    refine Ow rfl ?_
    refine Dg      (i := 0) rfl rfl rfl (by first | omega | exact Cb    (by assumption) (by decide) | (simp; done) | (simp; omega) | decide | (simp at *; omega)) (.met rfl rfl) rfl ?_
    refine C7    rfl rfl rfl (.met rfl rfl) rfl ?_
    refine Ot rfl rfl (Aa     ?_)
    refine Si rfl ?_ ?_
    · intro c0
      refine Se rfl (Oa rfl (Aa     (Ah      rfl (Om rfl ?_))))
      refine H0           rfl rfl 1 rfl (by first | omega | exact Cb    (by assumption) (by decide) | (simp; done) | (simp; omega) | decide | (simp at *; omega)) .free rfl ?_
      refine Oa rfl (Aa     (Ab    (Ab    ?_)))
      obtain ⟨sg, hsg, hsn⟩ : ∃ sg : Int, sg = (if (s.getD 0 0).toNat = 45 then -1 else 1) ∧ (sg = 1 ∨ sg = -1) := ⟨_, rfl, by split <;> simp⟩
      have hneg : (s.getD 0 0).toNat = 45 ∨ ¬ (s.getD 0 0).toNat = 45 := by omega
      refine Dr    (E' := [(0, .string (str s)), (4, .int .i64 sg), (5, .string (str (Ec     s)))]) (by
        first
          | (rw [show Ec     s = s.drop 1 from if_pos (by omega), show sg = -1 by rw [hsg, if_pos (by omega)]]; exact ⟨rfl, rfl, rfl, trivial⟩)
          | (have hn : ¬ (s.getD 0 0).toNat = 45 := by
               first | omega | (have h0 : s = [] := by cases s with
                                  | nil => rfl
                                  | cons => simp at *
                                rw [h0]; decide)
             rw [show Ec     s = s from if_neg hn, show sg = 1 by rw [hsg, if_neg hn]]; exact ⟨rfl, rfl, rfl, trivial⟩)) ?_
      generalize hd : Ec     s = ds at *
      refine Ah      rfl (Om rfl (Od rfl rfl rfl (Aa     ?_)))
      refine Si rfl ?_ ?_
      · intro c1
        refine Se rfl (Oa rfl (Oa rfl (Aa     ?_)))
        refine Ag    (.tmp rfl (.tmp rfl .nil)) ?_
        refine only rfl ?_
        rw [‹s = [48]›]; rfl
      intro c1
      refine Af     (Ab    (Se rfl (Om rfl ?_)))
      refine C2        rfl .free rfl ?_
      refine Ca rfl (Sd     ..) ?_
      rintro _ _ _ _ ⟨rfl, rfl, rfl⟩
      refine Dy    rfl .free rfl ?_
      refine Om rfl ?_
      first | refine F4   rfl rfl ?_ ?_ | refine Ek    rfl rfl ?_ ?_ | refine Kb  rfl rfl ?_ ?_
      · intro g8_5
        iterate 3 refine Ck     rfl rfl rfl ?_
        refine Ot rfl rfl (Aa     ?_)
        refine Cm     rfl ?_
        refine Se rfl (Oa rfl (Oa rfl (Aa     ?_)))
        refine Ag    (.tmp rfl (.tmp rfl .nil)) ?_
        refine only rfl ?_
        have hf : Cr    s = false := by simp only [Cr   , hd]; grind
        rw [hf]; rfl
      intro g8_5
      refine Ow rfl ?_
      refine Dg      (i := 0) rfl rfl rfl (by first | omega | exact Cb    (by assumption) (by decide) | (simp; done) | (simp; omega) | decide | (simp at *; omega)) (.met rfl rfl) rfl ?_
      refine C7    rfl rfl rfl (.met rfl rfl) rfl ?_
      refine Of rfl rfl (Aa     ?_)
      refine Si rfl ?_ ?_
      · intro c2
        refine Se rfl (Oa rfl (Oa rfl (Aa     ?_)))
        refine Ag    (.tmp rfl (.tmp rfl .nil)) ?_
        refine only rfl ?_
        have hf : Cr    s = false := by simp only [Cr   , hd]; grind
        rw [hf]; rfl
      intro c2
      refine Af     (Se rfl (Oa rfl (Aa     (Ab    (Se rfl (Oa rfl (Aa     (Ai      ?_))))))))
      have hl3 : ds.length ≤ 3 ∧ 1 ≤ ds.length := by grind
      refine Ct      (X := Nat) (fun i => ds.length - i) (fun i => [(4, .int .i64 sg), (5, .string (str ds)), (6, .int .i64 (E3        (ds.take i) : Nat)), (7, .int .i64 (i : Nat))]) (fun _ => I) (fun _ => L) (fun i => i ≤ ds.length ∧ (ds.take i).all E2    = true) 0 ⟨by omega, by simp⟩ ⟨rfl, rfl, rfl, rfl, trivial⟩ Bt    ?_
      rintro i ⟨hi, hall⟩ ih
      have hv := Iz            (ds.take i) (by simp; omega)
      refine Ab    (Se rfl (Om rfl (Om rfl ?_)))
      refine C2        rfl .free rfl ?_
      refine Oc rfl rfl rfl (Aa     ?_)
      refine Si rfl ?_ ?_
      · intro c3
        refine Af     (Ab    (Ai      (Ab    (Se rfl (Om rfl (Om rfl ?_))))))
        refine Dg      rfl rfl rfl (by first | omega | exact Cb    (by assumption) (by decide) | (simp; done) | (simp; omega) | decide | (simp at *; omega)) .free rfl ?_
        refine Oc rfl rfl rfl (Om rfl ?_)
        first | refine F4   rfl rfl ?_ ?_ | refine Ek    rfl rfl ?_ ?_ | refine Kb  rfl rfl ?_ ?_
        · intro g14_5
          iterate 4 refine Ck     rfl rfl rfl ?_
          refine Ot rfl rfl (Aa     ?_)
          refine Cm     rfl ?_
          refine Se rfl (Oa rfl (Oa rfl (Aa     ?_)))
          refine Ag    (.tmp rfl (.tmp rfl .nil)) ?_
          refine only rfl ?_
          have hf : Cr    s = false := by
            have := Gw        (p := E2   ) (show i < ds.length by omega) (by rw [Fk       ]; exact decide_eq_false (by omega))
            simp only [Cr   , hd]; grind
          rw [hf]; rfl
        intro g14_5
        refine Ow rfl (Ow rfl ?_)
        refine Dg      rfl rfl rfl (by first | omega | exact Cb    (by assumption) (by decide) | (simp; done) | (simp; omega) | decide | (simp at *; omega)) (.met rfl rfl) rfl ?_
        refine C7    rfl rfl rfl (.met rfl rfl) rfl ?_
        refine Of rfl rfl (Aa     ?_)
        refine Si rfl ?_ ?_
        · intro c4
          refine Se rfl (Oa rfl (Oa rfl (Aa     ?_)))
          refine Ag    (.tmp rfl (.tmp rfl .nil)) ?_
          refine only rfl ?_
          have hf : Cr    s = false := by
            have := Gw        (p := E2   ) (show i < ds.length by omega) (by rw [Fk       ]; exact decide_eq_false (by omega))
            simp only [Cr   , hd]; grind
          rw [hf]; rfl
        intro c4
        refine Af     (Ah      rfl (Om rfl ?_))
        refine Or rfl rfl rfl ?_
        refine Om rfl (Om rfl ?_)
        refine Dg      rfl rfl rfl (by first | omega | exact Cb    (by assumption) (by decide) | (simp; done) | (simp; omega) | decide | (simp at *; omega)) .free rfl ?_
        refine Vp     (b := 48) rfl rfl (by omega) (by have := UInt8.toNat_lt (ds.getD i 0); omega) .free rfl ?_
        refine K6        rfl (by first | exact UInt8.toNat_lt _ | omega) .free rfl ?_
        refine Or rfl rfl rfl ?_
        refine Oa rfl (Aa     (Ak        (Ah      rfl (Om rfl ?_))))
        refine Or rfl rfl rfl ?_
        refine Oa rfl (Aa     ?_)
        refine Dr    (E' := [(4, .int .i64 sg), (5, .string (str ds)), (6, .int .i64 (E3        (ds.take (i + 1)) : Nat)), (7, .int .i64 ((i + 1 : Nat)))]) ⟨rfl, rfl, ?_, rfl, trivial⟩ (ih (i + 1) ⟨by omega, Ig       hall (by omega) (by rw [Fk       ]; exact decide_eq_true (by omega))⟩ (by omega))
        rw [H4             ds i (by omega)]
        rfl
      intro c3
      refine Bq     rfl ?_
      refine Se rfl (Om rfl (Om rfl ?_))
      refine O1      rfl rfl rfl (by rcases hsn with h | h <;> rw [h] <;> omega) .free rfl ?_
      refine Oa rfl (Oa rfl (Aa     ?_))
      refine Ag    (.tmp rfl (.tmp rfl .nil)) ?_
      refine only rfl ?_
      have hil : i = ds.length := by omega
      subst hil
      rw [List.take_length] at hall
      have ht : Cr    s = true := by simp only [Cr   , hd]; grind
      rw [ht, List.take_length, hsg]
      simp only [Sq    , hd, if_neg c1, cond_true]
      rfl
    intro c0
    refine Af     (Ab    (Ab    ?_))
    obtain ⟨sg, hsg, hsn⟩ : ∃ sg : Int, sg = (if (s.getD 0 0).toNat = 45 then -1 else 1) ∧ (sg = 1 ∨ sg = -1) := ⟨_, rfl, by split <;> simp⟩
    have hneg : (s.getD 0 0).toNat = 45 ∨ ¬ (s.getD 0 0).toNat = 45 := by omega
    refine Dr    (E' := [(0, .string (str s)), (4, .int .i64 sg), (5, .string (str (Ec     s)))]) (by
      first
        | (rw [show Ec     s = s.drop 1 from if_pos (by omega), show sg = -1 by rw [hsg, if_pos (by omega)]]; exact ⟨rfl, rfl, rfl, trivial⟩)
        | (have hn : ¬ (s.getD 0 0).toNat = 45 := by
             first | omega | (have h0 : s = [] := by cases s with
                                | nil => rfl
                                | cons => simp at *
                              rw [h0]; decide)
           rw [show Ec     s = s from if_neg hn, show sg = 1 by rw [hsg, if_neg hn]]; exact ⟨rfl, rfl, rfl, trivial⟩)) ?_
    generalize hd : Ec     s = ds at *
    refine Ah      rfl (Om rfl (Od rfl rfl rfl (Aa     ?_)))
    refine Si rfl ?_ ?_
    · intro c1
      refine Se rfl (Oa rfl (Oa rfl (Aa     ?_)))
      refine Ag    (.tmp rfl (.tmp rfl .nil)) ?_
      refine only rfl ?_
      rw [‹s = [48]›]; rfl
    intro c1
    refine Af     (Ab    (Se rfl (Om rfl ?_)))
    refine C2        rfl .free rfl ?_
    refine Ca rfl (Sd     ..) ?_
    rintro _ _ _ _ ⟨rfl, rfl, rfl⟩
    refine Dy    rfl .free rfl ?_
    refine Om rfl ?_
    first | refine F4   rfl rfl ?_ ?_ | refine Ek    rfl rfl ?_ ?_ | refine Kb  rfl rfl ?_ ?_
    · intro g8_5
      iterate 3 refine Ck     rfl rfl rfl ?_
      refine Ot rfl rfl (Aa     ?_)
      refine Cm     rfl ?_
      refine Se rfl (Oa rfl (Oa rfl (Aa     ?_)))
      refine Ag    (.tmp rfl (.tmp rfl .nil)) ?_
      refine only rfl ?_
      have hf : Cr    s = false := by simp only [Cr   , hd]; grind
      rw [hf]; rfl
    intro g8_5
    refine Ow rfl ?_
    refine Dg      (i := 0) rfl rfl rfl (by first | omega | exact Cb    (by assumption) (by decide) | (simp; done) | (simp; omega) | decide | (simp at *; omega)) (.met rfl rfl) rfl ?_
    refine C7    rfl rfl rfl (.met rfl rfl) rfl ?_
    refine Of rfl rfl (Aa     ?_)
    refine Si rfl ?_ ?_
    · intro c2
      refine Se rfl (Oa rfl (Oa rfl (Aa     ?_)))
      refine Ag    (.tmp rfl (.tmp rfl .nil)) ?_
      refine only rfl ?_
      have hf : Cr    s = false := by simp only [Cr   , hd]; grind
      rw [hf]; rfl
    intro c2
    refine Af     (Se rfl (Oa rfl (Aa     (Ab    (Se rfl (Oa rfl (Aa     (Ai      ?_))))))))
    have hl3 : ds.length ≤ 3 ∧ 1 ≤ ds.length := by grind
    refine Ct      (X := Nat) (fun i => ds.length - i) (fun i => [(4, .int .i64 sg), (5, .string (str ds)), (6, .int .i64 (E3        (ds.take i) : Nat)), (7, .int .i64 (i : Nat))]) (fun _ => I) (fun _ => L) (fun i => i ≤ ds.length ∧ (ds.take i).all E2    = true) 0 ⟨by omega, by simp⟩ ⟨rfl, rfl, rfl, rfl, trivial⟩ Bt    ?_
    rintro i ⟨hi, hall⟩ ih
    have hv := Iz            (ds.take i) (by simp; omega)
    refine Ab    (Se rfl (Om rfl (Om rfl ?_)))
    refine C2        rfl .free rfl ?_
    refine Oc rfl rfl rfl (Aa     ?_)
    refine Si rfl ?_ ?_
    · intro c3
      refine Af     (Ab    (Ai      (Ab    (Se rfl (Om rfl (Om rfl ?_))))))
      refine Dg      rfl rfl rfl (by first | omega | exact Cb    (by assumption) (by decide) | (simp; done) | (simp; omega) | decide | (simp at *; omega)) .free rfl ?_
      refine Oc rfl rfl rfl (Om rfl ?_)
      first | refine F4   rfl rfl ?_ ?_ | refine Ek    rfl rfl ?_ ?_ | refine Kb  rfl rfl ?_ ?_
      · intro g14_5
        iterate 4 refine Ck     rfl rfl rfl ?_
        refine Ot rfl rfl (Aa     ?_)
        refine Cm     rfl ?_
        refine Se rfl (Oa rfl (Oa rfl (Aa     ?_)))
        refine Ag    (.tmp rfl (.tmp rfl .nil)) ?_
        refine only rfl ?_
        have hf : Cr    s = false := by
          have := Gw        (p := E2   ) (show i < ds.length by omega) (by rw [Fk       ]; exact decide_eq_false (by omega))
          simp only [Cr   , hd]; grind
        rw [hf]; rfl
      intro g14_5
      refine Ow rfl (Ow rfl ?_)
      refine Dg      rfl rfl rfl (by first | omega | exact Cb    (by assumption) (by decide) | (simp; done) | (simp; omega) | decide | (simp at *; omega)) (.met rfl rfl) rfl ?_
      refine C7    rfl rfl rfl (.met rfl rfl) rfl ?_
      refine Of rfl rfl (Aa     ?_)
      refine Si rfl ?_ ?_
      · intro c4
        refine Se rfl (Oa rfl (Oa rfl (Aa     ?_)))
        refine Ag    (.tmp rfl (.tmp rfl .nil)) ?_
        refine only rfl ?_
        have hf : Cr    s = false := by
          have := Gw        (p := E2   ) (show i < ds.length by omega) (by rw [Fk       ]; exact decide_eq_false (by omega))
          simp only [Cr   , hd]; grind
        rw [hf]; rfl
      intro c4
      refine Af     (Ah      rfl (Om rfl ?_))
      refine Or rfl rfl rfl ?_
      refine Om rfl (Om rfl ?_)
      refine Dg      rfl rfl rfl (by first | omega | exact Cb    (by assumption) (by decide) | (simp; done) | (simp; omega) | decide | (simp at *; omega)) .free rfl ?_
      refine Vp     (b := 48) rfl rfl (by omega) (by have := UInt8.toNat_lt (ds.getD i 0); omega) .free rfl ?_
      refine K6        rfl (by first | exact UInt8.toNat_lt _ | omega) .free rfl ?_
      refine Or rfl rfl rfl ?_
      refine Oa rfl (Aa     (Ak        (Ah      rfl (Om rfl ?_))))
      refine Or rfl rfl rfl ?_
      refine Oa rfl (Aa     ?_)
      refine Dr    (E' := [(4, .int .i64 sg), (5, .string (str ds)), (6, .int .i64 (E3        (ds.take (i + 1)) : Nat)), (7, .int .i64 ((i + 1 : Nat)))]) ⟨rfl, rfl, ?_, rfl, trivial⟩ (ih (i + 1) ⟨by omega, Ig       hall (by omega) (by rw [Fk       ]; exact decide_eq_true (by omega))⟩ (by omega))
      rw [H4             ds i (by omega)]
      rfl
    intro c3
    refine Bq     rfl ?_
    refine Se rfl (Om rfl (Om rfl ?_))
    refine O1      rfl rfl rfl (by rcases hsn with h | h <;> rw [h] <;> omega) .free rfl ?_
    refine Oa rfl (Oa rfl (Aa     ?_))
    refine Ag    (.tmp rfl (.tmp rfl .nil)) ?_
    refine only rfl ?_
    have hil : i = ds.length := by omega
    subst hil
    rw [List.take_length] at hall
    have ht : Cr    s = true := by simp only [Cr   , hd]; grind
    rw [ht, List.take_length, hsg]
    simp only [Sq    , hd, if_neg c1, cond_true]
    rfl
  intro g3_4
  iterate 3 refine Ck     rfl rfl rfl ?_
  refine Of rfl rfl (Aa     ?_)
  refine A8      rfl ?_
  refine Af     (Ab    (Ab    ?_))
  obtain ⟨sg, hsg, hsn⟩ : ∃ sg : Int, sg = (if (s.getD 0 0).toNat = 45 then -1 else 1) ∧ (sg = 1 ∨ sg = -1) := ⟨_, rfl, by split <;> simp⟩
  have hneg : (s.getD 0 0).toNat = 45 ∨ ¬ (s.getD 0 0).toNat = 45 := by omega
  refine Dr    (E' := [(0, .string (str s)), (4, .int .i64 sg), (5, .string (str (Ec     s)))]) (by
    first
      | (rw [show Ec     s = s.drop 1 from if_pos (by omega), show sg = -1 by rw [hsg, if_pos (by omega)]]; exact ⟨rfl, rfl, rfl, trivial⟩)
      | (have hn : ¬ (s.getD 0 0).toNat = 45 := by
           first | omega | (have h0 : s = [] := by cases s with
                              | nil => rfl
                              | cons => simp at *
                            rw [h0]; decide)
         rw [show Ec     s = s from if_neg hn, show sg = 1 by rw [hsg, if_neg hn]]; exact ⟨rfl, rfl, rfl, trivial⟩)) ?_
  generalize hd : Ec     s = ds at *
  refine Ah      rfl (Om rfl (Od rfl rfl rfl (Aa     ?_)))
  refine Si rfl ?_ ?_
  · intro c1
    refine Se rfl (Oa rfl (Oa rfl (Aa     ?_)))
    refine Ag    (.tmp rfl (.tmp rfl .nil)) ?_
    refine only rfl ?_
    rw [‹s = [48]›]; rfl
  intro c1
  refine Af     (Ab    (Se rfl (Om rfl ?_)))
  refine C2        rfl .free rfl ?_
  refine Ca rfl (Sd     ..) ?_
  rintro _ _ _ _ ⟨rfl, rfl, rfl⟩
  refine Dy    rfl .free rfl ?_
  refine Om rfl ?_
  first | refine F4   rfl rfl ?_ ?_ | refine Ek    rfl rfl ?_ ?_ | refine Kb  rfl rfl ?_ ?_
  · intro g8_5
    iterate 3 refine Ck     rfl rfl rfl ?_
    refine Ot rfl rfl (Aa     ?_)
    refine Cm     rfl ?_
    refine Se rfl (Oa rfl (Oa rfl (Aa     ?_)))
    refine Ag    (.tmp rfl (.tmp rfl .nil)) ?_
    refine only rfl ?_
    have hf : Cr    s = false := by simp only [Cr   , hd]; grind
    rw [hf]; rfl
  intro g8_5
  refine Ow rfl ?_
  refine Dg      (i := 0) rfl rfl rfl (by first | omega | exact Cb    (by assumption) (by decide) | (simp; done) | (simp; omega) | decide | (simp at *; omega)) (.met rfl rfl) rfl ?_
  refine C7    rfl rfl rfl (.met rfl rfl) rfl ?_
  refine Of rfl rfl (Aa     ?_)
  refine Si rfl ?_ ?_
  · intro c2
    refine Se rfl (Oa rfl (Oa rfl (Aa     ?_)))
    refine Ag    (.tmp rfl (.tmp rfl .nil)) ?_
    refine only rfl ?_
    have hf : Cr    s = false := by simp only [Cr   , hd]; grind
    rw [hf]; rfl
  intro c2
  refine Af     (Se rfl (Oa rfl (Aa     (Ab    (Se rfl (Oa rfl (Aa     (Ai      ?_))))))))
  have hl3 : ds.length ≤ 3 ∧ 1 ≤ ds.length := by grind
  refine Ct      (X := Nat) (fun i => ds.length - i) (fun i => [(4, .int .i64 sg), (5, .string (str ds)), (6, .int .i64 (E3        (ds.take i) : Nat)), (7, .int .i64 (i : Nat))]) (fun _ => I) (fun _ => L) (fun i => i ≤ ds.length ∧ (ds.take i).all E2    = true) 0 ⟨by omega, by simp⟩ ⟨rfl, rfl, rfl, rfl, trivial⟩ Bt    ?_
  rintro i ⟨hi, hall⟩ ih
  have hv := Iz            (ds.take i) (by simp; omega)
  refine Ab    (Se rfl (Om rfl (Om rfl ?_)))
  refine C2        rfl .free rfl ?_
  refine Oc rfl rfl rfl (Aa     ?_)
  refine Si rfl ?_ ?_
  · intro c3
    refine Af     (Ab    (Ai      (Ab    (Se rfl (Om rfl (Om rfl ?_))))))
    refine Dg      rfl rfl rfl (by first | omega | exact Cb    (by assumption) (by decide) | (simp; done) | (simp; omega) | decide | (simp at *; omega)) .free rfl ?_
    refine Oc rfl rfl rfl (Om rfl ?_)
    first | refine F4   rfl rfl ?_ ?_ | refine Ek    rfl rfl ?_ ?_ | refine Kb  rfl rfl ?_ ?_
    · intro g14_5
      iterate 4 refine Ck     rfl rfl rfl ?_
      refine Ot rfl rfl (Aa     ?_)
      refine Cm     rfl ?_
      refine Se rfl (Oa rfl (Oa rfl (Aa     ?_)))
      refine Ag    (.tmp rfl (.tmp rfl .nil)) ?_
      refine only rfl ?_
      have hf : Cr    s = false := by
        have := Gw        (p := E2   ) (show i < ds.length by omega) (by rw [Fk       ]; exact decide_eq_false (by omega))
        simp only [Cr   , hd]; grind
      rw [hf]; rfl
    intro g14_5
    refine Ow rfl (Ow rfl ?_)
    refine Dg      rfl rfl rfl (by first | omega | exact Cb    (by assumption) (by decide) | (simp; done) | (simp; omega) | decide | (simp at *; omega)) (.met rfl rfl) rfl ?_
    refine C7    rfl rfl rfl (.met rfl rfl) rfl ?_
    refine Of rfl rfl (Aa     ?_)
    refine Si rfl ?_ ?_
    · intro c4
      refine Se rfl (Oa rfl (Oa rfl (Aa     ?_)))
      refine Ag    (.tmp rfl (.tmp rfl .nil)) ?_
      refine only rfl ?_
      have hf : Cr    s = false := by
        have := Gw        (p := E2   ) (show i < ds.length by omega) (by rw [Fk       ]; exact decide_eq_false (by omega))
        simp only [Cr   , hd]; grind
      rw [hf]; rfl
    intro c4
    refine Af     (Ah      rfl (Om rfl ?_))
    refine Or rfl rfl rfl ?_
    refine Om rfl (Om rfl ?_)
    refine Dg      rfl rfl rfl (by first | omega | exact Cb    (by assumption) (by decide) | (simp; done) | (simp; omega) | decide | (simp at *; omega)) .free rfl ?_
    refine Vp     (b := 48) rfl rfl (by omega) (by have := UInt8.toNat_lt (ds.getD i 0); omega) .free rfl ?_
    refine K6        rfl (by first | exact UInt8.toNat_lt _ | omega) .free rfl ?_
    refine Or rfl rfl rfl ?_
    refine Oa rfl (Aa     (Ak        (Ah      rfl (Om rfl ?_))))
    refine Or rfl rfl rfl ?_
    refine Oa rfl (Aa     ?_)
    refine Dr    (E' := [(4, .int .i64 sg), (5, .string (str ds)), (6, .int .i64 (E3        (ds.take (i + 1)) : Nat)), (7, .int .i64 ((i + 1 : Nat)))]) ⟨rfl, rfl, ?_, rfl, trivial⟩ (ih (i + 1) ⟨by omega, Ig       hall (by omega) (by rw [Fk       ]; exact decide_eq_true (by omega))⟩ (by omega))
    rw [H4             ds i (by omega)]
    rfl
  intro c3
  refine Bq     rfl ?_
  refine Se rfl (Om rfl (Om rfl ?_))
  refine O1      rfl rfl rfl (by rcases hsn with h | h <;> rw [h] <;> omega) .free rfl ?_
  refine Oa rfl (Oa rfl (Aa     ?_))
  refine Ag    (.tmp rfl (.tmp rfl .nil)) ?_
  refine only rfl ?_
  have hil : i = ds.length := by omega
  subst hil
  rw [List.take_length] at hall
  have ht : Cr    s = true := by simp only [Cr   , hd]; grind
  rw [ht, List.take_length, hsg]
  simp only [Sq    , hd, if_neg c1, cond_true]
  rfl
set_option maxRecDepth 100000
set_option linter.unusedVariables false
set_option linter.unusedSimpArgs false

def D8 : Am := [99, 97, 108, 108]
def D2 : Am := [112, 97, 105, 114]
def E9 : Am := [105, 102]
def Cw : Am := [108, 101, 116]
def Cq : Am := [102, 117, 110]
def Fp : Am := [102, 115, 116]
def Fq : Am := [115, 110, 100]
def Ar (h : Am) : Nat × Nat :=
 if h = [43] ∨ h = [45] ∨ h = [42] ∨ h = D8 ∨ h = D2 then (1, 3) else if h = E9 then (1, 4) else if h = Cw then (2, 4) else if h = Cq then (5, 6) else if h = Fp ∨ h = Fq then (1, 2) else (0, 0)
def KR (h : Am) (I : Heap) (L : Bc) : C3 := D1 (.tuple #[.int .i64 ((Ar h).1 : Nat), .int .i64 ((Ar h).2 : Nat)]) I L
theorem H8       (h : Am ) (I : Heap) (L : Bc ) : Fun Tryz.prog 60 [.string (str h)] I L (KR h I L) := by
  refine Aj        (by simp) ?_
  refine Se rfl (Oa rfl (Oa rfl (Aa     (Ab    (Se rfl (Om rfl (Aa     (Ai      (Ab    (Se rfl (Od rfl rfl rfl (Oa rfl (Aa     ?_)))))))))))))
  refine Si rfl ?_ ?_
  · intro c0
    refine Af     ?_
    first | refine St rfl (by first | assumption | omega) ?_ | refine Cm     (by simp [Bu  , Bo , *]) ?_
    refine Se rfl (Oa rfl (Oa rfl (Aa     ?_)))
    refine Ag    (.tmp rfl (.tmp rfl .nil)) ?_
    refine only rfl ?_
    first
      | (subst_vars; rfl)
      | (have e : Ar       h = (0, 0) := by unfold Ar       D8    D2    E9  Cw   Cq   Fp   Fq  ; simp [*]
         rw [e]; rfl)
  intro c0
  refine Se rfl (Od rfl rfl rfl (Oa rfl (Aa     ?_)))
  refine Si rfl ?_ ?_
  · intro c1
    refine Af     ?_
    first | refine St rfl (by first | assumption | omega) ?_ | refine Cm     (by simp [Bu  , Bo , *]) ?_
    refine Se rfl (Oa rfl (Oa rfl (Aa     ?_)))
    refine Ag    (.tmp rfl (.tmp rfl .nil)) ?_
    refine only rfl ?_
    first
      | (subst_vars; rfl)
      | (have e : Ar       h = (0, 0) := by unfold Ar       D8    D2    E9  Cw   Cq   Fp   Fq  ; simp [*]
         rw [e]; rfl)
  intro c1
  refine Se rfl (Od rfl rfl rfl (Oa rfl (Aa     ?_)))
  refine Si rfl ?_ ?_
  · intro c2
    refine Af     ?_
    first | refine St rfl (by first | assumption | omega) ?_ | refine Cm     (by simp [Bu  , Bo , *]) ?_
    refine Se rfl (Oa rfl (Oa rfl (Aa     ?_)))
    refine Ag    (.tmp rfl (.tmp rfl .nil)) ?_
    refine only rfl ?_
    first
      | (subst_vars; rfl)
      | (have e : Ar       h = (0, 0) := by unfold Ar       D8    D2    E9  Cw   Cq   Fp   Fq  ; simp [*]
         rw [e]; rfl)
  intro c2
  refine Se rfl (Od rfl rfl rfl (Oa rfl (Aa     ?_)))
  refine Si rfl ?_ ?_
  · intro c3
    refine Af     ?_
    first | refine St rfl (by first | assumption | omega) ?_ | refine Cm     (by simp [Bu  , Bo , *]) ?_
    refine Se rfl (Oa rfl (Oa rfl (Aa     ?_)))
    refine Ag    (.tmp rfl (.tmp rfl .nil)) ?_
    refine only rfl ?_
    first
      | (subst_vars; rfl)
      | (have e : Ar       h = (0, 0) := by unfold Ar       D8    D2    E9  Cw   Cq   Fp   Fq  ; simp [*]
         rw [e]; rfl)
  intro c3
  refine Ah      rfl (Od rfl rfl rfl (Oa rfl (Aa     ?_)))
  refine Si rfl ?_ ?_
  · intro c4
    refine Se rfl (Oa rfl (Oa rfl (Aa     ?_)))
    refine Ag    (.tmp rfl (.tmp rfl .nil)) ?_
    refine only rfl ?_
    first
      | (subst_vars; rfl)
      | (have e : Ar       h = (0, 0) := by unfold Ar       D8    D2    E9  Cw   Cq   Fp   Fq  ; simp [*]
         rw [e]; rfl)
  intro c4
  refine Se rfl (Od rfl rfl rfl (Oa rfl (Aa     ?_)))
  refine Si rfl ?_ ?_
  · intro c5
    refine Se rfl (Oa rfl (Oa rfl (Aa     ?_)))
    refine Ag    (.tmp rfl (.tmp rfl .nil)) ?_
    refine only rfl ?_
    first
      | (subst_vars; rfl)
      | (have e : Ar       h = (0, 0) := by unfold Ar       D8    D2    E9  Cw   Cq   Fp   Fq  ; simp [*]
         rw [e]; rfl)
  intro c5
  refine Se rfl (Od rfl rfl rfl (Oa rfl (Aa     ?_)))
  refine Si rfl ?_ ?_
  · intro c6
    refine Se rfl (Oa rfl (Oa rfl (Aa     ?_)))
    refine Ag    (.tmp rfl (.tmp rfl .nil)) ?_
    refine only rfl ?_
    first
      | (subst_vars; rfl)
      | (have e : Ar       h = (0, 0) := by unfold Ar       D8    D2    E9  Cw   Cq   Fp   Fq  ; simp [*]
         rw [e]; rfl)
  intro c6
  refine Se rfl (Od rfl rfl rfl (Oa rfl (Aa     ?_)))
  refine Si rfl ?_ ?_
  · intro c7
    refine Se rfl (Oa rfl (Oa rfl (Aa     ?_)))
    refine Ag    (.tmp rfl (.tmp rfl .nil)) ?_
    refine only rfl ?_
    first
      | (subst_vars; rfl)
      | (have e : Ar       h = (0, 0) := by unfold Ar       D8    D2    E9  Cw   Cq   Fp   Fq  ; simp [*]
         rw [e]; rfl)
  intro c7
  refine Ab    (Se rfl (Od rfl rfl rfl (Oa rfl (Aa     ?_))))
  refine Si rfl ?_ ?_
  · intro c8
    refine Af     ?_
    first | refine St rfl (by first | assumption | omega) ?_ | refine Cm     (by simp [Bu  , Bo , *]) ?_
    refine Se rfl (Oa rfl (Oa rfl (Aa     ?_)))
    refine Ag    (.tmp rfl (.tmp rfl .nil)) ?_
    refine only rfl ?_
    first
      | (subst_vars; rfl)
      | (have e : Ar       h = (0, 0) := by unfold Ar       D8    D2    E9  Cw   Cq   Fp   Fq  ; simp [*]
         rw [e]; rfl)
  intro c8
  refine Ah      rfl (Od rfl rfl rfl (Oa rfl (Aa     ?_)))
  refine Si rfl ?_ ?_
  · intro c9
    refine Se rfl (Oa rfl (Oa rfl (Aa     ?_)))
    refine Ag    (.tmp rfl (.tmp rfl .nil)) ?_
    refine only rfl ?_
    first
      | (subst_vars; rfl)
      | (have e : Ar       h = (0, 0) := by unfold Ar       D8    D2    E9  Cw   Cq   Fp   Fq  ; simp [*]
         rw [e]; rfl)
  intro c9
  refine Af     (Ak        (Se rfl (Oa rfl (Oa rfl (Aa     ?_)))))
  refine Ag    (.tmp rfl (.tmp rfl .nil)) ?_
  refine only rfl ?_
  first
    | (subst_vars; rfl)
    | (have e : Ar       h = (0, 0) := by unfold Ar       D8    D2    E9  Cw   Cq   Fp   Fq  ; simp [*]
       rw [e]; rfl)

def Cv (t : Tree) : List Nat := if t.parts.length = (Ar t.head).2 then List.range' (Ar t.head).1 ((Ar t.head).2 - (Ar t.head).1) else []
def nv (n : Nat) : Value := .int .i64 (n : Nat)
structure Nums (I : Heap) (oa : Option Addr) (l : List Nat) (c : Nat) : Prop where
 still : ∀ x, oa = some x → Still I x (l.map nv)
 nil : oa = none → l = []
 cap : l.length ≤ c
theorem Nums.mono {I I' : Heap} {oa : Option Addr} {l : List Nat} {c : Nat} (hle : HLe I I') (h : Nums I oa l c) : Nums I' oa l c := ⟨fun x hx => (h.still x hx).mono hle, h.nil, h.cap⟩
theorem Nums.at {I : Heap} {oa : Option Addr} {l : List Nat} {c : Nat} (h : Nums I oa l c) (i : Nat) (hi : i < l.length) : ∃ x, oa = some x ∧ Still I (x.add (i * 1)) [.int .i64 (l[i] : Nat)] := by
 cases oa with
 | none => have := h.nil rfl; subst this; simp at hi
 | some x =>
  refine ⟨x, rfl, (h.still x rfl).part (i * 1) ?_⟩; intro j hj; obtain rfl : j = 0 := by simpa using hj
  simp [hi, nv]
theorem Y5 {I : Heap} {b : Nat} {l : List Nat} {e : TypeId} : Nums (I.set b (.cells (l.map nv).toArray e (0, 0))) (some ⟨b, 0, none⟩) l l.length :=
 ⟨fun y hy => by cases hy; simpa using Ax (xs := l.map nv) (ys := []), by simp, Nat.le_refl _⟩
def KD (l : List Nat) (L : Bc) : C3 := fun v I' L' => ∃ oa c, v = .slice oa (List.length l) c ∧ Nums I' oa l c ∧ L = L'
theorem Iv {I : Heap} {b : Nat} {l m : List Nat} {e : TypeId} {L : Bc} (h : l = m) : KD m L (.slice (some ⟨b, 0, none⟩) l.length l.length) (I.set b (.cells (l.map nv).toArray e (0, 0))) L := by
 subst h; exact ⟨_, _, rfl, Y5, rfl⟩
theorem B9          {I : Heap} {t : Tree} {cs : List Value} (h : Rep I t cs) (L : Bc ) : Fun Tryz.prog 42 [.agg cs.toArray] I L (KD (Cv   t) L) := by
  obtain ⟨oa, c, vs, rfl, hrl, hs, hn, hc, ha, hp⟩ := h.open
  unfold Ap   at hp
  refine Aj        (by simp) ?_
  refine Se rfl ?_
  refine Cc    rfl rfl .free rfl ?_
  intro b1
  refine Oa rfl (Aa     (Ab    (Se rfl ?_)))
  refine Cp   rfl .free rfl ?_
  refine Ca rfl (Bk          h _) ?_
  rintro _ _ _ _ ⟨rfl, rfl, rfl⟩
  refine Aa     (Ai      (Ab    (Se rfl (Od rfl rfl rfl (Oa rfl (Aa     ?_))))))
  refine Si rfl ?_ ?_
  · intro c0
    refine Af     ?_
    first | refine St rfl (by first | assumption | omega) ?_ | refine Cm     (by simp [Bu  , Bo , *]) ?_
    refine Se rfl ?_
    first | refine Oh rfl ?_ | refine Oj rfl ?_
    refine Cp   rfl .free rfl ?_
    refine On rfl (Oc rfl rfl rfl (Aa     ?_))
    refine Si rfl ?_ ?_
    · intro c5
      refine Se rfl ?_
      refine Ol rfl rfl ?_
      intro b15
      refine Oa rfl (Aa     ?_)
      refine Bx       ?_
      intro hz
      refine Ag    (.tmp rfl .nil) ?_
      refine ⟨_, L, hz, fun _ h => h.drop, Iv     (l := [1, 2]) ?_⟩
      have hl : t.parts.length = 3 := by omega
      unfold Cv   Ar       D8    D2    E9  Cw   Cq   Fp   Fq  
      simp only [*, true_or, or_true, or_false, false_or, if_true, if_false]
      rfl
    intro c5
    refine Af     (Ak        (Se rfl (Oa rfl (Aa     (Ag    (.tmp rfl .nil) ?_)))))
    have hk : Cv   t = [] := by
      unfold Cv   Ar       D8    D2    E9  Cw   Cq   Fp   Fq  
      first
        | (have hl : ¬ t.parts.length = 3 := by omega
           simp [*]; done)
        | (have hl : ¬ t.parts.length = 4 := by omega
           simp [*]; done)
        | (have hl : ¬ t.parts.length = 6 := by omega
           simp [*]; done)
        | (have hl : ¬ t.parts.length = 2 := by omega
           simp [*]; done)
        | (simp [*]; done)
    exact ⟨I, L, .refl _, fun _ h => h.drop, none, 0, by rw [hk]; rfl, ⟨by simp, fun _ => hk, by rw [hk]; simp⟩, rfl⟩
  intro c0
  refine Se rfl (Od rfl rfl rfl (Oa rfl (Aa     ?_)))
  refine Si rfl ?_ ?_
  · intro c1
    refine Af     ?_
    first | refine St rfl (by first | assumption | omega) ?_ | refine Cm     (by simp [Bu  , Bo , *]) ?_
    refine Se rfl ?_
    first | refine Oh rfl ?_ | refine Oj rfl ?_
    refine Cp   rfl .free rfl ?_
    refine On rfl (Oc rfl rfl rfl (Aa     ?_))
    refine Si rfl ?_ ?_
    · intro c5
      refine Se rfl ?_
      refine Ol rfl rfl ?_
      intro b15
      refine Oa rfl (Aa     ?_)
      refine Bx       ?_
      intro hz
      refine Ag    (.tmp rfl .nil) ?_
      refine ⟨_, L, hz, fun _ h => h.drop, Iv     (l := [1, 2]) ?_⟩
      have hl : t.parts.length = 3 := by omega
      unfold Cv   Ar       D8    D2    E9  Cw   Cq   Fp   Fq  
      simp only [*, true_or, or_true, or_false, false_or, if_true, if_false]
      rfl
    intro c5
    refine Af     (Ak        (Se rfl (Oa rfl (Aa     (Ag    (.tmp rfl .nil) ?_)))))
    have hk : Cv   t = [] := by
      unfold Cv   Ar       D8    D2    E9  Cw   Cq   Fp   Fq  
      first
        | (have hl : ¬ t.parts.length = 3 := by omega
           simp [*]; done)
        | (have hl : ¬ t.parts.length = 4 := by omega
           simp [*]; done)
        | (have hl : ¬ t.parts.length = 6 := by omega
           simp [*]; done)
        | (have hl : ¬ t.parts.length = 2 := by omega
           simp [*]; done)
        | (simp [*]; done)
    exact ⟨I, L, .refl _, fun _ h => h.drop, none, 0, by rw [hk]; rfl, ⟨by simp, fun _ => hk, by rw [hk]; simp⟩, rfl⟩
  intro c1
  refine Se rfl (Od rfl rfl rfl (Oa rfl (Aa     ?_)))
  refine Si rfl ?_ ?_
  · intro c2
    refine Af     ?_
    first | refine St rfl (by first | assumption | omega) ?_ | refine Cm     (by simp [Bu  , Bo , *]) ?_
    refine Se rfl ?_
    first | refine Oh rfl ?_ | refine Oj rfl ?_
    refine Cp   rfl .free rfl ?_
    refine On rfl (Oc rfl rfl rfl (Aa     ?_))
    refine Si rfl ?_ ?_
    · intro c5
      refine Se rfl ?_
      refine Ol rfl rfl ?_
      intro b15
      refine Oa rfl (Aa     ?_)
      refine Bx       ?_
      intro hz
      refine Ag    (.tmp rfl .nil) ?_
      refine ⟨_, L, hz, fun _ h => h.drop, Iv     (l := [1, 2]) ?_⟩
      have hl : t.parts.length = 3 := by omega
      unfold Cv   Ar       D8    D2    E9  Cw   Cq   Fp   Fq  
      simp only [*, true_or, or_true, or_false, false_or, if_true, if_false]
      rfl
    intro c5
    refine Af     (Ak        (Se rfl (Oa rfl (Aa     (Ag    (.tmp rfl .nil) ?_)))))
    have hk : Cv   t = [] := by
      unfold Cv   Ar       D8    D2    E9  Cw   Cq   Fp   Fq  
      first
        | (have hl : ¬ t.parts.length = 3 := by omega
           simp [*]; done)
        | (have hl : ¬ t.parts.length = 4 := by omega
           simp [*]; done)
        | (have hl : ¬ t.parts.length = 6 := by omega
           simp [*]; done)
        | (have hl : ¬ t.parts.length = 2 := by omega
           simp [*]; done)
        | (simp [*]; done)
    exact ⟨I, L, .refl _, fun _ h => h.drop, none, 0, by rw [hk]; rfl, ⟨by simp, fun _ => hk, by rw [hk]; simp⟩, rfl⟩
  intro c2
  refine Se rfl (Od rfl rfl rfl (Oa rfl (Aa     ?_)))
  refine Si rfl ?_ ?_
  · intro c3
    refine Af     ?_
    first | refine St rfl (by first | assumption | omega) ?_ | refine Cm     (by simp [Bu  , Bo , *]) ?_
    refine Se rfl ?_
    first | refine Oh rfl ?_ | refine Oj rfl ?_
    refine Cp   rfl .free rfl ?_
    refine On rfl (Oc rfl rfl rfl (Aa     ?_))
    refine Si rfl ?_ ?_
    · intro c5
      refine Se rfl ?_
      refine Ol rfl rfl ?_
      intro b15
      refine Oa rfl (Aa     ?_)
      refine Bx       ?_
      intro hz
      refine Ag    (.tmp rfl .nil) ?_
      refine ⟨_, L, hz, fun _ h => h.drop, Iv     (l := [1, 2]) ?_⟩
      have hl : t.parts.length = 3 := by omega
      unfold Cv   Ar       D8    D2    E9  Cw   Cq   Fp   Fq  
      simp only [*, true_or, or_true, or_false, false_or, if_true, if_false]
      rfl
    intro c5
    refine Af     (Ak        (Se rfl (Oa rfl (Aa     (Ag    (.tmp rfl .nil) ?_)))))
    have hk : Cv   t = [] := by
      unfold Cv   Ar       D8    D2    E9  Cw   Cq   Fp   Fq  
      first
        | (have hl : ¬ t.parts.length = 3 := by omega
           simp [*]; done)
        | (have hl : ¬ t.parts.length = 4 := by omega
           simp [*]; done)
        | (have hl : ¬ t.parts.length = 6 := by omega
           simp [*]; done)
        | (have hl : ¬ t.parts.length = 2 := by omega
           simp [*]; done)
        | (simp [*]; done)
    exact ⟨I, L, .refl _, fun _ h => h.drop, none, 0, by rw [hk]; rfl, ⟨by simp, fun _ => hk, by rw [hk]; simp⟩, rfl⟩
  intro c3
  refine Ah      rfl (Od rfl rfl rfl (Oa rfl (Aa     ?_)))
  refine Si rfl ?_ ?_
  · intro c4
    refine Se rfl ?_
    first | refine Oh rfl ?_ | refine Oj rfl ?_
    refine Cp   rfl .free rfl ?_
    refine On rfl (Oc rfl rfl rfl (Aa     ?_))
    refine Si rfl ?_ ?_
    · intro c5
      refine Se rfl ?_
      refine Ol rfl rfl ?_
      intro b15
      refine Oa rfl (Aa     ?_)
      refine Bx       ?_
      intro hz
      refine Ag    (.tmp rfl .nil) ?_
      refine ⟨_, L, hz, fun _ h => h.drop, Iv     (l := [1, 2]) ?_⟩
      have hl : t.parts.length = 3 := by omega
      unfold Cv   Ar       D8    D2    E9  Cw   Cq   Fp   Fq  
      simp only [*, true_or, or_true, or_false, false_or, if_true, if_false]
      rfl
    intro c5
    refine Af     (Ak        (Se rfl (Oa rfl (Aa     (Ag    (.tmp rfl .nil) ?_)))))
    have hk : Cv   t = [] := by
      unfold Cv   Ar       D8    D2    E9  Cw   Cq   Fp   Fq  
      first
        | (have hl : ¬ t.parts.length = 3 := by omega
           simp [*]; done)
        | (have hl : ¬ t.parts.length = 4 := by omega
           simp [*]; done)
        | (have hl : ¬ t.parts.length = 6 := by omega
           simp [*]; done)
        | (have hl : ¬ t.parts.length = 2 := by omega
           simp [*]; done)
        | (simp [*]; done)
    exact ⟨I, L, .refl _, fun _ h => h.drop, none, 0, by rw [hk]; rfl, ⟨by simp, fun _ => hk, by rw [hk]; simp⟩, rfl⟩
  intro c4
  refine Se rfl (Od rfl rfl rfl (Oa rfl (Aa     ?_)))
  refine Si rfl ?_ ?_
  · intro c6
    refine Se rfl ?_
    first | refine Oh rfl ?_ | refine Oj rfl ?_
    refine Cp   rfl .free rfl ?_
    refine On rfl (Oc rfl rfl rfl (Aa     ?_))
    refine Si rfl ?_ ?_
    · intro c7
      refine Se rfl ?_
      refine Ol rfl rfl ?_
      intro b22
      refine Oa rfl (Aa     ?_)
      refine Bx       ?_
      intro hz
      refine Ag    (.tmp rfl .nil) ?_
      refine ⟨_, L, hz, fun _ h => h.drop, Iv     (l := [1, 2, 3]) ?_⟩
      have hl : t.parts.length = 4 := by omega
      unfold Cv   Ar       D8    D2    E9  Cw   Cq   Fp   Fq  
      simp only [*, true_or, or_true, or_false, false_or, if_true, if_false]
      rfl
    intro c7
    refine Af     (Ak        (Se rfl (Oa rfl (Aa     (Ag    (.tmp rfl .nil) ?_)))))
    have hk : Cv   t = [] := by
      unfold Cv   Ar       D8    D2    E9  Cw   Cq   Fp   Fq  
      first
        | (have hl : ¬ t.parts.length = 3 := by omega
           simp [*]; done)
        | (have hl : ¬ t.parts.length = 4 := by omega
           simp [*]; done)
        | (have hl : ¬ t.parts.length = 6 := by omega
           simp [*]; done)
        | (have hl : ¬ t.parts.length = 2 := by omega
           simp [*]; done)
        | (simp [*]; done)
    exact ⟨I, L, .refl _, fun _ h => h.drop, none, 0, by rw [hk]; rfl, ⟨by simp, fun _ => hk, by rw [hk]; simp⟩, rfl⟩
  intro c6
  refine Se rfl (Od rfl rfl rfl (Oa rfl (Aa     ?_)))
  refine Si rfl ?_ ?_
  · intro c8
    refine Se rfl ?_
    first | refine Oh rfl ?_ | refine Oj rfl ?_
    refine Cp   rfl .free rfl ?_
    refine On rfl (Oc rfl rfl rfl (Aa     ?_))
    refine Si rfl ?_ ?_
    · intro c9
      refine Se rfl ?_
      refine Ol rfl rfl ?_
      intro b29
      refine Oa rfl (Aa     ?_)
      refine Bx       ?_
      intro hz
      refine Ag    (.tmp rfl .nil) ?_
      refine ⟨_, L, hz, fun _ h => h.drop, Iv     (l := [2, 3]) ?_⟩
      have hl : t.parts.length = 4 := by omega
      unfold Cv   Ar       D8    D2    E9  Cw   Cq   Fp   Fq  
      simp only [*, true_or, or_true, or_false, false_or, if_true, if_false]
      rfl
    intro c9
    refine Af     (Ak        (Se rfl (Oa rfl (Aa     (Ag    (.tmp rfl .nil) ?_)))))
    have hk : Cv   t = [] := by
      unfold Cv   Ar       D8    D2    E9  Cw   Cq   Fp   Fq  
      first
        | (have hl : ¬ t.parts.length = 3 := by omega
           simp [*]; done)
        | (have hl : ¬ t.parts.length = 4 := by omega
           simp [*]; done)
        | (have hl : ¬ t.parts.length = 6 := by omega
           simp [*]; done)
        | (have hl : ¬ t.parts.length = 2 := by omega
           simp [*]; done)
        | (simp [*]; done)
    exact ⟨I, L, .refl _, fun _ h => h.drop, none, 0, by rw [hk]; rfl, ⟨by simp, fun _ => hk, by rw [hk]; simp⟩, rfl⟩
  intro c8
  refine Se rfl (Od rfl rfl rfl (Oa rfl (Aa     ?_)))
  refine Si rfl ?_ ?_
  · intro c10
    refine Se rfl ?_
    first | refine Oh rfl ?_ | refine Oj rfl ?_
    refine Cp   rfl .free rfl ?_
    refine On rfl (Oc rfl rfl rfl (Aa     ?_))
    refine Si rfl ?_ ?_
    · intro c11
      refine Se rfl ?_
      refine Ol rfl rfl ?_
      intro b36
      refine Oa rfl (Aa     ?_)
      refine Bx       ?_
      intro hz
      refine Ag    (.tmp rfl .nil) ?_
      refine ⟨_, L, hz, fun _ h => h.drop, Iv     (l := [5]) ?_⟩
      have hl : t.parts.length = 6 := by omega
      unfold Cv   Ar       D8    D2    E9  Cw   Cq   Fp   Fq  
      simp only [*, true_or, or_true, or_false, false_or, if_true, if_false]
      rfl
    intro c11
    refine Af     (Ak        (Se rfl (Oa rfl (Aa     (Ag    (.tmp rfl .nil) ?_)))))
    have hk : Cv   t = [] := by
      unfold Cv   Ar       D8    D2    E9  Cw   Cq   Fp   Fq  
      first
        | (have hl : ¬ t.parts.length = 3 := by omega
           simp [*]; done)
        | (have hl : ¬ t.parts.length = 4 := by omega
           simp [*]; done)
        | (have hl : ¬ t.parts.length = 6 := by omega
           simp [*]; done)
        | (have hl : ¬ t.parts.length = 2 := by omega
           simp [*]; done)
        | (simp [*]; done)
    exact ⟨I, L, .refl _, fun _ h => h.drop, none, 0, by rw [hk]; rfl, ⟨by simp, fun _ => hk, by rw [hk]; simp⟩, rfl⟩
  intro c10
  refine Ab    (Se rfl (Od rfl rfl rfl (Oa rfl (Aa     ?_))))
  refine Si rfl ?_ ?_
  · intro c12
    refine Af     ?_
    first | refine St rfl (by first | assumption | omega) ?_ | refine Cm     (by simp [Bu  , Bo , *]) ?_
    refine Se rfl ?_
    first | refine Oh rfl ?_ | refine Oj rfl ?_
    refine Cp   rfl .free rfl ?_
    refine On rfl (Oc rfl rfl rfl (Aa     ?_))
    refine Si rfl ?_ ?_
    · intro c14
      refine Se rfl ?_
      refine Ol rfl rfl ?_
      intro b44
      refine Oa rfl (Aa     ?_)
      refine Bx       ?_
      intro hz
      refine Ag    (.tmp rfl .nil) ?_
      refine ⟨_, L, hz, fun _ h => h.drop, Iv     (l := [1]) ?_⟩
      have hl : t.parts.length = 2 := by omega
      unfold Cv   Ar       D8    D2    E9  Cw   Cq   Fp   Fq  
      simp only [*, true_or, or_true, or_false, false_or, if_true, if_false]
      rfl
    intro c14
    refine Af     (Ak        (Se rfl (Oa rfl (Aa     (Ag    (.tmp rfl .nil) ?_)))))
    have hk : Cv   t = [] := by
      unfold Cv   Ar       D8    D2    E9  Cw   Cq   Fp   Fq  
      first
        | (have hl : ¬ t.parts.length = 3 := by omega
           simp [*]; done)
        | (have hl : ¬ t.parts.length = 4 := by omega
           simp [*]; done)
        | (have hl : ¬ t.parts.length = 6 := by omega
           simp [*]; done)
        | (have hl : ¬ t.parts.length = 2 := by omega
           simp [*]; done)
        | (simp [*]; done)
    exact ⟨I, L, .refl _, fun _ h => h.drop, none, 0, by rw [hk]; rfl, ⟨by simp, fun _ => hk, by rw [hk]; simp⟩, rfl⟩
  intro c12
  refine Ah      rfl (Od rfl rfl rfl (Oa rfl (Aa     ?_)))
  refine Si rfl ?_ ?_
  · intro c13
    refine Se rfl ?_
    first | refine Oh rfl ?_ | refine Oj rfl ?_
    refine Cp   rfl .free rfl ?_
    refine On rfl (Oc rfl rfl rfl (Aa     ?_))
    refine Si rfl ?_ ?_
    · intro c14
      refine Se rfl ?_
      refine Ol rfl rfl ?_
      intro b44
      refine Oa rfl (Aa     ?_)
      refine Bx       ?_
      intro hz
      refine Ag    (.tmp rfl .nil) ?_
      refine ⟨_, L, hz, fun _ h => h.drop, Iv     (l := [1]) ?_⟩
      have hl : t.parts.length = 2 := by omega
      unfold Cv   Ar       D8    D2    E9  Cw   Cq   Fp   Fq  
      simp only [*, true_or, or_true, or_false, false_or, if_true, if_false]
      rfl
    intro c14
    refine Af     (Ak        (Se rfl (Oa rfl (Aa     (Ag    (.tmp rfl .nil) ?_)))))
    have hk : Cv   t = [] := by
      unfold Cv   Ar       D8    D2    E9  Cw   Cq   Fp   Fq  
      first
        | (have hl : ¬ t.parts.length = 3 := by omega
           simp [*]; done)
        | (have hl : ¬ t.parts.length = 4 := by omega
           simp [*]; done)
        | (have hl : ¬ t.parts.length = 6 := by omega
           simp [*]; done)
        | (have hl : ¬ t.parts.length = 2 := by omega
           simp [*]; done)
        | (simp [*]; done)
    exact ⟨I, L, .refl _, fun _ h => h.drop, none, 0, by rw [hk]; rfl, ⟨by simp, fun _ => hk, by rw [hk]; simp⟩, rfl⟩
  intro c13
  refine Af     (Ak        (Se rfl (Oa rfl (Aa     (Ag    (.tmp rfl .nil) ?_)))))
  have hk : Cv   t = [] := by
    unfold Cv   Ar       D8    D2    E9  Cw   Cq   Fp   Fq  
    first
      | (have hl : ¬ t.parts.length = 3 := by omega
         simp [*]; done)
      | (have hl : ¬ t.parts.length = 4 := by omega
         simp [*]; done)
      | (have hl : ¬ t.parts.length = 6 := by omega
         simp [*]; done)
      | (have hl : ¬ t.parts.length = 2 := by omega
         simp [*]; done)
      | (simp [*]; done)
  exact ⟨I, L, .refl _, fun _ h => h.drop, none, 0, by rw [hk]; rfl, ⟨by simp, fun _ => hk, by rw [hk]; simp⟩, rfl⟩
set_option maxRecDepth 100000
set_option linter.unusedVariables false
set_option linter.unusedSimpArgs false

inductive Ty where
 | i
 | fn (a b : Ty)
 | pr (a b : Ty)
def Ty.tree : Ty → Tree
 | .i => .node [105] []
 | .fn a b => .node [] [.node [62] [], a.tree, b.tree]
 | .pr a b => .node [] [.node [42] [], a.tree, b.tree]
def Ty.size : Ty → Nat
 | .i => 1
 | .fn a b => 1 + a.size + b.size
 | .pr a b => 1 + a.size + b.size
def Ty.dec : (a b : Ty) → Decidable (a = b)
 | .i, .i => isTrue rfl
 | .fn a b, .fn c d => match Ty.dec a c, Ty.dec b d with
  | isTrue h, isTrue h' => isTrue (by rw [h, h'])
  | isFalse h, _ => isFalse (fun e => h (Ty.fn.inj e).1)
  | _, isFalse h => isFalse (fun e => h (Ty.fn.inj e).2)
 | .pr a b, .pr c d => match Ty.dec a c, Ty.dec b d with
  | isTrue h, isTrue h' => isTrue (by rw [h, h'])
  | isFalse h, _ => isFalse (fun e => h (Ty.pr.inj e).1)
  | _, isFalse h => isFalse (fun e => h (Ty.pr.inj e).2)
 | .i, .fn _ _ => isFalse (by simp)
 | .i, .pr _ _ => isFalse (by simp)
 | .fn _ _, .i => isFalse (by simp)
 | .fn _ _, .pr _ _ => isFalse (by simp)
 | .pr _ _, .i => isFalse (by simp)
 | .pr _ _, .fn _ _ => isFalse (by simp)
instance : DecidableEq Ty := Ty.dec

inductive B5 where
 | add | sub | mul | call | pair
inductive U2 where
 | fst | snd
def B5.txt : B5 → Am
 | .add => [43] | .sub => [45] | .mul => [42] | .call => D8 | .pair => D2
def U2.txt : U2 → Am
 | .fst => Fp | .snd => Fq
inductive Ex where
 | num (s : Am)
 | name (s : Am)
 | bin (o : B5) (a b : Ex)
 | ite (a b c : Ex)
 | lt (x : Am) (a b : Ex)
 | fn (f x : Am) (s t : Ty) (b : Ex)
 | un (o : U2) (a : Ex)
def Ex.tree : Ex → Tree
 | .num s => .node s []
 | .name s => .node s []
 | .bin o a b => .node [] [.node o.txt [], a.tree, b.tree]
 | .ite a b c => .node [] [.node E9 [], a.tree, b.tree, c.tree]
 | .lt x a b => .node [] [.node Cw [], .node x [], a.tree, b.tree]
 | .fn f x s t b => .node [] [.node Cq [], .node f [], .node x [], s.tree, t.tree, b.tree]
 | .un o a => .node [] [.node o.txt [], a.tree]
def Ex.ok : Ex → Bool
 | .num s => Cr s
 | .name s => Bs s
 | .bin _ a b => a.ok && b.ok
 | .ite a b c => a.ok && b.ok && c.ok
 | .lt x a b => Bs x && a.ok && b.ok
 | .fn f x s t b => Bs f && Bs x && decide (f ≠ x) && decide (s.size ≤ 16) && decide (t.size ≤ 16) && b.ok
 | .un _ a => a.ok
def Ex.size : Ex → Nat
 | .num _ => 1
 | .name _ => 1
 | .bin _ a b => 1 + a.size + b.size
 | .ite a b c => 1 + a.size + b.size + c.size
 | .lt _ a b => 2 + a.size + b.size
 | .fn _ _ s t b => 3 + s.size + t.size + b.size
 | .un _ a => 1 + a.size

/- From forms. -/
def B5.of (h : Am) : Option B5 :=
 if h = [43] then some .add else if h = [45] then some .sub else if h = [42] then some .mul else if h = D8 then some .call else if h = D2 then some .pair else none
def U2.of (h : Am) : Option U2 := if h = Fp then some .fst else if h = Fq then some .snd else none
theorem B5.of_txt (o : B5) : B5.of o.txt = some o := by cases o <;> rfl
theorem U2.of_txt (o : U2) : U2.of o.txt = some o := by cases o <;> rfl
theorem B5.of_eq {h : Am} {o : B5} (e : B5.of h = some o) : h = o.txt := by
 unfold B5.of at e
 repeat' split at e
 all_goals first | cases e; assumption | cases e
theorem U2.of_eq {h : Am} {o : U2} (e : U2.of h = some o) : h = o.txt := by
 unfold U2.of at e
 repeat' split at e
 all_goals first | cases e; assumption | cases e
def Tree.ty : Tree → Option Ty
 | .node a [] => if a = [105] then some .i else none
 | .node _ [h, x, y] => match x.ty, y.ty with
  | some a, some b => if h.atom = [62] then some (.fn a b) else if h.atom = [42] then some (.pr a b) else none
  | _, _ => none
 | .node _ _ => none
def Tree.ex : Tree → Option Ex
 | .node a [] => if Bs a then some (.name a) else if Cr a then some (.num a) else none
 | .node _ [h, x] => match U2.of h.atom, x.ex with
  | some o, some a => some (.un o a)
  | _, _ => none
 | .node _ [h, x, y] => match B5.of h.atom, x.ex, y.ex with
  | some o, some a, some b => some (.bin o a b)
  | _, _, _ => none
 | .node _ [h, x, y, z] => if h.atom = E9 then (match x.ex, y.ex, z.ex with
   | some a, some b, some c => some (.ite a b c)
   | _, _, _ => none)
  else if h.atom = Cw ∧ Bs x.atom = true then (match y.ex, z.ex with
   | some a, some b => some (.lt x.atom a b)
   | _, _ => none)
  else none
 | .node _ [h, f, x, s, t, b] => if h.atom = Cq ∧ Bs f.atom = true ∧ Bs x.atom = true ∧ f.atom ≠ x.atom ∧ s.size ≤ 16 ∧ t.size ≤ 16 then (match s.ty, t.ty, b.ex with
   | some s, some t, some b => some (.fn f.atom x.atom s t b)
   | _, _, _ => none)
  else none
 | .node _ _ => none

theorem Ty.tree_size : ∀ t : Ty, t.tree.size = t.size
 | .i => rfl
 | .fn a b => by simp [Ty.tree, Tree.size, D6, Ty.size, a.tree_size, b.tree_size]; omega
 | .pr a b => by simp [Ty.tree, Tree.size, D6, Ty.size, a.tree_size, b.tree_size]; omega
theorem Ex.tree_size : ∀ e : Ex, e.tree.size = e.size
 | .num s => rfl
 | .name s => rfl
 | .bin o a b => by simp [Ex.tree, Tree.size, D6, Ex.size, a.tree_size, b.tree_size]; omega
 | .ite a b c => by simp [Ex.tree, Tree.size, D6, Ex.size, a.tree_size, b.tree_size, c.tree_size]; omega
 | .lt x a b => by simp [Ex.tree, Tree.size, D6, Ex.size, a.tree_size, b.tree_size]; omega
 | .fn f x s t b => by simp [Ex.tree, Tree.size, D6, Ex.size, s.tree_size, t.tree_size, b.tree_size]; omega
 | .un o a => by simp [Ex.tree, Tree.size, D6, Ex.size, a.tree_size]

theorem Tree.ty_isType : ∀ t : Tree, t.isType = t.ty.isSome
 | .node a [] => by simp [Tree.isType, Tree.ty]; split <;> simp_all
 | .node _ [h, x, y] => by
  simp only [Tree.isType, Tree.ty, x.ty_isType, y.ty_isType]
  cases x.ty <;> cases y.ty <;> simp
  by_cases h1 : h.atom = [62]
  ·simp [h1]
  ·by_cases h2 : h.atom = [42] <;> simp [h1, h2]
 | .node _ [h] => rfl
 | .node _ [h, x] => rfl
 | .node _ (h :: x :: y :: z :: r) => rfl
theorem F3 {t : Tree} (h : t.good = true) (ha : t.atom ≠ []) : t = .node t.atom [] := by
 cases t with
 | node a ps => cases ps with
  | nil => rfl
  | cons p ps => simp [Tree.good] at h; exact absurd h.1 ha
theorem Hc {a : Am} {p : Tree} {ps : List Tree} (h : (Tree.node a (p :: ps)).good = true) : a = [] ∧ p.good = true ∧ Ez ps = true := by
 simp [Tree.good, Ez] at h; exact ⟨h.1, h.2.1, h.2.2⟩
theorem Tree.ty_tree : ∀ {t : Tree} {a : Ty}, t.good = true → t.ty = some a → t = a.tree
 | .node a [], b, hg, h => by
  simp only [Tree.ty] at h
  split at h <;> cases h
  subst_vars; rfl
 | .node n [h, x, y], b, hg, e => by
  obtain ⟨rfl, hh, hr⟩ := Hc hg
  simp [Ez] at hr
  simp only [Tree.ty] at e
  split at e
  ·rename_i a b' h1 h2
   have e1 := Tree.ty_tree hr.1 h1
   have e2 := Tree.ty_tree hr.2 h2
   split at e
   ·rename_i h3
    cases e
    have e3 := F3 hh (by simp [h3])
    rw [e3, h3, e1, e2]; rfl
   ·split at e
    ·rename_i h3
     cases e
     have e3 := F3 hh (by simp [h3])
     rw [e3, h3, e1, e2]; rfl
    ·cases e
  ·cases e
 | .node _ [h], _, _, e => by simp [Tree.ty] at e
 | .node _ [h, x], _, _, e => by simp [Tree.ty] at e
 | .node _ (h :: x :: y :: z :: r), _, _, e => by simp [Tree.ty] at e
theorem Ty.tree_ty : ∀ a : Ty, a.tree.ty = some a
 | .i => rfl
 | .fn a b => by simp [Ty.tree, Tree.ty, a.tree_ty, b.tree_ty, Tree.atom]
 | .pr a b => by simp [Ty.tree, Tree.ty, a.tree_ty, b.tree_ty, Tree.atom]
theorem Ty.tree_inj {a b : Ty} (h : a.tree = b.tree) : a = b := by
 have := congrArg Tree.ty h
 rw [a.tree_ty, b.tree_ty] at this
 exact Option.some.inj this
theorem Gy {s : Am} (h : Bs s = true) : s ≠ [] := by intro e; subst e; cases h
theorem Ua {s : Am} (h : Cr s = true) : s ≠ [] := by intro e; subst e; revert h; decide
theorem Fe {s : Am} (h : Bs s = true) : Cr s = false := by
 cases s with
 | nil => cases h
 | cons c r =>
  simp [Bs, Mb] at h
  obtain ⟨⟨h1, h2, h3⟩, h4⟩ := h
  have e : Ec (c :: r) = c :: r := by simp [Ec]; intro h; omega
  have hc : c ≠ 48 := by intro e; subst e; revert h2; decide
  simp only [Cr, e]
  simp [hc, E2]
  intros; omega
theorem Tree.ex_tree : ∀ {t : Tree} {a : Ex}, t.good = true → t.ex = some a → t = a.tree ∧ a.ok = true
 | .node a [], b, hg, h => by
  simp only [Tree.ex] at h
  split at h
  ·cases h; exact ⟨rfl, by assumption⟩
  ·split at h
   ·cases h; exact ⟨rfl, by assumption⟩
   ·cases h
 | .node n [h, x], b, hg, e => by
  obtain ⟨rfl, hh, hr⟩ := Hc hg
  simp [Ez] at hr
  simp only [Tree.ex] at e
  split at e
  ·rename_i o a h1 h2
   cases e
   obtain ⟨e1, k1⟩ := Tree.ex_tree hr h2
   have h3 := U2.of_eq h1
   have e3 := F3 hh (by rw [h3]; cases o <;> decide)
   exact ⟨by rw [e3, h3, e1]; rfl, by simpa [Ex.ok] using k1⟩
  ·cases e
 | .node n [h, x, y], b, hg, e => by
  obtain ⟨rfl, hh, hr⟩ := Hc hg
  simp [Ez] at hr
  simp only [Tree.ex] at e
  split at e
  ·rename_i o a b h1 h2 h2'
   cases e
   obtain ⟨e1, k1⟩ := Tree.ex_tree hr.1 h2; obtain ⟨e2, k2⟩ := Tree.ex_tree hr.2 h2'
   have h3 := B5.of_eq h1
   have e3 := F3 hh (by rw [h3]; cases o <;> decide)
   exact ⟨by rw [e3, h3, e1, e2]; rfl, by simp [Ex.ok, k1, k2]⟩
  ·cases e
 | .node n [h, x, y, z], b, hg, e => by
  obtain ⟨rfl, hh, hr⟩ := Hc hg
  simp [Ez] at hr
  simp only [Tree.ex] at e
  split at e
  ·rename_i h3
   split at e
   ·rename_i a b c h1 h2 h2'
    cases e
    obtain ⟨e0, k0⟩ := Tree.ex_tree hr.1 h1; obtain ⟨e1, k1⟩ := Tree.ex_tree hr.2.1 h2; obtain ⟨e2, k2⟩ := Tree.ex_tree hr.2.2 h2'
    have e3 := F3 hh (by rw [h3]; decide)
    exact ⟨by rw [e3, h3, e0, e1, e2]; rfl, by simp [Ex.ok, k0, k1, k2]⟩
   ·cases e
  ·split at e
   ·rename_i h3
    obtain ⟨h3, h4⟩ := h3
    split at e
    ·rename_i b c h2 h2'
     cases e
     obtain ⟨e1, k1⟩ := Tree.ex_tree hr.2.1 h2; obtain ⟨e2, k2⟩ := Tree.ex_tree hr.2.2 h2'
     have e3 := F3 hh (by rw [h3]; decide)
     have e4 := F3 hr.1 (Gy h4)
     refine ⟨?_, by simp [Ex.ok, k1, k2, h4]⟩
     conv => lhs; rw [e3, h3, e4, e1, e2]
     rfl
    ·cases e
   ·cases e
 | .node n [h, f, x, s, t, b], _, hg, e => by
  obtain ⟨rfl, hh, hr⟩ := Hc hg
  simp [Ez] at hr
  simp only [Tree.ex] at e
  split at e
  ·rename_i h3
   obtain ⟨h3, h4, h5, h6, h7, h8⟩ := h3
   split at e
   ·rename_i s' t' b' h1 h2 h2'
    cases e
    have e0 := Tree.ty_tree hr.2.2.1 h1
    have e1 := Tree.ty_tree hr.2.2.2.1 h2
    obtain ⟨e2, k2⟩ := Tree.ex_tree hr.2.2.2.2 h2'
    have e3 := F3 hh (by rw [h3]; decide)
    have e4 := F3 hr.1 (Gy h4)
    have e5 := F3 hr.2.1 (Gy h5)
    rw [e0, Ty.tree_size] at h7; rw [e1, Ty.tree_size] at h8; refine ⟨?_, by simp [Ex.ok, k2, h4, h5, h6, h7, h8]⟩
    conv => lhs; rw [e3, h3, e4, e5, e0, e1, e2]
    rfl
   ·cases e
  ·cases e
 | .node _ [h], _, _, e => by simp [Tree.ex] at e
 | .node _ [h, x, y, z, w], _, _, e => by simp [Tree.ex] at e
 | .node _ (h :: x :: y :: z :: w :: u :: v :: r), _, _, e => by simp [Tree.ex] at e
theorem Ex.tree_ex : ∀ {a : Ex}, a.ok = true → a.tree.ex = some a
 | .num s, h => by
  have h : Cr s = true := h
  have : Bs s = false := by
   cases hn : Bs s with
   | false => rfl
   | true => rw [Fe hn] at h; cases h
  simp [Ex.tree, Tree.ex, this, h]
 | .name s, h => by
  have h : Bs s = true := h
  simp [Ex.tree, Tree.ex, h]
 | .bin o a b, h => by simp [Ex.ok] at h; simp [Ex.tree, Tree.ex, Tree.atom, B5.of_txt, Ex.tree_ex h.1, Ex.tree_ex h.2]
 | .ite a b c, h => by simp [Ex.ok] at h; simp [Ex.tree, Tree.ex, Tree.atom, Ex.tree_ex h.1.1, Ex.tree_ex h.1.2, Ex.tree_ex h.2]
 | .lt x a b, h => by
  simp [Ex.ok] at h
  have : Cw ≠ E9 := by decide
  simp [Ex.tree, Tree.ex, Tree.atom, Ex.tree_ex h.1.2, Ex.tree_ex h.2, h.1.1, this]
 | .fn f x s t b, h => by
  simp [Ex.ok] at h
  obtain ⟨⟨⟨⟨⟨h1, h2⟩, h3⟩, h4⟩, h5⟩, h6⟩ := h
  simp [Ex.tree, Tree.ex, Tree.atom, Ex.tree_ex h6, Ty.tree_ty, Ty.tree_size, *]
 | .un o a, h => by simp [Ex.ok] at h; simp [Ex.tree, Tree.ex, Tree.atom, U2.of_txt, Ex.tree_ex h]
set_option maxRecDepth 100000
set_option linter.unusedVariables false
set_option linter.unusedSimpArgs false

theorem Uw : ∀ ts : List Tree, ts.length ≤ (Fj ts).length
 | [] => Nat.le_refl _
 | t :: ts => by have := Uw ts; simp [Fj]; omega
theorem Qr {p : UInt8 → Bool} {a r : Am} (ha : a.all p = true) (hr : ∀ c, r.head? = some c → p c = false) : (a ++ r).takeWhile p = a ∧ (a ++ r).dropWhile p = r := by
 have hp : ∀ x ∈ a, p x = true := by simpa using ha
 rw [List.takeWhile_append_of_pos hp, List.dropWhile_append_of_pos hp]
 cases r with
 | nil => simp
 | cons c r => have := hr c rfl; simp [List.takeWhile, List.dropWhile, this]
theorem Xy {c : UInt8} (h : Er c = true) : c.toNat ≠ 40 ∧ c.toNat ≠ 41 ∧ c.toNat ≠ 32 := by
 simp [Er] at h; omega
mutual
theorem Ls : ∀ (t : Tree) (k : Nat) (r : Am), t.good = true → t.bytes = true → (∀ c, r.head? = some c → Er c = false) →
  Ed k (t.text ++ r) = if t.depth ≤ k then some (t, r) else none
 | .node a [], k, r, hg, hb, hr => by
  simp [Tree.good, Ez] at hg
  simp only [Tree.bytes, Fr, Bool.and_true] at hb
  obtain ⟨h1, h2⟩ := Qr hb hr
  have h40 : ((a ++ r).getD 0 0).toNat ≠ 40 := by
   cases a with
   | nil => exact absurd rfl hg
   | cons c a => simp at hb; exact (Xy hb.1).1
  simp only [Tree.text, Tree.depth, List.isEmpty_nil, cond_true, Nat.zero_le, if_true]
  rw [Gu h40, h1, h2, if_neg hg]
 | .node a (t :: ts), k, r, hg, hb, hr => by
  obtain ⟨rfl, g1, g2⟩ := Hc hg
  simp only [Tree.bytes, Fr, Bool.and_eq_true] at hb
  have e : (Tree.node [] (t :: ts)).text ++ r = 40 :: (t.text ++ Fj ts ++ 41 :: r) := by simp [Tree.text]
  rw [e]
  cases k with
  | zero => rw [Id (by rfl), if_neg (by simp [Tree.depth])]
  | succ k =>
   rw [Hn (by rfl)]
   have hl := Uw ts
   rw [show (40 :: (t.text ++ Fj ts ++ 41 :: r)).drop 1 = t.text ++ Fj ts ++ 41 :: r from rfl]; rw [Mf t ts k _ r g1 g2 hb.2.1 hb.2.2 (by simp; omega)]
   have hdep : (Tree.node [] (t :: ts)).depth = Dk (t :: ts) + 1 := rfl
   by_cases hd : Dk (t :: ts) ≤ k
   ·rw [if_pos hd, if_pos (show (Tree.node [] (t :: ts)).depth ≤ k + 1 by omega)]
   ·rw [if_neg hd, if_neg (show ¬ (Tree.node [] (t :: ts)).depth ≤ k + 1 by omega)]
theorem Mf : ∀ (t : Tree) (ts : List Tree) (k n : Nat) (r : Am), t.good = true → Ez ts = true → t.bytes = true → Fr ts = true → ts.length + 1 ≤ n →
  Ej (Ed k) n (t.text ++ Fj ts ++ 41 :: r) = if Dk (t :: ts) ≤ k then some (t :: ts, r) else none
 | t, [], k, n, r, hg, hg2, hb, hb2, hn => by
  obtain ⟨m, rfl⟩ : ∃ m, n = m + 1 := ⟨n - 1, by simp at hn; omega⟩
  have := Ls t k (41 :: r) hg hb (by intro c hc; simp at hc; subst hc; decide)
  simp only [Fj, List.append_nil, Ej, this]
  by_cases hd : t.depth ≤ k
  ·rw [if_pos hd, if_pos (by simp [Dk]; omega)]; rfl
  ·rw [if_neg hd, if_neg (by simp [Dk]; omega)]
 | t, u :: us, k, n, r, hg, hg2, hb, hb2, hn => by
  obtain ⟨m, rfl⟩ : ∃ m, n = m + 1 := ⟨n - 1, by simp at hn; omega⟩
  simp only [Ez, Bool.and_eq_true] at hg2
  simp only [Fr, Bool.and_eq_true] at hb2
  have h1 := Ls t k (32 :: (u.text ++ Fj us ++ 41 :: r)) hg hb (by intro c hc; simp at hc; subst hc; decide)
  have h2 := Mf u us k m r hg2.1 hg2.2 hb2.1 hb2.2 (by simp at hn; omega)
  have e : t.text ++ Fj (u :: us) ++ 41 :: r = t.text ++ 32 :: (u.text ++ Fj us ++ 41 :: r) := by simp [Fj]
  rw [e]
  simp only [Ej, h1]
  by_cases hd : t.depth ≤ k
  ·rw [if_pos hd]
   have c1 : ((32 : UInt8).toNat == 41) = false := by decide
   have c2 : ((32 : UInt8).toNat == 32) = true := by decide
   simp only [c1, c2, cond_false, cond_true, h2]
   by_cases hd2 : Dk (u :: us) ≤ k
   ·rw [if_pos hd2, if_pos (by simp only [Dk] at *; omega)]
   ·rw [if_neg hd2, if_neg (by simp only [Dk] at *; omega)]
  ·rw [if_neg hd, if_neg (by simp [Dk]; omega)]
end
def Tree.fits (t : Tree) : Bool := decide (t.depth ≤ 60) && decide (t.len ≤ 12000)
theorem Zj {t : Tree} (hg : t.good = true) (hb : t.bytes = true) : De t.text = if t.fits then some t else none := by
 have h := Ls t 60 [] hg hb (by simp)
 rw [List.append_nil] at h
 unfold De
 rw [h, t.text_len]
 simp only [Tree.fits, Bool.and_eq_true, decide_eq_true_eq]
 by_cases h1 : 12000 < t.len
 ·rw [if_pos h1, if_neg (by omega)]
 ·rw [if_neg h1]
  by_cases h2 : t.depth ≤ 60
  ·rw [if_pos h2, if_pos (by omega)]
  ·rw [if_neg h2, if_neg (by omega)]
theorem Gt {s : Am} {t : Tree} (h : De s = some t) : t.fits = true ∧ t.good = true ∧ t.bytes = true := by
 obtain ⟨h1, h2⟩ := Js h
 have h3 := h1.text
 rw [List.append_nil] at h3; refine ⟨?_, h1.good, h1.bytes⟩
 have := h1.depth
 rw [h3, t.text_len] at h2
 simp [Tree.fits, this, h2]

theorem Ns {b : UInt8} (h : E2 b = true) : Er b = true := by simp [E2] at h; simp [Er]; omega
theorem Hy {s : Am} (h : Bs s = true) : s.all Er = true := by
 cases s with
 | nil => rfl
 | cons c r =>
  simp only [Bs, Bool.and_eq_true] at h
  simp only [List.all_cons, Bool.and_eq_true]
  refine ⟨by have := h.1.2; simp [Mb] at this; simp [Er]; omega, ?_⟩
  have h2 := h.2
  rw [List.all_eq_true] at h2 ⊢
  exact fun x hx => Ns (h2 x hx)
theorem H9 {s : Am} (h : Bs s = true) : s.length ≤ 4 := by
 cases s with
 | nil => simp
 | cons c r => simp [Bs] at h; simp; omega
theorem T9 {s : Am} (h : Cr s = true) : s.all Er = true := by
 simp only [Cr, Bool.or_eq_true, decide_eq_true_eq] at h
 rcases h with rfl | h
 ·decide
 ·simp only [Bool.and_eq_true] at h
  have h2 := h.1.2
  unfold Ec at h2
  have key : ∀ l : Am, l.all E2 = true → l.all Er = true := fun l hl => by
   rw [List.all_eq_true] at hl ⊢
   exact fun x hx => Ns (hl x hx)
  split at h2
  ·cases s with
   | nil => rfl
   | cons c r =>
    rename_i h45
    simp only [List.drop_succ_cons, List.drop_zero] at h2
    simp only [List.all_cons, Bool.and_eq_true]
    refine ⟨?_, key r h2⟩
    simp at h45
    simp [Er, h45]
  ·exact key s h2
theorem Ty.tree_good : ∀ t : Ty, t.tree.good = true ∧ t.tree.bytes = true
 | .i => ⟨rfl, by decide⟩
 | .fn a b => by
  have := a.tree_good; have := b.tree_good
  simp [Ty.tree, Tree.good, Ez, Tree.bytes, Fr, *]; decide
 | .pr a b => by
  have := a.tree_good; have := b.tree_good
  simp [Ty.tree, Tree.good, Ez, Tree.bytes, Fr, *]; decide
theorem Ex.tree_good : ∀ {e : Ex}, e.ok = true → e.tree.good = true ∧ e.tree.bytes = true
 | .num s, h => by
  have h : Cr s = true := h
  have := Ua h; have := T9 h
  simp [Ex.tree, Tree.good, Ez, Tree.bytes, Fr]; exact ⟨by assumption, by simpa using this⟩
 | .name s, h => by
  have h : Bs s = true := h
  have := Gy h; have := Hy h
  simp [Ex.tree, Tree.good, Ez, Tree.bytes, Fr]; exact ⟨by assumption, by simpa using this⟩
 | .bin o a b, h => by
  simp [Ex.ok] at h
  have := Ex.tree_good h.1; have := Ex.tree_good h.2
  simp [Ex.tree, Tree.good, Ez, Tree.bytes, Fr, *]
  cases o <;> decide
 | .ite a b c, h => by
  simp [Ex.ok] at h
  have := Ex.tree_good h.1.1; have := Ex.tree_good h.1.2; have := Ex.tree_good h.2
  simp [Ex.tree, Tree.good, Ez, Tree.bytes, Fr, *]; decide
 | .lt x a b, h => by
  simp [Ex.ok] at h
  have := Ex.tree_good h.1.2; have := Ex.tree_good h.2; have := Gy h.1.1; have h3 := Hy h.1.1
  simp at h3
  simp [Ex.tree, Tree.good, Ez, Tree.bytes, Fr, *]
  exact ⟨by decide, by decide, h3⟩
 | .fn f x s t b, h => by
  simp [Ex.ok] at h
  obtain ⟨⟨⟨⟨⟨h1, h2⟩, h3⟩, h4⟩, h5⟩, h6⟩ := h
  have := Ex.tree_good h6; have := s.tree_good; have := t.tree_good; have := Gy h1; have := Gy h2; have k1 := Hy h1; have k2 := Hy h2
  simp at k1 k2
  simp [Ex.tree, Tree.good, Ez, Tree.bytes, Fr, *]
  exact ⟨by decide, by decide, k1, k2⟩
 | .un o a, h => by
  have h : a.ok = true := h
  have := Ex.tree_good h
  simp [Ex.tree, Tree.good, Ez, Tree.bytes, Fr, *]
  cases o <;> decide

def Ex.fine (e : Ex) : Bool := e.ok && decide (e.size ≤ 120) && e.tree.fits
def Ea (s : Am) : Option Ex := match De s with
 | some t => match t.ex with
  | some e => if e.size ≤ 120 then some e else none
  | none => none
 | none => none
theorem Mx {s : Am} {e : Ex} (h : Ea s = some e) : De s = some e.tree ∧ e.fine = true ∧ s = e.tree.text := by
 unfold Ea at h
 split at h
 ·rename_i t hp
  split at h
  ·rename_i e' he
   split at h
   ·rename_i hz
    cases h
    obtain ⟨h1, h2, h3⟩ := Gt hp; obtain ⟨rfl, h4⟩ := Tree.ex_tree h2 he
    exact ⟨hp, by simp [Ex.fine, h4, hz, h1], (Ic hp).symm⟩
   ·cases h
  ·cases h
 ·cases h
theorem Ja {e : Ex} (h : e.ok = true) : Ea e.tree.text = if e.fine then some e else none := by
 obtain ⟨h1, h2⟩ := Ex.tree_good h
 unfold Ea
 rw [Zj h1 h2]
 simp only [Ex.fine, h, Bool.true_and, Bool.and_eq_true, decide_eq_true_eq]
 by_cases h3 : e.tree.fits = true
 ·simp only [h3, if_true, Ex.tree_ex h, and_true]
 ·simp [h3]
theorem Ux {s : Am} {t : Tree} (h : Ht s = some t) : ∃ a : Ty, t = a.tree ∧ a.size ≤ 16 ∧ s = a.tree.text := by
 unfold Ht at h
 cases hp : De s with
 | none => rw [hp] at h; cases h
 | some t0 =>
  rw [hp] at h
  simp only [Tree.typed, Tree.ty_isType] at h
  cases ha : t0.ty with
  | none => simp [ha] at h
  | some a =>
   by_cases hz : t0.size ≤ 16
   ·simp [ha, hz] at h
    subst h; obtain rfl := Tree.ty_tree (Gt hp).2.1 ha; rw [Ty.tree_size] at hz
    exact ⟨a, rfl, hz, (Ic hp).symm⟩
   ·simp [ha, hz] at h
theorem Ty.size_pos : ∀ a : Ty, 1 ≤ a.size
 | .i => Nat.le_refl _
 | .fn a b => by simp [Ty.size]; omega
 | .pr a b => by simp [Ty.size]; omega
theorem Ty.tree_small : ∀ a : Ty, a.tree.depth + 1 ≤ a.size ∧ a.tree.len + 3 ≤ 5 * a.size
 | .i => ⟨Nat.le_refl _, by simp [Ty.tree, Tree.len, Ty.size]⟩
 | .fn a b => by
  have := a.tree_small; have := b.tree_small; have := a.size_pos; have := b.size_pos
  simp [Ty.tree, Tree.depth, Dk, Tree.len, Fl, Ty.size]; omega
 | .pr a b => by
  have := a.tree_small; have := b.tree_small; have := a.size_pos; have := b.size_pos
  simp [Ty.tree, Tree.depth, Dk, Tree.len, Fl, Ty.size]; omega
set_option maxRecDepth 100000
set_option linter.unusedVariables false
set_option linter.unusedSimpArgs false

def Ex.occ : Ex → List Am → List Am
 | .num _, _ => []
 | .name s, bd => if s ∈ bd then [] else [s]
 | .bin _ a b, bd => a.occ bd ++ b.occ bd
 | .ite a b c, bd => a.occ bd ++ b.occ bd ++ c.occ bd
 | .lt x a b, bd => a.occ bd ++ b.occ (bd ++ [x])
 | .fn f x _ _ b, bd => b.occ (bd ++ [f, x])
 | .un _ a, bd => a.occ bd
def En (l : List Am) (s : Am) : List Am := if s ∈ l then l else l ++ [s]
def Cx (l m : List Am) : List Am := m.foldl En l
def Ex.free (e : Ex) : List Am := Cx [] (e.occ [])
def Ex.closed (e : Ex) : Bool := (e.occ []).isEmpty
def Ex.count (n : Am) : Ex → Nat
 | .num _ => 0
 | .name s => if s = n then 1 else 0
 | .bin _ a b => a.count n + b.count n
 | .ite a b c => a.count n + b.count n + c.count n
 | .lt x a b => a.count n + (if x = n then 0 else b.count n)
 | .fn f x _ _ b => if f = n ∨ x = n then 0 else b.count n
 | .un _ a => a.count n
def Ex.put : Ex → Am → Ex → Ex
 | .num s, _, _ => .num s
 | .name s, n, v => if s = n then v else .name s
 | .bin o a b, n, v => .bin o (a.put n v) (b.put n v)
 | .ite a b c, n, v => .ite (a.put n v) (b.put n v) (c.put n v)
 | .lt x a b, n, v => .lt x (a.put n v) (if x = n then b else b.put n v)
 | .fn f x s t b, n, v => .fn f x s t (if f = n ∨ x = n then b else b.put n v)
 | .un o a, n, v => .un o (a.put n v)

theorem Ci (l m k : List Am) : Cx l (m ++ k) = Cx (Cx l m) k := by simp [Cx]
theorem Tc {l : List Am} {s x : Am} : x ∈ En l s ↔ x ∈ l ∨ x = s := by
 unfold En; split
 ·constructor
  ·exact .inl
  ·rintro (h | rfl) <;> assumption
 ·simp
theorem Hb {x : Am} : ∀ {m l : List Am}, x ∈ Cx l m ↔ x ∈ l ∨ x ∈ m := by
 intro m
 induction m with
 | nil => intro l; simp [Cx]
 | cons s m ih => intro l; rw [show Cx l (s :: m) = Cx (En l s) m from rfl, ih, Tc]; simp [or_assoc]
theorem Ex.free_mem {e : Ex} {x : Am} : x ∈ e.free ↔ x ∈ e.occ [] := by simp [Ex.free, Hb]
theorem U7 {m : List Am} : Cx [] m = [] ↔ m = [] := by
 constructor
 ·intro h
  cases m with
  | nil => rfl
  | cons s m =>
   have : s ∈ Cx [] (s :: m) := Hb.2 (.inr (.head _))
   rw [h] at this; cases this
 ·rintro rfl; rfl
theorem Ex.occ_filter : ∀ (e : Ex) (bd : List Am), e.occ bd = (e.occ []).filter (fun s => decide (s ∉ bd))
 | .num _, bd => rfl
 | .name s, bd => by by_cases h : s ∈ bd <;> simp [Ex.occ, List.filter_cons, h]
 | .bin _ a b, bd => by simp [Ex.occ, a.occ_filter bd, b.occ_filter bd]
 | .ite a b c, bd => by simp [Ex.occ, a.occ_filter bd, b.occ_filter bd, c.occ_filter bd]
 | .lt x a b, bd => by
  simp only [Ex.occ, List.nil_append, List.filter_append]
  rw [a.occ_filter bd, b.occ_filter (bd ++ [x]), b.occ_filter [x], List.filter_filter]
  congr 2; funext s; simp
 | .fn f x _ _ b, bd => by
  simp only [Ex.occ, List.nil_append]
  rw [b.occ_filter (bd ++ [f, x]), b.occ_filter [f, x], List.filter_filter]
  congr 2; funext s; simp
 | .un _ a, bd => by simp [Ex.occ, a.occ_filter bd]
theorem Ex.occ_mem {e : Ex} {bd : List Am} {x : Am} : x ∈ e.occ bd ↔ x ∈ e.occ [] ∧ x ∉ bd := by
 rw [e.occ_filter bd]; simp
theorem Ex.occ_name : ∀ {e : Ex} {bd : List Am}, e.ok = true → ∀ x ∈ e.occ bd, Bs x = true
 | .num _, bd, h, x, hx => by cases hx
 | .name s, bd, h, x, hx => by
  simp only [Ex.occ] at hx
  split at hx
  ·cases hx
  ·simp at hx; subst hx; exact h
 | .bin _ a b, bd, h, x, hx => by
  simp [Ex.ok] at h; simp [Ex.occ] at hx
  rcases hx with hx | hx
  ·exact Ex.occ_name h.1 x hx
  ·exact Ex.occ_name h.2 x hx
 | .ite a b c, bd, h, x, hx => by
  simp [Ex.ok] at h; simp [Ex.occ] at hx
  rcases hx with hx | hx | hx
  ·exact Ex.occ_name h.1.1 x hx
  ·exact Ex.occ_name h.1.2 x hx
  ·exact Ex.occ_name h.2 x hx
 | .lt y a b, bd, h, x, hx => by
  simp [Ex.ok] at h; simp [Ex.occ] at hx
  rcases hx with hx | hx
  ·exact Ex.occ_name h.1.2 x hx
  ·exact Ex.occ_name h.2 x hx
 | .fn f y s t b, bd, h, x, hx => by
  simp [Ex.ok] at h; simp [Ex.occ] at hx
  exact Ex.occ_name h.2 x hx
 | .un _ a, bd, h, x, hx => Ex.occ_name (e := a) h x hx
/- Types. -/
def Ih (l : List Am) (m : List Ty) (s : Am) : Option Ty := (Br l s).bind (fun i => m[i]?)
def B5.ty : B5 → Ty → Ty → Option Ty
 | .call, s, t => match s with
  | .fn a b => if a = t then some b else none
  | _ => none
 | .pair, s, t => if (Ty.pr s t).size ≤ 16 then some (.pr s t) else none
 | _, s, t => if s = .i ∧ t = .i then some .i else none
def U2.ty : U2 → Ty → Option Ty
 | .fst, .pr a _ => some a
 | .snd, .pr _ b => some b
 | _, _ => none
def Ex.chk : Ex → List Am → List Ty → Except Ex Ty
 | .num _, _, _ => .ok .i
 | .name s, l, m => match Ih l m s with
  | some t => .ok t
  | none => .error (.name s)
 | .bin o a b, l, m => match a.chk l m with
  | .error e => .error e
  | .ok s => match b.chk l m with
   | .error e => .error e
   | .ok t => match o.ty s t with
    | some u => .ok u
    | none => .error (.bin o a b)
 | .ite a b c, l, m => match a.chk l m with
  | .error e => .error e
  | .ok s => match b.chk l m with
   | .error e => .error e
   | .ok t => match c.chk l m with
    | .error e => .error e
    | .ok u => if s = .i ∧ t = u then .ok t else .error (.ite a b c)
 | .lt x a b, l, m => match a.chk l m with
  | .error e => .error e
  | .ok s => b.chk (l ++ [x]) (m ++ [s])
 | .fn f x s t b, l, m => if (Ty.fn s t).size ≤ 16 then (match b.chk (l ++ [f, x]) (m ++ [.fn s t, s]) with
   | .error e => .error e
   | .ok u => if u = t then .ok (.fn s t) else .error (.fn f x s t b))
  else .error (.fn f x s t b)
 | .un o a, l, m => match a.chk l m with
  | .error e => .error e
  | .ok s => match o.ty s with
   | some u => .ok u
   | none => .error (.un o a)
def Ex.ty (e : Ex) (l : List Am) (m : List Ty) : Option Ty := match e.chk l m with
 | .ok t => some t
 | .error _ => none
set_option maxRecDepth 100000
set_option linter.unusedVariables false
set_option linter.unusedSimpArgs false

theorem Ga (h : Am) : (∃ o : B5, h = o.txt ∧ Ar h = (1, 3)) ∨ (h = E9 ∧ Ar h = (1, 4)) ∨ (h = Cw ∧ Ar h = (2, 4)) ∨ (h = Cq ∧ Ar h = (5, 6)) ∨ (∃ o : U2, h = o.txt ∧ Ar h = (1, 2)) ∨
  (Ar h = (0, 0) ∧ B5.of h = none ∧ U2.of h = none ∧ h ≠ E9 ∧ h ≠ Cw ∧ h ≠ Cq) := by
 unfold Ar
 by_cases h1 : h = [43]
 ·exact .inl ⟨.add, h1, by simp [h1]⟩
 by_cases h2 : h = [45]
 ·exact .inl ⟨.sub, h2, by simp [h2]⟩
 by_cases h3 : h = [42]
 ·exact .inl ⟨.mul, h3, by simp [h3]⟩
 by_cases h4 : h = D8
 ·exact .inl ⟨.call, h4, by simp [h4]⟩
 by_cases h5 : h = D2
 ·exact .inl ⟨.pair, h5, by simp [h5]⟩
 have hb : ¬ (h = [43] ∨ h = [45] ∨ h = [42] ∨ h = D8 ∨ h = D2) := by simp [*]
 rw [if_neg hb]
 by_cases h6 : h = E9
 ·exact .inr (.inl ⟨h6, by rw [if_pos h6]⟩)
 rw [if_neg h6]
 by_cases h7 : h = Cw
 ·exact .inr (.inr (.inl ⟨h7, by rw [if_pos h7]⟩))
 rw [if_neg h7]
 by_cases h8 : h = Cq
 ·exact .inr (.inr (.inr (.inl ⟨h8, by rw [if_pos h8]⟩)))
 rw [if_neg h8]
 by_cases h9 : h = Fp
 ·exact .inr (.inr (.inr (.inr (.inl ⟨.fst, h9, by simp [h9]⟩))))
 by_cases h10 : h = Fq
 ·exact .inr (.inr (.inr (.inr (.inl ⟨.snd, h10, by simp [h10]⟩))))
 refine .inr (.inr (.inr (.inr (.inr ⟨by simp [*], ?_, ?_, h6, h7, h8⟩))))
 ·simp [B5.of, *]
 ·simp [U2.of, *]

def Acf : Tree := .node [] []
def Tree.pt (t : Tree) (i : Nat) : Tree := t.parts.getD i Acf
theorem Tree.pt_at {t : Tree} {i : Nat} (h : i < t.parts.length) : t.pt i = t.parts[i] := by simp [Tree.pt, h]
theorem Tree.pt_lt (t : Tree) (i : Nat) (h : i < t.parts.length) : SizeOf.sizeOf (t.pt i) < SizeOf.sizeOf t := by rw [Tree.pt_at h]; exact t.part_lt i h
theorem Tree.pt_good {t : Tree} (hg : t.good = true) (i : Nat) (h : i < t.parts.length) : (t.pt i).good = true := by rw [Tree.pt_at h]; exact t.good_part hg i h
def Jl (t : Tree) : Bool :=
 if t.head = Cw then Bs (t.pt 1).atom
 else if t.head = Cq then Bs (t.pt 1).atom && Bs (t.pt 2).atom && decide ((t.pt 1).atom ≠ (t.pt 2).atom) && (t.pt 3).typed && (t.pt 4).typed
 else true
theorem B5.txt_ne (o : B5) : o.txt ≠ E9 ∧ o.txt ≠ Cw ∧ o.txt ≠ Cq ∧ U2.of o.txt = none ∧ o.txt ≠ [] := by cases o <;> decide
theorem U2.txt_ne (o : U2) : o.txt ≠ E9 ∧ o.txt ≠ Cw ∧ o.txt ≠ Cq ∧ o.txt ≠ [] := by cases o <;> decide
theorem U2.txt_b5 (o : U2) : B5.of o.txt = none := by cases o <;> rfl
theorem Q7 : ∀ {t : Tree}, t.parts ≠ [] → Cv t = [] → t.ex = none
 | .node a [], h, _ => absurd rfl h
 | .node a (h :: ps), _, hk => by
  have hd : (Tree.node a (h :: ps)).head = h.atom := rfl
  unfold Cv at hk
  rw [hd] at hk
  simp only [Tree.parts] at hk
  rcases Ga h.atom with ⟨o, e, hr⟩ | ⟨e, hr⟩ | ⟨e, hr⟩ | ⟨e, hr⟩ | ⟨o, e, hr⟩ | ⟨hr, e1, e2, e3, e4, e5⟩
  all_goals rw [hr] at hk
  ·rcases ps with _ | ⟨x, _ | ⟨y, _ | ⟨z, _ | ⟨w, _ | ⟨u, _ | ⟨v, ps⟩⟩⟩⟩⟩⟩ <;> first | (simp at hk; done) | simp [Tree.ex, e, o.txt_ne]
  ·rcases ps with _ | ⟨x, _ | ⟨y, _ | ⟨z, _ | ⟨w, _ | ⟨u, _ | ⟨v, ps⟩⟩⟩⟩⟩⟩ <;> first | (simp at hk; done) | simp [Tree.ex, e, U2.of, B5.of, E9, Fp, Fq, D8, D2, Cw, Cq]
  ·rcases ps with _ | ⟨x, _ | ⟨y, _ | ⟨z, _ | ⟨w, _ | ⟨u, _ | ⟨v, ps⟩⟩⟩⟩⟩⟩ <;> first | (simp at hk; done) | simp [Tree.ex, e, U2.of, B5.of, E9, Fp, Fq, D8, D2, Cw, Cq]
  ·rcases ps with _ | ⟨x, _ | ⟨y, _ | ⟨z, _ | ⟨w, _ | ⟨u, _ | ⟨v, ps⟩⟩⟩⟩⟩⟩ <;> first | (simp at hk; done) | simp [Tree.ex, e, U2.of, B5.of, E9, Fp, Fq, D8, D2, Cw, Cq]
  ·have := o.txt_b5
   rcases ps with _ | ⟨x, _ | ⟨y, _ | ⟨z, _ | ⟨w, _ | ⟨u, _ | ⟨v, ps⟩⟩⟩⟩⟩⟩ <;> first | (simp at hk; done) | simp [Tree.ex, e, o.txt_ne, this]
  ·rcases ps with _ | ⟨x, _ | ⟨y, _ | ⟨z, _ | ⟨w, _ | ⟨u, _ | ⟨v, ps⟩⟩⟩⟩⟩⟩ <;> simp [Tree.ex, *]
theorem Zy (t : Tree) : t.typed = (t.ty.isSome && decide (t.size ≤ 16)) := by simp [Tree.typed, Tree.ty_isType]
theorem Q8 : ∀ {t : Tree}, Cv t ≠ [] → t.ex.isSome = ((Cv t).all (fun i => (t.pt i).ex.isSome) && Jl t)
 | .node a [], hk => by exact absurd rfl hk
 | .node a (h :: ps), hk => by
  have hd : (Tree.node a (h :: ps)).head = h.atom := rfl
  unfold Cv Jl at *
  rw [hd] at hk ⊢
  simp only [Tree.parts, Tree.pt] at hk ⊢
  rcases Ga h.atom with ⟨o, e, hr⟩ | ⟨e, hr⟩ | ⟨e, hr⟩ | ⟨e, hr⟩ | ⟨o, e, hr⟩ | ⟨hr, e1, e2, e3, e4, e5⟩
  all_goals rw [hr] at hk ⊢
  ·rcases ps with _ | ⟨x, _ | ⟨y, _ | ⟨z, ps⟩⟩⟩ <;> simp at hk
   have := o.txt_ne
   simp [List.range', Tree.ex, e, B5.of_txt, this]
   cases x.ex <;> cases y.ex <;> rfl
  ·rcases ps with _ | ⟨x, _ | ⟨y, _ | ⟨z, _ | ⟨w, ps⟩⟩⟩⟩ <;> simp at hk
   simp [List.range', Tree.ex, e, show E9 ≠ Cw from by decide, show E9 ≠ Cq from by decide]
   cases x.ex <;> cases y.ex <;> cases z.ex <;> rfl
  ·rcases ps with _ | ⟨x, _ | ⟨y, _ | ⟨z, _ | ⟨w, ps⟩⟩⟩⟩ <;> simp at hk
   simp [List.range', Tree.ex, e, show Cw ≠ E9 from by decide]
   cases Bs x.atom <;> cases y.ex <;> cases z.ex <;> simp
  ·rcases ps with _ | ⟨x, _ | ⟨y, _ | ⟨z, _ | ⟨w, _ | ⟨u, _ | ⟨v, ps⟩⟩⟩⟩⟩⟩ <;> simp at hk
   simp [List.range', Tree.ex, e, show Cq ≠ Cw from by decide, Zy]
   cases Bs x.atom <;> cases Bs y.atom <;> by_cases hxy : x.atom = y.atom <;> by_cases hz : z.size ≤ 16 <;> by_cases hw : w.size ≤ 16 <;> cases z.ty <;> cases w.ty <;> cases u.ex <;> simp [*]
  ·rcases ps with _ | ⟨x, _ | ⟨y, ps⟩⟩ <;> simp at hk
   have := o.txt_ne
   simp [List.range', Tree.ex, e, U2.of_txt, this]
   cases x.ex <;> rfl
  ·simp at hk
theorem Sh {t : Tree} {i : Nat} (h : i ∈ Cv t) : i < t.parts.length ∧ 1 ≤ i := by
 unfold Cv at h
 split at h
 ·rename_i hl
  rw [List.mem_range'] at h; obtain ⟨j, hj, rfl⟩ := h
  have : 1 ≤ (Ar t.head).1 ∨ (Ar t.head).2 = 0 := by
   rcases Ga t.head with ⟨o, e, hr⟩ | ⟨e, hr⟩ | ⟨e, hr⟩ | ⟨e, hr⟩ | ⟨o, e, hr⟩ | ⟨hr, _⟩ <;> rw [hr] <;> simp
  omega
 ·cases h
theorem Aae (t : Tree) : (Cv t).length ≤ 5 := by
 unfold Cv
 split
 ·rw [List.length_range']
  rcases Ga t.head with ⟨o, _, hr⟩ | ⟨_, hr⟩ | ⟨_, hr⟩ | ⟨_, hr⟩ | ⟨o, _, hr⟩ | ⟨hr, _⟩ <;> rw [hr] <;> decide
 ·exact Nat.zero_le _
set_option maxRecDepth 100000
set_option linter.unusedVariables false
set_option linter.unusedSimpArgs false

def Ta (oa : Option Addr) : Addr := oa.getD ⟨0, 0, none⟩
section rules
variable {P : Program} {f : FuncId} {n : Nat} {I₀ : Heap} {Q : C3} {k : List Item} {E : Gj} {I : Heap} {L : Bc}
variable {ops : Array Oper} {d : Nat} {ty : TypeId} {pos : String} {af : Array Edge} {g : Option (Nat × Bool)} {l : List Oper}
theorem Ev {oa : Option Addr} {m i : Nat} (hn : oa = none → m = 0) (hi : i < m) : oa = some (Ta oa) := by
 cases oa with
 | none => have := hn rfl; omega
 | some x => rfl
theorem Mt {S : World → Prop} {T e : TypeId} {sz bb esz ebb : Nat} {z ez : List Value} {dd : TypeDesc} [ht : Aq P T (.slice e) sz bb z] [hte : Aq P e dd esz ebb ez] {x y : Operand} {oa : Option Addr} {m c : Nat} {i : Int}
  (hx : Bo E x = some (.slice oa m c)) (hy : Bo E y = some (.int .i64 i)) (i' : Nat) (hi : i = i') (him : i' < m) (hn : oa = none → m = 0) : G1 P E S ⟨some d, .indexAddr T x y, ty, pos, af, g⟩ (.pointer (some ((Ta oa).add (i' * esz)))) :=
 E1 hx hy i' hi him (Ev hn him)
theorem Sv {T e : TypeId} {sz bb esz ebb : Nat} {z ez : List Value} {dd : TypeDesc} [ht : Aq P T (.slice e) sz bb z] [hte : Aq P e dd esz ebb ez] {x y : Operand} {oa : Option Addr} {m c : Nat} {i : Int}
  (hx : Bo E x = some (.slice oa m c)) (hy : Bo E y = some (.int .i64 i)) (i' : Nat) (hi : i = i') (him : i' < m) (hn : oa = none → m = 0) (hg : Wants ops E g) (hdn : Nat.blt d n = true)
  (h : A6 P f n I₀ Q ops l k ((d, .pointer (some ((Ta oa).add (i' * esz)))) :: E) I L) : A6 P f n I₀ Q ops (⟨some d, .indexAddr T x y, ty, pos, af, g⟩ :: l) k E I L :=
 D7 (Mt hx hy i' hi him hn) hg hdn h
theorem A4 {S : World → Prop} {T e : TypeId} {sz bb esz ebb : Nat} {z ez : List Value} {dd : TypeDesc} [ht : Aq P T (.slice e) sz bb z] [hte : Aq P e dd esz ebb ez] {x y : Operand} {oa : Option Addr} {m c : Nat} {i : Int}
  (hx : Bo E x = some (.slice oa m c)) (hy : Bo E y = some (.int .i64 i)) (i' : Nat) (hi : i = i') (him : i' < m := by first | omega | exact Cb (by assumption) (by decide) | (simp; done) | (simp; omega) | decide | (simp at *; omega)) (hn : oa = none → m = 0 := by first | assumption | exact FormAt.nil (by assumption) | exact Strs.nil' (by assumption) | exact Nums.nil' (by assumption) | exact Raw.nil' (by assumption)) : G1 P E S ⟨some d, .indexAddr T x y, ty, pos, af, g⟩ (.pointer (some ((Ta oa).add (i' * esz)))) := Mt hx hy i' hi him hn
theorem Bi {T e : TypeId} {sz bb esz ebb : Nat} {z ez : List Value} {dd : TypeDesc} [ht : Aq P T (.slice e) sz bb z] [hte : Aq P e dd esz ebb ez] {x y : Operand} {oa : Option Addr} {m c : Nat} {i : Int}
  (hx : Bo E x = some (.slice oa m c)) (hy : Bo E y = some (.int .i64 i)) (i' : Nat) (hi : i = i') (hg : Wants ops E g) (hdn : Nat.blt d n = true)
  (h : A6 P f n I₀ Q ops l k ((d, .pointer (some ((Ta oa).add (i' * esz)))) :: E) I L) (him : i' < m := by first | omega | exact Cb (by assumption) (by decide) | (simp; done) | (simp; omega) | decide | (simp at *; omega)) (hn : oa = none → m = 0 := by first | assumption | exact FormAt.nil (by assumption) | exact Strs.nil' (by assumption) | exact Nums.nil' (by assumption) | exact Raw.nil' (by assumption)) : A6 P f n I₀ Q ops (⟨some d, .indexAddr T x y, ty, pos, af, g⟩ :: l) k E I L := Sv hx hy i' hi him hn hg hdn h
theorem A5 {S : World → Prop} {T e : TypeId} {sz bb esz ebb : Nat} {z ez : List Value} {dd : TypeDesc} [ht : Aq P T (.slice e) sz bb z] [hte : Aq P e dd esz ebb ez] {x y : Operand} {oa : Option Addr} {ad : Addr} {m c : Nat} {i : Int}
  (hx : Bo E x = some (.slice oa m c)) (hy : Bo E y = some (.int .i64 i)) (i' : Nat) (hi : i = i') (him : i' < m := by first | omega | exact Cb (by assumption) (by decide) | (simp; done) | (simp; omega) | decide | (simp at *; omega)) (hn : oa = some ad := by first | rfl | assumption) : G1 P E S ⟨some d, .indexAddr T x y, ty, pos, af, g⟩ (.pointer (some (ad.add (i' * esz)))) := E1 hx hy i' hi him hn
theorem Bj {T e : TypeId} {sz bb esz ebb : Nat} {z ez : List Value} {dd : TypeDesc} [ht : Aq P T (.slice e) sz bb z] [hte : Aq P e dd esz ebb ez] {x y : Operand} {oa : Option Addr} {ad : Addr} {m c : Nat} {i : Int}
  (hx : Bo E x = some (.slice oa m c)) (hy : Bo E y = some (.int .i64 i)) (i' : Nat) (hi : i = i') (hg : Wants ops E g) (hdn : Nat.blt d n = true)
  (h : A6 P f n I₀ Q ops l k ((d, .pointer (some (ad.add (i' * esz)))) :: E) I L) (him : i' < m := by first | omega | exact Cb (by assumption) (by decide) | (simp; done) | (simp; omega) | decide | (simp at *; omega)) (hn : oa = some ad := by first | rfl | assumption) : A6 P f n I₀ Q ops (⟨some d, .indexAddr T x y, ty, pos, af, g⟩ :: l) k E I L := D7 (E1 hx hy i' hi him hn) hg hdn h
theorem Aby {S : World → Prop} {tys : Array TypeId} {x y : Operand} {a b : Int} (hx : Bo E x = some (.int .i64 a)) (hy : Bo E y = some (.int .i64 b)) : G1 P E S ⟨some d, .call ⟨.builtin .max, #[x, y], tys⟩, ty, pos, af, g⟩ (.int .i64 (max a b)) := fun ac w he _ => by
  simp only [execOp, resolve, List.map_toArray, List.map, he.eval hx, he.eval hy, pure_bind, invoke, builtin]
  refine Ad (a := .int .i64 (max a b)) (w' := w) ?_ |>.trans rfl
  have e : (if a < b then b else a) = max a b := by split <;> omega
  simp only [Builtin.max_, List.foldlM, Builtin.max2, GT.gt, e]
  rfl
theorem Abs {tys : Array TypeId} {x y : Operand} {a b : Int} (hx : Bo E x = some (.int .i64 a)) (hy : Bo E y = some (.int .i64 b)) (hg : Wants ops E g) (hdn : Nat.blt d n = true)
  (h : A6 P f n I₀ Q ops l k ((d, .int .i64 (max a b)) :: E) I L) : A6 P f n I₀ Q ops (⟨some d, .call ⟨.builtin .max, #[x, y], tys⟩, ty, pos, af, g⟩ :: l) k E I L :=
 D7 (Aby hx hy) hg hdn h
theorem Bn {c : Operand} {x y : Code} {b : Bool} (hc : Bo E c = some (.bool b)) (hb : b = true) (h : RunS P f n I₀ Q (.code x :: k) E I L) : RunS P f n I₀ Q (.code (.cond c x y) :: k) E I L := by
 subst hb; exact Cm hc h
theorem Co {c : Operand} {x y : Code} {b : Bool} (hc : Bo E c = some (.bool b)) (hb : b = false) (h : RunS P f n I₀ Q (.code y :: k) E I L) : RunS P f n I₀ Q (.code (.cond c x y) :: k) E I L := by
 subst hb; exact A8 hc h
end rules

theorem Lh {P : Program} {I : Heap} {L : Bc} {T : TypeId} {a : Addr} {vs us : List Value} {o : Nat} {fs : Array Field} {s bb : Nat} {z : List Value} [ht : Aq P T (.struct fs) s bb z] (h : Still I a vs) (hc : Lk o s vs = some us) :
  Fc P I L T (a.add o) (.agg us.toArray) := Hz (Ki hc).1 (h.cut hc).reads
structure FormAt (I : Heap) (t : Tree) (oa : Option Addr) (c : Nat) (oaf : Nat → Option Addr) (cf : Nat → Nat) : Prop where
 rep : Rep I t [.string (str t.atom), .slice oa t.parts.length c]
 part : ∀ i (hi : i < t.parts.length), Rep I (t.pt i) [.string (str (t.pt i).atom), .slice (oaf i) (t.pt i).parts.length (cf i)] ∧ Still I ((Ta oa).add (i * 2)) [.string (str (t.pt i).atom), .slice (oaf i) (t.pt i).parts.length (cf i)]
 nil : oa = none → t.parts.length = 0
 len : t.parts.length ≤ Ap
 alen : t.atom.length ≤ Ap
 cap : t.parts.length ≤ c
theorem FormAt.mono {I I' : Heap} (hle : HLe I I') {t : Tree} {oa : Option Addr} {c : Nat} {oaf : Nat → Option Addr} {cf : Nat → Nat} (h : FormAt I t oa c oaf cf) : FormAt I' t oa c oaf cf :=
 ⟨h.rep.mono hle, fun i hi => ⟨(h.part i hi).1.mono hle, (h.part i hi).2.mono hle⟩, h.nil, h.len, h.alen, h.cap⟩
theorem FormAt.st {I : Heap} {t : Tree} {oa : Option Addr} {c : Nat} {oaf : Nat → Option Addr} {cf : Nat → Nat} (h : FormAt I t oa c oaf cf) (i : Nat) (hi : i < t.parts.length) : Still I ((Ta oa).add (i * 2)) [.string (str (t.pt i).atom), .slice (oaf i) (t.pt i).parts.length (cf i)] := (h.part i hi).2
theorem FormAt.rp {I : Heap} {t : Tree} {oa : Option Addr} {c : Nat} {oaf : Nat → Option Addr} {cf : Nat → Nat} (h : FormAt I t oa c oaf cf) (i : Nat) (hi : i < t.parts.length) : Rep I (t.pt i) [.string (str (t.pt i).atom), .slice (oaf i) (t.pt i).parts.length (cf i)] := (h.part i hi).1
theorem Rep.at' {I : Heap} {t : Tree} {cs : List Value} (h : Rep I t cs) : ∃ oa c oaf cf, cs = [.string (str t.atom), .slice oa t.parts.length c] ∧ FormAt I t oa c oaf cf := by
 obtain ⟨oa, c, vs, rfl, hl, hs, hn, hc, ha, hp⟩ := h.open
 have key : ∀ i, ∃ p : Option Addr × Nat, ∀ hi : i < t.parts.length, Rep I (t.pt i) [.string (str (t.pt i).atom), .slice p.1 (t.pt i).parts.length p.2] ∧ Still I ((Ta oa).add (i * 2)) [.string (str (t.pt i).atom), .slice p.1 (t.pt i).parts.length p.2] := by
  intro i
  by_cases hi : i < t.parts.length
  ·obtain ⟨x, rfl, oa', c', h1, h2⟩ := Rep.at hl hs hn i hi; rw [Tree.pt_at hi]
   exact ⟨(oa', c'), fun _ => ⟨h1, h2⟩⟩
  ·exact ⟨(none, 0), fun h => absurd h hi⟩
 exact ⟨oa, c, fun i => (Classical.choose (key i)).1, fun i => (Classical.choose (key i)).2, rfl, h, fun i hi => Classical.choose_spec (key i) hi, fun e => by rw [hn e]; rfl, hp, ha, hc⟩
theorem Rep.atom_le {I : Heap} {t : Tree} {cs : List Value} (h : Rep I t cs) : t.atom.length ≤ Ap := by obtain ⟨_, _, _, _, _, _, _, _, ha, _⟩ := h.open; exact ha
theorem Nums.st {I : Heap} {oa : Option Addr} {l : List Nat} {c : Nat} (h : Nums I oa l c) (i : Nat) (hi : i < l.length) : Still I ((Ta oa).add (i * 1)) [.int .i64 (l.getD i 0 : Nat)] := by
 obtain ⟨x, rfl, hx⟩ := h.at i hi; rw [show l.getD i 0 = l[i] by simp [hi]]; exact hx
theorem Nums.nil' {I : Heap} {oa : Option Addr} {l : List Nat} {c : Nat} (h : Nums I oa l c) (e : oa = Option.none) : l.length = 0 := by rw [h.nil e]; rfl
theorem Strs.st {I : Heap} {oa : Option Addr} {l : List Am} {c : Nat} (h : Strs I oa l c) (i : Nat) (hi : i < l.length) : Still I ((Ta oa).add (i * 1)) [.string (str (l.getD i []))] := by
 obtain ⟨x, rfl, hx⟩ := h.at i hi; rw [show l.getD i [] = l[i] by simp [hi]]; exact hx
theorem Strs.nil' {I : Heap} {oa : Option Addr} {l : List Am} {c : Nat} (h : Strs I oa l c) (e : oa = Option.none) : l.length = 0 := by rw [h.nil e]; rfl
theorem Raw.st {I : Heap} {oa : Option Addr} {l : List Am} {c : Nat} (h : Raw I oa l c) (i : Nat) (hi : i < l.length) : Still I ((Ta oa).add (i * 1)) [.string (str (l.getD i []))] := by
 obtain ⟨x, rfl, hx⟩ := h.at i hi; rw [show l.getD i [] = l[i] by simp [hi]]; exact hx
theorem Raw.nil' {I : Heap} {oa : Option Addr} {l : List Am} {c : Nat} (h : Raw I oa l c) (e : oa = Option.none) : l.length = 0 := by rw [h.nil e]; rfl
set_option maxRecDepth 100000
set_option linter.unusedVariables false
set_option linter.unusedSimpArgs false

theorem Fz {I I' : Heap} {L L₀ : Bc} {v u : Value} (hle : HLe I I') (hm : ∀ w, Mem I' L w → Mem I' L₀ w) (h : v = u) : ∃ I₁ L', HLe I I₁ ∧ (∀ w, Mem I' L w → Mem I₁ L' w) ∧ D1 u I L₀ v I₁ L' :=
 ⟨I, L₀, .refl _, fun w hw => (hm w hw).le hle, h.symm, rfl, rfl⟩
theorem Ld : ∀ (a b : List Tree), Dk (a ++ b) = max (Dk a) (Dk b)
 | [], b => by simp [Dk]
 | t :: a, b => by simp only [List.cons_append, Dk, Ld a b]; omega
theorem Tj (ps : List Tree) (i : Nat) (hi : i < ps.length) : Dk (ps.take (i + 1)) = max (Dk (ps.take i)) ps[i].depth := by
 rw [List.take_succ_eq_append_getElem hi, Ld]; simp [Dk]
theorem Kq : ∀ (a b : List Tree), Fl (a ++ b) = Fl a + Fl b
 | [], b => by simp [Fl]
 | t :: a, b => by simp [Fl, Kq a b]; omega
theorem M6 (ps : List Tree) (i : Nat) (hi : i < ps.length) : Fl (ps.take (i + 1)) = Fl (ps.take i) + ps[i].len + 1 := by
 rw [List.take_succ_eq_append_getElem hi, Kq]; simp [Fl]; omega
theorem Wg (ps : List Tree) (i : Nat) : Fl (ps.take i) ≤ Fl ps := by
 have h := Kq (ps.take i) (ps.drop i)
 rw [List.take_append_drop] at h
 omega
theorem Tree.len_eq (t : Tree) (h : t.parts ≠ []) : t.len = 1 + Fl t.parts := by
 cases t with
 | node a ps => cases ps with
  | nil => exact absurd rfl h
  | cons p ps => rfl
theorem Tree.len_atom (t : Tree) (h : t.parts = []) : t.len = t.atom.length := by
 cases t with
 | node a ps => simp [Tree.parts] at h; subst h; rfl
theorem Tree.depth_eq (t : Tree) (h : t.parts ≠ []) : t.depth = Dk t.parts + 1 := by
 cases t with
 | node a ps => cases ps with
  | nil => exact absurd rfl h
  | cons p ps => rfl
theorem Tree.depth_atom (t : Tree) (h : t.parts = []) : t.depth = 0 := by
 cases t with
 | node a ps => simp [Tree.parts] at h; subst h; rfl
theorem Tree.pt_len (t : Tree) (i : Nat) (hi : i < t.parts.length) : (t.pt i).len + 2 ≤ t.len := by
 rw [Tree.pt_at hi]
 have h1 := Wg t.parts (i + 1)
 rw [M6 _ _ hi] at h1
 have h2 := t.len_eq (by intro e; rw [e] at hi; simp at hi)
 omega
mutual
theorem Tree.depth_len : ∀ t : Tree, t.depth ≤ t.len
 | .node a [] => Nat.zero_le _
 | .node a (p :: ps) => by have := Pe (p :: ps); simp only [Tree.depth, Tree.len, List.isEmpty_cons, cond_false]; omega
theorem Pe : ∀ ts : List Tree, Dk ts ≤ Fl ts
 | [] => Nat.le_refl _
 | t :: ts => by have := t.depth_len; have := Pe ts; simp only [Dk, Fl]; omega
end
mutual
theorem Tree.size_len : ∀ t : Tree, t.size ≤ t.len + 1
 | .node a [] => by simp [Tree.size]
 | .node a (p :: ps) => by have := Rj (p :: ps); simp only [Tree.size, Tree.len, List.isEmpty_cons, cond_false]; omega
theorem Rj : ∀ ts : List Tree, D6 ts ≤ Fl ts
 | [] => Nat.le_refl _
 | t :: ts => by have := t.size_len; have := Rj ts; simp only [D6, Fl]; omega
end

theorem R8 : ∀ (n : Nat) {I : Heap} {t : Tree} {cs : List Value} (_ : SizeOf.sizeOf t < n) (_ : Rep I t cs) (_ : t.len ≤ Ap) (L : Bc),
  Fun Tryz.prog 79 [.agg cs.toArray] I L (D1 (.int .i64 (t.depth : Nat)) I L) := by
 intro n
 induction n with
 | zero => intro I t cs h; omega
 | succ n ihn =>
  intro I t cs hlt h hz L
  unfold Ap at hz
  have hdl := t.depth_len
  obtain ⟨oa, c, oaf, cf, rfl, hf⟩ := h.at'
  have hp := hf.len
  unfold Ap at hp
  refine Aj (by simp) ?_; refine Se rfl ?_; refine Cc rfl rfl .free rfl ?_; intro b1; refine Oa rfl (Aa (Ab (Se rfl ?_))); refine Aw rfl .free rfl ?_; refine Ca rfl (B7 h _) ?_; rintro _ _ _ _ ⟨rfl, rfl, rfl⟩; refine Aa ?_; refine Av rfl ?_ ?_
  ·intro c0
   try simp only [nb] at c0
   refine Se rfl (Oa rfl (Aa (Ag (.tmp rfl .nil) ?_))); refine only rfl ?_; rw [t.depth_atom (by simpa using c0)]; rfl
  intro c0
  try simp only [nb] at c0
  have hne : t.parts ≠ [] := by simpa using c0
  have hsz := t.depth_eq hne
  refine Af (Se rfl (Oa rfl (Aa (Ab (Se rfl (Oh rfl ?_)))))); refine Bg rfl .free rfl ?_; refine On rfl (Om rfl (Aa (Ai ?_))); refine Ct (X := Nat) (fun i => t.parts.length - i) (fun i => [(3, .int .i64 ((Dk (t.parts.take i) : Nat))), (9, .slice oa t.parts.length c), (10, .int .i64 (t.parts.length : Nat)), (11, .int .i64 (i : Nat))]) (fun _ => I) (fun _ => L) (fun i => i ≤ t.parts.length) 0 (by omega) ⟨rfl, rfl, rfl, rfl, trivial⟩ Bt ?_; rintro i hi ih; refine Se rfl (Oc rfl rfl rfl (Aa (Ab ?_))); refine Av rfl ?_ ?_
  ·intro c1
   try simp only [nb] at c1
   refine Af (Ab (Ai (Se rfl ?_)))
   first | refine Bi rfl rfl _ rfl .free rfl ?_ | refine Bj rfl rfl _ rfl .free rfl ?_
   refine Em rfl .free rfl ?_; refine At .free rfl ?_; intro b5; refine Bp rfl rfl rfl rfl .free ?_; refine Aa (Ah rfl (Om rfl ?_)); refine Aw rfl .free rfl ?_; refine Ca rfl (ihn (t := t.pt i) (by have := t.pt_lt i (by omega); omega) (hf.rp i (by omega)) (by have := t.pt_len i (by omega); unfold Ap; omega) _) ?_; rintro _ _ _ _ ⟨rfl, rfl, rfl⟩; refine Abs rfl rfl .free rfl ?_; refine Oa rfl (Aa (Ak (Ah rfl ?_))); refine Or rfl rfl rfl ?_; refine Om rfl (Aa ?_)
   refine C4 Bt (Dr (E' := [(3, .int .i64 ((Dk (t.parts.take (i + 1)) : Nat))), (9, .slice oa t.parts.length c), (10, .int .i64 (t.parts.length : Nat)), (11, .int .i64 ((i + 1 : Nat)))]) ⟨?_, rfl, rfl, rfl, trivial⟩ (ih (i + 1) (by omega) (by omega))); rw [Tj _ _ (by omega), ← Tree.pt_at (by omega)]; refine congrArg (fun z => some (Value.int .i64 z)) ?_; omega
  intro c1
  try simp only [nb] at c1
  obtain rfl : i = t.parts.length := by omega
  simp only [List.take_length]
  refine Bq rfl ?_; refine Se rfl (Om rfl ?_); refine Or rfl rfl rfl ?_; refine Oa rfl (Aa (Ag (.tmp rfl .nil) ?_)); refine only rfl ?_; rw [hsz]; rfl
theorem Qh : ∀ (n : Nat) {I : Heap} {t : Tree} {cs : List Value} (_ : SizeOf.sizeOf t < n) (_ : Rep I t cs) (_ : t.len ≤ Ap) (L : Bc),
  Fun Tryz.prog 80 [.agg cs.toArray] I L (D1 (.int .i64 (t.len : Nat)) I L) := by
 intro n
 induction n with
 | zero => intro I t cs h; omega
 | succ n ihn =>
  intro I t cs hlt h hz L
  unfold Ap at hz
  obtain ⟨oa, c, oaf, cf, rfl, hf⟩ := h.at'
  have hp := hf.len
  unfold Ap at hp
  refine Aj (by simp) ?_; refine Se rfl ?_; refine Cc rfl rfl .free rfl ?_; intro b1; refine Oa rfl (Aa (Ab (Se rfl ?_))); refine Aw rfl .free rfl ?_; refine Ca rfl (B7 h _) ?_; rintro _ _ _ _ ⟨rfl, rfl, rfl⟩; refine Aa ?_; refine Av rfl ?_ ?_
  ·intro c0
   try simp only [nb] at c0
   refine Se rfl (Oh rfl ?_); refine Bg rfl .free rfl ?_; refine C2 rfl .free rfl ?_; refine Oa rfl (Aa (Ag (.tmp rfl .nil) ?_)); refine only rfl ?_; rw [t.len_atom (by simpa using c0)]; rfl
  intro c0
  try simp only [nb] at c0
  have hne : t.parts ≠ [] := by simpa using c0
  have hsz := t.len_eq hne
  refine Af (Se rfl (Oa rfl (Aa (Ab (Se rfl (Oh rfl ?_)))))); refine Bg rfl .free rfl ?_; refine On rfl (Om rfl (Aa (Ai ?_))); refine Ct (X := Nat) (fun i => t.parts.length - i) (fun i => [(3, .int .i64 ((1 + Fl (t.parts.take i) : Nat))), (12, .slice oa t.parts.length c), (13, .int .i64 (t.parts.length : Nat)), (14, .int .i64 (i : Nat))]) (fun _ => I) (fun _ => L) (fun i => i ≤ t.parts.length) 0 (by omega) ⟨rfl, rfl, rfl, rfl, trivial⟩ Bt ?_; rintro i hi ih; refine Se rfl (Oc rfl rfl rfl (Aa (Ab ?_))); refine Av rfl ?_ ?_
  ·intro c1
   try simp only [nb] at c1
   have hll := Wg t.parts (i + 1)
   rw [M6 _ _ (by omega), ← Tree.pt_at (by omega)] at hll; refine Af (Ab (Ai (Se rfl ?_)))
   first | refine Bi rfl rfl _ rfl .free rfl ?_ | refine Bj rfl rfl _ rfl .free rfl ?_
   refine Em rfl .free rfl ?_; refine At .free rfl ?_; intro b5; refine Bp rfl rfl rfl rfl .free ?_; refine Aa (Ah rfl (Om rfl ?_)); refine Aw rfl .free rfl ?_; refine Ca rfl (ihn (t := t.pt i) (by have := t.pt_lt i (by omega); omega) (hf.rp i (by omega)) (by have := t.pt_len i (by omega); unfold Ap; omega) _) ?_; rintro _ _ _ _ ⟨rfl, rfl, rfl⟩; refine Or rfl rfl rfl ?_; refine Or rfl rfl rfl ?_; refine Oa rfl (Aa (Ak (Ah rfl ?_))); refine Or rfl rfl rfl ?_; refine Om rfl (Aa ?_)
   refine C4 Bt (Dr (E' := [(3, .int .i64 ((1 + Fl (t.parts.take (i + 1)) : Nat))), (12, .slice oa t.parts.length c), (13, .int .i64 (t.parts.length : Nat)), (14, .int .i64 ((i + 1 : Nat)))]) ⟨?_, rfl, rfl, rfl, trivial⟩ (ih (i + 1) (by omega) (by omega))); rw [M6 _ _ (by omega), ← Tree.pt_at (by omega)]; refine congrArg (fun z => some (Value.int .i64 z)) ?_; omega
  intro c1
  try simp only [nb] at c1
  obtain rfl : i = t.parts.length := by omega
  simp only [List.take_length]
  refine Bq rfl ?_; refine Se rfl (Om rfl (Oa rfl (Aa (Ag (.tmp rfl .nil) ?_)))); refine only rfl ?_; rw [hsz]; rfl
theorem Tp {I : Heap} {t : Tree} {cs : List Value} (h : Rep I t cs) (hz : t.len ≤ Ap) (L : Bc) : Fun Tryz.prog 54 [.agg cs.toArray] I L (D1 (.bool t.fits) I L) := by
 obtain ⟨oa, c, oaf, cf, rfl, hf⟩ := h.at'; refine Aj (by simp) ?_; refine Se rfl ?_; refine Cc rfl rfl .free rfl ?_; intro b1; refine Oa rfl (Aa (Se rfl ?_)); refine Aw rfl .free rfl ?_; refine Ca rfl (R8 _ (Nat.lt_succ_self _) h hz _) ?_; rintro _ _ _ _ ⟨rfl, rfl, rfl⟩; refine Oc rfl rfl rfl (Om rfl ?_)
 apply D4 6 10 rfl
 ·intro g1_4 hk
  try simp only [nb] at g1_4
  refine Aw rfl (.met rfl rfl) rfl ?_; refine B6 rfl (.met rfl rfl) rfl (Qh _ (Nat.lt_succ_self _) h hz _) ?_; rintro _ _ _ _ ⟨rfl, rfl, rfl⟩; refine C7 rfl rfl rfl (.met rfl rfl) rfl ?_; refine Ot rfl rfl ?_
  exact A0 3 rfl rfl hk
 ·intro _ hk; refine A9 3 rfl ?_; refine Of rfl rfl ?_
  exact A0 3 rfl rfl hk
 refine Oa rfl (Aa (Ag (.tmp rfl .nil) ?_)); refine only rfl ?_; refine congrArg Value.bool ?_; rw [Bool.eq_iff_iff]; simp [Tree.fits]; omega
theorem Lf {I : Heap} {t : Tree} {cs : List Value} (h : Rep I t cs) (L : Bc) : Fun Tryz.prog 56 [.agg cs.toArray] I L (D1 (.bool (t.parts.isEmpty && (Bs t.atom || Cr t.atom))) I L) := by
 obtain ⟨oa, c, oaf, cf, rfl, hf⟩ := h.at'
 have ha := hf.alen
 refine Aj (by simp) ?_; refine Se rfl ?_; refine Cc rfl rfl .free rfl ?_; intro b1; refine Oa rfl (Aa (Se rfl ?_)); refine Aw rfl .free rfl ?_; refine Ca rfl (B7 h _) ?_; rintro _ _ _ _ ⟨rfl, rfl, rfl⟩; refine Om rfl ?_
 apply D4 5 14 rfl
 ·intro g1_3 hk
  try simp only [nb] at g1_3
  refine Bv rfl (.met rfl rfl) rfl ?_; refine Bg rfl (.met rfl rfl) rfl ?_; refine B6 rfl (.met rfl rfl) rfl (Kj t.atom ha _ _) ?_; rintro _ _ _ _ ⟨rfl, rfl, rfl⟩; refine Ow rfl ?_
  apply Fw 9 13 rfl
  ·intro g1_7 hk
   try simp only [nb] at g1_7
   refine Bv rfl (.met rfl rfl) rfl ?_; refine Bg rfl (.met rfl rfl) rfl ?_; refine B6 rfl (.met rfl rfl) rfl (Tu t.atom ha _ _) ?_; rintro _ _ _ _ ⟨rfl, rfl, rfl⟩; refine C1 rfl rfl (.met rfl rfl) rfl ?_
   exact A0 3 rfl rfl hk
  ·intro _ hk; refine A9 3 rfl ?_; refine Dj rfl rfl (.met rfl rfl) rfl ?_
   exact A0 3 rfl rfl hk
  refine Ot rfl rfl ?_
  exact A0 5 rfl rfl hk
 ·intro _ hk; refine A9 8 rfl ?_; refine Of rfl rfl ?_
  exact A0 8 rfl rfl hk
 refine Oa rfl (Aa (Ag (.tmp rfl .nil) ?_)); refine only rfl ?_
 simp [By, *]
end Go.Proofs.YtbohngcdgmjfaaaGreatDoor
