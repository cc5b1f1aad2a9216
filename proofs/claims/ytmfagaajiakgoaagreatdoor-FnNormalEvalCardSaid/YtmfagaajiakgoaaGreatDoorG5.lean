/- From a contract that says 'returns true' to the statement's own words: the arguments as they come in, what is left behind. No conditions. -/
import Derived.Test.YtmfagaajiakgoaaGreatDoorG4
import Derived.Test.YtmfagaajiakgoaaGreatDoorRows
import Derived.ProofKit

namespace Go.Proofs.YtmfagaajiakgoaaGreatDoor
open Go.ChangeShapes Go.WideShapes Go.ChangeAt Go.RowKit Go.ChangeMaps
set_option maxRecDepth 100000
set_option linter.unusedVariables false
set_option linter.unusedSimpArgs false

theorem Ya : laidOutB Tryz.prog = true := by kernel_rfl

def R7 (w : World) : Heap := ⟨fun b => w.heap[b]?, w.os, w.output⟩
theorem Yf (w : World) : Mem (R7 w) [] w := ⟨⟨fun _ _ h => h, rfl, rfl⟩, by simp, by simp⟩
def YES (L : Bj) : Cv := fun v I' L' => v = .bool true ∧ L = L'

section
variable {H : Type} {enc : TypeId × Value → H} {P : Program} {W W' : World}

theorem Qj (h : ∀ (b : Nat) (o : Obj), W.heap[b]? = some o → W'.heap[b]? = some o) {k : Nat} (hk : k < W.heap.size) : W'.heap[k]? = W.heap[k]? := by
 rw [h k _ (Array.getElem?_eq_getElem hk), Array.getElem?_eq_getElem hk]
theorem Yw (h : ∀ (b : Nat) (o : Obj), W.heap[b]? = some o → W'.heap[b]? = some o) {p : MemPlace} (hp : p.block < W.heap.size) : W.sameAt W' p := by
 cases p with
 | cell b off =>
  have := Qj h (k := b) hp
  show W'.cell? _ = W.cell? _
  simp only [World.cell?, this]
 | map b => exact Qj h hp
theorem P4 (hl : laidOutB P = true) (h : ∀ (b : Nat) (o : Obj), W.heap[b]? = some o → W'.heap[b]? = some o) : ∀ {ts : List TypeId} {vs : List Value} {ds : List (DataW H)} {ps : List MemPlace},
  DataW.TrodAll enc P W 0 (fun _ => true) true ts vs ds ps → (∀ t ∈ ts, P.readableRec t = true ∧ t < P.types.size) → (∀ x ∈ ps, x.block < W.heap.size) →
  DataW.TrodAll enc P W' 0 (fun b => decide (b < W.heap.size)) true ts vs ds ps
 | [], [], [], ps, hA, _, _ => hA
 | t :: ts, [], ds, ps, hA, _, _ => by cases ds <;> exact hA.elim
 | t :: ts, v :: vs, [], ps, hA, _, _ => hA.elim
 | [], v :: vs, ds, ps, hA, _, _ => by cases ds <;> exact hA.elim
 | [], [], d :: ds, ps, hA, _, _ => hA.elim
 | t :: ts, v :: vs, d :: ds, ps, hA, hr, hlt => by
  obtain ⟨p, q, h1, h2, rfl⟩ := hA; refine ⟨p, q, ?_, P4 hl h h2 (fun t ht => hr t (.tail _ ht)) (fun x hx => hlt x (List.mem_append_right _ hx)), rfl⟩
  have hp : ∀ x ∈ p, x.block < W.heap.size := fun x hx => hlt x (List.mem_append_left _ hx)
  exact WideElems.Trod_stays hl (hr t (.head _)).1 (hr t (.head _)).2 h1 (fun x hx => Yw h (hp x hx)) (fun x hx => by simpa using hp x hx)
theorem Wc (h : ∀ (b : Nat) (o : Obj), W.heap[b]? = some o → W'.heap[b]? = some o) (ho : W'.os = W.os) (hp : W'.output = W.output) (may : MemPlace → Prop) : W.keptBut W' may := by
 refine ⟨ho, hp, fun i hi => ?_⟩; rw [Qj h hi]
 split <;> simp_all

theorem Aa3 {f : FuncId} {fn : Func} {s : ChangeSpec} {args : Array Value} {ds gs : List (DataW H)} {before : List MemPlace} {tb : TypeId} (hl : laidOutB P = true)
  (hW : DataW.Whole enc P fn.params.toList s.vars false W args.toList ds gs before) (hv : s.vars = []) (hs : s.fn H (ds ++ gs) = { results := [.lit (.bool true)], args := ds })
  (hrt : fn.resultTypes = #[tb]) (htb : P.underlying tb = some .bool) (hrd : ∀ t ∈ fn.params.toList, P.readableRec t = true ∧ t < P.types.size)
  (hc : Fun P f args.toList (R7 W) [] (YES [])) : Calls P f args W fun e W' => ∃ v, e = .returned v ∧ s.post enc P fn false true false false W args v W' := by
 have hc' := hc.run W (Yf W)
 rw [Array.toArray_toList] at hc'; refine hc'.mono fun e W' he => ?_
 obtain ⟨v, I', L', rfl, hle, hm, rfl, rfl⟩ := he
 have hkeep : ∀ (b : Nat) (o : Obj), W.heap[b]? = some o → W'.heap[b]? = some o := fun b o hb => hm.1.1 b o (hle.le b o hb)
 have hlt : ∀ x ∈ before, x.block < W.heap.size := hW.lt
 obtain ⟨p, q, h1, h2, rfl, h4, h5⟩ := id hW; rw [hv] at h2; obtain ⟨rfl, rfl⟩ := trodVars_none h2; refine ⟨_, rfl, ds, [], _, [], p, [], hW, ?_, ?_, ?_, Wc hkeep (hm.1.2.1.trans hle.os) (hm.1.2.2.trans hle.out) _, fun h => by cases h⟩
 ·rw [hs, hrt]
  exact ⟨[], [], shut_bool htb true, rfl, rfl⟩
 ·rw [hs]
  exact P4 hl hkeep h1 hrd (fun x hx => hlt x (List.mem_append_left _ hx))
 ·rw [hs, hv]; rfl

theorem Acs {t e : TypeId} (ht : P.underlying t = some (.slice e)) (he : P.underlying e = some (.int .u8)) (hc : P.cellsOf e = 1) {r : Reach} {b0 : Nat} {v : Value} {d : DataW H} {ps : List MemPlace} {base : Nat} {held : Bool}
  (hval : Value.okWide P W r b0 t v) (hd : DataW.Trod enc P W base (fun _ => true) held t v d ps) : ∃ oa l c, v = .slice oa (List.length l) c ∧ Bytes (R7 W) oa l c := by
 obtain ⟨a0, len, cap, rfl⟩ := okWide_slice ht hval; obtain ⟨fuel, hf⟩ := hd
 rcases open_ints ht he hc hf with ⟨hcs, hx⟩ | ⟨a, len', cap', zs, hcs, _, hl, hm, hz, hx, hcell, hwz⟩
 ·simp [Value.cells] at hcs
  obtain ⟨rfl, rfl, rfl⟩ := hcs
  exact ⟨none, [], 0, rfl, by simp, by simp, by simp, by simp⟩
 ·simp [Value.cells] at hcs
  obtain ⟨rfl, rfl, rfl⟩ := hcs
  simp only [if_true] at hz
  have hlen : ((zs.take len).map fun z => UInt8.ofNat z.toNat).length = len := by simp; omega
  simp only [maxLen] at hm
  refine ⟨some a, (zs.take len).map fun z => UInt8.ofNat z.toNat, cap, by rw [hlen], ⟨?_, by simp, by rw [hlen]; exact hl, by rw [hlen]; omega⟩⟩; rintro x ⟨⟩
  by_cases h0 : len = 0
  ·subst h0; exact .inl Ae
  ·have hsp := World.cell?_spot (hcell 0 Aa)
   have ha0 : a.add 0 = a := by simp [Addr.add]
   rw [ha0] at hsp
   have hb : ∃ cc T fr, W.heap[a.block]? = some (.cells cc T fr) := by
    have := hcell 0 Aa
    rw [ha0] at this
    unfold World.cell? at this
    split at this
    ·exact ⟨_, _, _, by assumption⟩
    ·cases this
   obtain ⟨cc, T, fr, hb⟩ := hb; refine .inr ⟨cc, T, fr, hb, hsp, fun i hi => ?_⟩
   simp only [List.length_map, List.length_take] at hi
   have hi' := hcell i Aa
   have hadd : a.add i = ⟨a.block, a.off + i, none⟩ := by
    unfold Addr.add
    split
    ·subst_vars; rw [← hsp]; rfl
    ·rfl
   rw [hadd] at hi'
   simp only [World.cell?, hb, Option.isSome_none, Bool.false_eq_true, if_false] at hi'
   rw [hi']
   have hsl : i < zs.length := by omega
   have hw := hwz _ (List.getElem_mem hsl)
   have hw2 : 0 ≤ zs[i] ∧ zs[i] ≤ 255 := by simpa [Lit.wf, IntKind.min, IntKind.max, IntKind.signed, IntKind.bits] using hw
   have e : ((zs[i].toNat % 256 : Nat) : Int) = zs[i] := by omega
   simp [bv, hsl, e]
end
set_option maxRecDepth 100000
set_option linter.unusedVariables false
set_option linter.unusedSimpArgs false

section rules
variable {P : Program} {f : FuncId} {n : Nat} {I₀ : Heap} {Q : Cv} {k : List Item} {E : Hg} {I : Heap} {L : Bj}
variable {ops : Array Oper} {d : Nat} {ty : TypeId} {pos : String} {af : Array Edge} {g : Option (Nat × Bool)} {l : List Oper}

theorem Gu {b : Nat} {o : Obj} (h : HLe I (I.set b o) → A8 P f n I₀ Q ops l k E (I.set b o) L) : A8 P f n I₀ Q ops l k E I ((b, o) :: L) :=
 fun a w ha hd he hm => h hm.freeze.2 a w ha hd he hm.freeze.1

theorem Dl {T e : TypeId} {sz bb esz ebb : Nat} {z ez : List Value} {dd : TypeDesc} [ht : At P T (.slice e) sz bb z] [hte : At P e dd esz ebb ez]
  (hg : Wants ops E g) (hdn : Nat.blt d n = true)
  (h : ∀ b, A8 P f n I₀ Q ops l k ((d, .slice (some ⟨b, 0, none⟩) 0 0) :: E) I ((b, .cells [].toArray e (0, 0)) :: L)) :
  A8 P f n I₀ Q ops (⟨some d, .buildSlice T 0 #[], ty, pos, af, g⟩ :: l) k E I L := by
 refine Jo rfl hdn (fun a he => hg.wanted a he) fun a w he hm => ?_
 refine ⟨_, _, I, (w.heap.size, .cells [].toArray e (0, 0)) :: L, ?_, hm.alloc _, h _⟩
 simp only [execOp]
 refine Ag (a := .slice (some ⟨w.heap.size, 0, none⟩) 0 0) (w' := { w with heap := w.heap.push (.cells [].toArray e (0, 0)) }) ?_ |>.trans rfl
 unfold Instr.buildSlice
 rw [Ag (A3 ht.und w)]
 simp only []
 rw [Ag (F1 hte w)]; rw [if_neg Aa, if_pos Aa]
 have e0 : ∀ h : Nat → Value, (Array.range 0).map h = #[] := fun h => by simp
 have e1 : (Array.map (fun x : Nat × Operand => (x.fst, a.eval x.snd)) #[]).toList = [] := by simp
 simp only [pure_bind, Nat.zero_mul, e0, e1]
 rfl

theorem Gt {T T2 e : TypeId} {sz bb esz ebb sz2 bb2 : Nat} {z ez z2 : List Value} {dd dd2 : TypeDesc} [ht : At P T (.slice e) sz bb z] [hte : At P e dd esz ebb ez] [ht2 : At P T2 dd2 sz2 bb2 z2]
  {x y : Operand} {B : Kg} {xs ys : List Value} {m c : Nat} {ad2 : Option Addr} {m2 c2 : Nat} {L₀ : Bj} (hni : ∀ kk, dd2 ≠ .int kk) (hez : ez.length = esz)
  (hx : Ch E x = some (Bm m c B)) (hy : Ch E y = some (.slice ad2 m2 c2)) (hB : Dd esz m c xs B) (hL : ∀ w, Mem I L w → Mem I (A2 e xs B ++ L₀) w)
  (hyl : ys.length = m2 * esz) (hyr : ∀ a, ad2 = some a → He I L₀ a ys) (hyn : ad2 = none → ys = []) (hyp : ys.all C6 = true) (hesz : 0 < esz)
  (hsize : (m + m2) ≤ 4294967296) (hbytes : ebb ≤ 1024) (hg : Wants ops E g) (hdn : Nat.blt d n = true)
  (h : ∀ B' c', Dd esz (m + m2) c' (xs ++ ys) B' → A8 P f n I₀ Q ops l k ((d, Bm (m + m2) c' B') :: E) I (A2 e (xs ++ ys) B' ++ L₀)) :
  A8 P f n I₀ Q ops (⟨some d, .call ⟨.builtin .append, #[x, y], #[T, T2]⟩, T, pos, af, g⟩ :: l) k E I L := by
 by_cases hm2 : 0 < m2
 ·refine D1 hni hez hx hy hB hL hyl hyr hyn hyp hm2 hesz hsize hbytes hg hdn fun b sp c' hB' => ?_
  exact h (some (b, sp)) c' hB'
 ·obtain rfl : m2 = 0 := by omega
  obtain rfl : ys = [] := List.eq_nil_of_length_eq_zero (by simpa using hyl); refine Jo rfl hdn (fun a he => hg.wanted a he) fun a w he hm => ?_
  have hv : ∃ base cc, Bm m c B = .slice base m cc ∧ m ≤ cc ∧ cc = c := by
   cases B with
   | none => obtain ⟨h1, h2, h3⟩ := hB; exact ⟨none, 0, by simp [Bm, h2], by omega, h3.symm⟩
   | some p => exact ⟨_, c, rfl, hB.2.1, rfl⟩
  obtain ⟨base, cc, hbv, hmc, rfl⟩ := hv
  have := Nm (P := P) (T2 := T2) (base := base) (x := .slice ad2 0 c2) (w := w) ht hte ht2.und hni hmc rfl (Hr (hL w hm) hyl (fun a _ v _ i hi => absurd hi Ae) hyn)
  refine ⟨_, w, I, _, ?_, hL w hm, by simpa using h B cc (by simpa using hB)⟩
  simp only [execOp, resolve, List.map_toArray, List.map, he.eval hx, he.eval hy, pure_bind, invoke, builtin, hbv]
  exact Ag this |>.trans rfl
end rules

theorem Cn (l : List As) : (l.map sv).all C6 = true := by simp [sv, C6]
theorem Strs.reads {I : Heap} {L : Bj} {oa : Option Addr} {l : List As} {c : Nat} (h : Strs I oa l c) (a : Addr) (ha : oa = some a) : He I L a (l.map sv) := (h.still a ha).reads
theorem Strs.none {I : Heap} {oa : Option Addr} {l : List As} {c : Nat} (h : Strs I oa l c) (ha : oa = .none) : l.map sv = [] := by rw [h.nil ha]; rfl
theorem Gk {P : Program} {f : FuncId} {n : Nat} {I₀ : Heap} {Q : Cv} {todo : List Item} {E : Hg} {I : Heap} {L : Bj} {e : TypeId} {l : List As} {B : Kg} {m c : Nat}
  (hB : Dd 1 m c (l.map sv) B) (hm : m = l.length) (hlen : l.length ≤ Bg) (hs : ∀ s ∈ l, s.length ≤ Bg)
  (h : ∀ I' oa c', HLe I I' → Bm m c B = .slice oa l.length c' → Strs I' oa l c' → RunS P f n I₀ Q todo E I' L) : RunS P f n I₀ Q todo E I (A2 e (l.map sv) B ++ L) := by
 cases B with
 | none =>
  obtain ⟨h1, h2, h3⟩ := hB; obtain rfl : l = [] := by simpa using h1
  exact h I .none 0 (.refl _) rfl ⟨by simp, by simp, by simp, hlen, hs⟩
 | some p =>
  obtain ⟨b, sp⟩ := p; refine Bu fun hle => h _ (some ⟨b, 0, .none⟩) c hle (by rw [← hm]; rfl) ⟨fun y hy => ?_, by simp, by have := hB.2.1; omega, hlen, hs⟩
  cases hy; exact A9
theorem Strs.drop {I : Heap} {oa : Option Addr} {l : List As} {c : Nat} (h : Strs I oa l c) (a : Nat) (ha : a ≤ l.length) : Strs I (if c = a then oa else oa.map (·.add (a * 1))) (l.drop a) (c - a) := by
 have hcap := h.cap
 refine ⟨fun x hx => ?_, fun hx => ?_, by simp; omega, by have := h.len; simp; omega, fun s hs => h.each s (List.mem_of_mem_drop hs)⟩
 ·by_cases hc : c = a
  ·have : l.drop a = [] := List.drop_eq_nil_of_le Aa
   rw [this]; exact .inl rfl
  ·rw [if_neg hc] at hx
   cases oa with
   | none => cases hx
   | some y =>
    cases hx
    refine (h.still y rfl).part (a * 1) ?_; intro j hj
    simp only [List.length_map, List.length_drop] at hj
    simp [Nat.mul_one, show a + j < l.length by omega]
 ·by_cases hc : c = a
  ·exact List.drop_eq_nil_of_le Aa
  ·rw [if_neg hc] at hx
   cases oa with
   | none => rw [h.nil rfl]; simp
   | some y => cases hx
set_option maxRecDepth 100000
set_option linter.unusedVariables false
set_option linter.unusedSimpArgs false

section rules
variable {P : Program} {f : FuncId} {n : Nat} {I₀ : Heap} {Q : Cv} {k : List Item} {E : Hg} {I : Heap} {L : Bj}
variable {ops : Array Oper} {d : Nat} {ty : TypeId} {pos : String} {af : Array Edge} {g : Option (Nat × Bool)} {l : List Oper}
theorem Zu {T T' : TypeId} {x y : Operand} {a b : Nat} (hx : Ch E x = some (.int .u8 (a : Nat))) (hy : Ch E y = some (.int .u8 (b : Nat))) (hab : b ≤ a) (ha : a ≤ 255) (hg : Wants ops E g) (hdn : Nat.blt d n = true)
  (h : A8 P f n I₀ Q ops l k ((d, .int .u8 ((a - b : Nat))) :: E) I L) : A8 P f n I₀ Q ops (⟨some d, .binOp .sub T x y T', ty, pos, af, g⟩ :: l) k E I L :=
 Es (fun ac w he _ => by
  simp only [execOp, he.eval hx, he.eval hy]
  refine Ag (a := _) (w' := w) ?_ |>.trans rfl
  rw [Ag (F0 w)]
  have e : IntKind.u8.wrap ((a : Int) - (b : Int)) = ((a - b : Nat) : Int) := by
   simp [IntKind.wrap, IntKind.bits, IntKind.signed]; omega
  simp [binOp, Op.intArith, e]) hg hdn h
end rules

def Ef (s : As) : As := if (s.getD 0 0).toNat = 45 then s.drop 1 else s
def Ci (s : As) : Bool := decide (s = [48]) || (decide (1 ≤ (Ef s).length ∧ (Ef s).length ≤ 3) && (Ef s).all E6 && !decide (((Ef s).getD 0 0).toNat = 48))
def Fb (l : As) : Nat := l.foldl (fun n b => 10 * n + (b.toNat - 48)) 0
def Fq (s : As) : Int := if s = [48] then 0 else (if (s.getD 0 0).toNat = 45 then -1 else 1) * (Fb (Ef s) : Nat)

theorem Kl (s : As) (i : Nat) (hi : i < s.length) : Fb (s.take (i + 1)) = 10 * Fb (s.take i) + ((s.getD i 0).toNat - 48) := by
 have e : s.getD i 0 = s[i] := by simp [hi]
 rw [List.take_succ_eq_append_getElem hi, e, Fb, List.foldl_append]
 rfl
theorem V0 : ∀ (l : As), Fb l + 1 ≤ 256 * 256 ^ l.length := by
 intro l
 have key : ∀ (l : As) (a : Nat), l.foldl (fun n b => 10 * n + (b.toNat - 48)) a + 1 ≤ (a + 1) * 256 ^ l.length * 256 := by
  intro l
  induction l with
  | nil => intro a; simp; omega
  | cons b r ih =>
   intro a
   have hb := UInt8.toNat_lt b
   refine Nat.le_trans (ih _) ?_; rw [List.length_cons, Nat.pow_succ]
   have h1 : 10 * a + (b.toNat - 48) + 1 ≤ (a + 1) * 256 := by omega
   calc (10 * a + (b.toNat - 48) + 1) * 256 ^ r.length * 256 ≤ ((a + 1) * 256) * 256 ^ r.length * 256 := Nat.mul_le_mul_right _ (Nat.mul_le_mul_right _ h1)
    _ = (a + 1) * (256 ^ r.length * 256) * 256 := by rw [Nat.mul_assoc (a + 1) 256, Nat.mul_comm 256 (256 ^ r.length)]
 have := key l 0
 simp only [Fb]
 omega

theorem Lj (s p : As) (hs : s.length ≤ Bg) (hp : p.length ≤ Bg) (I : Heap) (L : Bj) : Fun Tryz.prog 155 [.string (str s), .string (str p)] I L (E2 (.string (str (if p.isPrefixOf s then s.drop p.length else s))) I L) := by
 unfold Bg at hs hp
 refine Ao Ae ?_; refine Se rfl (Oa rfl (Ab (Ah (Se rfl (Om rfl (Om rfl ?_)))))); refine Ca rfl (It s p hs hp _ _) ?_; rintro _ _ _ _ ⟨rfl, rfl, rfl⟩; refine Ab ?_; refine Si rfl ?_ ?_
 ·intro c0
  have hlen : p.length ≤ s.length := by
   have := (List.isPrefixOf_iff_prefix.1 c0).length_le; exact this
  refine Se rfl (Om rfl (Om rfl ?_)); refine Dh rfl .free rfl ?_; refine Kf rfl rfl _ rfl Bx .free rfl ?_; refine Oa rfl (Ab (Am (.tmp rfl .nil) ?_)); refine only rfl ?_
  simp [C2, c0]
 intro c0; refine Ak (Se rfl (Om rfl (Oa rfl (Ab (Am (.tmp rfl .nil) ?_))))); refine only rfl ?_
 simp [C2, c0]
theorem Na (s p : As) (hs : s.length ≤ Bg) (hp : p.length ≤ Bg) (I : Heap) (L : Bj) : Fun Tryz.prog 111 [.string (str s), .string (str p)] I L (E2 (.string (str (if p.isPrefixOf s then s.drop p.length else s))) I L) := by
 unfold Bg at hs hp
 refine Ao Ae ?_; refine Se rfl (Oa rfl (Ab (Se rfl (Om rfl (Om rfl ?_))))); refine Ca rfl (Lj s p hs hp _ _) ?_; rintro _ _ _ _ ⟨rfl, rfl, rfl⟩; refine Oa rfl (Ab (Am (.tmp rfl .nil) ?_)); refine only rfl ?_
 simp [C2, *]
theorem Z5 (s : As) : (if [45].isPrefixOf s then s.drop [45].length else s) = Ef s := by
 cases s with
 | nil => rfl
 | cons b r =>
  have : ([45].isPrefixOf (b :: r) = true) = (b.toNat = 45) := by
   rw [eq_iff_iff, List.isPrefixOf_iff_prefix]
   simp only [List.cons_prefix_cons, List.nil_prefix, and_true]
   exact ⟨fun h => by rw [← h]; rfl, fun h => UInt8.toNat_inj.1 (by rw [h]; rfl)⟩
  simp [Ef, this]
theorem Xs (s : As) (hs : s.length ≤ Bg) (I : Heap) (L : Bj) : Fun Tryz.prog 63 [.string (str s)] I L (E2 (.bool (Ci s)) I L) := by
 have hu : (Ef s).length ≤ s.length := by unfold Ef; split <;> simp
 unfold Bg at hs
 refine Ao Ae ?_; refine Se rfl (Oa rfl (Ab (Se rfl (Om rfl ?_)))); refine Ca rfl ((Z5 s) ▸ Na s [45] C3 Ad _ _) ?_; rintro _ _ _ _ ⟨rfl, rfl, rfl⟩; refine Oa rfl (Ab (Se rfl (Om rfl (Od rfl rfl rfl (Om rfl ?_)))))
 first | refine Ho rfl rfl ?_ ?_ | refine Fp rfl rfl ?_ ?_ | refine Nd rfl rfl ?_ ?_
 ·intro g2_3
  iterate 4 refine Cy rfl rfl rfl ?_
  refine Mq rfl rfl rfl ?_; refine Mq rfl rfl rfl ?_; refine Cy rfl rfl rfl ?_; refine Cy rfl rfl rfl ?_
  iterate 3 refine Mq rfl rfl rfl ?_
  refine Cy rfl rfl rfl ?_; refine Ot rfl rfl (Oa rfl (Ab (Am (.tmp rfl .nil) ?_))); refine only rfl ?_; refine congrArg Value.bool ?_; simp only [Ci]; grind
 intro g2_3; refine Ow rfl ?_; refine Dh rfl (.met rfl rfl) rfl ?_; refine Cx rfl (.met rfl rfl) rfl (Po ..) ?_; rintro _ _ _ _ ⟨rfl, rfl, rfl⟩; refine Ow rfl ?_
 first | refine Ho rfl rfl ?_ ?_ | refine Fp rfl rfl ?_ ?_ | refine Nd rfl rfl ?_ ?_
 ·intro g2_7; refine Ow rfl ?_; refine Cx rfl (.met rfl rfl) rfl (Rg (Ef s) C3 _ _) ?_; rintro _ _ _ _ ⟨rfl, rfl, rfl⟩; refine Em rfl rfl (.met rfl rfl) rfl ?_; refine Ow rfl ?_
  first | refine Ho rfl rfl ?_ ?_ | refine Fp rfl rfl ?_ ?_ | refine Nd rfl rfl ?_ ?_
  ·intro g2_11; refine Ow rfl ?_; refine D9 (i := 0) rfl rfl rfl Bx (.met rfl rfl) rfl ?_; refine D8 rfl rfl rfl (.met rfl rfl) rfl ?_; refine Em rfl rfl (.met rfl rfl) rfl ?_; refine Of rfl rfl (Oa rfl (Ab (Am (.tmp rfl .nil) ?_))); refine only rfl ?_; refine congrArg Value.bool ?_; simp only [Ci]; grind
  intro g2_11
  iterate 3 refine Cy rfl rfl rfl ?_
  refine D5 rfl rfl (.met rfl rfl) rfl ?_; refine Of rfl rfl (Oa rfl (Ab (Am (.tmp rfl .nil) ?_))); refine only rfl ?_; refine congrArg Value.bool ?_; simp only [Ci]; grind
 intro g2_7; refine Cy rfl rfl rfl ?_; refine Cy rfl rfl rfl ?_; refine D5 rfl rfl (.met rfl rfl) rfl ?_; refine Ow rfl ?_
 iterate 3 refine Cy rfl rfl rfl ?_
 refine D5 rfl rfl (.met rfl rfl) rfl ?_; refine Of rfl rfl (Oa rfl (Ab (Am (.tmp rfl .nil) ?_))); refine only rfl ?_; refine congrArg Value.bool ?_; simp only [Ci]; grind

def NR (s : As) (I : Heap) (L : Bj) : Cv := E2 (.tuple #[.int .i64 (bif Ci s then Fq s else 0), .bool (Ci s)]) I L
theorem Lh (l : As) (h : l.length ≤ 3) : Fb l ≤ 4294967296 := by
 have h1 := V0 l
 have h2 : 256 ^ l.length ≤ 256 ^ 3 := Nat.pow_le_pow_right Ad h
 have h3 : 256 * 256 ^ l.length ≤ 256 * 256 ^ 3 := Nat.mul_le_mul_left _ h2
 omega
theorem Zm         (s : As ) (hs : s.length ≤ Bg  ) (I : Heap) (L : Bj ) : Fun Tryz.prog 98 [.string (str s)] I L (NR s I L) := by
  unfold Bg   at hs
  have hu : (Ef     s).length ≤ s.length := by unfold Ef    ; split <;> simp
  refine Ao        (by simp) ?_
  refine Se rfl (Oa rfl (Oa rfl (Ab     (Se rfl (Oa rfl (Ab     (Se rfl (Om rfl (Oa rfl (Ab     (Ah    (Se rfl (Om rfl ?_)))))))))))))
  refine Dh        rfl .free rfl ?_
  refine Oc rfl rfl rfl (Om rfl ?_)
  first | refine Ho   rfl rfl ?_ ?_ | refine Fp    rfl rfl ?_ ?_ | refine Nd  rfl rfl ?_ ?_
  · intro g3_4
    refine Ow rfl ?_
    refine D9      (i := 0) rfl rfl rfl (by first | omega | exact Fx    (by assumption) (by decide) | (simp; done) | (simp; omega) | decide | (simp at *; omega)) (.met rfl rfl) rfl ?_
    refine D8    rfl rfl rfl (.met rfl rfl) rfl ?_
    refine Ot rfl rfl (Ab     ?_)
    refine Si rfl ?_ ?_
    · intro c0
      refine Se rfl (Oa rfl (Ab     (Al      rfl (Om rfl ?_))))
      refine Kf           rfl rfl 1 rfl (by first | omega | exact Fx    (by assumption) (by decide) | (simp; done) | (simp; omega) | decide | (simp at *; omega)) .free rfl ?_
      refine Oa rfl (Ab     (Ah    (Ah    ?_)))
      obtain ⟨sg, hsg, hsn⟩ : ∃ sg : Int, sg = (if (s.getD 0 0).toNat = 45 then -1 else 1) ∧ (sg = 1 ∨ sg = -1) := ⟨_, rfl, by split <;> simp⟩
      have hneg : (s.getD 0 0).toNat = 45 ∨ ¬ (s.getD 0 0).toNat = 45 := by omega
      refine Ed    (E' := [(0, .string (str s)), (4, .int .i64 sg), (5, .string (str (Ef     s)))]) (by
        first
          | (rw [show Ef     s = s.drop 1 from if_pos (by omega), show sg = -1 by rw [hsg, if_pos (by omega)]]; exact ⟨rfl, rfl, rfl, trivial⟩)
          | (have hn : ¬ (s.getD 0 0).toNat = 45 := by
               first | omega | (have h0 : s = [] := by cases s with
                                  | nil => rfl
                                  | cons => simp at *
                                rw [h0]; decide)
             rw [show Ef     s = s from if_neg hn, show sg = 1 by rw [hsg, if_neg hn]]; exact ⟨rfl, rfl, rfl, trivial⟩)) ?_
      generalize hd : Ef     s = ds at *
      refine Al      rfl (Om rfl (Od rfl rfl rfl (Ab     ?_)))
      refine Si rfl ?_ ?_
      · intro c1
        refine Se rfl (Oa rfl (Oa rfl (Ab     ?_)))
        refine Am    (.tmp rfl (.tmp rfl .nil)) ?_
        refine only rfl ?_
        rw [‹s = [48]›]; rfl
      intro c1
      refine Ak     (Ah    (Se rfl (Om rfl ?_)))
      refine Dh        rfl .free rfl ?_
      refine Ca rfl (Wb     ..) ?_
      rintro _ _ _ _ ⟨rfl, rfl, rfl⟩
      refine Ei    rfl .free rfl ?_
      refine Om rfl ?_
      first | refine Ho   rfl rfl ?_ ?_ | refine Fp    rfl rfl ?_ ?_ | refine Nd  rfl rfl ?_ ?_
      · intro g8_5
        iterate 3 refine Cy     rfl rfl rfl ?_
        refine Ot rfl rfl (Ab     ?_)
        refine B9     rfl ?_
        refine Se rfl (Oa rfl (Oa rfl (Ab     ?_)))
        refine Am    (.tmp rfl (.tmp rfl .nil)) ?_
        refine only rfl ?_
        have hf : Ci    s = false := by simp only [Ci   , hd]; grind
        rw [hf]; rfl
      intro g8_5
      refine Ow rfl ?_
      refine D9      (i := 0) rfl rfl rfl (by first | omega | exact Fx    (by assumption) (by decide) | (simp; done) | (simp; omega) | decide | (simp at *; omega)) (.met rfl rfl) rfl ?_
      refine D8    rfl rfl rfl (.met rfl rfl) rfl ?_
      refine Of rfl rfl (Ab     ?_)
      refine Si rfl ?_ ?_
      · intro c2
        refine Se rfl (Oa rfl (Oa rfl (Ab     ?_)))
        refine Am    (.tmp rfl (.tmp rfl .nil)) ?_
        refine only rfl ?_
        have hf : Ci    s = false := by simp only [Ci   , hd]; grind
        rw [hf]; rfl
      intro c2
      refine Ak     (Se rfl (Oa rfl (Ab     (Ah    (Se rfl (Oa rfl (Ab     (Aq      ?_))))))))
      have hl3 : ds.length ≤ 3 ∧ 1 ≤ ds.length := by grind
      refine Dn      (X := Nat) (fun i => ds.length - i) (fun i => [(4, .int .i64 sg), (5, .string (str ds)), (6, .int .i64 (Fb        (ds.take i) : Nat)), (7, .int .i64 (i : Nat))]) (fun _ => I) (fun _ => L) (fun i => i ≤ ds.length ∧ (ds.take i).all E6    = true) 0 ⟨by omega, by simp⟩ ⟨rfl, rfl, rfl, rfl, trivial⟩ Cl    ?_
      rintro i ⟨hi, hall⟩ ih
      have hv := Lh            (ds.take i) (by simp; omega)
      refine Ah    (Se rfl (Om rfl (Om rfl ?_)))
      refine Dh        rfl .free rfl ?_
      refine Oc rfl rfl rfl (Ab     ?_)
      refine Si rfl ?_ ?_
      · intro c3
        refine Ak     (Ah    (Aq      (Ah    (Se rfl (Om rfl (Om rfl ?_))))))
        refine D9      rfl rfl rfl (by first | omega | exact Fx    (by assumption) (by decide) | (simp; done) | (simp; omega) | decide | (simp at *; omega)) .free rfl ?_
        refine Oc rfl rfl rfl (Om rfl ?_)
        first | refine Ho   rfl rfl ?_ ?_ | refine Fp    rfl rfl ?_ ?_ | refine Nd  rfl rfl ?_ ?_
        · intro g14_5
          iterate 4 refine Cy     rfl rfl rfl ?_
          refine Ot rfl rfl (Ab     ?_)
          refine B9     rfl ?_
          refine Se rfl (Oa rfl (Oa rfl (Ab     ?_)))
          refine Am    (.tmp rfl (.tmp rfl .nil)) ?_
          refine only rfl ?_
          have hf : Ci    s = false := by
            have := Ip        (p := E6   ) (show i < ds.length by omega) (by rw [Gq       ]; exact decide_eq_false (by omega))
            simp only [Ci   , hd]; grind
          rw [hf]; rfl
        intro g14_5
        refine Ow rfl (Ow rfl ?_)
        refine D9      rfl rfl rfl (by first | omega | exact Fx    (by assumption) (by decide) | (simp; done) | (simp; omega) | decide | (simp at *; omega)) (.met rfl rfl) rfl ?_
        refine D8    rfl rfl rfl (.met rfl rfl) rfl ?_
        refine Of rfl rfl (Ab     ?_)
        refine Si rfl ?_ ?_
        · intro c4
          refine Se rfl (Oa rfl (Oa rfl (Ab     ?_)))
          refine Am    (.tmp rfl (.tmp rfl .nil)) ?_
          refine only rfl ?_
          have hf : Ci    s = false := by
            have := Ip        (p := E6   ) (show i < ds.length by omega) (by rw [Gq       ]; exact decide_eq_false (by omega))
            simp only [Ci   , hd]; grind
          rw [hf]; rfl
        intro c4
        refine Ak     (Al      rfl (Om rfl ?_))
        refine Or rfl rfl rfl ?_
        refine Om rfl (Om rfl ?_)
        refine D9      rfl rfl rfl (by first | omega | exact Fx    (by assumption) (by decide) | (simp; done) | (simp; omega) | decide | (simp at *; omega)) .free rfl ?_
        refine Zu     (b := 48) rfl rfl (by omega) (by have := UInt8.toNat_lt (ds.getD i 0); omega) .free rfl ?_
        refine N3        rfl (by first | exact UInt8.toNat_lt _ | omega) .free rfl ?_
        refine Or rfl rfl rfl ?_
        refine Oa rfl (Ab     (Ap        (Al      rfl (Om rfl ?_))))
        refine Or rfl rfl rfl ?_
        refine Oa rfl (Ab     ?_)
        refine Ed    (E' := [(4, .int .i64 sg), (5, .string (str ds)), (6, .int .i64 (Fb        (ds.take (i + 1)) : Nat)), (7, .int .i64 ((i + 1 : Nat)))]) ⟨rfl, rfl, ?_, rfl, trivial⟩ (ih (i + 1) ⟨by omega, K0       hall (by omega) (by rw [Gq       ]; exact decide_eq_true (by omega))⟩ (by omega))
        rw [Kl             ds i (by omega)]
        rfl
      intro c3
      refine Cc     rfl ?_
      refine Se rfl (Om rfl (Om rfl ?_))
      refine N2      rfl rfl rfl (by rcases hsn with h | h <;> rw [h] <;> omega) .free rfl ?_
      refine Oa rfl (Oa rfl (Ab     ?_))
      refine Am    (.tmp rfl (.tmp rfl .nil)) ?_
      refine only rfl ?_
      have hil : i = ds.length := by omega
      subst hil
      rw [List.take_length] at hall
      have ht : Ci    s = true := by simp only [Ci   , hd]; grind
      rw [ht, List.take_length, hsg]
      simp only [Fq    , hd, if_neg c1, cond_true]
      rfl
    intro c0
    refine Ak     (Ah    (Ah    ?_))
    obtain ⟨sg, hsg, hsn⟩ : ∃ sg : Int, sg = (if (s.getD 0 0).toNat = 45 then -1 else 1) ∧ (sg = 1 ∨ sg = -1) := ⟨_, rfl, by split <;> simp⟩
    have hneg : (s.getD 0 0).toNat = 45 ∨ ¬ (s.getD 0 0).toNat = 45 := by omega
    refine Ed    (E' := [(0, .string (str s)), (4, .int .i64 sg), (5, .string (str (Ef     s)))]) (by
      first
        | (rw [show Ef     s = s.drop 1 from if_pos (by omega), show sg = -1 by rw [hsg, if_pos (by omega)]]; exact ⟨rfl, rfl, rfl, trivial⟩)
        | (have hn : ¬ (s.getD 0 0).toNat = 45 := by
             first | omega | (have h0 : s = [] := by cases s with
                                | nil => rfl
                                | cons => simp at *
                              rw [h0]; decide)
           rw [show Ef     s = s from if_neg hn, show sg = 1 by rw [hsg, if_neg hn]]; exact ⟨rfl, rfl, rfl, trivial⟩)) ?_
    generalize hd : Ef     s = ds at *
    refine Al      rfl (Om rfl (Od rfl rfl rfl (Ab     ?_)))
    refine Si rfl ?_ ?_
    · intro c1
      refine Se rfl (Oa rfl (Oa rfl (Ab     ?_)))
      refine Am    (.tmp rfl (.tmp rfl .nil)) ?_
      refine only rfl ?_
      rw [‹s = [48]›]; rfl
    intro c1
    refine Ak     (Ah    (Se rfl (Om rfl ?_)))
    refine Dh        rfl .free rfl ?_
    refine Ca rfl (Wb     ..) ?_
    rintro _ _ _ _ ⟨rfl, rfl, rfl⟩
    refine Ei    rfl .free rfl ?_
    refine Om rfl ?_
    first | refine Ho   rfl rfl ?_ ?_ | refine Fp    rfl rfl ?_ ?_ | refine Nd  rfl rfl ?_ ?_
    · intro g8_5
      iterate 3 refine Cy     rfl rfl rfl ?_
      refine Ot rfl rfl (Ab     ?_)
      refine B9     rfl ?_
      refine Se rfl (Oa rfl (Oa rfl (Ab     ?_)))
      refine Am    (.tmp rfl (.tmp rfl .nil)) ?_
      refine only rfl ?_
      have hf : Ci    s = false := by simp only [Ci   , hd]; grind
      rw [hf]; rfl
    intro g8_5
    refine Ow rfl ?_
    refine D9      (i := 0) rfl rfl rfl (by first | omega | exact Fx    (by assumption) (by decide) | (simp; done) | (simp; omega) | decide | (simp at *; omega)) (.met rfl rfl) rfl ?_
    refine D8    rfl rfl rfl (.met rfl rfl) rfl ?_
    refine Of rfl rfl (Ab     ?_)
    refine Si rfl ?_ ?_
    · intro c2
      refine Se rfl (Oa rfl (Oa rfl (Ab     ?_)))
      refine Am    (.tmp rfl (.tmp rfl .nil)) ?_
      refine only rfl ?_
      have hf : Ci    s = false := by simp only [Ci   , hd]; grind
      rw [hf]; rfl
    intro c2
    refine Ak     (Se rfl (Oa rfl (Ab     (Ah    (Se rfl (Oa rfl (Ab     (Aq      ?_))))))))
    have hl3 : ds.length ≤ 3 ∧ 1 ≤ ds.length := by grind
    refine Dn      (X := Nat) (fun i => ds.length - i) (fun i => [(4, .int .i64 sg), (5, .string (str ds)), (6, .int .i64 (Fb        (ds.take i) : Nat)), (7, .int .i64 (i : Nat))]) (fun _ => I) (fun _ => L) (fun i => i ≤ ds.length ∧ (ds.take i).all E6    = true) 0 ⟨by omega, by simp⟩ ⟨rfl, rfl, rfl, rfl, trivial⟩ Cl    ?_
    rintro i ⟨hi, hall⟩ ih
    have hv := Lh            (ds.take i) (by simp; omega)
    refine Ah    (Se rfl (Om rfl (Om rfl ?_)))
    refine Dh        rfl .free rfl ?_
    refine Oc rfl rfl rfl (Ab     ?_)
    refine Si rfl ?_ ?_
    · intro c3
      refine Ak     (Ah    (Aq      (Ah    (Se rfl (Om rfl (Om rfl ?_))))))
      refine D9      rfl rfl rfl (by first | omega | exact Fx    (by assumption) (by decide) | (simp; done) | (simp; omega) | decide | (simp at *; omega)) .free rfl ?_
      refine Oc rfl rfl rfl (Om rfl ?_)
      first | refine Ho   rfl rfl ?_ ?_ | refine Fp    rfl rfl ?_ ?_ | refine Nd  rfl rfl ?_ ?_
      · intro g14_5
        iterate 4 refine Cy     rfl rfl rfl ?_
        refine Ot rfl rfl (Ab     ?_)
        refine B9     rfl ?_
        refine Se rfl (Oa rfl (Oa rfl (Ab     ?_)))
        refine Am    (.tmp rfl (.tmp rfl .nil)) ?_
        refine only rfl ?_
        have hf : Ci    s = false := by
          have := Ip        (p := E6   ) (show i < ds.length by omega) (by rw [Gq       ]; exact decide_eq_false (by omega))
          simp only [Ci   , hd]; grind
        rw [hf]; rfl
      intro g14_5
      refine Ow rfl (Ow rfl ?_)
      refine D9      rfl rfl rfl (by first | omega | exact Fx    (by assumption) (by decide) | (simp; done) | (simp; omega) | decide | (simp at *; omega)) (.met rfl rfl) rfl ?_
      refine D8    rfl rfl rfl (.met rfl rfl) rfl ?_
      refine Of rfl rfl (Ab     ?_)
      refine Si rfl ?_ ?_
      · intro c4
        refine Se rfl (Oa rfl (Oa rfl (Ab     ?_)))
        refine Am    (.tmp rfl (.tmp rfl .nil)) ?_
        refine only rfl ?_
        have hf : Ci    s = false := by
          have := Ip        (p := E6   ) (show i < ds.length by omega) (by rw [Gq       ]; exact decide_eq_false (by omega))
          simp only [Ci   , hd]; grind
        rw [hf]; rfl
      intro c4
      refine Ak     (Al      rfl (Om rfl ?_))
      refine Or rfl rfl rfl ?_
      refine Om rfl (Om rfl ?_)
      refine D9      rfl rfl rfl (by first | omega | exact Fx    (by assumption) (by decide) | (simp; done) | (simp; omega) | decide | (simp at *; omega)) .free rfl ?_
      refine Zu     (b := 48) rfl rfl (by omega) (by have := UInt8.toNat_lt (ds.getD i 0); omega) .free rfl ?_
      refine N3        rfl (by first | exact UInt8.toNat_lt _ | omega) .free rfl ?_
      refine Or rfl rfl rfl ?_
      refine Oa rfl (Ab     (Ap        (Al      rfl (Om rfl ?_))))
      refine Or rfl rfl rfl ?_
      refine Oa rfl (Ab     ?_)
      refine Ed    (E' := [(4, .int .i64 sg), (5, .string (str ds)), (6, .int .i64 (Fb        (ds.take (i + 1)) : Nat)), (7, .int .i64 ((i + 1 : Nat)))]) ⟨rfl, rfl, ?_, rfl, trivial⟩ (ih (i + 1) ⟨by omega, K0       hall (by omega) (by rw [Gq       ]; exact decide_eq_true (by omega))⟩ (by omega))
      rw [Kl             ds i (by omega)]
      rfl
    intro c3
    refine Cc     rfl ?_
    refine Se rfl (Om rfl (Om rfl ?_))
    refine N2      rfl rfl rfl (by rcases hsn with h | h <;> rw [h] <;> omega) .free rfl ?_
    refine Oa rfl (Oa rfl (Ab     ?_))
    refine Am    (.tmp rfl (.tmp rfl .nil)) ?_
    refine only rfl ?_
    have hil : i = ds.length := by omega
    subst hil
    rw [List.take_length] at hall
    have ht : Ci    s = true := by simp only [Ci   , hd]; grind
    rw [ht, List.take_length, hsg]
    simp only [Fq    , hd, if_neg c1, cond_true]
    rfl
  intro g3_4
  iterate 3 refine Cy     rfl rfl rfl ?_
  refine Of rfl rfl (Ab     ?_)
  refine A0      rfl ?_
  refine Ak     (Ah    (Ah    ?_))
  obtain ⟨sg, hsg, hsn⟩ : ∃ sg : Int, sg = (if (s.getD 0 0).toNat = 45 then -1 else 1) ∧ (sg = 1 ∨ sg = -1) := ⟨_, rfl, by split <;> simp⟩
  have hneg : (s.getD 0 0).toNat = 45 ∨ ¬ (s.getD 0 0).toNat = 45 := by omega
  refine Ed    (E' := [(0, .string (str s)), (4, .int .i64 sg), (5, .string (str (Ef     s)))]) (by
    first
      | (rw [show Ef     s = s.drop 1 from if_pos (by omega), show sg = -1 by rw [hsg, if_pos (by omega)]]; exact ⟨rfl, rfl, rfl, trivial⟩)
      | (have hn : ¬ (s.getD 0 0).toNat = 45 := by
           first | omega | (have h0 : s = [] := by cases s with
                              | nil => rfl
                              | cons => simp at *
                            rw [h0]; decide)
         rw [show Ef     s = s from if_neg hn, show sg = 1 by rw [hsg, if_neg hn]]; exact ⟨rfl, rfl, rfl, trivial⟩)) ?_
  generalize hd : Ef     s = ds at *
  refine Al      rfl (Om rfl (Od rfl rfl rfl (Ab     ?_)))
  refine Si rfl ?_ ?_
  · intro c1
    refine Se rfl (Oa rfl (Oa rfl (Ab     ?_)))
    refine Am    (.tmp rfl (.tmp rfl .nil)) ?_
    refine only rfl ?_
    rw [‹s = [48]›]; rfl
  intro c1
  refine Ak     (Ah    (Se rfl (Om rfl ?_)))
  refine Dh        rfl .free rfl ?_
  refine Ca rfl (Wb     ..) ?_
  rintro _ _ _ _ ⟨rfl, rfl, rfl⟩
  refine Ei    rfl .free rfl ?_
  refine Om rfl ?_
  first | refine Ho   rfl rfl ?_ ?_ | refine Fp    rfl rfl ?_ ?_ | refine Nd  rfl rfl ?_ ?_
  · intro g8_5
    iterate 3 refine Cy     rfl rfl rfl ?_
    refine Ot rfl rfl (Ab     ?_)
    refine B9     rfl ?_
    refine Se rfl (Oa rfl (Oa rfl (Ab     ?_)))
    refine Am    (.tmp rfl (.tmp rfl .nil)) ?_
    refine only rfl ?_
    have hf : Ci    s = false := by simp only [Ci   , hd]; grind
    rw [hf]; rfl
  intro g8_5
  refine Ow rfl ?_
  refine D9      (i := 0) rfl rfl rfl (by first | omega | exact Fx    (by assumption) (by decide) | (simp; done) | (simp; omega) | decide | (simp at *; omega)) (.met rfl rfl) rfl ?_
  refine D8    rfl rfl rfl (.met rfl rfl) rfl ?_
  refine Of rfl rfl (Ab     ?_)
  refine Si rfl ?_ ?_
  · intro c2
    refine Se rfl (Oa rfl (Oa rfl (Ab     ?_)))
    refine Am    (.tmp rfl (.tmp rfl .nil)) ?_
    refine only rfl ?_
    have hf : Ci    s = false := by simp only [Ci   , hd]; grind
    rw [hf]; rfl
  intro c2
  refine Ak     (Se rfl (Oa rfl (Ab     (Ah    (Se rfl (Oa rfl (Ab     (Aq      ?_))))))))
  have hl3 : ds.length ≤ 3 ∧ 1 ≤ ds.length := by grind
  refine Dn      (X := Nat) (fun i => ds.length - i) (fun i => [(4, .int .i64 sg), (5, .string (str ds)), (6, .int .i64 (Fb        (ds.take i) : Nat)), (7, .int .i64 (i : Nat))]) (fun _ => I) (fun _ => L) (fun i => i ≤ ds.length ∧ (ds.take i).all E6    = true) 0 ⟨by omega, by simp⟩ ⟨rfl, rfl, rfl, rfl, trivial⟩ Cl    ?_
  rintro i ⟨hi, hall⟩ ih
  have hv := Lh            (ds.take i) (by simp; omega)
  refine Ah    (Se rfl (Om rfl (Om rfl ?_)))
  refine Dh        rfl .free rfl ?_
  refine Oc rfl rfl rfl (Ab     ?_)
  refine Si rfl ?_ ?_
  · intro c3
    refine Ak     (Ah    (Aq      (Ah    (Se rfl (Om rfl (Om rfl ?_))))))
    refine D9      rfl rfl rfl (by first | omega | exact Fx    (by assumption) (by decide) | (simp; done) | (simp; omega) | decide | (simp at *; omega)) .free rfl ?_
    refine Oc rfl rfl rfl (Om rfl ?_)
    first | refine Ho   rfl rfl ?_ ?_ | refine Fp    rfl rfl ?_ ?_ | refine Nd  rfl rfl ?_ ?_
    · intro g14_5
      iterate 4 refine Cy     rfl rfl rfl ?_
      refine Ot rfl rfl (Ab     ?_)
      refine B9     rfl ?_
      refine Se rfl (Oa rfl (Oa rfl (Ab     ?_)))
      refine Am    (.tmp rfl (.tmp rfl .nil)) ?_
      refine only rfl ?_
      have hf : Ci    s = false := by
        have := Ip        (p := E6   ) (show i < ds.length by omega) (by rw [Gq       ]; exact decide_eq_false (by omega))
        simp only [Ci   , hd]; grind
      rw [hf]; rfl
    intro g14_5
    refine Ow rfl (Ow rfl ?_)
    refine D9      rfl rfl rfl (by first | omega | exact Fx    (by assumption) (by decide) | (simp; done) | (simp; omega) | decide | (simp at *; omega)) (.met rfl rfl) rfl ?_
    refine D8    rfl rfl rfl (.met rfl rfl) rfl ?_
    refine Of rfl rfl (Ab     ?_)
    refine Si rfl ?_ ?_
    · intro c4
      refine Se rfl (Oa rfl (Oa rfl (Ab     ?_)))
      refine Am    (.tmp rfl (.tmp rfl .nil)) ?_
      refine only rfl ?_
      have hf : Ci    s = false := by
        have := Ip        (p := E6   ) (show i < ds.length by omega) (by rw [Gq       ]; exact decide_eq_false (by omega))
        simp only [Ci   , hd]; grind
      rw [hf]; rfl
    intro c4
    refine Ak     (Al      rfl (Om rfl ?_))
    refine Or rfl rfl rfl ?_
    refine Om rfl (Om rfl ?_)
    refine D9      rfl rfl rfl (by first | omega | exact Fx    (by assumption) (by decide) | (simp; done) | (simp; omega) | decide | (simp at *; omega)) .free rfl ?_
    refine Zu     (b := 48) rfl rfl (by omega) (by have := UInt8.toNat_lt (ds.getD i 0); omega) .free rfl ?_
    refine N3        rfl (by first | exact UInt8.toNat_lt _ | omega) .free rfl ?_
    refine Or rfl rfl rfl ?_
    refine Oa rfl (Ab     (Ap        (Al      rfl (Om rfl ?_))))
    refine Or rfl rfl rfl ?_
    refine Oa rfl (Ab     ?_)
    refine Ed    (E' := [(4, .int .i64 sg), (5, .string (str ds)), (6, .int .i64 (Fb        (ds.take (i + 1)) : Nat)), (7, .int .i64 ((i + 1 : Nat)))]) ⟨rfl, rfl, ?_, rfl, trivial⟩ (ih (i + 1) ⟨by omega, K0       hall (by omega) (by rw [Gq       ]; exact decide_eq_true (by omega))⟩ (by omega))
    rw [Kl             ds i (by omega)]
    rfl
  intro c3
  refine Cc     rfl ?_
  refine Se rfl (Om rfl (Om rfl ?_))
  refine N2      rfl rfl rfl (by rcases hsn with h | h <;> rw [h] <;> omega) .free rfl ?_
  refine Oa rfl (Oa rfl (Ab     ?_))
  refine Am    (.tmp rfl (.tmp rfl .nil)) ?_
  refine only rfl ?_
  have hil : i = ds.length := by omega
  subst hil
  rw [List.take_length] at hall
  have ht : Ci    s = true := by simp only [Ci   , hd]; grind
  rw [ht, List.take_length, hsg]
  simp only [Fq    , hd, if_neg c1, cond_true]
  rfl
set_option maxRecDepth 100000
set_option linter.unusedVariables false
set_option linter.unusedSimpArgs false

def E1 : As := [99, 97, 108, 108]
def Et : As := [112, 97, 105, 114]
def Gy : As := [105, 102]
def Dz : As := [108, 101, 116]
def Dk : As := [102, 117, 110]
def Gw : As := [102, 115, 116]
def Gx : As := [115, 110, 100]
def Ax (h : As) : Nat × Nat :=
 if h = [43] ∨ h = [45] ∨ h = [42] ∨ h = E1 ∨ h = Et then (1, 3) else if h = Gy then (1, 4) else if h = Dz then (2, 4) else if h = Dk then (5, 6) else if h = Gw ∨ h = Gx then (1, 2) else (0, 0)
def KR (h : As) (I : Heap) (L : Bj) : Cv := E2 (.tuple #[.int .i64 ((Ax h).1 : Nat), .int .i64 ((Ax h).2 : Nat)]) I L
theorem Kr       (h : As ) (I : Heap) (L : Bj ) : Fun Tryz.prog 145 [.string (str h)] I L (KR h I L) := by
  refine Ao        (by simp) ?_
  refine Se rfl (Oa rfl (Oa rfl (Ab     (Ah    (Se rfl (Om rfl (Ab     (Aq      (Ah    (Se rfl (Od rfl rfl rfl (Oa rfl (Ab     ?_)))))))))))))
  refine Si rfl ?_ ?_
  · intro c0
    refine Ak     ?_
    first | refine St rfl (by first | assumption | omega) ?_ | refine B9     (by simp [look, Ch , *]) ?_
    refine Se rfl (Oa rfl (Oa rfl (Ab     ?_)))
    refine Am    (.tmp rfl (.tmp rfl .nil)) ?_
    refine only rfl ?_
    first
      | (subst_vars; rfl)
      | (have e : Ax       h = (0, 0) := by unfold Ax       E1    Et    Gy  Dz   Dk   Gw   Gx  ; simp [*]
         rw [e]; rfl)
  intro c0
  refine Se rfl (Od rfl rfl rfl (Oa rfl (Ab     ?_)))
  refine Si rfl ?_ ?_
  · intro c1
    refine Ak     ?_
    first | refine St rfl (by first | assumption | omega) ?_ | refine B9     (by simp [look, Ch , *]) ?_
    refine Se rfl (Oa rfl (Oa rfl (Ab     ?_)))
    refine Am    (.tmp rfl (.tmp rfl .nil)) ?_
    refine only rfl ?_
    first
      | (subst_vars; rfl)
      | (have e : Ax       h = (0, 0) := by unfold Ax       E1    Et    Gy  Dz   Dk   Gw   Gx  ; simp [*]
         rw [e]; rfl)
  intro c1
  refine Se rfl (Od rfl rfl rfl (Oa rfl (Ab     ?_)))
  refine Si rfl ?_ ?_
  · intro c2
    refine Ak     ?_
    first | refine St rfl (by first | assumption | omega) ?_ | refine B9     (by simp [look, Ch , *]) ?_
    refine Se rfl (Oa rfl (Oa rfl (Ab     ?_)))
    refine Am    (.tmp rfl (.tmp rfl .nil)) ?_
    refine only rfl ?_
    first
      | (subst_vars; rfl)
      | (have e : Ax       h = (0, 0) := by unfold Ax       E1    Et    Gy  Dz   Dk   Gw   Gx  ; simp [*]
         rw [e]; rfl)
  intro c2
  refine Se rfl (Od rfl rfl rfl (Oa rfl (Ab     ?_)))
  refine Si rfl ?_ ?_
  · intro c3
    refine Ak     ?_
    first | refine St rfl (by first | assumption | omega) ?_ | refine B9     (by simp [look, Ch , *]) ?_
    refine Se rfl (Oa rfl (Oa rfl (Ab     ?_)))
    refine Am    (.tmp rfl (.tmp rfl .nil)) ?_
    refine only rfl ?_
    first
      | (subst_vars; rfl)
      | (have e : Ax       h = (0, 0) := by unfold Ax       E1    Et    Gy  Dz   Dk   Gw   Gx  ; simp [*]
         rw [e]; rfl)
  intro c3
  refine Al      rfl (Od rfl rfl rfl (Oa rfl (Ab     ?_)))
  refine Si rfl ?_ ?_
  · intro c4
    refine Se rfl (Oa rfl (Oa rfl (Ab     ?_)))
    refine Am    (.tmp rfl (.tmp rfl .nil)) ?_
    refine only rfl ?_
    first
      | (subst_vars; rfl)
      | (have e : Ax       h = (0, 0) := by unfold Ax       E1    Et    Gy  Dz   Dk   Gw   Gx  ; simp [*]
         rw [e]; rfl)
  intro c4
  refine Se rfl (Od rfl rfl rfl (Oa rfl (Ab     ?_)))
  refine Si rfl ?_ ?_
  · intro c5
    refine Se rfl (Oa rfl (Oa rfl (Ab     ?_)))
    refine Am    (.tmp rfl (.tmp rfl .nil)) ?_
    refine only rfl ?_
    first
      | (subst_vars; rfl)
      | (have e : Ax       h = (0, 0) := by unfold Ax       E1    Et    Gy  Dz   Dk   Gw   Gx  ; simp [*]
         rw [e]; rfl)
  intro c5
  refine Se rfl (Od rfl rfl rfl (Oa rfl (Ab     ?_)))
  refine Si rfl ?_ ?_
  · intro c6
    refine Se rfl (Oa rfl (Oa rfl (Ab     ?_)))
    refine Am    (.tmp rfl (.tmp rfl .nil)) ?_
    refine only rfl ?_
    first
      | (subst_vars; rfl)
      | (have e : Ax       h = (0, 0) := by unfold Ax       E1    Et    Gy  Dz   Dk   Gw   Gx  ; simp [*]
         rw [e]; rfl)
  intro c6
  refine Se rfl (Od rfl rfl rfl (Oa rfl (Ab     ?_)))
  refine Si rfl ?_ ?_
  · intro c7
    refine Se rfl (Oa rfl (Oa rfl (Ab     ?_)))
    refine Am    (.tmp rfl (.tmp rfl .nil)) ?_
    refine only rfl ?_
    first
      | (subst_vars; rfl)
      | (have e : Ax       h = (0, 0) := by unfold Ax       E1    Et    Gy  Dz   Dk   Gw   Gx  ; simp [*]
         rw [e]; rfl)
  intro c7
  refine Ah    (Se rfl (Od rfl rfl rfl (Oa rfl (Ab     ?_))))
  refine Si rfl ?_ ?_
  · intro c8
    refine Ak     ?_
    first | refine St rfl (by first | assumption | omega) ?_ | refine B9     (by simp [look, Ch , *]) ?_
    refine Se rfl (Oa rfl (Oa rfl (Ab     ?_)))
    refine Am    (.tmp rfl (.tmp rfl .nil)) ?_
    refine only rfl ?_
    first
      | (subst_vars; rfl)
      | (have e : Ax       h = (0, 0) := by unfold Ax       E1    Et    Gy  Dz   Dk   Gw   Gx  ; simp [*]
         rw [e]; rfl)
  intro c8
  refine Al      rfl (Od rfl rfl rfl (Oa rfl (Ab     ?_)))
  refine Si rfl ?_ ?_
  · intro c9
    refine Se rfl (Oa rfl (Oa rfl (Ab     ?_)))
    refine Am    (.tmp rfl (.tmp rfl .nil)) ?_
    refine only rfl ?_
    first
      | (subst_vars; rfl)
      | (have e : Ax       h = (0, 0) := by unfold Ax       E1    Et    Gy  Dz   Dk   Gw   Gx  ; simp [*]
         rw [e]; rfl)
  intro c9
  refine Ak     (Ap        (Se rfl (Oa rfl (Oa rfl (Ab     ?_)))))
  refine Am    (.tmp rfl (.tmp rfl .nil)) ?_
  refine only rfl ?_
  first
    | (subst_vars; rfl)
    | (have e : Ax       h = (0, 0) := by unfold Ax       E1    Et    Gy  Dz   Dk   Gw   Gx  ; simp [*]
       rw [e]; rfl)

def D2 (t : Tree) : List Nat := if t.parts.length = (Ax t.head).2 then List.range' (Ax t.head).1 ((Ax t.head).2 - (Ax t.head).1) else []
def nv (n : Nat) : Value := .int .i64 (n : Nat)
structure Nums (I : Heap) (oa : Option Addr) (l : List Nat) (c : Nat) : Prop where
 still : ∀ x, oa = some x → Still I x (l.map nv)
 nil : oa = none → l = []
 cap : l.length ≤ c
theorem Nums.mono {I I' : Heap} {oa : Option Addr} {l : List Nat} {c : Nat} (hle : HLe I I') (h : Nums I oa l c) : Nums I' oa l c := ⟨fun x hx => (h.still x hx).mono hle, h.nil, h.cap⟩
theorem Nums.at {I : Heap} {oa : Option Addr} {l : List Nat} {c : Nat} (h : Nums I oa l c) (i : Nat) (hi : i < l.length) : ∃ x, oa = some x ∧ Still I (x.add (i * 1)) [.int .i64 (l[i] : Nat)] := by
 cases oa with
 | none => have := h.nil rfl; subst this; simp at hi
 | some x =>
  refine ⟨x, rfl, (h.still x rfl).part (i * 1) ?_⟩; intro j hj; obtain rfl : j = 0 := by simpa using hj
  simp [hi, nv]
theorem Ad2 {I : Heap} {b : Nat} {l : List Nat} {e : TypeId} : Nums (I.set b (.cells (l.map nv).toArray e (0, 0))) (some ⟨b, 0, none⟩) l l.length :=
 ⟨fun y hy => by cases hy; simpa using A9 (xs := l.map nv) (ys := []), by simp, Nat.le_refl _⟩
def KD (l : List Nat) (L : Bj) : Cv := fun v I' L' => ∃ oa c, v = .slice oa (List.length l) c ∧ Nums I' oa l c ∧ L = L'
theorem Jy {I : Heap} {b : Nat} {l m : List Nat} {e : TypeId} {L : Bj} (h : l = m) : KD m L (.slice (some ⟨b, 0, none⟩) l.length l.length) (I.set b (.cells (l.map nv).toArray e (0, 0))) L := by
 subst h; exact ⟨_, _, rfl, Ad2, rfl⟩
theorem Du          {I : Heap} {t : Tree} {cs : List Value} (h : Rep I t cs) (L : Bj ) : Fun Tryz.prog 108 [.agg cs.toArray] I L (KD (D2   t) L) := by
  obtain ⟨oa, c, vs, rfl, hrl, hs, hn, hc, ha, hp⟩ := h.open
  unfold Bg   at hp
  refine Ao        (by simp) ?_
  refine Se rfl ?_
  refine Cm    rfl rfl .free rfl ?_
  intro b1
  refine Oa rfl (Ab     (Ah    (Se rfl ?_)))
  refine C1   rfl .free rfl ?_
  refine Ca rfl (Bl          h _) ?_
  rintro _ _ _ _ ⟨rfl, rfl, rfl⟩
  refine Ab     (Aq      (Ah    (Se rfl (Od rfl rfl rfl (Oa rfl (Ab     ?_))))))
  refine Si rfl ?_ ?_
  · intro c0
    refine Ak     ?_
    first | refine St rfl (by first | assumption | omega) ?_ | refine B9     (by simp [look, Ch , *]) ?_
    refine Se rfl ?_
    first | refine Oh rfl ?_ | refine Oj rfl ?_
    refine C1   rfl .free rfl ?_
    refine On rfl (Oc rfl rfl rfl (Ab     ?_))
    refine Si rfl ?_ ?_
    · intro c5
      refine Se rfl ?_
      refine Ol rfl rfl ?_
      intro b15
      refine Oa rfl (Ab     ?_)
      refine Bu       ?_
      intro hz
      refine Am    (.tmp rfl .nil) ?_
      refine ⟨_, L, hz, fun _ h => h.drop, Jy     (l := [1, 2]) ?_⟩
      have hl : t.parts.length = 3 := by omega
      unfold D2   Ax       E1    Et    Gy  Dz   Dk   Gw   Gx  
      simp only [*, true_or, or_true, or_false, false_or, if_true, if_false]
      rfl
    intro c5
    refine Ak     (Ap        (Se rfl (Oa rfl (Ab     (Am    (.tmp rfl .nil) ?_)))))
    have hk : D2   t = [] := by
      unfold D2   Ax       E1    Et    Gy  Dz   Dk   Gw   Gx  
      first
        | (have hl : ¬ t.parts.length = 3 := by omega
           simp [*]; done)
        | (have hl : ¬ t.parts.length = 4 := by omega
           simp [*]; done)
        | (have hl : ¬ t.parts.length = 6 := by omega
           simp [*]; done)
        | (have hl : ¬ t.parts.length = 2 := by omega
           simp [*]; done)
        | (simp [*]; done)
    exact ⟨I, L, .refl _, fun _ h => h.drop, none, 0, by rw [hk]; rfl, ⟨by simp, fun _ => hk, by rw [hk]; simp⟩, rfl⟩
  intro c0
  refine Se rfl (Od rfl rfl rfl (Oa rfl (Ab     ?_)))
  refine Si rfl ?_ ?_
  · intro c1
    refine Ak     ?_
    first | refine St rfl (by first | assumption | omega) ?_ | refine B9     (by simp [look, Ch , *]) ?_
    refine Se rfl ?_
    first | refine Oh rfl ?_ | refine Oj rfl ?_
    refine C1   rfl .free rfl ?_
    refine On rfl (Oc rfl rfl rfl (Ab     ?_))
    refine Si rfl ?_ ?_
    · intro c5
      refine Se rfl ?_
      refine Ol rfl rfl ?_
      intro b15
      refine Oa rfl (Ab     ?_)
      refine Bu       ?_
      intro hz
      refine Am    (.tmp rfl .nil) ?_
      refine ⟨_, L, hz, fun _ h => h.drop, Jy     (l := [1, 2]) ?_⟩
      have hl : t.parts.length = 3 := by omega
      unfold D2   Ax       E1    Et    Gy  Dz   Dk   Gw   Gx  
      simp only [*, true_or, or_true, or_false, false_or, if_true, if_false]
      rfl
    intro c5
    refine Ak     (Ap        (Se rfl (Oa rfl (Ab     (Am    (.tmp rfl .nil) ?_)))))
    have hk : D2   t = [] := by
      unfold D2   Ax       E1    Et    Gy  Dz   Dk   Gw   Gx  
      first
        | (have hl : ¬ t.parts.length = 3 := by omega
           simp [*]; done)
        | (have hl : ¬ t.parts.length = 4 := by omega
           simp [*]; done)
        | (have hl : ¬ t.parts.length = 6 := by omega
           simp [*]; done)
        | (have hl : ¬ t.parts.length = 2 := by omega
           simp [*]; done)
        | (simp [*]; done)
    exact ⟨I, L, .refl _, fun _ h => h.drop, none, 0, by rw [hk]; rfl, ⟨by simp, fun _ => hk, by rw [hk]; simp⟩, rfl⟩
  intro c1
  refine Se rfl (Od rfl rfl rfl (Oa rfl (Ab     ?_)))
  refine Si rfl ?_ ?_
  · intro c2
    refine Ak     ?_
    first | refine St rfl (by first | assumption | omega) ?_ | refine B9     (by simp [look, Ch , *]) ?_
    refine Se rfl ?_
    first | refine Oh rfl ?_ | refine Oj rfl ?_
    refine C1   rfl .free rfl ?_
    refine On rfl (Oc rfl rfl rfl (Ab     ?_))
    refine Si rfl ?_ ?_
    · intro c5
      refine Se rfl ?_
      refine Ol rfl rfl ?_
      intro b15
      refine Oa rfl (Ab     ?_)
      refine Bu       ?_
      intro hz
      refine Am    (.tmp rfl .nil) ?_
      refine ⟨_, L, hz, fun _ h => h.drop, Jy     (l := [1, 2]) ?_⟩
      have hl : t.parts.length = 3 := by omega
      unfold D2   Ax       E1    Et    Gy  Dz   Dk   Gw   Gx  
      simp only [*, true_or, or_true, or_false, false_or, if_true, if_false]
      rfl
    intro c5
    refine Ak     (Ap        (Se rfl (Oa rfl (Ab     (Am    (.tmp rfl .nil) ?_)))))
    have hk : D2   t = [] := by
      unfold D2   Ax       E1    Et    Gy  Dz   Dk   Gw   Gx  
      first
        | (have hl : ¬ t.parts.length = 3 := by omega
           simp [*]; done)
        | (have hl : ¬ t.parts.length = 4 := by omega
           simp [*]; done)
        | (have hl : ¬ t.parts.length = 6 := by omega
           simp [*]; done)
        | (have hl : ¬ t.parts.length = 2 := by omega
           simp [*]; done)
        | (simp [*]; done)
    exact ⟨I, L, .refl _, fun _ h => h.drop, none, 0, by rw [hk]; rfl, ⟨by simp, fun _ => hk, by rw [hk]; simp⟩, rfl⟩
  intro c2
  refine Se rfl (Od rfl rfl rfl (Oa rfl (Ab     ?_)))
  refine Si rfl ?_ ?_
  · intro c3
    refine Ak     ?_
    first | refine St rfl (by first | assumption | omega) ?_ | refine B9     (by simp [look, Ch , *]) ?_
    refine Se rfl ?_
    first | refine Oh rfl ?_ | refine Oj rfl ?_
    refine C1   rfl .free rfl ?_
    refine On rfl (Oc rfl rfl rfl (Ab     ?_))
    refine Si rfl ?_ ?_
    · intro c5
      refine Se rfl ?_
      refine Ol rfl rfl ?_
      intro b15
      refine Oa rfl (Ab     ?_)
      refine Bu       ?_
      intro hz
      refine Am    (.tmp rfl .nil) ?_
      refine ⟨_, L, hz, fun _ h => h.drop, Jy     (l := [1, 2]) ?_⟩
      have hl : t.parts.length = 3 := by omega
      unfold D2   Ax       E1    Et    Gy  Dz   Dk   Gw   Gx  
      simp only [*, true_or, or_true, or_false, false_or, if_true, if_false]
      rfl
    intro c5
    refine Ak     (Ap        (Se rfl (Oa rfl (Ab     (Am    (.tmp rfl .nil) ?_)))))
    have hk : D2   t = [] := by
      unfold D2   Ax       E1    Et    Gy  Dz   Dk   Gw   Gx  
      first
        | (have hl : ¬ t.parts.length = 3 := by omega
           simp [*]; done)
        | (have hl : ¬ t.parts.length = 4 := by omega
           simp [*]; done)
        | (have hl : ¬ t.parts.length = 6 := by omega
           simp [*]; done)
        | (have hl : ¬ t.parts.length = 2 := by omega
           simp [*]; done)
        | (simp [*]; done)
    exact ⟨I, L, .refl _, fun _ h => h.drop, none, 0, by rw [hk]; rfl, ⟨by simp, fun _ => hk, by rw [hk]; simp⟩, rfl⟩
  intro c3
  refine Al      rfl (Od rfl rfl rfl (Oa rfl (Ab     ?_)))
  refine Si rfl ?_ ?_
  · intro c4
    refine Se rfl ?_
    first | refine Oh rfl ?_ | refine Oj rfl ?_
    refine C1   rfl .free rfl ?_
    refine On rfl (Oc rfl rfl rfl (Ab     ?_))
    refine Si rfl ?_ ?_
    · intro c5
      refine Se rfl ?_
      refine Ol rfl rfl ?_
      intro b15
      refine Oa rfl (Ab     ?_)
      refine Bu       ?_
      intro hz
      refine Am    (.tmp rfl .nil) ?_
      refine ⟨_, L, hz, fun _ h => h.drop, Jy     (l := [1, 2]) ?_⟩
      have hl : t.parts.length = 3 := by omega
      unfold D2   Ax       E1    Et    Gy  Dz   Dk   Gw   Gx  
      simp only [*, true_or, or_true, or_false, false_or, if_true, if_false]
      rfl
    intro c5
    refine Ak     (Ap        (Se rfl (Oa rfl (Ab     (Am    (.tmp rfl .nil) ?_)))))
    have hk : D2   t = [] := by
      unfold D2   Ax       E1    Et    Gy  Dz   Dk   Gw   Gx  
      first
        | (have hl : ¬ t.parts.length = 3 := by omega
           simp [*]; done)
        | (have hl : ¬ t.parts.length = 4 := by omega
           simp [*]; done)
        | (have hl : ¬ t.parts.length = 6 := by omega
           simp [*]; done)
        | (have hl : ¬ t.parts.length = 2 := by omega
           simp [*]; done)
        | (simp [*]; done)
    exact ⟨I, L, .refl _, fun _ h => h.drop, none, 0, by rw [hk]; rfl, ⟨by simp, fun _ => hk, by rw [hk]; simp⟩, rfl⟩
  intro c4
  refine Se rfl (Od rfl rfl rfl (Oa rfl (Ab     ?_)))
  refine Si rfl ?_ ?_
  · intro c6
    refine Se rfl ?_
    first | refine Oh rfl ?_ | refine Oj rfl ?_
    refine C1   rfl .free rfl ?_
    refine On rfl (Oc rfl rfl rfl (Ab     ?_))
    refine Si rfl ?_ ?_
    · intro c7
      refine Se rfl ?_
      refine Ol rfl rfl ?_
      intro b22
      refine Oa rfl (Ab     ?_)
      refine Bu       ?_
      intro hz
      refine Am    (.tmp rfl .nil) ?_
      refine ⟨_, L, hz, fun _ h => h.drop, Jy     (l := [1, 2, 3]) ?_⟩
      have hl : t.parts.length = 4 := by omega
      unfold D2   Ax       E1    Et    Gy  Dz   Dk   Gw   Gx  
      simp only [*, true_or, or_true, or_false, false_or, if_true, if_false]
      rfl
    intro c7
    refine Ak     (Ap        (Se rfl (Oa rfl (Ab     (Am    (.tmp rfl .nil) ?_)))))
    have hk : D2   t = [] := by
      unfold D2   Ax       E1    Et    Gy  Dz   Dk   Gw   Gx  
      first
        | (have hl : ¬ t.parts.length = 3 := by omega
           simp [*]; done)
        | (have hl : ¬ t.parts.length = 4 := by omega
           simp [*]; done)
        | (have hl : ¬ t.parts.length = 6 := by omega
           simp [*]; done)
        | (have hl : ¬ t.parts.length = 2 := by omega
           simp [*]; done)
        | (simp [*]; done)
    exact ⟨I, L, .refl _, fun _ h => h.drop, none, 0, by rw [hk]; rfl, ⟨by simp, fun _ => hk, by rw [hk]; simp⟩, rfl⟩
  intro c6
  refine Se rfl (Od rfl rfl rfl (Oa rfl (Ab     ?_)))
  refine Si rfl ?_ ?_
  · intro c8
    refine Se rfl ?_
    first | refine Oh rfl ?_ | refine Oj rfl ?_
    refine C1   rfl .free rfl ?_
    refine On rfl (Oc rfl rfl rfl (Ab     ?_))
    refine Si rfl ?_ ?_
    · intro c9
      refine Se rfl ?_
      refine Ol rfl rfl ?_
      intro b29
      refine Oa rfl (Ab     ?_)
      refine Bu       ?_
      intro hz
      refine Am    (.tmp rfl .nil) ?_
      refine ⟨_, L, hz, fun _ h => h.drop, Jy     (l := [2, 3]) ?_⟩
      have hl : t.parts.length = 4 := by omega
      unfold D2   Ax       E1    Et    Gy  Dz   Dk   Gw   Gx  
      simp only [*, true_or, or_true, or_false, false_or, if_true, if_false]
      rfl
    intro c9
    refine Ak     (Ap        (Se rfl (Oa rfl (Ab     (Am    (.tmp rfl .nil) ?_)))))
    have hk : D2   t = [] := by
      unfold D2   Ax       E1    Et    Gy  Dz   Dk   Gw   Gx  
      first
        | (have hl : ¬ t.parts.length = 3 := by omega
           simp [*]; done)
        | (have hl : ¬ t.parts.length = 4 := by omega
           simp [*]; done)
        | (have hl : ¬ t.parts.length = 6 := by omega
           simp [*]; done)
        | (have hl : ¬ t.parts.length = 2 := by omega
           simp [*]; done)
        | (simp [*]; done)
    exact ⟨I, L, .refl _, fun _ h => h.drop, none, 0, by rw [hk]; rfl, ⟨by simp, fun _ => hk, by rw [hk]; simp⟩, rfl⟩
  intro c8
  refine Se rfl (Od rfl rfl rfl (Oa rfl (Ab     ?_)))
  refine Si rfl ?_ ?_
  · intro c10
    refine Se rfl ?_
    first | refine Oh rfl ?_ | refine Oj rfl ?_
    refine C1   rfl .free rfl ?_
    refine On rfl (Oc rfl rfl rfl (Ab     ?_))
    refine Si rfl ?_ ?_
    · intro c11
      refine Se rfl ?_
      refine Ol rfl rfl ?_
      intro b36
      refine Oa rfl (Ab     ?_)
      refine Bu       ?_
      intro hz
      refine Am    (.tmp rfl .nil) ?_
      refine ⟨_, L, hz, fun _ h => h.drop, Jy     (l := [5]) ?_⟩
      have hl : t.parts.length = 6 := by omega
      unfold D2   Ax       E1    Et    Gy  Dz   Dk   Gw   Gx  
      simp only [*, true_or, or_true, or_false, false_or, if_true, if_false]
      rfl
    intro c11
    refine Ak     (Ap        (Se rfl (Oa rfl (Ab     (Am    (.tmp rfl .nil) ?_)))))
    have hk : D2   t = [] := by
      unfold D2   Ax       E1    Et    Gy  Dz   Dk   Gw   Gx  
      first
        | (have hl : ¬ t.parts.length = 3 := by omega
           simp [*]; done)
        | (have hl : ¬ t.parts.length = 4 := by omega
           simp [*]; done)
        | (have hl : ¬ t.parts.length = 6 := by omega
           simp [*]; done)
        | (have hl : ¬ t.parts.length = 2 := by omega
           simp [*]; done)
        | (simp [*]; done)
    exact ⟨I, L, .refl _, fun _ h => h.drop, none, 0, by rw [hk]; rfl, ⟨by simp, fun _ => hk, by rw [hk]; simp⟩, rfl⟩
  intro c10
  refine Ah    (Se rfl (Od rfl rfl rfl (Oa rfl (Ab     ?_))))
  refine Si rfl ?_ ?_
  · intro c12
    refine Ak     ?_
    first | refine St rfl (by first | assumption | omega) ?_ | refine B9     (by simp [look, Ch , *]) ?_
    refine Se rfl ?_
    first | refine Oh rfl ?_ | refine Oj rfl ?_
    refine C1   rfl .free rfl ?_
    refine On rfl (Oc rfl rfl rfl (Ab     ?_))
    refine Si rfl ?_ ?_
    · intro c14
      refine Se rfl ?_
      refine Ol rfl rfl ?_
      intro b44
      refine Oa rfl (Ab     ?_)
      refine Bu       ?_
      intro hz
      refine Am    (.tmp rfl .nil) ?_
      refine ⟨_, L, hz, fun _ h => h.drop, Jy     (l := [1]) ?_⟩
      have hl : t.parts.length = 2 := by omega
      unfold D2   Ax       E1    Et    Gy  Dz   Dk   Gw   Gx  
      simp only [*, true_or, or_true, or_false, false_or, if_true, if_false]
      rfl
    intro c14
    refine Ak     (Ap        (Se rfl (Oa rfl (Ab     (Am    (.tmp rfl .nil) ?_)))))
    have hk : D2   t = [] := by
      unfold D2   Ax       E1    Et    Gy  Dz   Dk   Gw   Gx  
      first
        | (have hl : ¬ t.parts.length = 3 := by omega
           simp [*]; done)
        | (have hl : ¬ t.parts.length = 4 := by omega
           simp [*]; done)
        | (have hl : ¬ t.parts.length = 6 := by omega
           simp [*]; done)
        | (have hl : ¬ t.parts.length = 2 := by omega
           simp [*]; done)
        | (simp [*]; done)
    exact ⟨I, L, .refl _, fun _ h => h.drop, none, 0, by rw [hk]; rfl, ⟨by simp, fun _ => hk, by rw [hk]; simp⟩, rfl⟩
  intro c12
  refine Al      rfl (Od rfl rfl rfl (Oa rfl (Ab     ?_)))
  refine Si rfl ?_ ?_
  · intro c13
    refine Se rfl ?_
    first | refine Oh rfl ?_ | refine Oj rfl ?_
    refine C1   rfl .free rfl ?_
    refine On rfl (Oc rfl rfl rfl (Ab     ?_))
    refine Si rfl ?_ ?_
    · intro c14
      refine Se rfl ?_
      refine Ol rfl rfl ?_
      intro b44
      refine Oa rfl (Ab     ?_)
      refine Bu       ?_
      intro hz
      refine Am    (.tmp rfl .nil) ?_
      refine ⟨_, L, hz, fun _ h => h.drop, Jy     (l := [1]) ?_⟩
      have hl : t.parts.length = 2 := by omega
      unfold D2   Ax       E1    Et    Gy  Dz   Dk   Gw   Gx  
      simp only [*, true_or, or_true, or_false, false_or, if_true, if_false]
      rfl
    intro c14
    refine Ak     (Ap        (Se rfl (Oa rfl (Ab     (Am    (.tmp rfl .nil) ?_)))))
    have hk : D2   t = [] := by
      unfold D2   Ax       E1    Et    Gy  Dz   Dk   Gw   Gx  
      first
        | (have hl : ¬ t.parts.length = 3 := by omega
           simp [*]; done)
        | (have hl : ¬ t.parts.length = 4 := by omega
           simp [*]; done)
        | (have hl : ¬ t.parts.length = 6 := by omega
           simp [*]; done)
        | (have hl : ¬ t.parts.length = 2 := by omega
           simp [*]; done)
        | (simp [*]; done)
    exact ⟨I, L, .refl _, fun _ h => h.drop, none, 0, by rw [hk]; rfl, ⟨by simp, fun _ => hk, by rw [hk]; simp⟩, rfl⟩
  intro c13
  refine Ak     (Ap        (Se rfl (Oa rfl (Ab     (Am    (.tmp rfl .nil) ?_)))))
  have hk : D2   t = [] := by
    unfold D2   Ax       E1    Et    Gy  Dz   Dk   Gw   Gx  
    first
      | (have hl : ¬ t.parts.length = 3 := by omega
         simp [*]; done)
      | (have hl : ¬ t.parts.length = 4 := by omega
         simp [*]; done)
      | (have hl : ¬ t.parts.length = 6 := by omega
         simp [*]; done)
      | (have hl : ¬ t.parts.length = 2 := by omega
         simp [*]; done)
      | (simp [*]; done)
  exact ⟨I, L, .refl _, fun _ h => h.drop, none, 0, by rw [hk]; rfl, ⟨by simp, fun _ => hk, by rw [hk]; simp⟩, rfl⟩
set_option maxRecDepth 100000
set_option linter.unusedVariables false
set_option linter.unusedSimpArgs false

inductive Ty where
 | i
 | fn (a b : Ty)
 | pr (a b : Ty)
def Ty.tree : Ty → Tree
 | .i => .node [105] []
 | .fn a b => .node [] [.node [62] [], a.tree, b.tree]
 | .pr a b => .node [] [.node [42] [], a.tree, b.tree]
def Ty.size : Ty → Nat
 | .i => 1
 | .fn a b => 1 + a.size + b.size
 | .pr a b => 1 + a.size + b.size
def Ty.dec : (a b : Ty) → Decidable (a = b)
 | .i, .i => isTrue rfl
 | .fn a b, .fn c d => match Ty.dec a c, Ty.dec b d with
  | isTrue h, isTrue h' => isTrue (by rw [h, h'])
  | isFalse h, _ => isFalse (fun e => h (Ty.fn.inj e).1)
  | _, isFalse h => isFalse (fun e => h (Ty.fn.inj e).2)
 | .pr a b, .pr c d => match Ty.dec a c, Ty.dec b d with
  | isTrue h, isTrue h' => isTrue (by rw [h, h'])
  | isFalse h, _ => isFalse (fun e => h (Ty.pr.inj e).1)
  | _, isFalse h => isFalse (fun e => h (Ty.pr.inj e).2)
 | .i, .fn _ _ => isFalse (by simp)
 | .i, .pr _ _ => isFalse (by simp)
 | .fn _ _, .i => isFalse (by simp)
 | .fn _ _, .pr _ _ => isFalse (by simp)
 | .pr _ _, .i => isFalse (by simp)
 | .pr _ _, .fn _ _ => isFalse (by simp)
instance : DecidableEq Ty := Ty.dec

inductive B5 where
 | add | sub | mul | call | pair
inductive U2 where
 | fst | snd
def B5.txt : B5 → As
 | .add => [43] | .sub => [45] | .mul => [42] | .call => E1 | .pair => Et
def U2.txt : U2 → As
 | .fst => Gw | .snd => Gx
inductive Ex where
 | num (s : As)
 | name (s : As)
 | bin (o : B5) (a b : Ex)
 | ite (a b c : Ex)
 | lt (x : As) (a b : Ex)
 | fn (f x : As) (s t : Ty) (b : Ex)
 | un (o : U2) (a : Ex)
def Ex.tree : Ex → Tree
 | .num s => .node s []
 | .name s => .node s []
 | .bin o a b => .node [] [.node o.txt [], a.tree, b.tree]
 | .ite a b c => .node [] [.node Gy [], a.tree, b.tree, c.tree]
 | .lt x a b => .node [] [.node Dz [], .node x [], a.tree, b.tree]
 | .fn f x s t b => .node [] [.node Dk [], .node f [], .node x [], s.tree, t.tree, b.tree]
 | .un o a => .node [] [.node o.txt [], a.tree]
def Ex.ok : Ex → Bool
 | .num s => Ci s
 | .name s => B0 s
 | .bin _ a b => a.ok && b.ok
 | .ite a b c => a.ok && b.ok && c.ok
 | .lt x a b => B0 x && a.ok && b.ok
 | .fn f x s t b => B0 f && B0 x && decide (f ≠ x) && decide (s.size ≤ 16) && decide (t.size ≤ 16) && b.ok
 | .un _ a => a.ok
def Ex.size : Ex → Nat
 | .num _ => 1
 | .name _ => 1
 | .bin _ a b => 1 + a.size + b.size
 | .ite a b c => 1 + a.size + b.size + c.size
 | .lt _ a b => 2 + a.size + b.size
 | .fn _ _ s t b => 3 + s.size + t.size + b.size
 | .un _ a => 1 + a.size

/- From forms. -/
def B5.of (h : As) : Option B5 :=
 if h = [43] then some .add else if h = [45] then some .sub else if h = [42] then some .mul else if h = E1 then some .call else if h = Et then some .pair else none
def U2.of (h : As) : Option U2 := if h = Gw then some .fst else if h = Gx then some .snd else none
theorem B5.of_txt (o : B5) : B5.of o.txt = some o := by cases o <;> rfl
theorem U2.of_txt (o : U2) : U2.of o.txt = some o := by cases o <;> rfl
theorem B5.of_eq {h : As} {o : B5} (e : B5.of h = some o) : h = o.txt := by
 unfold B5.of at e
 repeat' split at e
 all_goals first | cases e; assumption | cases e
theorem U2.of_eq {h : As} {o : U2} (e : U2.of h = some o) : h = o.txt := by
 unfold U2.of at e
 repeat' split at e
 all_goals first | cases e; assumption | cases e
def Tree.ty : Tree → Option Ty
 | .node a [] => if a = [105] then some .i else none
 | .node _ [h, x, y] => match x.ty, y.ty with
  | some a, some b => if h.atom = [62] then some (.fn a b) else if h.atom = [42] then some (.pr a b) else none
  | _, _ => none
 | .node _ _ => none
def Tree.ex : Tree → Option Ex
 | .node a [] => if B0 a then some (.name a) else if Ci a then some (.num a) else none
 | .node _ [h, x] => match U2.of h.atom, x.ex with
  | some o, some a => some (.un o a)
  | _, _ => none
 | .node _ [h, x, y] => match B5.of h.atom, x.ex, y.ex with
  | some o, some a, some b => some (.bin o a b)
  | _, _, _ => none
 | .node _ [h, x, y, z] => if h.atom = Gy then (match x.ex, y.ex, z.ex with
   | some a, some b, some c => some (.ite a b c)
   | _, _, _ => none)
  else if h.atom = Dz ∧ B0 x.atom = true then (match y.ex, z.ex with
   | some a, some b => some (.lt x.atom a b)
   | _, _ => none)
  else none
 | .node _ [h, f, x, s, t, b] => if h.atom = Dk ∧ B0 f.atom = true ∧ B0 x.atom = true ∧ f.atom ≠ x.atom ∧ s.size ≤ 16 ∧ t.size ≤ 16 then (match s.ty, t.ty, b.ex with
   | some s, some t, some b => some (.fn f.atom x.atom s t b)
   | _, _, _ => none)
  else none
 | .node _ _ => none

theorem Ty.tree_size : ∀ t : Ty, t.tree.size = t.size
 | .i => rfl
 | .fn a b => by simp [Ty.tree, Tree.size, Eu, Ty.size, a.tree_size, b.tree_size]; omega
 | .pr a b => by simp [Ty.tree, Tree.size, Eu, Ty.size, a.tree_size, b.tree_size]; omega
theorem Ex.tree_size : ∀ e : Ex, e.tree.size = e.size
 | .num s => rfl
 | .name s => rfl
 | .bin o a b => by simp [Ex.tree, Tree.size, Eu, Ex.size, a.tree_size, b.tree_size]; omega
 | .ite a b c => by simp [Ex.tree, Tree.size, Eu, Ex.size, a.tree_size, b.tree_size, c.tree_size]; omega
 | .lt x a b => by simp [Ex.tree, Tree.size, Eu, Ex.size, a.tree_size, b.tree_size]; omega
 | .fn f x s t b => by simp [Ex.tree, Tree.size, Eu, Ex.size, s.tree_size, t.tree_size, b.tree_size]; omega
 | .un o a => by simp [Ex.tree, Tree.size, Eu, Ex.size, a.tree_size]

theorem Tree.ty_isType : ∀ t : Tree, t.isType = t.ty.isSome
 | .node a [] => by simp [Tree.isType, Tree.ty]; split <;> simp_all
 | .node _ [h, x, y] => by
  simp only [Tree.isType, Tree.ty, x.ty_isType, y.ty_isType]
  cases x.ty <;> cases y.ty <;> simp
  by_cases h1 : h.atom = [62]
  ·simp [h1]
  ·by_cases h2 : h.atom = [42] <;> simp [h1, h2]
 | .node _ [h] => rfl
 | .node _ [h, x] => rfl
 | .node _ (h :: x :: y :: z :: r) => rfl
theorem Hd {t : Tree} (h : t.good = true) (ha : t.atom ≠ []) : t = .node t.atom [] := by
 cases t with
 | node a ps => cases ps with
  | nil => rfl
  | cons p ps => simp [Tree.good] at h; exact absurd h.1 ha
theorem Jd {a : As} {p : Tree} {ps : List Tree} (h : (Tree.node a (p :: ps)).good = true) : a = [] ∧ p.good = true ∧ F2 ps = true := by
 simp [Tree.good, F2] at h; exact ⟨h.1, h.2.1, h.2.2⟩
theorem Tree.ty_tree : ∀ {t : Tree} {a : Ty}, t.good = true → t.ty = some a → t = a.tree
 | .node a [], b, hg, h => by
  simp only [Tree.ty] at h
  split at h <;> cases h
  subst_vars; rfl
 | .node n [h, x, y], b, hg, e => by
  obtain ⟨rfl, hh, hr⟩ := Jd hg
  simp [F2] at hr
  simp only [Tree.ty] at e
  split at e
  ·rename_i a b' h1 h2
   have e1 := Tree.ty_tree hr.1 h1
   have e2 := Tree.ty_tree hr.2 h2
   split at e
   ·rename_i h3
    cases e
    have e3 := Hd hh (by simp [h3])
    rw [e3, h3, e1, e2]; rfl
   ·split at e
    ·rename_i h3
     cases e
     have e3 := Hd hh (by simp [h3])
     rw [e3, h3, e1, e2]; rfl
    ·cases e
  ·cases e
 | .node _ [h], _, _, e => by simp [Tree.ty] at e
 | .node _ [h, x], _, _, e => by simp [Tree.ty] at e
 | .node _ (h :: x :: y :: z :: r), _, _, e => by simp [Tree.ty] at e
theorem Ty.tree_ty : ∀ a : Ty, a.tree.ty = some a
 | .i => rfl
 | .fn a b => by simp [Ty.tree, Tree.ty, a.tree_ty, b.tree_ty, Tree.atom]
 | .pr a b => by simp [Ty.tree, Tree.ty, a.tree_ty, b.tree_ty, Tree.atom]
theorem Iu {s : As} (h : B0 s = true) : s ≠ [] := by intro e; subst e; cases h
theorem X9 {s : As} (h : Ci s = true) : s ≠ [] := by intro e; subst e; revert h; decide
theorem Hy {s : As} (h : B0 s = true) : Ci s = false := by
 cases s with
 | nil => cases h
 | cons c r =>
  simp [B0, Ps] at h
  obtain ⟨⟨h1, h2, h3⟩, h4⟩ := h
  have e : Ef (c :: r) = c :: r := by simp [Ef]; intro h; omega
  have hc : c ≠ 48 := by intro e; subst e; revert h2; decide
  simp only [Ci, e]
  simp [hc, E6]
  intros; omega
theorem Tree.ex_tree : ∀ {t : Tree} {a : Ex}, t.good = true → t.ex = some a → t = a.tree ∧ a.ok = true
 | .node a [], b, hg, h => by
  simp only [Tree.ex] at h
  split at h
  ·cases h; exact ⟨rfl, by assumption⟩
  ·split at h
   ·cases h; exact ⟨rfl, by assumption⟩
   ·cases h
 | .node n [h, x], b, hg, e => by
  obtain ⟨rfl, hh, hr⟩ := Jd hg
  simp [F2] at hr
  simp only [Tree.ex] at e
  split at e
  ·rename_i o a h1 h2
   cases e
   obtain ⟨e1, k1⟩ := Tree.ex_tree hr h2
   have h3 := U2.of_eq h1
   have e3 := Hd hh (by rw [h3]; cases o <;> decide)
   exact ⟨by rw [e3, h3, e1]; rfl, by simpa [Ex.ok] using k1⟩
  ·cases e
 | .node n [h, x, y], b, hg, e => by
  obtain ⟨rfl, hh, hr⟩ := Jd hg
  simp [F2] at hr
  simp only [Tree.ex] at e
  split at e
  ·rename_i o a b h1 h2 h2'
   cases e
   obtain ⟨e1, k1⟩ := Tree.ex_tree hr.1 h2; obtain ⟨e2, k2⟩ := Tree.ex_tree hr.2 h2'
   have h3 := B5.of_eq h1
   have e3 := Hd hh (by rw [h3]; cases o <;> decide)
   exact ⟨by rw [e3, h3, e1, e2]; rfl, by simp [Ex.ok, k1, k2]⟩
  ·cases e
 | .node n [h, x, y, z], b, hg, e => by
  obtain ⟨rfl, hh, hr⟩ := Jd hg
  simp [F2] at hr
  simp only [Tree.ex] at e
  split at e
  ·rename_i h3
   split at e
   ·rename_i a b c h1 h2 h2'
    cases e
    obtain ⟨e0, k0⟩ := Tree.ex_tree hr.1 h1; obtain ⟨e1, k1⟩ := Tree.ex_tree hr.2.1 h2; obtain ⟨e2, k2⟩ := Tree.ex_tree hr.2.2 h2'
    have e3 := Hd hh (by rw [h3]; decide)
    exact ⟨by rw [e3, h3, e0, e1, e2]; rfl, by simp [Ex.ok, k0, k1, k2]⟩
   ·cases e
  ·split at e
   ·rename_i h3
    obtain ⟨h3, h4⟩ := h3
    split at e
    ·rename_i b c h2 h2'
     cases e
     obtain ⟨e1, k1⟩ := Tree.ex_tree hr.2.1 h2; obtain ⟨e2, k2⟩ := Tree.ex_tree hr.2.2 h2'
     have e3 := Hd hh (by rw [h3]; decide)
     have e4 := Hd hr.1 (Iu h4)
     refine ⟨?_, by simp [Ex.ok, k1, k2, h4]⟩
     conv => lhs; rw [e3, h3, e4, e1, e2]
     rfl
    ·cases e
   ·cases e
 | .node n [h, f, x, s, t, b], _, hg, e => by
  obtain ⟨rfl, hh, hr⟩ := Jd hg
  simp [F2] at hr
  simp only [Tree.ex] at e
  split at e
  ·rename_i h3
   obtain ⟨h3, h4, h5, h6, h7, h8⟩ := h3
   split at e
   ·rename_i s' t' b' h1 h2 h2'
    cases e
    have e0 := Tree.ty_tree hr.2.2.1 h1
    have e1 := Tree.ty_tree hr.2.2.2.1 h2
    obtain ⟨e2, k2⟩ := Tree.ex_tree hr.2.2.2.2 h2'
    have e3 := Hd hh (by rw [h3]; decide)
    have e4 := Hd hr.1 (Iu h4)
    have e5 := Hd hr.2.1 (Iu h5)
    rw [e0, Ty.tree_size] at h7; rw [e1, Ty.tree_size] at h8; refine ⟨?_, by simp [Ex.ok, k2, h4, h5, h6, h7, h8]⟩
    conv => lhs; rw [e3, h3, e4, e5, e0, e1, e2]
    rfl
   ·cases e
  ·cases e
 | .node _ [h], _, _, e => by simp [Tree.ex] at e
 | .node _ [h, x, y, z, w], _, _, e => by simp [Tree.ex] at e
 | .node _ (h :: x :: y :: z :: w :: u :: v :: r), _, _, e => by simp [Tree.ex] at e
theorem Ex.tree_ex : ∀ {a : Ex}, a.ok = true → a.tree.ex = some a
 | .num s, h => by
  have h : Ci s = true := h
  have : B0 s = false := by
   cases hn : B0 s with
   | false => rfl
   | true => rw [Hy hn] at h; cases h
  simp [Ex.tree, Tree.ex, this, h]
 | .name s, h => by
  have h : B0 s = true := h
  simp [Ex.tree, Tree.ex, h]
 | .bin o a b, h => by simp [Ex.ok] at h; simp [Ex.tree, Tree.ex, Tree.atom, B5.of_txt, Ex.tree_ex h.1, Ex.tree_ex h.2]
 | .ite a b c, h => by simp [Ex.ok] at h; simp [Ex.tree, Tree.ex, Tree.atom, Ex.tree_ex h.1.1, Ex.tree_ex h.1.2, Ex.tree_ex h.2]
 | .lt x a b, h => by
  simp [Ex.ok] at h
  have : Dz ≠ Gy := by decide
  simp [Ex.tree, Tree.ex, Tree.atom, Ex.tree_ex h.1.2, Ex.tree_ex h.2, h.1.1, this]
 | .fn f x s t b, h => by
  simp [Ex.ok] at h
  obtain ⟨⟨⟨⟨⟨h1, h2⟩, h3⟩, h4⟩, h5⟩, h6⟩ := h
  simp [Ex.tree, Tree.ex, Tree.atom, Ex.tree_ex h6, Ty.tree_ty, Ty.tree_size, *]
 | .un o a, h => by simp [Ex.ok] at h; simp [Ex.tree, Tree.ex, Tree.atom, U2.of_txt, Ex.tree_ex h]
set_option maxRecDepth 100000
set_option linter.unusedVariables false
set_option linter.unusedSimpArgs false

theorem Y2 : ∀ ts : List Tree, ts.length ≤ (Gm ts).length
 | [] => Nat.le_refl _
 | t :: ts => by have := Y2 ts; simp [Gm]; omega
theorem Uj {p : UInt8 → Bool} {a r : As} (ha : a.all p = true) (hr : ∀ c, r.head? = some c → p c = false) : (a ++ r).takeWhile p = a ∧ (a ++ r).dropWhile p = r := by
 have hp : ∀ x ∈ a, p x = true := by simpa using ha
 rw [List.takeWhile_append_of_pos hp, List.dropWhile_append_of_pos hp]
 cases r with
 | nil => simp
 | cons c r => have := hr c rfl; simp [List.takeWhile, List.dropWhile, this]
theorem Ack {c : UInt8} (h : Fn c = true) : c.toNat ≠ 40 ∧ c.toNat ≠ 41 ∧ c.toNat ≠ 32 := by
 simp [Fn] at h; omega
mutual
theorem O5 : ∀ (t : Tree) (k : Nat) (r : As), t.good = true → t.bytes = true → (∀ c, r.head? = some c → Fn c = false) →
  E4 k (t.text ++ r) = if t.depth ≤ k then some (t, r) else none
 | .node a [], k, r, hg, hb, hr => by
  simp [Tree.good, F2] at hg
  simp only [Tree.bytes, Gz, Bool.and_true] at hb
  obtain ⟨h1, h2⟩ := Uj hb hr
  have h40 : ((a ++ r).getD 0 0).toNat ≠ 40 := by
   cases a with
   | nil => exact absurd rfl hg
   | cons c a => simp at hb; exact (Ack hb.1).1
  simp only [Tree.text, Tree.depth, List.isEmpty_nil, cond_true, Nat.zero_le, if_true]
  rw [Ij h40, h1, h2, if_neg hg]
 | .node a (t :: ts), k, r, hg, hb, hr => by
  obtain ⟨rfl, g1, g2⟩ := Jd hg
  simp only [Tree.bytes, Gz, Bool.and_eq_true] at hb
  have e : (Tree.node [] (t :: ts)).text ++ r = 40 :: (t.text ++ Gm ts ++ 41 :: r) := by simp [Tree.text]
  rw [e]
  cases k with
  | zero => rw [Kv Ac, if_neg (by simp [Tree.depth])]
  | succ k =>
   rw [Js Ac]
   have hl := Y2 ts
   rw [show (40 :: (t.text ++ Gm ts ++ 41 :: r)).drop 1 = t.text ++ Gm ts ++ 41 :: r from rfl]; rw [Pw t ts k _ r g1 g2 hb.2.1 hb.2.2 Dr]
   have hdep : (Tree.node [] (t :: ts)).depth = Ec (t :: ts) + 1 := rfl
   by_cases hd : Ec (t :: ts) ≤ k
   ·rw [if_pos hd, if_pos (show (Tree.node [] (t :: ts)).depth ≤ k + 1 by omega)]
   ·rw [if_neg hd, if_neg (show ¬ (Tree.node [] (t :: ts)).depth ≤ k + 1 by omega)]
theorem Pw : ∀ (t : Tree) (ts : List Tree) (k n : Nat) (r : As), t.good = true → F2 ts = true → t.bytes = true → Gz ts = true → ts.length + 1 ≤ n →
  Fe (E4 k) n (t.text ++ Gm ts ++ 41 :: r) = if Ec (t :: ts) ≤ k then some (t :: ts, r) else none
 | t, [], k, n, r, hg, hg2, hb, hb2, hn => by
  obtain ⟨m, rfl⟩ : ∃ m, n = m + 1 := ⟨n - 1, by simp at hn; omega⟩
  have := O5 t k (41 :: r) hg hb (by intro c hc; simp at hc; subst hc; decide)
  simp only [Gm, List.append_nil, Fe, this]
  by_cases hd : t.depth ≤ k
  ·rw [if_pos hd, if_pos (by simp [Ec]; omega)]; rfl
  ·rw [if_neg hd, if_neg (by simp [Ec]; omega)]
 | t, u :: us, k, n, r, hg, hg2, hb, hb2, hn => by
  obtain ⟨m, rfl⟩ : ∃ m, n = m + 1 := ⟨n - 1, by simp at hn; omega⟩
  simp only [F2, Bool.and_eq_true] at hg2
  simp only [Gz, Bool.and_eq_true] at hb2
  have h1 := O5 t k (32 :: (u.text ++ Gm us ++ 41 :: r)) hg hb (by intro c hc; simp at hc; subst hc; decide)
  have h2 := Pw u us k m r hg2.1 hg2.2 hb2.1 hb2.2 (by simp at hn; omega)
  have e : t.text ++ Gm (u :: us) ++ 41 :: r = t.text ++ 32 :: (u.text ++ Gm us ++ 41 :: r) := by simp [Gm]
  rw [e]
  simp only [Fe, h1]
  by_cases hd : t.depth ≤ k
  ·rw [if_pos hd]
   have c1 : ((32 : UInt8).toNat == 41) = false := by decide
   have c2 : ((32 : UInt8).toNat == 32) = true := by decide
   simp only [c1, c2, cond_false, cond_true, h2]
   by_cases hd2 : Ec (u :: us) ≤ k
   ·rw [if_pos hd2, if_pos (by simp only [Ec] at *; omega)]
   ·rw [if_neg hd2, if_neg (by simp only [Ec] at *; omega)]
  ·rw [if_neg hd, if_neg (by simp [Ec]; omega)]
end
def Tree.fits (t : Tree) : Bool := decide (t.depth ≤ 60) && decide (t.len ≤ 12000)
theorem Aei {t : Tree} (hg : t.good = true) (hb : t.bytes = true) : D4 t.text = if t.fits then some t else none := by
 have h := O5 t 60 [] hg hb Ae
 rw [List.append_nil] at h
 unfold D4
 rw [h, t.text_len]
 simp only [Tree.fits, Bool.and_eq_true, decide_eq_true_eq]
 by_cases h1 : 12000 < t.len
 ·rw [if_pos h1, if_neg Aa]
 ·rw [if_neg h1]
  by_cases h2 : t.depth ≤ 60
  ·rw [if_pos h2, if_pos Aa]
  ·rw [if_neg h2, if_neg Aa]
theorem Ii {s : As} {t : Tree} (h : D4 s = some t) : t.fits = true ∧ t.good = true ∧ t.bytes = true := by
 obtain ⟨h1, h2⟩ := Mr h
 have h3 := h1.text
 rw [List.append_nil] at h3; refine ⟨?_, h1.good, h1.bytes⟩
 have := h1.depth
 rw [h3, t.text_len] at h2
 simp [Tree.fits, this, h2]

theorem Rf {b : UInt8} (h : E6 b = true) : Fn b = true := by simp [E6] at h; simp [Fn]; omega
theorem Kd {s : As} (h : B0 s = true) : s.all Fn = true := by
 cases s with
 | nil => rfl
 | cons c r =>
  simp only [B0, Bool.and_eq_true] at h
  simp only [List.all_cons, Bool.and_eq_true]
  refine ⟨by have := h.1.2; simp [Ps] at this; simp [Fn]; omega, ?_⟩
  have h2 := h.2
  rw [List.all_eq_true] at h2 ⊢
  exact fun x hx => Rf (h2 x hx)
theorem Jf {s : As} (h : B0 s = true) : s.length ≤ 4 := by
 cases s with
 | nil => simp
 | cons c r => simp [B0] at h; simp; omega
theorem X8 {s : As} (h : Ci s = true) : s.all Fn = true := by
 simp only [Ci, Bool.or_eq_true, decide_eq_true_eq] at h
 rcases h with rfl | h
 ·decide
 ·simp only [Bool.and_eq_true] at h
  have h2 := h.1.2
  unfold Ef at h2
  have key : ∀ l : As, l.all E6 = true → l.all Fn = true := fun l hl => by
   rw [List.all_eq_true] at hl ⊢
   exact fun x hx => Rf (hl x hx)
  split at h2
  ·cases s with
   | nil => rfl
   | cons c r =>
    rename_i h45
    simp only [List.drop_succ_cons, List.drop_zero] at h2
    simp only [List.all_cons, Bool.and_eq_true]
    refine ⟨?_, key r h2⟩
    simp at h45
    simp [Fn, h45]
  ·exact key s h2
theorem Ny {s : As} (h : Ci s = true) : s.length ≤ 4 := by
 simp only [Ci, Bool.or_eq_true, decide_eq_true_eq] at h
 rcases h with rfl | h
 ·decide
 ·simp only [Bool.and_eq_true, decide_eq_true_eq] at h
  have := h.1.1
  unfold Ef at this
  split at this
  ·rw [List.length_drop] at this; omega
  ·omega
theorem Ty.tree_good : ∀ t : Ty, t.tree.good = true ∧ t.tree.bytes = true
 | .i => ⟨rfl, by decide⟩
 | .fn a b => by
  have := a.tree_good; have := b.tree_good
  simp [Ty.tree, Tree.good, F2, Tree.bytes, Gz, *]; decide
 | .pr a b => by
  have := a.tree_good; have := b.tree_good
  simp [Ty.tree, Tree.good, F2, Tree.bytes, Gz, *]; decide
theorem Ex.tree_good : ∀ {e : Ex}, e.ok = true → e.tree.good = true ∧ e.tree.bytes = true
 | .num s, h => by
  have h : Ci s = true := h
  have := X9 h; have := X8 h
  simp [Ex.tree, Tree.good, F2, Tree.bytes, Gz]; exact ⟨by assumption, by simpa using this⟩
 | .name s, h => by
  have h : B0 s = true := h
  have := Iu h; have := Kd h
  simp [Ex.tree, Tree.good, F2, Tree.bytes, Gz]; exact ⟨by assumption, by simpa using this⟩
 | .bin o a b, h => by
  simp [Ex.ok] at h
  have := Ex.tree_good h.1; have := Ex.tree_good h.2
  simp [Ex.tree, Tree.good, F2, Tree.bytes, Gz, *]
  cases o <;> decide
 | .ite a b c, h => by
  simp [Ex.ok] at h
  have := Ex.tree_good h.1.1; have := Ex.tree_good h.1.2; have := Ex.tree_good h.2
  simp [Ex.tree, Tree.good, F2, Tree.bytes, Gz, *]; decide
 | .lt x a b, h => by
  simp [Ex.ok] at h
  have := Ex.tree_good h.1.2; have := Ex.tree_good h.2; have := Iu h.1.1; have h3 := Kd h.1.1
  simp at h3
  simp [Ex.tree, Tree.good, F2, Tree.bytes, Gz, *]
  exact ⟨by decide, by decide, h3⟩
 | .fn f x s t b, h => by
  simp [Ex.ok] at h
  obtain ⟨⟨⟨⟨⟨h1, h2⟩, h3⟩, h4⟩, h5⟩, h6⟩ := h
  have := Ex.tree_good h6; have := s.tree_good; have := t.tree_good; have := Iu h1; have := Iu h2; have k1 := Kd h1; have k2 := Kd h2
  simp at k1 k2
  simp [Ex.tree, Tree.good, F2, Tree.bytes, Gz, *]
  exact ⟨by decide, by decide, k1, k2⟩
 | .un o a, h => by
  have h : a.ok = true := h
  have := Ex.tree_good h
  simp [Ex.tree, Tree.good, F2, Tree.bytes, Gz, *]
  cases o <;> decide

def Ex.fine (e : Ex) : Bool := e.ok && decide (e.size ≤ 120) && e.tree.fits
def Fo (s : As) : Option Ex := match D4 s with
 | some t => match t.ex with
  | some e => if e.size ≤ 120 then some e else none
  | none => none
 | none => none
theorem Nw {s : As} {e : Ex} (h : Fo s = some e) : D4 s = some e.tree ∧ e.fine = true ∧ s = e.tree.text := by
 unfold Fo at h
 split at h
 ·rename_i t hp
  split at h
  ·rename_i e' he
   split at h
   ·rename_i hz
    cases h
    obtain ⟨h1, h2, h3⟩ := Ii hp; obtain ⟨rfl, h4⟩ := Tree.ex_tree h2 he
    exact ⟨hp, by simp [Ex.fine, h4, hz, h1], (Ku hp).symm⟩
   ·cases h
  ·cases h
 ·cases h
theorem Ly {e : Ex} (h : e.ok = true) : Fo e.tree.text = if e.fine then some e else none := by
 obtain ⟨h1, h2⟩ := Ex.tree_good h
 unfold Fo
 rw [Aei h1 h2]
 simp only [Ex.fine, h, Bool.true_and, Bool.and_eq_true, decide_eq_true_eq]
 by_cases h3 : e.tree.fits = true
 ·simp only [h3, if_true, Ex.tree_ex h, and_true]
 ·simp [h3]
theorem Y3 {s : As} {t : Tree} (h : J7 s = some t) : ∃ a : Ty, t = a.tree ∧ a.size ≤ 16 ∧ s = a.tree.text := by
 unfold J7 at h
 cases hp : D4 s with
 | none => rw [hp] at h; cases h
 | some t0 =>
  rw [hp] at h
  simp only [Tree.typed, Tree.ty_isType] at h
  cases ha : t0.ty with
  | none => simp [ha] at h
  | some a =>
   by_cases hz : t0.size ≤ 16
   ·simp [ha, hz] at h
    subst h; obtain rfl := Tree.ty_tree (Ii hp).2.1 ha; rw [Ty.tree_size] at hz
    exact ⟨a, rfl, hz, (Ku hp).symm⟩
   ·simp [ha, hz] at h
theorem Ty.size_pos : ∀ a : Ty, 1 ≤ a.size
 | .i => Nat.le_refl _
 | .fn a b => by simp [Ty.size]; omega
 | .pr a b => by simp [Ty.size]; omega
theorem Ty.tree_small : ∀ a : Ty, a.tree.depth + 1 ≤ a.size ∧ a.tree.len + 3 ≤ 5 * a.size
 | .i => ⟨Nat.le_refl _, by simp [Ty.tree, Tree.len, Ty.size]⟩
 | .fn a b => by
  have := a.tree_small; have := b.tree_small; have := a.size_pos; have := b.size_pos
  simp [Ty.tree, Tree.depth, Ec, Tree.len, Gs, Ty.size]; omega
 | .pr a b => by
  have := a.tree_small; have := b.tree_small; have := a.size_pos; have := b.size_pos
  simp [Ty.tree, Tree.depth, Ec, Tree.len, Gs, Ty.size]; omega
set_option maxRecDepth 100000
set_option linter.unusedVariables false
set_option linter.unusedSimpArgs false

def Ex.occ : Ex → List As → List As
 | .num _, _ => []
 | .name s, bd => if s ∈ bd then [] else [s]
 | .bin _ a b, bd => a.occ bd ++ b.occ bd
 | .ite a b c, bd => a.occ bd ++ b.occ bd ++ c.occ bd
 | .lt x a b, bd => a.occ bd ++ b.occ (bd ++ [x])
 | .fn f x _ _ b, bd => b.occ (bd ++ [f, x])
 | .un _ a, bd => a.occ bd
def Fj (l : List As) (s : As) : List As := if s ∈ l then l else l ++ [s]
def C8 (l m : List As) : List As := m.foldl Fj l
def Ex.free (e : Ex) : List As := C8 [] (e.occ [])
def Ex.closed (e : Ex) : Bool := (e.occ []).isEmpty
def Ex.count (n : As) : Ex → Nat
 | .num _ => 0
 | .name s => if s = n then 1 else 0
 | .bin _ a b => a.count n + b.count n
 | .ite a b c => a.count n + b.count n + c.count n
 | .lt x a b => a.count n + (if x = n then 0 else b.count n)
 | .fn f x _ _ b => if f = n ∨ x = n then 0 else b.count n
 | .un _ a => a.count n
def Ex.put : Ex → As → Ex → Ex
 | .num s, _, _ => .num s
 | .name s, n, v => if s = n then v else .name s
 | .bin o a b, n, v => .bin o (a.put n v) (b.put n v)
 | .ite a b c, n, v => .ite (a.put n v) (b.put n v) (c.put n v)
 | .lt x a b, n, v => .lt x (a.put n v) (if x = n then b else b.put n v)
 | .fn f x s t b, n, v => .fn f x s t (if f = n ∨ x = n then b else b.put n v)
 | .un o a, n, v => .un o (a.put n v)

theorem Cs (l m k : List As) : C8 l (m ++ k) = C8 (C8 l m) k := by simp [C8]
theorem W9 {l : List As} {s x : As} : x ∈ Fj l s ↔ x ∈ l ∨ x = s := by
 unfold Fj; split
 ·constructor
  ·exact .inl
  ·rintro (h | rfl) <;> assumption
 ·simp
theorem Hh {x : As} : ∀ {m l : List As}, x ∈ C8 l m ↔ x ∈ l ∨ x ∈ m := by
 intro m
 induction m with
 | nil => intro l; simp [C8]
 | cons s m ih => intro l; rw [show C8 l (s :: m) = C8 (Fj l s) m from rfl, ih, W9]; simp [or_assoc]
theorem Ex.free_mem {e : Ex} {x : As} : x ∈ e.free ↔ x ∈ e.occ [] := by simp [Ex.free, Hh]
theorem Sa {m : List As} : C8 [] m = [] ↔ m = [] := by
 constructor
 ·intro h
  cases m with
  | nil => rfl
  | cons s m =>
   have : s ∈ C8 [] (s :: m) := Hh.2 (.inr (.head _))
   rw [h] at this; cases this
 ·rintro rfl; rfl
theorem Ex.closed_free (e : Ex) : e.closed = decide (e.free = []) := by
 rw [Bool.eq_iff_iff]; simp [Ex.closed, Ex.free, Sa]
theorem Ex.occ_filter : ∀ (e : Ex) (bd : List As), e.occ bd = (e.occ []).filter (fun s => decide (s ∉ bd))
 | .num _, bd => rfl
 | .name s, bd => by by_cases h : s ∈ bd <;> simp [Ex.occ, List.filter_cons, h]
 | .bin _ a b, bd => by simp [Ex.occ, a.occ_filter bd, b.occ_filter bd]
 | .ite a b c, bd => by simp [Ex.occ, a.occ_filter bd, b.occ_filter bd, c.occ_filter bd]
 | .lt x a b, bd => by
  simp only [Ex.occ, List.nil_append, List.filter_append]
  rw [a.occ_filter bd, b.occ_filter (bd ++ [x]), b.occ_filter [x], List.filter_filter]
  congr 2; funext s; simp
 | .fn f x _ _ b, bd => by
  simp only [Ex.occ, List.nil_append]
  rw [b.occ_filter (bd ++ [f, x]), b.occ_filter [f, x], List.filter_filter]
  congr 2; funext s; simp
 | .un _ a, bd => by simp [Ex.occ, a.occ_filter bd]
theorem Ex.occ_mem {e : Ex} {bd : List As} {x : As} : x ∈ e.occ bd ↔ x ∈ e.occ [] ∧ x ∉ bd := by
 rw [e.occ_filter bd]; simp
theorem Ex.occ_name : ∀ {e : Ex} {bd : List As}, e.ok = true → ∀ x ∈ e.occ bd, B0 x = true
 | .num _, bd, h, x, hx => by cases hx
 | .name s, bd, h, x, hx => by
  simp only [Ex.occ] at hx
  split at hx
  ·cases hx
  ·simp at hx; subst hx; exact h
 | .bin _ a b, bd, h, x, hx => by
  simp [Ex.ok] at h; simp [Ex.occ] at hx
  rcases hx with hx | hx
  ·exact Ex.occ_name h.1 x hx
  ·exact Ex.occ_name h.2 x hx
 | .ite a b c, bd, h, x, hx => by
  simp [Ex.ok] at h; simp [Ex.occ] at hx
  rcases hx with hx | hx | hx
  ·exact Ex.occ_name h.1.1 x hx
  ·exact Ex.occ_name h.1.2 x hx
  ·exact Ex.occ_name h.2 x hx
 | .lt y a b, bd, h, x, hx => by
  simp [Ex.ok] at h; simp [Ex.occ] at hx
  rcases hx with hx | hx
  ·exact Ex.occ_name h.1.2 x hx
  ·exact Ex.occ_name h.2 x hx
 | .fn f y s t b, bd, h, x, hx => by
  simp [Ex.ok] at h; simp [Ex.occ] at hx
  exact Ex.occ_name h.2 x hx
 | .un _ a, bd, h, x, hx => Ex.occ_name (e := a) h x hx
theorem Ex.put_ok : ∀ {e : Ex} {n : As} {v : Ex}, e.ok = true → v.ok = true → (e.put n v).ok = true
 | .num _, n, v, h, hv => h
 | .name s, n, v, h, hv => by simp only [Ex.put]; split <;> assumption
 | .bin _ a b, n, v, h, hv => by simp [Ex.ok] at h; simp [Ex.put, Ex.ok, Ex.put_ok h.1 hv, Ex.put_ok h.2 hv]
 | .ite a b c, n, v, h, hv => by simp [Ex.ok] at h; simp [Ex.put, Ex.ok, Ex.put_ok h.1.1 hv, Ex.put_ok h.1.2 hv, Ex.put_ok h.2 hv]
 | .lt x a b, n, v, h, hv => by
  simp [Ex.ok] at h
  simp only [Ex.put, Ex.ok, Ex.put_ok h.1.2 hv, h.1.1]
  split
  ·simpa using h.2
  ·simp [Ex.put_ok h.2 hv]
 | .fn f x s t b, n, v, h, hv => by
  simp [Ex.ok] at h
  obtain ⟨⟨⟨⟨⟨h1, h2⟩, h3⟩, h4⟩, h5⟩, h6⟩ := h
  simp only [Ex.put, Ex.ok, h1, h2, h4, h5]
  split
  ·simp [h3, h6]
  ·simp [h3, Ex.put_ok h6 hv]
 | .un _ a, n, v, h, hv => by simp only [Ex.put]; exact Ex.put_ok (e := a) h hv

/- Types. -/
def Ge (l : List As) (m : List Ty) (s : As) : Option Ty := (B7 l s).bind (fun i => m[i]?)
def B5.ty : B5 → Ty → Ty → Option Ty
 | .call, s, t => match s with
  | .fn a b => if a = t then some b else none
  | _ => none
 | .pair, s, t => if (Ty.pr s t).size ≤ 16 then some (.pr s t) else none
 | _, s, t => if s = .i ∧ t = .i then some .i else none
def U2.ty : U2 → Ty → Option Ty
 | .fst, .pr a _ => some a
 | .snd, .pr _ b => some b
 | _, _ => none
def Ex.chk : Ex → List As → List Ty → Except Ex Ty
 | .num _, _, _ => .ok .i
 | .name s, l, m => match Ge l m s with
  | some t => .ok t
  | none => .error (.name s)
 | .bin o a b, l, m => match a.chk l m with
  | .error e => .error e
  | .ok s => match b.chk l m with
   | .error e => .error e
   | .ok t => match o.ty s t with
    | some u => .ok u
    | none => .error (.bin o a b)
 | .ite a b c, l, m => match a.chk l m with
  | .error e => .error e
  | .ok s => match b.chk l m with
   | .error e => .error e
   | .ok t => match c.chk l m with
    | .error e => .error e
    | .ok u => if s = .i ∧ t = u then .ok t else .error (.ite a b c)
 | .lt x a b, l, m => match a.chk l m with
  | .error e => .error e
  | .ok s => b.chk (l ++ [x]) (m ++ [s])
 | .fn f x s t b, l, m => if (Ty.fn s t).size ≤ 16 then (match b.chk (l ++ [f, x]) (m ++ [.fn s t, s]) with
   | .error e => .error e
   | .ok u => if u = t then .ok (.fn s t) else .error (.fn f x s t b))
  else .error (.fn f x s t b)
 | .un o a, l, m => match a.chk l m with
  | .error e => .error e
  | .ok s => match o.ty s with
   | some u => .ok u
   | none => .error (.un o a)
def Ex.ty (e : Ex) (l : List As) (m : List Ty) : Option Ty := match e.chk l m with
 | .ok t => some t
 | .error _ => none
set_option maxRecDepth 100000
set_option linter.unusedVariables false
set_option linter.unusedSimpArgs false

theorem Hp (h : As) : (∃ o : B5, h = o.txt ∧ Ax h = (1, 3)) ∨ (h = Gy ∧ Ax h = (1, 4)) ∨ (h = Dz ∧ Ax h = (2, 4)) ∨ (h = Dk ∧ Ax h = (5, 6)) ∨ (∃ o : U2, h = o.txt ∧ Ax h = (1, 2)) ∨
  (Ax h = (0, 0) ∧ B5.of h = none ∧ U2.of h = none ∧ h ≠ Gy ∧ h ≠ Dz ∧ h ≠ Dk) := by
 unfold Ax
 by_cases h1 : h = [43]
 ·exact .inl ⟨.add, h1, by simp [h1]⟩
 by_cases h2 : h = [45]
 ·exact .inl ⟨.sub, h2, by simp [h2]⟩
 by_cases h3 : h = [42]
 ·exact .inl ⟨.mul, h3, by simp [h3]⟩
 by_cases h4 : h = E1
 ·exact .inl ⟨.call, h4, by simp [h4]⟩
 by_cases h5 : h = Et
 ·exact .inl ⟨.pair, h5, by simp [h5]⟩
 have hb : ¬ (h = [43] ∨ h = [45] ∨ h = [42] ∨ h = E1 ∨ h = Et) := by simp [*]
 rw [if_neg hb]
 by_cases h6 : h = Gy
 ·exact .inr (.inl ⟨h6, by rw [if_pos h6]⟩)
 rw [if_neg h6]
 by_cases h7 : h = Dz
 ·exact .inr (.inr (.inl ⟨h7, by rw [if_pos h7]⟩))
 rw [if_neg h7]
 by_cases h8 : h = Dk
 ·exact .inr (.inr (.inr (.inl ⟨h8, by rw [if_pos h8]⟩)))
 rw [if_neg h8]
 by_cases h9 : h = Gw
 ·exact .inr (.inr (.inr (.inr (.inl ⟨.fst, h9, by simp [h9]⟩))))
 by_cases h10 : h = Gx
 ·exact .inr (.inr (.inr (.inr (.inl ⟨.snd, h10, by simp [h10]⟩))))
 refine .inr (.inr (.inr (.inr (.inr ⟨by simp [*], ?_, ?_, h6, h7, h8⟩))))
 ·simp [B5.of, *]
 ·simp [U2.of, *]

def Aia : Tree := .node [] []
def Tree.pt (t : Tree) (i : Nat) : Tree := t.parts.getD i Aia
theorem Tree.pt_at {t : Tree} {i : Nat} (h : i < t.parts.length) : t.pt i = t.parts[i] := by simp [Tree.pt, h]
theorem Tree.pt_lt (t : Tree) (i : Nat) (h : i < t.parts.length) : SizeOf.sizeOf (t.pt i) < SizeOf.sizeOf t := by rw [Tree.pt_at h]; exact t.part_lt i h
theorem Tree.pt_good {t : Tree} (hg : t.good = true) (i : Nat) (h : i < t.parts.length) : (t.pt i).good = true := by rw [Tree.pt_at h]; exact t.good_part hg i h
def Me (t : Tree) : Bool :=
 if t.head = Dz then B0 (t.pt 1).atom
 else if t.head = Dk then B0 (t.pt 1).atom && B0 (t.pt 2).atom && decide ((t.pt 1).atom ≠ (t.pt 2).atom) && (t.pt 3).typed && (t.pt 4).typed
 else true
theorem B5.txt_ne (o : B5) : o.txt ≠ Gy ∧ o.txt ≠ Dz ∧ o.txt ≠ Dk ∧ U2.of o.txt = none ∧ o.txt ≠ [] := by cases o <;> decide
theorem U2.txt_ne (o : U2) : o.txt ≠ Gy ∧ o.txt ≠ Dz ∧ o.txt ≠ Dk ∧ o.txt ≠ [] := by cases o <;> decide
theorem U2.txt_b5 (o : U2) : B5.of o.txt = none := by cases o <;> rfl
theorem U0 : ∀ {t : Tree}, t.parts ≠ [] → D2 t = [] → t.ex = none
 | .node a [], h, _ => absurd rfl h
 | .node a (h :: ps), _, hk => by
  have hd : (Tree.node a (h :: ps)).head = h.atom := rfl
  unfold D2 at hk
  rw [hd] at hk
  simp only [Tree.parts] at hk
  rcases Hp h.atom with ⟨o, e, hr⟩ | ⟨e, hr⟩ | ⟨e, hr⟩ | ⟨e, hr⟩ | ⟨o, e, hr⟩ | ⟨hr, e1, e2, e3, e4, e5⟩
  all_goals rw [hr] at hk
  ·rcases ps with _ | ⟨x, _ | ⟨y, _ | ⟨z, _ | ⟨w, _ | ⟨u, _ | ⟨v, ps⟩⟩⟩⟩⟩⟩ <;> first | (simp at hk; done) | simp [Tree.ex, e, o.txt_ne]
  ·rcases ps with _ | ⟨x, _ | ⟨y, _ | ⟨z, _ | ⟨w, _ | ⟨u, _ | ⟨v, ps⟩⟩⟩⟩⟩⟩ <;> first | (simp at hk; done) | simp [Tree.ex, e, U2.of, B5.of, Gy, Gw, Gx, E1, Et, Dz, Dk]
  ·rcases ps with _ | ⟨x, _ | ⟨y, _ | ⟨z, _ | ⟨w, _ | ⟨u, _ | ⟨v, ps⟩⟩⟩⟩⟩⟩ <;> first | (simp at hk; done) | simp [Tree.ex, e, U2.of, B5.of, Gy, Gw, Gx, E1, Et, Dz, Dk]
  ·rcases ps with _ | ⟨x, _ | ⟨y, _ | ⟨z, _ | ⟨w, _ | ⟨u, _ | ⟨v, ps⟩⟩⟩⟩⟩⟩ <;> first | (simp at hk; done) | simp [Tree.ex, e, U2.of, B5.of, Gy, Gw, Gx, E1, Et, Dz, Dk]
  ·have := o.txt_b5
   rcases ps with _ | ⟨x, _ | ⟨y, _ | ⟨z, _ | ⟨w, _ | ⟨u, _ | ⟨v, ps⟩⟩⟩⟩⟩⟩ <;> first | (simp at hk; done) | simp [Tree.ex, e, o.txt_ne, this]
  ·rcases ps with _ | ⟨x, _ | ⟨y, _ | ⟨z, _ | ⟨w, _ | ⟨u, _ | ⟨v, ps⟩⟩⟩⟩⟩⟩ <;> simp [Tree.ex, *]
theorem Aeu (t : Tree) : t.typed = (t.ty.isSome && decide (t.size ≤ 16)) := by simp [Tree.typed, Tree.ty_isType]
theorem U1 : ∀ {t : Tree}, D2 t ≠ [] → t.ex.isSome = ((D2 t).all (fun i => (t.pt i).ex.isSome) && Me t)
 | .node a [], hk => by exact absurd rfl hk
 | .node a (h :: ps), hk => by
  have hd : (Tree.node a (h :: ps)).head = h.atom := rfl
  unfold D2 Me at *
  rw [hd] at hk ⊢
  simp only [Tree.parts, Tree.pt] at hk ⊢
  rcases Hp h.atom with ⟨o, e, hr⟩ | ⟨e, hr⟩ | ⟨e, hr⟩ | ⟨e, hr⟩ | ⟨o, e, hr⟩ | ⟨hr, e1, e2, e3, e4, e5⟩
  all_goals rw [hr] at hk ⊢
  ·rcases ps with _ | ⟨x, _ | ⟨y, _ | ⟨z, ps⟩⟩⟩ <;> simp at hk
   have := o.txt_ne
   simp [List.range', Tree.ex, e, B5.of_txt, this]
   cases x.ex <;> cases y.ex <;> rfl
  ·rcases ps with _ | ⟨x, _ | ⟨y, _ | ⟨z, _ | ⟨w, ps⟩⟩⟩⟩ <;> simp at hk
   simp [List.range', Tree.ex, e, show Gy ≠ Dz from by decide, show Gy ≠ Dk from by decide]
   cases x.ex <;> cases y.ex <;> cases z.ex <;> rfl
  ·rcases ps with _ | ⟨x, _ | ⟨y, _ | ⟨z, _ | ⟨w, ps⟩⟩⟩⟩ <;> simp at hk
   simp [List.range', Tree.ex, e, show Dz ≠ Gy from by decide]
   cases B0 x.atom <;> cases y.ex <;> cases z.ex <;> simp
  ·rcases ps with _ | ⟨x, _ | ⟨y, _ | ⟨z, _ | ⟨w, _ | ⟨u, _ | ⟨v, ps⟩⟩⟩⟩⟩⟩ <;> simp at hk
   simp [List.range', Tree.ex, e, show Dk ≠ Dz from by decide, Aeu]
   cases B0 x.atom <;> cases B0 y.atom <;> by_cases hxy : x.atom = y.atom <;> by_cases hz : z.size ≤ 16 <;> by_cases hw : w.size ≤ 16 <;> cases z.ty <;> cases w.ty <;> cases u.ex <;> simp [*]
  ·rcases ps with _ | ⟨x, _ | ⟨y, ps⟩⟩ <;> simp at hk
   have := o.txt_ne
   simp [List.range', Tree.ex, e, U2.of_txt, this]
   cases x.ex <;> rfl
  ·simp at hk
theorem Afh {t : Tree} {i : Nat} (h : i ∈ D2 t) : i < t.parts.length ∧ 1 ≤ i := by
 unfold D2 at h
 split at h
 ·rename_i hl
  rw [List.mem_range'] at h; obtain ⟨j, hj, rfl⟩ := h
  have : 1 ≤ (Ax t.head).1 ∨ (Ax t.head).2 = 0 := by
   rcases Hp t.head with ⟨o, e, hr⟩ | ⟨e, hr⟩ | ⟨e, hr⟩ | ⟨e, hr⟩ | ⟨o, e, hr⟩ | ⟨hr, _⟩ <;> rw [hr] <;> simp
  omega
 ·cases h
theorem Afg (t : Tree) : (D2 t).length ≤ 5 := by
 unfold D2
 split
 ·rw [List.length_range']
  rcases Hp t.head with ⟨o, _, hr⟩ | ⟨_, hr⟩ | ⟨_, hr⟩ | ⟨_, hr⟩ | ⟨o, _, hr⟩ | ⟨hr, _⟩ <;> rw [hr] <;> decide
 ·exact Nat.zero_le _
set_option maxRecDepth 100000
set_option linter.unusedVariables false
set_option linter.unusedSimpArgs false

def W6 (oa : Option Addr) : Addr := oa.getD ⟨0, 0, none⟩
section rules
variable {P : Program} {f : FuncId} {n : Nat} {I₀ : Heap} {Q : Cv} {k : List Item} {E : Hg} {I : Heap} {L : Bj}
variable {ops : Array Oper} {d : Nat} {ty : TypeId} {pos : String} {af : Array Edge} {g : Option (Nat × Bool)} {l : List Oper}
theorem En {oa : Option Addr} {m i : Nat} (hn : oa = none → m = 0) (hi : i < m) : oa = some (W6 oa) := by
 cases oa with
 | none => have := hn rfl; omega
 | some x => rfl
theorem P7 {S : World → Prop} {T e : TypeId} {sz bb esz ebb : Nat} {z ez : List Value} {dd : TypeDesc} [ht : At P T (.slice e) sz bb z] [hte : At P e dd esz ebb ez] {x y : Operand} {oa : Option Addr} {m c : Nat} {i : Int}
  (hx : Ch E x = some (.slice oa m c)) (hy : Ch E y = some (.int .i64 i)) (i' : Nat) (hi : i = i') (him : i' < m) (hn : oa = none → m = 0) : Ia P E S ⟨some d, .indexAddr T x y, ty, pos, af, g⟩ (.pointer (some ((W6 oa).add (i' * esz)))) :=
 F5 hx hy i' hi him (En hn him)
theorem Wk {T e : TypeId} {sz bb esz ebb : Nat} {z ez : List Value} {dd : TypeDesc} [ht : At P T (.slice e) sz bb z] [hte : At P e dd esz ebb ez] {x y : Operand} {oa : Option Addr} {m c : Nat} {i : Int}
  (hx : Ch E x = some (.slice oa m c)) (hy : Ch E y = some (.int .i64 i)) (i' : Nat) (hi : i = i') (him : i' < m) (hn : oa = none → m = 0) (hg : Wants ops E g) (hdn : Nat.blt d n = true)
  (h : A8 P f n I₀ Q ops l k ((d, .pointer (some ((W6 oa).add (i' * esz)))) :: E) I L) : A8 P f n I₀ Q ops (⟨some d, .indexAddr T x y, ty, pos, af, g⟩ :: l) k E I L :=
 Es (P7 hx hy i' hi him hn) hg hdn h
theorem Bc {S : World → Prop} {T e : TypeId} {sz bb esz ebb : Nat} {z ez : List Value} {dd : TypeDesc} [ht : At P T (.slice e) sz bb z] [hte : At P e dd esz ebb ez] {x y : Operand} {oa : Option Addr} {m c : Nat} {i : Int}
  (hx : Ch E x = some (.slice oa m c)) (hy : Ch E y = some (.int .i64 i)) (i' : Nat) (hi : i = i') (him : i' < m := by first | omega | exact Fx (by assumption) (by decide) | (simp; done) | (simp; omega) | decide | (simp at *; omega)) (hn : oa = none → m = 0 := by first | assumption | exact FormAt.nil (by assumption) | exact Strs.nil' (by assumption) | exact Nums.nil' (by assumption) | exact Raw.nil' (by assumption)) : Ia P E S ⟨some d, .indexAddr T x y, ty, pos, af, g⟩ (.pointer (some ((W6 oa).add (i' * esz)))) := P7 hx hy i' hi him hn
theorem Bs {T e : TypeId} {sz bb esz ebb : Nat} {z ez : List Value} {dd : TypeDesc} [ht : At P T (.slice e) sz bb z] [hte : At P e dd esz ebb ez] {x y : Operand} {oa : Option Addr} {m c : Nat} {i : Int}
  (hx : Ch E x = some (.slice oa m c)) (hy : Ch E y = some (.int .i64 i)) (i' : Nat) (hi : i = i') (hg : Wants ops E g) (hdn : Nat.blt d n = true)
  (h : A8 P f n I₀ Q ops l k ((d, .pointer (some ((W6 oa).add (i' * esz)))) :: E) I L) (him : i' < m := by first | omega | exact Fx (by assumption) (by decide) | (simp; done) | (simp; omega) | decide | (simp at *; omega)) (hn : oa = none → m = 0 := by first | assumption | exact FormAt.nil (by assumption) | exact Strs.nil' (by assumption) | exact Nums.nil' (by assumption) | exact Raw.nil' (by assumption)) : A8 P f n I₀ Q ops (⟨some d, .indexAddr T x y, ty, pos, af, g⟩ :: l) k E I L := Wk hx hy i' hi him hn hg hdn h
theorem Bd {S : World → Prop} {T e : TypeId} {sz bb esz ebb : Nat} {z ez : List Value} {dd : TypeDesc} [ht : At P T (.slice e) sz bb z] [hte : At P e dd esz ebb ez] {x y : Operand} {oa : Option Addr} {ad : Addr} {m c : Nat} {i : Int}
  (hx : Ch E x = some (.slice oa m c)) (hy : Ch E y = some (.int .i64 i)) (i' : Nat) (hi : i = i') (him : i' < m := by first | omega | exact Fx (by assumption) (by decide) | (simp; done) | (simp; omega) | decide | (simp at *; omega)) (hn : oa = some ad := by first | rfl | assumption) : Ia P E S ⟨some d, .indexAddr T x y, ty, pos, af, g⟩ (.pointer (some (ad.add (i' * esz)))) := F5 hx hy i' hi him hn
theorem Bt {T e : TypeId} {sz bb esz ebb : Nat} {z ez : List Value} {dd : TypeDesc} [ht : At P T (.slice e) sz bb z] [hte : At P e dd esz ebb ez] {x y : Operand} {oa : Option Addr} {ad : Addr} {m c : Nat} {i : Int}
  (hx : Ch E x = some (.slice oa m c)) (hy : Ch E y = some (.int .i64 i)) (i' : Nat) (hi : i = i') (hg : Wants ops E g) (hdn : Nat.blt d n = true)
  (h : A8 P f n I₀ Q ops l k ((d, .pointer (some (ad.add (i' * esz)))) :: E) I L) (him : i' < m := by first | omega | exact Fx (by assumption) (by decide) | (simp; done) | (simp; omega) | decide | (simp at *; omega)) (hn : oa = some ad := by first | rfl | assumption) : A8 P f n I₀ Q ops (⟨some d, .indexAddr T x y, ty, pos, af, g⟩ :: l) k E I L := Es (F5 hx hy i' hi him hn) hg hdn h
theorem Aho {S : World → Prop} {tys : Array TypeId} {x y : Operand} {a b : Int} (hx : Ch E x = some (.int .i64 a)) (hy : Ch E y = some (.int .i64 b)) : Ia P E S ⟨some d, .call ⟨.builtin .max, #[x, y], tys⟩, ty, pos, af, g⟩ (.int .i64 (max a b)) := fun ac w he _ => by
  simp only [execOp, resolve, List.map_toArray, List.map, he.eval hx, he.eval hy, pure_bind, invoke, builtin]
  refine Ag (a := .int .i64 (max a b)) (w' := w) ?_ |>.trans rfl
  have e : (if a < b then b else a) = max a b := by split <;> omega
  simp only [Builtin.max_, List.foldlM, Builtin.max2, GT.gt, e]
  rfl
theorem Ahg {tys : Array TypeId} {x y : Operand} {a b : Int} (hx : Ch E x = some (.int .i64 a)) (hy : Ch E y = some (.int .i64 b)) (hg : Wants ops E g) (hdn : Nat.blt d n = true)
  (h : A8 P f n I₀ Q ops l k ((d, .int .i64 (max a b)) :: E) I L) : A8 P f n I₀ Q ops (⟨some d, .call ⟨.builtin .max, #[x, y], tys⟩, ty, pos, af, g⟩ :: l) k E I L :=
 Es (Aho hx hy) hg hdn h
theorem B6 {c : Operand} {x y : Code} {b : Bool} (hc : Ch E c = some (.bool b)) (hb : b = true) (h : RunS P f n I₀ Q (.code x :: k) E I L) : RunS P f n I₀ Q (.code (.cond c x y) :: k) E I L := by
 subst hb; exact B9 hc h
theorem De {c : Operand} {x y : Code} {b : Bool} (hc : Ch E c = some (.bool b)) (hb : b = false) (h : RunS P f n I₀ Q (.code y :: k) E I L) : RunS P f n I₀ Q (.code (.cond c x y) :: k) E I L := by
 subst hb; exact A0 hc h
end rules

theorem Ou {P : Program} {I : Heap} {L : Bj} {T : TypeId} {a : Addr} {vs us : List Value} {o : Nat} {fs : Array Field} {s bb : Nat} {z : List Value} [ht : At P T (.struct fs) s bb z] (h : Still I a vs) (hc : Oz o s vs = some us) :
  Gh P I L T (a.add o) (.agg us.toArray) := Ke (M8 hc).1 (h.cut hc).reads
structure FormAt (I : Heap) (t : Tree) (oa : Option Addr) (c : Nat) (oaf : Nat → Option Addr) (cf : Nat → Nat) : Prop where
 rep : Rep I t [.string (str t.atom), .slice oa t.parts.length c]
 part : ∀ i (hi : i < t.parts.length), Rep I (t.pt i) [.string (str (t.pt i).atom), .slice (oaf i) (t.pt i).parts.length (cf i)] ∧ Still I ((W6 oa).add (i * 2)) [.string (str (t.pt i).atom), .slice (oaf i) (t.pt i).parts.length (cf i)]
 nil : oa = none → t.parts.length = 0
 len : t.parts.length ≤ Bg
 alen : t.atom.length ≤ Bg
 cap : t.parts.length ≤ c
theorem FormAt.mono {I I' : Heap} (hle : HLe I I') {t : Tree} {oa : Option Addr} {c : Nat} {oaf : Nat → Option Addr} {cf : Nat → Nat} (h : FormAt I t oa c oaf cf) : FormAt I' t oa c oaf cf :=
 ⟨h.rep.mono hle, fun i hi => ⟨(h.part i hi).1.mono hle, (h.part i hi).2.mono hle⟩, h.nil, h.len, h.alen, h.cap⟩
theorem FormAt.st {I : Heap} {t : Tree} {oa : Option Addr} {c : Nat} {oaf : Nat → Option Addr} {cf : Nat → Nat} (h : FormAt I t oa c oaf cf) (i : Nat) (hi : i < t.parts.length) : Still I ((W6 oa).add (i * 2)) [.string (str (t.pt i).atom), .slice (oaf i) (t.pt i).parts.length (cf i)] := (h.part i hi).2
theorem FormAt.rp {I : Heap} {t : Tree} {oa : Option Addr} {c : Nat} {oaf : Nat → Option Addr} {cf : Nat → Nat} (h : FormAt I t oa c oaf cf) (i : Nat) (hi : i < t.parts.length) : Rep I (t.pt i) [.string (str (t.pt i).atom), .slice (oaf i) (t.pt i).parts.length (cf i)] := (h.part i hi).1
theorem Rep.at' {I : Heap} {t : Tree} {cs : List Value} (h : Rep I t cs) : ∃ oa c oaf cf, cs = [.string (str t.atom), .slice oa t.parts.length c] ∧ FormAt I t oa c oaf cf := by
 obtain ⟨oa, c, vs, rfl, hl, hs, hn, hc, ha, hp⟩ := h.open
 have key : ∀ i, ∃ p : Option Addr × Nat, ∀ hi : i < t.parts.length, Rep I (t.pt i) [.string (str (t.pt i).atom), .slice p.1 (t.pt i).parts.length p.2] ∧ Still I ((W6 oa).add (i * 2)) [.string (str (t.pt i).atom), .slice p.1 (t.pt i).parts.length p.2] := by
  intro i
  by_cases hi : i < t.parts.length
  ·obtain ⟨x, rfl, oa', c', h1, h2⟩ := Rep.at hl hs hn i hi; rw [Tree.pt_at hi]
   exact ⟨(oa', c'), fun _ => ⟨h1, h2⟩⟩
  ·exact ⟨(none, 0), fun h => absurd h hi⟩
 exact ⟨oa, c, fun i => (Classical.choose (key i)).1, fun i => (Classical.choose (key i)).2, rfl, h, fun i hi => Classical.choose_spec (key i) hi, fun e => by rw [hn e]; rfl, hp, ha, hc⟩
theorem Rep.atom_le {I : Heap} {t : Tree} {cs : List Value} (h : Rep I t cs) : t.atom.length ≤ Bg := by obtain ⟨_, _, _, _, _, _, _, _, ha, _⟩ := h.open; exact ha
theorem Nums.st {I : Heap} {oa : Option Addr} {l : List Nat} {c : Nat} (h : Nums I oa l c) (i : Nat) (hi : i < l.length) : Still I ((W6 oa).add (i * 1)) [.int .i64 (l.getD i 0 : Nat)] := by
 obtain ⟨x, rfl, hx⟩ := h.at i hi; rw [show l.getD i 0 = l[i] by simp [hi]]; exact hx
theorem Nums.nil' {I : Heap} {oa : Option Addr} {l : List Nat} {c : Nat} (h : Nums I oa l c) (e : oa = Option.none) : l.length = 0 := by rw [h.nil e]; rfl
theorem Strs.st {I : Heap} {oa : Option Addr} {l : List As} {c : Nat} (h : Strs I oa l c) (i : Nat) (hi : i < l.length) : Still I ((W6 oa).add (i * 1)) [.string (str (l.getD i []))] := by
 obtain ⟨x, rfl, hx⟩ := h.at i hi; rw [show l.getD i [] = l[i] by simp [hi]]; exact hx
theorem Strs.nil' {I : Heap} {oa : Option Addr} {l : List As} {c : Nat} (h : Strs I oa l c) (e : oa = Option.none) : l.length = 0 := by rw [h.nil e]; rfl
theorem Raw.st {I : Heap} {oa : Option Addr} {l : List As} {c : Nat} (h : Raw I oa l c) (i : Nat) (hi : i < l.length) : Still I ((W6 oa).add (i * 1)) [.string (str (l.getD i []))] := by
 obtain ⟨x, rfl, hx⟩ := h.at i hi; rw [show l.getD i [] = l[i] by simp [hi]]; exact hx
theorem Raw.nil' {I : Heap} {oa : Option Addr} {l : List As} {c : Nat} (h : Raw I oa l c) (e : oa = Option.none) : l.length = 0 := by rw [h.nil e]; rfl
set_option maxRecDepth 100000
set_option linter.unusedVariables false
set_option linter.unusedSimpArgs false

theorem Km {I I' : Heap} {L L₀ : Bj} {v u : Value} (hle : HLe I I') (hm : ∀ w, Mem I' L w → Mem I' L₀ w) (h : v = u) : ∃ I₁ L', HLe I I₁ ∧ (∀ w, Mem I' L w → Mem I₁ L' w) ∧ E2 u I L₀ v I₁ L' :=
 ⟨I, L₀, .refl _, fun w hw => (hm w hw).le hle, h.symm, rfl, rfl⟩
theorem Oi : ∀ (a b : List Tree), Ec (a ++ b) = max (Ec a) (Ec b)
 | [], b => by simp [Ec]
 | t :: a, b => by simp only [List.cons_append, Ec, Oi a b]; omega
theorem Xh (ps : List Tree) (i : Nat) (hi : i < ps.length) : Ec (ps.take (i + 1)) = max (Ec (ps.take i)) ps[i].depth := by
 rw [List.take_succ_eq_append_getElem hi, Oi]; simp [Ec]
theorem Nh : ∀ (a b : List Tree), Gs (a ++ b) = Gs a + Gs b
 | [], b => by simp [Gs]
 | t :: a, b => by simp [Gs, Nh a b]; omega
theorem Qn (ps : List Tree) (i : Nat) (hi : i < ps.length) : Gs (ps.take (i + 1)) = Gs (ps.take i) + ps[i].len + 1 := by
 rw [List.take_succ_eq_append_getElem hi, Nh]; simp [Gs]; omega
theorem Aan (ps : List Tree) (i : Nat) : Gs (ps.take i) ≤ Gs ps := by
 have h := Nh (ps.take i) (ps.drop i)
 rw [List.take_append_drop] at h
 omega
theorem Tree.len_eq (t : Tree) (h : t.parts ≠ []) : t.len = 1 + Gs t.parts := by
 cases t with
 | node a ps => cases ps with
  | nil => exact absurd rfl h
  | cons p ps => rfl
theorem Tree.len_atom (t : Tree) (h : t.parts = []) : t.len = t.atom.length := by
 cases t with
 | node a ps => simp [Tree.parts] at h; subst h; rfl
theorem Tree.depth_eq (t : Tree) (h : t.parts ≠ []) : t.depth = Ec t.parts + 1 := by
 cases t with
 | node a ps => cases ps with
  | nil => exact absurd rfl h
  | cons p ps => rfl
theorem Tree.depth_atom (t : Tree) (h : t.parts = []) : t.depth = 0 := by
 cases t with
 | node a ps => simp [Tree.parts] at h; subst h; rfl
theorem Tree.pt_len (t : Tree) (i : Nat) (hi : i < t.parts.length) : (t.pt i).len + 2 ≤ t.len := by
 rw [Tree.pt_at hi]
 have h1 := Aan t.parts (i + 1)
 rw [Qn _ _ hi] at h1
 have h2 := t.len_eq (by intro e; rw [e] at hi; simp at hi)
 omega
mutual
theorem Tree.depth_len : ∀ t : Tree, t.depth ≤ t.len
 | .node a [] => Nat.zero_le _
 | .node a (p :: ps) => by have := So (p :: ps); simp only [Tree.depth, Tree.len, List.isEmpty_cons, cond_false]; omega
theorem So : ∀ ts : List Tree, Ec ts ≤ Gs ts
 | [] => Nat.le_refl _
 | t :: ts => by have := t.depth_len; have := So ts; simp only [Ec, Gs]; omega
end
mutual
theorem Tree.size_len : ∀ t : Tree, t.size ≤ t.len + 1
 | .node a [] => by simp [Tree.size]
 | .node a (p :: ps) => by have := Vg (p :: ps); simp only [Tree.size, Tree.len, List.isEmpty_cons, cond_false]; omega
theorem Vg : ∀ ts : List Tree, Eu ts ≤ Gs ts
 | [] => Nat.le_refl _
 | t :: ts => by have := t.size_len; have := Vg ts; simp only [Eu, Gs]; omega
end

theorem V5 : ∀ (n : Nat) {I : Heap} {t : Tree} {cs : List Value} (_ : SizeOf.sizeOf t < n) (_ : Rep I t cs) (_ : t.len ≤ Bg) (L : Bj),
  Fun Tryz.prog 180 [.agg cs.toArray] I L (E2 (.int .i64 (t.depth : Nat)) I L) := by
 intro n
 induction n with
 | zero => intro I t cs h; omega
 | succ n ihn =>
  intro I t cs hlt h hz L
  unfold Bg at hz
  have hdl := t.depth_len
  obtain ⟨oa, c, oaf, cf, rfl, hf⟩ := h.at'
  have hp := hf.len
  unfold Bg at hp
  refine Ao Ae ?_; refine Se rfl ?_; refine Cm rfl rfl .free rfl ?_; intro b1; refine Oa rfl (Ab (Ah (Se rfl ?_))); refine Az rfl .free rfl ?_; refine Ca rfl (B8 h _) ?_; rintro _ _ _ _ ⟨rfl, rfl, rfl⟩; refine Ab ?_; refine A6 rfl ?_ ?_
  ·intro c0
   try simp only [nb] at c0
   refine Se rfl (Oa rfl (Ab (Am (.tmp rfl .nil) ?_))); refine only rfl ?_; rw [t.depth_atom Fv]; rfl
  intro c0
  try simp only [nb] at c0
  have hne : t.parts ≠ [] := by simpa using c0
  have hsz := t.depth_eq hne
  refine Ak (Se rfl (Oa rfl (Ab (Ah (Se rfl (Oh rfl ?_)))))); refine Bv rfl .free rfl ?_; refine On rfl (Om rfl (Ab (Aq ?_))); refine Dn (X := Nat) (fun i => t.parts.length - i) (fun i => [(3, .int .i64 ((Ec (t.parts.take i) : Nat))), (9, .slice oa t.parts.length c), (10, .int .i64 (t.parts.length : Nat)), (11, .int .i64 (i : Nat))]) (fun _ => I) (fun _ => L) (fun i => i ≤ t.parts.length) 0 Aa ⟨rfl, rfl, rfl, rfl, trivial⟩ Cl ?_; rintro i hi ih; refine Se rfl (Oc rfl rfl rfl (Ab (Ah ?_))); refine A6 rfl ?_ ?_
  ·intro c1
   try simp only [nb] at c1
   refine Ak (Ah (Aq (Se rfl ?_)))
   first | refine Bs rfl rfl _ rfl .free rfl ?_ | refine Bt rfl rfl _ rfl .free rfl ?_
   refine Gv rfl .free rfl ?_; refine A1 .free rfl ?_; intro b5; refine By rfl rfl rfl rfl .free ?_; refine Ab (Al rfl (Om rfl ?_)); refine Az rfl .free rfl ?_; refine Ca rfl (ihn (t := t.pt i) (by have := t.pt_lt i Aa; omega) (hf.rp i Aa) (by have := t.pt_len i Aa; unfold Bg; omega) _) ?_; rintro _ _ _ _ ⟨rfl, rfl, rfl⟩; refine Ahg rfl rfl .free rfl ?_; refine Oa rfl (Ab (Ap (Al rfl ?_))); refine Or rfl rfl rfl ?_; refine Om rfl (Ab ?_)
   refine Cu Cl (Ed (E' := [(3, .int .i64 ((Ec (t.parts.take (i + 1)) : Nat))), (9, .slice oa t.parts.length c), (10, .int .i64 (t.parts.length : Nat)), (11, .int .i64 ((i + 1 : Nat)))]) ⟨?_, rfl, rfl, rfl, trivial⟩ (ih (i + 1) Aa Aa)); rw [Xh _ _ Aa, ← Tree.pt_at Aa]; refine congrArg (fun z => some (Value.int .i64 z)) ?_; omega
  intro c1
  try simp only [nb] at c1
  obtain rfl : i = t.parts.length := by omega
  simp only [List.take_length]
  refine Cc rfl ?_; refine Se rfl (Om rfl ?_); refine Or rfl rfl rfl ?_; refine Oa rfl (Ab (Am (.tmp rfl .nil) ?_)); refine only rfl ?_; rw [hsz]; rfl
theorem T9 : ∀ (n : Nat) {I : Heap} {t : Tree} {cs : List Value} (_ : SizeOf.sizeOf t < n) (_ : Rep I t cs) (_ : t.len ≤ Bg) (L : Bj),
  Fun Tryz.prog 181 [.agg cs.toArray] I L (E2 (.int .i64 (t.len : Nat)) I L) := by
 intro n
 induction n with
 | zero => intro I t cs h; omega
 | succ n ihn =>
  intro I t cs hlt h hz L
  unfold Bg at hz
  obtain ⟨oa, c, oaf, cf, rfl, hf⟩ := h.at'
  have hp := hf.len
  unfold Bg at hp
  refine Ao Ae ?_; refine Se rfl ?_; refine Cm rfl rfl .free rfl ?_; intro b1; refine Oa rfl (Ab (Ah (Se rfl ?_))); refine Az rfl .free rfl ?_; refine Ca rfl (B8 h _) ?_; rintro _ _ _ _ ⟨rfl, rfl, rfl⟩; refine Ab ?_; refine A6 rfl ?_ ?_
  ·intro c0
   try simp only [nb] at c0
   refine Se rfl (Oh rfl ?_); refine Bv rfl .free rfl ?_; refine Dh rfl .free rfl ?_; refine Oa rfl (Ab (Am (.tmp rfl .nil) ?_)); refine only rfl ?_; rw [t.len_atom Fv]; rfl
  intro c0
  try simp only [nb] at c0
  have hne : t.parts ≠ [] := by simpa using c0
  have hsz := t.len_eq hne
  refine Ak (Se rfl (Oa rfl (Ab (Ah (Se rfl (Oh rfl ?_)))))); refine Bv rfl .free rfl ?_; refine On rfl (Om rfl (Ab (Aq ?_))); refine Dn (X := Nat) (fun i => t.parts.length - i) (fun i => [(3, .int .i64 ((1 + Gs (t.parts.take i) : Nat))), (12, .slice oa t.parts.length c), (13, .int .i64 (t.parts.length : Nat)), (14, .int .i64 (i : Nat))]) (fun _ => I) (fun _ => L) (fun i => i ≤ t.parts.length) 0 Aa ⟨rfl, rfl, rfl, rfl, trivial⟩ Cl ?_; rintro i hi ih; refine Se rfl (Oc rfl rfl rfl (Ab (Ah ?_))); refine A6 rfl ?_ ?_
  ·intro c1
   try simp only [nb] at c1
   have hll := Aan t.parts (i + 1)
   rw [Qn _ _ Aa, ← Tree.pt_at Aa] at hll; refine Ak (Ah (Aq (Se rfl ?_)))
   first | refine Bs rfl rfl _ rfl .free rfl ?_ | refine Bt rfl rfl _ rfl .free rfl ?_
   refine Gv rfl .free rfl ?_; refine A1 .free rfl ?_; intro b5; refine By rfl rfl rfl rfl .free ?_; refine Ab (Al rfl (Om rfl ?_)); refine Az rfl .free rfl ?_; refine Ca rfl (ihn (t := t.pt i) (by have := t.pt_lt i Aa; omega) (hf.rp i Aa) (by have := t.pt_len i Aa; unfold Bg; omega) _) ?_; rintro _ _ _ _ ⟨rfl, rfl, rfl⟩; refine Or rfl rfl rfl ?_; refine Or rfl rfl rfl ?_; refine Oa rfl (Ab (Ap (Al rfl ?_))); refine Or rfl rfl rfl ?_; refine Om rfl (Ab ?_)
   refine Cu Cl (Ed (E' := [(3, .int .i64 ((1 + Gs (t.parts.take (i + 1)) : Nat))), (12, .slice oa t.parts.length c), (13, .int .i64 (t.parts.length : Nat)), (14, .int .i64 ((i + 1 : Nat)))]) ⟨?_, rfl, rfl, rfl, trivial⟩ (ih (i + 1) Aa Aa)); rw [Qn _ _ Aa, ← Tree.pt_at Aa]; refine congrArg (fun z => some (Value.int .i64 z)) ?_; omega
  intro c1
  try simp only [nb] at c1
  obtain rfl : i = t.parts.length := by omega
  simp only [List.take_length]
  refine Cc rfl ?_; refine Se rfl (Om rfl (Oa rfl (Ab (Am (.tmp rfl .nil) ?_)))); refine only rfl ?_; rw [hsz]; rfl
theorem Xp {I : Heap} {t : Tree} {cs : List Value} (h : Rep I t cs) (hz : t.len ≤ Bg) (L : Bj) : Fun Tryz.prog 140 [.agg cs.toArray] I L (E2 (.bool t.fits) I L) := by
 obtain ⟨oa, c, oaf, cf, rfl, hf⟩ := h.at'; refine Ao Ae ?_; refine Se rfl ?_; refine Cm rfl rfl .free rfl ?_; intro b1; refine Oa rfl (Ab (Se rfl ?_)); refine Az rfl .free rfl ?_; refine Ca rfl (V5 _ (Nat.lt_succ_self _) h hz _) ?_; rintro _ _ _ _ ⟨rfl, rfl, rfl⟩; refine Oc rfl rfl rfl (Om rfl ?_)
 apply Fr 6 10 rfl
 ·intro g1_4 hk
  try simp only [nb] at g1_4
  refine Az rfl (.met rfl rfl) rfl ?_; refine Cx rfl (.met rfl rfl) rfl (T9 _ (Nat.lt_succ_self _) h hz _) ?_; rintro _ _ _ _ ⟨rfl, rfl, rfl⟩; refine D8 rfl rfl rfl (.met rfl rfl) rfl ?_; refine Ot rfl rfl ?_
  exact Bb 3 rfl rfl hk
 ·intro _ hk; refine Br 3 rfl ?_; refine Of rfl rfl ?_
  exact Bb 3 rfl rfl hk
 refine Oa rfl (Ab (Am (.tmp rfl .nil) ?_)); refine only rfl ?_; refine congrArg Value.bool ?_; rw [Bool.eq_iff_iff]; simp [Tree.fits]; omega
theorem T6 {I : Heap} {t : Tree} {cs : List Value} (h : Rep I t cs) (L : Bj) : Fun Tryz.prog 174 [.agg cs.toArray] I L (E2 (.bool (t.parts.isEmpty && (B0 t.atom || Ci t.atom))) I L) := by
 obtain ⟨oa, c, oaf, cf, rfl, hf⟩ := h.at'
 have ha := hf.alen
 refine Ao Ae ?_; refine Se rfl ?_; refine Cm rfl rfl .free rfl ?_; intro b1; refine Oa rfl (Ab (Se rfl ?_)); refine Az rfl .free rfl ?_; refine Ca rfl (B8 h _) ?_; rintro _ _ _ _ ⟨rfl, rfl, rfl⟩; refine Om rfl ?_
 apply Fr 5 14 rfl
 ·intro g1_3 hk
  try simp only [nb] at g1_3
  refine Cj rfl (.met rfl rfl) rfl ?_; refine Bv rfl (.met rfl rfl) rfl ?_; refine Cx rfl (.met rfl rfl) rfl (Ko t.atom ha _ _) ?_; rintro _ _ _ _ ⟨rfl, rfl, rfl⟩; refine Ow rfl ?_
  apply G4 9 13 rfl
  ·intro g1_7 hk
   try simp only [nb] at g1_7
   refine Cj rfl (.met rfl rfl) rfl ?_; refine Bv rfl (.met rfl rfl) rfl ?_; refine Cx rfl (.met rfl rfl) rfl (Xs t.atom ha _ _) ?_; rintro _ _ _ _ ⟨rfl, rfl, rfl⟩; refine D5 rfl rfl (.met rfl rfl) rfl ?_
   exact Bb 3 rfl rfl hk
  ·intro _ hk; refine Br 3 rfl ?_; refine Em rfl rfl (.met rfl rfl) rfl ?_
   exact Bb 3 rfl rfl hk
  refine Ot rfl rfl ?_
  exact Bb 5 rfl rfl hk
 ·intro _ hk; refine Br 8 rfl ?_; refine Of rfl rfl ?_
  exact Bb 8 rfl rfl hk
 refine Oa rfl (Ab (Am (.tmp rfl .nil) ?_)); refine only rfl ?_
 simp [C2, *]
end Go.Proofs.YtmfagaajiakgoaaGreatDoor
