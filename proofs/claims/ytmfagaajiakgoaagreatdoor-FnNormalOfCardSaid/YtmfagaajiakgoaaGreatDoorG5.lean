/- From a contract that says 'returns true' to the statement's own words: the arguments as they come in, what is left behind. No conditions. -/
import Derived.Test.YtmfagaajiakgoaaGreatDoorG4
import Derived.Test.YtmfagaajiakgoaaGreatDoorRows
import Derived.ProofKit

namespace Go.Proofs.YtmfagaajiakgoaaGreatDoor
open Go.ChangeShapes Go.WideShapes Go.ChangeAt Go.RowKit Go.ChangeMaps
set_option maxRecDepth 100000
set_option linter.unusedVariables false
set_option linter.unusedSimpArgs false

theorem Xl : laidOutB Tryz.prog = true := by kernel_rfl

def R0 (w : World) : Heap := ⟨fun b => w.heap[b]?, w.os, w.output⟩
theorem Xp (w : World) : Mem (R0 w) [] w := ⟨⟨fun _ _ h => h, rfl, rfl⟩, by simp, by simp⟩
def YES (L : Bo) : De := fun v I' L' => v = .bool true ∧ L = L'

section
variable {H : Type} {enc : TypeId × Value → H} {P : Program} {W W' : World}

theorem Qf (h : ∀ (b : Nat) (o : Obj), W.heap[b]? = some o → W'.heap[b]? = some o) {k : Nat} (hk : k < W.heap.size) : W'.heap[k]? = W.heap[k]? := by
 rw [h k _ (Array.getElem?_eq_getElem hk), Array.getElem?_eq_getElem hk]
theorem X3 (h : ∀ (b : Nat) (o : Obj), W.heap[b]? = some o → W'.heap[b]? = some o) {p : MemPlace} (hp : p.block < W.heap.size) : W.sameAt W' p := by
 cases p with
 | cell b off =>
  have := Qf h (k := b) hp
  show W'.cell? _ = W.cell? _
  simp only [World.cell?, this]
 | map b => exact Qf h hp
theorem P2 (hl : laidOutB P = true) (h : ∀ (b : Nat) (o : Obj), W.heap[b]? = some o → W'.heap[b]? = some o) : ∀ {ts : List TypeId} {vs : List Value} {ds : List (DataW H)} {ps : List MemPlace},
  DataW.TrodAll enc P W 0 (fun _ => true) true ts vs ds ps → (∀ t ∈ ts, P.readableRec t = true ∧ t < P.types.size) → (∀ x ∈ ps, x.block < W.heap.size) →
  DataW.TrodAll enc P W' 0 (fun b => decide (b < W.heap.size)) true ts vs ds ps
 | [], [], [], ps, hA, _, _ => hA
 | t :: ts, [], ds, ps, hA, _, _ => by cases ds <;> exact hA.elim
 | t :: ts, v :: vs, [], ps, hA, _, _ => hA.elim
 | [], v :: vs, ds, ps, hA, _, _ => by cases ds <;> exact hA.elim
 | [], [], d :: ds, ps, hA, _, _ => hA.elim
 | t :: ts, v :: vs, d :: ds, ps, hA, hr, hlt => by
  obtain ⟨p, q, h1, h2, rfl⟩ := hA; refine ⟨p, q, ?_, P2 hl h h2 (fun t ht => hr t (.tail _ ht)) (fun x hx => hlt x (List.mem_append_right _ hx)), rfl⟩
  have hp : ∀ x ∈ p, x.block < W.heap.size := fun x hx => hlt x (List.mem_append_left _ hx)
  exact WideElems.Trod_stays hl (hr t (.head _)).1 (hr t (.head _)).2 h1 (fun x hx => X3 h (hp x hx)) (fun x hx => by simpa using hp x hx)
theorem Vx (h : ∀ (b : Nat) (o : Obj), W.heap[b]? = some o → W'.heap[b]? = some o) (ho : W'.os = W.os) (hp : W'.output = W.output) (may : MemPlace → Prop) : W.keptBut W' may := by
 refine ⟨ho, hp, fun i hi => ?_⟩; rw [Qf h hi]
 split <;> simp_all

theorem Z9 {f : FuncId} {fn : Func} {s : ChangeSpec} {args : Array Value} {ds gs : List (DataW H)} {before : List MemPlace} {tb : TypeId} (hl : laidOutB P = true)
  (hW : DataW.Whole enc P fn.params.toList s.vars false W args.toList ds gs before) (hv : s.vars = []) (hs : s.fn H (ds ++ gs) = { results := [.lit (.bool true)], args := ds })
  (hrt : fn.resultTypes = #[tb]) (htb : P.underlying tb = some .bool) (hrd : ∀ t ∈ fn.params.toList, P.readableRec t = true ∧ t < P.types.size)
  (hc : Fun P f args.toList (R0 W) [] (YES [])) : Calls P f args W fun e W' => ∃ v, e = .returned v ∧ s.post enc P fn false true false false W args v W' := by
 have hc' := hc.run W (Xp W)
 rw [Array.toArray_toList] at hc'; refine hc'.mono fun e W' he => ?_
 obtain ⟨v, I', L', rfl, hle, hm, rfl, rfl⟩ := he
 have hkeep : ∀ (b : Nat) (o : Obj), W.heap[b]? = some o → W'.heap[b]? = some o := fun b o hb => hm.1.1 b o (hle.le b o hb)
 have hlt : ∀ x ∈ before, x.block < W.heap.size := hW.lt
 obtain ⟨p, q, h1, h2, rfl, h4, h5⟩ := id hW; rw [hv] at h2; obtain ⟨rfl, rfl⟩ := trodVars_none h2; refine ⟨_, rfl, ds, [], _, [], p, [], hW, ?_, ?_, ?_, Vx hkeep (hm.1.2.1.trans hle.os) (hm.1.2.2.trans hle.out) _, fun h => by cases h⟩
 ·rw [hs, hrt]
  exact ⟨[], [], shut_bool htb true, rfl, rfl⟩
 ·rw [hs]
  exact P2 hl hkeep h1 hrd (fun x hx => hlt x (List.mem_append_left _ hx))
 ·rw [hs, hv]; rfl

theorem Ab1 {t e : TypeId} (ht : P.underlying t = some (.slice e)) (he : P.underlying e = some (.int .u8)) (hc : P.cellsOf e = 1) {r : Reach} {b0 : Nat} {v : Value} {d : DataW H} {ps : List MemPlace} {base : Nat} {held : Bool}
  (hval : Value.okWide P W r b0 t v) (hd : DataW.Trod enc P W base (fun _ => true) held t v d ps) : ∃ oa l c, v = .slice oa (List.length l) c ∧ Bytes (R0 W) oa l c := by
 obtain ⟨a0, len, cap, rfl⟩ := okWide_slice ht hval; obtain ⟨fuel, hf⟩ := hd
 rcases open_ints ht he hc hf with ⟨hcs, hx⟩ | ⟨a, len', cap', zs, hcs, _, hl, hm, hz, hx, hcell, hwz⟩
 ·simp [Value.cells] at hcs
  obtain ⟨rfl, rfl, rfl⟩ := hcs
  exact ⟨none, [], 0, rfl, by simp, by simp, by simp, by simp⟩
 ·simp [Value.cells] at hcs
  obtain ⟨rfl, rfl, rfl⟩ := hcs
  simp only [if_true] at hz
  have hlen : ((zs.take len).map fun z => UInt8.ofNat z.toNat).length = len := by simp; omega
  simp only [maxLen] at hm
  refine ⟨some a, (zs.take len).map fun z => UInt8.ofNat z.toNat, cap, by rw [hlen], ⟨?_, by simp, by rw [hlen]; exact hl, by rw [hlen]; omega⟩⟩; rintro x ⟨⟩
  by_cases h0 : len = 0
  ·subst h0; exact .inl Af
  ·have hsp := World.cell?_spot (hcell 0 Aa)
   have ha0 : a.add 0 = a := by simp [Addr.add]
   rw [ha0] at hsp
   have hb : ∃ cc T fr, W.heap[a.block]? = some (.cells cc T fr) := by
    have := hcell 0 Aa
    rw [ha0] at this
    unfold World.cell? at this
    split at this
    ·exact ⟨_, _, _, by assumption⟩
    ·cases this
   obtain ⟨cc, T, fr, hb⟩ := hb; refine .inr ⟨cc, T, fr, hb, hsp, fun i hi => ?_⟩
   simp only [List.length_map, List.length_take] at hi
   have hi' := hcell i Aa
   have hadd : a.add i = ⟨a.block, a.off + i, none⟩ := by
    unfold Addr.add
    split
    ·subst_vars; rw [← hsp]; rfl
    ·rfl
   rw [hadd] at hi'
   simp only [World.cell?, hb, Option.isSome_none, Bool.false_eq_true, if_false] at hi'
   rw [hi']
   have hsl : i < zs.length := by omega
   have hw := hwz _ (List.getElem_mem hsl)
   have hw2 : 0 ≤ zs[i] ∧ zs[i] ≤ 255 := by simpa [Lit.wf, IntKind.min, IntKind.max, IntKind.signed, IntKind.bits] using hw
   have e : ((zs[i].toNat % 256 : Nat) : Int) = zs[i] := by omega
   simp [bv, hsl, e]
end
set_option maxRecDepth 100000
set_option linter.unusedVariables false
set_option linter.unusedSimpArgs false

section rules
variable {P : Program} {f : FuncId} {n : Nat} {I₀ : Heap} {Q : De} {k : List Item} {E : Hy} {I : Heap} {L : Bo}
variable {ops : Array Oper} {d : Nat} {ty : TypeId} {pos : String} {af : Array Edge} {g : Option (Nat × Bool)} {l : List Oper}

theorem G2 {b : Nat} {o : Obj} (h : HLe I (I.set b o) → Bd P f n I₀ Q ops l k E (I.set b o) L) : Bd P f n I₀ Q ops l k E I ((b, o) :: L) :=
 fun a w ha hd he hm => h hm.freeze.2 a w ha hd he hm.freeze.1

theorem Do {T e : TypeId} {sz bb esz ebb : Nat} {z ez : List Value} {dd : TypeDesc} [ht : Ay P T (.slice e) sz bb z] [hte : Ay P e dd esz ebb ez]
  (hg : Wants ops E g) (hdn : Nat.blt d n = true)
  (h : ∀ b, Bd P f n I₀ Q ops l k ((d, .slice (some ⟨b, 0, none⟩) 0 0) :: E) I ((b, .cells [].toArray e (0, 0)) :: L)) :
  Bd P f n I₀ Q ops (⟨some d, .buildSlice T 0 #[], ty, pos, af, g⟩ :: l) k E I L := by
 refine Jn rfl hdn (fun a he => hg.wanted a he) fun a w he hm => ?_
 refine ⟨_, _, I, (w.heap.size, .cells [].toArray e (0, 0)) :: L, ?_, hm.alloc _, h _⟩
 simp only [execOp]
 refine Ai (a := .slice (some ⟨w.heap.size, 0, none⟩) 0 0) (w' := { w with heap := w.heap.push (.cells [].toArray e (0, 0)) }) ?_ |>.trans rfl
 unfold Instr.buildSlice
 rw [Ai (A9 ht.und w)]
 simp only []
 rw [Ai (Fz hte w)]; rw [if_neg Aa, if_pos Aa]
 have e0 : ∀ h : Nat → Value, (Array.range 0).map h = #[] := fun h => by simp
 have e1 : (Array.map (fun x : Nat × Operand => (x.fst, a.eval x.snd)) #[]).toList = [] := by simp
 simp only [pure_bind, Nat.zero_mul, e0, e1]
 rfl

theorem Gd {T T2 e : TypeId} {sz bb esz ebb sz2 bb2 : Nat} {z ez z2 : List Value} {dd dd2 : TypeDesc} [ht : Ay P T (.slice e) sz bb z] [hte : Ay P e dd esz ebb ez] [ht2 : Ay P T2 dd2 sz2 bb2 z2]
  {x y : Operand} {B : Kd} {xs ys : List Value} {m c : Nat} {ad2 : Option Addr} {m2 c2 : Nat} {L₀ : Bo} (hni : ∀ kk, dd2 ≠ .int kk) (hez : ez.length = esz)
  (hx : Cw E x = some (Bn m c B)) (hy : Cw E y = some (.slice ad2 m2 c2)) (hB : C8 esz m c xs B) (hL : ∀ w, Mem I L w → Mem I (A8 e xs B ++ L₀) w)
  (hyl : ys.length = m2 * esz) (hyr : ∀ a, ad2 = some a → Hj I L₀ a ys) (hyn : ad2 = none → ys = []) (hyp : ys.all Dd = true) (hesz : 0 < esz)
  (hsize : (m + m2) ≤ 4294967296) (hbytes : ebb ≤ 1024) (hg : Wants ops E g) (hdn : Nat.blt d n = true)
  (h : ∀ B' c', C8 esz (m + m2) c' (xs ++ ys) B' → Bd P f n I₀ Q ops l k ((d, Bn (m + m2) c' B') :: E) I (A8 e (xs ++ ys) B' ++ L₀)) :
  Bd P f n I₀ Q ops (⟨some d, .call ⟨.builtin .append, #[x, y], #[T, T2]⟩, T, pos, af, g⟩ :: l) k E I L := by
 by_cases hm2 : 0 < m2
 ·refine Es hni hez hx hy hB hL hyl hyr hyn hyp hm2 hesz hsize hbytes hg hdn fun b sp c' hB' => ?_
  exact h (some (b, sp)) c' hB'
 ·obtain rfl : m2 = 0 := by omega
  obtain rfl : ys = [] := List.eq_nil_of_length_eq_zero (by simpa using hyl); refine Jn rfl hdn (fun a he => hg.wanted a he) fun a w he hm => ?_
  have hv : ∃ base cc, Bn m c B = .slice base m cc ∧ m ≤ cc ∧ cc = c := by
   cases B with
   | none => obtain ⟨h1, h2, h3⟩ := hB; exact ⟨none, 0, by simp [Bn, h2], by omega, h3.symm⟩
   | some p => exact ⟨_, c, rfl, hB.2.1, rfl⟩
  obtain ⟨base, cc, hbv, hmc, rfl⟩ := hv
  have := Nc (P := P) (T2 := T2) (base := base) (x := .slice ad2 0 c2) (w := w) ht hte ht2.und hni hmc rfl (Hv (hL w hm) hyl (fun a _ v _ i hi => absurd hi Af) hyn)
  refine ⟨_, w, I, _, ?_, hL w hm, by simpa using h B cc (by simpa using hB)⟩
  simp only [execOp, resolve, List.map_toArray, List.map, he.eval hx, he.eval hy, pure_bind, invoke, builtin, hbv]
  exact Ai this |>.trans rfl
end rules

theorem Ct (l : List As) : (l.map sv).all Dd = true := by simp [sv, Dd]
theorem Strs.reads {I : Heap} {L : Bo} {oa : Option Addr} {l : List As} {c : Nat} (h : Strs I oa l c) (a : Addr) (ha : oa = some a) : Hj I L a (l.map sv) := (h.still a ha).reads
theorem Strs.none {I : Heap} {oa : Option Addr} {l : List As} {c : Nat} (h : Strs I oa l c) (ha : oa = .none) : l.map sv = [] := by rw [h.nil ha]; rfl
theorem Gr {P : Program} {f : FuncId} {n : Nat} {I₀ : Heap} {Q : De} {todo : List Item} {E : Hy} {I : Heap} {L : Bo} {e : TypeId} {l : List As} {B : Kd} {m c : Nat}
  (hB : C8 1 m c (l.map sv) B) (hm : m = l.length) (hlen : l.length ≤ Ba) (hs : ∀ s ∈ l, s.length ≤ Ba)
  (h : ∀ I' oa c', HLe I I' → Bn m c B = .slice oa l.length c' → Strs I' oa l c' → RunS P f n I₀ Q todo E I' L) : RunS P f n I₀ Q todo E I (A8 e (l.map sv) B ++ L) := by
 cases B with
 | none =>
  obtain ⟨h1, h2, h3⟩ := hB; obtain rfl : l = [] := by simpa using h1
  exact h I .none 0 (.refl _) rfl ⟨by simp, by simp, by simp, hlen, hs⟩
 | some p =>
  obtain ⟨b, sp⟩ := p; refine Ci fun hle => h _ (some ⟨b, 0, .none⟩) c hle (by rw [← hm]; rfl) ⟨fun y hy => ?_, by simp, by have := hB.2.1; omega, hlen, hs⟩
  cases hy; exact A6
theorem Strs.drop {I : Heap} {oa : Option Addr} {l : List As} {c : Nat} (h : Strs I oa l c) (a : Nat) (ha : a ≤ l.length) : Strs I (if c = a then oa else oa.map (·.add (a * 1))) (l.drop a) (c - a) := by
 have hcap := h.cap
 refine ⟨fun x hx => ?_, fun hx => ?_, by simp; omega, by have := h.len; simp; omega, fun s hs => h.each s (List.mem_of_mem_drop hs)⟩
 ·by_cases hc : c = a
  ·have : l.drop a = [] := List.drop_eq_nil_of_le Aa
   rw [this]; exact .inl rfl
  ·rw [if_neg hc] at hx
   cases oa with
   | none => cases hx
   | some y =>
    cases hx
    refine (h.still y rfl).part (a * 1) ?_; intro j hj
    simp only [List.length_map, List.length_drop] at hj
    simp [Nat.mul_one, show a + j < l.length by omega]
 ·by_cases hc : c = a
  ·exact List.drop_eq_nil_of_le Aa
  ·rw [if_neg hc] at hx
   cases oa with
   | none => rw [h.nil rfl]; simp
   | some y => cases hx
set_option maxRecDepth 100000
set_option linter.unusedVariables false
set_option linter.unusedSimpArgs false

section rules
variable {P : Program} {f : FuncId} {n : Nat} {I₀ : Heap} {Q : De} {k : List Item} {E : Hy} {I : Heap} {L : Bo}
variable {ops : Array Oper} {d : Nat} {ty : TypeId} {pos : String} {af : Array Edge} {g : Option (Nat × Bool)} {l : List Oper}
theorem Y3 {T T' : TypeId} {x y : Operand} {a b : Nat} (hx : Cw E x = some (.int .u8 (a : Nat))) (hy : Cw E y = some (.int .u8 (b : Nat))) (hab : b ≤ a) (ha : a ≤ 255) (hg : Wants ops E g) (hdn : Nat.blt d n = true)
  (h : Bd P f n I₀ Q ops l k ((d, .int .u8 ((a - b : Nat))) :: E) I L) : Bd P f n I₀ Q ops (⟨some d, .binOp .sub T x y T', ty, pos, af, g⟩ :: l) k E I L :=
 E2 (fun ac w he _ => by
  simp only [execOp, he.eval hx, he.eval hy]
  refine Ai (a := _) (w' := w) ?_ |>.trans rfl
  rw [Ai (Gm w)]
  have e : IntKind.u8.wrap ((a : Int) - (b : Int)) = ((a - b : Nat) : Int) := by
   simp [IntKind.wrap, IntKind.bits, IntKind.signed]; omega
  simp [binOp, Op.intArith, e]) hg hdn h
end rules

def E6 (s : As) : As := if (s.getD 0 0).toNat = 45 then s.drop 1 else s
def C4 (s : As) : Bool := decide (s = [48]) || (decide (1 ≤ (E6 s).length ∧ (E6 s).length ≤ 3) && (E6 s).all Ga && !decide (((E6 s).getD 0 0).toNat = 48))
def Gc (l : As) : Nat := l.foldl (fun n b => 10 * n + (b.toNat - 48)) 0
def Ku (s : As) : Int := if s = [48] then 0 else (if (s.getD 0 0).toNat = 45 then -1 else 1) * (Gc (E6 s) : Nat)

theorem Kl (s : As) (i : Nat) (hi : i < s.length) : Gc (s.take (i + 1)) = 10 * Gc (s.take i) + ((s.getD i 0).toNat - 48) := by
 have e : s.getD i 0 = s[i] := by simp [hi]
 rw [List.take_succ_eq_append_getElem hi, e, Gc, List.foldl_append]
 rfl
theorem Vn : ∀ (l : As), Gc l + 1 ≤ 256 * 256 ^ l.length := by
 intro l
 have key : ∀ (l : As) (a : Nat), l.foldl (fun n b => 10 * n + (b.toNat - 48)) a + 1 ≤ (a + 1) * 256 ^ l.length * 256 := by
  intro l
  induction l with
  | nil => intro a; simp; omega
  | cons b r ih =>
   intro a
   have hb := UInt8.toNat_lt b
   refine Nat.le_trans (ih _) ?_; rw [List.length_cons, Nat.pow_succ]
   have h1 : 10 * a + (b.toNat - 48) + 1 ≤ (a + 1) * 256 := by omega
   calc (10 * a + (b.toNat - 48) + 1) * 256 ^ r.length * 256 ≤ ((a + 1) * 256) * 256 ^ r.length * 256 := Nat.mul_le_mul_right _ (Nat.mul_le_mul_right _ h1)
    _ = (a + 1) * (256 ^ r.length * 256) * 256 := by rw [Nat.mul_assoc (a + 1) 256, Nat.mul_comm 256 (256 ^ r.length)]
 have := key l 0
 simp only [Gc]
 omega

theorem Lf (s p : As) (hs : s.length ≤ Ba) (hp : p.length ≤ Ba) (I : Heap) (L : Bo) : Fun Tryz.prog 155 [.string (str s), .string (str p)] I L (E1 (.string (str (if p.isPrefixOf s then s.drop p.length else s))) I L) := by
 unfold Ba at hs hp
 refine Ao Af ?_; refine Se rfl (Oa rfl (Ab (Ah (Se rfl (Om rfl (Om rfl ?_)))))); refine Ca rfl (Ir s p hs hp _ _) ?_; rintro _ _ _ _ ⟨rfl, rfl, rfl⟩; refine Ab ?_; refine Si rfl ?_ ?_
 ·intro c0
  have hlen : p.length ≤ s.length := by
   have := (List.isPrefixOf_iff_prefix.1 c0).length_le; exact this
  refine Se rfl (Om rfl (Om rfl ?_)); refine Dv rfl .free rfl ?_; refine Ki rfl rfl _ rfl Cc .free rfl ?_; refine Oa rfl (Ab (Al (.tmp rfl .nil) ?_)); refine only rfl ?_
  simp [Ck, c0]
 intro c0; refine Ak (Se rfl (Om rfl (Oa rfl (Ab (Al (.tmp rfl .nil) ?_))))); refine only rfl ?_
 simp [Ck, c0]
theorem M4 (s p : As) (hs : s.length ≤ Ba) (hp : p.length ≤ Ba) (I : Heap) (L : Bo) : Fun Tryz.prog 111 [.string (str s), .string (str p)] I L (E1 (.string (str (if p.isPrefixOf s then s.drop p.length else s))) I L) := by
 unfold Ba at hs hp
 refine Ao Af ?_; refine Se rfl (Oa rfl (Ab (Se rfl (Om rfl (Om rfl ?_))))); refine Ca rfl (Lf s p hs hp _ _) ?_; rintro _ _ _ _ ⟨rfl, rfl, rfl⟩; refine Oa rfl (Ab (Al (.tmp rfl .nil) ?_)); refine only rfl ?_
 simp [Ck, *]
theorem Zf (s : As) : (if [45].isPrefixOf s then s.drop [45].length else s) = E6 s := by
 cases s with
 | nil => rfl
 | cons b r =>
  have : ([45].isPrefixOf (b :: r) = true) = (b.toNat = 45) := by
   rw [eq_iff_iff, List.isPrefixOf_iff_prefix]
   simp only [List.cons_prefix_cons, List.nil_prefix, and_true]
   exact ⟨fun h => by rw [← h]; rfl, fun h => UInt8.toNat_inj.1 (by rw [h]; rfl)⟩
  simp [E6, this]
theorem W5 (s : As) (hs : s.length ≤ Ba) (I : Heap) (L : Bo) : Fun Tryz.prog 63 [.string (str s)] I L (E1 (.bool (C4 s)) I L) := by
 have hu : (E6 s).length ≤ s.length := by unfold E6; split <;> simp
 unfold Ba at hs
 refine Ao Af ?_; refine Se rfl (Oa rfl (Ab (Se rfl (Om rfl ?_)))); refine Ca rfl ((Zf s) ▸ M4 s [45] Ch Ae _ _) ?_; rintro _ _ _ _ ⟨rfl, rfl, rfl⟩; refine Oa rfl (Ab (Se rfl (Om rfl (Od rfl rfl rfl (Om rfl ?_)))))
 first | refine Hd rfl rfl ?_ ?_ | refine Fg rfl rfl ?_ ?_ | refine Mr rfl rfl ?_ ?_
 ·intro g2_3
  iterate 4 refine C1 rfl rfl rfl ?_
  refine Md rfl rfl rfl ?_; refine Md rfl rfl rfl ?_; refine C1 rfl rfl rfl ?_; refine C1 rfl rfl rfl ?_
  iterate 3 refine Md rfl rfl rfl ?_
  refine C1 rfl rfl rfl ?_; refine Ot rfl rfl (Oa rfl (Ab (Al (.tmp rfl .nil) ?_))); refine only rfl ?_; refine congrArg Value.bool ?_; simp only [C4]; grind
 intro g2_3; refine Ow rfl ?_; refine Dv rfl (.met rfl rfl) rfl ?_; refine Cq rfl (.met rfl rfl) rfl (W6 ..) ?_; rintro _ _ _ _ ⟨rfl, rfl, rfl⟩; refine Ow rfl ?_
 first | refine Hd rfl rfl ?_ ?_ | refine Fg rfl rfl ?_ ?_ | refine Mr rfl rfl ?_ ?_
 ·intro g2_7; refine Ow rfl ?_; refine Cq rfl (.met rfl rfl) rfl (Q6 (E6 s) Ch _ _) ?_; rintro _ _ _ _ ⟨rfl, rfl, rfl⟩; refine Ee rfl rfl (.met rfl rfl) rfl ?_; refine Ow rfl ?_
  first | refine Hd rfl rfl ?_ ?_ | refine Fg rfl rfl ?_ ?_ | refine Mr rfl rfl ?_ ?_
  ·intro g2_11; refine Ow rfl ?_; refine Eb (i := 0) rfl rfl rfl Cc (.met rfl rfl) rfl ?_; refine D0 rfl rfl rfl (.met rfl rfl) rfl ?_; refine Ee rfl rfl (.met rfl rfl) rfl ?_; refine Of rfl rfl (Oa rfl (Ab (Al (.tmp rfl .nil) ?_))); refine only rfl ?_; refine congrArg Value.bool ?_; simp only [C4]; grind
  intro g2_11
  iterate 3 refine C1 rfl rfl rfl ?_
  refine Du rfl rfl (.met rfl rfl) rfl ?_; refine Of rfl rfl (Oa rfl (Ab (Al (.tmp rfl .nil) ?_))); refine only rfl ?_; refine congrArg Value.bool ?_; simp only [C4]; grind
 intro g2_7; refine C1 rfl rfl rfl ?_; refine C1 rfl rfl rfl ?_; refine Du rfl rfl (.met rfl rfl) rfl ?_; refine Ow rfl ?_
 iterate 3 refine C1 rfl rfl rfl ?_
 refine Du rfl rfl (.met rfl rfl) rfl ?_; refine Of rfl rfl (Oa rfl (Ab (Al (.tmp rfl .nil) ?_))); refine only rfl ?_; refine congrArg Value.bool ?_; simp only [C4]; grind

def NR (s : As) (I : Heap) (L : Bo) : De := E1 (.tuple #[.int .i64 (bif C4 s then Ku s else 0), .bool (C4 s)]) I L
theorem Ld (l : As) (h : l.length ≤ 3) : Gc l ≤ 4294967296 := by
 have h1 := Vn l
 have h2 : 256 ^ l.length ≤ 256 ^ 3 := Nat.pow_le_pow_right Ae h
 have h3 : 256 * 256 ^ l.length ≤ 256 * 256 ^ 3 := Nat.mul_le_mul_left _ h2
 omega
theorem Yx         (s : As ) (hs : s.length ≤ Ba  ) (I : Heap) (L : Bo ) : Fun Tryz.prog 98 [.string (str s)] I L (NR s I L) := by
  unfold Ba   at hs
  have hu : (E6     s).length ≤ s.length := by unfold E6    ; split <;> simp
  refine Ao        (by simp) ?_
  refine Se rfl (Oa rfl (Oa rfl (Ab     (Se rfl (Oa rfl (Ab     (Se rfl (Om rfl (Oa rfl (Ab     (Ah    (Se rfl (Om rfl ?_)))))))))))))
  refine Dv        rfl .free rfl ?_
  refine Oc rfl rfl rfl (Om rfl ?_)
  first | refine Hd   rfl rfl ?_ ?_ | refine Fg    rfl rfl ?_ ?_ | refine Mr  rfl rfl ?_ ?_
  · intro g3_4
    refine Ow rfl ?_
    refine Eb      (i := 0) rfl rfl rfl (by first | omega | exact Fm    (by assumption) (by decide) | (simp; done) | (simp; omega) | decide | (simp at *; omega)) (.met rfl rfl) rfl ?_
    refine D0    rfl rfl rfl (.met rfl rfl) rfl ?_
    refine Ot rfl rfl (Ab     ?_)
    refine Si rfl ?_ ?_
    · intro c0
      refine Se rfl (Oa rfl (Ab     (Am      rfl (Om rfl ?_))))
      refine Ki           rfl rfl 1 rfl (by first | omega | exact Fm    (by assumption) (by decide) | (simp; done) | (simp; omega) | decide | (simp at *; omega)) .free rfl ?_
      refine Oa rfl (Ab     (Ah    (Ah    ?_)))
      obtain ⟨sg, hsg, hsn⟩ : ∃ sg : Int, sg = (if (s.getD 0 0).toNat = 45 then -1 else 1) ∧ (sg = 1 ∨ sg = -1) := ⟨_, rfl, by split <;> simp⟩
      have hneg : (s.getD 0 0).toNat = 45 ∨ ¬ (s.getD 0 0).toNat = 45 := by omega
      refine Dy    (E' := [(0, .string (str s)), (4, .int .i64 sg), (5, .string (str (E6     s)))]) (by
        first
          | (rw [show E6     s = s.drop 1 from if_pos (by omega), show sg = -1 by rw [hsg, if_pos (by omega)]]; exact ⟨rfl, rfl, rfl, trivial⟩)
          | (have hn : ¬ (s.getD 0 0).toNat = 45 := by
               first | omega | (have h0 : s = [] := by cases s with
                                  | nil => rfl
                                  | cons => simp at *
                                rw [h0]; decide)
             rw [show E6     s = s from if_neg hn, show sg = 1 by rw [hsg, if_neg hn]]; exact ⟨rfl, rfl, rfl, trivial⟩)) ?_
      generalize hd : E6     s = ds at *
      refine Am      rfl (Om rfl (Od rfl rfl rfl (Ab     ?_)))
      refine Si rfl ?_ ?_
      · intro c1
        refine Se rfl (Oa rfl (Oa rfl (Ab     ?_)))
        refine Al    (.tmp rfl (.tmp rfl .nil)) ?_
        refine only rfl ?_
        rw [‹s = [48]›]; rfl
      intro c1
      refine Ak     (Ah    (Se rfl (Om rfl ?_)))
      refine Dv        rfl .free rfl ?_
      refine Ca rfl (Vw     ..) ?_
      rintro _ _ _ _ ⟨rfl, rfl, rfl⟩
      refine Ec    rfl .free rfl ?_
      refine Om rfl ?_
      first | refine Hd   rfl rfl ?_ ?_ | refine Fg    rfl rfl ?_ ?_ | refine Mr  rfl rfl ?_ ?_
      · intro g8_5
        iterate 3 refine C1     rfl rfl rfl ?_
        refine Ot rfl rfl (Ab     ?_)
        refine Cx     rfl ?_
        refine Se rfl (Oa rfl (Oa rfl (Ab     ?_)))
        refine Al    (.tmp rfl (.tmp rfl .nil)) ?_
        refine only rfl ?_
        have hf : C4    s = false := by simp only [C4   , hd]; grind
        rw [hf]; rfl
      intro g8_5
      refine Ow rfl ?_
      refine Eb      (i := 0) rfl rfl rfl (by first | omega | exact Fm    (by assumption) (by decide) | (simp; done) | (simp; omega) | decide | (simp at *; omega)) (.met rfl rfl) rfl ?_
      refine D0    rfl rfl rfl (.met rfl rfl) rfl ?_
      refine Of rfl rfl (Ab     ?_)
      refine Si rfl ?_ ?_
      · intro c2
        refine Se rfl (Oa rfl (Oa rfl (Ab     ?_)))
        refine Al    (.tmp rfl (.tmp rfl .nil)) ?_
        refine only rfl ?_
        have hf : C4    s = false := by simp only [C4   , hd]; grind
        rw [hf]; rfl
      intro c2
      refine Ak     (Se rfl (Oa rfl (Ab     (Ah    (Se rfl (Oa rfl (Ab     (Aq      ?_))))))))
      have hl3 : ds.length ≤ 3 ∧ 1 ≤ ds.length := by grind
      refine C7      (X := Nat) (fun i => ds.length - i) (fun i => [(4, .int .i64 sg), (5, .string (str ds)), (6, .int .i64 (Gc        (ds.take i) : Nat)), (7, .int .i64 (i : Nat))]) (fun _ => I) (fun _ => L) (fun i => i ≤ ds.length ∧ (ds.take i).all Ga    = true) 0 ⟨by omega, by simp⟩ ⟨rfl, rfl, rfl, rfl, trivial⟩ Bk    ?_
      rintro i ⟨hi, hall⟩ ih
      have hv := Ld            (ds.take i) (by simp; omega)
      refine Ah    (Se rfl (Om rfl (Om rfl ?_)))
      refine Dv        rfl .free rfl ?_
      refine Oc rfl rfl rfl (Ab     ?_)
      refine Si rfl ?_ ?_
      · intro c3
        refine Ak     (Ah    (Aq      (Ah    (Se rfl (Om rfl (Om rfl ?_))))))
        refine Eb      rfl rfl rfl (by first | omega | exact Fm    (by assumption) (by decide) | (simp; done) | (simp; omega) | decide | (simp at *; omega)) .free rfl ?_
        refine Oc rfl rfl rfl (Om rfl ?_)
        first | refine Hd   rfl rfl ?_ ?_ | refine Fg    rfl rfl ?_ ?_ | refine Mr  rfl rfl ?_ ?_
        · intro g14_5
          iterate 4 refine C1     rfl rfl rfl ?_
          refine Ot rfl rfl (Ab     ?_)
          refine Cx     rfl ?_
          refine Se rfl (Oa rfl (Oa rfl (Ab     ?_)))
          refine Al    (.tmp rfl (.tmp rfl .nil)) ?_
          refine only rfl ?_
          have hf : C4    s = false := by
            have := Iq        (p := Ga   ) (show i < ds.length by omega) (by rw [Gy       ]; exact decide_eq_false (by omega))
            simp only [C4   , hd]; grind
          rw [hf]; rfl
        intro g14_5
        refine Ow rfl (Ow rfl ?_)
        refine Eb      rfl rfl rfl (by first | omega | exact Fm    (by assumption) (by decide) | (simp; done) | (simp; omega) | decide | (simp at *; omega)) (.met rfl rfl) rfl ?_
        refine D0    rfl rfl rfl (.met rfl rfl) rfl ?_
        refine Of rfl rfl (Ab     ?_)
        refine Si rfl ?_ ?_
        · intro c4
          refine Se rfl (Oa rfl (Oa rfl (Ab     ?_)))
          refine Al    (.tmp rfl (.tmp rfl .nil)) ?_
          refine only rfl ?_
          have hf : C4    s = false := by
            have := Iq        (p := Ga   ) (show i < ds.length by omega) (by rw [Gy       ]; exact decide_eq_false (by omega))
            simp only [C4   , hd]; grind
          rw [hf]; rfl
        intro c4
        refine Ak     (Am      rfl (Om rfl ?_))
        refine Or rfl rfl rfl ?_
        refine Om rfl (Om rfl ?_)
        refine Eb      rfl rfl rfl (by first | omega | exact Fm    (by assumption) (by decide) | (simp; done) | (simp; omega) | decide | (simp at *; omega)) .free rfl ?_
        refine Y3     (b := 48) rfl rfl (by omega) (by have := UInt8.toNat_lt (ds.getD i 0); omega) .free rfl ?_
        refine Nw        rfl (by first | exact UInt8.toNat_lt _ | omega) .free rfl ?_
        refine Or rfl rfl rfl ?_
        refine Oa rfl (Ab     (Ar        (Am      rfl (Om rfl ?_))))
        refine Or rfl rfl rfl ?_
        refine Oa rfl (Ab     ?_)
        refine Dy    (E' := [(4, .int .i64 sg), (5, .string (str ds)), (6, .int .i64 (Gc        (ds.take (i + 1)) : Nat)), (7, .int .i64 ((i + 1 : Nat)))]) ⟨rfl, rfl, ?_, rfl, trivial⟩ (ih (i + 1) ⟨by omega, Kz       hall (by omega) (by rw [Gy       ]; exact decide_eq_true (by omega))⟩ (by omega))
        rw [Kl             ds i (by omega)]
        rfl
      intro c3
      refine Ce     rfl ?_
      refine Se rfl (Om rfl (Om rfl ?_))
      refine Rz      rfl rfl rfl (by rcases hsn with h | h <;> rw [h] <;> omega) .free rfl ?_
      refine Oa rfl (Oa rfl (Ab     ?_))
      refine Al    (.tmp rfl (.tmp rfl .nil)) ?_
      refine only rfl ?_
      have hil : i = ds.length := by omega
      subst hil
      rw [List.take_length] at hall
      have ht : C4    s = true := by simp only [C4   , hd]; grind
      rw [ht, List.take_length, hsg]
      simp only [Ku    , hd, if_neg c1, cond_true]
      rfl
    intro c0
    refine Ak     (Ah    (Ah    ?_))
    obtain ⟨sg, hsg, hsn⟩ : ∃ sg : Int, sg = (if (s.getD 0 0).toNat = 45 then -1 else 1) ∧ (sg = 1 ∨ sg = -1) := ⟨_, rfl, by split <;> simp⟩
    have hneg : (s.getD 0 0).toNat = 45 ∨ ¬ (s.getD 0 0).toNat = 45 := by omega
    refine Dy    (E' := [(0, .string (str s)), (4, .int .i64 sg), (5, .string (str (E6     s)))]) (by
      first
        | (rw [show E6     s = s.drop 1 from if_pos (by omega), show sg = -1 by rw [hsg, if_pos (by omega)]]; exact ⟨rfl, rfl, rfl, trivial⟩)
        | (have hn : ¬ (s.getD 0 0).toNat = 45 := by
             first | omega | (have h0 : s = [] := by cases s with
                                | nil => rfl
                                | cons => simp at *
                              rw [h0]; decide)
           rw [show E6     s = s from if_neg hn, show sg = 1 by rw [hsg, if_neg hn]]; exact ⟨rfl, rfl, rfl, trivial⟩)) ?_
    generalize hd : E6     s = ds at *
    refine Am      rfl (Om rfl (Od rfl rfl rfl (Ab     ?_)))
    refine Si rfl ?_ ?_
    · intro c1
      refine Se rfl (Oa rfl (Oa rfl (Ab     ?_)))
      refine Al    (.tmp rfl (.tmp rfl .nil)) ?_
      refine only rfl ?_
      rw [‹s = [48]›]; rfl
    intro c1
    refine Ak     (Ah    (Se rfl (Om rfl ?_)))
    refine Dv        rfl .free rfl ?_
    refine Ca rfl (Vw     ..) ?_
    rintro _ _ _ _ ⟨rfl, rfl, rfl⟩
    refine Ec    rfl .free rfl ?_
    refine Om rfl ?_
    first | refine Hd   rfl rfl ?_ ?_ | refine Fg    rfl rfl ?_ ?_ | refine Mr  rfl rfl ?_ ?_
    · intro g8_5
      iterate 3 refine C1     rfl rfl rfl ?_
      refine Ot rfl rfl (Ab     ?_)
      refine Cx     rfl ?_
      refine Se rfl (Oa rfl (Oa rfl (Ab     ?_)))
      refine Al    (.tmp rfl (.tmp rfl .nil)) ?_
      refine only rfl ?_
      have hf : C4    s = false := by simp only [C4   , hd]; grind
      rw [hf]; rfl
    intro g8_5
    refine Ow rfl ?_
    refine Eb      (i := 0) rfl rfl rfl (by first | omega | exact Fm    (by assumption) (by decide) | (simp; done) | (simp; omega) | decide | (simp at *; omega)) (.met rfl rfl) rfl ?_
    refine D0    rfl rfl rfl (.met rfl rfl) rfl ?_
    refine Of rfl rfl (Ab     ?_)
    refine Si rfl ?_ ?_
    · intro c2
      refine Se rfl (Oa rfl (Oa rfl (Ab     ?_)))
      refine Al    (.tmp rfl (.tmp rfl .nil)) ?_
      refine only rfl ?_
      have hf : C4    s = false := by simp only [C4   , hd]; grind
      rw [hf]; rfl
    intro c2
    refine Ak     (Se rfl (Oa rfl (Ab     (Ah    (Se rfl (Oa rfl (Ab     (Aq      ?_))))))))
    have hl3 : ds.length ≤ 3 ∧ 1 ≤ ds.length := by grind
    refine C7      (X := Nat) (fun i => ds.length - i) (fun i => [(4, .int .i64 sg), (5, .string (str ds)), (6, .int .i64 (Gc        (ds.take i) : Nat)), (7, .int .i64 (i : Nat))]) (fun _ => I) (fun _ => L) (fun i => i ≤ ds.length ∧ (ds.take i).all Ga    = true) 0 ⟨by omega, by simp⟩ ⟨rfl, rfl, rfl, rfl, trivial⟩ Bk    ?_
    rintro i ⟨hi, hall⟩ ih
    have hv := Ld            (ds.take i) (by simp; omega)
    refine Ah    (Se rfl (Om rfl (Om rfl ?_)))
    refine Dv        rfl .free rfl ?_
    refine Oc rfl rfl rfl (Ab     ?_)
    refine Si rfl ?_ ?_
    · intro c3
      refine Ak     (Ah    (Aq      (Ah    (Se rfl (Om rfl (Om rfl ?_))))))
      refine Eb      rfl rfl rfl (by first | omega | exact Fm    (by assumption) (by decide) | (simp; done) | (simp; omega) | decide | (simp at *; omega)) .free rfl ?_
      refine Oc rfl rfl rfl (Om rfl ?_)
      first | refine Hd   rfl rfl ?_ ?_ | refine Fg    rfl rfl ?_ ?_ | refine Mr  rfl rfl ?_ ?_
      · intro g14_5
        iterate 4 refine C1     rfl rfl rfl ?_
        refine Ot rfl rfl (Ab     ?_)
        refine Cx     rfl ?_
        refine Se rfl (Oa rfl (Oa rfl (Ab     ?_)))
        refine Al    (.tmp rfl (.tmp rfl .nil)) ?_
        refine only rfl ?_
        have hf : C4    s = false := by
          have := Iq        (p := Ga   ) (show i < ds.length by omega) (by rw [Gy       ]; exact decide_eq_false (by omega))
          simp only [C4   , hd]; grind
        rw [hf]; rfl
      intro g14_5
      refine Ow rfl (Ow rfl ?_)
      refine Eb      rfl rfl rfl (by first | omega | exact Fm    (by assumption) (by decide) | (simp; done) | (simp; omega) | decide | (simp at *; omega)) (.met rfl rfl) rfl ?_
      refine D0    rfl rfl rfl (.met rfl rfl) rfl ?_
      refine Of rfl rfl (Ab     ?_)
      refine Si rfl ?_ ?_
      · intro c4
        refine Se rfl (Oa rfl (Oa rfl (Ab     ?_)))
        refine Al    (.tmp rfl (.tmp rfl .nil)) ?_
        refine only rfl ?_
        have hf : C4    s = false := by
          have := Iq        (p := Ga   ) (show i < ds.length by omega) (by rw [Gy       ]; exact decide_eq_false (by omega))
          simp only [C4   , hd]; grind
        rw [hf]; rfl
      intro c4
      refine Ak     (Am      rfl (Om rfl ?_))
      refine Or rfl rfl rfl ?_
      refine Om rfl (Om rfl ?_)
      refine Eb      rfl rfl rfl (by first | omega | exact Fm    (by assumption) (by decide) | (simp; done) | (simp; omega) | decide | (simp at *; omega)) .free rfl ?_
      refine Y3     (b := 48) rfl rfl (by omega) (by have := UInt8.toNat_lt (ds.getD i 0); omega) .free rfl ?_
      refine Nw        rfl (by first | exact UInt8.toNat_lt _ | omega) .free rfl ?_
      refine Or rfl rfl rfl ?_
      refine Oa rfl (Ab     (Ar        (Am      rfl (Om rfl ?_))))
      refine Or rfl rfl rfl ?_
      refine Oa rfl (Ab     ?_)
      refine Dy    (E' := [(4, .int .i64 sg), (5, .string (str ds)), (6, .int .i64 (Gc        (ds.take (i + 1)) : Nat)), (7, .int .i64 ((i + 1 : Nat)))]) ⟨rfl, rfl, ?_, rfl, trivial⟩ (ih (i + 1) ⟨by omega, Kz       hall (by omega) (by rw [Gy       ]; exact decide_eq_true (by omega))⟩ (by omega))
      rw [Kl             ds i (by omega)]
      rfl
    intro c3
    refine Ce     rfl ?_
    refine Se rfl (Om rfl (Om rfl ?_))
    refine Rz      rfl rfl rfl (by rcases hsn with h | h <;> rw [h] <;> omega) .free rfl ?_
    refine Oa rfl (Oa rfl (Ab     ?_))
    refine Al    (.tmp rfl (.tmp rfl .nil)) ?_
    refine only rfl ?_
    have hil : i = ds.length := by omega
    subst hil
    rw [List.take_length] at hall
    have ht : C4    s = true := by simp only [C4   , hd]; grind
    rw [ht, List.take_length, hsg]
    simp only [Ku    , hd, if_neg c1, cond_true]
    rfl
  intro g3_4
  iterate 3 refine C1     rfl rfl rfl ?_
  refine Of rfl rfl (Ab     ?_)
  refine Bl      rfl ?_
  refine Ak     (Ah    (Ah    ?_))
  obtain ⟨sg, hsg, hsn⟩ : ∃ sg : Int, sg = (if (s.getD 0 0).toNat = 45 then -1 else 1) ∧ (sg = 1 ∨ sg = -1) := ⟨_, rfl, by split <;> simp⟩
  have hneg : (s.getD 0 0).toNat = 45 ∨ ¬ (s.getD 0 0).toNat = 45 := by omega
  refine Dy    (E' := [(0, .string (str s)), (4, .int .i64 sg), (5, .string (str (E6     s)))]) (by
    first
      | (rw [show E6     s = s.drop 1 from if_pos (by omega), show sg = -1 by rw [hsg, if_pos (by omega)]]; exact ⟨rfl, rfl, rfl, trivial⟩)
      | (have hn : ¬ (s.getD 0 0).toNat = 45 := by
           first | omega | (have h0 : s = [] := by cases s with
                              | nil => rfl
                              | cons => simp at *
                            rw [h0]; decide)
         rw [show E6     s = s from if_neg hn, show sg = 1 by rw [hsg, if_neg hn]]; exact ⟨rfl, rfl, rfl, trivial⟩)) ?_
  generalize hd : E6     s = ds at *
  refine Am      rfl (Om rfl (Od rfl rfl rfl (Ab     ?_)))
  refine Si rfl ?_ ?_
  · intro c1
    refine Se rfl (Oa rfl (Oa rfl (Ab     ?_)))
    refine Al    (.tmp rfl (.tmp rfl .nil)) ?_
    refine only rfl ?_
    rw [‹s = [48]›]; rfl
  intro c1
  refine Ak     (Ah    (Se rfl (Om rfl ?_)))
  refine Dv        rfl .free rfl ?_
  refine Ca rfl (Vw     ..) ?_
  rintro _ _ _ _ ⟨rfl, rfl, rfl⟩
  refine Ec    rfl .free rfl ?_
  refine Om rfl ?_
  first | refine Hd   rfl rfl ?_ ?_ | refine Fg    rfl rfl ?_ ?_ | refine Mr  rfl rfl ?_ ?_
  · intro g8_5
    iterate 3 refine C1     rfl rfl rfl ?_
    refine Ot rfl rfl (Ab     ?_)
    refine Cx     rfl ?_
    refine Se rfl (Oa rfl (Oa rfl (Ab     ?_)))
    refine Al    (.tmp rfl (.tmp rfl .nil)) ?_
    refine only rfl ?_
    have hf : C4    s = false := by simp only [C4   , hd]; grind
    rw [hf]; rfl
  intro g8_5
  refine Ow rfl ?_
  refine Eb      (i := 0) rfl rfl rfl (by first | omega | exact Fm    (by assumption) (by decide) | (simp; done) | (simp; omega) | decide | (simp at *; omega)) (.met rfl rfl) rfl ?_
  refine D0    rfl rfl rfl (.met rfl rfl) rfl ?_
  refine Of rfl rfl (Ab     ?_)
  refine Si rfl ?_ ?_
  · intro c2
    refine Se rfl (Oa rfl (Oa rfl (Ab     ?_)))
    refine Al    (.tmp rfl (.tmp rfl .nil)) ?_
    refine only rfl ?_
    have hf : C4    s = false := by simp only [C4   , hd]; grind
    rw [hf]; rfl
  intro c2
  refine Ak     (Se rfl (Oa rfl (Ab     (Ah    (Se rfl (Oa rfl (Ab     (Aq      ?_))))))))
  have hl3 : ds.length ≤ 3 ∧ 1 ≤ ds.length := by grind
  refine C7      (X := Nat) (fun i => ds.length - i) (fun i => [(4, .int .i64 sg), (5, .string (str ds)), (6, .int .i64 (Gc        (ds.take i) : Nat)), (7, .int .i64 (i : Nat))]) (fun _ => I) (fun _ => L) (fun i => i ≤ ds.length ∧ (ds.take i).all Ga    = true) 0 ⟨by omega, by simp⟩ ⟨rfl, rfl, rfl, rfl, trivial⟩ Bk    ?_
  rintro i ⟨hi, hall⟩ ih
  have hv := Ld            (ds.take i) (by simp; omega)
  refine Ah    (Se rfl (Om rfl (Om rfl ?_)))
  refine Dv        rfl .free rfl ?_
  refine Oc rfl rfl rfl (Ab     ?_)
  refine Si rfl ?_ ?_
  · intro c3
    refine Ak     (Ah    (Aq      (Ah    (Se rfl (Om rfl (Om rfl ?_))))))
    refine Eb      rfl rfl rfl (by first | omega | exact Fm    (by assumption) (by decide) | (simp; done) | (simp; omega) | decide | (simp at *; omega)) .free rfl ?_
    refine Oc rfl rfl rfl (Om rfl ?_)
    first | refine Hd   rfl rfl ?_ ?_ | refine Fg    rfl rfl ?_ ?_ | refine Mr  rfl rfl ?_ ?_
    · intro g14_5
      iterate 4 refine C1     rfl rfl rfl ?_
      refine Ot rfl rfl (Ab     ?_)
      refine Cx     rfl ?_
      refine Se rfl (Oa rfl (Oa rfl (Ab     ?_)))
      refine Al    (.tmp rfl (.tmp rfl .nil)) ?_
      refine only rfl ?_
      have hf : C4    s = false := by
        have := Iq        (p := Ga   ) (show i < ds.length by omega) (by rw [Gy       ]; exact decide_eq_false (by omega))
        simp only [C4   , hd]; grind
      rw [hf]; rfl
    intro g14_5
    refine Ow rfl (Ow rfl ?_)
    refine Eb      rfl rfl rfl (by first | omega | exact Fm    (by assumption) (by decide) | (simp; done) | (simp; omega) | decide | (simp at *; omega)) (.met rfl rfl) rfl ?_
    refine D0    rfl rfl rfl (.met rfl rfl) rfl ?_
    refine Of rfl rfl (Ab     ?_)
    refine Si rfl ?_ ?_
    · intro c4
      refine Se rfl (Oa rfl (Oa rfl (Ab     ?_)))
      refine Al    (.tmp rfl (.tmp rfl .nil)) ?_
      refine only rfl ?_
      have hf : C4    s = false := by
        have := Iq        (p := Ga   ) (show i < ds.length by omega) (by rw [Gy       ]; exact decide_eq_false (by omega))
        simp only [C4   , hd]; grind
      rw [hf]; rfl
    intro c4
    refine Ak     (Am      rfl (Om rfl ?_))
    refine Or rfl rfl rfl ?_
    refine Om rfl (Om rfl ?_)
    refine Eb      rfl rfl rfl (by first | omega | exact Fm    (by assumption) (by decide) | (simp; done) | (simp; omega) | decide | (simp at *; omega)) .free rfl ?_
    refine Y3     (b := 48) rfl rfl (by omega) (by have := UInt8.toNat_lt (ds.getD i 0); omega) .free rfl ?_
    refine Nw        rfl (by first | exact UInt8.toNat_lt _ | omega) .free rfl ?_
    refine Or rfl rfl rfl ?_
    refine Oa rfl (Ab     (Ar        (Am      rfl (Om rfl ?_))))
    refine Or rfl rfl rfl ?_
    refine Oa rfl (Ab     ?_)
    refine Dy    (E' := [(4, .int .i64 sg), (5, .string (str ds)), (6, .int .i64 (Gc        (ds.take (i + 1)) : Nat)), (7, .int .i64 ((i + 1 : Nat)))]) ⟨rfl, rfl, ?_, rfl, trivial⟩ (ih (i + 1) ⟨by omega, Kz       hall (by omega) (by rw [Gy       ]; exact decide_eq_true (by omega))⟩ (by omega))
    rw [Kl             ds i (by omega)]
    rfl
  intro c3
  refine Ce     rfl ?_
  refine Se rfl (Om rfl (Om rfl ?_))
  refine Rz      rfl rfl rfl (by rcases hsn with h | h <;> rw [h] <;> omega) .free rfl ?_
  refine Oa rfl (Oa rfl (Ab     ?_))
  refine Al    (.tmp rfl (.tmp rfl .nil)) ?_
  refine only rfl ?_
  have hil : i = ds.length := by omega
  subst hil
  rw [List.take_length] at hall
  have ht : C4    s = true := by simp only [C4   , hd]; grind
  rw [ht, List.take_length, hsg]
  simp only [Ku    , hd, if_neg c1, cond_true]
  rfl
set_option maxRecDepth 100000
set_option linter.unusedVariables false
set_option linter.unusedSimpArgs false

def E3 : As := [99, 97, 108, 108]
def Ey : As := [112, 97, 105, 114]
def Gi : As := [105, 102]
def Dq : As := [108, 101, 116]
def C6 : As := [102, 117, 110]
def G3 : As := [102, 115, 116]
def G4 : As := [115, 110, 100]
def Az (h : As) : Nat × Nat :=
 if h = [43] ∨ h = [45] ∨ h = [42] ∨ h = E3 ∨ h = Ey then (1, 3) else if h = Gi then (1, 4) else if h = Dq then (2, 4) else if h = C6 then (5, 6) else if h = G3 ∨ h = G4 then (1, 2) else (0, 0)
def KR (h : As) (I : Heap) (L : Bo) : De := E1 (.tuple #[.int .i64 ((Az h).1 : Nat), .int .i64 ((Az h).2 : Nat)]) I L
theorem Kr       (h : As ) (I : Heap) (L : Bo ) : Fun Tryz.prog 145 [.string (str h)] I L (KR h I L) := by
  refine Ao        (by simp) ?_
  refine Se rfl (Oa rfl (Oa rfl (Ab     (Ah    (Se rfl (Om rfl (Ab     (Aq      (Ah    (Se rfl (Od rfl rfl rfl (Oa rfl (Ab     ?_)))))))))))))
  refine Si rfl ?_ ?_
  · intro c0
    refine Ak     ?_
    first | refine St rfl (by first | assumption | omega) ?_ | refine Cx     (by simp [look, Cw , *]) ?_
    refine Se rfl (Oa rfl (Oa rfl (Ab     ?_)))
    refine Al    (.tmp rfl (.tmp rfl .nil)) ?_
    refine only rfl ?_
    first
      | (subst_vars; rfl)
      | (have e : Az       h = (0, 0) := by unfold Az       E3    Ey    Gi  Dq   C6   G3   G4  ; simp [*]
         rw [e]; rfl)
  intro c0
  refine Se rfl (Od rfl rfl rfl (Oa rfl (Ab     ?_)))
  refine Si rfl ?_ ?_
  · intro c1
    refine Ak     ?_
    first | refine St rfl (by first | assumption | omega) ?_ | refine Cx     (by simp [look, Cw , *]) ?_
    refine Se rfl (Oa rfl (Oa rfl (Ab     ?_)))
    refine Al    (.tmp rfl (.tmp rfl .nil)) ?_
    refine only rfl ?_
    first
      | (subst_vars; rfl)
      | (have e : Az       h = (0, 0) := by unfold Az       E3    Ey    Gi  Dq   C6   G3   G4  ; simp [*]
         rw [e]; rfl)
  intro c1
  refine Se rfl (Od rfl rfl rfl (Oa rfl (Ab     ?_)))
  refine Si rfl ?_ ?_
  · intro c2
    refine Ak     ?_
    first | refine St rfl (by first | assumption | omega) ?_ | refine Cx     (by simp [look, Cw , *]) ?_
    refine Se rfl (Oa rfl (Oa rfl (Ab     ?_)))
    refine Al    (.tmp rfl (.tmp rfl .nil)) ?_
    refine only rfl ?_
    first
      | (subst_vars; rfl)
      | (have e : Az       h = (0, 0) := by unfold Az       E3    Ey    Gi  Dq   C6   G3   G4  ; simp [*]
         rw [e]; rfl)
  intro c2
  refine Se rfl (Od rfl rfl rfl (Oa rfl (Ab     ?_)))
  refine Si rfl ?_ ?_
  · intro c3
    refine Ak     ?_
    first | refine St rfl (by first | assumption | omega) ?_ | refine Cx     (by simp [look, Cw , *]) ?_
    refine Se rfl (Oa rfl (Oa rfl (Ab     ?_)))
    refine Al    (.tmp rfl (.tmp rfl .nil)) ?_
    refine only rfl ?_
    first
      | (subst_vars; rfl)
      | (have e : Az       h = (0, 0) := by unfold Az       E3    Ey    Gi  Dq   C6   G3   G4  ; simp [*]
         rw [e]; rfl)
  intro c3
  refine Am      rfl (Od rfl rfl rfl (Oa rfl (Ab     ?_)))
  refine Si rfl ?_ ?_
  · intro c4
    refine Se rfl (Oa rfl (Oa rfl (Ab     ?_)))
    refine Al    (.tmp rfl (.tmp rfl .nil)) ?_
    refine only rfl ?_
    first
      | (subst_vars; rfl)
      | (have e : Az       h = (0, 0) := by unfold Az       E3    Ey    Gi  Dq   C6   G3   G4  ; simp [*]
         rw [e]; rfl)
  intro c4
  refine Se rfl (Od rfl rfl rfl (Oa rfl (Ab     ?_)))
  refine Si rfl ?_ ?_
  · intro c5
    refine Se rfl (Oa rfl (Oa rfl (Ab     ?_)))
    refine Al    (.tmp rfl (.tmp rfl .nil)) ?_
    refine only rfl ?_
    first
      | (subst_vars; rfl)
      | (have e : Az       h = (0, 0) := by unfold Az       E3    Ey    Gi  Dq   C6   G3   G4  ; simp [*]
         rw [e]; rfl)
  intro c5
  refine Se rfl (Od rfl rfl rfl (Oa rfl (Ab     ?_)))
  refine Si rfl ?_ ?_
  · intro c6
    refine Se rfl (Oa rfl (Oa rfl (Ab     ?_)))
    refine Al    (.tmp rfl (.tmp rfl .nil)) ?_
    refine only rfl ?_
    first
      | (subst_vars; rfl)
      | (have e : Az       h = (0, 0) := by unfold Az       E3    Ey    Gi  Dq   C6   G3   G4  ; simp [*]
         rw [e]; rfl)
  intro c6
  refine Se rfl (Od rfl rfl rfl (Oa rfl (Ab     ?_)))
  refine Si rfl ?_ ?_
  · intro c7
    refine Se rfl (Oa rfl (Oa rfl (Ab     ?_)))
    refine Al    (.tmp rfl (.tmp rfl .nil)) ?_
    refine only rfl ?_
    first
      | (subst_vars; rfl)
      | (have e : Az       h = (0, 0) := by unfold Az       E3    Ey    Gi  Dq   C6   G3   G4  ; simp [*]
         rw [e]; rfl)
  intro c7
  refine Ah    (Se rfl (Od rfl rfl rfl (Oa rfl (Ab     ?_))))
  refine Si rfl ?_ ?_
  · intro c8
    refine Ak     ?_
    first | refine St rfl (by first | assumption | omega) ?_ | refine Cx     (by simp [look, Cw , *]) ?_
    refine Se rfl (Oa rfl (Oa rfl (Ab     ?_)))
    refine Al    (.tmp rfl (.tmp rfl .nil)) ?_
    refine only rfl ?_
    first
      | (subst_vars; rfl)
      | (have e : Az       h = (0, 0) := by unfold Az       E3    Ey    Gi  Dq   C6   G3   G4  ; simp [*]
         rw [e]; rfl)
  intro c8
  refine Am      rfl (Od rfl rfl rfl (Oa rfl (Ab     ?_)))
  refine Si rfl ?_ ?_
  · intro c9
    refine Se rfl (Oa rfl (Oa rfl (Ab     ?_)))
    refine Al    (.tmp rfl (.tmp rfl .nil)) ?_
    refine only rfl ?_
    first
      | (subst_vars; rfl)
      | (have e : Az       h = (0, 0) := by unfold Az       E3    Ey    Gi  Dq   C6   G3   G4  ; simp [*]
         rw [e]; rfl)
  intro c9
  refine Ak     (Ar        (Se rfl (Oa rfl (Oa rfl (Ab     ?_)))))
  refine Al    (.tmp rfl (.tmp rfl .nil)) ?_
  refine only rfl ?_
  first
    | (subst_vars; rfl)
    | (have e : Az       h = (0, 0) := by unfold Az       E3    Ey    Gi  Dq   C6   G3   G4  ; simp [*]
       rw [e]; rfl)

def C3 (t : Tree) : List Nat := if t.parts.length = (Az t.head).2 then List.range' (Az t.head).1 ((Az t.head).2 - (Az t.head).1) else []
def nv (n : Nat) : Value := .int .i64 (n : Nat)
structure Nums (I : Heap) (oa : Option Addr) (l : List Nat) (c : Nat) : Prop where
 still : ∀ x, oa = some x → Still I x (l.map nv)
 nil : oa = none → l = []
 cap : l.length ≤ c
theorem Nums.mono {I I' : Heap} {oa : Option Addr} {l : List Nat} {c : Nat} (hle : HLe I I') (h : Nums I oa l c) : Nums I' oa l c := ⟨fun x hx => (h.still x hx).mono hle, h.nil, h.cap⟩
theorem Nums.at {I : Heap} {oa : Option Addr} {l : List Nat} {c : Nat} (h : Nums I oa l c) (i : Nat) (hi : i < l.length) : ∃ x, oa = some x ∧ Still I (x.add (i * 1)) [.int .i64 (l[i] : Nat)] := by
 cases oa with
 | none => have := h.nil rfl; subst this; simp at hi
 | some x =>
  refine ⟨x, rfl, (h.still x rfl).part (i * 1) ?_⟩; intro j hj; obtain rfl : j = 0 := by simpa using hj
  simp [hi, nv]
theorem Ac7 {I : Heap} {b : Nat} {l : List Nat} {e : TypeId} : Nums (I.set b (.cells (l.map nv).toArray e (0, 0))) (some ⟨b, 0, none⟩) l l.length :=
 ⟨fun y hy => by cases hy; simpa using A6 (xs := l.map nv) (ys := []), by simp, Nat.le_refl _⟩
def KD (l : List Nat) (L : Bo) : De := fun v I' L' => ∃ oa c, v = .slice oa (List.length l) c ∧ Nums I' oa l c ∧ L = L'
theorem K9 {I : Heap} {b : Nat} {l m : List Nat} {e : TypeId} {L : Bo} (h : l = m) : KD m L (.slice (some ⟨b, 0, none⟩) l.length l.length) (I.set b (.cells (l.map nv).toArray e (0, 0))) L := by
 subst h; exact ⟨_, _, rfl, Ac7, rfl⟩
theorem Cr          {I : Heap} {t : Tree} {cs : List Value} (h : Rep I t cs) (L : Bo ) : Fun Tryz.prog 108 [.agg cs.toArray] I L (KD (C3   t) L) := by
  obtain ⟨oa, c, vs, rfl, hrl, hs, hn, hc, ha, hp⟩ := h.open
  unfold Ba   at hp
  refine Ao        (by simp) ?_
  refine Se rfl ?_
  refine Cn    rfl rfl .free rfl ?_
  intro b1
  refine Oa rfl (Ab     (Ah    (Se rfl ?_)))
  refine C0   rfl .free rfl ?_
  refine Ca rfl (Bq          h _) ?_
  rintro _ _ _ _ ⟨rfl, rfl, rfl⟩
  refine Ab     (Aq      (Ah    (Se rfl (Od rfl rfl rfl (Oa rfl (Ab     ?_))))))
  refine Si rfl ?_ ?_
  · intro c0
    refine Ak     ?_
    first | refine St rfl (by first | assumption | omega) ?_ | refine Cx     (by simp [look, Cw , *]) ?_
    refine Se rfl ?_
    first | refine Oh rfl ?_ | refine Oj rfl ?_
    refine C0   rfl .free rfl ?_
    refine On rfl (Oc rfl rfl rfl (Ab     ?_))
    refine Si rfl ?_ ?_
    · intro c5
      refine Se rfl ?_
      refine Ol rfl rfl ?_
      intro b15
      refine Oa rfl (Ab     ?_)
      refine Ci       ?_
      intro hz
      refine Al    (.tmp rfl .nil) ?_
      refine ⟨_, L, hz, fun _ h => h.drop, K9     (l := [1, 2]) ?_⟩
      have hl : t.parts.length = 3 := by omega
      unfold C3   Az       E3    Ey    Gi  Dq   C6   G3   G4  
      simp only [*, true_or, or_true, or_false, false_or, if_true, if_false]
      rfl
    intro c5
    refine Ak     (Ar        (Se rfl (Oa rfl (Ab     (Al    (.tmp rfl .nil) ?_)))))
    have hk : C3   t = [] := by
      unfold C3   Az       E3    Ey    Gi  Dq   C6   G3   G4  
      first
        | (have hl : ¬ t.parts.length = 3 := by omega
           simp [*]; done)
        | (have hl : ¬ t.parts.length = 4 := by omega
           simp [*]; done)
        | (have hl : ¬ t.parts.length = 6 := by omega
           simp [*]; done)
        | (have hl : ¬ t.parts.length = 2 := by omega
           simp [*]; done)
        | (simp [*]; done)
    exact ⟨I, L, .refl _, fun _ h => h.drop, none, 0, by rw [hk]; rfl, ⟨by simp, fun _ => hk, by rw [hk]; simp⟩, rfl⟩
  intro c0
  refine Se rfl (Od rfl rfl rfl (Oa rfl (Ab     ?_)))
  refine Si rfl ?_ ?_
  · intro c1
    refine Ak     ?_
    first | refine St rfl (by first | assumption | omega) ?_ | refine Cx     (by simp [look, Cw , *]) ?_
    refine Se rfl ?_
    first | refine Oh rfl ?_ | refine Oj rfl ?_
    refine C0   rfl .free rfl ?_
    refine On rfl (Oc rfl rfl rfl (Ab     ?_))
    refine Si rfl ?_ ?_
    · intro c5
      refine Se rfl ?_
      refine Ol rfl rfl ?_
      intro b15
      refine Oa rfl (Ab     ?_)
      refine Ci       ?_
      intro hz
      refine Al    (.tmp rfl .nil) ?_
      refine ⟨_, L, hz, fun _ h => h.drop, K9     (l := [1, 2]) ?_⟩
      have hl : t.parts.length = 3 := by omega
      unfold C3   Az       E3    Ey    Gi  Dq   C6   G3   G4  
      simp only [*, true_or, or_true, or_false, false_or, if_true, if_false]
      rfl
    intro c5
    refine Ak     (Ar        (Se rfl (Oa rfl (Ab     (Al    (.tmp rfl .nil) ?_)))))
    have hk : C3   t = [] := by
      unfold C3   Az       E3    Ey    Gi  Dq   C6   G3   G4  
      first
        | (have hl : ¬ t.parts.length = 3 := by omega
           simp [*]; done)
        | (have hl : ¬ t.parts.length = 4 := by omega
           simp [*]; done)
        | (have hl : ¬ t.parts.length = 6 := by omega
           simp [*]; done)
        | (have hl : ¬ t.parts.length = 2 := by omega
           simp [*]; done)
        | (simp [*]; done)
    exact ⟨I, L, .refl _, fun _ h => h.drop, none, 0, by rw [hk]; rfl, ⟨by simp, fun _ => hk, by rw [hk]; simp⟩, rfl⟩
  intro c1
  refine Se rfl (Od rfl rfl rfl (Oa rfl (Ab     ?_)))
  refine Si rfl ?_ ?_
  · intro c2
    refine Ak     ?_
    first | refine St rfl (by first | assumption | omega) ?_ | refine Cx     (by simp [look, Cw , *]) ?_
    refine Se rfl ?_
    first | refine Oh rfl ?_ | refine Oj rfl ?_
    refine C0   rfl .free rfl ?_
    refine On rfl (Oc rfl rfl rfl (Ab     ?_))
    refine Si rfl ?_ ?_
    · intro c5
      refine Se rfl ?_
      refine Ol rfl rfl ?_
      intro b15
      refine Oa rfl (Ab     ?_)
      refine Ci       ?_
      intro hz
      refine Al    (.tmp rfl .nil) ?_
      refine ⟨_, L, hz, fun _ h => h.drop, K9     (l := [1, 2]) ?_⟩
      have hl : t.parts.length = 3 := by omega
      unfold C3   Az       E3    Ey    Gi  Dq   C6   G3   G4  
      simp only [*, true_or, or_true, or_false, false_or, if_true, if_false]
      rfl
    intro c5
    refine Ak     (Ar        (Se rfl (Oa rfl (Ab     (Al    (.tmp rfl .nil) ?_)))))
    have hk : C3   t = [] := by
      unfold C3   Az       E3    Ey    Gi  Dq   C6   G3   G4  
      first
        | (have hl : ¬ t.parts.length = 3 := by omega
           simp [*]; done)
        | (have hl : ¬ t.parts.length = 4 := by omega
           simp [*]; done)
        | (have hl : ¬ t.parts.length = 6 := by omega
           simp [*]; done)
        | (have hl : ¬ t.parts.length = 2 := by omega
           simp [*]; done)
        | (simp [*]; done)
    exact ⟨I, L, .refl _, fun _ h => h.drop, none, 0, by rw [hk]; rfl, ⟨by simp, fun _ => hk, by rw [hk]; simp⟩, rfl⟩
  intro c2
  refine Se rfl (Od rfl rfl rfl (Oa rfl (Ab     ?_)))
  refine Si rfl ?_ ?_
  · intro c3
    refine Ak     ?_
    first | refine St rfl (by first | assumption | omega) ?_ | refine Cx     (by simp [look, Cw , *]) ?_
    refine Se rfl ?_
    first | refine Oh rfl ?_ | refine Oj rfl ?_
    refine C0   rfl .free rfl ?_
    refine On rfl (Oc rfl rfl rfl (Ab     ?_))
    refine Si rfl ?_ ?_
    · intro c5
      refine Se rfl ?_
      refine Ol rfl rfl ?_
      intro b15
      refine Oa rfl (Ab     ?_)
      refine Ci       ?_
      intro hz
      refine Al    (.tmp rfl .nil) ?_
      refine ⟨_, L, hz, fun _ h => h.drop, K9     (l := [1, 2]) ?_⟩
      have hl : t.parts.length = 3 := by omega
      unfold C3   Az       E3    Ey    Gi  Dq   C6   G3   G4  
      simp only [*, true_or, or_true, or_false, false_or, if_true, if_false]
      rfl
    intro c5
    refine Ak     (Ar        (Se rfl (Oa rfl (Ab     (Al    (.tmp rfl .nil) ?_)))))
    have hk : C3   t = [] := by
      unfold C3   Az       E3    Ey    Gi  Dq   C6   G3   G4  
      first
        | (have hl : ¬ t.parts.length = 3 := by omega
           simp [*]; done)
        | (have hl : ¬ t.parts.length = 4 := by omega
           simp [*]; done)
        | (have hl : ¬ t.parts.length = 6 := by omega
           simp [*]; done)
        | (have hl : ¬ t.parts.length = 2 := by omega
           simp [*]; done)
        | (simp [*]; done)
    exact ⟨I, L, .refl _, fun _ h => h.drop, none, 0, by rw [hk]; rfl, ⟨by simp, fun _ => hk, by rw [hk]; simp⟩, rfl⟩
  intro c3
  refine Am      rfl (Od rfl rfl rfl (Oa rfl (Ab     ?_)))
  refine Si rfl ?_ ?_
  · intro c4
    refine Se rfl ?_
    first | refine Oh rfl ?_ | refine Oj rfl ?_
    refine C0   rfl .free rfl ?_
    refine On rfl (Oc rfl rfl rfl (Ab     ?_))
    refine Si rfl ?_ ?_
    · intro c5
      refine Se rfl ?_
      refine Ol rfl rfl ?_
      intro b15
      refine Oa rfl (Ab     ?_)
      refine Ci       ?_
      intro hz
      refine Al    (.tmp rfl .nil) ?_
      refine ⟨_, L, hz, fun _ h => h.drop, K9     (l := [1, 2]) ?_⟩
      have hl : t.parts.length = 3 := by omega
      unfold C3   Az       E3    Ey    Gi  Dq   C6   G3   G4  
      simp only [*, true_or, or_true, or_false, false_or, if_true, if_false]
      rfl
    intro c5
    refine Ak     (Ar        (Se rfl (Oa rfl (Ab     (Al    (.tmp rfl .nil) ?_)))))
    have hk : C3   t = [] := by
      unfold C3   Az       E3    Ey    Gi  Dq   C6   G3   G4  
      first
        | (have hl : ¬ t.parts.length = 3 := by omega
           simp [*]; done)
        | (have hl : ¬ t.parts.length = 4 := by omega
           simp [*]; done)
        | (have hl : ¬ t.parts.length = 6 := by omega
           simp [*]; done)
        | (have hl : ¬ t.parts.length = 2 := by omega
           simp [*]; done)
        | (simp [*]; done)
    exact ⟨I, L, .refl _, fun _ h => h.drop, none, 0, by rw [hk]; rfl, ⟨by simp, fun _ => hk, by rw [hk]; simp⟩, rfl⟩
  intro c4
  refine Se rfl (Od rfl rfl rfl (Oa rfl (Ab     ?_)))
  refine Si rfl ?_ ?_
  · intro c6
    refine Se rfl ?_
    first | refine Oh rfl ?_ | refine Oj rfl ?_
    refine C0   rfl .free rfl ?_
    refine On rfl (Oc rfl rfl rfl (Ab     ?_))
    refine Si rfl ?_ ?_
    · intro c7
      refine Se rfl ?_
      refine Ol rfl rfl ?_
      intro b22
      refine Oa rfl (Ab     ?_)
      refine Ci       ?_
      intro hz
      refine Al    (.tmp rfl .nil) ?_
      refine ⟨_, L, hz, fun _ h => h.drop, K9     (l := [1, 2, 3]) ?_⟩
      have hl : t.parts.length = 4 := by omega
      unfold C3   Az       E3    Ey    Gi  Dq   C6   G3   G4  
      simp only [*, true_or, or_true, or_false, false_or, if_true, if_false]
      rfl
    intro c7
    refine Ak     (Ar        (Se rfl (Oa rfl (Ab     (Al    (.tmp rfl .nil) ?_)))))
    have hk : C3   t = [] := by
      unfold C3   Az       E3    Ey    Gi  Dq   C6   G3   G4  
      first
        | (have hl : ¬ t.parts.length = 3 := by omega
           simp [*]; done)
        | (have hl : ¬ t.parts.length = 4 := by omega
           simp [*]; done)
        | (have hl : ¬ t.parts.length = 6 := by omega
           simp [*]; done)
        | (have hl : ¬ t.parts.length = 2 := by omega
           simp [*]; done)
        | (simp [*]; done)
    exact ⟨I, L, .refl _, fun _ h => h.drop, none, 0, by rw [hk]; rfl, ⟨by simp, fun _ => hk, by rw [hk]; simp⟩, rfl⟩
  intro c6
  refine Se rfl (Od rfl rfl rfl (Oa rfl (Ab     ?_)))
  refine Si rfl ?_ ?_
  · intro c8
    refine Se rfl ?_
    first | refine Oh rfl ?_ | refine Oj rfl ?_
    refine C0   rfl .free rfl ?_
    refine On rfl (Oc rfl rfl rfl (Ab     ?_))
    refine Si rfl ?_ ?_
    · intro c9
      refine Se rfl ?_
      refine Ol rfl rfl ?_
      intro b29
      refine Oa rfl (Ab     ?_)
      refine Ci       ?_
      intro hz
      refine Al    (.tmp rfl .nil) ?_
      refine ⟨_, L, hz, fun _ h => h.drop, K9     (l := [2, 3]) ?_⟩
      have hl : t.parts.length = 4 := by omega
      unfold C3   Az       E3    Ey    Gi  Dq   C6   G3   G4  
      simp only [*, true_or, or_true, or_false, false_or, if_true, if_false]
      rfl
    intro c9
    refine Ak     (Ar        (Se rfl (Oa rfl (Ab     (Al    (.tmp rfl .nil) ?_)))))
    have hk : C3   t = [] := by
      unfold C3   Az       E3    Ey    Gi  Dq   C6   G3   G4  
      first
        | (have hl : ¬ t.parts.length = 3 := by omega
           simp [*]; done)
        | (have hl : ¬ t.parts.length = 4 := by omega
           simp [*]; done)
        | (have hl : ¬ t.parts.length = 6 := by omega
           simp [*]; done)
        | (have hl : ¬ t.parts.length = 2 := by omega
           simp [*]; done)
        | (simp [*]; done)
    exact ⟨I, L, .refl _, fun _ h => h.drop, none, 0, by rw [hk]; rfl, ⟨by simp, fun _ => hk, by rw [hk]; simp⟩, rfl⟩
  intro c8
  refine Se rfl (Od rfl rfl rfl (Oa rfl (Ab     ?_)))
  refine Si rfl ?_ ?_
  · intro c10
    refine Se rfl ?_
    first | refine Oh rfl ?_ | refine Oj rfl ?_
    refine C0   rfl .free rfl ?_
    refine On rfl (Oc rfl rfl rfl (Ab     ?_))
    refine Si rfl ?_ ?_
    · intro c11
      refine Se rfl ?_
      refine Ol rfl rfl ?_
      intro b36
      refine Oa rfl (Ab     ?_)
      refine Ci       ?_
      intro hz
      refine Al    (.tmp rfl .nil) ?_
      refine ⟨_, L, hz, fun _ h => h.drop, K9     (l := [5]) ?_⟩
      have hl : t.parts.length = 6 := by omega
      unfold C3   Az       E3    Ey    Gi  Dq   C6   G3   G4  
      simp only [*, true_or, or_true, or_false, false_or, if_true, if_false]
      rfl
    intro c11
    refine Ak     (Ar        (Se rfl (Oa rfl (Ab     (Al    (.tmp rfl .nil) ?_)))))
    have hk : C3   t = [] := by
      unfold C3   Az       E3    Ey    Gi  Dq   C6   G3   G4  
      first
        | (have hl : ¬ t.parts.length = 3 := by omega
           simp [*]; done)
        | (have hl : ¬ t.parts.length = 4 := by omega
           simp [*]; done)
        | (have hl : ¬ t.parts.length = 6 := by omega
           simp [*]; done)
        | (have hl : ¬ t.parts.length = 2 := by omega
           simp [*]; done)
        | (simp [*]; done)
    exact ⟨I, L, .refl _, fun _ h => h.drop, none, 0, by rw [hk]; rfl, ⟨by simp, fun _ => hk, by rw [hk]; simp⟩, rfl⟩
  intro c10
  refine Ah    (Se rfl (Od rfl rfl rfl (Oa rfl (Ab     ?_))))
  refine Si rfl ?_ ?_
  · intro c12
    refine Ak     ?_
    first | refine St rfl (by first | assumption | omega) ?_ | refine Cx     (by simp [look, Cw , *]) ?_
    refine Se rfl ?_
    first | refine Oh rfl ?_ | refine Oj rfl ?_
    refine C0   rfl .free rfl ?_
    refine On rfl (Oc rfl rfl rfl (Ab     ?_))
    refine Si rfl ?_ ?_
    · intro c14
      refine Se rfl ?_
      refine Ol rfl rfl ?_
      intro b44
      refine Oa rfl (Ab     ?_)
      refine Ci       ?_
      intro hz
      refine Al    (.tmp rfl .nil) ?_
      refine ⟨_, L, hz, fun _ h => h.drop, K9     (l := [1]) ?_⟩
      have hl : t.parts.length = 2 := by omega
      unfold C3   Az       E3    Ey    Gi  Dq   C6   G3   G4  
      simp only [*, true_or, or_true, or_false, false_or, if_true, if_false]
      rfl
    intro c14
    refine Ak     (Ar        (Se rfl (Oa rfl (Ab     (Al    (.tmp rfl .nil) ?_)))))
    have hk : C3   t = [] := by
      unfold C3   Az       E3    Ey    Gi  Dq   C6   G3   G4  
      first
        | (have hl : ¬ t.parts.length = 3 := by omega
           simp [*]; done)
        | (have hl : ¬ t.parts.length = 4 := by omega
           simp [*]; done)
        | (have hl : ¬ t.parts.length = 6 := by omega
           simp [*]; done)
        | (have hl : ¬ t.parts.length = 2 := by omega
           simp [*]; done)
        | (simp [*]; done)
    exact ⟨I, L, .refl _, fun _ h => h.drop, none, 0, by rw [hk]; rfl, ⟨by simp, fun _ => hk, by rw [hk]; simp⟩, rfl⟩
  intro c12
  refine Am      rfl (Od rfl rfl rfl (Oa rfl (Ab     ?_)))
  refine Si rfl ?_ ?_
  · intro c13
    refine Se rfl ?_
    first | refine Oh rfl ?_ | refine Oj rfl ?_
    refine C0   rfl .free rfl ?_
    refine On rfl (Oc rfl rfl rfl (Ab     ?_))
    refine Si rfl ?_ ?_
    · intro c14
      refine Se rfl ?_
      refine Ol rfl rfl ?_
      intro b44
      refine Oa rfl (Ab     ?_)
      refine Ci       ?_
      intro hz
      refine Al    (.tmp rfl .nil) ?_
      refine ⟨_, L, hz, fun _ h => h.drop, K9     (l := [1]) ?_⟩
      have hl : t.parts.length = 2 := by omega
      unfold C3   Az       E3    Ey    Gi  Dq   C6   G3   G4  
      simp only [*, true_or, or_true, or_false, false_or, if_true, if_false]
      rfl
    intro c14
    refine Ak     (Ar        (Se rfl (Oa rfl (Ab     (Al    (.tmp rfl .nil) ?_)))))
    have hk : C3   t = [] := by
      unfold C3   Az       E3    Ey    Gi  Dq   C6   G3   G4  
      first
        | (have hl : ¬ t.parts.length = 3 := by omega
           simp [*]; done)
        | (have hl : ¬ t.parts.length = 4 := by omega
           simp [*]; done)
        | (have hl : ¬ t.parts.length = 6 := by omega
           simp [*]; done)
        | (have hl : ¬ t.parts.length = 2 := by omega
           simp [*]; done)
        | (simp [*]; done)
    exact ⟨I, L, .refl _, fun _ h => h.drop, none, 0, by rw [hk]; rfl, ⟨by simp, fun _ => hk, by rw [hk]; simp⟩, rfl⟩
  intro c13
  refine Ak     (Ar        (Se rfl (Oa rfl (Ab     (Al    (.tmp rfl .nil) ?_)))))
  have hk : C3   t = [] := by
    unfold C3   Az       E3    Ey    Gi  Dq   C6   G3   G4  
    first
      | (have hl : ¬ t.parts.length = 3 := by omega
         simp [*]; done)
      | (have hl : ¬ t.parts.length = 4 := by omega
         simp [*]; done)
      | (have hl : ¬ t.parts.length = 6 := by omega
         simp [*]; done)
      | (have hl : ¬ t.parts.length = 2 := by omega
         simp [*]; done)
      | (simp [*]; done)
  exact ⟨I, L, .refl _, fun _ h => h.drop, none, 0, by rw [hk]; rfl, ⟨by simp, fun _ => hk, by rw [hk]; simp⟩, rfl⟩
set_option maxRecDepth 100000
set_option linter.unusedVariables false
set_option linter.unusedSimpArgs false

inductive Ty where
 | i
 | fn (a b : Ty)
 | pr (a b : Ty)
def Ty.tree : Ty → Tree
 | .i => .node [105] []
 | .fn a b => .node [] [.node [62] [], a.tree, b.tree]
 | .pr a b => .node [] [.node [42] [], a.tree, b.tree]
def Ty.size : Ty → Nat
 | .i => 1
 | .fn a b => 1 + a.size + b.size
 | .pr a b => 1 + a.size + b.size
def Ty.dec : (a b : Ty) → Decidable (a = b)
 | .i, .i => isTrue rfl
 | .fn a b, .fn c d => match Ty.dec a c, Ty.dec b d with
  | isTrue h, isTrue h' => isTrue (by rw [h, h'])
  | isFalse h, _ => isFalse (fun e => h (Ty.fn.inj e).1)
  | _, isFalse h => isFalse (fun e => h (Ty.fn.inj e).2)
 | .pr a b, .pr c d => match Ty.dec a c, Ty.dec b d with
  | isTrue h, isTrue h' => isTrue (by rw [h, h'])
  | isFalse h, _ => isFalse (fun e => h (Ty.pr.inj e).1)
  | _, isFalse h => isFalse (fun e => h (Ty.pr.inj e).2)
 | .i, .fn _ _ => isFalse (by simp)
 | .i, .pr _ _ => isFalse (by simp)
 | .fn _ _, .i => isFalse (by simp)
 | .fn _ _, .pr _ _ => isFalse (by simp)
 | .pr _ _, .i => isFalse (by simp)
 | .pr _ _, .fn _ _ => isFalse (by simp)
instance : DecidableEq Ty := Ty.dec

inductive B5 where
 | add | sub | mul | call | pair
inductive U2 where
 | fst | snd
def B5.txt : B5 → As
 | .add => [43] | .sub => [45] | .mul => [42] | .call => E3 | .pair => Ey
def U2.txt : U2 → As
 | .fst => G3 | .snd => G4
inductive Ex where
 | num (s : As)
 | name (s : As)
 | bin (o : B5) (a b : Ex)
 | ite (a b c : Ex)
 | lt (x : As) (a b : Ex)
 | fn (f x : As) (s t : Ty) (b : Ex)
 | un (o : U2) (a : Ex)
def Ex.tree : Ex → Tree
 | .num s => .node s []
 | .name s => .node s []
 | .bin o a b => .node [] [.node o.txt [], a.tree, b.tree]
 | .ite a b c => .node [] [.node Gi [], a.tree, b.tree, c.tree]
 | .lt x a b => .node [] [.node Dq [], .node x [], a.tree, b.tree]
 | .fn f x s t b => .node [] [.node C6 [], .node f [], .node x [], s.tree, t.tree, b.tree]
 | .un o a => .node [] [.node o.txt [], a.tree]
def Ex.ok : Ex → Bool
 | .num s => C4 s
 | .name s => B0 s
 | .bin _ a b => a.ok && b.ok
 | .ite a b c => a.ok && b.ok && c.ok
 | .lt x a b => B0 x && a.ok && b.ok
 | .fn f x s t b => B0 f && B0 x && decide (f ≠ x) && decide (s.size ≤ 16) && decide (t.size ≤ 16) && b.ok
 | .un _ a => a.ok
def Ex.size : Ex → Nat
 | .num _ => 1
 | .name _ => 1
 | .bin _ a b => 1 + a.size + b.size
 | .ite a b c => 1 + a.size + b.size + c.size
 | .lt _ a b => 2 + a.size + b.size
 | .fn _ _ s t b => 3 + s.size + t.size + b.size
 | .un _ a => 1 + a.size

/- From forms. -/
def B5.of (h : As) : Option B5 :=
 if h = [43] then some .add else if h = [45] then some .sub else if h = [42] then some .mul else if h = E3 then some .call else if h = Ey then some .pair else none
def U2.of (h : As) : Option U2 := if h = G3 then some .fst else if h = G4 then some .snd else none
theorem B5.of_txt (o : B5) : B5.of o.txt = some o := by cases o <;> rfl
theorem U2.of_txt (o : U2) : U2.of o.txt = some o := by cases o <;> rfl
theorem B5.of_eq {h : As} {o : B5} (e : B5.of h = some o) : h = o.txt := by
 unfold B5.of at e
 repeat' split at e
 all_goals first | cases e; assumption | cases e
theorem U2.of_eq {h : As} {o : U2} (e : U2.of h = some o) : h = o.txt := by
 unfold U2.of at e
 repeat' split at e
 all_goals first | cases e; assumption | cases e
def Tree.ty : Tree → Option Ty
 | .node a [] => if a = [105] then some .i else none
 | .node _ [h, x, y] => match x.ty, y.ty with
  | some a, some b => if h.atom = [62] then some (.fn a b) else if h.atom = [42] then some (.pr a b) else none
  | _, _ => none
 | .node _ _ => none
def Tree.ex : Tree → Option Ex
 | .node a [] => if B0 a then some (.name a) else if C4 a then some (.num a) else none
 | .node _ [h, x] => match U2.of h.atom, x.ex with
  | some o, some a => some (.un o a)
  | _, _ => none
 | .node _ [h, x, y] => match B5.of h.atom, x.ex, y.ex with
  | some o, some a, some b => some (.bin o a b)
  | _, _, _ => none
 | .node _ [h, x, y, z] => if h.atom = Gi then (match x.ex, y.ex, z.ex with
   | some a, some b, some c => some (.ite a b c)
   | _, _, _ => none)
  else if h.atom = Dq ∧ B0 x.atom = true then (match y.ex, z.ex with
   | some a, some b => some (.lt x.atom a b)
   | _, _ => none)
  else none
 | .node _ [h, f, x, s, t, b] => if h.atom = C6 ∧ B0 f.atom = true ∧ B0 x.atom = true ∧ f.atom ≠ x.atom ∧ s.size ≤ 16 ∧ t.size ≤ 16 then (match s.ty, t.ty, b.ex with
   | some s, some t, some b => some (.fn f.atom x.atom s t b)
   | _, _, _ => none)
  else none
 | .node _ _ => none

theorem Ty.tree_size : ∀ t : Ty, t.tree.size = t.size
 | .i => rfl
 | .fn a b => by simp [Ty.tree, Tree.size, Ez, Ty.size, a.tree_size, b.tree_size]; omega
 | .pr a b => by simp [Ty.tree, Tree.size, Ez, Ty.size, a.tree_size, b.tree_size]; omega
theorem Ex.tree_size : ∀ e : Ex, e.tree.size = e.size
 | .num s => rfl
 | .name s => rfl
 | .bin o a b => by simp [Ex.tree, Tree.size, Ez, Ex.size, a.tree_size, b.tree_size]; omega
 | .ite a b c => by simp [Ex.tree, Tree.size, Ez, Ex.size, a.tree_size, b.tree_size, c.tree_size]; omega
 | .lt x a b => by simp [Ex.tree, Tree.size, Ez, Ex.size, a.tree_size, b.tree_size]; omega
 | .fn f x s t b => by simp [Ex.tree, Tree.size, Ez, Ex.size, s.tree_size, t.tree_size, b.tree_size]; omega
 | .un o a => by simp [Ex.tree, Tree.size, Ez, Ex.size, a.tree_size]

theorem Tree.ty_isType : ∀ t : Tree, t.isType = t.ty.isSome
 | .node a [] => by simp [Tree.isType, Tree.ty]; split <;> simp_all
 | .node _ [h, x, y] => by
  simp only [Tree.isType, Tree.ty, x.ty_isType, y.ty_isType]
  cases x.ty <;> cases y.ty <;> simp
  by_cases h1 : h.atom = [62]
  ·simp [h1]
  ·by_cases h2 : h.atom = [42] <;> simp [h1, h2]
 | .node _ [h] => rfl
 | .node _ [h, x] => rfl
 | .node _ (h :: x :: y :: z :: r) => rfl
theorem Hi {t : Tree} (h : t.good = true) (ha : t.atom ≠ []) : t = .node t.atom [] := by
 cases t with
 | node a ps => cases ps with
  | nil => rfl
  | cons p ps => simp [Tree.good] at h; exact absurd h.1 ha
theorem Jc {a : As} {p : Tree} {ps : List Tree} (h : (Tree.node a (p :: ps)).good = true) : a = [] ∧ p.good = true ∧ F1 ps = true := by
 simp [Tree.good, F1] at h; exact ⟨h.1, h.2.1, h.2.2⟩
theorem Tree.ty_tree : ∀ {t : Tree} {a : Ty}, t.good = true → t.ty = some a → t = a.tree
 | .node a [], b, hg, h => by
  simp only [Tree.ty] at h
  split at h <;> cases h
  subst_vars; rfl
 | .node n [h, x, y], b, hg, e => by
  obtain ⟨rfl, hh, hr⟩ := Jc hg
  simp [F1] at hr
  simp only [Tree.ty] at e
  split at e
  ·rename_i a b' h1 h2
   have e1 := Tree.ty_tree hr.1 h1
   have e2 := Tree.ty_tree hr.2 h2
   split at e
   ·rename_i h3
    cases e
    have e3 := Hi hh (by simp [h3])
    rw [e3, h3, e1, e2]; rfl
   ·split at e
    ·rename_i h3
     cases e
     have e3 := Hi hh (by simp [h3])
     rw [e3, h3, e1, e2]; rfl
    ·cases e
  ·cases e
 | .node _ [h], _, _, e => by simp [Tree.ty] at e
 | .node _ [h, x], _, _, e => by simp [Tree.ty] at e
 | .node _ (h :: x :: y :: z :: r), _, _, e => by simp [Tree.ty] at e
theorem Ty.tree_ty : ∀ a : Ty, a.tree.ty = some a
 | .i => rfl
 | .fn a b => by simp [Ty.tree, Tree.ty, a.tree_ty, b.tree_ty, Tree.atom]
 | .pr a b => by simp [Ty.tree, Tree.ty, a.tree_ty, b.tree_ty, Tree.atom]
theorem Ty.tree_inj {a b : Ty} (h : a.tree = b.tree) : a = b := by
 have := congrArg Tree.ty h
 rw [a.tree_ty, b.tree_ty] at this
 exact Option.some.inj this
theorem Is {s : As} (h : B0 s = true) : s ≠ [] := by intro e; subst e; cases h
theorem Xj {s : As} (h : C4 s = true) : s ≠ [] := by intro e; subst e; revert h; decide
theorem F5 {s : As} (h : B0 s = true) : C4 s = false := by
 cases s with
 | nil => cases h
 | cons c r =>
  simp [B0, Po] at h
  obtain ⟨⟨h1, h2, h3⟩, h4⟩ := h
  have e : E6 (c :: r) = c :: r := by simp [E6]; intro h; omega
  have hc : c ≠ 48 := by intro e; subst e; revert h2; decide
  simp only [C4, e]
  simp [hc, Ga]
  intros; omega
theorem Tree.ex_tree : ∀ {t : Tree} {a : Ex}, t.good = true → t.ex = some a → t = a.tree ∧ a.ok = true
 | .node a [], b, hg, h => by
  simp only [Tree.ex] at h
  split at h
  ·cases h; exact ⟨rfl, by assumption⟩
  ·split at h
   ·cases h; exact ⟨rfl, by assumption⟩
   ·cases h
 | .node n [h, x], b, hg, e => by
  obtain ⟨rfl, hh, hr⟩ := Jc hg
  simp [F1] at hr
  simp only [Tree.ex] at e
  split at e
  ·rename_i o a h1 h2
   cases e
   obtain ⟨e1, k1⟩ := Tree.ex_tree hr h2
   have h3 := U2.of_eq h1
   have e3 := Hi hh (by rw [h3]; cases o <;> decide)
   exact ⟨by rw [e3, h3, e1]; rfl, by simpa [Ex.ok] using k1⟩
  ·cases e
 | .node n [h, x, y], b, hg, e => by
  obtain ⟨rfl, hh, hr⟩ := Jc hg
  simp [F1] at hr
  simp only [Tree.ex] at e
  split at e
  ·rename_i o a b h1 h2 h2'
   cases e
   obtain ⟨e1, k1⟩ := Tree.ex_tree hr.1 h2; obtain ⟨e2, k2⟩ := Tree.ex_tree hr.2 h2'
   have h3 := B5.of_eq h1
   have e3 := Hi hh (by rw [h3]; cases o <;> decide)
   exact ⟨by rw [e3, h3, e1, e2]; rfl, by simp [Ex.ok, k1, k2]⟩
  ·cases e
 | .node n [h, x, y, z], b, hg, e => by
  obtain ⟨rfl, hh, hr⟩ := Jc hg
  simp [F1] at hr
  simp only [Tree.ex] at e
  split at e
  ·rename_i h3
   split at e
   ·rename_i a b c h1 h2 h2'
    cases e
    obtain ⟨e0, k0⟩ := Tree.ex_tree hr.1 h1; obtain ⟨e1, k1⟩ := Tree.ex_tree hr.2.1 h2; obtain ⟨e2, k2⟩ := Tree.ex_tree hr.2.2 h2'
    have e3 := Hi hh (by rw [h3]; decide)
    exact ⟨by rw [e3, h3, e0, e1, e2]; rfl, by simp [Ex.ok, k0, k1, k2]⟩
   ·cases e
  ·split at e
   ·rename_i h3
    obtain ⟨h3, h4⟩ := h3
    split at e
    ·rename_i b c h2 h2'
     cases e
     obtain ⟨e1, k1⟩ := Tree.ex_tree hr.2.1 h2; obtain ⟨e2, k2⟩ := Tree.ex_tree hr.2.2 h2'
     have e3 := Hi hh (by rw [h3]; decide)
     have e4 := Hi hr.1 (Is h4)
     refine ⟨?_, by simp [Ex.ok, k1, k2, h4]⟩
     conv => lhs; rw [e3, h3, e4, e1, e2]
     rfl
    ·cases e
   ·cases e
 | .node n [h, f, x, s, t, b], _, hg, e => by
  obtain ⟨rfl, hh, hr⟩ := Jc hg
  simp [F1] at hr
  simp only [Tree.ex] at e
  split at e
  ·rename_i h3
   obtain ⟨h3, h4, h5, h6, h7, h8⟩ := h3
   split at e
   ·rename_i s' t' b' h1 h2 h2'
    cases e
    have e0 := Tree.ty_tree hr.2.2.1 h1
    have e1 := Tree.ty_tree hr.2.2.2.1 h2
    obtain ⟨e2, k2⟩ := Tree.ex_tree hr.2.2.2.2 h2'
    have e3 := Hi hh (by rw [h3]; decide)
    have e4 := Hi hr.1 (Is h4)
    have e5 := Hi hr.2.1 (Is h5)
    rw [e0, Ty.tree_size] at h7; rw [e1, Ty.tree_size] at h8; refine ⟨?_, by simp [Ex.ok, k2, h4, h5, h6, h7, h8]⟩
    conv => lhs; rw [e3, h3, e4, e5, e0, e1, e2]
    rfl
   ·cases e
  ·cases e
 | .node _ [h], _, _, e => by simp [Tree.ex] at e
 | .node _ [h, x, y, z, w], _, _, e => by simp [Tree.ex] at e
 | .node _ (h :: x :: y :: z :: w :: u :: v :: r), _, _, e => by simp [Tree.ex] at e
theorem Ex.tree_ex : ∀ {a : Ex}, a.ok = true → a.tree.ex = some a
 | .num s, h => by
  have h : C4 s = true := h
  have : B0 s = false := by
   cases hn : B0 s with
   | false => rfl
   | true => rw [F5 hn] at h; cases h
  simp [Ex.tree, Tree.ex, this, h]
 | .name s, h => by
  have h : B0 s = true := h
  simp [Ex.tree, Tree.ex, h]
 | .bin o a b, h => by simp [Ex.ok] at h; simp [Ex.tree, Tree.ex, Tree.atom, B5.of_txt, Ex.tree_ex h.1, Ex.tree_ex h.2]
 | .ite a b c, h => by simp [Ex.ok] at h; simp [Ex.tree, Tree.ex, Tree.atom, Ex.tree_ex h.1.1, Ex.tree_ex h.1.2, Ex.tree_ex h.2]
 | .lt x a b, h => by
  simp [Ex.ok] at h
  have : Dq ≠ Gi := by decide
  simp [Ex.tree, Tree.ex, Tree.atom, Ex.tree_ex h.1.2, Ex.tree_ex h.2, h.1.1, this]
 | .fn f x s t b, h => by
  simp [Ex.ok] at h
  obtain ⟨⟨⟨⟨⟨h1, h2⟩, h3⟩, h4⟩, h5⟩, h6⟩ := h
  simp [Ex.tree, Tree.ex, Tree.atom, Ex.tree_ex h6, Ty.tree_ty, Ty.tree_size, *]
 | .un o a, h => by simp [Ex.ok] at h; simp [Ex.tree, Tree.ex, Tree.atom, U2.of_txt, Ex.tree_ex h]
set_option maxRecDepth 100000
set_option linter.unusedVariables false
set_option linter.unusedSimpArgs false

theorem X9 : ∀ ts : List Tree, ts.length ≤ (Gu ts).length
 | [] => Nat.le_refl _
 | t :: ts => by have := X9 ts; simp [Gu]; omega
theorem Ub {p : UInt8 → Bool} {a r : As} (ha : a.all p = true) (hr : ∀ c, r.head? = some c → p c = false) : (a ++ r).takeWhile p = a ∧ (a ++ r).dropWhile p = r := by
 have hp : ∀ x ∈ a, p x = true := by simpa using ha
 rw [List.takeWhile_append_of_pos hp, List.dropWhile_append_of_pos hp]
 cases r with
 | nil => simp
 | cons c r => have := hr c rfl; simp [List.takeWhile, List.dropWhile, this]
theorem Abw {c : UInt8} (h : Fr c = true) : c.toNat ≠ 40 ∧ c.toNat ≠ 41 ∧ c.toNat ≠ 32 := by
 simp [Fr] at h; omega
mutual
theorem O2 : ∀ (t : Tree) (k : Nat) (r : As), t.good = true → t.bytes = true → (∀ c, r.head? = some c → Fr c = false) →
  E7 k (t.text ++ r) = if t.depth ≤ k then some (t, r) else none
 | .node a [], k, r, hg, hb, hr => by
  simp [Tree.good, F1] at hg
  simp only [Tree.bytes, G6, Bool.and_true] at hb
  obtain ⟨h1, h2⟩ := Ub hb hr
  have h40 : ((a ++ r).getD 0 0).toNat ≠ 40 := by
   cases a with
   | nil => exact absurd rfl hg
   | cons c a => simp at hb; exact (Abw hb.1).1
  simp only [Tree.text, Tree.depth, List.isEmpty_nil, cond_true, Nat.zero_le, if_true]
  rw [Ik h40, h1, h2, if_neg hg]
 | .node a (t :: ts), k, r, hg, hb, hr => by
  obtain ⟨rfl, g1, g2⟩ := Jc hg
  simp only [Tree.bytes, G6, Bool.and_eq_true] at hb
  have e : (Tree.node [] (t :: ts)).text ++ r = 40 :: (t.text ++ Gu ts ++ 41 :: r) := by simp [Tree.text]
  rw [e]
  cases k with
  | zero => rw [Kw Ac, if_neg (by simp [Tree.depth])]
  | succ k =>
   rw [Ju Ac]
   have hl := X9 ts
   rw [show (40 :: (t.text ++ Gu ts ++ 41 :: r)).drop 1 = t.text ++ Gu ts ++ 41 :: r from rfl]; rw [Pt t ts k _ r g1 g2 hb.2.1 hb.2.2 Cm]
   have hdep : (Tree.node [] (t :: ts)).depth = Eg (t :: ts) + 1 := rfl
   by_cases hd : Eg (t :: ts) ≤ k
   ·rw [if_pos hd, if_pos (show (Tree.node [] (t :: ts)).depth ≤ k + 1 by omega)]
   ·rw [if_neg hd, if_neg (show ¬ (Tree.node [] (t :: ts)).depth ≤ k + 1 by omega)]
theorem Pt : ∀ (t : Tree) (ts : List Tree) (k n : Nat) (r : As), t.good = true → F1 ts = true → t.bytes = true → G6 ts = true → ts.length + 1 ≤ n →
  Fh (E7 k) n (t.text ++ Gu ts ++ 41 :: r) = if Eg (t :: ts) ≤ k then some (t :: ts, r) else none
 | t, [], k, n, r, hg, hg2, hb, hb2, hn => by
  obtain ⟨m, rfl⟩ : ∃ m, n = m + 1 := ⟨n - 1, by simp at hn; omega⟩
  have := O2 t k (41 :: r) hg hb (by intro c hc; simp at hc; subst hc; decide)
  simp only [Gu, List.append_nil, Fh, this]
  by_cases hd : t.depth ≤ k
  ·rw [if_pos hd, if_pos (by simp [Eg]; omega)]; rfl
  ·rw [if_neg hd, if_neg (by simp [Eg]; omega)]
 | t, u :: us, k, n, r, hg, hg2, hb, hb2, hn => by
  obtain ⟨m, rfl⟩ : ∃ m, n = m + 1 := ⟨n - 1, by simp at hn; omega⟩
  simp only [F1, Bool.and_eq_true] at hg2
  simp only [G6, Bool.and_eq_true] at hb2
  have h1 := O2 t k (32 :: (u.text ++ Gu us ++ 41 :: r)) hg hb (by intro c hc; simp at hc; subst hc; decide)
  have h2 := Pt u us k m r hg2.1 hg2.2 hb2.1 hb2.2 (by simp at hn; omega)
  have e : t.text ++ Gu (u :: us) ++ 41 :: r = t.text ++ 32 :: (u.text ++ Gu us ++ 41 :: r) := by simp [Gu]
  rw [e]
  simp only [Fh, h1]
  by_cases hd : t.depth ≤ k
  ·rw [if_pos hd]
   have c1 : ((32 : UInt8).toNat == 41) = false := by decide
   have c2 : ((32 : UInt8).toNat == 32) = true := by decide
   simp only [c1, c2, cond_false, cond_true, h2]
   by_cases hd2 : Eg (u :: us) ≤ k
   ·rw [if_pos hd2, if_pos (by simp only [Eg] at *; omega)]
   ·rw [if_neg hd2, if_neg (by simp only [Eg] at *; omega)]
  ·rw [if_neg hd, if_neg (by simp [Eg]; omega)]
end
def Tree.fits (t : Tree) : Bool := decide (t.depth ≤ 60) && decide (t.len ≤ 12000)
theorem Adl {t : Tree} (hg : t.good = true) (hb : t.bytes = true) : Dw t.text = if t.fits then some t else none := by
 have h := O2 t 60 [] hg hb Af
 rw [List.append_nil] at h
 unfold Dw
 rw [h, t.text_len]
 simp only [Tree.fits, Bool.and_eq_true, decide_eq_true_eq]
 by_cases h1 : 12000 < t.len
 ·rw [if_pos h1, if_neg Aa]
 ·rw [if_neg h1]
  by_cases h2 : t.depth ≤ 60
  ·rw [if_pos h2, if_pos Aa]
  ·rw [if_neg h2, if_neg Aa]
theorem Ij {s : As} {t : Tree} (h : Dw s = some t) : t.fits = true ∧ t.good = true ∧ t.bytes = true := by
 obtain ⟨h1, h2⟩ := Me h
 have h3 := h1.text
 rw [List.append_nil] at h3; refine ⟨?_, h1.good, h1.bytes⟩
 have := h1.depth
 rw [h3, t.text_len] at h2
 simp [Tree.fits, this, h2]

theorem Q3 {b : UInt8} (h : Ga b = true) : Fr b = true := by simp [Ga] at h; simp [Fr]; omega
theorem Kf {s : As} (h : B0 s = true) : s.all Fr = true := by
 cases s with
 | nil => rfl
 | cons c r =>
  simp only [B0, Bool.and_eq_true] at h
  simp only [List.all_cons, Bool.and_eq_true]
  refine ⟨by have := h.1.2; simp [Po] at this; simp [Fr]; omega, ?_⟩
  have h2 := h.2
  rw [List.all_eq_true] at h2 ⊢
  exact fun x hx => Q3 (h2 x hx)
theorem Ks {s : As} (h : B0 s = true) : s.length ≤ 4 := by
 cases s with
 | nil => simp
 | cons c r => simp [B0] at h; simp; omega
theorem Xi {s : As} (h : C4 s = true) : s.all Fr = true := by
 simp only [C4, Bool.or_eq_true, decide_eq_true_eq] at h
 rcases h with rfl | h
 ·decide
 ·simp only [Bool.and_eq_true] at h
  have h2 := h.1.2
  unfold E6 at h2
  have key : ∀ l : As, l.all Ga = true → l.all Fr = true := fun l hl => by
   rw [List.all_eq_true] at hl ⊢
   exact fun x hx => Q3 (hl x hx)
  split at h2
  ·cases s with
   | nil => rfl
   | cons c r =>
    rename_i h45
    simp only [List.drop_succ_cons, List.drop_zero] at h2
    simp only [List.all_cons, Bool.and_eq_true]
    refine ⟨?_, key r h2⟩
    simp at h45
    simp [Fr, h45]
  ·exact key s h2
theorem Ty.tree_good : ∀ t : Ty, t.tree.good = true ∧ t.tree.bytes = true
 | .i => ⟨rfl, by decide⟩
 | .fn a b => by
  have := a.tree_good; have := b.tree_good
  simp [Ty.tree, Tree.good, F1, Tree.bytes, G6, *]; decide
 | .pr a b => by
  have := a.tree_good; have := b.tree_good
  simp [Ty.tree, Tree.good, F1, Tree.bytes, G6, *]; decide
theorem Ex.tree_good : ∀ {e : Ex}, e.ok = true → e.tree.good = true ∧ e.tree.bytes = true
 | .num s, h => by
  have h : C4 s = true := h
  have := Xj h; have := Xi h
  simp [Ex.tree, Tree.good, F1, Tree.bytes, G6]; exact ⟨by assumption, by simpa using this⟩
 | .name s, h => by
  have h : B0 s = true := h
  have := Is h; have := Kf h
  simp [Ex.tree, Tree.good, F1, Tree.bytes, G6]; exact ⟨by assumption, by simpa using this⟩
 | .bin o a b, h => by
  simp [Ex.ok] at h
  have := Ex.tree_good h.1; have := Ex.tree_good h.2
  simp [Ex.tree, Tree.good, F1, Tree.bytes, G6, *]
  cases o <;> decide
 | .ite a b c, h => by
  simp [Ex.ok] at h
  have := Ex.tree_good h.1.1; have := Ex.tree_good h.1.2; have := Ex.tree_good h.2
  simp [Ex.tree, Tree.good, F1, Tree.bytes, G6, *]; decide
 | .lt x a b, h => by
  simp [Ex.ok] at h
  have := Ex.tree_good h.1.2; have := Ex.tree_good h.2; have := Is h.1.1; have h3 := Kf h.1.1
  simp at h3
  simp [Ex.tree, Tree.good, F1, Tree.bytes, G6, *]
  exact ⟨by decide, by decide, h3⟩
 | .fn f x s t b, h => by
  simp [Ex.ok] at h
  obtain ⟨⟨⟨⟨⟨h1, h2⟩, h3⟩, h4⟩, h5⟩, h6⟩ := h
  have := Ex.tree_good h6; have := s.tree_good; have := t.tree_good; have := Is h1; have := Is h2; have k1 := Kf h1; have k2 := Kf h2
  simp at k1 k2
  simp [Ex.tree, Tree.good, F1, Tree.bytes, G6, *]
  exact ⟨by decide, by decide, k1, k2⟩
 | .un o a, h => by
  have h : a.ok = true := h
  have := Ex.tree_good h
  simp [Ex.tree, Tree.good, F1, Tree.bytes, G6, *]
  cases o <;> decide

def Ex.fine (e : Ex) : Bool := e.ok && decide (e.size ≤ 120) && e.tree.fits
def Eu (s : As) : Option Ex := match Dw s with
 | some t => match t.ex with
  | some e => if e.size ≤ 120 then some e else none
  | none => none
 | none => none
theorem Ln {s : As} {e : Ex} (h : Eu s = some e) : Dw s = some e.tree ∧ e.fine = true ∧ s = e.tree.text := by
 unfold Eu at h
 split at h
 ·rename_i t hp
  split at h
  ·rename_i e' he
   split at h
   ·rename_i hz
    cases h
    obtain ⟨h1, h2, h3⟩ := Ij hp; obtain ⟨rfl, h4⟩ := Tree.ex_tree h2 he
    exact ⟨hp, by simp [Ex.fine, h4, hz, h1], (Kv hp).symm⟩
   ·cases h
  ·cases h
 ·cases h
theorem Lo {e : Ex} (h : e.ok = true) : Eu e.tree.text = if e.fine then some e else none := by
 obtain ⟨h1, h2⟩ := Ex.tree_good h
 unfold Eu
 rw [Adl h1 h2]
 simp only [Ex.fine, h, Bool.true_and, Bool.and_eq_true, decide_eq_true_eq]
 by_cases h3 : e.tree.fits = true
 ·simp only [h3, if_true, Ex.tree_ex h, and_true]
 ·simp [h3]
theorem Ya {s : As} {t : Tree} (h : F0 s = some t) : ∃ a : Ty, t = a.tree ∧ a.size ≤ 16 ∧ s = a.tree.text := by
 unfold F0 at h
 cases hp : Dw s with
 | none => rw [hp] at h; cases h
 | some t0 =>
  rw [hp] at h
  simp only [Tree.typed, Tree.ty_isType] at h
  cases ha : t0.ty with
  | none => simp [ha] at h
  | some a =>
   by_cases hz : t0.size ≤ 16
   ·simp [ha, hz] at h
    subst h; obtain rfl := Tree.ty_tree (Ij hp).2.1 ha; rw [Ty.tree_size] at hz
    exact ⟨a, rfl, hz, (Kv hp).symm⟩
   ·simp [ha, hz] at h
theorem Ty.tree_typed (a : Ty) : a.tree.typed = decide (a.size ≤ 16) := by
 simp [Tree.typed, Tree.ty_isType, a.tree_ty, a.tree_size]
theorem Ty.size_pos : ∀ a : Ty, 1 ≤ a.size
 | .i => Nat.le_refl _
 | .fn a b => by simp [Ty.size]; omega
 | .pr a b => by simp [Ty.size]; omega
theorem Ty.tree_small : ∀ a : Ty, a.tree.depth + 1 ≤ a.size ∧ a.tree.len + 3 ≤ 5 * a.size
 | .i => ⟨Nat.le_refl _, by simp [Ty.tree, Tree.len, Ty.size]⟩
 | .fn a b => by
  have := a.tree_small; have := b.tree_small; have := a.size_pos; have := b.size_pos
  simp [Ty.tree, Tree.depth, Eg, Tree.len, G1, Ty.size]; omega
 | .pr a b => by
  have := a.tree_small; have := b.tree_small; have := a.size_pos; have := b.size_pos
  simp [Ty.tree, Tree.depth, Eg, Tree.len, G1, Ty.size]; omega
set_option maxRecDepth 100000
set_option linter.unusedVariables false
set_option linter.unusedSimpArgs false

def Ex.occ : Ex → List As → List As
 | .num _, _ => []
 | .name s, bd => if s ∈ bd then [] else [s]
 | .bin _ a b, bd => a.occ bd ++ b.occ bd
 | .ite a b c, bd => a.occ bd ++ b.occ bd ++ c.occ bd
 | .lt x a b, bd => a.occ bd ++ b.occ (bd ++ [x])
 | .fn f x _ _ b, bd => b.occ (bd ++ [f, x])
 | .un _ a, bd => a.occ bd
def Fa (l : List As) (s : As) : List As := if s ∈ l then l else l ++ [s]
def Df (l m : List As) : List As := m.foldl Fa l
def Ex.free (e : Ex) : List As := Df [] (e.occ [])
def Ex.closed (e : Ex) : Bool := (e.occ []).isEmpty
def Ex.count (n : As) : Ex → Nat
 | .num _ => 0
 | .name s => if s = n then 1 else 0
 | .bin _ a b => a.count n + b.count n
 | .ite a b c => a.count n + b.count n + c.count n
 | .lt x a b => a.count n + (if x = n then 0 else b.count n)
 | .fn f x _ _ b => if f = n ∨ x = n then 0 else b.count n
 | .un _ a => a.count n
def Ex.put : Ex → As → Ex → Ex
 | .num s, _, _ => .num s
 | .name s, n, v => if s = n then v else .name s
 | .bin o a b, n, v => .bin o (a.put n v) (b.put n v)
 | .ite a b c, n, v => .ite (a.put n v) (b.put n v) (c.put n v)
 | .lt x a b, n, v => .lt x (a.put n v) (if x = n then b else b.put n v)
 | .fn f x s t b, n, v => .fn f x s t (if f = n ∨ x = n then b else b.put n v)
 | .un o a, n, v => .un o (a.put n v)

theorem C2 (l m k : List As) : Df l (m ++ k) = Df (Df l m) k := by simp [Df]
theorem Wr {l : List As} {s x : As} : x ∈ Fa l s ↔ x ∈ l ∨ x = s := by
 unfold Fa; split
 ·constructor
  ·exact .inl
  ·rintro (h | rfl) <;> assumption
 ·simp
theorem Hm {x : As} : ∀ {m l : List As}, x ∈ Df l m ↔ x ∈ l ∨ x ∈ m := by
 intro m
 induction m with
 | nil => intro l; simp [Df]
 | cons s m ih => intro l; rw [show Df l (s :: m) = Df (Fa l s) m from rfl, ih, Wr]; simp [or_assoc]
theorem Tt {l : List As} {s : As} (h : l.Nodup) : (Fa l s).Nodup := by
 unfold Fa; split
 ·exact h
 ·rw [List.nodup_append]; refine ⟨h, by simp, ?_⟩; intro a ha b hb; simp at hb; subst hb; intro e; subst e; contradiction
theorem Ve : ∀ {m l : List As}, l.Nodup → (Df l m).Nodup := by
 intro m
 induction m with
 | nil => intro l h; exact h
 | cons s m ih => intro l h; exact ih (Tt h)
theorem Ex.free_mem {e : Ex} {x : As} : x ∈ e.free ↔ x ∈ e.occ [] := by simp [Ex.free, Hm]
theorem Ex.free_nodup (e : Ex) : e.free.Nodup := Ve (by simp)
theorem Yl {m : List As} : Df [] m = [] ↔ m = [] := by
 constructor
 ·intro h
  cases m with
  | nil => rfl
  | cons s m =>
   have : s ∈ Df [] (s :: m) := Hm.2 (.inr (.head _))
   rw [h] at this; cases this
 ·rintro rfl; rfl
theorem Ex.occ_filter : ∀ (e : Ex) (bd : List As), e.occ bd = (e.occ []).filter (fun s => decide (s ∉ bd))
 | .num _, bd => rfl
 | .name s, bd => by by_cases h : s ∈ bd <;> simp [Ex.occ, List.filter_cons, h]
 | .bin _ a b, bd => by simp [Ex.occ, a.occ_filter bd, b.occ_filter bd]
 | .ite a b c, bd => by simp [Ex.occ, a.occ_filter bd, b.occ_filter bd, c.occ_filter bd]
 | .lt x a b, bd => by
  simp only [Ex.occ, List.nil_append, List.filter_append]
  rw [a.occ_filter bd, b.occ_filter (bd ++ [x]), b.occ_filter [x], List.filter_filter]
  congr 2; funext s; simp
 | .fn f x _ _ b, bd => by
  simp only [Ex.occ, List.nil_append]
  rw [b.occ_filter (bd ++ [f, x]), b.occ_filter [f, x], List.filter_filter]
  congr 2; funext s; simp
 | .un _ a, bd => by simp [Ex.occ, a.occ_filter bd]
theorem Ex.occ_mem {e : Ex} {bd : List As} {x : As} : x ∈ e.occ bd ↔ x ∈ e.occ [] ∧ x ∉ bd := by
 rw [e.occ_filter bd]; simp
theorem Ex.occ_name : ∀ {e : Ex} {bd : List As}, e.ok = true → ∀ x ∈ e.occ bd, B0 x = true
 | .num _, bd, h, x, hx => by cases hx
 | .name s, bd, h, x, hx => by
  simp only [Ex.occ] at hx
  split at hx
  ·cases hx
  ·simp at hx; subst hx; exact h
 | .bin _ a b, bd, h, x, hx => by
  simp [Ex.ok] at h; simp [Ex.occ] at hx
  rcases hx with hx | hx
  ·exact Ex.occ_name h.1 x hx
  ·exact Ex.occ_name h.2 x hx
 | .ite a b c, bd, h, x, hx => by
  simp [Ex.ok] at h; simp [Ex.occ] at hx
  rcases hx with hx | hx | hx
  ·exact Ex.occ_name h.1.1 x hx
  ·exact Ex.occ_name h.1.2 x hx
  ·exact Ex.occ_name h.2 x hx
 | .lt y a b, bd, h, x, hx => by
  simp [Ex.ok] at h; simp [Ex.occ] at hx
  rcases hx with hx | hx
  ·exact Ex.occ_name h.1.2 x hx
  ·exact Ex.occ_name h.2 x hx
 | .fn f y s t b, bd, h, x, hx => by
  simp [Ex.ok] at h; simp [Ex.occ] at hx
  exact Ex.occ_name h.2 x hx
 | .un _ a, bd, h, x, hx => Ex.occ_name (e := a) h x hx
theorem Ex.put_ok : ∀ {e : Ex} {n : As} {v : Ex}, e.ok = true → v.ok = true → (e.put n v).ok = true
 | .num _, n, v, h, hv => h
 | .name s, n, v, h, hv => by simp only [Ex.put]; split <;> assumption
 | .bin _ a b, n, v, h, hv => by simp [Ex.ok] at h; simp [Ex.put, Ex.ok, Ex.put_ok h.1 hv, Ex.put_ok h.2 hv]
 | .ite a b c, n, v, h, hv => by simp [Ex.ok] at h; simp [Ex.put, Ex.ok, Ex.put_ok h.1.1 hv, Ex.put_ok h.1.2 hv, Ex.put_ok h.2 hv]
 | .lt x a b, n, v, h, hv => by
  simp [Ex.ok] at h
  simp only [Ex.put, Ex.ok, Ex.put_ok h.1.2 hv, h.1.1]
  split
  ·simpa using h.2
  ·simp [Ex.put_ok h.2 hv]
 | .fn f x s t b, n, v, h, hv => by
  simp [Ex.ok] at h
  obtain ⟨⟨⟨⟨⟨h1, h2⟩, h3⟩, h4⟩, h5⟩, h6⟩ := h
  simp only [Ex.put, Ex.ok, h1, h2, h4, h5]
  split
  ·simp [h3, h6]
  ·simp [h3, Ex.put_ok h6 hv]
 | .un _ a, n, v, h, hv => by simp only [Ex.put]; exact Ex.put_ok (e := a) h hv

/- Types. -/
def Fl (l : List As) (m : List Ty) (s : As) : Option Ty := (Bv l s).bind (fun i => m[i]?)
def B5.ty : B5 → Ty → Ty → Option Ty
 | .call, s, t => match s with
  | .fn a b => if a = t then some b else none
  | _ => none
 | .pair, s, t => if (Ty.pr s t).size ≤ 16 then some (.pr s t) else none
 | _, s, t => if s = .i ∧ t = .i then some .i else none
def U2.ty : U2 → Ty → Option Ty
 | .fst, .pr a _ => some a
 | .snd, .pr _ b => some b
 | _, _ => none
def Ex.chk : Ex → List As → List Ty → Except Ex Ty
 | .num _, _, _ => .ok .i
 | .name s, l, m => match Fl l m s with
  | some t => .ok t
  | none => .error (.name s)
 | .bin o a b, l, m => match a.chk l m with
  | .error e => .error e
  | .ok s => match b.chk l m with
   | .error e => .error e
   | .ok t => match o.ty s t with
    | some u => .ok u
    | none => .error (.bin o a b)
 | .ite a b c, l, m => match a.chk l m with
  | .error e => .error e
  | .ok s => match b.chk l m with
   | .error e => .error e
   | .ok t => match c.chk l m with
    | .error e => .error e
    | .ok u => if s = .i ∧ t = u then .ok t else .error (.ite a b c)
 | .lt x a b, l, m => match a.chk l m with
  | .error e => .error e
  | .ok s => b.chk (l ++ [x]) (m ++ [s])
 | .fn f x s t b, l, m => if (Ty.fn s t).size ≤ 16 then (match b.chk (l ++ [f, x]) (m ++ [.fn s t, s]) with
   | .error e => .error e
   | .ok u => if u = t then .ok (.fn s t) else .error (.fn f x s t b))
  else .error (.fn f x s t b)
 | .un o a, l, m => match a.chk l m with
  | .error e => .error e
  | .ok s => match o.ty s with
   | some u => .ok u
   | none => .error (.un o a)
def Ex.ty (e : Ex) (l : List As) (m : List Ty) : Option Ty := match e.chk l m with
 | .ok t => some t
 | .error _ => none
set_option maxRecDepth 100000
set_option linter.unusedVariables false
set_option linter.unusedSimpArgs false

theorem Hs (h : As) : (∃ o : B5, h = o.txt ∧ Az h = (1, 3)) ∨ (h = Gi ∧ Az h = (1, 4)) ∨ (h = Dq ∧ Az h = (2, 4)) ∨ (h = C6 ∧ Az h = (5, 6)) ∨ (∃ o : U2, h = o.txt ∧ Az h = (1, 2)) ∨
  (Az h = (0, 0) ∧ B5.of h = none ∧ U2.of h = none ∧ h ≠ Gi ∧ h ≠ Dq ∧ h ≠ C6) := by
 unfold Az
 by_cases h1 : h = [43]
 ·exact .inl ⟨.add, h1, by simp [h1]⟩
 by_cases h2 : h = [45]
 ·exact .inl ⟨.sub, h2, by simp [h2]⟩
 by_cases h3 : h = [42]
 ·exact .inl ⟨.mul, h3, by simp [h3]⟩
 by_cases h4 : h = E3
 ·exact .inl ⟨.call, h4, by simp [h4]⟩
 by_cases h5 : h = Ey
 ·exact .inl ⟨.pair, h5, by simp [h5]⟩
 have hb : ¬ (h = [43] ∨ h = [45] ∨ h = [42] ∨ h = E3 ∨ h = Ey) := by simp [*]
 rw [if_neg hb]
 by_cases h6 : h = Gi
 ·exact .inr (.inl ⟨h6, by rw [if_pos h6]⟩)
 rw [if_neg h6]
 by_cases h7 : h = Dq
 ·exact .inr (.inr (.inl ⟨h7, by rw [if_pos h7]⟩))
 rw [if_neg h7]
 by_cases h8 : h = C6
 ·exact .inr (.inr (.inr (.inl ⟨h8, by rw [if_pos h8]⟩)))
 rw [if_neg h8]
 by_cases h9 : h = G3
 ·exact .inr (.inr (.inr (.inr (.inl ⟨.fst, h9, by simp [h9]⟩))))
 by_cases h10 : h = G4
 ·exact .inr (.inr (.inr (.inr (.inl ⟨.snd, h10, by simp [h10]⟩))))
 refine .inr (.inr (.inr (.inr (.inr ⟨by simp [*], ?_, ?_, h6, h7, h8⟩))))
 ·simp [B5.of, *]
 ·simp [U2.of, *]

def Xq : Tree := .node [] []
def Tree.pt (t : Tree) (i : Nat) : Tree := t.parts.getD i Xq
theorem Tree.pt_at {t : Tree} {i : Nat} (h : i < t.parts.length) : t.pt i = t.parts[i] := by simp [Tree.pt, h]
theorem Tree.pt_lt (t : Tree) (i : Nat) (h : i < t.parts.length) : SizeOf.sizeOf (t.pt i) < SizeOf.sizeOf t := by rw [Tree.pt_at h]; exact t.part_lt i h
theorem Tree.pt_good {t : Tree} (hg : t.good = true) (i : Nat) (h : i < t.parts.length) : (t.pt i).good = true := by rw [Tree.pt_at h]; exact t.good_part hg i h
def L3 (t : Tree) : Bool :=
 if t.head = Dq then B0 (t.pt 1).atom
 else if t.head = C6 then B0 (t.pt 1).atom && B0 (t.pt 2).atom && decide ((t.pt 1).atom ≠ (t.pt 2).atom) && (t.pt 3).typed && (t.pt 4).typed
 else true
theorem B5.txt_ne (o : B5) : o.txt ≠ Gi ∧ o.txt ≠ Dq ∧ o.txt ≠ C6 ∧ U2.of o.txt = none ∧ o.txt ≠ [] := by cases o <;> decide
theorem U2.txt_ne (o : U2) : o.txt ≠ Gi ∧ o.txt ≠ Dq ∧ o.txt ≠ C6 ∧ o.txt ≠ [] := by cases o <;> decide
theorem U2.txt_b5 (o : U2) : B5.of o.txt = none := by cases o <;> rfl
theorem Up : ∀ {t : Tree}, t.parts ≠ [] → C3 t = [] → t.ex = none
 | .node a [], h, _ => absurd rfl h
 | .node a (h :: ps), _, hk => by
  have hd : (Tree.node a (h :: ps)).head = h.atom := rfl
  unfold C3 at hk
  rw [hd] at hk
  simp only [Tree.parts] at hk
  rcases Hs h.atom with ⟨o, e, hr⟩ | ⟨e, hr⟩ | ⟨e, hr⟩ | ⟨e, hr⟩ | ⟨o, e, hr⟩ | ⟨hr, e1, e2, e3, e4, e5⟩
  all_goals rw [hr] at hk
  ·rcases ps with _ | ⟨x, _ | ⟨y, _ | ⟨z, _ | ⟨w, _ | ⟨u, _ | ⟨v, ps⟩⟩⟩⟩⟩⟩ <;> first | (simp at hk; done) | simp [Tree.ex, e, o.txt_ne]
  ·rcases ps with _ | ⟨x, _ | ⟨y, _ | ⟨z, _ | ⟨w, _ | ⟨u, _ | ⟨v, ps⟩⟩⟩⟩⟩⟩ <;> first | (simp at hk; done) | simp [Tree.ex, e, U2.of, B5.of, Gi, G3, G4, E3, Ey, Dq, C6]
  ·rcases ps with _ | ⟨x, _ | ⟨y, _ | ⟨z, _ | ⟨w, _ | ⟨u, _ | ⟨v, ps⟩⟩⟩⟩⟩⟩ <;> first | (simp at hk; done) | simp [Tree.ex, e, U2.of, B5.of, Gi, G3, G4, E3, Ey, Dq, C6]
  ·rcases ps with _ | ⟨x, _ | ⟨y, _ | ⟨z, _ | ⟨w, _ | ⟨u, _ | ⟨v, ps⟩⟩⟩⟩⟩⟩ <;> first | (simp at hk; done) | simp [Tree.ex, e, U2.of, B5.of, Gi, G3, G4, E3, Ey, Dq, C6]
  ·have := o.txt_b5
   rcases ps with _ | ⟨x, _ | ⟨y, _ | ⟨z, _ | ⟨w, _ | ⟨u, _ | ⟨v, ps⟩⟩⟩⟩⟩⟩ <;> first | (simp at hk; done) | simp [Tree.ex, e, o.txt_ne, this]
  ·rcases ps with _ | ⟨x, _ | ⟨y, _ | ⟨z, _ | ⟨w, _ | ⟨u, _ | ⟨v, ps⟩⟩⟩⟩⟩⟩ <;> simp [Tree.ex, *]
theorem Ad2 (t : Tree) : t.typed = (t.ty.isSome && decide (t.size ≤ 16)) := by simp [Tree.typed, Tree.ty_isType]
theorem Uq : ∀ {t : Tree}, C3 t ≠ [] → t.ex.isSome = ((C3 t).all (fun i => (t.pt i).ex.isSome) && L3 t)
 | .node a [], hk => by exact absurd rfl hk
 | .node a (h :: ps), hk => by
  have hd : (Tree.node a (h :: ps)).head = h.atom := rfl
  unfold C3 L3 at *
  rw [hd] at hk ⊢
  simp only [Tree.parts, Tree.pt] at hk ⊢
  rcases Hs h.atom with ⟨o, e, hr⟩ | ⟨e, hr⟩ | ⟨e, hr⟩ | ⟨e, hr⟩ | ⟨o, e, hr⟩ | ⟨hr, e1, e2, e3, e4, e5⟩
  all_goals rw [hr] at hk ⊢
  ·rcases ps with _ | ⟨x, _ | ⟨y, _ | ⟨z, ps⟩⟩⟩ <;> simp at hk
   have := o.txt_ne
   simp [List.range', Tree.ex, e, B5.of_txt, this]
   cases x.ex <;> cases y.ex <;> rfl
  ·rcases ps with _ | ⟨x, _ | ⟨y, _ | ⟨z, _ | ⟨w, ps⟩⟩⟩⟩ <;> simp at hk
   simp [List.range', Tree.ex, e, show Gi ≠ Dq from by decide, show Gi ≠ C6 from by decide]
   cases x.ex <;> cases y.ex <;> cases z.ex <;> rfl
  ·rcases ps with _ | ⟨x, _ | ⟨y, _ | ⟨z, _ | ⟨w, ps⟩⟩⟩⟩ <;> simp at hk
   simp [List.range', Tree.ex, e, show Dq ≠ Gi from by decide]
   cases B0 x.atom <;> cases y.ex <;> cases z.ex <;> simp
  ·rcases ps with _ | ⟨x, _ | ⟨y, _ | ⟨z, _ | ⟨w, _ | ⟨u, _ | ⟨v, ps⟩⟩⟩⟩⟩⟩ <;> simp at hk
   simp [List.range', Tree.ex, e, show C6 ≠ Dq from by decide, Ad2]
   cases B0 x.atom <;> cases B0 y.atom <;> by_cases hxy : x.atom = y.atom <;> by_cases hz : z.size ≤ 16 <;> by_cases hw : w.size ≤ 16 <;> cases z.ty <;> cases w.ty <;> cases u.ex <;> simp [*]
  ·rcases ps with _ | ⟨x, _ | ⟨y, ps⟩⟩ <;> simp at hk
   have := o.txt_ne
   simp [List.range', Tree.ex, e, U2.of_txt, this]
   cases x.ex <;> rfl
  ·simp at hk
theorem Zy {t : Tree} {i : Nat} (h : i ∈ C3 t) : i < t.parts.length ∧ 1 ≤ i := by
 unfold C3 at h
 split at h
 ·rename_i hl
  rw [List.mem_range'] at h; obtain ⟨j, hj, rfl⟩ := h
  have : 1 ≤ (Az t.head).1 ∨ (Az t.head).2 = 0 := by
   rcases Hs t.head with ⟨o, e, hr⟩ | ⟨e, hr⟩ | ⟨e, hr⟩ | ⟨e, hr⟩ | ⟨o, e, hr⟩ | ⟨hr, _⟩ <;> rw [hr] <;> simp
  omega
 ·cases h
theorem Aen (t : Tree) : (C3 t).length ≤ 5 := by
 unfold C3
 split
 ·rw [List.length_range']
  rcases Hs t.head with ⟨o, _, hr⟩ | ⟨_, hr⟩ | ⟨_, hr⟩ | ⟨_, hr⟩ | ⟨o, _, hr⟩ | ⟨hr, _⟩ <;> rw [hr] <;> decide
 ·exact Nat.zero_le _
set_option maxRecDepth 100000
set_option linter.unusedVariables false
set_option linter.unusedSimpArgs false

def Wb (oa : Option Addr) : Addr := oa.getD ⟨0, 0, none⟩
section rules
variable {P : Program} {f : FuncId} {n : Nat} {I₀ : Heap} {Q : De} {k : List Item} {E : Hy} {I : Heap} {L : Bo}
variable {ops : Array Oper} {d : Nat} {ty : TypeId} {pos : String} {af : Array Edge} {g : Option (Nat × Bool)} {l : List Oper}
theorem Fu {oa : Option Addr} {m i : Nat} (hn : oa = none → m = 0) (hi : i < m) : oa = some (Wb oa) := by
 cases oa with
 | none => have := hn rfl; omega
 | some x => rfl
theorem P5 {S : World → Prop} {T e : TypeId} {sz bb esz ebb : Nat} {z ez : List Value} {dd : TypeDesc} [ht : Ay P T (.slice e) sz bb z] [hte : Ay P e dd esz ebb ez] {x y : Operand} {oa : Option Addr} {m c : Nat} {i : Int}
  (hx : Cw E x = some (.slice oa m c)) (hy : Cw E y = some (.int .i64 i)) (i' : Nat) (hi : i = i') (him : i' < m) (hn : oa = none → m = 0) : Iw P E S ⟨some d, .indexAddr T x y, ty, pos, af, g⟩ (.pointer (some ((Wb oa).add (i' * esz)))) :=
 F8 hx hy i' hi him (Fu hn him)
theorem V7 {T e : TypeId} {sz bb esz ebb : Nat} {z ez : List Value} {dd : TypeDesc} [ht : Ay P T (.slice e) sz bb z] [hte : Ay P e dd esz ebb ez] {x y : Operand} {oa : Option Addr} {m c : Nat} {i : Int}
  (hx : Cw E x = some (.slice oa m c)) (hy : Cw E y = some (.int .i64 i)) (i' : Nat) (hi : i = i') (him : i' < m) (hn : oa = none → m = 0) (hg : Wants ops E g) (hdn : Nat.blt d n = true)
  (h : Bd P f n I₀ Q ops l k ((d, .pointer (some ((Wb oa).add (i' * esz)))) :: E) I L) : Bd P f n I₀ Q ops (⟨some d, .indexAddr T x y, ty, pos, af, g⟩ :: l) k E I L :=
 E2 (P5 hx hy i' hi him hn) hg hdn h
theorem A3 {S : World → Prop} {T e : TypeId} {sz bb esz ebb : Nat} {z ez : List Value} {dd : TypeDesc} [ht : Ay P T (.slice e) sz bb z] [hte : Ay P e dd esz ebb ez] {x y : Operand} {oa : Option Addr} {m c : Nat} {i : Int}
  (hx : Cw E x = some (.slice oa m c)) (hy : Cw E y = some (.int .i64 i)) (i' : Nat) (hi : i = i') (him : i' < m := by first | omega | exact Fm (by assumption) (by decide) | (simp; done) | (simp; omega) | decide | (simp at *; omega)) (hn : oa = none → m = 0 := by first | assumption | exact FormAt.nil (by assumption) | exact Strs.nil' (by assumption) | exact Nums.nil' (by assumption) | exact Raw.nil' (by assumption)) : Iw P E S ⟨some d, .indexAddr T x y, ty, pos, af, g⟩ (.pointer (some ((Wb oa).add (i' * esz)))) := P5 hx hy i' hi him hn
theorem Bx {T e : TypeId} {sz bb esz ebb : Nat} {z ez : List Value} {dd : TypeDesc} [ht : Ay P T (.slice e) sz bb z] [hte : Ay P e dd esz ebb ez] {x y : Operand} {oa : Option Addr} {m c : Nat} {i : Int}
  (hx : Cw E x = some (.slice oa m c)) (hy : Cw E y = some (.int .i64 i)) (i' : Nat) (hi : i = i') (hg : Wants ops E g) (hdn : Nat.blt d n = true)
  (h : Bd P f n I₀ Q ops l k ((d, .pointer (some ((Wb oa).add (i' * esz)))) :: E) I L) (him : i' < m := by first | omega | exact Fm (by assumption) (by decide) | (simp; done) | (simp; omega) | decide | (simp at *; omega)) (hn : oa = none → m = 0 := by first | assumption | exact FormAt.nil (by assumption) | exact Strs.nil' (by assumption) | exact Nums.nil' (by assumption) | exact Raw.nil' (by assumption)) : Bd P f n I₀ Q ops (⟨some d, .indexAddr T x y, ty, pos, af, g⟩ :: l) k E I L := V7 hx hy i' hi him hn hg hdn h
theorem A4 {S : World → Prop} {T e : TypeId} {sz bb esz ebb : Nat} {z ez : List Value} {dd : TypeDesc} [ht : Ay P T (.slice e) sz bb z] [hte : Ay P e dd esz ebb ez] {x y : Operand} {oa : Option Addr} {ad : Addr} {m c : Nat} {i : Int}
  (hx : Cw E x = some (.slice oa m c)) (hy : Cw E y = some (.int .i64 i)) (i' : Nat) (hi : i = i') (him : i' < m := by first | omega | exact Fm (by assumption) (by decide) | (simp; done) | (simp; omega) | decide | (simp at *; omega)) (hn : oa = some ad := by first | rfl | assumption) : Iw P E S ⟨some d, .indexAddr T x y, ty, pos, af, g⟩ (.pointer (some (ad.add (i' * esz)))) := F8 hx hy i' hi him hn
theorem By {T e : TypeId} {sz bb esz ebb : Nat} {z ez : List Value} {dd : TypeDesc} [ht : Ay P T (.slice e) sz bb z] [hte : Ay P e dd esz ebb ez] {x y : Operand} {oa : Option Addr} {ad : Addr} {m c : Nat} {i : Int}
  (hx : Cw E x = some (.slice oa m c)) (hy : Cw E y = some (.int .i64 i)) (i' : Nat) (hi : i = i') (hg : Wants ops E g) (hdn : Nat.blt d n = true)
  (h : Bd P f n I₀ Q ops l k ((d, .pointer (some (ad.add (i' * esz)))) :: E) I L) (him : i' < m := by first | omega | exact Fm (by assumption) (by decide) | (simp; done) | (simp; omega) | decide | (simp at *; omega)) (hn : oa = some ad := by first | rfl | assumption) : Bd P f n I₀ Q ops (⟨some d, .indexAddr T x y, ty, pos, af, g⟩ :: l) k E I L := E2 (F8 hx hy i' hi him hn) hg hdn h
theorem Ago {S : World → Prop} {tys : Array TypeId} {x y : Operand} {a b : Int} (hx : Cw E x = some (.int .i64 a)) (hy : Cw E y = some (.int .i64 b)) : Iw P E S ⟨some d, .call ⟨.builtin .max, #[x, y], tys⟩, ty, pos, af, g⟩ (.int .i64 (max a b)) := fun ac w he _ => by
  simp only [execOp, resolve, List.map_toArray, List.map, he.eval hx, he.eval hy, pure_bind, invoke, builtin]
  refine Ai (a := .int .i64 (max a b)) (w' := w) ?_ |>.trans rfl
  have e : (if a < b then b else a) = max a b := by split <;> omega
  simp only [Builtin.max_, List.foldlM, Builtin.max2, GT.gt, e]
  rfl
theorem Agi {tys : Array TypeId} {x y : Operand} {a b : Int} (hx : Cw E x = some (.int .i64 a)) (hy : Cw E y = some (.int .i64 b)) (hg : Wants ops E g) (hdn : Nat.blt d n = true)
  (h : Bd P f n I₀ Q ops l k ((d, .int .i64 (max a b)) :: E) I L) : Bd P f n I₀ Q ops (⟨some d, .call ⟨.builtin .max, #[x, y], tys⟩, ty, pos, af, g⟩ :: l) k E I L :=
 E2 (Ago hx hy) hg hdn h
theorem Cb {c : Operand} {x y : Code} {b : Bool} (hc : Cw E c = some (.bool b)) (hb : b = true) (h : RunS P f n I₀ Q (.code x :: k) E I L) : RunS P f n I₀ Q (.code (.cond c x y) :: k) E I L := by
 subst hb; exact Cx hc h
theorem Dg {c : Operand} {x y : Code} {b : Bool} (hc : Cw E c = some (.bool b)) (hb : b = false) (h : RunS P f n I₀ Q (.code y :: k) E I L) : RunS P f n I₀ Q (.code (.cond c x y) :: k) E I L := by
 subst hb; exact Bl hc h
end rules

theorem N8 {P : Program} {I : Heap} {L : Bo} {T : TypeId} {a : Addr} {vs us : List Value} {o : Nat} {fs : Array Field} {s bb : Nat} {z : List Value} [ht : Ay P T (.struct fs) s bb z] (h : Still I a vs) (hc : Og o s vs = some us) :
  Gn P I L T (a.add o) (.agg us.toArray) := Kh (M1 hc).1 (h.cut hc).reads
structure FormAt (I : Heap) (t : Tree) (oa : Option Addr) (c : Nat) (oaf : Nat → Option Addr) (cf : Nat → Nat) : Prop where
 rep : Rep I t [.string (str t.atom), .slice oa t.parts.length c]
 part : ∀ i (hi : i < t.parts.length), Rep I (t.pt i) [.string (str (t.pt i).atom), .slice (oaf i) (t.pt i).parts.length (cf i)] ∧ Still I ((Wb oa).add (i * 2)) [.string (str (t.pt i).atom), .slice (oaf i) (t.pt i).parts.length (cf i)]
 nil : oa = none → t.parts.length = 0
 len : t.parts.length ≤ Ba
 alen : t.atom.length ≤ Ba
 cap : t.parts.length ≤ c
theorem FormAt.mono {I I' : Heap} (hle : HLe I I') {t : Tree} {oa : Option Addr} {c : Nat} {oaf : Nat → Option Addr} {cf : Nat → Nat} (h : FormAt I t oa c oaf cf) : FormAt I' t oa c oaf cf :=
 ⟨h.rep.mono hle, fun i hi => ⟨(h.part i hi).1.mono hle, (h.part i hi).2.mono hle⟩, h.nil, h.len, h.alen, h.cap⟩
theorem FormAt.st {I : Heap} {t : Tree} {oa : Option Addr} {c : Nat} {oaf : Nat → Option Addr} {cf : Nat → Nat} (h : FormAt I t oa c oaf cf) (i : Nat) (hi : i < t.parts.length) : Still I ((Wb oa).add (i * 2)) [.string (str (t.pt i).atom), .slice (oaf i) (t.pt i).parts.length (cf i)] := (h.part i hi).2
theorem FormAt.rp {I : Heap} {t : Tree} {oa : Option Addr} {c : Nat} {oaf : Nat → Option Addr} {cf : Nat → Nat} (h : FormAt I t oa c oaf cf) (i : Nat) (hi : i < t.parts.length) : Rep I (t.pt i) [.string (str (t.pt i).atom), .slice (oaf i) (t.pt i).parts.length (cf i)] := (h.part i hi).1
theorem Rep.at' {I : Heap} {t : Tree} {cs : List Value} (h : Rep I t cs) : ∃ oa c oaf cf, cs = [.string (str t.atom), .slice oa t.parts.length c] ∧ FormAt I t oa c oaf cf := by
 obtain ⟨oa, c, vs, rfl, hl, hs, hn, hc, ha, hp⟩ := h.open
 have key : ∀ i, ∃ p : Option Addr × Nat, ∀ hi : i < t.parts.length, Rep I (t.pt i) [.string (str (t.pt i).atom), .slice p.1 (t.pt i).parts.length p.2] ∧ Still I ((Wb oa).add (i * 2)) [.string (str (t.pt i).atom), .slice p.1 (t.pt i).parts.length p.2] := by
  intro i
  by_cases hi : i < t.parts.length
  ·obtain ⟨x, rfl, oa', c', h1, h2⟩ := Rep.at hl hs hn i hi; rw [Tree.pt_at hi]
   exact ⟨(oa', c'), fun _ => ⟨h1, h2⟩⟩
  ·exact ⟨(none, 0), fun h => absurd h hi⟩
 exact ⟨oa, c, fun i => (Classical.choose (key i)).1, fun i => (Classical.choose (key i)).2, rfl, h, fun i hi => Classical.choose_spec (key i) hi, fun e => by rw [hn e]; rfl, hp, ha, hc⟩
theorem Rep.atom_le {I : Heap} {t : Tree} {cs : List Value} (h : Rep I t cs) : t.atom.length ≤ Ba := by obtain ⟨_, _, _, _, _, _, _, _, ha, _⟩ := h.open; exact ha
theorem Nums.st {I : Heap} {oa : Option Addr} {l : List Nat} {c : Nat} (h : Nums I oa l c) (i : Nat) (hi : i < l.length) : Still I ((Wb oa).add (i * 1)) [.int .i64 (l.getD i 0 : Nat)] := by
 obtain ⟨x, rfl, hx⟩ := h.at i hi; rw [show l.getD i 0 = l[i] by simp [hi]]; exact hx
theorem Nums.nil' {I : Heap} {oa : Option Addr} {l : List Nat} {c : Nat} (h : Nums I oa l c) (e : oa = Option.none) : l.length = 0 := by rw [h.nil e]; rfl
theorem Strs.st {I : Heap} {oa : Option Addr} {l : List As} {c : Nat} (h : Strs I oa l c) (i : Nat) (hi : i < l.length) : Still I ((Wb oa).add (i * 1)) [.string (str (l.getD i []))] := by
 obtain ⟨x, rfl, hx⟩ := h.at i hi; rw [show l.getD i [] = l[i] by simp [hi]]; exact hx
theorem Strs.nil' {I : Heap} {oa : Option Addr} {l : List As} {c : Nat} (h : Strs I oa l c) (e : oa = Option.none) : l.length = 0 := by rw [h.nil e]; rfl
theorem Raw.st {I : Heap} {oa : Option Addr} {l : List As} {c : Nat} (h : Raw I oa l c) (i : Nat) (hi : i < l.length) : Still I ((Wb oa).add (i * 1)) [.string (str (l.getD i []))] := by
 obtain ⟨x, rfl, hx⟩ := h.at i hi; rw [show l.getD i [] = l[i] by simp [hi]]; exact hx
theorem Raw.nil' {I : Heap} {oa : Option Addr} {l : List As} {c : Nat} (h : Raw I oa l c) (e : oa = Option.none) : l.length = 0 := by rw [h.nil e]; rfl
set_option maxRecDepth 100000
set_option linter.unusedVariables false
set_option linter.unusedSimpArgs false

theorem Hq {I I' : Heap} {L L₀ : Bo} {v u : Value} (hle : HLe I I') (hm : ∀ w, Mem I' L w → Mem I' L₀ w) (h : v = u) : ∃ I₁ L', HLe I I₁ ∧ (∀ w, Mem I' L w → Mem I₁ L' w) ∧ E1 u I L₀ v I₁ L' :=
 ⟨I, L₀, .refl _, fun w hw => (hm w hw).le hle, h.symm, rfl, rfl⟩
theorem N4 : ∀ (a b : List Tree), Eg (a ++ b) = max (Eg a) (Eg b)
 | [], b => by simp [Eg]
 | t :: a, b => by simp only [List.cons_append, Eg, N4 a b]; omega
theorem Wx (ps : List Tree) (i : Nat) (hi : i < ps.length) : Eg (ps.take (i + 1)) = max (Eg (ps.take i)) ps[i].depth := by
 rw [List.take_succ_eq_append_getElem hi, N4]; simp [Eg]
theorem M8 : ∀ (a b : List Tree), G1 (a ++ b) = G1 a + G1 b
 | [], b => by simp [G1]
 | t :: a, b => by simp [G1, M8 a b]; omega
theorem Qh (ps : List Tree) (i : Nat) (hi : i < ps.length) : G1 (ps.take (i + 1)) = G1 (ps.take i) + ps[i].len + 1 := by
 rw [List.take_succ_eq_append_getElem hi, M8]; simp [G1]; omega
theorem Zz (ps : List Tree) (i : Nat) : G1 (ps.take i) ≤ G1 ps := by
 have h := M8 (ps.take i) (ps.drop i)
 rw [List.take_append_drop] at h
 omega
theorem Tree.len_eq (t : Tree) (h : t.parts ≠ []) : t.len = 1 + G1 t.parts := by
 cases t with
 | node a ps => cases ps with
  | nil => exact absurd rfl h
  | cons p ps => rfl
theorem Tree.len_atom (t : Tree) (h : t.parts = []) : t.len = t.atom.length := by
 cases t with
 | node a ps => simp [Tree.parts] at h; subst h; rfl
theorem Tree.depth_eq (t : Tree) (h : t.parts ≠ []) : t.depth = Eg t.parts + 1 := by
 cases t with
 | node a ps => cases ps with
  | nil => exact absurd rfl h
  | cons p ps => rfl
theorem Tree.depth_atom (t : Tree) (h : t.parts = []) : t.depth = 0 := by
 cases t with
 | node a ps => simp [Tree.parts] at h; subst h; rfl
theorem Tree.pt_len (t : Tree) (i : Nat) (hi : i < t.parts.length) : (t.pt i).len + 2 ≤ t.len := by
 rw [Tree.pt_at hi]
 have h1 := Zz t.parts (i + 1)
 rw [Qh _ _ hi] at h1
 have h2 := t.len_eq (by intro e; rw [e] at hi; simp at hi)
 omega
mutual
theorem Tree.depth_len : ∀ t : Tree, t.depth ≤ t.len
 | .node a [] => Nat.zero_le _
 | .node a (p :: ps) => by have := Sc (p :: ps); simp only [Tree.depth, Tree.len, List.isEmpty_cons, cond_false]; omega
theorem Sc : ∀ ts : List Tree, Eg ts ≤ G1 ts
 | [] => Nat.le_refl _
 | t :: ts => by have := t.depth_len; have := Sc ts; simp only [Eg, G1]; omega
end
mutual
theorem Tree.size_len : ∀ t : Tree, t.size ≤ t.len + 1
 | .node a [] => by simp [Tree.size]
 | .node a (p :: ps) => by have := U3 (p :: ps); simp only [Tree.size, Tree.len, List.isEmpty_cons, cond_false]; omega
theorem U3 : ∀ ts : List Tree, Ez ts ≤ G1 ts
 | [] => Nat.le_refl _
 | t :: ts => by have := t.size_len; have := U3 ts; simp only [Ez, G1]; omega
end

theorem Vs : ∀ (n : Nat) {I : Heap} {t : Tree} {cs : List Value} (_ : SizeOf.sizeOf t < n) (_ : Rep I t cs) (_ : t.len ≤ Ba) (L : Bo),
  Fun Tryz.prog 180 [.agg cs.toArray] I L (E1 (.int .i64 (t.depth : Nat)) I L) := by
 intro n
 induction n with
 | zero => intro I t cs h; omega
 | succ n ihn =>
  intro I t cs hlt h hz L
  unfold Ba at hz
  have hdl := t.depth_len
  obtain ⟨oa, c, oaf, cf, rfl, hf⟩ := h.at'
  have hp := hf.len
  unfold Ba at hp
  refine Ao Af ?_; refine Se rfl ?_; refine Cn rfl rfl .free rfl ?_; intro b1; refine Oa rfl (Ab (Ah (Se rfl ?_))); refine A2 rfl .free rfl ?_; refine Ca rfl (Co h _) ?_; rintro _ _ _ _ ⟨rfl, rfl, rfl⟩; refine Ab ?_; refine A0 rfl ?_ ?_
  ·intro c0
   try simp only [nb] at c0
   refine Se rfl (Oa rfl (Ab (Al (.tmp rfl .nil) ?_))); refine only rfl ?_; rw [t.depth_atom Fv]; rfl
  intro c0
  try simp only [nb] at c0
  have hne : t.parts ≠ [] := by simpa using c0
  have hsz := t.depth_eq hne
  refine Ak (Se rfl (Oa rfl (Ab (Ah (Se rfl (Oh rfl ?_)))))); refine Bz rfl .free rfl ?_; refine On rfl (Om rfl (Ab (Aq ?_))); refine C7 (X := Nat) (fun i => t.parts.length - i) (fun i => [(3, .int .i64 ((Eg (t.parts.take i) : Nat))), (9, .slice oa t.parts.length c), (10, .int .i64 (t.parts.length : Nat)), (11, .int .i64 (i : Nat))]) (fun _ => I) (fun _ => L) (fun i => i ≤ t.parts.length) 0 Aa ⟨rfl, rfl, rfl, rfl, trivial⟩ Bk ?_; rintro i hi ih; refine Se rfl (Oc rfl rfl rfl (Ab (Ah ?_))); refine A0 rfl ?_ ?_
  ·intro c1
   try simp only [nb] at c1
   refine Ak (Ah (Aq (Se rfl ?_)))
   first | refine Bx rfl rfl _ rfl .free rfl ?_ | refine By rfl rfl _ rfl .free rfl ?_
   refine Fy rfl .free rfl ?_; refine Aw .free rfl ?_; intro b5; refine Bu rfl rfl rfl rfl .free ?_; refine Ab (Am rfl (Om rfl ?_)); refine A2 rfl .free rfl ?_; refine Ca rfl (ihn (t := t.pt i) (by have := t.pt_lt i Aa; omega) (hf.rp i Aa) (by have := t.pt_len i Aa; unfold Ba; omega) _) ?_; rintro _ _ _ _ ⟨rfl, rfl, rfl⟩; refine Agi rfl rfl .free rfl ?_; refine Oa rfl (Ab (Ar (Am rfl ?_))); refine Or rfl rfl rfl ?_; refine Om rfl (Ab ?_)
   refine Cs Bk (Dy (E' := [(3, .int .i64 ((Eg (t.parts.take (i + 1)) : Nat))), (9, .slice oa t.parts.length c), (10, .int .i64 (t.parts.length : Nat)), (11, .int .i64 ((i + 1 : Nat)))]) ⟨?_, rfl, rfl, rfl, trivial⟩ (ih (i + 1) Aa Aa)); rw [Wx _ _ Aa, ← Tree.pt_at Aa]; refine congrArg (fun z => some (Value.int .i64 z)) ?_; omega
  intro c1
  try simp only [nb] at c1
  obtain rfl : i = t.parts.length := by omega
  simp only [List.take_length]
  refine Ce rfl ?_; refine Se rfl (Om rfl ?_); refine Or rfl rfl rfl ?_; refine Oa rfl (Ab (Al (.tmp rfl .nil) ?_)); refine only rfl ?_; rw [hsz]; rfl
theorem Tx : ∀ (n : Nat) {I : Heap} {t : Tree} {cs : List Value} (_ : SizeOf.sizeOf t < n) (_ : Rep I t cs) (_ : t.len ≤ Ba) (L : Bo),
  Fun Tryz.prog 181 [.agg cs.toArray] I L (E1 (.int .i64 (t.len : Nat)) I L) := by
 intro n
 induction n with
 | zero => intro I t cs h; omega
 | succ n ihn =>
  intro I t cs hlt h hz L
  unfold Ba at hz
  obtain ⟨oa, c, oaf, cf, rfl, hf⟩ := h.at'
  have hp := hf.len
  unfold Ba at hp
  refine Ao Af ?_; refine Se rfl ?_; refine Cn rfl rfl .free rfl ?_; intro b1; refine Oa rfl (Ab (Ah (Se rfl ?_))); refine A2 rfl .free rfl ?_; refine Ca rfl (Co h _) ?_; rintro _ _ _ _ ⟨rfl, rfl, rfl⟩; refine Ab ?_; refine A0 rfl ?_ ?_
  ·intro c0
   try simp only [nb] at c0
   refine Se rfl (Oh rfl ?_); refine Bz rfl .free rfl ?_; refine Dv rfl .free rfl ?_; refine Oa rfl (Ab (Al (.tmp rfl .nil) ?_)); refine only rfl ?_; rw [t.len_atom Fv]; rfl
  intro c0
  try simp only [nb] at c0
  have hne : t.parts ≠ [] := by simpa using c0
  have hsz := t.len_eq hne
  refine Ak (Se rfl (Oa rfl (Ab (Ah (Se rfl (Oh rfl ?_)))))); refine Bz rfl .free rfl ?_; refine On rfl (Om rfl (Ab (Aq ?_))); refine C7 (X := Nat) (fun i => t.parts.length - i) (fun i => [(3, .int .i64 ((1 + G1 (t.parts.take i) : Nat))), (12, .slice oa t.parts.length c), (13, .int .i64 (t.parts.length : Nat)), (14, .int .i64 (i : Nat))]) (fun _ => I) (fun _ => L) (fun i => i ≤ t.parts.length) 0 Aa ⟨rfl, rfl, rfl, rfl, trivial⟩ Bk ?_; rintro i hi ih; refine Se rfl (Oc rfl rfl rfl (Ab (Ah ?_))); refine A0 rfl ?_ ?_
  ·intro c1
   try simp only [nb] at c1
   have hll := Zz t.parts (i + 1)
   rw [Qh _ _ Aa, ← Tree.pt_at Aa] at hll; refine Ak (Ah (Aq (Se rfl ?_)))
   first | refine Bx rfl rfl _ rfl .free rfl ?_ | refine By rfl rfl _ rfl .free rfl ?_
   refine Fy rfl .free rfl ?_; refine Aw .free rfl ?_; intro b5; refine Bu rfl rfl rfl rfl .free ?_; refine Ab (Am rfl (Om rfl ?_)); refine A2 rfl .free rfl ?_; refine Ca rfl (ihn (t := t.pt i) (by have := t.pt_lt i Aa; omega) (hf.rp i Aa) (by have := t.pt_len i Aa; unfold Ba; omega) _) ?_; rintro _ _ _ _ ⟨rfl, rfl, rfl⟩; refine Or rfl rfl rfl ?_; refine Or rfl rfl rfl ?_; refine Oa rfl (Ab (Ar (Am rfl ?_))); refine Or rfl rfl rfl ?_; refine Om rfl (Ab ?_)
   refine Cs Bk (Dy (E' := [(3, .int .i64 ((1 + G1 (t.parts.take (i + 1)) : Nat))), (12, .slice oa t.parts.length c), (13, .int .i64 (t.parts.length : Nat)), (14, .int .i64 ((i + 1 : Nat)))]) ⟨?_, rfl, rfl, rfl, trivial⟩ (ih (i + 1) Aa Aa)); rw [Qh _ _ Aa, ← Tree.pt_at Aa]; refine congrArg (fun z => some (Value.int .i64 z)) ?_; omega
  intro c1
  try simp only [nb] at c1
  obtain rfl : i = t.parts.length := by omega
  simp only [List.take_length]
  refine Ce rfl ?_; refine Se rfl (Om rfl (Oa rfl (Ab (Al (.tmp rfl .nil) ?_)))); refine only rfl ?_; rw [hsz]; rfl
theorem W3 {I : Heap} {t : Tree} {cs : List Value} (h : Rep I t cs) (hz : t.len ≤ Ba) (L : Bo) : Fun Tryz.prog 140 [.agg cs.toArray] I L (E1 (.bool t.fits) I L) := by
 obtain ⟨oa, c, oaf, cf, rfl, hf⟩ := h.at'; refine Ao Af ?_; refine Se rfl ?_; refine Cn rfl rfl .free rfl ?_; intro b1; refine Oa rfl (Ab (Se rfl ?_)); refine A2 rfl .free rfl ?_; refine Ca rfl (Vs _ (Nat.lt_succ_self _) h hz _) ?_; rintro _ _ _ _ ⟨rfl, rfl, rfl⟩; refine Oc rfl rfl rfl (Om rfl ?_)
 apply Ep 6 10 rfl
 ·intro g1_4 hk
  try simp only [nb] at g1_4
  refine A2 rfl (.met rfl rfl) rfl ?_; refine Cq rfl (.met rfl rfl) rfl (Tx _ (Nat.lt_succ_self _) h hz _) ?_; rintro _ _ _ _ ⟨rfl, rfl, rfl⟩; refine D0 rfl rfl rfl (.met rfl rfl) rfl ?_; refine Ot rfl rfl ?_
  exact A7 3 rfl rfl hk
 ·intro _ hk; refine Bj 3 rfl ?_; refine Of rfl rfl ?_
  exact A7 3 rfl rfl hk
 refine Oa rfl (Ab (Al (.tmp rfl .nil) ?_)); refine only rfl ?_; refine congrArg Value.bool ?_; rw [Bool.eq_iff_iff]; simp [Tree.fits]; omega
theorem N6 {I : Heap} {t : Tree} {cs : List Value} (h : Rep I t cs) (L : Bo) : Fun Tryz.prog 174 [.agg cs.toArray] I L (E1 (.bool (t.parts.isEmpty && (B0 t.atom || C4 t.atom))) I L) := by
 obtain ⟨oa, c, oaf, cf, rfl, hf⟩ := h.at'
 have ha := hf.alen
 refine Ao Af ?_; refine Se rfl ?_; refine Cn rfl rfl .free rfl ?_; intro b1; refine Oa rfl (Ab (Se rfl ?_)); refine A2 rfl .free rfl ?_; refine Ca rfl (Co h _) ?_; rintro _ _ _ _ ⟨rfl, rfl, rfl⟩; refine Om rfl ?_
 apply Ep 5 14 rfl
 ·intro g1_3 hk
  try simp only [nb] at g1_3
  refine Cf rfl (.met rfl rfl) rfl ?_; refine Bz rfl (.met rfl rfl) rfl ?_; refine Cq rfl (.met rfl rfl) rfl (Kn t.atom ha _ _) ?_; rintro _ _ _ _ ⟨rfl, rfl, rfl⟩; refine Ow rfl ?_
  apply G5 9 13 rfl
  ·intro g1_7 hk
   try simp only [nb] at g1_7
   refine Cf rfl (.met rfl rfl) rfl ?_; refine Bz rfl (.met rfl rfl) rfl ?_; refine Cq rfl (.met rfl rfl) rfl (W5 t.atom ha _ _) ?_; rintro _ _ _ _ ⟨rfl, rfl, rfl⟩; refine Du rfl rfl (.met rfl rfl) rfl ?_
   exact A7 3 rfl rfl hk
  ·intro _ hk; refine Bj 3 rfl ?_; refine Ee rfl rfl (.met rfl rfl) rfl ?_
   exact A7 3 rfl rfl hk
  refine Ot rfl rfl ?_
  exact A7 5 rfl rfl hk
 ·intro _ hk; refine Bj 8 rfl ?_; refine Of rfl rfl ?_
  exact A7 8 rfl rfl hk
 refine Oa rfl (Ab (Al (.tmp rfl .nil) ?_)); refine only rfl ?_
 simp [Ck, *]
end Go.Proofs.YtmfagaajiakgoaaGreatDoor
