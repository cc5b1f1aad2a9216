/- Numbers in decimals. No conditions. -/
import Derived.Test.YtdgpnibnogdllaaGreatDoorG10
namespace Go.Proofs.YtdgpnibnogdllaaGreatDoor
set_option maxRecDepth 100000
set_option linter.unusedVariables false
set_option linter.unusedSimpArgs false

/-- A number in decimals. -/
def decT (n : Nat) : Txt := if n < 10 then [UInt8.ofNat (48 + n)] else decT (n / 10) ++ [UInt8.ofNat (48 + n % 10)]
theorem decT_small {n : Nat} (h : n < 10) : decT n = [UInt8.ofNat (48 + n)] := by rw [decT, if_pos h]
theorem decT_big {n : Nat} (h : ¬ n < 10) : decT n = decT (n / 10) ++ [UInt8.ofNat (48 + n % 10)] := by rw [decT, if_neg h]
end Go.Proofs.YtdgpnibnogdllaaGreatDoor


/- Types as they are drawn. No conditions. -/
namespace Go.Proofs.YtdgpnibnogdllaaGreatDoor
set_option maxRecDepth 100000
set_option linter.unusedVariables false
set_option linter.unusedSimpArgs false

def kT : Nat → Nat
 | 0 => 0
 | d + 1 => 2 + 2 * kT d
def bT : Nat → Nat
 | 0 => 1
 | d + 1 => 5 + 2 * bT d
end Go.Proofs.YtdgpnibnogdllaaGreatDoor


/- More rules: a number as a byte, bytes as a text. No conditions. -/
namespace Go.Proofs.YtdgpnibnogdllaaGreatDoor
set_option linter.unusedVariables false
set_option linter.unusedSimpArgs false

section rules
variable {P : Program} {f : FuncId} {n : Nat} {I₀ : Heap} {Q : Post} {k : List Item} {E : Env} {I : Heap} {L : Own}
variable {ops : Array Oper} {d : Nat} {ty : TypeId} {pos : String} {af : Array Edge} {g : Option (Nat × Bool)} {l : List Oper}
theorem wrap_u8 {m : Int} (h : 0 ≤ m ∧ m < 256) : IntKind.u8.wrap m = m := by
 simp [IntKind.wrap, IntKind.bits, IntKind.signed]; omega
/-- A number as a byte. -/
theorem y_intByte {S : World → Prop} {src dst sz bb sz2 bb2 : Nat} {z z2 : List Value} [hs : TyIs P src (.int .i64) sz bb z] [hd : TyIs P dst (.int .u8) sz2 bb2 z2] {x : Operand} {a : Nat} (hx : opd E x = some (.int .i64 (a : Nat))) (ha : a < 256) :
  Yld P E S ⟨some d, .convert src dst x, ty, pos, af, g⟩ (.int .u8 (a : Nat)) := fun ac w he _ => by
 simp only [execOp, he.eval hx]
 refine run_bind_ok (a := .int .u8 (a : Nat)) (w' := w) ?_ |>.trans rfl
 unfold convert
 rw [run_bind_ok (run_underlying hs.und w), run_bind_ok (run_underlying hd.und w)]
 simp only [Conv.intToInt]
 rw [wrap_u8 (by omega)]
 rfl
theorem o_intByte {src dst sz bb sz2 bb2 : Nat} {z z2 : List Value} [hs : TyIs P src (.int .i64) sz bb z] [hd : TyIs P dst (.int .u8) sz2 bb2 z2] {x : Operand} {a : Nat} (hx : opd E x = some (.int .i64 (a : Nat))) (ha : a < 256) (hg : Wants ops E g) (hdn : Nat.blt d n = true)
  (h : RunO P f n I₀ Q ops l k ((d, .int .u8 (a : Nat)) :: E) I L) : RunO P f n I₀ Q ops (⟨some d, .convert src dst x, ty, pos, af, g⟩ :: l) k E I L := o_yld (y_intByte hx ha) hg hdn h
/-- One byte as a text. -/
theorem y_byteStr {src dst e sz bb sz2 bb2 sz3 bb3 : Nat} {z z2 z3 : List Value} [hs : TyIs P src (.slice e) sz bb z] [he : TyIs P e (.int .u8) sz3 bb3 z3] [hd : TyIs P dst .string sz2 bb2 z2] {x : Operand} {ad : Addr} {c a : Nat} (hx : opd E x = some (.slice (some ad) 1 c)) (hr : Reads I L ad [.int .u8 (a : Nat)]) :
  Yld P E (Mem I L) ⟨some d, .convert src dst x, ty, pos, af, g⟩ (.string (str [UInt8.ofNat a])) := fun ac w he' hm => by
 simp only [execOp, he'.eval hx]
 refine run_bind_ok (a := .string (str [UInt8.ofNat a])) (w' := w) ?_ |>.trans rfl
 unfold convert
 rw [run_bind_ok (run_underlying hs.und w), run_bind_ok (run_underlying hd.und w)]
 simp only []
 rw [run_bind_ok (run_underlying he.und w)]
 simp only [Conv.bytesToString]
 have hl : (loadCells ad 1).run P w = .ok [Value.int .u8 (a : Nat)].toArray w := run_loadCells [.int .u8 (a : Nat)] (hr w hm)
 rw [run_bind_ok hl]
 rfl
end rules
end Go.Proofs.YtdgpnibnogdllaaGreatDoor


/- Numbers in decimals, by the reference; scopes of drawn expressions. No conditions. -/
namespace Go.Proofs.YtdgpnibnogdllaaGreatDoor
set_option maxRecDepth 100000
set_option linter.unusedVariables false
set_option linter.unusedSimpArgs false

theorem decT_le {n : Nat} (h : n ≤ 1000000000) : (decT n).length ≤ 12 := by
 have key : ∀ (k m : Nat), m < 10 ^ (k + 1) → (decT m).length ≤ k + 1 := by
  intro k
  induction k with
  | zero => intro m hm; rw [decT_small (by omega)]; simp
  | succ k ih =>
   intro m hm
   by_cases h1 : m < 10
   ·rw [decT_small h1]; simp
   ·rw [decT_big h1, List.length_append]
    have := ih (m / 10) (by rw [Nat.pow_succ] at hm; omega)
    simp only [List.length_cons, List.length_nil]; omega
 exact Nat.le_trans (key 10 n (by omega)) (by decide)
theorem g_l6Dec : ∀ (k n : Nat) (_ : n < k) (_ : n ≤ 1000000000) (I : Heap) (L : Own), Fun Tryz.prog 77 [.int .i64 (n : Nat)] I L (Only (.string (str (decT n))) I L) := by
 intro k
 induction k with
 | zero => intro n h; omega
 | succ k ihk =>
  intro n hlt hn I L
  refine fun_intro (by simp) ?_
  refine Se rfl ?_
  refine Oa rfl ?_
  refine o_done ?_
  refine s_seq ?_
  refine Se rfl ?_
  refine Om rfl ?_
  refine o_cmp rfl rfl rfl .free rfl ?_
  refine o_done ?_
  first | refine s_fp rfl (by omega) ?_ | refine s_fn rfl (by omega) ?_ | refine s_false (by simp [look, opd, *]) ?_
  refine s_skip ?_
  refine s_seq ?_
  refine Se rfl ?_
  refine Om rfl ?_
  refine o_cmp rfl rfl rfl .free rfl ?_
  refine o_done ?_
  first | refine s_fp rfl (by omega) ?_ | refine s_fn rfl (by omega) ?_ | refine s_false (by simp [look, opd, *]) ?_
  refine s_skip ?_
  refine s_seq ?_
  refine Se rfl ?_
  refine Om rfl ?_
  refine o_cmp rfl rfl rfl .free rfl ?_
  refine o_done ?_
  refine s_cond rfl ?_ ?_
  ·intro c2
   try simp only [nb] at c2
   refine s_seq ?_
   have h10 : n < 10 := by omega
   refine o_enter rfl ?_
   refine Om rfl ?_
   refine o_arith rfl rfl rfl (by omega) .free rfl ?_
   refine o_put (t := 14) (v' := .int .i64 ((48 + n : Nat))) rfl (by congr 1) ?_
   refine o_intByte rfl (by omega) .free rfl ?_
   refine o_lits rfl rfl (by rfl) (by rfl) (by rfl) (by decide) (by decide) (by rfl) .free rfl ?_
   intro b16
   refine o_yld (y_byteStr rfl (reads_ownL (by first | exact m0 | exact m1 | exact m2 | exact m3 | exact m4 | exact m5 | exact m6 | exact List.mem_append_right _ m0 | exact List.mem_append_right _ m1 | exact List.mem_append_right _ m2 | exact List.mem_append_right _ m3 | exact .tail _ (List.mem_append_right _ m0) | exact .tail _ (List.mem_append_right _ m1) | exact .tail _ (List.mem_append_right _ m2) | exact .tail _ (List.mem_append_right _ m3)) (by rfl))) .free rfl ?_
   refine Oa rfl ?_
   refine o_done ?_
   refine s_ret (.tmp rfl .nil) ?_
   refine only rfl ?_
   rw [decT_small h10]; rfl
  intro c2
  try simp only [nb] at c2
  refine s_skip ?_
  refine s_seq ?_
  have h10 : ¬ n < 10 := by omega
  obtain ⟨q, hq, hq2⟩ : ∃ q, q = n / 10 ∧ q < n := ⟨_, rfl, by omega⟩
  obtain ⟨r, hr, hr2⟩ : ∃ r, r = n % 10 ∧ r < 10 := ⟨_, rfl, Nat.mod_lt _ (by omega)⟩
  have hdl := decT_le (n := q) (by omega)
  refine d_all 11 rfl rfl ?_
  refine Da 0 rfl (y_move rfl) ?_
  refine Da 1 rfl (y_quo (b := 10) rfl rfl (by omega) (by omega)) ?_
  refine d_put (t := 19) (v' := .int .i64 (q : Nat)) rfl (by rw [hq]) ?_
  refine Da 3 rfl (y_move rfl) ?_
  refine Da 4 rfl (y_rem (b := 10) rfl rfl (by omega)) ?_
  refine d_put (t := 22) (v' := .int .i64 (r : Nat)) rfl (by rw [hr]) ?_
  refine Da 5 rfl (y_arith rfl rfl rfl (by omega)) ?_
  refine d_put (t := 23) (v' := .int .i64 ((48 + r : Nat))) rfl (by congr 1) ?_
  refine Da 6 rfl (y_intByte rfl (by omega)) ?_
  refine d_two 2 7 (by kernel_rfl) ?_ ?_
  ·skip
   refine i_call 2 rfl rfl rfl .free rfl (ihk q (by omega) (by omega) _ _) ?_
   rintro _ _ _ _ ⟨rfl, rfl, rfl⟩
   refine ⟨(.inr heldx), ?_⟩
   refine d_lits 7 rfl (by kernel_rfl) rfl rfl rfl (by rfl) (by rfl) (by rfl) (by decide) (by decide) (by rfl) .free rfl (.inr heldx) ?_
   intro b25
   refine d_yld 8 rfl (by kernel_rfl) rfl (y_byteStr rfl (reads_ownL (by first | exact m0 | exact m1 | exact m2 | exact m3 | exact m4 | exact m5 | exact m6 | exact List.mem_append_right _ m0 | exact List.mem_append_right _ m1 | exact List.mem_append_right _ m2 | exact List.mem_append_right _ m3 | exact .tail _ (List.mem_append_right _ m0) | exact .tail _ (List.mem_append_right _ m1) | exact .tail _ (List.mem_append_right _ m2) | exact .tail _ (List.mem_append_right _ m3)) (by rfl))) .free rfl (.inr heldx) ?_
   refine d_takeA 9 rfl (by kernel_rfl) rfl (.inr heldx) (y_concat rfl rfl (by first | omega | (simp only [List.length_append, List.length_cons, List.length_nil]; omega) | (simp; omega))) .free rfl ?_
   refine Da 10 rfl (y_assign rfl) ?_
   refine d_done (by kernel_rfl) ?_
   refine s_ret (.tmp rfl .nil) ?_
   refine only rfl ?_
   rw [decT_big h10, ← hq, ← hr]; rfl
  ·skip
   refine i_lits 7 rfl rfl rfl rfl (by rfl) (by rfl) (by rfl) (by decide) (by decide) (by rfl) .free rfl (.inr heldx) ?_
   intro b25
   refine d_two 2 8 (by kernel_rfl) ?_ ?_
   ·skip
    refine i_call 2 rfl rfl rfl .free rfl (ihk q (by omega) (by omega) _ _) ?_
    rintro _ _ _ _ ⟨rfl, rfl, rfl⟩
    refine ⟨(.inr heldx), ?_⟩
    refine d_yld 8 rfl (by kernel_rfl) rfl (y_byteStr rfl (reads_ownL (by first | exact m0 | exact m1 | exact m2 | exact m3 | exact m4 | exact m5 | exact m6 | exact List.mem_append_right _ m0 | exact List.mem_append_right _ m1 | exact List.mem_append_right _ m2 | exact List.mem_append_right _ m3 | exact .tail _ (List.mem_append_right _ m0) | exact .tail _ (List.mem_append_right _ m1) | exact .tail _ (List.mem_append_right _ m2) | exact .tail _ (List.mem_append_right _ m3)) (by rfl))) .free rfl (.inr heldx) ?_
    refine d_takeA 9 rfl (by kernel_rfl) rfl (.inr heldx) (y_concat rfl rfl (by first | omega | (simp only [List.length_append, List.length_cons, List.length_nil]; omega) | (simp; omega))) .free rfl ?_
    refine Da 10 rfl (y_assign rfl) ?_
    refine d_done (by kernel_rfl) ?_
    refine s_ret (.tmp rfl .nil) ?_
    refine only rfl ?_
    rw [decT_big h10, ← hq, ← hr]; rfl
   ·skip
    refine i_yld 8 rfl rfl (y_byteStr rfl (reads_ownL (by first | exact m0 | exact m1 | exact m2 | exact m3 | exact m4 | exact m5 | exact m6 | exact List.mem_append_right _ m0 | exact List.mem_append_right _ m1 | exact List.mem_append_right _ m2 | exact List.mem_append_right _ m3 | exact .tail _ (List.mem_append_right _ m0) | exact .tail _ (List.mem_append_right _ m1) | exact .tail _ (List.mem_append_right _ m2) | exact .tail _ (List.mem_append_right _ m3)) (by rfl))) .free rfl (.inr heldx) ?_
    refine d_call 2 rfl (by kernel_rfl) rfl rfl .free rfl (ihk q (by omega) (by omega) _ _) ?_
    rintro _ _ _ _ ⟨rfl, rfl, rfl⟩
    refine ⟨(.inr heldx), ?_⟩
    refine d_takeA 9 rfl (by kernel_rfl) rfl (.inr heldx) (y_concat rfl rfl (by first | omega | (simp only [List.length_append, List.length_cons, List.length_nil]; omega) | (simp; omega))) .free rfl ?_
    refine Da 10 rfl (y_assign rfl) ?_
    refine d_done (by kernel_rfl) ?_
    refine s_ret (.tmp rfl .nil) ?_
    refine only rfl ?_
    rw [decT_big h10, ← hq, ← hr]; rfl
end Go.Proofs.YtdgpnibnogdllaaGreatDoor


/- Parts of expressions are expressions; what is counted and put. No conditions. -/
namespace Go.Proofs.YtdgpnibnogdllaaGreatDoor
set_option maxRecDepth 100000
set_option linter.unusedVariables false
set_option linter.unusedSimpArgs false

/-- How many expressions an expression and its parts are. -/
def Ex.many : Ex → Nat
 | .num _ => 1
 | .name _ => 1
 | .bin _ a b => 1 + a.many + b.many
 | .ite a b c => 1 + a.many + b.many + c.many
 | .lt _ a b => 1 + a.many + b.many
 | .fn _ _ _ _ b => 1 + b.many
 | .un _ a => 1 + a.many
/-- What an expression begins with. -/
def Ex.hd : Ex → Txt
 | .num _ => [110, 117, 109, 98, 101, 114]
 | .name _ => [110, 97, 109, 101]
 | e => e.tree.head
def headOf (s : Txt) : Txt := match exOf s with
 | some e => e.hd
 | none => []
def kidsOf (s : Txt) : Option (List Txt) := (exOf s).map fun e => e.sub.map fun a => a.tree.text
def manyOf (s : Txt) : Int := match exOf s with
 | some e => (e.many : Nat)
 | none => -1
def sizeOfT (s : Txt) : Int := match parse s with
 | some t => (t.size : Nat)
 | none => -1
end Go.Proofs.YtdgpnibnogdllaaGreatDoor


/- Plain names. No conditions. -/
namespace Go.Proofs.YtdgpnibnogdllaaGreatDoor
set_option maxRecDepth 100000
set_option linter.unusedVariables false
set_option linter.unusedSimpArgs false

/-- The number of decimals. -/
def numT (s : Txt) : Nat := s.foldl (fun a c => 10 * a + (c.toNat - 48)) 0
theorem numT_app (s : Txt) (c : UInt8) : numT (s ++ [c]) = 10 * numT s + (c.toNat - 48) := by simp [numT]
theorem digit_val {d : Nat} (h : d < 10) : (UInt8.ofNat (48 + d)).toNat - 48 = d := by
 have : (UInt8.ofNat (48 + d)).toNat = 48 + d := by simp [UInt8.toNat_ofNat]; omega
 omega
theorem numT_decT : ∀ n : Nat, numT (decT n) = n := by
 intro n
 induction n using Nat.strongRecOn with
 | _ n ih =>
  by_cases h : n < 10
  ·rw [decT_small h]
   show 10 * 0 + ((UInt8.ofNat (48 + n)).toNat - 48) = n
   rw [digit_val h]; omega
  ·rw [decT_big h, numT_app, ih (n / 10) (by omega), digit_val (Nat.mod_lt _ (by omega))]
   omega
theorem decT_inj {a b : Nat} (h : decT a = decT b) : a = b := by
 have := congrArg numT h
 rwa [numT_decT, numT_decT] at this
def nm (c : UInt8) (n : Nat) : Txt := c :: decT n
theorem nm_inj {c : UInt8} {a b : Nat} (h : nm c a = nm c b) : a = b := decT_inj (List.cons.inj h).2
/-- How many of the first 'n' names are barred. -/
def hits (c : UInt8) (av : List Txt) (n : Nat) : Nat := ((List.range n).filter fun k => decide (nm c k ∈ av)).length
theorem hits_succ (c : UInt8) (av : List Txt) (n : Nat) : hits c av (n + 1) = hits c av n + (if nm c n ∈ av then 1 else 0) := by
 unfold hits
 rw [List.range_succ, List.filter_append]
 by_cases h : nm c n ∈ av <;> simp [h]
theorem sub_length : ∀ {l m : List Txt}, l.Nodup → (∀ x ∈ l, x ∈ m) → l.length ≤ m.length
 | [], m, _, _ => Nat.zero_le _
 | x :: l, m, hn, hs => by
  obtain ⟨h1, h2⟩ := List.nodup_cons.1 hn
  have hx := hs x (.head _)
  have := sub_length (l := l) (m := m.erase x) h2 fun y hy => by
   have hne : y ≠ x := by rintro rfl; exact h1 hy
   exact (List.mem_erase_of_ne hne).2 (hs y (.tail _ hy))
  rw [List.length_erase_of_mem hx] at this
  have := List.length_pos_of_mem hx
  simp only [List.length_cons]; omega
theorem hits_le (c : UInt8) (av : List Txt) (n : Nat) : hits c av n ≤ av.length := by
 unfold hits
 rw [← List.length_map (f := nm c)]
 refine sub_length ?_ ?_
 ·have h1 : ((List.range n).filter fun k => decide (nm c k ∈ av)).Nodup := List.nodup_range.filter _
  unfold List.Nodup at h1 ⊢
  rw [List.pairwise_map]
  exact h1.imp fun h e => h (nm_inj e)
 ·intro x hx
  obtain ⟨k, hk, rfl⟩ := List.mem_map.1 hx
  simpa using (List.mem_filter.1 hk).2
/-- The next number whose name is not barred. -/
def frs (c : UInt8) (av : List Txt) : Nat → Nat → Nat
 | 0, n => n
 | k + 1, n => if nm c n ∈ av then frs c av k (n + 1) else n
theorem frs_hits {c : UInt8} {av : List Txt} : ∀ {k n : Nat}, av.length ≤ hits c av n + k → nm c (frs c av k n) ∉ av ∧ n ≤ frs c av k n ∧ frs c av k n + hits c av n = n + hits c av (frs c av k n)
 | 0, n, h => by
  have h1 := hits_le c av (n + 1)
  rw [hits_succ] at h1
  refine ⟨fun hm => ?_, Nat.le_refl _, rfl⟩
  simp only [frs] at hm
  rw [if_pos hm] at h1; omega
 | k + 1, n, h => by
  simp only [frs]
  by_cases hm : nm c n ∈ av
  ·rw [if_pos hm]
   have h2 := hits_succ c av n
   rw [if_pos hm] at h2
   obtain ⟨h3, h4, h5⟩ := frs_hits (c := c) (av := av) (k := k) (n := n + 1) (by omega)
   exact ⟨h3, by omega, by omega⟩
  ·rw [if_neg hm]; exact ⟨hm, Nat.le_refl _, rfl⟩
def fr (c : UInt8) (av : List Txt) (n : Nat) : Nat := frs c av av.length n
theorem fr_facts (c : UInt8) (av : List Txt) (n : Nat) : nm c (fr c av n) ∉ av ∧ n ≤ fr c av n ∧ fr c av n + hits c av n = n + hits c av (fr c av n) := frs_hits (by omega)
theorem fr_hits_succ (c : UInt8) (av : List Txt) (n : Nat) : fr c av n + 1 + hits c av n = n + 1 + hits c av (fr c av n + 1) := by
 obtain ⟨h1, h2, h3⟩ := fr_facts c av n
 have := hits_succ c av (fr c av n)
 rw [if_neg h1] at this; omega
theorem frs_stop {c : UInt8} {av : List Txt} : ∀ {k n m : Nat}, (∀ j, n ≤ j → j < m → nm c j ∈ av) → n ≤ m → m ≤ n + k → nm c m ∉ av → frs c av k n = m
 | 0, n, m, _, h1, h2, _ => by simp only [frs]; omega
 | k + 1, n, m, h, h1, h2, h3 => by
  simp only [frs]
  by_cases hm : nm c n ∈ av
  ·rw [if_pos hm]
   have : n ≠ m := by rintro rfl; exact h3 hm
   exact frs_stop (fun j a b => h j (by omega) b) (by omega) (by omega) h3
  ·rw [if_neg hm]
   by_cases he : n = m
   ·exact he
   ·exact absurd (h n (Nat.le_refl _) (by omega)) hm
theorem fr_stop {c : UInt8} {av : List Txt} {n m : Nat} (h : ∀ j, n ≤ j → j < m → nm c j ∈ av) (h1 : n ≤ m) (h3 : nm c m ∉ av) : fr c av n = m := by
 obtain ⟨g1, g2, g3⟩ := fr_facts c av n
 by_cases hlt : fr c av n < m
 ·exact absurd (h _ g2 hlt) g1
 ·have hmm : m ≤ fr c av n := by omega
  have key : ∀ d, hits c av (n + d) ≤ hits c av n + d := by
   intro d
   induction d with
   | zero => exact Nat.le_refl _
   | succ d ih => rw [← Nat.add_assoc, hits_succ]; split <;> omega
  have h5 : m ≤ n + av.length := by
   have e1 : ∀ d, n + d ≤ m → hits c av (n + d) = hits c av n + d := by
    intro d hd
    induction d with
    | zero => rfl
    | succ d ih =>
     rw [← Nat.add_assoc, hits_succ, if_pos (h (n + d) (by omega) (by omega)), ih (by omega)]; omega
   have e2 := e1 (m - n) (by omega)
   have e3 := hits_le c av (n + (m - n))
   omega
  exact frs_stop h h1 h5 h3

/-- The expression with plain names, and the next number. -/
def Ex.pl (av : List Txt) : Ex → List Txt → List Txt → Nat → Ex × Nat
 | .num s, _, _, n => (.num s, n)
 | .name s, f, t, n => (.name (match lastIdx f s with | some i => t.getD i [] | none => s), n)
 | .bin o a b, f, t, n => let p := a.pl av f t n; let q := b.pl av f t p.2; (.bin o p.1 q.1, q.2)
 | .ite a b c, f, t, n => let p := a.pl av f t n; let q := b.pl av f t p.2; let r := c.pl av f t q.2; (.ite p.1 q.1 r.1, r.2)
 | .lt x a b, f, t, n => let k := fr 120 av n; let p := a.pl av f t (k + 1); let q := b.pl av (f ++ [x]) (t ++ [nm 120 k]) p.2; (.lt (nm 120 k) p.1 q.1, q.2)
 | .fn g x s u b, f, t, n => let k := fr 120 av n; let j := fr 120 av (k + 1); let p := b.pl av (f ++ [g, x]) (t ++ [nm 120 k, nm 120 j]) (j + 1); (.fn (nm 120 k) (nm 120 j) s u p.1, p.2)
 | .un o a, f, t, n => let p := a.pl av f t n; (.un o p.1, p.2)
/-- How many names are bound. -/
def Ex.nb : Ex → Nat
 | .num _ => 0
 | .name _ => 0
 | .bin _ a b => a.nb + b.nb
 | .ite a b c => a.nb + b.nb + c.nb
 | .lt _ a b => 1 + a.nb + b.nb
 | .fn _ _ _ _ b => 2 + b.nb
 | .un _ a => a.nb
theorem Ex.pl_hits (av : List Txt) : ∀ (e : Ex) (f t : List Txt) (n : Nat), n ≤ (e.pl av f t n).2 ∧ (e.pl av f t n).2 + hits 120 av n = n + e.nb + hits 120 av (e.pl av f t n).2
 | .num s, f, t, n => ⟨Nat.le_refl _, by simp [Ex.pl, Ex.nb]⟩
 | .name s, f, t, n => ⟨Nat.le_refl _, by simp [Ex.pl, Ex.nb]⟩
 | .bin o a b, f, t, n => by
  have h1 := a.pl_hits av f t n
  have h2 := b.pl_hits av f t (a.pl av f t n).2
  simp only [Ex.pl, Ex.nb]; omega
 | .ite a b c, f, t, n => by
  have h1 := a.pl_hits av f t n
  have h2 := b.pl_hits av f t (a.pl av f t n).2
  have h3 := c.pl_hits av f t (b.pl av f t (a.pl av f t n).2).2
  simp only [Ex.pl, Ex.nb]; omega
 | .lt x a b, f, t, n => by
  have h0 := fr_hits_succ 120 av n
  have h00 := (fr_facts 120 av n).2.1
  have h1 := a.pl_hits av f t (fr 120 av n + 1)
  have h2 := b.pl_hits av (f ++ [x]) (t ++ [nm 120 (fr 120 av n)]) (a.pl av f t (fr 120 av n + 1)).2
  simp only [Ex.pl, Ex.nb]; omega
 | .fn g x s u b, f, t, n => by
  have h0 := fr_hits_succ 120 av n
  have h00 := (fr_facts 120 av n).2.1
  have h1 := fr_hits_succ 120 av (fr 120 av n + 1)
  have h11 := (fr_facts 120 av (fr 120 av n + 1)).2.1
  have h2 := b.pl_hits av (f ++ [g, x]) (t ++ [nm 120 (fr 120 av n), nm 120 (fr 120 av (fr 120 av n + 1))]) (fr 120 av (fr 120 av n + 1) + 1)
  simp only [Ex.pl, Ex.nb]; omega
 | .un o a, f, t, n => by
  have h1 := a.pl_hits av f t n
  simp only [Ex.pl, Ex.nb]; omega
theorem Ex.pl_size (av : List Txt) : ∀ (e : Ex) (f t : List Txt) (n : Nat), (e.pl av f t n).1.size = e.size ∧ (e.pl av f t n).1.tree.depth = e.tree.depth ∧ (e.pl av f t n).1.many = e.many
 | .num s, f, t, n => ⟨rfl, rfl, rfl⟩
 | .name s, f, t, n => ⟨rfl, rfl, rfl⟩
 | .bin o a b, f, t, n => by
  obtain ⟨h1, h2, h3⟩ := a.pl_size av f t n
  obtain ⟨g1, g2, g3⟩ := b.pl_size av f t (a.pl av f t n).2
  simp only [Ex.pl, Ex.size, Ex.many, Ex.tree, Tree.depth, depthL, List.isEmpty_cons, cond_false, h1, h2, h3, g1, g2, g3, and_self]
 | .ite a b c, f, t, n => by
  obtain ⟨h1, h2, h3⟩ := a.pl_size av f t n
  obtain ⟨g1, g2, g3⟩ := b.pl_size av f t (a.pl av f t n).2
  obtain ⟨k1, k2, k3⟩ := c.pl_size av f t (b.pl av f t (a.pl av f t n).2).2
  simp only [Ex.pl, Ex.size, Ex.many, Ex.tree, Tree.depth, depthL, List.isEmpty_cons, cond_false, h1, h2, h3, g1, g2, g3, k1, k2, k3, and_self]
 | .lt x a b, f, t, n => by
  obtain ⟨h1, h2, h3⟩ := a.pl_size av f t (fr 120 av n + 1)
  obtain ⟨g1, g2, g3⟩ := b.pl_size av (f ++ [x]) (t ++ [nm 120 (fr 120 av n)]) (a.pl av f t (fr 120 av n + 1)).2
  simp only [Ex.pl, Ex.size, Ex.many, Ex.tree, Tree.depth, depthL, List.isEmpty_cons, List.isEmpty_nil, cond_true, cond_false, h1, h2, h3, g1, g2, g3, and_self]
 | .fn g x s u b, f, t, n => by
  obtain ⟨g1, g2, g3⟩ := b.pl_size av (f ++ [g, x]) (t ++ [nm 120 (fr 120 av n), nm 120 (fr 120 av (fr 120 av n + 1))]) (fr 120 av (fr 120 av n + 1) + 1)
  simp only [Ex.pl, Ex.size, Ex.many, Ex.tree, Tree.depth, depthL, List.isEmpty_cons, List.isEmpty_nil, cond_true, cond_false, g1, g2, g3, and_self]
 | .un o a, f, t, n => by
  obtain ⟨h1, h2, h3⟩ := a.pl_size av f t n
  simp only [Ex.pl, Ex.size, Ex.many, Ex.tree, Tree.depth, depthL, List.isEmpty_cons, cond_false, h1, h2, h3, and_self]
/-- How many names stand in an expression. -/
theorem Ex.nb_occ : ∀ (e : Ex) (bd : List Txt), 3 * (e.nb + (e.occ bd).length) ≤ 2 * e.size + 1
 | .num s, bd => by simp [Ex.nb, Ex.occ, Ex.size]
 | .name s, bd => by simp only [Ex.nb, Ex.occ, Ex.size]; split <;> simp
 | .bin o a b, bd => by have := a.nb_occ bd; have := b.nb_occ bd; simp only [Ex.nb, Ex.occ, Ex.size, List.length_append]; omega
 | .ite a b c, bd => by have := a.nb_occ bd; have := b.nb_occ bd; have := c.nb_occ bd; simp only [Ex.nb, Ex.occ, Ex.size, List.length_append]; omega
 | .lt x a b, bd => by have := a.nb_occ bd; have := b.nb_occ (bd ++ [x]); simp only [Ex.nb, Ex.occ, Ex.size, List.length_append]; omega
 | .fn f x s t b, bd => by have := b.nb_occ (bd ++ [f, x]); have := s.size_pos; have := t.size_pos; simp only [Ex.nb, Ex.occ, Ex.size]; omega
 | .un o a, bd => by have := a.nb_occ bd; simp only [Ex.nb, Ex.occ, Ex.size]; omega
end Go.Proofs.YtdgpnibnogdllaaGreatDoor


/- Expressions with plain names are expressions. No conditions. -/
namespace Go.Proofs.YtdgpnibnogdllaaGreatDoor
set_option maxRecDepth 100000
set_option linter.unusedVariables false
set_option linter.unusedSimpArgs false

theorem digit_of {d : Nat} (h : d < 10) : digit (UInt8.ofNat (48 + d)) = true := by
 have : (UInt8.ofNat (48 + d)).toNat = 48 + d := by simp [UInt8.toNat_ofNat]; omega
 simp only [digit, this, Bool.and_eq_true, decide_eq_true_eq]; omega
theorem decT_digits : ∀ n : Nat, (decT n).all digit = true := by
 intro n
 induction n using Nat.strongRecOn with
 | _ n ih =>
  by_cases h : n < 10
  ·rw [decT_small h]; simp only [List.all_cons, List.all_nil, Bool.and_true]; exact digit_of h
  ·rw [decT_big h, List.all_append, ih (n / 10) (by omega)]
   simp only [List.all_cons, List.all_nil, Bool.and_true, Bool.true_and]; exact digit_of (Nat.mod_lt n (by omega))
theorem decT_len {n : Nat} (h : n < 1000) : (decT n).length ≤ 3 := by
 by_cases h1 : n < 10
 ·rw [decT_small h1]; simp
 ·rw [decT_big h1, List.length_append]
  by_cases h2 : n / 10 < 10
  ·rw [decT_small h2]; simp
  ·rw [decT_big h2, List.length_append, decT_small (show n / 10 / 10 < 10 by omega)]; simp
theorem nm_name {c : UInt8} {n : Nat} (hc : lower c = true) (h : n < 1000) : isName (nm c n) = true := by
 have := decT_len h
 simp [nm, isName, hc, decT_digits n, this]
def namesL (l : List Txt) : Prop := ∀ s ∈ l, isName s = true
theorem namesL.add {l m : List Txt} (h : namesL l) (h' : namesL m) : namesL (l ++ m) := by
 intro s hs
 rcases List.mem_append.1 hs with hs | hs
 ·exact h s hs
 ·exact h' s hs
theorem Ex.pl_ok {av : List Txt} : ∀ {e : Ex} {f t : List Txt} {n : Nat}, e.ok = true → namesL t → f.length = t.length → n + e.nb + av.length ≤ 900 + hits 120 av n → (e.pl av f t n).1.ok = true
 | .num s, f, t, n, h, _, _, _ => h
 | .name s, f, t, n, h, ht, hl, _ => by
  simp only [Ex.pl, Ex.ok]
  cases hi : lastIdx f s with
  | none => exact h
  | some i =>
   have h1 := (lastAt_lt (show lastAt f s f.length = some i from hi)).1
   have h2 : i < t.length := by omega
   show isName (t.getD i []) = true
   rw [show t.getD i [] = t[i] by simp [h2]]
   exact ht _ (List.getElem_mem h2)
 | .bin o a b, f, t, n, h, ht, hl, hn => by
  simp only [Ex.ok, Bool.and_eq_true] at h
  simp only [Ex.nb] at hn
  have h1 := a.pl_hits av f t n
  have h2 := hits_le 120 av (a.pl av f t n).2
  simp only [Ex.pl, Ex.ok, Bool.and_eq_true]
  exact ⟨Ex.pl_ok h.1 ht hl (by omega), Ex.pl_ok h.2 ht hl (by omega)⟩
 | .ite a b c, f, t, n, h, ht, hl, hn => by
  simp only [Ex.ok, Bool.and_eq_true] at h
  simp only [Ex.nb] at hn
  have h1 := a.pl_hits av f t n
  have h2 := b.pl_hits av f t (a.pl av f t n).2
  have h3 := hits_le 120 av (a.pl av f t n).2
  have h4 := hits_le 120 av (b.pl av f t (a.pl av f t n).2).2
  simp only [Ex.pl, Ex.ok, Bool.and_eq_true]
  exact ⟨⟨Ex.pl_ok h.1.1 ht hl (by omega), Ex.pl_ok h.1.2 ht hl (by omega)⟩, Ex.pl_ok h.2 ht hl (by omega)⟩
 | .lt x a b, f, t, n, h, ht, hl, hn => by
  simp only [Ex.ok, Bool.and_eq_true] at h
  simp only [Ex.nb] at hn
  have h0 := fr_hits_succ 120 av n
  have h1 := a.pl_hits av f t (fr 120 av n + 1)
  have h2 := hits_le 120 av (fr 120 av n + 1)
  have h3 := hits_le 120 av (a.pl av f t (fr 120 av n + 1)).2
  have h4 := hits_le 120 av n
  have hz : isName (nm 120 (fr 120 av n)) = true := nm_name (by decide) (by omega)
  simp only [Ex.pl, Ex.ok, Bool.and_eq_true]
  exact ⟨⟨hz, Ex.pl_ok h.1.2 ht hl (by omega)⟩, Ex.pl_ok h.2 (ht.add fun s hs => by rw [List.mem_singleton.1 hs]; exact hz) (by simp [hl]) (by omega)⟩
 | .fn g x s u b, f, t, n, h, ht, hl, hn => by
  simp only [Ex.ok, Bool.and_eq_true, decide_eq_true_eq] at h
  obtain ⟨⟨⟨⟨⟨h1, h2⟩, h3⟩, h4⟩, h5⟩, h6⟩ := h
  simp only [Ex.nb] at hn
  have k0 := fr_hits_succ 120 av n
  have k1 := fr_hits_succ 120 av (fr 120 av n + 1)
  have k2 := hits_le 120 av (fr 120 av n + 1)
  have k3 := hits_le 120 av (fr 120 av (fr 120 av n + 1) + 1)
  have k5 := hits_le 120 av n
  have k4 := (fr_facts 120 av (fr 120 av n + 1)).2.1
  have hz1 : isName (nm 120 (fr 120 av n)) = true := nm_name (by decide) (by omega)
  have hz2 : isName (nm 120 (fr 120 av (fr 120 av n + 1))) = true := nm_name (by decide) (by omega)
  simp only [Ex.pl, Ex.ok, Bool.and_eq_true, decide_eq_true_eq]
  refine ⟨⟨⟨⟨⟨hz1, hz2⟩, fun e => ?_⟩, h4⟩, h5⟩, Ex.pl_ok h6 (ht.add fun s hs => ?_) (by simp [hl]) (by omega)⟩
  ·have := nm_inj e; omega
  ·simp only [List.mem_cons, List.not_mem_nil, or_false] at hs
   rcases hs with rfl | rfl
   ·exact hz1
   ·exact hz2
 | .un o a, f, t, n, h, ht, hl, hn => by
  simp only [Ex.pl, Ex.ok]
  exact Ex.pl_ok (e := a) h ht hl (by simpa [Ex.nb] using hn)
theorem B5.txt_len (o : B5) : o.txt.length ≤ 4 := by cases o <;> decide
theorem U2.txt_len (o : U2) : o.txt.length ≤ 3 := by cases o <;> decide
/-- An expression's text is short. -/
theorem Ex.len_size : ∀ {e : Ex}, e.ok = true → e.tree.len + 1 ≤ 8 * e.size
 | .num s, h => by
  have h : isNum s = true := h
  have : s.length ≤ 4 := by
   simp only [isNum, Bool.or_eq_true, Bool.and_eq_true, decide_eq_true_eq] at h
   rcases h with h | h
   ·rw [h]; decide
   ·have h1 := h.1.1.2
    unfold unsign at h1
    split at h1
    ·simp only [List.length_drop] at h1; omega
    ·omega
  simp only [Ex.tree, Tree.len, List.isEmpty_nil, cond_true, Ex.size]; omega
 | .name s, h => by
  have := isName_len (show isName s = true from h)
  simp only [Ex.tree, Tree.len, List.isEmpty_nil, cond_true, Ex.size]; omega
 | .bin o a b, h => by
  simp only [Ex.ok, Bool.and_eq_true] at h
  have h1 := Ex.len_size h.1; have h2 := Ex.len_size h.2; have h3 := o.txt_len
  simp only [Ex.tree, Tree.len, lenL, List.isEmpty_nil, List.isEmpty_cons, cond_true, cond_false, Ex.size]; omega
 | .ite a b c, h => by
  simp only [Ex.ok, Bool.and_eq_true] at h
  have h1 := Ex.len_size h.1.1; have h2 := Ex.len_size h.1.2; have h3 := Ex.len_size h.2
  simp only [Ex.tree, Tree.len, lenL, List.isEmpty_nil, List.isEmpty_cons, cond_true, cond_false, Ex.size, tIf, List.length_cons, List.length_nil]; omega
 | .lt x a b, h => by
  simp only [Ex.ok, Bool.and_eq_true] at h
  have h1 := Ex.len_size h.1.2; have h2 := Ex.len_size h.2; have h3 := isName_len h.1.1
  simp only [Ex.tree, Tree.len, lenL, List.isEmpty_nil, List.isEmpty_cons, cond_true, cond_false, Ex.size, tLet, List.length_cons, List.length_nil]; omega
 | .fn f x s t b, h => by
  simp only [Ex.ok, Bool.and_eq_true, decide_eq_true_eq] at h
  obtain ⟨⟨⟨⟨⟨h1, h2⟩, h3⟩, h4⟩, h5⟩, h6⟩ := h
  have k1 := Ex.len_size h6; have k2 := isName_len h1; have k3 := isName_len h2
  have k4 := s.tree_small; have k5 := t.tree_small; have k6 := s.size_pos; have k7 := t.size_pos
  simp only [Ex.tree, Tree.len, lenL, List.isEmpty_nil, List.isEmpty_cons, cond_true, cond_false, Ex.size, tFun, List.length_cons, List.length_nil]; omega
 | .un o a, h => by
  have h1 := Ex.len_size (e := a) h; have h3 := o.txt_len
  simp only [Ex.tree, Tree.len, lenL, List.isEmpty_nil, List.isEmpty_cons, cond_true, cond_false, Ex.size]; omega
/-- The plain one of an expression. -/
def Ex.plain (e : Ex) : Ex := (e.pl e.free [] [] 0).1
theorem addAll_len' (l m : List Txt) : (addAll l m).length ≤ l.length + m.length := by
 induction m generalizing l with
 | nil => exact Nat.le_refl _
 | cons s m ih =>
  have h1 : (addOnce l s).length ≤ l.length + 1 := by unfold addOnce; split <;> simp
  have h2 := ih (addOnce l s)
  simp only [addAll, List.foldl_cons, List.length_cons] at *
  omega
theorem plain_room {e : Ex} (h : e.size ≤ 120) : e.nb + e.free.length ≤ 80 := by
 have h1 := e.nb_occ []
 have h2 := addAll_len' [] (e.occ [])
 simp only [List.length_nil, Nat.zero_add] at h2
 have h3 : e.free.length ≤ (e.occ []).length := h2
 omega
theorem plain_fine {e : Ex} (h : e.fine = true) : e.plain.fine = true := by
 simp only [Ex.fine, Bool.and_eq_true, decide_eq_true_eq, Tree.fits] at h
 obtain ⟨h1, h2, h3⟩ := e.pl_size e.free [] [] 0
 have hr := plain_room h.1.2
 have hok : e.plain.ok = true := Ex.pl_ok h.1.1 (fun s hs => by cases hs) rfl (by omega)
 have hl := Ex.len_size hok
 have h4 : e.plain.size = e.size := h1
 have h5 : e.plain.tree.depth = e.tree.depth := h2
 simp only [Ex.fine, Bool.and_eq_true, decide_eq_true_eq, Tree.fits]
 exact ⟨⟨hok, by omega⟩, by omega, by omega⟩
def plainOf (s : Txt) : Option Txt := (exOf s).map fun e => e.plain.tree.text
end Go.Proofs.YtdgpnibnogdllaaGreatDoor


/- Fresh plain names, by the reference. No conditions. -/
namespace Go.Proofs.YtdgpnibnogdllaaGreatDoor
set_option maxRecDepth 100000
set_option linter.unusedVariables false
set_option linter.unusedSimpArgs false

def lookOr (l m : List Txt) (s : Txt) : Txt := match lastIdx l s with
 | some i => m.getD i []
 | none => s
theorem g_l2Look {I : Heap} {oa ob : Option Addr} {l m : List Txt} {c c' : Nat} (h : Strs I oa l c) (h' : Strs I ob m c') (hlm : l.length = m.length) (s : Txt) (L : Own) :
  Fun Tryz.prog 53 [.slice oa l.length c, .slice ob m.length c', .string (str s)] I L (Only (.string (str (lookOr l m s))) I L) := by
 have hlen := h.len
 unfold maxN at hlen
 refine fun_intro (by simp) ?_
 refine Se rfl ?_
 refine Oa rfl ?_
 refine o_done ?_
 refine s_seq ?_
 refine Se rfl ?_
 refine Om rfl ?_
 refine o_len_slice rfl .free rfl ?_
 refine o_arith rfl rfl rfl (by omega) .free rfl ?_
 refine Oa rfl ?_
 refine o_done ?_
 refine s_block ?_
 refine s_while (X := Nat) (fun n => n) (fun n => [(0, .slice oa l.length c), (1, .slice ob m.length c'), (2, .string (str s)), (7, .int .i64 ((n : Int) - 1))]) (fun _ => I) (fun _ => L) (fun n => n ≤ l.length ∧ lastIdx l s = lastAt l s n) l.length ⟨Nat.le_refl _, rfl⟩ ⟨rfl, rfl, rfl, rfl, trivial⟩ drops ?_
 rintro n ⟨hn, hl⟩ ih
 refine s_seq ?_
 refine Se rfl ?_
 refine Om rfl ?_
 refine o_cmp rfl rfl rfl .free rfl ?_
 refine o_done ?_
 first | refine s_if rfl ?_ ?_ | refine s_ifn rfl ?_ ?_ | refine s_cond rfl ?_ ?_
 ·intro c0
  obtain ⟨k, rfl⟩ : ∃ k, n = k + 1 := ⟨n - 1, by omega⟩
  obtain ⟨x, hx, hst⟩ := h.at k (by omega)
  obtain ⟨y, hy, hst'⟩ := h'.at k (by omega)
  refine s_put (t := 7) (v' := .int .i64 (k : Nat)) rfl (by congr 1; omega) ?_
  simp only [lastAt, List.getD_eq_getElem?_getD, List.getElem?_eq_getElem (show k < l.length by omega), Option.getD_some] at hl
  refine s_skip ?_
  refine s_seq ?_
  refine s_block ?_
  refine Se rfl ?_
  refine Om rfl ?_
  refine Om rfl ?_
  refine o_indexAddr' rfl rfl _ rfl (by first | omega | exact lt_of (by assumption) (by decide) | (simp; done) | (simp; omega) | decide | (simp at *; omega)) (by first | rfl | assumption) .free rfl ?_
  refine o_lS rfl .free rfl ?_
  refine Om rfl ?_
  refine o_cmps rfl rfl rfl .free rfl ?_
  refine o_done ?_
  first | refine s_if rfl ?_ ?_ | refine s_ifn rfl ?_ ?_ | refine s_cond rfl ?_ ?_
  ·intro c1
   refine Se rfl ?_
   refine Om rfl ?_
   refine Om rfl ?_
   refine o_indexAddr' rfl rfl _ rfl (by first | omega | exact lt_of (by assumption) (by decide) | (simp; done) | (simp; omega) | decide | (simp at *; omega)) (by first | rfl | assumption) .free rfl ?_
   refine o_lS rfl .free rfl ?_
   refine Oa rfl ?_
   refine o_done ?_
   refine s_ret (.tmp rfl .nil) ?_
   refine only rfl ?_
   rw [if_pos (by assumption)] at hl
   simp only [lookOr, hl]; simp [retOne, show k < m.length by omega]
  intro c1
  refine s_skip ?_
  refine s_inBlock ?_
  refine o_enter rfl ?_
  refine Om rfl ?_
  refine o_arith rfl rfl rfl (by omega) .free rfl ?_
  refine Oa rfl ?_
  refine o_done ?_
  refine s_env (E' := [(0, .slice oa l.length c), (1, .slice ob m.length c'), (2, .string (str s)), (7, .int .i64 ((k : Int) - 1))]) ⟨rfl, rfl, rfl, rfl, trivial⟩ (ih k ⟨by omega, ?_⟩ (by omega))
  rw [hl, if_neg (by assumption)]
 intro c0
 refine s_exit rfl ?_
 refine Se rfl ?_
 refine Om rfl ?_
 refine Oa rfl ?_
 refine o_done ?_
 refine s_ret (.tmp rfl .nil) ?_
 refine only rfl ?_
 obtain rfl : n = 0 := by omega
 simp only [lookOr, hl, lastAt]; rfl
theorem g_l1Atom (s : Txt) (I : Heap) (L : Own) : Fun Tryz.prog 37 [.string (str s)] I L (Only (.agg [.string (str s), .slice none 0 0].toArray) I L) := by
 refine fun_intro (by simp) ?_
 refine Se rfl ?_
 refine o_alloc .free rfl ?_
 intro b2
 refine o_done ?_
 refine Se rfl ?_
 refine Om rfl ?_
 refine o_struct rfl rfl rfl .free rfl ?_
 refine o_st rfl rfl rfl rfl .free ?_
 refine o_done ?_
 refine s_ret (.c rfl .nil) ?_
 refine only rfl ?_
 rfl
theorem fr_le (c : UInt8) (av : List Txt) (n : Nat) : fr c av n ≤ n + av.length := by
 have h1 := (fr_facts c av n).2.2
 have h2 := hits_le c av (fr c av n)
 omega
/-- The reference's namer. -/
def rn (b : Nat) (oa : Option Addr) (av : List Txt) (c n : Nat) : Nat × Obj := (b, .cells [.slice oa av.length c, .int .i64 (n : Nat)].toArray 69 (0, 0))
theorem g_l2Fresh {I : Heap} {oa : Option Addr} {av : List Txt} {c : Nat} (hav : Strs I oa av c) (b n : Nat) (hn : n + av.length ≤ 900) (L : Own) :
  Fun Tryz.prog 54 [.pointer (some ⟨b, 0, none⟩)] I (rn b oa av c n :: L) (fun v I' L' => v = .string (str (nm 120 (fr 120 av n))) ∧ I = I' ∧ L' = rn b oa av c (fr 120 av n + 1) :: L) := by
 obtain ⟨f1, f2, f3⟩ := fr_facts 120 av n
 have f4 := fr_le 120 av n
 refine fun_intro (by simp) ?_
 refine Se rfl ?_
 refine Oa rfl ?_
 refine o_done ?_
 refine s_block ?_
 refine s_while (X := Nat) (fun m => fr 120 av n + 1 - m) (fun m => [(0, .pointer (some ⟨b, 0, none⟩))]) (fun _ => I) (fun m => rn b oa av c m :: L) (fun m => n ≤ m ∧ m ≤ fr 120 av n ∧ ∀ j, n ≤ j → j < m → nm 120 j ∈ av) n ⟨Nat.le_refl _, f2, fun j h1 h2 => absurd h2 (by omega)⟩ ⟨rfl, trivial⟩ (fun _ h => h) ?_
 rintro m ⟨hm1, hm2, hm3⟩ ih
 unfold rn
 have hdl := decT_len (n := m) (by omega)
 refine s_block ?_
 refine Se rfl ?_
 refine Om rfl ?_
 refine o_nilCheck rfl .free rfl ?_
 first | refine o_fieldAddr rfl .free rfl ?_ | refine o_fieldAddr' rfl .free rfl ?_
 refine o_lJ rfl .free rfl ?_
 refine o_call rfl .free rfl (g_l6Dec _ m (Nat.lt_succ_self _) (by omega) _ _) ?_
 rintro _ _ _ _ ⟨rfl, rfl, rfl⟩
 refine o_concat rfl rfl (by first | omega | (simp only [List.length_append, List.length_cons, List.length_nil]; omega) | (simp; omega)) .free rfl ?_
 refine Oa rfl ?_
 refine o_done ?_
 refine Se rfl ?_
 refine Om rfl ?_
 refine Om rfl ?_
 refine o_nilCheck rfl .free rfl ?_
 first | refine o_fieldAddr rfl .free rfl ?_ | refine o_fieldAddr' rfl .free rfl ?_
 refine o_lJ rfl .free rfl ?_
 refine o_arith rfl rfl rfl (by omega) .free rfl ?_
 refine o_nilCheck rfl .free rfl ?_
 first | refine o_fieldAddr rfl .free rfl ?_ | refine o_fieldAddr' rfl .free rfl ?_
 refine o_st rfl rfl rfl rfl .free ?_
 refine o_done ?_
 refine Se rfl ?_
 refine Om rfl ?_
 refine o_nilCheck rfl .free rfl ?_
 first | refine o_fieldAddr rfl .free rfl ?_ | refine o_fieldAddr' rfl .free rfl ?_
 refine o_lJ rfl .free rfl ?_
 refine Om rfl ?_
 refine o_call rfl .free rfl (g_l1Has (hav.rd _) c (nm 120 m)) ?_
 rintro _ _ _ _ ⟨rfl, rfl, rfl⟩
 refine o_not rfl .free rfl ?_
 refine o_done ?_
 refine s_cond rfl ?_ ?_
 ·intro c0
  try simp only [nb] at c0
  refine Se rfl ?_
  refine Om rfl ?_
  refine Oa rfl ?_
  refine o_done ?_
  refine s_ret (.tmp rfl .nil) ?_
  have hfm : fr 120 av n = m := fr_stop hm3 hm1 c0
  exact ⟨I, _, .refl _, fun _ h => h, by rw [hfm]; rfl, rfl, by rw [hfm]; rfl⟩
 intro c0
 try simp only [nb] at c0
 refine s_skip ?_
 refine s_inBlock ?_
 have hne : m ≠ fr 120 av n := fun e => f1 (e ▸ c0)
 refine s_env (E' := [(0, .pointer (some ⟨b, 0, none⟩))]) ⟨rfl, trivial⟩ (ih (m + 1) ⟨by omega, by omega, fun j h1 h2 => ?_⟩ (by omega))
 by_cases hj : j = m
 ·subst hj; exact c0
 ·exact hm3 j h1 (by omega)
theorem nm_len {n : Nat} (h : n < 1000) : (nm 120 n).length ≤ maxN := Ex.name_len (nm_name (by decide) h)
end Go.Proofs.YtdgpnibnogdllaaGreatDoor


/- An expression put for a name. No conditions. -/
namespace Go.Proofs.YtdgpnibnogdllaaGreatDoor
set_option maxRecDepth 100000
set_option linter.unusedVariables false
set_option linter.unusedSimpArgs false

end Go.Proofs.YtdgpnibnogdllaaGreatDoor


/- Regions that draw their order: a state that several orders come to, told once. No conditions. -/
namespace Go.Proofs.YtdgpnibnogdllaaGreatDoor
set_option maxRecDepth 100000
set_option linter.unusedVariables false
set_option linter.unusedSimpArgs false

theorem d_state {P : Program} {f : FuncId} {n : Nat} {I₀ : Heap} {Q : Post} {k : List Item} {E : Env} {I : Heap} {L : Own} {ops : Array Oper} {S : World → Prop} {fuel : Nat} {listed : Array Bool} {X : Type} (fu : Nat) (ls : Array Bool) (E' : X → Env) (L' : X → Own → Own) (R : X → Prop)
  (hk : ∀ x, R x → RunW P f n I₀ Q ops S fu ls k (E' x ++ E) I (L' x L)) (h : (∀ x, R x → RunW P f n I₀ Q ops S fu ls k (E' x ++ E) I (L' x L)) → RunW P f n I₀ Q ops S fuel listed k E I L) : RunW P f n I₀ Q ops S fuel listed k E I L := h hk
section
variable {I : Heap} {A B C D L : Own} {w : World}
theorem Mem.seg2 (h : Mem I (A ++ (B ++ L)) w) : Mem I (B ++ (A ++ L)) w := h.perm (List.perm_append_comm_assoc _ _ _)
theorem Mem.seg3 (h : Mem I (A ++ (B ++ (C ++ L))) w) : Mem I (C ++ (A ++ (B ++ L))) w := h.perm ((List.Perm.append_left A (List.perm_append_comm_assoc _ _ _)).trans (List.perm_append_comm_assoc _ _ _))
theorem Mem.ins3 (h : Mem I (A ++ (B ++ (C ++ L))) w) : Mem I (B ++ (C ++ (A ++ L))) w := h.perm ((List.perm_append_comm_assoc _ _ _).trans (List.Perm.append_left B (List.perm_append_comm_assoc _ _ _)))
theorem Mem.ins4 (h : Mem I (A ++ (B ++ (C ++ (D ++ L)))) w) : Mem I (B ++ (C ++ (D ++ (A ++ L)))) w := h.perm (((List.perm_append_comm_assoc _ _ _).trans (List.Perm.append_left B (List.perm_append_comm_assoc _ _ _))).trans (List.Perm.append_left B (List.Perm.append_left C (List.perm_append_comm_assoc _ _ _))))
end
end Go.Proofs.YtdgpnibnogdllaaGreatDoor


/- Plain names given to an expression, by the reference. No conditions. -/
namespace Go.Proofs.YtdgpnibnogdllaaGreatDoor
set_option maxRecDepth 100000
set_option linter.unusedVariables false
set_option linter.unusedSimpArgs false

/-- What a state of many orders has. -/
structure G11 where
 b6 : Nat
 b14 : Nat
 b16 : Nat
 b20 : Nat
 B : Buf
 c : Nat
 D : Buf
 e : Nat
def PR (b : Nat) (oa : Option Addr) (av : List Txt) (c : Nat) (p : Ex × Nat) (L : Own) : Post := fun v I' L' => ∃ cs, v = .agg (List.toArray cs) ∧ Rep I' p.1.tree cs ∧ L' = rn b oa av c p.2 :: L
def PlainH (n : Nat) : Prop := ∀ {I : Heap} {e : Ex} {cs : List Value} (_ : SizeOf.sizeOf e < n) (_ : Rep I e.tree cs) (_ : e.ok = true) {f t : List Txt} {of ot : Option Addr} {cf ct : Nat} (_ : Strs I of f cf) (_ : Strs I ot t ct) (_ : f.length = t.length) (_ : f.length + 2 * e.size ≤ 100000)
  {oa : Option Addr} {av : List Txt} {c : Nat} (_ : Strs I oa av c) (b k : Nat) (_ : k + e.nb + av.length ≤ 90 + hits 120 av k) (_ : av.length ≤ 500) (L : Own),
  Fun Tryz.prog 33 [.agg cs.toArray, .slice of f.length cf, .slice ot t.length ct, .pointer (some ⟨b, 0, none⟩)] I (rn b oa av c k :: L) (PR b oa av c (e.pl av f t k) L)
set_option maxHeartbeats 2000000 in
theorem plain_bin {n : Nat} (ihn : PlainH n) {o : B5} {a b : Ex} {I : Heap} {cs : List Value} (hlt : SizeOf.sizeOf (Ex.bin o a b) < n + 1) (h : Rep I (Ex.bin o a b).tree cs) (hok : (Ex.bin o a b).ok = true) {f t : List Txt} {of ot : Option Addr} {cf ct : Nat} (hfr : Strs I of f cf) (hto : Strs I ot t ct) (hft : f.length = t.length) (hfl : f.length + 2 * (Ex.bin o a b).size ≤ 100000)
  {ov : Option Addr} {av : List Txt} {cv : Nat} (hav : Strs I ov av cv) (bp k : Nat) (hk : k + (Ex.bin o a b).nb + av.length ≤ 90 + hits 120 av k) (ha5 : av.length ≤ 500) (L : Own) :
  Fun Tryz.prog 33 [.agg cs.toArray, .slice of f.length cf, .slice ot t.length ct, .pointer (some ⟨bp, 0, none⟩)] I (rn bp ov av cv k :: L) (PR bp ov av cv ((Ex.bin o a b).pl av f t k) L) := by
 obtain ⟨oa, c, oaf, cf1, rfl, hf, hcl, hcs⟩ := h.cells
 have hle : HLe I I := .refl _
 have ha := hf.alen
 have hh0 := hits_le 120 av k
 refine fun_intro (by simp) ?_
 refine Se rfl ?_
 refine o_box rfl rfl .free rfl ?_
 intro b4
 refine o_alloc .free rfl ?_
 intro b8
 refine o_done ?_
 refine s_seq ?_
 refine Se rfl ?_
 refine o_fieldAddr rfl .free rfl ?_
 refine o_lO1 rfl .free rfl ?_
 refine o_cmps rfl rfl rfl .free rfl ?_
 refine o_done ?_
 first | refine s_fp rfl (by simp [Ex.tree, Tree.atom]) ?_ | refine s_fn rfl (by simp [Ex.tree, Tree.atom]) ?_ | refine s_false (by simp [look, opd, *]) ?_
 refine s_skip ?_
 refine s_seq ?_
 have hok0 := hok
 have hb : (Ex.bin o a b).bare = false := rfl
 have hpos : 0 < (Ex.bin o a b).tree.parts.length := by
  rw [Ex.bare_parts] at hb
  have : (Ex.bin o a b).tree.parts ≠ [] := by intro hh; rw [hh] at hb; cases hb
  exact List.length_pos_iff.2 this
 have hhd := head_at hpos
 obtain ⟨xa, rfl⟩ : ∃ xa, oa = some xa := ⟨_, some_oad hf.nil hpos⟩
 have hp := hf.len
 unfold maxN at hp
 refine o_enter rfl ?_
 refine o_lits0 .free rfl ?_
 intro b29
 refine o_fieldAddr rfl .free rfl ?_
 refine o_lO1 rfl .free rfl ?_
 refine o_append (B := some (b29, [])) (xs := []) (ys := cellsF oaf cf1 0 (Ex.bin o a b).tree.parts) (m := 0) (c := 0) (by intro kk; simp) (by rfl) rfl rfl ⟨rfl, Nat.le_refl _, rfl⟩ (fun _ h => h) (by have := hcl.length; omega) (fun a ha => by cases ha; exact (hcs _ rfl).reads) (by simp) hcl.plain hpos (by decide) (by omega) (by decide) .free rfl ?_
 intro bc sp cc hB'
 have hcc : (Ex.bin o a b).tree.parts.length ≤ cc := by have := hB'.2.1; omega
 refine o_put (t := 32) (v' := .slice (some ⟨bc, 0, none⟩) (Ex.bin o a b).tree.parts.length cc) rfl (by rw [Nat.zero_add]) ?_
 simp only [List.nil_append]
 refine o_struct rfl rfl rfl .free rfl ?_
 refine o_alloc .free rfl ?_
 intro b9
 refine o_st rfl rfl rfl rfl .free ?_
 refine o_done ?_
 refine Se rfl ?_
 refine o_fieldAddr rfl .free rfl ?_
 refine o_lO1 rfl .free rfl ?_
 first | refine o_ixD rfl rfl 0 rfl .free rfl ?_ | refine o_ixP rfl rfl 0 rfl .free rfl ?_
 refine o_fieldAddr' rfl .free rfl ?_
 refine o_lIF rfl .free rfl ?_
 refine o_call rfl .free rfl (g_l2Kids ((Ex.bin o a b).tree.pt 0).atom _ _) ?_
 rw [← hhd]; rintro _ _ _ _ ⟨rfl, rfl, rfl⟩
 refine Om rfl ?_
 refine o_extract rfl rfl .free rfl ?_
 refine o_extract rfl rfl .free rfl ?_
 refine Oa rfl ?_
 refine Oa rfl ?_
 refine o_done ?_
 refine s_seq ?_
 refine s_seq ?_
 have hkr : kidRange (Ex.bin o a b).tree.head = (1, 3) := by cases o <;> rfl
 rw [hkr]
 have hlen : (Ex.bin o a b).tree.parts.length = 3 := rfl
 have hki := kids_bin o a b
 have hp0 : ((Ex.bin o a b).tree.pt 0).atom = o.txt := rfl
 simp only [Ex.bin.sizeOf_spec] at hlt
 simp only [Ex.ok, Bool.and_eq_true, decide_eq_true_eq] at hok
 simp only [Ex.nb] at hk
 simp only [Ex.size] at hfl
 simp only [show (Ex.bin o a b).tree.parts = [.node o.txt [], a.tree, b.tree] from rfl, cellsF, List.cons_append, List.nil_append]
 refine s_mem (fun w h => h.f4) ?_
 refine o_enter rfl ?_
 refine o_fieldAddr rfl .free rfl ?_
 refine o_lO1 rfl .free rfl ?_
 first | refine o_ixD rfl rfl 0 rfl .free rfl ?_ | refine o_ixP rfl rfl 0 rfl .free rfl ?_
 refine o_fieldAddr' rfl .free rfl ?_
 refine o_lIF rfl .free rfl ?_
 refine o_cmps rfl rfl rfl .free rfl ?_
 refine o_done ?_
 first | refine s_fp rfl (by rw [hp0]; cases o <;> decide) ?_ | refine s_fn rfl (by rw [hp0]; cases o <;> decide) ?_ | refine s_false (by simp [look, opd, *]) ?_
 refine s_skip ?_
 refine s_seq ?_
 refine Se rfl ?_
 refine o_fieldAddr rfl .free rfl ?_
 refine o_lO1 rfl .free rfl ?_
 first | refine o_ixD rfl rfl 0 rfl .free rfl ?_ | refine o_ixP rfl rfl 0 rfl .free rfl ?_
 refine o_fieldAddr' rfl .free rfl ?_
 refine o_lIF rfl .free rfl ?_
 refine o_cmps rfl rfl rfl .free rfl ?_
 refine o_done ?_
 first | refine s_fp rfl (by rw [hp0]; cases o <;> decide) ?_ | refine s_fn rfl (by rw [hp0]; cases o <;> decide) ?_ | refine s_false (by simp [look, opd, *]) ?_
 refine s_skip ?_
 refine s_seq ?_
 refine Se rfl ?_
 refine Om rfl ?_
 refine Oa rfl ?_
 refine o_done ?_
 refine s_block ?_
 refine s_loop ?_
 refine s_seq ?_
 refine Se rfl ?_
 refine Om rfl ?_
 refine Om rfl ?_
 refine o_cmp rfl rfl rfl .free rfl ?_
 refine o_done ?_
 refine s_condT rfl (by first | rfl | decide | (simp; done) | omega) ?_
 refine s_skip ?_
 refine s_seq ?_
 refine s_block ?_
 refine s_here fun hlr => ?_
 have hpl := a.pl_hits av (f) (t) k
 refine d_tl 14 rfl rfl ?_
 refine Da 0 rfl (y_fieldAddr rfl) ?_
 refine Dt 1 [13] rfl (y_lO1 rfl) ?_
 refine Da 2 rfl (y_move rfl) ?_
 refine Da 3 rfl (y_fieldAddr rfl) ?_
 refine Dt 4 [13] rfl (y_lO1 rfl) ?_
 refine Da 5 rfl (y_move rfl) ?_
 first | refine Da 6 rfl (y_ixD rfl rfl _ rfl) ?_ | refine Da 6 rfl (y_ixP rfl rfl _ rfl) ?_
 refine Dt 7 [13] rfl (y_lIS rfl) ?_
 refine Da 8 rfl (y_move rfl) ?_
 refine Da 9 rfl (y_move rfl) ?_
 refine Da 10 rfl (y_move rfl) ?_
 refine d_call 11 rfl (by kernel_rfl) rfl rfl .free rfl (ihn (f := f) (t := t) (by omega) (hf.as 1 a.tree (by omega) rfl) hok.1 hfr hto (by simp [hft]) (by first | omega | (simp only [List.length_append, List.length_cons, List.length_nil]; omega)) hav bp _ (by omega) ha5 _) ?_
 rintro _ J2 _ e2 ⟨cs2, rfl, hr_0, rfl⟩
 obtain ⟨o2, k2, _, rfl, -⟩ := hr_0.open
 have hlr := hlr.trans e2
 have hf := hf.mono e2
 have hfr := hfr.mono e2
 have hto := hto.mono e2
 have hav := hav.mono e2
 have hle := hle.trans e2
 refine ⟨(.inr heldx), ?_⟩
 first | refine Da 12 rfl (y_ixD rfl rfl _ rfl) ?_ | refine Da 12 rfl (y_ixP rfl rfl _ rfl) ?_
 refine d_st 13 rfl (by kernel_rfl) rfl rfl rfl rfl rfl .free (.inl (by kernel_rfl)) ?_
 refine d_done (by kernel_rfl) ?_
 refine s_inBlock ?_
 refine o_enter rfl ?_
 refine Om rfl ?_
 refine o_arith rfl rfl rfl (by omega) .free rfl ?_
 refine Oa rfl ?_
 refine o_done ?_
 refine s_round ?_
 refine s_seq ?_
 refine Se rfl ?_
 refine Om rfl ?_
 refine Om rfl ?_
 refine o_cmp rfl rfl rfl .free rfl ?_
 refine o_done ?_
 refine s_condT rfl (by first | rfl | decide | (simp; done) | omega) ?_
 refine s_skip ?_
 refine s_seq ?_
 refine s_block ?_
 refine s_here fun hlr => ?_
 have hpl := b.pl_hits av (f) (t) (a.pl av (f) (t) k).2
 refine d_tl 14 rfl rfl ?_
 refine Da 0 rfl (y_fieldAddr rfl) ?_
 refine Dt 1 [13] rfl (y_lO1 rfl) ?_
 refine Da 2 rfl (y_move rfl) ?_
 refine Da 3 rfl (y_fieldAddr rfl) ?_
 refine Dt 4 [13] rfl (y_lO1 rfl) ?_
 refine Da 5 rfl (y_move rfl) ?_
 first | refine Da 6 rfl (y_ixD rfl rfl _ rfl) ?_ | refine Da 6 rfl (y_ixP rfl rfl _ rfl) ?_
 refine Dt 7 [13] rfl (y_lIS rfl) ?_
 refine Da 8 rfl (y_move rfl) ?_
 refine Da 9 rfl (y_move rfl) ?_
 refine Da 10 rfl (y_move rfl) ?_
 refine d_call 11 rfl (by kernel_rfl) rfl rfl .free rfl (ihn (f := f) (t := t) (by omega) (hf.as 2 b.tree (by omega) rfl) hok.2 hfr hto (by simp [hft]) (by first | omega | (simp only [List.length_append, List.length_cons, List.length_nil]; omega)) hav bp _ (by omega) ha5 _) ?_
 rintro _ J2 _ e2 ⟨cs2, rfl, hr_1, rfl⟩
 obtain ⟨o2, k2, _, rfl, -⟩ := hr_1.open
 have hlr := hlr.trans e2
 have hf := hf.mono e2
 have hfr := hfr.mono e2
 have hto := hto.mono e2
 have hav := hav.mono e2
 have hle := hle.trans e2
 have hr_0 := hr_0.mono e2
 refine ⟨(.inr heldx), ?_⟩
 first | refine Da 12 rfl (y_ixD rfl rfl _ rfl) ?_ | refine Da 12 rfl (y_ixP rfl rfl _ rfl) ?_
 refine d_st 13 rfl (by kernel_rfl) rfl rfl rfl rfl rfl .free (.inl (by kernel_rfl)) ?_
 refine d_done (by kernel_rfl) ?_
 refine s_inBlock ?_
 refine o_enter rfl ?_
 refine Om rfl ?_
 refine o_arith rfl rfl rfl (by omega) .free rfl ?_
 refine Oa rfl ?_
 refine o_done ?_
 refine s_round ?_
 refine s_seq ?_
 refine Se rfl ?_
 refine Om rfl ?_
 refine Om rfl ?_
 refine o_cmp rfl rfl rfl .free rfl ?_
 refine o_done ?_
 refine s_condF rfl (by first | rfl | decide | (simp; done) | omega) ?_
 refine s_exit rfl ?_
 refine Se rfl ?_
 refine o_lOS rfl .free rfl ?_
 refine o_st rfl rfl rfl rfl .free ?_
 refine o_done ?_
 refine s_mem (fun w h => h.f2) (s_freeze ?_)
 intro hz
 have hf := hf.mono hz
 refine s_ret (.c rfl .nil) ?_
 exact ⟨_, _, hle.trans hz, fun w h => Mem.sub (L' := rn bp ov av cv _ :: L) (by repeat (first | exact List.Sublist.refl _ | apply List.Sublist.cons_cons | apply List.Sublist.cons)) h, _, rfl, .mk' rfl (.cons (hf.as 0 (.node o.txt []) (by omega) rfl) (.cons (hr_0.mono hz) (.cons (hr_1.mono hz) (.nil)))) (fun y hy => by cases hy; exact still_set (xs := [_, _, _, _, _, _])) (by simp) hcc (by simp [maxN]) (by simp [maxN]), rfl⟩
set_option maxHeartbeats 2000000 in
theorem plain_ite {n : Nat} (ihn : PlainH n) {a b d : Ex} {I : Heap} {cs : List Value} (hlt : SizeOf.sizeOf (Ex.ite a b d) < n + 1) (h : Rep I (Ex.ite a b d).tree cs) (hok : (Ex.ite a b d).ok = true) {f t : List Txt} {of ot : Option Addr} {cf ct : Nat} (hfr : Strs I of f cf) (hto : Strs I ot t ct) (hft : f.length = t.length) (hfl : f.length + 2 * (Ex.ite a b d).size ≤ 100000)
  {ov : Option Addr} {av : List Txt} {cv : Nat} (hav : Strs I ov av cv) (bp k : Nat) (hk : k + (Ex.ite a b d).nb + av.length ≤ 90 + hits 120 av k) (ha5 : av.length ≤ 500) (L : Own) :
  Fun Tryz.prog 33 [.agg cs.toArray, .slice of f.length cf, .slice ot t.length ct, .pointer (some ⟨bp, 0, none⟩)] I (rn bp ov av cv k :: L) (PR bp ov av cv ((Ex.ite a b d).pl av f t k) L) := by
 obtain ⟨oa, c, oaf, cf1, rfl, hf, hcl, hcs⟩ := h.cells
 have hle : HLe I I := .refl _
 have ha := hf.alen
 have hh0 := hits_le 120 av k
 refine fun_intro (by simp) ?_
 refine Se rfl ?_
 refine o_box rfl rfl .free rfl ?_
 intro b4
 refine o_alloc .free rfl ?_
 intro b8
 refine o_done ?_
 refine s_seq ?_
 refine Se rfl ?_
 refine o_fieldAddr rfl .free rfl ?_
 refine o_lO1 rfl .free rfl ?_
 refine o_cmps rfl rfl rfl .free rfl ?_
 refine o_done ?_
 first | refine s_fp rfl (by simp [Ex.tree, Tree.atom]) ?_ | refine s_fn rfl (by simp [Ex.tree, Tree.atom]) ?_ | refine s_false (by simp [look, opd, *]) ?_
 refine s_skip ?_
 refine s_seq ?_
 have hok0 := hok
 have hb : (Ex.ite a b d).bare = false := rfl
 have hpos : 0 < (Ex.ite a b d).tree.parts.length := by
  rw [Ex.bare_parts] at hb
  have : (Ex.ite a b d).tree.parts ≠ [] := by intro hh; rw [hh] at hb; cases hb
  exact List.length_pos_iff.2 this
 have hhd := head_at hpos
 obtain ⟨xa, rfl⟩ : ∃ xa, oa = some xa := ⟨_, some_oad hf.nil hpos⟩
 have hp := hf.len
 unfold maxN at hp
 refine o_enter rfl ?_
 refine o_lits0 .free rfl ?_
 intro b29
 refine o_fieldAddr rfl .free rfl ?_
 refine o_lO1 rfl .free rfl ?_
 refine o_append (B := some (b29, [])) (xs := []) (ys := cellsF oaf cf1 0 (Ex.ite a b d).tree.parts) (m := 0) (c := 0) (by intro kk; simp) (by rfl) rfl rfl ⟨rfl, Nat.le_refl _, rfl⟩ (fun _ h => h) (by have := hcl.length; omega) (fun a ha => by cases ha; exact (hcs _ rfl).reads) (by simp) hcl.plain hpos (by decide) (by omega) (by decide) .free rfl ?_
 intro bc sp cc hB'
 have hcc : (Ex.ite a b d).tree.parts.length ≤ cc := by have := hB'.2.1; omega
 refine o_put (t := 32) (v' := .slice (some ⟨bc, 0, none⟩) (Ex.ite a b d).tree.parts.length cc) rfl (by rw [Nat.zero_add]) ?_
 simp only [List.nil_append]
 refine o_struct rfl rfl rfl .free rfl ?_
 refine o_alloc .free rfl ?_
 intro b9
 refine o_st rfl rfl rfl rfl .free ?_
 refine o_done ?_
 refine Se rfl ?_
 refine o_fieldAddr rfl .free rfl ?_
 refine o_lO1 rfl .free rfl ?_
 first | refine o_ixD rfl rfl 0 rfl .free rfl ?_ | refine o_ixP rfl rfl 0 rfl .free rfl ?_
 refine o_fieldAddr' rfl .free rfl ?_
 refine o_lIF rfl .free rfl ?_
 refine o_call rfl .free rfl (g_l2Kids ((Ex.ite a b d).tree.pt 0).atom _ _) ?_
 rw [← hhd]; rintro _ _ _ _ ⟨rfl, rfl, rfl⟩
 refine Om rfl ?_
 refine o_extract rfl rfl .free rfl ?_
 refine o_extract rfl rfl .free rfl ?_
 refine Oa rfl ?_
 refine Oa rfl ?_
 refine o_done ?_
 refine s_seq ?_
 refine s_seq ?_
 have hkr : kidRange (Ex.ite a b d).tree.head = (1, 4) := rfl
 rw [hkr]
 have hlen : (Ex.ite a b d).tree.parts.length = 4 := rfl
 have hki := kids_ite a b d
 have hp0 : ((Ex.ite a b d).tree.pt 0).atom = tIf := rfl
 simp only [Ex.ite.sizeOf_spec] at hlt
 simp only [Ex.ok, Bool.and_eq_true, decide_eq_true_eq] at hok
 simp only [Ex.nb] at hk
 simp only [Ex.size] at hfl
 simp only [show (Ex.ite a b d).tree.parts = [.node tIf [], a.tree, b.tree, d.tree] from rfl, cellsF, List.cons_append, List.nil_append]
 refine s_mem (fun w h => h.f4) ?_
 refine o_enter rfl ?_
 refine o_fieldAddr rfl .free rfl ?_
 refine o_lO1 rfl .free rfl ?_
 first | refine o_ixD rfl rfl 0 rfl .free rfl ?_ | refine o_ixP rfl rfl 0 rfl .free rfl ?_
 refine o_fieldAddr' rfl .free rfl ?_
 refine o_lIF rfl .free rfl ?_
 refine o_cmps rfl rfl rfl .free rfl ?_
 refine o_done ?_
 first | refine s_fp rfl (by rw [hp0]; decide) ?_ | refine s_fn rfl (by rw [hp0]; decide) ?_ | refine s_false (by simp [look, opd, *]) ?_
 refine s_skip ?_
 refine s_seq ?_
 refine Se rfl ?_
 refine o_fieldAddr rfl .free rfl ?_
 refine o_lO1 rfl .free rfl ?_
 first | refine o_ixD rfl rfl 0 rfl .free rfl ?_ | refine o_ixP rfl rfl 0 rfl .free rfl ?_
 refine o_fieldAddr' rfl .free rfl ?_
 refine o_lIF rfl .free rfl ?_
 refine o_cmps rfl rfl rfl .free rfl ?_
 refine o_done ?_
 first | refine s_fp rfl (by rw [hp0]; decide) ?_ | refine s_fn rfl (by rw [hp0]; decide) ?_ | refine s_false (by simp [look, opd, *]) ?_
 refine s_skip ?_
 refine s_seq ?_
 refine Se rfl ?_
 refine Om rfl ?_
 refine Oa rfl ?_
 refine o_done ?_
 refine s_block ?_
 refine s_loop ?_
 refine s_seq ?_
 refine Se rfl ?_
 refine Om rfl ?_
 refine Om rfl ?_
 refine o_cmp rfl rfl rfl .free rfl ?_
 refine o_done ?_
 refine s_condT rfl (by first | rfl | decide | (simp; done) | omega) ?_
 refine s_skip ?_
 refine s_seq ?_
 refine s_block ?_
 refine s_here fun hlr => ?_
 have hpl := a.pl_hits av (f) (t) k
 refine d_tl 14 rfl rfl ?_
 refine Da 0 rfl (y_fieldAddr rfl) ?_
 refine Dt 1 [13] rfl (y_lO1 rfl) ?_
 refine Da 2 rfl (y_move rfl) ?_
 refine Da 3 rfl (y_fieldAddr rfl) ?_
 refine Dt 4 [13] rfl (y_lO1 rfl) ?_
 refine Da 5 rfl (y_move rfl) ?_
 first | refine Da 6 rfl (y_ixD rfl rfl _ rfl) ?_ | refine Da 6 rfl (y_ixP rfl rfl _ rfl) ?_
 refine Dt 7 [13] rfl (y_lIS rfl) ?_
 refine Da 8 rfl (y_move rfl) ?_
 refine Da 9 rfl (y_move rfl) ?_
 refine Da 10 rfl (y_move rfl) ?_
 refine d_call 11 rfl (by kernel_rfl) rfl rfl .free rfl (ihn (f := f) (t := t) (by omega) (hf.as 1 a.tree (by omega) rfl) hok.1.1 hfr hto (by simp [hft]) (by first | omega | (simp only [List.length_append, List.length_cons, List.length_nil]; omega)) hav bp _ (by omega) ha5 _) ?_
 rintro _ J2 _ e2 ⟨cs2, rfl, hr_0, rfl⟩
 obtain ⟨o2, k2, _, rfl, -⟩ := hr_0.open
 have hlr := hlr.trans e2
 have hf := hf.mono e2
 have hfr := hfr.mono e2
 have hto := hto.mono e2
 have hav := hav.mono e2
 have hle := hle.trans e2
 refine ⟨(.inr heldx), ?_⟩
 first | refine Da 12 rfl (y_ixD rfl rfl _ rfl) ?_ | refine Da 12 rfl (y_ixP rfl rfl _ rfl) ?_
 refine d_st 13 rfl (by kernel_rfl) rfl rfl rfl rfl rfl .free (.inl (by kernel_rfl)) ?_
 refine d_done (by kernel_rfl) ?_
 refine s_inBlock ?_
 refine o_enter rfl ?_
 refine Om rfl ?_
 refine o_arith rfl rfl rfl (by omega) .free rfl ?_
 refine Oa rfl ?_
 refine o_done ?_
 refine s_round ?_
 refine s_seq ?_
 refine Se rfl ?_
 refine Om rfl ?_
 refine Om rfl ?_
 refine o_cmp rfl rfl rfl .free rfl ?_
 refine o_done ?_
 refine s_condT rfl (by first | rfl | decide | (simp; done) | omega) ?_
 refine s_skip ?_
 refine s_seq ?_
 refine s_block ?_
 refine s_here fun hlr => ?_
 have hpl := b.pl_hits av (f) (t) (a.pl av (f) (t) k).2
 refine d_tl 14 rfl rfl ?_
 refine Da 0 rfl (y_fieldAddr rfl) ?_
 refine Dt 1 [13] rfl (y_lO1 rfl) ?_
 refine Da 2 rfl (y_move rfl) ?_
 refine Da 3 rfl (y_fieldAddr rfl) ?_
 refine Dt 4 [13] rfl (y_lO1 rfl) ?_
 refine Da 5 rfl (y_move rfl) ?_
 first | refine Da 6 rfl (y_ixD rfl rfl _ rfl) ?_ | refine Da 6 rfl (y_ixP rfl rfl _ rfl) ?_
 refine Dt 7 [13] rfl (y_lIS rfl) ?_
 refine Da 8 rfl (y_move rfl) ?_
 refine Da 9 rfl (y_move rfl) ?_
 refine Da 10 rfl (y_move rfl) ?_
 refine d_call 11 rfl (by kernel_rfl) rfl rfl .free rfl (ihn (f := f) (t := t) (by omega) (hf.as 2 b.tree (by omega) rfl) hok.1.2 hfr hto (by simp [hft]) (by first | omega | (simp only [List.length_append, List.length_cons, List.length_nil]; omega)) hav bp _ (by omega) ha5 _) ?_
 rintro _ J2 _ e2 ⟨cs2, rfl, hr_1, rfl⟩
 obtain ⟨o2, k2, _, rfl, -⟩ := hr_1.open
 have hlr := hlr.trans e2
 have hf := hf.mono e2
 have hfr := hfr.mono e2
 have hto := hto.mono e2
 have hav := hav.mono e2
 have hle := hle.trans e2
 have hr_0 := hr_0.mono e2
 refine ⟨(.inr heldx), ?_⟩
 first | refine Da 12 rfl (y_ixD rfl rfl _ rfl) ?_ | refine Da 12 rfl (y_ixP rfl rfl _ rfl) ?_
 refine d_st 13 rfl (by kernel_rfl) rfl rfl rfl rfl rfl .free (.inl (by kernel_rfl)) ?_
 refine d_done (by kernel_rfl) ?_
 refine s_inBlock ?_
 refine o_enter rfl ?_
 refine Om rfl ?_
 refine o_arith rfl rfl rfl (by omega) .free rfl ?_
 refine Oa rfl ?_
 refine o_done ?_
 refine s_round ?_
 refine s_seq ?_
 refine Se rfl ?_
 refine Om rfl ?_
 refine Om rfl ?_
 refine o_cmp rfl rfl rfl .free rfl ?_
 refine o_done ?_
 refine s_condT rfl (by first | rfl | decide | (simp; done) | omega) ?_
 refine s_skip ?_
 refine s_seq ?_
 refine s_block ?_
 refine s_here fun hlr => ?_
 have hpl := d.pl_hits av (f) (t) (b.pl av (f) (t) (a.pl av (f) (t) k).2).2
 refine d_tl 14 rfl rfl ?_
 refine Da 0 rfl (y_fieldAddr rfl) ?_
 refine Dt 1 [13] rfl (y_lO1 rfl) ?_
 refine Da 2 rfl (y_move rfl) ?_
 refine Da 3 rfl (y_fieldAddr rfl) ?_
 refine Dt 4 [13] rfl (y_lO1 rfl) ?_
 refine Da 5 rfl (y_move rfl) ?_
 first | refine Da 6 rfl (y_ixD rfl rfl _ rfl) ?_ | refine Da 6 rfl (y_ixP rfl rfl _ rfl) ?_
 refine Dt 7 [13] rfl (y_lIS rfl) ?_
 refine Da 8 rfl (y_move rfl) ?_
 refine Da 9 rfl (y_move rfl) ?_
 refine Da 10 rfl (y_move rfl) ?_
 refine d_call 11 rfl (by kernel_rfl) rfl rfl .free rfl (ihn (f := f) (t := t) (by omega) (hf.as 3 d.tree (by omega) rfl) hok.2 hfr hto (by simp [hft]) (by first | omega | (simp only [List.length_append, List.length_cons, List.length_nil]; omega)) hav bp _ (by omega) ha5 _) ?_
 rintro _ J2 _ e2 ⟨cs2, rfl, hr_2, rfl⟩
 obtain ⟨o2, k2, _, rfl, -⟩ := hr_2.open
 have hlr := hlr.trans e2
 have hf := hf.mono e2
 have hfr := hfr.mono e2
 have hto := hto.mono e2
 have hav := hav.mono e2
 have hle := hle.trans e2
 have hr_0 := hr_0.mono e2
 have hr_1 := hr_1.mono e2
 refine ⟨(.inr heldx), ?_⟩
 first | refine Da 12 rfl (y_ixD rfl rfl _ rfl) ?_ | refine Da 12 rfl (y_ixP rfl rfl _ rfl) ?_
 refine d_st 13 rfl (by kernel_rfl) rfl rfl rfl rfl rfl .free (.inl (by kernel_rfl)) ?_
 refine d_done (by kernel_rfl) ?_
 refine s_inBlock ?_
 refine o_enter rfl ?_
 refine Om rfl ?_
 refine o_arith rfl rfl rfl (by omega) .free rfl ?_
 refine Oa rfl ?_
 refine o_done ?_
 refine s_round ?_
 refine s_seq ?_
 refine Se rfl ?_
 refine Om rfl ?_
 refine Om rfl ?_
 refine o_cmp rfl rfl rfl .free rfl ?_
 refine o_done ?_
 refine s_condF rfl (by first | rfl | decide | (simp; done) | omega) ?_
 refine s_exit rfl ?_
 refine Se rfl ?_
 refine o_lOS rfl .free rfl ?_
 refine o_st rfl rfl rfl rfl .free ?_
 refine o_done ?_
 refine s_mem (fun w h => h.f2) (s_freeze ?_)
 intro hz
 have hf := hf.mono hz
 refine s_ret (.c rfl .nil) ?_
 exact ⟨_, _, hle.trans hz, fun w h => Mem.sub (L' := rn bp ov av cv _ :: L) (by repeat (first | exact List.Sublist.refl _ | apply List.Sublist.cons_cons | apply List.Sublist.cons)) h, _, rfl, .mk' rfl (.cons (hf.as 0 (.node tIf []) (by omega) rfl) (.cons (hr_0.mono hz) (.cons (hr_1.mono hz) (.cons (hr_2.mono hz) (.nil))))) (fun y hy => by cases hy; exact still_set (xs := [_, _, _, _, _, _, _, _])) (by simp) hcc (by simp [maxN]) (by simp [maxN]), rfl⟩
set_option maxHeartbeats 2000000 in
theorem plain_lt {n : Nat} (ihn : PlainH n) {z : Txt} {a b : Ex} {I : Heap} {cs : List Value} (hlt : SizeOf.sizeOf (Ex.lt z a b) < n + 1) (h : Rep I (Ex.lt z a b).tree cs) (hok : (Ex.lt z a b).ok = true) {f t : List Txt} {of ot : Option Addr} {cf ct : Nat} (hfr : Strs I of f cf) (hto : Strs I ot t ct) (hft : f.length = t.length) (hfl : f.length + 2 * (Ex.lt z a b).size ≤ 100000)
  {ov : Option Addr} {av : List Txt} {cv : Nat} (hav : Strs I ov av cv) (bp k : Nat) (hk : k + (Ex.lt z a b).nb + av.length ≤ 90 + hits 120 av k) (ha5 : av.length ≤ 500) (L : Own) :
  Fun Tryz.prog 33 [.agg cs.toArray, .slice of f.length cf, .slice ot t.length ct, .pointer (some ⟨bp, 0, none⟩)] I (rn bp ov av cv k :: L) (PR bp ov av cv ((Ex.lt z a b).pl av f t k) L) := by
 obtain ⟨oa, c, oaf, cf1, rfl, hf, hcl, hcs⟩ := h.cells
 have hle : HLe I I := .refl _
 have ha := hf.alen
 have hh0 := hits_le 120 av k
 refine fun_intro (by simp) ?_
 refine Se rfl ?_
 refine o_box rfl rfl .free rfl ?_
 intro b4
 refine o_alloc .free rfl ?_
 intro b8
 refine o_done ?_
 refine s_seq ?_
 refine Se rfl ?_
 refine o_fieldAddr rfl .free rfl ?_
 refine o_lO1 rfl .free rfl ?_
 refine o_cmps rfl rfl rfl .free rfl ?_
 refine o_done ?_
 first | refine s_fp rfl (by simp [Ex.tree, Tree.atom]) ?_ | refine s_fn rfl (by simp [Ex.tree, Tree.atom]) ?_ | refine s_false (by simp [look, opd, *]) ?_
 refine s_skip ?_
 refine s_seq ?_
 have hok0 := hok
 have hb : (Ex.lt z a b).bare = false := rfl
 have hpos : 0 < (Ex.lt z a b).tree.parts.length := by
  rw [Ex.bare_parts] at hb
  have : (Ex.lt z a b).tree.parts ≠ [] := by intro hh; rw [hh] at hb; cases hb
  exact List.length_pos_iff.2 this
 have hhd := head_at hpos
 obtain ⟨xa, rfl⟩ : ∃ xa, oa = some xa := ⟨_, some_oad hf.nil hpos⟩
 have hp := hf.len
 unfold maxN at hp
 refine o_enter rfl ?_
 refine o_lits0 .free rfl ?_
 intro b29
 refine o_fieldAddr rfl .free rfl ?_
 refine o_lO1 rfl .free rfl ?_
 refine o_append (B := some (b29, [])) (xs := []) (ys := cellsF oaf cf1 0 (Ex.lt z a b).tree.parts) (m := 0) (c := 0) (by intro kk; simp) (by rfl) rfl rfl ⟨rfl, Nat.le_refl _, rfl⟩ (fun _ h => h) (by have := hcl.length; omega) (fun a ha => by cases ha; exact (hcs _ rfl).reads) (by simp) hcl.plain hpos (by decide) (by omega) (by decide) .free rfl ?_
 intro bc sp cc hB'
 have hcc : (Ex.lt z a b).tree.parts.length ≤ cc := by have := hB'.2.1; omega
 refine o_put (t := 32) (v' := .slice (some ⟨bc, 0, none⟩) (Ex.lt z a b).tree.parts.length cc) rfl (by rw [Nat.zero_add]) ?_
 simp only [List.nil_append]
 refine o_struct rfl rfl rfl .free rfl ?_
 refine o_alloc .free rfl ?_
 intro b9
 refine o_st rfl rfl rfl rfl .free ?_
 refine o_done ?_
 refine Se rfl ?_
 refine o_fieldAddr rfl .free rfl ?_
 refine o_lO1 rfl .free rfl ?_
 first | refine o_ixD rfl rfl 0 rfl .free rfl ?_ | refine o_ixP rfl rfl 0 rfl .free rfl ?_
 refine o_fieldAddr' rfl .free rfl ?_
 refine o_lIF rfl .free rfl ?_
 refine o_call rfl .free rfl (g_l2Kids ((Ex.lt z a b).tree.pt 0).atom _ _) ?_
 rw [← hhd]; rintro _ _ _ _ ⟨rfl, rfl, rfl⟩
 refine Om rfl ?_
 refine o_extract rfl rfl .free rfl ?_
 refine o_extract rfl rfl .free rfl ?_
 refine Oa rfl ?_
 refine Oa rfl ?_
 refine o_done ?_
 refine s_seq ?_
 refine s_seq ?_
 have hkr : kidRange (Ex.lt z a b).tree.head = (2, 4) := rfl
 rw [hkr]
 have hlen : (Ex.lt z a b).tree.parts.length = 4 := rfl
 have hki := kids_lt' z a b
 have hp0 : ((Ex.lt z a b).tree.pt 0).atom = tLet := rfl
 simp only [Ex.lt.sizeOf_spec] at hlt
 simp only [Ex.ok, Bool.and_eq_true, decide_eq_true_eq] at hok
 simp only [Ex.nb] at hk
 simp only [Ex.size] at hfl
 simp only [show (Ex.lt z a b).tree.parts = [.node tLet [], .node z [], a.tree, b.tree] from rfl, cellsF, List.cons_append, List.nil_append]
 refine s_mem (fun w h => h.f4) ?_
 refine o_enter rfl ?_
 refine o_fieldAddr rfl .free rfl ?_
 refine o_lO1 rfl .free rfl ?_
 first | refine o_ixD rfl rfl 0 rfl .free rfl ?_ | refine o_ixP rfl rfl 0 rfl .free rfl ?_
 refine o_fieldAddr' rfl .free rfl ?_
 refine o_lIF rfl .free rfl ?_
 refine o_cmps rfl rfl rfl .free rfl ?_
 refine o_done ?_
 first | refine s_tp rfl (by rw [hp0]; rfl) ?_ | refine s_tn rfl (by rw [hp0]; rfl) ?_ | refine s_true (by simp [look, opd, *]) ?_
 refine s_seq ?_
 obtain ⟨x1, x2, x3⟩ := fr_facts 120 av k
 have x4 := fr_hits_succ 120 av k
 have x5 := hits_le 120 av (fr 120 av k)
 have x6 := hits_le 120 av (fr 120 av k + 1)
 have hzl := Ex.name_len hok.1.1
 refine o_enter rfl ?_
 refine Om rfl ?_
 refine o_call rfl .free rfl (g_l2Fresh hav bp k (by omega) _) ?_
 rintro _ _ _ _ ⟨rfl, rfl, rfl⟩
 have hnl1 := nm_len (n := fr 120 av k) (by omega)
 generalize hn1e : nm 120 (fr 120 av k) = n1 at hnl1 ⊢
 refine Oa rfl ?_
 refine o_done ?_
 refine s_seq ?_
 refine d_all 6 rfl rfl ?_
 refine Da 0 rfl (y_fieldAddr rfl) ?_
 refine Dt 1 [5] rfl (y_lO1 rfl) ?_
 refine Da 2 rfl (y_move rfl) ?_
 refine d_call 3 rfl (by kernel_rfl) rfl rfl .free rfl (g_l1Atom n1 _ _) ?_
 rintro _ _ _ _ ⟨rfl, rfl, rfl⟩
 refine ⟨(.inr heldx), ?_⟩
 first | refine Da 4 rfl (y_ixD rfl rfl 1 rfl) ?_ | refine Da 4 rfl (y_ixP rfl rfl 1 rfl) ?_
 refine d_st 5 rfl (by kernel_rfl) rfl rfl rfl rfl rfl .free (.inl (by kernel_rfl)) ?_
 refine d_done (by kernel_rfl) ?_
 refine s_seq ?_
 refine s_here fun hlr => ?_
 have hpl := a.pl_hits av f t (fr 120 av k + 1)
 refine d_tl 12 rfl rfl ?_
 refine Da 0 rfl (y_fieldAddr rfl) ?_
 refine Dt 1 [11] rfl (y_lO1 rfl) ?_
 refine Da 2 rfl (y_fieldAddr rfl) ?_
 refine Dt 3 [11] rfl (y_lO1 rfl) ?_
 first | refine Da 4 rfl (y_ixD rfl rfl 2 rfl) ?_ | refine Da 4 rfl (y_ixP rfl rfl 2 rfl) ?_
 refine Dt 5 [11] rfl (y_lIS rfl) ?_
 refine Da 6 rfl (y_move rfl) ?_
 refine Da 7 rfl (y_move rfl) ?_
 refine Da 8 rfl (y_move rfl) ?_
 refine d_call 9 rfl (by kernel_rfl) rfl rfl .free rfl (ihn (f := f) (t := t) (by omega) (hf.as 2 a.tree (by omega) rfl) hok.1.2 hfr hto hft (by omega) hav bp _ (by omega) ha5 _) ?_
 rintro _ J2 _ e2 ⟨cs2, rfl, hr_0, rfl⟩
 obtain ⟨o2, k2, _, rfl, -⟩ := hr_0.open
 have hlr := hlr.trans e2
 have hf := hf.mono e2
 have hfr := hfr.mono e2
 have hto := hto.mono e2
 have hav := hav.mono e2
 have hle := hle.trans e2
 refine ⟨(.inr heldx), ?_⟩
 first | refine Da 10 rfl (y_ixD rfl rfl 2 rfl) ?_ | refine Da 10 rfl (y_ixP rfl rfl 2 rfl) ?_
 refine d_st 11 rfl (by kernel_rfl) rfl rfl rfl rfl rfl .free (.inl (by kernel_rfl)) ?_
 refine d_done (by kernel_rfl) ?_
 refine s_seq ?_
 refine s_here fun hlr => ?_
 refine d_tl 26 rfl rfl ?_
 refine Da 0 rfl (y_fieldAddr rfl) ?_
 refine Dt 1 [25] rfl (y_lO1 rfl) ?_
 refine Da 2 rfl (y_fieldAddr rfl) ?_
 refine Dt 3 [25] rfl (y_lO1 rfl) ?_
 first | refine Da 4 rfl (y_ixD rfl rfl 3 rfl) ?_ | refine Da 4 rfl (y_ixP rfl rfl 3 rfl) ?_
 refine Dt 5 [25] rfl (y_lIS rfl) ?_
 refine Da 7 rfl (y_move rfl) ?_
 refine Da 9 rfl (y_fieldAddr rfl) ?_
 refine Dt 10 [25] rfl (y_lO1 rfl) ?_
 first | refine Da 11 rfl (y_ixD rfl rfl 1 rfl) ?_ | refine Da 11 rfl (y_ixP rfl rfl 1 rfl) ?_
 refine Da 12 rfl (y_fieldAddr' rfl) ?_
 refine Dt 13 [25] rfl (y_lIF rfl) ?_
 refine Da 17 rfl (y_move rfl) ?_
 refine Da 19 rfl (y_move rfl) ?_
 refine Da 22 rfl (y_move rfl) ?_
 refine d_env (E' := [(8, _), (9, _), (68, _), (72, _), (74, _), (80, _), (84, _), (86, _), (89, _)]) ⟨rfl, rfl, rfl, rfl, rfl, rfl, rfl, rfl, rfl, trivial⟩ ?_
 refine d_state (X := G11) 3 #[true, true, true, true, true, true, true, true, true, true, true, true, true, true, true, true, true, true, true, true, true, true, true, false, false, false] (fun x => [(82, bufVal (0 + f.length + 1) x.c x.B), (88, bufVal (0 + t.length + 1) x.e x.D)]) (fun x L => bufOwn 9 ([] ++ f.map sv ++ [sv z]) x.B ++ ([(x.b14, .cells [sv z].toArray 9 (0, 0))] ++ (bufOwn 9 ([] ++ t.map sv ++ [sv n1]) x.D ++ ([(x.b20, .cells [sv n1].toArray 9 (0, 0))] ++ L)))) (fun x => BufOk 1 (0 + f.length + 1) x.c ([] ++ f.map sv ++ [sv z]) x.B ∧ BufOk 1 (0 + t.length + 1) x.e ([] ++ t.map sv ++ [sv n1]) x.D) ?_ ?_
 ·rintro ⟨b6, b14, b16, b20, B2, c2, B4, c4⟩ ⟨hB2, hB4⟩
  simp only at hB2 hB4
  rw [show [] ++ f.map sv ++ [sv z] = (f ++ [z]).map sv by simp] at hB2
  rw [show [] ++ t.map sv ++ [sv n1] = (t ++ [n1]).map sv by simp] at hB4
  refine d_mem (L' := bufOwn 9 ((f ++ [z]).map sv) B2 ++ ([(b14, .cells [sv z].toArray 9 (0, 0))] ++ (bufOwn 9 ((t ++ [n1]).map sv) B4 ++ ([(b20, .cells [sv n1].toArray 9 (0, 0))] ++ _)))) (fun w h => by rw [show (f ++ [z]).map sv = [] ++ f.map sv ++ [sv z] by simp, show (t ++ [n1]).map sv = [] ++ t.map sv ++ [sv n1] by simp]; exact h) ?_
  refine d_freezeStrs hB2 (by simp) (by simp [maxN]; omega) (by intro s hs; rcases List.mem_append.1 hs with hs | hs; exact hfr.each s hs; rw [List.mem_singleton.1 hs]; exact hzl) ?_
  intro J3 o3 k3 ez hbv hs3
  refine d_put (t := 82) rfl hbv ?_
  have hlr := hlr.trans ez
  have hf := hf.mono ez
  have hfr := hfr.mono ez
  have hto := hto.mono ez
  have hav := hav.mono ez
  have hle := hle.trans ez
  have hr_0 := hr_0.mono ez
  refine d_mem (fun w h => Mem.seg2 (A := [(b14, _)]) h) ?_
  refine d_freezeStrs hB4 (by simp) (by simp [maxN]; omega) (by intro s hs; rcases List.mem_append.1 hs with hs | hs; exact hto.each s hs; rw [List.mem_singleton.1 hs]; exact hnl1) ?_
  intro J4 o4 k4 ey hbv4 hs4
  refine d_put (t := 88) rfl hbv4 ?_
  have hs3 := hs3.mono ey
  have hlr := hlr.trans ey
  have hf := hf.mono ey
  have hfr := hfr.mono ey
  have hto := hto.mono ey
  have hav := hav.mono ey
  have hle := hle.trans ey
  have hr_0 := hr_0.mono ey
  refine d_mem (fun w h => h.drop.drop) ?_
  refine d_call 23 rfl (by kernel_rfl) rfl rfl .free rfl (ihn (f := f ++ [z]) (t := t ++ [n1]) (by omega) (hf.as 3 b.tree (by omega) rfl) hok.2 hs3 hs4 (by simp [hft]) (by simp only [List.length_append, List.length_cons, List.length_nil]; omega) hav bp _ (by omega) ha5 _) ?_
  rintro _ J5 _ e5 ⟨cs5, rfl, hr_1, rfl⟩
  obtain ⟨o5, k5, _, rfl, -⟩ := hr_1.open
  have hlr := hlr.trans e5
  have hf := hf.mono e5
  have hfr := hfr.mono e5
  have hto := hto.mono e5
  have hav := hav.mono e5
  have hle := hle.trans e5
  have hr_0 := hr_0.mono e5
  refine ⟨(.inr heldx), ?_⟩
  first | refine Da 24 rfl (y_ixD rfl rfl 3 rfl) ?_ | refine Da 24 rfl (y_ixP rfl rfl 3 rfl) ?_
  refine d_st 25 rfl (by kernel_rfl) rfl rfl rfl rfl rfl .free (.inl (by kernel_rfl)) ?_
  refine d_done (by kernel_rfl) ?_
  refine Se rfl ?_
  refine o_lOS rfl .free rfl ?_
  refine o_st rfl rfl rfl rfl .free ?_
  refine o_done ?_
  refine s_mem (fun w h => h.f2) (s_freeze ?_)
  intro hz
  have hf := hf.mono hz
  refine s_ret (.c rfl .nil) ?_
  subst hn1e
  exact ⟨_, _, hle.trans hz, fun w h => Mem.sub (L' := rn bp ov av cv _ :: L) (by repeat (first | exact List.Sublist.refl _ | apply List.Sublist.cons_cons | apply List.Sublist.cons)) h, _, rfl, .mk' rfl (.cons (hf.as 0 (.node tLet []) (by omega) rfl) (.cons (.ofAtom hnl1) (.cons (hr_0.mono hz) (.cons (hr_1.mono hz) .nil)))) (fun y hy => by cases hy; exact still_set (xs := [_, _, _, _, _, _, _, _])) (by simp) hcc (by simp [maxN]) (by simp [maxN]), rfl⟩
 ·intro k5111
  refine d_state (X := G11) 4 #[true, true, true, true, true, true, true, true, true, true, true, true, true, true, true, true, true, true, true, true, true, false, true, false, false, false] (fun x => [(82, bufVal (0 + f.length + 1) x.c x.B), (85, bufVal (0 + t.length) x.e x.D), (87, .slice (some ⟨x.b20, 0, none⟩) 1 1)]) (fun x L => bufOwn 9 ([] ++ f.map sv ++ [sv z]) x.B ++ ([(x.b14, .cells [sv z].toArray 9 (0, 0))] ++ (bufOwn 9 ([] ++ t.map sv) x.D ++ ([(x.b20, .cells [sv n1].toArray 9 (0, 0))] ++ L)))) (fun x => BufOk 1 (0 + f.length + 1) x.c ([] ++ f.map sv ++ [sv z]) x.B ∧ BufOk 1 (0 + t.length) x.e ([] ++ t.map sv) x.D) ?_ ?_
  ·rintro ⟨b6, b14, b16, b20, B, c, D, e⟩ ⟨h1, h2⟩
   try simp only at h1
   try simp only at h2
   refine d_appendB 21 (B := D) (xs := [] ++ t.map sv) (ys := [sv n1]) (m := 0 + t.length) (c := e) rfl (by kernel_rfl) rfl (by intro kk; simp) (by rfl) rfl rfl h2 (fun _ h => Mem.seg3 (B := [(b14, _)]) h) (by rfl) (fun a ha => by cases ha; exact reads_ownL (List.mem_append_right _ (List.mem_append_right _ (List.mem_append_left _ (List.mem_singleton.2 rfl)))) (by rfl)) (by simp) (by rfl) (by decide) (by omega) (by decide) .free rfl (fun _ => .inr heldx) ?_
   intro D e h2
   refine d_mem (fun w h => Mem.ins3 (A := bufOwn _ _ D) (B := bufOwn _ _ B) (C := [(b14, _)]) h) (d_env ?_ (k5111 ⟨b6, b14, b16, b20, B, c, D, e⟩ ⟨h1, h2⟩))
   exact ⟨rfl, rfl, rfl, rfl, rfl, rfl, rfl, rfl, rfl, rfl, rfl, trivial⟩
  ·intro k4111
   refine d_state (X := G11) 5 #[true, true, true, true, true, true, true, true, true, true, true, true, true, true, true, true, true, true, false, true, true, false, true, false, false, false] (fun x => [(82, bufVal (0 + f.length + 1) x.c x.B), (83, .slice (some ⟨x.b16, 0, none⟩) 0 0), (87, .slice (some ⟨x.b20, 0, none⟩) 1 1)]) (fun x L => bufOwn 9 ([] ++ f.map sv ++ [sv z]) x.B ++ ([(x.b14, .cells [sv z].toArray 9 (0, 0))] ++ ([(x.b16, .cells [].toArray 9 (0, 0))] ++ ([(x.b20, .cells [sv n1].toArray 9 (0, 0))] ++ L)))) (fun x => BufOk 1 (0 + f.length + 1) x.c ([] ++ f.map sv ++ [sv z]) x.B) ?_ ?_
   ·rintro ⟨b6, b14, b16, b20, B, c, D, e⟩ h1
    try simp only at h1
    refine d_appendB 18 (B := some (b16, [])) (xs := []) (ys := t.map sv) (m := 0) (c := 0) rfl (by kernel_rfl) rfl (by intro kk; simp) (by rfl) rfl rfl ⟨rfl, Nat.le_refl _, rfl⟩ (fun _ h => Mem.seg3 (B := [(b14, _)]) (C := [(b16, _)]) h) (by simp) hto.reads hto.none (sv_plain t) (by decide) (by omega) (by decide) .free rfl (fun _ => .inr heldx) ?_
    intro D e h2
    refine d_mem (fun w h => Mem.ins3 (A := bufOwn _ _ D) (B := bufOwn _ _ B) (C := [(b14, _)]) h) (d_env ?_ (k4111 ⟨b6, b14, b16, b20, B, c, D, e⟩ ⟨h1, h2⟩))
    exact ⟨rfl, rfl, rfl, rfl, rfl, rfl, rfl, rfl, rfl, rfl, rfl, rfl, trivial⟩
   ·intro k3111
    refine d_state (X := G11) 5 #[true, true, true, true, true, true, true, true, true, true, true, true, true, true, true, true, true, true, true, true, false, false, true, false, false, false] (fun x => [(82, bufVal (0 + f.length + 1) x.c x.B), (85, bufVal (0 + t.length) x.e x.D)]) (fun x L => bufOwn 9 ([] ++ f.map sv ++ [sv z]) x.B ++ ([(x.b14, .cells [sv z].toArray 9 (0, 0))] ++ (bufOwn 9 ([] ++ t.map sv) x.D ++ ([] ++ L)))) (fun x => BufOk 1 (0 + f.length + 1) x.c ([] ++ f.map sv ++ [sv z]) x.B ∧ BufOk 1 (0 + t.length) x.e ([] ++ t.map sv) x.D) ?_ ?_
    ·rintro ⟨b6, b14, b16, b20, B, c, D, e⟩ ⟨h1, h2⟩
     try simp only at h1
     try simp only at h2
     refine d_lits 20 rfl (by kernel_rfl) rfl rfl rfl (by rfl) (by rfl) (by rfl) (by decide) (by decide) (by rfl) .free rfl (.inr heldx) ?_
     intro b20
     refine d_mem (fun w h => Mem.ins4 (A := [(b20, _)]) (B := bufOwn _ _ B) (C := [(b14, _)]) (D := bufOwn _ _ D) h) (d_env ?_ (k4111 ⟨b6, b14, b16, b20, B, c, D, e⟩ ⟨h1, h2⟩))
     exact ⟨rfl, rfl, rfl, rfl, rfl, rfl, rfl, rfl, rfl, rfl, rfl, rfl, trivial⟩
    ·intro k4110
     refine d_state (X := G11) 6 #[true, true, true, true, true, true, true, true, true, true, true, true, true, true, true, false, true, true, false, true, true, false, true, false, false, false] (fun x => [(75, bufVal (0 + f.length) x.c x.B), (81, .slice (some ⟨x.b14, 0, none⟩) 1 1), (83, .slice (some ⟨x.b16, 0, none⟩) 0 0), (87, .slice (some ⟨x.b20, 0, none⟩) 1 1)]) (fun x L => bufOwn 9 ([] ++ f.map sv) x.B ++ ([(x.b14, .cells [sv z].toArray 9 (0, 0))] ++ ([(x.b16, .cells [].toArray 9 (0, 0))] ++ ([(x.b20, .cells [sv n1].toArray 9 (0, 0))] ++ L)))) (fun x => BufOk 1 (0 + f.length) x.c ([] ++ f.map sv) x.B) ?_ ?_
     ·rintro ⟨b6, b14, b16, b20, B, c, D, e⟩ h1
      try simp only at h1
      refine d_appendB 15 (B := B) (xs := [] ++ f.map sv) (ys := [sv z]) (m := 0 + f.length) (c := c) rfl (by kernel_rfl) rfl (by intro kk; simp) (by rfl) rfl rfl h1 (fun _ h => h) (by rfl) (fun a ha => by cases ha; exact reads_ownL (List.mem_append_left _ (List.mem_singleton.2 rfl)) (by rfl)) (by simp) (by rfl) (by decide) (by omega) (by decide) .free rfl (fun _ => .inr heldx) ?_
      intro B c h1
      refine d_mem (fun w h => h) (d_env ?_ (k3111 ⟨b6, b14, b16, b20, B, c, D, e⟩ h1))
      exact ⟨rfl, rfl, rfl, rfl, rfl, rfl, rfl, rfl, rfl, rfl, rfl, rfl, trivial⟩
     ·intro k2111
      refine d_state (X := G11) 6 #[true, true, true, true, true, true, true, true, true, true, true, true, true, true, true, true, false, true, false, true, true, false, true, false, false, false] (fun x => [(82, bufVal (0 + f.length + 1) x.c x.B), (87, .slice (some ⟨x.b20, 0, none⟩) 1 1)]) (fun x L => bufOwn 9 ([] ++ f.map sv ++ [sv z]) x.B ++ ([(x.b14, .cells [sv z].toArray 9 (0, 0))] ++ ([] ++ ([(x.b20, .cells [sv n1].toArray 9 (0, 0))] ++ L)))) (fun x => BufOk 1 (0 + f.length + 1) x.c ([] ++ f.map sv ++ [sv z]) x.B) ?_ ?_
      ·rintro ⟨b6, b14, b16, b20, B, c, D, e⟩ h1
       try simp only at h1
       refine d_lits0 16 rfl (by kernel_rfl) rfl .free rfl (.inr heldx) ?_
       intro b16
       refine d_mem (fun w h => Mem.ins3 (A := [(b16, _)]) (B := bufOwn _ _ B) (C := [(b14, _)]) h) (d_env ?_ (k3111 ⟨b6, b14, b16, b20, B, c, D, e⟩ h1))
       exact ⟨rfl, rfl, rfl, rfl, rfl, rfl, rfl, rfl, rfl, rfl, rfl, rfl, trivial⟩
      ·intro k3101
       refine d_state (X := G11) 6 #[true, true, true, true, true, true, true, true, true, true, true, true, true, true, true, true, true, true, false, true, false, false, true, false, false, false] (fun x => [(82, bufVal (0 + f.length + 1) x.c x.B), (83, .slice (some ⟨x.b16, 0, none⟩) 0 0)]) (fun x L => bufOwn 9 ([] ++ f.map sv ++ [sv z]) x.B ++ ([(x.b14, .cells [sv z].toArray 9 (0, 0))] ++ ([(x.b16, .cells [].toArray 9 (0, 0))] ++ ([] ++ L)))) (fun x => BufOk 1 (0 + f.length + 1) x.c ([] ++ f.map sv ++ [sv z]) x.B) ?_ ?_
       ·rintro ⟨b6, b14, b16, b20, B, c, D, e⟩ h1
        try simp only at h1
        refine d_two 18 20 (by kernel_rfl) ?_ ?_
        ·skip
         refine i_appendB 18 (B := some (b16, [])) (xs := []) (ys := t.map sv) (m := 0) (c := 0) rfl rfl (by intro kk; simp) (by rfl) rfl rfl ⟨rfl, Nat.le_refl _, rfl⟩ (fun _ h => Mem.seg3 (B := [(b14, _)]) (C := [(b16, _)]) h) (by simp) hto.reads hto.none (sv_plain t) (by decide) (by omega) (by decide) .free rfl (fun _ => .inr heldx) ?_
         intro D e h2
         refine d_mem (fun w h => Mem.ins3 (A := bufOwn _ _ D) (B := bufOwn _ _ B) (C := [(b14, _)]) h) (d_env ?_ (k4110 ⟨b6, b14, b16, b20, B, c, D, e⟩ ⟨h1, h2⟩))
         exact ⟨rfl, rfl, rfl, rfl, rfl, rfl, rfl, rfl, rfl, rfl, rfl, trivial⟩
        ·skip
         refine i_lits 20 rfl rfl rfl rfl (by rfl) (by rfl) (by rfl) (by decide) (by decide) (by rfl) .free rfl (.inr heldx) ?_
         intro b20
         refine d_mem (fun w h => Mem.ins4 (A := [(b20, _)]) (B := bufOwn _ _ B) (C := [(b14, _)]) (D := [(b16, _)]) h) (d_env ?_ (k3111 ⟨b6, b14, b16, b20, B, c, D, e⟩ h1))
         exact ⟨rfl, rfl, rfl, rfl, rfl, rfl, rfl, rfl, rfl, rfl, rfl, rfl, trivial⟩
       ·intro k3110
        refine d_state (X := G11) 7 #[true, true, true, true, true, true, true, true, false, true, true, true, true, true, true, false, true, true, false, true, true, false, true, false, false, false] (fun x => [(73, .slice (some ⟨x.b6, 0, none⟩) 0 0), (81, .slice (some ⟨x.b14, 0, none⟩) 1 1), (83, .slice (some ⟨x.b16, 0, none⟩) 0 0), (87, .slice (some ⟨x.b20, 0, none⟩) 1 1)]) (fun x L => [(x.b6, .cells [].toArray 9 (0, 0))] ++ ([(x.b14, .cells [sv z].toArray 9 (0, 0))] ++ ([(x.b16, .cells [].toArray 9 (0, 0))] ++ ([(x.b20, .cells [sv n1].toArray 9 (0, 0))] ++ L)))) (fun x => True) ?_ ?_
        ·rintro ⟨b6, b14, b16, b20, B, c, D, e⟩ h1
         try simp only at h1
         refine d_appendB 8 (B := some (b6, [])) (xs := []) (ys := f.map sv) (m := 0) (c := 0) rfl (by kernel_rfl) rfl (by intro kk; simp) (by rfl) rfl rfl ⟨rfl, Nat.le_refl _, rfl⟩ (fun _ h => h) (by simp) hfr.reads hfr.none (sv_plain f) (by decide) (by omega) (by decide) .free rfl (fun _ => .inr heldx) ?_
         intro B c h1
         refine d_mem (fun w h => h) (d_env ?_ (k2111 ⟨b6, b14, b16, b20, B, c, D, e⟩ h1))
         exact ⟨rfl, rfl, rfl, rfl, rfl, rfl, rfl, rfl, rfl, rfl, rfl, rfl, rfl, trivial⟩
        ·intro k1111
         refine d_state (X := G11) 7 #[true, true, true, true, true, true, true, true, true, true, true, true, true, true, false, false, true, true, false, true, true, false, true, false, false, false] (fun x => [(75, bufVal (0 + f.length) x.c x.B), (83, .slice (some ⟨x.b16, 0, none⟩) 0 0), (87, .slice (some ⟨x.b20, 0, none⟩) 1 1)]) (fun x L => bufOwn 9 ([] ++ f.map sv) x.B ++ ([] ++ ([(x.b16, .cells [].toArray 9 (0, 0))] ++ ([(x.b20, .cells [sv n1].toArray 9 (0, 0))] ++ L)))) (fun x => BufOk 1 (0 + f.length) x.c ([] ++ f.map sv) x.B) ?_ ?_
         ·rintro ⟨b6, b14, b16, b20, B, c, D, e⟩ h1
          try simp only at h1
          refine d_lits 14 rfl (by kernel_rfl) rfl rfl rfl (by rfl) (by rfl) (by rfl) (by decide) (by decide) (by rfl) .free rfl (.inr heldx) ?_
          intro b14
          refine d_mem (fun w h => Mem.seg2 (A := [(b14, _)]) (B := bufOwn _ _ B) h) (d_env ?_ (k2111 ⟨b6, b14, b16, b20, B, c, D, e⟩ h1))
          exact ⟨rfl, rfl, rfl, rfl, rfl, rfl, rfl, rfl, rfl, rfl, rfl, rfl, rfl, trivial⟩
         ·intro k2011
          refine d_state (X := G11) 7 #[true, true, true, true, true, true, true, true, true, true, true, true, true, true, true, false, false, true, false, true, true, false, true, false, false, false] (fun x => [(75, bufVal (0 + f.length) x.c x.B), (81, .slice (some ⟨x.b14, 0, none⟩) 1 1), (87, .slice (some ⟨x.b20, 0, none⟩) 1 1)]) (fun x L => bufOwn 9 ([] ++ f.map sv) x.B ++ ([(x.b14, .cells [sv z].toArray 9 (0, 0))] ++ ([] ++ ([(x.b20, .cells [sv n1].toArray 9 (0, 0))] ++ L)))) (fun x => BufOk 1 (0 + f.length) x.c ([] ++ f.map sv) x.B) ?_ ?_
          ·rintro ⟨b6, b14, b16, b20, B, c, D, e⟩ h1
           try simp only at h1
           refine d_two 15 16 (by kernel_rfl) ?_ ?_
           ·skip
            refine i_appendB 15 (B := B) (xs := [] ++ f.map sv) (ys := [sv z]) (m := 0 + f.length) (c := c) rfl rfl (by intro kk; simp) (by rfl) rfl rfl h1 (fun _ h => h) (by rfl) (fun a ha => by cases ha; exact reads_ownL (List.mem_append_left _ (List.mem_singleton.2 rfl)) (by rfl)) (by simp) (by rfl) (by decide) (by omega) (by decide) .free rfl (fun _ => .inr heldx) ?_
            intro B c h1
            refine d_mem (fun w h => h) (d_env ?_ (k3101 ⟨b6, b14, b16, b20, B, c, D, e⟩ h1))
            exact ⟨rfl, rfl, rfl, rfl, rfl, rfl, rfl, rfl, rfl, rfl, rfl, trivial⟩
           ·skip
            refine i_lits0 16 rfl rfl .free rfl (.inr heldx) ?_
            intro b16
            refine d_mem (fun w h => Mem.ins3 (A := [(b16, _)]) (B := bufOwn _ _ B) (C := [(b14, _)]) h) (d_env ?_ (k2111 ⟨b6, b14, b16, b20, B, c, D, e⟩ h1))
            exact ⟨rfl, rfl, rfl, rfl, rfl, rfl, rfl, rfl, rfl, rfl, rfl, rfl, rfl, trivial⟩
          ·intro k2101
           refine d_state (X := G11) 7 #[true, true, true, true, true, true, true, true, true, true, true, true, true, true, true, false, true, true, false, true, false, false, true, false, false, false] (fun x => [(75, bufVal (0 + f.length) x.c x.B), (81, .slice (some ⟨x.b14, 0, none⟩) 1 1), (83, .slice (some ⟨x.b16, 0, none⟩) 0 0)]) (fun x L => bufOwn 9 ([] ++ f.map sv) x.B ++ ([(x.b14, .cells [sv z].toArray 9 (0, 0))] ++ ([(x.b16, .cells [].toArray 9 (0, 0))] ++ ([] ++ L)))) (fun x => BufOk 1 (0 + f.length) x.c ([] ++ f.map sv) x.B) ?_ ?_
           ·rintro ⟨b6, b14, b16, b20, B, c, D, e⟩ h1
            try simp only at h1
            refine d_two 15 20 (by kernel_rfl) ?_ ?_
            ·skip
             refine i_appendB 15 (B := B) (xs := [] ++ f.map sv) (ys := [sv z]) (m := 0 + f.length) (c := c) rfl rfl (by intro kk; simp) (by rfl) rfl rfl h1 (fun _ h => h) (by rfl) (fun a ha => by cases ha; exact reads_ownL (List.mem_append_left _ (List.mem_singleton.2 rfl)) (by rfl)) (by simp) (by rfl) (by decide) (by omega) (by decide) .free rfl (fun _ => .inr heldx) ?_
             intro B c h1
             refine d_mem (fun w h => h) (d_env ?_ (k3110 ⟨b6, b14, b16, b20, B, c, D, e⟩ h1))
             exact ⟨rfl, rfl, rfl, rfl, rfl, rfl, rfl, rfl, rfl, rfl, rfl, trivial⟩
            ·skip
             refine i_lits 20 rfl rfl rfl rfl (by rfl) (by rfl) (by rfl) (by decide) (by decide) (by rfl) .free rfl (.inr heldx) ?_
             intro b20
             refine d_mem (fun w h => Mem.ins4 (A := [(b20, _)]) (B := bufOwn _ _ B) (C := [(b14, _)]) (D := [(b16, _)]) h) (d_env ?_ (k2111 ⟨b6, b14, b16, b20, B, c, D, e⟩ h1))
             exact ⟨rfl, rfl, rfl, rfl, rfl, rfl, rfl, rfl, rfl, rfl, rfl, rfl, rfl, trivial⟩
           ·intro k2110
            refine d_state (X := G11) 7 #[true, true, true, true, true, true, true, true, true, true, true, true, true, true, true, true, false, true, false, true, false, false, true, false, false, false] (fun x => [(82, bufVal (0 + f.length + 1) x.c x.B)]) (fun x L => bufOwn 9 ([] ++ f.map sv ++ [sv z]) x.B ++ ([(x.b14, .cells [sv z].toArray 9 (0, 0))] ++ ([] ++ ([] ++ L)))) (fun x => BufOk 1 (0 + f.length + 1) x.c ([] ++ f.map sv ++ [sv z]) x.B) ?_ ?_
            ·rintro ⟨b6, b14, b16, b20, B, c, D, e⟩ h1
             try simp only at h1
             refine d_two 16 20 (by kernel_rfl) ?_ ?_
             ·skip
              refine i_lits0 16 rfl rfl .free rfl (.inr heldx) ?_
              intro b16
              refine d_mem (fun w h => Mem.ins3 (A := [(b16, _)]) (B := bufOwn _ _ B) (C := [(b14, _)]) h) (d_env ?_ (k3110 ⟨b6, b14, b16, b20, B, c, D, e⟩ h1))
              exact ⟨rfl, rfl, rfl, rfl, rfl, rfl, rfl, rfl, rfl, rfl, rfl, trivial⟩
             ·skip
              refine i_lits 20 rfl rfl rfl rfl (by rfl) (by rfl) (by rfl) (by decide) (by decide) (by rfl) .free rfl (.inr heldx) ?_
              intro b20
              refine d_mem (fun w h => Mem.ins4 (A := [(b20, _)]) (B := bufOwn _ _ B) (C := [(b14, _)]) (D := []) h) (d_env ?_ (k3101 ⟨b6, b14, b16, b20, B, c, D, e⟩ h1))
              exact ⟨rfl, rfl, rfl, rfl, rfl, rfl, rfl, rfl, rfl, rfl, rfl, trivial⟩
            ·intro k3100
             refine d_state (X := G11) 8 #[true, true, true, true, true, true, false, true, false, true, true, true, true, true, true, false, true, true, false, true, true, false, true, false, false, false] (fun x => [(81, .slice (some ⟨x.b14, 0, none⟩) 1 1), (83, .slice (some ⟨x.b16, 0, none⟩) 0 0), (87, .slice (some ⟨x.b20, 0, none⟩) 1 1)]) (fun x L => [] ++ ([(x.b14, .cells [sv z].toArray 9 (0, 0))] ++ ([(x.b16, .cells [].toArray 9 (0, 0))] ++ ([(x.b20, .cells [sv n1].toArray 9 (0, 0))] ++ L)))) (fun x => True) ?_ ?_
             ·rintro ⟨b6, b14, b16, b20, B, c, D, e⟩ h1
              try simp only at h1
              refine d_lits0 6 rfl (by kernel_rfl) rfl .free rfl (.inr heldx) ?_
              intro b6
              refine d_mem (fun w h => h) (d_env ?_ (k1111 ⟨b6, b14, b16, b20, B, c, D, e⟩ trivial))
              exact ⟨rfl, rfl, rfl, rfl, rfl, rfl, rfl, rfl, rfl, rfl, rfl, rfl, rfl, trivial⟩
             ·intro k0111
              refine d_state (X := G11) 8 #[true, true, true, true, true, true, true, true, false, true, true, true, true, true, false, false, true, true, false, true, true, false, true, false, false, false] (fun x => [(73, .slice (some ⟨x.b6, 0, none⟩) 0 0), (83, .slice (some ⟨x.b16, 0, none⟩) 0 0), (87, .slice (some ⟨x.b20, 0, none⟩) 1 1)]) (fun x L => [(x.b6, .cells [].toArray 9 (0, 0))] ++ ([] ++ ([(x.b16, .cells [].toArray 9 (0, 0))] ++ ([(x.b20, .cells [sv n1].toArray 9 (0, 0))] ++ L)))) (fun x => True) ?_ ?_
              ·rintro ⟨b6, b14, b16, b20, B, c, D, e⟩ h1
               try simp only at h1
               refine d_two 8 14 (by kernel_rfl) ?_ ?_
               ·skip
                refine i_appendB 8 (B := some (b6, [])) (xs := []) (ys := f.map sv) (m := 0) (c := 0) rfl rfl (by intro kk; simp) (by rfl) rfl rfl ⟨rfl, Nat.le_refl _, rfl⟩ (fun _ h => h) (by simp) hfr.reads hfr.none (sv_plain f) (by decide) (by omega) (by decide) .free rfl (fun _ => .inr heldx) ?_
                intro B c h1
                refine d_mem (fun w h => h) (d_env ?_ (k2011 ⟨b6, b14, b16, b20, B, c, D, e⟩ h1))
                exact ⟨rfl, rfl, rfl, rfl, rfl, rfl, rfl, rfl, rfl, rfl, rfl, rfl, trivial⟩
               ·skip
                refine i_lits 14 rfl rfl rfl rfl (by rfl) (by rfl) (by rfl) (by decide) (by decide) (by rfl) .free rfl (.inr heldx) ?_
                intro b14
                refine d_mem (fun w h => Mem.seg2 (A := [(b14, _)]) (B := [(b6, _)]) h) (d_env ?_ (k1111 ⟨b6, b14, b16, b20, B, c, D, e⟩ trivial))
                exact ⟨rfl, rfl, rfl, rfl, rfl, rfl, rfl, rfl, rfl, rfl, rfl, rfl, rfl, trivial⟩
              ·intro k1011
               refine d_state (X := G11) 8 #[true, true, true, true, true, true, true, true, false, true, true, true, true, true, true, false, false, true, false, true, true, false, true, false, false, false] (fun x => [(73, .slice (some ⟨x.b6, 0, none⟩) 0 0), (81, .slice (some ⟨x.b14, 0, none⟩) 1 1), (87, .slice (some ⟨x.b20, 0, none⟩) 1 1)]) (fun x L => [(x.b6, .cells [].toArray 9 (0, 0))] ++ ([(x.b14, .cells [sv z].toArray 9 (0, 0))] ++ ([] ++ ([(x.b20, .cells [sv n1].toArray 9 (0, 0))] ++ L)))) (fun x => True) ?_ ?_
               ·rintro ⟨b6, b14, b16, b20, B, c, D, e⟩ h1
                try simp only at h1
                refine d_two 8 16 (by kernel_rfl) ?_ ?_
                ·skip
                 refine i_appendB 8 (B := some (b6, [])) (xs := []) (ys := f.map sv) (m := 0) (c := 0) rfl rfl (by intro kk; simp) (by rfl) rfl rfl ⟨rfl, Nat.le_refl _, rfl⟩ (fun _ h => h) (by simp) hfr.reads hfr.none (sv_plain f) (by decide) (by omega) (by decide) .free rfl (fun _ => .inr heldx) ?_
                 intro B c h1
                 refine d_mem (fun w h => h) (d_env ?_ (k2101 ⟨b6, b14, b16, b20, B, c, D, e⟩ h1))
                 exact ⟨rfl, rfl, rfl, rfl, rfl, rfl, rfl, rfl, rfl, rfl, rfl, rfl, trivial⟩
                ·skip
                 refine i_lits0 16 rfl rfl .free rfl (.inr heldx) ?_
                 intro b16
                 refine d_mem (fun w h => Mem.ins3 (A := [(b16, _)]) (B := [(b6, _)]) (C := [(b14, _)]) h) (d_env ?_ (k1111 ⟨b6, b14, b16, b20, B, c, D, e⟩ trivial))
                 exact ⟨rfl, rfl, rfl, rfl, rfl, rfl, rfl, rfl, rfl, rfl, rfl, rfl, rfl, trivial⟩
               ·intro k1101
                refine d_state (X := G11) 8 #[true, true, true, true, true, true, true, true, false, true, true, true, true, true, true, false, true, true, false, true, false, false, true, false, false, false] (fun x => [(73, .slice (some ⟨x.b6, 0, none⟩) 0 0), (81, .slice (some ⟨x.b14, 0, none⟩) 1 1), (83, .slice (some ⟨x.b16, 0, none⟩) 0 0)]) (fun x L => [(x.b6, .cells [].toArray 9 (0, 0))] ++ ([(x.b14, .cells [sv z].toArray 9 (0, 0))] ++ ([(x.b16, .cells [].toArray 9 (0, 0))] ++ ([] ++ L)))) (fun x => True) ?_ ?_
                ·rintro ⟨b6, b14, b16, b20, B, c, D, e⟩ h1
                 try simp only at h1
                 refine d_two 8 20 (by kernel_rfl) ?_ ?_
                 ·skip
                  refine i_appendB 8 (B := some (b6, [])) (xs := []) (ys := f.map sv) (m := 0) (c := 0) rfl rfl (by intro kk; simp) (by rfl) rfl rfl ⟨rfl, Nat.le_refl _, rfl⟩ (fun _ h => h) (by simp) hfr.reads hfr.none (sv_plain f) (by decide) (by omega) (by decide) .free rfl (fun _ => .inr heldx) ?_
                  intro B c h1
                  refine d_mem (fun w h => h) (d_env ?_ (k2110 ⟨b6, b14, b16, b20, B, c, D, e⟩ h1))
                  exact ⟨rfl, rfl, rfl, rfl, rfl, rfl, rfl, rfl, rfl, rfl, rfl, rfl, trivial⟩
                 ·skip
                  refine i_lits 20 rfl rfl rfl rfl (by rfl) (by rfl) (by rfl) (by decide) (by decide) (by rfl) .free rfl (.inr heldx) ?_
                  intro b20
                  refine d_mem (fun w h => Mem.ins4 (A := [(b20, _)]) (B := [(b6, _)]) (C := [(b14, _)]) (D := [(b16, _)]) h) (d_env ?_ (k1111 ⟨b6, b14, b16, b20, B, c, D, e⟩ trivial))
                  exact ⟨rfl, rfl, rfl, rfl, rfl, rfl, rfl, rfl, rfl, rfl, rfl, rfl, rfl, trivial⟩
                ·intro k1110
                 refine d_state (X := G11) 8 #[true, true, true, true, true, true, true, true, true, true, true, true, true, true, false, false, false, true, false, true, true, false, true, false, false, false] (fun x => [(75, bufVal (0 + f.length) x.c x.B), (87, .slice (some ⟨x.b20, 0, none⟩) 1 1)]) (fun x L => bufOwn 9 ([] ++ f.map sv) x.B ++ ([] ++ ([] ++ ([(x.b20, .cells [sv n1].toArray 9 (0, 0))] ++ L)))) (fun x => BufOk 1 (0 + f.length) x.c ([] ++ f.map sv) x.B) ?_ ?_
                 ·rintro ⟨b6, b14, b16, b20, B, c, D, e⟩ h1
                  try simp only at h1
                  refine d_two 14 16 (by kernel_rfl) ?_ ?_
                  ·skip
                   refine i_lits 14 rfl rfl rfl rfl (by rfl) (by rfl) (by rfl) (by decide) (by decide) (by rfl) .free rfl (.inr heldx) ?_
                   intro b14
                   refine d_mem (fun w h => Mem.seg2 (A := [(b14, _)]) (B := bufOwn _ _ B) h) (d_env ?_ (k2101 ⟨b6, b14, b16, b20, B, c, D, e⟩ h1))
                   exact ⟨rfl, rfl, rfl, rfl, rfl, rfl, rfl, rfl, rfl, rfl, rfl, rfl, trivial⟩
                  ·skip
                   refine i_lits0 16 rfl rfl .free rfl (.inr heldx) ?_
                   intro b16
                   refine d_mem (fun w h => Mem.ins3 (A := [(b16, _)]) (B := bufOwn _ _ B) (C := []) h) (d_env ?_ (k2011 ⟨b6, b14, b16, b20, B, c, D, e⟩ h1))
                   exact ⟨rfl, rfl, rfl, rfl, rfl, rfl, rfl, rfl, rfl, rfl, rfl, rfl, trivial⟩
                 ·intro k2001
                  refine d_state (X := G11) 8 #[true, true, true, true, true, true, true, true, true, true, true, true, true, true, false, false, true, true, false, true, false, false, true, false, false, false] (fun x => [(75, bufVal (0 + f.length) x.c x.B), (83, .slice (some ⟨x.b16, 0, none⟩) 0 0)]) (fun x L => bufOwn 9 ([] ++ f.map sv) x.B ++ ([] ++ ([(x.b16, .cells [].toArray 9 (0, 0))] ++ ([] ++ L)))) (fun x => BufOk 1 (0 + f.length) x.c ([] ++ f.map sv) x.B) ?_ ?_
                  ·rintro ⟨b6, b14, b16, b20, B, c, D, e⟩ h1
                   try simp only at h1
                   refine d_two 14 20 (by kernel_rfl) ?_ ?_
                   ·skip
                    refine i_lits 14 rfl rfl rfl rfl (by rfl) (by rfl) (by rfl) (by decide) (by decide) (by rfl) .free rfl (.inr heldx) ?_
                    intro b14
                    refine d_mem (fun w h => Mem.seg2 (A := [(b14, _)]) (B := bufOwn _ _ B) h) (d_env ?_ (k2110 ⟨b6, b14, b16, b20, B, c, D, e⟩ h1))
                    exact ⟨rfl, rfl, rfl, rfl, rfl, rfl, rfl, rfl, rfl, rfl, rfl, rfl, trivial⟩
                   ·skip
                    refine i_lits 20 rfl rfl rfl rfl (by rfl) (by rfl) (by rfl) (by decide) (by decide) (by rfl) .free rfl (.inr heldx) ?_
                    intro b20
                    refine d_mem (fun w h => Mem.ins4 (A := [(b20, _)]) (B := bufOwn _ _ B) (C := []) (D := [(b16, _)]) h) (d_env ?_ (k2011 ⟨b6, b14, b16, b20, B, c, D, e⟩ h1))
                    exact ⟨rfl, rfl, rfl, rfl, rfl, rfl, rfl, rfl, rfl, rfl, rfl, rfl, trivial⟩
                  ·intro k2010
                   refine d_state (X := G11) 8 #[true, true, true, true, true, true, true, true, true, true, true, true, true, true, true, false, false, true, false, true, false, false, true, false, false, false] (fun x => [(75, bufVal (0 + f.length) x.c x.B), (81, .slice (some ⟨x.b14, 0, none⟩) 1 1)]) (fun x L => bufOwn 9 ([] ++ f.map sv) x.B ++ ([(x.b14, .cells [sv z].toArray 9 (0, 0))] ++ ([] ++ ([] ++ L)))) (fun x => BufOk 1 (0 + f.length) x.c ([] ++ f.map sv) x.B) ?_ ?_
                   ·rintro ⟨b6, b14, b16, b20, B, c, D, e⟩ h1
                    try simp only at h1
                    refine d_three 15 16 20 (by kernel_rfl) ?_ ?_ ?_
                    ·skip
                     refine i_appendB 15 (B := B) (xs := [] ++ f.map sv) (ys := [sv z]) (m := 0 + f.length) (c := c) rfl rfl (by intro kk; simp) (by rfl) rfl rfl h1 (fun _ h => h) (by rfl) (fun a ha => by cases ha; exact reads_ownL (List.mem_append_left _ (List.mem_singleton.2 rfl)) (by rfl)) (by simp) (by rfl) (by decide) (by omega) (by decide) .free rfl (fun _ => .inr heldx) ?_
                     intro B c h1
                     refine d_mem (fun w h => h) (d_env ?_ (k3100 ⟨b6, b14, b16, b20, B, c, D, e⟩ h1))
                     exact ⟨rfl, rfl, rfl, rfl, rfl, rfl, rfl, rfl, rfl, rfl, trivial⟩
                    ·skip
                     refine i_lits0 16 rfl rfl .free rfl (.inr heldx) ?_
                     intro b16
                     refine d_mem (fun w h => Mem.ins3 (A := [(b16, _)]) (B := bufOwn _ _ B) (C := [(b14, _)]) h) (d_env ?_ (k2110 ⟨b6, b14, b16, b20, B, c, D, e⟩ h1))
                     exact ⟨rfl, rfl, rfl, rfl, rfl, rfl, rfl, rfl, rfl, rfl, rfl, rfl, trivial⟩
                    ·skip
                     refine i_lits 20 rfl rfl rfl rfl (by rfl) (by rfl) (by rfl) (by decide) (by decide) (by rfl) .free rfl (.inr heldx) ?_
                     intro b20
                     refine d_mem (fun w h => Mem.ins4 (A := [(b20, _)]) (B := bufOwn _ _ B) (C := [(b14, _)]) (D := []) h) (d_env ?_ (k2101 ⟨b6, b14, b16, b20, B, c, D, e⟩ h1))
                     exact ⟨rfl, rfl, rfl, rfl, rfl, rfl, rfl, rfl, rfl, rfl, rfl, rfl, trivial⟩
                   ·intro k2100
                    refine d_state (X := G11) 9 #[true, true, true, true, true, true, false, true, false, true, true, true, true, true, false, false, true, true, false, true, true, false, true, false, false, false] (fun x => [(83, .slice (some ⟨x.b16, 0, none⟩) 0 0), (87, .slice (some ⟨x.b20, 0, none⟩) 1 1)]) (fun x L => [] ++ ([] ++ ([(x.b16, .cells [].toArray 9 (0, 0))] ++ ([(x.b20, .cells [sv n1].toArray 9 (0, 0))] ++ L)))) (fun x => True) ?_ ?_
                    ·rintro ⟨b6, b14, b16, b20, B, c, D, e⟩ h1
                     try simp only at h1
                     refine d_two 6 14 (by kernel_rfl) ?_ ?_
                     ·skip
                      refine i_lits0 6 rfl rfl .free rfl (.inr heldx) ?_
                      intro b6
                      refine d_mem (fun w h => h) (d_env ?_ (k1011 ⟨b6, b14, b16, b20, B, c, D, e⟩ trivial))
                      exact ⟨rfl, rfl, rfl, rfl, rfl, rfl, rfl, rfl, rfl, rfl, rfl, rfl, trivial⟩
                     ·skip
                      refine i_lits 14 rfl rfl rfl rfl (by rfl) (by rfl) (by rfl) (by decide) (by decide) (by rfl) .free rfl (.inr heldx) ?_
                      intro b14
                      refine d_mem (fun w h => Mem.seg2 (A := [(b14, _)]) (B := []) h) (d_env ?_ (k0111 ⟨b6, b14, b16, b20, B, c, D, e⟩ trivial))
                      exact ⟨rfl, rfl, rfl, rfl, rfl, rfl, rfl, rfl, rfl, rfl, rfl, rfl, trivial⟩
                    ·intro k0011
                     refine d_state (X := G11) 9 #[true, true, true, true, true, true, false, true, false, true, true, true, true, true, true, false, false, true, false, true, true, false, true, false, false, false] (fun x => [(81, .slice (some ⟨x.b14, 0, none⟩) 1 1), (87, .slice (some ⟨x.b20, 0, none⟩) 1 1)]) (fun x L => [] ++ ([(x.b14, .cells [sv z].toArray 9 (0, 0))] ++ ([] ++ ([(x.b20, .cells [sv n1].toArray 9 (0, 0))] ++ L)))) (fun x => True) ?_ ?_
                     ·rintro ⟨b6, b14, b16, b20, B, c, D, e⟩ h1
                      try simp only at h1
                      refine d_two 6 16 (by kernel_rfl) ?_ ?_
                      ·skip
                       refine i_lits0 6 rfl rfl .free rfl (.inr heldx) ?_
                       intro b6
                       refine d_mem (fun w h => h) (d_env ?_ (k1101 ⟨b6, b14, b16, b20, B, c, D, e⟩ trivial))
                       exact ⟨rfl, rfl, rfl, rfl, rfl, rfl, rfl, rfl, rfl, rfl, rfl, rfl, trivial⟩
                      ·skip
                       refine i_lits0 16 rfl rfl .free rfl (.inr heldx) ?_
                       intro b16
                       refine d_mem (fun w h => Mem.ins3 (A := [(b16, _)]) (B := []) (C := [(b14, _)]) h) (d_env ?_ (k0111 ⟨b6, b14, b16, b20, B, c, D, e⟩ trivial))
                       exact ⟨rfl, rfl, rfl, rfl, rfl, rfl, rfl, rfl, rfl, rfl, rfl, rfl, trivial⟩
                     ·intro k0101
                      refine d_state (X := G11) 9 #[true, true, true, true, true, true, false, true, false, true, true, true, true, true, true, false, true, true, false, true, false, false, true, false, false, false] (fun x => [(81, .slice (some ⟨x.b14, 0, none⟩) 1 1), (83, .slice (some ⟨x.b16, 0, none⟩) 0 0)]) (fun x L => [] ++ ([(x.b14, .cells [sv z].toArray 9 (0, 0))] ++ ([(x.b16, .cells [].toArray 9 (0, 0))] ++ ([] ++ L)))) (fun x => True) ?_ ?_
                      ·rintro ⟨b6, b14, b16, b20, B, c, D, e⟩ h1
                       try simp only at h1
                       refine d_two 6 20 (by kernel_rfl) ?_ ?_
                       ·skip
                        refine i_lits0 6 rfl rfl .free rfl (.inr heldx) ?_
                        intro b6
                        refine d_mem (fun w h => h) (d_env ?_ (k1110 ⟨b6, b14, b16, b20, B, c, D, e⟩ trivial))
                        exact ⟨rfl, rfl, rfl, rfl, rfl, rfl, rfl, rfl, rfl, rfl, rfl, rfl, trivial⟩
                       ·skip
                        refine i_lits 20 rfl rfl rfl rfl (by rfl) (by rfl) (by rfl) (by decide) (by decide) (by rfl) .free rfl (.inr heldx) ?_
                        intro b20
                        refine d_mem (fun w h => Mem.ins4 (A := [(b20, _)]) (B := []) (C := [(b14, _)]) (D := [(b16, _)]) h) (d_env ?_ (k0111 ⟨b6, b14, b16, b20, B, c, D, e⟩ trivial))
                        exact ⟨rfl, rfl, rfl, rfl, rfl, rfl, rfl, rfl, rfl, rfl, rfl, rfl, trivial⟩
                      ·intro k0110
                       refine d_state (X := G11) 9 #[true, true, true, true, true, true, true, true, false, true, true, true, true, true, false, false, false, true, false, true, true, false, true, false, false, false] (fun x => [(73, .slice (some ⟨x.b6, 0, none⟩) 0 0), (87, .slice (some ⟨x.b20, 0, none⟩) 1 1)]) (fun x L => [(x.b6, .cells [].toArray 9 (0, 0))] ++ ([] ++ ([] ++ ([(x.b20, .cells [sv n1].toArray 9 (0, 0))] ++ L)))) (fun x => True) ?_ ?_
                       ·rintro ⟨b6, b14, b16, b20, B, c, D, e⟩ h1
                        try simp only at h1
                        refine d_three 8 14 16 (by kernel_rfl) ?_ ?_ ?_
                        ·skip
                         refine i_appendB 8 (B := some (b6, [])) (xs := []) (ys := f.map sv) (m := 0) (c := 0) rfl rfl (by intro kk; simp) (by rfl) rfl rfl ⟨rfl, Nat.le_refl _, rfl⟩ (fun _ h => h) (by simp) hfr.reads hfr.none (sv_plain f) (by decide) (by omega) (by decide) .free rfl (fun _ => .inr heldx) ?_
                         intro B c h1
                         refine d_mem (fun w h => h) (d_env ?_ (k2001 ⟨b6, b14, b16, b20, B, c, D, e⟩ h1))
                         exact ⟨rfl, rfl, rfl, rfl, rfl, rfl, rfl, rfl, rfl, rfl, rfl, trivial⟩
                        ·skip
                         refine i_lits 14 rfl rfl rfl rfl (by rfl) (by rfl) (by rfl) (by decide) (by decide) (by rfl) .free rfl (.inr heldx) ?_
                         intro b14
                         refine d_mem (fun w h => Mem.seg2 (A := [(b14, _)]) (B := [(b6, _)]) h) (d_env ?_ (k1101 ⟨b6, b14, b16, b20, B, c, D, e⟩ trivial))
                         exact ⟨rfl, rfl, rfl, rfl, rfl, rfl, rfl, rfl, rfl, rfl, rfl, rfl, trivial⟩
                        ·skip
                         refine i_lits0 16 rfl rfl .free rfl (.inr heldx) ?_
                         intro b16
                         refine d_mem (fun w h => Mem.ins3 (A := [(b16, _)]) (B := [(b6, _)]) (C := []) h) (d_env ?_ (k1011 ⟨b6, b14, b16, b20, B, c, D, e⟩ trivial))
                         exact ⟨rfl, rfl, rfl, rfl, rfl, rfl, rfl, rfl, rfl, rfl, rfl, rfl, trivial⟩
                       ·intro k1001
                        refine d_state (X := G11) 9 #[true, true, true, true, true, true, true, true, false, true, true, true, true, true, false, false, true, true, false, true, false, false, true, false, false, false] (fun x => [(73, .slice (some ⟨x.b6, 0, none⟩) 0 0), (83, .slice (some ⟨x.b16, 0, none⟩) 0 0)]) (fun x L => [(x.b6, .cells [].toArray 9 (0, 0))] ++ ([] ++ ([(x.b16, .cells [].toArray 9 (0, 0))] ++ ([] ++ L)))) (fun x => True) ?_ ?_
                        ·rintro ⟨b6, b14, b16, b20, B, c, D, e⟩ h1
                         try simp only at h1
                         refine d_three 8 14 20 (by kernel_rfl) ?_ ?_ ?_
                         ·skip
                          refine i_appendB 8 (B := some (b6, [])) (xs := []) (ys := f.map sv) (m := 0) (c := 0) rfl rfl (by intro kk; simp) (by rfl) rfl rfl ⟨rfl, Nat.le_refl _, rfl⟩ (fun _ h => h) (by simp) hfr.reads hfr.none (sv_plain f) (by decide) (by omega) (by decide) .free rfl (fun _ => .inr heldx) ?_
                          intro B c h1
                          refine d_mem (fun w h => h) (d_env ?_ (k2010 ⟨b6, b14, b16, b20, B, c, D, e⟩ h1))
                          exact ⟨rfl, rfl, rfl, rfl, rfl, rfl, rfl, rfl, rfl, rfl, rfl, trivial⟩
                         ·skip
                          refine i_lits 14 rfl rfl rfl rfl (by rfl) (by rfl) (by rfl) (by decide) (by decide) (by rfl) .free rfl (.inr heldx) ?_
                          intro b14
                          refine d_mem (fun w h => Mem.seg2 (A := [(b14, _)]) (B := [(b6, _)]) h) (d_env ?_ (k1110 ⟨b6, b14, b16, b20, B, c, D, e⟩ trivial))
                          exact ⟨rfl, rfl, rfl, rfl, rfl, rfl, rfl, rfl, rfl, rfl, rfl, rfl, trivial⟩
                         ·skip
                          refine i_lits 20 rfl rfl rfl rfl (by rfl) (by rfl) (by rfl) (by decide) (by decide) (by rfl) .free rfl (.inr heldx) ?_
                          intro b20
                          refine d_mem (fun w h => Mem.ins4 (A := [(b20, _)]) (B := [(b6, _)]) (C := []) (D := [(b16, _)]) h) (d_env ?_ (k1011 ⟨b6, b14, b16, b20, B, c, D, e⟩ trivial))
                          exact ⟨rfl, rfl, rfl, rfl, rfl, rfl, rfl, rfl, rfl, rfl, rfl, rfl, trivial⟩
                        ·intro k1010
                         refine d_state (X := G11) 9 #[true, true, true, true, true, true, true, true, false, true, true, true, true, true, true, false, false, true, false, true, false, false, true, false, false, false] (fun x => [(73, .slice (some ⟨x.b6, 0, none⟩) 0 0), (81, .slice (some ⟨x.b14, 0, none⟩) 1 1)]) (fun x L => [(x.b6, .cells [].toArray 9 (0, 0))] ++ ([(x.b14, .cells [sv z].toArray 9 (0, 0))] ++ ([] ++ ([] ++ L)))) (fun x => True) ?_ ?_
                         ·rintro ⟨b6, b14, b16, b20, B, c, D, e⟩ h1
                          try simp only at h1
                          refine d_three 8 16 20 (by kernel_rfl) ?_ ?_ ?_
                          ·skip
                           refine i_appendB 8 (B := some (b6, [])) (xs := []) (ys := f.map sv) (m := 0) (c := 0) rfl rfl (by intro kk; simp) (by rfl) rfl rfl ⟨rfl, Nat.le_refl _, rfl⟩ (fun _ h => h) (by simp) hfr.reads hfr.none (sv_plain f) (by decide) (by omega) (by decide) .free rfl (fun _ => .inr heldx) ?_
                           intro B c h1
                           refine d_mem (fun w h => h) (d_env ?_ (k2100 ⟨b6, b14, b16, b20, B, c, D, e⟩ h1))
                           exact ⟨rfl, rfl, rfl, rfl, rfl, rfl, rfl, rfl, rfl, rfl, rfl, trivial⟩
                          ·skip
                           refine i_lits0 16 rfl rfl .free rfl (.inr heldx) ?_
                           intro b16
                           refine d_mem (fun w h => Mem.ins3 (A := [(b16, _)]) (B := [(b6, _)]) (C := [(b14, _)]) h) (d_env ?_ (k1110 ⟨b6, b14, b16, b20, B, c, D, e⟩ trivial))
                           exact ⟨rfl, rfl, rfl, rfl, rfl, rfl, rfl, rfl, rfl, rfl, rfl, rfl, trivial⟩
                          ·skip
                           refine i_lits 20 rfl rfl rfl rfl (by rfl) (by rfl) (by rfl) (by decide) (by decide) (by rfl) .free rfl (.inr heldx) ?_
                           intro b20
                           refine d_mem (fun w h => Mem.ins4 (A := [(b20, _)]) (B := [(b6, _)]) (C := [(b14, _)]) (D := []) h) (d_env ?_ (k1101 ⟨b6, b14, b16, b20, B, c, D, e⟩ trivial))
                           exact ⟨rfl, rfl, rfl, rfl, rfl, rfl, rfl, rfl, rfl, rfl, rfl, rfl, trivial⟩
                         ·intro k1100
                          refine d_state (X := G11) 9 #[true, true, true, true, true, true, true, true, true, true, true, true, true, true, false, false, false, true, false, true, false, false, true, false, false, false] (fun x => [(75, bufVal (0 + f.length) x.c x.B)]) (fun x L => bufOwn 9 ([] ++ f.map sv) x.B ++ ([] ++ ([] ++ ([] ++ L)))) (fun x => BufOk 1 (0 + f.length) x.c ([] ++ f.map sv) x.B) ?_ ?_
                          ·rintro ⟨b6, b14, b16, b20, B, c, D, e⟩ h1
                           try simp only at h1
                           refine d_three 14 16 20 (by kernel_rfl) ?_ ?_ ?_
                           ·skip
                            refine i_lits 14 rfl rfl rfl rfl (by rfl) (by rfl) (by rfl) (by decide) (by decide) (by rfl) .free rfl (.inr heldx) ?_
                            intro b14
                            refine d_mem (fun w h => Mem.seg2 (A := [(b14, _)]) (B := bufOwn _ _ B) h) (d_env ?_ (k2100 ⟨b6, b14, b16, b20, B, c, D, e⟩ h1))
                            exact ⟨rfl, rfl, rfl, rfl, rfl, rfl, rfl, rfl, rfl, rfl, rfl, trivial⟩
                           ·skip
                            refine i_lits0 16 rfl rfl .free rfl (.inr heldx) ?_
                            intro b16
                            refine d_mem (fun w h => Mem.ins3 (A := [(b16, _)]) (B := bufOwn _ _ B) (C := []) h) (d_env ?_ (k2010 ⟨b6, b14, b16, b20, B, c, D, e⟩ h1))
                            exact ⟨rfl, rfl, rfl, rfl, rfl, rfl, rfl, rfl, rfl, rfl, rfl, trivial⟩
                           ·skip
                            refine i_lits 20 rfl rfl rfl rfl (by rfl) (by rfl) (by rfl) (by decide) (by decide) (by rfl) .free rfl (.inr heldx) ?_
                            intro b20
                            refine d_mem (fun w h => Mem.ins4 (A := [(b20, _)]) (B := bufOwn _ _ B) (C := []) (D := []) h) (d_env ?_ (k2001 ⟨b6, b14, b16, b20, B, c, D, e⟩ h1))
                            exact ⟨rfl, rfl, rfl, rfl, rfl, rfl, rfl, rfl, rfl, rfl, rfl, trivial⟩
                          ·intro k2000
                           refine d_state (X := G11) 10 #[true, true, true, true, true, true, false, true, false, true, true, true, true, true, false, false, false, true, false, true, true, false, true, false, false, false] (fun x => [(87, .slice (some ⟨x.b20, 0, none⟩) 1 1)]) (fun x L => [] ++ ([] ++ ([] ++ ([(x.b20, .cells [sv n1].toArray 9 (0, 0))] ++ L)))) (fun x => True) ?_ ?_
                           ·rintro ⟨b6, b14, b16, b20, B, c, D, e⟩ h1
                            try simp only at h1
                            refine d_three 6 14 16 (by kernel_rfl) ?_ ?_ ?_
                            ·skip
                             refine i_lits0 6 rfl rfl .free rfl (.inr heldx) ?_
                             intro b6
                             refine d_mem (fun w h => h) (d_env ?_ (k1001 ⟨b6, b14, b16, b20, B, c, D, e⟩ trivial))
                             exact ⟨rfl, rfl, rfl, rfl, rfl, rfl, rfl, rfl, rfl, rfl, rfl, trivial⟩
                            ·skip
                             refine i_lits 14 rfl rfl rfl rfl (by rfl) (by rfl) (by rfl) (by decide) (by decide) (by rfl) .free rfl (.inr heldx) ?_
                             intro b14
                             refine d_mem (fun w h => Mem.seg2 (A := [(b14, _)]) (B := []) h) (d_env ?_ (k0101 ⟨b6, b14, b16, b20, B, c, D, e⟩ trivial))
                             exact ⟨rfl, rfl, rfl, rfl, rfl, rfl, rfl, rfl, rfl, rfl, rfl, trivial⟩
                            ·skip
                             refine i_lits0 16 rfl rfl .free rfl (.inr heldx) ?_
                             intro b16
                             refine d_mem (fun w h => Mem.ins3 (A := [(b16, _)]) (B := []) (C := []) h) (d_env ?_ (k0011 ⟨b6, b14, b16, b20, B, c, D, e⟩ trivial))
                             exact ⟨rfl, rfl, rfl, rfl, rfl, rfl, rfl, rfl, rfl, rfl, rfl, trivial⟩
                           ·intro k0001
                            refine d_state (X := G11) 10 #[true, true, true, true, true, true, false, true, false, true, true, true, true, true, false, false, true, true, false, true, false, false, true, false, false, false] (fun x => [(83, .slice (some ⟨x.b16, 0, none⟩) 0 0)]) (fun x L => [] ++ ([] ++ ([(x.b16, .cells [].toArray 9 (0, 0))] ++ ([] ++ L)))) (fun x => True) ?_ ?_
                            ·rintro ⟨b6, b14, b16, b20, B, c, D, e⟩ h1
                             try simp only at h1
                             refine d_three 6 14 20 (by kernel_rfl) ?_ ?_ ?_
                             ·skip
                              refine i_lits0 6 rfl rfl .free rfl (.inr heldx) ?_
                              intro b6
                              refine d_mem (fun w h => h) (d_env ?_ (k1010 ⟨b6, b14, b16, b20, B, c, D, e⟩ trivial))
                              exact ⟨rfl, rfl, rfl, rfl, rfl, rfl, rfl, rfl, rfl, rfl, rfl, trivial⟩
                             ·skip
                              refine i_lits 14 rfl rfl rfl rfl (by rfl) (by rfl) (by rfl) (by decide) (by decide) (by rfl) .free rfl (.inr heldx) ?_
                              intro b14
                              refine d_mem (fun w h => Mem.seg2 (A := [(b14, _)]) (B := []) h) (d_env ?_ (k0110 ⟨b6, b14, b16, b20, B, c, D, e⟩ trivial))
                              exact ⟨rfl, rfl, rfl, rfl, rfl, rfl, rfl, rfl, rfl, rfl, rfl, trivial⟩
                             ·skip
                              refine i_lits 20 rfl rfl rfl rfl (by rfl) (by rfl) (by rfl) (by decide) (by decide) (by rfl) .free rfl (.inr heldx) ?_
                              intro b20
                              refine d_mem (fun w h => Mem.ins4 (A := [(b20, _)]) (B := []) (C := []) (D := [(b16, _)]) h) (d_env ?_ (k0011 ⟨b6, b14, b16, b20, B, c, D, e⟩ trivial))
                              exact ⟨rfl, rfl, rfl, rfl, rfl, rfl, rfl, rfl, rfl, rfl, rfl, trivial⟩
                            ·intro k0010
                             refine d_state (X := G11) 10 #[true, true, true, true, true, true, false, true, false, true, true, true, true, true, true, false, false, true, false, true, false, false, true, false, false, false] (fun x => [(81, .slice (some ⟨x.b14, 0, none⟩) 1 1)]) (fun x L => [] ++ ([(x.b14, .cells [sv z].toArray 9 (0, 0))] ++ ([] ++ ([] ++ L)))) (fun x => True) ?_ ?_
                             ·rintro ⟨b6, b14, b16, b20, B, c, D, e⟩ h1
                              try simp only at h1
                              refine d_three 6 16 20 (by kernel_rfl) ?_ ?_ ?_
                              ·skip
                               refine i_lits0 6 rfl rfl .free rfl (.inr heldx) ?_
                               intro b6
                               refine d_mem (fun w h => h) (d_env ?_ (k1100 ⟨b6, b14, b16, b20, B, c, D, e⟩ trivial))
                               exact ⟨rfl, rfl, rfl, rfl, rfl, rfl, rfl, rfl, rfl, rfl, rfl, trivial⟩
                              ·skip
                               refine i_lits0 16 rfl rfl .free rfl (.inr heldx) ?_
                               intro b16
                               refine d_mem (fun w h => Mem.ins3 (A := [(b16, _)]) (B := []) (C := [(b14, _)]) h) (d_env ?_ (k0110 ⟨b6, b14, b16, b20, B, c, D, e⟩ trivial))
                               exact ⟨rfl, rfl, rfl, rfl, rfl, rfl, rfl, rfl, rfl, rfl, rfl, trivial⟩
                              ·skip
                               refine i_lits 20 rfl rfl rfl rfl (by rfl) (by rfl) (by rfl) (by decide) (by decide) (by rfl) .free rfl (.inr heldx) ?_
                               intro b20
                               refine d_mem (fun w h => Mem.ins4 (A := [(b20, _)]) (B := []) (C := [(b14, _)]) (D := []) h) (d_env ?_ (k0101 ⟨b6, b14, b16, b20, B, c, D, e⟩ trivial))
                               exact ⟨rfl, rfl, rfl, rfl, rfl, rfl, rfl, rfl, rfl, rfl, rfl, trivial⟩
                             ·intro k0100
                              refine d_state (X := G11) 10 #[true, true, true, true, true, true, true, true, false, true, true, true, true, true, false, false, false, true, false, true, false, false, true, false, false, false] (fun x => [(73, .slice (some ⟨x.b6, 0, none⟩) 0 0)]) (fun x L => [(x.b6, .cells [].toArray 9 (0, 0))] ++ ([] ++ ([] ++ ([] ++ L)))) (fun x => True) ?_ ?_
                              ·rintro ⟨b6, b14, b16, b20, B, c, D, e⟩ h1
                               try simp only at h1
                               refine d_four 8 14 16 20 (by kernel_rfl) ?_ ?_ ?_ ?_
                               ·skip
                                refine i_appendB 8 (B := some (b6, [])) (xs := []) (ys := f.map sv) (m := 0) (c := 0) rfl rfl (by intro kk; simp) (by rfl) rfl rfl ⟨rfl, Nat.le_refl _, rfl⟩ (fun _ h => h) (by simp) hfr.reads hfr.none (sv_plain f) (by decide) (by omega) (by decide) .free rfl (fun _ => .inr heldx) ?_
                                intro B c h1
                                refine d_mem (fun w h => h) (d_env ?_ (k2000 ⟨b6, b14, b16, b20, B, c, D, e⟩ h1))
                                exact ⟨rfl, rfl, rfl, rfl, rfl, rfl, rfl, rfl, rfl, rfl, trivial⟩
                               ·skip
                                refine i_lits 14 rfl rfl rfl rfl (by rfl) (by rfl) (by rfl) (by decide) (by decide) (by rfl) .free rfl (.inr heldx) ?_
                                intro b14
                                refine d_mem (fun w h => Mem.seg2 (A := [(b14, _)]) (B := [(b6, _)]) h) (d_env ?_ (k1100 ⟨b6, b14, b16, b20, B, c, D, e⟩ trivial))
                                exact ⟨rfl, rfl, rfl, rfl, rfl, rfl, rfl, rfl, rfl, rfl, rfl, trivial⟩
                               ·skip
                                refine i_lits0 16 rfl rfl .free rfl (.inr heldx) ?_
                                intro b16
                                refine d_mem (fun w h => Mem.ins3 (A := [(b16, _)]) (B := [(b6, _)]) (C := []) h) (d_env ?_ (k1010 ⟨b6, b14, b16, b20, B, c, D, e⟩ trivial))
                                exact ⟨rfl, rfl, rfl, rfl, rfl, rfl, rfl, rfl, rfl, rfl, rfl, trivial⟩
                               ·skip
                                refine i_lits 20 rfl rfl rfl rfl (by rfl) (by rfl) (by rfl) (by decide) (by decide) (by rfl) .free rfl (.inr heldx) ?_
                                intro b20
                                refine d_mem (fun w h => Mem.ins4 (A := [(b20, _)]) (B := [(b6, _)]) (C := []) (D := []) h) (d_env ?_ (k1001 ⟨b6, b14, b16, b20, B, c, D, e⟩ trivial))
                                exact ⟨rfl, rfl, rfl, rfl, rfl, rfl, rfl, rfl, rfl, rfl, rfl, trivial⟩
                              ·intro k1000
                               refine d_four 6 14 16 20 (by kernel_rfl) ?_ ?_ ?_ ?_
                               ·skip
                                refine i_lits0 6 rfl rfl .free rfl (.inr heldx) ?_
                                intro b6
                                refine d_mem (fun w h => h) (d_env ?_ (k1000 ⟨b6, 0, 0, 0, none, 0, none, 0⟩ trivial))
                                exact ⟨rfl, rfl, rfl, rfl, rfl, rfl, rfl, rfl, rfl, rfl, trivial⟩
                               ·skip
                                refine i_lits 14 rfl rfl rfl rfl (by rfl) (by rfl) (by rfl) (by decide) (by decide) (by rfl) .free rfl (.inr heldx) ?_
                                intro b14
                                refine d_mem (fun w h => Mem.seg2 (A := [(b14, _)]) (B := []) h) (d_env ?_ (k0100 ⟨0, b14, 0, 0, none, 0, none, 0⟩ trivial))
                                exact ⟨rfl, rfl, rfl, rfl, rfl, rfl, rfl, rfl, rfl, rfl, trivial⟩
                               ·skip
                                refine i_lits0 16 rfl rfl .free rfl (.inr heldx) ?_
                                intro b16
                                refine d_mem (fun w h => Mem.ins3 (A := [(b16, _)]) (B := []) (C := []) h) (d_env ?_ (k0010 ⟨0, 0, b16, 0, none, 0, none, 0⟩ trivial))
                                exact ⟨rfl, rfl, rfl, rfl, rfl, rfl, rfl, rfl, rfl, rfl, trivial⟩
                               ·skip
                                refine i_lits 20 rfl rfl rfl rfl (by rfl) (by rfl) (by rfl) (by decide) (by decide) (by rfl) .free rfl (.inr heldx) ?_
                                intro b20
                                refine d_mem (fun w h => Mem.ins4 (A := [(b20, _)]) (B := []) (C := []) (D := []) h) (d_env ?_ (k0001 ⟨0, 0, 0, b20, none, 0, none, 0⟩ trivial))
                                exact ⟨rfl, rfl, rfl, rfl, rfl, rfl, rfl, rfl, rfl, rfl, trivial⟩
set_option maxHeartbeats 2000000 in
theorem plain_fn {n : Nat} (ihn : PlainH n) {h1 z : Txt} {s u : Ty} {b : Ex} {I : Heap} {cs : List Value} (hlt : SizeOf.sizeOf (Ex.fn h1 z s u b) < n + 1) (h : Rep I (Ex.fn h1 z s u b).tree cs) (hok : (Ex.fn h1 z s u b).ok = true) {f t : List Txt} {of ot : Option Addr} {cf ct : Nat} (hfr : Strs I of f cf) (hto : Strs I ot t ct) (hft : f.length = t.length) (hfl : f.length + 2 * (Ex.fn h1 z s u b).size ≤ 100000)
  {ov : Option Addr} {av : List Txt} {cv : Nat} (hav : Strs I ov av cv) (bp k : Nat) (hk : k + (Ex.fn h1 z s u b).nb + av.length ≤ 90 + hits 120 av k) (ha5 : av.length ≤ 500) (L : Own) :
  Fun Tryz.prog 33 [.agg cs.toArray, .slice of f.length cf, .slice ot t.length ct, .pointer (some ⟨bp, 0, none⟩)] I (rn bp ov av cv k :: L) (PR bp ov av cv ((Ex.fn h1 z s u b).pl av f t k) L) := by
 obtain ⟨oa, c, oaf, cf1, rfl, hf, hcl, hcs⟩ := h.cells
 have hle : HLe I I := .refl _
 have ha := hf.alen
 have hh0 := hits_le 120 av k
 refine fun_intro (by simp) ?_
 refine Se rfl ?_
 refine o_box rfl rfl .free rfl ?_
 intro b4
 refine o_alloc .free rfl ?_
 intro b8
 refine o_done ?_
 refine s_seq ?_
 refine Se rfl ?_
 refine o_fieldAddr rfl .free rfl ?_
 refine o_lO1 rfl .free rfl ?_
 refine o_cmps rfl rfl rfl .free rfl ?_
 refine o_done ?_
 first | refine s_fp rfl (by simp [Ex.tree, Tree.atom]) ?_ | refine s_fn rfl (by simp [Ex.tree, Tree.atom]) ?_ | refine s_false (by simp [look, opd, *]) ?_
 refine s_skip ?_
 refine s_seq ?_
 have hok0 := hok
 have hb : (Ex.fn h1 z s u b).bare = false := rfl
 have hpos : 0 < (Ex.fn h1 z s u b).tree.parts.length := by
  rw [Ex.bare_parts] at hb
  have : (Ex.fn h1 z s u b).tree.parts ≠ [] := by intro hh; rw [hh] at hb; cases hb
  exact List.length_pos_iff.2 this
 have hhd := head_at hpos
 obtain ⟨xa, rfl⟩ : ∃ xa, oa = some xa := ⟨_, some_oad hf.nil hpos⟩
 have hp := hf.len
 unfold maxN at hp
 refine o_enter rfl ?_
 refine o_lits0 .free rfl ?_
 intro b29
 refine o_fieldAddr rfl .free rfl ?_
 refine o_lO1 rfl .free rfl ?_
 refine o_append (B := some (b29, [])) (xs := []) (ys := cellsF oaf cf1 0 (Ex.fn h1 z s u b).tree.parts) (m := 0) (c := 0) (by intro kk; simp) (by rfl) rfl rfl ⟨rfl, Nat.le_refl _, rfl⟩ (fun _ h => h) (by have := hcl.length; omega) (fun a ha => by cases ha; exact (hcs _ rfl).reads) (by simp) hcl.plain hpos (by decide) (by omega) (by decide) .free rfl ?_
 intro bc sp cc hB'
 have hcc : (Ex.fn h1 z s u b).tree.parts.length ≤ cc := by have := hB'.2.1; omega
 refine o_put (t := 32) (v' := .slice (some ⟨bc, 0, none⟩) (Ex.fn h1 z s u b).tree.parts.length cc) rfl (by rw [Nat.zero_add]) ?_
 simp only [List.nil_append]
 refine o_struct rfl rfl rfl .free rfl ?_
 refine o_alloc .free rfl ?_
 intro b9
 refine o_st rfl rfl rfl rfl .free ?_
 refine o_done ?_
 refine Se rfl ?_
 refine o_fieldAddr rfl .free rfl ?_
 refine o_lO1 rfl .free rfl ?_
 first | refine o_ixD rfl rfl 0 rfl .free rfl ?_ | refine o_ixP rfl rfl 0 rfl .free rfl ?_
 refine o_fieldAddr' rfl .free rfl ?_
 refine o_lIF rfl .free rfl ?_
 refine o_call rfl .free rfl (g_l2Kids ((Ex.fn h1 z s u b).tree.pt 0).atom _ _) ?_
 rw [← hhd]; rintro _ _ _ _ ⟨rfl, rfl, rfl⟩
 refine Om rfl ?_
 refine o_extract rfl rfl .free rfl ?_
 refine o_extract rfl rfl .free rfl ?_
 refine Oa rfl ?_
 refine Oa rfl ?_
 refine o_done ?_
 refine s_seq ?_
 refine s_seq ?_
 have hkr : kidRange (Ex.fn h1 z s u b).tree.head = (5, 6) := rfl
 rw [hkr]
 have hlen : (Ex.fn h1 z s u b).tree.parts.length = 6 := rfl
 have hki := kids_fn h1 z s u b
 have hp0 : ((Ex.fn h1 z s u b).tree.pt 0).atom = tFun := rfl
 simp only [Ex.fn.sizeOf_spec] at hlt
 simp only [Ex.ok, Bool.and_eq_true, decide_eq_true_eq] at hok
 simp only [Ex.nb] at hk
 simp only [Ex.size] at hfl
 simp only [show (Ex.fn h1 z s u b).tree.parts = [.node tFun [], .node h1 [], .node z [], s.tree, u.tree, b.tree] from rfl, cellsF, List.cons_append, List.nil_append]
 refine s_mem (fun w h => h.f4) ?_
 refine o_enter rfl ?_
 refine o_fieldAddr rfl .free rfl ?_
 refine o_lO1 rfl .free rfl ?_
 first | refine o_ixD rfl rfl 0 rfl .free rfl ?_ | refine o_ixP rfl rfl 0 rfl .free rfl ?_
 refine o_fieldAddr' rfl .free rfl ?_
 refine o_lIF rfl .free rfl ?_
 refine o_cmps rfl rfl rfl .free rfl ?_
 refine o_done ?_
 first | refine s_fp rfl (by rw [hp0]; decide) ?_ | refine s_fn rfl (by rw [hp0]; decide) ?_ | refine s_false (by simp [look, opd, *]) ?_
 refine s_skip ?_
 refine s_seq ?_
 refine Se rfl ?_
 refine o_fieldAddr rfl .free rfl ?_
 refine o_lO1 rfl .free rfl ?_
 first | refine o_ixD rfl rfl 0 rfl .free rfl ?_ | refine o_ixP rfl rfl 0 rfl .free rfl ?_
 refine o_fieldAddr' rfl .free rfl ?_
 refine o_lIF rfl .free rfl ?_
 refine o_cmps rfl rfl rfl .free rfl ?_
 refine o_done ?_
 first | refine s_tp rfl (by rw [hp0]; rfl) ?_ | refine s_tn rfl (by rw [hp0]; rfl) ?_ | refine s_true (by simp [look, opd, *]) ?_
 refine s_seq ?_
 obtain ⟨x1, x2, x3⟩ := fr_facts 120 av k
 have x4 := fr_hits_succ 120 av k
 have x5 := hits_le 120 av (fr 120 av k)
 have x6 := hits_le 120 av (fr 120 av k + 1)
 obtain ⟨y1, y2, y3⟩ := fr_facts 120 av (fr 120 av k + 1)
 have y4 := fr_hits_succ 120 av (fr 120 av k + 1)
 have y5 := hits_le 120 av (fr 120 av (fr 120 av k + 1))
 have y6 := hits_le 120 av (fr 120 av (fr 120 av k + 1) + 1)
 have hhl := Ex.name_len hok.1.1.1.1.1
 have hzl := Ex.name_len hok.1.1.1.1.2
 refine o_enter rfl ?_
 refine Om rfl ?_
 refine o_call rfl .free rfl (g_l2Fresh hav bp k (by omega) _) ?_
 rintro _ _ _ _ ⟨rfl, rfl, rfl⟩
 have hnl1 := nm_len (n := fr 120 av k) (by omega)
 generalize hn1e : nm 120 (fr 120 av k) = n1 at hnl1 ⊢
 refine Oa rfl ?_
 refine o_done ?_
 refine Se rfl ?_
 refine Om rfl ?_
 refine o_call rfl .free rfl (g_l2Fresh hav bp (fr 120 av k + 1) (by omega) _) ?_
 rintro _ _ _ _ ⟨rfl, rfl, rfl⟩
 have hnl2 := nm_len (n := fr 120 av (fr 120 av k + 1)) (by omega)
 generalize hn2e : nm 120 (fr 120 av (fr 120 av k + 1)) = n2 at hnl2 ⊢
 refine Oa rfl ?_
 refine o_done ?_
 refine s_seq ?_
 refine d_all 6 rfl rfl ?_
 refine Da 0 rfl (y_fieldAddr rfl) ?_
 refine Dt 1 [5] rfl (y_lO1 rfl) ?_
 refine Da 2 rfl (y_move rfl) ?_
 refine d_call 3 rfl (by kernel_rfl) rfl rfl .free rfl (g_l1Atom n1 _ _) ?_
 rintro _ _ _ _ ⟨rfl, rfl, rfl⟩
 refine ⟨(.inr heldx), ?_⟩
 first | refine Da 4 rfl (y_ixD rfl rfl 1 rfl) ?_ | refine Da 4 rfl (y_ixP rfl rfl 1 rfl) ?_
 refine d_st 5 rfl (by kernel_rfl) rfl rfl rfl rfl rfl .free (.inl (by kernel_rfl)) ?_
 refine d_done (by kernel_rfl) ?_
 refine s_seq ?_
 refine d_all 6 rfl rfl ?_
 refine Da 0 rfl (y_fieldAddr rfl) ?_
 refine Dt 1 [5] rfl (y_lO1 rfl) ?_
 refine Da 2 rfl (y_move rfl) ?_
 refine d_call 3 rfl (by kernel_rfl) rfl rfl .free rfl (g_l1Atom n2 _ _) ?_
 rintro _ _ _ _ ⟨rfl, rfl, rfl⟩
 refine ⟨(.inr heldx), ?_⟩
 first | refine Da 4 rfl (y_ixD rfl rfl 2 rfl) ?_ | refine Da 4 rfl (y_ixP rfl rfl 2 rfl) ?_
 refine d_st 5 rfl (by kernel_rfl) rfl rfl rfl rfl rfl .free (.inl (by kernel_rfl)) ?_
 refine d_done (by kernel_rfl) ?_
 refine s_seq ?_
 refine d_all 16 rfl rfl ?_
 refine Da 1 rfl (y_move rfl) ?_
 refine Da 3 rfl (y_fieldAddr rfl) ?_
 refine Dt 4 [16] rfl (y_lO1 rfl) ?_
 first | refine Da 5 rfl (y_ixD rfl rfl 1 rfl) ?_ | refine Da 5 rfl (y_ixP rfl rfl 1 rfl) ?_
 refine Da 6 rfl (y_fieldAddr' rfl) ?_
 refine Dt 7 [16] rfl (y_lIF rfl) ?_
 refine Da 8 rfl (y_fieldAddr rfl) ?_
 refine Dt 9 [16] rfl (y_lO1 rfl) ?_
 first | refine Da 10 rfl (y_ixD rfl rfl 2 rfl) ?_ | refine Da 10 rfl (y_ixP rfl rfl 2 rfl) ?_
 refine Da 11 rfl (y_fieldAddr' rfl) ?_
 refine Dt 12 [16] rfl (y_lIF rfl) ?_
 refine d_two 0 13 (by kernel_rfl) ?_ ?_
 ·skip
  refine i_lits0 0 rfl rfl .free rfl (.inr heldx) ?_
  intro b113
  refine d_two 2 13 (by kernel_rfl) ?_ ?_
  ·skip
   refine i_appendB 2 (B := some (b113, [])) (xs := []) (ys := f.map sv) (m := 0) (c := 0) rfl rfl (by intro kk; simp) (by rfl) rfl rfl ⟨rfl, Nat.le_refl _, rfl⟩ (by first | exact fun _ h => h | exact fun _ h => h.f1 | exact fun _ h => h.f2 | exact fun _ h => h.f3) (by simp) hfr.reads hfr.none (sv_plain f) (by decide) (by omega) (by decide) .free rfl (fun _ => .inr heldx) ?_
   intro B1 c1 hB1
   refine d_lits 13 rfl (by kernel_rfl) rfl rfl rfl (by rfl) (by rfl) (by rfl) (by decide) (by decide) (by rfl) .free rfl (.inr heldx) ?_
   intro b126
   refine d_appendB 14 (B := B1) (xs := f.map sv) (ys := [sv h1, sv z]) (m := 0 + f.length) (c := c1) rfl (by kernel_rfl) rfl (by intro kk; simp) (by rfl) rfl rfl hB1 (by first | exact fun _ h => h | exact fun _ h => h.u1 | exact fun _ h => h.u2 | exact fun _ h => h.u3) (by rfl) (fun a ha => by cases ha; exact reads_ownL (by first | exact m0 | exact m1 | exact m2 | exact m3 | exact m4 | exact m5 | exact m6 | exact List.mem_append_right _ m0 | exact List.mem_append_right _ m1 | exact List.mem_append_right _ m2 | exact List.mem_append_right _ m3 | exact .tail _ (List.mem_append_right _ m0) | exact .tail _ (List.mem_append_right _ m1) | exact .tail _ (List.mem_append_right _ m2) | exact .tail _ (List.mem_append_right _ m3)) (by rfl)) (by simp) (by rfl) (by decide) (by omega) (by decide) .free rfl (fun _ => .inr heldx) ?_
   intro B2 c2 hB2
   rw [show f.map sv ++ [sv h1, sv z] = (f ++ [h1, z]).map sv by simp] at hB2 ⊢
   refine d_freezeStrs hB2 (by simp) (by simp [maxN]; omega) (by intro s hs; rcases List.mem_append.1 hs with hs | hs; exact hfr.each s hs; simp only [List.mem_cons, List.not_mem_nil, or_false] at hs; rcases hs with rfl | rfl; exact hhl; exact hzl) ?_
   intro J3 o3 k3 ez hbv hs3
   refine d_put (t := 127) rfl hbv ?_
   have hf := hf.mono ez
   have hfr := hfr.mono ez
   have hto := hto.mono ez
   have hav := hav.mono ez
   have hle := hle.trans ez
   refine Da 15 rfl (y_assign rfl) ?_
   refine d_done (by kernel_rfl) ?_
   refine o_enter rfl ?_
   refine o_lits0 .free rfl ?_
   intro b128
   refine Om rfl ?_
   refine o_appendB (B := some (b128, [])) (xs := []) (ys := t.map sv) (m := 0) (c := 0) (by intro kk; simp) (by rfl) rfl rfl ⟨rfl, Nat.le_refl _, rfl⟩ (by first | exact fun _ h => h | exact fun _ h => h.f1 | exact fun _ h => h.f2 | exact fun _ h => h.f3) (by simp) hto.reads hto.none (sv_plain t) (by decide) (by omega) (by decide) .free rfl ?_
   intro B3 c3 hB3
   refine Om rfl ?_
   refine Om rfl ?_
   refine o_lits rfl rfl (by rfl) (by rfl) (by rfl) (by decide) (by decide) (by rfl) .free rfl ?_
   intro b133
   refine o_appendB (B := B3) (xs := t.map sv) (ys := [sv n1, sv n2]) (m := 0 + t.length) (c := c3) (by intro kk; simp) (by rfl) rfl rfl hB3 (by first | exact fun _ h => h | exact fun _ h => h.u1 | exact fun _ h => h.u2 | exact fun _ h => h.u3) (by rfl) (fun a ha => by cases ha; exact reads_ownL (by first | exact m0 | exact m1 | exact m2 | exact m3 | exact m4 | exact m5 | exact m6 | exact List.mem_append_right _ m0 | exact List.mem_append_right _ m1 | exact List.mem_append_right _ m2 | exact List.mem_append_right _ m3 | exact .tail _ (List.mem_append_right _ m0) | exact .tail _ (List.mem_append_right _ m1) | exact .tail _ (List.mem_append_right _ m2) | exact .tail _ (List.mem_append_right _ m3)) (by rfl)) (by simp) (by rfl) (by decide) (by omega) (by decide) .free rfl ?_
   intro B4 c4 hB4
   rw [show t.map sv ++ [sv n1, sv n2] = (t ++ [n1, n2]).map sv by simp] at hB4 ⊢
   refine Oa rfl ?_
   refine o_done ?_
   refine s_seq ?_
   refine s_seq ?_
   refine s_freezeStrs hB4 (by simp) (by simp [maxN]; omega) (by intro s hs; rcases List.mem_append.1 hs with hs | hs; exact hto.each s hs; simp only [List.mem_cons, List.not_mem_nil, or_false] at hs; rcases hs with rfl | rfl; exact hnl1; exact hnl2) ?_
   intro J4 o4 k4 ey hbv4 hs4
   refine s_put (t := 2) rfl hbv4 ?_
   refine s_mem (fun w h => h.drop.drop) ?_
   have hs3 := hs3.mono ey
   have hf := hf.mono ey
   have hfr := hfr.mono ey
   have hto := hto.mono ey
   have hav := hav.mono ey
   have hle := hle.trans ey
   refine o_enter rfl ?_
   refine Om rfl ?_
   refine Oa rfl ?_
   refine o_done ?_
   refine s_block ?_
   refine s_loop ?_
   refine s_seq ?_
   refine Se rfl ?_
   refine Om rfl ?_
   refine Om rfl ?_
   refine o_cmp rfl rfl rfl .free rfl ?_
   refine o_done ?_
   refine s_condT rfl (by first | rfl | decide | (simp; done) | omega) ?_
   refine s_skip ?_
   refine s_seq ?_
   refine s_block ?_
   refine s_here fun hlr => ?_
   have hpl := b.pl_hits av (f ++ [h1, z]) (t ++ [n1, n2]) (fr 120 av (fr 120 av k + 1) + 1)
   refine d_tl 14 rfl rfl ?_
   refine Da 0 rfl (y_fieldAddr rfl) ?_
   refine Dt 1 [13] rfl (y_lO1 rfl) ?_
   refine Da 2 rfl (y_move rfl) ?_
   refine Da 3 rfl (y_fieldAddr rfl) ?_
   refine Dt 4 [13] rfl (y_lO1 rfl) ?_
   refine Da 5 rfl (y_move rfl) ?_
   first | refine Da 6 rfl (y_ixD rfl rfl _ rfl) ?_ | refine Da 6 rfl (y_ixP rfl rfl _ rfl) ?_
   refine Dt 7 [13] rfl (y_lIS rfl) ?_
   refine Da 8 rfl (y_move rfl) ?_
   refine Da 9 rfl (y_move rfl) ?_
   refine Da 10 rfl (y_move rfl) ?_
   refine d_call 11 rfl (by kernel_rfl) rfl rfl .free rfl (ihn (f := f ++ [h1, z]) (t := t ++ [n1, n2]) (by omega) (hf.as 5 b.tree (by omega) rfl) hok.2 hs3 hs4 (by simp [hft]) (by first | omega | (simp only [List.length_append, List.length_cons, List.length_nil]; omega)) hav bp _ (by omega) ha5 _) ?_
   rintro _ J2 _ e2 ⟨cs2, rfl, hr_0, rfl⟩
   obtain ⟨o2, k2, _, rfl, -⟩ := hr_0.open
   have hlr := hlr.trans e2
   have hf := hf.mono e2
   have hfr := hfr.mono e2
   have hto := hto.mono e2
   have hav := hav.mono e2
   have hle := hle.trans e2
   refine ⟨(.inr heldx), ?_⟩
   first | refine Da 12 rfl (y_ixD rfl rfl _ rfl) ?_ | refine Da 12 rfl (y_ixP rfl rfl _ rfl) ?_
   refine d_st 13 rfl (by kernel_rfl) rfl rfl rfl rfl rfl .free (.inl (by kernel_rfl)) ?_
   refine d_done (by kernel_rfl) ?_
   refine s_inBlock ?_
   refine o_enter rfl ?_
   refine Om rfl ?_
   refine o_arith rfl rfl rfl (by omega) .free rfl ?_
   refine Oa rfl ?_
   refine o_done ?_
   refine s_round ?_
   refine s_seq ?_
   refine Se rfl ?_
   refine Om rfl ?_
   refine Om rfl ?_
   refine o_cmp rfl rfl rfl .free rfl ?_
   refine o_done ?_
   refine s_condF rfl (by first | rfl | decide | (simp; done) | omega) ?_
   refine s_exit rfl ?_
   refine Se rfl ?_
   refine o_lOS rfl .free rfl ?_
   refine o_st rfl rfl rfl rfl .free ?_
   refine o_done ?_
   refine s_mem (fun w h => h.f2) (s_freeze ?_)
   intro hz
   have hf := hf.mono hz
   refine s_ret (.c rfl .nil) ?_
   subst hn1e hn2e
   exact ⟨_, _, hle.trans hz, fun w h => Mem.sub (L' := rn bp ov av cv _ :: L) (by repeat (first | exact List.Sublist.refl _ | apply List.Sublist.cons_cons | apply List.Sublist.cons)) h, _, rfl, .mk' rfl (.cons (hf.as 0 (.node tFun []) (by omega) rfl) (.cons (.ofAtom hnl1) (.cons (.ofAtom hnl2) (.cons (hf.as 3 (s.tree) (by omega) rfl) (.cons (hf.as 4 (u.tree) (by omega) rfl) (.cons (hr_0.mono hz) (.nil))))))) (fun y hy => by cases hy; exact still_set (xs := [_, _, _, _, _, _, _, _, _, _, _, _])) (by simp) hcc (by simp [maxN]) (by simp [maxN]), rfl⟩
  ·skip
   refine i_lits 13 rfl rfl rfl rfl (by rfl) (by rfl) (by rfl) (by decide) (by decide) (by rfl) .free rfl (.inr heldx) ?_
   intro b126
   refine d_appendB 2 (B := some (b113, [])) (xs := []) (ys := f.map sv) (m := 0) (c := 0) rfl (by kernel_rfl) rfl (by intro kk; simp) (by rfl) rfl rfl ⟨rfl, Nat.le_refl _, rfl⟩ (by first | exact fun _ h => h | exact fun _ h => h.f1 | exact fun _ h => h.f2 | exact fun _ h => h.f3) (by simp) hfr.reads hfr.none (sv_plain f) (by decide) (by omega) (by decide) .free rfl (fun _ => .inr heldx) ?_
   intro B1 c1 hB1
   refine d_appendB 14 (B := B1) (xs := f.map sv) (ys := [sv h1, sv z]) (m := 0 + f.length) (c := c1) rfl (by kernel_rfl) rfl (by intro kk; simp) (by rfl) rfl rfl hB1 (by first | exact fun _ h => h | exact fun _ h => h.u1 | exact fun _ h => h.u2 | exact fun _ h => h.u3) (by rfl) (fun a ha => by cases ha; exact reads_ownL (by first | exact m0 | exact m1 | exact m2 | exact m3 | exact m4 | exact m5 | exact m6 | exact List.mem_append_right _ m0 | exact List.mem_append_right _ m1 | exact List.mem_append_right _ m2 | exact List.mem_append_right _ m3 | exact .tail _ (List.mem_append_right _ m0) | exact .tail _ (List.mem_append_right _ m1) | exact .tail _ (List.mem_append_right _ m2) | exact .tail _ (List.mem_append_right _ m3)) (by rfl)) (by simp) (by rfl) (by decide) (by omega) (by decide) .free rfl (fun _ => .inr heldx) ?_
   intro B2 c2 hB2
   rw [show f.map sv ++ [sv h1, sv z] = (f ++ [h1, z]).map sv by simp] at hB2 ⊢
   refine d_freezeStrs hB2 (by simp) (by simp [maxN]; omega) (by intro s hs; rcases List.mem_append.1 hs with hs | hs; exact hfr.each s hs; simp only [List.mem_cons, List.not_mem_nil, or_false] at hs; rcases hs with rfl | rfl; exact hhl; exact hzl) ?_
   intro J3 o3 k3 ez hbv hs3
   refine d_put (t := 127) rfl hbv ?_
   have hf := hf.mono ez
   have hfr := hfr.mono ez
   have hto := hto.mono ez
   have hav := hav.mono ez
   have hle := hle.trans ez
   refine Da 15 rfl (y_assign rfl) ?_
   refine d_done (by kernel_rfl) ?_
   refine o_enter rfl ?_
   refine o_lits0 .free rfl ?_
   intro b128
   refine Om rfl ?_
   refine o_appendB (B := some (b128, [])) (xs := []) (ys := t.map sv) (m := 0) (c := 0) (by intro kk; simp) (by rfl) rfl rfl ⟨rfl, Nat.le_refl _, rfl⟩ (by first | exact fun _ h => h | exact fun _ h => h.f1 | exact fun _ h => h.f2 | exact fun _ h => h.f3) (by simp) hto.reads hto.none (sv_plain t) (by decide) (by omega) (by decide) .free rfl ?_
   intro B3 c3 hB3
   refine Om rfl ?_
   refine Om rfl ?_
   refine o_lits rfl rfl (by rfl) (by rfl) (by rfl) (by decide) (by decide) (by rfl) .free rfl ?_
   intro b133
   refine o_appendB (B := B3) (xs := t.map sv) (ys := [sv n1, sv n2]) (m := 0 + t.length) (c := c3) (by intro kk; simp) (by rfl) rfl rfl hB3 (by first | exact fun _ h => h | exact fun _ h => h.u1 | exact fun _ h => h.u2 | exact fun _ h => h.u3) (by rfl) (fun a ha => by cases ha; exact reads_ownL (by first | exact m0 | exact m1 | exact m2 | exact m3 | exact m4 | exact m5 | exact m6 | exact List.mem_append_right _ m0 | exact List.mem_append_right _ m1 | exact List.mem_append_right _ m2 | exact List.mem_append_right _ m3 | exact .tail _ (List.mem_append_right _ m0) | exact .tail _ (List.mem_append_right _ m1) | exact .tail _ (List.mem_append_right _ m2) | exact .tail _ (List.mem_append_right _ m3)) (by rfl)) (by simp) (by rfl) (by decide) (by omega) (by decide) .free rfl ?_
   intro B4 c4 hB4
   rw [show t.map sv ++ [sv n1, sv n2] = (t ++ [n1, n2]).map sv by simp] at hB4 ⊢
   refine Oa rfl ?_
   refine o_done ?_
   refine s_seq ?_
   refine s_seq ?_
   refine s_freezeStrs hB4 (by simp) (by simp [maxN]; omega) (by intro s hs; rcases List.mem_append.1 hs with hs | hs; exact hto.each s hs; simp only [List.mem_cons, List.not_mem_nil, or_false] at hs; rcases hs with rfl | rfl; exact hnl1; exact hnl2) ?_
   intro J4 o4 k4 ey hbv4 hs4
   refine s_put (t := 2) rfl hbv4 ?_
   refine s_mem (fun w h => h.drop.drop) ?_
   have hs3 := hs3.mono ey
   have hf := hf.mono ey
   have hfr := hfr.mono ey
   have hto := hto.mono ey
   have hav := hav.mono ey
   have hle := hle.trans ey
   refine o_enter rfl ?_
   refine Om rfl ?_
   refine Oa rfl ?_
   refine o_done ?_
   refine s_block ?_
   refine s_loop ?_
   refine s_seq ?_
   refine Se rfl ?_
   refine Om rfl ?_
   refine Om rfl ?_
   refine o_cmp rfl rfl rfl .free rfl ?_
   refine o_done ?_
   refine s_condT rfl (by first | rfl | decide | (simp; done) | omega) ?_
   refine s_skip ?_
   refine s_seq ?_
   refine s_block ?_
   refine s_here fun hlr => ?_
   have hpl := b.pl_hits av (f ++ [h1, z]) (t ++ [n1, n2]) (fr 120 av (fr 120 av k + 1) + 1)
   refine d_tl 14 rfl rfl ?_
   refine Da 0 rfl (y_fieldAddr rfl) ?_
   refine Dt 1 [13] rfl (y_lO1 rfl) ?_
   refine Da 2 rfl (y_move rfl) ?_
   refine Da 3 rfl (y_fieldAddr rfl) ?_
   refine Dt 4 [13] rfl (y_lO1 rfl) ?_
   refine Da 5 rfl (y_move rfl) ?_
   first | refine Da 6 rfl (y_ixD rfl rfl _ rfl) ?_ | refine Da 6 rfl (y_ixP rfl rfl _ rfl) ?_
   refine Dt 7 [13] rfl (y_lIS rfl) ?_
   refine Da 8 rfl (y_move rfl) ?_
   refine Da 9 rfl (y_move rfl) ?_
   refine Da 10 rfl (y_move rfl) ?_
   refine d_call 11 rfl (by kernel_rfl) rfl rfl .free rfl (ihn (f := f ++ [h1, z]) (t := t ++ [n1, n2]) (by omega) (hf.as 5 b.tree (by omega) rfl) hok.2 hs3 hs4 (by simp [hft]) (by first | omega | (simp only [List.length_append, List.length_cons, List.length_nil]; omega)) hav bp _ (by omega) ha5 _) ?_
   rintro _ J2 _ e2 ⟨cs2, rfl, hr_0, rfl⟩
   obtain ⟨o2, k2, _, rfl, -⟩ := hr_0.open
   have hlr := hlr.trans e2
   have hf := hf.mono e2
   have hfr := hfr.mono e2
   have hto := hto.mono e2
   have hav := hav.mono e2
   have hle := hle.trans e2
   refine ⟨(.inr heldx), ?_⟩
   first | refine Da 12 rfl (y_ixD rfl rfl _ rfl) ?_ | refine Da 12 rfl (y_ixP rfl rfl _ rfl) ?_
   refine d_st 13 rfl (by kernel_rfl) rfl rfl rfl rfl rfl .free (.inl (by kernel_rfl)) ?_
   refine d_done (by kernel_rfl) ?_
   refine s_inBlock ?_
   refine o_enter rfl ?_
   refine Om rfl ?_
   refine o_arith rfl rfl rfl (by omega) .free rfl ?_
   refine Oa rfl ?_
   refine o_done ?_
   refine s_round ?_
   refine s_seq ?_
   refine Se rfl ?_
   refine Om rfl ?_
   refine Om rfl ?_
   refine o_cmp rfl rfl rfl .free rfl ?_
   refine o_done ?_
   refine s_condF rfl (by first | rfl | decide | (simp; done) | omega) ?_
   refine s_exit rfl ?_
   refine Se rfl ?_
   refine o_lOS rfl .free rfl ?_
   refine o_st rfl rfl rfl rfl .free ?_
   refine o_done ?_
   refine s_mem (fun w h => h.f2) (s_freeze ?_)
   intro hz
   have hf := hf.mono hz
   refine s_ret (.c rfl .nil) ?_
   subst hn1e hn2e
   exact ⟨_, _, hle.trans hz, fun w h => Mem.sub (L' := rn bp ov av cv _ :: L) (by repeat (first | exact List.Sublist.refl _ | apply List.Sublist.cons_cons | apply List.Sublist.cons)) h, _, rfl, .mk' rfl (.cons (hf.as 0 (.node tFun []) (by omega) rfl) (.cons (.ofAtom hnl1) (.cons (.ofAtom hnl2) (.cons (hf.as 3 (s.tree) (by omega) rfl) (.cons (hf.as 4 (u.tree) (by omega) rfl) (.cons (hr_0.mono hz) (.nil))))))) (fun y hy => by cases hy; exact still_set (xs := [_, _, _, _, _, _, _, _, _, _, _, _])) (by simp) hcc (by simp [maxN]) (by simp [maxN]), rfl⟩
 ·skip
  refine i_lits 13 rfl rfl rfl rfl (by rfl) (by rfl) (by rfl) (by decide) (by decide) (by rfl) .free rfl (.inr heldx) ?_
  intro b126
  refine d_lits0 0 rfl (by kernel_rfl) rfl .free rfl (.inr heldx) ?_
  intro b113
  refine d_appendB 2 (B := some (b113, [])) (xs := []) (ys := f.map sv) (m := 0) (c := 0) rfl (by kernel_rfl) rfl (by intro kk; simp) (by rfl) rfl rfl ⟨rfl, Nat.le_refl _, rfl⟩ (by first | exact fun _ h => h | exact fun _ h => h.f1 | exact fun _ h => h.f2 | exact fun _ h => h.f3) (by simp) hfr.reads hfr.none (sv_plain f) (by decide) (by omega) (by decide) .free rfl (fun _ => .inr heldx) ?_
  intro B1 c1 hB1
  refine d_appendB 14 (B := B1) (xs := f.map sv) (ys := [sv h1, sv z]) (m := 0 + f.length) (c := c1) rfl (by kernel_rfl) rfl (by intro kk; simp) (by rfl) rfl rfl hB1 (by first | exact fun _ h => h | exact fun _ h => h.u1 | exact fun _ h => h.u2 | exact fun _ h => h.u3) (by rfl) (fun a ha => by cases ha; exact reads_ownL (by first | exact m0 | exact m1 | exact m2 | exact m3 | exact m4 | exact m5 | exact m6 | exact List.mem_append_right _ m0 | exact List.mem_append_right _ m1 | exact List.mem_append_right _ m2 | exact List.mem_append_right _ m3 | exact .tail _ (List.mem_append_right _ m0) | exact .tail _ (List.mem_append_right _ m1) | exact .tail _ (List.mem_append_right _ m2) | exact .tail _ (List.mem_append_right _ m3)) (by rfl)) (by simp) (by rfl) (by decide) (by omega) (by decide) .free rfl (fun _ => .inr heldx) ?_
  intro B2 c2 hB2
  rw [show f.map sv ++ [sv h1, sv z] = (f ++ [h1, z]).map sv by simp] at hB2 ⊢
  refine d_freezeStrs hB2 (by simp) (by simp [maxN]; omega) (by intro s hs; rcases List.mem_append.1 hs with hs | hs; exact hfr.each s hs; simp only [List.mem_cons, List.not_mem_nil, or_false] at hs; rcases hs with rfl | rfl; exact hhl; exact hzl) ?_
  intro J3 o3 k3 ez hbv hs3
  refine d_put (t := 127) rfl hbv ?_
  have hf := hf.mono ez
  have hfr := hfr.mono ez
  have hto := hto.mono ez
  have hav := hav.mono ez
  have hle := hle.trans ez
  refine Da 15 rfl (y_assign rfl) ?_
  refine d_done (by kernel_rfl) ?_
  refine o_enter rfl ?_
  refine o_lits0 .free rfl ?_
  intro b128
  refine Om rfl ?_
  refine o_appendB (B := some (b128, [])) (xs := []) (ys := t.map sv) (m := 0) (c := 0) (by intro kk; simp) (by rfl) rfl rfl ⟨rfl, Nat.le_refl _, rfl⟩ (by first | exact fun _ h => h | exact fun _ h => h.f1 | exact fun _ h => h.f2 | exact fun _ h => h.f3) (by simp) hto.reads hto.none (sv_plain t) (by decide) (by omega) (by decide) .free rfl ?_
  intro B3 c3 hB3
  refine Om rfl ?_
  refine Om rfl ?_
  refine o_lits rfl rfl (by rfl) (by rfl) (by rfl) (by decide) (by decide) (by rfl) .free rfl ?_
  intro b133
  refine o_appendB (B := B3) (xs := t.map sv) (ys := [sv n1, sv n2]) (m := 0 + t.length) (c := c3) (by intro kk; simp) (by rfl) rfl rfl hB3 (by first | exact fun _ h => h | exact fun _ h => h.u1 | exact fun _ h => h.u2 | exact fun _ h => h.u3) (by rfl) (fun a ha => by cases ha; exact reads_ownL (by first | exact m0 | exact m1 | exact m2 | exact m3 | exact m4 | exact m5 | exact m6 | exact List.mem_append_right _ m0 | exact List.mem_append_right _ m1 | exact List.mem_append_right _ m2 | exact List.mem_append_right _ m3 | exact .tail _ (List.mem_append_right _ m0) | exact .tail _ (List.mem_append_right _ m1) | exact .tail _ (List.mem_append_right _ m2) | exact .tail _ (List.mem_append_right _ m3)) (by rfl)) (by simp) (by rfl) (by decide) (by omega) (by decide) .free rfl ?_
  intro B4 c4 hB4
  rw [show t.map sv ++ [sv n1, sv n2] = (t ++ [n1, n2]).map sv by simp] at hB4 ⊢
  refine Oa rfl ?_
  refine o_done ?_
  refine s_seq ?_
  refine s_seq ?_
  refine s_freezeStrs hB4 (by simp) (by simp [maxN]; omega) (by intro s hs; rcases List.mem_append.1 hs with hs | hs; exact hto.each s hs; simp only [List.mem_cons, List.not_mem_nil, or_false] at hs; rcases hs with rfl | rfl; exact hnl1; exact hnl2) ?_
  intro J4 o4 k4 ey hbv4 hs4
  refine s_put (t := 2) rfl hbv4 ?_
  refine s_mem (fun w h => h.drop.drop) ?_
  have hs3 := hs3.mono ey
  have hf := hf.mono ey
  have hfr := hfr.mono ey
  have hto := hto.mono ey
  have hav := hav.mono ey
  have hle := hle.trans ey
  refine o_enter rfl ?_
  refine Om rfl ?_
  refine Oa rfl ?_
  refine o_done ?_
  refine s_block ?_
  refine s_loop ?_
  refine s_seq ?_
  refine Se rfl ?_
  refine Om rfl ?_
  refine Om rfl ?_
  refine o_cmp rfl rfl rfl .free rfl ?_
  refine o_done ?_
  refine s_condT rfl (by first | rfl | decide | (simp; done) | omega) ?_
  refine s_skip ?_
  refine s_seq ?_
  refine s_block ?_
  refine s_here fun hlr => ?_
  have hpl := b.pl_hits av (f ++ [h1, z]) (t ++ [n1, n2]) (fr 120 av (fr 120 av k + 1) + 1)
  refine d_tl 14 rfl rfl ?_
  refine Da 0 rfl (y_fieldAddr rfl) ?_
  refine Dt 1 [13] rfl (y_lO1 rfl) ?_
  refine Da 2 rfl (y_move rfl) ?_
  refine Da 3 rfl (y_fieldAddr rfl) ?_
  refine Dt 4 [13] rfl (y_lO1 rfl) ?_
  refine Da 5 rfl (y_move rfl) ?_
  first | refine Da 6 rfl (y_ixD rfl rfl _ rfl) ?_ | refine Da 6 rfl (y_ixP rfl rfl _ rfl) ?_
  refine Dt 7 [13] rfl (y_lIS rfl) ?_
  refine Da 8 rfl (y_move rfl) ?_
  refine Da 9 rfl (y_move rfl) ?_
  refine Da 10 rfl (y_move rfl) ?_
  refine d_call 11 rfl (by kernel_rfl) rfl rfl .free rfl (ihn (f := f ++ [h1, z]) (t := t ++ [n1, n2]) (by omega) (hf.as 5 b.tree (by omega) rfl) hok.2 hs3 hs4 (by simp [hft]) (by first | omega | (simp only [List.length_append, List.length_cons, List.length_nil]; omega)) hav bp _ (by omega) ha5 _) ?_
  rintro _ J2 _ e2 ⟨cs2, rfl, hr_0, rfl⟩
  obtain ⟨o2, k2, _, rfl, -⟩ := hr_0.open
  have hlr := hlr.trans e2
  have hf := hf.mono e2
  have hfr := hfr.mono e2
  have hto := hto.mono e2
  have hav := hav.mono e2
  have hle := hle.trans e2
  refine ⟨(.inr heldx), ?_⟩
  first | refine Da 12 rfl (y_ixD rfl rfl _ rfl) ?_ | refine Da 12 rfl (y_ixP rfl rfl _ rfl) ?_
  refine d_st 13 rfl (by kernel_rfl) rfl rfl rfl rfl rfl .free (.inl (by kernel_rfl)) ?_
  refine d_done (by kernel_rfl) ?_
  refine s_inBlock ?_
  refine o_enter rfl ?_
  refine Om rfl ?_
  refine o_arith rfl rfl rfl (by omega) .free rfl ?_
  refine Oa rfl ?_
  refine o_done ?_
  refine s_round ?_
  refine s_seq ?_
  refine Se rfl ?_
  refine Om rfl ?_
  refine Om rfl ?_
  refine o_cmp rfl rfl rfl .free rfl ?_
  refine o_done ?_
  refine s_condF rfl (by first | rfl | decide | (simp; done) | omega) ?_
  refine s_exit rfl ?_
  refine Se rfl ?_
  refine o_lOS rfl .free rfl ?_
  refine o_st rfl rfl rfl rfl .free ?_
  refine o_done ?_
  refine s_mem (fun w h => h.f2) (s_freeze ?_)
  intro hz
  have hf := hf.mono hz
  refine s_ret (.c rfl .nil) ?_
  subst hn1e hn2e
  exact ⟨_, _, hle.trans hz, fun w h => Mem.sub (L' := rn bp ov av cv _ :: L) (by repeat (first | exact List.Sublist.refl _ | apply List.Sublist.cons_cons | apply List.Sublist.cons)) h, _, rfl, .mk' rfl (.cons (hf.as 0 (.node tFun []) (by omega) rfl) (.cons (.ofAtom hnl1) (.cons (.ofAtom hnl2) (.cons (hf.as 3 (s.tree) (by omega) rfl) (.cons (hf.as 4 (u.tree) (by omega) rfl) (.cons (hr_0.mono hz) (.nil))))))) (fun y hy => by cases hy; exact still_set (xs := [_, _, _, _, _, _, _, _, _, _, _, _])) (by simp) hcc (by simp [maxN]) (by simp [maxN]), rfl⟩
set_option maxHeartbeats 2000000 in
theorem plain_un {n : Nat} (ihn : PlainH n) {o : U2} {a : Ex} {I : Heap} {cs : List Value} (hlt : SizeOf.sizeOf (Ex.un o a) < n + 1) (h : Rep I (Ex.un o a).tree cs) (hok : (Ex.un o a).ok = true) {f t : List Txt} {of ot : Option Addr} {cf ct : Nat} (hfr : Strs I of f cf) (hto : Strs I ot t ct) (hft : f.length = t.length) (hfl : f.length + 2 * (Ex.un o a).size ≤ 100000)
  {ov : Option Addr} {av : List Txt} {cv : Nat} (hav : Strs I ov av cv) (bp k : Nat) (hk : k + (Ex.un o a).nb + av.length ≤ 90 + hits 120 av k) (ha5 : av.length ≤ 500) (L : Own) :
  Fun Tryz.prog 33 [.agg cs.toArray, .slice of f.length cf, .slice ot t.length ct, .pointer (some ⟨bp, 0, none⟩)] I (rn bp ov av cv k :: L) (PR bp ov av cv ((Ex.un o a).pl av f t k) L) := by
 obtain ⟨oa, c, oaf, cf1, rfl, hf, hcl, hcs⟩ := h.cells
 have hle : HLe I I := .refl _
 have ha := hf.alen
 have hh0 := hits_le 120 av k
 refine fun_intro (by simp) ?_
 refine Se rfl ?_
 refine o_box rfl rfl .free rfl ?_
 intro b4
 refine o_alloc .free rfl ?_
 intro b8
 refine o_done ?_
 refine s_seq ?_
 refine Se rfl ?_
 refine o_fieldAddr rfl .free rfl ?_
 refine o_lO1 rfl .free rfl ?_
 refine o_cmps rfl rfl rfl .free rfl ?_
 refine o_done ?_
 first | refine s_fp rfl (by simp [Ex.tree, Tree.atom]) ?_ | refine s_fn rfl (by simp [Ex.tree, Tree.atom]) ?_ | refine s_false (by simp [look, opd, *]) ?_
 refine s_skip ?_
 refine s_seq ?_
 have hok0 := hok
 have hb : (Ex.un o a).bare = false := rfl
 have hpos : 0 < (Ex.un o a).tree.parts.length := by
  rw [Ex.bare_parts] at hb
  have : (Ex.un o a).tree.parts ≠ [] := by intro hh; rw [hh] at hb; cases hb
  exact List.length_pos_iff.2 this
 have hhd := head_at hpos
 obtain ⟨xa, rfl⟩ : ∃ xa, oa = some xa := ⟨_, some_oad hf.nil hpos⟩
 have hp := hf.len
 unfold maxN at hp
 refine o_enter rfl ?_
 refine o_lits0 .free rfl ?_
 intro b29
 refine o_fieldAddr rfl .free rfl ?_
 refine o_lO1 rfl .free rfl ?_
 refine o_append (B := some (b29, [])) (xs := []) (ys := cellsF oaf cf1 0 (Ex.un o a).tree.parts) (m := 0) (c := 0) (by intro kk; simp) (by rfl) rfl rfl ⟨rfl, Nat.le_refl _, rfl⟩ (fun _ h => h) (by have := hcl.length; omega) (fun a ha => by cases ha; exact (hcs _ rfl).reads) (by simp) hcl.plain hpos (by decide) (by omega) (by decide) .free rfl ?_
 intro bc sp cc hB'
 have hcc : (Ex.un o a).tree.parts.length ≤ cc := by have := hB'.2.1; omega
 refine o_put (t := 32) (v' := .slice (some ⟨bc, 0, none⟩) (Ex.un o a).tree.parts.length cc) rfl (by rw [Nat.zero_add]) ?_
 simp only [List.nil_append]
 refine o_struct rfl rfl rfl .free rfl ?_
 refine o_alloc .free rfl ?_
 intro b9
 refine o_st rfl rfl rfl rfl .free ?_
 refine o_done ?_
 refine Se rfl ?_
 refine o_fieldAddr rfl .free rfl ?_
 refine o_lO1 rfl .free rfl ?_
 first | refine o_ixD rfl rfl 0 rfl .free rfl ?_ | refine o_ixP rfl rfl 0 rfl .free rfl ?_
 refine o_fieldAddr' rfl .free rfl ?_
 refine o_lIF rfl .free rfl ?_
 refine o_call rfl .free rfl (g_l2Kids ((Ex.un o a).tree.pt 0).atom _ _) ?_
 rw [← hhd]; rintro _ _ _ _ ⟨rfl, rfl, rfl⟩
 refine Om rfl ?_
 refine o_extract rfl rfl .free rfl ?_
 refine o_extract rfl rfl .free rfl ?_
 refine Oa rfl ?_
 refine Oa rfl ?_
 refine o_done ?_
 refine s_seq ?_
 refine s_seq ?_
 have hkr : kidRange (Ex.un o a).tree.head = (1, 2) := by cases o <;> rfl
 rw [hkr]
 have hlen : (Ex.un o a).tree.parts.length = 2 := rfl
 have hki := kids_un o a
 have hp0 : ((Ex.un o a).tree.pt 0).atom = o.txt := rfl
 simp only [Ex.un.sizeOf_spec] at hlt
 simp only [Ex.ok, Bool.and_eq_true, decide_eq_true_eq] at hok
 simp only [Ex.nb] at hk
 simp only [Ex.size] at hfl
 simp only [show (Ex.un o a).tree.parts = [.node o.txt [], a.tree] from rfl, cellsF, List.cons_append, List.nil_append]
 refine s_mem (fun w h => h.f4) ?_
 refine o_enter rfl ?_
 refine o_fieldAddr rfl .free rfl ?_
 refine o_lO1 rfl .free rfl ?_
 first | refine o_ixD rfl rfl 0 rfl .free rfl ?_ | refine o_ixP rfl rfl 0 rfl .free rfl ?_
 refine o_fieldAddr' rfl .free rfl ?_
 refine o_lIF rfl .free rfl ?_
 refine o_cmps rfl rfl rfl .free rfl ?_
 refine o_done ?_
 first | refine s_fp rfl (by rw [hp0]; cases o <;> decide) ?_ | refine s_fn rfl (by rw [hp0]; cases o <;> decide) ?_ | refine s_false (by simp [look, opd, *]) ?_
 refine s_skip ?_
 refine s_seq ?_
 refine Se rfl ?_
 refine o_fieldAddr rfl .free rfl ?_
 refine o_lO1 rfl .free rfl ?_
 first | refine o_ixD rfl rfl 0 rfl .free rfl ?_ | refine o_ixP rfl rfl 0 rfl .free rfl ?_
 refine o_fieldAddr' rfl .free rfl ?_
 refine o_lIF rfl .free rfl ?_
 refine o_cmps rfl rfl rfl .free rfl ?_
 refine o_done ?_
 first | refine s_fp rfl (by rw [hp0]; cases o <;> decide) ?_ | refine s_fn rfl (by rw [hp0]; cases o <;> decide) ?_ | refine s_false (by simp [look, opd, *]) ?_
 refine s_skip ?_
 refine s_seq ?_
 refine Se rfl ?_
 refine Om rfl ?_
 refine Oa rfl ?_
 refine o_done ?_
 refine s_block ?_
 refine s_loop ?_
 refine s_seq ?_
 refine Se rfl ?_
 refine Om rfl ?_
 refine Om rfl ?_
 refine o_cmp rfl rfl rfl .free rfl ?_
 refine o_done ?_
 refine s_condT rfl (by first | rfl | decide | (simp; done) | omega) ?_
 refine s_skip ?_
 refine s_seq ?_
 refine s_block ?_
 refine s_here fun hlr => ?_
 have hpl := a.pl_hits av (f) (t) k
 refine d_tl 14 rfl rfl ?_
 refine Da 0 rfl (y_fieldAddr rfl) ?_
 refine Dt 1 [13] rfl (y_lO1 rfl) ?_
 refine Da 2 rfl (y_move rfl) ?_
 refine Da 3 rfl (y_fieldAddr rfl) ?_
 refine Dt 4 [13] rfl (y_lO1 rfl) ?_
 refine Da 5 rfl (y_move rfl) ?_
 first | refine Da 6 rfl (y_ixD rfl rfl _ rfl) ?_ | refine Da 6 rfl (y_ixP rfl rfl _ rfl) ?_
 refine Dt 7 [13] rfl (y_lIS rfl) ?_
 refine Da 8 rfl (y_move rfl) ?_
 refine Da 9 rfl (y_move rfl) ?_
 refine Da 10 rfl (y_move rfl) ?_
 refine d_call 11 rfl (by kernel_rfl) rfl rfl .free rfl (ihn (f := f) (t := t) (by omega) (hf.as 1 a.tree (by omega) rfl) hok hfr hto (by simp [hft]) (by first | omega | (simp only [List.length_append, List.length_cons, List.length_nil]; omega)) hav bp _ (by omega) ha5 _) ?_
 rintro _ J2 _ e2 ⟨cs2, rfl, hr_0, rfl⟩
 obtain ⟨o2, k2, _, rfl, -⟩ := hr_0.open
 have hlr := hlr.trans e2
 have hf := hf.mono e2
 have hfr := hfr.mono e2
 have hto := hto.mono e2
 have hav := hav.mono e2
 have hle := hle.trans e2
 refine ⟨(.inr heldx), ?_⟩
 first | refine Da 12 rfl (y_ixD rfl rfl _ rfl) ?_ | refine Da 12 rfl (y_ixP rfl rfl _ rfl) ?_
 refine d_st 13 rfl (by kernel_rfl) rfl rfl rfl rfl rfl .free (.inl (by kernel_rfl)) ?_
 refine d_done (by kernel_rfl) ?_
 refine s_inBlock ?_
 refine o_enter rfl ?_
 refine Om rfl ?_
 refine o_arith rfl rfl rfl (by omega) .free rfl ?_
 refine Oa rfl ?_
 refine o_done ?_
 refine s_round ?_
 refine s_seq ?_
 refine Se rfl ?_
 refine Om rfl ?_
 refine Om rfl ?_
 refine o_cmp rfl rfl rfl .free rfl ?_
 refine o_done ?_
 refine s_condF rfl (by first | rfl | decide | (simp; done) | omega) ?_
 refine s_exit rfl ?_
 refine Se rfl ?_
 refine o_lOS rfl .free rfl ?_
 refine o_st rfl rfl rfl rfl .free ?_
 refine o_done ?_
 refine s_mem (fun w h => h.f2) (s_freeze ?_)
 intro hz
 have hf := hf.mono hz
 refine s_ret (.c rfl .nil) ?_
 exact ⟨_, _, hle.trans hz, fun w h => Mem.sub (L' := rn bp ov av cv _ :: L) (by repeat (first | exact List.Sublist.refl _ | apply List.Sublist.cons_cons | apply List.Sublist.cons)) h, _, rfl, .mk' rfl (.cons (hf.as 0 (.node o.txt []) (by omega) rfl) (.cons (hr_0.mono hz) (.nil))) (fun y hy => by cases hy; exact still_set (xs := [_, _, _, _])) (by simp) hcc (by simp [maxN]) (by simp [maxN]), rfl⟩
set_option maxHeartbeats 2000000 in
theorem plain_atom {e : Ex} {I : Heap} {cs : List Value} (hb : e.bare = true) (h : Rep I e.tree cs) (hok : e.ok = true) {f t : List Txt} {of ot : Option Addr} {cf ct : Nat} (hfr : Strs I of f cf) (hto : Strs I ot t ct) (hft : f.length = t.length)
  {ov : Option Addr} {av : List Txt} {cv : Nat} (hav : Strs I ov av cv) (bp k : Nat) (L : Own) :
  Fun Tryz.prog 33 [.agg cs.toArray, .slice of f.length cf, .slice ot t.length ct, .pointer (some ⟨bp, 0, none⟩)] I (rn bp ov av cv k :: L) (PR bp ov av cv (e.pl av f t k) L) := by
 obtain ⟨oa, c, oaf, cf1, rfl, hf, hcl, hcs⟩ := h.cells
 have hle : HLe I I := .refl _
 have ha := hf.alen
 have hh0 := hits_le 120 av k
 refine fun_intro (by simp) ?_
 refine Se rfl ?_
 refine o_box rfl rfl .free rfl ?_
 intro b4
 refine o_alloc .free rfl ?_
 intro b8
 refine o_done ?_
 refine s_seq ?_
 refine Se rfl ?_
 refine o_fieldAddr rfl .free rfl ?_
 refine o_lO1 rfl .free rfl ?_
 refine o_cmps rfl rfl rfl .free rfl ?_
 refine o_done ?_
 first | refine s_tp rfl (by exact fun h2 => by have h3 := (Ex.atom_iff hok).1 h2; rw [hb] at h3; cases h3) ?_ | refine s_tn rfl (by exact fun h2 => by have h3 := (Ex.atom_iff hok).1 h2; rw [hb] at h3; cases h3) ?_ | refine s_true (by simp [look, opd, *]) ?_
 refine s_seq ?_
 refine Se rfl ?_
 refine o_fieldAddr rfl .free rfl ?_
 refine o_lO1 rfl .free rfl ?_
 refine o_call rfl .free rfl (g_l2Name e.tree.atom ha _ _) ?_
 rintro _ _ _ _ ⟨rfl, rfl, rfl⟩
 refine o_done ?_
 refine s_cond rfl ?_ ?_
 ·intro c1
  try simp only [nb] at c1
  refine Se rfl ?_
  refine Om rfl ?_
  refine Om rfl ?_
  refine o_fieldAddr rfl .free rfl ?_
  refine o_lO1 rfl .free rfl ?_
  refine o_call rfl .free rfl (g_l2Look hfr hto hft e.tree.atom _) ?_
  rintro _ _ _ _ ⟨rfl, rfl, rfl⟩
  refine o_call rfl .free rfl (g_l1Atom (lookOr f t e.tree.atom) _ _) ?_
  rintro _ _ _ _ ⟨rfl, rfl, rfl⟩
  refine o_st rfl rfl rfl rfl .free ?_
  refine o_done ?_
  refine s_ret (.c rfl .nil) ?_
  cases e with
  | name s =>
   refine ⟨I, _, .refl _, fun w h => Mem.sub (L' := rn bp ov av cv k :: L) (by repeat (first | exact List.Sublist.refl _ | apply List.Sublist.cons_cons | apply List.Sublist.cons)) h, _, rfl, .ofAtom ?_, rfl⟩
   show (match lastIdx f s with | some i => t.getD i [] | none => s).length ≤ maxN
   cases hi : lastIdx f s with
   | none => exact ha
   | some i =>
    have hil := (lastAt_lt (show lastAt f s f.length = some i from hi)).1
    have hit : i < t.length := by omega
    show (t.getD i []).length ≤ maxN
    rw [show t.getD i [] = t[i] by simp [hit]]; exact hto.each _ (List.getElem_mem _)
  | num s =>
   have h1 := name_not_num (show isName s = true from c1)
   rw [show isNum s = true from hok] at h1; cases h1
  | _ => cases hb
 intro c1
 try simp only [nb] at c1
 refine s_skip ?_
 refine Se rfl ?_
 refine o_lOS rfl .free rfl ?_
 refine o_st rfl rfl rfl rfl .free ?_
 refine o_done ?_
 refine s_ret (.c rfl .nil) ?_
 cases e with
 | num s => exact ⟨I, _, .refl _, fun w h => Mem.sub (L' := rn bp ov av cv k :: L) (by repeat (first | exact List.Sublist.refl _ | apply List.Sublist.cons_cons | apply List.Sublist.cons)) h, _, rfl, hf.rep, rfl⟩
 | name s => rw [show isName (Ex.name s).tree.atom = true from hok] at c1; cases c1
 | _ => cases hb
theorem g_l2Plain_all : ∀ n : Nat, PlainH n := by
 intro n
 induction n with
 | zero => intro I e cs h; omega
 | succ n ihn =>
  intro I e cs hlt h hok f t of ot cf ct hfr hto hft hfl ov av cv hav bp k hk ha5 L
  cases hb : e.bare with
  | true => exact plain_atom hb h hok hfr hto hft hav bp k L
  | false =>
   cases e with
   | num s => cases hb
   | name s => cases hb
   | bin o a b => exact plain_bin ihn hlt h hok hfr hto hft hfl hav bp k hk ha5 L
   | ite a b d => exact plain_ite ihn hlt h hok hfr hto hft hfl hav bp k hk ha5 L
   | lt z a b => exact plain_lt ihn hlt h hok hfr hto hft hfl hav bp k hk ha5 L
   | fn h1 z s u b => exact plain_fn ihn hlt h hok hfr hto hft hfl hav bp k hk ha5 L
   | un o a => exact plain_un ihn hlt h hok hfr hto hft hfl hav bp k hk ha5 L
theorem g_l2Plain (n : Nat) {I : Heap} {e : Ex} {cs : List Value} (h1 : SizeOf.sizeOf e < n) (h2 : Rep I e.tree cs) (h3 : e.ok = true) {f t : List Txt} {of ot : Option Addr} {cf ct : Nat} (h4 : Strs I of f cf) (h5 : Strs I ot t ct) (h6 : f.length = t.length) (h7 : f.length + 2 * e.size ≤ 100000)
  {oa : Option Addr} {av : List Txt} {c : Nat} (h8 : Strs I oa av c) (b k : Nat) (h9 : k + e.nb + av.length ≤ 90 + hits 120 av k) (h10 : av.length ≤ 500) (L : Own) :
  Fun Tryz.prog 33 [.agg cs.toArray, .slice of f.length cf, .slice ot t.length ct, .pointer (some ⟨b, 0, none⟩)] I (rn b oa av c k :: L) (PR b oa av c (e.pl av f t k) L) :=
 g_l2Plain_all n h1 h2 h3 h4 h5 h6 h7 h8 b k h9 h10 L
end Go.Proofs.YtdgpnibnogdllaaGreatDoor


/- 'ExprPut', by the program and by the reference. No conditions. -/
namespace Go.Proofs.YtdgpnibnogdllaaGreatDoor
set_option maxRecDepth 100000
set_option linter.unusedVariables false
set_option linter.unusedSimpArgs false

/-- What 'ExprPut' returns. -/
def putOf (s nm by' : Txt) : Option Txt := match exOf s, closedOf by' with
 | some e, some v => if isName nm = true ∧ (e.put nm v).fine = true then some (e.put nm v).tree.text else none
 | _, _ => none
end Go.Proofs.YtdgpnibnogdllaaGreatDoor
