
/- Numerals and heads. No conditions. -/
import Derived.Test.YtekfjhopngcneaaOps5
import Derived.Test.YtekfjhopngcneaaW9
namespace Go.Proofs.Ytekfjhopngcneaa
set_option maxRecDepth 100000
set_option linter.unusedVariables false
set_option linter.unusedSimpArgs false

section rules
variable {P : Program} {f : FuncId} {n : Nat} {I₀ : Heap} {Q : Post} {k : List Item} {E : Env} {I : Heap} {L : Own}
variable {ops : Array Oper} {d : Nat} {ty : TypeId} {pos : String} {af : Array Edge} {g : Option (Nat × Bool)} {l : List Oper}
theorem o_sub8 {T T' : TypeId} {x y : Operand} {a b : Nat} (hx : opd E x = some (.int .u8 (a : Nat))) (hy : opd E y = some (.int .u8 (b : Nat))) (hab : b ≤ a) (ha : a ≤ 255) (hg : Wants ops E g) (hdn : Nat.blt d n = true)
    (h : RunO P f n I₀ Q ops l k ((d, .int .u8 ((a - b : Nat))) :: E) I L) : RunO P f n I₀ Q ops (⟨some d, .binOp .sub T x y T', ty, pos, af, g⟩ :: l) k E I L :=
  o_yld (fun ac w he _ => by
    simp only [execOp, he.eval hx, he.eval hy]
    refine run_bind_ok (a := _) (w' := w) ?_ |>.trans rfl
    rw [run_bind_ok (run_eqGuard_int w)]
    have e : IntKind.u8.wrap ((a : Int) - (b : Int)) = ((a - b : Nat) : Int) := by
      simp [IntKind.wrap, IntKind.bits, IntKind.signed]; omega
    simp [binOp, Op.intArith, e]) hg hdn h
end rules

def unsign (s : Txt) : Txt := if (s.getD 0 0).toNat = 45 then s.drop 1 else s
def isNum (s : Txt) : Bool := decide (s = [48]) || (decide (1 ≤ (unsign s).length ∧ (unsign s).length ≤ 3) && (unsign s).all digit && !decide (((unsign s).getD 0 0).toNat = 48))
def digitsVal (l : Txt) : Nat := l.foldl (fun n b => 10 * n + (b.toNat - 48)) 0
def numVal (s : Txt) : Int := if s = [48] then 0 else (if (s.getD 0 0).toNat = 45 then -1 else 1) * (digitsVal (unsign s) : Nat)

theorem digitsVal_take (s : Txt) (i : Nat) (hi : i < s.length) : digitsVal (s.take (i + 1)) = 10 * digitsVal (s.take i) + ((s.getD i 0).toNat - 48) := by
  have e : s.getD i 0 = s[i] := by simp [hi]
  rw [List.take_succ_eq_append_getElem hi, e, digitsVal, List.foldl_append]
  rfl
theorem digitsVal_le : ∀ (l : Txt), digitsVal l + 1 ≤ 256 * 256 ^ l.length := by
  intro l
  have key : ∀ (l : Txt) (a : Nat), l.foldl (fun n b => 10 * n + (b.toNat - 48)) a + 1 ≤ (a + 1) * 256 ^ l.length * 256 := by
    intro l
    induction l with
    | nil => intro a; simp; omega
    | cons b r ih =>
      intro a
      have hb := UInt8.toNat_lt b
      refine Nat.le_trans (ih _) ?_
      rw [List.length_cons, Nat.pow_succ]
      have h1 : 10 * a + (b.toNat - 48) + 1 ≤ (a + 1) * 256 := by omega
      calc (10 * a + (b.toNat - 48) + 1) * 256 ^ r.length * 256 ≤ ((a + 1) * 256) * 256 ^ r.length * 256 := Nat.mul_le_mul_right _ (Nat.mul_le_mul_right _ h1)
        _ = (a + 1) * (256 ^ r.length * 256) * 256 := by rw [Nat.mul_assoc (a + 1) 256, Nat.mul_comm 256 (256 ^ r.length)]
  have := key l 0
  simp only [digitsVal]
  omega

theorem f_stringslite_TrimPrefix (s p : Txt) (hs : s.length ≤ maxN) (hp : p.length ≤ maxN) (I : Heap) (L : Own) : Fun Try.prog 68 [.string (str s), .string (str p)] I L (Only (.string (str (if p.isPrefixOf s then s.drop p.length else s))) I L) := by
  unfold maxN at hs hp
  refine fun_intro (by simp) ?_
  refine s_seq ?_
  refine o_enter rfl ?_
  refine o_assign rfl .free rfl ?_
  refine o_done ?_
  refine s_seq ?_
  refine s_seq ?_
  refine o_enter rfl ?_
  refine o_move rfl .free rfl ?_
  refine o_move rfl .free rfl ?_
  refine o_call rfl .free rfl (f_stringslite_HasPrefix s p hs hp _ _) ?_
  rintro _ _ _ _ ⟨rfl, rfl, rfl⟩
  refine o_done ?_
  first | refine s_if rfl ?_ ?_ | refine s_ifn rfl ?_ ?_ | refine s_cond rfl ?_ ?_
  · intro c0
    have hlen : p.length ≤ s.length := by
      have := (List.isPrefixOf_iff_prefix.1 c0).length_le; exact this
    refine s_seq ?_
    refine o_enter rfl ?_
    refine o_move rfl .free rfl ?_
    refine o_move rfl .free rfl ?_
    refine o_len_str rfl .free rfl ?_
    refine o_slice_from rfl rfl _ rfl (by first | omega | exact lt_of (by assumption) (by decide) | (simp; done) | (simp; omega) | decide | (simp at *; omega)) .free rfl ?_
    refine o_assign rfl .free rfl ?_
    refine o_done ?_
    refine s_ret (.tmp rfl .nil) ?_
    refine done_only rfl (by intro _ h; first | exact h | exact dr1 h | exact dr2 h | exact dr3 h | exact dr4 h | exact dr5 h | exact dr6 h) ?_
    simp [retOne, c0]
  · intro c0
    refine s_skip ?_
    refine s_seq ?_
    refine o_enter rfl ?_
    refine o_move rfl .free rfl ?_
    refine o_assign rfl .free rfl ?_
    refine o_done ?_
    refine s_ret (.tmp rfl .nil) ?_
    refine done_only rfl (by intro _ h; first | exact h | exact dr1 h | exact dr2 h | exact dr3 h | exact dr4 h | exact dr5 h | exact dr6 h) ?_
    simp [retOne, c0]
theorem f_strings_TrimPrefix (s p : Txt) (hs : s.length ≤ maxN) (hp : p.length ≤ maxN) (I : Heap) (L : Own) : Fun Try.prog 65 [.string (str s), .string (str p)] I L (Only (.string (str (if p.isPrefixOf s then s.drop p.length else s))) I L) := by
  unfold maxN at hs hp
  refine fun_intro (by simp) ?_
  refine s_seq ?_
  refine o_enter rfl ?_
  refine o_assign rfl .free rfl ?_
  refine o_done ?_
  refine s_seq ?_
  refine o_enter rfl ?_
  refine o_move rfl .free rfl ?_
  refine o_move rfl .free rfl ?_
  refine o_call rfl .free rfl (f_stringslite_TrimPrefix s p hs hp _ _) ?_
  rintro _ _ _ _ ⟨rfl, rfl, rfl⟩
  refine o_assign rfl .free rfl ?_
  refine o_done ?_
  refine s_ret (.tmp rfl .nil) ?_
  refine done_only rfl (by intro _ h; first | exact h | exact dr1 h | exact dr2 h | exact dr3 h | exact dr4 h | exact dr5 h | exact dr6 h) ?_
  simp [retOne, *]
theorem unsign_iff (s : Txt) : (if [45].isPrefixOf s then s.drop [45].length else s) = unsign s := by
  cases s with
  | nil => rfl
  | cons b r =>
    have : ([45].isPrefixOf (b :: r) = true) = (b.toNat = 45) := by
      rw [eq_iff_iff, List.isPrefixOf_iff_prefix]
      simp only [List.cons_prefix_cons, List.nil_prefix, and_true]
      exact ⟨fun h => by rw [← h]; rfl, fun h => UInt8.toNat_inj.1 (by rw [h]; rfl)⟩
    simp [unsign, this]
theorem f_isNumeral (s : Txt) (hs : s.length ≤ maxN) (I : Heap) (L : Own) : Fun Try.prog 60 [.string (str s)] I L (Only (.bool (isNum s)) I L) := by
  have hu : (unsign s).length ≤ s.length := by unfold unsign; split <;> simp
  unfold maxN at hs
  refine fun_intro (by simp) ?_
  refine s_seq ?_
  refine o_enter rfl ?_
  refine o_assign rfl .free rfl ?_
  refine o_done ?_
  refine s_seq ?_
  refine o_enter rfl ?_
  refine o_move rfl .free rfl ?_
  refine o_call rfl .free rfl ((unsign_iff s) ▸ f_strings_TrimPrefix s [45] (by unfold maxN; omega) (by decide) _ _) ?_
  rintro _ _ _ _ ⟨rfl, rfl, rfl⟩
  refine o_assign rfl .free rfl ?_
  refine o_done ?_
  refine s_seq ?_
  refine o_enter rfl ?_
  refine o_move rfl .free rfl ?_
  refine o_cmps rfl rfl rfl .free rfl ?_
  refine o_move rfl .free rfl ?_
  first | refine g_if rfl rfl ?_ ?_ | refine g_ifn rfl rfl ?_ ?_ | refine g_b rfl rfl ?_ ?_
  · intro g2_3
    iterate 4 refine o_skip rfl rfl rfl ?_
    refine o_skipu rfl rfl rfl ?_
    refine o_skipu rfl rfl rfl ?_
    refine o_skip rfl rfl rfl ?_
    refine o_skip rfl rfl rfl ?_
    iterate 3 refine o_skipu rfl rfl rfl ?_
    refine o_skip rfl rfl rfl ?_
    refine o_pick_true rfl rfl .free rfl ?_
    refine o_assign rfl .free rfl ?_
    refine o_done ?_
    refine s_ret (.tmp rfl .nil) ?_
    refine done_only rfl (by intro _ h; first | exact h | exact dr1 h | exact dr2 h | exact dr3 h | exact dr4 h | exact dr5 h | exact dr6 h) ?_
    refine congrArg Value.bool ?_; simp only [isNum]; grind
  · intro g2_3
    refine o_move rfl (.met rfl rfl) rfl ?_
    refine o_len_str rfl (.met rfl rfl) rfl ?_
    refine o_call rfl (.met rfl rfl) rfl (f_within ..) ?_
    rintro _ _ _ _ ⟨rfl, rfl, rfl⟩
    refine o_move rfl (.met rfl rfl) rfl ?_
    first | refine g_if rfl rfl ?_ ?_ | refine g_ifn rfl rfl ?_ ?_ | refine g_b rfl rfl ?_ ?_
    · intro g2_7
      refine o_move rfl (.met rfl rfl) rfl ?_
      refine o_call rfl (.met rfl rfl) rfl (f_areDigits (unsign s) (by unfold maxN; omega) _ _) ?_
      rintro _ _ _ _ ⟨rfl, rfl, rfl⟩
      refine o_pick_true rfl rfl (.met rfl rfl) rfl ?_
      refine o_move rfl (.met rfl rfl) rfl ?_
      first | refine g_if rfl rfl ?_ ?_ | refine g_ifn rfl rfl ?_ ?_ | refine g_b rfl rfl ?_ ?_
      · intro g2_11
        refine o_move rfl (.met rfl rfl) rfl ?_
        refine o_index (i := 0) rfl rfl rfl (by first | omega | exact lt_of (by assumption) (by decide) | (simp; done) | (simp; omega) | decide | (simp at *; omega)) (.met rfl rfl) rfl ?_
        refine o_cmp rfl rfl rfl (.met rfl rfl) rfl ?_
        refine o_pick_true rfl rfl (.met rfl rfl) rfl ?_
        refine o_pick_false rfl rfl .free rfl ?_
        refine o_assign rfl .free rfl ?_
        refine o_done ?_
        refine s_ret (.tmp rfl .nil) ?_
        refine done_only rfl (by intro _ h; first | exact h | exact dr1 h | exact dr2 h | exact dr3 h | exact dr4 h | exact dr5 h | exact dr6 h) ?_
        refine congrArg Value.bool ?_; simp only [isNum]; grind
      · intro g2_11
        iterate 3 refine o_skip rfl rfl rfl ?_
        refine o_pick_false rfl rfl (.met rfl rfl) rfl ?_
        refine o_pick_false rfl rfl .free rfl ?_
        refine o_assign rfl .free rfl ?_
        refine o_done ?_
        refine s_ret (.tmp rfl .nil) ?_
        refine done_only rfl (by intro _ h; first | exact h | exact dr1 h | exact dr2 h | exact dr3 h | exact dr4 h | exact dr5 h | exact dr6 h) ?_
        refine congrArg Value.bool ?_; simp only [isNum]; grind
    · intro g2_7
      refine o_skip rfl rfl rfl ?_
      refine o_skip rfl rfl rfl ?_
      refine o_pick_false rfl rfl (.met rfl rfl) rfl ?_
      refine o_move rfl (.met rfl rfl) rfl ?_
      iterate 3 refine o_skip rfl rfl rfl ?_
      refine o_pick_false rfl rfl (.met rfl rfl) rfl ?_
      refine o_pick_false rfl rfl .free rfl ?_
      refine o_assign rfl .free rfl ?_
      refine o_done ?_
      refine s_ret (.tmp rfl .nil) ?_
      refine done_only rfl (by intro _ h; first | exact h | exact dr1 h | exact dr2 h | exact dr3 h | exact dr4 h | exact dr5 h | exact dr6 h) ?_
      refine congrArg Value.bool ?_; simp only [isNum]; grind

/-- What 'l2Number' returns. -/
def NR (s : Txt) (I : Heap) (L : Own) : Post := Only (.tuple #[.int .i64 (bif isNum s then numVal s else 0), .bool (isNum s)]) I L
theorem digitsVal_999 (l : Txt) (h : l.length ≤ 3) : digitsVal l ≤ 4294967296 := by
  have h1 := digitsVal_le l
  have h2 : 256 ^ l.length ≤ 256 ^ 3 := Nat.pow_le_pow_right (by decide) h
  have h3 : 256 * 256 ^ l.length ≤ 256 * 256 ^ 3 := Nat.mul_le_mul_left _ h2
  omega
theorem g_l2Number (s : Txt) (hs : s.length ≤ maxN) (I : Heap) (L : Own) : Fun Try.prog 41 [.string (str s)] I L (NR s I L) := by
  unfold maxN at hs
  have hu : (unsign s).length ≤ s.length := by unfold unsign; split <;> simp
  refine fun_intro (by simp) ?_
  refine s_seq ?_
  refine o_enter rfl ?_
  refine o_assign rfl .free rfl ?_
  refine o_assign rfl .free rfl ?_
  refine o_done ?_
  refine s_seq ?_
  refine o_enter rfl ?_
  refine o_assign rfl .free rfl ?_
  refine o_done ?_
  refine s_seq ?_
  refine o_enter rfl ?_
  refine o_move rfl .free rfl ?_
  refine o_assign rfl .free rfl ?_
  refine o_done ?_
  refine s_seq ?_
  refine s_seq ?_
  refine o_enter rfl ?_
  refine o_move rfl .free rfl ?_
  refine o_len_str rfl .free rfl ?_
  refine o_cmp rfl rfl rfl .free rfl ?_
  refine o_move rfl .free rfl ?_
  first | refine g_if rfl rfl ?_ ?_ | refine g_ifn rfl rfl ?_ ?_ | refine g_b rfl rfl ?_ ?_
  · intro g3_4
    refine o_move rfl (.met rfl rfl) rfl ?_
    refine o_index (i := 0) rfl rfl rfl (by first | omega | exact lt_of (by assumption) (by decide) | (simp; done) | (simp; omega) | decide | (simp at *; omega)) (.met rfl rfl) rfl ?_
    refine o_cmp rfl rfl rfl (.met rfl rfl) rfl ?_
    refine o_pick_true rfl rfl .free rfl ?_
    refine o_done ?_
    first | refine s_if rfl ?_ ?_ | refine s_ifn rfl ?_ ?_ | refine s_cond rfl ?_ ?_
    · intro c0
      refine s_seq ?_
      refine o_enter rfl ?_
      refine o_assign rfl .free rfl ?_
      refine o_done ?_
      refine o_enter rfl ?_
      refine o_move rfl .free rfl ?_
      refine o_slice_from rfl rfl 1 rfl (by first | omega | exact lt_of (by assumption) (by decide) | (simp; done) | (simp; omega) | decide | (simp at *; omega)) .free rfl ?_
      refine o_assign rfl .free rfl ?_
      refine o_done ?_
      refine s_seq ?_
      refine s_seq ?_
      obtain ⟨sg, hsg, hsn⟩ : ∃ sg : Int, sg = (if (s.getD 0 0).toNat = 45 then -1 else 1) ∧ (sg = 1 ∨ sg = -1) := ⟨_, rfl, by split <;> simp⟩
      have hneg : (s.getD 0 0).toNat = 45 ∨ ¬ (s.getD 0 0).toNat = 45 := by omega
      refine s_env (E' := [(0, .string (str s)), (4, .int .i64 sg), (5, .string (str (unsign s)))]) (by
        first
          | (rw [show unsign s = s.drop 1 from if_pos (by omega), show sg = -1 by rw [hsg, if_pos (by omega)]]; exact ⟨rfl, rfl, rfl, trivial⟩)
          | (have hn : ¬ (s.getD 0 0).toNat = 45 := by
               first | omega | (have h0 : s = [] := by cases s with
                                  | nil => rfl
                                  | cons => simp at *
                                rw [h0]; decide)
             rw [show unsign s = s from if_neg hn, show sg = 1 by rw [hsg, if_neg hn]]; exact ⟨rfl, rfl, rfl, trivial⟩)) ?_
      generalize hd : unsign s = ds at *
      refine o_enter rfl ?_
      refine o_move rfl .free rfl ?_
      refine o_cmps rfl rfl rfl .free rfl ?_
      refine o_done ?_
      first | refine s_if rfl ?_ ?_ | refine s_ifn rfl ?_ ?_ | refine s_cond rfl ?_ ?_
      · intro c1
        refine s_seq ?_
        refine o_enter rfl ?_
        refine o_assign rfl .free rfl ?_
        refine o_assign rfl .free rfl ?_
        refine o_done ?_
        refine s_ret (.tmp rfl (.tmp rfl .nil)) ?_
        refine done_only rfl (by intro _ h; first | exact h | exact dr1 h | exact dr2 h | exact dr3 h | exact dr4 h | exact dr5 h | exact dr6 h) ?_
        rw [‹s = [48]›]; rfl
      · intro c1
        refine s_skip ?_
        refine s_seq ?_
        refine s_seq ?_
        refine o_enter rfl ?_
        refine o_move rfl .free rfl ?_
        refine o_len_str rfl .free rfl ?_
        refine o_call rfl .free rfl (g_l6In ..) ?_
        rintro _ _ _ _ ⟨rfl, rfl, rfl⟩
        refine o_not rfl .free rfl ?_
        refine o_move rfl .free rfl ?_
        first | refine g_if rfl rfl ?_ ?_ | refine g_ifn rfl rfl ?_ ?_ | refine g_b rfl rfl ?_ ?_
        · intro g8_5
          iterate 3 refine o_skip rfl rfl rfl ?_
          refine o_pick_true rfl rfl .free rfl ?_
          refine o_done ?_
          refine s_true rfl ?_
          refine s_seq ?_
          refine o_enter rfl ?_
          refine o_assign rfl .free rfl ?_
          refine o_assign rfl .free rfl ?_
          refine o_done ?_
          refine s_ret (.tmp rfl (.tmp rfl .nil)) ?_
          refine done_only rfl (by intro _ h; first | exact h | exact dr1 h | exact dr2 h | exact dr3 h | exact dr4 h | exact dr5 h | exact dr6 h) ?_
          have hf : isNum s = false := by simp only [isNum, hd]; grind
          rw [hf]; rfl
        · intro g8_5
          refine o_move rfl (.met rfl rfl) rfl ?_
          refine o_index (i := 0) rfl rfl rfl (by first | omega | exact lt_of (by assumption) (by decide) | (simp; done) | (simp; omega) | decide | (simp at *; omega)) (.met rfl rfl) rfl ?_
          refine o_cmp rfl rfl rfl (.met rfl rfl) rfl ?_
          refine o_pick_false rfl rfl .free rfl ?_
          refine o_done ?_
          first | refine s_if rfl ?_ ?_ | refine s_ifn rfl ?_ ?_ | refine s_cond rfl ?_ ?_
          · intro c2
            refine s_seq ?_
            refine o_enter rfl ?_
            refine o_assign rfl .free rfl ?_
            refine o_assign rfl .free rfl ?_
            refine o_done ?_
            refine s_ret (.tmp rfl (.tmp rfl .nil)) ?_
            refine done_only rfl (by intro _ h; first | exact h | exact dr1 h | exact dr2 h | exact dr3 h | exact dr4 h | exact dr5 h | exact dr6 h) ?_
            have hf : isNum s = false := by simp only [isNum, hd]; grind
            rw [hf]; rfl
          · intro c2
            refine s_skip ?_
            refine s_seq ?_
            refine o_enter rfl ?_
            refine o_assign rfl .free rfl ?_
            refine o_done ?_
            refine s_seq ?_
            refine s_seq ?_
            refine o_enter rfl ?_
            refine o_assign rfl .free rfl ?_
            refine o_done ?_
            refine s_block ?_
            have hl3 : ds.length ≤ 3 ∧ 1 ≤ ds.length := by grind
            refine s_while (X := Nat) (fun i => ds.length - i) (fun i => [(4, .int .i64 sg), (5, .string (str ds)), (6, .int .i64 (digitsVal (ds.take i) : Nat)), (7, .int .i64 (i : Nat))]) (fun _ => I) (fun _ => L) (fun i => i ≤ ds.length ∧ (ds.take i).all digit = true) 0 ⟨by omega, by simp⟩ ⟨rfl, rfl, rfl, rfl, trivial⟩ (by intro _ h; first | exact h | exact dr1 h | exact dr2 h | exact dr3 h | exact dr4 h | exact dr5 h | exact dr6 h) ?_
            rintro i ⟨hi, hall⟩ ih
            have hv := digitsVal_999 (ds.take i) (by simp; omega)
            refine s_seq ?_
            refine s_seq ?_
            refine o_enter rfl ?_
            refine o_move rfl .free rfl ?_
            refine o_move rfl .free rfl ?_
            refine o_len_str rfl .free rfl ?_
            refine o_cmp rfl rfl rfl .free rfl ?_
            refine o_done ?_
            first | refine s_if rfl ?_ ?_ | refine s_ifn rfl ?_ ?_ | refine s_cond rfl ?_ ?_
            · intro c3
              refine s_skip ?_
              refine s_seq ?_
              refine s_block ?_
              refine s_seq ?_
              refine s_seq ?_
              refine o_enter rfl ?_
              refine o_move rfl .free rfl ?_
              refine o_move rfl .free rfl ?_
              refine o_index rfl rfl rfl (by first | omega | exact lt_of (by assumption) (by decide) | (simp; done) | (simp; omega) | decide | (simp at *; omega)) .free rfl ?_
              refine o_cmp rfl rfl rfl .free rfl ?_
              refine o_move rfl .free rfl ?_
              first | refine g_if rfl rfl ?_ ?_ | refine g_ifn rfl rfl ?_ ?_ | refine g_b rfl rfl ?_ ?_
              · intro g14_5
                iterate 4 refine o_skip rfl rfl rfl ?_
                refine o_pick_true rfl rfl .free rfl ?_
                refine o_done ?_
                refine s_true rfl ?_
                refine s_seq ?_
                refine o_enter rfl ?_
                refine o_assign rfl .free rfl ?_
                refine o_assign rfl .free rfl ?_
                refine o_done ?_
                refine s_ret (.tmp rfl (.tmp rfl .nil)) ?_
                refine done_only rfl (by intro _ h; first | exact h | exact dr1 h | exact dr2 h | exact dr3 h | exact dr4 h | exact dr5 h | exact dr6 h) ?_
                have hf : isNum s = false := by
                  have := all_false (p := digit) (show i < ds.length by omega) (by rw [digit_iff]; exact decide_eq_false (by omega))
                  simp only [isNum, hd]; grind
                rw [hf]; rfl
              · intro g14_5
                refine o_move rfl (.met rfl rfl) rfl ?_
                refine o_move rfl (.met rfl rfl) rfl ?_
                refine o_index rfl rfl rfl (by first | omega | exact lt_of (by assumption) (by decide) | (simp; done) | (simp; omega) | decide | (simp at *; omega)) (.met rfl rfl) rfl ?_
                refine o_cmp rfl rfl rfl (.met rfl rfl) rfl ?_
                refine o_pick_false rfl rfl .free rfl ?_
                refine o_done ?_
                first | refine s_if rfl ?_ ?_ | refine s_ifn rfl ?_ ?_ | refine s_cond rfl ?_ ?_
                · intro c4
                  refine s_seq ?_
                  refine o_enter rfl ?_
                  refine o_assign rfl .free rfl ?_
                  refine o_assign rfl .free rfl ?_
                  refine o_done ?_
                  refine s_ret (.tmp rfl (.tmp rfl .nil)) ?_
                  refine done_only rfl (by intro _ h; first | exact h | exact dr1 h | exact dr2 h | exact dr3 h | exact dr4 h | exact dr5 h | exact dr6 h) ?_
                  have hf : isNum s = false := by
                    have := all_false (p := digit) (show i < ds.length by omega) (by rw [digit_iff]; exact decide_eq_false (by omega))
                    simp only [isNum, hd]; grind
                  rw [hf]; rfl
                · intro c4
                  refine s_skip ?_
                  refine o_enter rfl ?_
                  refine o_move rfl .free rfl ?_
                  refine o_arith rfl rfl rfl (by omega) .free rfl ?_
                  refine o_move rfl .free rfl ?_
                  refine o_move rfl .free rfl ?_
                  refine o_index rfl rfl rfl (by first | omega | exact lt_of (by assumption) (by decide) | (simp; done) | (simp; omega) | decide | (simp at *; omega)) .free rfl ?_
                  refine o_sub8 (b := 48) rfl rfl (by omega) (by have := UInt8.toNat_lt (ds.getD i 0); omega) .free rfl ?_
                  refine o_byteInt rfl (by first | exact UInt8.toNat_lt _ | omega) .free rfl ?_
                  refine o_arith rfl rfl rfl (by omega) .free rfl ?_
                  refine o_assign rfl .free rfl ?_
                  refine o_done ?_
                  refine s_inBlock ?_
                  refine o_enter rfl ?_
                  refine o_move rfl .free rfl ?_
                  refine o_arith rfl rfl rfl (by omega) .free rfl ?_
                  refine o_assign rfl .free rfl ?_
                  refine o_done ?_
                  refine s_env (E' := [(4, .int .i64 sg), (5, .string (str ds)), (6, .int .i64 (digitsVal (ds.take (i + 1)) : Nat)), (7, .int .i64 ((i + 1 : Nat)))]) ⟨rfl, rfl, ?_, rfl, trivial⟩ (ih (i + 1) ⟨by omega, take_all hall (by omega) (by rw [digit_iff]; exact decide_eq_true (by omega))⟩ (by omega))
                  rw [digitsVal_take ds i (by omega)]
                  rfl
            · intro c3
              refine s_exit rfl ?_
              refine s_seq ?_
              refine o_enter rfl ?_
              refine o_move rfl .free rfl ?_
              refine o_move rfl .free rfl ?_
              refine o_arith rfl rfl rfl (by rcases hsn with h | h <;> rw [h] <;> omega) .free rfl ?_
              refine o_assign rfl .free rfl ?_
              refine o_assign rfl .free rfl ?_
              refine o_done ?_
              refine s_ret (.tmp rfl (.tmp rfl .nil)) ?_
              refine done_only rfl (by intro _ h; first | exact h | exact dr1 h | exact dr2 h | exact dr3 h | exact dr4 h | exact dr5 h | exact dr6 h) ?_
              have hil : i = ds.length := by omega
              subst hil
              rw [List.take_length] at hall
              have ht : isNum s = true := by simp only [isNum, hd]; grind
              rw [ht, List.take_length, hsg]
              simp only [numVal, hd, if_neg c1, cond_true]
              rfl
    · intro c0
      refine s_skip ?_
      refine s_seq ?_
      refine s_seq ?_
      obtain ⟨sg, hsg, hsn⟩ : ∃ sg : Int, sg = (if (s.getD 0 0).toNat = 45 then -1 else 1) ∧ (sg = 1 ∨ sg = -1) := ⟨_, rfl, by split <;> simp⟩
      have hneg : (s.getD 0 0).toNat = 45 ∨ ¬ (s.getD 0 0).toNat = 45 := by omega
      refine s_env (E' := [(0, .string (str s)), (4, .int .i64 sg), (5, .string (str (unsign s)))]) (by
        first
          | (rw [show unsign s = s.drop 1 from if_pos (by omega), show sg = -1 by rw [hsg, if_pos (by omega)]]; exact ⟨rfl, rfl, rfl, trivial⟩)
          | (have hn : ¬ (s.getD 0 0).toNat = 45 := by
               first | omega | (have h0 : s = [] := by cases s with
                                  | nil => rfl
                                  | cons => simp at *
                                rw [h0]; decide)
             rw [show unsign s = s from if_neg hn, show sg = 1 by rw [hsg, if_neg hn]]; exact ⟨rfl, rfl, rfl, trivial⟩)) ?_
      generalize hd : unsign s = ds at *
      refine o_enter rfl ?_
      refine o_move rfl .free rfl ?_
      refine o_cmps rfl rfl rfl .free rfl ?_
      refine o_done ?_
      first | refine s_if rfl ?_ ?_ | refine s_ifn rfl ?_ ?_ | refine s_cond rfl ?_ ?_
      · intro c1
        refine s_seq ?_
        refine o_enter rfl ?_
        refine o_assign rfl .free rfl ?_
        refine o_assign rfl .free rfl ?_
        refine o_done ?_
        refine s_ret (.tmp rfl (.tmp rfl .nil)) ?_
        refine done_only rfl (by intro _ h; first | exact h | exact dr1 h | exact dr2 h | exact dr3 h | exact dr4 h | exact dr5 h | exact dr6 h) ?_
        rw [‹s = [48]›]; rfl
      · intro c1
        refine s_skip ?_
        refine s_seq ?_
        refine s_seq ?_
        refine o_enter rfl ?_
        refine o_move rfl .free rfl ?_
        refine o_len_str rfl .free rfl ?_
        refine o_call rfl .free rfl (g_l6In ..) ?_
        rintro _ _ _ _ ⟨rfl, rfl, rfl⟩
        refine o_not rfl .free rfl ?_
        refine o_move rfl .free rfl ?_
        first | refine g_if rfl rfl ?_ ?_ | refine g_ifn rfl rfl ?_ ?_ | refine g_b rfl rfl ?_ ?_
        · intro g8_5
          iterate 3 refine o_skip rfl rfl rfl ?_
          refine o_pick_true rfl rfl .free rfl ?_
          refine o_done ?_
          refine s_true rfl ?_
          refine s_seq ?_
          refine o_enter rfl ?_
          refine o_assign rfl .free rfl ?_
          refine o_assign rfl .free rfl ?_
          refine o_done ?_
          refine s_ret (.tmp rfl (.tmp rfl .nil)) ?_
          refine done_only rfl (by intro _ h; first | exact h | exact dr1 h | exact dr2 h | exact dr3 h | exact dr4 h | exact dr5 h | exact dr6 h) ?_
          have hf : isNum s = false := by simp only [isNum, hd]; grind
          rw [hf]; rfl
        · intro g8_5
          refine o_move rfl (.met rfl rfl) rfl ?_
          refine o_index (i := 0) rfl rfl rfl (by first | omega | exact lt_of (by assumption) (by decide) | (simp; done) | (simp; omega) | decide | (simp at *; omega)) (.met rfl rfl) rfl ?_
          refine o_cmp rfl rfl rfl (.met rfl rfl) rfl ?_
          refine o_pick_false rfl rfl .free rfl ?_
          refine o_done ?_
          first | refine s_if rfl ?_ ?_ | refine s_ifn rfl ?_ ?_ | refine s_cond rfl ?_ ?_
          · intro c2
            refine s_seq ?_
            refine o_enter rfl ?_
            refine o_assign rfl .free rfl ?_
            refine o_assign rfl .free rfl ?_
            refine o_done ?_
            refine s_ret (.tmp rfl (.tmp rfl .nil)) ?_
            refine done_only rfl (by intro _ h; first | exact h | exact dr1 h | exact dr2 h | exact dr3 h | exact dr4 h | exact dr5 h | exact dr6 h) ?_
            have hf : isNum s = false := by simp only [isNum, hd]; grind
            rw [hf]; rfl
          · intro c2
            refine s_skip ?_
            refine s_seq ?_
            refine o_enter rfl ?_
            refine o_assign rfl .free rfl ?_
            refine o_done ?_
            refine s_seq ?_
            refine s_seq ?_
            refine o_enter rfl ?_
            refine o_assign rfl .free rfl ?_
            refine o_done ?_
            refine s_block ?_
            have hl3 : ds.length ≤ 3 ∧ 1 ≤ ds.length := by grind
            refine s_while (X := Nat) (fun i => ds.length - i) (fun i => [(4, .int .i64 sg), (5, .string (str ds)), (6, .int .i64 (digitsVal (ds.take i) : Nat)), (7, .int .i64 (i : Nat))]) (fun _ => I) (fun _ => L) (fun i => i ≤ ds.length ∧ (ds.take i).all digit = true) 0 ⟨by omega, by simp⟩ ⟨rfl, rfl, rfl, rfl, trivial⟩ (by intro _ h; first | exact h | exact dr1 h | exact dr2 h | exact dr3 h | exact dr4 h | exact dr5 h | exact dr6 h) ?_
            rintro i ⟨hi, hall⟩ ih
            have hv := digitsVal_999 (ds.take i) (by simp; omega)
            refine s_seq ?_
            refine s_seq ?_
            refine o_enter rfl ?_
            refine o_move rfl .free rfl ?_
            refine o_move rfl .free rfl ?_
            refine o_len_str rfl .free rfl ?_
            refine o_cmp rfl rfl rfl .free rfl ?_
            refine o_done ?_
            first | refine s_if rfl ?_ ?_ | refine s_ifn rfl ?_ ?_ | refine s_cond rfl ?_ ?_
            · intro c3
              refine s_skip ?_
              refine s_seq ?_
              refine s_block ?_
              refine s_seq ?_
              refine s_seq ?_
              refine o_enter rfl ?_
              refine o_move rfl .free rfl ?_
              refine o_move rfl .free rfl ?_
              refine o_index rfl rfl rfl (by first | omega | exact lt_of (by assumption) (by decide) | (simp; done) | (simp; omega) | decide | (simp at *; omega)) .free rfl ?_
              refine o_cmp rfl rfl rfl .free rfl ?_
              refine o_move rfl .free rfl ?_
              first | refine g_if rfl rfl ?_ ?_ | refine g_ifn rfl rfl ?_ ?_ | refine g_b rfl rfl ?_ ?_
              · intro g14_5
                iterate 4 refine o_skip rfl rfl rfl ?_
                refine o_pick_true rfl rfl .free rfl ?_
                refine o_done ?_
                refine s_true rfl ?_
                refine s_seq ?_
                refine o_enter rfl ?_
                refine o_assign rfl .free rfl ?_
                refine o_assign rfl .free rfl ?_
                refine o_done ?_
                refine s_ret (.tmp rfl (.tmp rfl .nil)) ?_
                refine done_only rfl (by intro _ h; first | exact h | exact dr1 h | exact dr2 h | exact dr3 h | exact dr4 h | exact dr5 h | exact dr6 h) ?_
                have hf : isNum s = false := by
                  have := all_false (p := digit) (show i < ds.length by omega) (by rw [digit_iff]; exact decide_eq_false (by omega))
                  simp only [isNum, hd]; grind
                rw [hf]; rfl
              · intro g14_5
                refine o_move rfl (.met rfl rfl) rfl ?_
                refine o_move rfl (.met rfl rfl) rfl ?_
                refine o_index rfl rfl rfl (by first | omega | exact lt_of (by assumption) (by decide) | (simp; done) | (simp; omega) | decide | (simp at *; omega)) (.met rfl rfl) rfl ?_
                refine o_cmp rfl rfl rfl (.met rfl rfl) rfl ?_
                refine o_pick_false rfl rfl .free rfl ?_
                refine o_done ?_
                first | refine s_if rfl ?_ ?_ | refine s_ifn rfl ?_ ?_ | refine s_cond rfl ?_ ?_
                · intro c4
                  refine s_seq ?_
                  refine o_enter rfl ?_
                  refine o_assign rfl .free rfl ?_
                  refine o_assign rfl .free rfl ?_
                  refine o_done ?_
                  refine s_ret (.tmp rfl (.tmp rfl .nil)) ?_
                  refine done_only rfl (by intro _ h; first | exact h | exact dr1 h | exact dr2 h | exact dr3 h | exact dr4 h | exact dr5 h | exact dr6 h) ?_
                  have hf : isNum s = false := by
                    have := all_false (p := digit) (show i < ds.length by omega) (by rw [digit_iff]; exact decide_eq_false (by omega))
                    simp only [isNum, hd]; grind
                  rw [hf]; rfl
                · intro c4
                  refine s_skip ?_
                  refine o_enter rfl ?_
                  refine o_move rfl .free rfl ?_
                  refine o_arith rfl rfl rfl (by omega) .free rfl ?_
                  refine o_move rfl .free rfl ?_
                  refine o_move rfl .free rfl ?_
                  refine o_index rfl rfl rfl (by first | omega | exact lt_of (by assumption) (by decide) | (simp; done) | (simp; omega) | decide | (simp at *; omega)) .free rfl ?_
                  refine o_sub8 (b := 48) rfl rfl (by omega) (by have := UInt8.toNat_lt (ds.getD i 0); omega) .free rfl ?_
                  refine o_byteInt rfl (by first | exact UInt8.toNat_lt _ | omega) .free rfl ?_
                  refine o_arith rfl rfl rfl (by omega) .free rfl ?_
                  refine o_assign rfl .free rfl ?_
                  refine o_done ?_
                  refine s_inBlock ?_
                  refine o_enter rfl ?_
                  refine o_move rfl .free rfl ?_
                  refine o_arith rfl rfl rfl (by omega) .free rfl ?_
                  refine o_assign rfl .free rfl ?_
                  refine o_done ?_
                  refine s_env (E' := [(4, .int .i64 sg), (5, .string (str ds)), (6, .int .i64 (digitsVal (ds.take (i + 1)) : Nat)), (7, .int .i64 ((i + 1 : Nat)))]) ⟨rfl, rfl, ?_, rfl, trivial⟩ (ih (i + 1) ⟨by omega, take_all hall (by omega) (by rw [digit_iff]; exact decide_eq_true (by omega))⟩ (by omega))
                  rw [digitsVal_take ds i (by omega)]
                  rfl
            · intro c3
              refine s_exit rfl ?_
              refine s_seq ?_
              refine o_enter rfl ?_
              refine o_move rfl .free rfl ?_
              refine o_move rfl .free rfl ?_
              refine o_arith rfl rfl rfl (by rcases hsn with h | h <;> rw [h] <;> omega) .free rfl ?_
              refine o_assign rfl .free rfl ?_
              refine o_assign rfl .free rfl ?_
              refine o_done ?_
              refine s_ret (.tmp rfl (.tmp rfl .nil)) ?_
              refine done_only rfl (by intro _ h; first | exact h | exact dr1 h | exact dr2 h | exact dr3 h | exact dr4 h | exact dr5 h | exact dr6 h) ?_
              have hil : i = ds.length := by omega
              subst hil
              rw [List.take_length] at hall
              have ht : isNum s = true := by simp only [isNum, hd]; grind
              rw [ht, List.take_length, hsg]
              simp only [numVal, hd, if_neg c1, cond_true]
              rfl
  · intro g3_4
    iterate 3 refine o_skip rfl rfl rfl ?_
    refine o_pick_false rfl rfl .free rfl ?_
    refine o_done ?_
    refine s_false rfl ?_
    refine s_skip ?_
    refine s_seq ?_
    refine s_seq ?_
    obtain ⟨sg, hsg, hsn⟩ : ∃ sg : Int, sg = (if (s.getD 0 0).toNat = 45 then -1 else 1) ∧ (sg = 1 ∨ sg = -1) := ⟨_, rfl, by split <;> simp⟩
    have hneg : (s.getD 0 0).toNat = 45 ∨ ¬ (s.getD 0 0).toNat = 45 := by omega
    refine s_env (E' := [(0, .string (str s)), (4, .int .i64 sg), (5, .string (str (unsign s)))]) (by
      first
        | (rw [show unsign s = s.drop 1 from if_pos (by omega), show sg = -1 by rw [hsg, if_pos (by omega)]]; exact ⟨rfl, rfl, rfl, trivial⟩)
        | (have hn : ¬ (s.getD 0 0).toNat = 45 := by
             first | omega | (have h0 : s = [] := by cases s with
                                | nil => rfl
                                | cons => simp at *
                              rw [h0]; decide)
           rw [show unsign s = s from if_neg hn, show sg = 1 by rw [hsg, if_neg hn]]; exact ⟨rfl, rfl, rfl, trivial⟩)) ?_
    generalize hd : unsign s = ds at *
    refine o_enter rfl ?_
    refine o_move rfl .free rfl ?_
    refine o_cmps rfl rfl rfl .free rfl ?_
    refine o_done ?_
    first | refine s_if rfl ?_ ?_ | refine s_ifn rfl ?_ ?_ | refine s_cond rfl ?_ ?_
    · intro c1
      refine s_seq ?_
      refine o_enter rfl ?_
      refine o_assign rfl .free rfl ?_
      refine o_assign rfl .free rfl ?_
      refine o_done ?_
      refine s_ret (.tmp rfl (.tmp rfl .nil)) ?_
      refine done_only rfl (by intro _ h; first | exact h | exact dr1 h | exact dr2 h | exact dr3 h | exact dr4 h | exact dr5 h | exact dr6 h) ?_
      rw [‹s = [48]›]; rfl
    · intro c1
      refine s_skip ?_
      refine s_seq ?_
      refine s_seq ?_
      refine o_enter rfl ?_
      refine o_move rfl .free rfl ?_
      refine o_len_str rfl .free rfl ?_
      refine o_call rfl .free rfl (g_l6In ..) ?_
      rintro _ _ _ _ ⟨rfl, rfl, rfl⟩
      refine o_not rfl .free rfl ?_
      refine o_move rfl .free rfl ?_
      first | refine g_if rfl rfl ?_ ?_ | refine g_ifn rfl rfl ?_ ?_ | refine g_b rfl rfl ?_ ?_
      · intro g8_5
        iterate 3 refine o_skip rfl rfl rfl ?_
        refine o_pick_true rfl rfl .free rfl ?_
        refine o_done ?_
        refine s_true rfl ?_
        refine s_seq ?_
        refine o_enter rfl ?_
        refine o_assign rfl .free rfl ?_
        refine o_assign rfl .free rfl ?_
        refine o_done ?_
        refine s_ret (.tmp rfl (.tmp rfl .nil)) ?_
        refine done_only rfl (by intro _ h; first | exact h | exact dr1 h | exact dr2 h | exact dr3 h | exact dr4 h | exact dr5 h | exact dr6 h) ?_
        have hf : isNum s = false := by simp only [isNum, hd]; grind
        rw [hf]; rfl
      · intro g8_5
        refine o_move rfl (.met rfl rfl) rfl ?_
        refine o_index (i := 0) rfl rfl rfl (by first | omega | exact lt_of (by assumption) (by decide) | (simp; done) | (simp; omega) | decide | (simp at *; omega)) (.met rfl rfl) rfl ?_
        refine o_cmp rfl rfl rfl (.met rfl rfl) rfl ?_
        refine o_pick_false rfl rfl .free rfl ?_
        refine o_done ?_
        first | refine s_if rfl ?_ ?_ | refine s_ifn rfl ?_ ?_ | refine s_cond rfl ?_ ?_
        · intro c2
          refine s_seq ?_
          refine o_enter rfl ?_
          refine o_assign rfl .free rfl ?_
          refine o_assign rfl .free rfl ?_
          refine o_done ?_
          refine s_ret (.tmp rfl (.tmp rfl .nil)) ?_
          refine done_only rfl (by intro _ h; first | exact h | exact dr1 h | exact dr2 h | exact dr3 h | exact dr4 h | exact dr5 h | exact dr6 h) ?_
          have hf : isNum s = false := by simp only [isNum, hd]; grind
          rw [hf]; rfl
        · intro c2
          refine s_skip ?_
          refine s_seq ?_
          refine o_enter rfl ?_
          refine o_assign rfl .free rfl ?_
          refine o_done ?_
          refine s_seq ?_
          refine s_seq ?_
          refine o_enter rfl ?_
          refine o_assign rfl .free rfl ?_
          refine o_done ?_
          refine s_block ?_
          have hl3 : ds.length ≤ 3 ∧ 1 ≤ ds.length := by grind
          refine s_while (X := Nat) (fun i => ds.length - i) (fun i => [(4, .int .i64 sg), (5, .string (str ds)), (6, .int .i64 (digitsVal (ds.take i) : Nat)), (7, .int .i64 (i : Nat))]) (fun _ => I) (fun _ => L) (fun i => i ≤ ds.length ∧ (ds.take i).all digit = true) 0 ⟨by omega, by simp⟩ ⟨rfl, rfl, rfl, rfl, trivial⟩ (by intro _ h; first | exact h | exact dr1 h | exact dr2 h | exact dr3 h | exact dr4 h | exact dr5 h | exact dr6 h) ?_
          rintro i ⟨hi, hall⟩ ih
          have hv := digitsVal_999 (ds.take i) (by simp; omega)
          refine s_seq ?_
          refine s_seq ?_
          refine o_enter rfl ?_
          refine o_move rfl .free rfl ?_
          refine o_move rfl .free rfl ?_
          refine o_len_str rfl .free rfl ?_
          refine o_cmp rfl rfl rfl .free rfl ?_
          refine o_done ?_
          first | refine s_if rfl ?_ ?_ | refine s_ifn rfl ?_ ?_ | refine s_cond rfl ?_ ?_
          · intro c3
            refine s_skip ?_
            refine s_seq ?_
            refine s_block ?_
            refine s_seq ?_
            refine s_seq ?_
            refine o_enter rfl ?_
            refine o_move rfl .free rfl ?_
            refine o_move rfl .free rfl ?_
            refine o_index rfl rfl rfl (by first | omega | exact lt_of (by assumption) (by decide) | (simp; done) | (simp; omega) | decide | (simp at *; omega)) .free rfl ?_
            refine o_cmp rfl rfl rfl .free rfl ?_
            refine o_move rfl .free rfl ?_
            first | refine g_if rfl rfl ?_ ?_ | refine g_ifn rfl rfl ?_ ?_ | refine g_b rfl rfl ?_ ?_
            · intro g14_5
              iterate 4 refine o_skip rfl rfl rfl ?_
              refine o_pick_true rfl rfl .free rfl ?_
              refine o_done ?_
              refine s_true rfl ?_
              refine s_seq ?_
              refine o_enter rfl ?_
              refine o_assign rfl .free rfl ?_
              refine o_assign rfl .free rfl ?_
              refine o_done ?_
              refine s_ret (.tmp rfl (.tmp rfl .nil)) ?_
              refine done_only rfl (by intro _ h; first | exact h | exact dr1 h | exact dr2 h | exact dr3 h | exact dr4 h | exact dr5 h | exact dr6 h) ?_
              have hf : isNum s = false := by
                have := all_false (p := digit) (show i < ds.length by omega) (by rw [digit_iff]; exact decide_eq_false (by omega))
                simp only [isNum, hd]; grind
              rw [hf]; rfl
            · intro g14_5
              refine o_move rfl (.met rfl rfl) rfl ?_
              refine o_move rfl (.met rfl rfl) rfl ?_
              refine o_index rfl rfl rfl (by first | omega | exact lt_of (by assumption) (by decide) | (simp; done) | (simp; omega) | decide | (simp at *; omega)) (.met rfl rfl) rfl ?_
              refine o_cmp rfl rfl rfl (.met rfl rfl) rfl ?_
              refine o_pick_false rfl rfl .free rfl ?_
              refine o_done ?_
              first | refine s_if rfl ?_ ?_ | refine s_ifn rfl ?_ ?_ | refine s_cond rfl ?_ ?_
              · intro c4
                refine s_seq ?_
                refine o_enter rfl ?_
                refine o_assign rfl .free rfl ?_
                refine o_assign rfl .free rfl ?_
                refine o_done ?_
                refine s_ret (.tmp rfl (.tmp rfl .nil)) ?_
                refine done_only rfl (by intro _ h; first | exact h | exact dr1 h | exact dr2 h | exact dr3 h | exact dr4 h | exact dr5 h | exact dr6 h) ?_
                have hf : isNum s = false := by
                  have := all_false (p := digit) (show i < ds.length by omega) (by rw [digit_iff]; exact decide_eq_false (by omega))
                  simp only [isNum, hd]; grind
                rw [hf]; rfl
              · intro c4
                refine s_skip ?_
                refine o_enter rfl ?_
                refine o_move rfl .free rfl ?_
                refine o_arith rfl rfl rfl (by omega) .free rfl ?_
                refine o_move rfl .free rfl ?_
                refine o_move rfl .free rfl ?_
                refine o_index rfl rfl rfl (by first | omega | exact lt_of (by assumption) (by decide) | (simp; done) | (simp; omega) | decide | (simp at *; omega)) .free rfl ?_
                refine o_sub8 (b := 48) rfl rfl (by omega) (by have := UInt8.toNat_lt (ds.getD i 0); omega) .free rfl ?_
                refine o_byteInt rfl (by first | exact UInt8.toNat_lt _ | omega) .free rfl ?_
                refine o_arith rfl rfl rfl (by omega) .free rfl ?_
                refine o_assign rfl .free rfl ?_
                refine o_done ?_
                refine s_inBlock ?_
                refine o_enter rfl ?_
                refine o_move rfl .free rfl ?_
                refine o_arith rfl rfl rfl (by omega) .free rfl ?_
                refine o_assign rfl .free rfl ?_
                refine o_done ?_
                refine s_env (E' := [(4, .int .i64 sg), (5, .string (str ds)), (6, .int .i64 (digitsVal (ds.take (i + 1)) : Nat)), (7, .int .i64 ((i + 1 : Nat)))]) ⟨rfl, rfl, ?_, rfl, trivial⟩ (ih (i + 1) ⟨by omega, take_all hall (by omega) (by rw [digit_iff]; exact decide_eq_true (by omega))⟩ (by omega))
                rw [digitsVal_take ds i (by omega)]
                rfl
          · intro c3
            refine s_exit rfl ?_
            refine s_seq ?_
            refine o_enter rfl ?_
            refine o_move rfl .free rfl ?_
            refine o_move rfl .free rfl ?_
            refine o_arith rfl rfl rfl (by rcases hsn with h | h <;> rw [h] <;> omega) .free rfl ?_
            refine o_assign rfl .free rfl ?_
            refine o_assign rfl .free rfl ?_
            refine o_done ?_
            refine s_ret (.tmp rfl (.tmp rfl .nil)) ?_
            refine done_only rfl (by intro _ h; first | exact h | exact dr1 h | exact dr2 h | exact dr3 h | exact dr4 h | exact dr5 h | exact dr6 h) ?_
            have hil : i = ds.length := by omega
            subst hil
            rw [List.take_length] at hall
            have ht : isNum s = true := by simp only [isNum, hd]; grind
            rw [ht, List.take_length, hsg]
            simp only [numVal, hd, if_neg c1, cond_true]
            rfl
end Go.Proofs.Ytekfjhopngcneaa
