/- Operations on kept values, by the program. No conditions. -/
import Derived.Test.YtmfagaajiakgoaaGreatDoorG12

namespace Go.Proofs.YtmfagaajiakgoaaGreatDoor
set_option maxRecDepth 100000
set_option linter.unusedVariables false
set_option linter.unusedSimpArgs false

section
variable {P : Program} {f : FuncId} {n : Nat} {I₀ : Heap} {Q : C2} {k : List Item} {E : He} {I : Heap} {L : Bm} {ops : Array Oper} {d : Nat} {ty : TypeId} {pos : String} {af : Array Edge} {g : Option (Nat × Bool)}
theorem Aed {S : World → Prop} {fuel : Nat} {listed listed' : Array Bool} (i : Nat) {T : TypeId} {x : Operand} {v : Value} {vs : List Value}
  (hi : ops[i]? = some ⟨some d, .box T x, ty, pos, af, g⟩) (hc : decide (Region.ready .any ops listed = [i]) = true) (hl : listed' = listed.setIfInBounds i true) (hx : Ch E x = some v) (hv : Fw v = some vs) (hg : Wants ops E g) (hdn : Nat.blt d n = true) (hS : Fa ops listed' = true ∨ ∀ w, Mem I L w → S w)
  (h : ∀ b, Cy P f n I₀ Q ops S fuel listed' k ((d, .pointer (some ⟨b, 0, none⟩)) :: E) I ((b, .cells vs.toArray T (0, 0)) :: L)) : Cy P f n I₀ Q ops S (fuel + 1) listed k E I L :=
 Tc [i] hc rfl fun j hj => by
  obtain rfl := List.mem_singleton.1 hj; refine Mi j hi hl rfl hdn (fun a he => hg.wanted a he) fun a w he hm => ?_
  refine ⟨_, _, I, (w.heap.size, .cells vs.toArray T (0, 0)) :: L, ?_, hm.alloc _, hS.imp id fun hs w' hm' => hs w' hm'.drop, h _⟩
  simp only [execOp, Instr.box, he.eval hx, newVar, newRow, newObj, Iu hv]
  rfl
end
theorem Still.cellAt {I : Heap} {a : Addr} {vs : List Value} (h : Still I a vs) (k : Nat) {v : Value} (hk : vs[k]? = some v) : Still I (a.add k) [v] := by
 rcases h with h | ⟨c, T, fr, hb, hs, hc⟩
 ·subst h; simp at hk
 ·have hlt : k < vs.length := by
   rcases Nat.lt_or_ge k vs.length with g | g
   ·exact g
   ·rw [List.getElem?_eq_none g] at hk; cases hk
  have hb' : I.get (a.add k).block = some (.cells c T fr) := by unfold Addr.add; split <;> exact hb
  have hs' : (a.add k).spot = none := by unfold Addr.add; split <;> simp [hs]
  have ho : (a.add k).off = a.off + k := by unfold Addr.add; split <;> simp [*]
  refine .inr ⟨c, T, fr, hb', hs', fun i hi => ?_⟩
  have h0 : i = 0 := by simpa using hi
  subst h0
  have := hc k hlt
  rw [List.getElem?_eq_getElem hlt] at hk; obtain rfl := Option.some.inj hk; rw [ho]; simpa using this
def KV.nt : KV → Au
 | .num s => s
 | _ => []
theorem KVat.cell {I : Heap} {v : KV} {a : Addr} (h : KVat I v a) : ∃ x1 x2 x3, Still I a [.string (str v.nt), x1, x2, x3] := by
 cases h with
 | num h => exact ⟨_, _, _, h⟩
 | pair h => exact ⟨_, _, _, h⟩
 | clo h => exact ⟨_, _, _, h⟩
theorem Xi {v : KV} (hw : v.wf) (h : ¬ v.nt = []) : ∃ s, v = .num s ∧ Cc s = true := by
 cases v with
 | num s => exact ⟨s, rfl, hw⟩
 | pair a b => exact absurd rfl h
 | clo f x s t b r => exact absurd rfl h
theorem Xj {s : Au} (h : Cc s = true) : ¬ s = [] := fun e => by subst e; cases h
theorem Z6 {o : B5} {u w : KV} (hu : u.wf) (hw : w.wf) (hp : o ≠ .pair) (h : u.nt = [] ∨ w.nt = []) : o.act u w = none := by
 cases o with
 | pair => exact absurd rfl hp
 | call => rfl
 | _ =>
  cases u with
  | num s =>
   cases w with
   | num q => exact absurd h (by intro h; rcases h with h | h; exact Xj hu h; exact Xj hw h)
   | _ => rfl
  | _ => cases w <;> rfl
def ER (b n : Nat) (o : Option KV) (L : Bm) : C2 := fun v I' L' => ∃ p, v = .pointer p ∧ RP? I' o p ∧ L' = R3 b n o.isNone :: L
theorem Tt {I : Heap} (ht : Tab I) {o : B5} (ho : o ≠ .call) {u w : KV} (wu : u.wf) (ww : w.wf) {pu pw q : Addr} {c : Nat} (hq : Still I q [.pointer (some pu), .pointer (some pw)]) (hc : 2 ≤ c) (hu : KVat I u pu) (hw : KVat I w pw) (b n : Nat) (L : Bm) :
  Fun Tryz.prog 88 [.pointer (some ⟨b, 0, none⟩), .string (str o.txt), .slice (some q) 2 c] I (R3 b n false :: L) (ER b n (o.act u w) L) := by
 obtain ⟨x1, x2, x3, su⟩ := hu.cell; obtain ⟨y1, y2, y3, sw⟩ := hw.cell
 have q0 : Still I (q.add (0 * 1)) [.pointer (some pu)] := hq.cellAt 0 rfl
 have q1 : Still I (q.add (1 * 1)) [.pointer (some pw)] := hq.cellAt 1 rfl
 have hfs : ¬ o.txt = [102, 115, 116] := Mq o .fst
 have hsn : ¬ o.txt = [115, 110, 100] := Mq o .snd
 refine Ap Af ?_; refine Se rfl (Oa rfl (Aa (Ah (Se rfl (Om rfl (Aa (Aq (Se rfl (Od rfl rfl rfl (Oa rfl (Aa ?_))))))))))); refine Ay rfl ?_ ?_
 ·intro c0
  try simp only [nb] at c0
  obtain rfl : o = .pair := B5.txt_inj (o' := .pair) c0; refine Se rfl (Om rfl ?_); refine B6 rfl rfl rfl .free rfl ?_; refine Cg rfl rfl .free rfl ?_; intro b12; refine Oa rfl (Aa ?_); refine Bn ?_; intro hz; refine Ak (.tmp rfl .nil) ?_
  exact ⟨_, _, hz, fun _ h => h, _, rfl, ⟨_, rfl, .pair (Bi (xs := [_, _, _, _]) (ys := [])) (hq.mono hz) hc (hu.mono hz) (hw.mono hz)⟩, rfl⟩
 intro c0
 try simp only [nb] at c0
 have hop : o ≠ .pair := fun e => c0 (by rw [e]; rfl)
 refine Ah (Se rfl (Od rfl rfl rfl (Oa rfl (Aa ?_))))
 first | refine Ft rfl (hfs) ?_ | refine Fs rfl (hfs) ?_ | refine As Ai ?_
 refine Al rfl (Od rfl rfl rfl (Oa rfl (Aa ?_)))
 first | refine Ft rfl (hsn) ?_ | refine Fs rfl (hsn) ?_ | refine As Ai ?_
 refine Aj (Ar (Ah (Se rfl (Om rfl ?_))))
 first | refine Ba rfl rfl 0 rfl .free rfl ?_ | refine Bb rfl rfl 0 rfl .free rfl ?_
 refine B0 rfl (Bc q0 rfl) .free rfl ?_; refine Az rfl .free rfl ?_
 first | refine Oh rfl ?_ | refine Oj rfl ?_
 refine B0 rfl (Bd su Ae rfl) .free rfl ?_; refine Od rfl rfl rfl (Om rfl ?_)
 apply F9 50 58 rfl
 ·intro g11_8 hk
  try simp only [nb] at g11_8
  refine Ow rfl ?_
  first | refine Ba rfl rfl 1 rfl (.met rfl rfl) rfl ?_ | refine Bb rfl rfl 1 rfl (.met rfl rfl) rfl ?_
  refine B0 rfl (Bc q1 rfl) (.met rfl rfl) rfl ?_; refine Az rfl (.met rfl rfl) rfl ?_
  first | refine A2 rfl (.met rfl rfl) rfl ?_ | refine Bj rfl (.met rfl rfl) rfl ?_
  refine B0 rfl (Bd sw Ae rfl) (.met rfl rfl) rfl ?_; refine Ck rfl rfl rfl (.met rfl rfl) rfl ?_; refine Of rfl rfl ?_
  exact Av 7 rfl rfl hk
 ·intro _ hk; refine A0 7 rfl ?_; refine Ot rfl rfl ?_
  exact Av 7 rfl rfl hk
 refine Aa ?_; refine Ay rfl ?_ ?_
 ·intro c5
  try simp only [nb] at c5
  refine Se rfl (Om rfl ?_); refine Ca rfl (Es _ b n _) ?_; rintro _ _ _ _ ⟨rfl, rfl, rfl⟩; refine Oa rfl (Aa (Ak (.tmp rfl .nil) ?_))
  have hno : o.act u w = none := Z6 wu ww hop c5
  exact ⟨I, _, .refl _, fun _ h => h, none, rfl, by rw [hno]; rfl, by rw [hno]; rfl⟩
 intro c5
 try simp only [nb] at c5
 obtain ⟨s, rfl, hs⟩ := Xi wu c5.1; obtain ⟨r, rfl, hr⟩ := Xi ww c5.2; refine Aj (Ah ?_); refine D6 17 rfl rfl ?_; refine Da 0 rfl (Am rfl) ?_; refine Da 1 rfl (Am rfl) ?_
 first | refine Da 2 rfl (Br rfl rfl 0 rfl) ?_ | refine Da 2 rfl (Bs rfl rfl 0 rfl) ?_
 refine Dt 3 [17] rfl (Ey rfl (Bc q0 rfl)) ?_; refine Da 4 rfl (D4 rfl) ?_
 first | refine Da 5 rfl (Ao rfl) ?_ | refine Da 5 rfl (Bf rfl) ?_
 refine Dt 6 [17] rfl (Ey rfl (Bd su Ae rfl)) ?_; refine Da 7 rfl (Am rfl) ?_
 first | refine Da 8 rfl (Br rfl rfl 1 rfl) ?_ | refine Da 8 rfl (Bs rfl rfl 1 rfl) ?_
 refine Dt 9 [17] rfl (Ey rfl (Bc q1 rfl)) ?_; refine Da 10 rfl (D4 rfl) ?_
 first | refine Da 11 rfl (Ao rfl) ?_ | refine Da 11 rfl (Bf rfl) ?_
 refine Dt 12 [17] rfl (Ey rfl (Bd sw Ae rfl)) ?_; refine Dc 13 rfl rfl (Ns ht o hs hr _) ?_; rintro _ _ _ _ ⟨rfl, rfl, rfl⟩; refine Hx ?_; refine Da 14 rfl (Iv rfl rfl rfl) ?_; refine Aed 15 rfl Ac rfl rfl rfl .free rfl (.inr At) ?_; intro b76; refine Da 16 rfl (A5 rfl) ?_; refine Aw Ac ?_; refine Bn ?_; intro hz; refine Ak (.tmp rfl .nil) ?_
 have hac : o.act (.num s) (.num r) = some (.num (Ky o s r)) := by
  cases o <;> first | rfl | exact absurd rfl ho | exact absurd rfl hop
 rw [hac]
 exact ⟨_, _, hz, fun _ h => h, _, rfl, ⟨_, rfl, .num (Bi (xs := [_, _, _, _]) (ys := []))⟩, rfl⟩
theorem Vd {I : Heap} {o : U2} {u : KV} {pu q : Addr} {c : Nat} (hq : Still I q [.pointer (some pu)]) (hu : KVat I u pu) (b n : Nat) (L : Bm) :
  Fun Tryz.prog 88 [.pointer (some ⟨b, 0, none⟩), .string (str o.txt), .slice (some q) 1 c] I (R3 b n false :: L) (ER b n (o.act u) L) := by
 have q0 : Still I (q.add (0 * 1)) [.pointer (some pu)] := hq.cellAt 0 rfl
 have hoo : ¬ o.txt = [102, 115, 116] → o.txt = [115, 110, 100] := by
  cases o with
  | fst => exact fun h => absurd rfl h
  | snd => exact fun _ => rfl
 have hpa : ¬ o.txt = [112, 97, 105, 114] := fun h => Mq .pair o h.symm
 refine Ap Af ?_; refine Se rfl (Oa rfl (Aa (Ah (Se rfl (Om rfl (Aa (Aq (Se rfl (Od rfl rfl rfl (Oa rfl (Aa ?_)))))))))))
 first | refine Ft rfl (hpa) ?_ | refine Fs rfl (hpa) ?_ | refine As Ai ?_
 refine Ah (Se rfl (Od rfl rfl rfl (Oa rfl (Aa ?_)))); refine Ay rfl ?_ ?_
 ·intro c1
  try simp only [nb] at c1
  refine Aj ?_
  first | refine L5 rfl (by first | rfl | exact hoo c1 | decide) ?_ | refine L4 rfl (by first | rfl | exact hoo c1 | decide) ?_ | refine Bo Ai ?_
  refine Ah (Ah ?_)
  rcases hu with @⟨s, a, hs⟩ | @⟨u1, u2, a, q2, p1, p2, c2, hs, hq2, hc2, h1, h2⟩ | @⟨f, x, s, t, bd, r, a, fa, oo, c2, pr, hs, hf, hrp, he⟩
  ·skip
   refine Al rfl (Om rfl ?_)
   first | refine Ba rfl rfl 0 rfl .free rfl ?_ | refine Bb rfl rfl 0 rfl .free rfl ?_
   refine B0 rfl (Bc q0 rfl) .free rfl ?_; refine Az rfl .free rfl ?_
   first | refine Oh rfl ?_ | refine Oj rfl ?_
   refine B0 rfl (Bd hs Ae rfl) .free rfl ?_; refine Ie rfl rfl .free rfl ?_; refine Aa ?_
   first | refine St rfl (rfl) ?_ | refine Bo Ai ?_
   refine Se rfl (Om rfl ?_); refine Ca rfl (Es _ b n _) ?_; rintro _ _ _ _ ⟨rfl, rfl, rfl⟩; refine Oa rfl (Aa (Ak (.tmp rfl .nil) ?_))
   exact ⟨I, _, .refl _, fun _ h => h, none, rfl, by cases o <;> rfl, by cases o <;> rfl⟩
  ·skip
   have r0 : Still I (q2.add (0 * 1)) [.pointer (some p1)] := hq2.cellAt 0 rfl
   have r1 : Still I (q2.add (1 * 1)) [.pointer (some p2)] := hq2.cellAt 1 rfl
   refine Al rfl (Om rfl ?_)
   first | refine Ba rfl rfl 0 rfl .free rfl ?_ | refine Bb rfl rfl 0 rfl .free rfl ?_
   refine B0 rfl (Bc q0 rfl) .free rfl ?_; refine Az rfl .free rfl ?_
   first | refine Oh rfl ?_ | refine Oj rfl ?_
   refine B0 rfl (Bd hs Ae rfl) .free rfl ?_; refine Ie rfl rfl .free rfl ?_; refine Aa ?_
   first | refine Sf rfl Af ?_ | refine As Ai ?_
   refine Aj (Ah (Se rfl (Om rfl (Od rfl rfl rfl (Aa ?_))))); refine Ay rfl ?_ ?_
   ·intro c4
    try simp only [nb] at c4
    refine Se rfl (Om rfl ?_)
    first | refine Ba rfl rfl 0 rfl .free rfl ?_ | refine Bb rfl rfl 0 rfl .free rfl ?_
    refine B0 rfl (Bc q0 rfl) .free rfl ?_; refine Az rfl .free rfl ?_
    first | refine Oh rfl ?_ | refine Oj rfl ?_
    refine B0 rfl (Bd hs Ae rfl) .free rfl ?_
    first | refine Ba rfl rfl 0 rfl .free rfl ?_ | refine Bb rfl rfl 0 rfl .free rfl ?_
    refine B0 rfl (Bc r0 rfl) .free rfl ?_; refine Oa rfl (Aa (Ak (.tmp rfl .nil) ?_)); obtain rfl : o = .fst := U2.txt_inj (o' := .fst) c4
    exact ⟨I, _, .refl _, fun _ h => h, _, rfl, ⟨_, rfl, h1⟩, rfl⟩
   intro c4
   try simp only [nb] at c4
   refine Aj (Se rfl (Om rfl ?_))
   first | refine Ba rfl rfl 0 rfl .free rfl ?_ | refine Bb rfl rfl 0 rfl .free rfl ?_
   refine B0 rfl (Bc q0 rfl) .free rfl ?_; refine Az rfl .free rfl ?_
   first | refine Oh rfl ?_ | refine Oj rfl ?_
   refine B0 rfl (Bd hs Ae rfl) .free rfl ?_
   first | refine Ba rfl rfl 1 rfl .free rfl ?_ | refine Bb rfl rfl 1 rfl .free rfl ?_
   refine B0 rfl (Bc r1 rfl) .free rfl ?_; refine Oa rfl (Aa (Ak (.tmp rfl .nil) ?_)); obtain rfl : o = .snd := by
    cases o with
    | fst => exact absurd rfl c4
    | snd => rfl
   exact ⟨I, _, .refl _, fun _ h => h, _, rfl, ⟨_, rfl, h2⟩, rfl⟩
  ·skip
   refine Al rfl (Om rfl ?_)
   first | refine Ba rfl rfl 0 rfl .free rfl ?_ | refine Bb rfl rfl 0 rfl .free rfl ?_
   refine B0 rfl (Bc q0 rfl) .free rfl ?_; refine Az rfl .free rfl ?_
   first | refine Oh rfl ?_ | refine Oj rfl ?_
   refine B0 rfl (Bd hs Ae rfl) .free rfl ?_; refine Ie rfl rfl .free rfl ?_; refine Aa ?_
   first | refine St rfl (rfl) ?_ | refine Bo Ai ?_
   refine Se rfl (Om rfl ?_); refine Ca rfl (Es _ b n _) ?_; rintro _ _ _ _ ⟨rfl, rfl, rfl⟩; refine Oa rfl (Aa (Ak (.tmp rfl .nil) ?_))
   exact ⟨I, _, .refl _, fun _ h => h, none, rfl, by cases o <;> rfl, by cases o <;> rfl⟩
 intro c1
 try simp only [nb] at c1
 refine Al rfl (Od rfl rfl rfl (Oa rfl (Aa ?_)))
 first | refine L5 rfl (by first | rfl | exact hoo c1 | decide) ?_ | refine L4 rfl (by first | rfl | exact hoo c1 | decide) ?_ | refine Bo Ai ?_
 refine Ah (Ah ?_)
 rcases hu with @⟨s, a, hs⟩ | @⟨u1, u2, a, q2, p1, p2, c2, hs, hq2, hc2, h1, h2⟩ | @⟨f, x, s, t, bd, r, a, fa, oo, c2, pr, hs, hf, hrp, he⟩
 ·skip
  refine Al rfl (Om rfl ?_)
  first | refine Ba rfl rfl 0 rfl .free rfl ?_ | refine Bb rfl rfl 0 rfl .free rfl ?_
  refine B0 rfl (Bc q0 rfl) .free rfl ?_; refine Az rfl .free rfl ?_
  first | refine Oh rfl ?_ | refine Oj rfl ?_
  refine B0 rfl (Bd hs Ae rfl) .free rfl ?_; refine Ie rfl rfl .free rfl ?_; refine Aa ?_
  first | refine St rfl (rfl) ?_ | refine Bo Ai ?_
  refine Se rfl (Om rfl ?_); refine Ca rfl (Es _ b n _) ?_; rintro _ _ _ _ ⟨rfl, rfl, rfl⟩; refine Oa rfl (Aa (Ak (.tmp rfl .nil) ?_))
  exact ⟨I, _, .refl _, fun _ h => h, none, rfl, by cases o <;> rfl, by cases o <;> rfl⟩
 ·skip
  have r0 : Still I (q2.add (0 * 1)) [.pointer (some p1)] := hq2.cellAt 0 rfl
  have r1 : Still I (q2.add (1 * 1)) [.pointer (some p2)] := hq2.cellAt 1 rfl
  refine Al rfl (Om rfl ?_)
  first | refine Ba rfl rfl 0 rfl .free rfl ?_ | refine Bb rfl rfl 0 rfl .free rfl ?_
  refine B0 rfl (Bc q0 rfl) .free rfl ?_; refine Az rfl .free rfl ?_
  first | refine Oh rfl ?_ | refine Oj rfl ?_
  refine B0 rfl (Bd hs Ae rfl) .free rfl ?_; refine Ie rfl rfl .free rfl ?_; refine Aa ?_
  first | refine Sf rfl Af ?_ | refine As Ai ?_
  refine Aj (Ah (Se rfl (Om rfl (Od rfl rfl rfl (Aa ?_))))); refine Ay rfl ?_ ?_
  ·intro c4
   try simp only [nb] at c4
   refine Se rfl (Om rfl ?_)
   first | refine Ba rfl rfl 0 rfl .free rfl ?_ | refine Bb rfl rfl 0 rfl .free rfl ?_
   refine B0 rfl (Bc q0 rfl) .free rfl ?_; refine Az rfl .free rfl ?_
   first | refine Oh rfl ?_ | refine Oj rfl ?_
   refine B0 rfl (Bd hs Ae rfl) .free rfl ?_
   first | refine Ba rfl rfl 0 rfl .free rfl ?_ | refine Bb rfl rfl 0 rfl .free rfl ?_
   refine B0 rfl (Bc r0 rfl) .free rfl ?_; refine Oa rfl (Aa (Ak (.tmp rfl .nil) ?_)); obtain rfl : o = .fst := U2.txt_inj (o' := .fst) c4
   exact ⟨I, _, .refl _, fun _ h => h, _, rfl, ⟨_, rfl, h1⟩, rfl⟩
  intro c4
  try simp only [nb] at c4
  refine Aj (Se rfl (Om rfl ?_))
  first | refine Ba rfl rfl 0 rfl .free rfl ?_ | refine Bb rfl rfl 0 rfl .free rfl ?_
  refine B0 rfl (Bc q0 rfl) .free rfl ?_; refine Az rfl .free rfl ?_
  first | refine Oh rfl ?_ | refine Oj rfl ?_
  refine B0 rfl (Bd hs Ae rfl) .free rfl ?_
  first | refine Ba rfl rfl 1 rfl .free rfl ?_ | refine Bb rfl rfl 1 rfl .free rfl ?_
  refine B0 rfl (Bc r1 rfl) .free rfl ?_; refine Oa rfl (Aa (Ak (.tmp rfl .nil) ?_)); obtain rfl : o = .snd := by
   cases o with
   | fst => exact absurd rfl c4
   | snd => rfl
  exact ⟨I, _, .refl _, fun _ h => h, _, rfl, ⟨_, rfl, h2⟩, rfl⟩
 ·skip
  refine Al rfl (Om rfl ?_)
  first | refine Ba rfl rfl 0 rfl .free rfl ?_ | refine Bb rfl rfl 0 rfl .free rfl ?_
  refine B0 rfl (Bc q0 rfl) .free rfl ?_; refine Az rfl .free rfl ?_
  first | refine Oh rfl ?_ | refine Oj rfl ?_
  refine B0 rfl (Bd hs Ae rfl) .free rfl ?_; refine Ie rfl rfl .free rfl ?_; refine Aa ?_
  first | refine St rfl (rfl) ?_ | refine Bo Ai ?_
  refine Se rfl (Om rfl ?_); refine Ca rfl (Es _ b n _) ?_; rintro _ _ _ _ ⟨rfl, rfl, rfl⟩; refine Oa rfl (Aa (Ak (.tmp rfl .nil) ?_))
  exact ⟨I, _, .refl _, fun _ h => h, none, rfl, by cases o <;> rfl, by cases o <;> rfl⟩
theorem Ex.shapes8 (e : Ex) : (∃ s, e = .num s) ∨ (∃ s, e = .name s) ∨ (∃ f x s t b, e = .fn f x s t b) ∨ (∃ a b, e = .bin .call a b) ∨ (∃ o a b, o ≠ B5.call ∧ e = .bin o a b) ∨ (∃ a b d, e = .ite a b d) ∨ (∃ z a b, e = .lt z a b) ∨ (∃ o a, e = .un o a) := by
 cases e with
 | num s => exact .inl ⟨s, rfl⟩
 | name s => exact .inr (.inl ⟨s, rfl⟩)
 | fn f x s t b => exact .inr (.inr (.inl ⟨f, x, s, t, b, rfl⟩))
 | bin o a b =>
  by_cases h : o = .call
  ·subst h; exact .inr (.inr (.inr (.inl ⟨a, b, rfl⟩)))
  ·exact .inr (.inr (.inr (.inr (.inl ⟨o, a, b, h, rfl⟩))))
 | ite a b d => exact .inr (.inr (.inr (.inr (.inr (.inl ⟨a, b, d, rfl⟩)))))
 | lt z a b => exact .inr (.inr (.inr (.inr (.inr (.inr (.inl ⟨z, a, b, rfl⟩))))))
 | un o a => exact .inr (.inr (.inr (.inr (.inr (.inr (.inr ⟨o, a, rfl⟩))))))
theorem T1 {s : Au} (h : Cc s = true) : Cb s = false := by
 cases hn : Cb s with
 | false => rfl
 | true => rw [Gf hn] at h; cases h
theorem Kc {I : Heap} {o : Option KV} {p : Option Addr} (h : RP? I o p) (hp : p.isNone = true) : o = none ∧ p = none := by
 cases o with
 | none => exact ⟨rfl, h⟩
 | some w => obtain ⟨x, rfl, _⟩ := h; cases hp
theorem Kd {I : Heap} {o : Option KV} {p : Option Addr} (h : RP? I o p) (hp : p.isNone = false) : ∃ w x, o = some w ∧ p = some x ∧ KVat I w x := by
 cases o with
 | none => rw [show p = none from h] at hp; cases hp
 | some w => obtain ⟨x, rfl, hx⟩ := h; exact ⟨w, x, rfl, rfl, hx⟩
theorem KVat.fun {I : Heap} {v : KV} {a : Addr} (h : KVat I v a) : ∃ x1 pf pr, Still I a [.string (str v.nt), x1, .pointer pf, .pointer pr] ∧ (pf = none → ∀ f x s t b r, v ≠ .clo f x s t b r) ∧
  ∀ fa, pf = some fa → ∃ f x s t b r o c, v = .clo f x s t b r ∧ Still I fa [.string (str []), .slice (some o) 6 c] ∧ Rep I (Ex.fn f x s t b).tree [.string (str []), .slice (some o) 6 c] ∧ KEat I r pr := by
 cases h with
 | num h => exact ⟨_, _, _, h, fun _ f x s t b r e => (by cases e), fun fa e => (by cases e)⟩
 | pair h => exact ⟨_, _, _, h, fun _ f x s t b r e => (by cases e), fun fa e => (by cases e)⟩
 | clo h hf hr he => exact ⟨_, _, _, h, fun e => (by cases e), fun fa e => ⟨_, _, _, _, _, _, _, _, rfl, by cases e; exact hf, hr, he⟩⟩
def EVP (b : Nat) (r : Res) (L : Bm) : C2 := fun v I' L' => ∃ p, v = .pointer p ∧ RP? I' r.v p ∧ L' = R3 b r.left r.stuck :: L
def EvH (N : Nat) : Prop := ∀ {I : Heap} (_ : Tab I) {e : Ex} {cs : List Value} {k : KE} {pk : Option Addr} (n : Nat) (_ : n < N) (_ : n ≤ 1000000) (_ : Rep I e.tree cs) (_ : e.ok = true) (_ : KEat I k pk) (_ : k.wf) (_ : ∀ y ∈ e.occ [], y ∈ k.dom) (b : Nat) (L : Bm),
 Fun Tryz.prog 43 [.pointer (some ⟨b, 0, none⟩), .agg cs.toArray, .pointer pk] I (R3 b n false :: L) (EVP b (eval n e k) L)
structure EX where
 e : Ex
 k : KE
 pk : Option Addr
 n : Nat
 J : Heap
 o : Option Addr
 c : Nat
theorem K4 {n : Nat} {e : Ex} {k : KE} {u : KV} (hk : k.wf) (hok : e.ok = true) (hd : ∀ y ∈ e.occ [], y ∈ k.dom) (h : (eval n e k).v = some u) : u.wf ∧ (eval n e k).stuck = false := by
 have := Ox n e k hk hok hd
 unfold Res.says at this
 rw [h] at this
 exact ⟨this.1, this.2.2⟩
theorem Yz : ∀ N : Nat, EvH N := by
 intro N
 induction N with
 | zero => intro I ht e cs k pk n hn; omega
 | succ N ihn =>
  intro I ht e cs k pk n hn hm h hok hk hkw hd b L; obtain ⟨oc, cc, _, rfl, -⟩ := h.open
  generalize hR : eval n e k = R
  unfold R3
  refine Ap Af ?_; refine Se rfl ?_; refine Cg rfl rfl .free rfl ?_; intro b4; refine Oa rfl (Aa (Aq ?_))
  refine D7 (X := EX) (fun x => x.n) (fun x => [(0, .pointer (some ⟨b, 0, none⟩)), (2, .pointer x.pk), (4, .pointer (some ⟨b4, 0, none⟩))]) (fun x => x.J) (fun x => (b4, .cells [.string (str x.e.tree.atom), .slice x.o x.e.tree.parts.length x.c].toArray 49 (0, 0)) :: (b, .cells [.int .i64 (x.n : Nat), .bool false].toArray 55 (0, 0)) :: L) (fun x => HLe I x.J ∧ Rep x.J x.e.tree [.string (str x.e.tree.atom), .slice x.o x.e.tree.parts.length x.c] ∧ x.e.ok = true ∧ KEat x.J x.k x.pk ∧ x.k.wf ∧ (∀ y ∈ x.e.occ [], y ∈ x.k.dom) ∧ x.n < N + 1 ∧ x.n ≤ 1000000 ∧ eval x.n x.e x.k = R) ⟨e, k, pk, n, I, oc, cc⟩ ⟨.refl _, h, hok, hk, hkw, hd, hn, hm, hR⟩ ⟨rfl, rfl, rfl, trivial⟩ (fun _ h => h) ?_
  clear hd hkw hk hok h hn hm hR
  rintro ⟨e, k, pk, n, J, oc, cc⟩ ⟨hle, hr, hok, hk, hkw, hd, hn, hm, hR⟩ ih
  simp only at hle hr hok hk hkw hd hn hm hR ih ⊢
  have ht := ht.mono hle
  refine Aq (Ah (Se rfl (Om rfl ?_))); refine Az rfl .free rfl ?_
  first | refine Oh rfl ?_ | refine Oj rfl ?_
  refine Gr rfl .free rfl ?_; refine Oc rfl rfl rfl (Aa ?_); refine Ay rfl ?_ ?_
  ·intro c0
   try simp only [nb] at c0
   refine Se rfl (Oa rfl (Aa (Ak (.tmp rfl .nil) ?_))); obtain rfl : n = 0 := by omega
   rw [Ia] at hR; subst hR
   exact ⟨J, _, hle, fun _ h => h.drop, none, rfl, rfl, rfl⟩
  intro c0
  try simp only [nb] at c0
  obtain ⟨m, rfl⟩ : ∃ m, n = m + 1 := ⟨n - 1, by omega⟩; refine Aj (Se rfl (Om rfl ?_)); refine Az rfl .free rfl ?_
  first | refine Oh rfl ?_ | refine Oj rfl ?_
  refine Gr rfl .free rfl ?_; refine Or rfl rfl rfl ?_; refine C9 (t := 21) (v' := .int .i64 (m : Nat)) rfl Eg ?_; refine Az rfl .free rfl ?_
  first | refine Oh rfl ?_ | refine Oj rfl ?_
  refine Bu rfl rfl rfl rfl .free ?_; refine Aa (Ah (Ah ?_))
  rcases e.shapes8 with ⟨s, rfl⟩ | ⟨s, rfl⟩ | ⟨f, z, s, t, bd, rfl⟩ | ⟨a, d, rfl⟩ | ⟨o, a, d, hoc, rfl⟩ | ⟨a, d, g, rfl⟩ | ⟨z, a, d, rfl⟩ | ⟨o, a, rfl⟩
  ·skip
   refine Al rfl ?_; refine A8 rfl .free rfl ?_; refine Ca rfl (B8 hr _) ?_; rintro _ _ _ _ ⟨rfl, rfl, rfl⟩; rw [show (Ex.num s).tree.parts.isEmpty = true from rfl]; refine Aa ?_
   first | refine St rfl (rfl) ?_ | refine Bo Ai ?_
   refine Ah (Se rfl (Oh rfl ?_)); refine A4 rfl .free rfl ?_; refine Ca rfl (Jq s (by have := Id (show Cc s = true from hok); unfold Be; omega) _ _) ?_; rintro _ _ _ _ ⟨rfl, rfl, rfl⟩; rw [T1 (show Cc s = true from hok)]; refine Aa ?_
   first | refine Sf rfl Af ?_ | refine As Ai ?_
   refine Aj (Se rfl (Oh rfl ?_)); refine A4 rfl .free rfl ?_; refine B6 rfl rfl rfl .free rfl ?_; refine Cg rfl rfl .free rfl ?_; intro b36; refine Oa rfl (Aa ?_); refine Bn ?_; intro hz; refine Ak (.tmp rfl .nil) ?_; rw [Jp] at hR; subst hR
   exact ⟨_, _, hle.trans hz, fun _ h => h.drop, _, rfl, ⟨_, rfl, .num (Bi (xs := [_, _, _, _]) (ys := []))⟩, rfl⟩
  ·skip
   refine Al rfl ?_; refine A8 rfl .free rfl ?_; refine Ca rfl (B8 hr _) ?_; rintro _ _ _ _ ⟨rfl, rfl, rfl⟩; rw [show (Ex.name s).tree.parts.isEmpty = true from rfl]; refine Aa ?_
   first | refine St rfl (rfl) ?_ | refine Bo Ai ?_
   refine Ah (Se rfl (Oh rfl ?_)); refine A4 rfl .free rfl ?_; refine Ca rfl (Jq s (by have := Fz (show Cb s = true from hok); unfold Be; omega) _ _) ?_; rintro _ _ _ _ ⟨rfl, rfl, rfl⟩; rw [show Cb s = true from hok]; refine Aa ?_
   first | refine St rfl (rfl) ?_ | refine Bo Ai ?_
   refine Se rfl (Om rfl (Oh rfl ?_)); refine A4 rfl .free rfl ?_; refine Ca rfl (Vb hk s _) ?_; rintro _ _ _ _ ⟨p, rfl, hp, rfl, rfl⟩; refine Oa rfl (Aa (Ak (.tmp rfl .nil) ?_)); rw [H9] at hR; subst hR
   exact ⟨J, _, hle, fun _ h => h.drop, p, rfl, hp, rfl⟩
  ·skip
   refine Al rfl ?_; refine A8 rfl .free rfl ?_; refine Ca rfl (B8 hr _) ?_; rintro _ _ _ _ ⟨rfl, rfl, rfl⟩; rw [show (Ex.fn f z s t bd).tree.parts.isEmpty = false from rfl]; refine Aa ?_
   first | refine Sf rfl Af ?_ | refine As Ai ?_
   refine Aj (Ah (Se rfl ?_)); refine A8 rfl .free rfl ?_; refine Ca rfl (Bq hr _) ?_; rintro _ _ _ _ ⟨rfl, rfl, rfl⟩; rw [show (Ex.fn f z s t bd).tree.head = [102, 117, 110] from rfl]; obtain ⟨oa2, c2, oaf, cf, he2, hf⟩ := hr.at'
   simp only [List.cons.injEq, Value.slice.injEq, and_true, true_and] at he2
   obtain ⟨rfl, rfl⟩ := he2; obtain ⟨xa, rfl⟩ : ∃ x, oc = some x := ⟨_, C3 hf.nil (show 0 < 6 by decide)⟩; refine Od rfl rfl rfl (Aa ?_)
   first | refine St rfl (rfl) ?_ | refine Bo Ai ?_
   refine Se rfl (Om rfl ?_); refine B6 rfl rfl rfl .free rfl ?_; refine Cg rfl rfl .free rfl ?_; intro b42; refine Oa rfl (Aa ?_); refine Bn ?_; intro hz; refine Bn ?_; intro hz2; refine Ak (.tmp rfl .nil) ?_; rw [K5] at hR; subst hR
   exact ⟨_, _, (hle.trans hz).trans hz2, fun _ h => h, _, rfl, ⟨_, rfl, .clo ((Bi (xs := [_, _, _, _]) (ys := [])).mono hz2) (Bi (xs := [_, _]) (ys := [])) (hr.mono (hz.trans hz2)) (hk.mono (hz.trans hz2))⟩, rfl⟩
  ·skip
   refine Al rfl ?_; refine A8 rfl .free rfl ?_; refine Ca rfl (B8 hr _) ?_; rintro _ _ _ _ ⟨rfl, rfl, rfl⟩; rw [show (Ex.bin .call a d).tree.parts.isEmpty = false from rfl]; refine Aa ?_
   first | refine Sf rfl Af ?_ | refine As Ai ?_
   refine Aj (Ah (Se rfl ?_)); refine A8 rfl .free rfl ?_; refine Ca rfl (Bq hr _) ?_; rintro _ _ _ _ ⟨rfl, rfl, rfl⟩; obtain ⟨oa2, c2, oaf, cf, he2, hf⟩ := hr.at'
   simp only [List.cons.injEq, Value.slice.injEq, and_true, true_and] at he2
   obtain ⟨rfl, rfl⟩ := he2; obtain ⟨xa, rfl⟩ : ∃ x, oc = some x := ⟨_, C3 hf.nil (show 0 < 3 by decide)⟩
   have hlen : (Ex.bin .call a d).tree.parts.length = 3 := rfl
   have hev : Uq (Ex.bin .call a d).tree = [1, 2] := rfl
   simp only [Ex.ok, Bool.and_eq_true] at hok
   rw [show (Ex.bin .call a d).tree.head = [99, 97, 108, 108] from rfl]; refine Od rfl rfl rfl (Aa ?_)
   first | refine Sf rfl Ad ?_ | refine As Ai ?_
   refine Aj (Se rfl (Oa rfl (Aa (Ah (Se rfl ?_))))); refine A8 rfl .free rfl ?_; refine Ca rfl (Dp hf.rep _) ?_; rintro _ J0 _ e0 ⟨oq, ck, rfl, hn0, rfl⟩
   have hf := hf.mono e0
   have hk := hk.mono e0
   have ht := ht.mono e0
   have hle := hle.trans e0
   rw [hev] at hn0; rw [hev]; refine On rfl (Om rfl (Aa (Aq ?_))); refine Ec ?_; refine Se rfl (Oc rfl rfl rfl (Aa (Ah ?_))); refine Cj rfl Bp ?_; refine Aj (Ah (Aq (Se rfl ?_)))
   first | refine Ba rfl rfl _ rfl .free rfl ?_ | refine Bb rfl rfl _ rfl .free rfl ?_
   refine Ev rfl .free rfl ?_; refine Oa rfl (Aa (Se rfl (Om rfl (Oh rfl ?_)))); refine A4 rfl .free rfl ?_; refine Om rfl ?_
   first | refine Ba rfl rfl _ rfl .free rfl ?_ | refine Bb rfl rfl _ rfl .free rfl ?_
   refine E1 rfl .free rfl ?_; refine Om rfl ?_; refine En (fun w h => h.f1) ?_; refine Ca rfl (ihn ht m Ab Ab (hf.as 1 a.tree Ab rfl) hok.1 hk hkw (fun y hy => hd y (List.mem_append_left _ hy)) b _) ?_; rintro _ J1 _ e1 ⟨p0, rfl, hp0, rfl⟩
   have hf := hf.mono e1
   have hk := hk.mono e1
   have ht := ht.mono e1
   have hn0 := hn0.mono e1
   have hle := hle.trans e1
   unfold R3
   refine Oa rfl (Aa (Ah (Se rfl (Om rfl ?_)))); refine G3 rfl rfl .free rfl ?_; refine Aa ?_; refine Ay rfl ?_ ?_
   ·intro c5
    try simp only [nb] at c5
    obtain ⟨hv0, rfl⟩ := Kc hp0 c5
    have hRR : eval m a k = R := by
     rw [Gt] at hR
     simpa only [hv0] using hR
    refine Se rfl (Oa rfl (Aa (Ak (.tmp rfl .nil) ?_))); subst hRR
    exact ⟨_, _, hle, Ms (L' := (b, _) :: L), none, rfl, by rw [hv0]; rfl, rfl⟩
   intro c5
   try simp only [nb] at c5
   obtain ⟨u, pu, hv0, rfl, hau⟩ := Kd hp0 (by simpa using c5); obtain ⟨wu, hst0⟩ := K4 hkw hok.1 (fun y hy => hd y (List.mem_append_left _ hy)) hv0; rw [hst0]; refine Aj (Al rfl (Om rfl (Om rfl ?_))); refine Ol rfl rfl ?_; intro b62; refine Ea (B := none) (xs := []) (ys := [.pointer (some pu)]) (m := 0) (c := 0) Bl Ae rfl rfl ⟨rfl, rfl, rfl⟩ (fun _ h => h) Ae (fun a ha => by cases ha; exact Cm (.head _) Ae) Af Ae Ad Ad Ab Ad .free rfl ?_; intro bb sp c2 hB
   simp only [Cn, List.cons_append, List.nil_append, Nat.zero_add]
   refine Oa rfl (Aa (Ar (Al rfl ?_))); refine Or rfl rfl rfl ?_; refine Om rfl (Aa ?_); refine Ce ?_; refine Se rfl (Oc rfl rfl rfl (Aa (Ah ?_))); refine Cj rfl Bp ?_; refine Aj (Ah (Aq (Se rfl ?_)))
   first | refine Ba rfl rfl _ rfl .free rfl ?_ | refine Bb rfl rfl _ rfl .free rfl ?_
   refine Ev rfl .free rfl ?_; refine Oa rfl (Aa (Se rfl (Om rfl (Oh rfl ?_)))); refine A4 rfl .free rfl ?_; refine Om rfl ?_
   first | refine Ba rfl rfl _ rfl .free rfl ?_ | refine Bb rfl rfl _ rfl .free rfl ?_
   refine E1 rfl .free rfl ?_; refine Om rfl ?_
   have hl0 := B9 m a k
   refine En (fun w h => h.f2) ?_; refine Ca rfl (ihn ht (eval m a k).left Ab Ab (hf.as 2 d.tree Ab rfl) hok.2 hk hkw (fun y hy => hd y (List.mem_append_right _ hy)) b _) ?_; rintro _ J2 _ e2 ⟨p1, rfl, hp1, rfl⟩
   have hf := hf.mono e2
   have hk := hk.mono e2
   have ht := ht.mono e2
   have hn0 := hn0.mono e2
   have hle := hle.trans e2
   unfold R3
   refine Oa rfl (Aa (Ah (Se rfl (Om rfl ?_)))); refine G3 rfl rfl .free rfl ?_; refine Aa ?_; refine Ay rfl ?_ ?_
   ·intro c5
    try simp only [nb] at c5
    obtain ⟨hv1, rfl⟩ := Kc hp1 c5
    have hRR : eval (eval m a k).left d k = R := by
     rw [Gt] at hR
     simpa only [hv0, hv1] using hR
    refine Se rfl (Oa rfl (Aa (Ak (.tmp rfl .nil) ?_))); subst hRR
    exact ⟨_, _, hle, Ms (L' := (b, _) :: L), none, rfl, by rw [hv1]; rfl, rfl⟩
   intro c5
   try simp only [nb] at c5
   obtain ⟨v, pv, hv1, rfl, hav⟩ := Kd hp1 (by simpa using c5); obtain ⟨wv, hst1⟩ := K4 hkw hok.2 (fun y hy => hd y (List.mem_append_right _ hy)) hv1; rw [hst1]; refine Aj (Al rfl (Om rfl (Om rfl ?_))); refine Ol rfl rfl ?_; intro b62; refine Ea (B := some (bb, sp)) (xs := [.pointer (some pu)]) (ys := [.pointer (some pv)]) (m := 1) (c := c2) Bl Ae rfl rfl hB (fun _ h => h.f2) Ae (fun a ha => by cases ha; exact Cm (.head _) Ae) Af Ae Ad Ad Ab Ad .free rfl ?_; intro bb2 sp2 c3 hB2
   simp only [Cn, List.cons_append, List.nil_append]
   refine Oa rfl (Aa (Ar (Al rfl ?_))); refine Or rfl rfl rfl ?_; refine Om rfl (Aa ?_); refine Ce ?_; refine Se rfl (Oc rfl rfl rfl (Aa (Ah ?_))); refine Dh rfl Bp ?_; refine Cd rfl ?_; refine Ah ?_; refine Bn ?_; intro hz
   have hq0 := Bi (I := J2) (b := bb2) (xs := [.pointer (some pu), .pointer (some pv)]) (ys := sp2) (T := 56) (fr := (0, 0))
   simp only [List.cons_append, List.nil_append] at hq0
   have hf := hf.mono hz
   have hk := hk.mono hz
   have ht := ht.mono hz
   have hle := hle.trans hz
   have hau := hau.mono (e2.trans hz)
   have hav := hav.mono hz
   have q1 : Still _ ((⟨bb2, 0, none⟩ : Addr).add (1 * 1)) [.pointer (some pv)] := hq0.cellAt 1 rfl
   have q0 : Still _ ((⟨bb2, 0, none⟩ : Addr).add (0 * 1)) [.pointer (some pu)] := hq0.cellAt 0 rfl
   have hl1 := B9 m a k
   have hl2 := B9 (eval m a k).left d k
   rw [Gt] at hR
   simp only [hv0, hv1] at hR
   refine Bk (fun w h => Mem.sub (L' := (b, _) :: (b4, _) :: L) Bz h) ?_; refine Al rfl ?_; refine A8 rfl .free rfl ?_; refine Ca rfl (Bq hf.rep _) ?_; rintro _ _ _ _ ⟨rfl, rfl, rfl⟩; rw [show (Ex.bin .call a d).tree.head = [99, 97, 108, 108] from rfl]; refine Aa (Aq (Se rfl (Od rfl rfl rfl (Oa rfl (Aa ?_)))))
   first | refine Sf rfl Ad ?_ | refine As Ai ?_
   refine Se rfl (Od rfl rfl rfl (Oa rfl (Aa ?_)))
   first | refine Sf rfl Ad ?_ | refine As Ai ?_
   refine Se rfl (Od rfl rfl rfl (Oa rfl (Aa ?_)))
   first | refine St rfl (rfl) ?_ | refine Bo Ai ?_
   refine Se rfl ?_; obtain ⟨x1, pf, pr, su, hno, hyes⟩ := hau.fun
   refine Om rfl ?_
   first | refine Ba rfl rfl 0 rfl .free rfl ?_ | refine Bb rfl rfl 0 rfl .free rfl ?_
   refine B0 rfl (Bc q0 rfl) .free rfl ?_; refine Az rfl .free rfl ?_
   first | refine Oh rfl ?_ | refine Oj rfl ?_
   refine B0 rfl (Bd su Ae rfl) .free rfl ?_; refine Oa rfl (Aa (Ah (Se rfl (Om rfl ?_)))); refine G3 rfl rfl .free rfl ?_; refine Aa ?_; refine Ay rfl ?_ ?_
   ·intro c11
    try simp only [nb] at c11
    refine Se rfl (Om rfl ?_); refine Ca rfl (Es _ b (eval (eval m a k).left d k).left _) ?_; rintro _ _ _ _ ⟨rfl, rfl, rfl⟩; refine Oa rfl (Aa (Ak (.tmp rfl .nil) ?_))
    have hRR : (⟨none, (eval (eval m a k).left d k).left, true⟩ : Res) = R := by
     have hpf : pf = none := by cases pf with | none => rfl | some x => cases c11
     cases u with
     | clo f x s t bd r => exact absurd rfl (hno hpf f x s t bd r)
     | _ => exact hR
    subst hRR
    exact ⟨_, _, hle, Ms (L' := (b, _) :: L), none, rfl, rfl, rfl⟩
   intro c11
   try simp only [nb] at c11
   obtain ⟨fa, rfl⟩ : ∃ fa, pf = some fa := by cases pf with | none => cases c11 | some x => exact ⟨x, rfl⟩
   obtain ⟨fn, x, s, t, bd, r, o6, c6, rfl, hfa, hrf, hke⟩ := hyes fa rfl; obtain ⟨oa3, c3', oaf3, cf3, he3, hf3⟩ := hrf.at'
   simp only [List.cons.injEq, Value.slice.injEq, and_true, true_and] at he3
   obtain ⟨-, rfl, -, rfl⟩ := he3
   have hlen3 : (Ex.fn fn x s t bd).tree.parts.length = 6 := rfl
   simp only at hR
   have hcl := wu
   obtain ⟨hrw, hfok, hfd⟩ := wu
   have hfok' := hfok
   simp only [Ex.ok, Bool.and_eq_true, decide_eq_true_eq] at hfok'
   obtain ⟨⟨⟨⟨⟨nf, nx⟩, hfx⟩, _⟩, _⟩, hcok⟩ := hfok'; refine Aj ?_; refine D6 36 rfl rfl ?_; refine Da 0 rfl (Am rfl) ?_; refine Da 1 rfl (D4 rfl) ?_
   first | refine Da 2 rfl (Ao rfl) ?_ | refine Da 2 rfl (Bf rfl) ?_
   refine Dt 3 [34] rfl (Ey rfl (Bd hfa Ae rfl)) ?_
   first | refine Da 4 rfl (Br rfl rfl 5 rfl) ?_ | refine Da 4 rfl (Bs rfl rfl 5 rfl) ?_
   refine Dt 5 [34] rfl (Ey rfl (Bh (hf3.st _ Ab) Ae)) ?_; refine Da 6 rfl (Am rfl) ?_
   first | refine Da 7 rfl (Br rfl rfl 0 rfl) ?_ | refine Da 7 rfl (Bs rfl rfl 0 rfl) ?_
   refine Dt 8 [34] rfl (Ey rfl (Bc q0 rfl)) ?_; refine Da 9 rfl (D4 rfl) ?_
   first | refine Da 10 rfl (Ao rfl) ?_ | refine Da 10 rfl (Bf rfl) ?_
   refine Dt 11 [34] rfl (Ey rfl (Bd su Ae rfl)) ?_; refine Da 12 rfl (Am rfl) ?_; refine Da 13 rfl (D4 rfl) ?_
   first | refine Da 14 rfl (Ao rfl) ?_ | refine Da 14 rfl (Bf rfl) ?_
   refine Dt 15 [34] rfl (Ey rfl (Bd hfa Ae rfl)) ?_
   first | refine Da 16 rfl (Br rfl rfl 1 rfl) ?_ | refine Da 16 rfl (Bs rfl rfl 1 rfl) ?_
   refine Da 17 rfl (Bf rfl) ?_; refine Dt 18 [34] rfl (Ey rfl (Bd (hf3.st _ Ab) Ae rfl)) ?_; refine Da 19 rfl (Am rfl) ?_
   first | refine Da 20 rfl (Br rfl rfl 0 rfl) ?_ | refine Da 20 rfl (Bs rfl rfl 0 rfl) ?_
   refine Dt 21 [34] rfl (Ey rfl (Bc q0 rfl)) ?_; refine Da 23 rfl (Am rfl) ?_; refine Da 24 rfl (D4 rfl) ?_
   first | refine Da 25 rfl (Ao rfl) ?_ | refine Da 25 rfl (Bf rfl) ?_
   refine Dt 26 [34] rfl (Ey rfl (Bd hfa Ae rfl)) ?_
   first | refine Da 27 rfl (Br rfl rfl 2 rfl) ?_ | refine Da 27 rfl (Bs rfl rfl 2 rfl) ?_
   refine Da 28 rfl (Bf rfl) ?_; refine Dt 29 [34] rfl (Ey rfl (Bd (hf3.st _ Ab) Ae rfl)) ?_; refine Da 30 rfl (Am rfl) ?_
   first | refine Da 31 rfl (Br rfl rfl 1 rfl) ?_ | refine Da 31 rfl (Bs rfl rfl 1 rfl) ?_
   refine Dt 32 [34] rfl (Ey rfl (Bc q1 rfl)) ?_; refine Dc 22 rfl rfl (Ls hke fn hau _) ?_; rintro _ J3 _ e3 ⟨y3, rfl, hk3, rfl⟩
   have hf3 := hf3.mono e3
   have hle := hle.trans e3
   refine Hx ?_; refine Dc 33 rfl rfl (Ls hk3 x (hav.mono e3) _) ?_; rintro _ J4 _ e4 ⟨y4, rfl, hk4, rfl⟩
   have e34 := e3.trans e4
   have hf3 := hf3.mono e4
   have hle := hle.trans e4
   refine Hx ?_; refine Dx 34 rfl rfl rfl rfl ?_; refine Db 35 rfl (A5 rfl) ?_; refine Aw Ac ?_; refine Ar (Ar ?_)
   refine Bk (fun w h => h.f1) (Bw (E' := [(0, .pointer (some ⟨b, 0, none⟩)), (2, .pointer (some y4)), (4, .pointer (some ⟨b4, 0, none⟩))]) ⟨rfl, rfl, rfl, trivial⟩ (ih ⟨bd, .cons x v (.cons fn (.clo fn x s t bd r) r), some y4, (eval (eval m a k).left d k).left, _, oaf3 5, cf3 5⟩ ⟨hle, hf3.as 5 bd.tree Ab rfl, hcok, hk4, ⟨nx, wv, nf, hcl, hrw⟩, fun y hy => ?_, by show (eval (eval m a k).left d k).left < N + 1; omega, by show (eval (eval m a k).left d k).left ≤ 1000000; omega, hR⟩ D1))
   simp only [KE.dom, List.mem_cons]
   rcases hfd y hy with h | h
   ·simp only [List.mem_cons, List.not_mem_nil, or_false] at h
    rcases h with h | h
    ·exact .inr (.inl h)
    ·exact .inl h
   ·exact .inr (.inr h)
  ·skip
   refine Al rfl ?_; refine A8 rfl .free rfl ?_; refine Ca rfl (B8 hr _) ?_; rintro _ _ _ _ ⟨rfl, rfl, rfl⟩; rw [show (Ex.bin o a d).tree.parts.isEmpty = false from rfl]; refine Aa ?_
   first | refine Sf rfl Af ?_ | refine As Ai ?_
   refine Aj (Ah (Se rfl ?_)); refine A8 rfl .free rfl ?_; refine Ca rfl (Bq hr _) ?_; rintro _ _ _ _ ⟨rfl, rfl, rfl⟩; obtain ⟨oa2, c2, oaf, cf, he2, hf⟩ := hr.at'
   simp only [List.cons.injEq, Value.slice.injEq, and_true, true_and] at he2
   obtain ⟨rfl, rfl⟩ := he2; obtain ⟨xa, rfl⟩ : ∃ x, oc = some x := ⟨_, C3 hf.nil (show 0 < 3 by decide)⟩
   have hlen : (Ex.bin o a d).tree.parts.length = 3 := rfl
   have hev : Uq (Ex.bin o a d).tree = [1, 2] := by cases o <;> rfl
   simp only [Ex.ok, Bool.and_eq_true] at hok
   rw [show (Ex.bin o a d).tree.head = o.txt from rfl]; refine Od rfl rfl rfl (Aa ?_)
   first | refine Ft rfl (o.txt_ne.2.2.1) ?_ | refine Fs rfl (o.txt_ne.2.2.1) ?_ | refine As Ai ?_
   refine Aj (Se rfl (Oa rfl (Aa (Ah (Se rfl ?_))))); refine A8 rfl .free rfl ?_; refine Ca rfl (Dp hf.rep _) ?_; rintro _ J0 _ e0 ⟨oq, ck, rfl, hn0, rfl⟩
   have hf := hf.mono e0
   have hk := hk.mono e0
   have ht := ht.mono e0
   have hle := hle.trans e0
   rw [hev] at hn0; rw [hev]; refine On rfl (Om rfl (Aa (Aq ?_))); refine Ec ?_; refine Se rfl (Oc rfl rfl rfl (Aa (Ah ?_))); refine Cj rfl Bp ?_; refine Aj (Ah (Aq (Se rfl ?_)))
   first | refine Ba rfl rfl _ rfl .free rfl ?_ | refine Bb rfl rfl _ rfl .free rfl ?_
   refine Ev rfl .free rfl ?_; refine Oa rfl (Aa (Se rfl (Om rfl (Oh rfl ?_)))); refine A4 rfl .free rfl ?_; refine Om rfl ?_
   first | refine Ba rfl rfl _ rfl .free rfl ?_ | refine Bb rfl rfl _ rfl .free rfl ?_
   refine E1 rfl .free rfl ?_; refine Om rfl ?_; refine En (fun w h => h.f1) ?_; refine Ca rfl (ihn ht m Ab Ab (hf.as 1 a.tree Ab rfl) hok.1 hk hkw (fun y hy => hd y (List.mem_append_left _ hy)) b _) ?_; rintro _ J1 _ e1 ⟨p0, rfl, hp0, rfl⟩
   have hf := hf.mono e1
   have hk := hk.mono e1
   have ht := ht.mono e1
   have hn0 := hn0.mono e1
   have hle := hle.trans e1
   unfold R3
   refine Oa rfl (Aa (Ah (Se rfl (Om rfl ?_)))); refine G3 rfl rfl .free rfl ?_; refine Aa ?_; refine Ay rfl ?_ ?_
   ·intro c5
    try simp only [nb] at c5
    obtain ⟨hv0, rfl⟩ := Kc hp0 c5
    have hRR : eval m a k = R := by
     rw [Gt] at hR
     simpa only [hv0] using hR
    refine Se rfl (Oa rfl (Aa (Ak (.tmp rfl .nil) ?_))); subst hRR
    exact ⟨_, _, hle, Ms (L' := (b, _) :: L), none, rfl, by rw [hv0]; rfl, rfl⟩
   intro c5
   try simp only [nb] at c5
   obtain ⟨u, pu, hv0, rfl, hau⟩ := Kd hp0 (by simpa using c5); obtain ⟨wu, hst0⟩ := K4 hkw hok.1 (fun y hy => hd y (List.mem_append_left _ hy)) hv0; rw [hst0]; refine Aj (Al rfl (Om rfl (Om rfl ?_))); refine Ol rfl rfl ?_; intro b62; refine Ea (B := none) (xs := []) (ys := [.pointer (some pu)]) (m := 0) (c := 0) Bl Ae rfl rfl ⟨rfl, rfl, rfl⟩ (fun _ h => h) Ae (fun a ha => by cases ha; exact Cm (.head _) Ae) Af Ae Ad Ad Ab Ad .free rfl ?_; intro bb sp c2 hB
   simp only [Cn, List.cons_append, List.nil_append, Nat.zero_add]
   refine Oa rfl (Aa (Ar (Al rfl ?_))); refine Or rfl rfl rfl ?_; refine Om rfl (Aa ?_); refine Ce ?_; refine Se rfl (Oc rfl rfl rfl (Aa (Ah ?_))); refine Cj rfl Bp ?_; refine Aj (Ah (Aq (Se rfl ?_)))
   first | refine Ba rfl rfl _ rfl .free rfl ?_ | refine Bb rfl rfl _ rfl .free rfl ?_
   refine Ev rfl .free rfl ?_; refine Oa rfl (Aa (Se rfl (Om rfl (Oh rfl ?_)))); refine A4 rfl .free rfl ?_; refine Om rfl ?_
   first | refine Ba rfl rfl _ rfl .free rfl ?_ | refine Bb rfl rfl _ rfl .free rfl ?_
   refine E1 rfl .free rfl ?_; refine Om rfl ?_
   have hl0 := B9 m a k
   refine En (fun w h => h.f2) ?_; refine Ca rfl (ihn ht (eval m a k).left Ab Ab (hf.as 2 d.tree Ab rfl) hok.2 hk hkw (fun y hy => hd y (List.mem_append_right _ hy)) b _) ?_; rintro _ J2 _ e2 ⟨p1, rfl, hp1, rfl⟩
   have hf := hf.mono e2
   have hk := hk.mono e2
   have ht := ht.mono e2
   have hn0 := hn0.mono e2
   have hle := hle.trans e2
   unfold R3
   refine Oa rfl (Aa (Ah (Se rfl (Om rfl ?_)))); refine G3 rfl rfl .free rfl ?_; refine Aa ?_; refine Ay rfl ?_ ?_
   ·intro c5
    try simp only [nb] at c5
    obtain ⟨hv1, rfl⟩ := Kc hp1 c5
    have hRR : eval (eval m a k).left d k = R := by
     rw [Gt] at hR
     simpa only [hv0, hv1] using hR
    refine Se rfl (Oa rfl (Aa (Ak (.tmp rfl .nil) ?_))); subst hRR
    exact ⟨_, _, hle, Ms (L' := (b, _) :: L), none, rfl, by rw [hv1]; rfl, rfl⟩
   intro c5
   try simp only [nb] at c5
   obtain ⟨v, pv, hv1, rfl, hav⟩ := Kd hp1 (by simpa using c5); obtain ⟨wv, hst1⟩ := K4 hkw hok.2 (fun y hy => hd y (List.mem_append_right _ hy)) hv1; rw [hst1]; refine Aj (Al rfl (Om rfl (Om rfl ?_))); refine Ol rfl rfl ?_; intro b62; refine Ea (B := some (bb, sp)) (xs := [.pointer (some pu)]) (ys := [.pointer (some pv)]) (m := 1) (c := c2) Bl Ae rfl rfl hB (fun _ h => h.f2) Ae (fun a ha => by cases ha; exact Cm (.head _) Ae) Af Ae Ad Ad Ab Ad .free rfl ?_; intro bb2 sp2 c3 hB2
   simp only [Cn, List.cons_append, List.nil_append]
   refine Oa rfl (Aa (Ar (Al rfl ?_))); refine Or rfl rfl rfl ?_; refine Om rfl (Aa ?_); refine Ce ?_; refine Se rfl (Oc rfl rfl rfl (Aa (Ah ?_))); refine Dh rfl Bp ?_; refine Cd rfl ?_; refine Ah ?_; refine Bn ?_; intro hz
   have hq0 := Bi (I := J2) (b := bb2) (xs := [.pointer (some pu), .pointer (some pv)]) (ys := sp2) (T := 56) (fr := (0, 0))
   simp only [List.cons_append, List.nil_append] at hq0
   have hf := hf.mono hz
   have hk := hk.mono hz
   have ht := ht.mono hz
   have hle := hle.trans hz
   have hau := hau.mono (e2.trans hz)
   have hav := hav.mono hz
   have q1 : Still _ ((⟨bb2, 0, none⟩ : Addr).add (1 * 1)) [.pointer (some pv)] := hq0.cellAt 1 rfl
   have q0 : Still _ ((⟨bb2, 0, none⟩ : Addr).add (0 * 1)) [.pointer (some pu)] := hq0.cellAt 0 rfl
   have hl1 := B9 m a k
   have hl2 := B9 (eval m a k).left d k
   rw [Gt] at hR
   simp only [hv0, hv1] at hR
   refine Bk (fun w h => Mem.sub (L' := (b, _) :: (b4, _) :: L) Bz h) ?_; refine Al rfl ?_; refine A8 rfl .free rfl ?_; refine Ca rfl (Bq hf.rep _) ?_; rintro _ _ _ _ ⟨rfl, rfl, rfl⟩; rw [show (Ex.bin o a d).tree.head = o.txt from rfl]; refine Aa (Aq (Se rfl (Od rfl rfl rfl (Oa rfl (Aa ?_)))))
   first | refine Ft rfl (o.txt_ne.1) ?_ | refine Fs rfl (o.txt_ne.1) ?_ | refine As Ai ?_
   refine Se rfl (Od rfl rfl rfl (Oa rfl (Aa ?_)))
   first | refine Ft rfl (o.txt_ne.2.1) ?_ | refine Fs rfl (o.txt_ne.2.1) ?_ | refine As Ai ?_
   refine Se rfl (Od rfl rfl rfl (Oa rfl (Aa ?_)))
   first | refine Ft rfl (fun h => hoc (B5.txt_inj (o' := .call) h)) ?_ | refine Fs rfl (fun h => hoc (B5.txt_inj (o' := .call) h)) ?_ | refine As Ai ?_
   refine Se rfl (Om rfl ?_); refine A8 rfl .free rfl ?_; refine Ca rfl (Bq hf.rep _) ?_; rintro _ _ _ _ ⟨rfl, rfl, rfl⟩; rw [show (Ex.bin o a d).tree.head = o.txt from rfl]; refine Om rfl ?_; refine Ca rfl (Tt ht hoc wu wv hq0 hB2.2.1 hau hav b (eval (eval m a k).left d k).left _) ?_; rintro _ J3 _ e3 ⟨p3, rfl, hp3, rfl⟩; refine Oa rfl (Aa (Ak (.tmp rfl .nil) ?_))
   have hRR : Res.of (o.act u v) (eval (eval m a k).left d k).left = R := by
    rw [← hR]
    cases o <;> first | rfl | exact absurd rfl hoc
   subst hRR
   exact ⟨J3, _, hle.trans e3, fun w h => Mem.sub (L' := R3 b _ _ :: L) Bz h, p3, rfl, hp3, rfl⟩
  ·skip
   refine Al rfl ?_; refine A8 rfl .free rfl ?_; refine Ca rfl (B8 hr _) ?_; rintro _ _ _ _ ⟨rfl, rfl, rfl⟩; rw [show (Ex.ite a d g).tree.parts.isEmpty = false from rfl]; refine Aa ?_
   first | refine Sf rfl Af ?_ | refine As Ai ?_
   refine Aj (Ah (Se rfl ?_)); refine A8 rfl .free rfl ?_; refine Ca rfl (Bq hr _) ?_; rintro _ _ _ _ ⟨rfl, rfl, rfl⟩; obtain ⟨oa2, c2, oaf, cf, he2, hf⟩ := hr.at'
   simp only [List.cons.injEq, Value.slice.injEq, and_true, true_and] at he2
   obtain ⟨rfl, rfl⟩ := he2; obtain ⟨xa, rfl⟩ : ∃ x, oc = some x := ⟨_, C3 hf.nil (show 0 < 4 by decide)⟩
   have hlen : (Ex.ite a d g).tree.parts.length = 4 := rfl
   have hev : Uq (Ex.ite a d g).tree = [1] := rfl
   simp only [Ex.ok, Bool.and_eq_true] at hok
   rw [show (Ex.ite a d g).tree.head = [105, 102] from rfl]; refine Od rfl rfl rfl (Aa ?_)
   first | refine Sf rfl Ad ?_ | refine As Ai ?_
   refine Aj (Se rfl (Oa rfl (Aa (Ah (Se rfl ?_))))); refine A8 rfl .free rfl ?_; refine Ca rfl (Dp hf.rep _) ?_; rintro _ J0 _ e0 ⟨oq, ck, rfl, hn0, rfl⟩
   have hf := hf.mono e0
   have hk := hk.mono e0
   have ht := ht.mono e0
   have hle := hle.trans e0
   rw [hev] at hn0; rw [hev]; refine On rfl (Om rfl (Aa (Aq ?_))); refine Ec ?_; refine Se rfl (Oc rfl rfl rfl (Aa (Ah ?_))); refine Cj rfl Bp ?_; refine Aj (Ah (Aq (Se rfl ?_)))
   first | refine Ba rfl rfl _ rfl .free rfl ?_ | refine Bb rfl rfl _ rfl .free rfl ?_
   refine Ev rfl .free rfl ?_; refine Oa rfl (Aa (Se rfl (Om rfl (Oh rfl ?_)))); refine A4 rfl .free rfl ?_; refine Om rfl ?_
   first | refine Ba rfl rfl _ rfl .free rfl ?_ | refine Bb rfl rfl _ rfl .free rfl ?_
   refine E1 rfl .free rfl ?_; refine Om rfl ?_; refine En (fun w h => h.f1) ?_; refine Ca rfl (ihn ht m Ab Ab (hf.as 1 a.tree Ab rfl) hok.1.1 hk hkw (fun y hy => hd y (List.mem_append_left _ (List.mem_append_left _ hy))) b _) ?_; rintro _ J1 _ e1 ⟨p0, rfl, hp0, rfl⟩
   have hf := hf.mono e1
   have hk := hk.mono e1
   have ht := ht.mono e1
   have hn0 := hn0.mono e1
   have hle := hle.trans e1
   unfold R3
   refine Oa rfl (Aa (Ah (Se rfl (Om rfl ?_)))); refine G3 rfl rfl .free rfl ?_; refine Aa ?_; refine Ay rfl ?_ ?_
   ·intro c5
    try simp only [nb] at c5
    obtain ⟨hv0, rfl⟩ := Kc hp0 c5
    have hRR : eval m a k = R := by
     rw [Ha] at hR
     simpa only [hv0] using hR
    refine Se rfl (Oa rfl (Aa (Ak (.tmp rfl .nil) ?_))); subst hRR
    exact ⟨_, _, hle, Ms (L' := (b, _) :: L), none, rfl, by rw [hv0]; rfl, rfl⟩
   intro c5
   try simp only [nb] at c5
   obtain ⟨u, pu, hv0, rfl, hau⟩ := Kd hp0 (by simpa using c5); obtain ⟨wu, hst0⟩ := K4 hkw hok.1.1 (fun y hy => hd y (List.mem_append_left _ (List.mem_append_left _ hy))) hv0; rw [hst0]; refine Aj (Al rfl (Om rfl (Om rfl ?_))); refine Ol rfl rfl ?_; intro b62; refine Ea (B := none) (xs := []) (ys := [.pointer (some pu)]) (m := 0) (c := 0) Bl Ae rfl rfl ⟨rfl, rfl, rfl⟩ (fun _ h => h) Ae (fun a ha => by cases ha; exact Cm (.head _) Ae) Af Ae Ad Ad Ab Ad .free rfl ?_; intro bb sp c2 hB
   simp only [Cn, List.cons_append, List.nil_append, Nat.zero_add]
   refine Oa rfl (Aa (Ar (Al rfl ?_))); refine Or rfl rfl rfl ?_; refine Om rfl (Aa ?_); refine Ce ?_; refine Se rfl (Oc rfl rfl rfl (Aa (Ah ?_))); refine Dh rfl Bp ?_; refine Cd rfl ?_; refine Ah ?_; refine Bn ?_; intro hz
   have hq0 := Bi (I := J1) (b := bb) (xs := [.pointer (some pu)]) (ys := sp) (T := 56) (fr := (0, 0))
   simp only [List.cons_append, List.nil_append] at hq0
   have hf := hf.mono hz
   have hk := hk.mono hz
   have ht := ht.mono hz
   have hle := hle.trans hz
   have hau := hau.mono hz
   have q0 : Still _ ((⟨bb, 0, none⟩ : Addr).add (0 * 1)) [.pointer (some pu)] := hq0.cellAt 0 rfl
   have hl1 := B9 m a k
   skip
   rw [Ha] at hR
   simp only [hv0] at hR
   refine Bk (fun w h => Mem.sub (L' := (b, _) :: (b4, _) :: L) Bz h) ?_; refine Al rfl ?_; refine A8 rfl .free rfl ?_; refine Ca rfl (Bq hf.rep _) ?_; rintro _ _ _ _ ⟨rfl, rfl, rfl⟩; rw [show (Ex.ite a d g).tree.head = [105, 102] from rfl]; refine Aa (Aq (Se rfl (Od rfl rfl rfl (Oa rfl (Aa ?_)))))
   first | refine St rfl (rfl) ?_ | refine Bo Ai ?_
   refine Se rfl ?_; obtain ⟨x1, x2, x3, su⟩ := hau.cell; refine Om rfl ?_
   first | refine Ba rfl rfl 0 rfl .free rfl ?_ | refine Bb rfl rfl 0 rfl .free rfl ?_
   refine B0 rfl (Bc q0 rfl) .free rfl ?_; refine Az rfl .free rfl ?_
   first | refine Oh rfl ?_ | refine Oj rfl ?_
   refine B0 rfl (Bd su Ae rfl) .free rfl ?_; refine Aa (Aq (Se rfl (Od rfl rfl rfl (Oa rfl (Aa ?_))))); refine Ay rfl ?_ ?_
   ·intro c7
    try simp only [nb] at c7
    refine Se rfl (Om rfl ?_); refine Ca rfl (Es _ b (eval m a k).left _) ?_; rintro _ _ _ _ ⟨rfl, rfl, rfl⟩; refine Oa rfl (Aa (Ak (.tmp rfl .nil) ?_))
    have hRR : (⟨none, (eval m a k).left, true⟩ : Res) = R := by
     cases u with
     | num s => exact absurd c7 (Xj wu)
     | _ => exact hR
    subst hRR
    exact ⟨_, _, hle, Ms (L' := (b, _) :: L), none, rfl, rfl, rfl⟩
   intro c7
   try simp only [nb] at c7
   obtain ⟨s, rfl, hs⟩ := Xi wu c7
   simp only at hR
   have hdb : ∀ y ∈ d.occ [], y ∈ k.dom := fun y hy => hd y (List.mem_append_left _ (List.mem_append_right _ hy))
   have hdc : ∀ y ∈ g.occ [], y ∈ k.dom := fun y hy => hd y (List.mem_append_right _ hy)
   refine Se rfl (Od rfl rfl rfl (Oa rfl (Aa ?_))); refine Ay rfl ?_ ?_
   ·intro c8
    try simp only [nb] at c8
    have hRR : eval (eval m a k).left d k = R := by rw [← hR, if_pos (show s = [48] from c8)]
    refine Al rfl (Oh rfl ?_); refine A4 rfl .free rfl ?_
    first | refine Ba rfl rfl 2 rfl .free rfl ?_ | refine Bb rfl rfl 2 rfl .free rfl ?_
    refine E1 rfl .free rfl ?_; refine Bu rfl rfl rfl rfl .free ?_; refine Aa ?_
    iterate 3 refine Ar ?_
    first
    | exact Bk (fun w h => h.f1) (Bw (E' := [(0, .pointer (some ⟨b, 0, none⟩)), (2, .pointer pk), (4, .pointer (some ⟨b4, 0, none⟩))]) ⟨rfl, rfl, rfl, trivial⟩ (ih ⟨d, k, pk, (eval m a k).left, _, oaf 2, cf 2⟩ ⟨hle, hf.as 2 d.tree Ab rfl, hok.1.2, hk, hkw, hdb, by show (eval m a k).left < N + 1; omega, by show (eval m a k).left ≤ 1000000; omega, hRR⟩ D1))
    | exact Bk (fun w h => h.f1) (Bw (E' := [(0, .pointer (some ⟨b, 0, none⟩)), (2, .pointer pk), (4, .pointer (some ⟨b4, 0, none⟩))]) ⟨rfl, rfl, rfl, trivial⟩ (ih ⟨g, k, pk, (eval m a k).left, _, oaf 3, cf 3⟩ ⟨hle, hf.as 3 g.tree Ab rfl, hok.2, hk, hkw, hdc, by show (eval m a k).left < N + 1; omega, by show (eval m a k).left ≤ 1000000; omega, hRR⟩ D1))
   intro c8
   try simp only [nb] at c8
   have hRR : eval (eval m a k).left g k = R := by rw [← hR, if_neg (show ¬ s = [48] from c8)]
   refine Al rfl (Oh rfl ?_); refine A4 rfl .free rfl ?_
   first | refine Ba rfl rfl 3 rfl .free rfl ?_ | refine Bb rfl rfl 3 rfl .free rfl ?_
   refine E1 rfl .free rfl ?_; refine Bu rfl rfl rfl rfl .free ?_; refine Aa ?_
   iterate 3 refine Ar ?_
   first
   | exact Bk (fun w h => h.f1) (Bw (E' := [(0, .pointer (some ⟨b, 0, none⟩)), (2, .pointer pk), (4, .pointer (some ⟨b4, 0, none⟩))]) ⟨rfl, rfl, rfl, trivial⟩ (ih ⟨d, k, pk, (eval m a k).left, _, oaf 2, cf 2⟩ ⟨hle, hf.as 2 d.tree Ab rfl, hok.1.2, hk, hkw, hdb, by show (eval m a k).left < N + 1; omega, by show (eval m a k).left ≤ 1000000; omega, hRR⟩ D1))
   | exact Bk (fun w h => h.f1) (Bw (E' := [(0, .pointer (some ⟨b, 0, none⟩)), (2, .pointer pk), (4, .pointer (some ⟨b4, 0, none⟩))]) ⟨rfl, rfl, rfl, trivial⟩ (ih ⟨g, k, pk, (eval m a k).left, _, oaf 3, cf 3⟩ ⟨hle, hf.as 3 g.tree Ab rfl, hok.2, hk, hkw, hdc, by show (eval m a k).left < N + 1; omega, by show (eval m a k).left ≤ 1000000; omega, hRR⟩ D1))
  ·skip
   refine Al rfl ?_; refine A8 rfl .free rfl ?_; refine Ca rfl (B8 hr _) ?_; rintro _ _ _ _ ⟨rfl, rfl, rfl⟩; rw [show (Ex.lt z a d).tree.parts.isEmpty = false from rfl]; refine Aa ?_
   first | refine Sf rfl Af ?_ | refine As Ai ?_
   refine Aj (Ah (Se rfl ?_)); refine A8 rfl .free rfl ?_; refine Ca rfl (Bq hr _) ?_; rintro _ _ _ _ ⟨rfl, rfl, rfl⟩; obtain ⟨oa2, c2, oaf, cf, he2, hf⟩ := hr.at'
   simp only [List.cons.injEq, Value.slice.injEq, and_true, true_and] at he2
   obtain ⟨rfl, rfl⟩ := he2; obtain ⟨xa, rfl⟩ : ∃ x, oc = some x := ⟨_, C3 hf.nil (show 0 < 4 by decide)⟩
   have hlen : (Ex.lt z a d).tree.parts.length = 4 := rfl
   have hev : Uq (Ex.lt z a d).tree = [2] := rfl
   simp only [Ex.ok, Bool.and_eq_true] at hok
   rw [show (Ex.lt z a d).tree.head = [108, 101, 116] from rfl]; refine Od rfl rfl rfl (Aa ?_)
   first | refine Sf rfl Ad ?_ | refine As Ai ?_
   refine Aj (Se rfl (Oa rfl (Aa (Ah (Se rfl ?_))))); refine A8 rfl .free rfl ?_; refine Ca rfl (Dp hf.rep _) ?_; rintro _ J0 _ e0 ⟨oq, ck, rfl, hn0, rfl⟩
   have hf := hf.mono e0
   have hk := hk.mono e0
   have ht := ht.mono e0
   have hle := hle.trans e0
   rw [hev] at hn0; rw [hev]; refine On rfl (Om rfl (Aa (Aq ?_))); refine Ec ?_; refine Se rfl (Oc rfl rfl rfl (Aa (Ah ?_))); refine Cj rfl Bp ?_; refine Aj (Ah (Aq (Se rfl ?_)))
   first | refine Ba rfl rfl _ rfl .free rfl ?_ | refine Bb rfl rfl _ rfl .free rfl ?_
   refine Ev rfl .free rfl ?_; refine Oa rfl (Aa (Se rfl (Om rfl (Oh rfl ?_)))); refine A4 rfl .free rfl ?_; refine Om rfl ?_
   first | refine Ba rfl rfl _ rfl .free rfl ?_ | refine Bb rfl rfl _ rfl .free rfl ?_
   refine E1 rfl .free rfl ?_; refine Om rfl ?_; refine En (fun w h => h.f1) ?_; refine Ca rfl (ihn ht m Ab Ab (hf.as 2 a.tree Ab rfl) hok.1.2 hk hkw (fun y hy => hd y (List.mem_append_left _ hy)) b _) ?_; rintro _ J1 _ e1 ⟨p0, rfl, hp0, rfl⟩
   have hf := hf.mono e1
   have hk := hk.mono e1
   have ht := ht.mono e1
   have hn0 := hn0.mono e1
   have hle := hle.trans e1
   unfold R3
   refine Oa rfl (Aa (Ah (Se rfl (Om rfl ?_)))); refine G3 rfl rfl .free rfl ?_; refine Aa ?_; refine Ay rfl ?_ ?_
   ·intro c5
    try simp only [nb] at c5
    obtain ⟨hv0, rfl⟩ := Kc hp0 c5
    have hRR : eval m a k = R := by
     rw [Il] at hR
     simpa only [hv0] using hR
    refine Se rfl (Oa rfl (Aa (Ak (.tmp rfl .nil) ?_))); subst hRR
    exact ⟨_, _, hle, Ms (L' := (b, _) :: L), none, rfl, by rw [hv0]; rfl, rfl⟩
   intro c5
   try simp only [nb] at c5
   obtain ⟨u, pu, hv0, rfl, hau⟩ := Kd hp0 (by simpa using c5); obtain ⟨wu, hst0⟩ := K4 hkw hok.1.2 (fun y hy => hd y (List.mem_append_left _ hy)) hv0; rw [hst0]; refine Aj (Al rfl (Om rfl (Om rfl ?_))); refine Ol rfl rfl ?_; intro b62; refine Ea (B := none) (xs := []) (ys := [.pointer (some pu)]) (m := 0) (c := 0) Bl Ae rfl rfl ⟨rfl, rfl, rfl⟩ (fun _ h => h) Ae (fun a ha => by cases ha; exact Cm (.head _) Ae) Af Ae Ad Ad Ab Ad .free rfl ?_; intro bb sp c2 hB
   simp only [Cn, List.cons_append, List.nil_append, Nat.zero_add]
   refine Oa rfl (Aa (Ar (Al rfl ?_))); refine Or rfl rfl rfl ?_; refine Om rfl (Aa ?_); refine Ce ?_; refine Se rfl (Oc rfl rfl rfl (Aa (Ah ?_))); refine Dh rfl Bp ?_; refine Cd rfl ?_; refine Ah ?_; refine Bn ?_; intro hz
   have hq0 := Bi (I := J1) (b := bb) (xs := [.pointer (some pu)]) (ys := sp) (T := 56) (fr := (0, 0))
   simp only [List.cons_append, List.nil_append] at hq0
   have hf := hf.mono hz
   have hk := hk.mono hz
   have ht := ht.mono hz
   have hle := hle.trans hz
   have hau := hau.mono hz
   have q0 : Still _ ((⟨bb, 0, none⟩ : Addr).add (0 * 1)) [.pointer (some pu)] := hq0.cellAt 0 rfl
   have hl1 := B9 m a k
   skip
   rw [Il] at hR
   simp only [hv0] at hR
   refine Bk (fun w h => Mem.sub (L' := (b, _) :: (b4, _) :: L) Bz h) ?_; refine Al rfl ?_; refine A8 rfl .free rfl ?_; refine Ca rfl (Bq hf.rep _) ?_; rintro _ _ _ _ ⟨rfl, rfl, rfl⟩; rw [show (Ex.lt z a d).tree.head = [108, 101, 116] from rfl]; refine Aa (Aq (Se rfl (Od rfl rfl rfl (Oa rfl (Aa ?_)))))
   first | refine Sf rfl Ad ?_ | refine As Ai ?_
   refine Se rfl (Od rfl rfl rfl (Oa rfl (Aa ?_)))
   first | refine St rfl (rfl) ?_ | refine Bo Ai ?_
   refine D6 16 rfl rfl ?_; refine Da 0 rfl (Ao rfl) ?_; refine Dt 1 [14] rfl (By rfl) ?_
   first | refine Da 2 rfl (Br rfl rfl 3 rfl) ?_ | refine Da 2 rfl (Bs rfl rfl 3 rfl) ?_
   refine Dt 3 [14] rfl (Bx rfl) ?_; refine Da 4 rfl (Am rfl) ?_; refine Da 5 rfl (Ao rfl) ?_; refine Dt 6 [14] rfl (By rfl) ?_
   first | refine Da 7 rfl (Br rfl rfl 1 rfl) ?_ | refine Da 7 rfl (Bs rfl rfl 1 rfl) ?_
   refine Da 8 rfl (Bf rfl) ?_; refine Dt 9 [14] rfl (Ki rfl) ?_; refine Da 10 rfl (Am rfl) ?_
   first | refine Da 11 rfl (Br rfl rfl 0 rfl) ?_ | refine Da 11 rfl (Bs rfl rfl 0 rfl) ?_
   refine Dt 12 [14] rfl (Ey rfl (Bc q0 rfl)) ?_; refine Dc 13 rfl rfl (Ls hk z hau _) ?_; rintro _ J2 _ e2 ⟨y2, rfl, hk2, rfl⟩
   have hf := hf.mono e2
   have hle := hle.trans e2
   refine Hx ?_; refine Dx 14 rfl rfl rfl rfl ?_; refine Db 15 rfl (A5 rfl) ?_; refine Aw Ac ?_; refine Ar (Ar ?_); refine Bk (fun w h => h.f1) (Bw (E' := [(0, .pointer (some ⟨b, 0, none⟩)), (2, .pointer (some y2)), (4, .pointer (some ⟨b4, 0, none⟩))]) ⟨rfl, rfl, rfl, trivial⟩ (ih ⟨d, .cons z u k, some y2, (eval m a k).left, _, oaf 3, cf 3⟩ ⟨hle, hf.as 3 d.tree Ab rfl, hok.2, hk2, ⟨hok.1.1, wu, hkw⟩, fun y hy => ?_, by show (eval m a k).left < N + 1; omega, by show (eval m a k).left ≤ 1000000; omega, hR⟩ D1))
   simp only [KE.dom, List.mem_cons]
   by_cases hyx : y = z
   ·exact .inl hyx
   ·exact .inr (hd y (List.mem_append_right _ (show y ∈ d.occ ([] ++ [z]) from Ex.occ_mem.2 ⟨hy, by simpa using hyx⟩)))
  ·skip
   refine Al rfl ?_; refine A8 rfl .free rfl ?_; refine Ca rfl (B8 hr _) ?_; rintro _ _ _ _ ⟨rfl, rfl, rfl⟩; rw [show (Ex.un o a).tree.parts.isEmpty = false from rfl]; refine Aa ?_
   first | refine Sf rfl Af ?_ | refine As Ai ?_
   refine Aj (Ah (Se rfl ?_)); refine A8 rfl .free rfl ?_; refine Ca rfl (Bq hr _) ?_; rintro _ _ _ _ ⟨rfl, rfl, rfl⟩; obtain ⟨oa2, c2, oaf, cf, he2, hf⟩ := hr.at'
   simp only [List.cons.injEq, Value.slice.injEq, and_true, true_and] at he2
   obtain ⟨rfl, rfl⟩ := he2; obtain ⟨xa, rfl⟩ : ∃ x, oc = some x := ⟨_, C3 hf.nil (show 0 < 2 by decide)⟩
   have hlen : (Ex.un o a).tree.parts.length = 2 := rfl
   have hev : Uq (Ex.un o a).tree = [1] := by cases o <;> rfl
   simp only [Ex.ok, Bool.and_eq_true] at hok
   rw [show (Ex.un o a).tree.head = o.txt from rfl]; refine Od rfl rfl rfl (Aa ?_)
   first | refine Ft rfl (o.txt_ne.2.2.1) ?_ | refine Fs rfl (o.txt_ne.2.2.1) ?_ | refine As Ai ?_
   refine Aj (Se rfl (Oa rfl (Aa (Ah (Se rfl ?_))))); refine A8 rfl .free rfl ?_; refine Ca rfl (Dp hf.rep _) ?_; rintro _ J0 _ e0 ⟨oq, ck, rfl, hn0, rfl⟩
   have hf := hf.mono e0
   have hk := hk.mono e0
   have ht := ht.mono e0
   have hle := hle.trans e0
   rw [hev] at hn0; rw [hev]; refine On rfl (Om rfl (Aa (Aq ?_))); refine Ec ?_; refine Se rfl (Oc rfl rfl rfl (Aa (Ah ?_))); refine Cj rfl Bp ?_; refine Aj (Ah (Aq (Se rfl ?_)))
   first | refine Ba rfl rfl _ rfl .free rfl ?_ | refine Bb rfl rfl _ rfl .free rfl ?_
   refine Ev rfl .free rfl ?_; refine Oa rfl (Aa (Se rfl (Om rfl (Oh rfl ?_)))); refine A4 rfl .free rfl ?_; refine Om rfl ?_
   first | refine Ba rfl rfl _ rfl .free rfl ?_ | refine Bb rfl rfl _ rfl .free rfl ?_
   refine E1 rfl .free rfl ?_; refine Om rfl ?_; refine En (fun w h => h.f1) ?_; refine Ca rfl (ihn ht m Ab Ab (hf.as 1 a.tree Ab rfl) hok hk hkw (fun y hy => hd y hy) b _) ?_; rintro _ J1 _ e1 ⟨p0, rfl, hp0, rfl⟩
   have hf := hf.mono e1
   have hk := hk.mono e1
   have ht := ht.mono e1
   have hn0 := hn0.mono e1
   have hle := hle.trans e1
   unfold R3
   refine Oa rfl (Aa (Ah (Se rfl (Om rfl ?_)))); refine G3 rfl rfl .free rfl ?_; refine Aa ?_; refine Ay rfl ?_ ?_
   ·intro c5
    try simp only [nb] at c5
    obtain ⟨hv0, rfl⟩ := Kc hp0 c5
    have hRR : eval m a k = R := by
     rw [Im] at hR
     simpa only [hv0] using hR
    refine Se rfl (Oa rfl (Aa (Ak (.tmp rfl .nil) ?_))); subst hRR
    exact ⟨_, _, hle, Ms (L' := (b, _) :: L), none, rfl, by rw [hv0]; rfl, rfl⟩
   intro c5
   try simp only [nb] at c5
   obtain ⟨u, pu, hv0, rfl, hau⟩ := Kd hp0 (by simpa using c5); obtain ⟨wu, hst0⟩ := K4 hkw hok (fun y hy => hd y hy) hv0; rw [hst0]; refine Aj (Al rfl (Om rfl (Om rfl ?_))); refine Ol rfl rfl ?_; intro b62; refine Ea (B := none) (xs := []) (ys := [.pointer (some pu)]) (m := 0) (c := 0) Bl Ae rfl rfl ⟨rfl, rfl, rfl⟩ (fun _ h => h) Ae (fun a ha => by cases ha; exact Cm (.head _) Ae) Af Ae Ad Ad Ab Ad .free rfl ?_; intro bb sp c2 hB
   simp only [Cn, List.cons_append, List.nil_append, Nat.zero_add]
   refine Oa rfl (Aa (Ar (Al rfl ?_))); refine Or rfl rfl rfl ?_; refine Om rfl (Aa ?_); refine Ce ?_; refine Se rfl (Oc rfl rfl rfl (Aa (Ah ?_))); refine Dh rfl Bp ?_; refine Cd rfl ?_; refine Ah ?_; refine Bn ?_; intro hz
   have hq0 := Bi (I := J1) (b := bb) (xs := [.pointer (some pu)]) (ys := sp) (T := 56) (fr := (0, 0))
   simp only [List.cons_append, List.nil_append] at hq0
   have hf := hf.mono hz
   have hk := hk.mono hz
   have ht := ht.mono hz
   have hle := hle.trans hz
   have hau := hau.mono hz
   have q0 : Still _ ((⟨bb, 0, none⟩ : Addr).add (0 * 1)) [.pointer (some pu)] := hq0.cellAt 0 rfl
   have hl1 := B9 m a k
   skip
   rw [Im] at hR
   simp only [hv0] at hR
   refine Bk (fun w h => Mem.sub (L' := (b, _) :: (b4, _) :: L) Bz h) ?_; refine Al rfl ?_; refine A8 rfl .free rfl ?_; refine Ca rfl (Bq hf.rep _) ?_; rintro _ _ _ _ ⟨rfl, rfl, rfl⟩; rw [show (Ex.un o a).tree.head = o.txt from rfl]; refine Aa (Aq (Se rfl (Od rfl rfl rfl (Oa rfl (Aa ?_)))))
   first | refine Ft rfl (o.txt_ne.1) ?_ | refine Fs rfl (o.txt_ne.1) ?_ | refine As Ai ?_
   refine Se rfl (Od rfl rfl rfl (Oa rfl (Aa ?_)))
   first | refine Ft rfl (o.txt_ne.2.1) ?_ | refine Fs rfl (o.txt_ne.2.1) ?_ | refine As Ai ?_
   refine Se rfl (Od rfl rfl rfl (Oa rfl (Aa ?_)))
   first | refine Ft rfl (fun h => Mq .call o h.symm) ?_ | refine Fs rfl (fun h => Mq .call o h.symm) ?_ | refine As Ai ?_
   refine Se rfl (Om rfl ?_); refine A8 rfl .free rfl ?_; refine Ca rfl (Bq hf.rep _) ?_; rintro _ _ _ _ ⟨rfl, rfl, rfl⟩; rw [show (Ex.un o a).tree.head = o.txt from rfl]; refine Om rfl ?_; refine Ca rfl (Vd hq0 hau b (eval m a k).left _) ?_; rintro _ J3 _ e3 ⟨p3, rfl, hp3, rfl⟩; refine Oa rfl (Aa (Ak (.tmp rfl .nil) ?_))
   have hRR : Res.of (o.act u) (eval m a k).left = R := hR
   subst hRR
   exact ⟨J3, _, hle.trans e3, fun w h => Mem.sub (L' := R3 b _ _ :: L) Bz h, p3, rfl, hp3, rfl⟩
theorem Np {I : Heap} (ht : Tab I) {e : Ex} {cs : List Value} {k : KE} {pk : Option Addr} (n : Nat) (hm : n ≤ 1000000) (h : Rep I e.tree cs) (hok : e.ok = true) (hk : KEat I k pk) (hkw : k.wf) (hd : ∀ y ∈ e.occ [], y ∈ k.dom) (b : Nat) (L : Bm) :
  Fun Tryz.prog 43 [.pointer (some ⟨b, 0, none⟩), .agg cs.toArray, .pointer pk] I (R3 b n false :: L) (EVP b (eval n e k) L) := Yz _ ht n (Nat.lt_succ_self _) hm h hok hk hkw hd b L
end Go.Proofs.YtmfagaajiakgoaaGreatDoor
