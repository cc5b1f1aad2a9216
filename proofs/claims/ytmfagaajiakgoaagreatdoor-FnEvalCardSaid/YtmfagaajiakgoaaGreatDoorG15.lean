/- Values that are kept, as they lie in memory: the reference's; their prints. No conditions. -/
import Derived.Test.YtmfagaajiakgoaaGreatDoorG14

namespace Go.Proofs.YtmfagaajiakgoaaGreatDoor
set_option maxRecDepth 100000
set_option linter.unusedVariables false
set_option linter.unusedSimpArgs false

mutual
inductive GVat : Heap → KV → List Value → Prop
 | num {I : Heap} {s : Au} : GVat I (.num s) [.string (str [110, 117, 109, 98, 101, 114]), .int .i64 (Dy s), .slice none 0 0, .string (str []), .slice none 0 0, .slice none 0 0, .slice none 0 0]
 | pair {I : Heap} {u v : KV} {q : Addr} {c : Nat} {cu cv : List Value} (hq : Still I q (cu ++ cv)) (hc : 2 ≤ c) (hu : GVat I u cu) (hv : GVat I v cv) :
   GVat I (.pair u v) [.string (str [112, 97, 105, 114]), .int .i64 0, .slice (some q) 2 c, .string (str []), .slice none 0 0, .slice none 0 0, .slice none 0 0]
 | clo {I : Heap} {f x : Au} {s t : Ty} {b : Ex} {r : KE} {o : Option Addr} {c : Nat} {on ov : Option Addr} {cn cv : Nat} (hr : Rep I (Ex.fn f x s t b).tree [.string (str []), .slice o 6 c]) (he : GEat I r on cn ov cv) :
   GVat I (.clo f x s t b r) [.string (str [102, 117, 110]), .int .i64 0, .slice none 0 0, .string (str []), .slice o 6 c, .slice on r.names.length cn, .slice ov r.names.length cv]
inductive GEat : Heap → KE → Option Addr → Nat → Option Addr → Nat → Prop
 | mk {I : Heap} {r : KE} {on ov : Option Addr} {cn cv : Nat} {cs : List Value} (hn : Strs I on r.names cn) (hv : GVs I r cs) (hs : ∀ x, ov = some x → Still I x cs) (h0 : ov = none → r.names = []) (hc : r.names.length ≤ cv) : GEat I r on cn ov cv
inductive GVs : Heap → KE → List Value → Prop
 | nil {I : Heap} : GVs I .nil []
 | cons {I : Heap} {n : Au} {v : KV} {up : KE} {cs ds : List Value} (hu : GVs I up cs) (hv : GVat I v ds) : GVs I (.cons n v up) (cs ++ ds)
end
mutual
theorem GVat.mono {I I' : Heap} (hle : HLe I I') : ∀ {v : KV} {cs : List Value}, GVat I v cs → GVat I' v cs
 | _, _, .num => .num
 | _, _, .pair hq hc hu hv => .pair (hq.mono hle) hc (hu.mono hle) (hv.mono hle)
 | _, _, .clo hr he => .clo (hr.mono hle) (he.mono hle)
theorem GEat.mono {I I' : Heap} (hle : HLe I I') : ∀ {r : KE} {on ov : Option Addr} {cn cv : Nat}, GEat I r on cn ov cv → GEat I' r on cn ov cv
 | _, _, _, _, _, .mk hn hv hs h0 hc => .mk (hn.mono hle) (hv.mono hle) (fun x hx => (hs x hx).mono hle) h0 hc
theorem GVs.mono {I I' : Heap} (hle : HLe I I') : ∀ {r : KE} {cs : List Value}, GVs I r cs → GVs I' r cs
 | _, _, .nil => .nil
 | _, _, .cons hu hv => .cons (hu.mono hle) (hv.mono hle)
end
theorem GVat.open {I : Heap} {v : KV} {cs : List Value} (h : GVat I v cs) : ∃ k n q mq cq o l c on m1 c1 ov m2 c2, cs = [.string (str k), .int .i64 n, .slice q mq cq, .string (str []), .slice o l c, .slice on m1 c1, .slice ov m2 c2] := by
 cases h with
 | num => exact ⟨_, _, _, _, _, _, _, _, _, _, _, _, _, _, rfl⟩
 | pair hq hc hu hv => exact ⟨_, _, _, _, _, _, _, _, _, _, _, _, _, _, rfl⟩
 | clo hr he => exact ⟨_, _, _, _, _, _, _, _, _, _, _, _, _, _, rfl⟩
theorem GVat.len {I : Heap} {v : KV} {cs : List Value} (h : GVat I v cs) : cs.length = 7 := by
 obtain ⟨_, _, _, _, _, _, _, _, _, _, _, _, _, _, rfl⟩ := h.open; rfl
theorem GVat.plain {I : Heap} {v : KV} {cs : List Value} (h : GVat I v cs) : cs.all Cr = true := by
 obtain ⟨_, _, _, _, _, _, _, _, _, _, _, _, _, _, rfl⟩ := h.open; rfl
theorem GVs.len {I : Heap} : ∀ {r : KE} {cs : List Value}, GVs I r cs → cs.length = r.names.length * 7
 | _, _, .nil => rfl
 | _, _, .cons hu hv => by have := hu.len; have := hv.len; simp only [KE.names, List.length_append, List.length_cons, List.length_nil]; omega
theorem GVs.plain {I : Heap} : ∀ {r : KE} {cs : List Value}, GVs I r cs → cs.all Cr = true
 | _, _, .nil => rfl
 | _, _, .cons hu hv => by rw [List.all_append, hu.plain, hv.plain]; rfl
theorem Still.left {I : Heap} {q : Addr} {cu cv : List Value} (h : Still I q (cu ++ cv)) : Still I (q.add (0 * 7)) cu := h.part _ fun i hi => by rw [Nat.zero_mul, Nat.zero_add, List.getElem?_append_left hi, List.getElem?_eq_getElem hi]
theorem Still.right {I : Heap} {q : Addr} {cu cv : List Value} (h : Still I q (cu ++ cv)) (k : Nat) (hk : cu.length = k * 7) : Still I (q.add (k * 7)) cv := h.part _ fun i hi => by
 rw [List.getElem?_append_right (by omega), show k * 7 + i - cu.length = i by omega, List.getElem?_eq_getElem hi]
def S4 : List Value := [.string (str []), .int .i64 0, .slice none 0 0, .string (str []), .slice none 0 0, .slice none 0 0, .slice none 0 0]
def GO (I : Heap) (o : Option KV) (cs : List Value) : Prop := match o with
 | some w => GVat I w cs
 | none => cs = S4
theorem GO.open {I : Heap} {o : Option KV} {cs : List Value} (h : GO I o cs) : ∃ k n q mq cq p l c on m1 c1 ov m2 c2, cs = [.string (str k), .int .i64 n, .slice q mq cq, .string (str []), .slice p l c, .slice on m1 c1, .slice ov m2 c2] := by
 cases o with
 | none => exact ⟨_, _, _, _, _, _, _, _, _, _, _, _, _, _, h⟩
 | some w => exact GVat.open h
theorem Qy {I : Heap} {k : KE} {ov : Option Addr} {cv : Nat} {cs : List Value} (hv : GVs I k cs) (hs : ∀ x, ov = some x → Still I x cs) (h0 : ov = none → k.names = []) (hk : k.names.length ≤ 1000000) {v : KV} {ds : List Value} (hd : GVat I v ds) (n : Au) (L : Bm) :
  Fun Tryz.prog 149 [.slice ov k.names.length cv, .agg ds.toArray] I L (fun w I' L' => ∃ x c, w = .slice (some x) (KE.cons n v k).names.length c ∧ Still I' x (cs ++ ds) ∧ (KE.cons n v k).names.length ≤ c ∧ L = L') := by
 obtain ⟨kk, nn, q, mq, cq, o, l, c, on, m1, c1, ov2, m2, c2, rfl⟩ := hd.open
 have hcl := hv.len
 have hn0 : ov = none → cs = [] := fun h => by have := h0 h; rw [this] at hcl; exact List.eq_nil_of_length_eq_zero (by simpa using hcl)
 have hrd : ∀ (L₀ : Bm) (a : Addr), ov = some a → Gh I L₀ a cs := fun L₀ a ha => (hs a ha).reads
 refine Ap Af ?_; refine Se rfl ?_; refine Cg rfl rfl .free rfl ?_; intro b3; refine Oa rfl (Aa (Ah ?_)); refine D6 7 rfl rfl ?_; refine Da 1 rfl (Am rfl) ?_; refine Dt 3 [7] rfl (C7 rfl) ?_; refine Dj 0 4 Ac ?_ ?_
 ·skip
  refine Acp 0 rfl rfl .free rfl (.inr At) ?_; intro b5; refine Dj 2 4 Ac ?_ ?_
  ·skip
   refine Zj 2 (B := some (b5, [])) (xs := []) (ys := cs) (m := 0) (c := 0) rfl rfl Bl Ae rfl rfl ⟨rfl, Nat.le_refl _, rfl⟩ Kq hcl (hrd _) hn0 hv.plain Ad Ab Ad .free rfl (fun _ => .inr At) ?_; intro B1 k1 hB1; refine Fy 4 rfl Ac rfl rfl rfl Ae Ae Ae Ad Ad Ae .free rfl (.inr At) ?_; intro b9
   refine Dg 5 (B := B1) (xs := [] ++ cs) (ys := [.string (str kk), .int .i64 nn, .slice q mq cq, .string (str []), .slice o l c, .slice on m1 c1, .slice ov2 m2 c2]) (m := 0 + k.names.length) (c := k1) rfl Ac rfl Bl Ae rfl rfl hB1 Kq Ae (fun a ha => by cases ha; exact Cm Hv Ae) Af Ae Ad Ab Ad .free rfl (fun _ => .inr At) ?_; intro B2 k2 hB2; refine Da 6 rfl (A5 rfl) ?_; refine Aw Ac ?_; obtain ⟨b, sp, rfl⟩ : ∃ b sp, B2 = some (b, sp) := by
    cases B2 with
    | none => have := hB2.1; simp at this
    | some p => exact ⟨p.1, p.2, rfl⟩
   refine Bn ?_; intro hz; refine Ak (.tmp rfl .nil) ?_; refine ⟨_, L, hz, Bt, ⟨b, 0, none⟩, k2, ?_, Bi, ?_, rfl⟩
   ·rw [show (KE.cons n v k).names.length = 0 + k.names.length + 1 by simp [KE.names]]; rfl
   ·rw [show (KE.cons n v k).names.length = 0 + k.names.length + 1 by simp [KE.names]]; exact hB2.2.1
  ·skip
   refine M6 4 rfl rfl rfl rfl Ae Ae Ae Ad Ad Ae .free rfl (.inr At) ?_; intro b9; refine Dg 2 (B := some (b5, [])) (xs := []) (ys := cs) (m := 0) (c := 0) rfl Ac rfl Bl Ae rfl rfl ⟨rfl, Nat.le_refl _, rfl⟩ Kq hcl (hrd _) hn0 hv.plain Ad Ab Ad .free rfl (fun _ => .inr At) ?_; intro B1 k1 hB1
   refine Dg 5 (B := B1) (xs := [] ++ cs) (ys := [.string (str kk), .int .i64 nn, .slice q mq cq, .string (str []), .slice o l c, .slice on m1 c1, .slice ov2 m2 c2]) (m := 0 + k.names.length) (c := k1) rfl Ac rfl Bl Ae rfl rfl hB1 Kq Ae (fun a ha => by cases ha; exact Cm Hv Ae) Af Ae Ad Ab Ad .free rfl (fun _ => .inr At) ?_; intro B2 k2 hB2; refine Da 6 rfl (A5 rfl) ?_; refine Aw Ac ?_; obtain ⟨b, sp, rfl⟩ : ∃ b sp, B2 = some (b, sp) := by
    cases B2 with
    | none => have := hB2.1; simp at this
    | some p => exact ⟨p.1, p.2, rfl⟩
   refine Bn ?_; intro hz; refine Ak (.tmp rfl .nil) ?_; refine ⟨_, L, hz, Bt, ⟨b, 0, none⟩, k2, ?_, Bi, ?_, rfl⟩
   ·rw [show (KE.cons n v k).names.length = 0 + k.names.length + 1 by simp [KE.names]]; rfl
   ·rw [show (KE.cons n v k).names.length = 0 + k.names.length + 1 by simp [KE.names]]; exact hB2.2.1
 ·skip
  refine M6 4 rfl rfl rfl rfl Ae Ae Ae Ad Ad Ae .free rfl (.inr At) ?_; intro b9; refine Ik 0 rfl Ac rfl .free rfl (.inr At) ?_; intro b5; refine Dg 2 (B := some (b5, [])) (xs := []) (ys := cs) (m := 0) (c := 0) rfl Ac rfl Bl Ae rfl rfl ⟨rfl, Nat.le_refl _, rfl⟩ Kq hcl (hrd _) hn0 hv.plain Ad Ab Ad .free rfl (fun _ => .inr At) ?_; intro B1 k1 hB1
  refine Dg 5 (B := B1) (xs := [] ++ cs) (ys := [.string (str kk), .int .i64 nn, .slice q mq cq, .string (str []), .slice o l c, .slice on m1 c1, .slice ov2 m2 c2]) (m := 0 + k.names.length) (c := k1) rfl Ac rfl Bl Ae rfl rfl hB1 Kq Ae (fun a ha => by cases ha; exact Cm Hv Ae) Af Ae Ad Ab Ad .free rfl (fun _ => .inr At) ?_; intro B2 k2 hB2; refine Da 6 rfl (A5 rfl) ?_; refine Aw Ac ?_; obtain ⟨b, sp, rfl⟩ : ∃ b sp, B2 = some (b, sp) := by
   cases B2 with
   | none => have := hB2.1; simp at this
   | some p => exact ⟨p.1, p.2, rfl⟩
  refine Bn ?_; intro hz; refine Ak (.tmp rfl .nil) ?_; refine ⟨_, L, hz, Bt, ⟨b, 0, none⟩, k2, ?_, Bi, ?_, rfl⟩
  ·rw [show (KE.cons n v k).names.length = 0 + k.names.length + 1 by simp [KE.names]]; rfl
  ·rw [show (KE.cons n v k).names.length = 0 + k.names.length + 1 by simp [KE.names]]; exact hB2.2.1
theorem Aa0 : ∀ (N : Nat) {I : Heap} {w : KV} {cs : List Value} (_ : SizeOf.sizeOf w < N) (_ : GVat I w cs) (_ : w.wf) (_ : w.show.length ≤ 1000000) (L : Bm), Fun Tryz.prog 56 [.agg cs.toArray] I L (Ef (.string (str w.show)) I L) := by
 intro N
 induction N with
 | zero => intro I w cs h; omega
 | succ N ihn =>
  intro I w cs hlt h hwf hl L
  cases h with
  | num =>
   rename_i s
   have hnv := Jf (show Cc s = true from hwf)
   refine Ap Af ?_; refine Se rfl ?_; refine Cg rfl rfl .free rfl ?_; intro b1; refine Oa rfl (Aa (Ah (Se rfl (Oh rfl ?_)))); refine A4 rfl .free rfl ?_; refine Aa (Aq (Se rfl (Od rfl rfl rfl (Oa rfl (Aa ?_)))))
   first | refine St rfl (rfl) ?_ | refine Bo Ai ?_
   refine Se rfl (Oh rfl ?_); refine A4 rfl .free rfl ?_; refine Ca rfl (Vk (Dy s) Ab Ab _ _) ?_; rintro _ _ _ _ ⟨rfl, rfl, rfl⟩; refine Oa rfl (Aa (Ak (.tmp rfl .nil) ?_)); refine only rfl ?_; rw [Pv (show Cc s = true from hwf)]; rfl
  | @pair u v q c cu cv hq hc hu hv =>
   simp only [KV.pair.sizeOf_spec] at hlt
   simp only [KV.show, List.length_append, List.length_cons, List.length_nil] at hl
   have q0 := hq.left
   have q1 := hq.right 1 hu.len
   obtain ⟨_, _, _, _, _, _, _, _, _, _, _, _, _, _, rfl⟩ := hu.open; obtain ⟨_, _, _, _, _, _, _, _, _, _, _, _, _, _, rfl⟩ := hv.open; refine Ap Af ?_; refine Se rfl ?_; refine Cg rfl rfl .free rfl ?_; intro b1; refine Oa rfl (Aa (Ah (Se rfl (Oh rfl ?_)))); refine A4 rfl .free rfl ?_; refine Aa (Aq (Se rfl (Od rfl rfl rfl (Oa rfl (Aa ?_)))))
   first | refine Sf rfl Ad ?_ | refine As Ai ?_
   refine Se rfl (Od rfl rfl rfl (Oa rfl (Aa ?_)))
   first | refine St rfl (rfl) ?_ | refine Bo Ai ?_
   refine Ah ?_; refine D6 15 rfl rfl ?_; refine Da 0 rfl (Ao rfl) ?_; refine Dt 1 [15] rfl (By rfl) ?_
   first | refine Da 2 rfl (Br rfl rfl 0 rfl) ?_ | refine Da 2 rfl (Bs rfl rfl 0 rfl) ?_
   refine Dt 3 [15] rfl (Ey rfl (Bh q0 Ae)) ?_; refine Da 7 rfl (Ao rfl) ?_; refine Dt 8 [15] rfl (By rfl) ?_
   first | refine Da 9 rfl (Br rfl rfl 1 rfl) ?_ | refine Da 9 rfl (Bs rfl rfl 1 rfl) ?_
   refine Dt 10 [15] rfl (Ey rfl (Bh q1 Ae)) ?_; refine Dc 4 rfl rfl (ihn Ab hu hwf.1 Ab _) ?_; rintro _ _ _ _ ⟨rfl, rfl, rfl⟩; refine Hx ?_; refine Da 5 rfl (Yk rfl rfl) ?_; refine Da 6 rfl (Yk rfl rfl) ?_; refine Dc 11 rfl rfl (ihn Ab hv hwf.2 Ab _) ?_; rintro _ _ _ _ ⟨rfl, rfl, rfl⟩; refine Hx ?_; refine Da 12 rfl (Yk rfl rfl) ?_; refine Da 13 rfl (Yk rfl rfl) ?_; refine Da 14 rfl (A5 rfl) ?_; refine Aw Ac ?_; refine Ak (.tmp rfl .nil) ?_; refine only rfl ?_
   simp only [KV.show]; rfl
  | clo hr he =>
   refine Ap Af ?_; refine Se rfl ?_; refine Cg rfl rfl .free rfl ?_; intro b1; refine Oa rfl (Aa (Ah (Se rfl (Oh rfl ?_)))); refine A4 rfl .free rfl ?_; refine Aa (Aq (Se rfl (Od rfl rfl rfl (Oa rfl (Aa ?_)))))
   first | refine Sf rfl Ad ?_ | refine As Ai ?_
   refine Se rfl (Od rfl rfl rfl (Oa rfl (Aa ?_)))
   first | refine Sf rfl Ad ?_ | refine As Ai ?_
   refine Aj (Ar (Se rfl (Oa rfl (Aa (Ak (.tmp rfl .nil) ?_))))); refine only rfl ?_
   rfl
def LF (w : KV) (left : Int) (L : Bm) : C2 := fun v I' L' => ∃ r : Int, v = .int .i64 r ∧ (left < (w.show.length : Nat) → r < 0) ∧ ((w.show.length : Nat) ≤ left → r = left - (w.show.length : Nat)) ∧ r ≤ left ∧ L = L'
theorem Aay : ∀ (N : Nat) {I : Heap} {w : KV} {cs : List Value} (left : Int) (_ : SizeOf.sizeOf w < N) (_ : GVat I w cs) (_ : w.wf) (_ : -100000 + 8 * (w.high : Nat) ≤ left) (_ : left ≤ 100000) (_ : w.high ≤ 5000) (L : Bm), Fun Tryz.prog 55 [.agg cs.toArray, .int .i64 left] I L (LF w left L) := by
 intro N
 induction N with
 | zero => intro I w cs left h; omega
 | succ N ihn =>
  intro I w cs left hlt h hwf hl0 hl1 hh L
  cases h with
  | num =>
   rename_i s
   have hnv := Jf (show Cc s = true from hwf)
   have hsl := Id (show Cc s = true from hwf)
   refine Ap Af ?_; refine Se rfl ?_; refine Cg rfl rfl .free rfl ?_; intro b2; refine Oa rfl (Aa (Ah (Se rfl (Oh rfl ?_)))); refine A4 rfl .free rfl ?_; refine Aa (Aq (Se rfl (Od rfl rfl rfl (Oa rfl (Aa ?_)))))
   first | refine St rfl (rfl) ?_ | refine Bo Ai ?_
   refine Se rfl (Om rfl (Oh rfl ?_)); refine A4 rfl .free rfl ?_; refine Ca rfl (Vk (Dy s) Ab Ab _ _) ?_; rintro _ _ _ _ ⟨rfl, rfl, rfl⟩; rw [Pv (show Cc s = true from hwf)]; refine C1 rfl .free rfl ?_; refine Or rfl rfl rfl ?_; refine Oa rfl (Aa (Ak (.tmp rfl .nil) ?_))
   exact ⟨I, L, .refl _, Bt, _, rfl, fun h => by simp only [KV.show] at h; omega, fun h => by simp only [KV.show], by omega, rfl⟩
  | @pair u v q c cu cv hq hc hu hv =>
   simp only [KV.pair.sizeOf_spec] at hlt
   simp only [KV.high] at hl0 hh
   have q0 := hq.left
   have q1 := hq.right 1 hu.len
   obtain ⟨_, _, _, _, _, _, _, _, _, _, _, _, _, _, rfl⟩ := hu.open; obtain ⟨_, _, _, _, _, _, _, _, _, _, _, _, _, _, rfl⟩ := hv.open; refine Ap Af ?_; refine Se rfl ?_; refine Cg rfl rfl .free rfl ?_; intro b2; refine Oa rfl (Aa (Ah (Se rfl (Oh rfl ?_)))); refine A4 rfl .free rfl ?_; refine Aa (Aq (Se rfl (Od rfl rfl rfl (Oa rfl (Aa ?_)))))
   first | refine Sf rfl Ad ?_ | refine As Ai ?_
   refine Se rfl (Od rfl rfl rfl (Oa rfl (Aa ?_)))
   first | refine St rfl (rfl) ?_ | refine Bo Ai ?_
   refine Se rfl (Oh rfl ?_); refine A4 rfl .free rfl ?_
   first | refine Ba rfl rfl 0 rfl .free rfl ?_ | refine Bb rfl rfl 0 rfl .free rfl ?_
   refine B0 rfl (Bh q0 Ae) .free rfl ?_; refine Om rfl ?_; refine Or rfl rfl rfl ?_; refine Ca rfl (ihn (left - 8) Ab hu hwf.1 Ab Ab Ab _) ?_; rintro _ J1 _ e1 ⟨r1, rfl, ha, hb, hle1, rfl⟩
   have hv := hv.mono e1
   have q1 := q1.mono e1
   refine Oa rfl (Aa (Ah (Se rfl (Om rfl (Oc rfl rfl rfl (Aa ?_)))))); refine Ay rfl ?_ ?_
   ·intro c2
    try simp only [nb] at c2
    refine Se rfl (Om rfl (Oa rfl (Aa (Ak (.tmp rfl .nil) ?_)))); refine ⟨J1, L, e1, Bt, _, rfl, fun h => by omega, fun h => ?_, by omega, rfl⟩
    simp only [KV.show, List.length_append, List.length_cons, List.length_nil] at h
    have := hb Ab
    omega
   intro c2
   try simp only [nb] at c2
   refine Aj (Se rfl (Oh rfl ?_)); refine A4 rfl .free rfl ?_
   first | refine Ba rfl rfl 1 rfl .free rfl ?_ | refine Bb rfl rfl 1 rfl .free rfl ?_
   refine B0 rfl (Bh q1 Ae) .free rfl ?_; refine Om rfl ?_; refine Ca rfl (ihn r1 Ab hv hwf.2 Ab Ab Ab _) ?_; rintro _ J2 _ e2 ⟨r2, rfl, hc2, hd2, hle2, rfl⟩; refine Oa rfl (Aa (Ak (.tmp rfl .nil) ?_)); refine ⟨J2, L, e1.trans e2, Bt, _, rfl, fun h => ?_, fun h => ?_, by omega, rfl⟩
   ·simp only [KV.show, List.length_append, List.length_cons, List.length_nil] at h
    refine hc2 ?_
    by_cases g : left - 8 < ((u.show.length : Nat) : Int)
    ·have := ha g; omega
    ·have := hb Ab; omega
   ·simp only [KV.show, List.length_append, List.length_cons, List.length_nil] at h ⊢
    have h1 := hb Ab
    have h2 := hd2 Ab
    omega
  | clo hr he =>
   refine Ap Af ?_; refine Se rfl ?_; refine Cg rfl rfl .free rfl ?_; intro b2; refine Oa rfl (Aa (Ah (Se rfl (Oh rfl ?_)))); refine A4 rfl .free rfl ?_; refine Aa (Aq (Se rfl (Od rfl rfl rfl (Oa rfl (Aa ?_)))))
   first | refine Sf rfl Ad ?_ | refine As Ai ?_
   refine Se rfl (Od rfl rfl rfl (Oa rfl (Aa ?_)))
   first | refine Sf rfl Ad ?_ | refine As Ai ?_
   refine Aj (Ar (Se rfl (Om rfl ?_))); refine Or rfl rfl rfl ?_; refine Oa rfl (Aa (Ak (.tmp rfl .nil) ?_))
   exact ⟨I, L, .refl _, Bt, _, rfl, fun h => by simp only [KV.show, List.length_cons, List.length_nil] at h; omega, fun h => by simp only [KV.show, List.length_cons, List.length_nil]; omega, by omega, rfl⟩
def KV.kd : KV → Au
 | .num _ => [110, 117, 109, 98, 101, 114]
 | .pair _ _ => [112, 97, 105, 114]
 | .clo _ _ _ _ _ _ => [102, 117, 110]
def KV.kn : KV → Int
 | .num s => Dy s
 | _ => 0
theorem GVat.openK {I : Heap} {v : KV} {cs : List Value} (h : GVat I v cs) : ∃ q mq cq o l c on m1 c1 ov m2 c2, cs = [.string (str v.kd), .int .i64 v.kn, .slice q mq cq, .string (str []), .slice o l c, .slice on m1 c1, .slice ov m2 c2] := by
 cases h with
 | num => exact ⟨_, _, _, _, _, _, _, _, _, _, _, _, rfl⟩
 | pair hq hc hu hv => exact ⟨_, _, _, _, _, _, _, _, _, _, _, _, rfl⟩
 | clo hr he => exact ⟨_, _, _, _, _, _, _, _, _, _, _, _, rfl⟩
theorem Xc {v : KV} (h : v.kd = [110, 117, 109, 98, 101, 114]) : ∃ s, v = .num s := by
 cases v with
 | num s => exact ⟨s, rfl⟩
 | _ => simp [KV.kd] at h
theorem Acs {v : KV} (h : v.kd = [112, 97, 105, 114]) : ∃ a b, v = .pair a b := by
 cases v with
 | pair a b => exact ⟨a, b, rfl⟩
 | _ => simp [KV.kd] at h
theorem Adz {v : KV} (h : v.kd = [102, 117, 110]) : ∃ f x s t b r, v = .clo f x s t b r := by
 cases v with
 | clo f x s t b r => exact ⟨f, x, s, t, b, r, rfl⟩
 | _ => simp [KV.kd] at h
def H2 (b n : Nat) (st : Bool) : Nat × Obj := (b, .cells [.int .i64 (n : Nat), .bool st].toArray 73 (0, 0))
def Rk (b : Nat) (r : Res) (L : Bm) : C2 := fun v I' L' => ∃ cs, v = .tuple #[.agg (List.toArray cs), .bool r.v.isSome] ∧ GO I' r.v cs ∧ L' = H2 b r.left r.stuck :: L
def EvG (N : Nat) : Prop := ∀ {I : Heap} {e : Ex} {cs : List Value} {k : KE} {on ov : Option Addr} {cn cv : Nat} (n : Nat) (_ : n < N) (_ : Rep I e.tree cs) (_ : e.ok = true) (_ : GEat I k on cn ov cv) (_ : k.wf) (_ : ∀ y ∈ e.occ [], y ∈ k.dom) (_ : k.tall + 2 * n ≤ 100000) (b : Nat) (L : Bm),
 Fun Tryz.prog 54 [.pointer (some ⟨b, 0, none⟩), .agg cs.toArray, .slice on k.names.length cn, .slice ov k.names.length cv] I (H2 b n false :: L) (Rk b (eval n e k) L)

theorem Aa4 {a d : Ex} {u v : KV} {I : Heap} {cs : List Value} (h : Rep I (Ex.bin .pair a d).tree cs) {gu : List Value} (hu : GVat I u gu) {gv : List Value} (hv : GVat I v gv) {q : Addr} {c : Nat} (hq : Still I q (gu ++ gv)) (hc : 2 ≤ c)  {on ov : Option Addr} {lm cn lv cv : Nat} (b n : Nat) (hn : n ≤ 1000000) (L : Bm) :
  Fun Tryz.prog 100 [.pointer (some ⟨b, 0, none⟩), .agg cs.toArray, .slice (some q) 2 c, .slice on lm cn, .slice ov lv cv] I (H2 b n false :: L) (Rk b (Res.of (B5.act .pair u v) n) L) := by
 obtain ⟨oa, cc, oaf, cf, rfl, hf⟩ := h.at'
 have hlen : (Ex.bin .pair a d).tree.parts.length = 3 := rfl
 obtain ⟨xa, rfl⟩ : ∃ xa, oa = some xa := ⟨_, C3 hf.nil (show 0 < 3 by decide)⟩
 have hle : HLe I I := .refl _
 have q0 : Still I (q.add (0 * 7)) gu := hq.left
 have q1 : Still I (q.add (1 * 7)) gv := hq.right 1 hu.len
 obtain ⟨_, _, _, _, _, _, _, _, _, _, _, _, rfl⟩ := hu.openK; obtain ⟨_, _, _, _, _, _, _, _, _, _, _, _, rfl⟩ := hv.openK
 unfold H2
 refine Ap Af ?_; refine Se rfl ?_; refine Cg rfl rfl .free rfl ?_; intro b6; refine A3 .free rfl ?_; intro b10; refine Oa rfl (Aa (Se rfl (Oh rfl ?_))); refine A4 rfl .free rfl ?_
 first | refine Ba rfl rfl 0 rfl .free rfl ?_ | refine Bb rfl rfl 0 rfl .free rfl ?_
 refine Bj rfl .free rfl ?_; refine Gj rfl .free rfl ?_; refine C9 (t := 20) (v' := .string (str [112, 97, 105, 114])) rfl rfl ?_; refine Oa rfl (Aa (Se rfl (Om rfl ?_)))
 first | refine Ba rfl rfl 0 rfl .free rfl ?_ | refine Bb rfl rfl 0 rfl .free rfl ?_
 refine B0 rfl (Bh q0 Ae) .free rfl ?_; refine A3 .free rfl ?_; intro b13; refine Bu rfl rfl rfl rfl .free ?_; refine Aa (Se rfl (Om rfl (Om rfl (On rfl ?_)))); refine Or rfl rfl rfl ?_; refine C9 (t := 27) (v' := .int .i64 ((1 : Nat))) rfl Ae ?_
 first | refine Ba rfl rfl _ rfl .free rfl ?_ | refine Bb rfl rfl _ rfl .free rfl ?_
 refine B0 rfl (Bh q1 Ae) .free rfl ?_; refine A3 .free rfl ?_; intro b14; refine Bu rfl rfl rfl rfl .free ?_; refine Aa (Ah (Aq (Se rfl (Om rfl (Od rfl rfl rfl (Oa rfl (Aa ?_)))))))
 first | refine St rfl (rfl) ?_ | refine Bo Ai ?_
 refine Se rfl ?_; refine A8 rfl .free rfl ?_; refine A8 rfl .free rfl ?_; refine Ol rfl rfl ?_; intro b35; refine B6 rfl rfl rfl .free rfl ?_; refine Bu rfl rfl rfl rfl .free ?_; refine Oa rfl (Aa ?_); refine Bn ?_; intro hz; refine Ak (.c rfl (.tmp rfl .nil)) ?_
 exact ⟨_, _, hz, Ms (L' := (b, _) :: L), _, rfl, .pair (Bi (ys := [])) (Nat.le_refl 2) (hu.mono hz) (hv.mono hz), rfl⟩
theorem Adu {z : Au} {a d : Ex} {u : KV} (hok : (Ex.lt z a d).ok = true) (wu : u.wf) {I : Heap} {cs : List Value} (h : Rep I (Ex.lt z a d).tree cs) {gu : List Value} (hu : GVat I u gu) {q : Addr} {c : Nat} (hq : Still I q (gu))  {N : Nat} (ihn : EvG N) {k : KE} {on ov : Option Addr} {cn cv : Nat} (hk : GEat I k on cn ov cv) (hkw : k.wf) (b n : Nat) (hn : n ≤ 1000000) (hN : n < N) (htl : k.tall + 2 * n ≤ 100000) (hdm : ∀ y ∈ d.occ [], y ∈ (KE.cons z u k).dom) (htl2 : (KE.cons z u k).tall + 2 * n ≤ 100000) (L : Bm) :
  Fun Tryz.prog 100 [.pointer (some ⟨b, 0, none⟩), .agg cs.toArray, .slice (some q) 1 c, .slice on k.names.length cn, .slice ov k.names.length cv] I (H2 b n false :: L) (Rk b (eval n d (.cons z u k)) L) := by
 obtain ⟨oa, cc, oaf, cf, rfl, hf⟩ := h.at'
 have hlen : (Ex.lt z a d).tree.parts.length = 4 := rfl
 obtain ⟨xa, rfl⟩ : ∃ xa, oa = some xa := ⟨_, C3 hf.nil (show 0 < 4 by decide)⟩
 have hle : HLe I I := .refl _
 have q0 : Still I (q.add (0 * 7)) gu := Still.left (cv := []) Jb
 have hu2 := hu
 obtain ⟨_, _, _, _, _, _, _, _, _, _, _, _, rfl⟩ := hu.openK
 have hnt := Lb k
 obtain ⟨hnm, hvs, hst, h0, hcv⟩ := hk
 simp only [Ex.ok, Bool.and_eq_true] at hok
 have hzl : z.length ≤ Be := by have := Fz hok.1.1; unfold Be; omega
 unfold H2
 refine Ap Af ?_; refine Se rfl ?_; refine Cg rfl rfl .free rfl ?_; intro b6; refine A3 .free rfl ?_; intro b10; refine Oa rfl (Aa (Se rfl (Oh rfl ?_))); refine A4 rfl .free rfl ?_
 first | refine Ba rfl rfl 0 rfl .free rfl ?_ | refine Bb rfl rfl 0 rfl .free rfl ?_
 refine Bj rfl .free rfl ?_; refine Gj rfl .free rfl ?_; refine C9 (t := 20) (v' := .string (str [108, 101, 116])) rfl rfl ?_; refine Oa rfl (Aa (Se rfl (Om rfl ?_)))
 first | refine Ba rfl rfl 0 rfl .free rfl ?_ | refine Bb rfl rfl 0 rfl .free rfl ?_
 refine B0 rfl (Bh q0 Ae) .free rfl ?_; refine A3 .free rfl ?_; intro b13; refine Bu rfl rfl rfl rfl .free ?_; refine Aa (Se rfl (Om rfl (Om rfl (On rfl ?_)))); refine Or rfl rfl rfl ?_; refine C9 (t := 27) (v' := .int .i64 ((0 : Nat))) rfl Ae ?_
 first | refine Ba rfl rfl _ rfl .free rfl ?_ | refine Bb rfl rfl _ rfl .free rfl ?_
 refine B0 rfl (Bh q0 Ae) .free rfl ?_; refine A3 .free rfl ?_; intro b14; refine Bu rfl rfl rfl rfl .free ?_; refine Aa (Ah (Aq (Se rfl (Om rfl (Od rfl rfl rfl (Oa rfl (Aa ?_)))))))
 first | refine Sf rfl Ad ?_ | refine As Ai ?_
 refine Se rfl (Om rfl (Od rfl rfl rfl (Oa rfl (Aa ?_))))
 first | refine St rfl (rfl) ?_ | refine Bo Ai ?_
 refine Ah ?_; refine Bk (fun w h => h.f4) ?_; refine Mp 21 rfl rfl ?_; refine Da 0 rfl (Am rfl) ?_; refine Da 1 rfl (Ao rfl) ?_; refine Dt 2 [19] rfl (By rfl) ?_
 first | refine Da 3 rfl (Br rfl rfl 3 rfl) ?_ | refine Da 3 rfl (Bs rfl rfl 3 rfl) ?_
 refine Dt 4 [19] rfl (Bx rfl) ?_; refine Da 5 rfl (Am rfl) ?_; refine Da 6 rfl (Ao rfl) ?_; refine Dt 7 [19] rfl (By rfl) ?_
 first | refine Da 8 rfl (Br rfl rfl 1 rfl) ?_ | refine Da 8 rfl (Bs rfl rfl 1 rfl) ?_
 refine Da 9 rfl (Bf rfl) ?_; refine Dt 10 [19] rfl (Ki rfl) ?_; refine Da 13 rfl (Am rfl) ?_; refine Dt 14 [19] rfl (C7 rfl) ?_; refine Fy 11 rfl Ac rfl rfl rfl Ae Ae Ae Ad Ad Ae .free rfl (.inr At) ?_; intro b51; refine Ed ?_; intro hz
 have hle := hz
 have hf := hf.mono hz
 have hnm := hnm.mono hz
 have hvs := hvs.mono hz
 have hst := fun x hx => (hst x hx).mono hz
 have hu2 := hu2.mono hz
 have hk1 := Hu hz hzl
 refine Dc 12 rfl rfl (Io hnm hk1 G0 _) ?_; rintro _ J2 _ e2 ⟨o3, c3, rfl, hn3, rfl⟩
 have hle := hle.trans e2
 have hf := hf.mono e2
 have hvs := hvs.mono e2
 have hst := fun x hx => (hst x hx).mono e2
 have hu2 := hu2.mono e2
 refine Hx ?_; refine Dc 15 rfl rfl (Qy hvs hst h0 Ab hu2 z _) ?_; rintro _ J3 _ e3 ⟨x4, c4, rfl, hs4, hc4, rfl⟩
 have hle := hle.trans e3
 have hf := hf.mono e3
 have hvs := hvs.mono e3
 have hu2 := hu2.mono e3
 have hn3 := hn3.mono e3
 have hgk : GEat J3 (.cons z u k) o3 c3 (some x4) c4 := .mk hn3 (.cons hvs hu2) (fun x hx => by cases hx; exact hs4) (fun h => by cases h) hc4
 refine Hx ?_; refine Dc 16 rfl rfl (ihn n hN (hf.as 3 d.tree Ab rfl) hok.2 hgk ⟨hok.1.1, wu, hkw⟩ hdm htl2 b _) ?_; rintro _ J4 _ e4 ⟨cs5, rfl, hg5, rfl⟩
 have hle := hle.trans e4
 obtain ⟨_, _, _, _, _, _, _, _, _, _, _, _, _, _, rfl⟩ := hg5.open
 unfold H2
 refine Hx ?_; refine Da 17 rfl (Co rfl rfl) ?_; refine Da 18 rfl (Co rfl rfl) ?_; refine Dx 19 rfl rfl rfl rfl ?_; refine Db 20 rfl (A5 rfl) ?_; refine Aw Ac ?_; refine Ak (.c rfl (.tmp rfl .nil)) ?_
 exact ⟨J4, _, hle, Ms (L' := (b, _) :: L), _, rfl, hg5, rfl⟩
theorem Acl {o : B5} (ho : o.nums = true) {a d : Ex} {u v : KV} (wu : u.wf) (wv : v.wf) {I : Heap} {cs : List Value} (h : Rep I (Ex.bin o a d).tree cs) {gu : List Value} (hu : GVat I u gu) {gv : List Value} (hv : GVat I v gv) {q : Addr} {c : Nat} (hq : Still I q (gu ++ gv)) (hc : 2 ≤ c)  {on ov : Option Addr} {lm cn lv cv : Nat} (b n : Nat) (hn : n ≤ 1000000) (L : Bm) :
  Fun Tryz.prog 100 [.pointer (some ⟨b, 0, none⟩), .agg cs.toArray, .slice (some q) 2 c, .slice on lm cn, .slice ov lv cv] I (H2 b n false :: L) (Rk b (Res.of (o.act u v) n) L) := by
 obtain ⟨oa, cc, oaf, cf, rfl, hf⟩ := h.at'
 have hlen : (Ex.bin o a d).tree.parts.length = 3 := rfl
 obtain ⟨xa, rfl⟩ : ∃ xa, oa = some xa := ⟨_, C3 hf.nil (show 0 < 3 by decide)⟩
 have hle : HLe I I := .refl _
 have q0 : Still I (q.add (0 * 7)) gu := hq.left
 have q1 : Still I (q.add (1 * 7)) gv := hq.right 1 hu.len
 obtain ⟨_, _, _, _, _, _, _, _, _, _, _, _, rfl⟩ := hu.openK; obtain ⟨_, _, _, _, _, _, _, _, _, _, _, _, rfl⟩ := hv.openK
 have h1 : ¬ o.txt = [112, 97, 105, 114] := fun h => by have := B5.txt_inj (o' := .pair) h; subst this; cases ho
 have h2 : ¬ o.txt = [108, 101, 116] := o.txt_ne.2.1
 have h3 : ¬ o.txt = [105, 102] := o.txt_ne.1
 have h4 : ¬ o.txt = [99, 97, 108, 108] := fun h => by have := B5.txt_inj (o' := .call) h; subst this; cases ho
 have h5 : ¬ o.txt = [102, 115, 116] := Mq o .fst
 have h6 : ¬ o.txt = [115, 110, 100] := Mq o .snd
 have hor : (o.txt = [43] ∨ o.txt = [45]) ∨ o.txt = [42] := by cases o <;> first | exact .inl (.inl rfl) | exact .inl (.inr rfl) | exact .inr rfl | cases ho
 unfold H2
 refine Ap Af ?_; refine Se rfl ?_; refine Cg rfl rfl .free rfl ?_; intro b6; refine A3 .free rfl ?_; intro b10; refine Oa rfl (Aa (Se rfl (Oh rfl ?_))); refine A4 rfl .free rfl ?_
 first | refine Ba rfl rfl 0 rfl .free rfl ?_ | refine Bb rfl rfl 0 rfl .free rfl ?_
 refine Bj rfl .free rfl ?_; refine Gj rfl .free rfl ?_; refine C9 (t := 20) (v' := .string (str o.txt)) rfl rfl ?_; refine Oa rfl (Aa (Se rfl (Om rfl ?_)))
 first | refine Ba rfl rfl 0 rfl .free rfl ?_ | refine Bb rfl rfl 0 rfl .free rfl ?_
 refine B0 rfl (Bh q0 Ae) .free rfl ?_; refine A3 .free rfl ?_; intro b13; refine Bu rfl rfl rfl rfl .free ?_; refine Aa (Se rfl (Om rfl (Om rfl (On rfl ?_)))); refine Or rfl rfl rfl ?_; refine C9 (t := 27) (v' := .int .i64 ((1 : Nat))) rfl Ae ?_
 first | refine Ba rfl rfl _ rfl .free rfl ?_ | refine Bb rfl rfl _ rfl .free rfl ?_
 refine B0 rfl (Bh q1 Ae) .free rfl ?_; refine A3 .free rfl ?_; intro b14; refine Bu rfl rfl rfl rfl .free ?_; refine Aa (Ah (Aq (Se rfl (Om rfl (Od rfl rfl rfl (Oa rfl (Aa ?_)))))))
 first | refine Ft rfl (h1) ?_ | refine Fs rfl (h1) ?_ | refine As Ai ?_
 refine Se rfl (Om rfl (Od rfl rfl rfl (Oa rfl (Aa ?_))))
 first | refine Ft rfl (h2) ?_ | refine Fs rfl (h2) ?_ | refine As Ai ?_
 refine Se rfl (Om rfl (Od rfl rfl rfl (Om rfl ?_)))
 apply Cp 62 66 rfl
 ·intro g8_3 hk
  try simp only [nb] at g8_3
  refine A2 rfl (.met rfl rfl) rfl ?_; refine A4 rfl (.met rfl rfl) rfl ?_; refine Ck rfl rfl rfl (.met rfl rfl) rfl ?_; refine Ot rfl rfl ?_
  exact Av 3 rfl rfl hk
 ·intro _ hk; refine A0 3 rfl ?_; refine Of rfl rfl ?_
  exact Av 3 rfl rfl hk
 refine Oa rfl (Aa ?_)
 first | refine Ft rfl (fun h => h3 h.1) ?_ | refine Fs rfl (fun h => h3 h.1) ?_ | refine As Ai ?_
 refine Se rfl (Om rfl (Od rfl rfl rfl (Om rfl ?_)))
 apply Cp 87 91 rfl
 ·intro g10_3 hk
  try simp only [nb] at g10_3
  refine A2 rfl (.met rfl rfl) rfl ?_; refine A4 rfl (.met rfl rfl) rfl ?_; refine Ck rfl rfl rfl (.met rfl rfl) rfl ?_; refine Ot rfl rfl ?_
  exact Av 3 rfl rfl hk
 ·intro _ hk; refine A0 3 rfl ?_; refine Of rfl rfl ?_
  exact Av 3 rfl rfl hk
 refine Oa rfl (Aa ?_)
 first | refine Ft rfl (fun h => h4 h.1) ?_ | refine Fs rfl (fun h => h4 h.1) ?_ | refine As Ai ?_
 refine Se rfl (Om rfl (Od rfl rfl rfl (Om rfl ?_)))
 apply Cp 123 127 rfl
 ·intro g13_3 hk
  try simp only [nb] at g13_3
  refine A2 rfl (.met rfl rfl) rfl ?_; refine A4 rfl (.met rfl rfl) rfl ?_; refine Ck rfl rfl rfl (.met rfl rfl) rfl ?_; refine Ot rfl rfl ?_
  exact Av 3 rfl rfl hk
 ·intro _ hk; refine A0 3 rfl ?_; refine Of rfl rfl ?_
  exact Av 3 rfl rfl hk
 refine Oa rfl (Aa ?_)
 first | refine Ft rfl (fun h => h5 h.1) ?_ | refine Fs rfl (fun h => h5 h.1) ?_ | refine As Ai ?_
 refine Se rfl (Om rfl (Od rfl rfl rfl (Om rfl ?_)))
 apply Cp 135 139 rfl
 ·intro g15_3 hk
  try simp only [nb] at g15_3
  refine A2 rfl (.met rfl rfl) rfl ?_; refine A4 rfl (.met rfl rfl) rfl ?_; refine Ck rfl rfl rfl (.met rfl rfl) rfl ?_; refine Ot rfl rfl ?_
  exact Av 3 rfl rfl hk
 ·intro _ hk; refine A0 3 rfl ?_; refine Of rfl rfl ?_
  exact Av 3 rfl rfl hk
 refine Oa rfl (Aa ?_)
 first | refine Ft rfl (fun h => h6 h.1) ?_ | refine Fs rfl (fun h => h6 h.1) ?_ | refine As Ai ?_
 refine Se rfl (Om rfl (Od rfl rfl rfl (Om rfl ?_)))
 apply F9 147 150 rfl
 ·intro g17_3 hk
  try simp only [nb] at g17_3
  refine Ow rfl ?_; refine Ck rfl rfl rfl (.met rfl rfl) rfl ?_; refine Of rfl rfl ?_
  exact Av 2 rfl rfl hk
 ·intro _ hk; refine A0 2 rfl ?_; refine Ot rfl rfl ?_
  exact Av 2 rfl rfl hk
 refine Om rfl ?_
 apply F9 151 154 rfl
 ·intro g17_7 hk
  try simp only [nb] at g17_7
  refine Ow rfl ?_; refine Ck rfl rfl rfl (.met rfl rfl) rfl ?_; refine Of rfl rfl ?_
  exact Av 2 rfl rfl hk
 ·intro _ hk; refine A0 2 rfl ?_; refine Ot rfl rfl ?_
  exact Av 2 rfl rfl hk
 refine Om rfl ?_
 apply Cp 155 159 rfl
 ·intro g17_11 hk
  try simp only [nb] at g17_11
  refine A2 rfl (.met rfl rfl) rfl ?_; refine A4 rfl (.met rfl rfl) rfl ?_; refine Ck rfl rfl rfl (.met rfl rfl) rfl ?_; refine Ot rfl rfl ?_
  exact Av 3 rfl rfl hk
 ·intro _ hk; refine A0 3 rfl ?_; refine Of rfl rfl ?_
  exact Av 3 rfl rfl hk
 refine Om rfl ?_
 apply Cp 160 164 rfl
 ·intro g17_16 hk
  try simp only [nb] at g17_16
  refine A2 rfl (.met rfl rfl) rfl ?_; refine A4 rfl (.met rfl rfl) rfl ?_; refine Ck rfl rfl rfl (.met rfl rfl) rfl ?_; refine Ot rfl rfl ?_
  exact Av 3 rfl rfl hk
 ·intro _ hk; refine A0 3 rfl ?_; refine Of rfl rfl ?_
  exact Av 3 rfl rfl hk
 refine Oa rfl (Aa ?_); refine Ay rfl ?_ ?_
 ·intro c6
  try simp only [nb] at c6
  obtain ⟨s, rfl⟩ := Xc (v := u) c6.1.2; obtain ⟨r, rfl⟩ := Xc (v := v) c6.2; refine Se rfl (Om rfl (Oh rfl ?_)); refine A4 rfl .free rfl ?_; refine Oh rfl ?_; refine A4 rfl .free rfl ?_; refine Ca rfl (Y9 o (Dy s) (Dy r) (Jf wu) (Jf wv) _ _) ?_; rintro _ _ _ _ ⟨rfl, rfl, rfl⟩; refine B6 rfl rfl rfl .free rfl ?_; refine Bu rfl rfl rfl rfl .free ?_; refine Oa rfl (Aa ?_); refine Ak (.c rfl (.tmp rfl .nil)) ?_
  have hac : o.act (.num s) (.num r) = some (.num (Ky o s r)) := by
   cases o <;> first | rfl | cases ho
  have hg := GVat.num (I := I) (s := Ky o s r)
  rw [(N4 o s r).2] at hg; rw [hac]
  exact ⟨I, _, .refl _, Ms (L' := (b, _) :: L), _, rfl, hg, rfl⟩
 intro c6
 try simp only [nb] at c6
 refine Aj (Ar (Se rfl (Om rfl ?_))); refine Az rfl .free rfl ?_
 first | refine Oh rfl ?_ | refine Oj rfl ?_
 refine Bu rfl rfl rfl rfl .free ?_; refine Aa (Se rfl ?_); refine B6 rfl rfl rfl .free rfl ?_; refine Bu rfl rfl rfl rfl .free ?_; refine Oa rfl (Aa ?_); refine Ak (.c rfl (.tmp rfl .nil)) ?_
 have hac : o.act u v = none := by
  cases u with
  | num s =>
   cases v with
   | num r => exact absurd c6 (by simp [KV.kd]; intro x1 x2; rcases hor with (h | h) | h; exact absurd h x1; exact absurd h x2; exact h)
   | _ => cases o <;> first | rfl | cases ho
  | _ => cases o <;> first | rfl | cases ho
 rw [hac]
 exact ⟨I, _, .refl _, Ms (L' := (b, _) :: L), S4, rfl, rfl, rfl⟩
theorem Vl {a d : Ex} {u v : KV} (hno : ¬ u.kd = [102, 117, 110]) {I : Heap} {cs : List Value} (h : Rep I (Ex.bin .call a d).tree cs) {gu : List Value} (hu : GVat I u gu) {gv : List Value} (hv : GVat I v gv) {q : Addr} {c : Nat} (hq : Still I q (gu ++ gv)) (hc : 2 ≤ c)  {on ov : Option Addr} {lm cn lv cv : Nat} (b n : Nat) (hn : n ≤ 1000000) (L : Bm) :
  Fun Tryz.prog 100 [.pointer (some ⟨b, 0, none⟩), .agg cs.toArray, .slice (some q) 2 c, .slice on lm cn, .slice ov lv cv] I (H2 b n false :: L) (Rk b ⟨none, n, true⟩ L) := by
 obtain ⟨oa, cc, oaf, cf, rfl, hf⟩ := h.at'
 have hlen : (Ex.bin .call a d).tree.parts.length = 3 := rfl
 obtain ⟨xa, rfl⟩ : ∃ xa, oa = some xa := ⟨_, C3 hf.nil (show 0 < 3 by decide)⟩
 have hle : HLe I I := .refl _
 have q0 : Still I (q.add (0 * 7)) gu := hq.left
 have q1 : Still I (q.add (1 * 7)) gv := hq.right 1 hu.len
 obtain ⟨_, _, _, _, _, _, _, _, _, _, _, _, rfl⟩ := hu.openK; obtain ⟨_, _, _, _, _, _, _, _, _, _, _, _, rfl⟩ := hv.openK
 unfold H2
 refine Ap Af ?_; refine Se rfl ?_; refine Cg rfl rfl .free rfl ?_; intro b6; refine A3 .free rfl ?_; intro b10; refine Oa rfl (Aa (Se rfl (Oh rfl ?_))); refine A4 rfl .free rfl ?_
 first | refine Ba rfl rfl 0 rfl .free rfl ?_ | refine Bb rfl rfl 0 rfl .free rfl ?_
 refine Bj rfl .free rfl ?_; refine Gj rfl .free rfl ?_; refine C9 (t := 20) (v' := .string (str [99, 97, 108, 108])) rfl rfl ?_; refine Oa rfl (Aa (Se rfl (Om rfl ?_)))
 first | refine Ba rfl rfl 0 rfl .free rfl ?_ | refine Bb rfl rfl 0 rfl .free rfl ?_
 refine B0 rfl (Bh q0 Ae) .free rfl ?_; refine A3 .free rfl ?_; intro b13; refine Bu rfl rfl rfl rfl .free ?_; refine Aa (Se rfl (Om rfl (Om rfl (On rfl ?_)))); refine Or rfl rfl rfl ?_; refine C9 (t := 27) (v' := .int .i64 ((1 : Nat))) rfl Ae ?_
 first | refine Ba rfl rfl _ rfl .free rfl ?_ | refine Bb rfl rfl _ rfl .free rfl ?_
 refine B0 rfl (Bh q1 Ae) .free rfl ?_; refine A3 .free rfl ?_; intro b14; refine Bu rfl rfl rfl rfl .free ?_; refine Aa (Ah (Aq (Se rfl (Om rfl (Od rfl rfl rfl (Oa rfl (Aa ?_)))))))
 first | refine Sf rfl Ad ?_ | refine As Ai ?_
 refine Se rfl (Om rfl (Od rfl rfl rfl (Oa rfl (Aa ?_))))
 first | refine Sf rfl Ad ?_ | refine As Ai ?_
 refine Se rfl (Om rfl (Od rfl rfl rfl (Om rfl ?_)))
 apply Cp 62 66 rfl
 ·intro g8_3 hk
  try simp only [nb] at g8_3
  refine A2 rfl (.met rfl rfl) rfl ?_; refine A4 rfl (.met rfl rfl) rfl ?_; refine Ck rfl rfl rfl (.met rfl rfl) rfl ?_; refine Ot rfl rfl ?_
  exact Av 3 rfl rfl hk
 ·intro _ hk; refine A0 3 rfl ?_; refine Of rfl rfl ?_
  exact Av 3 rfl rfl hk
 refine Oa rfl (Aa ?_)
 first | refine Ft rfl (fun h => absurd h.1 Ad) ?_ | refine Fs rfl (fun h => absurd h.1 Ad) ?_ | refine As Ai ?_
 refine Se rfl (Om rfl (Od rfl rfl rfl (Om rfl ?_)))
 apply Cp 87 91 rfl
 ·intro g10_3 hk
  try simp only [nb] at g10_3
  refine A2 rfl (.met rfl rfl) rfl ?_; refine A4 rfl (.met rfl rfl) rfl ?_; refine Ck rfl rfl rfl (.met rfl rfl) rfl ?_; refine Ot rfl rfl ?_
  exact Av 3 rfl rfl hk
 ·intro _ hk; refine A0 3 rfl ?_; refine Of rfl rfl ?_
  exact Av 3 rfl rfl hk
 refine Oa rfl (Aa ?_)
 first | refine Ft rfl (fun h => hno h.2) ?_ | refine Fs rfl (fun h => hno h.2) ?_ | refine As Ai ?_
 refine Se rfl (Om rfl (Od rfl rfl rfl (Om rfl ?_)))
 apply Cp 123 127 rfl
 ·intro g13_3 hk
  try simp only [nb] at g13_3
  refine A2 rfl (.met rfl rfl) rfl ?_; refine A4 rfl (.met rfl rfl) rfl ?_; refine Ck rfl rfl rfl (.met rfl rfl) rfl ?_; refine Ot rfl rfl ?_
  exact Av 3 rfl rfl hk
 ·intro _ hk; refine A0 3 rfl ?_; refine Of rfl rfl ?_
  exact Av 3 rfl rfl hk
 refine Oa rfl (Aa ?_)
 first | refine Ft rfl (fun h => absurd h.1 Ad) ?_ | refine Fs rfl (fun h => absurd h.1 Ad) ?_ | refine As Ai ?_
 refine Se rfl (Om rfl (Od rfl rfl rfl (Om rfl ?_)))
 apply Cp 135 139 rfl
 ·intro g15_3 hk
  try simp only [nb] at g15_3
  refine A2 rfl (.met rfl rfl) rfl ?_; refine A4 rfl (.met rfl rfl) rfl ?_; refine Ck rfl rfl rfl (.met rfl rfl) rfl ?_; refine Ot rfl rfl ?_
  exact Av 3 rfl rfl hk
 ·intro _ hk; refine A0 3 rfl ?_; refine Of rfl rfl ?_
  exact Av 3 rfl rfl hk
 refine Oa rfl (Aa ?_)
 first | refine Ft rfl (fun h => absurd h.1 Ad) ?_ | refine Fs rfl (fun h => absurd h.1 Ad) ?_ | refine As Ai ?_
 refine Se rfl (Om rfl (Od rfl rfl rfl (Om rfl ?_)))
 apply F9 147 150 rfl
 ·intro g17_3 hk
  try simp only [nb] at g17_3
  refine Ow rfl ?_; refine Ck rfl rfl rfl (.met rfl rfl) rfl ?_; refine Of rfl rfl ?_
  exact Av 2 rfl rfl hk
 ·intro _ hk; refine A0 2 rfl ?_; refine Ot rfl rfl ?_
  exact Av 2 rfl rfl hk
 refine Om rfl ?_
 apply F9 151 154 rfl
 ·intro g17_7 hk
  try simp only [nb] at g17_7
  refine Ow rfl ?_; refine Ck rfl rfl rfl (.met rfl rfl) rfl ?_; refine Of rfl rfl ?_
  exact Av 2 rfl rfl hk
 ·intro _ hk; refine A0 2 rfl ?_; refine Ot rfl rfl ?_
  exact Av 2 rfl rfl hk
 refine Om rfl ?_
 apply Cp 155 159 rfl
 ·intro g17_11 hk
  try simp only [nb] at g17_11
  refine A2 rfl (.met rfl rfl) rfl ?_; refine A4 rfl (.met rfl rfl) rfl ?_; refine Ck rfl rfl rfl (.met rfl rfl) rfl ?_; refine Ot rfl rfl ?_
  exact Av 3 rfl rfl hk
 ·intro _ hk; refine A0 3 rfl ?_; refine Of rfl rfl ?_
  exact Av 3 rfl rfl hk
 refine Om rfl ?_
 apply Cp 160 164 rfl
 ·intro g17_16 hk
  try simp only [nb] at g17_16
  refine A2 rfl (.met rfl rfl) rfl ?_; refine A4 rfl (.met rfl rfl) rfl ?_; refine Ck rfl rfl rfl (.met rfl rfl) rfl ?_; refine Ot rfl rfl ?_
  exact Av 3 rfl rfl hk
 ·intro _ hk; refine A0 3 rfl ?_; refine Of rfl rfl ?_
  exact Av 3 rfl rfl hk
 refine Oa rfl (Aa ?_)
 first | refine Ft rfl (fun h => absurd h.1.1 Ad) ?_ | refine Fs rfl (fun h => absurd h.1.1 Ad) ?_ | refine As Ai ?_
 refine Aj (Ar (Se rfl (Om rfl ?_))); refine Az rfl .free rfl ?_
 first | refine Oh rfl ?_ | refine Oj rfl ?_
 refine Bu rfl rfl rfl rfl .free ?_; refine Aa (Se rfl ?_); refine B6 rfl rfl rfl .free rfl ?_; refine Bu rfl rfl rfl rfl .free ?_; refine Oa rfl (Aa ?_); refine Ak (.c rfl (.tmp rfl .nil)) ?_
 exact ⟨I, _, .refl _, Ms (L' := (b, _) :: L), S4, rfl, rfl, rfl⟩
theorem W9 {a d e : Ex} {u : KV} (hno : ¬ u.kd = [110, 117, 109, 98, 101, 114]) {I : Heap} {cs : List Value} (h : Rep I (Ex.ite a d e).tree cs) {gu : List Value} (hu : GVat I u gu) {q : Addr} {c : Nat} (hq : Still I q (gu))  {on ov : Option Addr} {lm cn lv cv : Nat} (b n : Nat) (hn : n ≤ 1000000) (L : Bm) :
  Fun Tryz.prog 100 [.pointer (some ⟨b, 0, none⟩), .agg cs.toArray, .slice (some q) 1 c, .slice on lm cn, .slice ov lv cv] I (H2 b n false :: L) (Rk b ⟨none, n, true⟩ L) := by
 obtain ⟨oa, cc, oaf, cf, rfl, hf⟩ := h.at'
 have hlen : (Ex.ite a d e).tree.parts.length = 4 := rfl
 obtain ⟨xa, rfl⟩ : ∃ xa, oa = some xa := ⟨_, C3 hf.nil (show 0 < 4 by decide)⟩
 have hle : HLe I I := .refl _
 have q0 : Still I (q.add (0 * 7)) gu := Still.left (cv := []) Jb
 obtain ⟨_, _, _, _, _, _, _, _, _, _, _, _, rfl⟩ := hu.openK
 unfold H2
 refine Ap Af ?_; refine Se rfl ?_; refine Cg rfl rfl .free rfl ?_; intro b6; refine A3 .free rfl ?_; intro b10; refine Oa rfl (Aa (Se rfl (Oh rfl ?_))); refine A4 rfl .free rfl ?_
 first | refine Ba rfl rfl 0 rfl .free rfl ?_ | refine Bb rfl rfl 0 rfl .free rfl ?_
 refine Bj rfl .free rfl ?_; refine Gj rfl .free rfl ?_; refine C9 (t := 20) (v' := .string (str [105, 102])) rfl rfl ?_; refine Oa rfl (Aa (Se rfl (Om rfl ?_)))
 first | refine Ba rfl rfl 0 rfl .free rfl ?_ | refine Bb rfl rfl 0 rfl .free rfl ?_
 refine B0 rfl (Bh q0 Ae) .free rfl ?_; refine A3 .free rfl ?_; intro b13; refine Bu rfl rfl rfl rfl .free ?_; refine Aa (Se rfl (Om rfl (Om rfl (On rfl ?_)))); refine Or rfl rfl rfl ?_; refine C9 (t := 27) (v' := .int .i64 ((0 : Nat))) rfl Ae ?_
 first | refine Ba rfl rfl _ rfl .free rfl ?_ | refine Bb rfl rfl _ rfl .free rfl ?_
 refine B0 rfl (Bh q0 Ae) .free rfl ?_; refine A3 .free rfl ?_; intro b14; refine Bu rfl rfl rfl rfl .free ?_; refine Aa (Ah (Aq (Se rfl (Om rfl (Od rfl rfl rfl (Oa rfl (Aa ?_)))))))
 first | refine Sf rfl Ad ?_ | refine As Ai ?_
 refine Se rfl (Om rfl (Od rfl rfl rfl (Oa rfl (Aa ?_))))
 first | refine Sf rfl Ad ?_ | refine As Ai ?_
 refine Se rfl (Om rfl (Od rfl rfl rfl (Om rfl ?_)))
 apply Cp 62 66 rfl
 ·intro g8_3 hk
  try simp only [nb] at g8_3
  refine A2 rfl (.met rfl rfl) rfl ?_; refine A4 rfl (.met rfl rfl) rfl ?_; refine Ck rfl rfl rfl (.met rfl rfl) rfl ?_; refine Ot rfl rfl ?_
  exact Av 3 rfl rfl hk
 ·intro _ hk; refine A0 3 rfl ?_; refine Of rfl rfl ?_
  exact Av 3 rfl rfl hk
 refine Oa rfl (Aa ?_)
 first | refine Ft rfl (fun h => hno h.2) ?_ | refine Fs rfl (fun h => hno h.2) ?_ | refine As Ai ?_
 refine Se rfl (Om rfl (Od rfl rfl rfl (Om rfl ?_)))
 apply Cp 87 91 rfl
 ·intro g10_3 hk
  try simp only [nb] at g10_3
  refine A2 rfl (.met rfl rfl) rfl ?_; refine A4 rfl (.met rfl rfl) rfl ?_; refine Ck rfl rfl rfl (.met rfl rfl) rfl ?_; refine Ot rfl rfl ?_
  exact Av 3 rfl rfl hk
 ·intro _ hk; refine A0 3 rfl ?_; refine Of rfl rfl ?_
  exact Av 3 rfl rfl hk
 refine Oa rfl (Aa ?_)
 first | refine Ft rfl (fun h => absurd h.1 Ad) ?_ | refine Fs rfl (fun h => absurd h.1 Ad) ?_ | refine As Ai ?_
 refine Se rfl (Om rfl (Od rfl rfl rfl (Om rfl ?_)))
 apply Cp 123 127 rfl
 ·intro g13_3 hk
  try simp only [nb] at g13_3
  refine A2 rfl (.met rfl rfl) rfl ?_; refine A4 rfl (.met rfl rfl) rfl ?_; refine Ck rfl rfl rfl (.met rfl rfl) rfl ?_; refine Ot rfl rfl ?_
  exact Av 3 rfl rfl hk
 ·intro _ hk; refine A0 3 rfl ?_; refine Of rfl rfl ?_
  exact Av 3 rfl rfl hk
 refine Oa rfl (Aa ?_)
 first | refine Ft rfl (fun h => absurd h.1 Ad) ?_ | refine Fs rfl (fun h => absurd h.1 Ad) ?_ | refine As Ai ?_
 refine Se rfl (Om rfl (Od rfl rfl rfl (Om rfl ?_)))
 apply Cp 135 139 rfl
 ·intro g15_3 hk
  try simp only [nb] at g15_3
  refine A2 rfl (.met rfl rfl) rfl ?_; refine A4 rfl (.met rfl rfl) rfl ?_; refine Ck rfl rfl rfl (.met rfl rfl) rfl ?_; refine Ot rfl rfl ?_
  exact Av 3 rfl rfl hk
 ·intro _ hk; refine A0 3 rfl ?_; refine Of rfl rfl ?_
  exact Av 3 rfl rfl hk
 refine Oa rfl (Aa ?_)
 first | refine Ft rfl (fun h => absurd h.1 Ad) ?_ | refine Fs rfl (fun h => absurd h.1 Ad) ?_ | refine As Ai ?_
 refine Se rfl (Om rfl (Od rfl rfl rfl (Om rfl ?_)))
 apply F9 147 150 rfl
 ·intro g17_3 hk
  try simp only [nb] at g17_3
  refine Ow rfl ?_; refine Ck rfl rfl rfl (.met rfl rfl) rfl ?_; refine Of rfl rfl ?_
  exact Av 2 rfl rfl hk
 ·intro _ hk; refine A0 2 rfl ?_; refine Ot rfl rfl ?_
  exact Av 2 rfl rfl hk
 refine Om rfl ?_
 apply F9 151 154 rfl
 ·intro g17_7 hk
  try simp only [nb] at g17_7
  refine Ow rfl ?_; refine Ck rfl rfl rfl (.met rfl rfl) rfl ?_; refine Of rfl rfl ?_
  exact Av 2 rfl rfl hk
 ·intro _ hk; refine A0 2 rfl ?_; refine Ot rfl rfl ?_
  exact Av 2 rfl rfl hk
 refine Om rfl ?_
 apply Cp 155 159 rfl
 ·intro g17_11 hk
  try simp only [nb] at g17_11
  refine A2 rfl (.met rfl rfl) rfl ?_; refine A4 rfl (.met rfl rfl) rfl ?_; refine Ck rfl rfl rfl (.met rfl rfl) rfl ?_; refine Ot rfl rfl ?_
  exact Av 3 rfl rfl hk
 ·intro _ hk; refine A0 3 rfl ?_; refine Of rfl rfl ?_
  exact Av 3 rfl rfl hk
 refine Om rfl ?_
 apply Cp 160 164 rfl
 ·intro g17_16 hk
  try simp only [nb] at g17_16
  refine A2 rfl (.met rfl rfl) rfl ?_; refine A4 rfl (.met rfl rfl) rfl ?_; refine Ck rfl rfl rfl (.met rfl rfl) rfl ?_; refine Ot rfl rfl ?_
  exact Av 3 rfl rfl hk
 ·intro _ hk; refine A0 3 rfl ?_; refine Of rfl rfl ?_
  exact Av 3 rfl rfl hk
 refine Oa rfl (Aa ?_)
 first | refine Ft rfl (fun h => absurd h.1.1 Ad) ?_ | refine Fs rfl (fun h => absurd h.1.1 Ad) ?_ | refine As Ai ?_
 refine Aj (Ar (Se rfl (Om rfl ?_))); refine Az rfl .free rfl ?_
 first | refine Oh rfl ?_ | refine Oj rfl ?_
 refine Bu rfl rfl rfl rfl .free ?_; refine Aa (Se rfl ?_); refine B6 rfl rfl rfl .free rfl ?_; refine Bu rfl rfl rfl rfl .free ?_; refine Oa rfl (Aa ?_); refine Ak (.c rfl (.tmp rfl .nil)) ?_
 exact ⟨I, _, .refl _, Ms (L' := (b, _) :: L), S4, rfl, rfl, rfl⟩
theorem Zc {o : U2} {a : Ex} {u : KV} (hno : ¬ u.kd = [112, 97, 105, 114]) {I : Heap} {cs : List Value} (h : Rep I (Ex.un o a).tree cs) {gu : List Value} (hu : GVat I u gu) {q : Addr} {c : Nat} (hq : Still I q (gu))  {on ov : Option Addr} {lm cn lv cv : Nat} (b n : Nat) (hn : n ≤ 1000000) (L : Bm) :
  Fun Tryz.prog 100 [.pointer (some ⟨b, 0, none⟩), .agg cs.toArray, .slice (some q) 1 c, .slice on lm cn, .slice ov lv cv] I (H2 b n false :: L) (Rk b ⟨none, n, true⟩ L) := by
 obtain ⟨oa, cc, oaf, cf, rfl, hf⟩ := h.at'
 have hlen : (Ex.un o a).tree.parts.length = 2 := rfl
 obtain ⟨xa, rfl⟩ : ∃ xa, oa = some xa := ⟨_, C3 hf.nil (show 0 < 2 by decide)⟩
 have hle : HLe I I := .refl _
 have q0 : Still I (q.add (0 * 7)) gu := Still.left (cv := []) Jb
 obtain ⟨_, _, _, _, _, _, _, _, _, _, _, _, rfl⟩ := hu.openK
 have h1 : ¬ o.txt = [112, 97, 105, 114] := fun h => Mq .pair o h.symm
 have h2 : ¬ o.txt = [108, 101, 116] := o.txt_ne.2.1
 have h3 : ¬ o.txt = [105, 102] := o.txt_ne.1
 have h4 : ¬ o.txt = [99, 97, 108, 108] := fun h => Mq .call o h.symm
 have hor : ¬ ((o.txt = [43] ∨ o.txt = [45]) ∨ o.txt = [42]) := by cases o <;> decide
 unfold H2
 refine Ap Af ?_; refine Se rfl ?_; refine Cg rfl rfl .free rfl ?_; intro b6; refine A3 .free rfl ?_; intro b10; refine Oa rfl (Aa (Se rfl (Oh rfl ?_))); refine A4 rfl .free rfl ?_
 first | refine Ba rfl rfl 0 rfl .free rfl ?_ | refine Bb rfl rfl 0 rfl .free rfl ?_
 refine Bj rfl .free rfl ?_; refine Gj rfl .free rfl ?_; refine C9 (t := 20) (v' := .string (str o.txt)) rfl rfl ?_; refine Oa rfl (Aa (Se rfl (Om rfl ?_)))
 first | refine Ba rfl rfl 0 rfl .free rfl ?_ | refine Bb rfl rfl 0 rfl .free rfl ?_
 refine B0 rfl (Bh q0 Ae) .free rfl ?_; refine A3 .free rfl ?_; intro b13; refine Bu rfl rfl rfl rfl .free ?_; refine Aa (Se rfl (Om rfl (Om rfl (On rfl ?_)))); refine Or rfl rfl rfl ?_; refine C9 (t := 27) (v' := .int .i64 ((0 : Nat))) rfl Ae ?_
 first | refine Ba rfl rfl _ rfl .free rfl ?_ | refine Bb rfl rfl _ rfl .free rfl ?_
 refine B0 rfl (Bh q0 Ae) .free rfl ?_; refine A3 .free rfl ?_; intro b14; refine Bu rfl rfl rfl rfl .free ?_; refine Aa (Ah (Aq (Se rfl (Om rfl (Od rfl rfl rfl (Oa rfl (Aa ?_)))))))
 first | refine Ft rfl (h1) ?_ | refine Fs rfl (h1) ?_ | refine As Ai ?_
 refine Se rfl (Om rfl (Od rfl rfl rfl (Oa rfl (Aa ?_))))
 first | refine Ft rfl (h2) ?_ | refine Fs rfl (h2) ?_ | refine As Ai ?_
 refine Se rfl (Om rfl (Od rfl rfl rfl (Om rfl ?_)))
 apply Cp 62 66 rfl
 ·intro g8_3 hk
  try simp only [nb] at g8_3
  refine A2 rfl (.met rfl rfl) rfl ?_; refine A4 rfl (.met rfl rfl) rfl ?_; refine Ck rfl rfl rfl (.met rfl rfl) rfl ?_; refine Ot rfl rfl ?_
  exact Av 3 rfl rfl hk
 ·intro _ hk; refine A0 3 rfl ?_; refine Of rfl rfl ?_
  exact Av 3 rfl rfl hk
 refine Oa rfl (Aa ?_)
 first | refine Ft rfl (fun h => h3 h.1) ?_ | refine Fs rfl (fun h => h3 h.1) ?_ | refine As Ai ?_
 refine Se rfl (Om rfl (Od rfl rfl rfl (Om rfl ?_)))
 apply Cp 87 91 rfl
 ·intro g10_3 hk
  try simp only [nb] at g10_3
  refine A2 rfl (.met rfl rfl) rfl ?_; refine A4 rfl (.met rfl rfl) rfl ?_; refine Ck rfl rfl rfl (.met rfl rfl) rfl ?_; refine Ot rfl rfl ?_
  exact Av 3 rfl rfl hk
 ·intro _ hk; refine A0 3 rfl ?_; refine Of rfl rfl ?_
  exact Av 3 rfl rfl hk
 refine Oa rfl (Aa ?_)
 first | refine Ft rfl (fun h => h4 h.1) ?_ | refine Fs rfl (fun h => h4 h.1) ?_ | refine As Ai ?_
 refine Se rfl (Om rfl (Od rfl rfl rfl (Om rfl ?_)))
 apply Cp 123 127 rfl
 ·intro g13_3 hk
  try simp only [nb] at g13_3
  refine A2 rfl (.met rfl rfl) rfl ?_; refine A4 rfl (.met rfl rfl) rfl ?_; refine Ck rfl rfl rfl (.met rfl rfl) rfl ?_; refine Ot rfl rfl ?_
  exact Av 3 rfl rfl hk
 ·intro _ hk; refine A0 3 rfl ?_; refine Of rfl rfl ?_
  exact Av 3 rfl rfl hk
 refine Oa rfl (Aa ?_)
 first | refine Ft rfl (fun h => hno h.2) ?_ | refine Fs rfl (fun h => hno h.2) ?_ | refine As Ai ?_
 refine Se rfl (Om rfl (Od rfl rfl rfl (Om rfl ?_)))
 apply Cp 135 139 rfl
 ·intro g15_3 hk
  try simp only [nb] at g15_3
  refine A2 rfl (.met rfl rfl) rfl ?_; refine A4 rfl (.met rfl rfl) rfl ?_; refine Ck rfl rfl rfl (.met rfl rfl) rfl ?_; refine Ot rfl rfl ?_
  exact Av 3 rfl rfl hk
 ·intro _ hk; refine A0 3 rfl ?_; refine Of rfl rfl ?_
  exact Av 3 rfl rfl hk
 refine Oa rfl (Aa ?_)
 first | refine Ft rfl (fun h => hno h.2) ?_ | refine Fs rfl (fun h => hno h.2) ?_ | refine As Ai ?_
 refine Se rfl (Om rfl (Od rfl rfl rfl (Om rfl ?_)))
 apply F9 147 150 rfl
 ·intro g17_3 hk
  try simp only [nb] at g17_3
  refine Ow rfl ?_; refine Ck rfl rfl rfl (.met rfl rfl) rfl ?_; refine Of rfl rfl ?_
  exact Av 2 rfl rfl hk
 ·intro _ hk; refine A0 2 rfl ?_; refine Ot rfl rfl ?_
  exact Av 2 rfl rfl hk
 refine Om rfl ?_
 apply F9 151 154 rfl
 ·intro g17_7 hk
  try simp only [nb] at g17_7
  refine Ow rfl ?_; refine Ck rfl rfl rfl (.met rfl rfl) rfl ?_; refine Of rfl rfl ?_
  exact Av 2 rfl rfl hk
 ·intro _ hk; refine A0 2 rfl ?_; refine Ot rfl rfl ?_
  exact Av 2 rfl rfl hk
 refine Om rfl ?_
 apply Cp 155 159 rfl
 ·intro g17_11 hk
  try simp only [nb] at g17_11
  refine A2 rfl (.met rfl rfl) rfl ?_; refine A4 rfl (.met rfl rfl) rfl ?_; refine Ck rfl rfl rfl (.met rfl rfl) rfl ?_; refine Ot rfl rfl ?_
  exact Av 3 rfl rfl hk
 ·intro _ hk; refine A0 3 rfl ?_; refine Of rfl rfl ?_
  exact Av 3 rfl rfl hk
 refine Om rfl ?_
 apply Cp 160 164 rfl
 ·intro g17_16 hk
  try simp only [nb] at g17_16
  refine A2 rfl (.met rfl rfl) rfl ?_; refine A4 rfl (.met rfl rfl) rfl ?_; refine Ck rfl rfl rfl (.met rfl rfl) rfl ?_; refine Ot rfl rfl ?_
  exact Av 3 rfl rfl hk
 ·intro _ hk; refine A0 3 rfl ?_; refine Of rfl rfl ?_
  exact Av 3 rfl rfl hk
 refine Oa rfl (Aa ?_)
 first | refine Ft rfl (fun h => hor h.1.1) ?_ | refine Fs rfl (fun h => hor h.1.1) ?_ | refine As Ai ?_
 refine Aj (Ar (Se rfl (Om rfl ?_))); refine Az rfl .free rfl ?_
 first | refine Oh rfl ?_ | refine Oj rfl ?_
 refine Bu rfl rfl rfl rfl .free ?_; refine Aa (Se rfl ?_); refine B6 rfl rfl rfl .free rfl ?_; refine Bu rfl rfl rfl rfl .free ?_; refine Oa rfl (Aa ?_); refine Ak (.c rfl (.tmp rfl .nil)) ?_
 exact ⟨I, _, .refl _, Ms (L' := (b, _) :: L), S4, rfl, rfl, rfl⟩
theorem Acj {a : Ex} {k1 k2 : KV} {I : Heap} {cs : List Value} (h : Rep I (Ex.un .fst a).tree cs) {gu : List Value} (hu : GVat I (KV.pair k1 k2) gu) {q : Addr} {c : Nat} (hq : Still I q (gu))  {on ov : Option Addr} {lm cn lv cv : Nat} (b n : Nat) (hn : n ≤ 1000000) (L : Bm) :
  Fun Tryz.prog 100 [.pointer (some ⟨b, 0, none⟩), .agg cs.toArray, .slice (some q) 1 c, .slice on lm cn, .slice ov lv cv] I (H2 b n false :: L) (Rk b ⟨some k1, n, false⟩ L) := by
 obtain ⟨oa, cc, oaf, cf, rfl, hf⟩ := h.at'
 have hlen : (Ex.un .fst a).tree.parts.length = 2 := rfl
 obtain ⟨xa, rfl⟩ : ∃ xa, oa = some xa := ⟨_, C3 hf.nil (show 0 < 2 by decide)⟩
 have hle : HLe I I := .refl _
 have q0 : Still I (q.add (0 * 7)) gu := Still.left (cv := []) Jb
 rcases hu with _ | @⟨_, _, q2, c2, cx, cy, hq2, hc2, hx, hy⟩ | _
 have p0 := hq2.left
 have p1 := hq2.right 1 hx.len
 obtain ⟨_, _, _, _, _, _, _, _, _, _, _, _, _, _, rfl⟩ := hx.open; obtain ⟨_, _, _, _, _, _, _, _, _, _, _, _, _, _, rfl⟩ := hy.open
 unfold H2
 refine Ap Af ?_; refine Se rfl ?_; refine Cg rfl rfl .free rfl ?_; intro b6; refine A3 .free rfl ?_; intro b10; refine Oa rfl (Aa (Se rfl (Oh rfl ?_))); refine A4 rfl .free rfl ?_
 first | refine Ba rfl rfl 0 rfl .free rfl ?_ | refine Bb rfl rfl 0 rfl .free rfl ?_
 refine Bj rfl .free rfl ?_; refine Gj rfl .free rfl ?_; refine C9 (t := 20) (v' := .string (str [102, 115, 116])) rfl rfl ?_; refine Oa rfl (Aa (Se rfl (Om rfl ?_)))
 first | refine Ba rfl rfl 0 rfl .free rfl ?_ | refine Bb rfl rfl 0 rfl .free rfl ?_
 refine B0 rfl (Bh q0 Ae) .free rfl ?_; refine A3 .free rfl ?_; intro b13; refine Bu rfl rfl rfl rfl .free ?_; refine Aa (Se rfl (Om rfl (Om rfl (On rfl ?_)))); refine Or rfl rfl rfl ?_; refine C9 (t := 27) (v' := .int .i64 ((0 : Nat))) rfl Ae ?_
 first | refine Ba rfl rfl _ rfl .free rfl ?_ | refine Bb rfl rfl _ rfl .free rfl ?_
 refine B0 rfl (Bh q0 Ae) .free rfl ?_; refine A3 .free rfl ?_; intro b14; refine Bu rfl rfl rfl rfl .free ?_; refine Aa (Ah (Aq (Se rfl (Om rfl (Od rfl rfl rfl (Oa rfl (Aa ?_)))))))
 first | refine Sf rfl Ad ?_ | refine As Ai ?_
 refine Se rfl (Om rfl (Od rfl rfl rfl (Oa rfl (Aa ?_))))
 first | refine Sf rfl Ad ?_ | refine As Ai ?_
 refine Se rfl (Om rfl (Od rfl rfl rfl (Om rfl ?_)))
 apply Cp 62 66 rfl
 ·intro g8_3 hk
  try simp only [nb] at g8_3
  refine A2 rfl (.met rfl rfl) rfl ?_; refine A4 rfl (.met rfl rfl) rfl ?_; refine Ck rfl rfl rfl (.met rfl rfl) rfl ?_; refine Ot rfl rfl ?_
  exact Av 3 rfl rfl hk
 ·intro _ hk; refine A0 3 rfl ?_; refine Of rfl rfl ?_
  exact Av 3 rfl rfl hk
 refine Oa rfl (Aa ?_)
 first | refine Ft rfl (fun h => absurd h.1 Ad) ?_ | refine Fs rfl (fun h => absurd h.1 Ad) ?_ | refine As Ai ?_
 refine Se rfl (Om rfl (Od rfl rfl rfl (Om rfl ?_)))
 apply Cp 87 91 rfl
 ·intro g10_3 hk
  try simp only [nb] at g10_3
  refine A2 rfl (.met rfl rfl) rfl ?_; refine A4 rfl (.met rfl rfl) rfl ?_; refine Ck rfl rfl rfl (.met rfl rfl) rfl ?_; refine Ot rfl rfl ?_
  exact Av 3 rfl rfl hk
 ·intro _ hk; refine A0 3 rfl ?_; refine Of rfl rfl ?_
  exact Av 3 rfl rfl hk
 refine Oa rfl (Aa ?_)
 first | refine Ft rfl (fun h => absurd h.1 Ad) ?_ | refine Fs rfl (fun h => absurd h.1 Ad) ?_ | refine As Ai ?_
 refine Se rfl (Om rfl (Od rfl rfl rfl (Om rfl ?_)))
 apply Cp 123 127 rfl
 ·intro g13_3 hk
  try simp only [nb] at g13_3
  refine A2 rfl (.met rfl rfl) rfl ?_; refine A4 rfl (.met rfl rfl) rfl ?_; refine Ck rfl rfl rfl (.met rfl rfl) rfl ?_; refine Ot rfl rfl ?_
  exact Av 3 rfl rfl hk
 ·intro _ hk; refine A0 3 rfl ?_; refine Of rfl rfl ?_
  exact Av 3 rfl rfl hk
 refine Oa rfl (Aa ?_)
 first | refine L5 rfl (⟨rfl, rfl⟩) ?_ | refine L4 rfl (⟨rfl, rfl⟩) ?_ | refine Bo Ai ?_
 refine Se rfl (Oh rfl ?_); refine A4 rfl .free rfl ?_
 first | refine Ba rfl rfl 0 rfl .free rfl ?_ | refine Bb rfl rfl 0 rfl .free rfl ?_
 refine B0 rfl (Bh p0 Ae) .free rfl ?_; refine Bu rfl rfl rfl rfl .free ?_; refine Oa rfl (Aa ?_); refine Ak (.c rfl (.tmp rfl .nil)) ?_
 exact ⟨I, _, .refl _, Ms (L' := (b, _) :: L), _, rfl, hx, rfl⟩
theorem Acm {a : Ex} {k1 k2 : KV} {I : Heap} {cs : List Value} (h : Rep I (Ex.un .snd a).tree cs) {gu : List Value} (hu : GVat I (KV.pair k1 k2) gu) {q : Addr} {c : Nat} (hq : Still I q (gu))  {on ov : Option Addr} {lm cn lv cv : Nat} (b n : Nat) (hn : n ≤ 1000000) (L : Bm) :
  Fun Tryz.prog 100 [.pointer (some ⟨b, 0, none⟩), .agg cs.toArray, .slice (some q) 1 c, .slice on lm cn, .slice ov lv cv] I (H2 b n false :: L) (Rk b ⟨some k2, n, false⟩ L) := by
 obtain ⟨oa, cc, oaf, cf, rfl, hf⟩ := h.at'
 have hlen : (Ex.un .snd a).tree.parts.length = 2 := rfl
 obtain ⟨xa, rfl⟩ : ∃ xa, oa = some xa := ⟨_, C3 hf.nil (show 0 < 2 by decide)⟩
 have hle : HLe I I := .refl _
 have q0 : Still I (q.add (0 * 7)) gu := Still.left (cv := []) Jb
 rcases hu with _ | @⟨_, _, q2, c2, cx, cy, hq2, hc2, hx, hy⟩ | _
 have p0 := hq2.left
 have p1 := hq2.right 1 hx.len
 obtain ⟨_, _, _, _, _, _, _, _, _, _, _, _, _, _, rfl⟩ := hx.open; obtain ⟨_, _, _, _, _, _, _, _, _, _, _, _, _, _, rfl⟩ := hy.open
 unfold H2
 refine Ap Af ?_; refine Se rfl ?_; refine Cg rfl rfl .free rfl ?_; intro b6; refine A3 .free rfl ?_; intro b10; refine Oa rfl (Aa (Se rfl (Oh rfl ?_))); refine A4 rfl .free rfl ?_
 first | refine Ba rfl rfl 0 rfl .free rfl ?_ | refine Bb rfl rfl 0 rfl .free rfl ?_
 refine Bj rfl .free rfl ?_; refine Gj rfl .free rfl ?_; refine C9 (t := 20) (v' := .string (str [115, 110, 100])) rfl rfl ?_; refine Oa rfl (Aa (Se rfl (Om rfl ?_)))
 first | refine Ba rfl rfl 0 rfl .free rfl ?_ | refine Bb rfl rfl 0 rfl .free rfl ?_
 refine B0 rfl (Bh q0 Ae) .free rfl ?_; refine A3 .free rfl ?_; intro b13; refine Bu rfl rfl rfl rfl .free ?_; refine Aa (Se rfl (Om rfl (Om rfl (On rfl ?_)))); refine Or rfl rfl rfl ?_; refine C9 (t := 27) (v' := .int .i64 ((0 : Nat))) rfl Ae ?_
 first | refine Ba rfl rfl _ rfl .free rfl ?_ | refine Bb rfl rfl _ rfl .free rfl ?_
 refine B0 rfl (Bh q0 Ae) .free rfl ?_; refine A3 .free rfl ?_; intro b14; refine Bu rfl rfl rfl rfl .free ?_; refine Aa (Ah (Aq (Se rfl (Om rfl (Od rfl rfl rfl (Oa rfl (Aa ?_)))))))
 first | refine Sf rfl Ad ?_ | refine As Ai ?_
 refine Se rfl (Om rfl (Od rfl rfl rfl (Oa rfl (Aa ?_))))
 first | refine Sf rfl Ad ?_ | refine As Ai ?_
 refine Se rfl (Om rfl (Od rfl rfl rfl (Om rfl ?_)))
 apply Cp 62 66 rfl
 ·intro g8_3 hk
  try simp only [nb] at g8_3
  refine A2 rfl (.met rfl rfl) rfl ?_; refine A4 rfl (.met rfl rfl) rfl ?_; refine Ck rfl rfl rfl (.met rfl rfl) rfl ?_; refine Ot rfl rfl ?_
  exact Av 3 rfl rfl hk
 ·intro _ hk; refine A0 3 rfl ?_; refine Of rfl rfl ?_
  exact Av 3 rfl rfl hk
 refine Oa rfl (Aa ?_)
 first | refine Ft rfl (fun h => absurd h.1 Ad) ?_ | refine Fs rfl (fun h => absurd h.1 Ad) ?_ | refine As Ai ?_
 refine Se rfl (Om rfl (Od rfl rfl rfl (Om rfl ?_)))
 apply Cp 87 91 rfl
 ·intro g10_3 hk
  try simp only [nb] at g10_3
  refine A2 rfl (.met rfl rfl) rfl ?_; refine A4 rfl (.met rfl rfl) rfl ?_; refine Ck rfl rfl rfl (.met rfl rfl) rfl ?_; refine Ot rfl rfl ?_
  exact Av 3 rfl rfl hk
 ·intro _ hk; refine A0 3 rfl ?_; refine Of rfl rfl ?_
  exact Av 3 rfl rfl hk
 refine Oa rfl (Aa ?_)
 first | refine Ft rfl (fun h => absurd h.1 Ad) ?_ | refine Fs rfl (fun h => absurd h.1 Ad) ?_ | refine As Ai ?_
 refine Se rfl (Om rfl (Od rfl rfl rfl (Om rfl ?_)))
 apply Cp 123 127 rfl
 ·intro g13_3 hk
  try simp only [nb] at g13_3
  refine A2 rfl (.met rfl rfl) rfl ?_; refine A4 rfl (.met rfl rfl) rfl ?_; refine Ck rfl rfl rfl (.met rfl rfl) rfl ?_; refine Ot rfl rfl ?_
  exact Av 3 rfl rfl hk
 ·intro _ hk; refine A0 3 rfl ?_; refine Of rfl rfl ?_
  exact Av 3 rfl rfl hk
 refine Oa rfl (Aa ?_)
 first | refine Ft rfl (fun h => absurd h.1 Ad) ?_ | refine Fs rfl (fun h => absurd h.1 Ad) ?_ | refine As Ai ?_
 refine Se rfl (Om rfl (Od rfl rfl rfl (Om rfl ?_)))
 apply Cp 135 139 rfl
 ·intro g15_3 hk
  try simp only [nb] at g15_3
  refine A2 rfl (.met rfl rfl) rfl ?_; refine A4 rfl (.met rfl rfl) rfl ?_; refine Ck rfl rfl rfl (.met rfl rfl) rfl ?_; refine Ot rfl rfl ?_
  exact Av 3 rfl rfl hk
 ·intro _ hk; refine A0 3 rfl ?_; refine Of rfl rfl ?_
  exact Av 3 rfl rfl hk
 refine Oa rfl (Aa ?_)
 first | refine L5 rfl (⟨rfl, rfl⟩) ?_ | refine L4 rfl (⟨rfl, rfl⟩) ?_ | refine Bo Ai ?_
 refine Se rfl (Oh rfl ?_); refine A4 rfl .free rfl ?_
 first | refine Ba rfl rfl 1 rfl .free rfl ?_ | refine Bb rfl rfl 1 rfl .free rfl ?_
 refine B0 rfl (Bh p1 Ae) .free rfl ?_; refine Bu rfl rfl rfl rfl .free ?_; refine Oa rfl (Aa ?_); refine Ak (.c rfl (.tmp rfl .nil)) ?_
 exact ⟨I, _, .refl _, Ms (L' := (b, _) :: L), _, rfl, hy, rfl⟩
theorem Ack {a d e : Ex} {s : Au} (hs : Cc s = true) (hok : (Ex.ite a d e).ok = true) {I : Heap} {cs : List Value} (h : Rep I (Ex.ite a d e).tree cs) {gu : List Value} (hu : GVat I (KV.num s) gu) {q : Addr} {c : Nat} (hq : Still I q (gu))  {N : Nat} (ihn : EvG N) {k : KE} {on ov : Option Addr} {cn cv : Nat} (hk : GEat I k on cn ov cv) (hkw : k.wf) (b n : Nat) (hn : n ≤ 1000000) (hN : n < N) (htl : k.tall + 2 * n ≤ 100000) (hdm : ∀ y ∈ (if s = [48] then d else e).occ [], y ∈ k.dom) (L : Bm) :
  Fun Tryz.prog 100 [.pointer (some ⟨b, 0, none⟩), .agg cs.toArray, .slice (some q) 1 c, .slice on k.names.length cn, .slice ov k.names.length cv] I (H2 b n false :: L) (Rk b (eval n (if s = [48] then d else e) k) L) := by
 obtain ⟨oa, cc, oaf, cf, rfl, hf⟩ := h.at'
 have hlen : (Ex.ite a d e).tree.parts.length = 4 := rfl
 obtain ⟨xa, rfl⟩ : ∃ xa, oa = some xa := ⟨_, C3 hf.nil (show 0 < 4 by decide)⟩
 have hle : HLe I I := .refl _
 have q0 : Still I (q.add (0 * 7)) gu := Still.left (cv := []) Jb
 cases hu
 simp only [Ex.ok, Bool.and_eq_true] at hok
 have hoE : (if s = [48] then d else e).ok = true := by split; exact hok.1.2; exact hok.2
 have hE : (if Dy s = 0 then d.tree else e.tree) = (if s = [48] then d else e).tree := by
  by_cases h0 : s = [48]
  ·rw [if_pos ((J9 hs).2 h0), if_pos h0]
  ·rw [if_neg (fun h => h0 ((J9 hs).1 h)), if_neg h0]
 unfold H2
 refine Ap Af ?_; refine Se rfl ?_; refine Cg rfl rfl .free rfl ?_; intro b6; refine A3 .free rfl ?_; intro b10; refine Oa rfl (Aa (Se rfl (Oh rfl ?_))); refine A4 rfl .free rfl ?_
 first | refine Ba rfl rfl 0 rfl .free rfl ?_ | refine Bb rfl rfl 0 rfl .free rfl ?_
 refine Bj rfl .free rfl ?_; refine Gj rfl .free rfl ?_; refine C9 (t := 20) (v' := .string (str [105, 102])) rfl rfl ?_; refine Oa rfl (Aa (Se rfl (Om rfl ?_)))
 first | refine Ba rfl rfl 0 rfl .free rfl ?_ | refine Bb rfl rfl 0 rfl .free rfl ?_
 refine B0 rfl (Bh q0 Ae) .free rfl ?_; refine A3 .free rfl ?_; intro b13; refine Bu rfl rfl rfl rfl .free ?_; refine Aa (Se rfl (Om rfl (Om rfl (On rfl ?_)))); refine Or rfl rfl rfl ?_; refine C9 (t := 27) (v' := .int .i64 ((0 : Nat))) rfl Ae ?_
 first | refine Ba rfl rfl _ rfl .free rfl ?_ | refine Bb rfl rfl _ rfl .free rfl ?_
 refine B0 rfl (Bh q0 Ae) .free rfl ?_; refine A3 .free rfl ?_; intro b14; refine Bu rfl rfl rfl rfl .free ?_; refine Aa (Ah (Aq (Se rfl (Om rfl (Od rfl rfl rfl (Oa rfl (Aa ?_)))))))
 first | refine Sf rfl Ad ?_ | refine As Ai ?_
 refine Se rfl (Om rfl (Od rfl rfl rfl (Oa rfl (Aa ?_))))
 first | refine Sf rfl Ad ?_ | refine As Ai ?_
 refine Se rfl (Om rfl (Od rfl rfl rfl (Om rfl ?_)))
 apply Cp 62 66 rfl
 ·intro g8_3 hk
  try simp only [nb] at g8_3
  refine A2 rfl (.met rfl rfl) rfl ?_; refine A4 rfl (.met rfl rfl) rfl ?_; refine Ck rfl rfl rfl (.met rfl rfl) rfl ?_; refine Ot rfl rfl ?_
  exact Av 3 rfl rfl hk
 ·intro _ hk; refine A0 3 rfl ?_; refine Of rfl rfl ?_
  exact Av 3 rfl rfl hk
 refine Oa rfl (Aa ?_)
 first | refine L5 rfl (⟨rfl, rfl⟩) ?_ | refine L4 rfl (⟨rfl, rfl⟩) ?_ | refine Bo Ai ?_
 refine Ah ?_; refine Bk (fun w h => h.f4) ?_; refine Mp 19 rfl rfl ?_; refine Da 0 rfl (Am rfl) ?_; refine Da 1 rfl (Ao rfl) ?_; refine Dt 2 [17] rfl (By rfl) ?_; refine Da 3 rfl (Ao rfl) ?_; refine Dt 4 [17] rfl (By rfl) ?_
 first | refine Da 5 rfl (Br rfl rfl 2 rfl) ?_ | refine Da 5 rfl (Bs rfl rfl 2 rfl) ?_
 refine Dt 6 [17] rfl (Bx rfl) ?_; refine Da 7 rfl (Ao rfl) ?_; refine Dt 8 [17] rfl (By rfl) ?_
 first | refine Da 9 rfl (Br rfl rfl 3 rfl) ?_ | refine Da 9 rfl (Bs rfl rfl 3 rfl) ?_
 refine Dt 10 [17] rfl (Bx rfl) ?_; refine Da 12 rfl (Am rfl) ?_; refine Da 13 rfl (Am rfl) ?_; refine Dc 11 rfl rfl (Aaz (Dy s) (hf.as 2 d.tree Ab rfl) (hf.as 3 e.tree Ab rfl) _) ?_; rintro _ J2 _ e2 ⟨cs2, rfl, hr2, rfl⟩; rw [hE] at hr2; obtain ⟨_, _, _, rfl, -⟩ := hr2.open
 have hk := hk.mono e2
 refine Hx ?_; refine Dc 14 rfl rfl (ihn n hN hr2 hoE hk hkw hdm htl b _) ?_; rintro _ J4 _ e4 ⟨cs5, rfl, hg5, rfl⟩
 have hle := e2.trans e4
 obtain ⟨_, _, _, _, _, _, _, _, _, _, _, _, _, _, rfl⟩ := hg5.open
 unfold H2
 refine Hx ?_; refine Da 15 rfl (Co rfl rfl) ?_; refine Da 16 rfl (Co rfl rfl) ?_; refine Dx 17 rfl rfl rfl rfl ?_; refine Db 18 rfl (A5 rfl) ?_; refine Aw Ac ?_; refine Ak (.c rfl (.tmp rfl .nil)) ?_
 exact ⟨J4, _, hle, Ms (L' := (b, _) :: L), _, rfl, hg5, rfl⟩
theorem Aa3 {a d : Ex} {fn x : Au} {s t : Ty} {bd : Ex} {r : KE} {v : KV} (wu : (KV.clo fn x s t bd r).wf) (wv : v.wf) {I : Heap} {cs : List Value} (h : Rep I (Ex.bin .call a d).tree cs) {gu : List Value} (hu : GVat I (KV.clo fn x s t bd r) gu) {gv : List Value} (hv : GVat I v gv) {q : Addr} {c : Nat} (hq : Still I q (gu ++ gv)) (hc : 2 ≤ c)  {N : Nat} (ihn : EvG N) {k : KE} {on ov : Option Addr} {cn cv : Nat} (b n : Nat) (hn : n ≤ 1000000) (hN : n < N) (htl : k.tall + 2 * n ≤ 100000) (htr : r.tall ≤ 100000) (hdm : ∀ y ∈ bd.occ [], y ∈ (KE.cons x v (.cons fn (.clo fn x s t bd r) r)).dom) (htl2 : (KE.cons x v (.cons fn (.clo fn x s t bd r) r)).tall + 2 * n ≤ 100000) (L : Bm) :
  Fun Tryz.prog 100 [.pointer (some ⟨b, 0, none⟩), .agg cs.toArray, .slice (some q) 2 c, .slice on k.names.length cn, .slice ov k.names.length cv] I (H2 b n false :: L) (Rk b (eval n bd (.cons x v (.cons fn (.clo fn x s t bd r) r))) L) := by
 obtain ⟨oa, cc, oaf, cf, rfl, hf⟩ := h.at'
 have hlen : (Ex.bin .call a d).tree.parts.length = 3 := rfl
 obtain ⟨xa, rfl⟩ : ∃ xa, oa = some xa := ⟨_, C3 hf.nil (show 0 < 3 by decide)⟩
 have hle : HLe I I := .refl _
 have q0 : Still I (q.add (0 * 7)) gu := hq.left
 have q1 : Still I (q.add (1 * 7)) gv := hq.right 1 hu.len
 have hu2 := hu
 have hv2 := hv
 obtain ⟨_, _, _, _, _, _, _, _, _, _, _, _, rfl⟩ := hv.openK
 rcases hu with _ | _ | @⟨_, _, _, _, _, _, o6, c6, on6, ov6, cn6, cv6, hr, he⟩
 have hnt := Lb r
 obtain ⟨hnm, hvs, hst, h0, hcv⟩ := he; obtain ⟨oa3, c3', oaf3, cf3, he3, hf3⟩ := hr.at'
 simp only [List.cons.injEq, Value.slice.injEq, and_true, true_and] at he3
 obtain ⟨-, rfl, -, rfl⟩ := he3
 have hlen3 : (Ex.fn fn x s t bd).tree.parts.length = 6 := rfl
 obtain ⟨hrw, hfok, hfd⟩ := id wu
 simp only [Ex.ok, Bool.and_eq_true, decide_eq_true_eq] at hfok
 obtain ⟨⟨⟨⟨⟨nf, nx⟩, hfx⟩, _⟩, _⟩, hcok⟩ := hfok
 have hfl : fn.length ≤ Be := by have := Fz nf; unfold Be; omega
 have hxl : x.length ≤ Be := by have := Fz nx; unfold Be; omega
 have hnn : r.names ++ [fn, x] = (KE.cons x v (.cons fn (.clo fn x s t bd r) r)).names := by simp [KE.names]
 unfold H2
 refine Ap Af ?_; refine Se rfl ?_; refine Cg rfl rfl .free rfl ?_; intro b6; refine A3 .free rfl ?_; intro b10; refine Oa rfl (Aa (Se rfl (Oh rfl ?_))); refine A4 rfl .free rfl ?_
 first | refine Ba rfl rfl 0 rfl .free rfl ?_ | refine Bb rfl rfl 0 rfl .free rfl ?_
 refine Bj rfl .free rfl ?_; refine Gj rfl .free rfl ?_; refine C9 (t := 20) (v' := .string (str [99, 97, 108, 108])) rfl rfl ?_; refine Oa rfl (Aa (Se rfl (Om rfl ?_)))
 first | refine Ba rfl rfl 0 rfl .free rfl ?_ | refine Bb rfl rfl 0 rfl .free rfl ?_
 refine B0 rfl (Bh q0 Ae) .free rfl ?_; refine A3 .free rfl ?_; intro b13; refine Bu rfl rfl rfl rfl .free ?_; refine Aa (Se rfl (Om rfl (Om rfl (On rfl ?_)))); refine Or rfl rfl rfl ?_; refine C9 (t := 27) (v' := .int .i64 ((1 : Nat))) rfl Ae ?_
 first | refine Ba rfl rfl _ rfl .free rfl ?_ | refine Bb rfl rfl _ rfl .free rfl ?_
 refine B0 rfl (Bh q1 Ae) .free rfl ?_; refine A3 .free rfl ?_; intro b14; refine Bu rfl rfl rfl rfl .free ?_; refine Aa (Ah (Aq (Se rfl (Om rfl (Od rfl rfl rfl (Oa rfl (Aa ?_)))))))
 first | refine Sf rfl Ad ?_ | refine As Ai ?_
 refine Se rfl (Om rfl (Od rfl rfl rfl (Oa rfl (Aa ?_))))
 first | refine Sf rfl Ad ?_ | refine As Ai ?_
 refine Se rfl (Om rfl (Od rfl rfl rfl (Om rfl ?_)))
 apply Cp 62 66 rfl
 ·intro g8_3 hk
  try simp only [nb] at g8_3
  refine A2 rfl (.met rfl rfl) rfl ?_; refine A4 rfl (.met rfl rfl) rfl ?_; refine Ck rfl rfl rfl (.met rfl rfl) rfl ?_; refine Ot rfl rfl ?_
  exact Av 3 rfl rfl hk
 ·intro _ hk; refine A0 3 rfl ?_; refine Of rfl rfl ?_
  exact Av 3 rfl rfl hk
 refine Oa rfl (Aa ?_)
 first | refine Ft rfl (fun h => absurd h.1 Ad) ?_ | refine Fs rfl (fun h => absurd h.1 Ad) ?_ | refine As Ai ?_
 refine Se rfl (Om rfl (Od rfl rfl rfl (Om rfl ?_)))
 apply Cp 87 91 rfl
 ·intro g10_3 hk
  try simp only [nb] at g10_3
  refine A2 rfl (.met rfl rfl) rfl ?_; refine A4 rfl (.met rfl rfl) rfl ?_; refine Ck rfl rfl rfl (.met rfl rfl) rfl ?_; refine Ot rfl rfl ?_
  exact Av 3 rfl rfl hk
 ·intro _ hk; refine A0 3 rfl ?_; refine Of rfl rfl ?_
  exact Av 3 rfl rfl hk
 refine Oa rfl (Aa ?_)
 first | refine L5 rfl (⟨rfl, rfl⟩) ?_ | refine L4 rfl (⟨rfl, rfl⟩) ?_ | refine Bo Ai ?_
 refine Se rfl (Oh rfl (Oh rfl ?_)); refine A4 rfl .free rfl ?_; refine Oa rfl (Aa (Ah ?_)); refine Bk (fun w h => h.f4) ?_; refine Mp 27 rfl rfl ?_; refine Da 0 rfl (Am rfl) ?_; refine Da 1 rfl (Am rfl) ?_
 first | refine Da 2 rfl (Br rfl rfl 5 rfl) ?_ | refine Da 2 rfl (Bs rfl rfl 5 rfl) ?_
 refine Dt 3 [25] rfl (Ey rfl (Bh (hf3.st _ Ab) Ae)) ?_; refine Da 4 rfl (Ao rfl) ?_; refine Dt 5 [25] rfl (By rfl) ?_; refine Da 6 rfl (Am rfl) ?_
 first | refine Da 7 rfl (Br rfl rfl 1 rfl) ?_ | refine Da 7 rfl (Bs rfl rfl 1 rfl) ?_
 refine Da 8 rfl (Bf rfl) ?_; refine Dt 9 [25] rfl (Ey rfl (Bd (hf3.st _ Ab) Ae rfl)) ?_; refine Da 10 rfl (Am rfl) ?_
 first | refine Da 11 rfl (Br rfl rfl 2 rfl) ?_ | refine Da 11 rfl (Bs rfl rfl 2 rfl) ?_
 refine Da 12 rfl (Bf rfl) ?_; refine Dt 13 [25] rfl (Ey rfl (Bd (hf3.st _ Ab) Ae rfl)) ?_; refine Da 16 rfl (Ao rfl) ?_; refine Dt 17 [25] rfl (By rfl) ?_; refine Dt 18 [25] rfl (C7 rfl) ?_; refine Dt 20 [25] rfl (C7 rfl) ?_; refine Fy 14 rfl Ac rfl rfl rfl Ae Ae Ae Ad Ad Ae .free rfl (.inr At) ?_; intro b109; refine Ed ?_; intro hz
 have hle := hz
 have hf3 := hf3.mono hz
 have hnm := hnm.mono hz
 have hvs := hvs.mono hz
 have hst := fun x hx => (hst x hx).mono hz
 have hu2 := hu2.mono hz
 have hv2 := hv2.mono hz
 have hk1 := Pj (x := fn) (y := x) hz hfl hxl
 refine Dc 15 rfl rfl (Io hnm hk1 G0 _) ?_; rintro _ J2 _ e2 ⟨o3, c3, rfl, hn3, rfl⟩; rw [hnn] at hn3 ⊢
 have hle := hle.trans e2
 have hf3 := hf3.mono e2
 have hvs := hvs.mono e2
 have hst := fun x hx => (hst x hx).mono e2
 have hu2 := hu2.mono e2
 have hv2 := hv2.mono e2
 refine Hx ?_; refine Dc 19 rfl rfl (Qy hvs hst h0 Ab hu2 fn _) ?_; rintro _ J3 _ e3 ⟨x4, c4, rfl, hs4, hc4, rfl⟩
 have hle := hle.trans e3
 have hf3 := hf3.mono e3
 have hvs := hvs.mono e3
 have hu2 := hu2.mono e3
 have hv2 := hv2.mono e3
 have hn3 := hn3.mono e3
 refine Hx ?_; refine Dc 21 rfl rfl (Qy (.cons (n := fn) hvs hu2) (fun x hx => by cases hx; exact hs4) (fun h => by cases h) (by simp only [KE.names, List.length_append, List.length_cons, List.length_nil]; omega) hv2 x _) ?_; rintro _ J4 _ e4 ⟨x5, c5, rfl, hs5, hc5, rfl⟩
 have hle := hle.trans e4
 have hf3 := hf3.mono e4
 have hvs := hvs.mono e4
 have hu2 := hu2.mono e4
 have hv2 := hv2.mono e4
 have hn3 := hn3.mono e4
 have hgk : GEat J4 (.cons x v (.cons fn (.clo fn x s t bd r) r)) o3 c3 (some x5) c5 := .mk hn3 (.cons (.cons hvs hu2) hv2) (fun x hx => by cases hx; exact hs5) (fun h => by cases h) hc5
 refine Hx ?_; refine Dc 22 rfl rfl (ihn n hN (hf3.as 5 bd.tree Ab rfl) hcok hgk ⟨nx, wv, nf, wu, hrw⟩ hdm htl2 b _) ?_; rintro _ J5 _ e5 ⟨cs5, rfl, hg5, rfl⟩
 have hle := hle.trans e5
 obtain ⟨_, _, _, _, _, _, _, _, _, _, _, _, _, _, rfl⟩ := hg5.open
 unfold H2
 refine Hx ?_; refine Da 23 rfl (Co rfl rfl) ?_; refine Da 24 rfl (Co rfl rfl) ?_; refine Dx 25 rfl rfl rfl rfl ?_; refine Db 26 rfl (A5 rfl) ?_; refine Aw Ac ?_; refine Ak (.c rfl (.tmp rfl .nil)) ?_
 exact ⟨J5, _, hle, Ms (L' := (b, _) :: L), _, rfl, hg5, rfl⟩
theorem Ql {P : Program} {f : FuncId} {n : Nat} {I₀ : Heap} {Q : C2} {k : List Item} {E : He} {I : Heap} {L : Bm} {ops : Array Oper} {S : World → Prop} {fuel : Nat} {listed : Array Bool} {X : Type} (E' : X → He) (I' : X → Heap) (L' : X → Bm) (R : X → Prop)
  (hk : ∀ x, R x → RunS P f n I₀ Q k (E' x) (I' x) (L' x)) (h : (∀ x, R x → RunS P f n I₀ Q k (E' x) (I' x) (L' x)) → Cy P f n I₀ Q ops S fuel listed k E I L) : Cy P f n I₀ Q ops S fuel listed k E I L := h hk
theorem U5 {n : Nat} {e : Ex} {k : KE} {u : KV} (hk : k.wf) (hok : e.ok = true) (hd : ∀ y ∈ e.occ [], y ∈ k.dom) (h : (eval n e k).v = some u) : u.wf ∧ (eval n e k).stuck = false := by
 have := Ox n e k hk hok hd
 unfold Res.says at this
 rw [h] at this
 exact ⟨this.1, this.2.2⟩
theorem Ad2 {s : Au} (h : Cc s = true) : ¬ s = [] := fun e => by subst e; cases h
theorem U3 : ∀ {k : KE} {s : Au}, s ∈ k.dom → ∃ v, k.look s = some v
 | .nil, s, h => by simp [KE.dom] at h
 | .cons n v up, s, h => by
  simp only [KE.dom, List.mem_cons] at h
  simp only [KE.look]
  by_cases hn : n = s
  ·exact ⟨v, by rw [if_pos hn]⟩
  ·rw [if_neg hn]
   exact U3 (h.resolve_left (fun e => hn e.symm))
theorem Still.mid {I : Heap} {q : Addr} {us ds ys : List Value} (h : Still I q (us ++ ds ++ ys)) (k : Nat) (hk : us.length = k * 7) : Still I (q.add (k * 7)) ds := h.part _ fun i hi => by
 rw [List.append_assoc, List.getElem?_append_right (by omega), show k * 7 + i - us.length = i by omega, List.getElem?_append_left hi, List.getElem?_eq_getElem hi]
theorem Aci {N : Nat} (ihn : EvG N) {o : B5} {a d : Ex} {u v : KV} (wu : u.wf) (wv : v.wf) {I : Heap} {cs : List Value} (h : Rep I (Ex.bin o a d).tree cs) {gu gv : List Value} (hu : GVat I u gu) (hv : GVat I v gv) {q : Addr} {c : Nat} (hq : Still I q (gu ++ gv)) (hc : 2 ≤ c) {k : KE} {on ov : Option Addr} {cn cv : Nat}
  (b n : Nat) (hn : n ≤ 1000000) (hN : n < N) (htk : k.tall + 2 * n ≤ 100000) (htu : u.tall + 2 + 2 * n ≤ 100000) (htv : v.tall + 2 + 2 * n ≤ 100000) (L : Bm) :
  Fun Tryz.prog 100 [.pointer (some ⟨b, 0, none⟩), .agg cs.toArray, .slice (some q) 2 c, .slice on k.names.length cn, .slice ov k.names.length cv] I (H2 b n false :: L) (Rk b (Ln o u v n) L) := by
 by_cases hca : o = .call
 ·subst hca
  by_cases hk : u.kd = [102, 117, 110]
  ·obtain ⟨fn, x, s, t, bd, r, rfl⟩ := Adz hk
   simp only [KV.tall] at htu
   refine Aa3 wu wv h hu hv hq hc ihn (k := k) b n hn hN htk Ab (fun y hy => ?_) (by simp only [KE.tall, KV.tall]; omega) L
   simp only [KE.dom, List.mem_cons]
   rcases wu.2.2 y hy with h | h
   ·simp only [List.mem_cons, List.not_mem_nil, or_false] at h
    rcases h with h | h
    ·exact .inr (.inl h)
    ·exact .inl h
   ·exact .inr (.inr h)
  ·have e : Ln .call u v n = ⟨none, n, true⟩ := by
    cases u with
    | clo f x s t b r => exact absurd rfl hk
    | _ => rfl
   rw [e]
   exact Vl hk h hu hv hq hc b n hn L
 ·by_cases hp : o = .pair
  ·subst hp
   exact Aa4 h hu hv hq hc b n hn L
  ·have e : Ln o u v n = Res.of (o.act u v) n := G1 (by rintro ⟨_, _, _, _, _, _, h, _⟩; exact hca h)
   rw [e]
   exact Acl (by cases o <;> first | rfl | exact absurd rfl hca | exact absurd rfl hp) wu wv h hu hv hq hc b n hn L
theorem Adv {o : U2} {a : Ex} {u : KV} {I : Heap} {cs : List Value} (h : Rep I (Ex.un o a).tree cs) {gu : List Value} (hu : GVat I u gu) {q : Addr} {c : Nat} (hq : Still I q gu) {on ov : Option Addr} {lm cn lv cv : Nat} (b n : Nat) (hn : n ≤ 1000000) (L : Bm) :
  Fun Tryz.prog 100 [.pointer (some ⟨b, 0, none⟩), .agg cs.toArray, .slice (some q) 1 c, .slice on lm cn, .slice ov lv cv] I (H2 b n false :: L) (Rk b (Res.of (o.act u) n) L) := by
 by_cases hk : u.kd = [112, 97, 105, 114]
 ·obtain ⟨x, y, rfl⟩ := Acs hk
  cases o with
  | fst => exact Acj h hu hq b n hn L
  | snd => exact Acm h hu hq b n hn L
 ·have e : Res.of (o.act u) n = ⟨none, n, true⟩ := by
   cases u with
   | pair x y => exact absurd rfl hk
   | _ => cases o <;> rfl
  rw [e]
  exact Zc hk h hu hq b n hn L
def Adw (u : KV) (n : Nat) (d g : Ex) (k : KE) : Res := match u with
 | .num s => eval n (if s = [48] then d else g) k
 | _ => ⟨none, n, true⟩
theorem Adt {N : Nat} (ihn : EvG N) {a d g : Ex} {u : KV} (wu : u.wf) {I : Heap} {cs : List Value} (h : Rep I (Ex.ite a d g).tree cs) (hok : (Ex.ite a d g).ok = true) {gu : List Value} (hu : GVat I u gu) {q : Addr} {c : Nat} (hq : Still I q gu) {k : KE} {on ov : Option Addr} {cn cv : Nat} (hk : GEat I k on cn ov cv) (hkw : k.wf)
  (b n : Nat) (hn : n ≤ 1000000) (hN : n < N) (htl : k.tall + 2 * n ≤ 100000) (hd1 : ∀ y ∈ d.occ [], y ∈ k.dom) (hd2 : ∀ y ∈ g.occ [], y ∈ k.dom) (L : Bm) :
  Fun Tryz.prog 100 [.pointer (some ⟨b, 0, none⟩), .agg cs.toArray, .slice (some q) 1 c, .slice on k.names.length cn, .slice ov k.names.length cv] I (H2 b n false :: L) (Rk b (Adw u n d g k) L) := by
 by_cases hkd : u.kd = [110, 117, 109, 98, 101, 114]
 ·obtain ⟨s, rfl⟩ := Xc hkd
  exact Ack wu hok h hu hq ihn hk hkw b n hn hN htl (by split; exact hd1; exact hd2) L
 ·have e : Adw u n d g k = ⟨none, n, true⟩ := by
   cases u with
   | num s => exact absurd rfl hkd
   | _ => rfl
  rw [e]
  exact W9 hkd h hu hq b n hn L

theorem Xb {I : Heap} {e : Ex} {cs : List Value} {k : KE} {on ov : Option Addr} {lm cn lv cv : Nat} (h : Rep I e.tree cs) (b : Nat) (L : Bm) :
  Fun Tryz.prog 54 [.pointer (some ⟨b, 0, none⟩), .agg cs.toArray, .slice on lm cn, .slice ov lv cv] I (H2 b 0 false :: L) (Rk b (eval 0 e k) L) := by
 obtain ⟨oa, cc, _, rfl, -⟩ := h.open
 unfold H2
 refine Ap Af ?_; refine Se rfl ?_; refine Cg rfl rfl .free rfl ?_; intro b5; refine A3 .free rfl ?_; intro b8; refine Oa rfl (Aa (Ah (Se rfl (Om rfl ?_)))); refine Az rfl .free rfl ?_
 first | refine Oh rfl ?_ | refine Oj rfl ?_
 refine Gr rfl .free rfl ?_; refine Oc rfl rfl rfl (Aa ?_)
 first | refine St rfl (rfl) ?_ | refine Bo Ai ?_
 refine Se rfl ?_; refine B6 rfl rfl rfl .free rfl ?_; refine Bu rfl rfl rfl rfl .free ?_; refine Oa rfl (Aa ?_); refine Ak (.c rfl (.tmp rfl .nil)) ?_; rw [Ia]
 exact ⟨I, _, .refl _, Ms (L' := (b, _) :: L), S4, rfl, rfl, rfl⟩
theorem Zg {N : Nat} {s : Au} {I : Heap} {cs : List Value} {k : KE} {on ov : Option Addr} {cn cv : Nat} (m : Nat) (hn : m < N) (h : Rep I (Ex.num s).tree cs) (hok : (Ex.num s).ok = true) (hk : GEat I k on cn ov cv) (hkw : k.wf) (hd : ∀ y ∈ (Ex.num s).occ [], y ∈ k.dom) (htl : k.tall + 2 * (m + 1) ≤ 100000) (b : Nat) (L : Bm) :
  Fun Tryz.prog 54 [.pointer (some ⟨b, 0, none⟩), .agg cs.toArray, .slice on k.names.length cn, .slice ov k.names.length cv] I (H2 b (m + 1) false :: L) (Rk b (eval (m + 1) (Ex.num s) k) L) := by
 obtain ⟨oa, cc, _, rfl, -⟩ := h.open
 have hnt : ¬ s = [] := Ad2 hok
 have hsl : s.length ≤ Be := by have := Id (show Cc s = true from hok); unfold Be; omega
 unfold H2
 refine Ap Af ?_; refine Se rfl ?_; refine Cg rfl rfl .free rfl ?_; intro b5; refine A3 .free rfl ?_; intro b8; refine Oa rfl (Aa (Ah (Se rfl (Om rfl ?_)))); refine Az rfl .free rfl ?_
 first | refine Oh rfl ?_ | refine Oj rfl ?_
 refine Gr rfl .free rfl ?_; refine Oc rfl rfl rfl (Aa ?_)
 first | refine Sf rfl Ab ?_ | refine As Ai ?_
 refine Aj (Se rfl (Om rfl (Om rfl ?_))); refine Az rfl .free rfl ?_
 first | refine Oh rfl ?_ | refine Oj rfl ?_
 refine Gr rfl .free rfl ?_; refine Or rfl rfl rfl ?_; refine C9 (t := 30) (v' := .int .i64 (m : Nat)) rfl Eg ?_; refine Az rfl .free rfl ?_
 first | refine Oh rfl ?_ | refine Oj rfl ?_
 refine Bu rfl rfl rfl rfl .free ?_; refine Aa (Ah (Se rfl (Oh rfl ?_))); refine A4 rfl .free rfl ?_; refine Od rfl rfl rfl (Aa ?_)
 first | refine L5 rfl (hnt) ?_ | refine L4 rfl (hnt) ?_ | refine Bo Ai ?_
 refine Se rfl (Oh rfl ?_); refine A4 rfl .free rfl ?_; refine Ca rfl (M4 s hsl _ _) ?_; rintro _ _ _ _ ⟨rfl, rfl, rfl⟩; rw [show Cc s = true from hok]; refine Om rfl (Oe rfl rfl (Oe rfl rfl (Oa rfl (Oa rfl (Aa (Ah (Se rfl (Om rfl (Aa ?_)))))))))
 first | refine St rfl (rfl) ?_ | refine Bo Ai ?_
 refine Se rfl (Om rfl ?_); refine B6 rfl rfl rfl .free rfl ?_; refine Bu rfl rfl rfl rfl .free ?_; refine Oa rfl (Aa ?_); refine Ak (.c rfl (.tmp rfl .nil)) ?_; rw [Jp]
 exact ⟨I, _, .refl _, Ms (L' := (b, _) :: L), _, rfl, .num, rfl⟩
theorem Xa {N : Nat} {s : Au} {I : Heap} {cs : List Value} {k : KE} {on ov : Option Addr} {cn cv : Nat} (m : Nat) (hn : m < N) (h : Rep I (Ex.name s).tree cs) (hok : (Ex.name s).ok = true) (hk : GEat I k on cn ov cv) (hkw : k.wf) (hd : ∀ y ∈ (Ex.name s).occ [], y ∈ k.dom) (htl : k.tall + 2 * (m + 1) ≤ 100000) (b : Nat) (L : Bm) :
  Fun Tryz.prog 54 [.pointer (some ⟨b, 0, none⟩), .agg cs.toArray, .slice on k.names.length cn, .slice ov k.names.length cv] I (H2 b (m + 1) false :: L) (Rk b (eval (m + 1) (Ex.name s) k) L) := by
 obtain ⟨oa, cc, _, rfl, -⟩ := h.open
 have hnt : ¬ s = [] := fun e => by subst e; cases hok
 have hsl : s.length ≤ Be := by have := Fz (show Cb s = true from hok); unfold Be; omega
 obtain ⟨v0, hv0⟩ := U3 (hd s (by simp [Ex.occ]))
 have hktl := Lb k
 obtain @⟨_, _, _, _, _, gs, hnm, hvs, hst, h0, hcv⟩ := hk
 unfold H2
 refine Ap Af ?_; refine Se rfl ?_; refine Cg rfl rfl .free rfl ?_; intro b5; refine A3 .free rfl ?_; intro b8; refine Oa rfl (Aa (Ah (Se rfl (Om rfl ?_)))); refine Az rfl .free rfl ?_
 first | refine Oh rfl ?_ | refine Oj rfl ?_
 refine Gr rfl .free rfl ?_; refine Oc rfl rfl rfl (Aa ?_)
 first | refine Sf rfl Ab ?_ | refine As Ai ?_
 refine Aj (Se rfl (Om rfl (Om rfl ?_))); refine Az rfl .free rfl ?_
 first | refine Oh rfl ?_ | refine Oj rfl ?_
 refine Gr rfl .free rfl ?_; refine Or rfl rfl rfl ?_; refine C9 (t := 30) (v' := .int .i64 (m : Nat)) rfl Eg ?_; refine Az rfl .free rfl ?_
 first | refine Oh rfl ?_ | refine Oj rfl ?_
 refine Bu rfl rfl rfl rfl .free ?_; refine Aa (Ah (Se rfl (Oh rfl ?_))); refine A4 rfl .free rfl ?_; refine Od rfl rfl rfl (Aa ?_)
 first | refine L5 rfl (hnt) ?_ | refine L4 rfl (hnt) ?_ | refine Bo Ai ?_
 refine Se rfl (Oh rfl ?_); refine A4 rfl .free rfl ?_; refine Ca rfl (M4 s hsl _ _) ?_; rintro _ _ _ _ ⟨rfl, rfl, rfl⟩; rw [Gf (show Cb s = true from hok)]; refine Om rfl (Oe rfl rfl (Oe rfl rfl (Oa rfl (Oa rfl (Aa (Ah (Se rfl (Om rfl (Aa ?_)))))))))
 first | refine Sf rfl Af ?_ | refine As Ai ?_
 refine Aj (Ah (Se rfl (Om rfl (On rfl ?_)))); refine Or rfl rfl rfl ?_; refine Oa rfl (Aa (Aq ?_)); refine D7 (X := KE) (fun x => SizeOf.sizeOf x) (fun x => [(0, .pointer (some ⟨b, 0, none⟩)), (2, .slice on k.names.length cn), (3, .slice ov k.names.length cv), (5, .pointer (some ⟨b5, 0, none⟩)), (8, .pointer (some ⟨b8, 0, none⟩)), (12, .int .i64 ((x.names.length : Nat) - 1))]) (fun _ => I)
  (fun _ => (b8, .cells [.string (str []), .int .i64 0, .slice none 0 0, .string (str []), .slice none 0 0, .slice none 0 0, .slice none 0 0].toArray 76 (0, 0)) :: (b5, .cells [.string (str (Ex.name s).tree.atom), .slice oa (Ex.name s).tree.parts.length cc].toArray 68 (0, 0)) :: (b, .cells [.int .i64 (m : Nat), .bool false].toArray 73 (0, 0)) :: L)
  (fun x => (∃ rest, k.names = x.names ++ rest) ∧ (∃ xs ys, GVs I x xs ∧ gs = xs ++ ys) ∧ x.look s = k.look s) k ⟨⟨[], by simp⟩, ⟨gs, [], hvs, by simp⟩, rfl⟩ ⟨rfl, rfl, rfl, rfl, rfl, rfl, trivial⟩ (fun _ h => h) ?_
 rintro x ⟨⟨rest, hrest⟩, ⟨xs, ys, hgx, hgs⟩, hlk⟩ ih; refine Ah (Se rfl (Om rfl (Oc rfl rfl rfl (Aa ?_)))); refine Ay rfl ?_ ?_
 ·intro c3
  try simp only [nb] at c3
  obtain ⟨mm, vv, up, rfl⟩ : ∃ mm vv up, x = .cons mm vv up := by
   cases x with
   | nil => simp [KE.names] at c3
   | cons mm vv up => exact ⟨_, _, _, rfl⟩
  obtain ⟨us, ds, hus, hds, rfl⟩ : ∃ us ds, GVs I up us ∧ GVat I vv ds ∧ xs = us ++ ds := by
   cases hgx with
   | cons hu hv => exact ⟨_, _, hu, hv, rfl⟩
  have hxl : (KE.cons mm vv up).names.length = up.names.length + 1 := by simp [KE.names]
  refine Lk (t := 12) (v' := .int .i64 (up.names.length : Nat)) rfl (by rw [hxl]; congr 1; omega) ?_
  have hi : up.names.length < k.names.length := by rw [hrest, List.length_append, hxl]; omega
  have hgi : k.names[up.names.length] = mm := by simp [hrest, KE.names]
  obtain ⟨xn, hxn, hstn⟩ := hnm.at up.names.length hi; rw [hgi] at hstn; obtain ⟨xv, hxv⟩ : ∃ xv, ov = some xv := by
   cases ov with
   | none => have := h0 rfl; rw [this] at hi; exact absurd hi (Nat.not_lt_zero _)
   | some xv => exact ⟨xv, rfl⟩
  subst hxn hxv hgs
  have hstv := (hst xv rfl).mid up.names.length hus.len
  obtain ⟨_, _, _, _, _, _, _, _, _, _, _, _, _, _, rfl⟩ := hds.open; refine Aj (Ah (Aq (Ah ?_))); refine D6 7 rfl rfl ?_; refine Da 0 rfl (Am rfl) ?_; refine Da 1 rfl (Am rfl) ?_
  first | refine Da 2 rfl (Br rfl rfl _ rfl) ?_ | refine Da 2 rfl (Bs rfl rfl _ rfl) ?_
  refine Dt 3 [7] rfl (Ey rfl (Bc hstn rfl)) ?_; refine Da 4 rfl (Ao rfl) ?_; refine Dt 5 [7] rfl (By rfl) ?_; refine Da 6 rfl (Uo rfl rfl rfl) ?_; refine Aw Ac ?_; refine Ay rfl ?_ ?_
  ·intro c4
   try simp only [nb] at c4
   refine Se rfl (Om rfl (Om rfl ?_))
   first | refine Ba rfl rfl _ rfl .free rfl ?_ | refine Bb rfl rfl _ rfl .free rfl ?_
   refine B0 rfl (Bh hstv Ae) .free rfl ?_; refine Bu rfl rfl rfl rfl .free ?_; refine Oa rfl (Aa ?_); refine Ak (.c rfl (.tmp rfl .nil)) ?_
   have hks : k.look s = some vv := by rw [← hlk, KE.look, if_pos (show mm = s from c4)]
   rw [H9]
   exact ⟨I, _, .refl _, Ms (L' := (b, _) :: L), _, by rw [hks]; rfl, by rw [hks]; exact hds, rfl⟩
  intro c4
  try simp only [nb] at c4
  refine Aj (Ar (Al rfl (Om rfl ?_))); refine Or rfl rfl rfl ?_; refine Oa rfl (Aa ?_)
  exact Bw (E' := [(0, .pointer (some ⟨b, 0, none⟩)), (2, .slice (some xn) k.names.length cn), (3, .slice (some xv) k.names.length cv), (5, .pointer (some ⟨b5, 0, none⟩)), (8, .pointer (some ⟨b8, 0, none⟩)), (12, .int .i64 ((up.names.length : Nat) - 1))]) ⟨rfl, rfl, rfl, rfl, rfl, rfl, trivial⟩ (ih up ⟨⟨mm :: rest, by rw [hrest]; simp [KE.names]⟩, ⟨us, _, hus, List.append_assoc _ _ _⟩, by rw [← hlk, KE.look, if_neg (show ¬ mm = s from c4)]⟩ (by simp only [KE.cons.sizeOf_spec]; omega))
 intro c3
 try simp only [nb] at c3
 have hF : False := by
  cases x with
  | nil => rw [hv0] at hlk; cases hlk
  | cons mm vv up => simp only [KE.names, List.length_append, List.length_cons, List.length_nil] at c3; omega
 refine Cd rfl ?_; refine Se rfl (Om rfl ?_); refine Az rfl .free rfl ?_
 first | refine Oh rfl ?_ | refine Oj rfl ?_
 refine Bu rfl rfl rfl rfl .free ?_; refine Aa (Se rfl ?_); refine B6 rfl rfl rfl .free rfl ?_; refine Bu rfl rfl rfl rfl .free ?_; refine Oa rfl (Aa ?_); refine Ak (.c rfl (.tmp rfl .nil)) ?_
 exact hF.elim
theorem Aa5 {N : Nat} {f x : Au} {s t : Ty} {bd : Ex} {I : Heap} {cs : List Value} {k : KE} {on ov : Option Addr} {cn cv : Nat} (m : Nat) (hn : m < N) (h : Rep I (Ex.fn f x s t bd).tree cs) (hok : (Ex.fn f x s t bd).ok = true) (hk : GEat I k on cn ov cv) (hkw : k.wf) (hd : ∀ y ∈ (Ex.fn f x s t bd).occ [], y ∈ k.dom) (htl : k.tall + 2 * (m + 1) ≤ 100000) (b : Nat) (L : Bm) :
  Fun Tryz.prog 54 [.pointer (some ⟨b, 0, none⟩), .agg cs.toArray, .slice on k.names.length cn, .slice ov k.names.length cv] I (H2 b (m + 1) false :: L) (Rk b (eval (m + 1) (Ex.fn f x s t bd) k) L) := by
 obtain ⟨oa, cc, oaf, cf, rfl, hf⟩ := h.at'
 have hlen : (Ex.fn f x s t bd).tree.parts.length = 6 := rfl
 obtain ⟨xa, rfl⟩ : ∃ xa, oa = some xa := ⟨_, C3 hf.nil (show 0 < 6 by decide)⟩
 have hat : (Ex.fn f x s t bd).tree.atom = [] := rfl
 unfold H2
 refine Ap Af ?_; refine Se rfl ?_; refine Cg rfl rfl .free rfl ?_; intro b5; refine A3 .free rfl ?_; intro b8; refine Oa rfl (Aa (Ah (Se rfl (Om rfl ?_)))); refine Az rfl .free rfl ?_
 first | refine Oh rfl ?_ | refine Oj rfl ?_
 refine Gr rfl .free rfl ?_; refine Oc rfl rfl rfl (Aa ?_)
 first | refine Sf rfl Ab ?_ | refine As Ai ?_
 refine Aj (Se rfl (Om rfl (Om rfl ?_))); refine Az rfl .free rfl ?_
 first | refine Oh rfl ?_ | refine Oj rfl ?_
 refine Gr rfl .free rfl ?_; refine Or rfl rfl rfl ?_; refine C9 (t := 30) (v' := .int .i64 (m : Nat)) rfl Eg ?_; refine Az rfl .free rfl ?_
 first | refine Oh rfl ?_ | refine Oj rfl ?_
 refine Bu rfl rfl rfl rfl .free ?_; refine Aa (Ah (Se rfl (Oh rfl ?_))); refine A4 rfl .free rfl ?_; refine Od rfl rfl rfl (Aa ?_)
 first | refine Ft rfl (by simp [hat]) ?_ | refine Fs rfl (by simp [hat]) ?_ | refine As Ai ?_
 refine Aj (Se rfl (Oh rfl ?_)); refine A4 rfl .free rfl ?_
 first | refine Ba rfl rfl 0 rfl .free rfl ?_ | refine Bb rfl rfl 0 rfl .free rfl ?_
 refine Bj rfl .free rfl ?_; refine Gj rfl .free rfl ?_; refine C9 (t := 71) (v' := .string (str [102, 117, 110])) rfl rfl ?_; refine Oa rfl (Aa (Ah (Se rfl (Om rfl (Od rfl rfl rfl (Aa ?_))))))
 first | refine St rfl (rfl) ?_ | refine Bo Ai ?_
 refine Se rfl ?_; refine A8 rfl .free rfl ?_; refine Om rfl (Om rfl ?_); refine B6 rfl rfl rfl .free rfl ?_; refine Bu rfl rfl rfl rfl .free ?_; refine Oa rfl (Aa ?_); refine Ak (.c rfl (.tmp rfl .nil)) ?_; rw [K5]
 exact ⟨I, _, .refl _, Ms (L' := (b, _) :: L), _, rfl, .clo h hk, rfl⟩
set_option maxHeartbeats 2000000 in
theorem Ze {N : Nat} (ihn : EvG N) {o : B5} {a d : Ex} {I : Heap} {cs : List Value} {k : KE} {on ov : Option Addr} {cn cv : Nat} (m : Nat) (hn : m < N) (h : Rep I (Ex.bin o a d).tree cs) (hok : (Ex.bin o a d).ok = true) (hk : GEat I k on cn ov cv) (hkw : k.wf) (hd : ∀ y ∈ (Ex.bin o a d).occ [], y ∈ k.dom) (htl : k.tall + 2 * (m + 1) ≤ 100000) (b : Nat) (L : Bm) :
  Fun Tryz.prog 54 [.pointer (some ⟨b, 0, none⟩), .agg cs.toArray, .slice on k.names.length cn, .slice ov k.names.length cv] I (H2 b (m + 1) false :: L) (Rk b (eval (m + 1) (Ex.bin o a d) k) L) := by
 obtain ⟨oa, cc, oaf, cf, rfl, hf⟩ := h.at'
 have hlen : (Ex.bin o a d).tree.parts.length = 3 := rfl
 obtain ⟨xa, rfl⟩ : ∃ xa, oa = some xa := ⟨_, C3 hf.nil (show 0 < 3 by decide)⟩
 have hat : (Ex.bin o a d).tree.atom = [] := rfl
 have hev : eag o.txt = [1, 2] := by cases o <;> rfl
 have hok0 := hok
 simp only [Ex.ok, Bool.and_eq_true] at hok
 unfold H2
 refine Ap Af ?_; refine Se rfl ?_; refine Cg rfl rfl .free rfl ?_; intro b5; refine A3 .free rfl ?_; intro b8; refine Oa rfl (Aa (Ah (Se rfl (Om rfl ?_)))); refine Az rfl .free rfl ?_
 first | refine Oh rfl ?_ | refine Oj rfl ?_
 refine Gr rfl .free rfl ?_; refine Oc rfl rfl rfl (Aa ?_)
 first | refine Sf rfl Ab ?_ | refine As Ai ?_
 refine Aj (Se rfl (Om rfl (Om rfl ?_))); refine Az rfl .free rfl ?_
 first | refine Oh rfl ?_ | refine Oj rfl ?_
 refine Gr rfl .free rfl ?_; refine Or rfl rfl rfl ?_; refine C9 (t := 30) (v' := .int .i64 (m : Nat)) rfl Eg ?_; refine Az rfl .free rfl ?_
 first | refine Oh rfl ?_ | refine Oj rfl ?_
 refine Bu rfl rfl rfl rfl .free ?_; refine Aa (Ah (Se rfl (Oh rfl ?_))); refine A4 rfl .free rfl ?_; refine Od rfl rfl rfl (Aa ?_)
 first | refine Ft rfl (by simp [hat]) ?_ | refine Fs rfl (by simp [hat]) ?_ | refine As Ai ?_
 refine Aj (Se rfl (Oh rfl ?_)); refine A4 rfl .free rfl ?_
 first | refine Ba rfl rfl 0 rfl .free rfl ?_ | refine Bb rfl rfl 0 rfl .free rfl ?_
 refine Bj rfl .free rfl ?_; refine Gj rfl .free rfl ?_; refine C9 (t := 71) (v' := .string (str o.txt)) rfl rfl ?_; refine Oa rfl (Aa (Ah (Se rfl (Om rfl (Od rfl rfl rfl (Aa ?_))))))
 first | refine Ft rfl (o.txt_ne.2.2.1) ?_ | refine Fs rfl (o.txt_ne.2.2.1) ?_ | refine As Ai ?_
 refine Aj (Se rfl (Om rfl ?_)); refine Ca rfl (Me o.txt _ _) ?_; rintro _ J0 _ e0 ⟨oq, ck, rfl, hn0, rfl⟩
 have hle := e0
 have hf := hf.mono e0
 have hk := hk.mono e0
 rw [hev] at hn0; rw [hev]; refine Oa rfl (Aa (Se rfl ?_)); refine El .free rfl ?_; intro b80; refine Oa rfl (Aa (Ah (Ah ?_))); refine Bk (fun w h => h.f3) ?_; refine Al rfl (Oa rfl (Aa (Aq ?_))); refine Ec ?_; refine Ah (Se rfl (Om rfl (Om rfl (On rfl (Oc rfl rfl rfl (Aa ?_)))))); refine Cj rfl Bp ?_; refine Aj (Ah (Aq (Ah ?_))); refine Mp 18 rfl rfl ?_
 refine Ql (X := Nat × Heap × List Value) (fun x => [(0, .pointer (some ⟨b, 0, none⟩)), (2, .slice on k.names.length cn), (3, .slice ov k.names.length cv), (5, .pointer (some ⟨b5, 0, none⟩)), (8, .pointer (some ⟨b8, 0, none⟩)), (14, .slice oq [1, 2].length ck), (15, .slice (some ⟨b80, 0, none⟩) 0 0), (16, .int .i64 0), (17, .pointer (some ⟨x.1, 0, none⟩)), (18, .bool (eval m a k).v.isSome)]) (fun x => x.2.1) (fun x => (x.1, .cells x.2.2.toArray 76 (0, 0)) :: (b, .cells [.int .i64 ((eval m a k).left : Nat), .bool (eval m a k).stuck].toArray 73 (0, 0)) :: (b80, .cells [].toArray 76 (0, 0)) :: (b8, .cells [.string (str []), .int .i64 0, .slice none 0 0, .string (str []), .slice none 0 0, .slice none 0 0, .slice none 0 0].toArray 76 (0, 0)) :: (b5, .cells [.string (str (Ex.bin o a d).tree.atom), .slice (some xa) (Ex.bin o a d).tree.parts.length cc].toArray 68 (0, 0)) :: L) (fun x => HLe J0 x.2.1 ∧ GO x.2.1 (eval m a k).v x.2.2) ?_ ?_
 ·rintro ⟨b17, J1, gs⟩ ⟨e1, hg1⟩
  simp only at e1 hg1 ⊢
  obtain ⟨x1, x2, x3, x4, x5, x6, x7, x8, x9, x10, x11, x12, x13, x14, rfl⟩ := hg1.open
  have hle := hle.trans e1
  have hf := hf.mono e1
  have hk := hk.mono e1
  have hn0 := hn0.mono e1
  refine Ah (Se rfl (Om rfl ?_)); refine C6 rfl .free rfl ?_; refine Aa ?_; refine Ay rfl ?_ ?_
  ·intro c7
   try simp only [nb] at c7
   have hv0 : (eval m a k).v = none := by
    cases h : (eval m a k).v with
    | none => rfl
    | some w => rw [h] at c7; cases c7
   refine Se rfl ?_; refine Gr rfl .free rfl ?_; refine Bu rfl rfl rfl rfl .free ?_; refine Oa rfl (Aa ?_); refine Ak (.c rfl (.tmp rfl .nil)) ?_
   have hR : eval (m + 1) (Ex.bin o a d) k = (eval m a k) := by rw [Gt]; simp only [hv0]
   rw [hR]
   exact ⟨J1, _, hle, Ms (L' := (b, _) :: L), _, by rw [hv0]; rfl, hg1, rfl⟩
  intro c7
  try simp only [nb] at c7
  obtain ⟨u, hv0⟩ : ∃ w, (eval m a k).v = some w := Option.isSome_iff_exists.1 (by simpa using c7); rw [hv0] at hg1
  have hau : GVat J1 u [.string (str x1), .int .i64 x2, .slice x3 x4 x5, .string (str []), .slice x6 x7 x8, .slice x9 x10 x11, .slice x12 x13 x14] := hg1
  obtain ⟨wu, hst0⟩ := U5 hkw hok.1 (fun y hy => hd y (List.mem_append_left _ hy)) hv0
  have hl1 := B9 m a k
  have htu := Ks m a k hv0
  rw [hst0]; refine Aj (Al rfl (Om rfl ?_)); refine Gr rfl .free rfl ?_; refine Ol rfl rfl ?_; intro b107; refine Ea (B := some (b80, [])) (xs := []) (ys := [.string (str x1), .int .i64 x2, .slice x3 x4 x5, .string (str []), .slice x6 x7 x8, .slice x9 x10 x11, .slice x12 x13 x14]) (m := 0) (c := 0) Bl Ae rfl rfl ⟨rfl, Nat.le_refl _, rfl⟩ (fun _ h => h.f3) Ae (fun a ha => by cases ha; exact Cm (.head _) Ae) Af Ae Ad Ad Ab Ad .free rfl ?_; intro bb sp c2 hB
  simp only [List.nil_append]
  refine Oa rfl (Aa (Ar ?_)); refine Bk (fun w h => (Mem.sub (L' := (bb, _) :: (b, _) :: (b8, _) :: (b5, _) :: L) Bz h).f1) ?_; refine Al rfl (Om rfl ?_); refine Or rfl rfl rfl ?_; refine C9 (t := 86) (v' := .int .i64 ((1 : Nat))) rfl Ae ?_; refine Oa rfl (Aa ?_); refine Ce ?_; refine Ah (Se rfl (Om rfl (Om rfl (On rfl (Oc rfl rfl rfl (Aa ?_)))))); refine Cj rfl Bp ?_; refine Aj (Ah (Aq (Ah ?_))); refine Mp 18 rfl rfl ?_
  refine Ql (X := Nat × Heap × List Value) (fun x => [(0, .pointer (some ⟨b, 0, none⟩)), (2, .slice on k.names.length cn), (3, .slice ov k.names.length cv), (5, .pointer (some ⟨b5, 0, none⟩)), (8, .pointer (some ⟨b8, 0, none⟩)), (14, .slice oq [1, 2].length ck), (15, .slice (some ⟨bb, 0, none⟩) (0 + 1) c2), (16, .int .i64 ((1 : Nat))), (17, .pointer (some ⟨x.1, 0, none⟩)), (18, .bool (eval (eval m a k).left d k).v.isSome)]) (fun x => x.2.1) (fun x => (x.1, .cells x.2.2.toArray 76 (0, 0)) :: (b, .cells [.int .i64 ((eval (eval m a k).left d k).left : Nat), .bool (eval (eval m a k).left d k).stuck].toArray 73 (0, 0)) :: (bb, .cells (([.string (str x1), .int .i64 x2, .slice x3 x4 x5, .string (str []), .slice x6 x7 x8, .slice x9 x10 x11, .slice x12 x13 x14] : List Value) ++ sp).toArray 76 (0, 0)) :: (b8, .cells [.string (str []), .int .i64 0, .slice none 0 0, .string (str []), .slice none 0 0, .slice none 0 0, .slice none 0 0].toArray 76 (0, 0)) :: (b5, .cells [.string (str (Ex.bin o a d).tree.atom), .slice (some xa) (Ex.bin o a d).tree.parts.length cc].toArray 68 (0, 0)) :: L) (fun x => HLe J1 x.2.1 ∧ GO x.2.1 (eval (eval m a k).left d k).v x.2.2) ?_ ?_
  ·rintro ⟨b17, J2, gs⟩ ⟨e2, hg2⟩
   simp only at e2 hg2 ⊢
   obtain ⟨y1, y2, y3, y4, y5, y6, y7, y8, y9, y10, y11, y12, y13, y14, rfl⟩ := hg2.open
   have hle := hle.trans e2
   have hf := hf.mono e2
   have hk := hk.mono e2
   have hn0 := hn0.mono e2
   refine Ah (Se rfl (Om rfl ?_)); refine C6 rfl .free rfl ?_; refine Aa ?_; refine Ay rfl ?_ ?_
   ·intro c7
    try simp only [nb] at c7
    have hv1 : (eval (eval m a k).left d k).v = none := by
     cases h : (eval (eval m a k).left d k).v with
     | none => rfl
     | some w => rw [h] at c7; cases c7
    refine Se rfl ?_; refine Gr rfl .free rfl ?_; refine Bu rfl rfl rfl rfl .free ?_; refine Oa rfl (Aa ?_); refine Ak (.c rfl (.tmp rfl .nil)) ?_
    have hR : eval (m + 1) (Ex.bin o a d) k = (eval (eval m a k).left d k) := by rw [Gt]; simp only [hv0, hv1]
    rw [hR]
    exact ⟨J2, _, hle, Ms (L' := (b, _) :: L), _, by rw [hv1]; rfl, hg2, rfl⟩
   intro c7
   try simp only [nb] at c7
   obtain ⟨v, hv1⟩ : ∃ w, (eval (eval m a k).left d k).v = some w := Option.isSome_iff_exists.1 (by simpa using c7); rw [hv1] at hg2
   have hav : GVat J2 v [.string (str y1), .int .i64 y2, .slice y3 y4 y5, .string (str []), .slice y6 y7 y8, .slice y9 y10 y11, .slice y12 y13 y14] := hg2
   obtain ⟨wv, hst1⟩ := U5 hkw hok.2 (fun y hy => hd y (List.mem_append_right _ hy)) hv1
   have hl2 := B9 (eval m a k).left d k
   have htv := Ks (eval m a k).left d k hv1
   rw [hst1]; refine Aj (Al rfl (Om rfl ?_)); refine Gr rfl .free rfl ?_; refine Ol rfl rfl ?_; intro b107; refine Ea (B := some (bb, sp)) (xs := [.string (str x1), .int .i64 x2, .slice x3 x4 x5, .string (str []), .slice x6 x7 x8, .slice x9 x10 x11, .slice x12 x13 x14]) (ys := [.string (str y1), .int .i64 y2, .slice y3 y4 y5, .string (str []), .slice y6 y7 y8, .slice y9 y10 y11, .slice y12 y13 y14]) (m := 1) (c := c2) Bl Ae rfl rfl hB (fun _ h => h.f3) Ae (fun a ha => by cases ha; exact Cm (.head _) Ae) Af Ae Ad Ad Ab Ad .free rfl ?_; intro bb2 sp2 c3 hB2; refine Oa rfl (Aa (Ar ?_))
   refine Bk (fun w h => (Mem.sub (L' := (bb2, _) :: (b, _) :: (b8, _) :: (b5, _) :: L) Bz h).f1) ?_; refine Al rfl (Om rfl ?_); refine Or rfl rfl rfl ?_; refine Oa rfl (Aa ?_); refine Ce ?_; refine Ah (Se rfl (Om rfl (Om rfl (On rfl (Oc rfl rfl rfl (Aa ?_)))))); refine Dh rfl Bp ?_; refine Cd rfl ?_; refine Ah ?_; refine Bk (fun w h => h.f1) (Bn ?_); intro hz
   have hq := Bi (I := J2) (b := bb2) (xs := [.string (str x1), .int .i64 x2, .slice x3 x4 x5, .string (str []), .slice x6 x7 x8, .slice x9 x10 x11, .slice x12 x13 x14] ++ [.string (str y1), .int .i64 y2, .slice y3 y4 y5, .string (str []), .slice y6 y7 y8, .slice y9 y10 y11, .slice y12 y13 y14]) (ys := sp2) (T := 76) (fr := (0, 0))
   have hle := hle.trans hz
   have hf := hf.mono hz
   have hk := hk.mono hz
   have hau := hau.mono (e2.trans hz)
   have hav := hav.mono hz
   refine Al rfl (Om rfl ?_); refine A8 rfl .free rfl ?_
   iterate 3 refine Om rfl ?_
   refine Ca rfl (Aci ihn wu wv hf.rep hau hav hq hB2.2.1 (k := k) b (eval (eval m a k).left d k).left Ab Ab Ab Ab Ab _) ?_; rintro _ J3 _ e3 ⟨gs5, rfl, hg5, rfl⟩
   have hle := hle.trans e3
   obtain ⟨_, _, _, _, _, _, _, _, _, _, _, _, _, _, rfl⟩ := hg5.open
   unfold H2
   refine Oe rfl rfl (Oe rfl rfl ?_); refine Bu rfl rfl rfl rfl .free ?_; refine Oa rfl (Aa ?_); refine Ak (.c rfl (.tmp rfl .nil)) ?_
   have hR : eval (m + 1) (Ex.bin o a d) k = Ln o u v (eval (eval m a k).left d k).left := by rw [Kr]; simp only [hv0, hv1]
   rw [hR]
   exact ⟨J3, _, hle, Ms (L' := (b, _) :: L), _, rfl, hg5, rfl⟩
  ·intro hkk
   skip
   refine Da 0 rfl (Am rfl) ?_; refine Da 1 rfl (Ao rfl) ?_; refine Dt 2 [16] rfl (By rfl) ?_; refine Da 3 rfl (Am rfl) ?_; refine Da 4 rfl (Am rfl) ?_
   first | refine Da 5 rfl (Br rfl rfl _ rfl) ?_ | refine Da 5 rfl (Bs rfl rfl _ rfl) ?_
   refine Dt 6 [16] rfl (P5 rfl) ?_
   first | refine Da 7 rfl (Br rfl rfl _ rfl) ?_ | refine Da 7 rfl (Bs rfl rfl _ rfl) ?_
   refine Dt 8 [16] rfl (Bx rfl) ?_; refine Da 9 rfl (Am rfl) ?_; refine Da 10 rfl (Am rfl) ?_; refine Dj 11 15 Ac ?_ ?_
   ·skip
    first
     | (refine Df (L' := (b, _) :: _) (fun w h => h) ?_)
     | (refine Df (fun w h => h.f1) ?_)
     | skip
    refine K9 11 rfl rfl rfl .free rfl (ihn (eval m a k).left Ab (hf.as 2 d.tree Ab rfl) hok.2 hk hkw (fun y hy => hd y (List.mem_append_right _ hy)) Ab b _) ?_; rintro _ J2 _ e2 ⟨gs, rfl, hg2, rfl⟩; obtain ⟨y1, y2, y3, y4, y5, y6, y7, y8, y9, y10, y11, y12, y13, y14, rfl⟩ := hg2.open
    unfold H2
    refine Hx ?_; refine Da 12 rfl (Am rfl) ?_; refine Da 13 rfl (Co rfl rfl) ?_; refine Da 14 rfl (Co rfl rfl) ?_; refine Er 15 rfl Ac rfl .free rfl (.inr At) ?_; intro b17; refine Dx 16 rfl rfl rfl rfl ?_; refine Db 17 rfl (A5 rfl) ?_; refine Aw Ac ?_
    exact Bw (E' := [(0, _), (2, _), (3, _), (5, _), (8, _), (14, _), (15, _), (16, _), (17, _), (18, _)]) ⟨rfl, rfl, rfl, rfl, rfl, rfl, rfl, rfl, rfl, rfl, trivial⟩ (Bk Gl (hkk ⟨b17, J2, [.string (str y1), .int .i64 y2, .slice y3 y4 y5, .string (str []), .slice y6 y7 y8, .slice y9 y10 y11, .slice y12 y13 y14]⟩ ⟨e2, hg2⟩))
   ·skip
    refine Ct 15 rfl rfl .free rfl (.inr At) ?_; intro b17
    first
     | (refine Df (L' := (b, _) :: _) (fun w h => h) ?_)
     | (refine Df (fun w h => h.f1) ?_)
     | skip
    refine Dc 11 rfl rfl (ihn (eval m a k).left Ab (hf.as 2 d.tree Ab rfl) hok.2 hk hkw (fun y hy => hd y (List.mem_append_right _ hy)) Ab b _) ?_; rintro _ J2 _ e2 ⟨gs, rfl, hg2, rfl⟩; obtain ⟨y1, y2, y3, y4, y5, y6, y7, y8, y9, y10, y11, y12, y13, y14, rfl⟩ := hg2.open
    unfold H2
    refine Hx ?_; refine Da 12 rfl (Am rfl) ?_; refine Da 13 rfl (Co rfl rfl) ?_; refine Da 14 rfl (Co rfl rfl) ?_; refine Dx 16 rfl rfl rfl rfl ?_; refine Db 17 rfl (A5 rfl) ?_; refine Aw Ac ?_
    exact Bw (E' := [(0, _), (2, _), (3, _), (5, _), (8, _), (14, _), (15, _), (16, _), (17, _), (18, _)]) ⟨rfl, rfl, rfl, rfl, rfl, rfl, rfl, rfl, rfl, rfl, trivial⟩ (Bk Gl (hkk ⟨b17, J2, [.string (str y1), .int .i64 y2, .slice y3 y4 y5, .string (str []), .slice y6 y7 y8, .slice y9 y10 y11, .slice y12 y13 y14]⟩ ⟨e2, hg2⟩))
 ·intro hkk
  skip
  refine Da 0 rfl (Am rfl) ?_; refine Da 1 rfl (Ao rfl) ?_; refine Dt 2 [16] rfl (By rfl) ?_; refine Da 3 rfl (Am rfl) ?_; refine Da 4 rfl (Am rfl) ?_
  first | refine Da 5 rfl (Br rfl rfl _ rfl) ?_ | refine Da 5 rfl (Bs rfl rfl _ rfl) ?_
  refine Dt 6 [16] rfl (P5 rfl) ?_
  first | refine Da 7 rfl (Br rfl rfl _ rfl) ?_ | refine Da 7 rfl (Bs rfl rfl _ rfl) ?_
  refine Dt 8 [16] rfl (Bx rfl) ?_; refine Da 9 rfl (Am rfl) ?_; refine Da 10 rfl (Am rfl) ?_; refine Dj 11 15 Ac ?_ ?_
  ·skip
   first
    | (refine Df (L' := (b, _) :: _) (fun w h => h) ?_)
    | (refine Df (fun w h => h.f1) ?_)
    | skip
   refine K9 11 rfl rfl rfl .free rfl (ihn m Ab (hf.as 1 a.tree Ab rfl) hok.1 hk hkw (fun y hy => hd y (List.mem_append_left _ hy)) Ab b _) ?_; rintro _ J1 _ e1 ⟨gs, rfl, hg1, rfl⟩; obtain ⟨x1, x2, x3, x4, x5, x6, x7, x8, x9, x10, x11, x12, x13, x14, rfl⟩ := hg1.open
   unfold H2
   refine Hx ?_; refine Da 12 rfl (Am rfl) ?_; refine Da 13 rfl (Co rfl rfl) ?_; refine Da 14 rfl (Co rfl rfl) ?_; refine Er 15 rfl Ac rfl .free rfl (.inr At) ?_; intro b17; refine Dx 16 rfl rfl rfl rfl ?_; refine Db 17 rfl (A5 rfl) ?_; refine Aw Ac ?_
   exact Bw (E' := [(0, _), (2, _), (3, _), (5, _), (8, _), (14, _), (15, _), (16, _), (17, _), (18, _)]) ⟨rfl, rfl, rfl, rfl, rfl, rfl, rfl, rfl, rfl, rfl, trivial⟩ (Bk Gl (hkk ⟨b17, J1, [.string (str x1), .int .i64 x2, .slice x3 x4 x5, .string (str []), .slice x6 x7 x8, .slice x9 x10 x11, .slice x12 x13 x14]⟩ ⟨e1, hg1⟩))
  ·skip
   refine Ct 15 rfl rfl .free rfl (.inr At) ?_; intro b17
   first
    | (refine Df (L' := (b, _) :: _) (fun w h => h) ?_)
    | (refine Df (fun w h => h.f1) ?_)
    | skip
   refine Dc 11 rfl rfl (ihn m Ab (hf.as 1 a.tree Ab rfl) hok.1 hk hkw (fun y hy => hd y (List.mem_append_left _ hy)) Ab b _) ?_; rintro _ J1 _ e1 ⟨gs, rfl, hg1, rfl⟩; obtain ⟨x1, x2, x3, x4, x5, x6, x7, x8, x9, x10, x11, x12, x13, x14, rfl⟩ := hg1.open
   unfold H2
   refine Hx ?_; refine Da 12 rfl (Am rfl) ?_; refine Da 13 rfl (Co rfl rfl) ?_; refine Da 14 rfl (Co rfl rfl) ?_; refine Dx 16 rfl rfl rfl rfl ?_; refine Db 17 rfl (A5 rfl) ?_; refine Aw Ac ?_
   exact Bw (E' := [(0, _), (2, _), (3, _), (5, _), (8, _), (14, _), (15, _), (16, _), (17, _), (18, _)]) ⟨rfl, rfl, rfl, rfl, rfl, rfl, rfl, rfl, rfl, rfl, trivial⟩ (Bk Gl (hkk ⟨b17, J1, [.string (str x1), .int .i64 x2, .slice x3 x4 x5, .string (str []), .slice x6 x7 x8, .slice x9 x10 x11, .slice x12 x13 x14]⟩ ⟨e1, hg1⟩))
set_option maxHeartbeats 2000000 in
theorem Zf {N : Nat} (ihn : EvG N) {a d g : Ex} {I : Heap} {cs : List Value} {k : KE} {on ov : Option Addr} {cn cv : Nat} (m : Nat) (hn : m < N) (h : Rep I (Ex.ite a d g).tree cs) (hok : (Ex.ite a d g).ok = true) (hk : GEat I k on cn ov cv) (hkw : k.wf) (hd : ∀ y ∈ (Ex.ite a d g).occ [], y ∈ k.dom) (htl : k.tall + 2 * (m + 1) ≤ 100000) (b : Nat) (L : Bm) :
  Fun Tryz.prog 54 [.pointer (some ⟨b, 0, none⟩), .agg cs.toArray, .slice on k.names.length cn, .slice ov k.names.length cv] I (H2 b (m + 1) false :: L) (Rk b (eval (m + 1) (Ex.ite a d g) k) L) := by
 obtain ⟨oa, cc, oaf, cf, rfl, hf⟩ := h.at'
 have hlen : (Ex.ite a d g).tree.parts.length = 4 := rfl
 obtain ⟨xa, rfl⟩ : ∃ xa, oa = some xa := ⟨_, C3 hf.nil (show 0 < 4 by decide)⟩
 have hat : (Ex.ite a d g).tree.atom = [] := rfl
 have hev : eag [105, 102] = [1] := rfl
 have hok0 := hok
 simp only [Ex.ok, Bool.and_eq_true] at hok
 unfold H2
 refine Ap Af ?_; refine Se rfl ?_; refine Cg rfl rfl .free rfl ?_; intro b5; refine A3 .free rfl ?_; intro b8; refine Oa rfl (Aa (Ah (Se rfl (Om rfl ?_)))); refine Az rfl .free rfl ?_
 first | refine Oh rfl ?_ | refine Oj rfl ?_
 refine Gr rfl .free rfl ?_; refine Oc rfl rfl rfl (Aa ?_)
 first | refine Sf rfl Ab ?_ | refine As Ai ?_
 refine Aj (Se rfl (Om rfl (Om rfl ?_))); refine Az rfl .free rfl ?_
 first | refine Oh rfl ?_ | refine Oj rfl ?_
 refine Gr rfl .free rfl ?_; refine Or rfl rfl rfl ?_; refine C9 (t := 30) (v' := .int .i64 (m : Nat)) rfl Eg ?_; refine Az rfl .free rfl ?_
 first | refine Oh rfl ?_ | refine Oj rfl ?_
 refine Bu rfl rfl rfl rfl .free ?_; refine Aa (Ah (Se rfl (Oh rfl ?_))); refine A4 rfl .free rfl ?_; refine Od rfl rfl rfl (Aa ?_)
 first | refine Ft rfl (by simp [hat]) ?_ | refine Fs rfl (by simp [hat]) ?_ | refine As Ai ?_
 refine Aj (Se rfl (Oh rfl ?_)); refine A4 rfl .free rfl ?_
 first | refine Ba rfl rfl 0 rfl .free rfl ?_ | refine Bb rfl rfl 0 rfl .free rfl ?_
 refine Bj rfl .free rfl ?_; refine Gj rfl .free rfl ?_; refine C9 (t := 71) (v' := .string (str [105, 102])) rfl rfl ?_; refine Oa rfl (Aa (Ah (Se rfl (Om rfl (Od rfl rfl rfl (Aa ?_))))))
 first | refine Sf rfl Ad ?_ | refine As Ai ?_
 refine Aj (Se rfl (Om rfl ?_)); refine Ca rfl (Me [105, 102] _ _) ?_; rintro _ J0 _ e0 ⟨oq, ck, rfl, hn0, rfl⟩
 have hle := e0
 have hf := hf.mono e0
 have hk := hk.mono e0
 rw [hev] at hn0; rw [hev]; refine Oa rfl (Aa (Se rfl ?_)); refine El .free rfl ?_; intro b80; refine Oa rfl (Aa (Ah (Ah ?_))); refine Bk (fun w h => h.f3) ?_; refine Al rfl (Oa rfl (Aa (Aq ?_))); refine Ec ?_; refine Ah (Se rfl (Om rfl (Om rfl (On rfl (Oc rfl rfl rfl (Aa ?_)))))); refine Cj rfl Bp ?_; refine Aj (Ah (Aq (Ah ?_))); refine Mp 18 rfl rfl ?_
 refine Ql (X := Nat × Heap × List Value) (fun x => [(0, .pointer (some ⟨b, 0, none⟩)), (2, .slice on k.names.length cn), (3, .slice ov k.names.length cv), (5, .pointer (some ⟨b5, 0, none⟩)), (8, .pointer (some ⟨b8, 0, none⟩)), (14, .slice oq [1].length ck), (15, .slice (some ⟨b80, 0, none⟩) 0 0), (16, .int .i64 0), (17, .pointer (some ⟨x.1, 0, none⟩)), (18, .bool (eval m a k).v.isSome)]) (fun x => x.2.1) (fun x => (x.1, .cells x.2.2.toArray 76 (0, 0)) :: (b, .cells [.int .i64 ((eval m a k).left : Nat), .bool (eval m a k).stuck].toArray 73 (0, 0)) :: (b80, .cells [].toArray 76 (0, 0)) :: (b8, .cells [.string (str []), .int .i64 0, .slice none 0 0, .string (str []), .slice none 0 0, .slice none 0 0, .slice none 0 0].toArray 76 (0, 0)) :: (b5, .cells [.string (str (Ex.ite a d g).tree.atom), .slice (some xa) (Ex.ite a d g).tree.parts.length cc].toArray 68 (0, 0)) :: L) (fun x => HLe J0 x.2.1 ∧ GO x.2.1 (eval m a k).v x.2.2) ?_ ?_
 ·rintro ⟨b17, J1, gs⟩ ⟨e1, hg1⟩
  simp only at e1 hg1 ⊢
  obtain ⟨x1, x2, x3, x4, x5, x6, x7, x8, x9, x10, x11, x12, x13, x14, rfl⟩ := hg1.open
  have hle := hle.trans e1
  have hf := hf.mono e1
  have hk := hk.mono e1
  have hn0 := hn0.mono e1
  refine Ah (Se rfl (Om rfl ?_)); refine C6 rfl .free rfl ?_; refine Aa ?_; refine Ay rfl ?_ ?_
  ·intro c7
   try simp only [nb] at c7
   have hv0 : (eval m a k).v = none := by
    cases h : (eval m a k).v with
    | none => rfl
    | some w => rw [h] at c7; cases c7
   refine Se rfl ?_; refine Gr rfl .free rfl ?_; refine Bu rfl rfl rfl rfl .free ?_; refine Oa rfl (Aa ?_); refine Ak (.c rfl (.tmp rfl .nil)) ?_
   have hR : eval (m + 1) (Ex.ite a d g) k = (eval m a k) := by rw [Ha]; simp only [hv0]
   rw [hR]
   exact ⟨J1, _, hle, Ms (L' := (b, _) :: L), _, by rw [hv0]; rfl, hg1, rfl⟩
  intro c7
  try simp only [nb] at c7
  obtain ⟨u, hv0⟩ : ∃ w, (eval m a k).v = some w := Option.isSome_iff_exists.1 (by simpa using c7); rw [hv0] at hg1
  have hau : GVat J1 u [.string (str x1), .int .i64 x2, .slice x3 x4 x5, .string (str []), .slice x6 x7 x8, .slice x9 x10 x11, .slice x12 x13 x14] := hg1
  obtain ⟨wu, hst0⟩ := U5 hkw hok.1.1 (fun y hy => hd y (List.mem_append_left _ (List.mem_append_left _ hy))) hv0
  have hl1 := B9 m a k
  have htu := Ks m a k hv0
  rw [hst0]; refine Aj (Al rfl (Om rfl ?_)); refine Gr rfl .free rfl ?_; refine Ol rfl rfl ?_; intro b107; refine Ea (B := some (b80, [])) (xs := []) (ys := [.string (str x1), .int .i64 x2, .slice x3 x4 x5, .string (str []), .slice x6 x7 x8, .slice x9 x10 x11, .slice x12 x13 x14]) (m := 0) (c := 0) Bl Ae rfl rfl ⟨rfl, Nat.le_refl _, rfl⟩ (fun _ h => h.f3) Ae (fun a ha => by cases ha; exact Cm (.head _) Ae) Af Ae Ad Ad Ab Ad .free rfl ?_; intro bb sp c2 hB
  simp only [List.nil_append]
  refine Oa rfl (Aa (Ar ?_)); refine Bk (fun w h => (Mem.sub (L' := (bb, _) :: (b, _) :: (b8, _) :: (b5, _) :: L) Bz h).f1) ?_; refine Al rfl (Om rfl ?_); refine Or rfl rfl rfl ?_; refine C9 (t := 86) (v' := .int .i64 ((1 : Nat))) rfl Ae ?_; refine Oa rfl (Aa ?_); refine Ce ?_; refine Ah (Se rfl (Om rfl (Om rfl (On rfl (Oc rfl rfl rfl (Aa ?_)))))); refine Dh rfl Bp ?_; refine Cd rfl ?_; refine Ah ?_; refine Bk (fun w h => h.f1) (Bn ?_); intro hz
  have hq := Bi (I := J1) (b := bb) (xs := [.string (str x1), .int .i64 x2, .slice x3 x4 x5, .string (str []), .slice x6 x7 x8, .slice x9 x10 x11, .slice x12 x13 x14]) (ys := sp) (T := 76) (fr := (0, 0))
  have hle := hle.trans hz
  have hf := hf.mono hz
  have hk := hk.mono hz
  have hau := hau.mono hz
  refine Al rfl (Om rfl ?_); refine A8 rfl .free rfl ?_
  iterate 3 refine Om rfl ?_
  refine Ca rfl (Adt ihn wu hf.rep hok0 hau hq hk hkw b (eval m a k).left Ab Ab Ab (fun y hy => hd y (List.mem_append_left _ (List.mem_append_right _ hy))) (fun y hy => hd y (List.mem_append_right _ hy)) _) ?_; rintro _ J3 _ e3 ⟨gs5, rfl, hg5, rfl⟩
  have hle := hle.trans e3
  obtain ⟨_, _, _, _, _, _, _, _, _, _, _, _, _, _, rfl⟩ := hg5.open
  unfold H2
  refine Oe rfl rfl (Oe rfl rfl ?_); refine Bu rfl rfl rfl rfl .free ?_; refine Oa rfl (Aa ?_); refine Ak (.c rfl (.tmp rfl .nil)) ?_
  have hR : eval (m + 1) (Ex.ite a d g) k = Adw u (eval m a k).left d g k := by rw [Ha]; simp only [hv0]; cases u <;> rfl
  rw [hR]
  exact ⟨J3, _, hle, Ms (L' := (b, _) :: L), _, rfl, hg5, rfl⟩
 ·intro hkk
  skip
  refine Da 0 rfl (Am rfl) ?_; refine Da 1 rfl (Ao rfl) ?_; refine Dt 2 [16] rfl (By rfl) ?_; refine Da 3 rfl (Am rfl) ?_; refine Da 4 rfl (Am rfl) ?_
  first | refine Da 5 rfl (Br rfl rfl _ rfl) ?_ | refine Da 5 rfl (Bs rfl rfl _ rfl) ?_
  refine Dt 6 [16] rfl (P5 rfl) ?_
  first | refine Da 7 rfl (Br rfl rfl _ rfl) ?_ | refine Da 7 rfl (Bs rfl rfl _ rfl) ?_
  refine Dt 8 [16] rfl (Bx rfl) ?_; refine Da 9 rfl (Am rfl) ?_; refine Da 10 rfl (Am rfl) ?_; refine Dj 11 15 Ac ?_ ?_
  ·skip
   first
    | (refine Df (L' := (b, _) :: _) (fun w h => h) ?_)
    | (refine Df (fun w h => h.f1) ?_)
    | skip
   refine K9 11 rfl rfl rfl .free rfl (ihn m Ab (hf.as 1 a.tree Ab rfl) hok.1.1 hk hkw (fun y hy => hd y (List.mem_append_left _ (List.mem_append_left _ hy))) Ab b _) ?_; rintro _ J1 _ e1 ⟨gs, rfl, hg1, rfl⟩; obtain ⟨x1, x2, x3, x4, x5, x6, x7, x8, x9, x10, x11, x12, x13, x14, rfl⟩ := hg1.open
   unfold H2
   refine Hx ?_; refine Da 12 rfl (Am rfl) ?_; refine Da 13 rfl (Co rfl rfl) ?_; refine Da 14 rfl (Co rfl rfl) ?_; refine Er 15 rfl Ac rfl .free rfl (.inr At) ?_; intro b17; refine Dx 16 rfl rfl rfl rfl ?_; refine Db 17 rfl (A5 rfl) ?_; refine Aw Ac ?_
   exact Bw (E' := [(0, _), (2, _), (3, _), (5, _), (8, _), (14, _), (15, _), (16, _), (17, _), (18, _)]) ⟨rfl, rfl, rfl, rfl, rfl, rfl, rfl, rfl, rfl, rfl, trivial⟩ (Bk Gl (hkk ⟨b17, J1, [.string (str x1), .int .i64 x2, .slice x3 x4 x5, .string (str []), .slice x6 x7 x8, .slice x9 x10 x11, .slice x12 x13 x14]⟩ ⟨e1, hg1⟩))
  ·skip
   refine Ct 15 rfl rfl .free rfl (.inr At) ?_; intro b17
   first
    | (refine Df (L' := (b, _) :: _) (fun w h => h) ?_)
    | (refine Df (fun w h => h.f1) ?_)
    | skip
   refine Dc 11 rfl rfl (ihn m Ab (hf.as 1 a.tree Ab rfl) hok.1.1 hk hkw (fun y hy => hd y (List.mem_append_left _ (List.mem_append_left _ hy))) Ab b _) ?_; rintro _ J1 _ e1 ⟨gs, rfl, hg1, rfl⟩; obtain ⟨x1, x2, x3, x4, x5, x6, x7, x8, x9, x10, x11, x12, x13, x14, rfl⟩ := hg1.open
   unfold H2
   refine Hx ?_; refine Da 12 rfl (Am rfl) ?_; refine Da 13 rfl (Co rfl rfl) ?_; refine Da 14 rfl (Co rfl rfl) ?_; refine Dx 16 rfl rfl rfl rfl ?_; refine Db 17 rfl (A5 rfl) ?_; refine Aw Ac ?_
   exact Bw (E' := [(0, _), (2, _), (3, _), (5, _), (8, _), (14, _), (15, _), (16, _), (17, _), (18, _)]) ⟨rfl, rfl, rfl, rfl, rfl, rfl, rfl, rfl, rfl, rfl, trivial⟩ (Bk Gl (hkk ⟨b17, J1, [.string (str x1), .int .i64 x2, .slice x3 x4 x5, .string (str []), .slice x6 x7 x8, .slice x9 x10 x11, .slice x12 x13 x14]⟩ ⟨e1, hg1⟩))
set_option maxHeartbeats 2000000 in
theorem Aa6 {N : Nat} (ihn : EvG N) {z : Au} {a d : Ex} {I : Heap} {cs : List Value} {k : KE} {on ov : Option Addr} {cn cv : Nat} (m : Nat) (hn : m < N) (h : Rep I (Ex.lt z a d).tree cs) (hok : (Ex.lt z a d).ok = true) (hk : GEat I k on cn ov cv) (hkw : k.wf) (hd : ∀ y ∈ (Ex.lt z a d).occ [], y ∈ k.dom) (htl : k.tall + 2 * (m + 1) ≤ 100000) (b : Nat) (L : Bm) :
  Fun Tryz.prog 54 [.pointer (some ⟨b, 0, none⟩), .agg cs.toArray, .slice on k.names.length cn, .slice ov k.names.length cv] I (H2 b (m + 1) false :: L) (Rk b (eval (m + 1) (Ex.lt z a d) k) L) := by
 obtain ⟨oa, cc, oaf, cf, rfl, hf⟩ := h.at'
 have hlen : (Ex.lt z a d).tree.parts.length = 4 := rfl
 obtain ⟨xa, rfl⟩ : ∃ xa, oa = some xa := ⟨_, C3 hf.nil (show 0 < 4 by decide)⟩
 have hat : (Ex.lt z a d).tree.atom = [] := rfl
 have hev : eag [108, 101, 116] = [2] := rfl
 have hok0 := hok
 simp only [Ex.ok, Bool.and_eq_true] at hok
 unfold H2
 refine Ap Af ?_; refine Se rfl ?_; refine Cg rfl rfl .free rfl ?_; intro b5; refine A3 .free rfl ?_; intro b8; refine Oa rfl (Aa (Ah (Se rfl (Om rfl ?_)))); refine Az rfl .free rfl ?_
 first | refine Oh rfl ?_ | refine Oj rfl ?_
 refine Gr rfl .free rfl ?_; refine Oc rfl rfl rfl (Aa ?_)
 first | refine Sf rfl Ab ?_ | refine As Ai ?_
 refine Aj (Se rfl (Om rfl (Om rfl ?_))); refine Az rfl .free rfl ?_
 first | refine Oh rfl ?_ | refine Oj rfl ?_
 refine Gr rfl .free rfl ?_; refine Or rfl rfl rfl ?_; refine C9 (t := 30) (v' := .int .i64 (m : Nat)) rfl Eg ?_; refine Az rfl .free rfl ?_
 first | refine Oh rfl ?_ | refine Oj rfl ?_
 refine Bu rfl rfl rfl rfl .free ?_; refine Aa (Ah (Se rfl (Oh rfl ?_))); refine A4 rfl .free rfl ?_; refine Od rfl rfl rfl (Aa ?_)
 first | refine Ft rfl (by simp [hat]) ?_ | refine Fs rfl (by simp [hat]) ?_ | refine As Ai ?_
 refine Aj (Se rfl (Oh rfl ?_)); refine A4 rfl .free rfl ?_
 first | refine Ba rfl rfl 0 rfl .free rfl ?_ | refine Bb rfl rfl 0 rfl .free rfl ?_
 refine Bj rfl .free rfl ?_; refine Gj rfl .free rfl ?_; refine C9 (t := 71) (v' := .string (str [108, 101, 116])) rfl rfl ?_; refine Oa rfl (Aa (Ah (Se rfl (Om rfl (Od rfl rfl rfl (Aa ?_))))))
 first | refine Sf rfl Ad ?_ | refine As Ai ?_
 refine Aj (Se rfl (Om rfl ?_)); refine Ca rfl (Me [108, 101, 116] _ _) ?_; rintro _ J0 _ e0 ⟨oq, ck, rfl, hn0, rfl⟩
 have hle := e0
 have hf := hf.mono e0
 have hk := hk.mono e0
 rw [hev] at hn0; rw [hev]; refine Oa rfl (Aa (Se rfl ?_)); refine El .free rfl ?_; intro b80; refine Oa rfl (Aa (Ah (Ah ?_))); refine Bk (fun w h => h.f3) ?_; refine Al rfl (Oa rfl (Aa (Aq ?_))); refine Ec ?_; refine Ah (Se rfl (Om rfl (Om rfl (On rfl (Oc rfl rfl rfl (Aa ?_)))))); refine Cj rfl Bp ?_; refine Aj (Ah (Aq (Ah ?_))); refine Mp 18 rfl rfl ?_
 refine Ql (X := Nat × Heap × List Value) (fun x => [(0, .pointer (some ⟨b, 0, none⟩)), (2, .slice on k.names.length cn), (3, .slice ov k.names.length cv), (5, .pointer (some ⟨b5, 0, none⟩)), (8, .pointer (some ⟨b8, 0, none⟩)), (14, .slice oq [2].length ck), (15, .slice (some ⟨b80, 0, none⟩) 0 0), (16, .int .i64 0), (17, .pointer (some ⟨x.1, 0, none⟩)), (18, .bool (eval m a k).v.isSome)]) (fun x => x.2.1) (fun x => (x.1, .cells x.2.2.toArray 76 (0, 0)) :: (b, .cells [.int .i64 ((eval m a k).left : Nat), .bool (eval m a k).stuck].toArray 73 (0, 0)) :: (b80, .cells [].toArray 76 (0, 0)) :: (b8, .cells [.string (str []), .int .i64 0, .slice none 0 0, .string (str []), .slice none 0 0, .slice none 0 0, .slice none 0 0].toArray 76 (0, 0)) :: (b5, .cells [.string (str (Ex.lt z a d).tree.atom), .slice (some xa) (Ex.lt z a d).tree.parts.length cc].toArray 68 (0, 0)) :: L) (fun x => HLe J0 x.2.1 ∧ GO x.2.1 (eval m a k).v x.2.2) ?_ ?_
 ·rintro ⟨b17, J1, gs⟩ ⟨e1, hg1⟩
  simp only at e1 hg1 ⊢
  obtain ⟨x1, x2, x3, x4, x5, x6, x7, x8, x9, x10, x11, x12, x13, x14, rfl⟩ := hg1.open
  have hle := hle.trans e1
  have hf := hf.mono e1
  have hk := hk.mono e1
  have hn0 := hn0.mono e1
  refine Ah (Se rfl (Om rfl ?_)); refine C6 rfl .free rfl ?_; refine Aa ?_; refine Ay rfl ?_ ?_
  ·intro c7
   try simp only [nb] at c7
   have hv0 : (eval m a k).v = none := by
    cases h : (eval m a k).v with
    | none => rfl
    | some w => rw [h] at c7; cases c7
   refine Se rfl ?_; refine Gr rfl .free rfl ?_; refine Bu rfl rfl rfl rfl .free ?_; refine Oa rfl (Aa ?_); refine Ak (.c rfl (.tmp rfl .nil)) ?_
   have hR : eval (m + 1) (Ex.lt z a d) k = (eval m a k) := by rw [Il]; simp only [hv0]
   rw [hR]
   exact ⟨J1, _, hle, Ms (L' := (b, _) :: L), _, by rw [hv0]; rfl, hg1, rfl⟩
  intro c7
  try simp only [nb] at c7
  obtain ⟨u, hv0⟩ : ∃ w, (eval m a k).v = some w := Option.isSome_iff_exists.1 (by simpa using c7); rw [hv0] at hg1
  have hau : GVat J1 u [.string (str x1), .int .i64 x2, .slice x3 x4 x5, .string (str []), .slice x6 x7 x8, .slice x9 x10 x11, .slice x12 x13 x14] := hg1
  obtain ⟨wu, hst0⟩ := U5 hkw hok.1.2 (fun y hy => hd y (List.mem_append_left _ hy)) hv0
  have hl1 := B9 m a k
  have htu := Ks m a k hv0
  rw [hst0]; refine Aj (Al rfl (Om rfl ?_)); refine Gr rfl .free rfl ?_; refine Ol rfl rfl ?_; intro b107; refine Ea (B := some (b80, [])) (xs := []) (ys := [.string (str x1), .int .i64 x2, .slice x3 x4 x5, .string (str []), .slice x6 x7 x8, .slice x9 x10 x11, .slice x12 x13 x14]) (m := 0) (c := 0) Bl Ae rfl rfl ⟨rfl, Nat.le_refl _, rfl⟩ (fun _ h => h.f3) Ae (fun a ha => by cases ha; exact Cm (.head _) Ae) Af Ae Ad Ad Ab Ad .free rfl ?_; intro bb sp c2 hB
  simp only [List.nil_append]
  refine Oa rfl (Aa (Ar ?_)); refine Bk (fun w h => (Mem.sub (L' := (bb, _) :: (b, _) :: (b8, _) :: (b5, _) :: L) Bz h).f1) ?_; refine Al rfl (Om rfl ?_); refine Or rfl rfl rfl ?_; refine C9 (t := 86) (v' := .int .i64 ((1 : Nat))) rfl Ae ?_; refine Oa rfl (Aa ?_); refine Ce ?_; refine Ah (Se rfl (Om rfl (Om rfl (On rfl (Oc rfl rfl rfl (Aa ?_)))))); refine Dh rfl Bp ?_; refine Cd rfl ?_; refine Ah ?_; refine Bk (fun w h => h.f1) (Bn ?_); intro hz
  have hq := Bi (I := J1) (b := bb) (xs := [.string (str x1), .int .i64 x2, .slice x3 x4 x5, .string (str []), .slice x6 x7 x8, .slice x9 x10 x11, .slice x12 x13 x14]) (ys := sp) (T := 76) (fr := (0, 0))
  have hle := hle.trans hz
  have hf := hf.mono hz
  have hk := hk.mono hz
  have hau := hau.mono hz
  have hdm : ∀ y ∈ d.occ [], y ∈ (KE.cons z u k).dom := fun y hy => by
   simp only [KE.dom, List.mem_cons]
   by_cases hyx : y = z
   ·exact .inl hyx
   ·exact .inr (hd y (List.mem_append_right _ (show y ∈ d.occ ([] ++ [z]) from Ex.occ_mem.2 ⟨hy, by simpa using hyx⟩)))
  refine Al rfl (Om rfl ?_); refine A8 rfl .free rfl ?_
  iterate 3 refine Om rfl ?_
  refine Ca rfl (Adu hok0 wu hf.rep hau hq ihn hk hkw b (eval m a k).left Ab Ab Ab hdm (by simp only [KE.tall]; omega) _) ?_; rintro _ J3 _ e3 ⟨gs5, rfl, hg5, rfl⟩
  have hle := hle.trans e3
  obtain ⟨_, _, _, _, _, _, _, _, _, _, _, _, _, _, rfl⟩ := hg5.open
  unfold H2
  refine Oe rfl rfl (Oe rfl rfl ?_); refine Bu rfl rfl rfl rfl .free ?_; refine Oa rfl (Aa ?_); refine Ak (.c rfl (.tmp rfl .nil)) ?_
  have hR : eval (m + 1) (Ex.lt z a d) k = eval (eval m a k).left d (.cons z u k) := by rw [Il]; simp only [hv0]
  rw [hR]
  exact ⟨J3, _, hle, Ms (L' := (b, _) :: L), _, rfl, hg5, rfl⟩
 ·intro hkk
  skip
  refine Da 0 rfl (Am rfl) ?_; refine Da 1 rfl (Ao rfl) ?_; refine Dt 2 [16] rfl (By rfl) ?_; refine Da 3 rfl (Am rfl) ?_; refine Da 4 rfl (Am rfl) ?_
  first | refine Da 5 rfl (Br rfl rfl _ rfl) ?_ | refine Da 5 rfl (Bs rfl rfl _ rfl) ?_
  refine Dt 6 [16] rfl (P5 rfl) ?_
  first | refine Da 7 rfl (Br rfl rfl _ rfl) ?_ | refine Da 7 rfl (Bs rfl rfl _ rfl) ?_
  refine Dt 8 [16] rfl (Bx rfl) ?_; refine Da 9 rfl (Am rfl) ?_; refine Da 10 rfl (Am rfl) ?_; refine Dj 11 15 Ac ?_ ?_
  ·skip
   first
    | (refine Df (L' := (b, _) :: _) (fun w h => h) ?_)
    | (refine Df (fun w h => h.f1) ?_)
    | skip
   refine K9 11 rfl rfl rfl .free rfl (ihn m Ab (hf.as 2 a.tree Ab rfl) hok.1.2 hk hkw (fun y hy => hd y (List.mem_append_left _ hy)) Ab b _) ?_; rintro _ J1 _ e1 ⟨gs, rfl, hg1, rfl⟩; obtain ⟨x1, x2, x3, x4, x5, x6, x7, x8, x9, x10, x11, x12, x13, x14, rfl⟩ := hg1.open
   unfold H2
   refine Hx ?_; refine Da 12 rfl (Am rfl) ?_; refine Da 13 rfl (Co rfl rfl) ?_; refine Da 14 rfl (Co rfl rfl) ?_; refine Er 15 rfl Ac rfl .free rfl (.inr At) ?_; intro b17; refine Dx 16 rfl rfl rfl rfl ?_; refine Db 17 rfl (A5 rfl) ?_; refine Aw Ac ?_
   exact Bw (E' := [(0, _), (2, _), (3, _), (5, _), (8, _), (14, _), (15, _), (16, _), (17, _), (18, _)]) ⟨rfl, rfl, rfl, rfl, rfl, rfl, rfl, rfl, rfl, rfl, trivial⟩ (Bk Gl (hkk ⟨b17, J1, [.string (str x1), .int .i64 x2, .slice x3 x4 x5, .string (str []), .slice x6 x7 x8, .slice x9 x10 x11, .slice x12 x13 x14]⟩ ⟨e1, hg1⟩))
  ·skip
   refine Ct 15 rfl rfl .free rfl (.inr At) ?_; intro b17
   first
    | (refine Df (L' := (b, _) :: _) (fun w h => h) ?_)
    | (refine Df (fun w h => h.f1) ?_)
    | skip
   refine Dc 11 rfl rfl (ihn m Ab (hf.as 2 a.tree Ab rfl) hok.1.2 hk hkw (fun y hy => hd y (List.mem_append_left _ hy)) Ab b _) ?_; rintro _ J1 _ e1 ⟨gs, rfl, hg1, rfl⟩; obtain ⟨x1, x2, x3, x4, x5, x6, x7, x8, x9, x10, x11, x12, x13, x14, rfl⟩ := hg1.open
   unfold H2
   refine Hx ?_; refine Da 12 rfl (Am rfl) ?_; refine Da 13 rfl (Co rfl rfl) ?_; refine Da 14 rfl (Co rfl rfl) ?_; refine Dx 16 rfl rfl rfl rfl ?_; refine Db 17 rfl (A5 rfl) ?_; refine Aw Ac ?_
   exact Bw (E' := [(0, _), (2, _), (3, _), (5, _), (8, _), (14, _), (15, _), (16, _), (17, _), (18, _)]) ⟨rfl, rfl, rfl, rfl, rfl, rfl, rfl, rfl, rfl, rfl, trivial⟩ (Bk Gl (hkk ⟨b17, J1, [.string (str x1), .int .i64 x2, .slice x3 x4 x5, .string (str []), .slice x6 x7 x8, .slice x9 x10 x11, .slice x12 x13 x14]⟩ ⟨e1, hg1⟩))
set_option maxHeartbeats 2000000 in
theorem Aa7 {N : Nat} (ihn : EvG N) {o : U2} {a : Ex} {I : Heap} {cs : List Value} {k : KE} {on ov : Option Addr} {cn cv : Nat} (m : Nat) (hn : m < N) (h : Rep I (Ex.un o a).tree cs) (hok : (Ex.un o a).ok = true) (hk : GEat I k on cn ov cv) (hkw : k.wf) (hd : ∀ y ∈ (Ex.un o a).occ [], y ∈ k.dom) (htl : k.tall + 2 * (m + 1) ≤ 100000) (b : Nat) (L : Bm) :
  Fun Tryz.prog 54 [.pointer (some ⟨b, 0, none⟩), .agg cs.toArray, .slice on k.names.length cn, .slice ov k.names.length cv] I (H2 b (m + 1) false :: L) (Rk b (eval (m + 1) (Ex.un o a) k) L) := by
 obtain ⟨oa, cc, oaf, cf, rfl, hf⟩ := h.at'
 have hlen : (Ex.un o a).tree.parts.length = 2 := rfl
 obtain ⟨xa, rfl⟩ : ∃ xa, oa = some xa := ⟨_, C3 hf.nil (show 0 < 2 by decide)⟩
 have hat : (Ex.un o a).tree.atom = [] := rfl
 have hev : eag o.txt = [1] := by cases o <;> rfl
 have hok0 := hok
 simp only [Ex.ok, Bool.and_eq_true] at hok
 unfold H2
 refine Ap Af ?_; refine Se rfl ?_; refine Cg rfl rfl .free rfl ?_; intro b5; refine A3 .free rfl ?_; intro b8; refine Oa rfl (Aa (Ah (Se rfl (Om rfl ?_)))); refine Az rfl .free rfl ?_
 first | refine Oh rfl ?_ | refine Oj rfl ?_
 refine Gr rfl .free rfl ?_; refine Oc rfl rfl rfl (Aa ?_)
 first | refine Sf rfl Ab ?_ | refine As Ai ?_
 refine Aj (Se rfl (Om rfl (Om rfl ?_))); refine Az rfl .free rfl ?_
 first | refine Oh rfl ?_ | refine Oj rfl ?_
 refine Gr rfl .free rfl ?_; refine Or rfl rfl rfl ?_; refine C9 (t := 30) (v' := .int .i64 (m : Nat)) rfl Eg ?_; refine Az rfl .free rfl ?_
 first | refine Oh rfl ?_ | refine Oj rfl ?_
 refine Bu rfl rfl rfl rfl .free ?_; refine Aa (Ah (Se rfl (Oh rfl ?_))); refine A4 rfl .free rfl ?_; refine Od rfl rfl rfl (Aa ?_)
 first | refine Ft rfl (by simp [hat]) ?_ | refine Fs rfl (by simp [hat]) ?_ | refine As Ai ?_
 refine Aj (Se rfl (Oh rfl ?_)); refine A4 rfl .free rfl ?_
 first | refine Ba rfl rfl 0 rfl .free rfl ?_ | refine Bb rfl rfl 0 rfl .free rfl ?_
 refine Bj rfl .free rfl ?_; refine Gj rfl .free rfl ?_; refine C9 (t := 71) (v' := .string (str o.txt)) rfl rfl ?_; refine Oa rfl (Aa (Ah (Se rfl (Om rfl (Od rfl rfl rfl (Aa ?_))))))
 first | refine Ft rfl (o.txt_ne.2.2.1) ?_ | refine Fs rfl (o.txt_ne.2.2.1) ?_ | refine As Ai ?_
 refine Aj (Se rfl (Om rfl ?_)); refine Ca rfl (Me o.txt _ _) ?_; rintro _ J0 _ e0 ⟨oq, ck, rfl, hn0, rfl⟩
 have hle := e0
 have hf := hf.mono e0
 have hk := hk.mono e0
 rw [hev] at hn0; rw [hev]; refine Oa rfl (Aa (Se rfl ?_)); refine El .free rfl ?_; intro b80; refine Oa rfl (Aa (Ah (Ah ?_))); refine Bk (fun w h => h.f3) ?_; refine Al rfl (Oa rfl (Aa (Aq ?_))); refine Ec ?_; refine Ah (Se rfl (Om rfl (Om rfl (On rfl (Oc rfl rfl rfl (Aa ?_)))))); refine Cj rfl Bp ?_; refine Aj (Ah (Aq (Ah ?_))); refine Mp 18 rfl rfl ?_
 refine Ql (X := Nat × Heap × List Value) (fun x => [(0, .pointer (some ⟨b, 0, none⟩)), (2, .slice on k.names.length cn), (3, .slice ov k.names.length cv), (5, .pointer (some ⟨b5, 0, none⟩)), (8, .pointer (some ⟨b8, 0, none⟩)), (14, .slice oq [1].length ck), (15, .slice (some ⟨b80, 0, none⟩) 0 0), (16, .int .i64 0), (17, .pointer (some ⟨x.1, 0, none⟩)), (18, .bool (eval m a k).v.isSome)]) (fun x => x.2.1) (fun x => (x.1, .cells x.2.2.toArray 76 (0, 0)) :: (b, .cells [.int .i64 ((eval m a k).left : Nat), .bool (eval m a k).stuck].toArray 73 (0, 0)) :: (b80, .cells [].toArray 76 (0, 0)) :: (b8, .cells [.string (str []), .int .i64 0, .slice none 0 0, .string (str []), .slice none 0 0, .slice none 0 0, .slice none 0 0].toArray 76 (0, 0)) :: (b5, .cells [.string (str (Ex.un o a).tree.atom), .slice (some xa) (Ex.un o a).tree.parts.length cc].toArray 68 (0, 0)) :: L) (fun x => HLe J0 x.2.1 ∧ GO x.2.1 (eval m a k).v x.2.2) ?_ ?_
 ·rintro ⟨b17, J1, gs⟩ ⟨e1, hg1⟩
  simp only at e1 hg1 ⊢
  obtain ⟨x1, x2, x3, x4, x5, x6, x7, x8, x9, x10, x11, x12, x13, x14, rfl⟩ := hg1.open
  have hle := hle.trans e1
  have hf := hf.mono e1
  have hk := hk.mono e1
  have hn0 := hn0.mono e1
  refine Ah (Se rfl (Om rfl ?_)); refine C6 rfl .free rfl ?_; refine Aa ?_; refine Ay rfl ?_ ?_
  ·intro c7
   try simp only [nb] at c7
   have hv0 : (eval m a k).v = none := by
    cases h : (eval m a k).v with
    | none => rfl
    | some w => rw [h] at c7; cases c7
   refine Se rfl ?_; refine Gr rfl .free rfl ?_; refine Bu rfl rfl rfl rfl .free ?_; refine Oa rfl (Aa ?_); refine Ak (.c rfl (.tmp rfl .nil)) ?_
   have hR : eval (m + 1) (Ex.un o a) k = (eval m a k) := by rw [Im]; simp only [hv0]
   rw [hR]
   exact ⟨J1, _, hle, Ms (L' := (b, _) :: L), _, by rw [hv0]; rfl, hg1, rfl⟩
  intro c7
  try simp only [nb] at c7
  obtain ⟨u, hv0⟩ : ∃ w, (eval m a k).v = some w := Option.isSome_iff_exists.1 (by simpa using c7); rw [hv0] at hg1
  have hau : GVat J1 u [.string (str x1), .int .i64 x2, .slice x3 x4 x5, .string (str []), .slice x6 x7 x8, .slice x9 x10 x11, .slice x12 x13 x14] := hg1
  obtain ⟨wu, hst0⟩ := U5 hkw hok (fun y hy => hd y hy) hv0
  have hl1 := B9 m a k
  have htu := Ks m a k hv0
  rw [hst0]; refine Aj (Al rfl (Om rfl ?_)); refine Gr rfl .free rfl ?_; refine Ol rfl rfl ?_; intro b107; refine Ea (B := some (b80, [])) (xs := []) (ys := [.string (str x1), .int .i64 x2, .slice x3 x4 x5, .string (str []), .slice x6 x7 x8, .slice x9 x10 x11, .slice x12 x13 x14]) (m := 0) (c := 0) Bl Ae rfl rfl ⟨rfl, Nat.le_refl _, rfl⟩ (fun _ h => h.f3) Ae (fun a ha => by cases ha; exact Cm (.head _) Ae) Af Ae Ad Ad Ab Ad .free rfl ?_; intro bb sp c2 hB
  simp only [List.nil_append]
  refine Oa rfl (Aa (Ar ?_)); refine Bk (fun w h => (Mem.sub (L' := (bb, _) :: (b, _) :: (b8, _) :: (b5, _) :: L) Bz h).f1) ?_; refine Al rfl (Om rfl ?_); refine Or rfl rfl rfl ?_; refine C9 (t := 86) (v' := .int .i64 ((1 : Nat))) rfl Ae ?_; refine Oa rfl (Aa ?_); refine Ce ?_; refine Ah (Se rfl (Om rfl (Om rfl (On rfl (Oc rfl rfl rfl (Aa ?_)))))); refine Dh rfl Bp ?_; refine Cd rfl ?_; refine Ah ?_; refine Bk (fun w h => h.f1) (Bn ?_); intro hz
  have hq := Bi (I := J1) (b := bb) (xs := [.string (str x1), .int .i64 x2, .slice x3 x4 x5, .string (str []), .slice x6 x7 x8, .slice x9 x10 x11, .slice x12 x13 x14]) (ys := sp) (T := 76) (fr := (0, 0))
  have hle := hle.trans hz
  have hf := hf.mono hz
  have hk := hk.mono hz
  have hau := hau.mono hz
  refine Al rfl (Om rfl ?_); refine A8 rfl .free rfl ?_
  iterate 3 refine Om rfl ?_
  refine Ca rfl (Adv hf.rep hau hq b (eval m a k).left Ab _) ?_; rintro _ J3 _ e3 ⟨gs5, rfl, hg5, rfl⟩
  have hle := hle.trans e3
  obtain ⟨_, _, _, _, _, _, _, _, _, _, _, _, _, _, rfl⟩ := hg5.open
  unfold H2
  refine Oe rfl rfl (Oe rfl rfl ?_); refine Bu rfl rfl rfl rfl .free ?_; refine Oa rfl (Aa ?_); refine Ak (.c rfl (.tmp rfl .nil)) ?_
  have hR : eval (m + 1) (Ex.un o a) k = Res.of (o.act u) (eval m a k).left := by rw [Im]; simp only [hv0]
  rw [hR]
  exact ⟨J3, _, hle, Ms (L' := (b, _) :: L), _, rfl, hg5, rfl⟩
 ·intro hkk
  skip
  refine Da 0 rfl (Am rfl) ?_; refine Da 1 rfl (Ao rfl) ?_; refine Dt 2 [16] rfl (By rfl) ?_; refine Da 3 rfl (Am rfl) ?_; refine Da 4 rfl (Am rfl) ?_
  first | refine Da 5 rfl (Br rfl rfl _ rfl) ?_ | refine Da 5 rfl (Bs rfl rfl _ rfl) ?_
  refine Dt 6 [16] rfl (P5 rfl) ?_
  first | refine Da 7 rfl (Br rfl rfl _ rfl) ?_ | refine Da 7 rfl (Bs rfl rfl _ rfl) ?_
  refine Dt 8 [16] rfl (Bx rfl) ?_; refine Da 9 rfl (Am rfl) ?_; refine Da 10 rfl (Am rfl) ?_; refine Dj 11 15 Ac ?_ ?_
  ·skip
   first
    | (refine Df (L' := (b, _) :: _) (fun w h => h) ?_)
    | (refine Df (fun w h => h.f1) ?_)
    | skip
   refine K9 11 rfl rfl rfl .free rfl (ihn m Ab (hf.as 1 a.tree Ab rfl) hok hk hkw (fun y hy => hd y hy) Ab b _) ?_; rintro _ J1 _ e1 ⟨gs, rfl, hg1, rfl⟩; obtain ⟨x1, x2, x3, x4, x5, x6, x7, x8, x9, x10, x11, x12, x13, x14, rfl⟩ := hg1.open
   unfold H2
   refine Hx ?_; refine Da 12 rfl (Am rfl) ?_; refine Da 13 rfl (Co rfl rfl) ?_; refine Da 14 rfl (Co rfl rfl) ?_; refine Er 15 rfl Ac rfl .free rfl (.inr At) ?_; intro b17; refine Dx 16 rfl rfl rfl rfl ?_; refine Db 17 rfl (A5 rfl) ?_; refine Aw Ac ?_
   exact Bw (E' := [(0, _), (2, _), (3, _), (5, _), (8, _), (14, _), (15, _), (16, _), (17, _), (18, _)]) ⟨rfl, rfl, rfl, rfl, rfl, rfl, rfl, rfl, rfl, rfl, trivial⟩ (Bk Gl (hkk ⟨b17, J1, [.string (str x1), .int .i64 x2, .slice x3 x4 x5, .string (str []), .slice x6 x7 x8, .slice x9 x10 x11, .slice x12 x13 x14]⟩ ⟨e1, hg1⟩))
  ·skip
   refine Ct 15 rfl rfl .free rfl (.inr At) ?_; intro b17
   first
    | (refine Df (L' := (b, _) :: _) (fun w h => h) ?_)
    | (refine Df (fun w h => h.f1) ?_)
    | skip
   refine Dc 11 rfl rfl (ihn m Ab (hf.as 1 a.tree Ab rfl) hok hk hkw (fun y hy => hd y hy) Ab b _) ?_; rintro _ J1 _ e1 ⟨gs, rfl, hg1, rfl⟩; obtain ⟨x1, x2, x3, x4, x5, x6, x7, x8, x9, x10, x11, x12, x13, x14, rfl⟩ := hg1.open
   unfold H2
   refine Hx ?_; refine Da 12 rfl (Am rfl) ?_; refine Da 13 rfl (Co rfl rfl) ?_; refine Da 14 rfl (Co rfl rfl) ?_; refine Dx 16 rfl rfl rfl rfl ?_; refine Db 17 rfl (A5 rfl) ?_; refine Aw Ac ?_
   exact Bw (E' := [(0, _), (2, _), (3, _), (5, _), (8, _), (14, _), (15, _), (16, _), (17, _), (18, _)]) ⟨rfl, rfl, rfl, rfl, rfl, rfl, rfl, rfl, rfl, rfl, trivial⟩ (Bk Gl (hkk ⟨b17, J1, [.string (str x1), .int .i64 x2, .slice x3 x4 x5, .string (str []), .slice x6 x7 x8, .slice x9 x10 x11, .slice x12 x13 x14]⟩ ⟨e1, hg1⟩))
theorem Zd : ∀ N : Nat, EvG N := by
 intro N
 induction N with
 | zero => intro I e cs k on ov cn cv n hn; omega
 | succ N ihn =>
  intro I e cs k on ov cn cv n hn h hok hk hkw hd htl b L
  cases n with
  | zero => exact Xb h b L
  | succ m =>
   cases e with
   | num s => exact Zg (N := N) m Ab h hok hk hkw hd htl b L
   | name s => exact Xa (N := N) m Ab h hok hk hkw hd htl b L
   | fn f x s t bd => exact Aa5 (N := N) m Ab h hok hk hkw hd htl b L
   | bin o a d => exact Ze ihn m Ab h hok hk hkw hd htl b L
   | ite a d g => exact Zf ihn m Ab h hok hk hkw hd htl b L
   | lt z a d => exact Aa6 ihn m Ab h hok hk hkw hd htl b L
   | un o a => exact Aa7 ihn m Ab h hok hk hkw hd htl b L
theorem tri (s : Au) : (Ff s = none ∧ Cf s = none) ∨ (∃ e, Ff s = some e ∧ Cf s = none) ∨ (∃ e, Ff s = some e ∧ Cf s = some e) := by
 cases hx : Ff s with
 | none => exact .inl ⟨rfl, by unfold Cf; rw [hx]⟩
 | some e =>
  cases hc : Cf s with
  | none => exact .inr (.inl ⟨e, rfl, rfl⟩)
  | some e2 =>
   obtain rfl := Option.some.inj ((G9 hc).1.symm.trans hx)
   exact .inr (.inr ⟨e2, rfl, rfl⟩)
theorem Acx (I : Heap) (a b : Addr) : GEat I .nil (some a) 0 (some b) 0 := .mk (Ho _ _) .nil (fun x _ => .inl rfl) (fun h => by cases h) (Nat.le_refl 0)
theorem Ado (s : Au) (hs : s.length ≤ Kw) (n : Int) (I : Heap) (L : Bm) : Fun Tryz.prog 16 [.string (str s), .int .i64 n] I L (MN (Hz s n) L) := by
 refine Ap Af ?_; refine Se rfl ?_
 iterate 3 refine Oa rfl ?_
 refine Aa (Se rfl (Om rfl ?_)); refine Ca rfl (M5 s hs _ _) ?_; rintro _ J _ hleJ ⟨t, cs, ok, rfl, hrep, rfl, hpf⟩; obtain ⟨oc, cc, _, rfl, -⟩ := hrep.open; refine Om rfl (Oe rfl rfl (Oe rfl rfl ?_)); refine A3 .free rfl ?_; intro b7; refine Bu rfl rfl rfl rfl .free ?_; refine Oa rfl (Aa (Ah (Ah ?_)))
 rcases tri s with ⟨hx, hc⟩ | ⟨e, hx, hc⟩ | ⟨e, hx, hc⟩
 ·skip
  rw [hx] at hpf; obtain rfl := hpf; refine Al rfl (Om rfl ?_); refine C6 rfl .free rfl ?_; refine Om rfl ?_; refine C9 (t := 19) rfl (v' := .bool true) F2 ?_
  iterate 3 refine Cl rfl rfl rfl ?_
  refine Ot rfl rfl (Om rfl ?_)
  iterate 3 refine Cl rfl rfl rfl ?_
  refine Ot rfl rfl (Aa ?_); refine Bo rfl ?_; refine Se rfl ?_
  iterate 3 refine Oa rfl ?_
  refine Aa ?_; refine Ak (.tmp rfl (.tmp rfl (.tmp rfl .nil))) ?_
  exact ⟨J, L, hleJ, Bt, by rw [Jn (.inl hc)]; rfl, rfl⟩
 ·skip
  rw [hx] at hpf; obtain ⟨rfl, rfl⟩ := hpf; refine Al rfl (Om rfl ?_); refine C6 rfl .free rfl ?_; refine Om rfl ?_; refine C9 (t := 19) rfl (v' := .bool false) F2 ?_; refine Ow rfl ?_; refine Cq rfl (.met rfl rfl) rfl (Nv s hs _ _) ?_; rintro _ _ _ _ ⟨rfl, rfl, rfl⟩; rw [hc]; refine C6 rfl (.met rfl rfl) rfl ?_; refine Of rfl rfl (Om rfl ?_); refine C9 (t := 24) rfl (v' := .bool true) F2 ?_
  iterate 3 refine Cl rfl rfl rfl ?_
  refine Ot rfl rfl (Aa ?_); refine Bo rfl ?_; refine Se rfl ?_
  iterate 3 refine Oa rfl ?_
  refine Aa ?_; refine Ak (.tmp rfl (.tmp rfl (.tmp rfl .nil))) ?_
  exact ⟨J, L, hleJ, Bt, by rw [Jn (.inl hc)]; rfl, rfl⟩
 ·skip
  rw [hx] at hpf; obtain ⟨rfl, rfl⟩ := hpf; obtain ⟨-, hok, hz, hl, hcl⟩ := F5 hc
  have hoe : e.occ [] = [] := by simpa [Ex.closed] using hcl
  refine Al rfl (Om rfl ?_); refine C6 rfl .free rfl ?_; refine Om rfl ?_; refine C9 (t := 19) rfl (v' := .bool false) F2 ?_; refine Ow rfl ?_; refine Cq rfl (.met rfl rfl) rfl (Nv s hs _ _) ?_; rintro _ _ _ _ ⟨rfl, rfl, rfl⟩; rw [hc]; refine C6 rfl (.met rfl rfl) rfl ?_; refine Of rfl rfl (Om rfl ?_); refine C9 (t := 24) rfl (v' := .bool false) F2 ?_; refine Ow rfl ?_; refine Cq rfl (.met rfl rfl) rfl (Qz 0 n 2000 _ _) ?_; rintro _ _ _ _ ⟨rfl, rfl, rfl⟩; refine C6 rfl (.met rfl rfl) rfl ?_; refine Of rfl rfl (Aa ?_); refine Ay rfl ?_ ?_
  ·intro c0
   try simp only [nb] at c0
   refine Se rfl ?_
   iterate 3 refine Oa rfl ?_
   refine Aa ?_; refine Ak (.tmp rfl (.tmp rfl (.tmp rfl .nil))) ?_
   exact ⟨J, L, hleJ, Bt, by rw [Jn (.inr E9)]; rfl, rfl⟩
  intro c0
  try simp only [nb] at c0
  obtain ⟨N, rfl⟩ : ∃ N : Nat, n = (N : Nat) := ⟨n.toNat, by omega⟩
  have hN : N ≤ 2000 := by omega
  have hme := Jo hc hN
  have hle := B9 N e .nil
  have hhi := fun w (h : (eval N e .nil).v = some w) => R2 N e .nil h
  refine Aj (Se rfl (Om rfl ?_)); refine B6 rfl rfl rfl .free rfl ?_; refine Cg rfl rfl .free rfl ?_; intro b31; refine Oa rfl (Aa (Se rfl (Om rfl ?_))); refine A8 rfl .free rfl ?_; refine El .free rfl ?_; intro b35; refine El .free rfl ?_; intro b36; refine En (fun w h => h.f2) ?_; refine Ca rfl (Zd (N + 1) N (Nat.lt_succ_self N) hrep hok (Acx J ⟨b35, 0, none⟩ ⟨b36, 0, none⟩) trivial (fun y hy => by rw [hoe] at hy; cases hy) (by simp only [KE.tall]; omega) b31 _) ?_; rintro _ J2 _ e2 ⟨gs, rfl, hg, rfl⟩; obtain ⟨x1, x2, x3, x4, x5, x6, x7, x8, x9, x10, x11, x12, x13, x14, rfl⟩ := hg.open
  unfold H2
  have hle2 := hleJ.trans e2
  refine Om rfl (Oe rfl rfl (Oe rfl rfl ?_)); refine A3 .free rfl ?_; intro b10; refine Bu rfl rfl rfl rfl .free ?_; refine Oa rfl (Aa (Ah (Ah ?_)))
  rcases hv : (eval N e .nil).v with _ | w
  ·skip
   rw [hv] at hg; refine Al rfl (Om rfl ?_); refine C6 rfl .free rfl ?_; refine Om rfl ?_; refine C9 (t := 42) rfl (v' := .bool true) F2 ?_
   iterate 3 refine Cl rfl rfl rfl ?_
   refine Ot rfl rfl (Aa ?_); refine Bo rfl ?_; refine Se rfl ?_
   iterate 3 refine Oa rfl ?_
   refine Aa ?_; refine Ak (.tmp rfl (.tmp rfl (.tmp rfl .nil))) ?_
   exact ⟨J2, L, hle2, Ms (L' := L), by rw [hme, Tm hv]; rfl, rfl⟩
  ·skip
   rw [hv] at hg
   have hw : GVat J2 w _ := hg
   obtain ⟨hwf, -⟩ := Res.says.some hv (Kj hc N)
   have hhi := hhi w hv
   simp only [KE.high] at hhi
   refine Al rfl (Om rfl ?_); refine C6 rfl .free rfl ?_; refine Om rfl ?_; refine C9 (t := 42) rfl (v' := .bool false) F2 ?_; refine A8 rfl (.met rfl rfl) rfl ?_; refine Cq rfl (.met rfl rfl) rfl (Aay _ 12000 (Nat.lt_succ_self _) hw hwf Ab Ab Ab _) ?_; rintro _ J3 _ e3 ⟨r, rfl, hr1, hr2, hr3, rfl⟩
   have hle2 := hle2.trans e3
   have hw := hw.mono e3
   refine Dq rfl rfl rfl (.met rfl rfl) rfl ?_; refine Of rfl rfl (Aa ?_); refine Ay rfl ?_ ?_
   ·intro c1
    try simp only [nb] at c1
    have hno : ¬ w.show.length ≤ 12000 := fun h => by
     have := hr2 Ab
     omega
    refine Se rfl ?_
    iterate 3 refine Oa rfl ?_
    refine Aa ?_; refine Ak (.tmp rfl (.tmp rfl (.tmp rfl .nil))) ?_
    exact ⟨J3, L, hle2, Ms (L' := L), by rw [hme]; unfold My; rw [hv]; simp only; rw [if_neg hno]; rfl, rfl⟩
   intro c1
   try simp only [nb] at c1
   have hsl : w.show.length ≤ 12000 := by
    rcases Nat.lt_or_ge 12000 w.show.length with h | h
    ·have := hr1 Ab
     omega
    ·exact h
   refine Aj (Ah ?_); refine D6 11 rfl rfl ?_; refine Dt 0 [11] rfl (C7 rfl) ?_; refine Da 2 rfl (Am rfl) ?_; refine Da 3 rfl (Am rfl) ?_; refine Da 4 rfl (D4 rfl) ?_
   first | refine Da 5 rfl (Ao rfl) ?_ | refine Da 5 rfl (Bf rfl) ?_
   refine Dt 6 [11] rfl (Wm rfl) ?_; refine Da 7 rfl (G5 rfl rfl rfl Ab) ?_; refine Dc 1 rfl rfl (Aa0 _ (Nat.lt_succ_self _) hw hwf Ab _) ?_; rintro _ _ _ _ ⟨rfl, rfl, rfl⟩; refine Hx ?_; refine Da 8 rfl (A5 rfl) ?_; refine Da 9 rfl (A5 rfl) ?_; refine Da 10 rfl (A5 rfl) ?_; refine Aw Ac ?_; refine Ak (.tmp rfl (.tmp rfl (.tmp rfl .nil))) ?_
   exact ⟨J3, L, hle2, Ms (L' := L), by rw [hme, Nn hv hsl]; simp only [Option.map_some, Option.getD_some, Option.isSome_some]; rw [show ((N - (eval N e .nil).left : Nat) : Int) = (N : Int) - ((eval N e .nil).left : Nat) by omega]; rfl, rfl⟩
theorem Adl {s : Au} {e : Ex} (h : Ff s = some e) : s.length ≤ 12000 := by
 obtain ⟨_, _, _, h4, h5⟩ := Tn h; rw [h5, Tree.text_len]; exact h4
theorem Wy {s : Au} {n : Int} {r : Au × Nat} (h : Hz s n = some r) : Hz s 2000 = some r ∧ Hz s ((r.2 : Nat) - 1) = none ∧ 1 ≤ r.2 ∧ (r.2 : Int) ≤ n ∧ ∃ (x : Ex) (k : Nat), Q3 s 500 = some (x.tree.text, k) ∧ x.fine = true ∧ ∀ y, Ml x.tree.text = some y → y = r.1 := by
 obtain ⟨e, N, w, hc, rfl, hN, hw, hr, hl, hwf, hg⟩ := No h; obtain ⟨hx, hok, hz, -, hcl⟩ := F5 hc
 have hfe := (Tn hx).1
 have hoe : e.occ [] = [] := by simpa [Ex.closed] using hcl
 have hk := Zh 500 e hfe hoe
 have hu := Wx h
 refine ⟨Ww h hN (Nat.le_refl _), Wv h, hu.2.1, by have := hu.2.2; omega, (e.goes 500).1, (e.goes 500).2, ?_, hk.1, fun y hy => ?_⟩
 ·unfold Q3
  rw [if_pos Ab, hc]; rfl
 ·unfold Ml at hy
  obtain ⟨d, hd, rfl⟩ := Option.map_eq_some_iff.1 hy; obtain ⟨d', hd', -, hc2, hval, -⟩ := Oi (s := (e.goes 500).1.tree.text) (by rw [hd]; rfl); rw [hd] at hd'; obtain rfl := Option.some.inj hd'; rw [Pp hk.1 hk.2] at hc2; obtain rfl := Option.some.inj hc2; rw [hr]
  exact Rt hwf hg (Aco 500 e) hval
end Go.Proofs.YtmfagaajiakgoaaGreatDoor
