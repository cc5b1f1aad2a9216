/- Values that are kept, as they lie in memory: the reference's; their prints. No conditions. -/
import Derived.Test.YtmfagaajiakgoaaGreatDoorG14
import Derived.LaidSub
import Derived.Lib.LaidTab

namespace Go.Proofs.YtmfagaajiakgoaaGreatDoor
set_option maxRecDepth 100000
set_option linter.unusedVariables false
set_option linter.unusedSimpArgs false

mutual
inductive GVat : Heap → KV → List Value → Prop
 | num {I : Heap} {s : Av} : GVat I (.num s) [.string (str [110, 117, 109, 98, 101, 114]), .int .i64 (Ej s), .slice none 0 0, .string (str []), .slice none 0 0, .slice none 0 0, .slice none 0 0]
 | pair {I : Heap} {u v : KV} {q : Addr} {c : Nat} {cu cv : List Value} (hq : Still I q (cu ++ cv)) (hc : 2 ≤ c) (hu : GVat I u cu) (hv : GVat I v cv) :
   GVat I (.pair u v) [.string (str [112, 97, 105, 114]), .int .i64 0, .slice (some q) 2 c, .string (str []), .slice none 0 0, .slice none 0 0, .slice none 0 0]
 | clo {I : Heap} {f x : Av} {s t : Ty} {b : Ex} {r : KE} {o : Option Addr} {c : Nat} {on ov : Option Addr} {cn cv : Nat} (hr : Rep I (Ex.fn f x s t b).tree [.string (str []), .slice o 6 c]) (he : GEat I r on cn ov cv) :
   GVat I (.clo f x s t b r) [.string (str [102, 117, 110]), .int .i64 0, .slice none 0 0, .string (str []), .slice o 6 c, .slice on r.names.length cn, .slice ov r.names.length cv]
inductive GEat : Heap → KE → Option Addr → Nat → Option Addr → Nat → Prop
 | mk {I : Heap} {r : KE} {on ov : Option Addr} {cn cv : Nat} {cs : List Value} (hn : Strs I on r.names cn) (hv : GVs I r cs) (hs : ∀ x, ov = some x → Still I x cs) (h0 : ov = none → r.names = []) (hc : r.names.length ≤ cv) : GEat I r on cn ov cv
inductive GVs : Heap → KE → List Value → Prop
 | nil {I : Heap} : GVs I .nil []
 | cons {I : Heap} {n : Av} {v : KV} {up : KE} {cs ds : List Value} (hu : GVs I up cs) (hv : GVat I v ds) : GVs I (.cons n v up) (cs ++ ds)
end
mutual
theorem GVat.mono {I I' : Heap} (hle : HLe I I') : ∀ {v : KV} {cs : List Value}, GVat I v cs → GVat I' v cs
 | _, _, .num => .num
 | _, _, .pair hq hc hu hv => .pair (hq.mono hle) hc (hu.mono hle) (hv.mono hle)
 | _, _, .clo hr he => .clo (hr.mono hle) (he.mono hle)
theorem GEat.mono {I I' : Heap} (hle : HLe I I') : ∀ {r : KE} {on ov : Option Addr} {cn cv : Nat}, GEat I r on cn ov cv → GEat I' r on cn ov cv
 | _, _, _, _, _, .mk hn hv hs h0 hc => .mk (hn.mono hle) (hv.mono hle) (fun x hx => (hs x hx).mono hle) h0 hc
theorem GVs.mono {I I' : Heap} (hle : HLe I I') : ∀ {r : KE} {cs : List Value}, GVs I r cs → GVs I' r cs
 | _, _, .nil => .nil
 | _, _, .cons hu hv => .cons (hu.mono hle) (hv.mono hle)
end
theorem GVat.open {I : Heap} {v : KV} {cs : List Value} (h : GVat I v cs) : ∃ k n q mq cq o l c on m1 c1 ov m2 c2, cs = [.string (str k), .int .i64 n, .slice q mq cq, .string (str []), .slice o l c, .slice on m1 c1, .slice ov m2 c2] := by
 cases h with
 | num => exact ⟨_, _, _, _, _, _, _, _, _, _, _, _, _, _, rfl⟩
 | pair hq hc hu hv => exact ⟨_, _, _, _, _, _, _, _, _, _, _, _, _, _, rfl⟩
 | clo hr he => exact ⟨_, _, _, _, _, _, _, _, _, _, _, _, _, _, rfl⟩
theorem GVat.len {I : Heap} {v : KV} {cs : List Value} (h : GVat I v cs) : cs.length = 7 := by
 obtain ⟨_, _, _, _, _, _, _, _, _, _, _, _, _, _, rfl⟩ := h.open; rfl
theorem GVat.plain {I : Heap} {v : KV} {cs : List Value} (h : GVat I v cs) : cs.all C2 = true := by
 obtain ⟨_, _, _, _, _, _, _, _, _, _, _, _, _, _, rfl⟩ := h.open; rfl
theorem GVs.len {I : Heap} : ∀ {r : KE} {cs : List Value}, GVs I r cs → cs.length = r.names.length * 7
 | _, _, .nil => rfl
 | _, _, .cons hu hv => by have := hu.len; have := hv.len; simp only [KE.names, List.length_append, List.length_cons, List.length_nil]; omega
theorem GVs.plain {I : Heap} : ∀ {r : KE} {cs : List Value}, GVs I r cs → cs.all C2 = true
 | _, _, .nil => rfl
 | _, _, .cons hu hv => by rw [List.all_append, hu.plain, hv.plain]; rfl
theorem Still.left {I : Heap} {q : Addr} {cu cv : List Value} (h : Still I q (cu ++ cv)) : Still I (q.add (0 * 7)) cu := h.part _ fun i hi => by rw [Nat.zero_mul, Nat.zero_add, List.getElem?_append_left hi, List.getElem?_eq_getElem hi]
theorem Still.right {I : Heap} {q : Addr} {cu cv : List Value} (h : Still I q (cu ++ cv)) (k : Nat) (hk : cu.length = k * 7) : Still I (q.add (k * 7)) cv := h.part _ fun i hi => by
 rw [List.getElem?_append_right (by omega), show k * 7 + i - cu.length = i by omega, List.getElem?_eq_getElem hi]
def Tx : List Value := [.string (str []), .int .i64 0, .slice none 0 0, .string (str []), .slice none 0 0, .slice none 0 0, .slice none 0 0]
def GO (I : Heap) (o : Option KV) (cs : List Value) : Prop := match o with
 | some w => GVat I w cs
 | none => cs = Tx
theorem GO.open {I : Heap} {o : Option KV} {cs : List Value} (h : GO I o cs) : ∃ k n q mq cq p l c on m1 c1 ov m2 c2, cs = [.string (str k), .int .i64 n, .slice q mq cq, .string (str []), .slice p l c, .slice on m1 c1, .slice ov m2 c2] := by
 cases o with
 | none => exact ⟨_, _, _, _, _, _, _, _, _, _, _, _, _, _, h⟩
 | some w => exact GVat.open h
theorem Rp {I : Heap} {k : KE} {ov : Option Addr} {cv : Nat} {cs : List Value} (hv : GVs I k cs) (hs : ∀ x, ov = some x → Still I x cs) (h0 : ov = none → k.names = []) (hk : k.names.length ≤ 1000000) {v : KV} {ds : List Value} (hd : GVat I v ds) (n : Av) (L : Bs) :
  Fun Tryz.prog 149 [.slice ov k.names.length cv, .agg ds.toArray] I L (fun w I' L' => ∃ x c, w = .slice (some x) (KE.cons n v k).names.length c ∧ Still I' x (cs ++ ds) ∧ (KE.cons n v k).names.length ≤ c ∧ L = L') := by
 obtain ⟨kk, nn, q, mq, cq, o, l, c, on, m1, c1, ov2, m2, c2, rfl⟩ := hd.open
 have hcl := hv.len
 have hn0 : ov = none → cs = [] := fun h => by have := h0 h; rw [this] at hcl; exact List.eq_nil_of_length_eq_zero (by simpa using hcl)
 have hrd : ∀ (L₀ : Bs) (a : Addr), ov = some a → Gu I L₀ a cs := fun L₀ a ha => (hs a ha).reads
 refine Ao Af ?_; refine Se rfl ?_; refine Cj rfl rfl .free rfl ?_; intro b3; refine Oa rfl (Aa (Ag ?_)); refine Dj 7 rfl rfl ?_; refine Da 1 rfl (Al rfl) ?_; refine Dt 3 [7] rfl (Ck rfl) ?_; refine Cw 0 4 Ac ?_ ?_
 ·skip
  refine Aeh 0 rfl rfl .free rfl (.inr As) ?_; intro b5; refine Cw 2 4 Ac ?_ ?_
  ·skip
   refine Pq 2 (B := some (b5, [])) (xs := []) (ys := cs) (m := 0) (c := 0) rfl rfl A5 Ae rfl rfl ⟨rfl, Nat.le_refl _, rfl⟩ D9 hcl (hrd _) hn0 hv.plain Ad Ab Ad .free rfl (fun _ => .inr As) ?_; intro B1 k1 hB1; refine Fn 4 rfl Ac rfl rfl rfl Ae Ae Ae Ad Ad Ae .free rfl (.inr As) ?_; intro b9
   refine Cg 5 (B := B1) (xs := [] ++ cs) (ys := [.string (str kk), .int .i64 nn, .slice q mq cq, .string (str []), .slice o l c, .slice on m1 c1, .slice ov2 m2 c2]) (m := 0 + k.names.length) (c := k1) rfl Ac rfl A5 Ae rfl rfl hB1 D9 Ae (fun a ha => by cases ha; exact Bt Dv Ae) Af Ae Ad Ab Ad .free rfl (fun _ => .inr As) ?_; intro B2 k2 hB2; refine Da 6 rfl (Ay rfl) ?_; refine Au Ac ?_; obtain ⟨b, sp, rfl⟩ : ∃ b sp, B2 = some (b, sp) := by
    cases B2 with
    | none => have := hB2.1; simp at this
    | some p => exact ⟨p.1, p.2, rfl⟩
   refine Bv ?_; intro hz; refine Ai (.tmp rfl .nil) ?_; refine ⟨_, L, hz, Ba, ⟨b, 0, none⟩, k2, ?_, Bp, ?_, rfl⟩
   ·rw [show (KE.cons n v k).names.length = 0 + k.names.length + 1 by simp [KE.names]]; rfl
   ·rw [show (KE.cons n v k).names.length = 0 + k.names.length + 1 by simp [KE.names]]; exact hB2.2.1
  ·skip
   refine Hb 4 rfl rfl rfl rfl Ae Ae Ae Ad Ad Ae .free rfl (.inr As) ?_; intro b9; refine Cg 2 (B := some (b5, [])) (xs := []) (ys := cs) (m := 0) (c := 0) rfl Ac rfl A5 Ae rfl rfl ⟨rfl, Nat.le_refl _, rfl⟩ D9 hcl (hrd _) hn0 hv.plain Ad Ab Ad .free rfl (fun _ => .inr As) ?_; intro B1 k1 hB1
   refine Cg 5 (B := B1) (xs := [] ++ cs) (ys := [.string (str kk), .int .i64 nn, .slice q mq cq, .string (str []), .slice o l c, .slice on m1 c1, .slice ov2 m2 c2]) (m := 0 + k.names.length) (c := k1) rfl Ac rfl A5 Ae rfl rfl hB1 D9 Ae (fun a ha => by cases ha; exact Bt Dv Ae) Af Ae Ad Ab Ad .free rfl (fun _ => .inr As) ?_; intro B2 k2 hB2; refine Da 6 rfl (Ay rfl) ?_; refine Au Ac ?_; obtain ⟨b, sp, rfl⟩ : ∃ b sp, B2 = some (b, sp) := by
    cases B2 with
    | none => have := hB2.1; simp at this
    | some p => exact ⟨p.1, p.2, rfl⟩
   refine Bv ?_; intro hz; refine Ai (.tmp rfl .nil) ?_; refine ⟨_, L, hz, Ba, ⟨b, 0, none⟩, k2, ?_, Bp, ?_, rfl⟩
   ·rw [show (KE.cons n v k).names.length = 0 + k.names.length + 1 by simp [KE.names]]; rfl
   ·rw [show (KE.cons n v k).names.length = 0 + k.names.length + 1 by simp [KE.names]]; exact hB2.2.1
 ·skip
  refine Hb 4 rfl rfl rfl rfl Ae Ae Ae Ad Ad Ae .free rfl (.inr As) ?_; intro b9; refine I8 0 rfl Ac rfl .free rfl (.inr As) ?_; intro b5; refine Cg 2 (B := some (b5, [])) (xs := []) (ys := cs) (m := 0) (c := 0) rfl Ac rfl A5 Ae rfl rfl ⟨rfl, Nat.le_refl _, rfl⟩ D9 hcl (hrd _) hn0 hv.plain Ad Ab Ad .free rfl (fun _ => .inr As) ?_; intro B1 k1 hB1
  refine Cg 5 (B := B1) (xs := [] ++ cs) (ys := [.string (str kk), .int .i64 nn, .slice q mq cq, .string (str []), .slice o l c, .slice on m1 c1, .slice ov2 m2 c2]) (m := 0 + k.names.length) (c := k1) rfl Ac rfl A5 Ae rfl rfl hB1 D9 Ae (fun a ha => by cases ha; exact Bt Dv Ae) Af Ae Ad Ab Ad .free rfl (fun _ => .inr As) ?_; intro B2 k2 hB2; refine Da 6 rfl (Ay rfl) ?_; refine Au Ac ?_; obtain ⟨b, sp, rfl⟩ : ∃ b sp, B2 = some (b, sp) := by
   cases B2 with
   | none => have := hB2.1; simp at this
   | some p => exact ⟨p.1, p.2, rfl⟩
  refine Bv ?_; intro hz; refine Ai (.tmp rfl .nil) ?_; refine ⟨_, L, hz, Ba, ⟨b, 0, none⟩, k2, ?_, Bp, ?_, rfl⟩
  ·rw [show (KE.cons n v k).names.length = 0 + k.names.length + 1 by simp [KE.names]]; rfl
  ·rw [show (KE.cons n v k).names.length = 0 + k.names.length + 1 by simp [KE.names]]; exact hB2.2.1
def LF (w : KV) (left : Int) (L : Bs) : C8 := fun v I' L' => ∃ r : Int, v = .int .i64 r ∧ (left < (w.show.length : Nat) → r < 0) ∧ ((w.show.length : Nat) ≤ left → r = left - (w.show.length : Nat)) ∧ r ≤ left ∧ L = L'
def KV.kd : KV → Av
 | .num _ => [110, 117, 109, 98, 101, 114]
 | .pair _ _ => [112, 97, 105, 114]
 | .clo _ _ _ _ _ _ => [102, 117, 110]
def KV.kn : KV → Int
 | .num s => Ej s
 | _ => 0
theorem GVat.openK {I : Heap} {v : KV} {cs : List Value} (h : GVat I v cs) : ∃ q mq cq o l c on m1 c1 ov m2 c2, cs = [.string (str v.kd), .int .i64 v.kn, .slice q mq cq, .string (str []), .slice o l c, .slice on m1 c1, .slice ov m2 c2] := by
 cases h with
 | num => exact ⟨_, _, _, _, _, _, _, _, _, _, _, _, rfl⟩
 | pair hq hc hu hv => exact ⟨_, _, _, _, _, _, _, _, _, _, _, _, rfl⟩
 | clo hr he => exact ⟨_, _, _, _, _, _, _, _, _, _, _, _, rfl⟩
theorem Yb {v : KV} (h : v.kd = [110, 117, 109, 98, 101, 114]) : ∃ s, v = .num s := by
 cases v with
 | num s => exact ⟨s, rfl⟩
 | _ => simp [KV.kd] at h
theorem Aem {v : KV} (h : v.kd = [112, 97, 105, 114]) : ∃ a b, v = .pair a b := by
 cases v with
 | pair a b => exact ⟨a, b, rfl⟩
 | _ => simp [KV.kd] at h
theorem Aft {v : KV} (h : v.kd = [102, 117, 110]) : ∃ f x s t b r, v = .clo f x s t b r := by
 cases v with
 | clo f x s t b r => exact ⟨f, x, s, t, b, r, rfl⟩
 | _ => simp [KV.kd] at h
def In (b n : Nat) (st : Bool) : Nat × Obj := (b, .cells [.int .i64 (n : Nat), .bool st].toArray 73 (0, 0))
def Sb (b : Nat) (r : Res) (L : Bs) : C8 := fun v I' L' => ∃ cs, v = .tuple #[.agg (List.toArray cs), .bool r.v.isSome] ∧ GO I' r.v cs ∧ L' = In b r.left r.stuck :: L
def EvG (N : Nat) : Prop := ∀ {I : Heap} {e : Ex} {cs : List Value} {k : KE} {on ov : Option Addr} {cn cv : Nat} (n : Nat) (_ : n < N) (_ : Rep I e.tree cs) (_ : e.ok = true) (_ : GEat I k on cn ov cv) (_ : k.wf) (_ : ∀ y ∈ e.occ [], y ∈ k.dom) (_ : k.tall + 2 * n ≤ 100000) (b : Nat) (L : Bs),
 Fun Tryz.prog 54 [.pointer (some ⟨b, 0, none⟩), .agg cs.toArray, .slice on k.names.length cn, .slice ov k.names.length cv] I (In b n false :: L) (Sb b (eval n e k) L)

theorem Acn {a d : Ex} {u v : KV} {I : Heap} {cs : List Value} (h : Rep I (Ex.bin .pair a d).tree cs) {gu : List Value} (hu : GVat I u gu) {gv : List Value} (hv : GVat I v gv) {q : Addr} {c : Nat} (hq : Still I q (gu ++ gv)) (hc : 2 ≤ c)  {on ov : Option Addr} {lm cn lv cv : Nat} (b n : Nat) (hn : n ≤ 1000000) (L : Bs) :
  Fun Tryz.prog 100 [.pointer (some ⟨b, 0, none⟩), .agg cs.toArray, .slice (some q) 2 c, .slice on lm cn, .slice ov lv cv] I (In b n false :: L) (Sb b (Res.of (B5.act .pair u v) n) L) := by
 obtain ⟨oa, cc, oaf, cf, rfl, hf⟩ := h.at'
 have hlen : (Ex.bin .pair a d).tree.parts.length = 3 := rfl
 obtain ⟨xa, rfl⟩ : ∃ xa, oa = some xa := ⟨_, Dd hf.nil (show 0 < 3 by decide)⟩
 have hle : HLe I I := .refl _
 have q0 : Still I (q.add (0 * 7)) gu := hq.left
 have q1 : Still I (q.add (1 * 7)) gv := hq.right 1 hu.len
 obtain ⟨_, _, _, _, _, _, _, _, _, _, _, _, rfl⟩ := hu.openK; obtain ⟨_, _, _, _, _, _, _, _, _, _, _, _, rfl⟩ := hv.openK
 unfold In
 refine Ao Af ?_; refine Se rfl ?_; refine Cj rfl rfl .free rfl ?_; intro b6; refine Az .free rfl ?_; intro b10; refine Oa rfl (Aa (Se rfl (Oh rfl ?_))); refine A8 rfl .free rfl ?_
 first | refine Bb rfl rfl 0 rfl .free rfl ?_ | refine Bc rfl rfl 0 rfl .free rfl ?_
 refine Bn rfl .free rfl ?_; refine Gd rfl .free rfl ?_; refine Do (t := 20) (v' := .string (str [112, 97, 105, 114])) rfl rfl ?_; refine Oa rfl (Aa (Se rfl (Om rfl ?_)))
 first | refine Bb rfl rfl 0 rfl .free rfl ?_ | refine Bc rfl rfl 0 rfl .free rfl ?_
 refine Cb rfl (Bx q0 Ae) .free rfl ?_; refine Az .free rfl ?_; intro b13; refine Bo rfl rfl rfl rfl .free ?_; refine Aa (Se rfl (Om rfl (Om rfl (On rfl ?_)))); refine Or rfl rfl rfl ?_; refine Do (t := 27) (v' := .int .i64 ((1 : Nat))) rfl Ae ?_
 first | refine Bb rfl rfl _ rfl .free rfl ?_ | refine Bc rfl rfl _ rfl .free rfl ?_
 refine Cb rfl (Bx q1 Ae) .free rfl ?_; refine Az .free rfl ?_; intro b14; refine Bo rfl rfl rfl rfl .free ?_; refine Aa (Ag (Aq (Se rfl (Om rfl (Od rfl rfl rfl (Oa rfl (Aa ?_)))))))
 first | refine St rfl (rfl) ?_ | refine By Aj ?_
 refine Se rfl ?_; refine A7 rfl .free rfl ?_; refine A7 rfl .free rfl ?_; refine Ol rfl rfl ?_; intro b35; refine Bz rfl rfl rfl .free rfl ?_; refine Bo rfl rfl rfl rfl .free ?_; refine Oa rfl (Aa ?_); refine Bv ?_; intro hz; refine Ai (.c rfl (.tmp rfl .nil)) ?_
 exact ⟨_, _, hz, Ms (L' := (b, _) :: L), _, rfl, .pair (Bp (ys := [])) (Nat.le_refl 2) (hu.mono hz) (hv.mono hz), rfl⟩
theorem Afo {z : Av} {a d : Ex} {u : KV} (hok : (Ex.lt z a d).ok = true) (wu : u.wf) {I : Heap} {cs : List Value} (h : Rep I (Ex.lt z a d).tree cs) {gu : List Value} (hu : GVat I u gu) {q : Addr} {c : Nat} (hq : Still I q (gu))  {N : Nat} (ihn : EvG N) {k : KE} {on ov : Option Addr} {cn cv : Nat} (hk : GEat I k on cn ov cv) (hkw : k.wf) (b n : Nat) (hn : n ≤ 1000000) (hN : n < N) (htl : k.tall + 2 * n ≤ 100000) (hdm : ∀ y ∈ d.occ [], y ∈ (KE.cons z u k).dom) (htl2 : (KE.cons z u k).tall + 2 * n ≤ 100000) (L : Bs) :
  Fun Tryz.prog 100 [.pointer (some ⟨b, 0, none⟩), .agg cs.toArray, .slice (some q) 1 c, .slice on k.names.length cn, .slice ov k.names.length cv] I (In b n false :: L) (Sb b (eval n d (.cons z u k)) L) := by
 obtain ⟨oa, cc, oaf, cf, rfl, hf⟩ := h.at'
 have hlen : (Ex.lt z a d).tree.parts.length = 4 := rfl
 obtain ⟨xa, rfl⟩ : ∃ xa, oa = some xa := ⟨_, Dd hf.nil (show 0 < 4 by decide)⟩
 have hle : HLe I I := .refl _
 have q0 : Still I (q.add (0 * 7)) gu := Still.left (cv := []) Jy
 have hu2 := hu
 obtain ⟨_, _, _, _, _, _, _, _, _, _, _, _, rfl⟩ := hu.openK
 have hnt := Lv k
 obtain ⟨hnm, hvs, hst, h0, hcv⟩ := hk
 simp only [Ex.ok, Bool.and_eq_true] at hok
 have hzl : z.length ≤ A9 := by have := Gb hok.1.1; unfold A9; omega
 unfold In
 refine Ao Af ?_; refine Se rfl ?_; refine Cj rfl rfl .free rfl ?_; intro b6; refine Az .free rfl ?_; intro b10; refine Oa rfl (Aa (Se rfl (Oh rfl ?_))); refine A8 rfl .free rfl ?_
 first | refine Bb rfl rfl 0 rfl .free rfl ?_ | refine Bc rfl rfl 0 rfl .free rfl ?_
 refine Bn rfl .free rfl ?_; refine Gd rfl .free rfl ?_; refine Do (t := 20) (v' := .string (str [108, 101, 116])) rfl rfl ?_; refine Oa rfl (Aa (Se rfl (Om rfl ?_)))
 first | refine Bb rfl rfl 0 rfl .free rfl ?_ | refine Bc rfl rfl 0 rfl .free rfl ?_
 refine Cb rfl (Bx q0 Ae) .free rfl ?_; refine Az .free rfl ?_; intro b13; refine Bo rfl rfl rfl rfl .free ?_; refine Aa (Se rfl (Om rfl (Om rfl (On rfl ?_)))); refine Or rfl rfl rfl ?_; refine Do (t := 27) (v' := .int .i64 ((0 : Nat))) rfl Ae ?_
 first | refine Bb rfl rfl _ rfl .free rfl ?_ | refine Bc rfl rfl _ rfl .free rfl ?_
 refine Cb rfl (Bx q0 Ae) .free rfl ?_; refine Az .free rfl ?_; intro b14; refine Bo rfl rfl rfl rfl .free ?_; refine Aa (Ag (Aq (Se rfl (Om rfl (Od rfl rfl rfl (Oa rfl (Aa ?_)))))))
 first | refine Sf rfl Ad ?_ | refine At Aj ?_
 refine Se rfl (Om rfl (Od rfl rfl rfl (Oa rfl (Aa ?_))))
 first | refine St rfl (rfl) ?_ | refine By Aj ?_
 refine Ag ?_; refine Bj (fun w h => h.f4) ?_; refine Nk 21 rfl rfl ?_; refine Da 0 rfl (Al rfl) ?_; refine Da 1 rfl (Ap rfl) ?_; refine Dt 2 [19] rfl (B6 rfl) ?_
 first | refine Da 3 rfl (Bl rfl rfl 3 rfl) ?_ | refine Da 3 rfl (Bm rfl rfl 3 rfl) ?_
 refine Dt 4 [19] rfl (Br rfl) ?_; refine Da 5 rfl (Al rfl) ?_; refine Da 6 rfl (Ap rfl) ?_; refine Dt 7 [19] rfl (B6 rfl) ?_
 first | refine Da 8 rfl (Bl rfl rfl 1 rfl) ?_ | refine Da 8 rfl (Bm rfl rfl 1 rfl) ?_
 refine Da 9 rfl (Bf rfl) ?_; refine Dt 10 [19] rfl (It rfl) ?_; refine Da 13 rfl (Al rfl) ?_; refine Dt 14 [19] rfl (Ck rfl) ?_; refine Fn 11 rfl Ac rfl rfl rfl Ae Ae Ae Ad Ad Ae .free rfl (.inr As) ?_; intro b51; refine Ed ?_; intro hz
 have hle := hz
 have hf := hf.mono hz
 have hnm := hnm.mono hz
 have hvs := hvs.mono hz
 have hst := fun x hx => (hst x hx).mono hz
 have hu2 := hu2.mono hz
 have hk1 := If hz hzl
 refine Dc 12 rfl rfl (Jd hnm hk1 Hh _) ?_; rintro _ J2 _ e2 ⟨o3, c3, rfl, hn3, rfl⟩
 have hle := hle.trans e2
 have hf := hf.mono e2
 have hvs := hvs.mono e2
 have hst := fun x hx => (hst x hx).mono e2
 have hu2 := hu2.mono e2
 refine Hx ?_; refine Dc 15 rfl rfl (Rp hvs hst h0 Ab hu2 z _) ?_; rintro _ J3 _ e3 ⟨x4, c4, rfl, hs4, hc4, rfl⟩
 have hle := hle.trans e3
 have hf := hf.mono e3
 have hvs := hvs.mono e3
 have hu2 := hu2.mono e3
 have hn3 := hn3.mono e3
 have hgk : GEat J3 (.cons z u k) o3 c3 (some x4) c4 := .mk hn3 (.cons hvs hu2) (fun x hx => by cases hx; exact hs4) (fun h => by cases h) hc4
 refine Hx ?_; refine Dc 16 rfl rfl (ihn n hN (hf.as 3 d.tree Ab rfl) hok.2 hgk ⟨hok.1.1, wu, hkw⟩ hdm htl2 b _) ?_; rintro _ J4 _ e4 ⟨cs5, rfl, hg5, rfl⟩
 have hle := hle.trans e4
 obtain ⟨_, _, _, _, _, _, _, _, _, _, _, _, _, _, rfl⟩ := hg5.open
 unfold In
 refine Hx ?_; refine Da 17 rfl (Bh rfl rfl) ?_; refine Da 18 rfl (Bh rfl rfl) ?_; refine Dx 19 rfl rfl rfl rfl ?_; refine Db 20 rfl (Ay rfl) ?_; refine Au Ac ?_; refine Ai (.c rfl (.tmp rfl .nil)) ?_
 exact ⟨J4, _, hle, Ms (L' := (b, _) :: L), _, rfl, hg5, rfl⟩
theorem Aed {o : B5} (ho : o.nums = true) {a d : Ex} {u v : KV} (wu : u.wf) (wv : v.wf) {I : Heap} {cs : List Value} (h : Rep I (Ex.bin o a d).tree cs) {gu : List Value} (hu : GVat I u gu) {gv : List Value} (hv : GVat I v gv) {q : Addr} {c : Nat} (hq : Still I q (gu ++ gv)) (hc : 2 ≤ c)  {on ov : Option Addr} {lm cn lv cv : Nat} (b n : Nat) (hn : n ≤ 1000000) (L : Bs) :
  Fun Tryz.prog 100 [.pointer (some ⟨b, 0, none⟩), .agg cs.toArray, .slice (some q) 2 c, .slice on lm cn, .slice ov lv cv] I (In b n false :: L) (Sb b (Res.of (o.act u v) n) L) := by
 obtain ⟨oa, cc, oaf, cf, rfl, hf⟩ := h.at'
 have hlen : (Ex.bin o a d).tree.parts.length = 3 := rfl
 obtain ⟨xa, rfl⟩ : ∃ xa, oa = some xa := ⟨_, Dd hf.nil (show 0 < 3 by decide)⟩
 have hle : HLe I I := .refl _
 have q0 : Still I (q.add (0 * 7)) gu := hq.left
 have q1 : Still I (q.add (1 * 7)) gv := hq.right 1 hu.len
 obtain ⟨_, _, _, _, _, _, _, _, _, _, _, _, rfl⟩ := hu.openK; obtain ⟨_, _, _, _, _, _, _, _, _, _, _, _, rfl⟩ := hv.openK
 have h1 : ¬ o.txt = [112, 97, 105, 114] := fun h => by have := B5.txt_inj (o' := .pair) h; subst this; cases ho
 have h2 : ¬ o.txt = [108, 101, 116] := o.txt_ne.2.1
 have h3 : ¬ o.txt = [105, 102] := o.txt_ne.1
 have h4 : ¬ o.txt = [99, 97, 108, 108] := fun h => by have := B5.txt_inj (o' := .call) h; subst this; cases ho
 have h5 : ¬ o.txt = [102, 115, 116] := No o .fst
 have h6 : ¬ o.txt = [115, 110, 100] := No o .snd
 have hor : (o.txt = [43] ∨ o.txt = [45]) ∨ o.txt = [42] := by cases o <;> first | exact .inl (.inl rfl) | exact .inl (.inr rfl) | exact .inr rfl | cases ho
 unfold In
 refine Ao Af ?_; refine Se rfl ?_; refine Cj rfl rfl .free rfl ?_; intro b6; refine Az .free rfl ?_; intro b10; refine Oa rfl (Aa (Se rfl (Oh rfl ?_))); refine A8 rfl .free rfl ?_
 first | refine Bb rfl rfl 0 rfl .free rfl ?_ | refine Bc rfl rfl 0 rfl .free rfl ?_
 refine Bn rfl .free rfl ?_; refine Gd rfl .free rfl ?_; refine Do (t := 20) (v' := .string (str o.txt)) rfl rfl ?_; refine Oa rfl (Aa (Se rfl (Om rfl ?_)))
 first | refine Bb rfl rfl 0 rfl .free rfl ?_ | refine Bc rfl rfl 0 rfl .free rfl ?_
 refine Cb rfl (Bx q0 Ae) .free rfl ?_; refine Az .free rfl ?_; intro b13; refine Bo rfl rfl rfl rfl .free ?_; refine Aa (Se rfl (Om rfl (Om rfl (On rfl ?_)))); refine Or rfl rfl rfl ?_; refine Do (t := 27) (v' := .int .i64 ((1 : Nat))) rfl Ae ?_
 first | refine Bb rfl rfl _ rfl .free rfl ?_ | refine Bc rfl rfl _ rfl .free rfl ?_
 refine Cb rfl (Bx q1 Ae) .free rfl ?_; refine Az .free rfl ?_; intro b14; refine Bo rfl rfl rfl rfl .free ?_; refine Aa (Ag (Aq (Se rfl (Om rfl (Od rfl rfl rfl (Oa rfl (Aa ?_)))))))
 first | refine F7 rfl (h1) ?_ | refine F6 rfl (h1) ?_ | refine At Aj ?_
 refine Se rfl (Om rfl (Od rfl rfl rfl (Oa rfl (Aa ?_))))
 first | refine F7 rfl (h2) ?_ | refine F6 rfl (h2) ?_ | refine At Aj ?_
 refine Se rfl (Om rfl (Od rfl rfl rfl (Om rfl ?_)))
 apply Cz 62 66 rfl
 ·intro g8_3 hk
  try simp only [nb] at g8_3
  refine A2 rfl (.met rfl rfl) rfl ?_; refine A8 rfl (.met rfl rfl) rfl ?_; refine Cy rfl rfl rfl (.met rfl rfl) rfl ?_; refine Ot rfl rfl ?_
  exact Ax 3 rfl rfl hk
 ·intro _ hk; refine A4 3 rfl ?_; refine Of rfl rfl ?_
  exact Ax 3 rfl rfl hk
 refine Oa rfl (Aa ?_)
 first | refine F7 rfl (fun h => h3 h.1) ?_ | refine F6 rfl (fun h => h3 h.1) ?_ | refine At Aj ?_
 refine Se rfl (Om rfl (Od rfl rfl rfl (Om rfl ?_)))
 apply Cz 87 91 rfl
 ·intro g10_3 hk
  try simp only [nb] at g10_3
  refine A2 rfl (.met rfl rfl) rfl ?_; refine A8 rfl (.met rfl rfl) rfl ?_; refine Cy rfl rfl rfl (.met rfl rfl) rfl ?_; refine Ot rfl rfl ?_
  exact Ax 3 rfl rfl hk
 ·intro _ hk; refine A4 3 rfl ?_; refine Of rfl rfl ?_
  exact Ax 3 rfl rfl hk
 refine Oa rfl (Aa ?_)
 first | refine F7 rfl (fun h => h4 h.1) ?_ | refine F6 rfl (fun h => h4 h.1) ?_ | refine At Aj ?_
 refine Se rfl (Om rfl (Od rfl rfl rfl (Om rfl ?_)))
 apply Cz 123 127 rfl
 ·intro g13_3 hk
  try simp only [nb] at g13_3
  refine A2 rfl (.met rfl rfl) rfl ?_; refine A8 rfl (.met rfl rfl) rfl ?_; refine Cy rfl rfl rfl (.met rfl rfl) rfl ?_; refine Ot rfl rfl ?_
  exact Ax 3 rfl rfl hk
 ·intro _ hk; refine A4 3 rfl ?_; refine Of rfl rfl ?_
  exact Ax 3 rfl rfl hk
 refine Oa rfl (Aa ?_)
 first | refine F7 rfl (fun h => h5 h.1) ?_ | refine F6 rfl (fun h => h5 h.1) ?_ | refine At Aj ?_
 refine Se rfl (Om rfl (Od rfl rfl rfl (Om rfl ?_)))
 apply Cz 135 139 rfl
 ·intro g15_3 hk
  try simp only [nb] at g15_3
  refine A2 rfl (.met rfl rfl) rfl ?_; refine A8 rfl (.met rfl rfl) rfl ?_; refine Cy rfl rfl rfl (.met rfl rfl) rfl ?_; refine Ot rfl rfl ?_
  exact Ax 3 rfl rfl hk
 ·intro _ hk; refine A4 3 rfl ?_; refine Of rfl rfl ?_
  exact Ax 3 rfl rfl hk
 refine Oa rfl (Aa ?_)
 first | refine F7 rfl (fun h => h6 h.1) ?_ | refine F6 rfl (fun h => h6 h.1) ?_ | refine At Aj ?_
 refine Se rfl (Om rfl (Od rfl rfl rfl (Om rfl ?_)))
 apply Gy 147 150 rfl
 ·intro g17_3 hk
  try simp only [nb] at g17_3
  refine Ow rfl ?_; refine Cy rfl rfl rfl (.met rfl rfl) rfl ?_; refine Of rfl rfl ?_
  exact Ax 2 rfl rfl hk
 ·intro _ hk; refine A4 2 rfl ?_; refine Ot rfl rfl ?_
  exact Ax 2 rfl rfl hk
 refine Om rfl ?_
 apply Gy 151 154 rfl
 ·intro g17_7 hk
  try simp only [nb] at g17_7
  refine Ow rfl ?_; refine Cy rfl rfl rfl (.met rfl rfl) rfl ?_; refine Of rfl rfl ?_
  exact Ax 2 rfl rfl hk
 ·intro _ hk; refine A4 2 rfl ?_; refine Ot rfl rfl ?_
  exact Ax 2 rfl rfl hk
 refine Om rfl ?_
 apply Cz 155 159 rfl
 ·intro g17_11 hk
  try simp only [nb] at g17_11
  refine A2 rfl (.met rfl rfl) rfl ?_; refine A8 rfl (.met rfl rfl) rfl ?_; refine Cy rfl rfl rfl (.met rfl rfl) rfl ?_; refine Ot rfl rfl ?_
  exact Ax 3 rfl rfl hk
 ·intro _ hk; refine A4 3 rfl ?_; refine Of rfl rfl ?_
  exact Ax 3 rfl rfl hk
 refine Om rfl ?_
 apply Cz 160 164 rfl
 ·intro g17_16 hk
  try simp only [nb] at g17_16
  refine A2 rfl (.met rfl rfl) rfl ?_; refine A8 rfl (.met rfl rfl) rfl ?_; refine Cy rfl rfl rfl (.met rfl rfl) rfl ?_; refine Ot rfl rfl ?_
  exact Ax 3 rfl rfl hk
 ·intro _ hk; refine A4 3 rfl ?_; refine Of rfl rfl ?_
  exact Ax 3 rfl rfl hk
 refine Oa rfl (Aa ?_); refine Aw rfl ?_ ?_
 ·intro c6
  try simp only [nb] at c6
  obtain ⟨s, rfl⟩ := Yb (v := u) c6.1.2; obtain ⟨r, rfl⟩ := Yb (v := v) c6.2; refine Se rfl (Om rfl (Oh rfl ?_)); refine A8 rfl .free rfl ?_; refine Oh rfl ?_; refine A8 rfl .free rfl ?_; refine Ca rfl (Aai o (Ej s) (Ej r) (Nc wu) (Nc wv) _ _) ?_; rintro _ _ _ _ ⟨rfl, rfl, rfl⟩; refine Bz rfl rfl rfl .free rfl ?_; refine Bo rfl rfl rfl rfl .free ?_; refine Oa rfl (Aa ?_); refine Ai (.c rfl (.tmp rfl .nil)) ?_
  have hac : o.act (.num s) (.num r) = some (.num (Ll o s r)) := by
   cases o <;> first | rfl | cases ho
  have hg := GVat.num (I := I) (s := Ll o s r)
  rw [(O6 o s r).2] at hg; rw [hac]
  exact ⟨I, _, .refl _, Ms (L' := (b, _) :: L), _, rfl, hg, rfl⟩
 intro c6
 try simp only [nb] at c6
 refine Ak (Ar (Se rfl (Om rfl ?_))); refine A1 rfl .free rfl ?_
 first | refine Oh rfl ?_ | refine Oj rfl ?_
 refine Bo rfl rfl rfl rfl .free ?_; refine Aa (Se rfl ?_); refine Bz rfl rfl rfl .free rfl ?_; refine Bo rfl rfl rfl rfl .free ?_; refine Oa rfl (Aa ?_); refine Ai (.c rfl (.tmp rfl .nil)) ?_
 have hac : o.act u v = none := by
  cases u with
  | num s =>
   cases v with
   | num r => exact absurd c6 (by simp [KV.kd]; intro x1 x2; rcases hor with (h | h) | h; exact absurd h x1; exact absurd h x2; exact h)
   | _ => cases o <;> first | rfl | cases ho
  | _ => cases o <;> first | rfl | cases ho
 rw [hac]
 exact ⟨I, _, .refl _, Ms (L' := (b, _) :: L), Tx, rfl, rfl, rfl⟩
theorem Wk {a d : Ex} {u v : KV} (hno : ¬ u.kd = [102, 117, 110]) {I : Heap} {cs : List Value} (h : Rep I (Ex.bin .call a d).tree cs) {gu : List Value} (hu : GVat I u gu) {gv : List Value} (hv : GVat I v gv) {q : Addr} {c : Nat} (hq : Still I q (gu ++ gv)) (hc : 2 ≤ c)  {on ov : Option Addr} {lm cn lv cv : Nat} (b n : Nat) (hn : n ≤ 1000000) (L : Bs) :
  Fun Tryz.prog 100 [.pointer (some ⟨b, 0, none⟩), .agg cs.toArray, .slice (some q) 2 c, .slice on lm cn, .slice ov lv cv] I (In b n false :: L) (Sb b ⟨none, n, true⟩ L) := by
 obtain ⟨oa, cc, oaf, cf, rfl, hf⟩ := h.at'
 have hlen : (Ex.bin .call a d).tree.parts.length = 3 := rfl
 obtain ⟨xa, rfl⟩ : ∃ xa, oa = some xa := ⟨_, Dd hf.nil (show 0 < 3 by decide)⟩
 have hle : HLe I I := .refl _
 have q0 : Still I (q.add (0 * 7)) gu := hq.left
 have q1 : Still I (q.add (1 * 7)) gv := hq.right 1 hu.len
 obtain ⟨_, _, _, _, _, _, _, _, _, _, _, _, rfl⟩ := hu.openK; obtain ⟨_, _, _, _, _, _, _, _, _, _, _, _, rfl⟩ := hv.openK
 unfold In
 refine Ao Af ?_; refine Se rfl ?_; refine Cj rfl rfl .free rfl ?_; intro b6; refine Az .free rfl ?_; intro b10; refine Oa rfl (Aa (Se rfl (Oh rfl ?_))); refine A8 rfl .free rfl ?_
 first | refine Bb rfl rfl 0 rfl .free rfl ?_ | refine Bc rfl rfl 0 rfl .free rfl ?_
 refine Bn rfl .free rfl ?_; refine Gd rfl .free rfl ?_; refine Do (t := 20) (v' := .string (str [99, 97, 108, 108])) rfl rfl ?_; refine Oa rfl (Aa (Se rfl (Om rfl ?_)))
 first | refine Bb rfl rfl 0 rfl .free rfl ?_ | refine Bc rfl rfl 0 rfl .free rfl ?_
 refine Cb rfl (Bx q0 Ae) .free rfl ?_; refine Az .free rfl ?_; intro b13; refine Bo rfl rfl rfl rfl .free ?_; refine Aa (Se rfl (Om rfl (Om rfl (On rfl ?_)))); refine Or rfl rfl rfl ?_; refine Do (t := 27) (v' := .int .i64 ((1 : Nat))) rfl Ae ?_
 first | refine Bb rfl rfl _ rfl .free rfl ?_ | refine Bc rfl rfl _ rfl .free rfl ?_
 refine Cb rfl (Bx q1 Ae) .free rfl ?_; refine Az .free rfl ?_; intro b14; refine Bo rfl rfl rfl rfl .free ?_; refine Aa (Ag (Aq (Se rfl (Om rfl (Od rfl rfl rfl (Oa rfl (Aa ?_)))))))
 first | refine Sf rfl Ad ?_ | refine At Aj ?_
 refine Se rfl (Om rfl (Od rfl rfl rfl (Oa rfl (Aa ?_))))
 first | refine Sf rfl Ad ?_ | refine At Aj ?_
 refine Se rfl (Om rfl (Od rfl rfl rfl (Om rfl ?_)))
 apply Cz 62 66 rfl
 ·intro g8_3 hk
  try simp only [nb] at g8_3
  refine A2 rfl (.met rfl rfl) rfl ?_; refine A8 rfl (.met rfl rfl) rfl ?_; refine Cy rfl rfl rfl (.met rfl rfl) rfl ?_; refine Ot rfl rfl ?_
  exact Ax 3 rfl rfl hk
 ·intro _ hk; refine A4 3 rfl ?_; refine Of rfl rfl ?_
  exact Ax 3 rfl rfl hk
 refine Oa rfl (Aa ?_)
 first | refine F7 rfl (fun h => absurd h.1 Ad) ?_ | refine F6 rfl (fun h => absurd h.1 Ad) ?_ | refine At Aj ?_
 refine Se rfl (Om rfl (Od rfl rfl rfl (Om rfl ?_)))
 apply Cz 87 91 rfl
 ·intro g10_3 hk
  try simp only [nb] at g10_3
  refine A2 rfl (.met rfl rfl) rfl ?_; refine A8 rfl (.met rfl rfl) rfl ?_; refine Cy rfl rfl rfl (.met rfl rfl) rfl ?_; refine Ot rfl rfl ?_
  exact Ax 3 rfl rfl hk
 ·intro _ hk; refine A4 3 rfl ?_; refine Of rfl rfl ?_
  exact Ax 3 rfl rfl hk
 refine Oa rfl (Aa ?_)
 first | refine F7 rfl (fun h => hno h.2) ?_ | refine F6 rfl (fun h => hno h.2) ?_ | refine At Aj ?_
 refine Se rfl (Om rfl (Od rfl rfl rfl (Om rfl ?_)))
 apply Cz 123 127 rfl
 ·intro g13_3 hk
  try simp only [nb] at g13_3
  refine A2 rfl (.met rfl rfl) rfl ?_; refine A8 rfl (.met rfl rfl) rfl ?_; refine Cy rfl rfl rfl (.met rfl rfl) rfl ?_; refine Ot rfl rfl ?_
  exact Ax 3 rfl rfl hk
 ·intro _ hk; refine A4 3 rfl ?_; refine Of rfl rfl ?_
  exact Ax 3 rfl rfl hk
 refine Oa rfl (Aa ?_)
 first | refine F7 rfl (fun h => absurd h.1 Ad) ?_ | refine F6 rfl (fun h => absurd h.1 Ad) ?_ | refine At Aj ?_
 refine Se rfl (Om rfl (Od rfl rfl rfl (Om rfl ?_)))
 apply Cz 135 139 rfl
 ·intro g15_3 hk
  try simp only [nb] at g15_3
  refine A2 rfl (.met rfl rfl) rfl ?_; refine A8 rfl (.met rfl rfl) rfl ?_; refine Cy rfl rfl rfl (.met rfl rfl) rfl ?_; refine Ot rfl rfl ?_
  exact Ax 3 rfl rfl hk
 ·intro _ hk; refine A4 3 rfl ?_; refine Of rfl rfl ?_
  exact Ax 3 rfl rfl hk
 refine Oa rfl (Aa ?_)
 first | refine F7 rfl (fun h => absurd h.1 Ad) ?_ | refine F6 rfl (fun h => absurd h.1 Ad) ?_ | refine At Aj ?_
 refine Se rfl (Om rfl (Od rfl rfl rfl (Om rfl ?_)))
 apply Gy 147 150 rfl
 ·intro g17_3 hk
  try simp only [nb] at g17_3
  refine Ow rfl ?_; refine Cy rfl rfl rfl (.met rfl rfl) rfl ?_; refine Of rfl rfl ?_
  exact Ax 2 rfl rfl hk
 ·intro _ hk; refine A4 2 rfl ?_; refine Ot rfl rfl ?_
  exact Ax 2 rfl rfl hk
 refine Om rfl ?_
 apply Gy 151 154 rfl
 ·intro g17_7 hk
  try simp only [nb] at g17_7
  refine Ow rfl ?_; refine Cy rfl rfl rfl (.met rfl rfl) rfl ?_; refine Of rfl rfl ?_
  exact Ax 2 rfl rfl hk
 ·intro _ hk; refine A4 2 rfl ?_; refine Ot rfl rfl ?_
  exact Ax 2 rfl rfl hk
 refine Om rfl ?_
 apply Cz 155 159 rfl
 ·intro g17_11 hk
  try simp only [nb] at g17_11
  refine A2 rfl (.met rfl rfl) rfl ?_; refine A8 rfl (.met rfl rfl) rfl ?_; refine Cy rfl rfl rfl (.met rfl rfl) rfl ?_; refine Ot rfl rfl ?_
  exact Ax 3 rfl rfl hk
 ·intro _ hk; refine A4 3 rfl ?_; refine Of rfl rfl ?_
  exact Ax 3 rfl rfl hk
 refine Om rfl ?_
 apply Cz 160 164 rfl
 ·intro g17_16 hk
  try simp only [nb] at g17_16
  refine A2 rfl (.met rfl rfl) rfl ?_; refine A8 rfl (.met rfl rfl) rfl ?_; refine Cy rfl rfl rfl (.met rfl rfl) rfl ?_; refine Ot rfl rfl ?_
  exact Ax 3 rfl rfl hk
 ·intro _ hk; refine A4 3 rfl ?_; refine Of rfl rfl ?_
  exact Ax 3 rfl rfl hk
 refine Oa rfl (Aa ?_)
 first | refine F7 rfl (fun h => absurd h.1.1 Ad) ?_ | refine F6 rfl (fun h => absurd h.1.1 Ad) ?_ | refine At Aj ?_
 refine Ak (Ar (Se rfl (Om rfl ?_))); refine A1 rfl .free rfl ?_
 first | refine Oh rfl ?_ | refine Oj rfl ?_
 refine Bo rfl rfl rfl rfl .free ?_; refine Aa (Se rfl ?_); refine Bz rfl rfl rfl .free rfl ?_; refine Bo rfl rfl rfl rfl .free ?_; refine Oa rfl (Aa ?_); refine Ai (.c rfl (.tmp rfl .nil)) ?_
 exact ⟨I, _, .refl _, Ms (L' := (b, _) :: L), Tx, rfl, rfl, rfl⟩
theorem X8 {a d e : Ex} {u : KV} (hno : ¬ u.kd = [110, 117, 109, 98, 101, 114]) {I : Heap} {cs : List Value} (h : Rep I (Ex.ite a d e).tree cs) {gu : List Value} (hu : GVat I u gu) {q : Addr} {c : Nat} (hq : Still I q (gu))  {on ov : Option Addr} {lm cn lv cv : Nat} (b n : Nat) (hn : n ≤ 1000000) (L : Bs) :
  Fun Tryz.prog 100 [.pointer (some ⟨b, 0, none⟩), .agg cs.toArray, .slice (some q) 1 c, .slice on lm cn, .slice ov lv cv] I (In b n false :: L) (Sb b ⟨none, n, true⟩ L) := by
 obtain ⟨oa, cc, oaf, cf, rfl, hf⟩ := h.at'
 have hlen : (Ex.ite a d e).tree.parts.length = 4 := rfl
 obtain ⟨xa, rfl⟩ : ∃ xa, oa = some xa := ⟨_, Dd hf.nil (show 0 < 4 by decide)⟩
 have hle : HLe I I := .refl _
 have q0 : Still I (q.add (0 * 7)) gu := Still.left (cv := []) Jy
 obtain ⟨_, _, _, _, _, _, _, _, _, _, _, _, rfl⟩ := hu.openK
 unfold In
 refine Ao Af ?_; refine Se rfl ?_; refine Cj rfl rfl .free rfl ?_; intro b6; refine Az .free rfl ?_; intro b10; refine Oa rfl (Aa (Se rfl (Oh rfl ?_))); refine A8 rfl .free rfl ?_
 first | refine Bb rfl rfl 0 rfl .free rfl ?_ | refine Bc rfl rfl 0 rfl .free rfl ?_
 refine Bn rfl .free rfl ?_; refine Gd rfl .free rfl ?_; refine Do (t := 20) (v' := .string (str [105, 102])) rfl rfl ?_; refine Oa rfl (Aa (Se rfl (Om rfl ?_)))
 first | refine Bb rfl rfl 0 rfl .free rfl ?_ | refine Bc rfl rfl 0 rfl .free rfl ?_
 refine Cb rfl (Bx q0 Ae) .free rfl ?_; refine Az .free rfl ?_; intro b13; refine Bo rfl rfl rfl rfl .free ?_; refine Aa (Se rfl (Om rfl (Om rfl (On rfl ?_)))); refine Or rfl rfl rfl ?_; refine Do (t := 27) (v' := .int .i64 ((0 : Nat))) rfl Ae ?_
 first | refine Bb rfl rfl _ rfl .free rfl ?_ | refine Bc rfl rfl _ rfl .free rfl ?_
 refine Cb rfl (Bx q0 Ae) .free rfl ?_; refine Az .free rfl ?_; intro b14; refine Bo rfl rfl rfl rfl .free ?_; refine Aa (Ag (Aq (Se rfl (Om rfl (Od rfl rfl rfl (Oa rfl (Aa ?_)))))))
 first | refine Sf rfl Ad ?_ | refine At Aj ?_
 refine Se rfl (Om rfl (Od rfl rfl rfl (Oa rfl (Aa ?_))))
 first | refine Sf rfl Ad ?_ | refine At Aj ?_
 refine Se rfl (Om rfl (Od rfl rfl rfl (Om rfl ?_)))
 apply Cz 62 66 rfl
 ·intro g8_3 hk
  try simp only [nb] at g8_3
  refine A2 rfl (.met rfl rfl) rfl ?_; refine A8 rfl (.met rfl rfl) rfl ?_; refine Cy rfl rfl rfl (.met rfl rfl) rfl ?_; refine Ot rfl rfl ?_
  exact Ax 3 rfl rfl hk
 ·intro _ hk; refine A4 3 rfl ?_; refine Of rfl rfl ?_
  exact Ax 3 rfl rfl hk
 refine Oa rfl (Aa ?_)
 first | refine F7 rfl (fun h => hno h.2) ?_ | refine F6 rfl (fun h => hno h.2) ?_ | refine At Aj ?_
 refine Se rfl (Om rfl (Od rfl rfl rfl (Om rfl ?_)))
 apply Cz 87 91 rfl
 ·intro g10_3 hk
  try simp only [nb] at g10_3
  refine A2 rfl (.met rfl rfl) rfl ?_; refine A8 rfl (.met rfl rfl) rfl ?_; refine Cy rfl rfl rfl (.met rfl rfl) rfl ?_; refine Ot rfl rfl ?_
  exact Ax 3 rfl rfl hk
 ·intro _ hk; refine A4 3 rfl ?_; refine Of rfl rfl ?_
  exact Ax 3 rfl rfl hk
 refine Oa rfl (Aa ?_)
 first | refine F7 rfl (fun h => absurd h.1 Ad) ?_ | refine F6 rfl (fun h => absurd h.1 Ad) ?_ | refine At Aj ?_
 refine Se rfl (Om rfl (Od rfl rfl rfl (Om rfl ?_)))
 apply Cz 123 127 rfl
 ·intro g13_3 hk
  try simp only [nb] at g13_3
  refine A2 rfl (.met rfl rfl) rfl ?_; refine A8 rfl (.met rfl rfl) rfl ?_; refine Cy rfl rfl rfl (.met rfl rfl) rfl ?_; refine Ot rfl rfl ?_
  exact Ax 3 rfl rfl hk
 ·intro _ hk; refine A4 3 rfl ?_; refine Of rfl rfl ?_
  exact Ax 3 rfl rfl hk
 refine Oa rfl (Aa ?_)
 first | refine F7 rfl (fun h => absurd h.1 Ad) ?_ | refine F6 rfl (fun h => absurd h.1 Ad) ?_ | refine At Aj ?_
 refine Se rfl (Om rfl (Od rfl rfl rfl (Om rfl ?_)))
 apply Cz 135 139 rfl
 ·intro g15_3 hk
  try simp only [nb] at g15_3
  refine A2 rfl (.met rfl rfl) rfl ?_; refine A8 rfl (.met rfl rfl) rfl ?_; refine Cy rfl rfl rfl (.met rfl rfl) rfl ?_; refine Ot rfl rfl ?_
  exact Ax 3 rfl rfl hk
 ·intro _ hk; refine A4 3 rfl ?_; refine Of rfl rfl ?_
  exact Ax 3 rfl rfl hk
 refine Oa rfl (Aa ?_)
 first | refine F7 rfl (fun h => absurd h.1 Ad) ?_ | refine F6 rfl (fun h => absurd h.1 Ad) ?_ | refine At Aj ?_
 refine Se rfl (Om rfl (Od rfl rfl rfl (Om rfl ?_)))
 apply Gy 147 150 rfl
 ·intro g17_3 hk
  try simp only [nb] at g17_3
  refine Ow rfl ?_; refine Cy rfl rfl rfl (.met rfl rfl) rfl ?_; refine Of rfl rfl ?_
  exact Ax 2 rfl rfl hk
 ·intro _ hk; refine A4 2 rfl ?_; refine Ot rfl rfl ?_
  exact Ax 2 rfl rfl hk
 refine Om rfl ?_
 apply Gy 151 154 rfl
 ·intro g17_7 hk
  try simp only [nb] at g17_7
  refine Ow rfl ?_; refine Cy rfl rfl rfl (.met rfl rfl) rfl ?_; refine Of rfl rfl ?_
  exact Ax 2 rfl rfl hk
 ·intro _ hk; refine A4 2 rfl ?_; refine Ot rfl rfl ?_
  exact Ax 2 rfl rfl hk
 refine Om rfl ?_
 apply Cz 155 159 rfl
 ·intro g17_11 hk
  try simp only [nb] at g17_11
  refine A2 rfl (.met rfl rfl) rfl ?_; refine A8 rfl (.met rfl rfl) rfl ?_; refine Cy rfl rfl rfl (.met rfl rfl) rfl ?_; refine Ot rfl rfl ?_
  exact Ax 3 rfl rfl hk
 ·intro _ hk; refine A4 3 rfl ?_; refine Of rfl rfl ?_
  exact Ax 3 rfl rfl hk
 refine Om rfl ?_
 apply Cz 160 164 rfl
 ·intro g17_16 hk
  try simp only [nb] at g17_16
  refine A2 rfl (.met rfl rfl) rfl ?_; refine A8 rfl (.met rfl rfl) rfl ?_; refine Cy rfl rfl rfl (.met rfl rfl) rfl ?_; refine Ot rfl rfl ?_
  exact Ax 3 rfl rfl hk
 ·intro _ hk; refine A4 3 rfl ?_; refine Of rfl rfl ?_
  exact Ax 3 rfl rfl hk
 refine Oa rfl (Aa ?_)
 first | refine F7 rfl (fun h => absurd h.1.1 Ad) ?_ | refine F6 rfl (fun h => absurd h.1.1 Ad) ?_ | refine At Aj ?_
 refine Ak (Ar (Se rfl (Om rfl ?_))); refine A1 rfl .free rfl ?_
 first | refine Oh rfl ?_ | refine Oj rfl ?_
 refine Bo rfl rfl rfl rfl .free ?_; refine Aa (Se rfl ?_); refine Bz rfl rfl rfl .free rfl ?_; refine Bo rfl rfl rfl rfl .free ?_; refine Oa rfl (Aa ?_); refine Ai (.c rfl (.tmp rfl .nil)) ?_
 exact ⟨I, _, .refl _, Ms (L' := (b, _) :: L), Tx, rfl, rfl, rfl⟩
theorem Aal {o : U2} {a : Ex} {u : KV} (hno : ¬ u.kd = [112, 97, 105, 114]) {I : Heap} {cs : List Value} (h : Rep I (Ex.un o a).tree cs) {gu : List Value} (hu : GVat I u gu) {q : Addr} {c : Nat} (hq : Still I q (gu))  {on ov : Option Addr} {lm cn lv cv : Nat} (b n : Nat) (hn : n ≤ 1000000) (L : Bs) :
  Fun Tryz.prog 100 [.pointer (some ⟨b, 0, none⟩), .agg cs.toArray, .slice (some q) 1 c, .slice on lm cn, .slice ov lv cv] I (In b n false :: L) (Sb b ⟨none, n, true⟩ L) := by
 obtain ⟨oa, cc, oaf, cf, rfl, hf⟩ := h.at'
 have hlen : (Ex.un o a).tree.parts.length = 2 := rfl
 obtain ⟨xa, rfl⟩ : ∃ xa, oa = some xa := ⟨_, Dd hf.nil (show 0 < 2 by decide)⟩
 have hle : HLe I I := .refl _
 have q0 : Still I (q.add (0 * 7)) gu := Still.left (cv := []) Jy
 obtain ⟨_, _, _, _, _, _, _, _, _, _, _, _, rfl⟩ := hu.openK
 have h1 : ¬ o.txt = [112, 97, 105, 114] := fun h => No .pair o h.symm
 have h2 : ¬ o.txt = [108, 101, 116] := o.txt_ne.2.1
 have h3 : ¬ o.txt = [105, 102] := o.txt_ne.1
 have h4 : ¬ o.txt = [99, 97, 108, 108] := fun h => No .call o h.symm
 have hor : ¬ ((o.txt = [43] ∨ o.txt = [45]) ∨ o.txt = [42]) := by cases o <;> decide
 unfold In
 refine Ao Af ?_; refine Se rfl ?_; refine Cj rfl rfl .free rfl ?_; intro b6; refine Az .free rfl ?_; intro b10; refine Oa rfl (Aa (Se rfl (Oh rfl ?_))); refine A8 rfl .free rfl ?_
 first | refine Bb rfl rfl 0 rfl .free rfl ?_ | refine Bc rfl rfl 0 rfl .free rfl ?_
 refine Bn rfl .free rfl ?_; refine Gd rfl .free rfl ?_; refine Do (t := 20) (v' := .string (str o.txt)) rfl rfl ?_; refine Oa rfl (Aa (Se rfl (Om rfl ?_)))
 first | refine Bb rfl rfl 0 rfl .free rfl ?_ | refine Bc rfl rfl 0 rfl .free rfl ?_
 refine Cb rfl (Bx q0 Ae) .free rfl ?_; refine Az .free rfl ?_; intro b13; refine Bo rfl rfl rfl rfl .free ?_; refine Aa (Se rfl (Om rfl (Om rfl (On rfl ?_)))); refine Or rfl rfl rfl ?_; refine Do (t := 27) (v' := .int .i64 ((0 : Nat))) rfl Ae ?_
 first | refine Bb rfl rfl _ rfl .free rfl ?_ | refine Bc rfl rfl _ rfl .free rfl ?_
 refine Cb rfl (Bx q0 Ae) .free rfl ?_; refine Az .free rfl ?_; intro b14; refine Bo rfl rfl rfl rfl .free ?_; refine Aa (Ag (Aq (Se rfl (Om rfl (Od rfl rfl rfl (Oa rfl (Aa ?_)))))))
 first | refine F7 rfl (h1) ?_ | refine F6 rfl (h1) ?_ | refine At Aj ?_
 refine Se rfl (Om rfl (Od rfl rfl rfl (Oa rfl (Aa ?_))))
 first | refine F7 rfl (h2) ?_ | refine F6 rfl (h2) ?_ | refine At Aj ?_
 refine Se rfl (Om rfl (Od rfl rfl rfl (Om rfl ?_)))
 apply Cz 62 66 rfl
 ·intro g8_3 hk
  try simp only [nb] at g8_3
  refine A2 rfl (.met rfl rfl) rfl ?_; refine A8 rfl (.met rfl rfl) rfl ?_; refine Cy rfl rfl rfl (.met rfl rfl) rfl ?_; refine Ot rfl rfl ?_
  exact Ax 3 rfl rfl hk
 ·intro _ hk; refine A4 3 rfl ?_; refine Of rfl rfl ?_
  exact Ax 3 rfl rfl hk
 refine Oa rfl (Aa ?_)
 first | refine F7 rfl (fun h => h3 h.1) ?_ | refine F6 rfl (fun h => h3 h.1) ?_ | refine At Aj ?_
 refine Se rfl (Om rfl (Od rfl rfl rfl (Om rfl ?_)))
 apply Cz 87 91 rfl
 ·intro g10_3 hk
  try simp only [nb] at g10_3
  refine A2 rfl (.met rfl rfl) rfl ?_; refine A8 rfl (.met rfl rfl) rfl ?_; refine Cy rfl rfl rfl (.met rfl rfl) rfl ?_; refine Ot rfl rfl ?_
  exact Ax 3 rfl rfl hk
 ·intro _ hk; refine A4 3 rfl ?_; refine Of rfl rfl ?_
  exact Ax 3 rfl rfl hk
 refine Oa rfl (Aa ?_)
 first | refine F7 rfl (fun h => h4 h.1) ?_ | refine F6 rfl (fun h => h4 h.1) ?_ | refine At Aj ?_
 refine Se rfl (Om rfl (Od rfl rfl rfl (Om rfl ?_)))
 apply Cz 123 127 rfl
 ·intro g13_3 hk
  try simp only [nb] at g13_3
  refine A2 rfl (.met rfl rfl) rfl ?_; refine A8 rfl (.met rfl rfl) rfl ?_; refine Cy rfl rfl rfl (.met rfl rfl) rfl ?_; refine Ot rfl rfl ?_
  exact Ax 3 rfl rfl hk
 ·intro _ hk; refine A4 3 rfl ?_; refine Of rfl rfl ?_
  exact Ax 3 rfl rfl hk
 refine Oa rfl (Aa ?_)
 first | refine F7 rfl (fun h => hno h.2) ?_ | refine F6 rfl (fun h => hno h.2) ?_ | refine At Aj ?_
 refine Se rfl (Om rfl (Od rfl rfl rfl (Om rfl ?_)))
 apply Cz 135 139 rfl
 ·intro g15_3 hk
  try simp only [nb] at g15_3
  refine A2 rfl (.met rfl rfl) rfl ?_; refine A8 rfl (.met rfl rfl) rfl ?_; refine Cy rfl rfl rfl (.met rfl rfl) rfl ?_; refine Ot rfl rfl ?_
  exact Ax 3 rfl rfl hk
 ·intro _ hk; refine A4 3 rfl ?_; refine Of rfl rfl ?_
  exact Ax 3 rfl rfl hk
 refine Oa rfl (Aa ?_)
 first | refine F7 rfl (fun h => hno h.2) ?_ | refine F6 rfl (fun h => hno h.2) ?_ | refine At Aj ?_
 refine Se rfl (Om rfl (Od rfl rfl rfl (Om rfl ?_)))
 apply Gy 147 150 rfl
 ·intro g17_3 hk
  try simp only [nb] at g17_3
  refine Ow rfl ?_; refine Cy rfl rfl rfl (.met rfl rfl) rfl ?_; refine Of rfl rfl ?_
  exact Ax 2 rfl rfl hk
 ·intro _ hk; refine A4 2 rfl ?_; refine Ot rfl rfl ?_
  exact Ax 2 rfl rfl hk
 refine Om rfl ?_
 apply Gy 151 154 rfl
 ·intro g17_7 hk
  try simp only [nb] at g17_7
  refine Ow rfl ?_; refine Cy rfl rfl rfl (.met rfl rfl) rfl ?_; refine Of rfl rfl ?_
  exact Ax 2 rfl rfl hk
 ·intro _ hk; refine A4 2 rfl ?_; refine Ot rfl rfl ?_
  exact Ax 2 rfl rfl hk
 refine Om rfl ?_
 apply Cz 155 159 rfl
 ·intro g17_11 hk
  try simp only [nb] at g17_11
  refine A2 rfl (.met rfl rfl) rfl ?_; refine A8 rfl (.met rfl rfl) rfl ?_; refine Cy rfl rfl rfl (.met rfl rfl) rfl ?_; refine Ot rfl rfl ?_
  exact Ax 3 rfl rfl hk
 ·intro _ hk; refine A4 3 rfl ?_; refine Of rfl rfl ?_
  exact Ax 3 rfl rfl hk
 refine Om rfl ?_
 apply Cz 160 164 rfl
 ·intro g17_16 hk
  try simp only [nb] at g17_16
  refine A2 rfl (.met rfl rfl) rfl ?_; refine A8 rfl (.met rfl rfl) rfl ?_; refine Cy rfl rfl rfl (.met rfl rfl) rfl ?_; refine Ot rfl rfl ?_
  exact Ax 3 rfl rfl hk
 ·intro _ hk; refine A4 3 rfl ?_; refine Of rfl rfl ?_
  exact Ax 3 rfl rfl hk
 refine Oa rfl (Aa ?_)
 first | refine F7 rfl (fun h => hor h.1.1) ?_ | refine F6 rfl (fun h => hor h.1.1) ?_ | refine At Aj ?_
 refine Ak (Ar (Se rfl (Om rfl ?_))); refine A1 rfl .free rfl ?_
 first | refine Oh rfl ?_ | refine Oj rfl ?_
 refine Bo rfl rfl rfl rfl .free ?_; refine Aa (Se rfl ?_); refine Bz rfl rfl rfl .free rfl ?_; refine Bo rfl rfl rfl rfl .free ?_; refine Oa rfl (Aa ?_); refine Ai (.c rfl (.tmp rfl .nil)) ?_
 exact ⟨I, _, .refl _, Ms (L' := (b, _) :: L), Tx, rfl, rfl, rfl⟩
theorem Aeb {a : Ex} {k1 k2 : KV} {I : Heap} {cs : List Value} (h : Rep I (Ex.un .fst a).tree cs) {gu : List Value} (hu : GVat I (KV.pair k1 k2) gu) {q : Addr} {c : Nat} (hq : Still I q (gu))  {on ov : Option Addr} {lm cn lv cv : Nat} (b n : Nat) (hn : n ≤ 1000000) (L : Bs) :
  Fun Tryz.prog 100 [.pointer (some ⟨b, 0, none⟩), .agg cs.toArray, .slice (some q) 1 c, .slice on lm cn, .slice ov lv cv] I (In b n false :: L) (Sb b ⟨some k1, n, false⟩ L) := by
 obtain ⟨oa, cc, oaf, cf, rfl, hf⟩ := h.at'
 have hlen : (Ex.un .fst a).tree.parts.length = 2 := rfl
 obtain ⟨xa, rfl⟩ : ∃ xa, oa = some xa := ⟨_, Dd hf.nil (show 0 < 2 by decide)⟩
 have hle : HLe I I := .refl _
 have q0 : Still I (q.add (0 * 7)) gu := Still.left (cv := []) Jy
 rcases hu with _ | @⟨_, _, q2, c2, cx, cy, hq2, hc2, hx, hy⟩ | _
 have p0 := hq2.left
 have p1 := hq2.right 1 hx.len
 obtain ⟨_, _, _, _, _, _, _, _, _, _, _, _, _, _, rfl⟩ := hx.open; obtain ⟨_, _, _, _, _, _, _, _, _, _, _, _, _, _, rfl⟩ := hy.open
 unfold In
 refine Ao Af ?_; refine Se rfl ?_; refine Cj rfl rfl .free rfl ?_; intro b6; refine Az .free rfl ?_; intro b10; refine Oa rfl (Aa (Se rfl (Oh rfl ?_))); refine A8 rfl .free rfl ?_
 first | refine Bb rfl rfl 0 rfl .free rfl ?_ | refine Bc rfl rfl 0 rfl .free rfl ?_
 refine Bn rfl .free rfl ?_; refine Gd rfl .free rfl ?_; refine Do (t := 20) (v' := .string (str [102, 115, 116])) rfl rfl ?_; refine Oa rfl (Aa (Se rfl (Om rfl ?_)))
 first | refine Bb rfl rfl 0 rfl .free rfl ?_ | refine Bc rfl rfl 0 rfl .free rfl ?_
 refine Cb rfl (Bx q0 Ae) .free rfl ?_; refine Az .free rfl ?_; intro b13; refine Bo rfl rfl rfl rfl .free ?_; refine Aa (Se rfl (Om rfl (Om rfl (On rfl ?_)))); refine Or rfl rfl rfl ?_; refine Do (t := 27) (v' := .int .i64 ((0 : Nat))) rfl Ae ?_
 first | refine Bb rfl rfl _ rfl .free rfl ?_ | refine Bc rfl rfl _ rfl .free rfl ?_
 refine Cb rfl (Bx q0 Ae) .free rfl ?_; refine Az .free rfl ?_; intro b14; refine Bo rfl rfl rfl rfl .free ?_; refine Aa (Ag (Aq (Se rfl (Om rfl (Od rfl rfl rfl (Oa rfl (Aa ?_)))))))
 first | refine Sf rfl Ad ?_ | refine At Aj ?_
 refine Se rfl (Om rfl (Od rfl rfl rfl (Oa rfl (Aa ?_))))
 first | refine Sf rfl Ad ?_ | refine At Aj ?_
 refine Se rfl (Om rfl (Od rfl rfl rfl (Om rfl ?_)))
 apply Cz 62 66 rfl
 ·intro g8_3 hk
  try simp only [nb] at g8_3
  refine A2 rfl (.met rfl rfl) rfl ?_; refine A8 rfl (.met rfl rfl) rfl ?_; refine Cy rfl rfl rfl (.met rfl rfl) rfl ?_; refine Ot rfl rfl ?_
  exact Ax 3 rfl rfl hk
 ·intro _ hk; refine A4 3 rfl ?_; refine Of rfl rfl ?_
  exact Ax 3 rfl rfl hk
 refine Oa rfl (Aa ?_)
 first | refine F7 rfl (fun h => absurd h.1 Ad) ?_ | refine F6 rfl (fun h => absurd h.1 Ad) ?_ | refine At Aj ?_
 refine Se rfl (Om rfl (Od rfl rfl rfl (Om rfl ?_)))
 apply Cz 87 91 rfl
 ·intro g10_3 hk
  try simp only [nb] at g10_3
  refine A2 rfl (.met rfl rfl) rfl ?_; refine A8 rfl (.met rfl rfl) rfl ?_; refine Cy rfl rfl rfl (.met rfl rfl) rfl ?_; refine Ot rfl rfl ?_
  exact Ax 3 rfl rfl hk
 ·intro _ hk; refine A4 3 rfl ?_; refine Of rfl rfl ?_
  exact Ax 3 rfl rfl hk
 refine Oa rfl (Aa ?_)
 first | refine F7 rfl (fun h => absurd h.1 Ad) ?_ | refine F6 rfl (fun h => absurd h.1 Ad) ?_ | refine At Aj ?_
 refine Se rfl (Om rfl (Od rfl rfl rfl (Om rfl ?_)))
 apply Cz 123 127 rfl
 ·intro g13_3 hk
  try simp only [nb] at g13_3
  refine A2 rfl (.met rfl rfl) rfl ?_; refine A8 rfl (.met rfl rfl) rfl ?_; refine Cy rfl rfl rfl (.met rfl rfl) rfl ?_; refine Ot rfl rfl ?_
  exact Ax 3 rfl rfl hk
 ·intro _ hk; refine A4 3 rfl ?_; refine Of rfl rfl ?_
  exact Ax 3 rfl rfl hk
 refine Oa rfl (Aa ?_)
 first | refine Nn rfl (⟨rfl, rfl⟩) ?_ | refine Nm rfl (⟨rfl, rfl⟩) ?_ | refine By Aj ?_
 refine Se rfl (Oh rfl ?_); refine A8 rfl .free rfl ?_
 first | refine Bb rfl rfl 0 rfl .free rfl ?_ | refine Bc rfl rfl 0 rfl .free rfl ?_
 refine Cb rfl (Bx p0 Ae) .free rfl ?_; refine Bo rfl rfl rfl rfl .free ?_; refine Oa rfl (Aa ?_); refine Ai (.c rfl (.tmp rfl .nil)) ?_
 exact ⟨I, _, .refl _, Ms (L' := (b, _) :: L), _, rfl, hx, rfl⟩
theorem Aee {a : Ex} {k1 k2 : KV} {I : Heap} {cs : List Value} (h : Rep I (Ex.un .snd a).tree cs) {gu : List Value} (hu : GVat I (KV.pair k1 k2) gu) {q : Addr} {c : Nat} (hq : Still I q (gu))  {on ov : Option Addr} {lm cn lv cv : Nat} (b n : Nat) (hn : n ≤ 1000000) (L : Bs) :
  Fun Tryz.prog 100 [.pointer (some ⟨b, 0, none⟩), .agg cs.toArray, .slice (some q) 1 c, .slice on lm cn, .slice ov lv cv] I (In b n false :: L) (Sb b ⟨some k2, n, false⟩ L) := by
 obtain ⟨oa, cc, oaf, cf, rfl, hf⟩ := h.at'
 have hlen : (Ex.un .snd a).tree.parts.length = 2 := rfl
 obtain ⟨xa, rfl⟩ : ∃ xa, oa = some xa := ⟨_, Dd hf.nil (show 0 < 2 by decide)⟩
 have hle : HLe I I := .refl _
 have q0 : Still I (q.add (0 * 7)) gu := Still.left (cv := []) Jy
 rcases hu with _ | @⟨_, _, q2, c2, cx, cy, hq2, hc2, hx, hy⟩ | _
 have p0 := hq2.left
 have p1 := hq2.right 1 hx.len
 obtain ⟨_, _, _, _, _, _, _, _, _, _, _, _, _, _, rfl⟩ := hx.open; obtain ⟨_, _, _, _, _, _, _, _, _, _, _, _, _, _, rfl⟩ := hy.open
 unfold In
 refine Ao Af ?_; refine Se rfl ?_; refine Cj rfl rfl .free rfl ?_; intro b6; refine Az .free rfl ?_; intro b10; refine Oa rfl (Aa (Se rfl (Oh rfl ?_))); refine A8 rfl .free rfl ?_
 first | refine Bb rfl rfl 0 rfl .free rfl ?_ | refine Bc rfl rfl 0 rfl .free rfl ?_
 refine Bn rfl .free rfl ?_; refine Gd rfl .free rfl ?_; refine Do (t := 20) (v' := .string (str [115, 110, 100])) rfl rfl ?_; refine Oa rfl (Aa (Se rfl (Om rfl ?_)))
 first | refine Bb rfl rfl 0 rfl .free rfl ?_ | refine Bc rfl rfl 0 rfl .free rfl ?_
 refine Cb rfl (Bx q0 Ae) .free rfl ?_; refine Az .free rfl ?_; intro b13; refine Bo rfl rfl rfl rfl .free ?_; refine Aa (Se rfl (Om rfl (Om rfl (On rfl ?_)))); refine Or rfl rfl rfl ?_; refine Do (t := 27) (v' := .int .i64 ((0 : Nat))) rfl Ae ?_
 first | refine Bb rfl rfl _ rfl .free rfl ?_ | refine Bc rfl rfl _ rfl .free rfl ?_
 refine Cb rfl (Bx q0 Ae) .free rfl ?_; refine Az .free rfl ?_; intro b14; refine Bo rfl rfl rfl rfl .free ?_; refine Aa (Ag (Aq (Se rfl (Om rfl (Od rfl rfl rfl (Oa rfl (Aa ?_)))))))
 first | refine Sf rfl Ad ?_ | refine At Aj ?_
 refine Se rfl (Om rfl (Od rfl rfl rfl (Oa rfl (Aa ?_))))
 first | refine Sf rfl Ad ?_ | refine At Aj ?_
 refine Se rfl (Om rfl (Od rfl rfl rfl (Om rfl ?_)))
 apply Cz 62 66 rfl
 ·intro g8_3 hk
  try simp only [nb] at g8_3
  refine A2 rfl (.met rfl rfl) rfl ?_; refine A8 rfl (.met rfl rfl) rfl ?_; refine Cy rfl rfl rfl (.met rfl rfl) rfl ?_; refine Ot rfl rfl ?_
  exact Ax 3 rfl rfl hk
 ·intro _ hk; refine A4 3 rfl ?_; refine Of rfl rfl ?_
  exact Ax 3 rfl rfl hk
 refine Oa rfl (Aa ?_)
 first | refine F7 rfl (fun h => absurd h.1 Ad) ?_ | refine F6 rfl (fun h => absurd h.1 Ad) ?_ | refine At Aj ?_
 refine Se rfl (Om rfl (Od rfl rfl rfl (Om rfl ?_)))
 apply Cz 87 91 rfl
 ·intro g10_3 hk
  try simp only [nb] at g10_3
  refine A2 rfl (.met rfl rfl) rfl ?_; refine A8 rfl (.met rfl rfl) rfl ?_; refine Cy rfl rfl rfl (.met rfl rfl) rfl ?_; refine Ot rfl rfl ?_
  exact Ax 3 rfl rfl hk
 ·intro _ hk; refine A4 3 rfl ?_; refine Of rfl rfl ?_
  exact Ax 3 rfl rfl hk
 refine Oa rfl (Aa ?_)
 first | refine F7 rfl (fun h => absurd h.1 Ad) ?_ | refine F6 rfl (fun h => absurd h.1 Ad) ?_ | refine At Aj ?_
 refine Se rfl (Om rfl (Od rfl rfl rfl (Om rfl ?_)))
 apply Cz 123 127 rfl
 ·intro g13_3 hk
  try simp only [nb] at g13_3
  refine A2 rfl (.met rfl rfl) rfl ?_; refine A8 rfl (.met rfl rfl) rfl ?_; refine Cy rfl rfl rfl (.met rfl rfl) rfl ?_; refine Ot rfl rfl ?_
  exact Ax 3 rfl rfl hk
 ·intro _ hk; refine A4 3 rfl ?_; refine Of rfl rfl ?_
  exact Ax 3 rfl rfl hk
 refine Oa rfl (Aa ?_)
 first | refine F7 rfl (fun h => absurd h.1 Ad) ?_ | refine F6 rfl (fun h => absurd h.1 Ad) ?_ | refine At Aj ?_
 refine Se rfl (Om rfl (Od rfl rfl rfl (Om rfl ?_)))
 apply Cz 135 139 rfl
 ·intro g15_3 hk
  try simp only [nb] at g15_3
  refine A2 rfl (.met rfl rfl) rfl ?_; refine A8 rfl (.met rfl rfl) rfl ?_; refine Cy rfl rfl rfl (.met rfl rfl) rfl ?_; refine Ot rfl rfl ?_
  exact Ax 3 rfl rfl hk
 ·intro _ hk; refine A4 3 rfl ?_; refine Of rfl rfl ?_
  exact Ax 3 rfl rfl hk
 refine Oa rfl (Aa ?_)
 first | refine Nn rfl (⟨rfl, rfl⟩) ?_ | refine Nm rfl (⟨rfl, rfl⟩) ?_ | refine By Aj ?_
 refine Se rfl (Oh rfl ?_); refine A8 rfl .free rfl ?_
 first | refine Bb rfl rfl 1 rfl .free rfl ?_ | refine Bc rfl rfl 1 rfl .free rfl ?_
 refine Cb rfl (Bx p1 Ae) .free rfl ?_; refine Bo rfl rfl rfl rfl .free ?_; refine Oa rfl (Aa ?_); refine Ai (.c rfl (.tmp rfl .nil)) ?_
 exact ⟨I, _, .refl _, Ms (L' := (b, _) :: L), _, rfl, hy, rfl⟩
theorem Aec {a d e : Ex} {s : Av} (hs : Cm s = true) (hok : (Ex.ite a d e).ok = true) {I : Heap} {cs : List Value} (h : Rep I (Ex.ite a d e).tree cs) {gu : List Value} (hu : GVat I (KV.num s) gu) {q : Addr} {c : Nat} (hq : Still I q (gu))  {N : Nat} (ihn : EvG N) {k : KE} {on ov : Option Addr} {cn cv : Nat} (hk : GEat I k on cn ov cv) (hkw : k.wf) (b n : Nat) (hn : n ≤ 1000000) (hN : n < N) (htl : k.tall + 2 * n ≤ 100000) (hdm : ∀ y ∈ (if s = [48] then d else e).occ [], y ∈ k.dom) (L : Bs) :
  Fun Tryz.prog 100 [.pointer (some ⟨b, 0, none⟩), .agg cs.toArray, .slice (some q) 1 c, .slice on k.names.length cn, .slice ov k.names.length cv] I (In b n false :: L) (Sb b (eval n (if s = [48] then d else e) k) L) := by
 obtain ⟨oa, cc, oaf, cf, rfl, hf⟩ := h.at'
 have hlen : (Ex.ite a d e).tree.parts.length = 4 := rfl
 obtain ⟨xa, rfl⟩ : ∃ xa, oa = some xa := ⟨_, Dd hf.nil (show 0 < 4 by decide)⟩
 have hle : HLe I I := .refl _
 have q0 : Still I (q.add (0 * 7)) gu := Still.left (cv := []) Jy
 cases hu
 simp only [Ex.ok, Bool.and_eq_true] at hok
 have hoE : (if s = [48] then d else e).ok = true := by split; exact hok.1.2; exact hok.2
 have hE : (if Ej s = 0 then d.tree else e.tree) = (if s = [48] then d else e).tree := by
  by_cases h0 : s = [48]
  ·rw [if_pos ((Ql hs).2 h0), if_pos h0]
  ·rw [if_neg (fun h => h0 ((Ql hs).1 h)), if_neg h0]
 unfold In
 refine Ao Af ?_; refine Se rfl ?_; refine Cj rfl rfl .free rfl ?_; intro b6; refine Az .free rfl ?_; intro b10; refine Oa rfl (Aa (Se rfl (Oh rfl ?_))); refine A8 rfl .free rfl ?_
 first | refine Bb rfl rfl 0 rfl .free rfl ?_ | refine Bc rfl rfl 0 rfl .free rfl ?_
 refine Bn rfl .free rfl ?_; refine Gd rfl .free rfl ?_; refine Do (t := 20) (v' := .string (str [105, 102])) rfl rfl ?_; refine Oa rfl (Aa (Se rfl (Om rfl ?_)))
 first | refine Bb rfl rfl 0 rfl .free rfl ?_ | refine Bc rfl rfl 0 rfl .free rfl ?_
 refine Cb rfl (Bx q0 Ae) .free rfl ?_; refine Az .free rfl ?_; intro b13; refine Bo rfl rfl rfl rfl .free ?_; refine Aa (Se rfl (Om rfl (Om rfl (On rfl ?_)))); refine Or rfl rfl rfl ?_; refine Do (t := 27) (v' := .int .i64 ((0 : Nat))) rfl Ae ?_
 first | refine Bb rfl rfl _ rfl .free rfl ?_ | refine Bc rfl rfl _ rfl .free rfl ?_
 refine Cb rfl (Bx q0 Ae) .free rfl ?_; refine Az .free rfl ?_; intro b14; refine Bo rfl rfl rfl rfl .free ?_; refine Aa (Ag (Aq (Se rfl (Om rfl (Od rfl rfl rfl (Oa rfl (Aa ?_)))))))
 first | refine Sf rfl Ad ?_ | refine At Aj ?_
 refine Se rfl (Om rfl (Od rfl rfl rfl (Oa rfl (Aa ?_))))
 first | refine Sf rfl Ad ?_ | refine At Aj ?_
 refine Se rfl (Om rfl (Od rfl rfl rfl (Om rfl ?_)))
 apply Cz 62 66 rfl
 ·intro g8_3 hk
  try simp only [nb] at g8_3
  refine A2 rfl (.met rfl rfl) rfl ?_; refine A8 rfl (.met rfl rfl) rfl ?_; refine Cy rfl rfl rfl (.met rfl rfl) rfl ?_; refine Ot rfl rfl ?_
  exact Ax 3 rfl rfl hk
 ·intro _ hk; refine A4 3 rfl ?_; refine Of rfl rfl ?_
  exact Ax 3 rfl rfl hk
 refine Oa rfl (Aa ?_)
 first | refine Nn rfl (⟨rfl, rfl⟩) ?_ | refine Nm rfl (⟨rfl, rfl⟩) ?_ | refine By Aj ?_
 refine Ag ?_; refine Bj (fun w h => h.f4) ?_; refine Nk 19 rfl rfl ?_; refine Da 0 rfl (Al rfl) ?_; refine Da 1 rfl (Ap rfl) ?_; refine Dt 2 [17] rfl (B6 rfl) ?_; refine Da 3 rfl (Ap rfl) ?_; refine Dt 4 [17] rfl (B6 rfl) ?_
 first | refine Da 5 rfl (Bl rfl rfl 2 rfl) ?_ | refine Da 5 rfl (Bm rfl rfl 2 rfl) ?_
 refine Dt 6 [17] rfl (Br rfl) ?_; refine Da 7 rfl (Ap rfl) ?_; refine Dt 8 [17] rfl (B6 rfl) ?_
 first | refine Da 9 rfl (Bl rfl rfl 3 rfl) ?_ | refine Da 9 rfl (Bm rfl rfl 3 rfl) ?_
 refine Dt 10 [17] rfl (Br rfl) ?_; refine Da 12 rfl (Al rfl) ?_; refine Da 13 rfl (Al rfl) ?_; refine Dc 11 rfl rfl (Ack (Ej s) (hf.as 2 d.tree Ab rfl) (hf.as 3 e.tree Ab rfl) _) ?_; rintro _ J2 _ e2 ⟨cs2, rfl, hr2, rfl⟩; rw [hE] at hr2; obtain ⟨_, _, _, rfl, -⟩ := hr2.open
 have hk := hk.mono e2
 refine Hx ?_; refine Dc 14 rfl rfl (ihn n hN hr2 hoE hk hkw hdm htl b _) ?_; rintro _ J4 _ e4 ⟨cs5, rfl, hg5, rfl⟩
 have hle := e2.trans e4
 obtain ⟨_, _, _, _, _, _, _, _, _, _, _, _, _, _, rfl⟩ := hg5.open
 unfold In
 refine Hx ?_; refine Da 15 rfl (Bh rfl rfl) ?_; refine Da 16 rfl (Bh rfl rfl) ?_; refine Dx 17 rfl rfl rfl rfl ?_; refine Db 18 rfl (Ay rfl) ?_; refine Au Ac ?_; refine Ai (.c rfl (.tmp rfl .nil)) ?_
 exact ⟨J4, _, hle, Ms (L' := (b, _) :: L), _, rfl, hg5, rfl⟩
theorem Acm {a d : Ex} {fn x : Av} {s t : Ty} {bd : Ex} {r : KE} {v : KV} (wu : (KV.clo fn x s t bd r).wf) (wv : v.wf) {I : Heap} {cs : List Value} (h : Rep I (Ex.bin .call a d).tree cs) {gu : List Value} (hu : GVat I (KV.clo fn x s t bd r) gu) {gv : List Value} (hv : GVat I v gv) {q : Addr} {c : Nat} (hq : Still I q (gu ++ gv)) (hc : 2 ≤ c)  {N : Nat} (ihn : EvG N) {k : KE} {on ov : Option Addr} {cn cv : Nat} (b n : Nat) (hn : n ≤ 1000000) (hN : n < N) (htl : k.tall + 2 * n ≤ 100000) (htr : r.tall ≤ 100000) (hdm : ∀ y ∈ bd.occ [], y ∈ (KE.cons x v (.cons fn (.clo fn x s t bd r) r)).dom) (htl2 : (KE.cons x v (.cons fn (.clo fn x s t bd r) r)).tall + 2 * n ≤ 100000) (L : Bs) :
  Fun Tryz.prog 100 [.pointer (some ⟨b, 0, none⟩), .agg cs.toArray, .slice (some q) 2 c, .slice on k.names.length cn, .slice ov k.names.length cv] I (In b n false :: L) (Sb b (eval n bd (.cons x v (.cons fn (.clo fn x s t bd r) r))) L) := by
 obtain ⟨oa, cc, oaf, cf, rfl, hf⟩ := h.at'
 have hlen : (Ex.bin .call a d).tree.parts.length = 3 := rfl
 obtain ⟨xa, rfl⟩ : ∃ xa, oa = some xa := ⟨_, Dd hf.nil (show 0 < 3 by decide)⟩
 have hle : HLe I I := .refl _
 have q0 : Still I (q.add (0 * 7)) gu := hq.left
 have q1 : Still I (q.add (1 * 7)) gv := hq.right 1 hu.len
 have hu2 := hu
 have hv2 := hv
 obtain ⟨_, _, _, _, _, _, _, _, _, _, _, _, rfl⟩ := hv.openK
 rcases hu with _ | _ | @⟨_, _, _, _, _, _, o6, c6, on6, ov6, cn6, cv6, hr, he⟩
 have hnt := Lv r
 obtain ⟨hnm, hvs, hst, h0, hcv⟩ := he; obtain ⟨oa3, c3', oaf3, cf3, he3, hf3⟩ := hr.at'
 simp only [List.cons.injEq, Value.slice.injEq, and_true, true_and] at he3
 obtain ⟨-, rfl, -, rfl⟩ := he3
 have hlen3 : (Ex.fn fn x s t bd).tree.parts.length = 6 := rfl
 obtain ⟨hrw, hfok, hfd⟩ := id wu
 simp only [Ex.ok, Bool.and_eq_true, decide_eq_true_eq] at hfok
 obtain ⟨⟨⟨⟨⟨nf, nx⟩, hfx⟩, _⟩, _⟩, hcok⟩ := hfok
 have hfl : fn.length ≤ A9 := by have := Gb nf; unfold A9; omega
 have hxl : x.length ≤ A9 := by have := Gb nx; unfold A9; omega
 have hnn : r.names ++ [fn, x] = (KE.cons x v (.cons fn (.clo fn x s t bd r) r)).names := by simp [KE.names]
 unfold In
 refine Ao Af ?_; refine Se rfl ?_; refine Cj rfl rfl .free rfl ?_; intro b6; refine Az .free rfl ?_; intro b10; refine Oa rfl (Aa (Se rfl (Oh rfl ?_))); refine A8 rfl .free rfl ?_
 first | refine Bb rfl rfl 0 rfl .free rfl ?_ | refine Bc rfl rfl 0 rfl .free rfl ?_
 refine Bn rfl .free rfl ?_; refine Gd rfl .free rfl ?_; refine Do (t := 20) (v' := .string (str [99, 97, 108, 108])) rfl rfl ?_; refine Oa rfl (Aa (Se rfl (Om rfl ?_)))
 first | refine Bb rfl rfl 0 rfl .free rfl ?_ | refine Bc rfl rfl 0 rfl .free rfl ?_
 refine Cb rfl (Bx q0 Ae) .free rfl ?_; refine Az .free rfl ?_; intro b13; refine Bo rfl rfl rfl rfl .free ?_; refine Aa (Se rfl (Om rfl (Om rfl (On rfl ?_)))); refine Or rfl rfl rfl ?_; refine Do (t := 27) (v' := .int .i64 ((1 : Nat))) rfl Ae ?_
 first | refine Bb rfl rfl _ rfl .free rfl ?_ | refine Bc rfl rfl _ rfl .free rfl ?_
 refine Cb rfl (Bx q1 Ae) .free rfl ?_; refine Az .free rfl ?_; intro b14; refine Bo rfl rfl rfl rfl .free ?_; refine Aa (Ag (Aq (Se rfl (Om rfl (Od rfl rfl rfl (Oa rfl (Aa ?_)))))))
 first | refine Sf rfl Ad ?_ | refine At Aj ?_
 refine Se rfl (Om rfl (Od rfl rfl rfl (Oa rfl (Aa ?_))))
 first | refine Sf rfl Ad ?_ | refine At Aj ?_
 refine Se rfl (Om rfl (Od rfl rfl rfl (Om rfl ?_)))
 apply Cz 62 66 rfl
 ·intro g8_3 hk
  try simp only [nb] at g8_3
  refine A2 rfl (.met rfl rfl) rfl ?_; refine A8 rfl (.met rfl rfl) rfl ?_; refine Cy rfl rfl rfl (.met rfl rfl) rfl ?_; refine Ot rfl rfl ?_
  exact Ax 3 rfl rfl hk
 ·intro _ hk; refine A4 3 rfl ?_; refine Of rfl rfl ?_
  exact Ax 3 rfl rfl hk
 refine Oa rfl (Aa ?_)
 first | refine F7 rfl (fun h => absurd h.1 Ad) ?_ | refine F6 rfl (fun h => absurd h.1 Ad) ?_ | refine At Aj ?_
 refine Se rfl (Om rfl (Od rfl rfl rfl (Om rfl ?_)))
 apply Cz 87 91 rfl
 ·intro g10_3 hk
  try simp only [nb] at g10_3
  refine A2 rfl (.met rfl rfl) rfl ?_; refine A8 rfl (.met rfl rfl) rfl ?_; refine Cy rfl rfl rfl (.met rfl rfl) rfl ?_; refine Ot rfl rfl ?_
  exact Ax 3 rfl rfl hk
 ·intro _ hk; refine A4 3 rfl ?_; refine Of rfl rfl ?_
  exact Ax 3 rfl rfl hk
 refine Oa rfl (Aa ?_)
 first | refine Nn rfl (⟨rfl, rfl⟩) ?_ | refine Nm rfl (⟨rfl, rfl⟩) ?_ | refine By Aj ?_
 refine Se rfl (Oh rfl (Oh rfl ?_)); refine A8 rfl .free rfl ?_; refine Oa rfl (Aa (Ag ?_)); refine Bj (fun w h => h.f4) ?_; refine Nk 27 rfl rfl ?_; refine Da 0 rfl (Al rfl) ?_; refine Da 1 rfl (Al rfl) ?_
 first | refine Da 2 rfl (Bl rfl rfl 5 rfl) ?_ | refine Da 2 rfl (Bm rfl rfl 5 rfl) ?_
 refine Dt 3 [25] rfl (Ff rfl (Bx (hf3.st _ Ab) Ae)) ?_; refine Da 4 rfl (Ap rfl) ?_; refine Dt 5 [25] rfl (B6 rfl) ?_; refine Da 6 rfl (Al rfl) ?_
 first | refine Da 7 rfl (Bl rfl rfl 1 rfl) ?_ | refine Da 7 rfl (Bm rfl rfl 1 rfl) ?_
 refine Da 8 rfl (Bf rfl) ?_; refine Dt 9 [25] rfl (Ff rfl (Bk (hf3.st _ Ab) Ae rfl)) ?_; refine Da 10 rfl (Al rfl) ?_
 first | refine Da 11 rfl (Bl rfl rfl 2 rfl) ?_ | refine Da 11 rfl (Bm rfl rfl 2 rfl) ?_
 refine Da 12 rfl (Bf rfl) ?_; refine Dt 13 [25] rfl (Ff rfl (Bk (hf3.st _ Ab) Ae rfl)) ?_; refine Da 16 rfl (Ap rfl) ?_; refine Dt 17 [25] rfl (B6 rfl) ?_; refine Dt 18 [25] rfl (Ck rfl) ?_; refine Dt 20 [25] rfl (Ck rfl) ?_; refine Fn 14 rfl Ac rfl rfl rfl Ae Ae Ae Ad Ad Ae .free rfl (.inr As) ?_; intro b109; refine Ed ?_; intro hz
 have hle := hz
 have hf3 := hf3.mono hz
 have hnm := hnm.mono hz
 have hvs := hvs.mono hz
 have hst := fun x hx => (hst x hx).mono hz
 have hu2 := hu2.mono hz
 have hv2 := hv2.mono hz
 have hk1 := P5 (x := fn) (y := x) hz hfl hxl
 refine Dc 15 rfl rfl (Jd hnm hk1 Hh _) ?_; rintro _ J2 _ e2 ⟨o3, c3, rfl, hn3, rfl⟩; rw [hnn] at hn3 ⊢
 have hle := hle.trans e2
 have hf3 := hf3.mono e2
 have hvs := hvs.mono e2
 have hst := fun x hx => (hst x hx).mono e2
 have hu2 := hu2.mono e2
 have hv2 := hv2.mono e2
 refine Hx ?_; refine Dc 19 rfl rfl (Rp hvs hst h0 Ab hu2 fn _) ?_; rintro _ J3 _ e3 ⟨x4, c4, rfl, hs4, hc4, rfl⟩
 have hle := hle.trans e3
 have hf3 := hf3.mono e3
 have hvs := hvs.mono e3
 have hu2 := hu2.mono e3
 have hv2 := hv2.mono e3
 have hn3 := hn3.mono e3
 refine Hx ?_; refine Dc 21 rfl rfl (Rp (.cons (n := fn) hvs hu2) (fun x hx => by cases hx; exact hs4) (fun h => by cases h) (by simp only [KE.names, List.length_append, List.length_cons, List.length_nil]; omega) hv2 x _) ?_; rintro _ J4 _ e4 ⟨x5, c5, rfl, hs5, hc5, rfl⟩
 have hle := hle.trans e4
 have hf3 := hf3.mono e4
 have hvs := hvs.mono e4
 have hu2 := hu2.mono e4
 have hv2 := hv2.mono e4
 have hn3 := hn3.mono e4
 have hgk : GEat J4 (.cons x v (.cons fn (.clo fn x s t bd r) r)) o3 c3 (some x5) c5 := .mk hn3 (.cons (.cons hvs hu2) hv2) (fun x hx => by cases hx; exact hs5) (fun h => by cases h) hc5
 refine Hx ?_; refine Dc 22 rfl rfl (ihn n hN (hf3.as 5 bd.tree Ab rfl) hcok hgk ⟨nx, wv, nf, wu, hrw⟩ hdm htl2 b _) ?_; rintro _ J5 _ e5 ⟨cs5, rfl, hg5, rfl⟩
 have hle := hle.trans e5
 obtain ⟨_, _, _, _, _, _, _, _, _, _, _, _, _, _, rfl⟩ := hg5.open
 unfold In
 refine Hx ?_; refine Da 23 rfl (Bh rfl rfl) ?_; refine Da 24 rfl (Bh rfl rfl) ?_; refine Dx 25 rfl rfl rfl rfl ?_; refine Db 26 rfl (Ay rfl) ?_; refine Au Ac ?_; refine Ai (.c rfl (.tmp rfl .nil)) ?_
 exact ⟨J5, _, hle, Ms (L' := (b, _) :: L), _, rfl, hg5, rfl⟩
theorem Ra {P : Program} {f : FuncId} {n : Nat} {I₀ : Heap} {Q : C8} {k : List Item} {E : Hy} {I : Heap} {L : Bs} {ops : Array Oper} {S : World → Prop} {fuel : Nat} {listed : Array Bool} {X : Type} (E' : X → Hy) (I' : X → Heap) (L' : X → Bs) (R : X → Prop)
  (hk : ∀ x, R x → RunS P f n I₀ Q k (E' x) (I' x) (L' x)) (h : (∀ x, R x → RunS P f n I₀ Q k (E' x) (I' x) (L' x)) → C3 P f n I₀ Q ops S fuel listed k E I L) : C3 P f n I₀ Q ops S fuel listed k E I L := h hk
theorem Vz {n : Nat} {e : Ex} {k : KE} {u : KV} (hk : k.wf) (hok : e.ok = true) (hd : ∀ y ∈ e.occ [], y ∈ k.dom) (h : (eval n e k).v = some u) : u.wf ∧ (eval n e k).stuck = false := by
 have := Pi n e k hk hok hd
 unfold Res.says at this
 rw [h] at this
 exact ⟨this.1, this.2.2⟩
theorem Afw {s : Av} (h : Cm s = true) : ¬ s = [] := fun e => by subst e; cases h
theorem Vx : ∀ {k : KE} {s : Av}, s ∈ k.dom → ∃ v, k.look s = some v
 | .nil, s, h => by simp [KE.dom] at h
 | .cons n v up, s, h => by
  simp only [KE.dom, List.mem_cons] at h
  simp only [KE.look]
  by_cases hn : n = s
  ·exact ⟨v, by rw [if_pos hn]⟩
  ·rw [if_neg hn]
   exact Vx (h.resolve_left (fun e => hn e.symm))
theorem Still.mid {I : Heap} {q : Addr} {us ds ys : List Value} (h : Still I q (us ++ ds ++ ys)) (k : Nat) (hk : us.length = k * 7) : Still I (q.add (k * 7)) ds := h.part _ fun i hi => by
 rw [List.append_assoc, List.getElem?_append_right (by omega), show k * 7 + i - us.length = i by omega, List.getElem?_append_left hi, List.getElem?_eq_getElem hi]
theorem Aea {N : Nat} (ihn : EvG N) {o : B5} {a d : Ex} {u v : KV} (wu : u.wf) (wv : v.wf) {I : Heap} {cs : List Value} (h : Rep I (Ex.bin o a d).tree cs) {gu gv : List Value} (hu : GVat I u gu) (hv : GVat I v gv) {q : Addr} {c : Nat} (hq : Still I q (gu ++ gv)) (hc : 2 ≤ c) {k : KE} {on ov : Option Addr} {cn cv : Nat}
  (b n : Nat) (hn : n ≤ 1000000) (hN : n < N) (htk : k.tall + 2 * n ≤ 100000) (htu : u.tall + 2 + 2 * n ≤ 100000) (htv : v.tall + 2 + 2 * n ≤ 100000) (L : Bs) :
  Fun Tryz.prog 100 [.pointer (some ⟨b, 0, none⟩), .agg cs.toArray, .slice (some q) 2 c, .slice on k.names.length cn, .slice ov k.names.length cv] I (In b n false :: L) (Sb b (Mc o u v n) L) := by
 by_cases hca : o = .call
 ·subst hca
  by_cases hk : u.kd = [102, 117, 110]
  ·obtain ⟨fn, x, s, t, bd, r, rfl⟩ := Aft hk
   simp only [KV.tall] at htu
   refine Acm wu wv h hu hv hq hc ihn (k := k) b n hn hN htk Ab (fun y hy => ?_) (by simp only [KE.tall, KV.tall]; omega) L
   simp only [KE.dom, List.mem_cons]
   rcases wu.2.2 y hy with h | h
   ·simp only [List.mem_cons, List.not_mem_nil, or_false] at h
    rcases h with h | h
    ·exact .inr (.inl h)
    ·exact .inl h
   ·exact .inr (.inr h)
  ·have e : Mc .call u v n = ⟨none, n, true⟩ := by
    cases u with
    | clo f x s t b r => exact absurd rfl hk
    | _ => rfl
   rw [e]
   exact Wk hk h hu hv hq hc b n hn L
 ·by_cases hp : o = .pair
  ·subst hp
   exact Acn h hu hv hq hc b n hn L
  ·have e : Mc o u v n = Res.of (o.act u v) n := Hi (by rintro ⟨_, _, _, _, _, _, h, _⟩; exact hca h)
   rw [e]
   exact Aed (by cases o <;> first | rfl | exact absurd rfl hca | exact absurd rfl hp) wu wv h hu hv hq hc b n hn L
theorem Afp {o : U2} {a : Ex} {u : KV} {I : Heap} {cs : List Value} (h : Rep I (Ex.un o a).tree cs) {gu : List Value} (hu : GVat I u gu) {q : Addr} {c : Nat} (hq : Still I q gu) {on ov : Option Addr} {lm cn lv cv : Nat} (b n : Nat) (hn : n ≤ 1000000) (L : Bs) :
  Fun Tryz.prog 100 [.pointer (some ⟨b, 0, none⟩), .agg cs.toArray, .slice (some q) 1 c, .slice on lm cn, .slice ov lv cv] I (In b n false :: L) (Sb b (Res.of (o.act u) n) L) := by
 by_cases hk : u.kd = [112, 97, 105, 114]
 ·obtain ⟨x, y, rfl⟩ := Aem hk
  cases o with
  | fst => exact Aeb h hu hq b n hn L
  | snd => exact Aee h hu hq b n hn L
 ·have e : Res.of (o.act u) n = ⟨none, n, true⟩ := by
   cases u with
   | pair x y => exact absurd rfl hk
   | _ => cases o <;> rfl
  rw [e]
  exact Aal hk h hu hq b n hn L
def Afq (u : KV) (n : Nat) (d g : Ex) (k : KE) : Res := match u with
 | .num s => eval n (if s = [48] then d else g) k
 | _ => ⟨none, n, true⟩
theorem Afn {N : Nat} (ihn : EvG N) {a d g : Ex} {u : KV} (wu : u.wf) {I : Heap} {cs : List Value} (h : Rep I (Ex.ite a d g).tree cs) (hok : (Ex.ite a d g).ok = true) {gu : List Value} (hu : GVat I u gu) {q : Addr} {c : Nat} (hq : Still I q gu) {k : KE} {on ov : Option Addr} {cn cv : Nat} (hk : GEat I k on cn ov cv) (hkw : k.wf)
  (b n : Nat) (hn : n ≤ 1000000) (hN : n < N) (htl : k.tall + 2 * n ≤ 100000) (hd1 : ∀ y ∈ d.occ [], y ∈ k.dom) (hd2 : ∀ y ∈ g.occ [], y ∈ k.dom) (L : Bs) :
  Fun Tryz.prog 100 [.pointer (some ⟨b, 0, none⟩), .agg cs.toArray, .slice (some q) 1 c, .slice on k.names.length cn, .slice ov k.names.length cv] I (In b n false :: L) (Sb b (Afq u n d g k) L) := by
 by_cases hkd : u.kd = [110, 117, 109, 98, 101, 114]
 ·obtain ⟨s, rfl⟩ := Yb hkd
  exact Aec wu hok h hu hq ihn hk hkw b n hn hN htl (by split; exact hd1; exact hd2) L
 ·have e : Afq u n d g k = ⟨none, n, true⟩ := by
   cases u with
   | num s => exact absurd rfl hkd
   | _ => rfl
  rw [e]
  exact X8 hkd h hu hq b n hn L

theorem Ya {I : Heap} {e : Ex} {cs : List Value} {k : KE} {on ov : Option Addr} {lm cn lv cv : Nat} (h : Rep I e.tree cs) (b : Nat) (L : Bs) :
  Fun Tryz.prog 54 [.pointer (some ⟨b, 0, none⟩), .agg cs.toArray, .slice on lm cn, .slice ov lv cv] I (In b 0 false :: L) (Sb b (eval 0 e k) L) := by
 obtain ⟨oa, cc, _, rfl, -⟩ := h.open
 unfold In
 refine Ao Af ?_; refine Se rfl ?_; refine Cj rfl rfl .free rfl ?_; intro b5; refine Az .free rfl ?_; intro b8; refine Oa rfl (Aa (Ag (Se rfl (Om rfl ?_)))); refine A1 rfl .free rfl ?_
 first | refine Oh rfl ?_ | refine Oj rfl ?_
 refine Gs rfl .free rfl ?_; refine Oc rfl rfl rfl (Aa ?_)
 first | refine St rfl (rfl) ?_ | refine By Aj ?_
 refine Se rfl ?_; refine Bz rfl rfl rfl .free rfl ?_; refine Bo rfl rfl rfl rfl .free ?_; refine Oa rfl (Aa ?_); refine Ai (.c rfl (.tmp rfl .nil)) ?_; rw [Jz]
 exact ⟨I, _, .refl _, Ms (L' := (b, _) :: L), Tx, rfl, rfl, rfl⟩
theorem Aap {N : Nat} {s : Av} {I : Heap} {cs : List Value} {k : KE} {on ov : Option Addr} {cn cv : Nat} (m : Nat) (hn : m < N) (h : Rep I (Ex.num s).tree cs) (hok : (Ex.num s).ok = true) (hk : GEat I k on cn ov cv) (hkw : k.wf) (hd : ∀ y ∈ (Ex.num s).occ [], y ∈ k.dom) (htl : k.tall + 2 * (m + 1) ≤ 100000) (b : Nat) (L : Bs) :
  Fun Tryz.prog 54 [.pointer (some ⟨b, 0, none⟩), .agg cs.toArray, .slice on k.names.length cn, .slice ov k.names.length cv] I (In b (m + 1) false :: L) (Sb b (eval (m + 1) (Ex.num s) k) L) := by
 obtain ⟨oa, cc, _, rfl, -⟩ := h.open
 have hnt : ¬ s = [] := Afw hok
 have hsl : s.length ≤ A9 := by have := Kb (show Cm s = true from hok); unfold A9; omega
 unfold In
 refine Ao Af ?_; refine Se rfl ?_; refine Cj rfl rfl .free rfl ?_; intro b5; refine Az .free rfl ?_; intro b8; refine Oa rfl (Aa (Ag (Se rfl (Om rfl ?_)))); refine A1 rfl .free rfl ?_
 first | refine Oh rfl ?_ | refine Oj rfl ?_
 refine Gs rfl .free rfl ?_; refine Oc rfl rfl rfl (Aa ?_)
 first | refine Sf rfl Ab ?_ | refine At Aj ?_
 refine Ak (Se rfl (Om rfl (Om rfl ?_))); refine A1 rfl .free rfl ?_
 first | refine Oh rfl ?_ | refine Oj rfl ?_
 refine Gs rfl .free rfl ?_; refine Or rfl rfl rfl ?_; refine Do (t := 30) (v' := .int .i64 (m : Nat)) rfl Eu ?_; refine A1 rfl .free rfl ?_
 first | refine Oh rfl ?_ | refine Oj rfl ?_
 refine Bo rfl rfl rfl rfl .free ?_; refine Aa (Ag (Se rfl (Oh rfl ?_))); refine A8 rfl .free rfl ?_; refine Od rfl rfl rfl (Aa ?_)
 first | refine Nn rfl (hnt) ?_ | refine Nm rfl (hnt) ?_ | refine By Aj ?_
 refine Se rfl (Oh rfl ?_); refine A8 rfl .free rfl ?_; refine Ca rfl (N3 s hsl _ _) ?_; rintro _ _ _ _ ⟨rfl, rfl, rfl⟩; rw [show Cm s = true from hok]; refine Om rfl (Oe rfl rfl (Oe rfl rfl (Oa rfl (Oa rfl (Aa (Ag (Se rfl (Om rfl (Aa ?_)))))))))
 first | refine St rfl (rfl) ?_ | refine By Aj ?_
 refine Se rfl (Om rfl ?_); refine Bz rfl rfl rfl .free rfl ?_; refine Bo rfl rfl rfl rfl .free ?_; refine Oa rfl (Aa ?_); refine Ai (.c rfl (.tmp rfl .nil)) ?_; rw [Kk]
 exact ⟨I, _, .refl _, Ms (L' := (b, _) :: L), _, rfl, .num, rfl⟩
theorem X9 {N : Nat} {s : Av} {I : Heap} {cs : List Value} {k : KE} {on ov : Option Addr} {cn cv : Nat} (m : Nat) (hn : m < N) (h : Rep I (Ex.name s).tree cs) (hok : (Ex.name s).ok = true) (hk : GEat I k on cn ov cv) (hkw : k.wf) (hd : ∀ y ∈ (Ex.name s).occ [], y ∈ k.dom) (htl : k.tall + 2 * (m + 1) ≤ 100000) (b : Nat) (L : Bs) :
  Fun Tryz.prog 54 [.pointer (some ⟨b, 0, none⟩), .agg cs.toArray, .slice on k.names.length cn, .slice ov k.names.length cv] I (In b (m + 1) false :: L) (Sb b (eval (m + 1) (Ex.name s) k) L) := by
 obtain ⟨oa, cc, _, rfl, -⟩ := h.open
 have hnt : ¬ s = [] := fun e => by subst e; cases hok
 have hsl : s.length ≤ A9 := by have := Gb (show B9 s = true from hok); unfold A9; omega
 obtain ⟨v0, hv0⟩ := Vx (hd s (by simp [Ex.occ]))
 have hktl := Lv k
 obtain @⟨_, _, _, _, _, gs, hnm, hvs, hst, h0, hcv⟩ := hk
 unfold In
 refine Ao Af ?_; refine Se rfl ?_; refine Cj rfl rfl .free rfl ?_; intro b5; refine Az .free rfl ?_; intro b8; refine Oa rfl (Aa (Ag (Se rfl (Om rfl ?_)))); refine A1 rfl .free rfl ?_
 first | refine Oh rfl ?_ | refine Oj rfl ?_
 refine Gs rfl .free rfl ?_; refine Oc rfl rfl rfl (Aa ?_)
 first | refine Sf rfl Ab ?_ | refine At Aj ?_
 refine Ak (Se rfl (Om rfl (Om rfl ?_))); refine A1 rfl .free rfl ?_
 first | refine Oh rfl ?_ | refine Oj rfl ?_
 refine Gs rfl .free rfl ?_; refine Or rfl rfl rfl ?_; refine Do (t := 30) (v' := .int .i64 (m : Nat)) rfl Eu ?_; refine A1 rfl .free rfl ?_
 first | refine Oh rfl ?_ | refine Oj rfl ?_
 refine Bo rfl rfl rfl rfl .free ?_; refine Aa (Ag (Se rfl (Oh rfl ?_))); refine A8 rfl .free rfl ?_; refine Od rfl rfl rfl (Aa ?_)
 first | refine Nn rfl (hnt) ?_ | refine Nm rfl (hnt) ?_ | refine By Aj ?_
 refine Se rfl (Oh rfl ?_); refine A8 rfl .free rfl ?_; refine Ca rfl (N3 s hsl _ _) ?_; rintro _ _ _ _ ⟨rfl, rfl, rfl⟩; rw [F9 (show B9 s = true from hok)]; refine Om rfl (Oe rfl rfl (Oe rfl rfl (Oa rfl (Oa rfl (Aa (Ag (Se rfl (Om rfl (Aa ?_)))))))))
 first | refine Sf rfl Af ?_ | refine At Aj ?_
 refine Ak (Ag (Se rfl (Om rfl (On rfl ?_)))); refine Or rfl rfl rfl ?_; refine Oa rfl (Aa (Aq ?_)); refine D1 (X := KE) (fun x => SizeOf.sizeOf x) (fun x => [(0, .pointer (some ⟨b, 0, none⟩)), (2, .slice on k.names.length cn), (3, .slice ov k.names.length cv), (5, .pointer (some ⟨b5, 0, none⟩)), (8, .pointer (some ⟨b8, 0, none⟩)), (12, .int .i64 ((x.names.length : Nat) - 1))]) (fun _ => I)
  (fun _ => (b8, .cells [.string (str []), .int .i64 0, .slice none 0 0, .string (str []), .slice none 0 0, .slice none 0 0, .slice none 0 0].toArray 76 (0, 0)) :: (b5, .cells [.string (str (Ex.name s).tree.atom), .slice oa (Ex.name s).tree.parts.length cc].toArray 68 (0, 0)) :: (b, .cells [.int .i64 (m : Nat), .bool false].toArray 73 (0, 0)) :: L)
  (fun x => (∃ rest, k.names = x.names ++ rest) ∧ (∃ xs ys, GVs I x xs ∧ gs = xs ++ ys) ∧ x.look s = k.look s) k ⟨⟨[], by simp⟩, ⟨gs, [], hvs, by simp⟩, rfl⟩ ⟨rfl, rfl, rfl, rfl, rfl, rfl, trivial⟩ (fun _ h => h) ?_
 rintro x ⟨⟨rest, hrest⟩, ⟨xs, ys, hgx, hgs⟩, hlk⟩ ih; refine Ag (Se rfl (Om rfl (Oc rfl rfl rfl (Aa ?_)))); refine Aw rfl ?_ ?_
 ·intro c3
  try simp only [nb] at c3
  obtain ⟨mm, vv, up, rfl⟩ : ∃ mm vv up, x = .cons mm vv up := by
   cases x with
   | nil => simp [KE.names] at c3
   | cons mm vv up => exact ⟨_, _, _, rfl⟩
  obtain ⟨us, ds, hus, hds, rfl⟩ : ∃ us ds, GVs I up us ∧ GVat I vv ds ∧ xs = us ++ ds := by
   cases hgx with
   | cons hu hv => exact ⟨_, _, hu, hv, rfl⟩
  have hxl : (KE.cons mm vv up).names.length = up.names.length + 1 := by simp [KE.names]
  refine K2 (t := 12) (v' := .int .i64 (up.names.length : Nat)) rfl (by rw [hxl]; congr 1; omega) ?_
  have hi : up.names.length < k.names.length := by rw [hrest, List.length_append, hxl]; omega
  have hgi : k.names[up.names.length] = mm := by simp [hrest, KE.names]
  obtain ⟨xn, hxn, hstn⟩ := hnm.at up.names.length hi; rw [hgi] at hstn; obtain ⟨xv, hxv⟩ : ∃ xv, ov = some xv := by
   cases ov with
   | none => have := h0 rfl; rw [this] at hi; exact absurd hi (Nat.not_lt_zero _)
   | some xv => exact ⟨xv, rfl⟩
  subst hxn hxv hgs
  have hstv := (hst xv rfl).mid up.names.length hus.len
  obtain ⟨_, _, _, _, _, _, _, _, _, _, _, _, _, _, rfl⟩ := hds.open; refine Ak (Ag (Aq (Ag ?_))); refine Dj 7 rfl rfl ?_; refine Da 0 rfl (Al rfl) ?_; refine Da 1 rfl (Al rfl) ?_
  first | refine Da 2 rfl (Bl rfl rfl _ rfl) ?_ | refine Da 2 rfl (Bm rfl rfl _ rfl) ?_
  refine Dt 3 [7] rfl (Ff rfl (Bi hstn rfl)) ?_; refine Da 4 rfl (Ap rfl) ?_; refine Dt 5 [7] rfl (B6 rfl) ?_; refine Da 6 rfl (Vk rfl rfl rfl) ?_; refine Au Ac ?_; refine Aw rfl ?_ ?_
  ·intro c4
   try simp only [nb] at c4
   refine Se rfl (Om rfl (Om rfl ?_))
   first | refine Bb rfl rfl _ rfl .free rfl ?_ | refine Bc rfl rfl _ rfl .free rfl ?_
   refine Cb rfl (Bx hstv Ae) .free rfl ?_; refine Bo rfl rfl rfl rfl .free ?_; refine Oa rfl (Aa ?_); refine Ai (.c rfl (.tmp rfl .nil)) ?_
   have hks : k.look s = some vv := by rw [← hlk, KE.look, if_pos (show mm = s from c4)]
   rw [Iv]
   exact ⟨I, _, .refl _, Ms (L' := (b, _) :: L), _, by rw [hks]; rfl, by rw [hks]; exact hds, rfl⟩
  intro c4
  try simp only [nb] at c4
  refine Ak (Ar (Am rfl (Om rfl ?_))); refine Or rfl rfl rfl ?_; refine Oa rfl (Aa ?_)
  exact Bu (E' := [(0, .pointer (some ⟨b, 0, none⟩)), (2, .slice (some xn) k.names.length cn), (3, .slice (some xv) k.names.length cv), (5, .pointer (some ⟨b5, 0, none⟩)), (8, .pointer (some ⟨b8, 0, none⟩)), (12, .int .i64 ((up.names.length : Nat) - 1))]) ⟨rfl, rfl, rfl, rfl, rfl, rfl, trivial⟩ (ih up ⟨⟨mm :: rest, by rw [hrest]; simp [KE.names]⟩, ⟨us, _, hus, List.append_assoc _ _ _⟩, by rw [← hlk, KE.look, if_neg (show ¬ mm = s from c4)]⟩ (by simp only [KE.cons.sizeOf_spec]; omega))
 intro c3
 try simp only [nb] at c3
 have hF : False := by
  cases x with
  | nil => rw [hv0] at hlk; cases hlk
  | cons mm vv up => simp only [KE.names, List.length_append, List.length_cons, List.length_nil] at c3; omega
 refine Cf rfl ?_; refine Se rfl (Om rfl ?_); refine A1 rfl .free rfl ?_
 first | refine Oh rfl ?_ | refine Oj rfl ?_
 refine Bo rfl rfl rfl rfl .free ?_; refine Aa (Se rfl ?_); refine Bz rfl rfl rfl .free rfl ?_; refine Bo rfl rfl rfl rfl .free ?_; refine Oa rfl (Aa ?_); refine Ai (.c rfl (.tmp rfl .nil)) ?_
 exact hF.elim
theorem Aco {N : Nat} {f x : Av} {s t : Ty} {bd : Ex} {I : Heap} {cs : List Value} {k : KE} {on ov : Option Addr} {cn cv : Nat} (m : Nat) (hn : m < N) (h : Rep I (Ex.fn f x s t bd).tree cs) (hok : (Ex.fn f x s t bd).ok = true) (hk : GEat I k on cn ov cv) (hkw : k.wf) (hd : ∀ y ∈ (Ex.fn f x s t bd).occ [], y ∈ k.dom) (htl : k.tall + 2 * (m + 1) ≤ 100000) (b : Nat) (L : Bs) :
  Fun Tryz.prog 54 [.pointer (some ⟨b, 0, none⟩), .agg cs.toArray, .slice on k.names.length cn, .slice ov k.names.length cv] I (In b (m + 1) false :: L) (Sb b (eval (m + 1) (Ex.fn f x s t bd) k) L) := by
 obtain ⟨oa, cc, oaf, cf, rfl, hf⟩ := h.at'
 have hlen : (Ex.fn f x s t bd).tree.parts.length = 6 := rfl
 obtain ⟨xa, rfl⟩ : ∃ xa, oa = some xa := ⟨_, Dd hf.nil (show 0 < 6 by decide)⟩
 have hat : (Ex.fn f x s t bd).tree.atom = [] := rfl
 unfold In
 refine Ao Af ?_; refine Se rfl ?_; refine Cj rfl rfl .free rfl ?_; intro b5; refine Az .free rfl ?_; intro b8; refine Oa rfl (Aa (Ag (Se rfl (Om rfl ?_)))); refine A1 rfl .free rfl ?_
 first | refine Oh rfl ?_ | refine Oj rfl ?_
 refine Gs rfl .free rfl ?_; refine Oc rfl rfl rfl (Aa ?_)
 first | refine Sf rfl Ab ?_ | refine At Aj ?_
 refine Ak (Se rfl (Om rfl (Om rfl ?_))); refine A1 rfl .free rfl ?_
 first | refine Oh rfl ?_ | refine Oj rfl ?_
 refine Gs rfl .free rfl ?_; refine Or rfl rfl rfl ?_; refine Do (t := 30) (v' := .int .i64 (m : Nat)) rfl Eu ?_; refine A1 rfl .free rfl ?_
 first | refine Oh rfl ?_ | refine Oj rfl ?_
 refine Bo rfl rfl rfl rfl .free ?_; refine Aa (Ag (Se rfl (Oh rfl ?_))); refine A8 rfl .free rfl ?_; refine Od rfl rfl rfl (Aa ?_)
 first | refine F7 rfl (by simp [hat]) ?_ | refine F6 rfl (by simp [hat]) ?_ | refine At Aj ?_
 refine Ak (Se rfl (Oh rfl ?_)); refine A8 rfl .free rfl ?_
 first | refine Bb rfl rfl 0 rfl .free rfl ?_ | refine Bc rfl rfl 0 rfl .free rfl ?_
 refine Bn rfl .free rfl ?_; refine Gd rfl .free rfl ?_; refine Do (t := 71) (v' := .string (str [102, 117, 110])) rfl rfl ?_; refine Oa rfl (Aa (Ag (Se rfl (Om rfl (Od rfl rfl rfl (Aa ?_))))))
 first | refine St rfl (rfl) ?_ | refine By Aj ?_
 refine Se rfl ?_; refine A7 rfl .free rfl ?_; refine Om rfl (Om rfl ?_); refine Bz rfl rfl rfl .free rfl ?_; refine Bo rfl rfl rfl rfl .free ?_; refine Oa rfl (Aa ?_); refine Ai (.c rfl (.tmp rfl .nil)) ?_; rw [Lr]
 exact ⟨I, _, .refl _, Ms (L' := (b, _) :: L), _, rfl, .clo h hk, rfl⟩
set_option maxHeartbeats 2000000 in
theorem Aan {N : Nat} (ihn : EvG N) {o : B5} {a d : Ex} {I : Heap} {cs : List Value} {k : KE} {on ov : Option Addr} {cn cv : Nat} (m : Nat) (hn : m < N) (h : Rep I (Ex.bin o a d).tree cs) (hok : (Ex.bin o a d).ok = true) (hk : GEat I k on cn ov cv) (hkw : k.wf) (hd : ∀ y ∈ (Ex.bin o a d).occ [], y ∈ k.dom) (htl : k.tall + 2 * (m + 1) ≤ 100000) (b : Nat) (L : Bs) :
  Fun Tryz.prog 54 [.pointer (some ⟨b, 0, none⟩), .agg cs.toArray, .slice on k.names.length cn, .slice ov k.names.length cv] I (In b (m + 1) false :: L) (Sb b (eval (m + 1) (Ex.bin o a d) k) L) := by
 obtain ⟨oa, cc, oaf, cf, rfl, hf⟩ := h.at'
 have hlen : (Ex.bin o a d).tree.parts.length = 3 := rfl
 obtain ⟨xa, rfl⟩ : ∃ xa, oa = some xa := ⟨_, Dd hf.nil (show 0 < 3 by decide)⟩
 have hat : (Ex.bin o a d).tree.atom = [] := rfl
 have hev : eag o.txt = [1, 2] := by cases o <;> rfl
 have hok0 := hok
 simp only [Ex.ok, Bool.and_eq_true] at hok
 unfold In
 refine Ao Af ?_; refine Se rfl ?_; refine Cj rfl rfl .free rfl ?_; intro b5; refine Az .free rfl ?_; intro b8; refine Oa rfl (Aa (Ag (Se rfl (Om rfl ?_)))); refine A1 rfl .free rfl ?_
 first | refine Oh rfl ?_ | refine Oj rfl ?_
 refine Gs rfl .free rfl ?_; refine Oc rfl rfl rfl (Aa ?_)
 first | refine Sf rfl Ab ?_ | refine At Aj ?_
 refine Ak (Se rfl (Om rfl (Om rfl ?_))); refine A1 rfl .free rfl ?_
 first | refine Oh rfl ?_ | refine Oj rfl ?_
 refine Gs rfl .free rfl ?_; refine Or rfl rfl rfl ?_; refine Do (t := 30) (v' := .int .i64 (m : Nat)) rfl Eu ?_; refine A1 rfl .free rfl ?_
 first | refine Oh rfl ?_ | refine Oj rfl ?_
 refine Bo rfl rfl rfl rfl .free ?_; refine Aa (Ag (Se rfl (Oh rfl ?_))); refine A8 rfl .free rfl ?_; refine Od rfl rfl rfl (Aa ?_)
 first | refine F7 rfl (by simp [hat]) ?_ | refine F6 rfl (by simp [hat]) ?_ | refine At Aj ?_
 refine Ak (Se rfl (Oh rfl ?_)); refine A8 rfl .free rfl ?_
 first | refine Bb rfl rfl 0 rfl .free rfl ?_ | refine Bc rfl rfl 0 rfl .free rfl ?_
 refine Bn rfl .free rfl ?_; refine Gd rfl .free rfl ?_; refine Do (t := 71) (v' := .string (str o.txt)) rfl rfl ?_; refine Oa rfl (Aa (Ag (Se rfl (Om rfl (Od rfl rfl rfl (Aa ?_))))))
 first | refine F7 rfl (o.txt_ne.2.2.1) ?_ | refine F6 rfl (o.txt_ne.2.2.1) ?_ | refine At Aj ?_
 refine Ak (Se rfl (Om rfl ?_)); refine Ca rfl (M6 o.txt _ _) ?_; rintro _ J0 _ e0 ⟨oq, ck, rfl, hn0, rfl⟩
 have hle := e0
 have hf := hf.mono e0
 have hk := hk.mono e0
 rw [hev] at hn0; rw [hev]; refine Oa rfl (Aa (Se rfl ?_)); refine Eo .free rfl ?_; intro b80; refine Oa rfl (Aa (Ag (Ag ?_))); refine Bj (fun w h => h.f3) ?_; refine Am rfl (Oa rfl (Aa (Aq ?_))); refine Em ?_; refine Ag (Se rfl (Om rfl (Om rfl (On rfl (Oc rfl rfl rfl (Aa ?_)))))); refine Cs rfl Bw ?_; refine Ak (Ag (Aq (Ag ?_))); refine Nk 18 rfl rfl ?_
 refine Ra (X := Nat × Heap × List Value) (fun x => [(0, .pointer (some ⟨b, 0, none⟩)), (2, .slice on k.names.length cn), (3, .slice ov k.names.length cv), (5, .pointer (some ⟨b5, 0, none⟩)), (8, .pointer (some ⟨b8, 0, none⟩)), (14, .slice oq [1, 2].length ck), (15, .slice (some ⟨b80, 0, none⟩) 0 0), (16, .int .i64 0), (17, .pointer (some ⟨x.1, 0, none⟩)), (18, .bool (eval m a k).v.isSome)]) (fun x => x.2.1) (fun x => (x.1, .cells x.2.2.toArray 76 (0, 0)) :: (b, .cells [.int .i64 ((eval m a k).left : Nat), .bool (eval m a k).stuck].toArray 73 (0, 0)) :: (b80, .cells [].toArray 76 (0, 0)) :: (b8, .cells [.string (str []), .int .i64 0, .slice none 0 0, .string (str []), .slice none 0 0, .slice none 0 0, .slice none 0 0].toArray 76 (0, 0)) :: (b5, .cells [.string (str (Ex.bin o a d).tree.atom), .slice (some xa) (Ex.bin o a d).tree.parts.length cc].toArray 68 (0, 0)) :: L) (fun x => HLe J0 x.2.1 ∧ GO x.2.1 (eval m a k).v x.2.2) ?_ ?_
 ·rintro ⟨b17, J1, gs⟩ ⟨e1, hg1⟩
  simp only at e1 hg1 ⊢
  obtain ⟨x1, x2, x3, x4, x5, x6, x7, x8, x9, x10, x11, x12, x13, x14, rfl⟩ := hg1.open
  have hle := hle.trans e1
  have hf := hf.mono e1
  have hk := hk.mono e1
  have hn0 := hn0.mono e1
  refine Ag (Se rfl (Om rfl ?_)); refine C0 rfl .free rfl ?_; refine Aa ?_; refine Aw rfl ?_ ?_
  ·intro c7
   try simp only [nb] at c7
   have hv0 : (eval m a k).v = none := by
    cases h : (eval m a k).v with
    | none => rfl
    | some w => rw [h] at c7; cases c7
   refine Se rfl ?_; refine Gs rfl .free rfl ?_; refine Bo rfl rfl rfl rfl .free ?_; refine Oa rfl (Aa ?_); refine Ai (.c rfl (.tmp rfl .nil)) ?_
   have hR : eval (m + 1) (Ex.bin o a d) k = (eval m a k) := by rw [Ha]; simp only [hv0]
   rw [hR]
   exact ⟨J1, _, hle, Ms (L' := (b, _) :: L), _, by rw [hv0]; rfl, hg1, rfl⟩
  intro c7
  try simp only [nb] at c7
  obtain ⟨u, hv0⟩ : ∃ w, (eval m a k).v = some w := Option.isSome_iff_exists.1 (by simpa using c7); rw [hv0] at hg1
  have hau : GVat J1 u [.string (str x1), .int .i64 x2, .slice x3 x4 x5, .string (str []), .slice x6 x7 x8, .slice x9 x10 x11, .slice x12 x13 x14] := hg1
  obtain ⟨wu, hst0⟩ := Vz hkw hok.1 (fun y hy => hd y (List.mem_append_left _ hy)) hv0
  have hl1 := Co m a k
  have htu := Ld m a k hv0
  rw [hst0]; refine Ak (Am rfl (Om rfl ?_)); refine Gs rfl .free rfl ?_; refine Ol rfl rfl ?_; intro b107; refine Eb (B := some (b80, [])) (xs := []) (ys := [.string (str x1), .int .i64 x2, .slice x3 x4 x5, .string (str []), .slice x6 x7 x8, .slice x9 x10 x11, .slice x12 x13 x14]) (m := 0) (c := 0) A5 Ae rfl rfl ⟨rfl, Nat.le_refl _, rfl⟩ (fun _ h => h.f3) Ae (fun a ha => by cases ha; exact Bt (.head _) Ae) Af Ae Ad Ad Ab Ad .free rfl ?_; intro bb sp c2 hB
  simp only [List.nil_append]
  refine Oa rfl (Aa (Ar ?_)); refine Bj (fun w h => (Mem.sub (L' := (bb, _) :: (b, _) :: (b8, _) :: (b5, _) :: L) B7 h).f1) ?_; refine Am rfl (Om rfl ?_); refine Or rfl rfl rfl ?_; refine Do (t := 86) (v' := .int .i64 ((1 : Nat))) rfl Ae ?_; refine Oa rfl (Aa ?_); refine Cl ?_; refine Ag (Se rfl (Om rfl (Om rfl (On rfl (Oc rfl rfl rfl (Aa ?_)))))); refine Cs rfl Bw ?_; refine Ak (Ag (Aq (Ag ?_))); refine Nk 18 rfl rfl ?_
  refine Ra (X := Nat × Heap × List Value) (fun x => [(0, .pointer (some ⟨b, 0, none⟩)), (2, .slice on k.names.length cn), (3, .slice ov k.names.length cv), (5, .pointer (some ⟨b5, 0, none⟩)), (8, .pointer (some ⟨b8, 0, none⟩)), (14, .slice oq [1, 2].length ck), (15, .slice (some ⟨bb, 0, none⟩) (0 + 1) c2), (16, .int .i64 ((1 : Nat))), (17, .pointer (some ⟨x.1, 0, none⟩)), (18, .bool (eval (eval m a k).left d k).v.isSome)]) (fun x => x.2.1) (fun x => (x.1, .cells x.2.2.toArray 76 (0, 0)) :: (b, .cells [.int .i64 ((eval (eval m a k).left d k).left : Nat), .bool (eval (eval m a k).left d k).stuck].toArray 73 (0, 0)) :: (bb, .cells (([.string (str x1), .int .i64 x2, .slice x3 x4 x5, .string (str []), .slice x6 x7 x8, .slice x9 x10 x11, .slice x12 x13 x14] : List Value) ++ sp).toArray 76 (0, 0)) :: (b8, .cells [.string (str []), .int .i64 0, .slice none 0 0, .string (str []), .slice none 0 0, .slice none 0 0, .slice none 0 0].toArray 76 (0, 0)) :: (b5, .cells [.string (str (Ex.bin o a d).tree.atom), .slice (some xa) (Ex.bin o a d).tree.parts.length cc].toArray 68 (0, 0)) :: L) (fun x => HLe J1 x.2.1 ∧ GO x.2.1 (eval (eval m a k).left d k).v x.2.2) ?_ ?_
  ·rintro ⟨b17, J2, gs⟩ ⟨e2, hg2⟩
   simp only at e2 hg2 ⊢
   obtain ⟨y1, y2, y3, y4, y5, y6, y7, y8, y9, y10, y11, y12, y13, y14, rfl⟩ := hg2.open
   have hle := hle.trans e2
   have hf := hf.mono e2
   have hk := hk.mono e2
   have hn0 := hn0.mono e2
   refine Ag (Se rfl (Om rfl ?_)); refine C0 rfl .free rfl ?_; refine Aa ?_; refine Aw rfl ?_ ?_
   ·intro c7
    try simp only [nb] at c7
    have hv1 : (eval (eval m a k).left d k).v = none := by
     cases h : (eval (eval m a k).left d k).v with
     | none => rfl
     | some w => rw [h] at c7; cases c7
    refine Se rfl ?_; refine Gs rfl .free rfl ?_; refine Bo rfl rfl rfl rfl .free ?_; refine Oa rfl (Aa ?_); refine Ai (.c rfl (.tmp rfl .nil)) ?_
    have hR : eval (m + 1) (Ex.bin o a d) k = (eval (eval m a k).left d k) := by rw [Ha]; simp only [hv0, hv1]
    rw [hR]
    exact ⟨J2, _, hle, Ms (L' := (b, _) :: L), _, by rw [hv1]; rfl, hg2, rfl⟩
   intro c7
   try simp only [nb] at c7
   obtain ⟨v, hv1⟩ : ∃ w, (eval (eval m a k).left d k).v = some w := Option.isSome_iff_exists.1 (by simpa using c7); rw [hv1] at hg2
   have hav : GVat J2 v [.string (str y1), .int .i64 y2, .slice y3 y4 y5, .string (str []), .slice y6 y7 y8, .slice y9 y10 y11, .slice y12 y13 y14] := hg2
   obtain ⟨wv, hst1⟩ := Vz hkw hok.2 (fun y hy => hd y (List.mem_append_right _ hy)) hv1
   have hl2 := Co (eval m a k).left d k
   have htv := Ld (eval m a k).left d k hv1
   rw [hst1]; refine Ak (Am rfl (Om rfl ?_)); refine Gs rfl .free rfl ?_; refine Ol rfl rfl ?_; intro b107; refine Eb (B := some (bb, sp)) (xs := [.string (str x1), .int .i64 x2, .slice x3 x4 x5, .string (str []), .slice x6 x7 x8, .slice x9 x10 x11, .slice x12 x13 x14]) (ys := [.string (str y1), .int .i64 y2, .slice y3 y4 y5, .string (str []), .slice y6 y7 y8, .slice y9 y10 y11, .slice y12 y13 y14]) (m := 1) (c := c2) A5 Ae rfl rfl hB (fun _ h => h.f3) Ae (fun a ha => by cases ha; exact Bt (.head _) Ae) Af Ae Ad Ad Ab Ad .free rfl ?_; intro bb2 sp2 c3 hB2; refine Oa rfl (Aa (Ar ?_))
   refine Bj (fun w h => (Mem.sub (L' := (bb2, _) :: (b, _) :: (b8, _) :: (b5, _) :: L) B7 h).f1) ?_; refine Am rfl (Om rfl ?_); refine Or rfl rfl rfl ?_; refine Oa rfl (Aa ?_); refine Cl ?_; refine Ag (Se rfl (Om rfl (Om rfl (On rfl (Oc rfl rfl rfl (Aa ?_)))))); refine Du rfl Bw ?_; refine Cf rfl ?_; refine Ag ?_; refine Bj (fun w h => h.f1) (Bv ?_); intro hz
   have hq := Bp (I := J2) (b := bb2) (xs := [.string (str x1), .int .i64 x2, .slice x3 x4 x5, .string (str []), .slice x6 x7 x8, .slice x9 x10 x11, .slice x12 x13 x14] ++ [.string (str y1), .int .i64 y2, .slice y3 y4 y5, .string (str []), .slice y6 y7 y8, .slice y9 y10 y11, .slice y12 y13 y14]) (ys := sp2) (T := 76) (fr := (0, 0))
   have hle := hle.trans hz
   have hf := hf.mono hz
   have hk := hk.mono hz
   have hau := hau.mono (e2.trans hz)
   have hav := hav.mono hz
   refine Am rfl (Om rfl ?_); refine A7 rfl .free rfl ?_
   iterate 3 refine Om rfl ?_
   refine Ca rfl (Aea ihn wu wv hf.rep hau hav hq hB2.2.1 (k := k) b (eval (eval m a k).left d k).left Ab Ab Ab Ab Ab _) ?_; rintro _ J3 _ e3 ⟨gs5, rfl, hg5, rfl⟩
   have hle := hle.trans e3
   obtain ⟨_, _, _, _, _, _, _, _, _, _, _, _, _, _, rfl⟩ := hg5.open
   unfold In
   refine Oe rfl rfl (Oe rfl rfl ?_); refine Bo rfl rfl rfl rfl .free ?_; refine Oa rfl (Aa ?_); refine Ai (.c rfl (.tmp rfl .nil)) ?_
   have hR : eval (m + 1) (Ex.bin o a d) k = Mc o u v (eval (eval m a k).left d k).left := by rw [Lc]; simp only [hv0, hv1]
   rw [hR]
   exact ⟨J3, _, hle, Ms (L' := (b, _) :: L), _, rfl, hg5, rfl⟩
  ·intro hkk
   skip
   refine Da 0 rfl (Al rfl) ?_; refine Da 1 rfl (Ap rfl) ?_; refine Dt 2 [16] rfl (B6 rfl) ?_; refine Da 3 rfl (Al rfl) ?_; refine Da 4 rfl (Al rfl) ?_
   first | refine Da 5 rfl (Bl rfl rfl _ rfl) ?_ | refine Da 5 rfl (Bm rfl rfl _ rfl) ?_
   refine Dt 6 [16] rfl (Qs rfl) ?_
   first | refine Da 7 rfl (Bl rfl rfl _ rfl) ?_ | refine Da 7 rfl (Bm rfl rfl _ rfl) ?_
   refine Dt 8 [16] rfl (Br rfl) ?_; refine Da 9 rfl (Al rfl) ?_; refine Da 10 rfl (Al rfl) ?_; refine Cw 11 15 Ac ?_ ?_
   ·skip
    first
     | (refine Dq (L' := (b, _) :: _) (fun w h => h) ?_)
     | (refine Dq (fun w h => h.f1) ?_)
     | skip
    refine F4 11 rfl rfl rfl .free rfl (ihn (eval m a k).left Ab (hf.as 2 d.tree Ab rfl) hok.2 hk hkw (fun y hy => hd y (List.mem_append_right _ hy)) Ab b _) ?_; rintro _ J2 _ e2 ⟨gs, rfl, hg2, rfl⟩; obtain ⟨y1, y2, y3, y4, y5, y6, y7, y8, y9, y10, y11, y12, y13, y14, rfl⟩ := hg2.open
    unfold In
    refine Hx ?_; refine Da 12 rfl (Al rfl) ?_; refine Da 13 rfl (Bh rfl rfl) ?_; refine Da 14 rfl (Bh rfl rfl) ?_; refine Ea 15 rfl Ac rfl .free rfl (.inr As) ?_; intro b17; refine Dx 16 rfl rfl rfl rfl ?_; refine Db 17 rfl (Ay rfl) ?_; refine Au Ac ?_
    exact Bu (E' := [(0, _), (2, _), (3, _), (5, _), (8, _), (14, _), (15, _), (16, _), (17, _), (18, _)]) ⟨rfl, rfl, rfl, rfl, rfl, rfl, rfl, rfl, rfl, rfl, trivial⟩ (Bj G0 (hkk ⟨b17, J2, [.string (str y1), .int .i64 y2, .slice y3 y4 y5, .string (str []), .slice y6 y7 y8, .slice y9 y10 y11, .slice y12 y13 y14]⟩ ⟨e2, hg2⟩))
   ·skip
    refine Ci 15 rfl rfl .free rfl (.inr As) ?_; intro b17
    first
     | (refine Dq (L' := (b, _) :: _) (fun w h => h) ?_)
     | (refine Dq (fun w h => h.f1) ?_)
     | skip
    refine Dc 11 rfl rfl (ihn (eval m a k).left Ab (hf.as 2 d.tree Ab rfl) hok.2 hk hkw (fun y hy => hd y (List.mem_append_right _ hy)) Ab b _) ?_; rintro _ J2 _ e2 ⟨gs, rfl, hg2, rfl⟩; obtain ⟨y1, y2, y3, y4, y5, y6, y7, y8, y9, y10, y11, y12, y13, y14, rfl⟩ := hg2.open
    unfold In
    refine Hx ?_; refine Da 12 rfl (Al rfl) ?_; refine Da 13 rfl (Bh rfl rfl) ?_; refine Da 14 rfl (Bh rfl rfl) ?_; refine Dx 16 rfl rfl rfl rfl ?_; refine Db 17 rfl (Ay rfl) ?_; refine Au Ac ?_
    exact Bu (E' := [(0, _), (2, _), (3, _), (5, _), (8, _), (14, _), (15, _), (16, _), (17, _), (18, _)]) ⟨rfl, rfl, rfl, rfl, rfl, rfl, rfl, rfl, rfl, rfl, trivial⟩ (Bj G0 (hkk ⟨b17, J2, [.string (str y1), .int .i64 y2, .slice y3 y4 y5, .string (str []), .slice y6 y7 y8, .slice y9 y10 y11, .slice y12 y13 y14]⟩ ⟨e2, hg2⟩))
 ·intro hkk
  skip
  refine Da 0 rfl (Al rfl) ?_; refine Da 1 rfl (Ap rfl) ?_; refine Dt 2 [16] rfl (B6 rfl) ?_; refine Da 3 rfl (Al rfl) ?_; refine Da 4 rfl (Al rfl) ?_
  first | refine Da 5 rfl (Bl rfl rfl _ rfl) ?_ | refine Da 5 rfl (Bm rfl rfl _ rfl) ?_
  refine Dt 6 [16] rfl (Qs rfl) ?_
  first | refine Da 7 rfl (Bl rfl rfl _ rfl) ?_ | refine Da 7 rfl (Bm rfl rfl _ rfl) ?_
  refine Dt 8 [16] rfl (Br rfl) ?_; refine Da 9 rfl (Al rfl) ?_; refine Da 10 rfl (Al rfl) ?_; refine Cw 11 15 Ac ?_ ?_
  ·skip
   first
    | (refine Dq (L' := (b, _) :: _) (fun w h => h) ?_)
    | (refine Dq (fun w h => h.f1) ?_)
    | skip
   refine F4 11 rfl rfl rfl .free rfl (ihn m Ab (hf.as 1 a.tree Ab rfl) hok.1 hk hkw (fun y hy => hd y (List.mem_append_left _ hy)) Ab b _) ?_; rintro _ J1 _ e1 ⟨gs, rfl, hg1, rfl⟩; obtain ⟨x1, x2, x3, x4, x5, x6, x7, x8, x9, x10, x11, x12, x13, x14, rfl⟩ := hg1.open
   unfold In
   refine Hx ?_; refine Da 12 rfl (Al rfl) ?_; refine Da 13 rfl (Bh rfl rfl) ?_; refine Da 14 rfl (Bh rfl rfl) ?_; refine Ea 15 rfl Ac rfl .free rfl (.inr As) ?_; intro b17; refine Dx 16 rfl rfl rfl rfl ?_; refine Db 17 rfl (Ay rfl) ?_; refine Au Ac ?_
   exact Bu (E' := [(0, _), (2, _), (3, _), (5, _), (8, _), (14, _), (15, _), (16, _), (17, _), (18, _)]) ⟨rfl, rfl, rfl, rfl, rfl, rfl, rfl, rfl, rfl, rfl, trivial⟩ (Bj G0 (hkk ⟨b17, J1, [.string (str x1), .int .i64 x2, .slice x3 x4 x5, .string (str []), .slice x6 x7 x8, .slice x9 x10 x11, .slice x12 x13 x14]⟩ ⟨e1, hg1⟩))
  ·skip
   refine Ci 15 rfl rfl .free rfl (.inr As) ?_; intro b17
   first
    | (refine Dq (L' := (b, _) :: _) (fun w h => h) ?_)
    | (refine Dq (fun w h => h.f1) ?_)
    | skip
   refine Dc 11 rfl rfl (ihn m Ab (hf.as 1 a.tree Ab rfl) hok.1 hk hkw (fun y hy => hd y (List.mem_append_left _ hy)) Ab b _) ?_; rintro _ J1 _ e1 ⟨gs, rfl, hg1, rfl⟩; obtain ⟨x1, x2, x3, x4, x5, x6, x7, x8, x9, x10, x11, x12, x13, x14, rfl⟩ := hg1.open
   unfold In
   refine Hx ?_; refine Da 12 rfl (Al rfl) ?_; refine Da 13 rfl (Bh rfl rfl) ?_; refine Da 14 rfl (Bh rfl rfl) ?_; refine Dx 16 rfl rfl rfl rfl ?_; refine Db 17 rfl (Ay rfl) ?_; refine Au Ac ?_
   exact Bu (E' := [(0, _), (2, _), (3, _), (5, _), (8, _), (14, _), (15, _), (16, _), (17, _), (18, _)]) ⟨rfl, rfl, rfl, rfl, rfl, rfl, rfl, rfl, rfl, rfl, trivial⟩ (Bj G0 (hkk ⟨b17, J1, [.string (str x1), .int .i64 x2, .slice x3 x4 x5, .string (str []), .slice x6 x7 x8, .slice x9 x10 x11, .slice x12 x13 x14]⟩ ⟨e1, hg1⟩))
set_option maxHeartbeats 2000000 in
theorem Aao {N : Nat} (ihn : EvG N) {a d g : Ex} {I : Heap} {cs : List Value} {k : KE} {on ov : Option Addr} {cn cv : Nat} (m : Nat) (hn : m < N) (h : Rep I (Ex.ite a d g).tree cs) (hok : (Ex.ite a d g).ok = true) (hk : GEat I k on cn ov cv) (hkw : k.wf) (hd : ∀ y ∈ (Ex.ite a d g).occ [], y ∈ k.dom) (htl : k.tall + 2 * (m + 1) ≤ 100000) (b : Nat) (L : Bs) :
  Fun Tryz.prog 54 [.pointer (some ⟨b, 0, none⟩), .agg cs.toArray, .slice on k.names.length cn, .slice ov k.names.length cv] I (In b (m + 1) false :: L) (Sb b (eval (m + 1) (Ex.ite a d g) k) L) := by
 obtain ⟨oa, cc, oaf, cf, rfl, hf⟩ := h.at'
 have hlen : (Ex.ite a d g).tree.parts.length = 4 := rfl
 obtain ⟨xa, rfl⟩ : ∃ xa, oa = some xa := ⟨_, Dd hf.nil (show 0 < 4 by decide)⟩
 have hat : (Ex.ite a d g).tree.atom = [] := rfl
 have hev : eag [105, 102] = [1] := rfl
 have hok0 := hok
 simp only [Ex.ok, Bool.and_eq_true] at hok
 unfold In
 refine Ao Af ?_; refine Se rfl ?_; refine Cj rfl rfl .free rfl ?_; intro b5; refine Az .free rfl ?_; intro b8; refine Oa rfl (Aa (Ag (Se rfl (Om rfl ?_)))); refine A1 rfl .free rfl ?_
 first | refine Oh rfl ?_ | refine Oj rfl ?_
 refine Gs rfl .free rfl ?_; refine Oc rfl rfl rfl (Aa ?_)
 first | refine Sf rfl Ab ?_ | refine At Aj ?_
 refine Ak (Se rfl (Om rfl (Om rfl ?_))); refine A1 rfl .free rfl ?_
 first | refine Oh rfl ?_ | refine Oj rfl ?_
 refine Gs rfl .free rfl ?_; refine Or rfl rfl rfl ?_; refine Do (t := 30) (v' := .int .i64 (m : Nat)) rfl Eu ?_; refine A1 rfl .free rfl ?_
 first | refine Oh rfl ?_ | refine Oj rfl ?_
 refine Bo rfl rfl rfl rfl .free ?_; refine Aa (Ag (Se rfl (Oh rfl ?_))); refine A8 rfl .free rfl ?_; refine Od rfl rfl rfl (Aa ?_)
 first | refine F7 rfl (by simp [hat]) ?_ | refine F6 rfl (by simp [hat]) ?_ | refine At Aj ?_
 refine Ak (Se rfl (Oh rfl ?_)); refine A8 rfl .free rfl ?_
 first | refine Bb rfl rfl 0 rfl .free rfl ?_ | refine Bc rfl rfl 0 rfl .free rfl ?_
 refine Bn rfl .free rfl ?_; refine Gd rfl .free rfl ?_; refine Do (t := 71) (v' := .string (str [105, 102])) rfl rfl ?_; refine Oa rfl (Aa (Ag (Se rfl (Om rfl (Od rfl rfl rfl (Aa ?_))))))
 first | refine Sf rfl Ad ?_ | refine At Aj ?_
 refine Ak (Se rfl (Om rfl ?_)); refine Ca rfl (M6 [105, 102] _ _) ?_; rintro _ J0 _ e0 ⟨oq, ck, rfl, hn0, rfl⟩
 have hle := e0
 have hf := hf.mono e0
 have hk := hk.mono e0
 rw [hev] at hn0; rw [hev]; refine Oa rfl (Aa (Se rfl ?_)); refine Eo .free rfl ?_; intro b80; refine Oa rfl (Aa (Ag (Ag ?_))); refine Bj (fun w h => h.f3) ?_; refine Am rfl (Oa rfl (Aa (Aq ?_))); refine Em ?_; refine Ag (Se rfl (Om rfl (Om rfl (On rfl (Oc rfl rfl rfl (Aa ?_)))))); refine Cs rfl Bw ?_; refine Ak (Ag (Aq (Ag ?_))); refine Nk 18 rfl rfl ?_
 refine Ra (X := Nat × Heap × List Value) (fun x => [(0, .pointer (some ⟨b, 0, none⟩)), (2, .slice on k.names.length cn), (3, .slice ov k.names.length cv), (5, .pointer (some ⟨b5, 0, none⟩)), (8, .pointer (some ⟨b8, 0, none⟩)), (14, .slice oq [1].length ck), (15, .slice (some ⟨b80, 0, none⟩) 0 0), (16, .int .i64 0), (17, .pointer (some ⟨x.1, 0, none⟩)), (18, .bool (eval m a k).v.isSome)]) (fun x => x.2.1) (fun x => (x.1, .cells x.2.2.toArray 76 (0, 0)) :: (b, .cells [.int .i64 ((eval m a k).left : Nat), .bool (eval m a k).stuck].toArray 73 (0, 0)) :: (b80, .cells [].toArray 76 (0, 0)) :: (b8, .cells [.string (str []), .int .i64 0, .slice none 0 0, .string (str []), .slice none 0 0, .slice none 0 0, .slice none 0 0].toArray 76 (0, 0)) :: (b5, .cells [.string (str (Ex.ite a d g).tree.atom), .slice (some xa) (Ex.ite a d g).tree.parts.length cc].toArray 68 (0, 0)) :: L) (fun x => HLe J0 x.2.1 ∧ GO x.2.1 (eval m a k).v x.2.2) ?_ ?_
 ·rintro ⟨b17, J1, gs⟩ ⟨e1, hg1⟩
  simp only at e1 hg1 ⊢
  obtain ⟨x1, x2, x3, x4, x5, x6, x7, x8, x9, x10, x11, x12, x13, x14, rfl⟩ := hg1.open
  have hle := hle.trans e1
  have hf := hf.mono e1
  have hk := hk.mono e1
  have hn0 := hn0.mono e1
  refine Ag (Se rfl (Om rfl ?_)); refine C0 rfl .free rfl ?_; refine Aa ?_; refine Aw rfl ?_ ?_
  ·intro c7
   try simp only [nb] at c7
   have hv0 : (eval m a k).v = none := by
    cases h : (eval m a k).v with
    | none => rfl
    | some w => rw [h] at c7; cases c7
   refine Se rfl ?_; refine Gs rfl .free rfl ?_; refine Bo rfl rfl rfl rfl .free ?_; refine Oa rfl (Aa ?_); refine Ai (.c rfl (.tmp rfl .nil)) ?_
   have hR : eval (m + 1) (Ex.ite a d g) k = (eval m a k) := by rw [Hs]; simp only [hv0]
   rw [hR]
   exact ⟨J1, _, hle, Ms (L' := (b, _) :: L), _, by rw [hv0]; rfl, hg1, rfl⟩
  intro c7
  try simp only [nb] at c7
  obtain ⟨u, hv0⟩ : ∃ w, (eval m a k).v = some w := Option.isSome_iff_exists.1 (by simpa using c7); rw [hv0] at hg1
  have hau : GVat J1 u [.string (str x1), .int .i64 x2, .slice x3 x4 x5, .string (str []), .slice x6 x7 x8, .slice x9 x10 x11, .slice x12 x13 x14] := hg1
  obtain ⟨wu, hst0⟩ := Vz hkw hok.1.1 (fun y hy => hd y (List.mem_append_left _ (List.mem_append_left _ hy))) hv0
  have hl1 := Co m a k
  have htu := Ld m a k hv0
  rw [hst0]; refine Ak (Am rfl (Om rfl ?_)); refine Gs rfl .free rfl ?_; refine Ol rfl rfl ?_; intro b107; refine Eb (B := some (b80, [])) (xs := []) (ys := [.string (str x1), .int .i64 x2, .slice x3 x4 x5, .string (str []), .slice x6 x7 x8, .slice x9 x10 x11, .slice x12 x13 x14]) (m := 0) (c := 0) A5 Ae rfl rfl ⟨rfl, Nat.le_refl _, rfl⟩ (fun _ h => h.f3) Ae (fun a ha => by cases ha; exact Bt (.head _) Ae) Af Ae Ad Ad Ab Ad .free rfl ?_; intro bb sp c2 hB
  simp only [List.nil_append]
  refine Oa rfl (Aa (Ar ?_)); refine Bj (fun w h => (Mem.sub (L' := (bb, _) :: (b, _) :: (b8, _) :: (b5, _) :: L) B7 h).f1) ?_; refine Am rfl (Om rfl ?_); refine Or rfl rfl rfl ?_; refine Do (t := 86) (v' := .int .i64 ((1 : Nat))) rfl Ae ?_; refine Oa rfl (Aa ?_); refine Cl ?_; refine Ag (Se rfl (Om rfl (Om rfl (On rfl (Oc rfl rfl rfl (Aa ?_)))))); refine Du rfl Bw ?_; refine Cf rfl ?_; refine Ag ?_; refine Bj (fun w h => h.f1) (Bv ?_); intro hz
  have hq := Bp (I := J1) (b := bb) (xs := [.string (str x1), .int .i64 x2, .slice x3 x4 x5, .string (str []), .slice x6 x7 x8, .slice x9 x10 x11, .slice x12 x13 x14]) (ys := sp) (T := 76) (fr := (0, 0))
  have hle := hle.trans hz
  have hf := hf.mono hz
  have hk := hk.mono hz
  have hau := hau.mono hz
  refine Am rfl (Om rfl ?_); refine A7 rfl .free rfl ?_
  iterate 3 refine Om rfl ?_
  refine Ca rfl (Afn ihn wu hf.rep hok0 hau hq hk hkw b (eval m a k).left Ab Ab Ab (fun y hy => hd y (List.mem_append_left _ (List.mem_append_right _ hy))) (fun y hy => hd y (List.mem_append_right _ hy)) _) ?_; rintro _ J3 _ e3 ⟨gs5, rfl, hg5, rfl⟩
  have hle := hle.trans e3
  obtain ⟨_, _, _, _, _, _, _, _, _, _, _, _, _, _, rfl⟩ := hg5.open
  unfold In
  refine Oe rfl rfl (Oe rfl rfl ?_); refine Bo rfl rfl rfl rfl .free ?_; refine Oa rfl (Aa ?_); refine Ai (.c rfl (.tmp rfl .nil)) ?_
  have hR : eval (m + 1) (Ex.ite a d g) k = Afq u (eval m a k).left d g k := by rw [Hs]; simp only [hv0]; cases u <;> rfl
  rw [hR]
  exact ⟨J3, _, hle, Ms (L' := (b, _) :: L), _, rfl, hg5, rfl⟩
 ·intro hkk
  skip
  refine Da 0 rfl (Al rfl) ?_; refine Da 1 rfl (Ap rfl) ?_; refine Dt 2 [16] rfl (B6 rfl) ?_; refine Da 3 rfl (Al rfl) ?_; refine Da 4 rfl (Al rfl) ?_
  first | refine Da 5 rfl (Bl rfl rfl _ rfl) ?_ | refine Da 5 rfl (Bm rfl rfl _ rfl) ?_
  refine Dt 6 [16] rfl (Qs rfl) ?_
  first | refine Da 7 rfl (Bl rfl rfl _ rfl) ?_ | refine Da 7 rfl (Bm rfl rfl _ rfl) ?_
  refine Dt 8 [16] rfl (Br rfl) ?_; refine Da 9 rfl (Al rfl) ?_; refine Da 10 rfl (Al rfl) ?_; refine Cw 11 15 Ac ?_ ?_
  ·skip
   first
    | (refine Dq (L' := (b, _) :: _) (fun w h => h) ?_)
    | (refine Dq (fun w h => h.f1) ?_)
    | skip
   refine F4 11 rfl rfl rfl .free rfl (ihn m Ab (hf.as 1 a.tree Ab rfl) hok.1.1 hk hkw (fun y hy => hd y (List.mem_append_left _ (List.mem_append_left _ hy))) Ab b _) ?_; rintro _ J1 _ e1 ⟨gs, rfl, hg1, rfl⟩; obtain ⟨x1, x2, x3, x4, x5, x6, x7, x8, x9, x10, x11, x12, x13, x14, rfl⟩ := hg1.open
   unfold In
   refine Hx ?_; refine Da 12 rfl (Al rfl) ?_; refine Da 13 rfl (Bh rfl rfl) ?_; refine Da 14 rfl (Bh rfl rfl) ?_; refine Ea 15 rfl Ac rfl .free rfl (.inr As) ?_; intro b17; refine Dx 16 rfl rfl rfl rfl ?_; refine Db 17 rfl (Ay rfl) ?_; refine Au Ac ?_
   exact Bu (E' := [(0, _), (2, _), (3, _), (5, _), (8, _), (14, _), (15, _), (16, _), (17, _), (18, _)]) ⟨rfl, rfl, rfl, rfl, rfl, rfl, rfl, rfl, rfl, rfl, trivial⟩ (Bj G0 (hkk ⟨b17, J1, [.string (str x1), .int .i64 x2, .slice x3 x4 x5, .string (str []), .slice x6 x7 x8, .slice x9 x10 x11, .slice x12 x13 x14]⟩ ⟨e1, hg1⟩))
  ·skip
   refine Ci 15 rfl rfl .free rfl (.inr As) ?_; intro b17
   first
    | (refine Dq (L' := (b, _) :: _) (fun w h => h) ?_)
    | (refine Dq (fun w h => h.f1) ?_)
    | skip
   refine Dc 11 rfl rfl (ihn m Ab (hf.as 1 a.tree Ab rfl) hok.1.1 hk hkw (fun y hy => hd y (List.mem_append_left _ (List.mem_append_left _ hy))) Ab b _) ?_; rintro _ J1 _ e1 ⟨gs, rfl, hg1, rfl⟩; obtain ⟨x1, x2, x3, x4, x5, x6, x7, x8, x9, x10, x11, x12, x13, x14, rfl⟩ := hg1.open
   unfold In
   refine Hx ?_; refine Da 12 rfl (Al rfl) ?_; refine Da 13 rfl (Bh rfl rfl) ?_; refine Da 14 rfl (Bh rfl rfl) ?_; refine Dx 16 rfl rfl rfl rfl ?_; refine Db 17 rfl (Ay rfl) ?_; refine Au Ac ?_
   exact Bu (E' := [(0, _), (2, _), (3, _), (5, _), (8, _), (14, _), (15, _), (16, _), (17, _), (18, _)]) ⟨rfl, rfl, rfl, rfl, rfl, rfl, rfl, rfl, rfl, rfl, trivial⟩ (Bj G0 (hkk ⟨b17, J1, [.string (str x1), .int .i64 x2, .slice x3 x4 x5, .string (str []), .slice x6 x7 x8, .slice x9 x10 x11, .slice x12 x13 x14]⟩ ⟨e1, hg1⟩))
set_option maxHeartbeats 2000000 in
theorem Acp {N : Nat} (ihn : EvG N) {z : Av} {a d : Ex} {I : Heap} {cs : List Value} {k : KE} {on ov : Option Addr} {cn cv : Nat} (m : Nat) (hn : m < N) (h : Rep I (Ex.lt z a d).tree cs) (hok : (Ex.lt z a d).ok = true) (hk : GEat I k on cn ov cv) (hkw : k.wf) (hd : ∀ y ∈ (Ex.lt z a d).occ [], y ∈ k.dom) (htl : k.tall + 2 * (m + 1) ≤ 100000) (b : Nat) (L : Bs) :
  Fun Tryz.prog 54 [.pointer (some ⟨b, 0, none⟩), .agg cs.toArray, .slice on k.names.length cn, .slice ov k.names.length cv] I (In b (m + 1) false :: L) (Sb b (eval (m + 1) (Ex.lt z a d) k) L) := by
 obtain ⟨oa, cc, oaf, cf, rfl, hf⟩ := h.at'
 have hlen : (Ex.lt z a d).tree.parts.length = 4 := rfl
 obtain ⟨xa, rfl⟩ : ∃ xa, oa = some xa := ⟨_, Dd hf.nil (show 0 < 4 by decide)⟩
 have hat : (Ex.lt z a d).tree.atom = [] := rfl
 have hev : eag [108, 101, 116] = [2] := rfl
 have hok0 := hok
 simp only [Ex.ok, Bool.and_eq_true] at hok
 unfold In
 refine Ao Af ?_; refine Se rfl ?_; refine Cj rfl rfl .free rfl ?_; intro b5; refine Az .free rfl ?_; intro b8; refine Oa rfl (Aa (Ag (Se rfl (Om rfl ?_)))); refine A1 rfl .free rfl ?_
 first | refine Oh rfl ?_ | refine Oj rfl ?_
 refine Gs rfl .free rfl ?_; refine Oc rfl rfl rfl (Aa ?_)
 first | refine Sf rfl Ab ?_ | refine At Aj ?_
 refine Ak (Se rfl (Om rfl (Om rfl ?_))); refine A1 rfl .free rfl ?_
 first | refine Oh rfl ?_ | refine Oj rfl ?_
 refine Gs rfl .free rfl ?_; refine Or rfl rfl rfl ?_; refine Do (t := 30) (v' := .int .i64 (m : Nat)) rfl Eu ?_; refine A1 rfl .free rfl ?_
 first | refine Oh rfl ?_ | refine Oj rfl ?_
 refine Bo rfl rfl rfl rfl .free ?_; refine Aa (Ag (Se rfl (Oh rfl ?_))); refine A8 rfl .free rfl ?_; refine Od rfl rfl rfl (Aa ?_)
 first | refine F7 rfl (by simp [hat]) ?_ | refine F6 rfl (by simp [hat]) ?_ | refine At Aj ?_
 refine Ak (Se rfl (Oh rfl ?_)); refine A8 rfl .free rfl ?_
 first | refine Bb rfl rfl 0 rfl .free rfl ?_ | refine Bc rfl rfl 0 rfl .free rfl ?_
 refine Bn rfl .free rfl ?_; refine Gd rfl .free rfl ?_; refine Do (t := 71) (v' := .string (str [108, 101, 116])) rfl rfl ?_; refine Oa rfl (Aa (Ag (Se rfl (Om rfl (Od rfl rfl rfl (Aa ?_))))))
 first | refine Sf rfl Ad ?_ | refine At Aj ?_
 refine Ak (Se rfl (Om rfl ?_)); refine Ca rfl (M6 [108, 101, 116] _ _) ?_; rintro _ J0 _ e0 ⟨oq, ck, rfl, hn0, rfl⟩
 have hle := e0
 have hf := hf.mono e0
 have hk := hk.mono e0
 rw [hev] at hn0; rw [hev]; refine Oa rfl (Aa (Se rfl ?_)); refine Eo .free rfl ?_; intro b80; refine Oa rfl (Aa (Ag (Ag ?_))); refine Bj (fun w h => h.f3) ?_; refine Am rfl (Oa rfl (Aa (Aq ?_))); refine Em ?_; refine Ag (Se rfl (Om rfl (Om rfl (On rfl (Oc rfl rfl rfl (Aa ?_)))))); refine Cs rfl Bw ?_; refine Ak (Ag (Aq (Ag ?_))); refine Nk 18 rfl rfl ?_
 refine Ra (X := Nat × Heap × List Value) (fun x => [(0, .pointer (some ⟨b, 0, none⟩)), (2, .slice on k.names.length cn), (3, .slice ov k.names.length cv), (5, .pointer (some ⟨b5, 0, none⟩)), (8, .pointer (some ⟨b8, 0, none⟩)), (14, .slice oq [2].length ck), (15, .slice (some ⟨b80, 0, none⟩) 0 0), (16, .int .i64 0), (17, .pointer (some ⟨x.1, 0, none⟩)), (18, .bool (eval m a k).v.isSome)]) (fun x => x.2.1) (fun x => (x.1, .cells x.2.2.toArray 76 (0, 0)) :: (b, .cells [.int .i64 ((eval m a k).left : Nat), .bool (eval m a k).stuck].toArray 73 (0, 0)) :: (b80, .cells [].toArray 76 (0, 0)) :: (b8, .cells [.string (str []), .int .i64 0, .slice none 0 0, .string (str []), .slice none 0 0, .slice none 0 0, .slice none 0 0].toArray 76 (0, 0)) :: (b5, .cells [.string (str (Ex.lt z a d).tree.atom), .slice (some xa) (Ex.lt z a d).tree.parts.length cc].toArray 68 (0, 0)) :: L) (fun x => HLe J0 x.2.1 ∧ GO x.2.1 (eval m a k).v x.2.2) ?_ ?_
 ·rintro ⟨b17, J1, gs⟩ ⟨e1, hg1⟩
  simp only at e1 hg1 ⊢
  obtain ⟨x1, x2, x3, x4, x5, x6, x7, x8, x9, x10, x11, x12, x13, x14, rfl⟩ := hg1.open
  have hle := hle.trans e1
  have hf := hf.mono e1
  have hk := hk.mono e1
  have hn0 := hn0.mono e1
  refine Ag (Se rfl (Om rfl ?_)); refine C0 rfl .free rfl ?_; refine Aa ?_; refine Aw rfl ?_ ?_
  ·intro c7
   try simp only [nb] at c7
   have hv0 : (eval m a k).v = none := by
    cases h : (eval m a k).v with
    | none => rfl
    | some w => rw [h] at c7; cases c7
   refine Se rfl ?_; refine Gs rfl .free rfl ?_; refine Bo rfl rfl rfl rfl .free ?_; refine Oa rfl (Aa ?_); refine Ai (.c rfl (.tmp rfl .nil)) ?_
   have hR : eval (m + 1) (Ex.lt z a d) k = (eval m a k) := by rw [I9]; simp only [hv0]
   rw [hR]
   exact ⟨J1, _, hle, Ms (L' := (b, _) :: L), _, by rw [hv0]; rfl, hg1, rfl⟩
  intro c7
  try simp only [nb] at c7
  obtain ⟨u, hv0⟩ : ∃ w, (eval m a k).v = some w := Option.isSome_iff_exists.1 (by simpa using c7); rw [hv0] at hg1
  have hau : GVat J1 u [.string (str x1), .int .i64 x2, .slice x3 x4 x5, .string (str []), .slice x6 x7 x8, .slice x9 x10 x11, .slice x12 x13 x14] := hg1
  obtain ⟨wu, hst0⟩ := Vz hkw hok.1.2 (fun y hy => hd y (List.mem_append_left _ hy)) hv0
  have hl1 := Co m a k
  have htu := Ld m a k hv0
  rw [hst0]; refine Ak (Am rfl (Om rfl ?_)); refine Gs rfl .free rfl ?_; refine Ol rfl rfl ?_; intro b107; refine Eb (B := some (b80, [])) (xs := []) (ys := [.string (str x1), .int .i64 x2, .slice x3 x4 x5, .string (str []), .slice x6 x7 x8, .slice x9 x10 x11, .slice x12 x13 x14]) (m := 0) (c := 0) A5 Ae rfl rfl ⟨rfl, Nat.le_refl _, rfl⟩ (fun _ h => h.f3) Ae (fun a ha => by cases ha; exact Bt (.head _) Ae) Af Ae Ad Ad Ab Ad .free rfl ?_; intro bb sp c2 hB
  simp only [List.nil_append]
  refine Oa rfl (Aa (Ar ?_)); refine Bj (fun w h => (Mem.sub (L' := (bb, _) :: (b, _) :: (b8, _) :: (b5, _) :: L) B7 h).f1) ?_; refine Am rfl (Om rfl ?_); refine Or rfl rfl rfl ?_; refine Do (t := 86) (v' := .int .i64 ((1 : Nat))) rfl Ae ?_; refine Oa rfl (Aa ?_); refine Cl ?_; refine Ag (Se rfl (Om rfl (Om rfl (On rfl (Oc rfl rfl rfl (Aa ?_)))))); refine Du rfl Bw ?_; refine Cf rfl ?_; refine Ag ?_; refine Bj (fun w h => h.f1) (Bv ?_); intro hz
  have hq := Bp (I := J1) (b := bb) (xs := [.string (str x1), .int .i64 x2, .slice x3 x4 x5, .string (str []), .slice x6 x7 x8, .slice x9 x10 x11, .slice x12 x13 x14]) (ys := sp) (T := 76) (fr := (0, 0))
  have hle := hle.trans hz
  have hf := hf.mono hz
  have hk := hk.mono hz
  have hau := hau.mono hz
  have hdm : ∀ y ∈ d.occ [], y ∈ (KE.cons z u k).dom := fun y hy => by
   simp only [KE.dom, List.mem_cons]
   by_cases hyx : y = z
   ·exact .inl hyx
   ·exact .inr (hd y (List.mem_append_right _ (show y ∈ d.occ ([] ++ [z]) from Ex.occ_mem.2 ⟨hy, by simpa using hyx⟩)))
  refine Am rfl (Om rfl ?_); refine A7 rfl .free rfl ?_
  iterate 3 refine Om rfl ?_
  refine Ca rfl (Afo hok0 wu hf.rep hau hq ihn hk hkw b (eval m a k).left Ab Ab Ab hdm (by simp only [KE.tall]; omega) _) ?_; rintro _ J3 _ e3 ⟨gs5, rfl, hg5, rfl⟩
  have hle := hle.trans e3
  obtain ⟨_, _, _, _, _, _, _, _, _, _, _, _, _, _, rfl⟩ := hg5.open
  unfold In
  refine Oe rfl rfl (Oe rfl rfl ?_); refine Bo rfl rfl rfl rfl .free ?_; refine Oa rfl (Aa ?_); refine Ai (.c rfl (.tmp rfl .nil)) ?_
  have hR : eval (m + 1) (Ex.lt z a d) k = eval (eval m a k).left d (.cons z u k) := by rw [I9]; simp only [hv0]
  rw [hR]
  exact ⟨J3, _, hle, Ms (L' := (b, _) :: L), _, rfl, hg5, rfl⟩
 ·intro hkk
  skip
  refine Da 0 rfl (Al rfl) ?_; refine Da 1 rfl (Ap rfl) ?_; refine Dt 2 [16] rfl (B6 rfl) ?_; refine Da 3 rfl (Al rfl) ?_; refine Da 4 rfl (Al rfl) ?_
  first | refine Da 5 rfl (Bl rfl rfl _ rfl) ?_ | refine Da 5 rfl (Bm rfl rfl _ rfl) ?_
  refine Dt 6 [16] rfl (Qs rfl) ?_
  first | refine Da 7 rfl (Bl rfl rfl _ rfl) ?_ | refine Da 7 rfl (Bm rfl rfl _ rfl) ?_
  refine Dt 8 [16] rfl (Br rfl) ?_; refine Da 9 rfl (Al rfl) ?_; refine Da 10 rfl (Al rfl) ?_; refine Cw 11 15 Ac ?_ ?_
  ·skip
   first
    | (refine Dq (L' := (b, _) :: _) (fun w h => h) ?_)
    | (refine Dq (fun w h => h.f1) ?_)
    | skip
   refine F4 11 rfl rfl rfl .free rfl (ihn m Ab (hf.as 2 a.tree Ab rfl) hok.1.2 hk hkw (fun y hy => hd y (List.mem_append_left _ hy)) Ab b _) ?_; rintro _ J1 _ e1 ⟨gs, rfl, hg1, rfl⟩; obtain ⟨x1, x2, x3, x4, x5, x6, x7, x8, x9, x10, x11, x12, x13, x14, rfl⟩ := hg1.open
   unfold In
   refine Hx ?_; refine Da 12 rfl (Al rfl) ?_; refine Da 13 rfl (Bh rfl rfl) ?_; refine Da 14 rfl (Bh rfl rfl) ?_; refine Ea 15 rfl Ac rfl .free rfl (.inr As) ?_; intro b17; refine Dx 16 rfl rfl rfl rfl ?_; refine Db 17 rfl (Ay rfl) ?_; refine Au Ac ?_
   exact Bu (E' := [(0, _), (2, _), (3, _), (5, _), (8, _), (14, _), (15, _), (16, _), (17, _), (18, _)]) ⟨rfl, rfl, rfl, rfl, rfl, rfl, rfl, rfl, rfl, rfl, trivial⟩ (Bj G0 (hkk ⟨b17, J1, [.string (str x1), .int .i64 x2, .slice x3 x4 x5, .string (str []), .slice x6 x7 x8, .slice x9 x10 x11, .slice x12 x13 x14]⟩ ⟨e1, hg1⟩))
  ·skip
   refine Ci 15 rfl rfl .free rfl (.inr As) ?_; intro b17
   first
    | (refine Dq (L' := (b, _) :: _) (fun w h => h) ?_)
    | (refine Dq (fun w h => h.f1) ?_)
    | skip
   refine Dc 11 rfl rfl (ihn m Ab (hf.as 2 a.tree Ab rfl) hok.1.2 hk hkw (fun y hy => hd y (List.mem_append_left _ hy)) Ab b _) ?_; rintro _ J1 _ e1 ⟨gs, rfl, hg1, rfl⟩; obtain ⟨x1, x2, x3, x4, x5, x6, x7, x8, x9, x10, x11, x12, x13, x14, rfl⟩ := hg1.open
   unfold In
   refine Hx ?_; refine Da 12 rfl (Al rfl) ?_; refine Da 13 rfl (Bh rfl rfl) ?_; refine Da 14 rfl (Bh rfl rfl) ?_; refine Dx 16 rfl rfl rfl rfl ?_; refine Db 17 rfl (Ay rfl) ?_; refine Au Ac ?_
   exact Bu (E' := [(0, _), (2, _), (3, _), (5, _), (8, _), (14, _), (15, _), (16, _), (17, _), (18, _)]) ⟨rfl, rfl, rfl, rfl, rfl, rfl, rfl, rfl, rfl, rfl, trivial⟩ (Bj G0 (hkk ⟨b17, J1, [.string (str x1), .int .i64 x2, .slice x3 x4 x5, .string (str []), .slice x6 x7 x8, .slice x9 x10 x11, .slice x12 x13 x14]⟩ ⟨e1, hg1⟩))
set_option maxHeartbeats 2000000 in
theorem Acq {N : Nat} (ihn : EvG N) {o : U2} {a : Ex} {I : Heap} {cs : List Value} {k : KE} {on ov : Option Addr} {cn cv : Nat} (m : Nat) (hn : m < N) (h : Rep I (Ex.un o a).tree cs) (hok : (Ex.un o a).ok = true) (hk : GEat I k on cn ov cv) (hkw : k.wf) (hd : ∀ y ∈ (Ex.un o a).occ [], y ∈ k.dom) (htl : k.tall + 2 * (m + 1) ≤ 100000) (b : Nat) (L : Bs) :
  Fun Tryz.prog 54 [.pointer (some ⟨b, 0, none⟩), .agg cs.toArray, .slice on k.names.length cn, .slice ov k.names.length cv] I (In b (m + 1) false :: L) (Sb b (eval (m + 1) (Ex.un o a) k) L) := by
 obtain ⟨oa, cc, oaf, cf, rfl, hf⟩ := h.at'
 have hlen : (Ex.un o a).tree.parts.length = 2 := rfl
 obtain ⟨xa, rfl⟩ : ∃ xa, oa = some xa := ⟨_, Dd hf.nil (show 0 < 2 by decide)⟩
 have hat : (Ex.un o a).tree.atom = [] := rfl
 have hev : eag o.txt = [1] := by cases o <;> rfl
 have hok0 := hok
 simp only [Ex.ok, Bool.and_eq_true] at hok
 unfold In
 refine Ao Af ?_; refine Se rfl ?_; refine Cj rfl rfl .free rfl ?_; intro b5; refine Az .free rfl ?_; intro b8; refine Oa rfl (Aa (Ag (Se rfl (Om rfl ?_)))); refine A1 rfl .free rfl ?_
 first | refine Oh rfl ?_ | refine Oj rfl ?_
 refine Gs rfl .free rfl ?_; refine Oc rfl rfl rfl (Aa ?_)
 first | refine Sf rfl Ab ?_ | refine At Aj ?_
 refine Ak (Se rfl (Om rfl (Om rfl ?_))); refine A1 rfl .free rfl ?_
 first | refine Oh rfl ?_ | refine Oj rfl ?_
 refine Gs rfl .free rfl ?_; refine Or rfl rfl rfl ?_; refine Do (t := 30) (v' := .int .i64 (m : Nat)) rfl Eu ?_; refine A1 rfl .free rfl ?_
 first | refine Oh rfl ?_ | refine Oj rfl ?_
 refine Bo rfl rfl rfl rfl .free ?_; refine Aa (Ag (Se rfl (Oh rfl ?_))); refine A8 rfl .free rfl ?_; refine Od rfl rfl rfl (Aa ?_)
 first | refine F7 rfl (by simp [hat]) ?_ | refine F6 rfl (by simp [hat]) ?_ | refine At Aj ?_
 refine Ak (Se rfl (Oh rfl ?_)); refine A8 rfl .free rfl ?_
 first | refine Bb rfl rfl 0 rfl .free rfl ?_ | refine Bc rfl rfl 0 rfl .free rfl ?_
 refine Bn rfl .free rfl ?_; refine Gd rfl .free rfl ?_; refine Do (t := 71) (v' := .string (str o.txt)) rfl rfl ?_; refine Oa rfl (Aa (Ag (Se rfl (Om rfl (Od rfl rfl rfl (Aa ?_))))))
 first | refine F7 rfl (o.txt_ne.2.2.1) ?_ | refine F6 rfl (o.txt_ne.2.2.1) ?_ | refine At Aj ?_
 refine Ak (Se rfl (Om rfl ?_)); refine Ca rfl (M6 o.txt _ _) ?_; rintro _ J0 _ e0 ⟨oq, ck, rfl, hn0, rfl⟩
 have hle := e0
 have hf := hf.mono e0
 have hk := hk.mono e0
 rw [hev] at hn0; rw [hev]; refine Oa rfl (Aa (Se rfl ?_)); refine Eo .free rfl ?_; intro b80; refine Oa rfl (Aa (Ag (Ag ?_))); refine Bj (fun w h => h.f3) ?_; refine Am rfl (Oa rfl (Aa (Aq ?_))); refine Em ?_; refine Ag (Se rfl (Om rfl (Om rfl (On rfl (Oc rfl rfl rfl (Aa ?_)))))); refine Cs rfl Bw ?_; refine Ak (Ag (Aq (Ag ?_))); refine Nk 18 rfl rfl ?_
 refine Ra (X := Nat × Heap × List Value) (fun x => [(0, .pointer (some ⟨b, 0, none⟩)), (2, .slice on k.names.length cn), (3, .slice ov k.names.length cv), (5, .pointer (some ⟨b5, 0, none⟩)), (8, .pointer (some ⟨b8, 0, none⟩)), (14, .slice oq [1].length ck), (15, .slice (some ⟨b80, 0, none⟩) 0 0), (16, .int .i64 0), (17, .pointer (some ⟨x.1, 0, none⟩)), (18, .bool (eval m a k).v.isSome)]) (fun x => x.2.1) (fun x => (x.1, .cells x.2.2.toArray 76 (0, 0)) :: (b, .cells [.int .i64 ((eval m a k).left : Nat), .bool (eval m a k).stuck].toArray 73 (0, 0)) :: (b80, .cells [].toArray 76 (0, 0)) :: (b8, .cells [.string (str []), .int .i64 0, .slice none 0 0, .string (str []), .slice none 0 0, .slice none 0 0, .slice none 0 0].toArray 76 (0, 0)) :: (b5, .cells [.string (str (Ex.un o a).tree.atom), .slice (some xa) (Ex.un o a).tree.parts.length cc].toArray 68 (0, 0)) :: L) (fun x => HLe J0 x.2.1 ∧ GO x.2.1 (eval m a k).v x.2.2) ?_ ?_
 ·rintro ⟨b17, J1, gs⟩ ⟨e1, hg1⟩
  simp only at e1 hg1 ⊢
  obtain ⟨x1, x2, x3, x4, x5, x6, x7, x8, x9, x10, x11, x12, x13, x14, rfl⟩ := hg1.open
  have hle := hle.trans e1
  have hf := hf.mono e1
  have hk := hk.mono e1
  have hn0 := hn0.mono e1
  refine Ag (Se rfl (Om rfl ?_)); refine C0 rfl .free rfl ?_; refine Aa ?_; refine Aw rfl ?_ ?_
  ·intro c7
   try simp only [nb] at c7
   have hv0 : (eval m a k).v = none := by
    cases h : (eval m a k).v with
    | none => rfl
    | some w => rw [h] at c7; cases c7
   refine Se rfl ?_; refine Gs rfl .free rfl ?_; refine Bo rfl rfl rfl rfl .free ?_; refine Oa rfl (Aa ?_); refine Ai (.c rfl (.tmp rfl .nil)) ?_
   have hR : eval (m + 1) (Ex.un o a) k = (eval m a k) := by rw [Ja]; simp only [hv0]
   rw [hR]
   exact ⟨J1, _, hle, Ms (L' := (b, _) :: L), _, by rw [hv0]; rfl, hg1, rfl⟩
  intro c7
  try simp only [nb] at c7
  obtain ⟨u, hv0⟩ : ∃ w, (eval m a k).v = some w := Option.isSome_iff_exists.1 (by simpa using c7); rw [hv0] at hg1
  have hau : GVat J1 u [.string (str x1), .int .i64 x2, .slice x3 x4 x5, .string (str []), .slice x6 x7 x8, .slice x9 x10 x11, .slice x12 x13 x14] := hg1
  obtain ⟨wu, hst0⟩ := Vz hkw hok (fun y hy => hd y hy) hv0
  have hl1 := Co m a k
  have htu := Ld m a k hv0
  rw [hst0]; refine Ak (Am rfl (Om rfl ?_)); refine Gs rfl .free rfl ?_; refine Ol rfl rfl ?_; intro b107; refine Eb (B := some (b80, [])) (xs := []) (ys := [.string (str x1), .int .i64 x2, .slice x3 x4 x5, .string (str []), .slice x6 x7 x8, .slice x9 x10 x11, .slice x12 x13 x14]) (m := 0) (c := 0) A5 Ae rfl rfl ⟨rfl, Nat.le_refl _, rfl⟩ (fun _ h => h.f3) Ae (fun a ha => by cases ha; exact Bt (.head _) Ae) Af Ae Ad Ad Ab Ad .free rfl ?_; intro bb sp c2 hB
  simp only [List.nil_append]
  refine Oa rfl (Aa (Ar ?_)); refine Bj (fun w h => (Mem.sub (L' := (bb, _) :: (b, _) :: (b8, _) :: (b5, _) :: L) B7 h).f1) ?_; refine Am rfl (Om rfl ?_); refine Or rfl rfl rfl ?_; refine Do (t := 86) (v' := .int .i64 ((1 : Nat))) rfl Ae ?_; refine Oa rfl (Aa ?_); refine Cl ?_; refine Ag (Se rfl (Om rfl (Om rfl (On rfl (Oc rfl rfl rfl (Aa ?_)))))); refine Du rfl Bw ?_; refine Cf rfl ?_; refine Ag ?_; refine Bj (fun w h => h.f1) (Bv ?_); intro hz
  have hq := Bp (I := J1) (b := bb) (xs := [.string (str x1), .int .i64 x2, .slice x3 x4 x5, .string (str []), .slice x6 x7 x8, .slice x9 x10 x11, .slice x12 x13 x14]) (ys := sp) (T := 76) (fr := (0, 0))
  have hle := hle.trans hz
  have hf := hf.mono hz
  have hk := hk.mono hz
  have hau := hau.mono hz
  refine Am rfl (Om rfl ?_); refine A7 rfl .free rfl ?_
  iterate 3 refine Om rfl ?_
  refine Ca rfl (Afp hf.rep hau hq b (eval m a k).left Ab _) ?_; rintro _ J3 _ e3 ⟨gs5, rfl, hg5, rfl⟩
  have hle := hle.trans e3
  obtain ⟨_, _, _, _, _, _, _, _, _, _, _, _, _, _, rfl⟩ := hg5.open
  unfold In
  refine Oe rfl rfl (Oe rfl rfl ?_); refine Bo rfl rfl rfl rfl .free ?_; refine Oa rfl (Aa ?_); refine Ai (.c rfl (.tmp rfl .nil)) ?_
  have hR : eval (m + 1) (Ex.un o a) k = Res.of (o.act u) (eval m a k).left := by rw [Ja]; simp only [hv0]
  rw [hR]
  exact ⟨J3, _, hle, Ms (L' := (b, _) :: L), _, rfl, hg5, rfl⟩
 ·intro hkk
  skip
  refine Da 0 rfl (Al rfl) ?_; refine Da 1 rfl (Ap rfl) ?_; refine Dt 2 [16] rfl (B6 rfl) ?_; refine Da 3 rfl (Al rfl) ?_; refine Da 4 rfl (Al rfl) ?_
  first | refine Da 5 rfl (Bl rfl rfl _ rfl) ?_ | refine Da 5 rfl (Bm rfl rfl _ rfl) ?_
  refine Dt 6 [16] rfl (Qs rfl) ?_
  first | refine Da 7 rfl (Bl rfl rfl _ rfl) ?_ | refine Da 7 rfl (Bm rfl rfl _ rfl) ?_
  refine Dt 8 [16] rfl (Br rfl) ?_; refine Da 9 rfl (Al rfl) ?_; refine Da 10 rfl (Al rfl) ?_; refine Cw 11 15 Ac ?_ ?_
  ·skip
   first
    | (refine Dq (L' := (b, _) :: _) (fun w h => h) ?_)
    | (refine Dq (fun w h => h.f1) ?_)
    | skip
   refine F4 11 rfl rfl rfl .free rfl (ihn m Ab (hf.as 1 a.tree Ab rfl) hok hk hkw (fun y hy => hd y hy) Ab b _) ?_; rintro _ J1 _ e1 ⟨gs, rfl, hg1, rfl⟩; obtain ⟨x1, x2, x3, x4, x5, x6, x7, x8, x9, x10, x11, x12, x13, x14, rfl⟩ := hg1.open
   unfold In
   refine Hx ?_; refine Da 12 rfl (Al rfl) ?_; refine Da 13 rfl (Bh rfl rfl) ?_; refine Da 14 rfl (Bh rfl rfl) ?_; refine Ea 15 rfl Ac rfl .free rfl (.inr As) ?_; intro b17; refine Dx 16 rfl rfl rfl rfl ?_; refine Db 17 rfl (Ay rfl) ?_; refine Au Ac ?_
   exact Bu (E' := [(0, _), (2, _), (3, _), (5, _), (8, _), (14, _), (15, _), (16, _), (17, _), (18, _)]) ⟨rfl, rfl, rfl, rfl, rfl, rfl, rfl, rfl, rfl, rfl, trivial⟩ (Bj G0 (hkk ⟨b17, J1, [.string (str x1), .int .i64 x2, .slice x3 x4 x5, .string (str []), .slice x6 x7 x8, .slice x9 x10 x11, .slice x12 x13 x14]⟩ ⟨e1, hg1⟩))
  ·skip
   refine Ci 15 rfl rfl .free rfl (.inr As) ?_; intro b17
   first
    | (refine Dq (L' := (b, _) :: _) (fun w h => h) ?_)
    | (refine Dq (fun w h => h.f1) ?_)
    | skip
   refine Dc 11 rfl rfl (ihn m Ab (hf.as 1 a.tree Ab rfl) hok hk hkw (fun y hy => hd y hy) Ab b _) ?_; rintro _ J1 _ e1 ⟨gs, rfl, hg1, rfl⟩; obtain ⟨x1, x2, x3, x4, x5, x6, x7, x8, x9, x10, x11, x12, x13, x14, rfl⟩ := hg1.open
   unfold In
   refine Hx ?_; refine Da 12 rfl (Al rfl) ?_; refine Da 13 rfl (Bh rfl rfl) ?_; refine Da 14 rfl (Bh rfl rfl) ?_; refine Dx 16 rfl rfl rfl rfl ?_; refine Db 17 rfl (Ay rfl) ?_; refine Au Ac ?_
   exact Bu (E' := [(0, _), (2, _), (3, _), (5, _), (8, _), (14, _), (15, _), (16, _), (17, _), (18, _)]) ⟨rfl, rfl, rfl, rfl, rfl, rfl, rfl, rfl, rfl, rfl, trivial⟩ (Bj G0 (hkk ⟨b17, J1, [.string (str x1), .int .i64 x2, .slice x3 x4 x5, .string (str []), .slice x6 x7 x8, .slice x9 x10 x11, .slice x12 x13 x14]⟩ ⟨e1, hg1⟩))
theorem Aam : ∀ N : Nat, EvG N := by
 intro N
 induction N with
 | zero => intro I e cs k on ov cn cv n hn; omega
 | succ N ihn =>
  intro I e cs k on ov cn cv n hn h hok hk hkw hd htl b L
  cases n with
  | zero => exact Ya h b L
  | succ m =>
   cases e with
   | num s => exact Aap (N := N) m Ab h hok hk hkw hd htl b L
   | name s => exact X9 (N := N) m Ab h hok hk hkw hd htl b L
   | fn f x s t bd => exact Aco (N := N) m Ab h hok hk hkw hd htl b L
   | bin o a d => exact Aan ihn m Ab h hok hk hkw hd htl b L
   | ite a d g => exact Aao ihn m Ab h hok hk hkw hd htl b L
   | lt z a d => exact Acp ihn m Ab h hok hk hkw hd htl b L
   | un o a => exact Acq ihn m Ab h hok hk hkw hd htl b L
theorem tri (s : Av) : (Fo s = none ∧ Cc s = none) ∨ (∃ e, Fo s = some e ∧ Cc s = none) ∨ (∃ e, Fo s = some e ∧ Cc s = some e) := by
 cases hx : Fo s with
 | none => exact .inl ⟨rfl, by unfold Cc; rw [hx]⟩
 | some e =>
  cases hc : Cc s with
  | none => exact .inr (.inl ⟨e, rfl, rfl⟩)
  | some e2 =>
   obtain rfl := Option.some.inj ((Hr hc).1.symm.trans hx)
   exact .inr (.inr ⟨e2, rfl, rfl⟩)
theorem Aep (I : Heap) (a b : Addr) : GEat I .nil (some a) 0 (some b) 0 := .mk (H8 _ _) .nil (fun x _ => .inl rfl) (fun h => by cases h) (Nat.le_refl 0)
theorem Wc (s : Av) (hs : s.length ≤ Lk) (n : Int) (I : Heap) (L : Bs) : Fun Tryz.prog 30 [.string (str s), .int .i64 n] I L (fun v I' L' => v = .bool (Ii s n) ∧ L = L') := by
 refine Ao Af ?_; refine Se rfl (Oa rfl (Aa (Se rfl (Om rfl ?_)))); refine Ca rfl (N4 s hs _ _) ?_; rintro _ J _ hleJ ⟨t, cs, ok, rfl, hrep, rfl, hpf⟩; obtain ⟨oc, cc, _, rfl, -⟩ := hrep.open; refine Om rfl (Oe rfl rfl (Oe rfl rfl ?_)); refine Az .free rfl ?_; intro b5; refine Bo rfl rfl rfl rfl .free ?_; refine Oa rfl (Aa (Ag (Ag ?_)))
 rcases tri s with ⟨hx, hc⟩ | ⟨e, hx, hc⟩ | ⟨e, hx, hc⟩
 ·skip
  rw [hx] at hpf; obtain rfl := hpf; refine Am rfl (Om rfl ?_); refine C0 rfl .free rfl ?_; refine Om rfl ?_; refine Do (t := 15) rfl (v' := .bool true) Gg ?_
  iterate 3 refine Ct rfl rfl rfl ?_
  refine Ot rfl rfl (Om rfl ?_)
  iterate 3 refine Ct rfl rfl rfl ?_
  refine Ot rfl rfl (Aa ?_); refine By rfl ?_; refine Se rfl (Oa rfl (Aa (Ai (.tmp rfl .nil) ?_)))
  exact ⟨J, L, hleJ, Ba, by rw [Ij (.inl hc)]; rfl, rfl⟩
 ·skip
  rw [hx] at hpf; obtain ⟨rfl, rfl⟩ := hpf; refine Am rfl (Om rfl ?_); refine C0 rfl .free rfl ?_; refine Om rfl ?_; refine Do (t := 15) rfl (v' := .bool false) Gg ?_; refine Ow rfl ?_; refine Cq rfl (.met rfl rfl) rfl (O2 s hs _ _) ?_; rintro _ _ _ _ ⟨rfl, rfl, rfl⟩; rw [hc]; refine C0 rfl (.met rfl rfl) rfl ?_; refine Of rfl rfl (Om rfl ?_); refine Do (t := 20) rfl (v' := .bool true) Gg ?_
  iterate 3 refine Ct rfl rfl rfl ?_
  refine Ot rfl rfl (Aa ?_); refine By rfl ?_; refine Se rfl (Oa rfl (Aa (Ai (.tmp rfl .nil) ?_)))
  exact ⟨J, L, hleJ, Ba, by rw [Ij (.inl hc)]; rfl, rfl⟩
 ·skip
  rw [hx] at hpf; obtain ⟨rfl, rfl⟩ := hpf; obtain ⟨-, hok, hz, hl, hcl⟩ := Fm hc
  have hoe : e.occ [] = [] := by simpa [Ex.closed] using hcl
  refine Am rfl (Om rfl ?_); refine C0 rfl .free rfl ?_; refine Om rfl ?_; refine Do (t := 15) rfl (v' := .bool false) Gg ?_; refine Ow rfl ?_; refine Cq rfl (.met rfl rfl) rfl (O2 s hs _ _) ?_; rintro _ _ _ _ ⟨rfl, rfl, rfl⟩; rw [hc]; refine C0 rfl (.met rfl rfl) rfl ?_; refine Of rfl rfl (Om rfl ?_); refine Do (t := 20) rfl (v' := .bool false) Gg ?_; refine Ow rfl ?_; refine Cq rfl (.met rfl rfl) rfl (Rq 0 n 2000 _ _) ?_; rintro _ _ _ _ ⟨rfl, rfl, rfl⟩; refine C0 rfl (.met rfl rfl) rfl ?_; refine Of rfl rfl (Aa ?_); refine Aw rfl ?_ ?_
  ·intro c0
   try simp only [nb] at c0
   refine Se rfl (Oa rfl (Aa (Ai (.tmp rfl .nil) ?_)))
   exact ⟨J, L, hleJ, Ba, by rw [Ij (.inr Et)]; rfl, rfl⟩
  intro c0
  try simp only [nb] at c0
  obtain ⟨N, rfl⟩ : ∃ N : Nat, n = (N : Nat) := ⟨n.toNat, by omega⟩
  have hN : N ≤ 2000 := by omega
  have hme := Lp hc hN
  refine Ak (Se rfl (Om rfl ?_)); refine Bz rfl rfl rfl .free rfl ?_; refine Cj rfl rfl .free rfl ?_; intro b27; refine Oa rfl (Aa (Se rfl (Om rfl ?_))); refine A7 rfl .free rfl ?_; refine Eo .free rfl ?_; intro b30; refine Eo .free rfl ?_; intro b31; refine Ep (fun w h => h.f2) ?_; refine Ca rfl (Aam (N + 1) N (Nat.lt_succ_self N) hrep hok (Aep J ⟨b30, 0, none⟩ ⟨b31, 0, none⟩) trivial (fun y hy => by rw [hoe] at hy; cases hy) (by simp only [KE.tall]; omega) b27 _) ?_; rintro _ J2 _ e2 ⟨gs, rfl, hg, rfl⟩
  unfold In
  have hle2 := hleJ.trans e2
  refine Aa (Se rfl (Om rfl ?_)); refine A1 rfl .free rfl ?_
  first | refine Oh rfl ?_ | refine Oj rfl ?_
  refine Gs rfl .free rfl ?_; refine Oa rfl (Aa (Ai (.tmp rfl .nil) ?_))
  exact ⟨J2, L, hle2, Ms (L' := L), by rw [hme]; rfl, rfl⟩
theorem Afh {s : Av} {e : Ex} (h : Fo s = some e) : s.length ≤ 12000 := by
 obtain ⟨_, _, _, h4, h5⟩ := Ui h; rw [h5, Tree.text_len]; exact h4
theorem Af2 {s : Av} {e : Ex} (h : Cc s = some e) : tyC s = e.ty [] [] := by
 unfold tyC; rw [(Hr h).1]; rfl
theorem Y0 {s : Av} {e : Ex} (h : Cc s = some e) (hv : e.value = false) : H0 s = none := by
 unfold H0; rw [h]; simp only; rw [if_neg (by rw [hv]; simp)]
theorem Xu {s : Av} {n : Int} (h : Ii s n = true) : ∃ (e : Ex) (N : Nat), Cc s = some e ∧ n = (N : Nat) ∧ N ≤ 2000 ∧ (eval N e .nil).stuck = true := by
 unfold Ii at h
 split at h
 ·rename_i hn
  cases hc : Cc s with
  | none => rw [hc] at h; cases h
  | some e => rw [hc] at h; exact ⟨e, n.toNat, rfl, by omega, by omega, h⟩
 ·cases h
theorem Ue {s : Av} {n : Int} (h : Ii s n = true) : Qd s n = none ∧ Qd s 2000 = none ∧ tyC s = none ∧ Ii s 2000 = true ∧ ∃ (x : Ex) (k : Nat), Rt s 500 = some (x.tree.text, k) ∧ x.fine = true ∧ H0 x.tree.text = none := by
 obtain ⟨e, N, hc, rfl, hN, hst⟩ := Xu h
 have hst2 := Yu hst hN
 obtain ⟨hx, hok, hz, hl, hcl⟩ := Fm hc
 have hfe := (Ui hx).1
 have hoe : e.occ [] = [] := by simpa [Ex.closed] using hcl
 refine ⟨?_, ?_, ?_, ?_, (e.goes 500).1, (e.goes 500).2, ?_, (S5 500 e hfe hoe).1, ?_⟩
 ·rw [Nz hc hN]; exact Uh (Zo hc hst)
 ·rw [show (2000 : Int) = ((2000 : Nat) : Int) from rfl, Nz hc (Nat.le_refl _)]; exact Uh (Zo hc hst2)
 ·rw [Af2 hc]; exact Sp hc hst
 ·rw [show (2000 : Int) = ((2000 : Nat) : Int) from rfl, Lp hc (Nat.le_refl _)]; exact hst2
 ·unfold Rt
  rw [if_pos Ab, hc]; rfl
 ·have hk := S5 500 e hfe hoe
  exact Y0 (Qa hk.1 hk.2) (Yt hc hst (Aeg 500 e))
theorem Qu {I : Heap} (ht : Tab I) {oa : Option Addr} {code : List UInt8} {c : Nat} (h : Bytes I oa code c) (L : Bs) : Fun Tryz.prog 7 [.slice oa code.length c] I L (YES L) := by
 have hlen := h.len
 refine Ao Af ?_; refine Se rfl (Oa rfl (Aa (Ag (Se rfl (Om rfl (On rfl (Oc rfl rfl rfl (Aa ?_)))))))); refine Aw rfl ?_ ?_
 ·intro c0
  try simp only [nb] at c0
  refine Se rfl (Oa rfl (Aa (Ai (.tmp rfl .nil) ?_)))
  exact ⟨I, L, .refl _, fun _ h => h, rfl, rfl⟩
 intro c0
 try simp only [nb] at c0
 refine Ak (Se rfl (Om rfl ?_)); refine Ca rfl (Qt h _) ?_; rintro _ J1 _ e1 ⟨s, n, rfl, hsl, hn1, hn2, rfl⟩
 have hs : s.length ≤ A9 := by unfold A9; omega
 refine Om rfl (Oe rfl rfl (Oe rfl rfl (Oa rfl (Oa rfl (Aa (Se rfl (Om rfl (Om rfl ?_)))))))); refine Ca rfl (Qe s hs n (ht.mono e1) _) ?_; rintro _ J2 _ e2 ⟨rfl, rfl⟩; refine Oa rfl (Aa (Se rfl (Om rfl (Om rfl ?_)))); refine Ca rfl (Wc s (Pv hs) n _ _) ?_; rintro _ J3 _ e3 ⟨rfl, rfl⟩
 have hle := (e1.trans e2).trans e3
 refine Oa rfl (Aa (Ag (Se rfl (Om rfl (Om rfl ?_))))); refine Ac6 rfl rfl rfl .free rfl ?_; refine Om rfl ?_
 apply Gy 33 36 rfl
 ·intro g6_4 hk
  try simp only [nb] at g6_4
  refine Ow rfl ?_; refine C0 rfl (.met rfl rfl) rfl ?_; refine Of rfl rfl ?_
  exact Ax 2 rfl rfl hk
 ·intro _ hk; refine A4 2 rfl ?_; refine Ot rfl rfl ?_
  exact Ax 2 rfl rfl hk
 refine Aa ?_; refine Aw rfl ?_ ?_
 ·intro c1
  try simp only [nb] at c1
  refine Se rfl (Om rfl (Om rfl ?_)); refine Ac6 rfl rfl rfl .free rfl ?_; refine Oa rfl (Aa (Ai (.tmp rfl .nil) ?_)); refine ⟨J3, L, hle, Ba, ?_, rfl⟩
  simp [C9]
 intro c1
 try simp only [nb] at c1
 have hst : Ii s n = true := by simpa using c1
 obtain ⟨h1, h2, h3, h4, x, k, h5, h6, h7⟩ := Ue hst
 have hxN : x.tree.text.length ≤ A9 := by have := Afh (Sx h6); unfold A9; omega
 clear c1
 refine Ak (Se rfl (Om rfl (Om rfl ?_))); refine Ca rfl (Ab7 s hs n (ht.mono hle) _) ?_; rintro _ J4 _ e4 ⟨rfl, rfl⟩; rw [h1]
 have hle := hle.trans e4
 refine Om rfl ?_
 iterate 3 refine Oe rfl rfl ?_
 iterate 3 refine Oa rfl ?_
 refine Aa (Se rfl (Om rfl ?_)); refine Ca rfl (Ab7 s hs 2000 (ht.mono hle) _) ?_; rintro _ J5 _ e5 ⟨rfl, rfl⟩; rw [h2]
 have hle := hle.trans e5
 refine Om rfl ?_
 iterate 3 refine Oe rfl rfl ?_
 iterate 3 refine Oa rfl ?_
 refine Aa (Se rfl (Om rfl ?_)); refine Ca rfl (Xz s hs 500 (ht.mono hle) _) ?_; rintro _ J6 _ e6 ⟨rfl, rfl⟩; rw [h5]
 simp only [Option.map_some, Option.getD_some, Option.isSome_some]
 have hle := hle.trans e6
 refine Om rfl ?_
 iterate 3 refine Oe rfl rfl ?_
 iterate 3 refine Oa rfl ?_
 refine Aa (Se rfl (Om rfl ?_)); refine C0 rfl .free rfl ?_; refine Om rfl ?_
 apply Cz 61 64 rfl
 ·intro g11_3 hk
  try simp only [nb] at g11_3
  refine Ow rfl ?_; refine C0 rfl (.met rfl rfl) rfl ?_; refine Ot rfl rfl ?_
  exact Ax 2 rfl rfl hk
 ·intro _ hk; refine A4 2 rfl ?_; refine Of rfl rfl ?_
  exact Ax 2 rfl rfl hk
 refine Om rfl ?_
 apply Cz 65 67 rfl
 ·intro g11_7 hk
  try simp only [nb] at g11_7
  refine Ow rfl (Ot rfl rfl ?_)
  exact Ax 1 rfl rfl hk
 ·intro _ hk; refine A4 1 rfl ?_; refine Of rfl rfl ?_
  exact Ax 1 rfl rfl hk
 refine Om rfl ?_
 apply Cz 68 72 rfl
 ·intro g11_10 hk
  try simp only [nb] at g11_10
  refine Ow rfl ?_; refine Cq rfl (.met rfl rfl) rfl (V2 s hs _ _) ?_; rintro _ J7 _ e7 ⟨rfl, rfl⟩; refine Ep (fun w h => Mem.le e7 h) ?_; refine C0 rfl (.met rfl rfl) rfl ?_; refine Ot rfl rfl ?_
  exact Ax 3 rfl rfl hk
 ·intro _ hk; refine A4 3 rfl ?_; refine Of rfl rfl ?_
  exact Ax 3 rfl rfl hk
 refine Om rfl ?_
 apply Cz 73 76 rfl
 ·intro g11_15 hk
  try simp only [nb] at g11_15
  refine Ow rfl ?_; refine Cq rfl (.met rfl rfl) rfl (Qe s hs 2000 (ht.mono hle) _) ?_; rintro _ J8 _ e8 ⟨rfl, rfl⟩; refine Ep (fun w h => Mem.le e8 h) ?_; refine Ot rfl rfl ?_
  exact Ax 2 rfl rfl hk
 ·intro _ hk; refine A4 2 rfl ?_; refine Of rfl rfl ?_
  exact Ax 2 rfl rfl hk
 refine Om rfl ?_
 apply Cz 77 81 rfl
 ·intro g11_19 hk
  try simp only [nb] at g11_19
  refine Ow rfl ?_; refine Cq rfl (.met rfl rfl) rfl (Z6 x.tree.text hxN _ _) ?_; rintro _ J9 _ e9 ⟨rfl, rfl⟩; refine Ep (fun w h => Mem.le e9 h) ?_; refine C0 rfl (.met rfl rfl) rfl ?_; refine Ot rfl rfl ?_
  exact Ax 3 rfl rfl hk
 ·intro _ hk; refine A4 3 rfl ?_; refine Of rfl rfl ?_
  exact Ax 3 rfl rfl hk
 refine Oa rfl (Aa (Ai (.tmp rfl .nil) ?_)); refine ⟨J6, L, hle, Ba, ?_, rfl⟩
 simp [C9, h3, h4, h7]
def Xe (P : Program) (s : String) : Bool :=
 match P.globalNamed s with
 | some g => match (P.globals[g]?).map (·.type) with
  | some t => match P.underlying t with
   | some (.array n e) => (match P.underlying e with | some (.int .u64) => true | _ => false) && (P.cellsOf e == 1) && (P.cellsOf t == n)
   | _ => false
  | none => false
 | none => false
theorem Af1 {laid : List (String × DataW Unit)} {W : World} (h : laidMetH Tryz.prog laid W)
  (hk : (laid.filter fun x => x.1 == "internal/strconv.uint64pow10") = [("internal/strconv.uint64pow10", Lib.tabData .u64 Lib.pow10Tab)]) (ht : Xe Tryz.prog "internal/strconv.uint64pow10" = true) : Tab (Q0 W) := by
 have h1 := h.filter (fun x => x.1 == "internal/strconv.uint64pow10")
 rw [hk] at h1
 have h1 : laidMet Tryz.prog [("internal/strconv.uint64pow10", Lib.tabData .u64 Lib.pow10Tab)] W := (laidMetH_iff.1 h1).1
 have h2 : Lib.TabIs Tryz.prog W "internal/strconv.uint64pow10" .u64 Lib.pow10Tab := by
  unfold Xe at ht
  split at ht
  ·rename_i g hg
   split at ht
   ·rename_i t hty
    split at ht
    ·rename_i n e hu
     simp only [Bool.and_eq_true, beq_iff_eq] at ht
     obtain ⟨⟨h3, h4⟩, h5⟩ := ht
     split at h3
     ·rename_i he
      exact Lib.tabIs_of_head hg hty hu he h4 h5 h1
     ·cases h3
    ·cases ht
   ·cases ht
  ·cases ht
 intro L w hm
 unfold Lib.TabIs World.var? at h2 ⊢
 cases hg : Tryz.prog.globalNamed "internal/strconv.uint64pow10" with
 | none => rw [hg] at h2; cases h2
 | some g =>
  rw [hg] at h2
  simp only [Option.bind_some] at h2 ⊢
  cases ho : W.heap[g]? with
  | none => rw [ho] at h2; cases h2
  | some o => rw [ho] at h2; rw [hm.1.1 g o ho]; exact h2
end Go.Proofs.YtmfagaajiakgoaaGreatDoor
