/- Evaluation with kept names, by the program. No conditions. -/
import Derived.Test.YtmfagaajiakgoaaGreatDoorG12

namespace Go.Proofs.YtmfagaajiakgoaaGreatDoor
set_option maxRecDepth 100000
set_option linter.unusedVariables false
set_option linter.unusedSimpArgs false

theorem Ex.shapes8 (e : Ex) : (∃ s, e = .num s) ∨ (∃ s, e = .name s) ∨ (∃ f x s t b, e = .fn f x s t b) ∨ (∃ a b, e = .bin .call a b) ∨ (∃ o a b, o ≠ B5.call ∧ e = .bin o a b) ∨ (∃ a b d, e = .ite a b d) ∨ (∃ z a b, e = .lt z a b) ∨ (∃ o a, e = .un o a) := by
 cases e with
 | num s => exact .inl ⟨s, rfl⟩
 | name s => exact .inr (.inl ⟨s, rfl⟩)
 | fn f x s t b => exact .inr (.inr (.inl ⟨f, x, s, t, b, rfl⟩))
 | bin o a b =>
  by_cases h : o = .call
  ·subst h; exact .inr (.inr (.inr (.inl ⟨a, b, rfl⟩)))
  ·exact .inr (.inr (.inr (.inr (.inl ⟨o, a, b, h, rfl⟩))))
 | ite a b d => exact .inr (.inr (.inr (.inr (.inr (.inl ⟨a, b, d, rfl⟩)))))
 | lt z a b => exact .inr (.inr (.inr (.inr (.inr (.inr (.inl ⟨z, a, b, rfl⟩))))))
 | un o a => exact .inr (.inr (.inr (.inr (.inr (.inr (.inr ⟨o, a, rfl⟩))))))
theorem U4 {s : As} (h : Bt s = true) : Bn s = false := by
 cases hn : Bn s with
 | false => rfl
 | true => rw [Hi hn] at h; cases h
theorem Kq {I : Heap} {o : Option KV} {p : Option Addr} (h : RP? I o p) (hp : p.isNone = true) : o = none ∧ p = none := by
 cases o with
 | none => exact ⟨rfl, h⟩
 | some w => obtain ⟨x, rfl, _⟩ := h; cases hp
theorem Kr {I : Heap} {o : Option KV} {p : Option Addr} (h : RP? I o p) (hp : p.isNone = false) : ∃ w x, o = some w ∧ p = some x ∧ KVat I w x := by
 cases o with
 | none => rw [show p = none from h] at hp; cases hp
 | some w => obtain ⟨x, rfl, hx⟩ := h; exact ⟨w, x, rfl, rfl, hx⟩
theorem KVat.fun {I : Heap} {v : KV} {a : Addr} (h : KVat I v a) : ∃ x1 pf pr, Still I a [.string (str v.nt), x1, .pointer pf, .pointer pr] ∧ (pf = none → ∀ f x s t b r, v ≠ .clo f x s t b r) ∧
  ∀ fa, pf = some fa → ∃ f x s t b r o c, v = .clo f x s t b r ∧ Still I fa [.string (str []), .slice (some o) 6 c] ∧ Rep I (Ex.fn f x s t b).tree [.string (str []), .slice (some o) 6 c] ∧ KEat I r pr := by
 cases h with
 | num h => exact ⟨_, _, _, h, fun _ f x s t b r e => (by cases e), fun fa e => (by cases e)⟩
 | pair h => exact ⟨_, _, _, h, fun _ f x s t b r e => (by cases e), fun fa e => (by cases e)⟩
 | clo h hf hr he => exact ⟨_, _, _, h, fun e => (by cases e), fun fa e => ⟨_, _, _, _, _, _, _, _, rfl, by cases e; exact hf, hr, he⟩⟩
def EVP (b : Nat) (r : Res) (L : Bh) : C3 := fun v I' L' => ∃ p, v = .pointer p ∧ RP? I' r.v p ∧ L' = S1 b r.left r.stuck :: L
def EvH (N : Nat) : Prop := ∀ {I : Heap} (_ : Tab I) {e : Ex} {cs : List Value} {k : KE} {pk : Option Addr} (n : Nat) (_ : n < N) (_ : n ≤ 1000000) (_ : Rep I e.tree cs) (_ : e.ok = true) (_ : KEat I k pk) (_ : k.wf) (_ : ∀ y ∈ e.occ [], y ∈ k.dom) (b : Nat) (L : Bh),
 Fun Tryz.prog 43 [.pointer (some ⟨b, 0, none⟩), .agg cs.toArray, .pointer pk] I (S1 b n false :: L) (EVP b (eval n e k) L)
structure EX where
 e : Ex
 k : KE
 pk : Option Addr
 n : Nat
 J : Heap
 o : Option Addr
 c : Nat
theorem Lf {n : Nat} {e : Ex} {k : KE} {u : KV} (hk : k.wf) (hok : e.ok = true) (hd : ∀ y ∈ e.occ [], y ∈ k.dom) (h : (eval n e k).v = some u) : u.wf ∧ (eval n e k).stuck = false := by
 have := Pc n e k hk hok hd
 unfold Res.says at this
 rw [h] at this
 exact ⟨this.1, this.2.2⟩
theorem Aaj : ∀ N : Nat, EvH N := by
 intro N
 induction N with
 | zero => intro I ht e cs k pk n hn; omega
 | succ N ihn =>
  intro I ht e cs k pk n hn hm h hok hk hkw hd b L; obtain ⟨oc, cc, _, rfl, -⟩ := h.open
  generalize hR : eval n e k = R
  unfold S1
  refine Al Af ?_; refine Se rfl ?_; refine Cc rfl rfl .free rfl ?_; intro b4; refine Oa rfl (Ab (Ar ?_))
  refine Dv (X := EX) (fun x => x.n) (fun x => [(0, .pointer (some ⟨b, 0, none⟩)), (2, .pointer x.pk), (4, .pointer (some ⟨b4, 0, none⟩))]) (fun x => x.J) (fun x => (b4, .cells [.string (str x.e.tree.atom), .slice x.o x.e.tree.parts.length x.c].toArray 49 (0, 0)) :: (b, .cells [.int .i64 (x.n : Nat), .bool false].toArray 55 (0, 0)) :: L) (fun x => HLe I x.J ∧ Rep x.J x.e.tree [.string (str x.e.tree.atom), .slice x.o x.e.tree.parts.length x.c] ∧ x.e.ok = true ∧ KEat x.J x.k x.pk ∧ x.k.wf ∧ (∀ y ∈ x.e.occ [], y ∈ x.k.dom) ∧ x.n < N + 1 ∧ x.n ≤ 1000000 ∧ eval x.n x.e x.k = R) ⟨e, k, pk, n, I, oc, cc⟩ ⟨.refl _, h, hok, hk, hkw, hd, hn, hm, hR⟩ ⟨rfl, rfl, rfl, trivial⟩ (fun _ h => h) ?_
  clear hd hkw hk hok h hn hm hR
  rintro ⟨e, k, pk, n, J, oc, cc⟩ ⟨hle, hr, hok, hk, hkw, hd, hn, hm, hR⟩ ih
  simp only at hle hr hok hk hkw hd hn hm hR ih ⊢
  have ht := ht.mono hle
  refine Ar (Ah (Se rfl (Om rfl ?_))); refine Az rfl .free rfl ?_
  first | refine Oh rfl ?_ | refine Oj rfl ?_
  refine H3 rfl .free rfl ?_; refine Oc rfl rfl rfl (Ab ?_); refine Av rfl ?_ ?_
  ·intro c0
   try simp only [nb] at c0
   refine Se rfl (Oa rfl (Ab (Ai (.tmp rfl .nil) ?_))); obtain rfl : n = 0 := by omega
   rw [Is] at hR; subst hR
   exact ⟨J, _, hle, fun _ h => h.drop, none, rfl, rfl, rfl⟩
  intro c0
  try simp only [nb] at c0
  obtain ⟨m, rfl⟩ : ∃ m, n = m + 1 := ⟨n - 1, by omega⟩; refine Aj (Se rfl (Om rfl ?_)); refine Az rfl .free rfl ?_
  first | refine Oh rfl ?_ | refine Oj rfl ?_
  refine H3 rfl .free rfl ?_; refine Or rfl rfl rfl ?_; refine Df (t := 21) (v' := .int .i64 (m : Nat)) rfl Ed ?_; refine Az rfl .free rfl ?_
  first | refine Oh rfl ?_ | refine Oj rfl ?_
  refine Bu rfl rfl rfl rfl .free ?_; refine Ab (Ah (Ah ?_))
  rcases e.shapes8 with ⟨s, rfl⟩ | ⟨s, rfl⟩ | ⟨f, z, s, t, bd, rfl⟩ | ⟨a, d, rfl⟩ | ⟨o, a, d, hoc, rfl⟩ | ⟨a, d, g, rfl⟩ | ⟨z, a, d, rfl⟩ | ⟨o, a, rfl⟩
  ·skip
   refine Ao rfl ?_; refine Bq rfl .free rfl ?_; refine Ca rfl (Cz hr _) ?_; rintro _ _ _ _ ⟨rfl, rfl, rfl⟩; rw [show (Ex.num s).tree.parts.isEmpty = true from rfl]; refine Ab ?_
   first | refine St rfl (rfl) ?_ | refine Bs Am ?_
   refine Ah (Se rfl (Oh rfl ?_)); refine Bd rfl .free rfl ?_; refine Ca rfl (Ii s (by have := Jt (show Bt s = true from hok); unfold Bb; omega) _ _) ?_; rintro _ _ _ _ ⟨rfl, rfl, rfl⟩; rw [U4 (show Bt s = true from hok)]; refine Ab ?_
   first | refine Sf rfl Af ?_ | refine Ay Am ?_
   refine Aj (Se rfl (Oh rfl ?_)); refine Bd rfl .free rfl ?_; refine Cd rfl rfl rfl .free rfl ?_; refine Cc rfl rfl .free rfl ?_; intro b36; refine Oa rfl (Ab ?_); refine Bv ?_; intro hz; refine Ai (.tmp rfl .nil) ?_; rw [Kc] at hR; subst hR
   exact ⟨_, _, hle.trans hz, fun _ h => h.drop, _, rfl, ⟨_, rfl, .num (B0 (xs := [_, _, _, _]) (ys := []))⟩, rfl⟩
  ·skip
   refine Ao rfl ?_; refine Bq rfl .free rfl ?_; refine Ca rfl (Cz hr _) ?_; rintro _ _ _ _ ⟨rfl, rfl, rfl⟩; rw [show (Ex.name s).tree.parts.isEmpty = true from rfl]; refine Ab ?_
   first | refine St rfl (rfl) ?_ | refine Bs Am ?_
   refine Ah (Se rfl (Oh rfl ?_)); refine Bd rfl .free rfl ?_; refine Ca rfl (Ii s (by have := F3 (show Bn s = true from hok); unfold Bb; omega) _ _) ?_; rintro _ _ _ _ ⟨rfl, rfl, rfl⟩; rw [show Bn s = true from hok]; refine Ab ?_
   first | refine St rfl (rfl) ?_ | refine Bs Am ?_
   refine Se rfl (Om rfl (Oh rfl ?_)); refine Bd rfl .free rfl ?_; refine Ca rfl (Wi hk s _) ?_; rintro _ _ _ _ ⟨p, rfl, hp, rfl, rfl⟩; refine Oa rfl (Ab (Ai (.tmp rfl .nil) ?_)); rw [Ir] at hR; subst hR
   exact ⟨J, _, hle, fun _ h => h.drop, p, rfl, hp, rfl⟩
  ·skip
   refine Ao rfl ?_; refine Bq rfl .free rfl ?_; refine Ca rfl (Cz hr _) ?_; rintro _ _ _ _ ⟨rfl, rfl, rfl⟩; rw [show (Ex.fn f z s t bd).tree.parts.isEmpty = false from rfl]; refine Ab ?_
   first | refine Sf rfl Af ?_ | refine Ay Am ?_
   refine Aj (Ah (Se rfl ?_)); refine Bq rfl .free rfl ?_; refine Ca rfl (Cj hr _) ?_; rintro _ _ _ _ ⟨rfl, rfl, rfl⟩; rw [show (Ex.fn f z s t bd).tree.head = [102, 117, 110] from rfl]; obtain ⟨oa2, c2, oaf, cf, he2, hf⟩ := hr.at'
   simp only [List.cons.injEq, Value.slice.injEq, and_true, true_and] at he2
   obtain ⟨rfl, rfl⟩ := he2; obtain ⟨xa, rfl⟩ : ∃ x, oc = some x := ⟨_, Ec hf.nil (show 0 < 6 by decide)⟩; refine Od rfl rfl rfl (Ab ?_)
   first | refine St rfl (rfl) ?_ | refine Bs Am ?_
   refine Se rfl (Om rfl ?_); refine Cd rfl rfl rfl .free rfl ?_; refine Cc rfl rfl .free rfl ?_; intro b42; refine Oa rfl (Ab ?_); refine Bv ?_; intro hz; refine Bv ?_; intro hz2; refine Ai (.tmp rfl .nil) ?_; rw [Lg] at hR; subst hR
   exact ⟨_, _, (hle.trans hz).trans hz2, fun _ h => h, _, rfl, ⟨_, rfl, .clo ((B0 (xs := [_, _, _, _]) (ys := [])).mono hz2) (B0 (xs := [_, _]) (ys := [])) (hr.mono (hz.trans hz2)) (hk.mono (hz.trans hz2))⟩, rfl⟩
  ·skip
   refine Ao rfl ?_; refine Bq rfl .free rfl ?_; refine Ca rfl (Cz hr _) ?_; rintro _ _ _ _ ⟨rfl, rfl, rfl⟩; rw [show (Ex.bin .call a d).tree.parts.isEmpty = false from rfl]; refine Ab ?_
   first | refine Sf rfl Af ?_ | refine Ay Am ?_
   refine Aj (Ah (Se rfl ?_)); refine Bq rfl .free rfl ?_; refine Ca rfl (Cj hr _) ?_; rintro _ _ _ _ ⟨rfl, rfl, rfl⟩; obtain ⟨oa2, c2, oaf, cf, he2, hf⟩ := hr.at'
   simp only [List.cons.injEq, Value.slice.injEq, and_true, true_and] at he2
   obtain ⟨rfl, rfl⟩ := he2; obtain ⟨xa, rfl⟩ : ∃ x, oc = some x := ⟨_, Ec hf.nil (show 0 < 3 by decide)⟩
   have hlen : (Ex.bin .call a d).tree.parts.length = 3 := rfl
   have hev : evT (Ex.bin .call a d).tree = [1, 2] := rfl
   simp only [Ex.ok, Bool.and_eq_true] at hok
   rw [show (Ex.bin .call a d).tree.head = [99, 97, 108, 108] from rfl]; refine Od rfl rfl rfl (Ab ?_)
   first | refine Sf rfl Ad ?_ | refine Ay Am ?_
   refine Aj (Se rfl (Oa rfl (Ab (Ah (Se rfl ?_))))); refine Bq rfl .free rfl ?_; refine Ca rfl (Gc hf.rep _) ?_; rintro _ J0 _ e0 ⟨oq, ck, rfl, hn0, rfl⟩
   have hf := hf.mono e0
   have hk := hk.mono e0
   have ht := ht.mono e0
   have hle := hle.trans e0
   rw [hev] at hn0; rw [hev]; refine On rfl (Om rfl (Ab (Ar ?_))); refine F0 ?_; refine Se rfl (Oc rfl rfl rfl (Ab (Ah ?_))); refine Dj rfl By ?_; refine Aj (Ah (Ar (Se rfl ?_)))
   first | refine Bk rfl rfl _ rfl .free rfl ?_ | refine Bl rfl rfl _ rfl .free rfl ?_
   refine Gh rfl .free rfl ?_; refine Oa rfl (Ab (Se rfl (Om rfl (Oh rfl ?_)))); refine Bd rfl .free rfl ?_; refine Om rfl ?_
   first | refine Bk rfl rfl _ rfl .free rfl ?_ | refine Bl rfl rfl _ rfl .free rfl ?_
   refine Gu rfl .free rfl ?_; refine Om rfl ?_; refine Fl (fun w h => h.f1) ?_; refine Ca rfl (ihn ht m Aa Aa (hf.as 1 a.tree Aa rfl) hok.1 hk hkw (fun y hy => hd y (List.mem_append_left _ hy)) b _) ?_; rintro _ J1 _ e1 ⟨p0, rfl, hp0, rfl⟩
   have hf := hf.mono e1
   have hk := hk.mono e1
   have ht := ht.mono e1
   have hn0 := hn0.mono e1
   have hle := hle.trans e1
   unfold S1
   refine Oa rfl (Ab (Ah (Se rfl (Om rfl ?_)))); refine Hj rfl rfl .free rfl ?_; refine Ab ?_; refine Av rfl ?_ ?_
   ·intro c5
    try simp only [nb] at c5
    obtain ⟨hv0, rfl⟩ := Kq hp0 c5
    have hRR : eval m a k = R := by
     rw [G4] at hR
     simpa only [hv0] using hR
    refine Se rfl (Oa rfl (Ab (Ai (.tmp rfl .nil) ?_))); subst hRR
    exact ⟨_, _, hle, Ms (L' := (b, _) :: L), none, rfl, by rw [hv0]; rfl, rfl⟩
   intro c5
   try simp only [nb] at c5
   obtain ⟨u, pu, hv0, rfl, hau⟩ := Kr hp0 (by simpa using c5); obtain ⟨wu, hst0⟩ := Lf hkw hok.1 (fun y hy => hd y (List.mem_append_left _ hy)) hv0; rw [hst0]; refine Aj (Ao rfl (Om rfl (Om rfl ?_))); refine Ol rfl rfl ?_; intro b62; refine D3 (B := none) (xs := []) (ys := [.pointer (some pu)]) (m := 0) (c := 0) A4 Ac rfl rfl ⟨rfl, rfl, rfl⟩ (fun _ h => h) Ac (fun a ha => by cases ha; exact Bg (.head _) Ac) Af Ac Ad Ad Aa Ad .free rfl ?_; intro bb sp c2 hB
   simp only [Cb, List.cons_append, List.nil_append, Nat.zero_add]
   refine Oa rfl (Ab (Aq (Ao rfl ?_))); refine Or rfl rfl rfl ?_; refine Om rfl (Ab ?_); refine Dd ?_; refine Se rfl (Oc rfl rfl rfl (Ab (Ah ?_))); refine Dj rfl By ?_; refine Aj (Ah (Ar (Se rfl ?_)))
   first | refine Bk rfl rfl _ rfl .free rfl ?_ | refine Bl rfl rfl _ rfl .free rfl ?_
   refine Gh rfl .free rfl ?_; refine Oa rfl (Ab (Se rfl (Om rfl (Oh rfl ?_)))); refine Bd rfl .free rfl ?_; refine Om rfl ?_
   first | refine Bk rfl rfl _ rfl .free rfl ?_ | refine Bl rfl rfl _ rfl .free rfl ?_
   refine Gu rfl .free rfl ?_; refine Om rfl ?_
   have hl0 := B7 m a k
   refine Fl (fun w h => h.f2) ?_; refine Ca rfl (ihn ht (eval m a k).left Aa Aa (hf.as 2 d.tree Aa rfl) hok.2 hk hkw (fun y hy => hd y (List.mem_append_right _ hy)) b _) ?_; rintro _ J2 _ e2 ⟨p1, rfl, hp1, rfl⟩
   have hf := hf.mono e2
   have hk := hk.mono e2
   have ht := ht.mono e2
   have hn0 := hn0.mono e2
   have hle := hle.trans e2
   unfold S1
   refine Oa rfl (Ab (Ah (Se rfl (Om rfl ?_)))); refine Hj rfl rfl .free rfl ?_; refine Ab ?_; refine Av rfl ?_ ?_
   ·intro c5
    try simp only [nb] at c5
    obtain ⟨hv1, rfl⟩ := Kq hp1 c5
    have hRR : eval (eval m a k).left d k = R := by
     rw [G4] at hR
     simpa only [hv0, hv1] using hR
    refine Se rfl (Oa rfl (Ab (Ai (.tmp rfl .nil) ?_))); subst hRR
    exact ⟨_, _, hle, Ms (L' := (b, _) :: L), none, rfl, by rw [hv1]; rfl, rfl⟩
   intro c5
   try simp only [nb] at c5
   obtain ⟨v, pv, hv1, rfl, hav⟩ := Kr hp1 (by simpa using c5); obtain ⟨wv, hst1⟩ := Lf hkw hok.2 (fun y hy => hd y (List.mem_append_right _ hy)) hv1; rw [hst1]; refine Aj (Ao rfl (Om rfl (Om rfl ?_))); refine Ol rfl rfl ?_; intro b62; refine D3 (B := some (bb, sp)) (xs := [.pointer (some pu)]) (ys := [.pointer (some pv)]) (m := 1) (c := c2) A4 Ac rfl rfl hB (fun _ h => h.f2) Ac (fun a ha => by cases ha; exact Bg (.head _) Ac) Af Ac Ad Ad Aa Ad .free rfl ?_; intro bb2 sp2 c3 hB2
   simp only [Cb, List.cons_append, List.nil_append]
   refine Oa rfl (Ab (Aq (Ao rfl ?_))); refine Or rfl rfl rfl ?_; refine Om rfl (Ab ?_); refine Dd ?_; refine Se rfl (Oc rfl rfl rfl (Ab (Ah ?_))); refine E6 rfl By ?_; refine Cs rfl ?_; refine Ah ?_; refine Bv ?_; intro hz
   have hq0 := B0 (I := J2) (b := bb2) (xs := [.pointer (some pu), .pointer (some pv)]) (ys := sp2) (T := 56) (fr := (0, 0))
   simp only [List.cons_append, List.nil_append] at hq0
   have hf := hf.mono hz
   have hk := hk.mono hz
   have ht := ht.mono hz
   have hle := hle.trans hz
   have hau := hau.mono (e2.trans hz)
   have hav := hav.mono hz
   have q1 : Still _ ((⟨bb2, 0, none⟩ : Addr).add (1 * 1)) [.pointer (some pv)] := hq0.cellAt 1 rfl
   have q0 : Still _ ((⟨bb2, 0, none⟩ : Addr).add (0 * 1)) [.pointer (some pu)] := hq0.cellAt 0 rfl
   have hl1 := B7 m a k
   have hl2 := B7 (eval m a k).left d k
   rw [G4] at hR
   simp only [hv0, hv1] at hR
   refine Ck (fun w h => Mem.sub (L' := (b, _) :: (b4, _) :: L) Bo h) ?_; refine Ao rfl ?_; refine Bq rfl .free rfl ?_; refine Ca rfl (Cj hf.rep _) ?_; rintro _ _ _ _ ⟨rfl, rfl, rfl⟩; rw [show (Ex.bin .call a d).tree.head = [99, 97, 108, 108] from rfl]; refine Ab (Ar (Se rfl (Od rfl rfl rfl (Oa rfl (Ab ?_)))))
   first | refine Sf rfl Ad ?_ | refine Ay Am ?_
   refine Se rfl (Od rfl rfl rfl (Oa rfl (Ab ?_)))
   first | refine Sf rfl Ad ?_ | refine Ay Am ?_
   refine Se rfl (Od rfl rfl rfl (Oa rfl (Ab ?_)))
   first | refine St rfl (rfl) ?_ | refine Bs Am ?_
   refine Se rfl ?_; obtain ⟨x1, pf, pr, su, hno, hyes⟩ := hau.fun
   refine Om rfl ?_
   first | refine Bk rfl rfl 0 rfl .free rfl ?_ | refine Bl rfl rfl 0 rfl .free rfl ?_
   refine Br rfl (Ba q0 rfl) .free rfl ?_; refine Az rfl .free rfl ?_
   first | refine Oh rfl ?_ | refine Oj rfl ?_
   refine Br rfl (Bc su Ac rfl) .free rfl ?_; refine Oa rfl (Ab (Ah (Se rfl (Om rfl ?_)))); refine Hj rfl rfl .free rfl ?_; refine Ab ?_; refine Av rfl ?_ ?_
   ·intro c11
    try simp only [nb] at c11
    refine Se rfl (Om rfl ?_); refine Ca rfl (Es _ b (eval (eval m a k).left d k).left _) ?_; rintro _ _ _ _ ⟨rfl, rfl, rfl⟩; refine Oa rfl (Ab (Ai (.tmp rfl .nil) ?_))
    have hRR : (⟨none, (eval (eval m a k).left d k).left, true⟩ : Res) = R := by
     have hpf : pf = none := by cases pf with | none => rfl | some x => cases c11
     cases u with
     | clo f x s t bd r => exact absurd rfl (hno hpf f x s t bd r)
     | _ => exact hR
    subst hRR
    exact ⟨_, _, hle, Ms (L' := (b, _) :: L), none, rfl, rfl, rfl⟩
   intro c11
   try simp only [nb] at c11
   obtain ⟨fa, rfl⟩ : ∃ fa, pf = some fa := by cases pf with | none => cases c11 | some x => exact ⟨x, rfl⟩
   obtain ⟨fn, x, s, t, bd, r, o6, c6, rfl, hfa, hrf, hke⟩ := hyes fa rfl; obtain ⟨oa3, c3', oaf3, cf3, he3, hf3⟩ := hrf.at'
   simp only [List.cons.injEq, Value.slice.injEq, and_true, true_and] at he3
   obtain ⟨-, rfl, -, rfl⟩ := he3
   have hlen3 : (Ex.fn fn x s t bd).tree.parts.length = 6 := rfl
   simp only at hR
   have hcl := wu
   obtain ⟨hrw, hfok, hfd⟩ := wu
   have hfok' := hfok
   simp only [Ex.ok, Bool.and_eq_true, decide_eq_true_eq] at hfok'
   obtain ⟨⟨⟨⟨⟨nf, nx⟩, hfx⟩, _⟩, _⟩, hcok⟩ := hfok'; refine Aj ?_; refine Eb 36 rfl rfl ?_; refine Da 0 rfl (Ak rfl) ?_; refine Da 1 rfl (Dy rfl) ?_
   first | refine Da 2 rfl (Ap rfl) ?_ | refine Da 2 rfl (Bi rfl) ?_
   refine Dt 3 [34] rfl (Ew rfl (Bc hfa Ac rfl)) ?_
   first | refine Da 4 rfl (Bw rfl rfl 5 rfl) ?_ | refine Da 4 rfl (Bx rfl rfl 5 rfl) ?_
   refine Dt 5 [34] rfl (Ew rfl (Bf (hf3.st _ Aa) Ac)) ?_; refine Da 6 rfl (Ak rfl) ?_
   first | refine Da 7 rfl (Bw rfl rfl 0 rfl) ?_ | refine Da 7 rfl (Bx rfl rfl 0 rfl) ?_
   refine Dt 8 [34] rfl (Ew rfl (Ba q0 rfl)) ?_; refine Da 9 rfl (Dy rfl) ?_
   first | refine Da 10 rfl (Ap rfl) ?_ | refine Da 10 rfl (Bi rfl) ?_
   refine Dt 11 [34] rfl (Ew rfl (Bc su Ac rfl)) ?_; refine Da 12 rfl (Ak rfl) ?_; refine Da 13 rfl (Dy rfl) ?_
   first | refine Da 14 rfl (Ap rfl) ?_ | refine Da 14 rfl (Bi rfl) ?_
   refine Dt 15 [34] rfl (Ew rfl (Bc hfa Ac rfl)) ?_
   first | refine Da 16 rfl (Bw rfl rfl 1 rfl) ?_ | refine Da 16 rfl (Bx rfl rfl 1 rfl) ?_
   refine Da 17 rfl (Bi rfl) ?_; refine Dt 18 [34] rfl (Ew rfl (Bc (hf3.st _ Aa) Ac rfl)) ?_; refine Da 19 rfl (Ak rfl) ?_
   first | refine Da 20 rfl (Bw rfl rfl 0 rfl) ?_ | refine Da 20 rfl (Bx rfl rfl 0 rfl) ?_
   refine Dt 21 [34] rfl (Ew rfl (Ba q0 rfl)) ?_; refine Da 23 rfl (Ak rfl) ?_; refine Da 24 rfl (Dy rfl) ?_
   first | refine Da 25 rfl (Ap rfl) ?_ | refine Da 25 rfl (Bi rfl) ?_
   refine Dt 26 [34] rfl (Ew rfl (Bc hfa Ac rfl)) ?_
   first | refine Da 27 rfl (Bw rfl rfl 2 rfl) ?_ | refine Da 27 rfl (Bx rfl rfl 2 rfl) ?_
   refine Da 28 rfl (Bi rfl) ?_; refine Dt 29 [34] rfl (Ew rfl (Bc (hf3.st _ Aa) Ac rfl)) ?_; refine Da 30 rfl (Ak rfl) ?_
   first | refine Da 31 rfl (Bw rfl rfl 1 rfl) ?_ | refine Da 31 rfl (Bx rfl rfl 1 rfl) ?_
   refine Dt 32 [34] rfl (Ew rfl (Ba q1 rfl)) ?_; refine Dc 22 rfl rfl (L7 hke fn hau _) ?_; rintro _ J3 _ e3 ⟨y3, rfl, hk3, rfl⟩
   have hf3 := hf3.mono e3
   have hle := hle.trans e3
   refine Hx ?_; refine Dc 33 rfl rfl (L7 hk3 x (hav.mono e3) _) ?_; rintro _ J4 _ e4 ⟨y4, rfl, hk4, rfl⟩
   have e34 := e3.trans e4
   have hf3 := hf3.mono e4
   have hle := hle.trans e4
   refine Hx ?_; refine Dx 34 rfl rfl rfl rfl ?_; refine Db 35 rfl (At rfl) ?_; refine A5 Ae ?_; refine Aq (Aq ?_)
   refine Ck (fun w h => h.f1) (Cw (E' := [(0, .pointer (some ⟨b, 0, none⟩)), (2, .pointer (some y4)), (4, .pointer (some ⟨b4, 0, none⟩))]) ⟨rfl, rfl, rfl, trivial⟩ (ih ⟨bd, .cons x v (.cons fn (.clo fn x s t bd r) r), some y4, (eval (eval m a k).left d k).left, _, oaf3 5, cf3 5⟩ ⟨hle, hf3.as 5 bd.tree Aa rfl, hcok, hk4, ⟨nx, wv, nf, hcl, hrw⟩, fun y hy => ?_, by show (eval (eval m a k).left d k).left < N + 1; omega, by show (eval (eval m a k).left d k).left ≤ 1000000; omega, hR⟩ D1))
   simp only [KE.dom, List.mem_cons]
   rcases hfd y hy with h | h
   ·simp only [List.mem_cons, List.not_mem_nil, or_false] at h
    rcases h with h | h
    ·exact .inr (.inl h)
    ·exact .inl h
   ·exact .inr (.inr h)
  ·skip
   refine Ao rfl ?_; refine Bq rfl .free rfl ?_; refine Ca rfl (Cz hr _) ?_; rintro _ _ _ _ ⟨rfl, rfl, rfl⟩; rw [show (Ex.bin o a d).tree.parts.isEmpty = false from rfl]; refine Ab ?_
   first | refine Sf rfl Af ?_ | refine Ay Am ?_
   refine Aj (Ah (Se rfl ?_)); refine Bq rfl .free rfl ?_; refine Ca rfl (Cj hr _) ?_; rintro _ _ _ _ ⟨rfl, rfl, rfl⟩; obtain ⟨oa2, c2, oaf, cf, he2, hf⟩ := hr.at'
   simp only [List.cons.injEq, Value.slice.injEq, and_true, true_and] at he2
   obtain ⟨rfl, rfl⟩ := he2; obtain ⟨xa, rfl⟩ : ∃ x, oc = some x := ⟨_, Ec hf.nil (show 0 < 3 by decide)⟩
   have hlen : (Ex.bin o a d).tree.parts.length = 3 := rfl
   have hev : evT (Ex.bin o a d).tree = [1, 2] := by cases o <;> rfl
   simp only [Ex.ok, Bool.and_eq_true] at hok
   rw [show (Ex.bin o a d).tree.head = o.txt from rfl]; refine Od rfl rfl rfl (Ab ?_)
   first | refine Fw rfl (o.txt_ne.2.2.1) ?_ | refine Fv rfl (o.txt_ne.2.2.1) ?_ | refine Ay Am ?_
   refine Aj (Se rfl (Oa rfl (Ab (Ah (Se rfl ?_))))); refine Bq rfl .free rfl ?_; refine Ca rfl (Gc hf.rep _) ?_; rintro _ J0 _ e0 ⟨oq, ck, rfl, hn0, rfl⟩
   have hf := hf.mono e0
   have hk := hk.mono e0
   have ht := ht.mono e0
   have hle := hle.trans e0
   rw [hev] at hn0; rw [hev]; refine On rfl (Om rfl (Ab (Ar ?_))); refine F0 ?_; refine Se rfl (Oc rfl rfl rfl (Ab (Ah ?_))); refine Dj rfl By ?_; refine Aj (Ah (Ar (Se rfl ?_)))
   first | refine Bk rfl rfl _ rfl .free rfl ?_ | refine Bl rfl rfl _ rfl .free rfl ?_
   refine Gh rfl .free rfl ?_; refine Oa rfl (Ab (Se rfl (Om rfl (Oh rfl ?_)))); refine Bd rfl .free rfl ?_; refine Om rfl ?_
   first | refine Bk rfl rfl _ rfl .free rfl ?_ | refine Bl rfl rfl _ rfl .free rfl ?_
   refine Gu rfl .free rfl ?_; refine Om rfl ?_; refine Fl (fun w h => h.f1) ?_; refine Ca rfl (ihn ht m Aa Aa (hf.as 1 a.tree Aa rfl) hok.1 hk hkw (fun y hy => hd y (List.mem_append_left _ hy)) b _) ?_; rintro _ J1 _ e1 ⟨p0, rfl, hp0, rfl⟩
   have hf := hf.mono e1
   have hk := hk.mono e1
   have ht := ht.mono e1
   have hn0 := hn0.mono e1
   have hle := hle.trans e1
   unfold S1
   refine Oa rfl (Ab (Ah (Se rfl (Om rfl ?_)))); refine Hj rfl rfl .free rfl ?_; refine Ab ?_; refine Av rfl ?_ ?_
   ·intro c5
    try simp only [nb] at c5
    obtain ⟨hv0, rfl⟩ := Kq hp0 c5
    have hRR : eval m a k = R := by
     rw [G4] at hR
     simpa only [hv0] using hR
    refine Se rfl (Oa rfl (Ab (Ai (.tmp rfl .nil) ?_))); subst hRR
    exact ⟨_, _, hle, Ms (L' := (b, _) :: L), none, rfl, by rw [hv0]; rfl, rfl⟩
   intro c5
   try simp only [nb] at c5
   obtain ⟨u, pu, hv0, rfl, hau⟩ := Kr hp0 (by simpa using c5); obtain ⟨wu, hst0⟩ := Lf hkw hok.1 (fun y hy => hd y (List.mem_append_left _ hy)) hv0; rw [hst0]; refine Aj (Ao rfl (Om rfl (Om rfl ?_))); refine Ol rfl rfl ?_; intro b62; refine D3 (B := none) (xs := []) (ys := [.pointer (some pu)]) (m := 0) (c := 0) A4 Ac rfl rfl ⟨rfl, rfl, rfl⟩ (fun _ h => h) Ac (fun a ha => by cases ha; exact Bg (.head _) Ac) Af Ac Ad Ad Aa Ad .free rfl ?_; intro bb sp c2 hB
   simp only [Cb, List.cons_append, List.nil_append, Nat.zero_add]
   refine Oa rfl (Ab (Aq (Ao rfl ?_))); refine Or rfl rfl rfl ?_; refine Om rfl (Ab ?_); refine Dd ?_; refine Se rfl (Oc rfl rfl rfl (Ab (Ah ?_))); refine Dj rfl By ?_; refine Aj (Ah (Ar (Se rfl ?_)))
   first | refine Bk rfl rfl _ rfl .free rfl ?_ | refine Bl rfl rfl _ rfl .free rfl ?_
   refine Gh rfl .free rfl ?_; refine Oa rfl (Ab (Se rfl (Om rfl (Oh rfl ?_)))); refine Bd rfl .free rfl ?_; refine Om rfl ?_
   first | refine Bk rfl rfl _ rfl .free rfl ?_ | refine Bl rfl rfl _ rfl .free rfl ?_
   refine Gu rfl .free rfl ?_; refine Om rfl ?_
   have hl0 := B7 m a k
   refine Fl (fun w h => h.f2) ?_; refine Ca rfl (ihn ht (eval m a k).left Aa Aa (hf.as 2 d.tree Aa rfl) hok.2 hk hkw (fun y hy => hd y (List.mem_append_right _ hy)) b _) ?_; rintro _ J2 _ e2 ⟨p1, rfl, hp1, rfl⟩
   have hf := hf.mono e2
   have hk := hk.mono e2
   have ht := ht.mono e2
   have hn0 := hn0.mono e2
   have hle := hle.trans e2
   unfold S1
   refine Oa rfl (Ab (Ah (Se rfl (Om rfl ?_)))); refine Hj rfl rfl .free rfl ?_; refine Ab ?_; refine Av rfl ?_ ?_
   ·intro c5
    try simp only [nb] at c5
    obtain ⟨hv1, rfl⟩ := Kq hp1 c5
    have hRR : eval (eval m a k).left d k = R := by
     rw [G4] at hR
     simpa only [hv0, hv1] using hR
    refine Se rfl (Oa rfl (Ab (Ai (.tmp rfl .nil) ?_))); subst hRR
    exact ⟨_, _, hle, Ms (L' := (b, _) :: L), none, rfl, by rw [hv1]; rfl, rfl⟩
   intro c5
   try simp only [nb] at c5
   obtain ⟨v, pv, hv1, rfl, hav⟩ := Kr hp1 (by simpa using c5); obtain ⟨wv, hst1⟩ := Lf hkw hok.2 (fun y hy => hd y (List.mem_append_right _ hy)) hv1; rw [hst1]; refine Aj (Ao rfl (Om rfl (Om rfl ?_))); refine Ol rfl rfl ?_; intro b62; refine D3 (B := some (bb, sp)) (xs := [.pointer (some pu)]) (ys := [.pointer (some pv)]) (m := 1) (c := c2) A4 Ac rfl rfl hB (fun _ h => h.f2) Ac (fun a ha => by cases ha; exact Bg (.head _) Ac) Af Ac Ad Ad Aa Ad .free rfl ?_; intro bb2 sp2 c3 hB2
   simp only [Cb, List.cons_append, List.nil_append]
   refine Oa rfl (Ab (Aq (Ao rfl ?_))); refine Or rfl rfl rfl ?_; refine Om rfl (Ab ?_); refine Dd ?_; refine Se rfl (Oc rfl rfl rfl (Ab (Ah ?_))); refine E6 rfl By ?_; refine Cs rfl ?_; refine Ah ?_; refine Bv ?_; intro hz
   have hq0 := B0 (I := J2) (b := bb2) (xs := [.pointer (some pu), .pointer (some pv)]) (ys := sp2) (T := 56) (fr := (0, 0))
   simp only [List.cons_append, List.nil_append] at hq0
   have hf := hf.mono hz
   have hk := hk.mono hz
   have ht := ht.mono hz
   have hle := hle.trans hz
   have hau := hau.mono (e2.trans hz)
   have hav := hav.mono hz
   have q1 : Still _ ((⟨bb2, 0, none⟩ : Addr).add (1 * 1)) [.pointer (some pv)] := hq0.cellAt 1 rfl
   have q0 : Still _ ((⟨bb2, 0, none⟩ : Addr).add (0 * 1)) [.pointer (some pu)] := hq0.cellAt 0 rfl
   have hl1 := B7 m a k
   have hl2 := B7 (eval m a k).left d k
   rw [G4] at hR
   simp only [hv0, hv1] at hR
   refine Ck (fun w h => Mem.sub (L' := (b, _) :: (b4, _) :: L) Bo h) ?_; refine Ao rfl ?_; refine Bq rfl .free rfl ?_; refine Ca rfl (Cj hf.rep _) ?_; rintro _ _ _ _ ⟨rfl, rfl, rfl⟩; rw [show (Ex.bin o a d).tree.head = o.txt from rfl]; refine Ab (Ar (Se rfl (Od rfl rfl rfl (Oa rfl (Ab ?_)))))
   first | refine Fw rfl (o.txt_ne.1) ?_ | refine Fv rfl (o.txt_ne.1) ?_ | refine Ay Am ?_
   refine Se rfl (Od rfl rfl rfl (Oa rfl (Ab ?_)))
   first | refine Fw rfl (o.txt_ne.2.1) ?_ | refine Fv rfl (o.txt_ne.2.1) ?_ | refine Ay Am ?_
   refine Se rfl (Od rfl rfl rfl (Oa rfl (Ab ?_)))
   first | refine Fw rfl (fun h => hoc (B5.txt_inj (o' := .call) h)) ?_ | refine Fv rfl (fun h => hoc (B5.txt_inj (o' := .call) h)) ?_ | refine Ay Am ?_
   refine Se rfl (Om rfl ?_); refine Bq rfl .free rfl ?_; refine Ca rfl (Cj hf.rep _) ?_; rintro _ _ _ _ ⟨rfl, rfl, rfl⟩; rw [show (Ex.bin o a d).tree.head = o.txt from rfl]; refine Om rfl ?_; refine Ca rfl (Uu ht hoc wu wv hq0 hB2.2.1 hau hav b (eval (eval m a k).left d k).left _) ?_; rintro _ J3 _ e3 ⟨p3, rfl, hp3, rfl⟩; refine Oa rfl (Ab (Ai (.tmp rfl .nil) ?_))
   have hRR : Res.of (o.act u v) (eval (eval m a k).left d k).left = R := by
    rw [← hR]
    cases o <;> first | rfl | exact absurd rfl hoc
   subst hRR
   exact ⟨J3, _, hle.trans e3, fun w h => Mem.sub (L' := S1 b _ _ :: L) Bo h, p3, rfl, hp3, rfl⟩
  ·skip
   refine Ao rfl ?_; refine Bq rfl .free rfl ?_; refine Ca rfl (Cz hr _) ?_; rintro _ _ _ _ ⟨rfl, rfl, rfl⟩; rw [show (Ex.ite a d g).tree.parts.isEmpty = false from rfl]; refine Ab ?_
   first | refine Sf rfl Af ?_ | refine Ay Am ?_
   refine Aj (Ah (Se rfl ?_)); refine Bq rfl .free rfl ?_; refine Ca rfl (Cj hr _) ?_; rintro _ _ _ _ ⟨rfl, rfl, rfl⟩; obtain ⟨oa2, c2, oaf, cf, he2, hf⟩ := hr.at'
   simp only [List.cons.injEq, Value.slice.injEq, and_true, true_and] at he2
   obtain ⟨rfl, rfl⟩ := he2; obtain ⟨xa, rfl⟩ : ∃ x, oc = some x := ⟨_, Ec hf.nil (show 0 < 4 by decide)⟩
   have hlen : (Ex.ite a d g).tree.parts.length = 4 := rfl
   have hev : evT (Ex.ite a d g).tree = [1] := rfl
   simp only [Ex.ok, Bool.and_eq_true] at hok
   rw [show (Ex.ite a d g).tree.head = [105, 102] from rfl]; refine Od rfl rfl rfl (Ab ?_)
   first | refine Sf rfl Ad ?_ | refine Ay Am ?_
   refine Aj (Se rfl (Oa rfl (Ab (Ah (Se rfl ?_))))); refine Bq rfl .free rfl ?_; refine Ca rfl (Gc hf.rep _) ?_; rintro _ J0 _ e0 ⟨oq, ck, rfl, hn0, rfl⟩
   have hf := hf.mono e0
   have hk := hk.mono e0
   have ht := ht.mono e0
   have hle := hle.trans e0
   rw [hev] at hn0; rw [hev]; refine On rfl (Om rfl (Ab (Ar ?_))); refine F0 ?_; refine Se rfl (Oc rfl rfl rfl (Ab (Ah ?_))); refine Dj rfl By ?_; refine Aj (Ah (Ar (Se rfl ?_)))
   first | refine Bk rfl rfl _ rfl .free rfl ?_ | refine Bl rfl rfl _ rfl .free rfl ?_
   refine Gh rfl .free rfl ?_; refine Oa rfl (Ab (Se rfl (Om rfl (Oh rfl ?_)))); refine Bd rfl .free rfl ?_; refine Om rfl ?_
   first | refine Bk rfl rfl _ rfl .free rfl ?_ | refine Bl rfl rfl _ rfl .free rfl ?_
   refine Gu rfl .free rfl ?_; refine Om rfl ?_; refine Fl (fun w h => h.f1) ?_; refine Ca rfl (ihn ht m Aa Aa (hf.as 1 a.tree Aa rfl) hok.1.1 hk hkw (fun y hy => hd y (List.mem_append_left _ (List.mem_append_left _ hy))) b _) ?_; rintro _ J1 _ e1 ⟨p0, rfl, hp0, rfl⟩
   have hf := hf.mono e1
   have hk := hk.mono e1
   have ht := ht.mono e1
   have hn0 := hn0.mono e1
   have hle := hle.trans e1
   unfold S1
   refine Oa rfl (Ab (Ah (Se rfl (Om rfl ?_)))); refine Hj rfl rfl .free rfl ?_; refine Ab ?_; refine Av rfl ?_ ?_
   ·intro c5
    try simp only [nb] at c5
    obtain ⟨hv0, rfl⟩ := Kq hp0 c5
    have hRR : eval m a k = R := by
     rw [Ht] at hR
     simpa only [hv0] using hR
    refine Se rfl (Oa rfl (Ab (Ai (.tmp rfl .nil) ?_))); subst hRR
    exact ⟨_, _, hle, Ms (L' := (b, _) :: L), none, rfl, by rw [hv0]; rfl, rfl⟩
   intro c5
   try simp only [nb] at c5
   obtain ⟨u, pu, hv0, rfl, hau⟩ := Kr hp0 (by simpa using c5); obtain ⟨wu, hst0⟩ := Lf hkw hok.1.1 (fun y hy => hd y (List.mem_append_left _ (List.mem_append_left _ hy))) hv0; rw [hst0]; refine Aj (Ao rfl (Om rfl (Om rfl ?_))); refine Ol rfl rfl ?_; intro b62; refine D3 (B := none) (xs := []) (ys := [.pointer (some pu)]) (m := 0) (c := 0) A4 Ac rfl rfl ⟨rfl, rfl, rfl⟩ (fun _ h => h) Ac (fun a ha => by cases ha; exact Bg (.head _) Ac) Af Ac Ad Ad Aa Ad .free rfl ?_; intro bb sp c2 hB
   simp only [Cb, List.cons_append, List.nil_append, Nat.zero_add]
   refine Oa rfl (Ab (Aq (Ao rfl ?_))); refine Or rfl rfl rfl ?_; refine Om rfl (Ab ?_); refine Dd ?_; refine Se rfl (Oc rfl rfl rfl (Ab (Ah ?_))); refine E6 rfl By ?_; refine Cs rfl ?_; refine Ah ?_; refine Bv ?_; intro hz
   have hq0 := B0 (I := J1) (b := bb) (xs := [.pointer (some pu)]) (ys := sp) (T := 56) (fr := (0, 0))
   simp only [List.cons_append, List.nil_append] at hq0
   have hf := hf.mono hz
   have hk := hk.mono hz
   have ht := ht.mono hz
   have hle := hle.trans hz
   have hau := hau.mono hz
   have q0 : Still _ ((⟨bb, 0, none⟩ : Addr).add (0 * 1)) [.pointer (some pu)] := hq0.cellAt 0 rfl
   have hl1 := B7 m a k
   skip
   rw [Ht] at hR
   simp only [hv0] at hR
   refine Ck (fun w h => Mem.sub (L' := (b, _) :: (b4, _) :: L) Bo h) ?_; refine Ao rfl ?_; refine Bq rfl .free rfl ?_; refine Ca rfl (Cj hf.rep _) ?_; rintro _ _ _ _ ⟨rfl, rfl, rfl⟩; rw [show (Ex.ite a d g).tree.head = [105, 102] from rfl]; refine Ab (Ar (Se rfl (Od rfl rfl rfl (Oa rfl (Ab ?_)))))
   first | refine St rfl (rfl) ?_ | refine Bs Am ?_
   refine Se rfl ?_; obtain ⟨x1, x2, x3, su⟩ := hau.cell; refine Om rfl ?_
   first | refine Bk rfl rfl 0 rfl .free rfl ?_ | refine Bl rfl rfl 0 rfl .free rfl ?_
   refine Br rfl (Ba q0 rfl) .free rfl ?_; refine Az rfl .free rfl ?_
   first | refine Oh rfl ?_ | refine Oj rfl ?_
   refine Br rfl (Bc su Ac rfl) .free rfl ?_; refine Ab (Ar (Se rfl (Od rfl rfl rfl (Oa rfl (Ab ?_))))); refine Av rfl ?_ ?_
   ·intro c7
    try simp only [nb] at c7
    refine Se rfl (Om rfl ?_); refine Ca rfl (Es _ b (eval m a k).left _) ?_; rintro _ _ _ _ ⟨rfl, rfl, rfl⟩; refine Oa rfl (Ab (Ai (.tmp rfl .nil) ?_))
    have hRR : (⟨none, (eval m a k).left, true⟩ : Res) = R := by
     cases u with
     | num s => exact absurd c7 (Yr wu)
     | _ => exact hR
    subst hRR
    exact ⟨_, _, hle, Ms (L' := (b, _) :: L), none, rfl, rfl, rfl⟩
   intro c7
   try simp only [nb] at c7
   obtain ⟨s, rfl, hs⟩ := Yq wu c7
   simp only at hR
   have hdb : ∀ y ∈ d.occ [], y ∈ k.dom := fun y hy => hd y (List.mem_append_left _ (List.mem_append_right _ hy))
   have hdc : ∀ y ∈ g.occ [], y ∈ k.dom := fun y hy => hd y (List.mem_append_right _ hy)
   refine Se rfl (Od rfl rfl rfl (Oa rfl (Ab ?_))); refine Av rfl ?_ ?_
   ·intro c8
    try simp only [nb] at c8
    have hRR : eval (eval m a k).left d k = R := by rw [← hR, if_pos (show s = [48] from c8)]
    refine Ao rfl (Oh rfl ?_); refine Bd rfl .free rfl ?_
    first | refine Bk rfl rfl 2 rfl .free rfl ?_ | refine Bl rfl rfl 2 rfl .free rfl ?_
    refine Gu rfl .free rfl ?_; refine Bu rfl rfl rfl rfl .free ?_; refine Ab ?_
    iterate 3 refine Aq ?_
    first
    | exact Ck (fun w h => h.f1) (Cw (E' := [(0, .pointer (some ⟨b, 0, none⟩)), (2, .pointer pk), (4, .pointer (some ⟨b4, 0, none⟩))]) ⟨rfl, rfl, rfl, trivial⟩ (ih ⟨d, k, pk, (eval m a k).left, _, oaf 2, cf 2⟩ ⟨hle, hf.as 2 d.tree Aa rfl, hok.1.2, hk, hkw, hdb, by show (eval m a k).left < N + 1; omega, by show (eval m a k).left ≤ 1000000; omega, hRR⟩ D1))
    | exact Ck (fun w h => h.f1) (Cw (E' := [(0, .pointer (some ⟨b, 0, none⟩)), (2, .pointer pk), (4, .pointer (some ⟨b4, 0, none⟩))]) ⟨rfl, rfl, rfl, trivial⟩ (ih ⟨g, k, pk, (eval m a k).left, _, oaf 3, cf 3⟩ ⟨hle, hf.as 3 g.tree Aa rfl, hok.2, hk, hkw, hdc, by show (eval m a k).left < N + 1; omega, by show (eval m a k).left ≤ 1000000; omega, hRR⟩ D1))
   intro c8
   try simp only [nb] at c8
   have hRR : eval (eval m a k).left g k = R := by rw [← hR, if_neg (show ¬ s = [48] from c8)]
   refine Ao rfl (Oh rfl ?_); refine Bd rfl .free rfl ?_
   first | refine Bk rfl rfl 3 rfl .free rfl ?_ | refine Bl rfl rfl 3 rfl .free rfl ?_
   refine Gu rfl .free rfl ?_; refine Bu rfl rfl rfl rfl .free ?_; refine Ab ?_
   iterate 3 refine Aq ?_
   first
   | exact Ck (fun w h => h.f1) (Cw (E' := [(0, .pointer (some ⟨b, 0, none⟩)), (2, .pointer pk), (4, .pointer (some ⟨b4, 0, none⟩))]) ⟨rfl, rfl, rfl, trivial⟩ (ih ⟨d, k, pk, (eval m a k).left, _, oaf 2, cf 2⟩ ⟨hle, hf.as 2 d.tree Aa rfl, hok.1.2, hk, hkw, hdb, by show (eval m a k).left < N + 1; omega, by show (eval m a k).left ≤ 1000000; omega, hRR⟩ D1))
   | exact Ck (fun w h => h.f1) (Cw (E' := [(0, .pointer (some ⟨b, 0, none⟩)), (2, .pointer pk), (4, .pointer (some ⟨b4, 0, none⟩))]) ⟨rfl, rfl, rfl, trivial⟩ (ih ⟨g, k, pk, (eval m a k).left, _, oaf 3, cf 3⟩ ⟨hle, hf.as 3 g.tree Aa rfl, hok.2, hk, hkw, hdc, by show (eval m a k).left < N + 1; omega, by show (eval m a k).left ≤ 1000000; omega, hRR⟩ D1))
  ·skip
   refine Ao rfl ?_; refine Bq rfl .free rfl ?_; refine Ca rfl (Cz hr _) ?_; rintro _ _ _ _ ⟨rfl, rfl, rfl⟩; rw [show (Ex.lt z a d).tree.parts.isEmpty = false from rfl]; refine Ab ?_
   first | refine Sf rfl Af ?_ | refine Ay Am ?_
   refine Aj (Ah (Se rfl ?_)); refine Bq rfl .free rfl ?_; refine Ca rfl (Cj hr _) ?_; rintro _ _ _ _ ⟨rfl, rfl, rfl⟩; obtain ⟨oa2, c2, oaf, cf, he2, hf⟩ := hr.at'
   simp only [List.cons.injEq, Value.slice.injEq, and_true, true_and] at he2
   obtain ⟨rfl, rfl⟩ := he2; obtain ⟨xa, rfl⟩ : ∃ x, oc = some x := ⟨_, Ec hf.nil (show 0 < 4 by decide)⟩
   have hlen : (Ex.lt z a d).tree.parts.length = 4 := rfl
   have hev : evT (Ex.lt z a d).tree = [2] := rfl
   simp only [Ex.ok, Bool.and_eq_true] at hok
   rw [show (Ex.lt z a d).tree.head = [108, 101, 116] from rfl]; refine Od rfl rfl rfl (Ab ?_)
   first | refine Sf rfl Ad ?_ | refine Ay Am ?_
   refine Aj (Se rfl (Oa rfl (Ab (Ah (Se rfl ?_))))); refine Bq rfl .free rfl ?_; refine Ca rfl (Gc hf.rep _) ?_; rintro _ J0 _ e0 ⟨oq, ck, rfl, hn0, rfl⟩
   have hf := hf.mono e0
   have hk := hk.mono e0
   have ht := ht.mono e0
   have hle := hle.trans e0
   rw [hev] at hn0; rw [hev]; refine On rfl (Om rfl (Ab (Ar ?_))); refine F0 ?_; refine Se rfl (Oc rfl rfl rfl (Ab (Ah ?_))); refine Dj rfl By ?_; refine Aj (Ah (Ar (Se rfl ?_)))
   first | refine Bk rfl rfl _ rfl .free rfl ?_ | refine Bl rfl rfl _ rfl .free rfl ?_
   refine Gh rfl .free rfl ?_; refine Oa rfl (Ab (Se rfl (Om rfl (Oh rfl ?_)))); refine Bd rfl .free rfl ?_; refine Om rfl ?_
   first | refine Bk rfl rfl _ rfl .free rfl ?_ | refine Bl rfl rfl _ rfl .free rfl ?_
   refine Gu rfl .free rfl ?_; refine Om rfl ?_; refine Fl (fun w h => h.f1) ?_; refine Ca rfl (ihn ht m Aa Aa (hf.as 2 a.tree Aa rfl) hok.1.2 hk hkw (fun y hy => hd y (List.mem_append_left _ hy)) b _) ?_; rintro _ J1 _ e1 ⟨p0, rfl, hp0, rfl⟩
   have hf := hf.mono e1
   have hk := hk.mono e1
   have ht := ht.mono e1
   have hn0 := hn0.mono e1
   have hle := hle.trans e1
   unfold S1
   refine Oa rfl (Ab (Ah (Se rfl (Om rfl ?_)))); refine Hj rfl rfl .free rfl ?_; refine Ab ?_; refine Av rfl ?_ ?_
   ·intro c5
    try simp only [nb] at c5
    obtain ⟨hv0, rfl⟩ := Kq hp0 c5
    have hRR : eval m a k = R := by
     rw [I4] at hR
     simpa only [hv0] using hR
    refine Se rfl (Oa rfl (Ab (Ai (.tmp rfl .nil) ?_))); subst hRR
    exact ⟨_, _, hle, Ms (L' := (b, _) :: L), none, rfl, by rw [hv0]; rfl, rfl⟩
   intro c5
   try simp only [nb] at c5
   obtain ⟨u, pu, hv0, rfl, hau⟩ := Kr hp0 (by simpa using c5); obtain ⟨wu, hst0⟩ := Lf hkw hok.1.2 (fun y hy => hd y (List.mem_append_left _ hy)) hv0; rw [hst0]; refine Aj (Ao rfl (Om rfl (Om rfl ?_))); refine Ol rfl rfl ?_; intro b62; refine D3 (B := none) (xs := []) (ys := [.pointer (some pu)]) (m := 0) (c := 0) A4 Ac rfl rfl ⟨rfl, rfl, rfl⟩ (fun _ h => h) Ac (fun a ha => by cases ha; exact Bg (.head _) Ac) Af Ac Ad Ad Aa Ad .free rfl ?_; intro bb sp c2 hB
   simp only [Cb, List.cons_append, List.nil_append, Nat.zero_add]
   refine Oa rfl (Ab (Aq (Ao rfl ?_))); refine Or rfl rfl rfl ?_; refine Om rfl (Ab ?_); refine Dd ?_; refine Se rfl (Oc rfl rfl rfl (Ab (Ah ?_))); refine E6 rfl By ?_; refine Cs rfl ?_; refine Ah ?_; refine Bv ?_; intro hz
   have hq0 := B0 (I := J1) (b := bb) (xs := [.pointer (some pu)]) (ys := sp) (T := 56) (fr := (0, 0))
   simp only [List.cons_append, List.nil_append] at hq0
   have hf := hf.mono hz
   have hk := hk.mono hz
   have ht := ht.mono hz
   have hle := hle.trans hz
   have hau := hau.mono hz
   have q0 : Still _ ((⟨bb, 0, none⟩ : Addr).add (0 * 1)) [.pointer (some pu)] := hq0.cellAt 0 rfl
   have hl1 := B7 m a k
   skip
   rw [I4] at hR
   simp only [hv0] at hR
   refine Ck (fun w h => Mem.sub (L' := (b, _) :: (b4, _) :: L) Bo h) ?_; refine Ao rfl ?_; refine Bq rfl .free rfl ?_; refine Ca rfl (Cj hf.rep _) ?_; rintro _ _ _ _ ⟨rfl, rfl, rfl⟩; rw [show (Ex.lt z a d).tree.head = [108, 101, 116] from rfl]; refine Ab (Ar (Se rfl (Od rfl rfl rfl (Oa rfl (Ab ?_)))))
   first | refine Sf rfl Ad ?_ | refine Ay Am ?_
   refine Se rfl (Od rfl rfl rfl (Oa rfl (Ab ?_)))
   first | refine St rfl (rfl) ?_ | refine Bs Am ?_
   refine Eb 16 rfl rfl ?_; refine Da 0 rfl (Ap rfl) ?_; refine Dt 1 [14] rfl (Cn rfl) ?_
   first | refine Da 2 rfl (Bw rfl rfl 3 rfl) ?_ | refine Da 2 rfl (Bx rfl rfl 3 rfl) ?_
   refine Dt 3 [14] rfl (C7 rfl) ?_; refine Da 4 rfl (Ak rfl) ?_; refine Da 5 rfl (Ap rfl) ?_; refine Dt 6 [14] rfl (Cn rfl) ?_
   first | refine Da 7 rfl (Bw rfl rfl 1 rfl) ?_ | refine Da 7 rfl (Bx rfl rfl 1 rfl) ?_
   refine Da 8 rfl (Bi rfl) ?_; refine Dt 9 [14] rfl (Kj rfl) ?_; refine Da 10 rfl (Ak rfl) ?_
   first | refine Da 11 rfl (Bw rfl rfl 0 rfl) ?_ | refine Da 11 rfl (Bx rfl rfl 0 rfl) ?_
   refine Dt 12 [14] rfl (Ew rfl (Ba q0 rfl)) ?_; refine Dc 13 rfl rfl (L7 hk z hau _) ?_; rintro _ J2 _ e2 ⟨y2, rfl, hk2, rfl⟩
   have hf := hf.mono e2
   have hle := hle.trans e2
   refine Hx ?_; refine Dx 14 rfl rfl rfl rfl ?_; refine Db 15 rfl (At rfl) ?_; refine A5 Ae ?_; refine Aq (Aq ?_); refine Ck (fun w h => h.f1) (Cw (E' := [(0, .pointer (some ⟨b, 0, none⟩)), (2, .pointer (some y2)), (4, .pointer (some ⟨b4, 0, none⟩))]) ⟨rfl, rfl, rfl, trivial⟩ (ih ⟨d, .cons z u k, some y2, (eval m a k).left, _, oaf 3, cf 3⟩ ⟨hle, hf.as 3 d.tree Aa rfl, hok.2, hk2, ⟨hok.1.1, wu, hkw⟩, fun y hy => ?_, by show (eval m a k).left < N + 1; omega, by show (eval m a k).left ≤ 1000000; omega, hR⟩ D1))
   simp only [KE.dom, List.mem_cons]
   by_cases hyx : y = z
   ·exact .inl hyx
   ·exact .inr (hd y (List.mem_append_right _ (show y ∈ d.occ ([] ++ [z]) from Ex.occ_mem.2 ⟨hy, by simpa using hyx⟩)))
  ·skip
   refine Ao rfl ?_; refine Bq rfl .free rfl ?_; refine Ca rfl (Cz hr _) ?_; rintro _ _ _ _ ⟨rfl, rfl, rfl⟩; rw [show (Ex.un o a).tree.parts.isEmpty = false from rfl]; refine Ab ?_
   first | refine Sf rfl Af ?_ | refine Ay Am ?_
   refine Aj (Ah (Se rfl ?_)); refine Bq rfl .free rfl ?_; refine Ca rfl (Cj hr _) ?_; rintro _ _ _ _ ⟨rfl, rfl, rfl⟩; obtain ⟨oa2, c2, oaf, cf, he2, hf⟩ := hr.at'
   simp only [List.cons.injEq, Value.slice.injEq, and_true, true_and] at he2
   obtain ⟨rfl, rfl⟩ := he2; obtain ⟨xa, rfl⟩ : ∃ x, oc = some x := ⟨_, Ec hf.nil (show 0 < 2 by decide)⟩
   have hlen : (Ex.un o a).tree.parts.length = 2 := rfl
   have hev : evT (Ex.un o a).tree = [1] := by cases o <;> rfl
   simp only [Ex.ok, Bool.and_eq_true] at hok
   rw [show (Ex.un o a).tree.head = o.txt from rfl]; refine Od rfl rfl rfl (Ab ?_)
   first | refine Fw rfl (o.txt_ne.2.2.1) ?_ | refine Fv rfl (o.txt_ne.2.2.1) ?_ | refine Ay Am ?_
   refine Aj (Se rfl (Oa rfl (Ab (Ah (Se rfl ?_))))); refine Bq rfl .free rfl ?_; refine Ca rfl (Gc hf.rep _) ?_; rintro _ J0 _ e0 ⟨oq, ck, rfl, hn0, rfl⟩
   have hf := hf.mono e0
   have hk := hk.mono e0
   have ht := ht.mono e0
   have hle := hle.trans e0
   rw [hev] at hn0; rw [hev]; refine On rfl (Om rfl (Ab (Ar ?_))); refine F0 ?_; refine Se rfl (Oc rfl rfl rfl (Ab (Ah ?_))); refine Dj rfl By ?_; refine Aj (Ah (Ar (Se rfl ?_)))
   first | refine Bk rfl rfl _ rfl .free rfl ?_ | refine Bl rfl rfl _ rfl .free rfl ?_
   refine Gh rfl .free rfl ?_; refine Oa rfl (Ab (Se rfl (Om rfl (Oh rfl ?_)))); refine Bd rfl .free rfl ?_; refine Om rfl ?_
   first | refine Bk rfl rfl _ rfl .free rfl ?_ | refine Bl rfl rfl _ rfl .free rfl ?_
   refine Gu rfl .free rfl ?_; refine Om rfl ?_; refine Fl (fun w h => h.f1) ?_; refine Ca rfl (ihn ht m Aa Aa (hf.as 1 a.tree Aa rfl) hok hk hkw (fun y hy => hd y hy) b _) ?_; rintro _ J1 _ e1 ⟨p0, rfl, hp0, rfl⟩
   have hf := hf.mono e1
   have hk := hk.mono e1
   have ht := ht.mono e1
   have hn0 := hn0.mono e1
   have hle := hle.trans e1
   unfold S1
   refine Oa rfl (Ab (Ah (Se rfl (Om rfl ?_)))); refine Hj rfl rfl .free rfl ?_; refine Ab ?_; refine Av rfl ?_ ?_
   ·intro c5
    try simp only [nb] at c5
    obtain ⟨hv0, rfl⟩ := Kq hp0 c5
    have hRR : eval m a k = R := by
     rw [I5] at hR
     simpa only [hv0] using hR
    refine Se rfl (Oa rfl (Ab (Ai (.tmp rfl .nil) ?_))); subst hRR
    exact ⟨_, _, hle, Ms (L' := (b, _) :: L), none, rfl, by rw [hv0]; rfl, rfl⟩
   intro c5
   try simp only [nb] at c5
   obtain ⟨u, pu, hv0, rfl, hau⟩ := Kr hp0 (by simpa using c5); obtain ⟨wu, hst0⟩ := Lf hkw hok (fun y hy => hd y hy) hv0; rw [hst0]; refine Aj (Ao rfl (Om rfl (Om rfl ?_))); refine Ol rfl rfl ?_; intro b62; refine D3 (B := none) (xs := []) (ys := [.pointer (some pu)]) (m := 0) (c := 0) A4 Ac rfl rfl ⟨rfl, rfl, rfl⟩ (fun _ h => h) Ac (fun a ha => by cases ha; exact Bg (.head _) Ac) Af Ac Ad Ad Aa Ad .free rfl ?_; intro bb sp c2 hB
   simp only [Cb, List.cons_append, List.nil_append, Nat.zero_add]
   refine Oa rfl (Ab (Aq (Ao rfl ?_))); refine Or rfl rfl rfl ?_; refine Om rfl (Ab ?_); refine Dd ?_; refine Se rfl (Oc rfl rfl rfl (Ab (Ah ?_))); refine E6 rfl By ?_; refine Cs rfl ?_; refine Ah ?_; refine Bv ?_; intro hz
   have hq0 := B0 (I := J1) (b := bb) (xs := [.pointer (some pu)]) (ys := sp) (T := 56) (fr := (0, 0))
   simp only [List.cons_append, List.nil_append] at hq0
   have hf := hf.mono hz
   have hk := hk.mono hz
   have ht := ht.mono hz
   have hle := hle.trans hz
   have hau := hau.mono hz
   have q0 : Still _ ((⟨bb, 0, none⟩ : Addr).add (0 * 1)) [.pointer (some pu)] := hq0.cellAt 0 rfl
   have hl1 := B7 m a k
   skip
   rw [I5] at hR
   simp only [hv0] at hR
   refine Ck (fun w h => Mem.sub (L' := (b, _) :: (b4, _) :: L) Bo h) ?_; refine Ao rfl ?_; refine Bq rfl .free rfl ?_; refine Ca rfl (Cj hf.rep _) ?_; rintro _ _ _ _ ⟨rfl, rfl, rfl⟩; rw [show (Ex.un o a).tree.head = o.txt from rfl]; refine Ab (Ar (Se rfl (Od rfl rfl rfl (Oa rfl (Ab ?_)))))
   first | refine Fw rfl (o.txt_ne.1) ?_ | refine Fv rfl (o.txt_ne.1) ?_ | refine Ay Am ?_
   refine Se rfl (Od rfl rfl rfl (Oa rfl (Ab ?_)))
   first | refine Fw rfl (o.txt_ne.2.1) ?_ | refine Fv rfl (o.txt_ne.2.1) ?_ | refine Ay Am ?_
   refine Se rfl (Od rfl rfl rfl (Oa rfl (Ab ?_)))
   first | refine Fw rfl (fun h => M6 .call o h.symm) ?_ | refine Fv rfl (fun h => M6 .call o h.symm) ?_ | refine Ay Am ?_
   refine Se rfl (Om rfl ?_); refine Bq rfl .free rfl ?_; refine Ca rfl (Cj hf.rep _) ?_; rintro _ _ _ _ ⟨rfl, rfl, rfl⟩; rw [show (Ex.un o a).tree.head = o.txt from rfl]; refine Om rfl ?_; refine Ca rfl (Wk hq0 hau b (eval m a k).left _) ?_; rintro _ J3 _ e3 ⟨p3, rfl, hp3, rfl⟩; refine Oa rfl (Ab (Ai (.tmp rfl .nil) ?_))
   have hRR : Res.of (o.act u) (eval m a k).left = R := hR
   subst hRR
   exact ⟨J3, _, hle.trans e3, fun w h => Mem.sub (L' := S1 b _ _ :: L) Bo h, p3, rfl, hp3, rfl⟩
theorem N8 {I : Heap} (ht : Tab I) {e : Ex} {cs : List Value} {k : KE} {pk : Option Addr} (n : Nat) (hm : n ≤ 1000000) (h : Rep I e.tree cs) (hok : e.ok = true) (hk : KEat I k pk) (hkw : k.wf) (hd : ∀ y ∈ e.occ [], y ∈ k.dom) (b : Nat) (L : Bh) :
  Fun Tryz.prog 43 [.pointer (some ⟨b, 0, none⟩), .agg cs.toArray, .pointer pk] I (S1 b n false :: L) (EVP b (eval n e k) L) := Aaj _ ht n (Nat.lt_succ_self _) hm h hok hk hkw hd b L
def SP (o : Option Ex) (L : Bh) : C3 := fun v I' L' => ∃ (t : Tree) (ds : List Value), v = .tuple #[.agg (List.toArray ds), .bool o.isSome] ∧ Rep I' t ds ∧ (∀ e', o = some e' → t = e'.tree) ∧ L = L'
def Ahn (N : Nat) : Prop := ∀ {I : Heap} (_ : Tab I) {e : Ex} {cs : List Value} (_ : SizeOf.sizeOf e < N) (_ : Rep I e.tree cs) (_ : e.ok = true) (L : Bh), Fun Tryz.prog 66 [.agg cs.toArray] I L (SP e.step L)
theorem SP.none' {I : Heap} {o : Option Ex} {L : Bh} (ho : o = none) : SP o L (.tuple #[.agg (List.toArray [.string (str []), .slice none 0 0]), .bool false]) I L :=
 ⟨.node [] [], _, by rw [ho]; rfl, .ofAtom Ad, fun e' h => (by rw [ho] at h; cases h), rfl⟩
def Ahm (N : Nat) : Prop := ∀ {I : Heap} {e : Ex} {cs : List Value} (_ : SizeOf.sizeOf e < N) (_ : Rep I e.tree cs) (_ : e.ok = true) (L : Bh), Fun Tryz.prog 68 [.agg cs.toArray] I L (SP e.step L)
def nvT (s : As) : Int := bif Bt s then Du s else 0
theorem SP.same {I : Heap} {o : Option Ex} {t : Tree} {ds : List Value} {L : Bh} (h : Rep I t ds) (ho : o = none) : SP o L (.tuple #[.agg (List.toArray ds), .bool false]) I L :=
 ⟨t, ds, by rw [ho]; rfl, h, fun e' h => (by rw [ho] at h; cases h), rfl⟩
theorem Agm {e e' : Ex} (h : e.step = some e') : e.go = if e'.fine = true then some e' else none := by
 unfold Ex.go
 rw [if_neg (by rw [Nt h]; simp), h]; rfl
theorem SP.go {I : Heap} {e e' : Ex} {ds : List Value} {L : Bh} (hs : e.step = some e') (h : Rep I e'.tree ds) : SP e.go L (.tuple #[.agg (List.toArray ds), .bool e'.fine]) I L := by
 rw [Agm hs]
 cases hf : e'.fine with
 | true => exact ⟨_, ds, rfl, h, fun e2 h2 => by obtain rfl := Option.some.inj h2; rfl, rfl⟩
 | false => exact SP.same h rfl
structure SM where
 e : Ex
 i : Nat
 J : Heap
 o : Option Addr
 k : Nat
def SMr (r : Ex × Nat) (L : Bh) : C3 := fun v I' L' => v = .tuple #[.string (str r.1.tree.text), .int .i64 (r.2 : Nat), .bool true] ∧ L = L'
def MN (o : Option (As × Nat)) (L : Bh) : C3 := fun v I' L' => v = .tuple #[.string (str ((o.map (·.1)).getD [])), .int .i64 (((o.map (·.2)).getD 0 : Nat)), .bool o.isSome] ∧ L = L'
structure SN where
 e : Ex
 i : Nat
 J : Heap
def Res.fin (r : Res) : Prop := r.v ≠ none ∨ r.stuck = true
theorem Ij {r : Res} {w : KV} (h : r.v = some w) : r.fin := .inl (by rw [h]; simp)
theorem Aeb {r : Res} (h : ¬ r.fin) : r.v = none ∧ r.stuck = false := by
 unfold Res.fin at h
 rw [not_or] at h; refine ⟨?_, by simpa using h.2⟩
 cases hv : r.v with
 | none => rfl
 | some w => exact absurd (by rw [hv]; simp) h.1
theorem Ra (n : Nat) (e : Ex) (k : KE) : (eval (n + 1) e k).left ≤ n := by
 have h1 := fun a => B7 n a k
 cases e with
 | num s => exact Nat.le_refl _
 | name s => exact Nat.le_refl _
 | fn f x s t b => exact Nat.le_refl _
 | bin o a b =>
  rw [G4]
  have h2 := B7 (eval n a k).left b k
  have h1 := h1 a
  split
  ·exact h1
  ·split
   ·omega
   ·split
    ·exact Nat.le_trans (B7 _ _ _) Aa
    ·simp only [Res.of]; omega
 | ite a b c =>
  rw [Ht]
  have h1 := h1 a
  split
  ·exact h1
  ·exact Nat.le_trans (B7 _ _ _) h1
  ·exact h1
 | lt x a b =>
  rw [I4]
  have h1 := h1 a
  split
  ·exact h1
  ·exact Nat.le_trans (B7 _ _ _) h1
 | un o a =>
  rw [I5]
  have h1 := h1 a
  split
  ·exact h1
  ·exact h1
def L2 (o : B5) (u w : KV) (q : Nat) : Res := match o, u with
 | .call, .clo f x s t c r => eval q c (.cons x w (.cons f (.clo f x s t c r) r))
 | o, u => .of (o.act u w) q
theorem K6 (n : Nat) (o : B5) (a b : Ex) (k : KE) : eval (n + 1) (.bin o a b) k =
  match (eval n a k).v with
  | none => eval n a k
  | some u => match (eval (eval n a k).left b k).v with
   | none => eval (eval n a k).left b k
   | some w => L2 o u w (eval (eval n a k).left b k).left := by
 rw [G4]
 cases (eval n a k).v with
 | none => rfl
 | some u =>
  simp only
  cases (eval (eval n a k).left b k).v with
  | none => rfl
  | some w => cases o <;> cases u <;> rfl
theorem Hd {o : B5} {u w : KV} {q : Nat} (h : ¬ ∃ f x s t c r, o = .call ∧ u = .clo f x s t c r) : L2 o u w q = .of (o.act u w) q := by
 cases o <;> first | rfl | (cases u <;> first | rfl | exact absurd ⟨_, _, _, _, _, _, rfl, rfl⟩ h)
theorem L3 (o : B5) (u w : KV) (q : Nat) : (L2 o u w q).left ≤ q := by
 by_cases hc : ∃ f x s t c r, o = .call ∧ u = .clo f x s t c r
 ·obtain ⟨f, x, s, t, c, r, rfl, rfl⟩ := hc
  exact B7 _ _ _
 ·rw [Hd hc]; exact Nat.le_refl _
theorem Kl {f x : As} {s t : Ty} {c : Ex} {r : KE} {w : KV} {q : Nat} : L2 .call (.clo f x s t c r) w q = eval q c (.cons x w (.cons f (.clo f x s t c r) r)) := rfl
def Res.at (r : Res) (n m : Nat) : Res := ⟨r.v, m + r.left - n, r.stuck⟩
theorem Pb : ∀ (n : Nat) (e : Ex) (k : KE) (m : Nat), (eval n e k).fin → n ≤ m + (eval n e k).left → eval m e k = (eval n e k).at n m := by
 intro n
 induction n using Nat.strongRecOn with
 | _ n ih =>
  intro e k m h hm
  cases n with
  | zero => rw [Is] at h; rcases h with h | h; exact absurd rfl h; cases h
  | succ n =>
   have hl1 := Ra n e k
   obtain ⟨m, rfl⟩ : ∃ q, m = q + 1 := ⟨m - 1, by omega⟩
   have hl := fun e k => B7 n e k
   cases e with
   | num s => rw [Kc, Kc]; simp only [Res.at, Res.mk.injEq, and_true, true_and]; omega
   | name s => rw [Ir, Ir]; simp only [Res.at, Res.mk.injEq, and_true, true_and]; omega
   | fn f x s t b => rw [Lg, Lg]; simp only [Res.at, Res.mk.injEq, and_true, true_and]; omega
   | bin o a b =>
    have hla := hl a k
    rw [K6 n] at h hm ⊢; rw [K6 m]
    cases hp : (eval n a k).v with
    | none =>
     rw [hp] at h hm
     simp only at h hm ⊢
     rw [ih n Aa a k m h Aa]
     simp only [Res.at, hp, Res.mk.injEq, and_true, true_and]; omega
    | some u =>
     rw [hp] at h hm
     simp only at h hm ⊢
     have hlb := B7 (eval n a k).left b k
     cases hq : (eval (eval n a k).left b k).v with
     | none =>
      rw [hq] at h hm
      simp only at h hm ⊢
      rw [ih n Aa a k m (Ij hp) Aa]
      simp only [Res.at, hp]
      rw [ih _ Aa b k (m + (eval n a k).left - n) h Aa]
      simp only [Res.at, hq, Res.mk.injEq, and_true, true_and]; omega
     | some w =>
      rw [hq] at h hm
      simp only at h hm ⊢
      rw [ih n Aa a k m (Ij hp) (by have := L3 o u w (eval (eval n a k).left b k).left; omega)]
      simp only [Res.at, hp]
      rw [ih _ Aa b k (m + (eval n a k).left - n) (Ij hq) (by have := L3 o u w (eval (eval n a k).left b k).left; omega)]
      simp only [Res.at, hq]
      have hq2 := L3 o u w (eval (eval n a k).left b k).left
      rw [show m + (eval n a k).left - n + (eval (eval n a k).left b k).left - (eval n a k).left = m + (eval (eval n a k).left b k).left - n by omega]
      by_cases hc : ∃ f x s t c r, o = .call ∧ u = .clo f x s t c r
      ·obtain ⟨f, x, s, t, c, r, rfl, rfl⟩ := hc; rw [Kl] at h hm hq2 ⊢; rw [Kl]; rw [ih _ Aa c _ (m + (eval (eval n a k).left b k).left - n) h Aa]
       simp only [Res.at, Res.mk.injEq, and_true, true_and]; omega
      ·rw [Hd hc] at h hm hq2 ⊢; rw [Hd hc]
       simp only [Res.of] at h hm hq2 ⊢
       simp only [Res.mk.injEq, and_true, true_and]; omega
   | ite a b c =>
    have hla := hl a k
    rw [Ht n] at h hm ⊢; rw [Ht m]
    cases hp : (eval n a k).v with
    | none =>
     rw [hp] at h hm
     simp only at h hm ⊢
     rw [ih n Aa a k m h Aa]
     simp only [Res.at, hp, Res.mk.injEq, and_true, true_and]; omega
    | some u =>
     rw [hp] at h hm
     cases u with
     | num s =>
      simp only at h hm ⊢
      have hlb := B7 (eval n a k).left (if s = [48] then b else c) k
      rw [ih n Aa a k m (Ij hp) Aa]
      simp only [Res.at, hp]
      rw [ih _ Aa _ k (m + (eval n a k).left - n) h Aa]
      simp only [Res.at, Res.mk.injEq, and_true, true_and]; omega
     | _ =>
      simp only at h hm ⊢
      rw [ih n Aa a k m (Ij hp) Aa]
      simp only [Res.at, hp, Res.mk.injEq, and_true, true_and]; omega
   | lt x a b =>
    have hla := hl a k
    rw [I4 n] at h hm ⊢; rw [I4 m]
    cases hp : (eval n a k).v with
    | none =>
     rw [hp] at h hm
     simp only at h hm ⊢
     rw [ih n Aa a k m h Aa]
     simp only [Res.at, hp, Res.mk.injEq, and_true, true_and]; omega
    | some u =>
     rw [hp] at h hm
     simp only at h hm ⊢
     have hlb := B7 (eval n a k).left b (.cons x u k)
     rw [ih n Aa a k m (Ij hp) Aa]
     simp only [Res.at, hp]
     rw [ih _ Aa b _ (m + (eval n a k).left - n) h Aa]
     simp only [Res.at, Res.mk.injEq, and_true, true_and]; omega
   | un o a =>
    have hla := hl a k
    rw [I5 n] at h hm ⊢; rw [I5 m]
    cases hp : (eval n a k).v with
    | none =>
     rw [hp] at h hm
     simp only at h hm ⊢
     rw [ih n Aa a k m h Aa]
     simp only [Res.at, hp, Res.mk.injEq, and_true, true_and]; omega
    | some u =>
     rw [hp] at h hm
     simp only [Res.of] at h hm ⊢
     rw [ih n Aa a k m (Ij hp) Aa]
     simp only [Res.at, hp, Res.mk.injEq, and_true, true_and]; omega
theorem Aac {n n' : Nat} {e : Ex} {k : KE} (h : n' + (eval n e k).left < n) : (eval n' e k).v = none ∧ (eval n' e k).stuck = false := by
 by_cases hf : (eval n' e k).fin
 ·have h2 := B7 n' e k
  have := Pb n' e k n hf Aa
  rw [this] at h
  simp only [Res.at] at h; omega
 ·exact Aeb hf
theorem Aad {n m : Nat} {e : Ex} {k : KE} (h : (eval n e k).fin) (hm : n ≤ m) : eval m e k = (eval n e k).at n m := Pb n e k m h (by omega)
def Ex.kv (k : KE) : Ex → KV
 | .num s => .num s
 | .bin _ a b => .pair (a.kv k) (b.kv k)
 | .fn f x s t b => .clo f x s t b k
 | _ => .num []
def Ex.cost : Ex → Nat
 | .bin _ a b => 1 + a.cost + b.cost
 | _ => 1
def KV.show : KV → As
 | .num s => s
 | .pair a b => [40, 112, 97, 105, 114, 32] ++ a.show ++ [32] ++ b.show ++ [41]
 | .clo _ _ _ _ _ _ => [102, 117, 110]
theorem Vn : ∀ w : KV, w.ex.print.text = w.show
 | .num s => rfl
 | .pair a b => by
  simp only [KV.ex, Ex.print, KV.show, ← Vn a, ← Vn b]
  simp [Tree.text, Fz, D8]
 | .clo f x s t b r => rfl
def KV.wr (m : Nat) : KV → As → As
 | .num s, o => if m < o.length then o else o ++ s
 | .pair a b, o => if m < o.length then o else b.wr m (a.wr m (o ++ [40, 112, 97, 105, 114, 32]) ++ [32]) ++ [41]
 | .clo _ _ _ _ _ _, o => if m < o.length then o else o ++ [102, 117, 110]
theorem Jk (m : Nat) (w : KV) (o : As) (h : m < o.length) : w.wr m o = o := by cases w <;> simp only [KV.wr, if_pos h]
theorem P4 : ∀ (m : Nat) (w : KV) (o : As), o.length + w.show.length ≤ m → w.wr m o = o ++ w.show
 | m, .num s, o, h => by simp only [KV.show] at h; simp only [KV.wr, KV.show]; rw [if_neg (by omega)]
 | m, .clo _ _ _ _ _ _, o, h => by simp only [KV.show] at h; simp only [KV.wr, KV.show]; rw [if_neg (by omega)]
 | m, .pair a b, o, h => by
  simp only [KV.show, List.length_append, List.length_cons, List.length_nil] at h
  simp only [KV.wr, KV.show]
  rw [if_neg (by omega)]; rw [P4 m a _ (by simp only [List.length_append, List.length_cons, List.length_nil]; omega)]; rw [P4 m b _ (by simp only [List.length_append, List.length_cons, List.length_nil]; omega)]
  simp only [List.append_assoc]
theorem Vr : ∀ (m : Nat) (w : KV) (o : As), o.length ≤ (w.wr m o).length
 | m, .num s, o => by simp only [KV.wr]; split <;> simp
 | m, .clo _ _ _ _ _ _, o => by simp only [KV.wr]; split <;> simp
 | m, .pair a b, o => by
  simp only [KV.wr]
  split
  ·exact Nat.le_refl _
  ·have h1 := Vr m a (o ++ [40, 112, 97, 105, 114, 32])
   have h2 := Vr m b (a.wr m (o ++ [40, 112, 97, 105, 114, 32]) ++ [32])
   simp only [List.length_append, List.length_cons, List.length_nil] at h1 h2 ⊢
   omega
theorem Vs : ∀ (m : Nat) (w : KV) (o : As), m < o.length + w.show.length → m < (w.wr m o).length
 | m, .num s, o, h => by
  simp only [KV.show] at h
  simp only [KV.wr]
  split
  ·assumption
  ·simpa using h
 | m, .clo _ _ _ _ _ _, o, h => by
  simp only [KV.show] at h
  simp only [KV.wr]
  split
  ·assumption
  ·simpa using h
 | m, .pair a b, o, h => by
  simp only [KV.show, List.length_append, List.length_cons, List.length_nil] at h
  simp only [KV.wr]
  split
  ·assumption
  ·have h1 := Vr m a (o ++ [40, 112, 97, 105, 114, 32])
   have h2 := Vr m b (a.wr m (o ++ [40, 112, 97, 105, 114, 32]) ++ [32])
   simp only [List.length_append, List.length_cons, List.length_nil] at h1 h2 ⊢
   by_cases ha : m < o.length + 6 + a.show.length
   ·have := Vs m a (o ++ [40, 112, 97, 105, 114, 32]) (by simpa using ha)
    omega
   ·rw [P4 m a _ (by simp only [List.length_append, List.length_cons, List.length_nil]; omega)] at h2 ⊢
    simp only [List.length_append, List.length_cons, List.length_nil] at h2
    by_cases hb : m < o.length + 6 + a.show.length + 1 + b.show.length
    ·have := Vs m b (o ++ [40, 112, 97, 105, 114, 32] ++ a.show ++ [32]) (by simp only [List.length_append, List.length_cons, List.length_nil]; omega)
     omega
    ·rw [P4 m b _ (by simp only [List.length_append, List.length_cons, List.length_nil]; omega)]
     simp only [List.length_append, List.length_cons, List.length_nil]
     omega
mutual
def KV.high : KV → Nat
 | .num _ => 0
 | .pair a b => 1 + max a.high b.high
 | .clo _ _ _ _ _ r => r.high
def KE.high : KE → Nat
 | .nil => 0
 | .cons _ v up => max v.high up.high
end
theorem Vt : ∀ (m : Nat) (w : KV) (o : As), w.wf → o.length ≤ m → (w.wr m o).length ≤ m + 6 + 2 * w.high
 | m, .num s, o, hw, h => by
  have := Jt (show Bt s = true from hw)
  simp only [KV.wr]
  rw [if_neg (by omega)]
  simp only [List.length_append]; omega
 | m, .clo _ _ _ _ _ _, o, hw, h => by
  simp only [KV.wr]
  rw [if_neg (by omega)]
  simp only [List.length_append, List.length_cons, List.length_nil]; omega
 | m, .pair a b, o, hw, h => by
  simp only [KV.wr, KV.high]
  rw [if_neg (by omega)]
  have ha : (a.wr m (o ++ [40, 112, 97, 105, 114, 32])).length ≤ m + 6 + 2 * a.high := by
   by_cases h6 : m < o.length + 6
   ·rw [Jk m a _ (by simpa using h6)]
    simp only [List.length_append, List.length_cons, List.length_nil]; omega
   ·exact Vt m a _ hw.1 Ny
  have hb : (b.wr m (a.wr m (o ++ [40, 112, 97, 105, 114, 32]) ++ [32])).length ≤ m + 7 + 2 * max a.high b.high := by
   by_cases h6 : m < (a.wr m (o ++ [40, 112, 97, 105, 114, 32])).length + 1
   ·rw [Jk m b _ (by simpa using h6)]
    simp only [List.length_append, List.length_cons, List.length_nil]; omega
   ·have := Vt m b (a.wr m (o ++ [40, 112, 97, 105, 114, 32]) ++ [32]) hw.2 Ny
    omega
  simp only [List.length_append, List.length_cons, List.length_nil]; omega
theorem Tf : ∀ {k : KE} {n : As} {v : KV}, k.look n = some v → v.high ≤ k.high
 | .nil, n, v, h => by cases h
 | .cons m u up, n, v, h => by
  simp only [KE.look] at h
  simp only [KE.high]
  split at h
  ·obtain rfl := Option.some.inj h; omega
  ·have := Tf h; omega
theorem Abt {o : B5} {u w v : KV} (h : o.act u w = some v) : v.high ≤ 1 + max u.high w.high := by
 cases o with
 | pair => obtain rfl := Option.some.inj h; exact Nat.le_refl _
 | call => cases h
 | _ =>
  cases u with
  | num s =>
   cases w with
   | num q => obtain rfl := Option.some.inj h; exact Nat.zero_le _
   | _ => cases h
  | _ => cases w <;> cases h
theorem Z1 {o : U2} {u v : KV} (h : o.act u = some v) : v.high ≤ u.high := by
 cases u with
 | pair a b => cases o <;> (obtain rfl := Option.some.inj h; simp only [KV.high]; omega)
 | _ => cases o <;> cases h
theorem S0 : ∀ (n : Nat) (e : Ex) (k : KE) {w : KV}, (eval n e k).v = some w → w.high + (eval n e k).left ≤ k.high + n := by
 intro n
 induction n using Nat.strongRecOn with
 | _ n ih =>
  intro e k w h
  cases n with
  | zero => rw [Is] at h; cases h
  | succ n =>
   have hl := fun e k => B7 n e k
   cases e with
   | num s => rw [Kc] at h ⊢; obtain rfl := Option.some.inj h; simp only [KV.high]; omega
   | name s => rw [Ir] at h ⊢; have := Tf h; simp only; omega
   | fn f x s t b => rw [Lg] at h ⊢; obtain rfl := Option.some.inj h; simp only [KV.high]; omega
   | bin o a b =>
    have hla := hl a k
    have hlb := B7 (eval n a k).left b k
    rw [K6 n] at h ⊢
    cases hp : (eval n a k).v with
    | none => rw [hp] at h; simp only at h; rw [hp] at h; cases h
    | some u =>
     rw [hp] at h
     simp only at h ⊢
     have h1 := ih n Aa a k hp
     cases hq : (eval (eval n a k).left b k).v with
     | none => rw [hq] at h; simp only at h; rw [hq] at h; cases h
     | some v =>
      rw [hq] at h
      simp only at h ⊢
      have h2 := ih _ Aa b k hq
      by_cases hc : ∃ f x s t c r, o = .call ∧ u = .clo f x s t c r
      ·obtain ⟨f, x, s, t, c, r, rfl, rfl⟩ := hc; rw [Kl] at h ⊢
       have h3 := ih _ Aa c _ h
       simp only [KE.high, KV.high] at h3 h1
       omega
      ·rw [Hd hc] at h ⊢
       have := Abt (show o.act u v = some w from h)
       simp only [Res.of]; omega
   | ite a b c =>
    have hla := hl a k
    rw [Ht n] at h ⊢
    cases hp : (eval n a k).v with
    | none => rw [hp] at h; simp only at h; rw [hp] at h; cases h
    | some u =>
     rw [hp] at h
     cases u with
     | num s =>
      simp only at h ⊢
      have := ih _ Aa _ k h
      omega
     | _ => cases h
   | lt x a b =>
    have hla := hl a k
    rw [I4 n] at h ⊢
    cases hp : (eval n a k).v with
    | none => rw [hp] at h; simp only at h; rw [hp] at h; cases h
    | some u =>
     rw [hp] at h
     simp only at h ⊢
     have h1 := ih n Aa a k hp
     have := ih _ Aa b _ h
     simp only [KE.high] at this
     omega
   | un o a =>
    have hla := hl a k
    rw [I5 n] at h ⊢
    cases hp : (eval n a k).v with
    | none => rw [hp] at h; simp only at h; rw [hp] at h; cases h
    | some u =>
     rw [hp] at h
     simp only at h ⊢
     have h1 := ih n Aa a k hp
     have := Z1 (show o.act u = some w from h)
     simp only [Res.of]; omega
mutual
def KV.tall : KV → Nat
 | .num _ => 0
 | .pair a b => max a.tall b.tall
 | .clo _ _ _ _ _ r => r.tall
def KE.tall : KE → Nat
 | .nil => 0
 | .cons _ v up => 1 + max v.tall up.tall
end
def KE.names : KE → List As
 | .nil => []
 | .cons n _ up => up.names ++ [n]
theorem Ll : ∀ k : KE, k.names.length ≤ k.tall
 | .nil => Nat.le_refl _
 | .cons n v up => by have := Ll up; simp only [KE.names, KE.tall, List.length_append, List.length_cons, List.length_nil]; omega
theorem Tg : ∀ {k : KE} {n : As} {v : KV}, k.look n = some v → v.tall ≤ k.tall
 | .nil, n, v, h => by cases h
 | .cons m u up, n, v, h => by
  simp only [KE.look] at h
  simp only [KE.tall]
  split at h
  ·obtain rfl := Option.some.inj h; omega
  ·have := Tg h; omega
theorem Abw {o : B5} {u w v : KV} (h : o.act u w = some v) : v.tall ≤ max u.tall w.tall := by
 cases o with
 | pair => obtain rfl := Option.some.inj h; exact Nat.le_refl _
 | call => cases h
 | _ =>
  cases u with
  | num s =>
   cases w with
   | num q => obtain rfl := Option.some.inj h; exact Nat.zero_le _
   | _ => cases h
  | _ => cases w <;> cases h
theorem Z3 {o : U2} {u v : KV} (h : o.act u = some v) : v.tall ≤ u.tall := by
 cases u with
 | pair a b => cases o <;> (obtain rfl := Option.some.inj h; simp only [KV.tall]; omega)
 | _ => cases o <;> cases h
theorem K7 : ∀ (n : Nat) (e : Ex) (k : KE) {w : KV}, (eval n e k).v = some w → w.tall + 2 * (eval n e k).left ≤ k.tall + 2 * n := by
 intro n
 induction n using Nat.strongRecOn with
 | _ n ih =>
  intro e k w h
  cases n with
  | zero => rw [Is] at h; cases h
  | succ n =>
   have hl := fun e k => B7 n e k
   cases e with
   | num s => rw [Kc] at h ⊢; obtain rfl := Option.some.inj h; simp only [KV.tall]; omega
   | name s => rw [Ir] at h ⊢; have := Tg h; simp only; omega
   | fn f x s t b => rw [Lg] at h ⊢; obtain rfl := Option.some.inj h; simp only [KV.tall]; omega
   | bin o a b =>
    have hla := hl a k
    have hlb := B7 (eval n a k).left b k
    rw [K6 n] at h ⊢
    cases hp : (eval n a k).v with
    | none => rw [hp] at h; simp only at h; rw [hp] at h; cases h
    | some u =>
     rw [hp] at h
     simp only at h ⊢
     have h1 := ih n Aa a k hp
     cases hq : (eval (eval n a k).left b k).v with
     | none => rw [hq] at h; simp only at h; rw [hq] at h; cases h
     | some v =>
      rw [hq] at h
      simp only at h ⊢
      have h2 := ih _ Aa b k hq
      by_cases hc : ∃ f x s t c r, o = .call ∧ u = .clo f x s t c r
      ·obtain ⟨f, x, s, t, c, r, rfl, rfl⟩ := hc; rw [Kl] at h ⊢
       have h3 := ih _ Aa c _ h
       simp only [KE.tall, KV.tall] at h3 h1
       omega
      ·rw [Hd hc] at h ⊢
       have := Abw (show o.act u v = some w from h)
       simp only [Res.of]; omega
   | ite a b c =>
    have hla := hl a k
    rw [Ht n] at h ⊢
    cases hp : (eval n a k).v with
    | none => rw [hp] at h; simp only at h; rw [hp] at h; cases h
    | some u =>
     rw [hp] at h
     cases u with
     | num s =>
      simp only at h ⊢
      have := ih _ Aa _ k h
      omega
     | _ => cases h
   | lt x a b =>
    have hla := hl a k
    rw [I4 n] at h ⊢
    cases hp : (eval n a k).v with
    | none => rw [hp] at h; simp only at h; rw [hp] at h; cases h
    | some u =>
     rw [hp] at h
     simp only at h ⊢
     have h1 := ih n Aa a k hp
     have := ih _ Aa b _ h
     simp only [KE.tall] at this
     omega
   | un o a =>
    have hla := hl a k
    rw [I5 n] at h ⊢
    cases hp : (eval n a k).v with
    | none => rw [hp] at h; simp only at h; rw [hp] at h; cases h
    | some u =>
     rw [hp] at h
     simp only at h ⊢
     have h1 := ih n Aa a k hp
     have := Z3 (show o.act u = some w from h)
     simp only [Res.of]; omega
def Nd (e : Ex) (n : Nat) : Option (As × Nat) := match (eval n e .nil).v with
 | some w => if w.show.length ≤ 12000 then some (w.show, n - (eval n e .nil).left) else none
 | none => none
def Hs (s : As) (n : Int) : Option (As × Nat) := if 0 ≤ n ∧ n ≤ 2000 then (Cm s).bind fun e => Nd e n.toNat else none
def Ag1 (s : As) (n : Int) : Bool := if 0 ≤ n ∧ n ≤ 2000 then (match Cm s with | some e => (eval n.toNat e .nil).stuck | none => false) else false
def Ahr (s : As) : Int := match Hs s 2000 with
 | some r => (r.2 : Nat)
 | none => -1
theorem Kb {s : As} {e : Ex} {n : Nat} (h : Cm s = some e) (hn : n ≤ 2000) : Hs s (n : Nat) = Nd e n := by
 unfold Hs; rw [if_pos Aa, h]; rfl
theorem Ka {s : As} {n : Int} (h : Cm s = none ∨ ¬ (0 ≤ n ∧ n ≤ 2000)) : Hs s n = none := by
 unfold Hs
 rcases h with h | h
 ·rw [h]; split <;> rfl
 ·rw [if_neg h]
theorem Ky {s : As} {e : Ex} (h : Cm s = some e) (n : Nat) : (eval n e .nil).says e := by
 obtain ⟨hx, hok, hz, hl, hcl⟩ := Ga h
 have hc : e.occ [] = [] := by simpa [Ex.closed] using hcl
 have := Pc n e .nil trivial hok (fun y hy => by rw [hc] at hy; cases hy)
 exact this
theorem Acd {e : Ex} {n : Nat} {r : As × Nat} (h : Nd e n = some r) : ∃ w, (eval n e .nil).v = some w ∧ r = (w.show, n - (eval n e .nil).left) ∧ w.show.length ≤ 12000 := by
 unfold Nd at h
 cases hv : (eval n e .nil).v with
 | none => rw [hv] at h; cases h
 | some w =>
  rw [hv] at h
  simp only at h
  split at h
  ·exact ⟨w, rfl, (Option.some.inj h).symm, by assumption⟩
  ·cases h
theorem N5 {e : Ex} {n : Nat} {w : KV} (h : (eval n e .nil).v = some w) (hl : w.show.length ≤ 12000) : Nd e n = some (w.show, n - (eval n e .nil).left) := by
 unfold Nd; rw [h]; simp only; rw [if_pos hl]
theorem Um {e : Ex} {n : Nat} (h : (eval n e .nil).v = none) : Nd e n = none := by unfold Nd; rw [h]
theorem K5 {s : As} {n : Int} {r : As × Nat} (h : Hs s n = some r) : ∃ (e : Ex) (N : Nat) (w : KV), Cm s = some e ∧ n = (N : Nat) ∧ N ≤ 2000 ∧ (eval N e .nil).v = some w ∧ r = (w.show, N - (eval N e .nil).left) ∧ w.show.length ≤ 12000 ∧ w.wf ∧ Goes e w.ex := by
 unfold Hs at h
 split at h
 ·rename_i hn
  obtain ⟨e, he, hr⟩ := Option.bind_eq_some_iff.1 h; obtain ⟨w, hw, hr2, hl⟩ := Acd hr; obtain ⟨h1, h2⟩ := Res.says.some hw (Ky he n.toNat)
  exact ⟨e, n.toNat, w, he, by omega, by omega, hw, hr2, hl, h1, h2⟩
 ·cases h
theorem Xs {n : Nat} {e : Ex} {k : KE} (h : (eval n e k).fin) : (eval n e k).left < n := by
 cases n with
 | zero => rw [Is] at h; rcases h with h | h; exact absurd rfl h; cases h
 | succ n => have := Ra n e k; omega
theorem X6 {s : As} {n m : Nat} {r : As × Nat} (h : Hs s (n : Nat) = some r) (hm : n ≤ m) (hm2 : m ≤ 2000) : Hs s (m : Nat) = some r := by
 obtain ⟨e, N, w, he, hN, hN2, hw, rfl, hl, -, -⟩ := K5 h; obtain rfl : n = N := by omega
 have hmo := Aad (Ij hw) hm
 have hle := B7 n e .nil
 rw [Kb he hm2, N5 (w := w) (by rw [hmo]; exact hw) hl, hmo]
 simp only [Res.at, Option.some.injEq, Prod.mk.injEq, true_and]; omega
theorem X7 {s : As} {n : Nat} {r : As × Nat} (h : Hs s (n : Nat) = some r) : Hs s (r.2 : Nat) = some r ∧ 1 ≤ r.2 ∧ r.2 ≤ n := by
 obtain ⟨e, N, w, he, hN, hN2, hw, rfl, hl, -, -⟩ := K5 h; obtain rfl : n = N := by omega
 have hle := B7 n e .nil
 have hlt := Xs (Ij hw)
 have hmo := Pb n e .nil (n - (eval n e .nil).left) (Ij hw) Aa
 simp only
 refine ⟨?_, by omega, by omega⟩; rw [Kb he Aa, N5 (w := w) (by rw [hmo]; exact hw) hl, hmo]
 simp only [Res.at, Option.some.injEq, Prod.mk.injEq, true_and]; omega
theorem X5 {s : As} {n : Nat} {r : As × Nat} (h : Hs s (n : Nat) = some r) : Hs s ((r.2 : Nat) - 1) = none := by
 obtain ⟨e, N, w, he, hN, hN2, hw, rfl, hl, -, -⟩ := K5 h; obtain rfl : n = N := by omega
 have hle := B7 n e .nil
 have hlt := Xs (Ij hw)
 simp only
 rw [show ((n - (eval n e .nil).left : Nat) : Int) - 1 = ((n - (eval n e .nil).left - 1 : Nat) : Int) by omega, Kb he Aa]
 exact Um (Aac (n := n) Aa).1
theorem Aei (n : Nat) : ∀ e : Ex, Goes e (e.goes n).1 := by
 induction n with
 | zero => intro e; exact .refl
 | succ n ih =>
  intro e
  simp only [Ex.goes]
  cases hg : e.go with
  | none => exact .refl
  | some d => exact .next (Oo hg).2.1 (ih d)
theorem So {e x : Ex} {w : KV} (hw : w.wf) (h : Goes e w.ex) (hx : Goes e x) (hv : x.value = true) : x.print.text = w.show := by
 obtain rfl := h.end (Nw (KV.closed hw).2.1) hx (Nw hv)
 exact Vn w
theorem Goes.ty {e d : Ex} (h : Goes e d) {t : Ty} (hok : e.ok = true) (hc : e.occ [] = []) (ht : e.ty [] [] = some t) : d.ty [] [] = some t ∧ d.ok = true ∧ d.occ [] = [] := by
 induction h with
 | refl => exact ⟨ht, hok, hc⟩
 | next hs _ ih => exact ih (Ex.step_ok hok hs) (Ex.step_closed hc hs) (Iz hok hc hs ht)
theorem Io (b : Nat) (pre : Bool) (xs : As) (B : Kx) (c : Nat) (hB : BOk xs B c) (I : Heap) (L : Bh) :
  Fun Tryz.prog 45 [.pointer (some ⟨b, 0, none⟩)] I (T7 b pre xs B c L) (fun v I' L' => v = .int .i64 (xs.length : Nat) ∧ I = I' ∧ L' = T7 b pre xs B c L) := by
 cases B with
 | none =>
  obtain ⟨⟨h1, h2, h3⟩, _⟩ := hB; obtain rfl : xs = [] := by simpa using h1
  refine Al Af ?_; refine Se rfl (Oa rfl (Ab (Ah ?_)))
  simp only [T7, Cb, List.nil_append, B8]
  refine Ao rfl (Om rfl ?_); refine Az rfl .free rfl ?_
  first | refine Oh rfl ?_ | refine Oj rfl ?_
  refine Cp rfl .free rfl ?_; refine On rfl (Oa rfl (Ab (Ai (.tmp rfl .nil) ?_)))
  exact ⟨I, _, .refl _, fun _ h => h, rfl, rfl, rfl⟩
 | some p =>
  obtain ⟨bb, sp⟩ := p; refine Al Af ?_; refine Se rfl (Oa rfl (Ab (Ah ?_)))
  simp only [T7, Cb, List.cons_append, List.nil_append, B8]
  refine Ao rfl (Om rfl ?_); refine Az rfl .free rfl ?_
  first | refine Oh rfl ?_ | refine Oj rfl ?_
  refine Cp rfl .free rfl ?_; refine On rfl (Oa rfl (Ab (Ai (.tmp rfl .nil) ?_)))
  exact ⟨I, _, .refl _, fun _ h => h, rfl, rfl, rfl⟩
theorem Adx (w : KV) (o : As) (hw : w.wf) (hh : w.high ≤ 4000) (ho : o.length ≤ 12010) : (w.wr 12000 o).length ≤ 20010 := by
 by_cases h : 12000 < o.length
 ·rw [Jk _ _ _ h]; omega
 ·have := Vt 12000 w o hw Aa
  omega
theorem Kw {a b : KV} {o : As} (h : ¬ 12000 < o.length) : (KV.pair a b).wr 12000 o = b.wr 12000 (a.wr 12000 (o ++ [40, 112, 97, 105, 114, 32]) ++ [32]) ++ [41] := by simp only [KV.wr, if_neg h]
theorem Re : ∀ (N : Nat) {I : Heap} {w : KV} {a : Addr} (_ : SizeOf.sizeOf w < N) (_ : KVat I w a) (_ : w.wf) (_ : w.high ≤ 4000) (b : Nat) (pre : Bool) (xs : As) (B : Kx) (c : Nat) (_ : BOk xs B c) (_ : xs.length ≤ 100000) (L : Bh),
  Fun Tryz.prog 44 [.pointer (some a), .pointer (some ⟨b, 0, none⟩)] I (T7 b pre xs B c L)
  (fun v I' L' => v = .tuple #[] ∧ I = I' ∧ ∃ pre' B' c', BOk (w.wr 12000 xs) B' c' ∧ L' = T7 b pre' (w.wr 12000 xs) B' c' L) := by
 intro N
 induction N with
 | zero => intro I w a h; omega
 | succ N ihn =>
  intro I w a hlt h hwf hhi b pre xs B c hB hx L; refine Al Af ?_; refine Ar (Se rfl (Om rfl ?_)); refine Ca rfl (Io b pre xs B c hB _ _) ?_; rintro _ _ _ _ ⟨rfl, rfl, rfl⟩; refine Oc rfl rfl rfl (Oa rfl (Ab ?_)); refine Si rfl ?_ ?_
  ·intro c0; refine Aj (Aq ?_); refine Ku .nil ?_
   first
   | exact ⟨I, _, .refl _, fun _ h => h, rfl, rfl, pre, B, c, by rw [Jk _ _ _ Aa]; exact hB, by rw [Jk _ _ _ Aa]⟩
   | exact ⟨I, _, .refl _, fun _ h => h, rfl, rfl, true, B1, c1, by simp only [KV.wr, if_neg hxs]; exact hB1, by simp only [KV.wr, if_neg hxs]⟩
   | exact ⟨I, _, .refl _, fun _ h => h, rfl, rfl, true, B5, c6, by rw [Kw hxs]; exact hB5, by rw [Kw hxs]⟩
  intro c0
  have hxs : ¬ 12000 < xs.length := by omega
  refine Ah ?_
  rcases h with @⟨s, a, hs⟩ | @⟨u1, u2, a, q2, p1, p2, c2, hs, hq2, hc2, h1, h2⟩ | @⟨f, x, s, t, bd, r, a, fa, oo, c2, pr, hs, hf, hrp, he⟩
  ·skip
   have hsl := Jt (show Bt s = true from hwf)
   refine Ao rfl (Om rfl ?_); refine Az rfl .free rfl ?_
   first | refine Oh rfl ?_ | refine Oj rfl ?_
   refine Br rfl (Bc hs Ac rfl) .free rfl ?_; refine Pr rfl rfl .free rfl ?_; refine Oa rfl (Ab ?_)
   first | refine Sf rfl Af ?_ | refine Ay Am ?_
   refine Se rfl (Om rfl ?_); refine Az rfl .free rfl ?_
   first | refine Oh rfl ?_ | refine Oj rfl ?_
   refine Br rfl (Bc hs Ac rfl) .free rfl ?_; refine My rfl rfl .free rfl ?_; refine Oa rfl (Ab ?_)
   first | refine Sf rfl Af ?_ | refine Ay Am ?_
   refine Ao rfl (Om rfl (Om rfl ?_)); refine Az rfl .free rfl ?_
   first | refine Oh rfl ?_ | refine Oj rfl ?_
   refine Br rfl (Bc hs Ac rfl) .free rfl ?_; refine Ca rfl (C4 b pre xs B c s hB Bz _ _) ?_; rintro _ _ _ _ ⟨rfl, rfl, B1, c1, hB1, rfl⟩; refine Ab (Aq ?_); refine Ku .nil ?_
   first
   | exact ⟨I, _, .refl _, fun _ h => h, rfl, rfl, pre, B, c, by rw [Jk _ _ _ Aa]; exact hB, by rw [Jk _ _ _ Aa]⟩
   | exact ⟨I, _, .refl _, fun _ h => h, rfl, rfl, true, B1, c1, by simp only [KV.wr, if_neg hxs]; exact hB1, by simp only [KV.wr, if_neg hxs]⟩
   | exact ⟨I, _, .refl _, fun _ h => h, rfl, rfl, true, B5, c6, by rw [Kw hxs]; exact hB5, by rw [Kw hxs]⟩
  ·skip
   have r0 : Still I (q2.add (0 * 1)) [.pointer (some p1)] := hq2.cellAt 0 rfl
   have r1 : Still I (q2.add (1 * 1)) [.pointer (some p2)] := hq2.cellAt 1 rfl
   simp only [KV.high] at hhi
   simp only [KV.pair.sizeOf_spec] at hlt
   refine Ao rfl (Om rfl ?_); refine Az rfl .free rfl ?_
   first | refine Oh rfl ?_ | refine Oj rfl ?_
   refine Br rfl (Bc hs Ac rfl) .free rfl ?_; refine Pr rfl rfl .free rfl ?_; refine Oa rfl (Ab ?_)
   first | refine St rfl Af ?_ | refine Bs Am ?_
   refine Se rfl (Om rfl ?_); refine Ca rfl (C4 b pre xs B c [40, 112, 97, 105, 114, 32] hB Mk _ _) ?_; rintro _ _ _ _ ⟨rfl, rfl, B1, c1, hB1, rfl⟩; refine Ab (Se rfl (Om rfl ?_)); refine Az rfl .free rfl ?_
   first | refine Oh rfl ?_ | refine Oj rfl ?_
   refine Br rfl (Bc hs Ac rfl) .free rfl ?_; refine Ce rfl rfl 0 rfl Bp Dh .free rfl ?_; refine Br rfl (Ba r0 rfl) .free rfl ?_; refine Om rfl ?_; refine Ca rfl (ihn Aa h1 hwf.1 Aa b true _ B1 c1 hB1 Ny _) ?_; rintro _ _ _ _ ⟨rfl, rfl, pr2, B2, c3, hB2, rfl⟩
   have hw1 := Adx u1 (xs ++ [40, 112, 97, 105, 114, 32]) hwf.1 Aa Ny
   refine Ab (Se rfl (Om rfl ?_)); refine Ca rfl (C4 b pr2 _ B2 c3 [32] hB2 Mk _ _) ?_; rintro _ _ _ _ ⟨rfl, rfl, B3, c4, hB3, rfl⟩; refine Ab (Se rfl (Om rfl ?_)); refine Az rfl .free rfl ?_
   first | refine Oh rfl ?_ | refine Oj rfl ?_
   refine Br rfl (Bc hs Ac rfl) .free rfl ?_; refine Ce rfl rfl 1 rfl Bp Dh .free rfl ?_; refine Br rfl (Ba r1 rfl) .free rfl ?_; refine Om rfl ?_; refine Ca rfl (ihn Aa h2 hwf.2 Aa b true _ B3 c4 hB3 (by simp only [List.length_append, List.length_cons, List.length_nil] at hw1 ⊢; omega) _) ?_; rintro _ _ _ _ ⟨rfl, rfl, pr4, B4, c5, hB4, rfl⟩
   have hw2 : (u2.wr 12000 (u1.wr 12000 (xs ++ [40, 112, 97, 105, 114, 32]) ++ [32])).length ≤ 30010 := by
    by_cases hq : 12000 < (u1.wr 12000 (xs ++ [40, 112, 97, 105, 114, 32]) ++ [32]).length
    ·rw [Jk _ _ _ hq]; simp only [List.length_append, List.length_cons, List.length_nil] at hw1 ⊢; omega
    ·have := Adx u2 _ hwf.2 Aa (show (u1.wr 12000 (xs ++ [40, 112, 97, 105, 114, 32]) ++ [32]).length ≤ 12010 by omega)
     omega
   refine Ab (Ao rfl (Om rfl ?_)); refine Ca rfl (C4 b pr4 _ B4 c5 [41] hB4 Mk _ _) ?_; rintro _ _ _ _ ⟨rfl, rfl, B5, c6, hB5, rfl⟩; refine Ab (Aq ?_); refine Ku .nil ?_
   first
   | exact ⟨I, _, .refl _, fun _ h => h, rfl, rfl, pre, B, c, by rw [Jk _ _ _ Aa]; exact hB, by rw [Jk _ _ _ Aa]⟩
   | exact ⟨I, _, .refl _, fun _ h => h, rfl, rfl, true, B1, c1, by simp only [KV.wr, if_neg hxs]; exact hB1, by simp only [KV.wr, if_neg hxs]⟩
   | exact ⟨I, _, .refl _, fun _ h => h, rfl, rfl, true, B5, c6, by rw [Kw hxs]; exact hB5, by rw [Kw hxs]⟩
  ·skip
   refine Ao rfl (Om rfl ?_); refine Az rfl .free rfl ?_
   first | refine Oh rfl ?_ | refine Oj rfl ?_
   refine Br rfl (Bc hs Ac rfl) .free rfl ?_; refine Pr rfl rfl .free rfl ?_; refine Oa rfl (Ab ?_)
   first | refine Sf rfl Af ?_ | refine Ay Am ?_
   refine Se rfl (Om rfl ?_); refine Az rfl .free rfl ?_
   first | refine Oh rfl ?_ | refine Oj rfl ?_
   refine Br rfl (Bc hs Ac rfl) .free rfl ?_; refine My rfl rfl .free rfl ?_; refine Oa rfl (Ab ?_)
   first | refine St rfl Af ?_ | refine Bs Am ?_
   refine Ao rfl (Om rfl ?_); refine Ca rfl (C4 b pre xs B c [102, 117, 110] hB Mk _ _) ?_; rintro _ _ _ _ ⟨rfl, rfl, B1, c1, hB1, rfl⟩; refine Ab (Aq ?_); refine Ku .nil ?_
   first
   | exact ⟨I, _, .refl _, fun _ h => h, rfl, rfl, pre, B, c, by rw [Jk _ _ _ Aa]; exact hB, by rw [Jk _ _ _ Aa]⟩
   | exact ⟨I, _, .refl _, fun _ h => h, rfl, rfl, true, B1, c1, by simp only [KV.wr, if_neg hxs]; exact hB1, by simp only [KV.wr, if_neg hxs]⟩
   | exact ⟨I, _, .refl _, fun _ h => h, rfl, rfl, true, B5, c6, by rw [Kw hxs]; exact hB5, by rw [Kw hxs]⟩
theorem Afr (s : As) (hs : s.length ≤ Bb) (n : Int) {I : Heap} (ht : Tab I) (L : Bh) : Fun Tryz.prog 13 [.string (str s), .int .i64 n] I L (MN (Hs s n) L) := by
 refine Al Af ?_; refine Se rfl ?_
 iterate 3 refine Oa rfl ?_
 refine Ab (Se rfl (Om rfl ?_)); refine Ca rfl (Us s hs _ _) ?_; rintro _ J _ hleJ ⟨t, cs, ok, rfl, hrep, rfl, hpf⟩; obtain ⟨oc, cc, _, rfl, -⟩ := hrep.open; refine Om rfl (Oe rfl rfl (Oe rfl rfl ?_)); refine A3 .free rfl ?_; intro b7; refine Bu rfl rfl rfl rfl .free ?_; refine Oa rfl (Ab (Ah (Ah ?_)))
 rcases hc : Cm s with _ | e
 ·skip
  rw [hc] at hpf; obtain rfl := hpf; refine Ao rfl (Om rfl ?_); refine Dl rfl .free rfl ?_; refine Om rfl ?_; refine Df (t := 19) rfl (v' := .bool true) Hc ?_
  iterate 3 refine Ch rfl rfl rfl ?_
  refine Ot rfl rfl (Ab ?_); refine Bs rfl ?_; refine Se rfl ?_
  iterate 3 refine Oa rfl ?_
  refine Ab ?_; refine Ai (.tmp rfl (.tmp rfl (.tmp rfl .nil))) ?_
  exact ⟨J, L, hleJ, Bj, by rw [Ka (.inl hc)]; rfl, rfl⟩
 ·skip
  rw [hc] at hpf; obtain ⟨rfl, rfl⟩ := hpf; obtain ⟨hx, hok, hz, hl, hcl⟩ := Ga hc
  have hoe : e.occ [] = [] := by simpa [Ex.closed] using hcl
  refine Ao rfl (Om rfl ?_); refine Dl rfl .free rfl ?_; refine Om rfl ?_; refine Df (t := 19) rfl (v' := .bool false) Hc ?_; refine Ow rfl ?_; refine Cv rfl (.met rfl rfl) rfl (Rg 0 n 2000 _ _) ?_; rintro _ _ _ _ ⟨rfl, rfl, rfl⟩; refine Dl rfl (.met rfl rfl) rfl ?_; refine Of rfl rfl (Ab ?_); refine Av rfl ?_ ?_
  ·intro c0
   try simp only [nb] at c0
   refine Se rfl ?_
   iterate 3 refine Oa rfl ?_
   refine Ab ?_; refine Ai (.tmp rfl (.tmp rfl (.tmp rfl .nil))) ?_
   exact ⟨J, L, hleJ, Bj, by rw [Ka (.inr Ey)]; rfl, rfl⟩
  intro c0
  try simp only [nb] at c0
  obtain ⟨N, rfl⟩ : ∃ N : Nat, n = (N : Nat) := ⟨n.toNat, by omega⟩
  have hN : N ≤ 2000 := by omega
  have hme := Kb hc hN
  have hhi := fun w (h : (eval N e .nil).v = some w) => S0 N e .nil h
  have hle := B7 N e .nil
  refine Aj (Se rfl (Om rfl ?_)); refine Cd rfl rfl rfl .free rfl ?_; refine Cc rfl rfl .free rfl ?_; intro b26; refine Oa rfl (Ab (Se rfl (Om rfl ?_))); refine Bq rfl .free rfl ?_; refine Ca rfl (N8 (ht.mono hleJ) N Aa hrep hok .nil trivial (fun y hy => by rw [hoe] at hy; cases hy) b26 _) ?_; rintro _ J2 _ e2 ⟨p, rfl, hp, rfl⟩
  unfold S1
  have hle2 := hleJ.trans e2
  refine Oa rfl (Ab (Ah (Se rfl (Om rfl ?_)))); refine Hj rfl rfl .free rfl ?_; refine Ab ?_; refine Av rfl ?_ ?_
  ·intro c1
   try simp only [nb] at c1
   obtain ⟨hv, rfl⟩ := Kq hp c1; refine Se rfl ?_
   iterate 3 refine Oa rfl ?_
   refine Ab ?_; refine Ai (.tmp rfl (.tmp rfl (.tmp rfl .nil))) ?_
   exact ⟨J2, L, hle2, Bj, by rw [hme, Um hv]; rfl, rfl⟩
  intro c1
  try simp only [nb] at c1
  obtain ⟨w, x, hv, rfl, hw⟩ := Kr hp (by simpa using c1); obtain ⟨hwf, -⟩ := Res.says.some hv (Ky hc N)
  have hhi := hhi w hv
  simp only [KE.high] at hhi
  refine Aj (Se rfl ?_); refine A3 .free rfl ?_; intro b11; refine Ab (Se rfl (Om rfl ?_)); refine Ca rfl (Re _ (Nat.lt_succ_self _) hw hwf Aa b11 false [] none 0 ⟨⟨rfl, rfl, rfl⟩, .inl rfl⟩ Af _) ?_; rintro _ _ _ _ ⟨rfl, rfl, pre1, B1, k1, hB1, rfl⟩; refine Ab (Ah (Se rfl ?_)); refine Ca rfl (Io b11 pre1 _ B1 k1 hB1 _ _) ?_; rintro _ _ _ _ ⟨rfl, rfl, rfl⟩; refine Oc rfl rfl rfl (Ab ?_); refine Av rfl ?_ ?_
  ·intro c2
   try simp only [nb] at c2
   refine Se rfl ?_
   iterate 3 refine Oa rfl ?_
   refine Ab ?_; refine Ai (.tmp rfl (.tmp rfl (.tmp rfl .nil))) ?_
   exact ⟨J2, L, hle2, (fun w h => (Mem.sub (List.sublist_append_right _ _) h.drop).drop.drop), by
    have hno : ¬ w.show.length ≤ 12000 := fun h => by
     rw [P4 12000 w [] (by simpa using h)] at c2
     simp at c2; omega
    rw [hme]; unfold Nd; rw [hv]; simp only; rw [if_neg hno]; rfl, rfl⟩
  intro c2
  try simp only [nb] at c2
  have hsl : w.show.length ≤ 12000 := by
   rcases Nat.lt_or_ge 12000 w.show.length with h | h
   ·have := Vs 12000 w [] (by simpa using h)
    omega
   ·exact h
  have hwr : w.wr 12000 [] = w.show := by rw [P4 12000 w [] (by simpa using hsl)]; rfl
  rw [hwr] at hB1 ⊢; refine Aj (Ah ?_)
  unfold T7
  refine Uf J2 ((b26, .cells [.int .i64 ((eval N e .nil).left : Nat), .bool (eval N e .nil).stuck].toArray 55 (0, 0)) :: (b7, .cells [.string (str e.tree.atom), .slice oc e.tree.parts.length cc].toArray 49 (0, 0)) :: L) 10 rfl rfl ?_; refine Da 1 rfl (Ak rfl) ?_; refine Da 2 rfl (Ak rfl) ?_; refine Da 3 rfl (Dy rfl) ?_
  first | refine Da 4 rfl (Ap rfl) ?_ | refine Da 4 rfl (Bi rfl) ?_
  refine Dt 5 [10] rfl (Ae4 rfl) ?_; refine Da 6 rfl (Hm rfl rfl rfl Aa) ?_; refine Dc 0 rfl rfl (Hu b11 pre1 _ B1 k1 hB1 Bz _ _) ?_; rintro _ _ _ _ ⟨rfl, rfl, rfl⟩; refine Hx ?_; refine Da 7 rfl (At rfl) ?_; refine Da 8 rfl (At rfl) ?_; refine Da 9 rfl (At rfl) ?_; refine A5 Ae ?_; refine Ai (.tmp rfl (.tmp rfl (.tmp rfl .nil))) ?_
  exact ⟨J2, L, hle2, Bj, by rw [hme, N5 hv hsl]; simp only [Option.map_some, Option.getD_some, Option.isSome_some]; rw [show ((N - (eval N e .nil).left : Nat) : Int) = (N : Int) - ((eval N e .nil).left : Nat) by omega]; rfl, rfl⟩
theorem Z9 {m d : Nat} (hm : 1 ≤ m) (hd : d < 10) : Jm (10 * m + d) = Jm m ++ [UInt8.ofNat (48 + d)] := by
 rw [Hr Aa, show (10 * m + d) / 10 = m by omega, show (10 * m + d) % 10 = d by omega]
theorem Q9 {b : UInt8} (h : Ef b = true) : 48 ≤ b.toNat ∧ b.toNat ≤ 57 := by simpa [Ef] using h
theorem Q8 {b : UInt8} (h : 48 ≤ b.toNat) : UInt8.ofNat (48 + (b.toNat - 48)) = b := by
 rw [show 48 + (b.toNat - 48) = b.toNat by omega]; simp
theorem Sy : ∀ (l : As) (a : Nat), 1 ≤ a → l.all Ef = true → Jm (l.foldl (fun n b => 10 * n + (b.toNat - 48)) a) = Jm a ++ l
 | [], a, _, _ => by simp
 | b :: r, a, ha, h => by
  simp only [List.all_cons, Bool.and_eq_true] at h
  have hb := Q9 h.1
  rw [List.foldl_cons, Sy r _ (by omega) h.2, Z9 ha (by omega), Q8 hb.1]
  simp
theorem Z8 {u : As} (h : u.all Ef = true) (h0 : 49 ≤ (u.getD 0 0).toNat) : Jm (Dw u) = u := by
 cases u with
 | nil => simp at h0
 | cons b r =>
  simp only [List.all_cons, Bool.and_eq_true] at h
  have hb := Q9 h.1
  have h1 : 49 ≤ b.toNat := by simpa using h0
  unfold Dw
  rw [List.foldl_cons, Sy r _ Aa h.2, show 10 * 0 + (b.toNat - 48) = b.toNat - 48 by omega, Fs Aa, Q8 hb.1]
  rfl
theorem Qe {s : As} (h : Bt s = true) : Oq (Du s) = s := by
 by_cases h0 : s = [48]
 ·rw [(Ko h).2 h0, show (0 : Int) = ((0 : Nat) : Int) from rfl, Rn, Fs Ad, h0]; rfl
 ·have hz : Du s ≠ 0 := fun e => h0 ((Ko h).1 e)
  simp only [Bt, h0, decide_false, Bool.false_or, Bool.and_eq_true, decide_eq_true_eq, Bool.not_eq_true', decide_eq_false_iff_not] at h
  have hd : 49 ≤ ((C6 s).getD 0 0).toNat := by
   cases hu : C6 s with
   | nil => rw [hu] at h; simp at h
   | cons b r =>
    rw [hu] at h
    have h1 := h.1.2
    simp only [List.all_cons, Bool.and_eq_true] at h1
    have hb := Q9 h1.1
    have h2 : ¬ b.toNat = 48 := by simpa using h.2
    simp only [List.getD_cons_zero]; omega
  have hu := Z8 h.1.2 hd
  unfold Du at hz ⊢
  rw [if_neg h0] at hz ⊢
  by_cases h45 : (s.getD 0 0).toNat = 45
  ·have hs : s = 45 :: C6 s := by
    unfold C6
    rw [if_pos h45]
    cases s with
    | nil => simp at h45
    | cons b r =>
     have hb : b.toNat = 45 := by simpa using h45
     have : b = 45 := UInt8.toNat_inj.1 hb
     rw [this]; rfl
   rw [if_pos h45] at hz ⊢
   unfold Oq
   rw [if_pos Aa, show (-1 * ((Dw (C6 s) : Nat) : Int)).natAbs = Dw (C6 s) by omega, hu]
   exact hs.symm
  ·have hs : C6 s = s := by unfold C6; rw [if_neg h45]
   rw [if_neg h45, Int.one_mul, Rn, hu, hs]
mutual
inductive GVat : Heap → KV → List Value → Prop
 | num {I : Heap} {s : As} : GVat I (.num s) [.string (str [110, 117, 109, 98, 101, 114]), .int .i64 (Du s), .slice none 0 0, .string (str []), .slice none 0 0, .slice none 0 0, .slice none 0 0]
 | pair {I : Heap} {u v : KV} {q : Addr} {c : Nat} {cu cv : List Value} (hq : Still I q (cu ++ cv)) (hc : 2 ≤ c) (hu : GVat I u cu) (hv : GVat I v cv) :
   GVat I (.pair u v) [.string (str [112, 97, 105, 114]), .int .i64 0, .slice (some q) 2 c, .string (str []), .slice none 0 0, .slice none 0 0, .slice none 0 0]
 | clo {I : Heap} {f x : As} {s t : Ty} {b : Ex} {r : KE} {o : Option Addr} {c : Nat} {on ov : Option Addr} {cn cv : Nat} (hr : Rep I (Ex.fn f x s t b).tree [.string (str []), .slice o 6 c]) (he : GEat I r on cn ov cv) :
   GVat I (.clo f x s t b r) [.string (str [102, 117, 110]), .int .i64 0, .slice none 0 0, .string (str []), .slice o 6 c, .slice on r.names.length cn, .slice ov r.names.length cv]
inductive GEat : Heap → KE → Option Addr → Nat → Option Addr → Nat → Prop
 | mk {I : Heap} {r : KE} {on ov : Option Addr} {cn cv : Nat} {cs : List Value} (hn : Strs I on r.names cn) (hv : GVs I r cs) (hs : ∀ x, ov = some x → Still I x cs) (h0 : ov = none → r.names = []) (hc : r.names.length ≤ cv) : GEat I r on cn ov cv
inductive GVs : Heap → KE → List Value → Prop
 | nil {I : Heap} : GVs I .nil []
 | cons {I : Heap} {n : As} {v : KV} {up : KE} {cs ds : List Value} (hu : GVs I up cs) (hv : GVat I v ds) : GVs I (.cons n v up) (cs ++ ds)
end
mutual
theorem GVat.mono {I I' : Heap} (hle : HLe I I') : ∀ {v : KV} {cs : List Value}, GVat I v cs → GVat I' v cs
 | _, _, .num => .num
 | _, _, .pair hq hc hu hv => .pair (hq.mono hle) hc (hu.mono hle) (hv.mono hle)
 | _, _, .clo hr he => .clo (hr.mono hle) (he.mono hle)
theorem GEat.mono {I I' : Heap} (hle : HLe I I') : ∀ {r : KE} {on ov : Option Addr} {cn cv : Nat}, GEat I r on cn ov cv → GEat I' r on cn ov cv
 | _, _, _, _, _, .mk hn hv hs h0 hc => .mk (hn.mono hle) (hv.mono hle) (fun x hx => (hs x hx).mono hle) h0 hc
theorem GVs.mono {I I' : Heap} (hle : HLe I I') : ∀ {r : KE} {cs : List Value}, GVs I r cs → GVs I' r cs
 | _, _, .nil => .nil
 | _, _, .cons hu hv => .cons (hu.mono hle) (hv.mono hle)
end
theorem GVat.open {I : Heap} {v : KV} {cs : List Value} (h : GVat I v cs) : ∃ k n q mq cq o l c on m1 c1 ov m2 c2, cs = [.string (str k), .int .i64 n, .slice q mq cq, .string (str []), .slice o l c, .slice on m1 c1, .slice ov m2 c2] := by
 cases h with
 | num => exact ⟨_, _, _, _, _, _, _, _, _, _, _, _, _, _, rfl⟩
 | pair hq hc hu hv => exact ⟨_, _, _, _, _, _, _, _, _, _, _, _, _, _, rfl⟩
 | clo hr he => exact ⟨_, _, _, _, _, _, _, _, _, _, _, _, _, _, rfl⟩
theorem GVat.len {I : Heap} {v : KV} {cs : List Value} (h : GVat I v cs) : cs.length = 7 := by
 obtain ⟨_, _, _, _, _, _, _, _, _, _, _, _, _, _, rfl⟩ := h.open; rfl
theorem GVat.plain {I : Heap} {v : KV} {cs : List Value} (h : GVat I v cs) : cs.all Ct = true := by
 obtain ⟨_, _, _, _, _, _, _, _, _, _, _, _, _, _, rfl⟩ := h.open; rfl
theorem GVs.len {I : Heap} : ∀ {r : KE} {cs : List Value}, GVs I r cs → cs.length = r.names.length * 7
 | _, _, .nil => rfl
 | _, _, .cons hu hv => by have := hu.len; have := hv.len; simp only [KE.names, List.length_append, List.length_cons, List.length_nil]; omega
theorem GVs.plain {I : Heap} : ∀ {r : KE} {cs : List Value}, GVs I r cs → cs.all Ct = true
 | _, _, .nil => rfl
 | _, _, .cons hu hv => by rw [List.all_append, hu.plain, hv.plain]; rfl
theorem Still.left {I : Heap} {q : Addr} {cu cv : List Value} (h : Still I q (cu ++ cv)) : Still I (q.add (0 * 7)) cu := h.part _ fun i hi => by rw [Nat.zero_mul, Nat.zero_add, List.getElem?_append_left hi, List.getElem?_eq_getElem hi]
theorem Still.right {I : Heap} {q : Addr} {cu cv : List Value} (h : Still I q (cu ++ cv)) (k : Nat) (hk : cu.length = k * 7) : Still I (q.add (k * 7)) cv := h.part _ fun i hi => by
 rw [List.getElem?_append_right (by omega), show k * 7 + i - cu.length = i by omega, List.getElem?_eq_getElem hi]
def T3 : List Value := [.string (str []), .int .i64 0, .slice none 0 0, .string (str []), .slice none 0 0, .slice none 0 0, .slice none 0 0]
def GO (I : Heap) (o : Option KV) (cs : List Value) : Prop := match o with
 | some w => GVat I w cs
 | none => cs = T3
theorem GO.open {I : Heap} {o : Option KV} {cs : List Value} (h : GO I o cs) : ∃ k n q mq cq p l c on m1 c1 ov m2 c2, cs = [.string (str k), .int .i64 n, .slice q mq cq, .string (str []), .slice p l c, .slice on m1 c1, .slice ov m2 c2] := by
 cases o with
 | none => exact ⟨_, _, _, _, _, _, _, _, _, _, _, _, _, _, h⟩
 | some w => exact GVat.open h
theorem Rl {I : Heap} {k : KE} {ov : Option Addr} {cv : Nat} {cs : List Value} (hv : GVs I k cs) (hs : ∀ x, ov = some x → Still I x cs) (h0 : ov = none → k.names = []) (hk : k.names.length ≤ 1000000) {v : KV} {ds : List Value} (hd : GVat I v ds) (n : As) (L : Bh) :
  Fun Tryz.prog 149 [.slice ov k.names.length cv, .agg ds.toArray] I L (fun w I' L' => ∃ x c, w = .slice (some x) (KE.cons n v k).names.length c ∧ Still I' x (cs ++ ds) ∧ (KE.cons n v k).names.length ≤ c ∧ L = L') := by
 obtain ⟨kk, nn, q, mq, cq, o, l, c, on, m1, c1, ov2, m2, c2, rfl⟩ := hd.open
 have hcl := hv.len
 have hn0 : ov = none → cs = [] := fun h => by have := h0 h; rw [this] at hcl; exact List.eq_nil_of_length_eq_zero (by simpa using hcl)
 have hrd : ∀ (L₀ : Bh) (a : Addr), ov = some a → Gs I L₀ a cs := fun L₀ a ha => (hs a ha).reads
 refine Al Af ?_; refine Se rfl ?_; refine Cc rfl rfl .free rfl ?_; intro b3; refine Oa rfl (Ab (Ah ?_)); refine Eb 7 rfl rfl ?_; refine Da 1 rfl (Ak rfl) ?_; refine Dt 3 [7] rfl (Co rfl) ?_; refine Fr 0 4 Ae ?_ ?_
 ·skip
  refine Aej 0 rfl rfl .free rfl (.inr Ax) ?_; intro b5; refine Fr 2 4 Ae ?_ ?_
  ·skip
   refine Pl 2 (B := some (b5, [])) (xs := []) (ys := cs) (m := 0) (c := 0) rfl rfl A4 Ac rfl rfl ⟨rfl, Nat.le_refl _, rfl⟩ Dz hcl (hrd _) hn0 hv.plain Ad Aa Ad .free rfl (fun _ => .inr Ax) ?_; intro B1 k1 hB1; refine E8 4 rfl Ae rfl rfl rfl Ac Ac Ac Ad Ad Ac .free rfl (.inr Ax) ?_; intro b9
   refine B6 5 (B := B1) (xs := [] ++ cs) (ys := [.string (str kk), .int .i64 nn, .slice q mq cq, .string (str []), .slice o l c, .slice on m1 c1, .slice ov2 m2 c2]) (m := 0 + k.names.length) (c := k1) rfl Ae rfl A4 Ac rfl rfl hB1 Dz Ac (fun a ha => by cases ha; exact Bg Dk Ac) Af Ac Ad Aa Ad .free rfl (fun _ => .inr Ax) ?_; intro B2 k2 hB2; refine Da 6 rfl (At rfl) ?_; refine A5 Ae ?_; obtain ⟨b, sp, rfl⟩ : ∃ b sp, B2 = some (b, sp) := by
    cases B2 with
    | none => have := hB2.1; simp at this
    | some p => exact ⟨p.1, p.2, rfl⟩
   refine Bv ?_; intro hz; refine Ai (.tmp rfl .nil) ?_; refine ⟨_, L, hz, Bj, ⟨b, 0, none⟩, k2, ?_, B0, ?_, rfl⟩
   ·rw [show (KE.cons n v k).names.length = 0 + k.names.length + 1 by simp [KE.names]]; rfl
   ·rw [show (KE.cons n v k).names.length = 0 + k.names.length + 1 by simp [KE.names]]; exact hB2.2.1
  ·skip
   refine G5 4 rfl rfl rfl rfl Ac Ac Ac Ad Ad Ac .free rfl (.inr Ax) ?_; intro b9; refine B6 2 (B := some (b5, [])) (xs := []) (ys := cs) (m := 0) (c := 0) rfl Ae rfl A4 Ac rfl rfl ⟨rfl, Nat.le_refl _, rfl⟩ Dz hcl (hrd _) hn0 hv.plain Ad Aa Ad .free rfl (fun _ => .inr Ax) ?_; intro B1 k1 hB1
   refine B6 5 (B := B1) (xs := [] ++ cs) (ys := [.string (str kk), .int .i64 nn, .slice q mq cq, .string (str []), .slice o l c, .slice on m1 c1, .slice ov2 m2 c2]) (m := 0 + k.names.length) (c := k1) rfl Ae rfl A4 Ac rfl rfl hB1 Dz Ac (fun a ha => by cases ha; exact Bg Dk Ac) Af Ac Ad Aa Ad .free rfl (fun _ => .inr Ax) ?_; intro B2 k2 hB2; refine Da 6 rfl (At rfl) ?_; refine A5 Ae ?_; obtain ⟨b, sp, rfl⟩ : ∃ b sp, B2 = some (b, sp) := by
    cases B2 with
    | none => have := hB2.1; simp at this
    | some p => exact ⟨p.1, p.2, rfl⟩
   refine Bv ?_; intro hz; refine Ai (.tmp rfl .nil) ?_; refine ⟨_, L, hz, Bj, ⟨b, 0, none⟩, k2, ?_, B0, ?_, rfl⟩
   ·rw [show (KE.cons n v k).names.length = 0 + k.names.length + 1 by simp [KE.names]]; rfl
   ·rw [show (KE.cons n v k).names.length = 0 + k.names.length + 1 by simp [KE.names]]; exact hB2.2.1
 ·skip
  refine G5 4 rfl rfl rfl rfl Ac Ac Ac Ad Ad Ac .free rfl (.inr Ax) ?_; intro b9; refine I3 0 rfl Ae rfl .free rfl (.inr Ax) ?_; intro b5; refine B6 2 (B := some (b5, [])) (xs := []) (ys := cs) (m := 0) (c := 0) rfl Ae rfl A4 Ac rfl rfl ⟨rfl, Nat.le_refl _, rfl⟩ Dz hcl (hrd _) hn0 hv.plain Ad Aa Ad .free rfl (fun _ => .inr Ax) ?_; intro B1 k1 hB1
  refine B6 5 (B := B1) (xs := [] ++ cs) (ys := [.string (str kk), .int .i64 nn, .slice q mq cq, .string (str []), .slice o l c, .slice on m1 c1, .slice ov2 m2 c2]) (m := 0 + k.names.length) (c := k1) rfl Ae rfl A4 Ac rfl rfl hB1 Dz Ac (fun a ha => by cases ha; exact Bg Dk Ac) Af Ac Ad Aa Ad .free rfl (fun _ => .inr Ax) ?_; intro B2 k2 hB2; refine Da 6 rfl (At rfl) ?_; refine A5 Ae ?_; obtain ⟨b, sp, rfl⟩ : ∃ b sp, B2 = some (b, sp) := by
   cases B2 with
   | none => have := hB2.1; simp at this
   | some p => exact ⟨p.1, p.2, rfl⟩
  refine Bv ?_; intro hz; refine Ai (.tmp rfl .nil) ?_; refine ⟨_, L, hz, Bj, ⟨b, 0, none⟩, k2, ?_, B0, ?_, rfl⟩
  ·rw [show (KE.cons n v k).names.length = 0 + k.names.length + 1 by simp [KE.names]]; rfl
  ·rw [show (KE.cons n v k).names.length = 0 + k.names.length + 1 by simp [KE.names]]; exact hB2.2.1
theorem Acr : ∀ (N : Nat) {I : Heap} {w : KV} {cs : List Value} (_ : SizeOf.sizeOf w < N) (_ : GVat I w cs) (_ : w.wf) (_ : w.show.length ≤ 1000000) (L : Bh), Fun Tryz.prog 56 [.agg cs.toArray] I L (Ee (.string (str w.show)) I L) := by
 intro N
 induction N with
 | zero => intro I w cs h; omega
 | succ N ihn =>
  intro I w cs hlt h hwf hl L
  cases h with
  | num =>
   rename_i s
   have hnv := Jw (show Bt s = true from hwf)
   refine Al Af ?_; refine Se rfl ?_; refine Cc rfl rfl .free rfl ?_; intro b1; refine Oa rfl (Ab (Ah (Se rfl (Oh rfl ?_)))); refine Bd rfl .free rfl ?_; refine Ab (Ar (Se rfl (Od rfl rfl rfl (Oa rfl (Ab ?_)))))
   first | refine St rfl (rfl) ?_ | refine Bs Am ?_
   refine Se rfl (Oh rfl ?_); refine Bd rfl .free rfl ?_; refine Ca rfl (Wt (Du s) Aa Aa _ _) ?_; rintro _ _ _ _ ⟨rfl, rfl, rfl⟩; refine Oa rfl (Ab (Ai (.tmp rfl .nil) ?_)); refine only rfl ?_; rw [Qe (show Bt s = true from hwf)]; rfl
  | @pair u v q c cu cv hq hc hu hv =>
   simp only [KV.pair.sizeOf_spec] at hlt
   simp only [KV.show, List.length_append, List.length_cons, List.length_nil] at hl
   have q0 := hq.left
   have q1 := hq.right 1 hu.len
   obtain ⟨_, _, _, _, _, _, _, _, _, _, _, _, _, _, rfl⟩ := hu.open; obtain ⟨_, _, _, _, _, _, _, _, _, _, _, _, _, _, rfl⟩ := hv.open; refine Al Af ?_; refine Se rfl ?_; refine Cc rfl rfl .free rfl ?_; intro b1; refine Oa rfl (Ab (Ah (Se rfl (Oh rfl ?_)))); refine Bd rfl .free rfl ?_; refine Ab (Ar (Se rfl (Od rfl rfl rfl (Oa rfl (Ab ?_)))))
   first | refine Sf rfl Ad ?_ | refine Ay Am ?_
   refine Se rfl (Od rfl rfl rfl (Oa rfl (Ab ?_)))
   first | refine St rfl (rfl) ?_ | refine Bs Am ?_
   refine Ah ?_; refine Eb 15 rfl rfl ?_; refine Da 0 rfl (Ap rfl) ?_; refine Dt 1 [15] rfl (Cn rfl) ?_
   first | refine Da 2 rfl (Bw rfl rfl 0 rfl) ?_ | refine Da 2 rfl (Bx rfl rfl 0 rfl) ?_
   refine Dt 3 [15] rfl (Ew rfl (Bf q0 Ac)) ?_; refine Da 7 rfl (Ap rfl) ?_; refine Dt 8 [15] rfl (Cn rfl) ?_
   first | refine Da 9 rfl (Bw rfl rfl 1 rfl) ?_ | refine Da 9 rfl (Bx rfl rfl 1 rfl) ?_
   refine Dt 10 [15] rfl (Ew rfl (Bf q1 Ac)) ?_; refine Dc 4 rfl rfl (ihn Aa hu hwf.1 Aa _) ?_; rintro _ _ _ _ ⟨rfl, rfl, rfl⟩; refine Hx ?_; refine Da 5 rfl (Yk rfl rfl) ?_; refine Da 6 rfl (Yk rfl rfl) ?_; refine Dc 11 rfl rfl (ihn Aa hv hwf.2 Aa _) ?_; rintro _ _ _ _ ⟨rfl, rfl, rfl⟩; refine Hx ?_; refine Da 12 rfl (Yk rfl rfl) ?_; refine Da 13 rfl (Yk rfl rfl) ?_; refine Da 14 rfl (At rfl) ?_; refine A5 Ae ?_; refine Ai (.tmp rfl .nil) ?_; refine only rfl ?_
   simp only [KV.show]; rfl
  | clo hr he =>
   refine Al Af ?_; refine Se rfl ?_; refine Cc rfl rfl .free rfl ?_; intro b1; refine Oa rfl (Ab (Ah (Se rfl (Oh rfl ?_)))); refine Bd rfl .free rfl ?_; refine Ab (Ar (Se rfl (Od rfl rfl rfl (Oa rfl (Ab ?_)))))
   first | refine Sf rfl Ad ?_ | refine Ay Am ?_
   refine Se rfl (Od rfl rfl rfl (Oa rfl (Ab ?_)))
   first | refine Sf rfl Ad ?_ | refine Ay Am ?_
   refine Aj (Aq (Se rfl (Oa rfl (Ab (Ai (.tmp rfl .nil) ?_))))); refine only rfl ?_
   rfl
def LF (w : KV) (left : Int) (L : Bh) : C3 := fun v I' L' => ∃ r : Int, v = .int .i64 r ∧ (left < (w.show.length : Nat) → r < 0) ∧ ((w.show.length : Nat) ≤ left → r = left - (w.show.length : Nat)) ∧ r ≤ left ∧ L = L'
theorem Acp : ∀ (N : Nat) {I : Heap} {w : KV} {cs : List Value} (left : Int) (_ : SizeOf.sizeOf w < N) (_ : GVat I w cs) (_ : w.wf) (_ : -100000 + 8 * (w.high : Nat) ≤ left) (_ : left ≤ 100000) (_ : w.high ≤ 5000) (L : Bh), Fun Tryz.prog 55 [.agg cs.toArray, .int .i64 left] I L (LF w left L) := by
 intro N
 induction N with
 | zero => intro I w cs left h; omega
 | succ N ihn =>
  intro I w cs left hlt h hwf hl0 hl1 hh L
  cases h with
  | num =>
   rename_i s
   have hnv := Jw (show Bt s = true from hwf)
   have hsl := Jt (show Bt s = true from hwf)
   refine Al Af ?_; refine Se rfl ?_; refine Cc rfl rfl .free rfl ?_; intro b2; refine Oa rfl (Ab (Ah (Se rfl (Oh rfl ?_)))); refine Bd rfl .free rfl ?_; refine Ab (Ar (Se rfl (Od rfl rfl rfl (Oa rfl (Ab ?_)))))
   first | refine St rfl (rfl) ?_ | refine Bs Am ?_
   refine Se rfl (Om rfl (Oh rfl ?_)); refine Bd rfl .free rfl ?_; refine Ca rfl (Wt (Du s) Aa Aa _ _) ?_; rintro _ _ _ _ ⟨rfl, rfl, rfl⟩; rw [Qe (show Bt s = true from hwf)]; refine C1 rfl .free rfl ?_; refine Or rfl rfl rfl ?_; refine Oa rfl (Ab (Ai (.tmp rfl .nil) ?_))
   exact ⟨I, L, .refl _, Bj, _, rfl, fun h => by simp only [KV.show] at h; omega, fun h => by simp only [KV.show], by omega, rfl⟩
  | @pair u v q c cu cv hq hc hu hv =>
   simp only [KV.pair.sizeOf_spec] at hlt
   simp only [KV.high] at hl0 hh
   have q0 := hq.left
   have q1 := hq.right 1 hu.len
   obtain ⟨_, _, _, _, _, _, _, _, _, _, _, _, _, _, rfl⟩ := hu.open; obtain ⟨_, _, _, _, _, _, _, _, _, _, _, _, _, _, rfl⟩ := hv.open; refine Al Af ?_; refine Se rfl ?_; refine Cc rfl rfl .free rfl ?_; intro b2; refine Oa rfl (Ab (Ah (Se rfl (Oh rfl ?_)))); refine Bd rfl .free rfl ?_; refine Ab (Ar (Se rfl (Od rfl rfl rfl (Oa rfl (Ab ?_)))))
   first | refine Sf rfl Ad ?_ | refine Ay Am ?_
   refine Se rfl (Od rfl rfl rfl (Oa rfl (Ab ?_)))
   first | refine St rfl (rfl) ?_ | refine Bs Am ?_
   refine Se rfl (Oh rfl ?_); refine Bd rfl .free rfl ?_
   first | refine Bk rfl rfl 0 rfl .free rfl ?_ | refine Bl rfl rfl 0 rfl .free rfl ?_
   refine Br rfl (Bf q0 Ac) .free rfl ?_; refine Om rfl ?_; refine Or rfl rfl rfl ?_; refine Ca rfl (ihn (left - 8) Aa hu hwf.1 Aa Aa Aa _) ?_; rintro _ J1 _ e1 ⟨r1, rfl, ha, hb, hle1, rfl⟩
   have hv := hv.mono e1
   have q1 := q1.mono e1
   refine Oa rfl (Ab (Ah (Se rfl (Om rfl (Oc rfl rfl rfl (Ab ?_)))))); refine Av rfl ?_ ?_
   ·intro c2
    try simp only [nb] at c2
    refine Se rfl (Om rfl (Oa rfl (Ab (Ai (.tmp rfl .nil) ?_)))); refine ⟨J1, L, e1, Bj, _, rfl, fun h => by omega, fun h => ?_, by omega, rfl⟩
    simp only [KV.show, List.length_append, List.length_cons, List.length_nil] at h
    have := hb Aa
    omega
   intro c2
   try simp only [nb] at c2
   refine Aj (Se rfl (Oh rfl ?_)); refine Bd rfl .free rfl ?_
   first | refine Bk rfl rfl 1 rfl .free rfl ?_ | refine Bl rfl rfl 1 rfl .free rfl ?_
   refine Br rfl (Bf q1 Ac) .free rfl ?_; refine Om rfl ?_; refine Ca rfl (ihn r1 Aa hv hwf.2 Aa Aa Aa _) ?_; rintro _ J2 _ e2 ⟨r2, rfl, hc2, hd2, hle2, rfl⟩; refine Oa rfl (Ab (Ai (.tmp rfl .nil) ?_)); refine ⟨J2, L, e1.trans e2, Bj, _, rfl, fun h => ?_, fun h => ?_, by omega, rfl⟩
   ·simp only [KV.show, List.length_append, List.length_cons, List.length_nil] at h
    refine hc2 ?_
    by_cases g : left - 8 < ((u.show.length : Nat) : Int)
    ·have := ha g; omega
    ·have := hb Aa; omega
   ·simp only [KV.show, List.length_append, List.length_cons, List.length_nil] at h ⊢
    have h1 := hb Aa
    have h2 := hd2 Aa
    omega
  | clo hr he =>
   refine Al Af ?_; refine Se rfl ?_; refine Cc rfl rfl .free rfl ?_; intro b2; refine Oa rfl (Ab (Ah (Se rfl (Oh rfl ?_)))); refine Bd rfl .free rfl ?_; refine Ab (Ar (Se rfl (Od rfl rfl rfl (Oa rfl (Ab ?_)))))
   first | refine Sf rfl Ad ?_ | refine Ay Am ?_
   refine Se rfl (Od rfl rfl rfl (Oa rfl (Ab ?_)))
   first | refine Sf rfl Ad ?_ | refine Ay Am ?_
   refine Aj (Aq (Se rfl (Om rfl ?_))); refine Or rfl rfl rfl ?_; refine Oa rfl (Ab (Ai (.tmp rfl .nil) ?_))
   exact ⟨I, L, .refl _, Bj, _, rfl, fun h => by simp only [KV.show, List.length_cons, List.length_nil] at h; omega, fun h => by simp only [KV.show, List.length_cons, List.length_nil]; omega, by omega, rfl⟩
end Go.Proofs.YtmfagaajiakgoaaGreatDoor
