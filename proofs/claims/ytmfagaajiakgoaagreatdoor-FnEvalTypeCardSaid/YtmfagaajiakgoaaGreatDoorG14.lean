/- What is left to do when the parts are evaluated, by the reference. No conditions. -/
import Derived.Test.YtmfagaajiakgoaaGreatDoorG13

namespace Go.Proofs.YtmfagaajiakgoaaGreatDoor
set_option maxRecDepth 100000
set_option linter.unusedVariables false
set_option linter.unusedSimpArgs false

def KV.kd : KV → As
 | .num _ => [110, 117, 109, 98, 101, 114]
 | .pair _ _ => [112, 97, 105, 114]
 | .clo _ _ _ _ _ _ => [102, 117, 110]
def KV.kn : KV → Int
 | .num s => Du s
 | _ => 0
theorem GVat.openK {I : Heap} {v : KV} {cs : List Value} (h : GVat I v cs) : ∃ q mq cq o l c on m1 c1 ov m2 c2, cs = [.string (str v.kd), .int .i64 v.kn, .slice q mq cq, .string (str []), .slice o l c, .slice on m1 c1, .slice ov m2 c2] := by
 cases h with
 | num => exact ⟨_, _, _, _, _, _, _, _, _, _, _, _, rfl⟩
 | pair hq hc hu hv => exact ⟨_, _, _, _, _, _, _, _, _, _, _, _, rfl⟩
 | clo hr he => exact ⟨_, _, _, _, _, _, _, _, _, _, _, _, rfl⟩
theorem Yn {v : KV} (h : v.kd = [110, 117, 109, 98, 101, 114]) : ∃ s, v = .num s := by
 cases v with
 | num s => exact ⟨s, rfl⟩
 | _ => simp [KV.kd] at h
theorem Aep {v : KV} (h : v.kd = [112, 97, 105, 114]) : ∃ a b, v = .pair a b := by
 cases v with
 | pair a b => exact ⟨a, b, rfl⟩
 | _ => simp [KV.kd] at h
theorem Af3 {v : KV} (h : v.kd = [102, 117, 110]) : ∃ f x s t b r, v = .clo f x s t b r := by
 cases v with
 | clo f x s t b r => exact ⟨f, x, s, t, b, r, rfl⟩
 | _ => simp [KV.kd] at h
def Il (b n : Nat) (st : Bool) : Nat × Obj := (b, .cells [.int .i64 (n : Nat), .bool st].toArray 73 (0, 0))
def Sb (b : Nat) (r : Res) (L : Bh) : C3 := fun v I' L' => ∃ cs, v = .tuple #[.agg (List.toArray cs), .bool r.v.isSome] ∧ GO I' r.v cs ∧ L' = Il b r.left r.stuck :: L
def EvG (N : Nat) : Prop := ∀ {I : Heap} {e : Ex} {cs : List Value} {k : KE} {on ov : Option Addr} {cn cv : Nat} (n : Nat) (_ : n < N) (_ : Rep I e.tree cs) (_ : e.ok = true) (_ : GEat I k on cn ov cv) (_ : k.wf) (_ : ∀ y ∈ e.occ [], y ∈ k.dom) (_ : k.tall + 2 * n ≤ 100000) (b : Nat) (L : Bh),
 Fun Tryz.prog 54 [.pointer (some ⟨b, 0, none⟩), .agg cs.toArray, .slice on k.names.length cn, .slice ov k.names.length cv] I (Il b n false :: L) (Sb b (eval n e k) L)

theorem Acw {a d : Ex} {u v : KV} {I : Heap} {cs : List Value} (h : Rep I (Ex.bin .pair a d).tree cs) {gu : List Value} (hu : GVat I u gu) {gv : List Value} (hv : GVat I v gv) {q : Addr} {c : Nat} (hq : Still I q (gu ++ gv)) (hc : 2 ≤ c)  {on ov : Option Addr} {lm cn lv cv : Nat} (b n : Nat) (hn : n ≤ 1000000) (L : Bh) :
  Fun Tryz.prog 100 [.pointer (some ⟨b, 0, none⟩), .agg cs.toArray, .slice (some q) 2 c, .slice on lm cn, .slice ov lv cv] I (Il b n false :: L) (Sb b (Res.of (B5.act .pair u v) n) L) := by
 obtain ⟨oa, cc, oaf, cf, rfl, hf⟩ := h.at'
 have hlen : (Ex.bin .pair a d).tree.parts.length = 3 := rfl
 obtain ⟨xa, rfl⟩ : ∃ xa, oa = some xa := ⟨_, Ec hf.nil (show 0 < 3 by decide)⟩
 have hle : HLe I I := .refl _
 have q0 : Still I (q.add (0 * 7)) gu := hq.left
 have q1 : Still I (q.add (1 * 7)) gv := hq.right 1 hu.len
 obtain ⟨_, _, _, _, _, _, _, _, _, _, _, _, rfl⟩ := hu.openK; obtain ⟨_, _, _, _, _, _, _, _, _, _, _, _, rfl⟩ := hv.openK
 unfold Il
 refine Al Af ?_; refine Se rfl ?_; refine Cc rfl rfl .free rfl ?_; intro b6; refine A3 .free rfl ?_; intro b10; refine Oa rfl (Ab (Se rfl (Oh rfl ?_))); refine Bd rfl .free rfl ?_
 first | refine Bk rfl rfl 0 rfl .free rfl ?_ | refine Bl rfl rfl 0 rfl .free rfl ?_
 refine Be rfl .free rfl ?_; refine F5 rfl .free rfl ?_; refine Df (t := 20) (v' := .string (str [112, 97, 105, 114])) rfl rfl ?_; refine Oa rfl (Ab (Se rfl (Om rfl ?_)))
 first | refine Bk rfl rfl 0 rfl .free rfl ?_ | refine Bl rfl rfl 0 rfl .free rfl ?_
 refine Br rfl (Bf q0 Ac) .free rfl ?_; refine A3 .free rfl ?_; intro b13; refine Bu rfl rfl rfl rfl .free ?_; refine Ab (Se rfl (Om rfl (Om rfl (On rfl ?_)))); refine Or rfl rfl rfl ?_; refine Df (t := 27) (v' := .int .i64 ((1 : Nat))) rfl Ac ?_
 first | refine Bk rfl rfl _ rfl .free rfl ?_ | refine Bl rfl rfl _ rfl .free rfl ?_
 refine Br rfl (Bf q1 Ac) .free rfl ?_; refine A3 .free rfl ?_; intro b14; refine Bu rfl rfl rfl rfl .free ?_; refine Ab (Ah (Ar (Se rfl (Om rfl (Od rfl rfl rfl (Oa rfl (Ab ?_)))))))
 first | refine St rfl (rfl) ?_ | refine Bs Am ?_
 refine Se rfl ?_; refine Bq rfl .free rfl ?_; refine Bq rfl .free rfl ?_; refine Ol rfl rfl ?_; intro b35; refine Cd rfl rfl rfl .free rfl ?_; refine Bu rfl rfl rfl rfl .free ?_; refine Oa rfl (Ab ?_); refine Bv ?_; intro hz; refine Ai (.c rfl (.tmp rfl .nil)) ?_
 exact ⟨_, _, hz, Ms (L' := (b, _) :: L), _, rfl, .pair (B0 (ys := [])) (Nat.le_refl 2) (hu.mono hz) (hv.mono hz), rfl⟩
theorem Afy {z : As} {a d : Ex} {u : KV} (hok : (Ex.lt z a d).ok = true) (wu : u.wf) {I : Heap} {cs : List Value} (h : Rep I (Ex.lt z a d).tree cs) {gu : List Value} (hu : GVat I u gu) {q : Addr} {c : Nat} (hq : Still I q (gu))  {N : Nat} (ihn : EvG N) {k : KE} {on ov : Option Addr} {cn cv : Nat} (hk : GEat I k on cn ov cv) (hkw : k.wf) (b n : Nat) (hn : n ≤ 1000000) (hN : n < N) (htl : k.tall + 2 * n ≤ 100000) (hdm : ∀ y ∈ d.occ [], y ∈ (KE.cons z u k).dom) (htl2 : (KE.cons z u k).tall + 2 * n ≤ 100000) (L : Bh) :
  Fun Tryz.prog 100 [.pointer (some ⟨b, 0, none⟩), .agg cs.toArray, .slice (some q) 1 c, .slice on k.names.length cn, .slice ov k.names.length cv] I (Il b n false :: L) (Sb b (eval n d (.cons z u k)) L) := by
 obtain ⟨oa, cc, oaf, cf, rfl, hf⟩ := h.at'
 have hlen : (Ex.lt z a d).tree.parts.length = 4 := rfl
 obtain ⟨xa, rfl⟩ : ∃ xa, oa = some xa := ⟨_, Ec hf.nil (show 0 < 4 by decide)⟩
 have hle : HLe I I := .refl _
 have q0 : Still I (q.add (0 * 7)) gu := Still.left (cv := []) Jr
 have hu2 := hu
 obtain ⟨_, _, _, _, _, _, _, _, _, _, _, _, rfl⟩ := hu.openK
 have hnt := Ll k
 obtain ⟨hnm, hvs, hst, h0, hcv⟩ := hk
 simp only [Ex.ok, Bool.and_eq_true] at hok
 have hzl : z.length ≤ Bb := by have := F3 hok.1.1; unfold Bb; omega
 unfold Il
 refine Al Af ?_; refine Se rfl ?_; refine Cc rfl rfl .free rfl ?_; intro b6; refine A3 .free rfl ?_; intro b10; refine Oa rfl (Ab (Se rfl (Oh rfl ?_))); refine Bd rfl .free rfl ?_
 first | refine Bk rfl rfl 0 rfl .free rfl ?_ | refine Bl rfl rfl 0 rfl .free rfl ?_
 refine Be rfl .free rfl ?_; refine F5 rfl .free rfl ?_; refine Df (t := 20) (v' := .string (str [108, 101, 116])) rfl rfl ?_; refine Oa rfl (Ab (Se rfl (Om rfl ?_)))
 first | refine Bk rfl rfl 0 rfl .free rfl ?_ | refine Bl rfl rfl 0 rfl .free rfl ?_
 refine Br rfl (Bf q0 Ac) .free rfl ?_; refine A3 .free rfl ?_; intro b13; refine Bu rfl rfl rfl rfl .free ?_; refine Ab (Se rfl (Om rfl (Om rfl (On rfl ?_)))); refine Or rfl rfl rfl ?_; refine Df (t := 27) (v' := .int .i64 ((0 : Nat))) rfl Ac ?_
 first | refine Bk rfl rfl _ rfl .free rfl ?_ | refine Bl rfl rfl _ rfl .free rfl ?_
 refine Br rfl (Bf q0 Ac) .free rfl ?_; refine A3 .free rfl ?_; intro b14; refine Bu rfl rfl rfl rfl .free ?_; refine Ab (Ah (Ar (Se rfl (Om rfl (Od rfl rfl rfl (Oa rfl (Ab ?_)))))))
 first | refine Sf rfl Ad ?_ | refine Ay Am ?_
 refine Se rfl (Om rfl (Od rfl rfl rfl (Oa rfl (Ab ?_))))
 first | refine St rfl (rfl) ?_ | refine Bs Am ?_
 refine Ah ?_; refine Ck (fun w h => h.f4) ?_; refine M3 21 rfl rfl ?_; refine Da 0 rfl (Ak rfl) ?_; refine Da 1 rfl (Ap rfl) ?_; refine Dt 2 [19] rfl (Cn rfl) ?_
 first | refine Da 3 rfl (Bw rfl rfl 3 rfl) ?_ | refine Da 3 rfl (Bx rfl rfl 3 rfl) ?_
 refine Dt 4 [19] rfl (C7 rfl) ?_; refine Da 5 rfl (Ak rfl) ?_; refine Da 6 rfl (Ap rfl) ?_; refine Dt 7 [19] rfl (Cn rfl) ?_
 first | refine Da 8 rfl (Bw rfl rfl 1 rfl) ?_ | refine Da 8 rfl (Bx rfl rfl 1 rfl) ?_
 refine Da 9 rfl (Bi rfl) ?_; refine Dt 10 [19] rfl (Kj rfl) ?_; refine Da 13 rfl (Ak rfl) ?_; refine Dt 14 [19] rfl (Co rfl) ?_; refine E8 11 rfl Ae rfl rfl rfl Ac Ac Ac Ad Ad Ac .free rfl (.inr Ax) ?_; intro b51; refine D2 ?_; intro hz
 have hle := hz
 have hf := hf.mono hz
 have hnm := hnm.mono hz
 have hvs := hvs.mono hz
 have hst := fun x hx => (hst x hx).mono hz
 have hu2 := hu2.mono hz
 have hk1 := Ie hz hzl
 refine Dc 12 rfl rfl (Ja hnm hk1 Hb _) ?_; rintro _ J2 _ e2 ⟨o3, c3, rfl, hn3, rfl⟩
 have hle := hle.trans e2
 have hf := hf.mono e2
 have hvs := hvs.mono e2
 have hst := fun x hx => (hst x hx).mono e2
 have hu2 := hu2.mono e2
 refine Hx ?_; refine Dc 15 rfl rfl (Rl hvs hst h0 Aa hu2 z _) ?_; rintro _ J3 _ e3 ⟨x4, c4, rfl, hs4, hc4, rfl⟩
 have hle := hle.trans e3
 have hf := hf.mono e3
 have hvs := hvs.mono e3
 have hu2 := hu2.mono e3
 have hn3 := hn3.mono e3
 have hgk : GEat J3 (.cons z u k) o3 c3 (some x4) c4 := .mk hn3 (.cons hvs hu2) (fun x hx => by cases hx; exact hs4) (fun h => by cases h) hc4
 refine Hx ?_; refine Dc 16 rfl rfl (ihn n hN (hf.as 3 d.tree Aa rfl) hok.2 hgk ⟨hok.1.1, wu, hkw⟩ hdm htl2 b _) ?_; rintro _ J4 _ e4 ⟨cs5, rfl, hg5, rfl⟩
 have hle := hle.trans e4
 obtain ⟨_, _, _, _, _, _, _, _, _, _, _, _, _, _, rfl⟩ := hg5.open
 unfold Il
 refine Hx ?_; refine Da 17 rfl (A9 rfl rfl) ?_; refine Da 18 rfl (A9 rfl rfl) ?_; refine Dx 19 rfl rfl rfl rfl ?_; refine Db 20 rfl (At rfl) ?_; refine A5 Ae ?_; refine Ai (.c rfl (.tmp rfl .nil)) ?_
 exact ⟨J4, _, hle, Ms (L' := (b, _) :: L), _, rfl, hg5, rfl⟩
theorem Aeg {o : B5} (ho : o.nums = true) {a d : Ex} {u v : KV} (wu : u.wf) (wv : v.wf) {I : Heap} {cs : List Value} (h : Rep I (Ex.bin o a d).tree cs) {gu : List Value} (hu : GVat I u gu) {gv : List Value} (hv : GVat I v gv) {q : Addr} {c : Nat} (hq : Still I q (gu ++ gv)) (hc : 2 ≤ c)  {on ov : Option Addr} {lm cn lv cv : Nat} (b n : Nat) (hn : n ≤ 1000000) (L : Bh) :
  Fun Tryz.prog 100 [.pointer (some ⟨b, 0, none⟩), .agg cs.toArray, .slice (some q) 2 c, .slice on lm cn, .slice ov lv cv] I (Il b n false :: L) (Sb b (Res.of (o.act u v) n) L) := by
 obtain ⟨oa, cc, oaf, cf, rfl, hf⟩ := h.at'
 have hlen : (Ex.bin o a d).tree.parts.length = 3 := rfl
 obtain ⟨xa, rfl⟩ : ∃ xa, oa = some xa := ⟨_, Ec hf.nil (show 0 < 3 by decide)⟩
 have hle : HLe I I := .refl _
 have q0 : Still I (q.add (0 * 7)) gu := hq.left
 have q1 : Still I (q.add (1 * 7)) gv := hq.right 1 hu.len
 obtain ⟨_, _, _, _, _, _, _, _, _, _, _, _, rfl⟩ := hu.openK; obtain ⟨_, _, _, _, _, _, _, _, _, _, _, _, rfl⟩ := hv.openK
 have h1 : ¬ o.txt = [112, 97, 105, 114] := fun h => by have := B5.txt_inj (o' := .pair) h; subst this; cases ho
 have h2 : ¬ o.txt = [108, 101, 116] := o.txt_ne.2.1
 have h3 : ¬ o.txt = [105, 102] := o.txt_ne.1
 have h4 : ¬ o.txt = [99, 97, 108, 108] := fun h => by have := B5.txt_inj (o' := .call) h; subst this; cases ho
 have h5 : ¬ o.txt = [102, 115, 116] := M6 o .fst
 have h6 : ¬ o.txt = [115, 110, 100] := M6 o .snd
 have hor : (o.txt = [43] ∨ o.txt = [45]) ∨ o.txt = [42] := by cases o <;> first | exact .inl (.inl rfl) | exact .inl (.inr rfl) | exact .inr rfl | cases ho
 unfold Il
 refine Al Af ?_; refine Se rfl ?_; refine Cc rfl rfl .free rfl ?_; intro b6; refine A3 .free rfl ?_; intro b10; refine Oa rfl (Ab (Se rfl (Oh rfl ?_))); refine Bd rfl .free rfl ?_
 first | refine Bk rfl rfl 0 rfl .free rfl ?_ | refine Bl rfl rfl 0 rfl .free rfl ?_
 refine Be rfl .free rfl ?_; refine F5 rfl .free rfl ?_; refine Df (t := 20) (v' := .string (str o.txt)) rfl rfl ?_; refine Oa rfl (Ab (Se rfl (Om rfl ?_)))
 first | refine Bk rfl rfl 0 rfl .free rfl ?_ | refine Bl rfl rfl 0 rfl .free rfl ?_
 refine Br rfl (Bf q0 Ac) .free rfl ?_; refine A3 .free rfl ?_; intro b13; refine Bu rfl rfl rfl rfl .free ?_; refine Ab (Se rfl (Om rfl (Om rfl (On rfl ?_)))); refine Or rfl rfl rfl ?_; refine Df (t := 27) (v' := .int .i64 ((1 : Nat))) rfl Ac ?_
 first | refine Bk rfl rfl _ rfl .free rfl ?_ | refine Bl rfl rfl _ rfl .free rfl ?_
 refine Br rfl (Bf q1 Ac) .free rfl ?_; refine A3 .free rfl ?_; intro b14; refine Bu rfl rfl rfl rfl .free ?_; refine Ab (Ah (Ar (Se rfl (Om rfl (Od rfl rfl rfl (Oa rfl (Ab ?_)))))))
 first | refine Fw rfl (h1) ?_ | refine Fv rfl (h1) ?_ | refine Ay Am ?_
 refine Se rfl (Om rfl (Od rfl rfl rfl (Oa rfl (Ab ?_))))
 first | refine Fw rfl (h2) ?_ | refine Fv rfl (h2) ?_ | refine Ay Am ?_
 refine Se rfl (Om rfl (Od rfl rfl rfl (Om rfl ?_)))
 apply Cy 62 66 rfl
 ·intro g8_3 hk
  try simp only [nb] at g8_3
  refine A1 rfl (.met rfl rfl) rfl ?_; refine Bd rfl (.met rfl rfl) rfl ?_; refine Cg rfl rfl rfl (.met rfl rfl) rfl ?_; refine Ot rfl rfl ?_
  exact Au 3 rfl rfl hk
 ·intro _ hk; refine A2 3 rfl ?_; refine Of rfl rfl ?_
  exact Au 3 rfl rfl hk
 refine Oa rfl (Ab ?_)
 first | refine Fw rfl (fun h => h3 h.1) ?_ | refine Fv rfl (fun h => h3 h.1) ?_ | refine Ay Am ?_
 refine Se rfl (Om rfl (Od rfl rfl rfl (Om rfl ?_)))
 apply Cy 87 91 rfl
 ·intro g10_3 hk
  try simp only [nb] at g10_3
  refine A1 rfl (.met rfl rfl) rfl ?_; refine Bd rfl (.met rfl rfl) rfl ?_; refine Cg rfl rfl rfl (.met rfl rfl) rfl ?_; refine Ot rfl rfl ?_
  exact Au 3 rfl rfl hk
 ·intro _ hk; refine A2 3 rfl ?_; refine Of rfl rfl ?_
  exact Au 3 rfl rfl hk
 refine Oa rfl (Ab ?_)
 first | refine Fw rfl (fun h => h4 h.1) ?_ | refine Fv rfl (fun h => h4 h.1) ?_ | refine Ay Am ?_
 refine Se rfl (Om rfl (Od rfl rfl rfl (Om rfl ?_)))
 apply Cy 123 127 rfl
 ·intro g13_3 hk
  try simp only [nb] at g13_3
  refine A1 rfl (.met rfl rfl) rfl ?_; refine Bd rfl (.met rfl rfl) rfl ?_; refine Cg rfl rfl rfl (.met rfl rfl) rfl ?_; refine Ot rfl rfl ?_
  exact Au 3 rfl rfl hk
 ·intro _ hk; refine A2 3 rfl ?_; refine Of rfl rfl ?_
  exact Au 3 rfl rfl hk
 refine Oa rfl (Ab ?_)
 first | refine Fw rfl (fun h => h5 h.1) ?_ | refine Fv rfl (fun h => h5 h.1) ?_ | refine Ay Am ?_
 refine Se rfl (Om rfl (Od rfl rfl rfl (Om rfl ?_)))
 apply Cy 135 139 rfl
 ·intro g15_3 hk
  try simp only [nb] at g15_3
  refine A1 rfl (.met rfl rfl) rfl ?_; refine Bd rfl (.met rfl rfl) rfl ?_; refine Cg rfl rfl rfl (.met rfl rfl) rfl ?_; refine Ot rfl rfl ?_
  exact Au 3 rfl rfl hk
 ·intro _ hk; refine A2 3 rfl ?_; refine Of rfl rfl ?_
  exact Au 3 rfl rfl hk
 refine Oa rfl (Ab ?_)
 first | refine Fw rfl (fun h => h6 h.1) ?_ | refine Fv rfl (fun h => h6 h.1) ?_ | refine Ay Am ?_
 refine Se rfl (Om rfl (Od rfl rfl rfl (Om rfl ?_)))
 apply F6 147 150 rfl
 ·intro g17_3 hk
  try simp only [nb] at g17_3
  refine Ow rfl ?_; refine Cg rfl rfl rfl (.met rfl rfl) rfl ?_; refine Of rfl rfl ?_
  exact Au 2 rfl rfl hk
 ·intro _ hk; refine A2 2 rfl ?_; refine Ot rfl rfl ?_
  exact Au 2 rfl rfl hk
 refine Om rfl ?_
 apply F6 151 154 rfl
 ·intro g17_7 hk
  try simp only [nb] at g17_7
  refine Ow rfl ?_; refine Cg rfl rfl rfl (.met rfl rfl) rfl ?_; refine Of rfl rfl ?_
  exact Au 2 rfl rfl hk
 ·intro _ hk; refine A2 2 rfl ?_; refine Ot rfl rfl ?_
  exact Au 2 rfl rfl hk
 refine Om rfl ?_
 apply Cy 155 159 rfl
 ·intro g17_11 hk
  try simp only [nb] at g17_11
  refine A1 rfl (.met rfl rfl) rfl ?_; refine Bd rfl (.met rfl rfl) rfl ?_; refine Cg rfl rfl rfl (.met rfl rfl) rfl ?_; refine Ot rfl rfl ?_
  exact Au 3 rfl rfl hk
 ·intro _ hk; refine A2 3 rfl ?_; refine Of rfl rfl ?_
  exact Au 3 rfl rfl hk
 refine Om rfl ?_
 apply Cy 160 164 rfl
 ·intro g17_16 hk
  try simp only [nb] at g17_16
  refine A1 rfl (.met rfl rfl) rfl ?_; refine Bd rfl (.met rfl rfl) rfl ?_; refine Cg rfl rfl rfl (.met rfl rfl) rfl ?_; refine Ot rfl rfl ?_
  exact Au 3 rfl rfl hk
 ·intro _ hk; refine A2 3 rfl ?_; refine Of rfl rfl ?_
  exact Au 3 rfl rfl hk
 refine Oa rfl (Ab ?_); refine Av rfl ?_ ?_
 ·intro c6
  try simp only [nb] at c6
  obtain ⟨s, rfl⟩ := Yn (v := u) c6.1.2; obtain ⟨r, rfl⟩ := Yn (v := v) c6.2; refine Se rfl (Om rfl (Oh rfl ?_)); refine Bd rfl .free rfl ?_; refine Oh rfl ?_; refine Bd rfl .free rfl ?_; refine Ca rfl (Aao o (Du s) (Du r) (Jw wu) (Jw wv) _ _) ?_; rintro _ _ _ _ ⟨rfl, rfl, rfl⟩; refine Cd rfl rfl rfl .free rfl ?_; refine Bu rfl rfl rfl rfl .free ?_; refine Oa rfl (Ab ?_); refine Ai (.c rfl (.tmp rfl .nil)) ?_
  have hac : o.act (.num s) (.num r) = some (.num (Pw o s r)) := by
   cases o <;> first | rfl | cases ho
  have hg := GVat.num (I := I) (s := Pw o s r)
  rw [(R0 o s r).2] at hg; rw [hac]
  exact ⟨I, _, .refl _, Ms (L' := (b, _) :: L), _, rfl, hg, rfl⟩
 intro c6
 try simp only [nb] at c6
 refine Aj (Aq (Se rfl (Om rfl ?_))); refine Az rfl .free rfl ?_
 first | refine Oh rfl ?_ | refine Oj rfl ?_
 refine Bu rfl rfl rfl rfl .free ?_; refine Ab (Se rfl ?_); refine Cd rfl rfl rfl .free rfl ?_; refine Bu rfl rfl rfl rfl .free ?_; refine Oa rfl (Ab ?_); refine Ai (.c rfl (.tmp rfl .nil)) ?_
 have hac : o.act u v = none := by
  cases u with
  | num s =>
   cases v with
   | num r => exact absurd c6 (by simp [KV.kd]; intro x1 x2; rcases hor with (h | h) | h; exact absurd h x1; exact absurd h x2; exact h)
   | _ => cases o <;> first | rfl | cases ho
  | _ => cases o <;> first | rfl | cases ho
 rw [hac]
 exact ⟨I, _, .refl _, Ms (L' := (b, _) :: L), T3, rfl, rfl, rfl⟩
theorem Wu {a d : Ex} {u v : KV} (hno : ¬ u.kd = [102, 117, 110]) {I : Heap} {cs : List Value} (h : Rep I (Ex.bin .call a d).tree cs) {gu : List Value} (hu : GVat I u gu) {gv : List Value} (hv : GVat I v gv) {q : Addr} {c : Nat} (hq : Still I q (gu ++ gv)) (hc : 2 ≤ c)  {on ov : Option Addr} {lm cn lv cv : Nat} (b n : Nat) (hn : n ≤ 1000000) (L : Bh) :
  Fun Tryz.prog 100 [.pointer (some ⟨b, 0, none⟩), .agg cs.toArray, .slice (some q) 2 c, .slice on lm cn, .slice ov lv cv] I (Il b n false :: L) (Sb b ⟨none, n, true⟩ L) := by
 obtain ⟨oa, cc, oaf, cf, rfl, hf⟩ := h.at'
 have hlen : (Ex.bin .call a d).tree.parts.length = 3 := rfl
 obtain ⟨xa, rfl⟩ : ∃ xa, oa = some xa := ⟨_, Ec hf.nil (show 0 < 3 by decide)⟩
 have hle : HLe I I := .refl _
 have q0 : Still I (q.add (0 * 7)) gu := hq.left
 have q1 : Still I (q.add (1 * 7)) gv := hq.right 1 hu.len
 obtain ⟨_, _, _, _, _, _, _, _, _, _, _, _, rfl⟩ := hu.openK; obtain ⟨_, _, _, _, _, _, _, _, _, _, _, _, rfl⟩ := hv.openK
 unfold Il
 refine Al Af ?_; refine Se rfl ?_; refine Cc rfl rfl .free rfl ?_; intro b6; refine A3 .free rfl ?_; intro b10; refine Oa rfl (Ab (Se rfl (Oh rfl ?_))); refine Bd rfl .free rfl ?_
 first | refine Bk rfl rfl 0 rfl .free rfl ?_ | refine Bl rfl rfl 0 rfl .free rfl ?_
 refine Be rfl .free rfl ?_; refine F5 rfl .free rfl ?_; refine Df (t := 20) (v' := .string (str [99, 97, 108, 108])) rfl rfl ?_; refine Oa rfl (Ab (Se rfl (Om rfl ?_)))
 first | refine Bk rfl rfl 0 rfl .free rfl ?_ | refine Bl rfl rfl 0 rfl .free rfl ?_
 refine Br rfl (Bf q0 Ac) .free rfl ?_; refine A3 .free rfl ?_; intro b13; refine Bu rfl rfl rfl rfl .free ?_; refine Ab (Se rfl (Om rfl (Om rfl (On rfl ?_)))); refine Or rfl rfl rfl ?_; refine Df (t := 27) (v' := .int .i64 ((1 : Nat))) rfl Ac ?_
 first | refine Bk rfl rfl _ rfl .free rfl ?_ | refine Bl rfl rfl _ rfl .free rfl ?_
 refine Br rfl (Bf q1 Ac) .free rfl ?_; refine A3 .free rfl ?_; intro b14; refine Bu rfl rfl rfl rfl .free ?_; refine Ab (Ah (Ar (Se rfl (Om rfl (Od rfl rfl rfl (Oa rfl (Ab ?_)))))))
 first | refine Sf rfl Ad ?_ | refine Ay Am ?_
 refine Se rfl (Om rfl (Od rfl rfl rfl (Oa rfl (Ab ?_))))
 first | refine Sf rfl Ad ?_ | refine Ay Am ?_
 refine Se rfl (Om rfl (Od rfl rfl rfl (Om rfl ?_)))
 apply Cy 62 66 rfl
 ·intro g8_3 hk
  try simp only [nb] at g8_3
  refine A1 rfl (.met rfl rfl) rfl ?_; refine Bd rfl (.met rfl rfl) rfl ?_; refine Cg rfl rfl rfl (.met rfl rfl) rfl ?_; refine Ot rfl rfl ?_
  exact Au 3 rfl rfl hk
 ·intro _ hk; refine A2 3 rfl ?_; refine Of rfl rfl ?_
  exact Au 3 rfl rfl hk
 refine Oa rfl (Ab ?_)
 first | refine Fw rfl (fun h => absurd h.1 Ad) ?_ | refine Fv rfl (fun h => absurd h.1 Ad) ?_ | refine Ay Am ?_
 refine Se rfl (Om rfl (Od rfl rfl rfl (Om rfl ?_)))
 apply Cy 87 91 rfl
 ·intro g10_3 hk
  try simp only [nb] at g10_3
  refine A1 rfl (.met rfl rfl) rfl ?_; refine Bd rfl (.met rfl rfl) rfl ?_; refine Cg rfl rfl rfl (.met rfl rfl) rfl ?_; refine Ot rfl rfl ?_
  exact Au 3 rfl rfl hk
 ·intro _ hk; refine A2 3 rfl ?_; refine Of rfl rfl ?_
  exact Au 3 rfl rfl hk
 refine Oa rfl (Ab ?_)
 first | refine Fw rfl (fun h => hno h.2) ?_ | refine Fv rfl (fun h => hno h.2) ?_ | refine Ay Am ?_
 refine Se rfl (Om rfl (Od rfl rfl rfl (Om rfl ?_)))
 apply Cy 123 127 rfl
 ·intro g13_3 hk
  try simp only [nb] at g13_3
  refine A1 rfl (.met rfl rfl) rfl ?_; refine Bd rfl (.met rfl rfl) rfl ?_; refine Cg rfl rfl rfl (.met rfl rfl) rfl ?_; refine Ot rfl rfl ?_
  exact Au 3 rfl rfl hk
 ·intro _ hk; refine A2 3 rfl ?_; refine Of rfl rfl ?_
  exact Au 3 rfl rfl hk
 refine Oa rfl (Ab ?_)
 first | refine Fw rfl (fun h => absurd h.1 Ad) ?_ | refine Fv rfl (fun h => absurd h.1 Ad) ?_ | refine Ay Am ?_
 refine Se rfl (Om rfl (Od rfl rfl rfl (Om rfl ?_)))
 apply Cy 135 139 rfl
 ·intro g15_3 hk
  try simp only [nb] at g15_3
  refine A1 rfl (.met rfl rfl) rfl ?_; refine Bd rfl (.met rfl rfl) rfl ?_; refine Cg rfl rfl rfl (.met rfl rfl) rfl ?_; refine Ot rfl rfl ?_
  exact Au 3 rfl rfl hk
 ·intro _ hk; refine A2 3 rfl ?_; refine Of rfl rfl ?_
  exact Au 3 rfl rfl hk
 refine Oa rfl (Ab ?_)
 first | refine Fw rfl (fun h => absurd h.1 Ad) ?_ | refine Fv rfl (fun h => absurd h.1 Ad) ?_ | refine Ay Am ?_
 refine Se rfl (Om rfl (Od rfl rfl rfl (Om rfl ?_)))
 apply F6 147 150 rfl
 ·intro g17_3 hk
  try simp only [nb] at g17_3
  refine Ow rfl ?_; refine Cg rfl rfl rfl (.met rfl rfl) rfl ?_; refine Of rfl rfl ?_
  exact Au 2 rfl rfl hk
 ·intro _ hk; refine A2 2 rfl ?_; refine Ot rfl rfl ?_
  exact Au 2 rfl rfl hk
 refine Om rfl ?_
 apply F6 151 154 rfl
 ·intro g17_7 hk
  try simp only [nb] at g17_7
  refine Ow rfl ?_; refine Cg rfl rfl rfl (.met rfl rfl) rfl ?_; refine Of rfl rfl ?_
  exact Au 2 rfl rfl hk
 ·intro _ hk; refine A2 2 rfl ?_; refine Ot rfl rfl ?_
  exact Au 2 rfl rfl hk
 refine Om rfl ?_
 apply Cy 155 159 rfl
 ·intro g17_11 hk
  try simp only [nb] at g17_11
  refine A1 rfl (.met rfl rfl) rfl ?_; refine Bd rfl (.met rfl rfl) rfl ?_; refine Cg rfl rfl rfl (.met rfl rfl) rfl ?_; refine Ot rfl rfl ?_
  exact Au 3 rfl rfl hk
 ·intro _ hk; refine A2 3 rfl ?_; refine Of rfl rfl ?_
  exact Au 3 rfl rfl hk
 refine Om rfl ?_
 apply Cy 160 164 rfl
 ·intro g17_16 hk
  try simp only [nb] at g17_16
  refine A1 rfl (.met rfl rfl) rfl ?_; refine Bd rfl (.met rfl rfl) rfl ?_; refine Cg rfl rfl rfl (.met rfl rfl) rfl ?_; refine Ot rfl rfl ?_
  exact Au 3 rfl rfl hk
 ·intro _ hk; refine A2 3 rfl ?_; refine Of rfl rfl ?_
  exact Au 3 rfl rfl hk
 refine Oa rfl (Ab ?_)
 first | refine Fw rfl (fun h => absurd h.1.1 Ad) ?_ | refine Fv rfl (fun h => absurd h.1.1 Ad) ?_ | refine Ay Am ?_
 refine Aj (Aq (Se rfl (Om rfl ?_))); refine Az rfl .free rfl ?_
 first | refine Oh rfl ?_ | refine Oj rfl ?_
 refine Bu rfl rfl rfl rfl .free ?_; refine Ab (Se rfl ?_); refine Cd rfl rfl rfl .free rfl ?_; refine Bu rfl rfl rfl rfl .free ?_; refine Oa rfl (Ab ?_); refine Ai (.c rfl (.tmp rfl .nil)) ?_
 exact ⟨I, _, .refl _, Ms (L' := (b, _) :: L), T3, rfl, rfl, rfl⟩
theorem Yi {a d e : Ex} {u : KV} (hno : ¬ u.kd = [110, 117, 109, 98, 101, 114]) {I : Heap} {cs : List Value} (h : Rep I (Ex.ite a d e).tree cs) {gu : List Value} (hu : GVat I u gu) {q : Addr} {c : Nat} (hq : Still I q (gu))  {on ov : Option Addr} {lm cn lv cv : Nat} (b n : Nat) (hn : n ≤ 1000000) (L : Bh) :
  Fun Tryz.prog 100 [.pointer (some ⟨b, 0, none⟩), .agg cs.toArray, .slice (some q) 1 c, .slice on lm cn, .slice ov lv cv] I (Il b n false :: L) (Sb b ⟨none, n, true⟩ L) := by
 obtain ⟨oa, cc, oaf, cf, rfl, hf⟩ := h.at'
 have hlen : (Ex.ite a d e).tree.parts.length = 4 := rfl
 obtain ⟨xa, rfl⟩ : ∃ xa, oa = some xa := ⟨_, Ec hf.nil (show 0 < 4 by decide)⟩
 have hle : HLe I I := .refl _
 have q0 : Still I (q.add (0 * 7)) gu := Still.left (cv := []) Jr
 obtain ⟨_, _, _, _, _, _, _, _, _, _, _, _, rfl⟩ := hu.openK
 unfold Il
 refine Al Af ?_; refine Se rfl ?_; refine Cc rfl rfl .free rfl ?_; intro b6; refine A3 .free rfl ?_; intro b10; refine Oa rfl (Ab (Se rfl (Oh rfl ?_))); refine Bd rfl .free rfl ?_
 first | refine Bk rfl rfl 0 rfl .free rfl ?_ | refine Bl rfl rfl 0 rfl .free rfl ?_
 refine Be rfl .free rfl ?_; refine F5 rfl .free rfl ?_; refine Df (t := 20) (v' := .string (str [105, 102])) rfl rfl ?_; refine Oa rfl (Ab (Se rfl (Om rfl ?_)))
 first | refine Bk rfl rfl 0 rfl .free rfl ?_ | refine Bl rfl rfl 0 rfl .free rfl ?_
 refine Br rfl (Bf q0 Ac) .free rfl ?_; refine A3 .free rfl ?_; intro b13; refine Bu rfl rfl rfl rfl .free ?_; refine Ab (Se rfl (Om rfl (Om rfl (On rfl ?_)))); refine Or rfl rfl rfl ?_; refine Df (t := 27) (v' := .int .i64 ((0 : Nat))) rfl Ac ?_
 first | refine Bk rfl rfl _ rfl .free rfl ?_ | refine Bl rfl rfl _ rfl .free rfl ?_
 refine Br rfl (Bf q0 Ac) .free rfl ?_; refine A3 .free rfl ?_; intro b14; refine Bu rfl rfl rfl rfl .free ?_; refine Ab (Ah (Ar (Se rfl (Om rfl (Od rfl rfl rfl (Oa rfl (Ab ?_)))))))
 first | refine Sf rfl Ad ?_ | refine Ay Am ?_
 refine Se rfl (Om rfl (Od rfl rfl rfl (Oa rfl (Ab ?_))))
 first | refine Sf rfl Ad ?_ | refine Ay Am ?_
 refine Se rfl (Om rfl (Od rfl rfl rfl (Om rfl ?_)))
 apply Cy 62 66 rfl
 ·intro g8_3 hk
  try simp only [nb] at g8_3
  refine A1 rfl (.met rfl rfl) rfl ?_; refine Bd rfl (.met rfl rfl) rfl ?_; refine Cg rfl rfl rfl (.met rfl rfl) rfl ?_; refine Ot rfl rfl ?_
  exact Au 3 rfl rfl hk
 ·intro _ hk; refine A2 3 rfl ?_; refine Of rfl rfl ?_
  exact Au 3 rfl rfl hk
 refine Oa rfl (Ab ?_)
 first | refine Fw rfl (fun h => hno h.2) ?_ | refine Fv rfl (fun h => hno h.2) ?_ | refine Ay Am ?_
 refine Se rfl (Om rfl (Od rfl rfl rfl (Om rfl ?_)))
 apply Cy 87 91 rfl
 ·intro g10_3 hk
  try simp only [nb] at g10_3
  refine A1 rfl (.met rfl rfl) rfl ?_; refine Bd rfl (.met rfl rfl) rfl ?_; refine Cg rfl rfl rfl (.met rfl rfl) rfl ?_; refine Ot rfl rfl ?_
  exact Au 3 rfl rfl hk
 ·intro _ hk; refine A2 3 rfl ?_; refine Of rfl rfl ?_
  exact Au 3 rfl rfl hk
 refine Oa rfl (Ab ?_)
 first | refine Fw rfl (fun h => absurd h.1 Ad) ?_ | refine Fv rfl (fun h => absurd h.1 Ad) ?_ | refine Ay Am ?_
 refine Se rfl (Om rfl (Od rfl rfl rfl (Om rfl ?_)))
 apply Cy 123 127 rfl
 ·intro g13_3 hk
  try simp only [nb] at g13_3
  refine A1 rfl (.met rfl rfl) rfl ?_; refine Bd rfl (.met rfl rfl) rfl ?_; refine Cg rfl rfl rfl (.met rfl rfl) rfl ?_; refine Ot rfl rfl ?_
  exact Au 3 rfl rfl hk
 ·intro _ hk; refine A2 3 rfl ?_; refine Of rfl rfl ?_
  exact Au 3 rfl rfl hk
 refine Oa rfl (Ab ?_)
 first | refine Fw rfl (fun h => absurd h.1 Ad) ?_ | refine Fv rfl (fun h => absurd h.1 Ad) ?_ | refine Ay Am ?_
 refine Se rfl (Om rfl (Od rfl rfl rfl (Om rfl ?_)))
 apply Cy 135 139 rfl
 ·intro g15_3 hk
  try simp only [nb] at g15_3
  refine A1 rfl (.met rfl rfl) rfl ?_; refine Bd rfl (.met rfl rfl) rfl ?_; refine Cg rfl rfl rfl (.met rfl rfl) rfl ?_; refine Ot rfl rfl ?_
  exact Au 3 rfl rfl hk
 ·intro _ hk; refine A2 3 rfl ?_; refine Of rfl rfl ?_
  exact Au 3 rfl rfl hk
 refine Oa rfl (Ab ?_)
 first | refine Fw rfl (fun h => absurd h.1 Ad) ?_ | refine Fv rfl (fun h => absurd h.1 Ad) ?_ | refine Ay Am ?_
 refine Se rfl (Om rfl (Od rfl rfl rfl (Om rfl ?_)))
 apply F6 147 150 rfl
 ·intro g17_3 hk
  try simp only [nb] at g17_3
  refine Ow rfl ?_; refine Cg rfl rfl rfl (.met rfl rfl) rfl ?_; refine Of rfl rfl ?_
  exact Au 2 rfl rfl hk
 ·intro _ hk; refine A2 2 rfl ?_; refine Ot rfl rfl ?_
  exact Au 2 rfl rfl hk
 refine Om rfl ?_
 apply F6 151 154 rfl
 ·intro g17_7 hk
  try simp only [nb] at g17_7
  refine Ow rfl ?_; refine Cg rfl rfl rfl (.met rfl rfl) rfl ?_; refine Of rfl rfl ?_
  exact Au 2 rfl rfl hk
 ·intro _ hk; refine A2 2 rfl ?_; refine Ot rfl rfl ?_
  exact Au 2 rfl rfl hk
 refine Om rfl ?_
 apply Cy 155 159 rfl
 ·intro g17_11 hk
  try simp only [nb] at g17_11
  refine A1 rfl (.met rfl rfl) rfl ?_; refine Bd rfl (.met rfl rfl) rfl ?_; refine Cg rfl rfl rfl (.met rfl rfl) rfl ?_; refine Ot rfl rfl ?_
  exact Au 3 rfl rfl hk
 ·intro _ hk; refine A2 3 rfl ?_; refine Of rfl rfl ?_
  exact Au 3 rfl rfl hk
 refine Om rfl ?_
 apply Cy 160 164 rfl
 ·intro g17_16 hk
  try simp only [nb] at g17_16
  refine A1 rfl (.met rfl rfl) rfl ?_; refine Bd rfl (.met rfl rfl) rfl ?_; refine Cg rfl rfl rfl (.met rfl rfl) rfl ?_; refine Ot rfl rfl ?_
  exact Au 3 rfl rfl hk
 ·intro _ hk; refine A2 3 rfl ?_; refine Of rfl rfl ?_
  exact Au 3 rfl rfl hk
 refine Oa rfl (Ab ?_)
 first | refine Fw rfl (fun h => absurd h.1.1 Ad) ?_ | refine Fv rfl (fun h => absurd h.1.1 Ad) ?_ | refine Ay Am ?_
 refine Aj (Aq (Se rfl (Om rfl ?_))); refine Az rfl .free rfl ?_
 first | refine Oh rfl ?_ | refine Oj rfl ?_
 refine Bu rfl rfl rfl rfl .free ?_; refine Ab (Se rfl ?_); refine Cd rfl rfl rfl .free rfl ?_; refine Bu rfl rfl rfl rfl .free ?_; refine Oa rfl (Ab ?_); refine Ai (.c rfl (.tmp rfl .nil)) ?_
 exact ⟨I, _, .refl _, Ms (L' := (b, _) :: L), T3, rfl, rfl, rfl⟩
theorem Aar {o : U2} {a : Ex} {u : KV} (hno : ¬ u.kd = [112, 97, 105, 114]) {I : Heap} {cs : List Value} (h : Rep I (Ex.un o a).tree cs) {gu : List Value} (hu : GVat I u gu) {q : Addr} {c : Nat} (hq : Still I q (gu))  {on ov : Option Addr} {lm cn lv cv : Nat} (b n : Nat) (hn : n ≤ 1000000) (L : Bh) :
  Fun Tryz.prog 100 [.pointer (some ⟨b, 0, none⟩), .agg cs.toArray, .slice (some q) 1 c, .slice on lm cn, .slice ov lv cv] I (Il b n false :: L) (Sb b ⟨none, n, true⟩ L) := by
 obtain ⟨oa, cc, oaf, cf, rfl, hf⟩ := h.at'
 have hlen : (Ex.un o a).tree.parts.length = 2 := rfl
 obtain ⟨xa, rfl⟩ : ∃ xa, oa = some xa := ⟨_, Ec hf.nil (show 0 < 2 by decide)⟩
 have hle : HLe I I := .refl _
 have q0 : Still I (q.add (0 * 7)) gu := Still.left (cv := []) Jr
 obtain ⟨_, _, _, _, _, _, _, _, _, _, _, _, rfl⟩ := hu.openK
 have h1 : ¬ o.txt = [112, 97, 105, 114] := fun h => M6 .pair o h.symm
 have h2 : ¬ o.txt = [108, 101, 116] := o.txt_ne.2.1
 have h3 : ¬ o.txt = [105, 102] := o.txt_ne.1
 have h4 : ¬ o.txt = [99, 97, 108, 108] := fun h => M6 .call o h.symm
 have hor : ¬ ((o.txt = [43] ∨ o.txt = [45]) ∨ o.txt = [42]) := by cases o <;> decide
 unfold Il
 refine Al Af ?_; refine Se rfl ?_; refine Cc rfl rfl .free rfl ?_; intro b6; refine A3 .free rfl ?_; intro b10; refine Oa rfl (Ab (Se rfl (Oh rfl ?_))); refine Bd rfl .free rfl ?_
 first | refine Bk rfl rfl 0 rfl .free rfl ?_ | refine Bl rfl rfl 0 rfl .free rfl ?_
 refine Be rfl .free rfl ?_; refine F5 rfl .free rfl ?_; refine Df (t := 20) (v' := .string (str o.txt)) rfl rfl ?_; refine Oa rfl (Ab (Se rfl (Om rfl ?_)))
 first | refine Bk rfl rfl 0 rfl .free rfl ?_ | refine Bl rfl rfl 0 rfl .free rfl ?_
 refine Br rfl (Bf q0 Ac) .free rfl ?_; refine A3 .free rfl ?_; intro b13; refine Bu rfl rfl rfl rfl .free ?_; refine Ab (Se rfl (Om rfl (Om rfl (On rfl ?_)))); refine Or rfl rfl rfl ?_; refine Df (t := 27) (v' := .int .i64 ((0 : Nat))) rfl Ac ?_
 first | refine Bk rfl rfl _ rfl .free rfl ?_ | refine Bl rfl rfl _ rfl .free rfl ?_
 refine Br rfl (Bf q0 Ac) .free rfl ?_; refine A3 .free rfl ?_; intro b14; refine Bu rfl rfl rfl rfl .free ?_; refine Ab (Ah (Ar (Se rfl (Om rfl (Od rfl rfl rfl (Oa rfl (Ab ?_)))))))
 first | refine Fw rfl (h1) ?_ | refine Fv rfl (h1) ?_ | refine Ay Am ?_
 refine Se rfl (Om rfl (Od rfl rfl rfl (Oa rfl (Ab ?_))))
 first | refine Fw rfl (h2) ?_ | refine Fv rfl (h2) ?_ | refine Ay Am ?_
 refine Se rfl (Om rfl (Od rfl rfl rfl (Om rfl ?_)))
 apply Cy 62 66 rfl
 ·intro g8_3 hk
  try simp only [nb] at g8_3
  refine A1 rfl (.met rfl rfl) rfl ?_; refine Bd rfl (.met rfl rfl) rfl ?_; refine Cg rfl rfl rfl (.met rfl rfl) rfl ?_; refine Ot rfl rfl ?_
  exact Au 3 rfl rfl hk
 ·intro _ hk; refine A2 3 rfl ?_; refine Of rfl rfl ?_
  exact Au 3 rfl rfl hk
 refine Oa rfl (Ab ?_)
 first | refine Fw rfl (fun h => h3 h.1) ?_ | refine Fv rfl (fun h => h3 h.1) ?_ | refine Ay Am ?_
 refine Se rfl (Om rfl (Od rfl rfl rfl (Om rfl ?_)))
 apply Cy 87 91 rfl
 ·intro g10_3 hk
  try simp only [nb] at g10_3
  refine A1 rfl (.met rfl rfl) rfl ?_; refine Bd rfl (.met rfl rfl) rfl ?_; refine Cg rfl rfl rfl (.met rfl rfl) rfl ?_; refine Ot rfl rfl ?_
  exact Au 3 rfl rfl hk
 ·intro _ hk; refine A2 3 rfl ?_; refine Of rfl rfl ?_
  exact Au 3 rfl rfl hk
 refine Oa rfl (Ab ?_)
 first | refine Fw rfl (fun h => h4 h.1) ?_ | refine Fv rfl (fun h => h4 h.1) ?_ | refine Ay Am ?_
 refine Se rfl (Om rfl (Od rfl rfl rfl (Om rfl ?_)))
 apply Cy 123 127 rfl
 ·intro g13_3 hk
  try simp only [nb] at g13_3
  refine A1 rfl (.met rfl rfl) rfl ?_; refine Bd rfl (.met rfl rfl) rfl ?_; refine Cg rfl rfl rfl (.met rfl rfl) rfl ?_; refine Ot rfl rfl ?_
  exact Au 3 rfl rfl hk
 ·intro _ hk; refine A2 3 rfl ?_; refine Of rfl rfl ?_
  exact Au 3 rfl rfl hk
 refine Oa rfl (Ab ?_)
 first | refine Fw rfl (fun h => hno h.2) ?_ | refine Fv rfl (fun h => hno h.2) ?_ | refine Ay Am ?_
 refine Se rfl (Om rfl (Od rfl rfl rfl (Om rfl ?_)))
 apply Cy 135 139 rfl
 ·intro g15_3 hk
  try simp only [nb] at g15_3
  refine A1 rfl (.met rfl rfl) rfl ?_; refine Bd rfl (.met rfl rfl) rfl ?_; refine Cg rfl rfl rfl (.met rfl rfl) rfl ?_; refine Ot rfl rfl ?_
  exact Au 3 rfl rfl hk
 ·intro _ hk; refine A2 3 rfl ?_; refine Of rfl rfl ?_
  exact Au 3 rfl rfl hk
 refine Oa rfl (Ab ?_)
 first | refine Fw rfl (fun h => hno h.2) ?_ | refine Fv rfl (fun h => hno h.2) ?_ | refine Ay Am ?_
 refine Se rfl (Om rfl (Od rfl rfl rfl (Om rfl ?_)))
 apply F6 147 150 rfl
 ·intro g17_3 hk
  try simp only [nb] at g17_3
  refine Ow rfl ?_; refine Cg rfl rfl rfl (.met rfl rfl) rfl ?_; refine Of rfl rfl ?_
  exact Au 2 rfl rfl hk
 ·intro _ hk; refine A2 2 rfl ?_; refine Ot rfl rfl ?_
  exact Au 2 rfl rfl hk
 refine Om rfl ?_
 apply F6 151 154 rfl
 ·intro g17_7 hk
  try simp only [nb] at g17_7
  refine Ow rfl ?_; refine Cg rfl rfl rfl (.met rfl rfl) rfl ?_; refine Of rfl rfl ?_
  exact Au 2 rfl rfl hk
 ·intro _ hk; refine A2 2 rfl ?_; refine Ot rfl rfl ?_
  exact Au 2 rfl rfl hk
 refine Om rfl ?_
 apply Cy 155 159 rfl
 ·intro g17_11 hk
  try simp only [nb] at g17_11
  refine A1 rfl (.met rfl rfl) rfl ?_; refine Bd rfl (.met rfl rfl) rfl ?_; refine Cg rfl rfl rfl (.met rfl rfl) rfl ?_; refine Ot rfl rfl ?_
  exact Au 3 rfl rfl hk
 ·intro _ hk; refine A2 3 rfl ?_; refine Of rfl rfl ?_
  exact Au 3 rfl rfl hk
 refine Om rfl ?_
 apply Cy 160 164 rfl
 ·intro g17_16 hk
  try simp only [nb] at g17_16
  refine A1 rfl (.met rfl rfl) rfl ?_; refine Bd rfl (.met rfl rfl) rfl ?_; refine Cg rfl rfl rfl (.met rfl rfl) rfl ?_; refine Ot rfl rfl ?_
  exact Au 3 rfl rfl hk
 ·intro _ hk; refine A2 3 rfl ?_; refine Of rfl rfl ?_
  exact Au 3 rfl rfl hk
 refine Oa rfl (Ab ?_)
 first | refine Fw rfl (fun h => hor h.1.1) ?_ | refine Fv rfl (fun h => hor h.1.1) ?_ | refine Ay Am ?_
 refine Aj (Aq (Se rfl (Om rfl ?_))); refine Az rfl .free rfl ?_
 first | refine Oh rfl ?_ | refine Oj rfl ?_
 refine Bu rfl rfl rfl rfl .free ?_; refine Ab (Se rfl ?_); refine Cd rfl rfl rfl .free rfl ?_; refine Bu rfl rfl rfl rfl .free ?_; refine Oa rfl (Ab ?_); refine Ai (.c rfl (.tmp rfl .nil)) ?_
 exact ⟨I, _, .refl _, Ms (L' := (b, _) :: L), T3, rfl, rfl, rfl⟩
theorem Aee {a : Ex} {k1 k2 : KV} {I : Heap} {cs : List Value} (h : Rep I (Ex.un .fst a).tree cs) {gu : List Value} (hu : GVat I (KV.pair k1 k2) gu) {q : Addr} {c : Nat} (hq : Still I q (gu))  {on ov : Option Addr} {lm cn lv cv : Nat} (b n : Nat) (hn : n ≤ 1000000) (L : Bh) :
  Fun Tryz.prog 100 [.pointer (some ⟨b, 0, none⟩), .agg cs.toArray, .slice (some q) 1 c, .slice on lm cn, .slice ov lv cv] I (Il b n false :: L) (Sb b ⟨some k1, n, false⟩ L) := by
 obtain ⟨oa, cc, oaf, cf, rfl, hf⟩ := h.at'
 have hlen : (Ex.un .fst a).tree.parts.length = 2 := rfl
 obtain ⟨xa, rfl⟩ : ∃ xa, oa = some xa := ⟨_, Ec hf.nil (show 0 < 2 by decide)⟩
 have hle : HLe I I := .refl _
 have q0 : Still I (q.add (0 * 7)) gu := Still.left (cv := []) Jr
 rcases hu with _ | @⟨_, _, q2, c2, cx, cy, hq2, hc2, hx, hy⟩ | _
 have p0 := hq2.left
 have p1 := hq2.right 1 hx.len
 obtain ⟨_, _, _, _, _, _, _, _, _, _, _, _, _, _, rfl⟩ := hx.open; obtain ⟨_, _, _, _, _, _, _, _, _, _, _, _, _, _, rfl⟩ := hy.open
 unfold Il
 refine Al Af ?_; refine Se rfl ?_; refine Cc rfl rfl .free rfl ?_; intro b6; refine A3 .free rfl ?_; intro b10; refine Oa rfl (Ab (Se rfl (Oh rfl ?_))); refine Bd rfl .free rfl ?_
 first | refine Bk rfl rfl 0 rfl .free rfl ?_ | refine Bl rfl rfl 0 rfl .free rfl ?_
 refine Be rfl .free rfl ?_; refine F5 rfl .free rfl ?_; refine Df (t := 20) (v' := .string (str [102, 115, 116])) rfl rfl ?_; refine Oa rfl (Ab (Se rfl (Om rfl ?_)))
 first | refine Bk rfl rfl 0 rfl .free rfl ?_ | refine Bl rfl rfl 0 rfl .free rfl ?_
 refine Br rfl (Bf q0 Ac) .free rfl ?_; refine A3 .free rfl ?_; intro b13; refine Bu rfl rfl rfl rfl .free ?_; refine Ab (Se rfl (Om rfl (Om rfl (On rfl ?_)))); refine Or rfl rfl rfl ?_; refine Df (t := 27) (v' := .int .i64 ((0 : Nat))) rfl Ac ?_
 first | refine Bk rfl rfl _ rfl .free rfl ?_ | refine Bl rfl rfl _ rfl .free rfl ?_
 refine Br rfl (Bf q0 Ac) .free rfl ?_; refine A3 .free rfl ?_; intro b14; refine Bu rfl rfl rfl rfl .free ?_; refine Ab (Ah (Ar (Se rfl (Om rfl (Od rfl rfl rfl (Oa rfl (Ab ?_)))))))
 first | refine Sf rfl Ad ?_ | refine Ay Am ?_
 refine Se rfl (Om rfl (Od rfl rfl rfl (Oa rfl (Ab ?_))))
 first | refine Sf rfl Ad ?_ | refine Ay Am ?_
 refine Se rfl (Om rfl (Od rfl rfl rfl (Om rfl ?_)))
 apply Cy 62 66 rfl
 ·intro g8_3 hk
  try simp only [nb] at g8_3
  refine A1 rfl (.met rfl rfl) rfl ?_; refine Bd rfl (.met rfl rfl) rfl ?_; refine Cg rfl rfl rfl (.met rfl rfl) rfl ?_; refine Ot rfl rfl ?_
  exact Au 3 rfl rfl hk
 ·intro _ hk; refine A2 3 rfl ?_; refine Of rfl rfl ?_
  exact Au 3 rfl rfl hk
 refine Oa rfl (Ab ?_)
 first | refine Fw rfl (fun h => absurd h.1 Ad) ?_ | refine Fv rfl (fun h => absurd h.1 Ad) ?_ | refine Ay Am ?_
 refine Se rfl (Om rfl (Od rfl rfl rfl (Om rfl ?_)))
 apply Cy 87 91 rfl
 ·intro g10_3 hk
  try simp only [nb] at g10_3
  refine A1 rfl (.met rfl rfl) rfl ?_; refine Bd rfl (.met rfl rfl) rfl ?_; refine Cg rfl rfl rfl (.met rfl rfl) rfl ?_; refine Ot rfl rfl ?_
  exact Au 3 rfl rfl hk
 ·intro _ hk; refine A2 3 rfl ?_; refine Of rfl rfl ?_
  exact Au 3 rfl rfl hk
 refine Oa rfl (Ab ?_)
 first | refine Fw rfl (fun h => absurd h.1 Ad) ?_ | refine Fv rfl (fun h => absurd h.1 Ad) ?_ | refine Ay Am ?_
 refine Se rfl (Om rfl (Od rfl rfl rfl (Om rfl ?_)))
 apply Cy 123 127 rfl
 ·intro g13_3 hk
  try simp only [nb] at g13_3
  refine A1 rfl (.met rfl rfl) rfl ?_; refine Bd rfl (.met rfl rfl) rfl ?_; refine Cg rfl rfl rfl (.met rfl rfl) rfl ?_; refine Ot rfl rfl ?_
  exact Au 3 rfl rfl hk
 ·intro _ hk; refine A2 3 rfl ?_; refine Of rfl rfl ?_
  exact Au 3 rfl rfl hk
 refine Oa rfl (Ab ?_)
 first | refine Sr rfl (⟨rfl, rfl⟩) ?_ | refine Sq rfl (⟨rfl, rfl⟩) ?_ | refine Bs Am ?_
 refine Se rfl (Oh rfl ?_); refine Bd rfl .free rfl ?_
 first | refine Bk rfl rfl 0 rfl .free rfl ?_ | refine Bl rfl rfl 0 rfl .free rfl ?_
 refine Br rfl (Bf p0 Ac) .free rfl ?_; refine Bu rfl rfl rfl rfl .free ?_; refine Oa rfl (Ab ?_); refine Ai (.c rfl (.tmp rfl .nil)) ?_
 exact ⟨I, _, .refl _, Ms (L' := (b, _) :: L), _, rfl, hx, rfl⟩
theorem Aeh {a : Ex} {k1 k2 : KV} {I : Heap} {cs : List Value} (h : Rep I (Ex.un .snd a).tree cs) {gu : List Value} (hu : GVat I (KV.pair k1 k2) gu) {q : Addr} {c : Nat} (hq : Still I q (gu))  {on ov : Option Addr} {lm cn lv cv : Nat} (b n : Nat) (hn : n ≤ 1000000) (L : Bh) :
  Fun Tryz.prog 100 [.pointer (some ⟨b, 0, none⟩), .agg cs.toArray, .slice (some q) 1 c, .slice on lm cn, .slice ov lv cv] I (Il b n false :: L) (Sb b ⟨some k2, n, false⟩ L) := by
 obtain ⟨oa, cc, oaf, cf, rfl, hf⟩ := h.at'
 have hlen : (Ex.un .snd a).tree.parts.length = 2 := rfl
 obtain ⟨xa, rfl⟩ : ∃ xa, oa = some xa := ⟨_, Ec hf.nil (show 0 < 2 by decide)⟩
 have hle : HLe I I := .refl _
 have q0 : Still I (q.add (0 * 7)) gu := Still.left (cv := []) Jr
 rcases hu with _ | @⟨_, _, q2, c2, cx, cy, hq2, hc2, hx, hy⟩ | _
 have p0 := hq2.left
 have p1 := hq2.right 1 hx.len
 obtain ⟨_, _, _, _, _, _, _, _, _, _, _, _, _, _, rfl⟩ := hx.open; obtain ⟨_, _, _, _, _, _, _, _, _, _, _, _, _, _, rfl⟩ := hy.open
 unfold Il
 refine Al Af ?_; refine Se rfl ?_; refine Cc rfl rfl .free rfl ?_; intro b6; refine A3 .free rfl ?_; intro b10; refine Oa rfl (Ab (Se rfl (Oh rfl ?_))); refine Bd rfl .free rfl ?_
 first | refine Bk rfl rfl 0 rfl .free rfl ?_ | refine Bl rfl rfl 0 rfl .free rfl ?_
 refine Be rfl .free rfl ?_; refine F5 rfl .free rfl ?_; refine Df (t := 20) (v' := .string (str [115, 110, 100])) rfl rfl ?_; refine Oa rfl (Ab (Se rfl (Om rfl ?_)))
 first | refine Bk rfl rfl 0 rfl .free rfl ?_ | refine Bl rfl rfl 0 rfl .free rfl ?_
 refine Br rfl (Bf q0 Ac) .free rfl ?_; refine A3 .free rfl ?_; intro b13; refine Bu rfl rfl rfl rfl .free ?_; refine Ab (Se rfl (Om rfl (Om rfl (On rfl ?_)))); refine Or rfl rfl rfl ?_; refine Df (t := 27) (v' := .int .i64 ((0 : Nat))) rfl Ac ?_
 first | refine Bk rfl rfl _ rfl .free rfl ?_ | refine Bl rfl rfl _ rfl .free rfl ?_
 refine Br rfl (Bf q0 Ac) .free rfl ?_; refine A3 .free rfl ?_; intro b14; refine Bu rfl rfl rfl rfl .free ?_; refine Ab (Ah (Ar (Se rfl (Om rfl (Od rfl rfl rfl (Oa rfl (Ab ?_)))))))
 first | refine Sf rfl Ad ?_ | refine Ay Am ?_
 refine Se rfl (Om rfl (Od rfl rfl rfl (Oa rfl (Ab ?_))))
 first | refine Sf rfl Ad ?_ | refine Ay Am ?_
 refine Se rfl (Om rfl (Od rfl rfl rfl (Om rfl ?_)))
 apply Cy 62 66 rfl
 ·intro g8_3 hk
  try simp only [nb] at g8_3
  refine A1 rfl (.met rfl rfl) rfl ?_; refine Bd rfl (.met rfl rfl) rfl ?_; refine Cg rfl rfl rfl (.met rfl rfl) rfl ?_; refine Ot rfl rfl ?_
  exact Au 3 rfl rfl hk
 ·intro _ hk; refine A2 3 rfl ?_; refine Of rfl rfl ?_
  exact Au 3 rfl rfl hk
 refine Oa rfl (Ab ?_)
 first | refine Fw rfl (fun h => absurd h.1 Ad) ?_ | refine Fv rfl (fun h => absurd h.1 Ad) ?_ | refine Ay Am ?_
 refine Se rfl (Om rfl (Od rfl rfl rfl (Om rfl ?_)))
 apply Cy 87 91 rfl
 ·intro g10_3 hk
  try simp only [nb] at g10_3
  refine A1 rfl (.met rfl rfl) rfl ?_; refine Bd rfl (.met rfl rfl) rfl ?_; refine Cg rfl rfl rfl (.met rfl rfl) rfl ?_; refine Ot rfl rfl ?_
  exact Au 3 rfl rfl hk
 ·intro _ hk; refine A2 3 rfl ?_; refine Of rfl rfl ?_
  exact Au 3 rfl rfl hk
 refine Oa rfl (Ab ?_)
 first | refine Fw rfl (fun h => absurd h.1 Ad) ?_ | refine Fv rfl (fun h => absurd h.1 Ad) ?_ | refine Ay Am ?_
 refine Se rfl (Om rfl (Od rfl rfl rfl (Om rfl ?_)))
 apply Cy 123 127 rfl
 ·intro g13_3 hk
  try simp only [nb] at g13_3
  refine A1 rfl (.met rfl rfl) rfl ?_; refine Bd rfl (.met rfl rfl) rfl ?_; refine Cg rfl rfl rfl (.met rfl rfl) rfl ?_; refine Ot rfl rfl ?_
  exact Au 3 rfl rfl hk
 ·intro _ hk; refine A2 3 rfl ?_; refine Of rfl rfl ?_
  exact Au 3 rfl rfl hk
 refine Oa rfl (Ab ?_)
 first | refine Fw rfl (fun h => absurd h.1 Ad) ?_ | refine Fv rfl (fun h => absurd h.1 Ad) ?_ | refine Ay Am ?_
 refine Se rfl (Om rfl (Od rfl rfl rfl (Om rfl ?_)))
 apply Cy 135 139 rfl
 ·intro g15_3 hk
  try simp only [nb] at g15_3
  refine A1 rfl (.met rfl rfl) rfl ?_; refine Bd rfl (.met rfl rfl) rfl ?_; refine Cg rfl rfl rfl (.met rfl rfl) rfl ?_; refine Ot rfl rfl ?_
  exact Au 3 rfl rfl hk
 ·intro _ hk; refine A2 3 rfl ?_; refine Of rfl rfl ?_
  exact Au 3 rfl rfl hk
 refine Oa rfl (Ab ?_)
 first | refine Sr rfl (⟨rfl, rfl⟩) ?_ | refine Sq rfl (⟨rfl, rfl⟩) ?_ | refine Bs Am ?_
 refine Se rfl (Oh rfl ?_); refine Bd rfl .free rfl ?_
 first | refine Bk rfl rfl 1 rfl .free rfl ?_ | refine Bl rfl rfl 1 rfl .free rfl ?_
 refine Br rfl (Bf p1 Ac) .free rfl ?_; refine Bu rfl rfl rfl rfl .free ?_; refine Oa rfl (Ab ?_); refine Ai (.c rfl (.tmp rfl .nil)) ?_
 exact ⟨I, _, .refl _, Ms (L' := (b, _) :: L), _, rfl, hy, rfl⟩
theorem Aef {a d e : Ex} {s : As} (hs : Bt s = true) (hok : (Ex.ite a d e).ok = true) {I : Heap} {cs : List Value} (h : Rep I (Ex.ite a d e).tree cs) {gu : List Value} (hu : GVat I (KV.num s) gu) {q : Addr} {c : Nat} (hq : Still I q (gu))  {N : Nat} (ihn : EvG N) {k : KE} {on ov : Option Addr} {cn cv : Nat} (hk : GEat I k on cn ov cv) (hkw : k.wf) (b n : Nat) (hn : n ≤ 1000000) (hN : n < N) (htl : k.tall + 2 * n ≤ 100000) (hdm : ∀ y ∈ (if s = [48] then d else e).occ [], y ∈ k.dom) (L : Bh) :
  Fun Tryz.prog 100 [.pointer (some ⟨b, 0, none⟩), .agg cs.toArray, .slice (some q) 1 c, .slice on k.names.length cn, .slice ov k.names.length cv] I (Il b n false :: L) (Sb b (eval n (if s = [48] then d else e) k) L) := by
 obtain ⟨oa, cc, oaf, cf, rfl, hf⟩ := h.at'
 have hlen : (Ex.ite a d e).tree.parts.length = 4 := rfl
 obtain ⟨xa, rfl⟩ : ∃ xa, oa = some xa := ⟨_, Ec hf.nil (show 0 < 4 by decide)⟩
 have hle : HLe I I := .refl _
 have q0 : Still I (q.add (0 * 7)) gu := Still.left (cv := []) Jr
 cases hu
 simp only [Ex.ok, Bool.and_eq_true] at hok
 have hoE : (if s = [48] then d else e).ok = true := by split; exact hok.1.2; exact hok.2
 have hE : (if Du s = 0 then d.tree else e.tree) = (if s = [48] then d else e).tree := by
  by_cases h0 : s = [48]
  ·rw [if_pos ((Ko hs).2 h0), if_pos h0]
  ·rw [if_neg (fun h => h0 ((Ko hs).1 h)), if_neg h0]
 unfold Il
 refine Al Af ?_; refine Se rfl ?_; refine Cc rfl rfl .free rfl ?_; intro b6; refine A3 .free rfl ?_; intro b10; refine Oa rfl (Ab (Se rfl (Oh rfl ?_))); refine Bd rfl .free rfl ?_
 first | refine Bk rfl rfl 0 rfl .free rfl ?_ | refine Bl rfl rfl 0 rfl .free rfl ?_
 refine Be rfl .free rfl ?_; refine F5 rfl .free rfl ?_; refine Df (t := 20) (v' := .string (str [105, 102])) rfl rfl ?_; refine Oa rfl (Ab (Se rfl (Om rfl ?_)))
 first | refine Bk rfl rfl 0 rfl .free rfl ?_ | refine Bl rfl rfl 0 rfl .free rfl ?_
 refine Br rfl (Bf q0 Ac) .free rfl ?_; refine A3 .free rfl ?_; intro b13; refine Bu rfl rfl rfl rfl .free ?_; refine Ab (Se rfl (Om rfl (Om rfl (On rfl ?_)))); refine Or rfl rfl rfl ?_; refine Df (t := 27) (v' := .int .i64 ((0 : Nat))) rfl Ac ?_
 first | refine Bk rfl rfl _ rfl .free rfl ?_ | refine Bl rfl rfl _ rfl .free rfl ?_
 refine Br rfl (Bf q0 Ac) .free rfl ?_; refine A3 .free rfl ?_; intro b14; refine Bu rfl rfl rfl rfl .free ?_; refine Ab (Ah (Ar (Se rfl (Om rfl (Od rfl rfl rfl (Oa rfl (Ab ?_)))))))
 first | refine Sf rfl Ad ?_ | refine Ay Am ?_
 refine Se rfl (Om rfl (Od rfl rfl rfl (Oa rfl (Ab ?_))))
 first | refine Sf rfl Ad ?_ | refine Ay Am ?_
 refine Se rfl (Om rfl (Od rfl rfl rfl (Om rfl ?_)))
 apply Cy 62 66 rfl
 ·intro g8_3 hk
  try simp only [nb] at g8_3
  refine A1 rfl (.met rfl rfl) rfl ?_; refine Bd rfl (.met rfl rfl) rfl ?_; refine Cg rfl rfl rfl (.met rfl rfl) rfl ?_; refine Ot rfl rfl ?_
  exact Au 3 rfl rfl hk
 ·intro _ hk; refine A2 3 rfl ?_; refine Of rfl rfl ?_
  exact Au 3 rfl rfl hk
 refine Oa rfl (Ab ?_)
 first | refine Sr rfl (⟨rfl, rfl⟩) ?_ | refine Sq rfl (⟨rfl, rfl⟩) ?_ | refine Bs Am ?_
 refine Ah ?_; refine Ck (fun w h => h.f4) ?_; refine M3 19 rfl rfl ?_; refine Da 0 rfl (Ak rfl) ?_; refine Da 1 rfl (Ap rfl) ?_; refine Dt 2 [17] rfl (Cn rfl) ?_; refine Da 3 rfl (Ap rfl) ?_; refine Dt 4 [17] rfl (Cn rfl) ?_
 first | refine Da 5 rfl (Bw rfl rfl 2 rfl) ?_ | refine Da 5 rfl (Bx rfl rfl 2 rfl) ?_
 refine Dt 6 [17] rfl (C7 rfl) ?_; refine Da 7 rfl (Ap rfl) ?_; refine Dt 8 [17] rfl (Cn rfl) ?_
 first | refine Da 9 rfl (Bw rfl rfl 3 rfl) ?_ | refine Da 9 rfl (Bx rfl rfl 3 rfl) ?_
 refine Dt 10 [17] rfl (C7 rfl) ?_; refine Da 12 rfl (Ak rfl) ?_; refine Da 13 rfl (Ak rfl) ?_; refine Dc 11 rfl rfl (Acq (Du s) (hf.as 2 d.tree Aa rfl) (hf.as 3 e.tree Aa rfl) _) ?_; rintro _ J2 _ e2 ⟨cs2, rfl, hr2, rfl⟩; rw [hE] at hr2; obtain ⟨_, _, _, rfl, -⟩ := hr2.open
 have hk := hk.mono e2
 refine Hx ?_; refine Dc 14 rfl rfl (ihn n hN hr2 hoE hk hkw hdm htl b _) ?_; rintro _ J4 _ e4 ⟨cs5, rfl, hg5, rfl⟩
 have hle := e2.trans e4
 obtain ⟨_, _, _, _, _, _, _, _, _, _, _, _, _, _, rfl⟩ := hg5.open
 unfold Il
 refine Hx ?_; refine Da 15 rfl (A9 rfl rfl) ?_; refine Da 16 rfl (A9 rfl rfl) ?_; refine Dx 17 rfl rfl rfl rfl ?_; refine Db 18 rfl (At rfl) ?_; refine A5 Ae ?_; refine Ai (.c rfl (.tmp rfl .nil)) ?_
 exact ⟨J4, _, hle, Ms (L' := (b, _) :: L), _, rfl, hg5, rfl⟩
theorem Acv {a d : Ex} {fn x : As} {s t : Ty} {bd : Ex} {r : KE} {v : KV} (wu : (KV.clo fn x s t bd r).wf) (wv : v.wf) {I : Heap} {cs : List Value} (h : Rep I (Ex.bin .call a d).tree cs) {gu : List Value} (hu : GVat I (KV.clo fn x s t bd r) gu) {gv : List Value} (hv : GVat I v gv) {q : Addr} {c : Nat} (hq : Still I q (gu ++ gv)) (hc : 2 ≤ c)  {N : Nat} (ihn : EvG N) {k : KE} {on ov : Option Addr} {cn cv : Nat} (b n : Nat) (hn : n ≤ 1000000) (hN : n < N) (htl : k.tall + 2 * n ≤ 100000) (htr : r.tall ≤ 100000) (hdm : ∀ y ∈ bd.occ [], y ∈ (KE.cons x v (.cons fn (.clo fn x s t bd r) r)).dom) (htl2 : (KE.cons x v (.cons fn (.clo fn x s t bd r) r)).tall + 2 * n ≤ 100000) (L : Bh) :
  Fun Tryz.prog 100 [.pointer (some ⟨b, 0, none⟩), .agg cs.toArray, .slice (some q) 2 c, .slice on k.names.length cn, .slice ov k.names.length cv] I (Il b n false :: L) (Sb b (eval n bd (.cons x v (.cons fn (.clo fn x s t bd r) r))) L) := by
 obtain ⟨oa, cc, oaf, cf, rfl, hf⟩ := h.at'
 have hlen : (Ex.bin .call a d).tree.parts.length = 3 := rfl
 obtain ⟨xa, rfl⟩ : ∃ xa, oa = some xa := ⟨_, Ec hf.nil (show 0 < 3 by decide)⟩
 have hle : HLe I I := .refl _
 have q0 : Still I (q.add (0 * 7)) gu := hq.left
 have q1 : Still I (q.add (1 * 7)) gv := hq.right 1 hu.len
 have hu2 := hu
 have hv2 := hv
 obtain ⟨_, _, _, _, _, _, _, _, _, _, _, _, rfl⟩ := hv.openK
 rcases hu with _ | _ | @⟨_, _, _, _, _, _, o6, c6, on6, ov6, cn6, cv6, hr, he⟩
 have hnt := Ll r
 obtain ⟨hnm, hvs, hst, h0, hcv⟩ := he; obtain ⟨oa3, c3', oaf3, cf3, he3, hf3⟩ := hr.at'
 simp only [List.cons.injEq, Value.slice.injEq, and_true, true_and] at he3
 obtain ⟨-, rfl, -, rfl⟩ := he3
 have hlen3 : (Ex.fn fn x s t bd).tree.parts.length = 6 := rfl
 obtain ⟨hrw, hfok, hfd⟩ := id wu
 simp only [Ex.ok, Bool.and_eq_true, decide_eq_true_eq] at hfok
 obtain ⟨⟨⟨⟨⟨nf, nx⟩, hfx⟩, _⟩, _⟩, hcok⟩ := hfok
 have hfl : fn.length ≤ Bb := by have := F3 nf; unfold Bb; omega
 have hxl : x.length ≤ Bb := by have := F3 nx; unfold Bb; omega
 have hnn : r.names ++ [fn, x] = (KE.cons x v (.cons fn (.clo fn x s t bd r) r)).names := by simp [KE.names]
 unfold Il
 refine Al Af ?_; refine Se rfl ?_; refine Cc rfl rfl .free rfl ?_; intro b6; refine A3 .free rfl ?_; intro b10; refine Oa rfl (Ab (Se rfl (Oh rfl ?_))); refine Bd rfl .free rfl ?_
 first | refine Bk rfl rfl 0 rfl .free rfl ?_ | refine Bl rfl rfl 0 rfl .free rfl ?_
 refine Be rfl .free rfl ?_; refine F5 rfl .free rfl ?_; refine Df (t := 20) (v' := .string (str [99, 97, 108, 108])) rfl rfl ?_; refine Oa rfl (Ab (Se rfl (Om rfl ?_)))
 first | refine Bk rfl rfl 0 rfl .free rfl ?_ | refine Bl rfl rfl 0 rfl .free rfl ?_
 refine Br rfl (Bf q0 Ac) .free rfl ?_; refine A3 .free rfl ?_; intro b13; refine Bu rfl rfl rfl rfl .free ?_; refine Ab (Se rfl (Om rfl (Om rfl (On rfl ?_)))); refine Or rfl rfl rfl ?_; refine Df (t := 27) (v' := .int .i64 ((1 : Nat))) rfl Ac ?_
 first | refine Bk rfl rfl _ rfl .free rfl ?_ | refine Bl rfl rfl _ rfl .free rfl ?_
 refine Br rfl (Bf q1 Ac) .free rfl ?_; refine A3 .free rfl ?_; intro b14; refine Bu rfl rfl rfl rfl .free ?_; refine Ab (Ah (Ar (Se rfl (Om rfl (Od rfl rfl rfl (Oa rfl (Ab ?_)))))))
 first | refine Sf rfl Ad ?_ | refine Ay Am ?_
 refine Se rfl (Om rfl (Od rfl rfl rfl (Oa rfl (Ab ?_))))
 first | refine Sf rfl Ad ?_ | refine Ay Am ?_
 refine Se rfl (Om rfl (Od rfl rfl rfl (Om rfl ?_)))
 apply Cy 62 66 rfl
 ·intro g8_3 hk
  try simp only [nb] at g8_3
  refine A1 rfl (.met rfl rfl) rfl ?_; refine Bd rfl (.met rfl rfl) rfl ?_; refine Cg rfl rfl rfl (.met rfl rfl) rfl ?_; refine Ot rfl rfl ?_
  exact Au 3 rfl rfl hk
 ·intro _ hk; refine A2 3 rfl ?_; refine Of rfl rfl ?_
  exact Au 3 rfl rfl hk
 refine Oa rfl (Ab ?_)
 first | refine Fw rfl (fun h => absurd h.1 Ad) ?_ | refine Fv rfl (fun h => absurd h.1 Ad) ?_ | refine Ay Am ?_
 refine Se rfl (Om rfl (Od rfl rfl rfl (Om rfl ?_)))
 apply Cy 87 91 rfl
 ·intro g10_3 hk
  try simp only [nb] at g10_3
  refine A1 rfl (.met rfl rfl) rfl ?_; refine Bd rfl (.met rfl rfl) rfl ?_; refine Cg rfl rfl rfl (.met rfl rfl) rfl ?_; refine Ot rfl rfl ?_
  exact Au 3 rfl rfl hk
 ·intro _ hk; refine A2 3 rfl ?_; refine Of rfl rfl ?_
  exact Au 3 rfl rfl hk
 refine Oa rfl (Ab ?_)
 first | refine Sr rfl (⟨rfl, rfl⟩) ?_ | refine Sq rfl (⟨rfl, rfl⟩) ?_ | refine Bs Am ?_
 refine Se rfl (Oh rfl (Oh rfl ?_)); refine Bd rfl .free rfl ?_; refine Oa rfl (Ab (Ah ?_)); refine Ck (fun w h => h.f4) ?_; refine M3 27 rfl rfl ?_; refine Da 0 rfl (Ak rfl) ?_; refine Da 1 rfl (Ak rfl) ?_
 first | refine Da 2 rfl (Bw rfl rfl 5 rfl) ?_ | refine Da 2 rfl (Bx rfl rfl 5 rfl) ?_
 refine Dt 3 [25] rfl (Ew rfl (Bf (hf3.st _ Aa) Ac)) ?_; refine Da 4 rfl (Ap rfl) ?_; refine Dt 5 [25] rfl (Cn rfl) ?_; refine Da 6 rfl (Ak rfl) ?_
 first | refine Da 7 rfl (Bw rfl rfl 1 rfl) ?_ | refine Da 7 rfl (Bx rfl rfl 1 rfl) ?_
 refine Da 8 rfl (Bi rfl) ?_; refine Dt 9 [25] rfl (Ew rfl (Bc (hf3.st _ Aa) Ac rfl)) ?_; refine Da 10 rfl (Ak rfl) ?_
 first | refine Da 11 rfl (Bw rfl rfl 2 rfl) ?_ | refine Da 11 rfl (Bx rfl rfl 2 rfl) ?_
 refine Da 12 rfl (Bi rfl) ?_; refine Dt 13 [25] rfl (Ew rfl (Bc (hf3.st _ Aa) Ac rfl)) ?_; refine Da 16 rfl (Ap rfl) ?_; refine Dt 17 [25] rfl (Cn rfl) ?_; refine Dt 18 [25] rfl (Co rfl) ?_; refine Dt 20 [25] rfl (Co rfl) ?_; refine E8 14 rfl Ae rfl rfl rfl Ac Ac Ac Ad Ad Ac .free rfl (.inr Ax) ?_; intro b109; refine D2 ?_; intro hz
 have hle := hz
 have hf3 := hf3.mono hz
 have hnm := hnm.mono hz
 have hvs := hvs.mono hz
 have hst := fun x hx => (hst x hx).mono hz
 have hu2 := hu2.mono hz
 have hv2 := hv2.mono hz
 have hk1 := P1 (x := fn) (y := x) hz hfl hxl
 refine Dc 15 rfl rfl (Ja hnm hk1 Hb _) ?_; rintro _ J2 _ e2 ⟨o3, c3, rfl, hn3, rfl⟩; rw [hnn] at hn3 ⊢
 have hle := hle.trans e2
 have hf3 := hf3.mono e2
 have hvs := hvs.mono e2
 have hst := fun x hx => (hst x hx).mono e2
 have hu2 := hu2.mono e2
 have hv2 := hv2.mono e2
 refine Hx ?_; refine Dc 19 rfl rfl (Rl hvs hst h0 Aa hu2 fn _) ?_; rintro _ J3 _ e3 ⟨x4, c4, rfl, hs4, hc4, rfl⟩
 have hle := hle.trans e3
 have hf3 := hf3.mono e3
 have hvs := hvs.mono e3
 have hu2 := hu2.mono e3
 have hv2 := hv2.mono e3
 have hn3 := hn3.mono e3
 refine Hx ?_; refine Dc 21 rfl rfl (Rl (.cons (n := fn) hvs hu2) (fun x hx => by cases hx; exact hs4) (fun h => by cases h) (by simp only [KE.names, List.length_append, List.length_cons, List.length_nil]; omega) hv2 x _) ?_; rintro _ J4 _ e4 ⟨x5, c5, rfl, hs5, hc5, rfl⟩
 have hle := hle.trans e4
 have hf3 := hf3.mono e4
 have hvs := hvs.mono e4
 have hu2 := hu2.mono e4
 have hv2 := hv2.mono e4
 have hn3 := hn3.mono e4
 have hgk : GEat J4 (.cons x v (.cons fn (.clo fn x s t bd r) r)) o3 c3 (some x5) c5 := .mk hn3 (.cons (.cons hvs hu2) hv2) (fun x hx => by cases hx; exact hs5) (fun h => by cases h) hc5
 refine Hx ?_; refine Dc 22 rfl rfl (ihn n hN (hf3.as 5 bd.tree Aa rfl) hcok hgk ⟨nx, wv, nf, wu, hrw⟩ hdm htl2 b _) ?_; rintro _ J5 _ e5 ⟨cs5, rfl, hg5, rfl⟩
 have hle := hle.trans e5
 obtain ⟨_, _, _, _, _, _, _, _, _, _, _, _, _, _, rfl⟩ := hg5.open
 unfold Il
 refine Hx ?_; refine Da 23 rfl (A9 rfl rfl) ?_; refine Da 24 rfl (A9 rfl rfl) ?_; refine Dx 25 rfl rfl rfl rfl ?_; refine Db 26 rfl (At rfl) ?_; refine A5 Ae ?_; refine Ai (.c rfl (.tmp rfl .nil)) ?_
 exact ⟨J5, _, hle, Ms (L' := (b, _) :: L), _, rfl, hg5, rfl⟩
theorem Q5 {P : Program} {f : FuncId} {n : Nat} {I₀ : Heap} {Q : C3} {k : List Item} {E : Hw} {I : Heap} {L : Bh} {ops : Array Oper} {S : World → Prop} {fuel : Nat} {listed : Array Bool} {X : Type} (E' : X → Hw) (I' : X → Heap) (L' : X → Bh) (R : X → Prop)
  (hk : ∀ x, R x → RunS P f n I₀ Q k (E' x) (I' x) (L' x)) (h : (∀ x, R x → RunS P f n I₀ Q k (E' x) (I' x) (L' x)) → Cq P f n I₀ Q ops S fuel listed k E I L) : Cq P f n I₀ Q ops S fuel listed k E I L := h hk
theorem Wb {n : Nat} {e : Ex} {k : KE} {u : KV} (hk : k.wf) (hok : e.ok = true) (hd : ∀ y ∈ e.occ [], y ∈ k.dom) (h : (eval n e k).v = some u) : u.wf ∧ (eval n e k).stuck = false := by
 have := Pc n e k hk hok hd
 unfold Res.says at this
 rw [h] at this
 exact ⟨this.1, this.2.2⟩
theorem Af4 {s : As} (h : Bt s = true) : ¬ s = [] := fun e => by subst e; cases h
theorem V9 : ∀ {k : KE} {s : As}, s ∈ k.dom → ∃ v, k.look s = some v
 | .nil, s, h => by simp [KE.dom] at h
 | .cons n v up, s, h => by
  simp only [KE.dom, List.mem_cons] at h
  simp only [KE.look]
  by_cases hn : n = s
  ·exact ⟨v, by rw [if_pos hn]⟩
  ·rw [if_neg hn]
   exact V9 (h.resolve_left (fun e => hn e.symm))
theorem Still.mid {I : Heap} {q : Addr} {us ds ys : List Value} (h : Still I q (us ++ ds ++ ys)) (k : Nat) (hk : us.length = k * 7) : Still I (q.add (k * 7)) ds := h.part _ fun i hi => by
 rw [List.append_assoc, List.getElem?_append_right (by omega), show k * 7 + i - us.length = i by omega, List.getElem?_append_left hi, List.getElem?_eq_getElem hi]
theorem Aed {N : Nat} (ihn : EvG N) {o : B5} {a d : Ex} {u v : KV} (wu : u.wf) (wv : v.wf) {I : Heap} {cs : List Value} (h : Rep I (Ex.bin o a d).tree cs) {gu gv : List Value} (hu : GVat I u gu) (hv : GVat I v gv) {q : Addr} {c : Nat} (hq : Still I q (gu ++ gv)) (hc : 2 ≤ c) {k : KE} {on ov : Option Addr} {cn cv : Nat}
  (b n : Nat) (hn : n ≤ 1000000) (hN : n < N) (htk : k.tall + 2 * n ≤ 100000) (htu : u.tall + 2 + 2 * n ≤ 100000) (htv : v.tall + 2 + 2 * n ≤ 100000) (L : Bh) :
  Fun Tryz.prog 100 [.pointer (some ⟨b, 0, none⟩), .agg cs.toArray, .slice (some q) 2 c, .slice on k.names.length cn, .slice ov k.names.length cv] I (Il b n false :: L) (Sb b (L2 o u v n) L) := by
 by_cases hca : o = .call
 ·subst hca
  by_cases hk : u.kd = [102, 117, 110]
  ·obtain ⟨fn, x, s, t, bd, r, rfl⟩ := Af3 hk
   simp only [KV.tall] at htu
   refine Acv wu wv h hu hv hq hc ihn (k := k) b n hn hN htk Aa (fun y hy => ?_) (by simp only [KE.tall, KV.tall]; omega) L
   simp only [KE.dom, List.mem_cons]
   rcases wu.2.2 y hy with h | h
   ·simp only [List.mem_cons, List.not_mem_nil, or_false] at h
    rcases h with h | h
    ·exact .inr (.inl h)
    ·exact .inl h
   ·exact .inr (.inr h)
  ·have e : L2 .call u v n = ⟨none, n, true⟩ := by
    cases u with
    | clo f x s t b r => exact absurd rfl hk
    | _ => rfl
   rw [e]
   exact Wu hk h hu hv hq hc b n hn L
 ·by_cases hp : o = .pair
  ·subst hp
   exact Acw h hu hv hq hc b n hn L
  ·have e : L2 o u v n = Res.of (o.act u v) n := Hd (by rintro ⟨_, _, _, _, _, _, h, _⟩; exact hca h)
   rw [e]
   exact Aeg (by cases o <;> first | rfl | exact absurd rfl hca | exact absurd rfl hp) wu wv h hu hv hq hc b n hn L
theorem Afz {o : U2} {a : Ex} {u : KV} {I : Heap} {cs : List Value} (h : Rep I (Ex.un o a).tree cs) {gu : List Value} (hu : GVat I u gu) {q : Addr} {c : Nat} (hq : Still I q gu) {on ov : Option Addr} {lm cn lv cv : Nat} (b n : Nat) (hn : n ≤ 1000000) (L : Bh) :
  Fun Tryz.prog 100 [.pointer (some ⟨b, 0, none⟩), .agg cs.toArray, .slice (some q) 1 c, .slice on lm cn, .slice ov lv cv] I (Il b n false :: L) (Sb b (Res.of (o.act u) n) L) := by
 by_cases hk : u.kd = [112, 97, 105, 114]
 ·obtain ⟨x, y, rfl⟩ := Aep hk
  cases o with
  | fst => exact Aee h hu hq b n hn L
  | snd => exact Aeh h hu hq b n hn L
 ·have e : Res.of (o.act u) n = ⟨none, n, true⟩ := by
   cases u with
   | pair x y => exact absurd rfl hk
   | _ => cases o <;> rfl
  rw [e]
  exact Aar hk h hu hq b n hn L
def Af0 (u : KV) (n : Nat) (d g : Ex) (k : KE) : Res := match u with
 | .num s => eval n (if s = [48] then d else g) k
 | _ => ⟨none, n, true⟩
theorem Afx {N : Nat} (ihn : EvG N) {a d g : Ex} {u : KV} (wu : u.wf) {I : Heap} {cs : List Value} (h : Rep I (Ex.ite a d g).tree cs) (hok : (Ex.ite a d g).ok = true) {gu : List Value} (hu : GVat I u gu) {q : Addr} {c : Nat} (hq : Still I q gu) {k : KE} {on ov : Option Addr} {cn cv : Nat} (hk : GEat I k on cn ov cv) (hkw : k.wf)
  (b n : Nat) (hn : n ≤ 1000000) (hN : n < N) (htl : k.tall + 2 * n ≤ 100000) (hd1 : ∀ y ∈ d.occ [], y ∈ k.dom) (hd2 : ∀ y ∈ g.occ [], y ∈ k.dom) (L : Bh) :
  Fun Tryz.prog 100 [.pointer (some ⟨b, 0, none⟩), .agg cs.toArray, .slice (some q) 1 c, .slice on k.names.length cn, .slice ov k.names.length cv] I (Il b n false :: L) (Sb b (Af0 u n d g k) L) := by
 by_cases hkd : u.kd = [110, 117, 109, 98, 101, 114]
 ·obtain ⟨s, rfl⟩ := Yn hkd
  exact Aef wu hok h hu hq ihn hk hkw b n hn hN htl (by split; exact hd1; exact hd2) L
 ·have e : Af0 u n d g k = ⟨none, n, true⟩ := by
   cases u with
   | num s => exact absurd rfl hkd
   | _ => rfl
  rw [e]
  exact Yi hkd h hu hq b n hn L

theorem Yl {I : Heap} {e : Ex} {cs : List Value} {k : KE} {on ov : Option Addr} {lm cn lv cv : Nat} (h : Rep I e.tree cs) (b : Nat) (L : Bh) :
  Fun Tryz.prog 54 [.pointer (some ⟨b, 0, none⟩), .agg cs.toArray, .slice on lm cn, .slice ov lv cv] I (Il b 0 false :: L) (Sb b (eval 0 e k) L) := by
 obtain ⟨oa, cc, _, rfl, -⟩ := h.open
 unfold Il
 refine Al Af ?_; refine Se rfl ?_; refine Cc rfl rfl .free rfl ?_; intro b5; refine A3 .free rfl ?_; intro b8; refine Oa rfl (Ab (Ah (Se rfl (Om rfl ?_)))); refine Az rfl .free rfl ?_
 first | refine Oh rfl ?_ | refine Oj rfl ?_
 refine H3 rfl .free rfl ?_; refine Oc rfl rfl rfl (Ab ?_)
 first | refine St rfl (rfl) ?_ | refine Bs Am ?_
 refine Se rfl ?_; refine Cd rfl rfl rfl .free rfl ?_; refine Bu rfl rfl rfl rfl .free ?_; refine Oa rfl (Ab ?_); refine Ai (.c rfl (.tmp rfl .nil)) ?_; rw [Is]
 exact ⟨I, _, .refl _, Ms (L' := (b, _) :: L), T3, rfl, rfl, rfl⟩
theorem Aav {N : Nat} {s : As} {I : Heap} {cs : List Value} {k : KE} {on ov : Option Addr} {cn cv : Nat} (m : Nat) (hn : m < N) (h : Rep I (Ex.num s).tree cs) (hok : (Ex.num s).ok = true) (hk : GEat I k on cn ov cv) (hkw : k.wf) (hd : ∀ y ∈ (Ex.num s).occ [], y ∈ k.dom) (htl : k.tall + 2 * (m + 1) ≤ 100000) (b : Nat) (L : Bh) :
  Fun Tryz.prog 54 [.pointer (some ⟨b, 0, none⟩), .agg cs.toArray, .slice on k.names.length cn, .slice ov k.names.length cv] I (Il b (m + 1) false :: L) (Sb b (eval (m + 1) (Ex.num s) k) L) := by
 obtain ⟨oa, cc, _, rfl, -⟩ := h.open
 have hnt : ¬ s = [] := Af4 hok
 have hsl : s.length ≤ Bb := by have := Jt (show Bt s = true from hok); unfold Bb; omega
 unfold Il
 refine Al Af ?_; refine Se rfl ?_; refine Cc rfl rfl .free rfl ?_; intro b5; refine A3 .free rfl ?_; intro b8; refine Oa rfl (Ab (Ah (Se rfl (Om rfl ?_)))); refine Az rfl .free rfl ?_
 first | refine Oh rfl ?_ | refine Oj rfl ?_
 refine H3 rfl .free rfl ?_; refine Oc rfl rfl rfl (Ab ?_)
 first | refine Sf rfl Aa ?_ | refine Ay Am ?_
 refine Aj (Se rfl (Om rfl (Om rfl ?_))); refine Az rfl .free rfl ?_
 first | refine Oh rfl ?_ | refine Oj rfl ?_
 refine H3 rfl .free rfl ?_; refine Or rfl rfl rfl ?_; refine Df (t := 30) (v' := .int .i64 (m : Nat)) rfl Ed ?_; refine Az rfl .free rfl ?_
 first | refine Oh rfl ?_ | refine Oj rfl ?_
 refine Bu rfl rfl rfl rfl .free ?_; refine Ab (Ah (Se rfl (Oh rfl ?_))); refine Bd rfl .free rfl ?_; refine Od rfl rfl rfl (Ab ?_)
 first | refine Sr rfl (hnt) ?_ | refine Sq rfl (hnt) ?_ | refine Bs Am ?_
 refine Se rfl (Oh rfl ?_); refine Bd rfl .free rfl ?_; refine Ca rfl (Nl s hsl _ _) ?_; rintro _ _ _ _ ⟨rfl, rfl, rfl⟩; rw [show Bt s = true from hok]; refine Om rfl (Oe rfl rfl (Oe rfl rfl (Oa rfl (Oa rfl (Ab (Ah (Se rfl (Om rfl (Ab ?_)))))))))
 first | refine St rfl (rfl) ?_ | refine Bs Am ?_
 refine Se rfl (Om rfl ?_); refine Cd rfl rfl rfl .free rfl ?_; refine Bu rfl rfl rfl rfl .free ?_; refine Oa rfl (Ab ?_); refine Ai (.c rfl (.tmp rfl .nil)) ?_; rw [Kc]
 exact ⟨I, _, .refl _, Ms (L' := (b, _) :: L), _, rfl, .num, rfl⟩
theorem Yj {N : Nat} {s : As} {I : Heap} {cs : List Value} {k : KE} {on ov : Option Addr} {cn cv : Nat} (m : Nat) (hn : m < N) (h : Rep I (Ex.name s).tree cs) (hok : (Ex.name s).ok = true) (hk : GEat I k on cn ov cv) (hkw : k.wf) (hd : ∀ y ∈ (Ex.name s).occ [], y ∈ k.dom) (htl : k.tall + 2 * (m + 1) ≤ 100000) (b : Nat) (L : Bh) :
  Fun Tryz.prog 54 [.pointer (some ⟨b, 0, none⟩), .agg cs.toArray, .slice on k.names.length cn, .slice ov k.names.length cv] I (Il b (m + 1) false :: L) (Sb b (eval (m + 1) (Ex.name s) k) L) := by
 obtain ⟨oa, cc, _, rfl, -⟩ := h.open
 have hnt : ¬ s = [] := fun e => by subst e; cases hok
 have hsl : s.length ≤ Bb := by have := F3 (show Bn s = true from hok); unfold Bb; omega
 obtain ⟨v0, hv0⟩ := V9 (hd s (by simp [Ex.occ]))
 have hktl := Ll k
 obtain @⟨_, _, _, _, _, gs, hnm, hvs, hst, h0, hcv⟩ := hk
 unfold Il
 refine Al Af ?_; refine Se rfl ?_; refine Cc rfl rfl .free rfl ?_; intro b5; refine A3 .free rfl ?_; intro b8; refine Oa rfl (Ab (Ah (Se rfl (Om rfl ?_)))); refine Az rfl .free rfl ?_
 first | refine Oh rfl ?_ | refine Oj rfl ?_
 refine H3 rfl .free rfl ?_; refine Oc rfl rfl rfl (Ab ?_)
 first | refine Sf rfl Aa ?_ | refine Ay Am ?_
 refine Aj (Se rfl (Om rfl (Om rfl ?_))); refine Az rfl .free rfl ?_
 first | refine Oh rfl ?_ | refine Oj rfl ?_
 refine H3 rfl .free rfl ?_; refine Or rfl rfl rfl ?_; refine Df (t := 30) (v' := .int .i64 (m : Nat)) rfl Ed ?_; refine Az rfl .free rfl ?_
 first | refine Oh rfl ?_ | refine Oj rfl ?_
 refine Bu rfl rfl rfl rfl .free ?_; refine Ab (Ah (Se rfl (Oh rfl ?_))); refine Bd rfl .free rfl ?_; refine Od rfl rfl rfl (Ab ?_)
 first | refine Sr rfl (hnt) ?_ | refine Sq rfl (hnt) ?_ | refine Bs Am ?_
 refine Se rfl (Oh rfl ?_); refine Bd rfl .free rfl ?_; refine Ca rfl (Nl s hsl _ _) ?_; rintro _ _ _ _ ⟨rfl, rfl, rfl⟩; rw [Hi (show Bn s = true from hok)]; refine Om rfl (Oe rfl rfl (Oe rfl rfl (Oa rfl (Oa rfl (Ab (Ah (Se rfl (Om rfl (Ab ?_)))))))))
 first | refine Sf rfl Af ?_ | refine Ay Am ?_
 refine Aj (Ah (Se rfl (Om rfl (On rfl ?_)))); refine Or rfl rfl rfl ?_; refine Oa rfl (Ab (Ar ?_)); refine Dv (X := KE) (fun x => SizeOf.sizeOf x) (fun x => [(0, .pointer (some ⟨b, 0, none⟩)), (2, .slice on k.names.length cn), (3, .slice ov k.names.length cv), (5, .pointer (some ⟨b5, 0, none⟩)), (8, .pointer (some ⟨b8, 0, none⟩)), (12, .int .i64 ((x.names.length : Nat) - 1))]) (fun _ => I)
  (fun _ => (b8, .cells [.string (str []), .int .i64 0, .slice none 0 0, .string (str []), .slice none 0 0, .slice none 0 0, .slice none 0 0].toArray 76 (0, 0)) :: (b5, .cells [.string (str (Ex.name s).tree.atom), .slice oa (Ex.name s).tree.parts.length cc].toArray 68 (0, 0)) :: (b, .cells [.int .i64 (m : Nat), .bool false].toArray 73 (0, 0)) :: L)
  (fun x => (∃ rest, k.names = x.names ++ rest) ∧ (∃ xs ys, GVs I x xs ∧ gs = xs ++ ys) ∧ x.look s = k.look s) k ⟨⟨[], by simp⟩, ⟨gs, [], hvs, by simp⟩, rfl⟩ ⟨rfl, rfl, rfl, rfl, rfl, rfl, trivial⟩ (fun _ h => h) ?_
 rintro x ⟨⟨rest, hrest⟩, ⟨xs, ys, hgx, hgs⟩, hlk⟩ ih; refine Ah (Se rfl (Om rfl (Oc rfl rfl rfl (Ab ?_)))); refine Av rfl ?_ ?_
 ·intro c3
  try simp only [nb] at c3
  obtain ⟨mm, vv, up, rfl⟩ : ∃ mm vv up, x = .cons mm vv up := by
   cases x with
   | nil => simp [KE.names] at c3
   | cons mm vv up => exact ⟨_, _, _, rfl⟩
  obtain ⟨us, ds, hus, hds, rfl⟩ : ∃ us ds, GVs I up us ∧ GVat I vv ds ∧ xs = us ++ ds := by
   cases hgx with
   | cons hu hv => exact ⟨_, _, hu, hv, rfl⟩
  have hxl : (KE.cons mm vv up).names.length = up.names.length + 1 := by simp [KE.names]
  refine Kv (t := 12) (v' := .int .i64 (up.names.length : Nat)) rfl (by rw [hxl]; congr 1; omega) ?_
  have hi : up.names.length < k.names.length := by rw [hrest, List.length_append, hxl]; omega
  have hgi : k.names[up.names.length] = mm := by simp [hrest, KE.names]
  obtain ⟨xn, hxn, hstn⟩ := hnm.at up.names.length hi; rw [hgi] at hstn; obtain ⟨xv, hxv⟩ : ∃ xv, ov = some xv := by
   cases ov with
   | none => have := h0 rfl; rw [this] at hi; exact absurd hi (Nat.not_lt_zero _)
   | some xv => exact ⟨xv, rfl⟩
  subst hxn hxv hgs
  have hstv := (hst xv rfl).mid up.names.length hus.len
  obtain ⟨_, _, _, _, _, _, _, _, _, _, _, _, _, _, rfl⟩ := hds.open; refine Aj (Ah (Ar (Ah ?_))); refine Eb 7 rfl rfl ?_; refine Da 0 rfl (Ak rfl) ?_; refine Da 1 rfl (Ak rfl) ?_
  first | refine Da 2 rfl (Bw rfl rfl _ rfl) ?_ | refine Da 2 rfl (Bx rfl rfl _ rfl) ?_
  refine Dt 3 [7] rfl (Ew rfl (Ba hstn rfl)) ?_; refine Da 4 rfl (Ap rfl) ?_; refine Dt 5 [7] rfl (Cn rfl) ?_; refine Da 6 rfl (Vv rfl rfl rfl) ?_; refine A5 Ae ?_; refine Av rfl ?_ ?_
  ·intro c4
   try simp only [nb] at c4
   refine Se rfl (Om rfl (Om rfl ?_))
   first | refine Bk rfl rfl _ rfl .free rfl ?_ | refine Bl rfl rfl _ rfl .free rfl ?_
   refine Br rfl (Bf hstv Ac) .free rfl ?_; refine Bu rfl rfl rfl rfl .free ?_; refine Oa rfl (Ab ?_); refine Ai (.c rfl (.tmp rfl .nil)) ?_
   have hks : k.look s = some vv := by rw [← hlk, KE.look, if_pos (show mm = s from c4)]
   rw [Ir]
   exact ⟨I, _, .refl _, Ms (L' := (b, _) :: L), _, by rw [hks]; rfl, by rw [hks]; exact hds, rfl⟩
  intro c4
  try simp only [nb] at c4
  refine Aj (Aq (Ao rfl (Om rfl ?_))); refine Or rfl rfl rfl ?_; refine Oa rfl (Ab ?_)
  exact Cw (E' := [(0, .pointer (some ⟨b, 0, none⟩)), (2, .slice (some xn) k.names.length cn), (3, .slice (some xv) k.names.length cv), (5, .pointer (some ⟨b5, 0, none⟩)), (8, .pointer (some ⟨b8, 0, none⟩)), (12, .int .i64 ((up.names.length : Nat) - 1))]) ⟨rfl, rfl, rfl, rfl, rfl, rfl, trivial⟩ (ih up ⟨⟨mm :: rest, by rw [hrest]; simp [KE.names]⟩, ⟨us, _, hus, List.append_assoc _ _ _⟩, by rw [← hlk, KE.look, if_neg (show ¬ mm = s from c4)]⟩ (by simp only [KE.cons.sizeOf_spec]; omega))
 intro c3
 try simp only [nb] at c3
 have hF : False := by
  cases x with
  | nil => rw [hv0] at hlk; cases hlk
  | cons mm vv up => simp only [KE.names, List.length_append, List.length_cons, List.length_nil] at c3; omega
 refine Cs rfl ?_; refine Se rfl (Om rfl ?_); refine Az rfl .free rfl ?_
 first | refine Oh rfl ?_ | refine Oj rfl ?_
 refine Bu rfl rfl rfl rfl .free ?_; refine Ab (Se rfl ?_); refine Cd rfl rfl rfl .free rfl ?_; refine Bu rfl rfl rfl rfl .free ?_; refine Oa rfl (Ab ?_); refine Ai (.c rfl (.tmp rfl .nil)) ?_
 exact hF.elim
theorem Acx {N : Nat} {f x : As} {s t : Ty} {bd : Ex} {I : Heap} {cs : List Value} {k : KE} {on ov : Option Addr} {cn cv : Nat} (m : Nat) (hn : m < N) (h : Rep I (Ex.fn f x s t bd).tree cs) (hok : (Ex.fn f x s t bd).ok = true) (hk : GEat I k on cn ov cv) (hkw : k.wf) (hd : ∀ y ∈ (Ex.fn f x s t bd).occ [], y ∈ k.dom) (htl : k.tall + 2 * (m + 1) ≤ 100000) (b : Nat) (L : Bh) :
  Fun Tryz.prog 54 [.pointer (some ⟨b, 0, none⟩), .agg cs.toArray, .slice on k.names.length cn, .slice ov k.names.length cv] I (Il b (m + 1) false :: L) (Sb b (eval (m + 1) (Ex.fn f x s t bd) k) L) := by
 obtain ⟨oa, cc, oaf, cf, rfl, hf⟩ := h.at'
 have hlen : (Ex.fn f x s t bd).tree.parts.length = 6 := rfl
 obtain ⟨xa, rfl⟩ : ∃ xa, oa = some xa := ⟨_, Ec hf.nil (show 0 < 6 by decide)⟩
 have hat : (Ex.fn f x s t bd).tree.atom = [] := rfl
 unfold Il
 refine Al Af ?_; refine Se rfl ?_; refine Cc rfl rfl .free rfl ?_; intro b5; refine A3 .free rfl ?_; intro b8; refine Oa rfl (Ab (Ah (Se rfl (Om rfl ?_)))); refine Az rfl .free rfl ?_
 first | refine Oh rfl ?_ | refine Oj rfl ?_
 refine H3 rfl .free rfl ?_; refine Oc rfl rfl rfl (Ab ?_)
 first | refine Sf rfl Aa ?_ | refine Ay Am ?_
 refine Aj (Se rfl (Om rfl (Om rfl ?_))); refine Az rfl .free rfl ?_
 first | refine Oh rfl ?_ | refine Oj rfl ?_
 refine H3 rfl .free rfl ?_; refine Or rfl rfl rfl ?_; refine Df (t := 30) (v' := .int .i64 (m : Nat)) rfl Ed ?_; refine Az rfl .free rfl ?_
 first | refine Oh rfl ?_ | refine Oj rfl ?_
 refine Bu rfl rfl rfl rfl .free ?_; refine Ab (Ah (Se rfl (Oh rfl ?_))); refine Bd rfl .free rfl ?_; refine Od rfl rfl rfl (Ab ?_)
 first | refine Fw rfl (by simp [hat]) ?_ | refine Fv rfl (by simp [hat]) ?_ | refine Ay Am ?_
 refine Aj (Se rfl (Oh rfl ?_)); refine Bd rfl .free rfl ?_
 first | refine Bk rfl rfl 0 rfl .free rfl ?_ | refine Bl rfl rfl 0 rfl .free rfl ?_
 refine Be rfl .free rfl ?_; refine F5 rfl .free rfl ?_; refine Df (t := 71) (v' := .string (str [102, 117, 110])) rfl rfl ?_; refine Oa rfl (Ab (Ah (Se rfl (Om rfl (Od rfl rfl rfl (Ab ?_))))))
 first | refine St rfl (rfl) ?_ | refine Bs Am ?_
 refine Se rfl ?_; refine Bq rfl .free rfl ?_; refine Om rfl (Om rfl ?_); refine Cd rfl rfl rfl .free rfl ?_; refine Bu rfl rfl rfl rfl .free ?_; refine Oa rfl (Ab ?_); refine Ai (.c rfl (.tmp rfl .nil)) ?_; rw [Lg]
 exact ⟨I, _, .refl _, Ms (L' := (b, _) :: L), _, rfl, .clo h hk, rfl⟩
set_option maxHeartbeats 2000000 in
theorem Aat {N : Nat} (ihn : EvG N) {o : B5} {a d : Ex} {I : Heap} {cs : List Value} {k : KE} {on ov : Option Addr} {cn cv : Nat} (m : Nat) (hn : m < N) (h : Rep I (Ex.bin o a d).tree cs) (hok : (Ex.bin o a d).ok = true) (hk : GEat I k on cn ov cv) (hkw : k.wf) (hd : ∀ y ∈ (Ex.bin o a d).occ [], y ∈ k.dom) (htl : k.tall + 2 * (m + 1) ≤ 100000) (b : Nat) (L : Bh) :
  Fun Tryz.prog 54 [.pointer (some ⟨b, 0, none⟩), .agg cs.toArray, .slice on k.names.length cn, .slice ov k.names.length cv] I (Il b (m + 1) false :: L) (Sb b (eval (m + 1) (Ex.bin o a d) k) L) := by
 obtain ⟨oa, cc, oaf, cf, rfl, hf⟩ := h.at'
 have hlen : (Ex.bin o a d).tree.parts.length = 3 := rfl
 obtain ⟨xa, rfl⟩ : ∃ xa, oa = some xa := ⟨_, Ec hf.nil (show 0 < 3 by decide)⟩
 have hat : (Ex.bin o a d).tree.atom = [] := rfl
 have hev : eag o.txt = [1, 2] := by cases o <;> rfl
 have hok0 := hok
 simp only [Ex.ok, Bool.and_eq_true] at hok
 unfold Il
 refine Al Af ?_; refine Se rfl ?_; refine Cc rfl rfl .free rfl ?_; intro b5; refine A3 .free rfl ?_; intro b8; refine Oa rfl (Ab (Ah (Se rfl (Om rfl ?_)))); refine Az rfl .free rfl ?_
 first | refine Oh rfl ?_ | refine Oj rfl ?_
 refine H3 rfl .free rfl ?_; refine Oc rfl rfl rfl (Ab ?_)
 first | refine Sf rfl Aa ?_ | refine Ay Am ?_
 refine Aj (Se rfl (Om rfl (Om rfl ?_))); refine Az rfl .free rfl ?_
 first | refine Oh rfl ?_ | refine Oj rfl ?_
 refine H3 rfl .free rfl ?_; refine Or rfl rfl rfl ?_; refine Df (t := 30) (v' := .int .i64 (m : Nat)) rfl Ed ?_; refine Az rfl .free rfl ?_
 first | refine Oh rfl ?_ | refine Oj rfl ?_
 refine Bu rfl rfl rfl rfl .free ?_; refine Ab (Ah (Se rfl (Oh rfl ?_))); refine Bd rfl .free rfl ?_; refine Od rfl rfl rfl (Ab ?_)
 first | refine Fw rfl (by simp [hat]) ?_ | refine Fv rfl (by simp [hat]) ?_ | refine Ay Am ?_
 refine Aj (Se rfl (Oh rfl ?_)); refine Bd rfl .free rfl ?_
 first | refine Bk rfl rfl 0 rfl .free rfl ?_ | refine Bl rfl rfl 0 rfl .free rfl ?_
 refine Be rfl .free rfl ?_; refine F5 rfl .free rfl ?_; refine Df (t := 71) (v' := .string (str o.txt)) rfl rfl ?_; refine Oa rfl (Ab (Ah (Se rfl (Om rfl (Od rfl rfl rfl (Ab ?_))))))
 first | refine Fw rfl (o.txt_ne.2.2.1) ?_ | refine Fv rfl (o.txt_ne.2.2.1) ?_ | refine Ay Am ?_
 refine Aj (Se rfl (Om rfl ?_)); refine Ca rfl (Mt o.txt _ _) ?_; rintro _ J0 _ e0 ⟨oq, ck, rfl, hn0, rfl⟩
 have hle := e0
 have hf := hf.mono e0
 have hk := hk.mono e0
 rw [hev] at hn0; rw [hev]; refine Oa rfl (Ab (Se rfl ?_)); refine D9 .free rfl ?_; intro b80; refine Oa rfl (Ab (Ah (Ah ?_))); refine Ck (fun w h => h.f3) ?_; refine Ao rfl (Oa rfl (Ab (Ar ?_))); refine F0 ?_; refine Ah (Se rfl (Om rfl (Om rfl (On rfl (Oc rfl rfl rfl (Ab ?_)))))); refine Dj rfl By ?_; refine Aj (Ah (Ar (Ah ?_))); refine M3 18 rfl rfl ?_
 refine Q5 (X := Nat × Heap × List Value) (fun x => [(0, .pointer (some ⟨b, 0, none⟩)), (2, .slice on k.names.length cn), (3, .slice ov k.names.length cv), (5, .pointer (some ⟨b5, 0, none⟩)), (8, .pointer (some ⟨b8, 0, none⟩)), (14, .slice oq [1, 2].length ck), (15, .slice (some ⟨b80, 0, none⟩) 0 0), (16, .int .i64 0), (17, .pointer (some ⟨x.1, 0, none⟩)), (18, .bool (eval m a k).v.isSome)]) (fun x => x.2.1) (fun x => (x.1, .cells x.2.2.toArray 76 (0, 0)) :: (b, .cells [.int .i64 ((eval m a k).left : Nat), .bool (eval m a k).stuck].toArray 73 (0, 0)) :: (b80, .cells [].toArray 76 (0, 0)) :: (b8, .cells [.string (str []), .int .i64 0, .slice none 0 0, .string (str []), .slice none 0 0, .slice none 0 0, .slice none 0 0].toArray 76 (0, 0)) :: (b5, .cells [.string (str (Ex.bin o a d).tree.atom), .slice (some xa) (Ex.bin o a d).tree.parts.length cc].toArray 68 (0, 0)) :: L) (fun x => HLe J0 x.2.1 ∧ GO x.2.1 (eval m a k).v x.2.2) ?_ ?_
 ·rintro ⟨b17, J1, gs⟩ ⟨e1, hg1⟩
  simp only at e1 hg1 ⊢
  obtain ⟨x1, x2, x3, x4, x5, x6, x7, x8, x9, x10, x11, x12, x13, x14, rfl⟩ := hg1.open
  have hle := hle.trans e1
  have hf := hf.mono e1
  have hk := hk.mono e1
  have hn0 := hn0.mono e1
  refine Ah (Se rfl (Om rfl ?_)); refine Dl rfl .free rfl ?_; refine Ab ?_; refine Av rfl ?_ ?_
  ·intro c7
   try simp only [nb] at c7
   have hv0 : (eval m a k).v = none := by
    cases h : (eval m a k).v with
    | none => rfl
    | some w => rw [h] at c7; cases c7
   refine Se rfl ?_; refine H3 rfl .free rfl ?_; refine Bu rfl rfl rfl rfl .free ?_; refine Oa rfl (Ab ?_); refine Ai (.c rfl (.tmp rfl .nil)) ?_
   have hR : eval (m + 1) (Ex.bin o a d) k = (eval m a k) := by rw [G4]; simp only [hv0]
   rw [hR]
   exact ⟨J1, _, hle, Ms (L' := (b, _) :: L), _, by rw [hv0]; rfl, hg1, rfl⟩
  intro c7
  try simp only [nb] at c7
  obtain ⟨u, hv0⟩ : ∃ w, (eval m a k).v = some w := Option.isSome_iff_exists.1 (by simpa using c7); rw [hv0] at hg1
  have hau : GVat J1 u [.string (str x1), .int .i64 x2, .slice x3 x4 x5, .string (str []), .slice x6 x7 x8, .slice x9 x10 x11, .slice x12 x13 x14] := hg1
  obtain ⟨wu, hst0⟩ := Wb hkw hok.1 (fun y hy => hd y (List.mem_append_left _ hy)) hv0
  have hl1 := B7 m a k
  have htu := K7 m a k hv0
  rw [hst0]; refine Aj (Ao rfl (Om rfl ?_)); refine H3 rfl .free rfl ?_; refine Ol rfl rfl ?_; intro b107; refine D3 (B := some (b80, [])) (xs := []) (ys := [.string (str x1), .int .i64 x2, .slice x3 x4 x5, .string (str []), .slice x6 x7 x8, .slice x9 x10 x11, .slice x12 x13 x14]) (m := 0) (c := 0) A4 Ac rfl rfl ⟨rfl, Nat.le_refl _, rfl⟩ (fun _ h => h.f3) Ac (fun a ha => by cases ha; exact Bg (.head _) Ac) Af Ac Ad Ad Aa Ad .free rfl ?_; intro bb sp c2 hB
  simp only [List.nil_append]
  refine Oa rfl (Ab (Aq ?_)); refine Ck (fun w h => (Mem.sub (L' := (bb, _) :: (b, _) :: (b8, _) :: (b5, _) :: L) Bo h).f1) ?_; refine Ao rfl (Om rfl ?_); refine Or rfl rfl rfl ?_; refine Df (t := 86) (v' := .int .i64 ((1 : Nat))) rfl Ac ?_; refine Oa rfl (Ab ?_); refine Dd ?_; refine Ah (Se rfl (Om rfl (Om rfl (On rfl (Oc rfl rfl rfl (Ab ?_)))))); refine Dj rfl By ?_; refine Aj (Ah (Ar (Ah ?_))); refine M3 18 rfl rfl ?_
  refine Q5 (X := Nat × Heap × List Value) (fun x => [(0, .pointer (some ⟨b, 0, none⟩)), (2, .slice on k.names.length cn), (3, .slice ov k.names.length cv), (5, .pointer (some ⟨b5, 0, none⟩)), (8, .pointer (some ⟨b8, 0, none⟩)), (14, .slice oq [1, 2].length ck), (15, .slice (some ⟨bb, 0, none⟩) (0 + 1) c2), (16, .int .i64 ((1 : Nat))), (17, .pointer (some ⟨x.1, 0, none⟩)), (18, .bool (eval (eval m a k).left d k).v.isSome)]) (fun x => x.2.1) (fun x => (x.1, .cells x.2.2.toArray 76 (0, 0)) :: (b, .cells [.int .i64 ((eval (eval m a k).left d k).left : Nat), .bool (eval (eval m a k).left d k).stuck].toArray 73 (0, 0)) :: (bb, .cells (([.string (str x1), .int .i64 x2, .slice x3 x4 x5, .string (str []), .slice x6 x7 x8, .slice x9 x10 x11, .slice x12 x13 x14] : List Value) ++ sp).toArray 76 (0, 0)) :: (b8, .cells [.string (str []), .int .i64 0, .slice none 0 0, .string (str []), .slice none 0 0, .slice none 0 0, .slice none 0 0].toArray 76 (0, 0)) :: (b5, .cells [.string (str (Ex.bin o a d).tree.atom), .slice (some xa) (Ex.bin o a d).tree.parts.length cc].toArray 68 (0, 0)) :: L) (fun x => HLe J1 x.2.1 ∧ GO x.2.1 (eval (eval m a k).left d k).v x.2.2) ?_ ?_
  ·rintro ⟨b17, J2, gs⟩ ⟨e2, hg2⟩
   simp only at e2 hg2 ⊢
   obtain ⟨y1, y2, y3, y4, y5, y6, y7, y8, y9, y10, y11, y12, y13, y14, rfl⟩ := hg2.open
   have hle := hle.trans e2
   have hf := hf.mono e2
   have hk := hk.mono e2
   have hn0 := hn0.mono e2
   refine Ah (Se rfl (Om rfl ?_)); refine Dl rfl .free rfl ?_; refine Ab ?_; refine Av rfl ?_ ?_
   ·intro c7
    try simp only [nb] at c7
    have hv1 : (eval (eval m a k).left d k).v = none := by
     cases h : (eval (eval m a k).left d k).v with
     | none => rfl
     | some w => rw [h] at c7; cases c7
    refine Se rfl ?_; refine H3 rfl .free rfl ?_; refine Bu rfl rfl rfl rfl .free ?_; refine Oa rfl (Ab ?_); refine Ai (.c rfl (.tmp rfl .nil)) ?_
    have hR : eval (m + 1) (Ex.bin o a d) k = (eval (eval m a k).left d k) := by rw [G4]; simp only [hv0, hv1]
    rw [hR]
    exact ⟨J2, _, hle, Ms (L' := (b, _) :: L), _, by rw [hv1]; rfl, hg2, rfl⟩
   intro c7
   try simp only [nb] at c7
   obtain ⟨v, hv1⟩ : ∃ w, (eval (eval m a k).left d k).v = some w := Option.isSome_iff_exists.1 (by simpa using c7); rw [hv1] at hg2
   have hav : GVat J2 v [.string (str y1), .int .i64 y2, .slice y3 y4 y5, .string (str []), .slice y6 y7 y8, .slice y9 y10 y11, .slice y12 y13 y14] := hg2
   obtain ⟨wv, hst1⟩ := Wb hkw hok.2 (fun y hy => hd y (List.mem_append_right _ hy)) hv1
   have hl2 := B7 (eval m a k).left d k
   have htv := K7 (eval m a k).left d k hv1
   rw [hst1]; refine Aj (Ao rfl (Om rfl ?_)); refine H3 rfl .free rfl ?_; refine Ol rfl rfl ?_; intro b107; refine D3 (B := some (bb, sp)) (xs := [.string (str x1), .int .i64 x2, .slice x3 x4 x5, .string (str []), .slice x6 x7 x8, .slice x9 x10 x11, .slice x12 x13 x14]) (ys := [.string (str y1), .int .i64 y2, .slice y3 y4 y5, .string (str []), .slice y6 y7 y8, .slice y9 y10 y11, .slice y12 y13 y14]) (m := 1) (c := c2) A4 Ac rfl rfl hB (fun _ h => h.f3) Ac (fun a ha => by cases ha; exact Bg (.head _) Ac) Af Ac Ad Ad Aa Ad .free rfl ?_; intro bb2 sp2 c3 hB2; refine Oa rfl (Ab (Aq ?_))
   refine Ck (fun w h => (Mem.sub (L' := (bb2, _) :: (b, _) :: (b8, _) :: (b5, _) :: L) Bo h).f1) ?_; refine Ao rfl (Om rfl ?_); refine Or rfl rfl rfl ?_; refine Oa rfl (Ab ?_); refine Dd ?_; refine Ah (Se rfl (Om rfl (Om rfl (On rfl (Oc rfl rfl rfl (Ab ?_)))))); refine E6 rfl By ?_; refine Cs rfl ?_; refine Ah ?_; refine Ck (fun w h => h.f1) (Bv ?_); intro hz
   have hq := B0 (I := J2) (b := bb2) (xs := [.string (str x1), .int .i64 x2, .slice x3 x4 x5, .string (str []), .slice x6 x7 x8, .slice x9 x10 x11, .slice x12 x13 x14] ++ [.string (str y1), .int .i64 y2, .slice y3 y4 y5, .string (str []), .slice y6 y7 y8, .slice y9 y10 y11, .slice y12 y13 y14]) (ys := sp2) (T := 76) (fr := (0, 0))
   have hle := hle.trans hz
   have hf := hf.mono hz
   have hk := hk.mono hz
   have hau := hau.mono (e2.trans hz)
   have hav := hav.mono hz
   refine Ao rfl (Om rfl ?_); refine Bq rfl .free rfl ?_
   iterate 3 refine Om rfl ?_
   refine Ca rfl (Aed ihn wu wv hf.rep hau hav hq hB2.2.1 (k := k) b (eval (eval m a k).left d k).left Aa Aa Aa Aa Aa _) ?_; rintro _ J3 _ e3 ⟨gs5, rfl, hg5, rfl⟩
   have hle := hle.trans e3
   obtain ⟨_, _, _, _, _, _, _, _, _, _, _, _, _, _, rfl⟩ := hg5.open
   unfold Il
   refine Oe rfl rfl (Oe rfl rfl ?_); refine Bu rfl rfl rfl rfl .free ?_; refine Oa rfl (Ab ?_); refine Ai (.c rfl (.tmp rfl .nil)) ?_
   have hR : eval (m + 1) (Ex.bin o a d) k = L2 o u v (eval (eval m a k).left d k).left := by rw [K6]; simp only [hv0, hv1]
   rw [hR]
   exact ⟨J3, _, hle, Ms (L' := (b, _) :: L), _, rfl, hg5, rfl⟩
  ·intro hkk
   skip
   refine Da 0 rfl (Ak rfl) ?_; refine Da 1 rfl (Ap rfl) ?_; refine Dt 2 [16] rfl (Cn rfl) ?_; refine Da 3 rfl (Ak rfl) ?_; refine Da 4 rfl (Ak rfl) ?_
   first | refine Da 5 rfl (Bw rfl rfl _ rfl) ?_ | refine Da 5 rfl (Bx rfl rfl _ rfl) ?_
   refine Dt 6 [16] rfl (Qo rfl) ?_
   first | refine Da 7 rfl (Bw rfl rfl _ rfl) ?_ | refine Da 7 rfl (Bx rfl rfl _ rfl) ?_
   refine Dt 8 [16] rfl (C7 rfl) ?_; refine Da 9 rfl (Ak rfl) ?_; refine Da 10 rfl (Ak rfl) ?_; refine Fr 11 15 Ae ?_ ?_
   ·skip
    first
     | (refine De (L' := (b, _) :: _) (fun w h => h) ?_)
     | (refine De (fun w h => h.f1) ?_)
     | skip
    refine Ft 11 rfl rfl rfl .free rfl (ihn (eval m a k).left Aa (hf.as 2 d.tree Aa rfl) hok.2 hk hkw (fun y hy => hd y (List.mem_append_right _ hy)) Aa b _) ?_; rintro _ J2 _ e2 ⟨gs, rfl, hg2, rfl⟩; obtain ⟨y1, y2, y3, y4, y5, y6, y7, y8, y9, y10, y11, y12, y13, y14, rfl⟩ := hg2.open
    unfold Il
    refine Hx ?_; refine Da 12 rfl (Ak rfl) ?_; refine Da 13 rfl (A9 rfl rfl) ?_; refine Da 14 rfl (A9 rfl rfl) ?_; refine Ig 15 rfl Ae rfl .free rfl (.inr Ax) ?_; intro b17; refine Dx 16 rfl rfl rfl rfl ?_; refine Db 17 rfl (At rfl) ?_; refine A5 Ae ?_
    exact Cw (E' := [(0, _), (2, _), (3, _), (5, _), (8, _), (14, _), (15, _), (16, _), (17, _), (18, _)]) ⟨rfl, rfl, rfl, rfl, rfl, rfl, rfl, rfl, rfl, rfl, trivial⟩ (Ck Gw (hkk ⟨b17, J2, [.string (str y1), .int .i64 y2, .slice y3 y4 y5, .string (str []), .slice y6 y7 y8, .slice y9 y10 y11, .slice y12 y13 y14]⟩ ⟨e2, hg2⟩))
   ·skip
    refine Fy 15 rfl rfl .free rfl (.inr Ax) ?_; intro b17
    first
     | (refine De (L' := (b, _) :: _) (fun w h => h) ?_)
     | (refine De (fun w h => h.f1) ?_)
     | skip
    refine Dc 11 rfl rfl (ihn (eval m a k).left Aa (hf.as 2 d.tree Aa rfl) hok.2 hk hkw (fun y hy => hd y (List.mem_append_right _ hy)) Aa b _) ?_; rintro _ J2 _ e2 ⟨gs, rfl, hg2, rfl⟩; obtain ⟨y1, y2, y3, y4, y5, y6, y7, y8, y9, y10, y11, y12, y13, y14, rfl⟩ := hg2.open
    unfold Il
    refine Hx ?_; refine Da 12 rfl (Ak rfl) ?_; refine Da 13 rfl (A9 rfl rfl) ?_; refine Da 14 rfl (A9 rfl rfl) ?_; refine Dx 16 rfl rfl rfl rfl ?_; refine Db 17 rfl (At rfl) ?_; refine A5 Ae ?_
    exact Cw (E' := [(0, _), (2, _), (3, _), (5, _), (8, _), (14, _), (15, _), (16, _), (17, _), (18, _)]) ⟨rfl, rfl, rfl, rfl, rfl, rfl, rfl, rfl, rfl, rfl, trivial⟩ (Ck Gw (hkk ⟨b17, J2, [.string (str y1), .int .i64 y2, .slice y3 y4 y5, .string (str []), .slice y6 y7 y8, .slice y9 y10 y11, .slice y12 y13 y14]⟩ ⟨e2, hg2⟩))
 ·intro hkk
  skip
  refine Da 0 rfl (Ak rfl) ?_; refine Da 1 rfl (Ap rfl) ?_; refine Dt 2 [16] rfl (Cn rfl) ?_; refine Da 3 rfl (Ak rfl) ?_; refine Da 4 rfl (Ak rfl) ?_
  first | refine Da 5 rfl (Bw rfl rfl _ rfl) ?_ | refine Da 5 rfl (Bx rfl rfl _ rfl) ?_
  refine Dt 6 [16] rfl (Qo rfl) ?_
  first | refine Da 7 rfl (Bw rfl rfl _ rfl) ?_ | refine Da 7 rfl (Bx rfl rfl _ rfl) ?_
  refine Dt 8 [16] rfl (C7 rfl) ?_; refine Da 9 rfl (Ak rfl) ?_; refine Da 10 rfl (Ak rfl) ?_; refine Fr 11 15 Ae ?_ ?_
  ·skip
   first
    | (refine De (L' := (b, _) :: _) (fun w h => h) ?_)
    | (refine De (fun w h => h.f1) ?_)
    | skip
   refine Ft 11 rfl rfl rfl .free rfl (ihn m Aa (hf.as 1 a.tree Aa rfl) hok.1 hk hkw (fun y hy => hd y (List.mem_append_left _ hy)) Aa b _) ?_; rintro _ J1 _ e1 ⟨gs, rfl, hg1, rfl⟩; obtain ⟨x1, x2, x3, x4, x5, x6, x7, x8, x9, x10, x11, x12, x13, x14, rfl⟩ := hg1.open
   unfold Il
   refine Hx ?_; refine Da 12 rfl (Ak rfl) ?_; refine Da 13 rfl (A9 rfl rfl) ?_; refine Da 14 rfl (A9 rfl rfl) ?_; refine Ig 15 rfl Ae rfl .free rfl (.inr Ax) ?_; intro b17; refine Dx 16 rfl rfl rfl rfl ?_; refine Db 17 rfl (At rfl) ?_; refine A5 Ae ?_
   exact Cw (E' := [(0, _), (2, _), (3, _), (5, _), (8, _), (14, _), (15, _), (16, _), (17, _), (18, _)]) ⟨rfl, rfl, rfl, rfl, rfl, rfl, rfl, rfl, rfl, rfl, trivial⟩ (Ck Gw (hkk ⟨b17, J1, [.string (str x1), .int .i64 x2, .slice x3 x4 x5, .string (str []), .slice x6 x7 x8, .slice x9 x10 x11, .slice x12 x13 x14]⟩ ⟨e1, hg1⟩))
  ·skip
   refine Fy 15 rfl rfl .free rfl (.inr Ax) ?_; intro b17
   first
    | (refine De (L' := (b, _) :: _) (fun w h => h) ?_)
    | (refine De (fun w h => h.f1) ?_)
    | skip
   refine Dc 11 rfl rfl (ihn m Aa (hf.as 1 a.tree Aa rfl) hok.1 hk hkw (fun y hy => hd y (List.mem_append_left _ hy)) Aa b _) ?_; rintro _ J1 _ e1 ⟨gs, rfl, hg1, rfl⟩; obtain ⟨x1, x2, x3, x4, x5, x6, x7, x8, x9, x10, x11, x12, x13, x14, rfl⟩ := hg1.open
   unfold Il
   refine Hx ?_; refine Da 12 rfl (Ak rfl) ?_; refine Da 13 rfl (A9 rfl rfl) ?_; refine Da 14 rfl (A9 rfl rfl) ?_; refine Dx 16 rfl rfl rfl rfl ?_; refine Db 17 rfl (At rfl) ?_; refine A5 Ae ?_
   exact Cw (E' := [(0, _), (2, _), (3, _), (5, _), (8, _), (14, _), (15, _), (16, _), (17, _), (18, _)]) ⟨rfl, rfl, rfl, rfl, rfl, rfl, rfl, rfl, rfl, rfl, trivial⟩ (Ck Gw (hkk ⟨b17, J1, [.string (str x1), .int .i64 x2, .slice x3 x4 x5, .string (str []), .slice x6 x7 x8, .slice x9 x10 x11, .slice x12 x13 x14]⟩ ⟨e1, hg1⟩))
set_option maxHeartbeats 2000000 in
theorem Aau {N : Nat} (ihn : EvG N) {a d g : Ex} {I : Heap} {cs : List Value} {k : KE} {on ov : Option Addr} {cn cv : Nat} (m : Nat) (hn : m < N) (h : Rep I (Ex.ite a d g).tree cs) (hok : (Ex.ite a d g).ok = true) (hk : GEat I k on cn ov cv) (hkw : k.wf) (hd : ∀ y ∈ (Ex.ite a d g).occ [], y ∈ k.dom) (htl : k.tall + 2 * (m + 1) ≤ 100000) (b : Nat) (L : Bh) :
  Fun Tryz.prog 54 [.pointer (some ⟨b, 0, none⟩), .agg cs.toArray, .slice on k.names.length cn, .slice ov k.names.length cv] I (Il b (m + 1) false :: L) (Sb b (eval (m + 1) (Ex.ite a d g) k) L) := by
 obtain ⟨oa, cc, oaf, cf, rfl, hf⟩ := h.at'
 have hlen : (Ex.ite a d g).tree.parts.length = 4 := rfl
 obtain ⟨xa, rfl⟩ : ∃ xa, oa = some xa := ⟨_, Ec hf.nil (show 0 < 4 by decide)⟩
 have hat : (Ex.ite a d g).tree.atom = [] := rfl
 have hev : eag [105, 102] = [1] := rfl
 have hok0 := hok
 simp only [Ex.ok, Bool.and_eq_true] at hok
 unfold Il
 refine Al Af ?_; refine Se rfl ?_; refine Cc rfl rfl .free rfl ?_; intro b5; refine A3 .free rfl ?_; intro b8; refine Oa rfl (Ab (Ah (Se rfl (Om rfl ?_)))); refine Az rfl .free rfl ?_
 first | refine Oh rfl ?_ | refine Oj rfl ?_
 refine H3 rfl .free rfl ?_; refine Oc rfl rfl rfl (Ab ?_)
 first | refine Sf rfl Aa ?_ | refine Ay Am ?_
 refine Aj (Se rfl (Om rfl (Om rfl ?_))); refine Az rfl .free rfl ?_
 first | refine Oh rfl ?_ | refine Oj rfl ?_
 refine H3 rfl .free rfl ?_; refine Or rfl rfl rfl ?_; refine Df (t := 30) (v' := .int .i64 (m : Nat)) rfl Ed ?_; refine Az rfl .free rfl ?_
 first | refine Oh rfl ?_ | refine Oj rfl ?_
 refine Bu rfl rfl rfl rfl .free ?_; refine Ab (Ah (Se rfl (Oh rfl ?_))); refine Bd rfl .free rfl ?_; refine Od rfl rfl rfl (Ab ?_)
 first | refine Fw rfl (by simp [hat]) ?_ | refine Fv rfl (by simp [hat]) ?_ | refine Ay Am ?_
 refine Aj (Se rfl (Oh rfl ?_)); refine Bd rfl .free rfl ?_
 first | refine Bk rfl rfl 0 rfl .free rfl ?_ | refine Bl rfl rfl 0 rfl .free rfl ?_
 refine Be rfl .free rfl ?_; refine F5 rfl .free rfl ?_; refine Df (t := 71) (v' := .string (str [105, 102])) rfl rfl ?_; refine Oa rfl (Ab (Ah (Se rfl (Om rfl (Od rfl rfl rfl (Ab ?_))))))
 first | refine Sf rfl Ad ?_ | refine Ay Am ?_
 refine Aj (Se rfl (Om rfl ?_)); refine Ca rfl (Mt [105, 102] _ _) ?_; rintro _ J0 _ e0 ⟨oq, ck, rfl, hn0, rfl⟩
 have hle := e0
 have hf := hf.mono e0
 have hk := hk.mono e0
 rw [hev] at hn0; rw [hev]; refine Oa rfl (Ab (Se rfl ?_)); refine D9 .free rfl ?_; intro b80; refine Oa rfl (Ab (Ah (Ah ?_))); refine Ck (fun w h => h.f3) ?_; refine Ao rfl (Oa rfl (Ab (Ar ?_))); refine F0 ?_; refine Ah (Se rfl (Om rfl (Om rfl (On rfl (Oc rfl rfl rfl (Ab ?_)))))); refine Dj rfl By ?_; refine Aj (Ah (Ar (Ah ?_))); refine M3 18 rfl rfl ?_
 refine Q5 (X := Nat × Heap × List Value) (fun x => [(0, .pointer (some ⟨b, 0, none⟩)), (2, .slice on k.names.length cn), (3, .slice ov k.names.length cv), (5, .pointer (some ⟨b5, 0, none⟩)), (8, .pointer (some ⟨b8, 0, none⟩)), (14, .slice oq [1].length ck), (15, .slice (some ⟨b80, 0, none⟩) 0 0), (16, .int .i64 0), (17, .pointer (some ⟨x.1, 0, none⟩)), (18, .bool (eval m a k).v.isSome)]) (fun x => x.2.1) (fun x => (x.1, .cells x.2.2.toArray 76 (0, 0)) :: (b, .cells [.int .i64 ((eval m a k).left : Nat), .bool (eval m a k).stuck].toArray 73 (0, 0)) :: (b80, .cells [].toArray 76 (0, 0)) :: (b8, .cells [.string (str []), .int .i64 0, .slice none 0 0, .string (str []), .slice none 0 0, .slice none 0 0, .slice none 0 0].toArray 76 (0, 0)) :: (b5, .cells [.string (str (Ex.ite a d g).tree.atom), .slice (some xa) (Ex.ite a d g).tree.parts.length cc].toArray 68 (0, 0)) :: L) (fun x => HLe J0 x.2.1 ∧ GO x.2.1 (eval m a k).v x.2.2) ?_ ?_
 ·rintro ⟨b17, J1, gs⟩ ⟨e1, hg1⟩
  simp only at e1 hg1 ⊢
  obtain ⟨x1, x2, x3, x4, x5, x6, x7, x8, x9, x10, x11, x12, x13, x14, rfl⟩ := hg1.open
  have hle := hle.trans e1
  have hf := hf.mono e1
  have hk := hk.mono e1
  have hn0 := hn0.mono e1
  refine Ah (Se rfl (Om rfl ?_)); refine Dl rfl .free rfl ?_; refine Ab ?_; refine Av rfl ?_ ?_
  ·intro c7
   try simp only [nb] at c7
   have hv0 : (eval m a k).v = none := by
    cases h : (eval m a k).v with
    | none => rfl
    | some w => rw [h] at c7; cases c7
   refine Se rfl ?_; refine H3 rfl .free rfl ?_; refine Bu rfl rfl rfl rfl .free ?_; refine Oa rfl (Ab ?_); refine Ai (.c rfl (.tmp rfl .nil)) ?_
   have hR : eval (m + 1) (Ex.ite a d g) k = (eval m a k) := by rw [Ht]; simp only [hv0]
   rw [hR]
   exact ⟨J1, _, hle, Ms (L' := (b, _) :: L), _, by rw [hv0]; rfl, hg1, rfl⟩
  intro c7
  try simp only [nb] at c7
  obtain ⟨u, hv0⟩ : ∃ w, (eval m a k).v = some w := Option.isSome_iff_exists.1 (by simpa using c7); rw [hv0] at hg1
  have hau : GVat J1 u [.string (str x1), .int .i64 x2, .slice x3 x4 x5, .string (str []), .slice x6 x7 x8, .slice x9 x10 x11, .slice x12 x13 x14] := hg1
  obtain ⟨wu, hst0⟩ := Wb hkw hok.1.1 (fun y hy => hd y (List.mem_append_left _ (List.mem_append_left _ hy))) hv0
  have hl1 := B7 m a k
  have htu := K7 m a k hv0
  rw [hst0]; refine Aj (Ao rfl (Om rfl ?_)); refine H3 rfl .free rfl ?_; refine Ol rfl rfl ?_; intro b107; refine D3 (B := some (b80, [])) (xs := []) (ys := [.string (str x1), .int .i64 x2, .slice x3 x4 x5, .string (str []), .slice x6 x7 x8, .slice x9 x10 x11, .slice x12 x13 x14]) (m := 0) (c := 0) A4 Ac rfl rfl ⟨rfl, Nat.le_refl _, rfl⟩ (fun _ h => h.f3) Ac (fun a ha => by cases ha; exact Bg (.head _) Ac) Af Ac Ad Ad Aa Ad .free rfl ?_; intro bb sp c2 hB
  simp only [List.nil_append]
  refine Oa rfl (Ab (Aq ?_)); refine Ck (fun w h => (Mem.sub (L' := (bb, _) :: (b, _) :: (b8, _) :: (b5, _) :: L) Bo h).f1) ?_; refine Ao rfl (Om rfl ?_); refine Or rfl rfl rfl ?_; refine Df (t := 86) (v' := .int .i64 ((1 : Nat))) rfl Ac ?_; refine Oa rfl (Ab ?_); refine Dd ?_; refine Ah (Se rfl (Om rfl (Om rfl (On rfl (Oc rfl rfl rfl (Ab ?_)))))); refine E6 rfl By ?_; refine Cs rfl ?_; refine Ah ?_; refine Ck (fun w h => h.f1) (Bv ?_); intro hz
  have hq := B0 (I := J1) (b := bb) (xs := [.string (str x1), .int .i64 x2, .slice x3 x4 x5, .string (str []), .slice x6 x7 x8, .slice x9 x10 x11, .slice x12 x13 x14]) (ys := sp) (T := 76) (fr := (0, 0))
  have hle := hle.trans hz
  have hf := hf.mono hz
  have hk := hk.mono hz
  have hau := hau.mono hz
  refine Ao rfl (Om rfl ?_); refine Bq rfl .free rfl ?_
  iterate 3 refine Om rfl ?_
  refine Ca rfl (Afx ihn wu hf.rep hok0 hau hq hk hkw b (eval m a k).left Aa Aa Aa (fun y hy => hd y (List.mem_append_left _ (List.mem_append_right _ hy))) (fun y hy => hd y (List.mem_append_right _ hy)) _) ?_; rintro _ J3 _ e3 ⟨gs5, rfl, hg5, rfl⟩
  have hle := hle.trans e3
  obtain ⟨_, _, _, _, _, _, _, _, _, _, _, _, _, _, rfl⟩ := hg5.open
  unfold Il
  refine Oe rfl rfl (Oe rfl rfl ?_); refine Bu rfl rfl rfl rfl .free ?_; refine Oa rfl (Ab ?_); refine Ai (.c rfl (.tmp rfl .nil)) ?_
  have hR : eval (m + 1) (Ex.ite a d g) k = Af0 u (eval m a k).left d g k := by rw [Ht]; simp only [hv0]; cases u <;> rfl
  rw [hR]
  exact ⟨J3, _, hle, Ms (L' := (b, _) :: L), _, rfl, hg5, rfl⟩
 ·intro hkk
  skip
  refine Da 0 rfl (Ak rfl) ?_; refine Da 1 rfl (Ap rfl) ?_; refine Dt 2 [16] rfl (Cn rfl) ?_; refine Da 3 rfl (Ak rfl) ?_; refine Da 4 rfl (Ak rfl) ?_
  first | refine Da 5 rfl (Bw rfl rfl _ rfl) ?_ | refine Da 5 rfl (Bx rfl rfl _ rfl) ?_
  refine Dt 6 [16] rfl (Qo rfl) ?_
  first | refine Da 7 rfl (Bw rfl rfl _ rfl) ?_ | refine Da 7 rfl (Bx rfl rfl _ rfl) ?_
  refine Dt 8 [16] rfl (C7 rfl) ?_; refine Da 9 rfl (Ak rfl) ?_; refine Da 10 rfl (Ak rfl) ?_; refine Fr 11 15 Ae ?_ ?_
  ·skip
   first
    | (refine De (L' := (b, _) :: _) (fun w h => h) ?_)
    | (refine De (fun w h => h.f1) ?_)
    | skip
   refine Ft 11 rfl rfl rfl .free rfl (ihn m Aa (hf.as 1 a.tree Aa rfl) hok.1.1 hk hkw (fun y hy => hd y (List.mem_append_left _ (List.mem_append_left _ hy))) Aa b _) ?_; rintro _ J1 _ e1 ⟨gs, rfl, hg1, rfl⟩; obtain ⟨x1, x2, x3, x4, x5, x6, x7, x8, x9, x10, x11, x12, x13, x14, rfl⟩ := hg1.open
   unfold Il
   refine Hx ?_; refine Da 12 rfl (Ak rfl) ?_; refine Da 13 rfl (A9 rfl rfl) ?_; refine Da 14 rfl (A9 rfl rfl) ?_; refine Ig 15 rfl Ae rfl .free rfl (.inr Ax) ?_; intro b17; refine Dx 16 rfl rfl rfl rfl ?_; refine Db 17 rfl (At rfl) ?_; refine A5 Ae ?_
   exact Cw (E' := [(0, _), (2, _), (3, _), (5, _), (8, _), (14, _), (15, _), (16, _), (17, _), (18, _)]) ⟨rfl, rfl, rfl, rfl, rfl, rfl, rfl, rfl, rfl, rfl, trivial⟩ (Ck Gw (hkk ⟨b17, J1, [.string (str x1), .int .i64 x2, .slice x3 x4 x5, .string (str []), .slice x6 x7 x8, .slice x9 x10 x11, .slice x12 x13 x14]⟩ ⟨e1, hg1⟩))
  ·skip
   refine Fy 15 rfl rfl .free rfl (.inr Ax) ?_; intro b17
   first
    | (refine De (L' := (b, _) :: _) (fun w h => h) ?_)
    | (refine De (fun w h => h.f1) ?_)
    | skip
   refine Dc 11 rfl rfl (ihn m Aa (hf.as 1 a.tree Aa rfl) hok.1.1 hk hkw (fun y hy => hd y (List.mem_append_left _ (List.mem_append_left _ hy))) Aa b _) ?_; rintro _ J1 _ e1 ⟨gs, rfl, hg1, rfl⟩; obtain ⟨x1, x2, x3, x4, x5, x6, x7, x8, x9, x10, x11, x12, x13, x14, rfl⟩ := hg1.open
   unfold Il
   refine Hx ?_; refine Da 12 rfl (Ak rfl) ?_; refine Da 13 rfl (A9 rfl rfl) ?_; refine Da 14 rfl (A9 rfl rfl) ?_; refine Dx 16 rfl rfl rfl rfl ?_; refine Db 17 rfl (At rfl) ?_; refine A5 Ae ?_
   exact Cw (E' := [(0, _), (2, _), (3, _), (5, _), (8, _), (14, _), (15, _), (16, _), (17, _), (18, _)]) ⟨rfl, rfl, rfl, rfl, rfl, rfl, rfl, rfl, rfl, rfl, trivial⟩ (Ck Gw (hkk ⟨b17, J1, [.string (str x1), .int .i64 x2, .slice x3 x4 x5, .string (str []), .slice x6 x7 x8, .slice x9 x10 x11, .slice x12 x13 x14]⟩ ⟨e1, hg1⟩))
set_option maxHeartbeats 2000000 in
theorem Acy {N : Nat} (ihn : EvG N) {z : As} {a d : Ex} {I : Heap} {cs : List Value} {k : KE} {on ov : Option Addr} {cn cv : Nat} (m : Nat) (hn : m < N) (h : Rep I (Ex.lt z a d).tree cs) (hok : (Ex.lt z a d).ok = true) (hk : GEat I k on cn ov cv) (hkw : k.wf) (hd : ∀ y ∈ (Ex.lt z a d).occ [], y ∈ k.dom) (htl : k.tall + 2 * (m + 1) ≤ 100000) (b : Nat) (L : Bh) :
  Fun Tryz.prog 54 [.pointer (some ⟨b, 0, none⟩), .agg cs.toArray, .slice on k.names.length cn, .slice ov k.names.length cv] I (Il b (m + 1) false :: L) (Sb b (eval (m + 1) (Ex.lt z a d) k) L) := by
 obtain ⟨oa, cc, oaf, cf, rfl, hf⟩ := h.at'
 have hlen : (Ex.lt z a d).tree.parts.length = 4 := rfl
 obtain ⟨xa, rfl⟩ : ∃ xa, oa = some xa := ⟨_, Ec hf.nil (show 0 < 4 by decide)⟩
 have hat : (Ex.lt z a d).tree.atom = [] := rfl
 have hev : eag [108, 101, 116] = [2] := rfl
 have hok0 := hok
 simp only [Ex.ok, Bool.and_eq_true] at hok
 unfold Il
 refine Al Af ?_; refine Se rfl ?_; refine Cc rfl rfl .free rfl ?_; intro b5; refine A3 .free rfl ?_; intro b8; refine Oa rfl (Ab (Ah (Se rfl (Om rfl ?_)))); refine Az rfl .free rfl ?_
 first | refine Oh rfl ?_ | refine Oj rfl ?_
 refine H3 rfl .free rfl ?_; refine Oc rfl rfl rfl (Ab ?_)
 first | refine Sf rfl Aa ?_ | refine Ay Am ?_
 refine Aj (Se rfl (Om rfl (Om rfl ?_))); refine Az rfl .free rfl ?_
 first | refine Oh rfl ?_ | refine Oj rfl ?_
 refine H3 rfl .free rfl ?_; refine Or rfl rfl rfl ?_; refine Df (t := 30) (v' := .int .i64 (m : Nat)) rfl Ed ?_; refine Az rfl .free rfl ?_
 first | refine Oh rfl ?_ | refine Oj rfl ?_
 refine Bu rfl rfl rfl rfl .free ?_; refine Ab (Ah (Se rfl (Oh rfl ?_))); refine Bd rfl .free rfl ?_; refine Od rfl rfl rfl (Ab ?_)
 first | refine Fw rfl (by simp [hat]) ?_ | refine Fv rfl (by simp [hat]) ?_ | refine Ay Am ?_
 refine Aj (Se rfl (Oh rfl ?_)); refine Bd rfl .free rfl ?_
 first | refine Bk rfl rfl 0 rfl .free rfl ?_ | refine Bl rfl rfl 0 rfl .free rfl ?_
 refine Be rfl .free rfl ?_; refine F5 rfl .free rfl ?_; refine Df (t := 71) (v' := .string (str [108, 101, 116])) rfl rfl ?_; refine Oa rfl (Ab (Ah (Se rfl (Om rfl (Od rfl rfl rfl (Ab ?_))))))
 first | refine Sf rfl Ad ?_ | refine Ay Am ?_
 refine Aj (Se rfl (Om rfl ?_)); refine Ca rfl (Mt [108, 101, 116] _ _) ?_; rintro _ J0 _ e0 ⟨oq, ck, rfl, hn0, rfl⟩
 have hle := e0
 have hf := hf.mono e0
 have hk := hk.mono e0
 rw [hev] at hn0; rw [hev]; refine Oa rfl (Ab (Se rfl ?_)); refine D9 .free rfl ?_; intro b80; refine Oa rfl (Ab (Ah (Ah ?_))); refine Ck (fun w h => h.f3) ?_; refine Ao rfl (Oa rfl (Ab (Ar ?_))); refine F0 ?_; refine Ah (Se rfl (Om rfl (Om rfl (On rfl (Oc rfl rfl rfl (Ab ?_)))))); refine Dj rfl By ?_; refine Aj (Ah (Ar (Ah ?_))); refine M3 18 rfl rfl ?_
 refine Q5 (X := Nat × Heap × List Value) (fun x => [(0, .pointer (some ⟨b, 0, none⟩)), (2, .slice on k.names.length cn), (3, .slice ov k.names.length cv), (5, .pointer (some ⟨b5, 0, none⟩)), (8, .pointer (some ⟨b8, 0, none⟩)), (14, .slice oq [2].length ck), (15, .slice (some ⟨b80, 0, none⟩) 0 0), (16, .int .i64 0), (17, .pointer (some ⟨x.1, 0, none⟩)), (18, .bool (eval m a k).v.isSome)]) (fun x => x.2.1) (fun x => (x.1, .cells x.2.2.toArray 76 (0, 0)) :: (b, .cells [.int .i64 ((eval m a k).left : Nat), .bool (eval m a k).stuck].toArray 73 (0, 0)) :: (b80, .cells [].toArray 76 (0, 0)) :: (b8, .cells [.string (str []), .int .i64 0, .slice none 0 0, .string (str []), .slice none 0 0, .slice none 0 0, .slice none 0 0].toArray 76 (0, 0)) :: (b5, .cells [.string (str (Ex.lt z a d).tree.atom), .slice (some xa) (Ex.lt z a d).tree.parts.length cc].toArray 68 (0, 0)) :: L) (fun x => HLe J0 x.2.1 ∧ GO x.2.1 (eval m a k).v x.2.2) ?_ ?_
 ·rintro ⟨b17, J1, gs⟩ ⟨e1, hg1⟩
  simp only at e1 hg1 ⊢
  obtain ⟨x1, x2, x3, x4, x5, x6, x7, x8, x9, x10, x11, x12, x13, x14, rfl⟩ := hg1.open
  have hle := hle.trans e1
  have hf := hf.mono e1
  have hk := hk.mono e1
  have hn0 := hn0.mono e1
  refine Ah (Se rfl (Om rfl ?_)); refine Dl rfl .free rfl ?_; refine Ab ?_; refine Av rfl ?_ ?_
  ·intro c7
   try simp only [nb] at c7
   have hv0 : (eval m a k).v = none := by
    cases h : (eval m a k).v with
    | none => rfl
    | some w => rw [h] at c7; cases c7
   refine Se rfl ?_; refine H3 rfl .free rfl ?_; refine Bu rfl rfl rfl rfl .free ?_; refine Oa rfl (Ab ?_); refine Ai (.c rfl (.tmp rfl .nil)) ?_
   have hR : eval (m + 1) (Ex.lt z a d) k = (eval m a k) := by rw [I4]; simp only [hv0]
   rw [hR]
   exact ⟨J1, _, hle, Ms (L' := (b, _) :: L), _, by rw [hv0]; rfl, hg1, rfl⟩
  intro c7
  try simp only [nb] at c7
  obtain ⟨u, hv0⟩ : ∃ w, (eval m a k).v = some w := Option.isSome_iff_exists.1 (by simpa using c7); rw [hv0] at hg1
  have hau : GVat J1 u [.string (str x1), .int .i64 x2, .slice x3 x4 x5, .string (str []), .slice x6 x7 x8, .slice x9 x10 x11, .slice x12 x13 x14] := hg1
  obtain ⟨wu, hst0⟩ := Wb hkw hok.1.2 (fun y hy => hd y (List.mem_append_left _ hy)) hv0
  have hl1 := B7 m a k
  have htu := K7 m a k hv0
  rw [hst0]; refine Aj (Ao rfl (Om rfl ?_)); refine H3 rfl .free rfl ?_; refine Ol rfl rfl ?_; intro b107; refine D3 (B := some (b80, [])) (xs := []) (ys := [.string (str x1), .int .i64 x2, .slice x3 x4 x5, .string (str []), .slice x6 x7 x8, .slice x9 x10 x11, .slice x12 x13 x14]) (m := 0) (c := 0) A4 Ac rfl rfl ⟨rfl, Nat.le_refl _, rfl⟩ (fun _ h => h.f3) Ac (fun a ha => by cases ha; exact Bg (.head _) Ac) Af Ac Ad Ad Aa Ad .free rfl ?_; intro bb sp c2 hB
  simp only [List.nil_append]
  refine Oa rfl (Ab (Aq ?_)); refine Ck (fun w h => (Mem.sub (L' := (bb, _) :: (b, _) :: (b8, _) :: (b5, _) :: L) Bo h).f1) ?_; refine Ao rfl (Om rfl ?_); refine Or rfl rfl rfl ?_; refine Df (t := 86) (v' := .int .i64 ((1 : Nat))) rfl Ac ?_; refine Oa rfl (Ab ?_); refine Dd ?_; refine Ah (Se rfl (Om rfl (Om rfl (On rfl (Oc rfl rfl rfl (Ab ?_)))))); refine E6 rfl By ?_; refine Cs rfl ?_; refine Ah ?_; refine Ck (fun w h => h.f1) (Bv ?_); intro hz
  have hq := B0 (I := J1) (b := bb) (xs := [.string (str x1), .int .i64 x2, .slice x3 x4 x5, .string (str []), .slice x6 x7 x8, .slice x9 x10 x11, .slice x12 x13 x14]) (ys := sp) (T := 76) (fr := (0, 0))
  have hle := hle.trans hz
  have hf := hf.mono hz
  have hk := hk.mono hz
  have hau := hau.mono hz
  have hdm : ∀ y ∈ d.occ [], y ∈ (KE.cons z u k).dom := fun y hy => by
   simp only [KE.dom, List.mem_cons]
   by_cases hyx : y = z
   ·exact .inl hyx
   ·exact .inr (hd y (List.mem_append_right _ (show y ∈ d.occ ([] ++ [z]) from Ex.occ_mem.2 ⟨hy, by simpa using hyx⟩)))
  refine Ao rfl (Om rfl ?_); refine Bq rfl .free rfl ?_
  iterate 3 refine Om rfl ?_
  refine Ca rfl (Afy hok0 wu hf.rep hau hq ihn hk hkw b (eval m a k).left Aa Aa Aa hdm (by simp only [KE.tall]; omega) _) ?_; rintro _ J3 _ e3 ⟨gs5, rfl, hg5, rfl⟩
  have hle := hle.trans e3
  obtain ⟨_, _, _, _, _, _, _, _, _, _, _, _, _, _, rfl⟩ := hg5.open
  unfold Il
  refine Oe rfl rfl (Oe rfl rfl ?_); refine Bu rfl rfl rfl rfl .free ?_; refine Oa rfl (Ab ?_); refine Ai (.c rfl (.tmp rfl .nil)) ?_
  have hR : eval (m + 1) (Ex.lt z a d) k = eval (eval m a k).left d (.cons z u k) := by rw [I4]; simp only [hv0]
  rw [hR]
  exact ⟨J3, _, hle, Ms (L' := (b, _) :: L), _, rfl, hg5, rfl⟩
 ·intro hkk
  skip
  refine Da 0 rfl (Ak rfl) ?_; refine Da 1 rfl (Ap rfl) ?_; refine Dt 2 [16] rfl (Cn rfl) ?_; refine Da 3 rfl (Ak rfl) ?_; refine Da 4 rfl (Ak rfl) ?_
  first | refine Da 5 rfl (Bw rfl rfl _ rfl) ?_ | refine Da 5 rfl (Bx rfl rfl _ rfl) ?_
  refine Dt 6 [16] rfl (Qo rfl) ?_
  first | refine Da 7 rfl (Bw rfl rfl _ rfl) ?_ | refine Da 7 rfl (Bx rfl rfl _ rfl) ?_
  refine Dt 8 [16] rfl (C7 rfl) ?_; refine Da 9 rfl (Ak rfl) ?_; refine Da 10 rfl (Ak rfl) ?_; refine Fr 11 15 Ae ?_ ?_
  ·skip
   first
    | (refine De (L' := (b, _) :: _) (fun w h => h) ?_)
    | (refine De (fun w h => h.f1) ?_)
    | skip
   refine Ft 11 rfl rfl rfl .free rfl (ihn m Aa (hf.as 2 a.tree Aa rfl) hok.1.2 hk hkw (fun y hy => hd y (List.mem_append_left _ hy)) Aa b _) ?_; rintro _ J1 _ e1 ⟨gs, rfl, hg1, rfl⟩; obtain ⟨x1, x2, x3, x4, x5, x6, x7, x8, x9, x10, x11, x12, x13, x14, rfl⟩ := hg1.open
   unfold Il
   refine Hx ?_; refine Da 12 rfl (Ak rfl) ?_; refine Da 13 rfl (A9 rfl rfl) ?_; refine Da 14 rfl (A9 rfl rfl) ?_; refine Ig 15 rfl Ae rfl .free rfl (.inr Ax) ?_; intro b17; refine Dx 16 rfl rfl rfl rfl ?_; refine Db 17 rfl (At rfl) ?_; refine A5 Ae ?_
   exact Cw (E' := [(0, _), (2, _), (3, _), (5, _), (8, _), (14, _), (15, _), (16, _), (17, _), (18, _)]) ⟨rfl, rfl, rfl, rfl, rfl, rfl, rfl, rfl, rfl, rfl, trivial⟩ (Ck Gw (hkk ⟨b17, J1, [.string (str x1), .int .i64 x2, .slice x3 x4 x5, .string (str []), .slice x6 x7 x8, .slice x9 x10 x11, .slice x12 x13 x14]⟩ ⟨e1, hg1⟩))
  ·skip
   refine Fy 15 rfl rfl .free rfl (.inr Ax) ?_; intro b17
   first
    | (refine De (L' := (b, _) :: _) (fun w h => h) ?_)
    | (refine De (fun w h => h.f1) ?_)
    | skip
   refine Dc 11 rfl rfl (ihn m Aa (hf.as 2 a.tree Aa rfl) hok.1.2 hk hkw (fun y hy => hd y (List.mem_append_left _ hy)) Aa b _) ?_; rintro _ J1 _ e1 ⟨gs, rfl, hg1, rfl⟩; obtain ⟨x1, x2, x3, x4, x5, x6, x7, x8, x9, x10, x11, x12, x13, x14, rfl⟩ := hg1.open
   unfold Il
   refine Hx ?_; refine Da 12 rfl (Ak rfl) ?_; refine Da 13 rfl (A9 rfl rfl) ?_; refine Da 14 rfl (A9 rfl rfl) ?_; refine Dx 16 rfl rfl rfl rfl ?_; refine Db 17 rfl (At rfl) ?_; refine A5 Ae ?_
   exact Cw (E' := [(0, _), (2, _), (3, _), (5, _), (8, _), (14, _), (15, _), (16, _), (17, _), (18, _)]) ⟨rfl, rfl, rfl, rfl, rfl, rfl, rfl, rfl, rfl, rfl, trivial⟩ (Ck Gw (hkk ⟨b17, J1, [.string (str x1), .int .i64 x2, .slice x3 x4 x5, .string (str []), .slice x6 x7 x8, .slice x9 x10 x11, .slice x12 x13 x14]⟩ ⟨e1, hg1⟩))
set_option maxHeartbeats 2000000 in
theorem Acz {N : Nat} (ihn : EvG N) {o : U2} {a : Ex} {I : Heap} {cs : List Value} {k : KE} {on ov : Option Addr} {cn cv : Nat} (m : Nat) (hn : m < N) (h : Rep I (Ex.un o a).tree cs) (hok : (Ex.un o a).ok = true) (hk : GEat I k on cn ov cv) (hkw : k.wf) (hd : ∀ y ∈ (Ex.un o a).occ [], y ∈ k.dom) (htl : k.tall + 2 * (m + 1) ≤ 100000) (b : Nat) (L : Bh) :
  Fun Tryz.prog 54 [.pointer (some ⟨b, 0, none⟩), .agg cs.toArray, .slice on k.names.length cn, .slice ov k.names.length cv] I (Il b (m + 1) false :: L) (Sb b (eval (m + 1) (Ex.un o a) k) L) := by
 obtain ⟨oa, cc, oaf, cf, rfl, hf⟩ := h.at'
 have hlen : (Ex.un o a).tree.parts.length = 2 := rfl
 obtain ⟨xa, rfl⟩ : ∃ xa, oa = some xa := ⟨_, Ec hf.nil (show 0 < 2 by decide)⟩
 have hat : (Ex.un o a).tree.atom = [] := rfl
 have hev : eag o.txt = [1] := by cases o <;> rfl
 have hok0 := hok
 simp only [Ex.ok, Bool.and_eq_true] at hok
 unfold Il
 refine Al Af ?_; refine Se rfl ?_; refine Cc rfl rfl .free rfl ?_; intro b5; refine A3 .free rfl ?_; intro b8; refine Oa rfl (Ab (Ah (Se rfl (Om rfl ?_)))); refine Az rfl .free rfl ?_
 first | refine Oh rfl ?_ | refine Oj rfl ?_
 refine H3 rfl .free rfl ?_; refine Oc rfl rfl rfl (Ab ?_)
 first | refine Sf rfl Aa ?_ | refine Ay Am ?_
 refine Aj (Se rfl (Om rfl (Om rfl ?_))); refine Az rfl .free rfl ?_
 first | refine Oh rfl ?_ | refine Oj rfl ?_
 refine H3 rfl .free rfl ?_; refine Or rfl rfl rfl ?_; refine Df (t := 30) (v' := .int .i64 (m : Nat)) rfl Ed ?_; refine Az rfl .free rfl ?_
 first | refine Oh rfl ?_ | refine Oj rfl ?_
 refine Bu rfl rfl rfl rfl .free ?_; refine Ab (Ah (Se rfl (Oh rfl ?_))); refine Bd rfl .free rfl ?_; refine Od rfl rfl rfl (Ab ?_)
 first | refine Fw rfl (by simp [hat]) ?_ | refine Fv rfl (by simp [hat]) ?_ | refine Ay Am ?_
 refine Aj (Se rfl (Oh rfl ?_)); refine Bd rfl .free rfl ?_
 first | refine Bk rfl rfl 0 rfl .free rfl ?_ | refine Bl rfl rfl 0 rfl .free rfl ?_
 refine Be rfl .free rfl ?_; refine F5 rfl .free rfl ?_; refine Df (t := 71) (v' := .string (str o.txt)) rfl rfl ?_; refine Oa rfl (Ab (Ah (Se rfl (Om rfl (Od rfl rfl rfl (Ab ?_))))))
 first | refine Fw rfl (o.txt_ne.2.2.1) ?_ | refine Fv rfl (o.txt_ne.2.2.1) ?_ | refine Ay Am ?_
 refine Aj (Se rfl (Om rfl ?_)); refine Ca rfl (Mt o.txt _ _) ?_; rintro _ J0 _ e0 ⟨oq, ck, rfl, hn0, rfl⟩
 have hle := e0
 have hf := hf.mono e0
 have hk := hk.mono e0
 rw [hev] at hn0; rw [hev]; refine Oa rfl (Ab (Se rfl ?_)); refine D9 .free rfl ?_; intro b80; refine Oa rfl (Ab (Ah (Ah ?_))); refine Ck (fun w h => h.f3) ?_; refine Ao rfl (Oa rfl (Ab (Ar ?_))); refine F0 ?_; refine Ah (Se rfl (Om rfl (Om rfl (On rfl (Oc rfl rfl rfl (Ab ?_)))))); refine Dj rfl By ?_; refine Aj (Ah (Ar (Ah ?_))); refine M3 18 rfl rfl ?_
 refine Q5 (X := Nat × Heap × List Value) (fun x => [(0, .pointer (some ⟨b, 0, none⟩)), (2, .slice on k.names.length cn), (3, .slice ov k.names.length cv), (5, .pointer (some ⟨b5, 0, none⟩)), (8, .pointer (some ⟨b8, 0, none⟩)), (14, .slice oq [1].length ck), (15, .slice (some ⟨b80, 0, none⟩) 0 0), (16, .int .i64 0), (17, .pointer (some ⟨x.1, 0, none⟩)), (18, .bool (eval m a k).v.isSome)]) (fun x => x.2.1) (fun x => (x.1, .cells x.2.2.toArray 76 (0, 0)) :: (b, .cells [.int .i64 ((eval m a k).left : Nat), .bool (eval m a k).stuck].toArray 73 (0, 0)) :: (b80, .cells [].toArray 76 (0, 0)) :: (b8, .cells [.string (str []), .int .i64 0, .slice none 0 0, .string (str []), .slice none 0 0, .slice none 0 0, .slice none 0 0].toArray 76 (0, 0)) :: (b5, .cells [.string (str (Ex.un o a).tree.atom), .slice (some xa) (Ex.un o a).tree.parts.length cc].toArray 68 (0, 0)) :: L) (fun x => HLe J0 x.2.1 ∧ GO x.2.1 (eval m a k).v x.2.2) ?_ ?_
 ·rintro ⟨b17, J1, gs⟩ ⟨e1, hg1⟩
  simp only at e1 hg1 ⊢
  obtain ⟨x1, x2, x3, x4, x5, x6, x7, x8, x9, x10, x11, x12, x13, x14, rfl⟩ := hg1.open
  have hle := hle.trans e1
  have hf := hf.mono e1
  have hk := hk.mono e1
  have hn0 := hn0.mono e1
  refine Ah (Se rfl (Om rfl ?_)); refine Dl rfl .free rfl ?_; refine Ab ?_; refine Av rfl ?_ ?_
  ·intro c7
   try simp only [nb] at c7
   have hv0 : (eval m a k).v = none := by
    cases h : (eval m a k).v with
    | none => rfl
    | some w => rw [h] at c7; cases c7
   refine Se rfl ?_; refine H3 rfl .free rfl ?_; refine Bu rfl rfl rfl rfl .free ?_; refine Oa rfl (Ab ?_); refine Ai (.c rfl (.tmp rfl .nil)) ?_
   have hR : eval (m + 1) (Ex.un o a) k = (eval m a k) := by rw [I5]; simp only [hv0]
   rw [hR]
   exact ⟨J1, _, hle, Ms (L' := (b, _) :: L), _, by rw [hv0]; rfl, hg1, rfl⟩
  intro c7
  try simp only [nb] at c7
  obtain ⟨u, hv0⟩ : ∃ w, (eval m a k).v = some w := Option.isSome_iff_exists.1 (by simpa using c7); rw [hv0] at hg1
  have hau : GVat J1 u [.string (str x1), .int .i64 x2, .slice x3 x4 x5, .string (str []), .slice x6 x7 x8, .slice x9 x10 x11, .slice x12 x13 x14] := hg1
  obtain ⟨wu, hst0⟩ := Wb hkw hok (fun y hy => hd y hy) hv0
  have hl1 := B7 m a k
  have htu := K7 m a k hv0
  rw [hst0]; refine Aj (Ao rfl (Om rfl ?_)); refine H3 rfl .free rfl ?_; refine Ol rfl rfl ?_; intro b107; refine D3 (B := some (b80, [])) (xs := []) (ys := [.string (str x1), .int .i64 x2, .slice x3 x4 x5, .string (str []), .slice x6 x7 x8, .slice x9 x10 x11, .slice x12 x13 x14]) (m := 0) (c := 0) A4 Ac rfl rfl ⟨rfl, Nat.le_refl _, rfl⟩ (fun _ h => h.f3) Ac (fun a ha => by cases ha; exact Bg (.head _) Ac) Af Ac Ad Ad Aa Ad .free rfl ?_; intro bb sp c2 hB
  simp only [List.nil_append]
  refine Oa rfl (Ab (Aq ?_)); refine Ck (fun w h => (Mem.sub (L' := (bb, _) :: (b, _) :: (b8, _) :: (b5, _) :: L) Bo h).f1) ?_; refine Ao rfl (Om rfl ?_); refine Or rfl rfl rfl ?_; refine Df (t := 86) (v' := .int .i64 ((1 : Nat))) rfl Ac ?_; refine Oa rfl (Ab ?_); refine Dd ?_; refine Ah (Se rfl (Om rfl (Om rfl (On rfl (Oc rfl rfl rfl (Ab ?_)))))); refine E6 rfl By ?_; refine Cs rfl ?_; refine Ah ?_; refine Ck (fun w h => h.f1) (Bv ?_); intro hz
  have hq := B0 (I := J1) (b := bb) (xs := [.string (str x1), .int .i64 x2, .slice x3 x4 x5, .string (str []), .slice x6 x7 x8, .slice x9 x10 x11, .slice x12 x13 x14]) (ys := sp) (T := 76) (fr := (0, 0))
  have hle := hle.trans hz
  have hf := hf.mono hz
  have hk := hk.mono hz
  have hau := hau.mono hz
  refine Ao rfl (Om rfl ?_); refine Bq rfl .free rfl ?_
  iterate 3 refine Om rfl ?_
  refine Ca rfl (Afz hf.rep hau hq b (eval m a k).left Aa _) ?_; rintro _ J3 _ e3 ⟨gs5, rfl, hg5, rfl⟩
  have hle := hle.trans e3
  obtain ⟨_, _, _, _, _, _, _, _, _, _, _, _, _, _, rfl⟩ := hg5.open
  unfold Il
  refine Oe rfl rfl (Oe rfl rfl ?_); refine Bu rfl rfl rfl rfl .free ?_; refine Oa rfl (Ab ?_); refine Ai (.c rfl (.tmp rfl .nil)) ?_
  have hR : eval (m + 1) (Ex.un o a) k = Res.of (o.act u) (eval m a k).left := by rw [I5]; simp only [hv0]
  rw [hR]
  exact ⟨J3, _, hle, Ms (L' := (b, _) :: L), _, rfl, hg5, rfl⟩
 ·intro hkk
  skip
  refine Da 0 rfl (Ak rfl) ?_; refine Da 1 rfl (Ap rfl) ?_; refine Dt 2 [16] rfl (Cn rfl) ?_; refine Da 3 rfl (Ak rfl) ?_; refine Da 4 rfl (Ak rfl) ?_
  first | refine Da 5 rfl (Bw rfl rfl _ rfl) ?_ | refine Da 5 rfl (Bx rfl rfl _ rfl) ?_
  refine Dt 6 [16] rfl (Qo rfl) ?_
  first | refine Da 7 rfl (Bw rfl rfl _ rfl) ?_ | refine Da 7 rfl (Bx rfl rfl _ rfl) ?_
  refine Dt 8 [16] rfl (C7 rfl) ?_; refine Da 9 rfl (Ak rfl) ?_; refine Da 10 rfl (Ak rfl) ?_; refine Fr 11 15 Ae ?_ ?_
  ·skip
   first
    | (refine De (L' := (b, _) :: _) (fun w h => h) ?_)
    | (refine De (fun w h => h.f1) ?_)
    | skip
   refine Ft 11 rfl rfl rfl .free rfl (ihn m Aa (hf.as 1 a.tree Aa rfl) hok hk hkw (fun y hy => hd y hy) Aa b _) ?_; rintro _ J1 _ e1 ⟨gs, rfl, hg1, rfl⟩; obtain ⟨x1, x2, x3, x4, x5, x6, x7, x8, x9, x10, x11, x12, x13, x14, rfl⟩ := hg1.open
   unfold Il
   refine Hx ?_; refine Da 12 rfl (Ak rfl) ?_; refine Da 13 rfl (A9 rfl rfl) ?_; refine Da 14 rfl (A9 rfl rfl) ?_; refine Ig 15 rfl Ae rfl .free rfl (.inr Ax) ?_; intro b17; refine Dx 16 rfl rfl rfl rfl ?_; refine Db 17 rfl (At rfl) ?_; refine A5 Ae ?_
   exact Cw (E' := [(0, _), (2, _), (3, _), (5, _), (8, _), (14, _), (15, _), (16, _), (17, _), (18, _)]) ⟨rfl, rfl, rfl, rfl, rfl, rfl, rfl, rfl, rfl, rfl, trivial⟩ (Ck Gw (hkk ⟨b17, J1, [.string (str x1), .int .i64 x2, .slice x3 x4 x5, .string (str []), .slice x6 x7 x8, .slice x9 x10 x11, .slice x12 x13 x14]⟩ ⟨e1, hg1⟩))
  ·skip
   refine Fy 15 rfl rfl .free rfl (.inr Ax) ?_; intro b17
   first
    | (refine De (L' := (b, _) :: _) (fun w h => h) ?_)
    | (refine De (fun w h => h.f1) ?_)
    | skip
   refine Dc 11 rfl rfl (ihn m Aa (hf.as 1 a.tree Aa rfl) hok hk hkw (fun y hy => hd y hy) Aa b _) ?_; rintro _ J1 _ e1 ⟨gs, rfl, hg1, rfl⟩; obtain ⟨x1, x2, x3, x4, x5, x6, x7, x8, x9, x10, x11, x12, x13, x14, rfl⟩ := hg1.open
   unfold Il
   refine Hx ?_; refine Da 12 rfl (Ak rfl) ?_; refine Da 13 rfl (A9 rfl rfl) ?_; refine Da 14 rfl (A9 rfl rfl) ?_; refine Dx 16 rfl rfl rfl rfl ?_; refine Db 17 rfl (At rfl) ?_; refine A5 Ae ?_
   exact Cw (E' := [(0, _), (2, _), (3, _), (5, _), (8, _), (14, _), (15, _), (16, _), (17, _), (18, _)]) ⟨rfl, rfl, rfl, rfl, rfl, rfl, rfl, rfl, rfl, rfl, trivial⟩ (Ck Gw (hkk ⟨b17, J1, [.string (str x1), .int .i64 x2, .slice x3 x4 x5, .string (str []), .slice x6 x7 x8, .slice x9 x10 x11, .slice x12 x13 x14]⟩ ⟨e1, hg1⟩))
theorem Aas : ∀ N : Nat, EvG N := by
 intro N
 induction N with
 | zero => intro I e cs k on ov cn cv n hn; omega
 | succ N ihn =>
  intro I e cs k on ov cn cv n hn h hok hk hkw hd htl b L
  cases n with
  | zero => exact Yl h b L
  | succ m =>
   cases e with
   | num s => exact Aav (N := N) m Aa h hok hk hkw hd htl b L
   | name s => exact Yj (N := N) m Aa h hok hk hkw hd htl b L
   | fn f x s t bd => exact Acx (N := N) m Aa h hok hk hkw hd htl b L
   | bin o a d => exact Aat ihn m Aa h hok hk hkw hd htl b L
   | ite a d g => exact Aau ihn m Aa h hok hk hkw hd htl b L
   | lt z a d => exact Acy ihn m Aa h hok hk hkw hd htl b L
   | un o a => exact Acz ihn m Aa h hok hk hkw hd htl b L
theorem tri (s : As) : (Ei s = none ∧ Cm s = none) ∨ (∃ e, Ei s = some e ∧ Cm s = none) ∨ (∃ e, Ei s = some e ∧ Cm s = some e) := by
 cases hx : Ei s with
 | none => exact .inl ⟨rfl, by unfold Cm; rw [hx]⟩
 | some e =>
  cases hc : Cm s with
  | none => exact .inr (.inl ⟨e, rfl, rfl⟩)
  | some e2 =>
   obtain rfl := Option.some.inj ((Hq hc).1.symm.trans hx)
   exact .inr (.inr ⟨e2, rfl, rfl⟩)
theorem Aeu (I : Heap) (a b : Addr) : GEat I .nil (some a) 0 (some b) 0 := .mk (Gq _ _) .nil (fun x _ => .inl rfl) (fun h => by cases h) (Nat.le_refl 0)
theorem Afs (s : As) (hs : s.length ≤ Ld) (n : Int) (I : Heap) (L : Bh) : Fun Tryz.prog 16 [.string (str s), .int .i64 n] I L (MN (Hs s n) L) := by
 refine Al Af ?_; refine Se rfl ?_
 iterate 3 refine Oa rfl ?_
 refine Ab (Se rfl (Om rfl ?_)); refine Ca rfl (Nm s hs _ _) ?_; rintro _ J _ hleJ ⟨t, cs, ok, rfl, hrep, rfl, hpf⟩; obtain ⟨oc, cc, _, rfl, -⟩ := hrep.open; refine Om rfl (Oe rfl rfl (Oe rfl rfl ?_)); refine A3 .free rfl ?_; intro b7; refine Bu rfl rfl rfl rfl .free ?_; refine Oa rfl (Ab (Ah (Ah ?_)))
 rcases tri s with ⟨hx, hc⟩ | ⟨e, hx, hc⟩ | ⟨e, hx, hc⟩
 ·skip
  rw [hx] at hpf; obtain rfl := hpf; refine Ao rfl (Om rfl ?_); refine Dl rfl .free rfl ?_; refine Om rfl ?_; refine Df (t := 19) rfl (v' := .bool true) Hc ?_
  iterate 3 refine Ch rfl rfl rfl ?_
  refine Ot rfl rfl (Om rfl ?_)
  iterate 3 refine Ch rfl rfl rfl ?_
  refine Ot rfl rfl (Ab ?_); refine Bs rfl ?_; refine Se rfl ?_
  iterate 3 refine Oa rfl ?_
  refine Ab ?_; refine Ai (.tmp rfl (.tmp rfl (.tmp rfl .nil))) ?_
  exact ⟨J, L, hleJ, Bj, by rw [Ka (.inl hc)]; rfl, rfl⟩
 ·skip
  rw [hx] at hpf; obtain ⟨rfl, rfl⟩ := hpf; refine Ao rfl (Om rfl ?_); refine Dl rfl .free rfl ?_; refine Om rfl ?_; refine Df (t := 19) rfl (v' := .bool false) Hc ?_; refine Ow rfl ?_; refine Cv rfl (.met rfl rfl) rfl (Og s hs _ _) ?_; rintro _ _ _ _ ⟨rfl, rfl, rfl⟩; rw [hc]; refine Dl rfl (.met rfl rfl) rfl ?_; refine Of rfl rfl (Om rfl ?_); refine Df (t := 24) rfl (v' := .bool true) Hc ?_
  iterate 3 refine Ch rfl rfl rfl ?_
  refine Ot rfl rfl (Ab ?_); refine Bs rfl ?_; refine Se rfl ?_
  iterate 3 refine Oa rfl ?_
  refine Ab ?_; refine Ai (.tmp rfl (.tmp rfl (.tmp rfl .nil))) ?_
  exact ⟨J, L, hleJ, Bj, by rw [Ka (.inl hc)]; rfl, rfl⟩
 ·skip
  rw [hx] at hpf; obtain ⟨rfl, rfl⟩ := hpf; obtain ⟨-, hok, hz, hl, hcl⟩ := Ga hc
  have hoe : e.occ [] = [] := by simpa [Ex.closed] using hcl
  refine Ao rfl (Om rfl ?_); refine Dl rfl .free rfl ?_; refine Om rfl ?_; refine Df (t := 19) rfl (v' := .bool false) Hc ?_; refine Ow rfl ?_; refine Cv rfl (.met rfl rfl) rfl (Og s hs _ _) ?_; rintro _ _ _ _ ⟨rfl, rfl, rfl⟩; rw [hc]; refine Dl rfl (.met rfl rfl) rfl ?_; refine Of rfl rfl (Om rfl ?_); refine Df (t := 24) rfl (v' := .bool false) Hc ?_; refine Ow rfl ?_; refine Cv rfl (.met rfl rfl) rfl (Rm 0 n 2000 _ _) ?_; rintro _ _ _ _ ⟨rfl, rfl, rfl⟩; refine Dl rfl (.met rfl rfl) rfl ?_; refine Of rfl rfl (Ab ?_); refine Av rfl ?_ ?_
  ·intro c0
   try simp only [nb] at c0
   refine Se rfl ?_
   iterate 3 refine Oa rfl ?_
   refine Ab ?_; refine Ai (.tmp rfl (.tmp rfl (.tmp rfl .nil))) ?_
   exact ⟨J, L, hleJ, Bj, by rw [Ka (.inr Ey)]; rfl, rfl⟩
  intro c0
  try simp only [nb] at c0
  obtain ⟨N, rfl⟩ : ∃ N : Nat, n = (N : Nat) := ⟨n.toNat, by omega⟩
  have hN : N ≤ 2000 := by omega
  have hme := Kb hc hN
  have hle := B7 N e .nil
  have hhi := fun w (h : (eval N e .nil).v = some w) => S0 N e .nil h
  refine Aj (Se rfl (Om rfl ?_)); refine Cd rfl rfl rfl .free rfl ?_; refine Cc rfl rfl .free rfl ?_; intro b31; refine Oa rfl (Ab (Se rfl (Om rfl ?_))); refine Bq rfl .free rfl ?_; refine D9 .free rfl ?_; intro b35; refine D9 .free rfl ?_; intro b36; refine Fl (fun w h => h.f2) ?_; refine Ca rfl (Aas (N + 1) N (Nat.lt_succ_self N) hrep hok (Aeu J ⟨b35, 0, none⟩ ⟨b36, 0, none⟩) trivial (fun y hy => by rw [hoe] at hy; cases hy) (by simp only [KE.tall]; omega) b31 _) ?_; rintro _ J2 _ e2 ⟨gs, rfl, hg, rfl⟩; obtain ⟨x1, x2, x3, x4, x5, x6, x7, x8, x9, x10, x11, x12, x13, x14, rfl⟩ := hg.open
  unfold Il
  have hle2 := hleJ.trans e2
  refine Om rfl (Oe rfl rfl (Oe rfl rfl ?_)); refine A3 .free rfl ?_; intro b10; refine Bu rfl rfl rfl rfl .free ?_; refine Oa rfl (Ab (Ah (Ah ?_)))
  rcases hv : (eval N e .nil).v with _ | w
  ·skip
   rw [hv] at hg; refine Ao rfl (Om rfl ?_); refine Dl rfl .free rfl ?_; refine Om rfl ?_; refine Df (t := 42) rfl (v' := .bool true) Hc ?_
   iterate 3 refine Ch rfl rfl rfl ?_
   refine Ot rfl rfl (Ab ?_); refine Bs rfl ?_; refine Se rfl ?_
   iterate 3 refine Oa rfl ?_
   refine Ab ?_; refine Ai (.tmp rfl (.tmp rfl (.tmp rfl .nil))) ?_
   exact ⟨J2, L, hle2, Ms (L' := L), by rw [hme, Um hv]; rfl, rfl⟩
  ·skip
   rw [hv] at hg
   have hw : GVat J2 w _ := hg
   obtain ⟨hwf, -⟩ := Res.says.some hv (Ky hc N)
   have hhi := hhi w hv
   simp only [KE.high] at hhi
   refine Ao rfl (Om rfl ?_); refine Dl rfl .free rfl ?_; refine Om rfl ?_; refine Df (t := 42) rfl (v' := .bool false) Hc ?_; refine Bq rfl (.met rfl rfl) rfl ?_; refine Cv rfl (.met rfl rfl) rfl (Acp _ 12000 (Nat.lt_succ_self _) hw hwf Aa Aa Aa _) ?_; rintro _ J3 _ e3 ⟨r, rfl, hr1, hr2, hr3, rfl⟩
   have hle2 := hle2.trans e3
   have hw := hw.mono e3
   refine Dp rfl rfl rfl (.met rfl rfl) rfl ?_; refine Of rfl rfl (Ab ?_); refine Av rfl ?_ ?_
   ·intro c1
    try simp only [nb] at c1
    have hno : ¬ w.show.length ≤ 12000 := fun h => by
     have := hr2 Aa
     omega
    refine Se rfl ?_
    iterate 3 refine Oa rfl ?_
    refine Ab ?_; refine Ai (.tmp rfl (.tmp rfl (.tmp rfl .nil))) ?_
    exact ⟨J3, L, hle2, Ms (L' := L), by rw [hme]; unfold Nd; rw [hv]; simp only; rw [if_neg hno]; rfl, rfl⟩
   intro c1
   try simp only [nb] at c1
   have hsl : w.show.length ≤ 12000 := by
    rcases Nat.lt_or_ge 12000 w.show.length with h | h
    ·have := hr1 Aa
     omega
    ·exact h
   refine Aj (Ah ?_); refine Eb 11 rfl rfl ?_; refine Dt 0 [11] rfl (Co rfl) ?_; refine Da 2 rfl (Ak rfl) ?_; refine Da 3 rfl (Ak rfl) ?_; refine Da 4 rfl (Dy rfl) ?_
   first | refine Da 5 rfl (Ap rfl) ?_ | refine Da 5 rfl (Bi rfl) ?_
   refine Dt 6 [11] rfl (Ae4 rfl) ?_; refine Da 7 rfl (Hm rfl rfl rfl Aa) ?_; refine Dc 1 rfl rfl (Acr _ (Nat.lt_succ_self _) hw hwf Aa _) ?_; rintro _ _ _ _ ⟨rfl, rfl, rfl⟩; refine Hx ?_; refine Da 8 rfl (At rfl) ?_; refine Da 9 rfl (At rfl) ?_; refine Da 10 rfl (At rfl) ?_; refine A5 Ae ?_; refine Ai (.tmp rfl (.tmp rfl (.tmp rfl .nil))) ?_
   exact ⟨J3, L, hle2, Ms (L' := L), by rw [hme, N5 hv hsl]; simp only [Option.map_some, Option.getD_some, Option.isSome_some]; rw [show ((N - (eval N e .nil).left : Nat) : Int) = (N : Int) - ((eval N e .nil).left : Nat) by omega]; rfl, rfl⟩
def Ex.one : Ex → Nat
 | .lt _ _ _ => 1
 | _ => 0
def Ex.nl : Ex → Nat
 | .num _ => 0
 | .name _ => 0
 | .bin _ a b => a.nl + b.nl
 | .ite a b c => a.nl + b.nl + c.nl
 | .lt _ a b => 1 + a.nl + b.nl
 | .fn _ _ _ _ b => b.nl
 | .un _ a => a.nl
mutual
def Tree.nl : Tree → Nat
 | .node _ ps => (if (match ps with | [] => [] | p :: _ => p.atom) = D5 then 1 else 0) + nlL ps
def nlL : List Tree → Nat
 | [] => 0
 | t :: ts => t.nl + nlL ts
end
mutual
theorem Tree.nl_len : ∀ t : Tree, t.nl ≤ t.len
 | .node a [] => by simp [Tree.nl, nlL, D5]
 | .node a (p :: ps) => by
  have h1 := Zt (p :: ps)
  simp only [Tree.nl, Tree.len, List.isEmpty_cons, cond_false]
  split <;> omega
theorem Zt : ∀ ts : List Tree, nlL ts ≤ Ge ts
 | [] => Nat.le_refl _
 | t :: ts => by have h1 := t.nl_len; have h2 := Zt ts; simp only [nlL, Ge]; omega
end
def Ex.path : Ex → List As
 | .lt x _ b => x :: b.path
 | _ => []
def Ex.last : Ex → Ex
 | .lt _ _ b => b.last
 | e => e
def Ahg (s : As) : Int := match Ru true s with
 | some e => (e.nl : Nat)
 | none => -1
def Ahh (s : As) : Option (List As × As) := (Ru true s).map fun e => (e.path, e.last.tree.text)
structure MK where
 e : Ex
 ns : List (As × Ex)
 n : Nat
 g : Nat
def MK.pt (tk : List As) (p : MK) : MK := if p.e.bare = true then p else ⟨.name (nm 121 (fr 121 tk p.n)), p.ns ++ [(nm 121 (fr 121 tk p.n), p.e)], fr 121 tk p.n + 1, p.g + 1⟩
def MK.all (p : MK) : Ex := Aes p.ns p.e
def Ex.mk (tk : List As) : Ex → Nat → MK
 | .num s, n => ⟨.num s, [], n, 0⟩
 | .name s, n => ⟨.name s, [], n, 0⟩
 | .lt x a b, n => let p := a.mk tk n; let q := b.mk tk p.n; ⟨q.e, p.ns ++ (x, p.e) :: q.ns, q.n, p.g + q.g⟩
 | .fn f x s t b, n => let p := b.mk tk n; ⟨.fn f x s t p.all, [], p.n, p.g⟩
 | .ite a b c, n => let p := (a.mk tk n).pt tk; let q := b.mk tk p.n; let r := c.mk tk q.n; ⟨.ite p.e q.all r.all, p.ns, r.n, p.g + q.g + r.g⟩
 | .bin o a b, n => let p := (a.mk tk n).pt tk; let q := (b.mk tk p.n).pt tk; ⟨.bin o p.e q.e, p.ns ++ q.ns, q.n, p.g + q.g⟩
 | .un o a, n => let p := (a.mk tk n).pt tk; ⟨.un o p.e, p.ns, p.n, p.g⟩
def nsz : List (As × Ex) → Nat
 | [] => 0
 | p :: ps => 2 + p.2.size + nsz ps
theorem MK.pt_len (tk : List As) (p : MK) {s : Nat} (h : p.ns.length + 1 ≤ s) : (p.pt tk).ns.length ≤ s := by
 unfold MK.pt
 split
 ·omega
 ·simp only [List.length_append, List.length_cons, List.length_nil]; omega
def okNs (l : List (As × Ex)) : Prop := ∀ p ∈ l, Bn p.1 = true ∧ p.2.ok = true
theorem okNs.add {l m : List (As × Ex)} (h : okNs l) (h' : okNs m) : okNs (l ++ m) := by
 intro p hp
 rcases List.mem_append.1 hp with hp | hp
 ·exact h p hp
 ·exact h' p hp
def Ex.lv : Ex → List As
 | .num _ => []
 | .name s => [s]
 | .bin _ a b => a.lv ++ b.lv
 | .ite a b c => a.lv ++ b.lv ++ c.lv
 | .lt _ a b => a.lv ++ b.lv
 | .fn _ _ _ _ b => b.lv
 | .un _ a => a.lv
def Ex.bx : Ex → Bool
 | .num _ => true
 | .name _ => true
 | .bin _ a b => a.bx && b.bx
 | .ite a b c => a.bx && b.bx && c.bx
 | .lt x a b => decide (x.head? ≠ some 121) && a.bx && b.bx
 | .fn f x _ _ b => decide (f.head? ≠ some 121) && decide (x.head? ≠ some 121) && b.bx
 | .un _ a => a.bx
def Ex.tk (e : Ex) : List As := Dg [] e.plain.tree.atomL
def Ex.made (e : Ex) : MK := e.plain.mk e.tk 0
def Ex.normal (e : Ex) : Ex := e.made.all
def Ahz (s : As) : Option As := (Ei s).bind fun e => if e.normal.fine = true then some e.normal.tree.text else none
theorem Afq {s : As} {e : Ex} (h : Ei s = some e) : s.length ≤ 12000 := by
 obtain ⟨_, _, _, h4, h5⟩ := Mo h; rw [h5, Tree.text_len]; exact h4
theorem Ad4 {a b : As} {e f : Ex} (h : Ei a = some e) (h' : Ei b = some f) (has : e.as f) (l m : List As) : N6 l m a = N6 l m b := by
 by_cases hv : Gd l m = true
 ·rw [Mq hv h, Mq hv h']
  have hlm : l.length = (Gi m).length := by
   unfold Gd at hv
   simp only [Bool.and_eq_true, decide_eq_true_eq] at hv
   simp [Gi, hv.1.1.2]
  rw [has.ty (Mo h).2.1 (Mo h').2.1 hlm]
 ·rw [N7 (.inl (by simpa using hv)), N7 (.inl (by simpa using hv))]
def Ahq (s : As) : Bool := Bt s || Bn s
structure GK where
 i : Nat
 B : Kx
 c : Nat
def Ex.ks (e : Ex) : List As := e.sub.map fun a => a.tree.text
structure GM where
 i : Nat
 J : Heap
theorem Un (s : As) (hs : s.length ≤ Bb) (I : Heap) (L : Bh) : Fun Tryz.prog 21 [.string (str s)] I L (NR s I L) := by
 refine Al Af ?_; refine Se rfl (Oa rfl (Oa rfl (Ab (Ah (Se rfl (Om rfl ?_)))))); refine Ca rfl (Qd s hs _ _) ?_; rintro _ _ _ _ ⟨rfl, rfl, rfl⟩; refine Dl rfl .free rfl ?_; refine Ab ?_; refine Av rfl ?_ ?_
 ·intro c0
  try simp only [nb] at c0
  refine Se rfl (Oa rfl (Oa rfl (Ab ?_))); refine Ai (.tmp rfl (.tmp rfl .nil)) ?_; refine only rfl ?_; rw [show Bt s = false by simpa using c0]; rfl
 intro c0
 try simp only [nb] at c0
 refine Aj (Se rfl (Om rfl ?_)); refine Ca rfl (Rb s Ey _ _) ?_; rintro _ _ _ _ ⟨rfl, rfl, rfl⟩; refine Oa rfl (Oa rfl (Ab ?_)); refine Ai (.tmp rfl (.tmp rfl .nil)) ?_; refine only rfl ?_; rw [show Bt s = true by simpa using c0]; rfl
theorem Ac4 {sg s : As} {a : Ty} (h : I0 s = some a) (hs : s = a.tree.text) :
  (a.tree.is sg 3 = true → ∃ x y, E4 sg s = some (x, y) ∧ a.tree.parts.length = 3 ∧ a.tree.pt 1 = x.tree ∧ a.tree.pt 2 = y.tree ∧ x.tree.text.length ≤ s.length ∧ y.tree.text.length ≤ s.length) ∧ (a.tree.is sg 3 = false → E4 sg s = none) := by
 have key := Nv (sg := sg) h
 cases a with
 | i => exact ⟨fun h => absurd (Ym h) Ad, fun _ => key.2 fun h => absurd h.1 Ad⟩
 | fn x y =>
  have hi : (Ty.fn x y).tree.is sg 3 = decide (([62] : As) = sg) := F2 (t := (Ty.fn x y).tree) (h := sg) rfl
  have hl : s.length = ([40] ++ sgn true ++ [32] ++ x.tree.text ++ [32] ++ y.tree.text ++ [41]).length := by rw [hs]; exact congrArg _ (Qu true x y)
  simp only [List.length_append, List.length_cons, List.length_nil] at hl
  refine ⟨fun h => ?_, fun h => key.2 fun e => ?_⟩
  ·rw [hi] at h; obtain rfl := of_decide_eq_true h; obtain ⟨x', y', h1, h2, h3, h4⟩ := key.1 ⟨rfl, rfl⟩; refine ⟨x, y, ?_, rfl, rfl, rfl, by omega, by omega⟩
   unfold E4
   rw [‹I0 s = _›]; rfl
  ·rw [hi] at h
   exact (of_decide_eq_false h) e.2
 | pr x y =>
  have hi : (Ty.pr x y).tree.is sg 3 = decide (([42] : As) = sg) := F2 (t := (Ty.pr x y).tree) (h := sg) rfl
  have hl : s.length = ([40] ++ sgn false ++ [32] ++ x.tree.text ++ [32] ++ y.tree.text ++ [41]).length := by rw [hs]; exact congrArg _ (Qu false x y)
  simp only [List.length_append, List.length_cons, List.length_nil] at hl
  refine ⟨fun h => ?_, fun h => key.2 fun e => ?_⟩
  ·rw [hi] at h; obtain rfl := of_decide_eq_true h; obtain ⟨x', y', h1, h2, h3, h4⟩ := key.1 ⟨rfl, rfl⟩; refine ⟨x, y, ?_, rfl, rfl, rfl, by omega, by omega⟩
   unfold E4
   rw [‹I0 s = _›]; rfl
  ·rw [hi] at h
   exact (of_decide_eq_false h) e.2
theorem Ad9 (s sg : As) (hs : s.length ≤ Bb) (I : Heap) (L : Bh) : Fun Tryz.prog 62 [.string (str s), .string (str sg)] I L (TW (E4 sg s) L) := by
 refine Al Af ?_; refine Se rfl ?_
 iterate 3 refine Oa rfl ?_
 refine Ab (Se rfl (Om rfl ?_)); refine Ca rfl (Rd s hs _ _) ?_; rintro _ J _ e1 ⟨t, cs, ok, rfl, hrep, rfl, hpf⟩; obtain ⟨oa, c, oaf, cf, rfl, hf⟩ := hrep.at'
 have hty := Ql hpf
 have hn := hf.nil
 refine Om rfl (Oe rfl rfl (Oe rfl rfl ?_)); refine A3 .free rfl ?_; intro b7; refine Bu rfl rfl rfl rfl .free ?_; refine Oa rfl (Ab (Ah (Se rfl (Om rfl ?_)))); refine Dl rfl .free rfl ?_; refine Om rfl ?_
 apply F6 16 21 rfl
 ·intro g2_3 hk
  try simp only [nb] at g2_3
  refine Bq rfl (.met rfl rfl) rfl ?_; refine Ow rfl ?_; refine Cv rfl (.met rfl rfl) rfl (K8 hf.rep sg 3 _) ?_; rintro _ _ _ _ ⟨rfl, rfl, rfl⟩; refine Dl rfl (.met rfl rfl) rfl ?_; refine Of rfl rfl ?_
  exact Au 4 rfl rfl hk
 ·intro _ hk; refine A2 4 rfl ?_; refine Ot rfl rfl ?_
  exact Au 4 rfl rfl hk
 refine Ab ?_; refine Av rfl ?_ ?_
 ·intro c0
  try simp only [nb] at c0
  refine Se rfl ?_
  iterate 3 refine Oa rfl ?_
  refine Ab ?_; refine Ai (.tmp rfl (.tmp rfl (.tmp rfl .nil))) ?_; refine ⟨J, L, e1, Bj, ?_, rfl⟩
  have hz : E4 sg s = none := by
   cases hok : ok with
   | false => rw [hok] at hty; exact Nu (by unfold I0; rw [hty]; rfl)
   | true =>
    rw [hok] at hty; obtain ⟨a, ha, rfl, hsz, hst⟩ := M1 (show Eg s = some t from hty)
    exact (Ac4 ha hst).2 (by simpa [hok] using c0)
  rw [hz]; rfl
 intro c0
 try simp only [nb] at c0
 obtain ⟨h1, h2⟩ : ok = true ∧ t.is sg 3 = true := by simpa using c0
 rw [h1] at hty; obtain ⟨a, ha, rfl, hsz, hst⟩ := M1 (show Eg s = some t from hty); obtain ⟨x, y, h7, h8, h9, h10, h11, h12⟩ := (Ac4 ha hst).1 h2; refine Aj (Ah ?_); refine Eb 13 rfl rfl ?_; refine Da 0 rfl (Ap rfl) ?_; refine Dt 1 [13] rfl (Cn rfl) ?_
 first | refine Da 2 rfl (Bw rfl rfl 1 rfl) ?_ | refine Da 2 rfl (Bx rfl rfl 1 rfl) ?_
 refine Dt 3 [13] rfl (C7 rfl) ?_; refine Da 5 rfl (Ap rfl) ?_; refine Dt 6 [13] rfl (Cn rfl) ?_
 first | refine Da 7 rfl (Bw rfl rfl 2 rfl) ?_ | refine Da 7 rfl (Bx rfl rfl 2 rfl) ?_
 refine Dt 8 [13] rfl (C7 rfl) ?_; refine Dc 4 rfl rfl (L6 (hf.rp 1 Aa) (by rw [h9]; omega) _) ?_; rintro _ _ _ _ ⟨rfl, rfl, rfl⟩; refine Hx ?_; refine Dc 9 rfl rfl (L6 (hf.rp 2 Aa) (by rw [h10]; omega) _) ?_; rintro _ _ _ _ ⟨rfl, rfl, rfl⟩; refine Hx ?_; refine Da 10 rfl (At rfl) ?_; refine Da 11 rfl (At rfl) ?_; refine Da 12 rfl (At rfl) ?_; refine A5 Ae ?_; refine Ai (.tmp rfl (.tmp rfl (.tmp rfl .nil))) ?_
 exact ⟨J, L, e1, Bj, by rw [h7, h9, h10]; rfl, rfl⟩
theorem Aag (s : As) (hs : s.length ≤ Bb) (I : Heap) (L : Bh) : Fun Tryz.prog 20 [.string (str s)] I L (TW (E4 [62] s) L) := by
 refine Al Af ?_; refine Se rfl ?_
 iterate 3 refine Oa rfl ?_
 refine Ab (Se rfl (Om rfl ?_)); refine Ca rfl (Ad9 s [62] hs _ _) ?_; rintro _ J _ e1 ⟨rfl, rfl⟩
 iterate 3 refine Oe rfl rfl ?_
 iterate 3 refine Oa rfl ?_
 refine Ab ?_; refine Ai (.tmp rfl (.tmp rfl (.tmp rfl .nil))) ?_
 exact ⟨J, L, e1, Bj, rfl, rfl⟩
def z9 : As := [122, 57]
def pii : As := [40, 42, 32, 105, 32, 105, 41]
theorem Sa {l m : List As} {s o : As} (h : N6 l m s = some o) : ∃ e, Ei s = some e ∧ Hp s = some e.free ∧ (∀ x ∈ e.free, x ∈ l) ∧ Vh s = some e.plain.tree.text ∧ N6 l m e.plain.tree.text = some o ∧ e.plain.tree.text.length ≤ 12000 ∧
  (Eg o).isSome = true ∧ o.length ≤ 80 ∧ l.length ≤ 8 ∧ l.length = m.length ∧ (l.length ≠ 8 → z9 ∉ e.free → N6 (l ++ [z9]) (m ++ [pii]) s = some o) := by
 by_cases hv : Gd l m = true
 ·cases he : Ei s with
  | none => rw [N7 (.inr he)] at h; cases h
  | some e =>
   rw [Mq hv he] at h
   have hv0 := hv
   unfold Gd at hv
   simp only [Bool.and_eq_true, decide_eq_true_eq, List.all_eq_true] at hv
   obtain ⟨⟨⟨hl8, hlm⟩, hna⟩, hty⟩ := hv
   have hlt : l.length = (Gi m).length := by rw [Tw]; exact hlm
   obtain ⟨t, ht, rfl⟩ := Option.map_eq_some_iff.1 h
   have hsm := (Uj hty).2.1
   unfold Ex.ty at ht
   cases hc : e.chk l (Gi m) with
   | error x => rw [hc] at ht; cases ht
   | ok t' =>
    rw [hc] at ht; cases ht
    have hx := Mo he
    have hts := Ex.chk_small hx.2.1 hsm hc
    have h2 := Ya he
    refine ⟨e, rfl, Wl he, fun x hx => Ex.chk_occ hc x (Ex.free_mem.1 hx), Vi he, ?_, Afq h2, ?_, Ty.text_len hts, hl8, hlm, ?_⟩
    ·rw [Ad4 h2 he e.plain_as, Mq hv0 he]; exact h
    ·rw [Lv, if_pos hts]; rfl
    ·intro h8 hz
     have hv2 : Gd (l ++ [z9]) (m ++ [pii]) = true := by
      unfold Gd
      simp only [Bool.and_eq_true, decide_eq_true_eq, List.all_eq_true, List.length_append, List.length_cons, List.length_nil]
      refine ⟨⟨⟨by omega, by omega⟩, fun x hx => ?_⟩, fun x hx => ?_⟩
      ·rcases List.mem_append.1 hx with hx | hx
       ·exact hna x hx
       ·rw [List.mem_singleton.1 hx]; decide
      ·rcases List.mem_append.1 hx with hx | hx
       ·exact hty x hx
       ·rw [List.mem_singleton.1 hx, show pii = (Ty.pr .i .i).tree.text from rfl, Lv]; rfl
     rw [Mq hv2 he]
     have hta : Gi (m ++ [pii]) = Gi m ++ [.pr .i .i] := by
      unfold Gi
      rw [List.map_append, List.map_cons, List.map_nil, show pii = (Ty.pr .i .i).tree.text from rfl, P2]; rfl
     rw [hta]
     have : e.chk (l ++ [z9]) (Gi m ++ [.pr .i .i]) = e.chk l (Gi m) := by
      refine Ex.chk_congr (by simp [hlt]) hlt fun x hx => ?_
      rw [H6 hlt, if_neg]; rintro rfl
      exact hz (Ex.free_mem.2 hx)
     unfold Ex.ty
     rw [this, hc]; rfl
 ·rw [N7 (.inl (by simpa using hv))] at h; cases h
theorem Agb {s : As} {e : Ex} (h : Cm s = some e) : tyC s = e.ty [] [] := by
 unfold tyC; rw [(Hq h).1]; rfl
theorem X8 {s : As} {n : Int} {r : As × Nat} (h : Hs s n = some r) : Hs s 2000 = some r ∧ Hs s ((r.2 : Nat) - 1) = none ∧ 1 ≤ r.2 ∧ (r.2 : Int) ≤ n ∧ ∃ (x : Ex) (k : Nat), Afh s 500 = some (x.tree.text, k) ∧ x.fine = true ∧ ∀ y, Zw x.tree.text = some y → y = r.1 := by
 obtain ⟨e, N, w, hc, rfl, hN, hw, hr, hl, hwf, hg⟩ := K5 h; obtain ⟨hx, hok, hz, -, hcl⟩ := Ga hc
 have hfe := (Mo hx).1
 have hoe : e.occ [] = [] := by simpa [Ex.closed] using hcl
 have hk := Aax 500 e hfe hoe
 have hu := X7 h
 refine ⟨X6 h hN (Nat.le_refl _), X5 h, hu.2.1, by have := hu.2.2; omega, (e.goes 500).1, (e.goes 500).2, ?_, hk.1, fun y hy => ?_⟩
 ·unfold Afh
  rw [if_pos Aa, hc]; rfl
 ·unfold Zw at hy
  obtain ⟨d, hd, rfl⟩ := Option.map_eq_some_iff.1 hy; obtain ⟨d', hd', -, hc2, hval, -⟩ := Vq (s := (e.goes 500).1.tree.text) (by rw [hd]; rfl); rw [hd] at hd'; obtain rfl := Option.some.inj hd'; rw [P7 hk.1 hk.2] at hc2; obtain rfl := Option.some.inj hc2; rw [hr]
  exact So hwf hg (Aei 500 e) hval
theorem Y0 {s : As} {n : Int} {r : As × Nat} (h : Hs s n = some r) {t : Ty} (ht : tyC s = some t) :
  (t = .i ∧ Bt r.1 = true ∧ r.1 ≠ [102, 117, 110]) ∨ (∃ a b, t = .fn a b ∧ r.1 = [102, 117, 110]) ∨ (∃ a b l, t = .pr a b ∧ r.1 = 40 :: l) := by
 obtain ⟨e, N, w, hc, rfl, hN, hw, rfl, hl, hwf, hg⟩ := K5 h; obtain ⟨hx, hok, hz, -, hcl⟩ := Ga hc
 have hoe : e.occ [] = [] := by simpa [Ex.closed] using hcl
 rw [Agb hc] at ht
 have hty := (hg.ty hok hoe ht).1
 cases w with
 | num p =>
  have hp : Bt p = true := hwf
  exact .inl ⟨(Option.some.inj hty).symm, hp, fun e => by have e : p = [102, 117, 110] := e; rw [e] at hp; cases hp⟩
 | pair a b =>
  refine .inr (.inr ?_)
  simp only [KV.ex] at hty
  rw [ty_bin] at hty; obtain ⟨x, -, h1⟩ := Option.bind_eq_some_iff.1 hty; obtain ⟨y, -, h2⟩ := Option.bind_eq_some_iff.1 h1
  have h3 : (if (Ty.pr x y).size ≤ 16 then some (Ty.pr x y) else none) = some t := h2
  split at h3
  ·exact ⟨x, y, _, (Option.some.inj h3).symm, rfl⟩
  ·cases h3
 | clo f x p q b k =>
  refine .inr (.inl ?_)
  simp only [KV.ex] at hty
  rw [ty_fn] at hty
  split at hty
  ·obtain ⟨u, -, h1⟩ := Option.bind_eq_some_iff.1 hty
   split at h1
   ·exact ⟨p, q, (Option.some.inj h1).symm, rfl⟩
   ·cases h1
  ·cases hty
theorem Ww (l : As) : Bt (40 :: l) = false := by
 cases h : Bt (40 :: l) with
 | false => rfl
 | true => have := Qf h; simp only [List.all_cons, Bool.and_eq_true] at this; exact absurd this.1 Ad
theorem Yz {s : As} {n : Int} {r : As × Nat} (h : Hs s n = some r) {o : As} (ho : N6 [] [] s = some o) :
  Bt r.1 = decide (o = [105]) ∧ decide (r.1 = [102, 117, 110]) = (E4 [62] o).isSome ∧ (Bt r.1 = true ∨ (E4 [62] o).isSome = true ∨ r.1.getD 0 0 = 40) ∧ 1 ≤ r.1.length := by
 rw [Wc] at ho; obtain ⟨t, ht, rfl⟩ := Option.map_eq_some_iff.1 ho
 have hsz : t.size ≤ 16 := by
  have h1 := (Sa (l := []) (m := []) (s := s) (o := t.tree.text) (by rw [Wc, ht]; rfl)).choose_spec.2.2.2.2.2.2.1
  rw [← Xq, P2] at h1
  by_cases hz : t.size ≤ 16
  ·exact hz
  ·rw [if_neg hz] at h1; cases h1
 rcases Y0 h ht with ⟨rfl, h1, h2⟩ | ⟨a, b, rfl, h1⟩ | ⟨a, b, l, rfl, h1⟩
 ·have h3 : 1 ≤ r.1.length := by have := Rp h1; cases hr : r.1 with | nil => exact absurd hr this | cons => simp
  have h4 : E4 [62] Ty.i.tree.text = none := Y7 hsz
  refine ⟨by rw [h1]; rfl, ?_, .inl h1, h3⟩; rw [h4, decide_eq_false h2]; rfl
 ·have h4 : E4 [62] (Ty.fn a b).tree.text = some (a, b) := (Y7 hsz).trans (if_pos rfl)
  rw [h1, h4]; refine ⟨?_, rfl, .inr (.inl rfl), by decide⟩; rw [show Bt [102, 117, 110] = false from by decide]; refine (decide_eq_false fun e => ?_).symm; rw [show (Ty.fn a b).tree.text = _ from Qu true a b] at e
  simp at e
 ·have h4 : E4 [62] (Ty.pr a b).tree.text = none := (Y7 hsz).trans (if_neg Ad)
  rw [h1, h4, Ww]; refine ⟨?_, decide_eq_false Af, .inr (.inr rfl), by simp⟩; refine (decide_eq_false fun e => ?_).symm; rw [show (Ty.pr a b).tree.text = _ from Qu false a b] at e
  simp at e
end Go.Proofs.YtmfagaajiakgoaaGreatDoor
