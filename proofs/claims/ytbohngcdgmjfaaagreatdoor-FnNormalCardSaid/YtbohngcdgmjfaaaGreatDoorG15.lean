/- Expressions made simple and normal, by the program. No conditions. -/
import Derived.Test.YtbohngcdgmjfaaaGreatDoorG14
import Derived.LaidSub
import Derived.Lib.LaidTab

namespace Go.Proofs.YtbohngcdgmjfaaaGreatDoor
set_option maxRecDepth 100000
set_option linter.unusedVariables false
set_option linter.unusedSimpArgs false

section
variable {I : Heap} {a b c d q s x u v : Nat × Obj} {X L R : Bc} {w : World}
theorem Mem.let5 (h : Mem I (q :: s :: x :: u :: v :: a :: b :: c :: L) w) : Mem I (a :: b :: c :: q :: s :: x :: u :: v :: L) w := h.perm (List.perm_append_comm_assoc [q, s, x, u, v] [a, b, c] L)
theorem Mem.uu4 (h : Mem I (a :: b :: c :: d :: (X ++ L)) w) : Mem I (X ++ a :: b :: c :: d :: L) w := h.perm (List.perm_append_comm_assoc [a, b, c, d] X L)
end
def NW (b bq : Nat) (tk : List Am) (g : Nat) (p : MK) (L : Bc) : C3 := fun v I' L' => ∃ cs, v = .agg (List.toArray cs) ∧ Rep I' p.all.tree cs ∧ L' = nz b bq (g + p.g) p.n :: (bq, Fv tk) :: L
theorem Jp {N : Nat} (ih : Kd N) {I : Heap} (ht : Tab I) {e : Ex} {cs : List Value} (hlt : SizeOf.sizeOf e < N) (h : Rep I e.tree cs) (hok : e.ok = true) (tk : List Am) (b bq g n : Nat) (hn : n + e.size + tk.length ≤ 900 + Eb 121 tk n) (hg : g + e.size ≤ 1000) (hz : e.size ≤ 1000) (L : Bc) :
  Fun Tryz.prog 36 [.pointer (some ⟨b, 0, none⟩), .agg cs.toArray] I (nz b bq g n :: (bq, Fv tk) :: L) (NW b bq tk g (e.mk tk n) L) := by
 obtain ⟨oa, c, oaf, cf, rfl, hf⟩ := h.at'
 have hml := e.mk_len tk n
 refine Aj (by simp) ?_; refine Se rfl ?_; refine Cc rfl rfl .free rfl ?_; intro b3; refine At .free rfl ?_; intro b4; refine Aa (Se rfl ?_); refine At .free rfl ?_; intro b5; refine Aa (Se rfl (Om rfl ?_)); refine Aw rfl .free rfl ?_; refine Cz (fun w h => Mem.nq3 h) ?_; refine Ca rfl (ih ht hlt hf.rep hok tk b bq b5 g n hn hg ⟨[], none, 0, []⟩ ⟨⟨rfl, rfl, rfl⟩, .nil⟩ (by simp only [List.length_nil]; omega) (_ :: _ :: L)) ?_; rintro _ J1 _ e1 ⟨cs1, y, rfl, hr, hy, hyn, rfl⟩; obtain ⟨o1, k1, _, rfl, -⟩ := hr.open; rw [List.nil_append] at hyn
 unfold NZ.own
 refine At .free rfl ?_; intro b6; refine Bp rfl rfl rfl rfl .free ?_; refine Aa (Ab ?_); refine C4 (fun w h => Mem.uu4 h) (Qo hy.rep hy.buf rfl (by rw [hyn]; unfold Ap; omega) ?_); intro J2 ob cb e2 hbv hbs; rw [hbv]; refine Ah rfl ?_; refine Bg rfl .free rfl ?_; refine Aw rfl .free rfl ?_; refine Ca rfl (Wv hbs (hr.mono e2) _) ?_; rintro _ J3 _ e3 ⟨cs3, rfl, hr3, rfl⟩; obtain ⟨o3, k3, _, rfl, -⟩ := hr3.open; refine Bp rfl rfl rfl rfl .free ?_; refine Aa ?_; refine Ag (.c rfl .nil) ?_
 refine ⟨J3, _, (e1.trans e2).trans e3, fun w h => Mem.sub (L' := nz _ _ _ _ :: _ :: L) (by repeat (first | exact List.Sublist.refl _ | apply List.Sublist.cons_cons | apply List.Sublist.cons)) h, _, rfl, ?_, rfl⟩
 show Rep J3 (G8 (e.mk tk n).ns (e.mk tk n).e).tree _
 rw [← hyn]; exact hr3
set_option maxHeartbeats 1000000 in
theorem W9 {N : Nat} (ihn : Kd N) {o : B5} {a b : Ex} {I : Heap} (ht : Tab I) {cs : List Value} (hlt : SizeOf.sizeOf (Ex.bin o a b) < N + 1) (h : Rep I (Ex.bin o a b).tree cs) (hok : (Ex.bin o a b).ok = true) (tk : List Am) (b0 bq bn g n : Nat) (hn : n + (Ex.bin o a b).size + tk.length ≤ 900 + Eb 121 tk n) (hg : g + (Ex.bin o a b).size ≤ 1000) (x : NZ) (hx : x.ok I) (hxl : x.ns.length + (Ex.bin o a b).size ≤ 100000) (L : Bc) :
  Fun Tryz.prog 64 [.pointer (some ⟨b0, 0, none⟩), .agg cs.toArray, .pointer (some ⟨bn, 0, none⟩)] I (x.own b0 bq tk g n bn L) (NP b0 bq tk g bn x ((Ex.bin o a b).mk tk n) L) := by
 obtain ⟨oa, c, oaf, cf1, rfl, hf, hcl, hcs⟩ := h.cells
 have hle : HLe I I := .refl _
 have hh0 := Bf 121 tk n
 have hpos : 0 < (Ex.bin o a b).tree.parts.length := by show 0 < 3; decide
 obtain ⟨xa, rfl⟩ : ∃ xa, oa = some xa := ⟨_, Ev hf.nil hpos⟩
 have hlen : (Ex.bin o a b).tree.parts.length = 3 := rfl
 have hp := hf.len
 have hpe : (Ex.bin o a b).tree.parts.isEmpty = false := rfl
 have hpe2 : ¬ (Ex.bin o a b).tree.parts = [] := fun e => by rw [e] at hlen; cases hlen
 have hki := Gb o a b
 have hhd : (Ex.bin o a b).tree.head = o.txt := rfl
 have hxl2 : ¬ (Ex.bin o a b).tree.head = [108, 101, 116] := o.txt_ne.2.1
 have hxl2d : ¬ o.txt = [108, 101, 116] := o.txt_ne.2.1
 have hxf : ¬ (Ex.bin o a b).tree.head = [102, 117, 110] := o.txt_ne.2.2.1
 have hxfd : ¬ o.txt = [102, 117, 110] := o.txt_ne.2.2.1
 have hxi : ¬ (Ex.bin o a b).tree.head = [105, 102] := o.txt_ne.1
 have hxid : ¬ o.txt = [105, 102] := o.txt_ne.1
 simp only [Ex.bin.sizeOf_spec] at hlt
 simp only [Ex.ok, Bool.and_eq_true, decide_eq_true_eq] at hok
 simp only [Ex.size] at hn hg hxl
 simp only [Ex.mk]
 unfold NZ.own
 refine Aj (by simp) ?_; refine Se rfl ?_; refine Cc rfl rfl .free rfl ?_; intro b4; refine At .free rfl ?_; intro b6; refine Aa (Ab (Se rfl ?_)); refine Aw rfl .free rfl ?_; refine Ca rfl (B7 hf.rep _) ?_; rintro _ _ _ _ ⟨rfl, rfl, rfl⟩; refine Aa ?_
 first | refine Eu rfl (hpe) ?_ | refine Et rfl (hpe) ?_ | refine A8 (by simp [Bu, Bo, *]) ?_
 refine Af (Ab (Se rfl ?_)); refine Aw rfl .free rfl ?_; refine Ca rfl (Bk hf.rep _) ?_; rintro _ _ _ _ ⟨rfl, rfl, rfl⟩; refine Od rfl rfl rfl (Aa ?_)
 first | refine Eu rfl hxl2 ?_ | refine Et rfl hxl2 ?_ | refine A8 (by simp [Bu, Bo, *]) ?_
 refine Af (Se rfl (Oh rfl ?_)); refine Bg rfl .free rfl ?_; refine Ca rfl (F9 (hcs _ rfl) (by have := hcl.length; omega) hcl.plain hpos hp _) ?_; rintro _ _ _ _ ⟨bc, sp, cc, rfl, hcc, rfl, rfl⟩
 simp only [show (Ex.bin o a b).tree.parts = [.node o.txt [], a.tree, b.tree] from rfl, Df, List.cons_append, List.nil_append]
 refine Cf rfl rfl rfl .free rfl ?_; refine At .free rfl ?_; intro b8; refine Bp rfl rfl rfl rfl .free ?_; refine Aa (Ab (Se rfl ?_)); refine Aw rfl .free rfl ?_; refine Ca rfl (B9 hf.rep _) ?_; rintro _ J _ e0 ⟨ok, ck, rfl, hk1, rfl⟩
 have hf := hf.mono e0
 have ht := ht.mono e0
 have hx := hx.mono e0
 have hle := hle.trans e0
 rw [hki] at hk1; rw [hki]; refine On rfl (Om rfl (Aa (Ai ?_))); refine Dd ?_; refine Se rfl (Oc rfl rfl rfl (Aa (Ab ?_))); refine Bn rfl (by first | rfl | decide | (simp; done) | omega) ?_; refine Af (Ab (Ai (Se rfl ?_)))
 first | refine Bi rfl rfl _ rfl .free rfl ?_ | refine Bj rfl rfl _ rfl .free rfl ?_
 refine Dl rfl .free rfl ?_; refine Oa rfl (Aa (Se rfl ?_)); refine Aw rfl .free rfl ?_; refine Ca rfl (Bk hf.rep _) ?_; rintro _ _ _ _ ⟨rfl, rfl, rfl⟩; refine Od rfl rfl rfl (Om rfl ?_)
 apply Fw 59 67 rfl
 ·intro g11_4 hk
  try simp only [nb] at g11_4
  refine Aw rfl (.met rfl rfl) rfl ?_; refine B6 rfl (.met rfl rfl) rfl (Bk hf.rep _) ?_; rintro _ _ _ _ ⟨rfl, rfl, rfl⟩; refine Fn rfl rfl rfl (.met rfl rfl) rfl ?_; refine Ow rfl ?_
  apply D4 63 66 rfl
  ·intro g11_8 hk
   try simp only [nb] at g11_8
   refine Ow rfl ?_; refine C7 rfl rfl rfl (.met rfl rfl) rfl ?_; refine Dj rfl rfl (.met rfl rfl) rfl ?_
   exact A0 2 rfl rfl hk
  ·intro _ hk; refine A9 2 rfl ?_; refine C1 rfl rfl (.met rfl rfl) rfl ?_
   exact A0 2 rfl rfl hk
  refine Of rfl rfl ?_
  exact A0 5 rfl rfl hk
 ·intro _ hk; refine A9 7 rfl ?_; refine Ot rfl rfl ?_
  exact A0 7 rfl rfl hk
 refine Aa ?_
 first | refine Eu rfl (by simp [hxf, hxi, hxfd, hxid]) ?_ | refine Et rfl (by simp [hxf, hxi, hxfd, hxid]) ?_ | refine A8 (by simp [Bu, Bo, *]) ?_
 refine C0 fun hlr => ?_
 have g1 := a.mk_g tk n
 have mh1 := a.mk_hits tk n
 have gp1 := MK.pt_g tk _ g1.1 g1.2
 have mp1 := MK.pt_hits tk _ mh1
 have lp1 := MK.pt_len tk _ (a.mk_len tk n)
 have hz1 := Bf 121 tk n
 refine Z6 13 rfl rfl ?_; refine Da 0 rfl (Ae rfl) ?_; refine Dt 1 [12] rfl (A7 rfl) ?_; refine Da 2 rfl (Ac rfl) ?_; refine Da 3 rfl (Ac rfl) ?_; refine Da 4 rfl (Ae rfl) ?_; refine Dt 5 [12] rfl (A7 rfl) ?_; refine Da 6 rfl (Ac rfl) ?_
 first | refine Da 7 rfl (A4 rfl rfl _ rfl) ?_ | refine Da 7 rfl (A5 rfl rfl _ rfl) ?_
 refine Dt 8 [12] rfl (Bz rfl) ?_; refine Da 9 rfl (Ac rfl) ?_; refine Be (fun w h => Mem.kv4 h) ?_; refine Dc 10 rfl rfl (Mc ihn ht (by omega) (hf.as 1 a.tree (by omega) rfl) hok.1 tk b0 bq bn (g) n (by omega) (by omega) x hx (by omega) _) ?_; rintro _ J1 _ e1 ⟨cs1, y1, rfl, hr_1, hy1, hy1n, rfl⟩; obtain ⟨o1, k1, _, rfl, -⟩ := hr_1.open
 have hy1l : y1.ns.length = x.ns.length + ((a.mk tk n).pt tk).ns.length := by rw [hy1n]; simp
 have hlr := hlr.trans e1
 have hf := hf.mono e1
 have ht := ht.mono e1
 have hle := hle.trans e1
 have hk1 := hk1.mono e1
 unfold NZ.own
 refine Hx ?_; refine Be (fun w h => Mem.vk4 h) ?_
 first | refine Da 11 rfl (A4 rfl rfl _ rfl) ?_ | refine Da 11 rfl (A5 rfl rfl _ rfl) ?_
 refine Dx 12 rfl rfl rfl rfl ?_; refine Au (by kernel_rfl) ?_; refine Ak (Ah rfl ?_); refine Or rfl rfl rfl ?_; refine Om rfl (Aa ?_); refine Bm ?_; refine Se rfl (Oc rfl rfl rfl (Aa (Ab ?_))); refine Bn rfl (by first | rfl | decide | (simp; done) | omega) ?_; refine Af (Ab (Ai (Se rfl ?_)))
 first | refine Bi rfl rfl _ rfl .free rfl ?_ | refine Bj rfl rfl _ rfl .free rfl ?_
 refine Dl rfl .free rfl ?_; refine Oa rfl (Aa (Se rfl ?_)); refine Aw rfl .free rfl ?_; refine Ca rfl (Bk hf.rep _) ?_; rintro _ _ _ _ ⟨rfl, rfl, rfl⟩; refine Od rfl rfl rfl (Om rfl ?_)
 apply Fw 59 67 rfl
 ·intro g11_4 hk
  try simp only [nb] at g11_4
  refine Aw rfl (.met rfl rfl) rfl ?_; refine B6 rfl (.met rfl rfl) rfl (Bk hf.rep _) ?_; rintro _ _ _ _ ⟨rfl, rfl, rfl⟩; refine Fn rfl rfl rfl (.met rfl rfl) rfl ?_; refine Ow rfl ?_
  apply D4 63 66 rfl
  ·intro g11_8 hk
   try simp only [nb] at g11_8
   refine Ow rfl ?_; refine C7 rfl rfl rfl (.met rfl rfl) rfl ?_; refine Dj rfl rfl (.met rfl rfl) rfl ?_
   exact A0 2 rfl rfl hk
  ·intro _ hk; refine A9 2 rfl ?_; refine C1 rfl rfl (.met rfl rfl) rfl ?_
   exact A0 2 rfl rfl hk
  refine Of rfl rfl ?_
  exact A0 5 rfl rfl hk
 ·intro _ hk; refine A9 7 rfl ?_; refine Ot rfl rfl ?_
  exact A0 7 rfl rfl hk
 refine Aa ?_
 first | refine Eu rfl (by simp [hxf, hxi, hxfd, hxid]) ?_ | refine Et rfl (by simp [hxf, hxi, hxfd, hxid]) ?_ | refine A8 (by simp [Bu, Bo, *]) ?_
 refine C0 fun hlr => ?_
 have g2 := b.mk_g tk ((a.mk tk n).pt tk).n
 have mh2 := b.mk_hits tk ((a.mk tk n).pt tk).n
 have gp2 := MK.pt_g tk _ g2.1 g2.2
 have mp2 := MK.pt_hits tk _ mh2
 have lp2 := MK.pt_len tk _ (b.mk_len tk ((a.mk tk n).pt tk).n)
 have hz2 := Bf 121 tk ((a.mk tk n).pt tk).n
 refine Z6 13 rfl rfl ?_; refine Da 0 rfl (Ae rfl) ?_; refine Dt 1 [12] rfl (A7 rfl) ?_; refine Da 2 rfl (Ac rfl) ?_; refine Da 3 rfl (Ac rfl) ?_; refine Da 4 rfl (Ae rfl) ?_; refine Dt 5 [12] rfl (A7 rfl) ?_; refine Da 6 rfl (Ac rfl) ?_
 first | refine Da 7 rfl (A4 rfl rfl _ rfl) ?_ | refine Da 7 rfl (A5 rfl rfl _ rfl) ?_
 refine Dt 8 [12] rfl (Bz rfl) ?_; refine Da 9 rfl (Ac rfl) ?_; refine Be (fun w h => Mem.kv4 h) ?_; refine Dc 10 rfl rfl (Mc ihn ht (by omega) (hf.as 2 b.tree (by omega) rfl) hok.2 tk b0 bq bn (g + ((a.mk tk n).pt tk).g) ((a.mk tk n).pt tk).n (by omega) (by omega) y1 hy1 (by omega) _) ?_; rintro _ J2 _ e2 ⟨cs2, y2, rfl, hr_2, hy2, hy2n, rfl⟩; obtain ⟨o2, k2, _, rfl, -⟩ := hr_2.open
 have hy2l : y2.ns.length = y1.ns.length + ((b.mk tk ((a.mk tk n).pt tk).n).pt tk).ns.length := by rw [hy2n]; simp
 have hlr := hlr.trans e2
 have hf := hf.mono e2
 have ht := ht.mono e2
 have hle := hle.trans e2
 have hk1 := hk1.mono e2
 have hr_1 := hr_1.mono e2
 unfold NZ.own
 refine Hx ?_; refine Be (fun w h => Mem.vk4 h) ?_
 first | refine Da 11 rfl (A4 rfl rfl _ rfl) ?_ | refine Da 11 rfl (A5 rfl rfl _ rfl) ?_
 refine Dx 12 rfl rfl rfl rfl ?_; refine Au (by kernel_rfl) ?_; refine Ak (Ah rfl ?_); refine Or rfl rfl rfl ?_; refine Om rfl (Aa ?_); refine Bm ?_; refine Se rfl (Oc rfl rfl rfl (Aa (Ab ?_))); refine Co rfl (by first | rfl | decide | (simp; done) | omega) ?_; refine Bq rfl ?_; refine Se rfl ?_; refine Aw rfl .free rfl ?_; refine Bp rfl rfl rfl rfl .free ?_; refine Aa ?_; refine C4 (fun w h => h.f1) (Bx ?_); intro hz
 have hf := hf.mono hz
 refine Ag (.c rfl .nil) ?_; refine ⟨_, _, hle.trans hz, fun w h => h.drop.drop.drop, _, y2, rfl, .mk' rfl (.cons (hf.as 0 (.node o.txt []) (by omega) rfl) (.cons (hr_1.mono hz) (.cons (hr_2.mono hz) (.nil)))) (fun y hy => by cases hy; exact Ax (xs := [_, _, _, _, _, _])) (by simp) hcc (by simp [Ap]) (by simp [Ap]), hy2.mono hz, by simp only [hy2n, hy1n, List.append_assoc], ?_⟩
 simp only [NZ.own, Nat.add_assoc]
set_option maxHeartbeats 1000000 in
theorem Xa {N : Nat} (ihn : Kd N) {a b d : Ex} {I : Heap} (ht : Tab I) {cs : List Value} (hlt : SizeOf.sizeOf (Ex.ite a b d) < N + 1) (h : Rep I (Ex.ite a b d).tree cs) (hok : (Ex.ite a b d).ok = true) (tk : List Am) (b0 bq bn g n : Nat) (hn : n + (Ex.ite a b d).size + tk.length ≤ 900 + Eb 121 tk n) (hg : g + (Ex.ite a b d).size ≤ 1000) (x : NZ) (hx : x.ok I) (hxl : x.ns.length + (Ex.ite a b d).size ≤ 100000) (L : Bc) :
  Fun Tryz.prog 64 [.pointer (some ⟨b0, 0, none⟩), .agg cs.toArray, .pointer (some ⟨bn, 0, none⟩)] I (x.own b0 bq tk g n bn L) (NP b0 bq tk g bn x ((Ex.ite a b d).mk tk n) L) := by
 obtain ⟨oa, c, oaf, cf1, rfl, hf, hcl, hcs⟩ := h.cells
 have hle : HLe I I := .refl _
 have hh0 := Bf 121 tk n
 have hpos : 0 < (Ex.ite a b d).tree.parts.length := by show 0 < 4; decide
 obtain ⟨xa, rfl⟩ : ∃ xa, oa = some xa := ⟨_, Ev hf.nil hpos⟩
 have hlen : (Ex.ite a b d).tree.parts.length = 4 := rfl
 have hp := hf.len
 have hpe : (Ex.ite a b d).tree.parts.isEmpty = false := rfl
 have hpe2 : ¬ (Ex.ite a b d).tree.parts = [] := fun e => by rw [e] at hlen; cases hlen
 have hki := Ia a b d
 have hhd : (Ex.ite a b d).tree.head = E9 := rfl
 have hxl2 : ¬ (Ex.ite a b d).tree.head = [108, 101, 116] := (by decide : ¬ E9 = Cw)
 have hxl2d : ¬ E9 = [108, 101, 116] := (by decide : ¬ E9 = Cw)
 have hxf : ¬ (Ex.ite a b d).tree.head = [102, 117, 110] := (by decide : ¬ E9 = Cq)
 have hxfd : ¬ E9 = [102, 117, 110] := (by decide : ¬ E9 = Cq)
 have hxi :  (Ex.ite a b d).tree.head = [105, 102] := rfl
 have hxid :  E9 = [105, 102] := rfl
 simp only [Ex.ite.sizeOf_spec] at hlt
 simp only [Ex.ok, Bool.and_eq_true, decide_eq_true_eq] at hok
 simp only [Ex.size] at hn hg hxl
 simp only [Ex.mk]
 unfold NZ.own
 refine Aj (by simp) ?_; refine Se rfl ?_; refine Cc rfl rfl .free rfl ?_; intro b4; refine At .free rfl ?_; intro b6; refine Aa (Ab (Se rfl ?_)); refine Aw rfl .free rfl ?_; refine Ca rfl (B7 hf.rep _) ?_; rintro _ _ _ _ ⟨rfl, rfl, rfl⟩; refine Aa ?_
 first | refine Eu rfl (hpe) ?_ | refine Et rfl (hpe) ?_ | refine A8 (by simp [Bu, Bo, *]) ?_
 refine Af (Ab (Se rfl ?_)); refine Aw rfl .free rfl ?_; refine Ca rfl (Bk hf.rep _) ?_; rintro _ _ _ _ ⟨rfl, rfl, rfl⟩; refine Od rfl rfl rfl (Aa ?_)
 first | refine Eu rfl hxl2 ?_ | refine Et rfl hxl2 ?_ | refine A8 (by simp [Bu, Bo, *]) ?_
 refine Af (Se rfl (Oh rfl ?_)); refine Bg rfl .free rfl ?_; refine Ca rfl (F9 (hcs _ rfl) (by have := hcl.length; omega) hcl.plain hpos hp _) ?_; rintro _ _ _ _ ⟨bc, sp, cc, rfl, hcc, rfl, rfl⟩
 simp only [show (Ex.ite a b d).tree.parts = [.node E9 [], a.tree, b.tree, d.tree] from rfl, Df, List.cons_append, List.nil_append]
 refine Cf rfl rfl rfl .free rfl ?_; refine At .free rfl ?_; intro b8; refine Bp rfl rfl rfl rfl .free ?_; refine Aa (Ab (Se rfl ?_)); refine Aw rfl .free rfl ?_; refine Ca rfl (B9 hf.rep _) ?_; rintro _ J _ e0 ⟨ok, ck, rfl, hk1, rfl⟩
 have hf := hf.mono e0
 have ht := ht.mono e0
 have hx := hx.mono e0
 have hle := hle.trans e0
 rw [hki] at hk1; rw [hki]; refine On rfl (Om rfl (Aa (Ai ?_))); refine Dd ?_; refine Se rfl (Oc rfl rfl rfl (Aa (Ab ?_))); refine Bn rfl (by first | rfl | decide | (simp; done) | omega) ?_; refine Af (Ab (Ai (Se rfl ?_)))
 first | refine Bi rfl rfl _ rfl .free rfl ?_ | refine Bj rfl rfl _ rfl .free rfl ?_
 refine Dl rfl .free rfl ?_; refine Oa rfl (Aa (Se rfl ?_)); refine Aw rfl .free rfl ?_; refine Ca rfl (Bk hf.rep _) ?_; rintro _ _ _ _ ⟨rfl, rfl, rfl⟩; refine Od rfl rfl rfl (Om rfl ?_)
 apply Fw 59 67 rfl
 ·intro g11_4 hk
  try simp only [nb] at g11_4
  refine Aw rfl (.met rfl rfl) rfl ?_; refine B6 rfl (.met rfl rfl) rfl (Bk hf.rep _) ?_; rintro _ _ _ _ ⟨rfl, rfl, rfl⟩; refine Fn rfl rfl rfl (.met rfl rfl) rfl ?_; refine Ow rfl ?_
  apply D4 63 66 rfl
  ·intro g11_8 hk
   try simp only [nb] at g11_8
   refine Ow rfl ?_; refine C7 rfl rfl rfl (.met rfl rfl) rfl ?_; refine Dj rfl rfl (.met rfl rfl) rfl ?_
   exact A0 2 rfl rfl hk
  ·intro _ hk; refine A9 2 rfl ?_; refine C1 rfl rfl (.met rfl rfl) rfl ?_
   exact A0 2 rfl rfl hk
  refine Of rfl rfl ?_
  exact A0 5 rfl rfl hk
 ·intro _ hk; refine A9 7 rfl ?_; refine Ot rfl rfl ?_
  exact A0 7 rfl rfl hk
 refine Aa ?_
 first | refine Eu rfl (by simp [hxf, hxi, hxfd, hxid]) ?_ | refine Et rfl (by simp [hxf, hxi, hxfd, hxid]) ?_ | refine A8 (by simp [Bu, Bo, *]) ?_
 refine C0 fun hlr => ?_
 have g1 := a.mk_g tk n
 have mh1 := a.mk_hits tk n
 have gp1 := MK.pt_g tk _ g1.1 g1.2
 have mp1 := MK.pt_hits tk _ mh1
 have lp1 := MK.pt_len tk _ (a.mk_len tk n)
 have hz1 := Bf 121 tk n
 refine Z6 13 rfl rfl ?_; refine Da 0 rfl (Ae rfl) ?_; refine Dt 1 [12] rfl (A7 rfl) ?_; refine Da 2 rfl (Ac rfl) ?_; refine Da 3 rfl (Ac rfl) ?_; refine Da 4 rfl (Ae rfl) ?_; refine Dt 5 [12] rfl (A7 rfl) ?_; refine Da 6 rfl (Ac rfl) ?_
 first | refine Da 7 rfl (A4 rfl rfl _ rfl) ?_ | refine Da 7 rfl (A5 rfl rfl _ rfl) ?_
 refine Dt 8 [12] rfl (Bz rfl) ?_; refine Da 9 rfl (Ac rfl) ?_; refine Be (fun w h => Mem.kv4 h) ?_; refine Dc 10 rfl rfl (Mc ihn ht (by omega) (hf.as 1 a.tree (by omega) rfl) hok.1.1 tk b0 bq bn (g) n (by omega) (by omega) x hx (by omega) _) ?_; rintro _ J1 _ e1 ⟨cs1, y1, rfl, hr_1, hy1, hy1n, rfl⟩; obtain ⟨o1, k1, _, rfl, -⟩ := hr_1.open
 have hy1l : y1.ns.length = x.ns.length + ((a.mk tk n).pt tk).ns.length := by rw [hy1n]; simp
 have hlr := hlr.trans e1
 have hf := hf.mono e1
 have ht := ht.mono e1
 have hle := hle.trans e1
 have hk1 := hk1.mono e1
 unfold NZ.own
 refine Hx ?_; refine Be (fun w h => Mem.vk4 h) ?_
 first | refine Da 11 rfl (A4 rfl rfl _ rfl) ?_ | refine Da 11 rfl (A5 rfl rfl _ rfl) ?_
 refine Dx 12 rfl rfl rfl rfl ?_; refine Au (by kernel_rfl) ?_; refine Ak (Ah rfl ?_); refine Or rfl rfl rfl ?_; refine Om rfl (Aa ?_); refine Bm ?_; refine Se rfl (Oc rfl rfl rfl (Aa (Ab ?_))); refine Bn rfl (by first | rfl | decide | (simp; done) | omega) ?_; refine Af (Ab (Ai (Se rfl ?_)))
 first | refine Bi rfl rfl _ rfl .free rfl ?_ | refine Bj rfl rfl _ rfl .free rfl ?_
 refine Dl rfl .free rfl ?_; refine Oa rfl (Aa (Se rfl ?_)); refine Aw rfl .free rfl ?_; refine Ca rfl (Bk hf.rep _) ?_; rintro _ _ _ _ ⟨rfl, rfl, rfl⟩; refine Od rfl rfl rfl (Om rfl ?_)
 apply Fw 59 67 rfl
 ·intro g11_4 hk
  try simp only [nb] at g11_4
  refine Aw rfl (.met rfl rfl) rfl ?_; refine B6 rfl (.met rfl rfl) rfl (Bk hf.rep _) ?_; rintro _ _ _ _ ⟨rfl, rfl, rfl⟩; refine Fn rfl rfl rfl (.met rfl rfl) rfl ?_; refine Ow rfl ?_
  apply D4 63 66 rfl
  ·intro g11_8 hk
   try simp only [nb] at g11_8
   refine Ow rfl ?_; refine C7 rfl rfl rfl (.met rfl rfl) rfl ?_; refine Dj rfl rfl (.met rfl rfl) rfl ?_
   exact A0 2 rfl rfl hk
  ·intro _ hk; refine A9 2 rfl ?_; refine C1 rfl rfl (.met rfl rfl) rfl ?_
   exact A0 2 rfl rfl hk
  refine Of rfl rfl ?_
  exact A0 5 rfl rfl hk
 ·intro _ hk; refine A9 7 rfl ?_; refine Ot rfl rfl ?_
  exact A0 7 rfl rfl hk
 refine Aa ?_
 first | refine Ji rfl (by simp [hxi, hxid]) ?_ | refine Jh rfl (by simp [hxi, hxid]) ?_ | refine Cm (by simp [Bu, Bo, *]) ?_
 refine C0 fun hlr => ?_
 have g2 := b.mk_g tk ((a.mk tk n).pt tk).n
 have mh2 := b.mk_hits tk ((a.mk tk n).pt tk).n
 have hz2 := Bf 121 tk ((a.mk tk n).pt tk).n
 refine Aa2 12 rfl rfl ?_; refine Da 0 rfl (Ae rfl) ?_; refine Dt 1 [11] rfl (A7 rfl) ?_; refine Da 2 rfl (Ac rfl) ?_; refine Da 3 rfl (Ac rfl) ?_; refine Da 4 rfl (Ae rfl) ?_; refine Dt 5 [11] rfl (A7 rfl) ?_; refine Da 6 rfl (Ac rfl) ?_
 first | refine Da 7 rfl (A4 rfl rfl _ rfl) ?_ | refine Da 7 rfl (A5 rfl rfl _ rfl) ?_
 refine Dt 8 [11] rfl (Bz rfl) ?_; refine Be (fun w h => Mem.nq4 h) ?_; refine Dc 9 rfl rfl (Jp ihn ht (by omega) (hf.as 2 b.tree (by omega) rfl) hok.1.2 tk b0 bq (g + ((a.mk tk n).pt tk).g) ((a.mk tk n).pt tk).n (by omega) (by omega) (by omega) _) ?_; rintro _ J2 _ e2 ⟨cs2, rfl, hr_2, rfl⟩; obtain ⟨o2, k2, _, rfl, -⟩ := hr_2.open
 have hlr := hlr.trans e2
 have hf := hf.mono e2
 have ht := ht.mono e2
 have hle := hle.trans e2
 have hk1 := hk1.mono e2
 have hy1 := hy1.mono e2
 have hr_1 := hr_1.mono e2
 refine Hx ?_; refine Be (fun w h => Mem.qn4 h) ?_
 first | refine Da 10 rfl (A4 rfl rfl _ rfl) ?_ | refine Da 10 rfl (A5 rfl rfl _ rfl) ?_
 refine Dx 11 rfl rfl rfl rfl ?_; refine Au (by kernel_rfl) ?_; refine Ak (Ah rfl ?_); refine Or rfl rfl rfl ?_; refine Om rfl (Aa ?_); refine Bm ?_; refine Se rfl (Oc rfl rfl rfl (Aa (Ab ?_))); refine Bn rfl (by first | rfl | decide | (simp; done) | omega) ?_; refine Af (Ab (Ai (Se rfl ?_)))
 first | refine Bi rfl rfl _ rfl .free rfl ?_ | refine Bj rfl rfl _ rfl .free rfl ?_
 refine Dl rfl .free rfl ?_; refine Oa rfl (Aa (Se rfl ?_)); refine Aw rfl .free rfl ?_; refine Ca rfl (Bk hf.rep _) ?_; rintro _ _ _ _ ⟨rfl, rfl, rfl⟩; refine Od rfl rfl rfl (Om rfl ?_)
 apply Fw 59 67 rfl
 ·intro g11_4 hk
  try simp only [nb] at g11_4
  refine Aw rfl (.met rfl rfl) rfl ?_; refine B6 rfl (.met rfl rfl) rfl (Bk hf.rep _) ?_; rintro _ _ _ _ ⟨rfl, rfl, rfl⟩; refine Fn rfl rfl rfl (.met rfl rfl) rfl ?_; refine Ow rfl ?_
  apply D4 63 66 rfl
  ·intro g11_8 hk
   try simp only [nb] at g11_8
   refine Ow rfl ?_; refine C7 rfl rfl rfl (.met rfl rfl) rfl ?_; refine Dj rfl rfl (.met rfl rfl) rfl ?_
   exact A0 2 rfl rfl hk
  ·intro _ hk; refine A9 2 rfl ?_; refine C1 rfl rfl (.met rfl rfl) rfl ?_
   exact A0 2 rfl rfl hk
  refine Of rfl rfl ?_
  exact A0 5 rfl rfl hk
 ·intro _ hk; refine A9 7 rfl ?_; refine Ot rfl rfl ?_
  exact A0 7 rfl rfl hk
 refine Aa ?_
 first | refine Ji rfl (by simp [hxi, hxid]) ?_ | refine Jh rfl (by simp [hxi, hxid]) ?_ | refine Cm (by simp [Bu, Bo, *]) ?_
 refine C0 fun hlr => ?_
 have g3 := d.mk_g tk (b.mk tk ((a.mk tk n).pt tk).n).n
 have mh3 := d.mk_hits tk (b.mk tk ((a.mk tk n).pt tk).n).n
 have hz3 := Bf 121 tk (b.mk tk ((a.mk tk n).pt tk).n).n
 refine Aa2 12 rfl rfl ?_; refine Da 0 rfl (Ae rfl) ?_; refine Dt 1 [11] rfl (A7 rfl) ?_; refine Da 2 rfl (Ac rfl) ?_; refine Da 3 rfl (Ac rfl) ?_; refine Da 4 rfl (Ae rfl) ?_; refine Dt 5 [11] rfl (A7 rfl) ?_; refine Da 6 rfl (Ac rfl) ?_
 first | refine Da 7 rfl (A4 rfl rfl _ rfl) ?_ | refine Da 7 rfl (A5 rfl rfl _ rfl) ?_
 refine Dt 8 [11] rfl (Bz rfl) ?_; refine Be (fun w h => Mem.nq4 h) ?_; refine Dc 9 rfl rfl (Jp ihn ht (by omega) (hf.as 3 d.tree (by omega) rfl) hok.2 tk b0 bq (g + ((a.mk tk n).pt tk).g + (b.mk tk ((a.mk tk n).pt tk).n).g) (b.mk tk ((a.mk tk n).pt tk).n).n (by omega) (by omega) (by omega) _) ?_; rintro _ J3 _ e3 ⟨cs3, rfl, hr_3, rfl⟩; obtain ⟨o3, k3, _, rfl, -⟩ := hr_3.open
 have hlr := hlr.trans e3
 have hf := hf.mono e3
 have ht := ht.mono e3
 have hle := hle.trans e3
 have hk1 := hk1.mono e3
 have hy1 := hy1.mono e3
 have hr_1 := hr_1.mono e3
 have hr_2 := hr_2.mono e3
 refine Hx ?_; refine Be (fun w h => Mem.qn4 h) ?_
 first | refine Da 10 rfl (A4 rfl rfl _ rfl) ?_ | refine Da 10 rfl (A5 rfl rfl _ rfl) ?_
 refine Dx 11 rfl rfl rfl rfl ?_; refine Au (by kernel_rfl) ?_; refine Ak (Ah rfl ?_); refine Or rfl rfl rfl ?_; refine Om rfl (Aa ?_); refine Bm ?_; refine Se rfl (Oc rfl rfl rfl (Aa (Ab ?_))); refine Co rfl (by first | rfl | decide | (simp; done) | omega) ?_; refine Bq rfl ?_; refine Se rfl ?_; refine Aw rfl .free rfl ?_; refine Bp rfl rfl rfl rfl .free ?_; refine Aa ?_; refine C4 (fun w h => h.f1) (Bx ?_); intro hz
 have hf := hf.mono hz
 refine Ag (.c rfl .nil) ?_; refine ⟨_, _, hle.trans hz, fun w h => h.drop.drop.drop, _, y1, rfl, .mk' rfl (.cons (hf.as 0 (.node E9 []) (by omega) rfl) (.cons (hr_1.mono hz) (.cons (hr_2.mono hz) (.cons (hr_3.mono hz) (.nil))))) (fun y hy => by cases hy; exact Ax (xs := [_, _, _, _, _, _, _, _])) (by simp) hcc (by simp [Ap]) (by simp [Ap]), hy1.mono hz, by simp only [hy1n], ?_⟩
 simp only [NZ.own, Nat.add_assoc]
set_option maxHeartbeats 1000000 in
theorem Y0 {N : Nat} (ihn : Kd N) {z : Am} {a b : Ex} {I : Heap} (ht : Tab I) {cs : List Value} (hlt : SizeOf.sizeOf (Ex.lt z a b) < N + 1) (h : Rep I (Ex.lt z a b).tree cs) (hok : (Ex.lt z a b).ok = true) (tk : List Am) (b0 bq bn g n : Nat) (hn : n + (Ex.lt z a b).size + tk.length ≤ 900 + Eb 121 tk n) (hg : g + (Ex.lt z a b).size ≤ 1000) (x : NZ) (hx : x.ok I) (hxl : x.ns.length + (Ex.lt z a b).size ≤ 100000) (L : Bc) :
  Fun Tryz.prog 64 [.pointer (some ⟨b0, 0, none⟩), .agg cs.toArray, .pointer (some ⟨bn, 0, none⟩)] I (x.own b0 bq tk g n bn L) (NP b0 bq tk g bn x ((Ex.lt z a b).mk tk n) L) := by
 obtain ⟨oa, c, oaf, cf1, rfl, hf, hcl, hcs⟩ := h.cells
 have hle : HLe I I := .refl _
 have hh0 := Bf 121 tk n
 have hpos : 0 < (Ex.lt z a b).tree.parts.length := by show 0 < 4; decide
 obtain ⟨xa, rfl⟩ : ∃ xa, oa = some xa := ⟨_, Ev hf.nil hpos⟩
 have hlen : (Ex.lt z a b).tree.parts.length = 4 := rfl
 have hp := hf.len
 have hpe : (Ex.lt z a b).tree.parts.isEmpty = false := rfl
 have hpe2 : ¬ (Ex.lt z a b).tree.parts = [] := fun e => by rw [e] at hlen; cases hlen
 have hki := Ib z a b
 have hhd : (Ex.lt z a b).tree.head = Cw := rfl
 have hxl2 :  (Ex.lt z a b).tree.head = [108, 101, 116] := rfl
 have hxl2d :  Cw = [108, 101, 116] := rfl
 have hxf : ¬ (Ex.lt z a b).tree.head = [102, 117, 110] := (by decide : ¬ Cw = Cq)
 have hxfd : ¬ Cw = [102, 117, 110] := (by decide : ¬ Cw = Cq)
 have hxi : ¬ (Ex.lt z a b).tree.head = [105, 102] := (by decide : ¬ Cw = E9)
 have hxid : ¬ Cw = [105, 102] := (by decide : ¬ Cw = E9)
 simp only [Ex.lt.sizeOf_spec] at hlt
 simp only [Ex.ok, Bool.and_eq_true, decide_eq_true_eq] at hok
 simp only [Ex.size] at hn hg hxl
 simp only [Ex.mk]
 unfold NZ.own
 refine Aj (by simp) ?_; refine Se rfl ?_; refine Cc rfl rfl .free rfl ?_; intro b4; refine At .free rfl ?_; intro b6; refine Aa (Ab (Se rfl ?_)); refine Aw rfl .free rfl ?_; refine Ca rfl (B7 hf.rep _) ?_; rintro _ _ _ _ ⟨rfl, rfl, rfl⟩; refine Aa ?_
 first | refine Eu rfl (hpe) ?_ | refine Et rfl (hpe) ?_ | refine A8 (by simp [Bu, Bo, *]) ?_
 refine Af (Ab (Se rfl ?_)); refine Aw rfl .free rfl ?_; refine Ca rfl (Bk hf.rep _) ?_; rintro _ _ _ _ ⟨rfl, rfl, rfl⟩; refine Od rfl rfl rfl (Aa ?_)
 first | refine Ji rfl hxl2 ?_ | refine Jh rfl hxl2 ?_ | refine Cm (by simp [Bu, Bo, *]) ?_
 refine Ab ?_; refine C0 fun hlr => ?_
 have g1 := a.mk_g tk n
 have mh1 := a.mk_hits tk n
 have lp1 := a.mk_len tk n
 have hzl : z.length ≤ Ap := Ex.name_len hok.1.1
 refine Ah rfl (Om rfl (Oh rfl ?_)); refine Bg rfl .free rfl ?_
 first | refine Bi rfl rfl 2 rfl .free rfl ?_ | refine Bj rfl rfl 2 rfl .free rfl ?_
 refine Em rfl .free rfl ?_; refine Om rfl ?_; refine Cz (fun w h => Mem.kv2 h) ?_; refine Ca rfl (ihn ht (by omega) (hf.as 2 a.tree (by omega) rfl) hok.1.2 tk b0 bq bn g n (by omega) (by omega) x hx (by omega) _) ?_; rintro _ J1 _ e1 ⟨cs1, y, rfl, hr, hy, hyn, rfl⟩; obtain ⟨o1, k1, _, rfl, -⟩ := hr.open
 have hyl : y.ns.length = x.ns.length + (a.mk tk n).ns.length := by rw [hyn]; simp
 obtain ⟨a1, k2, hu1⟩ := Aat hy.buf
 have hz1 := Bf 121 tk (a.mk tk n).n
 have hf := hf.mono e1
 have ht := ht.mono e1
 unfold NZ.own
 refine Cz (fun w h => Mem.vk2 h) ?_; rw [hu1]; refine At .free rfl ?_; intro b7; refine Bp rfl rfl rfl rfl .free ?_; refine Aa (Ab ?_); refine Abm 15 rfl rfl ?_; refine Da 0 rfl (Ac rfl) ?_; refine Da 1 rfl (Ac rfl) ?_; refine Da 2 rfl (Ch rfl) ?_; refine Dt 3 [14] rfl (Nn rfl) ?_; refine Da 4 rfl (Ae rfl) ?_; refine Dt 5 [14] rfl (A7 rfl) ?_
 first | refine Da 6 rfl (A4 rfl rfl 1 rfl) ?_ | refine Da 6 rfl (A5 rfl rfl 1 rfl) ?_
 refine Da 7 rfl (Ba rfl) ?_; refine Dt 8 [14] rfl (Ii rfl) ?_; refine Dt 9 [14] rfl (Cd rfl) ?_; refine Da 10 rfl (G7 rfl rfl rfl) ?_; refine C6 11 rfl (by kernel_rfl) rfl rfl rfl (by rfl) (by rfl) (by rfl) (by decide) (by decide) (by rfl) .free rfl (.inr Al) ?_; intro b35
 refine B8 12 (B := y.B) (xs := y.xs) (ys := [.string (str z), .string (str (a.mk tk n).e.tree.atom), .slice o1 (a.mk tk n).e.tree.parts.length k1]) (m := y.ns.length) (c := y.c) rfl (by kernel_rfl) rfl (by intro kk; simp) (by rfl) (by rw [hu1]; rfl) rfl hy.buf (fun _ h => h.uu7) (by rfl) (fun a ha => by cases ha; exact B0 (.head _) (by rfl)) (by simp) (by rfl) (by decide) (by omega) (by decide) .free rfl (fun _ => .inr Al) ?_; intro B2 c3 hB2; obtain ⟨bq2, sq, rfl⟩ : ∃ bq sq, B2 = some (bq, sq) := by
  cases B2 with
  | none => exact absurd hB2.1 (by simp)
  | some z => exact ⟨z.1, z.2, rfl⟩
 simp only [A2, List.cons_append, List.nil_append]
 refine Da 13 rfl (Ch rfl) ?_; refine Dx 14 rfl rfl rfl rfl ?_ (hu := Abw); refine Au (by kernel_rfl) ?_; refine Ab ?_
 have g2 := b.mk_g tk (a.mk tk n).n
 have mh2 := b.mk_hits tk (a.mk tk n).n
 have lp2 := b.mk_len tk (a.mk tk n).n
 have hln : y.ns.length + 1 = (y.ns ++ [(z, (a.mk tk n).e)]).length := by simp
 have hlx : (y.ns ++ [(z, (a.mk tk n).e)]).length + b.size ≤ 100000 := by rw [← hln]; omega
 have hBx : Cy 3 (y.ns ++ [(z, (a.mk tk n).e)]).length c3 _ (some (bq2, sq)) := hln ▸ hB2
 refine Ah rfl (Om rfl (Oh rfl ?_)); refine Bg rfl .free rfl ?_
 first | refine Bi rfl rfl 3 rfl .free rfl ?_ | refine Bj rfl rfl 3 rfl .free rfl ?_
 refine Em rfl .free rfl ?_; refine Om rfl ?_; rw [show y.ns.length + 1 = (y.ns ++ [(z, (a.mk tk n).e)]).length from hln]; refine Cz (L' := NZ.own b0 bq tk (g + (a.mk tk n).g) (a.mk tk n).n bn (NZ.mk (y.ns ++ [(z, (a.mk tk n).e)]) (some (bq2, sq)) c3 (y.xs ++ [Value.string (str z), Value.string (str (a.mk tk n).e.tree.atom), Value.slice o1 (a.mk tk n).e.tree.parts.length k1])) ((b35, _) :: (b7, _) :: (b6, _) :: (b4, _) :: L)) (fun w h => Mem.let5 h) ?_
 refine Ca rfl (ihn ht (by omega) (hf.as 3 b.tree (by omega) rfl) hok.2 tk b0 bq bn (g + (a.mk tk n).g) (a.mk tk n).n (by omega) (by omega) (NZ.mk (y.ns ++ [(z, (a.mk tk n).e)]) (some (bq2, sq)) c3 (y.xs ++ [Value.string (str z), Value.string (str (a.mk tk n).e.tree.atom), Value.slice o1 (a.mk tk n).e.tree.parts.length k1])) ⟨hBx, hy.rep.append (.cons hzl hr .nil)⟩ hlx _) ?_; rintro _ J2 _ e2 ⟨cs2, y2, rfl, hr2, hy2, hy2n, rfl⟩; obtain ⟨o2, k2', _, rfl, -⟩ := hr2.open
 unfold NZ.own
 refine Cz (fun w h => Mem.vk4 h) ?_; refine Bp rfl rfl rfl rfl .free ?_; refine Aa ?_; refine Ag (.c rfl .nil) ?_; refine ⟨J2, _, e1.trans e2, fun w h => h.drop.drop.drop.drop, _, y2, rfl, hr2, hy2, by simp only [hy2n, hyn, List.append_assoc, List.cons_append, List.nil_append], ?_⟩
 simp only [NZ.own, Nat.add_assoc]
set_option maxHeartbeats 1000000 in
theorem Yz {N : Nat} (ihn : Kd N) {h1 z : Am} {s u : Ty} {b : Ex} {I : Heap} (ht : Tab I) {cs : List Value} (hlt : SizeOf.sizeOf (Ex.fn h1 z s u b) < N + 1) (h : Rep I (Ex.fn h1 z s u b).tree cs) (hok : (Ex.fn h1 z s u b).ok = true) (tk : List Am) (b0 bq bn g n : Nat) (hn : n + (Ex.fn h1 z s u b).size + tk.length ≤ 900 + Eb 121 tk n) (hg : g + (Ex.fn h1 z s u b).size ≤ 1000) (x : NZ) (hx : x.ok I) (hxl : x.ns.length + (Ex.fn h1 z s u b).size ≤ 100000) (L : Bc) :
  Fun Tryz.prog 64 [.pointer (some ⟨b0, 0, none⟩), .agg cs.toArray, .pointer (some ⟨bn, 0, none⟩)] I (x.own b0 bq tk g n bn L) (NP b0 bq tk g bn x ((Ex.fn h1 z s u b).mk tk n) L) := by
 obtain ⟨oa, c, oaf, cf1, rfl, hf, hcl, hcs⟩ := h.cells
 have hle : HLe I I := .refl _
 have hh0 := Bf 121 tk n
 have hpos : 0 < (Ex.fn h1 z s u b).tree.parts.length := by show 0 < 6; decide
 obtain ⟨xa, rfl⟩ : ∃ xa, oa = some xa := ⟨_, Ev hf.nil hpos⟩
 have hlen : (Ex.fn h1 z s u b).tree.parts.length = 6 := rfl
 have hp := hf.len
 have hpe : (Ex.fn h1 z s u b).tree.parts.isEmpty = false := rfl
 have hpe2 : ¬ (Ex.fn h1 z s u b).tree.parts = [] := fun e => by rw [e] at hlen; cases hlen
 have hki := Ip h1 z s u b
 have hhd : (Ex.fn h1 z s u b).tree.head = Cq := rfl
 have hxl2 : ¬ (Ex.fn h1 z s u b).tree.head = [108, 101, 116] := (by decide : ¬ Cq = Cw)
 have hxl2d : ¬ Cq = [108, 101, 116] := (by decide : ¬ Cq = Cw)
 have hxf :  (Ex.fn h1 z s u b).tree.head = [102, 117, 110] := rfl
 have hxfd :  Cq = [102, 117, 110] := rfl
 have hxi : ¬ (Ex.fn h1 z s u b).tree.head = [105, 102] := (by decide : ¬ Cq = E9)
 have hxid : ¬ Cq = [105, 102] := (by decide : ¬ Cq = E9)
 simp only [Ex.fn.sizeOf_spec] at hlt
 simp only [Ex.ok, Bool.and_eq_true, decide_eq_true_eq] at hok
 simp only [Ex.size] at hn hg hxl
 simp only [Ex.mk]
 unfold NZ.own
 refine Aj (by simp) ?_; refine Se rfl ?_; refine Cc rfl rfl .free rfl ?_; intro b4; refine At .free rfl ?_; intro b6; refine Aa (Ab (Se rfl ?_)); refine Aw rfl .free rfl ?_; refine Ca rfl (B7 hf.rep _) ?_; rintro _ _ _ _ ⟨rfl, rfl, rfl⟩; refine Aa ?_
 first | refine Eu rfl (hpe) ?_ | refine Et rfl (hpe) ?_ | refine A8 (by simp [Bu, Bo, *]) ?_
 refine Af (Ab (Se rfl ?_)); refine Aw rfl .free rfl ?_; refine Ca rfl (Bk hf.rep _) ?_; rintro _ _ _ _ ⟨rfl, rfl, rfl⟩; refine Od rfl rfl rfl (Aa ?_)
 first | refine Eu rfl hxl2 ?_ | refine Et rfl hxl2 ?_ | refine A8 (by simp [Bu, Bo, *]) ?_
 refine Af (Se rfl (Oh rfl ?_)); refine Bg rfl .free rfl ?_; refine Ca rfl (F9 (hcs _ rfl) (by have := hcl.length; omega) hcl.plain hpos hp _) ?_; rintro _ _ _ _ ⟨bc, sp, cc, rfl, hcc, rfl, rfl⟩
 simp only [show (Ex.fn h1 z s u b).tree.parts = [.node Cq [], .node h1 [], .node z [], s.tree, u.tree, b.tree] from rfl, Df, List.cons_append, List.nil_append]
 refine Cf rfl rfl rfl .free rfl ?_; refine At .free rfl ?_; intro b8; refine Bp rfl rfl rfl rfl .free ?_; refine Aa (Ab (Se rfl ?_)); refine Aw rfl .free rfl ?_; refine Ca rfl (B9 hf.rep _) ?_; rintro _ J _ e0 ⟨ok, ck, rfl, hk1, rfl⟩
 have hf := hf.mono e0
 have ht := ht.mono e0
 have hx := hx.mono e0
 have hle := hle.trans e0
 rw [hki] at hk1; rw [hki]; refine On rfl (Om rfl (Aa (Ai ?_))); refine Dd ?_; refine Se rfl (Oc rfl rfl rfl (Aa (Ab ?_))); refine Bn rfl (by first | rfl | decide | (simp; done) | omega) ?_; refine Af (Ab (Ai (Se rfl ?_)))
 first | refine Bi rfl rfl _ rfl .free rfl ?_ | refine Bj rfl rfl _ rfl .free rfl ?_
 refine Dl rfl .free rfl ?_; refine Oa rfl (Aa (Se rfl ?_)); refine Aw rfl .free rfl ?_; refine Ca rfl (Bk hf.rep _) ?_; rintro _ _ _ _ ⟨rfl, rfl, rfl⟩; refine Od rfl rfl rfl (Om rfl ?_)
 apply Fw 59 67 rfl
 ·intro g11_4 hk
  try simp only [nb] at g11_4
  refine Aw rfl (.met rfl rfl) rfl ?_; refine B6 rfl (.met rfl rfl) rfl (Bk hf.rep _) ?_; rintro _ _ _ _ ⟨rfl, rfl, rfl⟩; refine Fn rfl rfl rfl (.met rfl rfl) rfl ?_; refine Ow rfl ?_
  apply D4 63 66 rfl
  ·intro g11_8 hk
   try simp only [nb] at g11_8
   refine Ow rfl ?_; refine C7 rfl rfl rfl (.met rfl rfl) rfl ?_; refine Dj rfl rfl (.met rfl rfl) rfl ?_
   exact A0 2 rfl rfl hk
  ·intro _ hk; refine A9 2 rfl ?_; refine C1 rfl rfl (.met rfl rfl) rfl ?_
   exact A0 2 rfl rfl hk
  refine Of rfl rfl ?_
  exact A0 5 rfl rfl hk
 ·intro _ hk; refine A9 7 rfl ?_; refine Ot rfl rfl ?_
  exact A0 7 rfl rfl hk
 refine Aa ?_
 first | refine Ji rfl (by simp [hxf, hxfd]) ?_ | refine Jh rfl (by simp [hxf, hxfd]) ?_ | refine Cm (by simp [Bu, Bo, *]) ?_
 refine C0 fun hlr => ?_
 have g1 := b.mk_g tk n
 have mh1 := b.mk_hits tk n
 have hz1 := Bf 121 tk n
 refine Aa2 12 rfl rfl ?_; refine Da 0 rfl (Ae rfl) ?_; refine Dt 1 [11] rfl (A7 rfl) ?_; refine Da 2 rfl (Ac rfl) ?_; refine Da 3 rfl (Ac rfl) ?_; refine Da 4 rfl (Ae rfl) ?_; refine Dt 5 [11] rfl (A7 rfl) ?_; refine Da 6 rfl (Ac rfl) ?_
 first | refine Da 7 rfl (A4 rfl rfl _ rfl) ?_ | refine Da 7 rfl (A5 rfl rfl _ rfl) ?_
 refine Dt 8 [11] rfl (Bz rfl) ?_; refine Be (fun w h => Mem.nq4 h) ?_; refine Dc 9 rfl rfl (Jp ihn ht (by omega) (hf.as 5 b.tree (by omega) rfl) hok.2 tk b0 bq (g) n (by omega) (by omega) (by omega) _) ?_; rintro _ J1 _ e1 ⟨cs1, rfl, hr_1, rfl⟩; obtain ⟨o1, k1, _, rfl, -⟩ := hr_1.open
 have hlr := hlr.trans e1
 have hf := hf.mono e1
 have ht := ht.mono e1
 have hle := hle.trans e1
 have hk1 := hk1.mono e1
 have hx := hx.mono e1
 refine Hx ?_; refine Be (fun w h => Mem.qn4 h) ?_
 first | refine Da 10 rfl (A4 rfl rfl _ rfl) ?_ | refine Da 10 rfl (A5 rfl rfl _ rfl) ?_
 refine Dx 11 rfl rfl rfl rfl ?_; refine Au (by kernel_rfl) ?_; refine Ak (Ah rfl ?_); refine Or rfl rfl rfl ?_; refine Om rfl (Aa ?_); refine Bm ?_; refine Se rfl (Oc rfl rfl rfl (Aa (Ab ?_))); refine Co rfl (by first | rfl | decide | (simp; done) | omega) ?_; refine Bq rfl ?_; refine Se rfl ?_; refine Aw rfl .free rfl ?_; refine Bp rfl rfl rfl rfl .free ?_; refine Aa ?_; refine C4 (fun w h => h.f1) (Bx ?_); intro hz
 have hf := hf.mono hz
 refine Ag (.c rfl .nil) ?_; refine ⟨_, _, hle.trans hz, fun w h => h.drop.drop.drop, _, x, rfl, .mk' rfl (.cons (hf.as 0 (.node Cq []) (by omega) rfl) (.cons (hf.as 1 (.node h1 []) (by omega) rfl) (.cons (hf.as 2 (.node z []) (by omega) rfl) (.cons (hf.as 3 s.tree (by omega) rfl) (.cons (hf.as 4 u.tree (by omega) rfl) (.cons (hr_1.mono hz) (.nil))))))) (fun y hy => by cases hy; exact Ax (xs := [_, _, _, _, _, _, _, _, _, _, _, _])) (by simp) hcc (by simp [Ap]) (by simp [Ap]), hx.mono hz, by simp, ?_⟩
 simp only [NZ.own, Nat.add_assoc]
set_option maxHeartbeats 1000000 in
theorem Y1 {N : Nat} (ihn : Kd N) {o : U2} {a : Ex} {I : Heap} (ht : Tab I) {cs : List Value} (hlt : SizeOf.sizeOf (Ex.un o a) < N + 1) (h : Rep I (Ex.un o a).tree cs) (hok : (Ex.un o a).ok = true) (tk : List Am) (b0 bq bn g n : Nat) (hn : n + (Ex.un o a).size + tk.length ≤ 900 + Eb 121 tk n) (hg : g + (Ex.un o a).size ≤ 1000) (x : NZ) (hx : x.ok I) (hxl : x.ns.length + (Ex.un o a).size ≤ 100000) (L : Bc) :
  Fun Tryz.prog 64 [.pointer (some ⟨b0, 0, none⟩), .agg cs.toArray, .pointer (some ⟨bn, 0, none⟩)] I (x.own b0 bq tk g n bn L) (NP b0 bq tk g bn x ((Ex.un o a).mk tk n) L) := by
 obtain ⟨oa, c, oaf, cf1, rfl, hf, hcl, hcs⟩ := h.cells
 have hle : HLe I I := .refl _
 have hh0 := Bf 121 tk n
 have hpos : 0 < (Ex.un o a).tree.parts.length := by show 0 < 2; decide
 obtain ⟨xa, rfl⟩ : ∃ xa, oa = some xa := ⟨_, Ev hf.nil hpos⟩
 have hlen : (Ex.un o a).tree.parts.length = 2 := rfl
 have hp := hf.len
 have hpe : (Ex.un o a).tree.parts.isEmpty = false := rfl
 have hpe2 : ¬ (Ex.un o a).tree.parts = [] := fun e => by rw [e] at hlen; cases hlen
 have hki := G5 o a
 have hhd : (Ex.un o a).tree.head = o.txt := rfl
 have hxl2 : ¬ (Ex.un o a).tree.head = [108, 101, 116] := o.txt_ne.2.1
 have hxl2d : ¬ o.txt = [108, 101, 116] := o.txt_ne.2.1
 have hxf : ¬ (Ex.un o a).tree.head = [102, 117, 110] := o.txt_ne.2.2.1
 have hxfd : ¬ o.txt = [102, 117, 110] := o.txt_ne.2.2.1
 have hxi : ¬ (Ex.un o a).tree.head = [105, 102] := o.txt_ne.1
 have hxid : ¬ o.txt = [105, 102] := o.txt_ne.1
 simp only [Ex.un.sizeOf_spec] at hlt
 simp only [Ex.ok, Bool.and_eq_true, decide_eq_true_eq] at hok
 simp only [Ex.size] at hn hg hxl
 simp only [Ex.mk]
 unfold NZ.own
 refine Aj (by simp) ?_; refine Se rfl ?_; refine Cc rfl rfl .free rfl ?_; intro b4; refine At .free rfl ?_; intro b6; refine Aa (Ab (Se rfl ?_)); refine Aw rfl .free rfl ?_; refine Ca rfl (B7 hf.rep _) ?_; rintro _ _ _ _ ⟨rfl, rfl, rfl⟩; refine Aa ?_
 first | refine Eu rfl (hpe) ?_ | refine Et rfl (hpe) ?_ | refine A8 (by simp [Bu, Bo, *]) ?_
 refine Af (Ab (Se rfl ?_)); refine Aw rfl .free rfl ?_; refine Ca rfl (Bk hf.rep _) ?_; rintro _ _ _ _ ⟨rfl, rfl, rfl⟩; refine Od rfl rfl rfl (Aa ?_)
 first | refine Eu rfl hxl2 ?_ | refine Et rfl hxl2 ?_ | refine A8 (by simp [Bu, Bo, *]) ?_
 refine Af (Se rfl (Oh rfl ?_)); refine Bg rfl .free rfl ?_; refine Ca rfl (F9 (hcs _ rfl) (by have := hcl.length; omega) hcl.plain hpos hp _) ?_; rintro _ _ _ _ ⟨bc, sp, cc, rfl, hcc, rfl, rfl⟩
 simp only [show (Ex.un o a).tree.parts = [.node o.txt [], a.tree] from rfl, Df, List.cons_append, List.nil_append]
 refine Cf rfl rfl rfl .free rfl ?_; refine At .free rfl ?_; intro b8; refine Bp rfl rfl rfl rfl .free ?_; refine Aa (Ab (Se rfl ?_)); refine Aw rfl .free rfl ?_; refine Ca rfl (B9 hf.rep _) ?_; rintro _ J _ e0 ⟨ok, ck, rfl, hk1, rfl⟩
 have hf := hf.mono e0
 have ht := ht.mono e0
 have hx := hx.mono e0
 have hle := hle.trans e0
 rw [hki] at hk1; rw [hki]; refine On rfl (Om rfl (Aa (Ai ?_))); refine Dd ?_; refine Se rfl (Oc rfl rfl rfl (Aa (Ab ?_))); refine Bn rfl (by first | rfl | decide | (simp; done) | omega) ?_; refine Af (Ab (Ai (Se rfl ?_)))
 first | refine Bi rfl rfl _ rfl .free rfl ?_ | refine Bj rfl rfl _ rfl .free rfl ?_
 refine Dl rfl .free rfl ?_; refine Oa rfl (Aa (Se rfl ?_)); refine Aw rfl .free rfl ?_; refine Ca rfl (Bk hf.rep _) ?_; rintro _ _ _ _ ⟨rfl, rfl, rfl⟩; refine Od rfl rfl rfl (Om rfl ?_)
 apply Fw 59 67 rfl
 ·intro g11_4 hk
  try simp only [nb] at g11_4
  refine Aw rfl (.met rfl rfl) rfl ?_; refine B6 rfl (.met rfl rfl) rfl (Bk hf.rep _) ?_; rintro _ _ _ _ ⟨rfl, rfl, rfl⟩; refine Fn rfl rfl rfl (.met rfl rfl) rfl ?_; refine Ow rfl ?_
  apply D4 63 66 rfl
  ·intro g11_8 hk
   try simp only [nb] at g11_8
   refine Ow rfl ?_; refine C7 rfl rfl rfl (.met rfl rfl) rfl ?_; refine Dj rfl rfl (.met rfl rfl) rfl ?_
   exact A0 2 rfl rfl hk
  ·intro _ hk; refine A9 2 rfl ?_; refine C1 rfl rfl (.met rfl rfl) rfl ?_
   exact A0 2 rfl rfl hk
  refine Of rfl rfl ?_
  exact A0 5 rfl rfl hk
 ·intro _ hk; refine A9 7 rfl ?_; refine Ot rfl rfl ?_
  exact A0 7 rfl rfl hk
 refine Aa ?_
 first | refine Eu rfl (by simp [hxf, hxi, hxfd, hxid]) ?_ | refine Et rfl (by simp [hxf, hxi, hxfd, hxid]) ?_ | refine A8 (by simp [Bu, Bo, *]) ?_
 refine C0 fun hlr => ?_
 have g1 := a.mk_g tk n
 have mh1 := a.mk_hits tk n
 have gp1 := MK.pt_g tk _ g1.1 g1.2
 have mp1 := MK.pt_hits tk _ mh1
 have lp1 := MK.pt_len tk _ (a.mk_len tk n)
 have hz1 := Bf 121 tk n
 refine Z6 13 rfl rfl ?_; refine Da 0 rfl (Ae rfl) ?_; refine Dt 1 [12] rfl (A7 rfl) ?_; refine Da 2 rfl (Ac rfl) ?_; refine Da 3 rfl (Ac rfl) ?_; refine Da 4 rfl (Ae rfl) ?_; refine Dt 5 [12] rfl (A7 rfl) ?_; refine Da 6 rfl (Ac rfl) ?_
 first | refine Da 7 rfl (A4 rfl rfl _ rfl) ?_ | refine Da 7 rfl (A5 rfl rfl _ rfl) ?_
 refine Dt 8 [12] rfl (Bz rfl) ?_; refine Da 9 rfl (Ac rfl) ?_; refine Be (fun w h => Mem.kv4 h) ?_; refine Dc 10 rfl rfl (Mc ihn ht (by omega) (hf.as 1 a.tree (by omega) rfl) hok tk b0 bq bn (g) n (by omega) (by omega) x hx (by omega) _) ?_; rintro _ J1 _ e1 ⟨cs1, y1, rfl, hr_1, hy1, hy1n, rfl⟩; obtain ⟨o1, k1, _, rfl, -⟩ := hr_1.open
 have hy1l : y1.ns.length = x.ns.length + ((a.mk tk n).pt tk).ns.length := by rw [hy1n]; simp
 have hlr := hlr.trans e1
 have hf := hf.mono e1
 have ht := ht.mono e1
 have hle := hle.trans e1
 have hk1 := hk1.mono e1
 unfold NZ.own
 refine Hx ?_; refine Be (fun w h => Mem.vk4 h) ?_
 first | refine Da 11 rfl (A4 rfl rfl _ rfl) ?_ | refine Da 11 rfl (A5 rfl rfl _ rfl) ?_
 refine Dx 12 rfl rfl rfl rfl ?_; refine Au (by kernel_rfl) ?_; refine Ak (Ah rfl ?_); refine Or rfl rfl rfl ?_; refine Om rfl (Aa ?_); refine Bm ?_; refine Se rfl (Oc rfl rfl rfl (Aa (Ab ?_))); refine Co rfl (by first | rfl | decide | (simp; done) | omega) ?_; refine Bq rfl ?_; refine Se rfl ?_; refine Aw rfl .free rfl ?_; refine Bp rfl rfl rfl rfl .free ?_; refine Aa ?_; refine C4 (fun w h => h.f1) (Bx ?_); intro hz
 have hf := hf.mono hz
 refine Ag (.c rfl .nil) ?_; refine ⟨_, _, hle.trans hz, fun w h => h.drop.drop.drop, _, y1, rfl, .mk' rfl (.cons (hf.as 0 (.node o.txt []) (by omega) rfl) (.cons (hr_1.mono hz) (.nil))) (fun y hy => by cases hy; exact Ax (xs := [_, _, _, _])) (by simp) hcc (by simp [Ap]) (by simp [Ap]), hy1.mono hz, by simp only [hy1n], ?_⟩
 simp only [NZ.own, Nat.add_assoc]
theorem Vn {e : Ex} {I : Heap} {cs : List Value} (hb : e.bare = true) (h : Rep I e.tree cs) (hok : e.ok = true) (tk : List Am) (b0 bq bn g n : Nat) (x : NZ) (hx : x.ok I) (L : Bc) :
  Fun Tryz.prog 64 [.pointer (some ⟨b0, 0, none⟩), .agg cs.toArray, .pointer (some ⟨bn, 0, none⟩)] I (x.own b0 bq tk g n bn L) (NP b0 bq tk g bn x (e.mk tk n) L) := by
 obtain ⟨oa, c, oaf, cf1, rfl, hf⟩ := h.at'
 have hm : e.mk tk n = ⟨e, [], n, 0⟩ := by cases e <;> first | rfl | cases hb
 rw [hm]
 have hpe : e.tree.parts.isEmpty = true := by rw [← Ex.bare_parts]; exact hb
 have hpe2 : e.tree.parts = [] := List.isEmpty_iff.1 hpe
 unfold NZ.own
 refine Aj (by simp) ?_; refine Se rfl ?_; refine Cc rfl rfl .free rfl ?_; intro b4; refine At .free rfl ?_; intro b6; refine Aa (Ab (Se rfl ?_)); refine Aw rfl .free rfl ?_; refine Ca rfl (B7 hf.rep _) ?_; rintro _ _ _ _ ⟨rfl, rfl, rfl⟩; refine Aa ?_
 first | refine Ji rfl (hpe) ?_ | refine Jh rfl (hpe) ?_ | refine Cm (by simp [Bu, Bo, *]) ?_
 refine Se rfl ?_; refine Aw rfl .free rfl ?_; refine Bp rfl rfl rfl rfl .free ?_; refine Aa ?_; refine Ag (.c rfl .nil) ?_
 exact ⟨I, _, .refl _, fun w h => h.drop.drop, _, x, rfl, hf.rep, hx, by simp, rfl⟩
theorem W8 : ∀ N : Nat, Kd N := by
 intro N
 induction N with
 | zero => intro I ht e cs h; omega
 | succ N ihn =>
  intro I ht e cs hlt h hok tk b bq bn g n hn hg x hx hxl L
  cases hb : e.bare with
  | true => exact Vn hb h hok tk b bq bn g n x hx L
  | false =>
   cases e with
   | num s => cases hb
   | name s => cases hb
   | bin o p q => exact W9 ihn ht hlt h hok tk b bq bn g n hn hg x hx hxl L
   | ite p q r => exact Xa ihn ht hlt h hok tk b bq bn g n hn hg x hx hxl L
   | lt z p q => exact Y0 ihn ht hlt h hok tk b bq bn g n hn hg x hx hxl L
   | fn h1 z s u q => exact Yz ihn ht hlt h hok tk b bq bn g n hn hg x hx hxl L
   | un o p => exact Y1 ihn ht hlt h hok tk b bq bn g n hn hg x hx hxl L
def NT (bp b bq : Nat) (l : List Am) : Bc := [(bp, .cells [.pointer (some ⟨b, 0, none⟩)].toArray 54 (0, 0)), nz b bq 0 0, (bq, Fv l)]
theorem N8 (bp b bq : Nat) (l seen : List Am) (s : Am) (I : Heap) (L : Bc) (hx : l = Cx [] seen) : Fun Tryz.prog 35 [.string (str s), .pointer (some ⟨bp, 0, none⟩)] I (NT bp b bq l ++ L) (fun v I' L' => v = .tuple #[] ∧ ∃ y, y = Cx [] (seen ++ [s]) ∧ L' = NT bp b bq y ++ L) := by
 unfold NT nz
 simp only [List.cons_append, List.nil_append]
 refine Aj (by simp) ?_; refine Ah rfl ?_; refine Hf rfl (Dv (cs := [.pointer (some ⟨b, 0, none⟩)]) m0 (by rfl) (by rfl)) .free rfl ?_; refine Bl rfl .free rfl ?_
 first | refine Oh rfl ?_ | refine Oj rfl ?_
 refine Hf rfl (Dv (cs := [.map (some bq), .int .i64 (0 : Nat), .int .i64 (0 : Nat)]) m1 (by rfl) (by rfl)) .free rfl ?_; refine Om rfl ?_; refine Zb rfl rfl rfl u2 .free ?_; refine Aa ?_; refine Jg .nil ?_
 exact ⟨I, _, .refl _, fun w h => h, rfl, En l s, by rw [Ci, ← hx]; rfl, rfl⟩
theorem Xb (bp b bq : Nat) : V2 Tryz.prog 35 [.pointer (some ⟨bp, 0, none⟩)] (List Am) (NT bp b bq) (fun l seen _ => l = Cx [] seen) :=
 ⟨fun x seen s I L hx _ _ => N8 bp b bq x seen s I L hx, fun _ _ _ _ _ h => h⟩
theorem Mem.w2 {I : Heap} {a b p : Nat × Obj} {L : Bc} {w : World} (h : Mem I (p :: a :: b :: L) w) : Mem I (a :: b :: p :: L) w := h.perm (List.perm_append_comm_assoc [p] [a, b] L)
theorem Qi {I : Heap} (ht : Tab I) {e : Ex} {cs : List Value} (h : Rep I e.tree cs) (hfine : e.fine = true) (L : Bc) : Fun Tryz.prog 16 [.agg cs.toArray] I L (fun v I' L' => ∃ ds, v = .tuple #[.agg (List.toArray ds), .bool e.normal.fine] ∧ Rep I' e.normal.tree ds ∧ L = L') := by
 obtain ⟨oa, c, oaf, cf, rfl, hf⟩ := h.at'
 have hpf := Fx hfine
 have hf3 := hpf
 simp only [Ex.fine, Bool.and_eq_true, decide_eq_true_eq, Tree.fits] at hf3
 have hroom := K3 hfine
 have hps : e.plain.size ≤ 120 := hf3.1.2
 have hnok := K5 hfine
 have hnl := Lq hfine
 have hnn := Nz hfine
 refine Aj (by simp) ?_; refine Se rfl ?_; refine Cc rfl rfl .free rfl ?_; intro b1; refine At .free rfl ?_; intro b2; refine Oa rfl (Aa (Se rfl ?_)); refine Aw rfl .free rfl ?_; refine Ca rfl (R9 hf.rep hfine _) ?_; rintro _ J1 _ e1 ⟨ds, rfl, hr, rfl⟩; obtain ⟨o1, k1, _, rfl, -⟩ := hr.open
 have ht := ht.mono e1
 refine Om rfl (Oe rfl rfl (Oe rfl rfl ?_)); refine At .free rfl ?_; intro b4; refine Bp rfl rfl rfl rfl .free ?_; refine Oa rfl (Aa (Ab (Se rfl (Om rfl ?_)))); refine Dy rfl .free rfl ?_; refine Aa ?_
 first | refine Sf rfl (by simp) ?_ | refine A8 (by simp [Bu, Bo, *]) ?_
 refine Af (Se rfl ?_); refine Xg .free rfl ?_; intro bq; refine Cf rfl rfl rfl .free rfl ?_; refine Cc rfl rfl .free rfl ?_; intro b18; refine At .free rfl ?_; intro b6; refine Bp rfl rfl rfl rfl .free ?_; refine Aa (Se rfl ?_); refine Aw rfl .free rfl ?_; refine Pw rfl rfl .free rfl ?_; refine Cz (L' := NT b6 b18 bq [] ++ _) (fun w h => h) ?_; refine Ca rfl (R7 (Xb b6 b18 bq) _ (Nat.lt_succ_self _) hr [] [] (by simp only [List.length_nil, Ex.tree_size]; omega) rfl _) ?_; rintro _ J2 _ e2 ⟨rfl, tk, htk, rfl⟩
 have ht := ht.mono e2
 have hr := hr.mono e2
 obtain rfl : tk = e.tk := htk
 simp only [NT, List.cons_append, List.nil_append]
 refine Aa (Se rfl ?_); refine Bg rfl .free rfl ?_; refine Aw rfl .free rfl ?_; refine Cz (fun w h => Mem.w2 h) ?_; refine Ca rfl (Jp (W8 _) ht (Nat.lt_succ_self _) hr hf3.1.1 e.tk b18 bq 0 0 (by omega) (by omega) (by omega) _) ?_; rintro _ J3 _ e3 ⟨ms, rfl, hr3, rfl⟩
 have hr3 : Rep J3 e.normal.tree ms := hr3
 obtain ⟨o3, k3, _, rfl, -⟩ := hr3.open
 have hle := (e1.trans e2).trans e3
 rw [Nat.zero_add]
 have hge : (e.plain.mk e.tk 0).g = e.made.g := rfl
 rw [hge]
 unfold nz
 refine At .free rfl ?_; intro b7; refine Bp rfl rfl rfl rfl .free ?_; refine Aa (Ab ?_); refine Do 12 rfl rfl ?_; refine Dt 0 [10] rfl (Cd rfl) ?_; refine Dt 1 [2, 3, 4, 5, 6, 8, 10] rfl (A7 rfl) ?_; refine Da 2 rfl (Ch rfl) ?_
 first | refine Da 3 rfl (Ae rfl) ?_ | refine Da 3 rfl (Ba rfl) ?_
 refine Dt 4 [5, 6, 8, 10] rfl (Nn rfl) ?_; refine Da 5 rfl (Iu rfl rfl rfl) ?_; refine Da 6 rfl (Ac rfl) ?_
 apply Pa 31 34 rfl
 ·intro g7_7 hk
  try simp only [nb] at g7_7
  refine El 7 [8, 10] rfl (by kernel_rfl) rfl Al (Cd rfl) (.met rfl rfl) rfl ?_; refine Hq 8 rfl (by kernel_rfl) rfl rfl (.met rfl rfl) rfl (X9 hr3 hnok (by omega) _) ?_; rintro _ _ _ _ ⟨rfl, rfl, rfl⟩; refine Hx ?_; refine Da 9 rfl (D3 rfl rfl) ?_
  exact F6 2 rfl rfl hk
 ·intro _ hk; refine Ds 7 rfl rfl rfl ?_; refine Ds 8 rfl rfl rfl ?_; refine Da 9 rfl (C9 rfl rfl) ?_
  exact F6 2 rfl rfl hk
 refine Dx 10 rfl rfl rfl rfl ?_; refine Db 11 rfl (Bh rfl) ?_; refine Au (by kernel_rfl) ?_; refine Ag (.c rfl (.tmp rfl .nil)) ?_; refine ⟨J3, L, hle, Bt, _, ?_, hr3, rfl⟩
 cases hfn : e.normal.fine with
 | false => simp [By, hfn]
 | true => have := (hnn hfn).1; simp [By, hfn]; omega
theorem Ve (s : Am) (hs : s.length ≤ Ap) {I : Heap} (ht : Tab I) (L : Bc) : Fun Tryz.prog 7 [.string (str s)] I L (EL (Pv s) L) := by
 refine Aj (by simp) ?_; refine Se rfl (Oa rfl (Oa rfl (Aa (Se rfl (Om rfl ?_))))); refine Ca rfl (H6 s hs _ _) ?_; rintro _ J _ hleJ ⟨t, cs, ok, rfl, hrep, rfl, hpf⟩; obtain ⟨oc, cc, _, rfl, -⟩ := hrep.open; refine Om rfl (Oe rfl rfl (Oe rfl rfl ?_)); refine At .free rfl ?_; intro b4; refine Bp rfl rfl rfl rfl .free ?_; refine Oa rfl (Aa (Ab (Se rfl (Om rfl ?_)))); refine Dy rfl .free rfl ?_; refine Aa ?_; refine Av rfl ?_ ?_
 ·intro c0
  try simp only [nb] at c0
  refine Se rfl (Oa rfl (Oa rfl (Aa ?_))); refine Ag (.tmp rfl (.tmp rfl .nil)) ?_
  exact ⟨J, L, hleJ, Bt, by rw [Rb (Lz hpf c0)]; rfl, rfl⟩
 intro c0
 try simp only [nb] at c0
 obtain ⟨e, he, rfl, hok, hlen, hfine, htxt⟩ := K0 hpf c0
 have hnf := Na he
 have hnok := K5 hfine
 have hnl := Lq hfine
 refine Af (Se rfl ?_); refine Aw rfl .free rfl ?_; refine Ca rfl (Qi (ht.mono hleJ) hrep hfine _) ?_; rintro _ J2 _ e2 ⟨ds, rfl, hr, rfl⟩; obtain ⟨od, cd, _, rfl, -⟩ := hr.open
 have hle := hleJ.trans e2
 refine Om rfl (Oe rfl rfl (Oe rfl rfl ?_)); refine At .free rfl ?_; intro b6; refine Bp rfl rfl rfl rfl .free ?_; refine Oa rfl (Aa (Ab (Se rfl (Om rfl ?_)))); refine Dy rfl .free rfl ?_; refine Aa ?_; refine Av rfl ?_ ?_
 ·intro c1
  try simp only [nb] at c1
  refine Se rfl (Oa rfl (Oa rfl (Aa ?_))); refine Ag (.tmp rfl (.tmp rfl .nil)) ?_
  exact ⟨J2, L, hle, Bt, by rw [hnf, if_neg (by simpa using c1)]; rfl, rfl⟩
 intro c1
 try simp only [nb] at c1
 refine Af (Se rfl ?_); refine Aw rfl .free rfl ?_; refine Ca rfl (Tt hr (by rw [Tree.text_len]; unfold Ap; omega) _) ?_; rintro _ _ _ _ ⟨rfl, rfl, rfl⟩; refine Oa rfl (Oa rfl (Aa ?_)); refine Ag (.tmp rfl (.tmp rfl .nil)) ?_
 exact ⟨J2, L, hle, Bt, by rw [hnf, if_pos (by simpa using c1)]; rfl, rfl⟩
theorem Aa4 {s : Am} {e : Ex} (h : Ea s = some e) : s.length ≤ 12000 := by
 obtain ⟨_, _, _, h4, h5⟩ := Hw h; rw [h5, Tree.text_len]; exact h4
theorem Ex.pl_bare {av : List Am} (e : Ex) (f t : List Am) (n : Nat) : (e.pl av f t n).1.bare = e.bare := by cases e <;> rfl
theorem Ex.pl_norm {av : List Am} : ∀ (e : Ex) (f t : List Am) (n : Nat) (b : Bool), (e.pl av f t n).1.norm b = e.norm b
 | .num s, f, t, n, b => rfl
 | .name s, f, t, n, b => rfl
 | .bin o p q, f, t, n, b => by simp only [Ex.pl, Ex.norm, Ex.pl_bare]
 | .ite p q r, f, t, n, b => by simp only [Ex.pl, Ex.norm, Ex.pl_bare, Ex.pl_norm q, Ex.pl_norm r]
 | .lt x p q, f, t, n, b => by simp only [Ex.pl, Ex.norm, Ex.pl_norm p, Ex.pl_norm q]
 | .fn g x s u q, f, t, n, b => by simp only [Ex.pl, Ex.norm, Ex.pl_norm q]
 | .un o p, f, t, n, b => by simp only [Ex.pl, Ex.norm, Ex.pl_bare]
theorem Ex.pl_nl {av : List Am} : ∀ (e : Ex) (f t : List Am) (n : Nat), (e.pl av f t n).1.nl = e.nl
 | .num s, f, t, n => rfl
 | .name s, f, t, n => rfl
 | .bin o p q, f, t, n => by simp only [Ex.pl, Ex.nl, Ex.pl_nl p, Ex.pl_nl q]
 | .ite p q r, f, t, n => by simp only [Ex.pl, Ex.nl, Ex.pl_nl p, Ex.pl_nl q, Ex.pl_nl r]
 | .lt x p q, f, t, n => by simp only [Ex.pl, Ex.nl, Ex.pl_nl p, Ex.pl_nl q]
 | .fn g x s u q, f, t, n => by simp only [Ex.pl, Ex.nl, Ex.pl_nl q]
 | .un o p, f, t, n => by simp only [Ex.pl, Ex.nl, Ex.pl_nl p]
theorem Oz {tk : List Am} {e : Ex} (h : e.bare = true) (n : Nat) : e.mk tk n = ⟨e, [], n, 0⟩ ∧ (e.mk tk n).pt tk = ⟨e, [], n, 0⟩ := by
 cases e with
 | num s => exact ⟨rfl, rfl⟩
 | name s => exact ⟨rfl, rfl⟩
 | bin o a b => cases h
 | ite a b c => cases h
 | lt x a b => cases h
 | fn f x s t b => cases h
 | un o a => cases h
theorem K4 (tk : List Am) : ∀ (e : Ex), (e.norm false = true → ∀ n, e.mk tk n = ⟨e, [], n, 0⟩) ∧ (e.norm true = true → ∀ n, (e.mk tk n).all = e ∧ (e.mk tk n).n = n ∧ (e.mk tk n).g = 0)
 | .num s => ⟨fun _ _ => rfl, fun _ _ => ⟨rfl, rfl, rfl⟩⟩
 | .name s => ⟨fun _ _ => rfl, fun _ _ => ⟨rfl, rfl, rfl⟩⟩
 | .bin o a b => by
  have key : (a.bare && b.bare) = true → ∀ n, (Ex.bin o a b).mk tk n = ⟨.bin o a b, [], n, 0⟩ := fun h n => by
   simp only [Bool.and_eq_true] at h
   simp only [Ex.mk, (Oz h.1 n).2, (Oz h.2 n).2, List.append_nil]
  exact ⟨key, fun h n => by rw [key h n]; exact ⟨rfl, rfl, rfl⟩⟩
 | .ite a b c => by
  have key : (a.bare && b.norm true && c.norm true) = true → ∀ n, (Ex.ite a b c).mk tk n = ⟨.ite a b c, [], n, 0⟩ := fun h n => by
   simp only [Bool.and_eq_true] at h
   obtain ⟨q1, q2, q3⟩ := (K4 tk b).2 h.1.2 n; obtain ⟨r1, r2, r3⟩ := (K4 tk c).2 h.2 n
   simp only [Ex.mk, (Oz h.1.1 n).2, q1, q2, q3, r1, r2, r3]
  exact ⟨key, fun h n => by rw [key h n]; exact ⟨rfl, rfl, rfl⟩⟩
 | .lt x a b => by
  refine ⟨fun h => by simp [Ex.norm] at h, fun h n => ?_⟩
  simp only [Ex.norm, Bool.true_and, Bool.and_eq_true] at h
  obtain ⟨q1, q2, q3⟩ := (K4 tk b).2 h.2 n
  have hp := (K4 tk a).1 h.1 n
  refine ⟨?_, by simp only [Ex.mk, hp, q2], by simp only [Ex.mk, hp, q3]⟩
  simp only [Ex.mk, hp, MK.all, List.nil_append, G8]
  unfold MK.all at q1
  rw [q1]
 | .fn f x s t b => by
  have key : b.norm true = true → ∀ n, (Ex.fn f x s t b).mk tk n = ⟨.fn f x s t b, [], n, 0⟩ := fun h n => by
   obtain ⟨q1, q2, q3⟩ := (K4 tk b).2 h n
   simp only [Ex.mk, q1, q2, q3]
  exact ⟨key, fun h n => by rw [key h n]; exact ⟨rfl, rfl, rfl⟩⟩
 | .un o a => by
  have key : a.bare = true → ∀ n, (Ex.un o a).mk tk n = ⟨.un o a, [], n, 0⟩ := fun h n => by
   simp only [Ex.mk, (Oz h n).2]
  exact ⟨key, fun h n => by rw [key h n]; exact ⟨rfl, rfl, rfl⟩⟩
theorem Ug {e : Ex} (h : e.norm true = true) : e.normal = e.plain := ((K4 e.tk e.plain).2 (by unfold Ex.plain; rw [Ex.pl_norm]; exact h) 0).1
theorem Aaj {s : Am} {e : Ex} (h : Ea s = some e) (hn : e.norm true = true) : Pv s = some e.plain.tree.text ∧ Ea e.plain.tree.text = some e.plain ∧ Lp e.plain.tree.text = Lp s ∧ Im e.plain.tree.text s = true := by
 have hf := Fx (Hw h).1
 have hp := Vc h
 have hpn : e.plain.norm true = true := by unfold Ex.plain; rw [Ex.pl_norm]; exact hn
 have h1 : Fh true s = some e := by unfold Fh; rw [h]; simp [hn]
 have h2 : Fh true e.plain.tree.text = some e.plain := by unfold Fh; rw [hp]; simp [hpn]
 refine ⟨by rw [Na h, Ug hn, if_pos hf], hp, ?_, (U8 hp h).2 e.plain_as⟩; rw [Ks h1, Ks h2]
 unfold Ex.plain
 rw [Ex.pl_nl]
def Acm (s : Am) : Bool := Cr s || Bs s
theorem Sj {I : Heap} (ht : Tab I) {oa : Option Addr} {code : List UInt8} {c : Nat} (h : Bytes I oa code c) (L : Bc) : Fun Tryz.prog 3 [.slice oa code.length c] I L (YES L) := by
 have hlen := h.len
 refine Aj (by simp) ?_; refine Se rfl (Oa rfl (Aa (Ab (Se rfl (Om rfl (On rfl (Oc rfl rfl rfl (Aa ?_)))))))); refine Av rfl ?_ ?_
 ·intro c0
  try simp only [nb] at c0
  refine Se rfl (Oa rfl (Aa (Ag (.tmp rfl .nil) ?_)))
  exact ⟨I, L, .refl _, fun _ h => h, rfl, rfl⟩
 intro c0
 try simp only [nb] at c0
 refine Af (Se rfl (Om rfl ?_)); refine Ca rfl (Po h _) ?_; rintro _ J1 _ e1 ⟨s, rfl, hsl, rfl⟩
 have hs : s.length ≤ Ap := by unfold Ap; omega
 refine Oa rfl (Aa (Se rfl (Om rfl ?_))); refine Ca rfl (Vd s hs _ _) ?_; rintro _ J2 _ e2 ⟨rfl, rfl⟩
 have hle := e1.trans e2
 refine Oa rfl (Aa (Se rfl (Om rfl ?_))); refine Ca rfl (Vg s (M9 hs) _ _) ?_; rintro _ _ _ _ ⟨rfl, rfl, rfl⟩; refine Oa rfl (Aa (Ab (Se rfl (Om rfl (Om rfl ?_))))); refine Y7 rfl rfl rfl .free rfl ?_; refine Om rfl ?_
 apply Fw 20 23 rfl
 ·intro g6_4 hk
  try simp only [nb] at g6_4
  refine Ow rfl ?_; refine Dy rfl (.met rfl rfl) rfl ?_; refine Of rfl rfl ?_
  exact A0 2 rfl rfl hk
 ·intro _ hk; refine A9 2 rfl ?_; refine Ot rfl rfl ?_
  exact A0 2 rfl rfl hk
 refine Aa ?_; refine Av rfl ?_ ?_
 ·intro c1
  try simp only [nb] at c1
  refine Se rfl (Om rfl (Om rfl ?_)); refine Y7 rfl rfl rfl .free rfl ?_; refine Oa rfl (Aa (Ag (.tmp rfl .nil) ?_)); refine ⟨J2, L, hle, Bt, ?_, rfl⟩
  simp [By]
 intro c1
 try simp only [nb] at c1
 have hsn : Fu true s = true := by simpa using c1
 obtain ⟨e, hne⟩ : ∃ e, Fh true s = some e := Option.isSome_iff_exists.1 (by unfold Fu at hsn; exact hsn)
 have hx := Kt hne
 obtain ⟨hnf, hxo, hnets, hal⟩ := Aaj hx.1 hx.2.1
 generalize ho : e.plain.tree.text = o at hnf hxo hnets hal
 have hoN : o.length ≤ Ap := by have := Aa4 hxo; unfold Ap; omega
 clear c1
 refine Af (Se rfl (Om rfl ?_)); refine Ca rfl (Ve s hs (ht.mono hle) _) ?_; rintro _ J3 _ e3 ⟨rfl, rfl⟩; rw [hnf]
 simp only [Option.getD_some, Option.isSome_some]
 refine Om rfl (Oe rfl rfl (Oe rfl rfl (Oa rfl (Oa rfl (Aa (Se rfl (Om rfl ?_))))))); refine Dy rfl .free rfl ?_; refine Om rfl ?_
 apply Fw 34 45 rfl
 ·intro g9_3 hk
  try simp only [nb] at g9_3
  refine Ow rfl (Ow rfl ?_); refine B6 rfl (.met rfl rfl) rfl (To o s hoN hs _ _) ?_; rintro _ J4 _ e4 ⟨rfl, rfl⟩; rw [hal]; refine Cz (fun w h => Mem.le e4 h) ?_; refine Ow rfl ?_
  apply D4 38 44 rfl
  ·intro g9_7 hk
   try simp only [nb] at g9_7
   refine Ow rfl ?_; refine B6 rfl (.met rfl rfl) rfl (L6 o hoN _ _) ?_; rintro _ J5 _ e5 ⟨rfl, rfl⟩; refine Ow rfl ?_; refine B6 rfl (.met rfl rfl) rfl (L6 s hs _ _) ?_; rintro _ J6 _ e6 ⟨rfl, rfl⟩; refine Cz (fun w h => Mem.le (e5.trans e6) h) ?_; refine C7 rfl rfl rfl (.met rfl rfl) rfl ?_; refine Dj rfl rfl (.met rfl rfl) rfl ?_
   exact A0 5 rfl rfl hk
  ·intro _ hk; refine A9 5 rfl ?_; refine C1 rfl rfl (.met rfl rfl) rfl ?_
   exact A0 5 rfl rfl hk
  refine Of rfl rfl ?_
  exact A0 5 rfl rfl hk
 ·intro _ hk; refine A9 10 rfl ?_; refine Ot rfl rfl ?_
  exact A0 10 rfl rfl hk
 refine Oa rfl (Aa (Ag (.tmp rfl .nil) ?_)); refine ⟨J3, L, hle.trans e3, Bt, ?_, rfl⟩; rw [hnets]
 simp [By]
def Uv (P : Program) (s : String) : Bool :=
 match P.globalNamed s with
 | some g => match (P.globals[g]?).map (·.type) with
  | some t => match P.underlying t with
   | some (.array n e) => (match P.underlying e with | some (.int .u64) => true | _ => false) && (P.cellsOf e == 1) && (P.cellsOf t == n)
   | _ => false
  | none => false
 | none => false
theorem Abf {laid : List (String × DataW Unit)} {W : World} (h : laidMetH Tryz.prog laid W)
  (hk : (laid.filter fun x => x.1 == "internal/strconv.uint64pow10") = [("internal/strconv.uint64pow10", Lib.tabData .u64 Lib.pow10Tab)]) (ht : Uv Tryz.prog "internal/strconv.uint64pow10" = true) : Tab (O2 W) := by
 have h1 := h.filter (fun x => x.1 == "internal/strconv.uint64pow10")
 rw [hk] at h1
 have h1 : laidMet Tryz.prog [("internal/strconv.uint64pow10", Lib.tabData .u64 Lib.pow10Tab)] W := (laidMetH_iff.1 h1).1
 have h2 : Lib.TabIs Tryz.prog W "internal/strconv.uint64pow10" .u64 Lib.pow10Tab := by
  unfold Uv at ht
  split at ht
  ·rename_i g hg
   split at ht
   ·rename_i t hty
    split at ht
    ·rename_i n e hu
     simp only [Bool.and_eq_true, beq_iff_eq] at ht
     obtain ⟨⟨h3, h4⟩, h5⟩ := ht
     split at h3
     ·rename_i he
      exact Lib.tabIs_of_head hg hty hu he h4 h5 h1
     ·cases h3
    ·cases ht
   ·cases ht
  ·cases ht
 intro L w hm
 unfold Lib.TabIs World.var? at h2 ⊢
 cases hg : Tryz.prog.globalNamed "internal/strconv.uint64pow10" with
 | none => rw [hg] at h2; cases h2
 | some g =>
  rw [hg] at h2
  simp only [Option.bind_some] at h2 ⊢
  cases ho : W.heap[g]? with
  | none => rw [ho] at h2; cases h2
  | some o => rw [ho] at h2; rw [hm.1.1 g o ho]; exact h2
end Go.Proofs.YtbohngcdgmjfaaaGreatDoor
