/- Draws of placements. -/
import Derived.Test.YtkmklafjcjkpdaaByt
import Derived.Deep.DeepCutAuto
import Derived.Deep.RegionWith
import Derived.Deep.RegionLaw
namespace Go.Proofs.Ytkmklafjcjkpdaa
open Go.RowKit
set_option linter.unusedVariables false
set_option linter.unusedSimpArgs false
theorem step_appI {P : Program} {ops : Array Oper} {o : Oper} {a : Act} {w : World} {Q : Exit → Act → World → Prop} {K' : Act → World → Prop} {E' : Prop} (s x : Operand) {t e : TypeId} {size bytes : Nat} (hT : ElemTy P t e size bytes) (hgd : o.guard = none)
    (ho : o.op = .call { callee := .builtin .append, args := #[s, x], argTypes := #[t, t] }) (base : Nat)
    (v : Value) (n : Nat) (xs : List Value) (hs : a.eval s = v) (hown : w.ownsRow base e size v n xs)
    (A : Option Addr) (m c : Nat) (news : List Value) (hx : a.eval x = .slice A m c) (hr : Cel w A news) (hm : news.length = m * size) (hA : A ≠ none) (h1 : ∀ u ∈ news, u.oneCell' = true)
    (h63 : n + m ≤ maxLen) (hbytes : (n + m) * bytes ≤ 140737488355328) (hbase : base ≤ w.heap.size)
    (h : ∀ v' w', w'.ownsRow base e size v' (n + m) (xs ++ news) → w.grownBy w' v.ownBlock → K' (a.put o.dst v') w') : if Region.wanted o (yielded ops a.tmps) = true then Oper.wp P o a w K' Q else E' := by
  obtain ⟨ht, ⟨i, z, hi, hz, hsize, hby, hzs⟩, hsz⟩ := hT
  rcases A with _ | ad
  · exact absurd rfl hA
  have hcells : ∀ j u, news[j]? = some u → w.cell? (ad.add j) = some u := by
    intro j u hu
    rcases hr with hr | ⟨b, off, h, _, h3⟩
    · subst hr
      simp at hu
    · injection h with h
      subst h
      rw [add_zero_addr]
      exact h3 j u hu
  have hw : Region.wanted o (yielded ops a.tmps) = true := by simp [Region.wanted, hgd]
  rw [if_pos hw]
  obtain ⟨v', w', hr, h2, h3, h4, h5⟩ := run_append_own_at (P := P) w base t o.type e i z size bytes ht hi hz hsize hby hzs hsz v n xs hown ad m c news hm hcells h1 h63 hbytes hbase
  unfold Oper.wp execOp
  simp only [ho, resolve, invoke, builtin, Sem.run_bind, Sem.run_pure, Result.andThen_ok, List.map_toArray, List.map_cons, List.map_nil, hs, hx, hr]
  exact h v' w' h2 h3
theorem cel_blkI {w : World} {g : Nat} {cs : Array Value} {T : TypeId} (h : w.heap[g]? = some (.cells cs T (0, 0))) : Cel w (some ⟨g, 0, none⟩) cs.toList := by
  obtain ⟨hb, _, hlt⟩ := blk_cells h
  refine .inr ⟨_, 0, rfl, hlt, fun j u hu => ?_⟩
  rw [Nat.zero_add, hb j]
  simpa using hu
/-- A row of numbers that may be appended to: what it is, and how it reads. -/
def OwnI (w : World) (B : Nat) (v : Value) (P : List Int) : Prop := w.ownsRow B 3 1 v P.length (P.map (Value.int .i64))
theorem OwnI.val {w : World} {B : Nat} {v : Value} {P : List Int} (h : OwnI w B v P) : ∃ A c, v = .slice A P.length c ∧ Cel w A (P.map (Value.int .i64)) ∧ (A = none → c = 0) := by
  obtain ⟨hl, h1⟩ := h
  rcases h1 with ⟨rfl, h0⟩ | ⟨g, cap, cur, rfl, hB, hg, hc, hm, hs, ht⟩
  · have : P = [] := List.eq_nil_of_length_eq_zero h0
    subst this
    exact ⟨none, 0, rfl, .inl rfl, fun _ => rfl⟩
  · refine ⟨some ⟨g, 0, none⟩, cap, rfl, .inr ⟨g, 0, rfl, heap_lt hg, fun j u hu => ?_⟩, fun h => by cases h⟩
    obtain ⟨q1, _, _⟩ := blk_cells hg
    rw [Nat.zero_add, q1]
    rw [← ht] at hu
    have hj : j < P.length * 1 := by
      rcases Nat.lt_or_ge j (P.length * 1) with h | h
      · exact h
      · rw [List.getElem?_eq_none (by simp; omega)] at hu
        cases hu
    rw [List.getElem?_take_of_lt hj] at hu
    simpa using hu
theorem OwnI.chg {w w' : World} {B : Nat} {v : Value} {P : List Int} {S : Nat → Prop} (h : OwnI w B v P) (hc : Chg w w' S) (hS : ∀ y, B ≤ y → ¬ S y) : OwnI w' B v P := own_chg h hc hS
theorem OwnI.ext {w w' : World} {B : Nat} {v : Value} {P : List Int} (h : OwnI w B v P) (hE : Ext w w') : OwnI w' B v P := Ext.own hE h
theorem OwnI.base {w : World} {B B' : Nat} {v : Value} {P : List Int} (h : OwnI w B v P) (hB : B' ≤ B) : OwnI w B' v P := by
  refine ⟨h.1, h.2.imp_right ?_⟩
  rintro ⟨g, cap, cur, a, b, c⟩
  exact ⟨g, cap, cur, a, by omega, c⟩
theorem OwnI.setb {w : World} {B : Nat} {v : Value} {P : List Int} (h : OwnI w B v P) {p : Addr} (hp : p.block < B) (u : Value) : OwnI (w.setCell p u) B v P :=
  h.chg (Chg.set (p := p) (Chg.refl w (fun y => y < B)) hp u) (fun y hy h => by omega)
theorem OwnI.nil (w : World) (B : Nat) : OwnI w B (.slice none 0 0) [] := World.ownsRow_nil w B _ 1
theorem OwnI.lit {w : World} {B : Nat} (P : List Int) (hB : B ≤ w.heap.size) (hl : P.length ≤ maxLen) : OwnI (w.alloc (.cells (P.map (Value.int .i64)).toArray 3)) B (.slice (some ⟨w.heap.size, 0, none⟩) P.length P.length) P := by
  have h := World.ownsRow_lit (size := 1) (e := 3) (base := B) w (P.map (Value.int .i64)).toArray P.length hB hl (by simp)
  simpa [OwnI] using h
theorem OwnI.app {w' : World} {B : Nat} {v' : Value} {P : List Int} {z : Int} (h : w'.ownsRow B 3 1 v' (P.length + 1) (P.map (Value.int .i64) ++ [.int .i64 z])) : OwnI w' B v' (P ++ [z]) := by
  unfold OwnI
  simpa using h
theorem Drawn.grownI {a w w' : World} {b B : Nat} {v : Value} {P : List Int} (h : Drawn a w b) (hg : w.grownBy w' v.ownBlock) (ho : OwnI w B v P) (hB : a.heap.size ≤ B) (hb : b < B) : Drawn a w' b := Drawn.grown h hg ho hB hb
theorem grown_blk {w w' : World} {B g : Nat} {v : Value} {P : List Int} {o : Obj} (hg : w.grownBy w' v.ownBlock) (ho : OwnI w B v P) (h : w.heap[g]? = some o) (hgB : g < B) : w'.heap[g]? = some o := by
  rw [hg.block g (heap_lt h) (fun hS => by have := (World.ownsRow.lt ho g hS.symm).1; omega), h]
def BelP (v : Value) : Prop := ∃ f : Int, v = .int .i64 f ∧ (0 ≤ f ∧ f ≤ 100)
def RngP (m M : Int) (v : Value) : Prop := ∃ f : Int, v = .int .i64 f ∧ (m ≤ f ∧ f ≤ M)
def NumP (M : Int) (v : Value) : Prop := ∃ f : Int, v = .int .i64 f ∧ (0 ≤ f ∧ f ≤ M)
set_option maxHeartbeats 4000000 in
theorem sPlace (w : World) (b : Nat) (hC : Cur w b) :
    Calls Try.prog 124 #[.pointer (some ⟨b, 0, none⟩)] w fun e w' => ∃ (A : Option Addr) (c : Nat) (P : List Int) (rg sn : Int), e = .returned (.agg #[.slice A P.length c, .int .i64 rg, .int .i64 sn]) ∧ (1 ≤ P.length ∧ P.length ≤ 6) ∧ (10 ≤ rg ∧ rg ≤ sn ∧ sn ≤ 100) ∧ OwnI w' w.heap.size (.slice A P.length c) P ∧ Drawn w w' b := by
  have hlt := hC.lt
  have D0 := Lib.hid (Drawn.of_ext hC (Ext.alloc_ w (.cells #[.slice none 0 0, .int .i64 0, .int .i64 0] 74)))
  have bR0 := Lib.hid (new_blk1 w #[.slice none 0 0, .int .i64 0, .int .i64 0] 74)
  clear hC
  go_enter Try.func124, Try.ntmps124
  go_wp2_with fail
  refine (sBelow _ _ _ D0.out.2 (by decide)).mono ?_
  rintro e w1 ⟨k1, rfl, hk1, hD⟩
  obtain ⟨rg, hrg⟩ : ∃ rg : Int, rg = 10 + 10 * k1 := ⟨_, rfl⟩
  have w1a : IntKind.i64.wrap (10 * k1) = 10 * k1 := IntWalk.i64_in _ (by omega)
  have w1b : IntKind.i64.wrap (10 + 10 * k1) = rg := by rw [hrg]; exact IntWalk.i64_in _ (by omega)
  have hrb : 10 ≤ rg ∧ rg ≤ 30 := by omega
  have e1 := Ext.alloc_ w1 (.cells #[.slice none 0 0, .int .i64 rg, .int .i64 0] 74)
  have D1 := Lib.hid ((D0.out.trans hD).ext e1)
  have bR1 := Lib.hid (ext_blk e1 (hD.blk bR0.out (by omega)))
  have bP1 := Lib.hid (new_blk1 w1 #[.slice none 0 0, .int .i64 rg, .int .i64 0] 74)
  have hg1 : w.heap.size < w1.heap.size := by have := hD.1.size; simp at this; omega
  clear hrg hD e1 D0 bR0
  go_wp2_with fail
  generalize World.alloc w1 _ = w2 at *
  generalize w1.heap.size = g at *
  clear w1a w1b
  refine C.wp_region_chain (R := relC b) 7 (by kernel_rfl) (by kernel_rfl) ?_
  simp only [List.take_succ_cons, List.take_zero, List.drop_succ_cons, List.drop_zero]
  · (apply C.Chain.quiet (R := relC b); · (intro vs wq hEq hd; clear hEq hd; (try simp only [Act.put, C.SP.pick, C.SP.is, SPC.val, SPC.ints, id_eq, List.take_succ_cons, List.take_zero, List.drop_succ_cons, List.drop_zero, List.setIfInBounds_toArray, List.set_cons_zero, List.set_cons_succ]); refine C.growOp_go (R := relC b) ?_; go_simp; exact ⟨C.Ext.refl (R := relC b) _, rfl⟩))
    (apply C.Chain.quiet (R := relC b); · (intro vs wq hEq hd; have b5 := XC.blk hEq bP1.out (by omega); obtain ⟨c1, c2, c3⟩ := blk_cells b5; have e0 := c1 0; have e1 := c1 1; have e2 := c1 2; simp at e0 e1 e2; clear b5 c1 hEq hd; (try simp only [Act.put, C.SP.pick, C.SP.is, SPC.val, SPC.ints, id_eq, List.take_succ_cons, List.take_zero, List.drop_succ_cons, List.drop_zero, List.setIfInBounds_toArray, List.set_cons_zero, List.set_cons_succ]); refine C.growOp_go (R := relC b) ?_; go_simp; exact ⟨C.Ext.refl (R := relC b) _, rfl⟩))
    (apply C.Chain.quiet (R := relC b); · (intro vs wq hEq hd; clear hEq hd; (try simp only [Act.put, C.SP.pick, C.SP.is, SPC.val, SPC.ints, id_eq, List.take_succ_cons, List.take_zero, List.drop_succ_cons, List.drop_zero, List.setIfInBounds_toArray, List.set_cons_zero, List.set_cons_succ]); refine C.growOp_go (R := relC b) ?_; go_simp; exact ⟨C.Ext.refl (R := relC b) _, rfl⟩))
    refine C.Chain.sp (R := relC b) (SPC.val b (NumP 3)) ?_ ?_
    · intro vs wq hEq hd
      have hC := Lib.hid (XC.cur hEq D1.out.2)
      clear hd hEq
      (try simp only [Act.put, C.SP.pick, C.SP.is, SPC.val, SPC.ints, id_eq, List.take_succ_cons, List.take_zero, List.drop_succ_cons, List.drop_zero, List.setIfInBounds_toArray, List.set_cons_zero, List.set_cons_succ])
      refine C.growOp_go (R := relC b) ?_
      go_simp
      refine (sBelow _ _ _ hC.out (by decide)).mono ?_
      rintro e w6 ⟨f, rfl, hf, hD⟩
      exact ⟨_, rfl, XC.of_drawn hD, f, rfl, by omega⟩
    refine C.Chain.sp (R := relC b) (SPC.val b (NumP 30)) ?_ ?_
    · intro vs wq hEq hd
      obtain ⟨f, e7, hf⟩ := hd 3 (by kernel_rfl)
      clear hd hEq
      simp only [Act.put, C.SP.pick, C.SP.is, SPC.val, SPC.ints, id_eq, List.take_succ_cons, List.take_zero, List.drop_succ_cons, List.drop_zero, List.setIfInBounds_toArray, List.set_cons_zero, List.set_cons_succ]
      rw [e7]
      have hw : IntKind.i64.wrap (10 * f) = 10 * f := IntWalk.i64_in _ (by omega)
      refine C.growOp_go (R := relC b) ?_
      clear e7
      go_simp
      exact ⟨C.Ext.refl (R := relC b) _, _, rfl, by omega⟩
    refine C.Chain.sp (R := relC b) (SPC.val b (RngP rg 100)) ?_ ?_
    · intro vs wq hEq hd
      obtain ⟨f, e7, hf⟩ := hd 4 (by kernel_rfl)
      clear hd hEq
      simp only [Act.put, C.SP.pick, C.SP.is, SPC.val, SPC.ints, id_eq, List.take_succ_cons, List.take_zero, List.drop_succ_cons, List.drop_zero, List.setIfInBounds_toArray, List.set_cons_zero, List.set_cons_succ]
      rw [e7]
      have hw : IntKind.i64.wrap (rg + f) = rg + f := IntWalk.i64_in _ (by omega)
      refine C.growOp_go (R := relC b) ?_
      clear e7
      go_simp
      exact ⟨C.Ext.refl (R := relC b) _, _, rfl, by omega⟩
    (apply C.Chain.quiet (R := relC b); · (intro vs wq hEq hd; clear hEq hd; (try simp only [Act.put, C.SP.pick, C.SP.is, SPC.val, SPC.ints, id_eq, List.take_succ_cons, List.take_zero, List.drop_succ_cons, List.drop_zero, List.setIfInBounds_toArray, List.set_cons_zero, List.set_cons_succ]); refine C.growOp_go (R := relC b) ?_; go_simp; exact ⟨C.Ext.refl (R := relC b) _, rfl⟩))
    refine C.Chain.done (R := relC b) ?_
    intro vs w6 hE6 hd6
    simp only [Act.put, C.SP.pick, C.SP.is, SPC.val, SPC.ints, id_eq, List.take_succ_cons, List.take_zero, List.drop_succ_cons, List.drop_zero, List.setIfInBounds_toArray, List.set_cons_zero, List.set_cons_succ]
    obtain ⟨sn, e3, hsn⟩ := hd6 5
    rw [e3]
    have D6 := Lib.hid (Drawn.trans D1.out (XC.drawn hE6 D1.out.2))
    have bP6 := Lib.hid (XC.blk hE6 bP1.out (by omega))
    have bR6 := Lib.hid (XC.blk hE6 bR1.out (by omega))
    clear hd6 hE6 e3 D1 bP1 bR1
    obtain ⟨x1, x2, x3⟩ := blk_cells (bP6.out)
    have p0 := x1 0
    have p1 := x1 1
    have p2 := x1 2
    simp at p0 p1 p2
    clear x1
    have bP7 := blk_set bP6.out 2 (.int .i64 sn)
    simp only [List.setIfInBounds_toArray, List.set_cons_zero, List.set_cons_succ] at bP7
    have bP7 := Lib.hid bP7
    have bR7 := Lib.hid (set_blk (p := ⟨g, 2, none⟩) (u := .int .i64 sn) bR6.out (by simp; omega))
    have D7 := Lib.hid (Drawn.set_ (p := ⟨g, 2, none⟩) D6.out (by simp; omega) (by simp; omega) (.int .i64 sn))
    have O7 := Lib.hid (OwnI.nil (w6.setCell ⟨g, 2, none⟩ (.int .i64 sn)) (g + 1))
    have hrs : 10 ≤ rg ∧ rg ≤ sn ∧ sn ≤ 100 := by omega
    go_wp2_with fail
    generalize World.setCell w6 _ _ = w7 at *
    clear p0 p1 p2 x2 x3
    clear D6 bP6 bR6
    refine (sBelow _ _ _ D7.out.2 (by decide)).mono ?_
    rintro e w8 ⟨k2, rfl, hk2, hD⟩
    have w1c : IntKind.i64.wrap (1 + k2) = 1 + k2 := IntWalk.i64_in _ (by omega)
    have D8 := Lib.hid (D7.out.trans hD)
    have bP8 := Lib.hid (hD.blk bP7.out (by omega))
    have bR8 := Lib.hid (hD.blk bR7.out (by omega))
    have O8 := Lib.hid (O7.out.chg hD.1 (fun y hy h => by omega))
    clear hD D7 bP7 bR7 O7
    go_wp2_with fail
    go_loopw [4] (fun i wr => ∃ (iv : Int) (A : Option Addr) (c : Nat) (P : List Int), i = .int .i64 iv ∧ (0 ≤ iv ∧ iv + P.length = 1 + k2) ∧ Hid (OwnI wr (g + 1) (.slice A P.length c) P) ∧ Hid (wr.heap[g]? = some (.cells #[.slice A P.length c, .int .i64 rg, .int .i64 sn] 74 (0, 0))) ∧ Hid (wr.heap[w.heap.size]? = some (.cells #[.slice none 0 0, .int .i64 0, .int .i64 0] 74 (0, 0))) ∧ Hid (Drawn w wr b)) (fun i _ => (intOf i).toNat)
    case atStart => exact ⟨1 + k2, none, 0, [], rfl, ⟨by omega, by simp⟩, O8, bP8, bR8, D8⟩
    case round =>
      clear D8 bP8 bR8 O8
      obtain ⟨iv, A, c, P, rfl, ⟨hi0, hiN⟩, HO, HP, HR, HD⟩ := hrel
      obtain ⟨N, hN⟩ : ∃ N, N = P.length := ⟨_, rfl⟩
      have HN := Lib.hid hN
      rw [← hN] at HO HP hiN
      clear hN
      by_cases h0 : 0 < iv
      · have hwr : IntKind.i64.wrap (iv - 1) = iv - 1 := IntWalk.i64_in _ (by omega)
        have hgr : g < wr.heap.size := heap_lt HP.out
        obtain ⟨x1, x2, x3⟩ := blk_cells (HP.out)
        have p0 := x1 0
        have p1 := x1 1
        have p2 := x1 2
        simp at p0 p1 p2
        clear x1
        go_upto_region 6 with fail
        go_region_law (first | (go_simp; go_at_call 118; refine (sBelow _ _ _ (HD.out.2.ext (by repeat (first | exact Ext.refl _ | refine Ext.drew ?_))) (by decide)).mono ?_; rintro e w9 ⟨k, rfl, hk, hD9⟩; have X9 := (Drawn.of_ext HD.out.2 (by repeat (first | exact Ext.refl _ | refine Ext.drew ?_))).trans hD9; have D9 := Lib.hid (HD.out.trans X9); have hB := X9.blk HP.out (by omega); have bP9 := Lib.hid hB; have bR9 := Lib.hid (X9.blk HR.out (by omega)); have O9 := Lib.hid (HO.out.chg X9.1 (fun y hy h => by omega)); have hz9 := Lib.hid X9.1.size; have hw5 : IntKind.i64.wrap (5 * k) = 5 * k := IntWalk.i64_in _ (by omega); clear hD9 X9; obtain ⟨s1, s2, s3⟩ := blk_cells hB; have i0 := s1 0; have i1 := s1 1; have i2 := s1 2; simp at i0 i1 i2; clear s1 hB) | (refine step_appI (.tmp 25) (.tmp 29) elInt rfl rfl (g + 1) (.slice A N c) _ _ rfl (O9.out.ext (Ext.alloc_ w9 _)) _ 1 1 [.int .i64 (5 * k)] rfl (cel_blkI (cs := #[.int .i64 (5 * k)]) (T := 3) (new_blk1 w9 _ _)) (by simp) (by simp) (by intro u hu; simp at hu; subst hu; rfl) (by have := HN.out; unfold maxLen; omega) (by have := HN.out; omega) (by have := hz9.out; simp; omega) ?_; intro v' w10 q1 q2; have e9 := Ext.alloc_ w9 (.cells #[.int .i64 (5 * k)] 3); have D10 := Lib.hid ((D9.out.ext e9).grownI q2 (O9.out.ext e9) (by omega) (by omega)); have hB := grown_blk q2 (O9.out.ext e9) (ext_blk e9 bP9.out) (by omega); have bR10 := Lib.hid (grown_blk q2 (O9.out.ext e9) (ext_blk e9 bR9.out) (by omega)); have bP10 := Lib.hid hB; obtain ⟨P1, hP1, hO⟩ : ∃ P1, P1 = P ++ [5 * k] ∧ OwnI w10 (g + 1) v' P1 := ⟨_, rfl, OwnI.app q1⟩; have HP1 := Lib.hid hP1; obtain ⟨A', c', hv, -, -⟩ := hO.val; subst hv; have O10 := Lib.hid hO; clear q1 q2 hO hP1 e9; obtain ⟨t1, t2, t3⟩ := blk_cells hB; have j0 := t1 0; have j1 := t1 1; have j2 := t1 2; simp at j0 j1 j2; clear t1 hB))
        all_goals
          have bPn := blk_set bP10.out 0 (.slice A' P1.length c')
          simp only [List.setIfInBounds_toArray, List.set_cons_zero] at bPn
          have bPn' := Lib.hid bPn
          have bRn := Lib.hid (set_blk (p := ⟨g, 0, none⟩) (u := .slice A' P1.length c') bR10.out (Nat.ne_of_lt hg1))
          have Dn := Lib.hid (Drawn.set_ (p := ⟨g, 0, none⟩) D10.out (Nat.le_of_lt hg1) (Nat.lt_trans hlt hg1) (.slice A' P1.length c'))
          have On := Lib.hid (OwnI.setb (p := ⟨g, 0, none⟩) O10.out (Nat.lt_succ_self _) (.slice A' P1.length c'))
          have hPn : (P1.length : Int) = N + 1 := by rw [HP1.out, List.length_append, HN.out]; simp
          clear bPn
          go_wp2_with fail
          go_roundw
          case rel => exact ⟨iv - 1, A', c', P1, rfl, ⟨by omega, by omega⟩, On, bPn', bRn, Dn⟩
          case measure => simp [intOf]; omega
      · have hN1 : 1 ≤ N ∧ N ≤ 6 := by omega
        obtain ⟨x1, x2, x3⟩ := blk_cells (HP.out)
        have p0 := x1 0
        have p1 := x1 1
        have p2 := x1 2
        simp at p0 p1 p2
        clear x1
        obtain ⟨y1, y2, y3⟩ := blk_cells (HR.out)
        have q0 := y1 0
        have q1 := y1 1
        have q2 := y1 2
        simp at q0 q1 q2
        clear y1
        go_wp2_with fail
        refine bodyPost_ret (v := .agg #[.slice A N c, .int .i64 rg, .int .i64 sn]) (by clear HO HP HR HD HN; simp [results, Try.results124, go_sem, *]) rfl ⟨A, c, P, rg, sn, by rw [HN.out], by rw [← HN.out]; exact hN1, hrs, ?_, ?_⟩
        · rw [← HN.out]
          refine OwnI.base (B := g + 1) ?_ (by omega)
          iterate 3 refine OwnI.setb ?_ (by simp <;> omega) _
          exact HO.out
        · iterate 3 refine Drawn.set_ ?_ (by simp <;> omega) (by simp <;> omega) _
          exact HD.out
end Go.Proofs.Ytkmklafjcjkpdaa
