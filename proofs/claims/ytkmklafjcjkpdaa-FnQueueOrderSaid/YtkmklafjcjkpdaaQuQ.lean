/- Draws of transmit queues. -/
import Derived.Test.YtkmklafjcjkpdaaMsD
import Derived.Test.YtkmklafjcjkpdaaEnqA
import Derived.Deep.DeepCutAuto
import Derived.Deep.RegionWith
import Derived.Deep.RegionLaw
namespace Go.Proofs.Ytkmklafjcjkpdaa
open Go.RowKit
set_option linter.unusedVariables false
set_option linter.unusedSimpArgs false
theorem step_app {P : Program} {ops : Array Oper} {o : Oper} {a : Act} {w : World} {Q : Exit → Act → World → Prop} {K' : Act → World → Prop} {E' : Prop} (s x : Operand) {t e : TypeId} {size bytes : Nat} (hT : ElemTy P t e size bytes) (hgd : o.guard = none)
    (ho : o.op = .call { callee := .builtin .append, args := #[s, x], argTypes := #[t, t] }) (base : Nat)
    (v : Value) (n : Nat) (xs : List Value) (hs : a.eval s = v) (hown : w.ownsRow base e size v n xs)
    (A : Option Addr) (m c : Nat) (news : List Value) (hx : a.eval x = .slice A m c) (hr : Cel w A news) (hm : news.length = m * size) (hA : A ≠ none) (h1 : ∀ u ∈ news, u.oneCell' = true)
    (h63 : n + m ≤ maxLen) (hbytes : (n + m) * bytes ≤ 140737488355328) (hbase : base ≤ w.heap.size)
    (h : ∀ v' w', w'.ownsRow base e size v' (n + m) (xs ++ news) → w.grownBy w' v.ownBlock → (v'.ownBlock = v.ownBlock ∨ v'.ownBlock = some w.heap.size) → K' (a.put o.dst v') w') : if Region.wanted o (yielded ops a.tmps) = true then Oper.wp P o a w K' Q else E' := by
  obtain ⟨ht, ⟨i, z, hi, hz, hsize, hby, hzs⟩, hsz⟩ := hT
  rcases A with _ | ad
  · exact absurd rfl hA
  have hcells : ∀ j u, news[j]? = some u → w.cell? (ad.add j) = some u := by
    intro j u hu
    rcases hr with hr | ⟨b, off, h, _, h3⟩
    · subst hr
      simp at hu
    · injection h with h
      subst h
      rw [add_zero_addr]
      exact h3 j u hu
  have hw : Region.wanted o (yielded ops a.tmps) = true := by simp [Region.wanted, hgd]
  rw [if_pos hw]
  obtain ⟨v', w', hr, h2, h3, h4, h5⟩ := run_append_own_at (P := P) w base t o.type e i z size bytes ht hi hz hsize hby hzs hsz v n xs hown ad m c news hm hcells h1 h63 hbytes hbase
  unfold Oper.wp execOp
  simp only [ho, resolve, invoke, builtin, Sem.run_bind, Sem.run_pure, Result.andThen_ok, List.map_toArray, List.map_cons, List.map_nil, hs, hx, hr]
  exact h v' w' h2 h3 h5
/-- append of one element of its own, as a step of a region; the world is changed in the row's blocks. -/
theorem step_pushC {P : Program} {ops : Array Oper} {o : Oper} {a : Act} {w : World} {Q : Exit → Act → World → Prop} {α : Type} {K : Kind α} (s x : Operand) {t e : TypeId} {bytes : Nat} (hT : ElemTy P t e K.size bytes) (hgd : o.guard = none)
    (ho : o.op = .call { callee := .builtin .append, args := #[s, x], argTypes := #[t, t] }) (B : Nat) {X : Nat → Prop} {w0 : World} {K' : Act → World → Prop} {E' : Prop} (v : Value) (l : List α) (hs : a.eval s = v) (hA : AppR K e w0 B X v l) {S' : Nat → Prop} (hc : Chg w0 w S') (hS : ∀ y, B ≤ y → ¬ S' y)
    (A : Option Addr) (c : Nat) (y : α) (g : Nat) (Ay : Option Addr) (cy : Nat) (hx : a.eval x = .slice A 1 c) (hr : Cel w A (K.hd y (.slice Ay (K.bd y).length cy))) (hA1 : A ≠ none) (h1 : ∀ u ∈ K.hd y (.slice Ay (K.bd y).length cy), u.oneCell' = true)
    (hok : (⟨y, g, Ay, cy⟩ : El α).new K w B) (hg : w0.heap.size ≤ g) (hX : ∀ x, X x → x < w0.heap.size)
    (h63 : l.length + 1 ≤ maxLen) (hbytes : (l.length + 1) * bytes ≤ 140737488355328) (hbase : B ≤ w.heap.size)
    (h : ∀ v' w', AppR K e w' B X v' (l ++ [y]) → Chg w w' (fun y => B ≤ y) → K' (a.put o.dst v') w') : if Region.wanted o (yielded ops a.tmps) = true then Oper.wp P o a w K' Q else E' := by
  obtain ⟨es, hO, hB0, hXb, rfl⟩ := hA
  have hO' := own_chg hO hc hS
  have hlt := hO.lt
  refine step_app s x hT hgd ho B v es.length (rowOf K es) hs hO' A 1 c (K.hd y (.slice Ay (K.bd y).length cy)) hx hr (by rw [K.hlen]; omega) hA1 h1 (by simpa using h63) (by simpa using hbytes) hbase fun v' w' q1 q2 q3 => ?_
  refine h v' w' ⟨es ++ [⟨y, g, Ay, cy⟩], ?_, ?_, ?_, by simp⟩ ((Chg.grown q2).mono (fun y hy => (hO'.lt y hy.symm).1))
  · rw [rowOf_append]
    have : rowOf K [(⟨y, g, Ay, cy⟩ : El α)] = K.hd y (.slice Ay (K.bd y).length cy) := by simp [rowOf, El.cells]
    rw [this]
    simpa using q1
  · intro G hG
    refine ⟨?_, ?_⟩
    · rcases q3 with q3 | q3
      · exact (hB0 G (by rw [← q3]; exact hG)).1
      · have : w.heap.size = G := by rw [q3] at hG; exact Option.some.inj hG
        intro hx
        have := hX G hx
        have := hc.size
        omega
    have hkeep : ∀ e' : El α, K.bd e'.x ≠ [] → e'.g < w.heap.size → v.ownBlock ≠ some e'.g → w'.heap[e'.g]? = w.heap[e'.g]? := fun e' _ h1 h2 => q2.block _ h1 (fun h => h2 h.symm)
    have hold : Bod K w' B w'.heap.size G es := by
      by_cases hes : es = []
      · subst hes; exact .nil
      · obtain ⟨G0, hG0⟩ : ∃ G0, v.ownBlock = some G0 := by
          rcases hO.2 with ⟨rfl, h0⟩ | ⟨g0, cap, cur, rfl, _⟩
          · exact absurd (List.eq_nil_of_length_eq_zero h0) hes
          · exact ⟨g0, rfl⟩
        have hb := (hB0 G0 hG0).2
        refine ⟨fun e' he' => ?_, hb.2⟩
        have h1 := (hb.1 e' he').chg hc (fun h0 => by obtain ⟨_, _, q⟩ := hb.1 e' he'; obtain ⟨_, q2, q3, _⟩ := q.resolve_left h0; exact hS _ q2)
        obtain ⟨z1, z2, z3⟩ := h1
        refine ⟨z1, z2, ?_⟩
        by_cases h0 : K.bd e'.x = []
        · exact .inl h0
        · obtain ⟨a1, a2, a3, a4, cs, T, a5, a6⟩ := z3.resolve_left h0
          have a3' : e'.g < w.heap.size := (blk_cells a5).2.2
          refine .inr ⟨a1, a2, Nat.lt_of_lt_of_le a3' q2.size, ?_, cs, T, ?_, a6⟩
          · rcases q3 with q3 | q3
            · have : G0 = G := by rw [q3, hG0] at hG; exact Option.some.inj hG
              rw [← this]; exact a4
            · have : w.heap.size = G := by rw [q3] at hG; exact Option.some.inj hG
              omega
          · rw [hkeep e' h0 a3' (by rw [hG0]; intro h; exact a4 (Option.some.inj h).symm), a5]
    have hnew : (⟨y, g, Ay, cy⟩ : El α).ok K w' B w'.heap.size G := by
      obtain ⟨z1, z2, z3⟩ := hok
      refine ⟨z1, z2, ?_⟩
      by_cases h0 : K.bd y = []
      · exact .inl h0
      · obtain ⟨a1, a2, a3, cs, T, a5, a6⟩ := z3.resolve_left h0
        simp only at a1 a2 a3 a5 a6
        refine .inr ⟨a1, a2, Nat.lt_of_lt_of_le a3 q2.size, ?_, cs, T, ?_, a6⟩
        · rcases q3 with q3 | q3
          · have := hlt G (by rw [← q3]; exact hG)
            simp only; omega
          · have : w.heap.size = G := by rw [q3] at hG; exact Option.some.inj hG
            simp only; omega
        · have := hkeep ⟨y, g, Ay, cy⟩ h0 a3 (fun h => by have := hlt _ h; simp only at this; omega)
          simp only at this ⊢
          rw [this, a5]
    refine hold.snoc hnew fun e' he' h0 => ?_
    by_cases hes : es = []
    · subst hes; simp at he'
    · obtain ⟨G0, hG0⟩ : ∃ G0, v.ownBlock = some G0 := by
        rcases hO.2 with ⟨rfl, h1⟩ | ⟨g0, cap, cur, rfl, _⟩
        · exact absurd (List.eq_nil_of_length_eq_zero h1) hes
        · exact ⟨g0, rfl⟩
      have := (hB0 G0 hG0).2.lt he' h0
      simp only
      omega
  · intro e' he' h0
    rw [List.mem_append] at he'
    rcases he' with h1 | h1
    · exact hXb e' h1 h0
    · simp at h1
      subst h1
      intro hx
      have := hX _ hx
      simp only at this
      omega
/-- What is known of a drawn message, of a queue while it is drawn, and of a drawn queue. -/
def MsgP (m : Msg) : Prop := (∀ x ∈ m.body, 0 ≤ x ∧ x ≤ 255) ∧ m.body.length ≤ 101
def QB (D : Int) (l : List Msg) (d : Int) : Prop := l.length ≤ 12 ∧ (0 ≤ d ∧ d ≤ D) ∧ ∀ m ∈ l, MsgP m
def QF (l : List Msg) (d : Int) : Prop := l.length ≤ 13 ∧ (-1 ≤ d ∧ d ≤ 14) ∧ ∀ m ∈ l, MsgP m
theorem QB.enq {D d : Int} {l : List Msg} {m : Msg} (h : QB D l d) (hm : MsgP m) (hD : D ≤ 1000) : QB (D + 1) (enqL l d m) (enqD l d m) := by
  obtain ⟨h1, h2, h3⟩ := h
  have hall : ∀ x ∈ l ++ [m], MsgP x := by
    intro x hx
    rcases List.mem_append.1 hx with h | h
    · exact h3 x h
    · simp at h; subst h; exact hm
  unfold enqL enqD
  by_cases hb : (okQ l d && okM m) = true
  · rw [if_pos hb, if_pos hb]
    by_cases hl : l.length + 1 ≤ 12
    · rw [if_pos hl, if_pos hl]
      exact ⟨by simp; omega, by omega, hall⟩
    · rw [if_neg hl, if_neg hl]
      have hw := wst_lt (l ++ [m]) (by simp) (l.length + 1) (by simp)
      refine ⟨by rw [List.length_eraseIdx_of_lt hw]; simp; omega, ?_, fun x hx => hall x ((List.eraseIdx_sublist _ _).subset hx)⟩
      have : wrap64 (d + 1) = d + 1 := by unfold wrap64; omega
      omega
  · rw [if_neg hb, if_neg hb]
    exact ⟨h1, by omega, h3⟩
def MsgV (w : World) (B : Nat) (v : Value) : Prop := ∃ (ta ct dl : Int) (g : Nat) (A : Option Addr) (c : Nat) (l : List Int), v = .agg #[.int .i64 ta, .int .i64 ct, .int .i64 dl, .slice A l.length c] ∧ MsgP ⟨ta, ct, dl, l⟩ ∧ NewB w B g A c l
def QueV (w : World) (B : Nat) (D : Int) (v : Value) : Prop := ∃ (A : Option Addr) (c : Nat) (l : List Msg) (d : Int), v = .agg #[.slice A l.length c, .int .i64 d] ∧ QB D l d ∧ AppR kMsg 59 w B (fun _ => False) (.slice A l.length c) l
def SPC.msg (b B : Nat) (hB : b < B) : C.SP (R := relC b) := C.SP.mk (R := relC b) (fun v w => MsgV w B v)
  (fun _ _ _ hE ⟨ta, ct, dl, g, A, c, l, h1, h2, h3⟩ => ⟨ta, ct, dl, g, A, c, l, h1, h2, h3.chg (XC.chg hE) (fun y hy h => by omega)⟩) id (fun _ _ _ => rfl)
def SPC.que (b B : Nat) (D : Int) (hB : b < B) : C.SP (R := relC b) := C.SP.mk (R := relC b) (fun v w => QueV w B D v)
  (fun _ _ _ hE ⟨A, c, l, d, h1, h2, h3⟩ => ⟨A, c, l, d, h1, h2, h3.chg (XC.chg hE) (fun y hy _ h => by omega)⟩) id (fun _ _ _ => rfl)
theorem Drawn.chgd {a w w' : World} {b B : Nat} (h : Drawn a w b) (hc : Chg w w' (fun y => B ≤ y)) (hB : a.heap.size ≤ B) (hb : b < B) : Drawn a w' b := by
  refine ⟨⟨hc.os.trans h.1.os, hc.tape.trans h.1.tape, hc.output.trans h.1.output, Nat.le_trans h.1.size hc.size, fun y hy hne => ?_⟩, h.2.chg hc (fun y hy hS => by omega)⟩
  rw [hc.block y (Nat.lt_of_lt_of_le hy h.1.size) (fun hS => by omega)]
  exact h.1.block y hy hne
theorem chg_blk {w w' : World} {S : Nat → Prop} {g : Nat} {o : Obj} (hc : Chg w w' S) (h : w.heap[g]? = some o) (hS : ¬ S g) : w'.heap[g]? = some o := by rw [hc.block g (heap_lt h) hS, h]
theorem cel_blk2 {w : World} {g : Nat} {cs : Array Value} {T : TypeId} (h : w.heap[g]? = some (.cells cs T (0, 0))) : Cel w (some ⟨g, 0, none⟩) cs.toList := by
  obtain ⟨hb, _, hlt⟩ := blk_cells h
  refine .inr ⟨_, 0, rfl, hlt, fun j u hu => ?_⟩
  rw [Nat.zero_add, hb j]
  simpa using hu
set_option maxHeartbeats 4000000 in
theorem sQueue (w : World) (b : Nat) (hC : Cur w b) :
    Calls Try.prog 132 #[.pointer (some ⟨b, 0, none⟩)] w fun e w' => ∃ (A : Option Addr) (c : Nat) (l : List Msg) (d : Int), e = .returned (.agg #[.slice A l.length c, .int .i64 d]) ∧ QF l d ∧ AppR kMsg 59 w' w.heap.size (fun _ => False) (.slice A l.length c) l ∧ Drawn w w' b := by
  have hlt := hC.lt
  have eG := Ext.trans (Ext.alloc_ w (.cells #[.slice none 0 0, .int .i64 0] 55)) (Ext.alloc_ _ (.cells #[.slice none 0 0, .int .i64 0] 55))
  have D0 := Drawn.of_ext hC eG
  have bR := ext_blk (Ext.alloc_ _ (.cells #[.slice none 0 0, .int .i64 0] 55)) (new_blk1 w #[.slice none 0 0, .int .i64 0] 55)
  have bG := new_blk1 (w.alloc (.cells #[.slice none 0 0, .int .i64 0] 55)) #[.slice none 0 0, .int .i64 0] 55
  simp only [World.size_alloc] at bG
  have D1 := Lib.hid D0
  have bG1 := Lib.hid bG
  have bR1 := Lib.hid bR
  have hz1 : ((w.alloc (.cells #[.slice none 0 0, .int .i64 0] 55)).alloc (.cells #[.slice none 0 0, .int .i64 0] 55)).heap.size = w.heap.size + 1 + 1 := by simp
  clear eG D0 bR bG hC
  go_enter Try.func132, Try.ntmps132
  go_wp2_with fail
  generalize World.alloc (World.alloc w _) _ = w1 at *
  have hL := cel_lit w1 3 #[.int .i64 0, .int .i64 2, .int .i64 5, .int .i64 12, .int .i64 14]
  rw [hz1] at hL
  have hL := Lib.hid hL
  refine (sOneOf _ _ _ _ _ [0, 2, 5, 12, 14] (D1.out.2.ext (Ext.alloc_ _ _)) rfl (by simp) hL.out (fun b' o' h => by injection h with h; injection h with h; have := D1.out.2.lt; omega)).mono ?_
  rintro e w2 ⟨it, rfl, hit, hD⟩
  have D2 := Lib.hid (D1.out.trans (Drawn.trans (Drawn.of_ext D1.out.2 (Ext.alloc_ w1 _)) hD))
  have bG2 := Lib.hid (hD.blk (ext_blk (Ext.alloc_ w1 _) bG1.out) (by omega))
  have bR2 := Lib.hid (hD.blk (ext_blk (Ext.alloc_ w1 _) bR1.out) (by omega))
  have hit' : 0 ≤ it ∧ it ≤ 14 := by simp at hit; omega
  clear hD D1 bG1 bR1 hit hL hz1
  go_wp2_with fail
  go_loopw [4] (fun i wr => ∃ (iv : Int) (A : Option Addr) (c : Nat) (l : List Msg) (d : Int), i = .int .i64 iv ∧ (0 ≤ iv ∧ iv ≤ 14) ∧ Hid (QB (14 - iv) l d) ∧ Hid (AppR kMsg 59 wr (w.heap.size + 2) (fun _ => False) (.slice A l.length c) l) ∧ Hid (wr.heap[w.heap.size + 1]? = some (.cells #[.slice A l.length c, .int .i64 d] 55 (0, 0))) ∧ Hid (wr.heap[w.heap.size]? = some (.cells #[.slice none 0 0, .int .i64 0] 55 (0, 0))) ∧ Hid (Drawn w wr b)) (fun i _ => (intOf i).toNat)
  case atStart => exact ⟨it, none, 0, [], 0, rfl, hit', Lib.hid ⟨by simp, by omega, fun m hm => by simp at hm⟩, Lib.hid AppR.nil, bG2, bR2, D2⟩
  case round =>
    clear D2 bG2 bR2 hit'
    obtain ⟨iv, A, c, l, d, rfl, hiv, HB, HA, HG, HR, HD⟩ := hrel
    by_cases h0 : 0 < iv
    · have hwr : IntKind.i64.wrap (iv - 1) = iv - 1 := IntWalk.i64_in _ (by omega)
      have hbg : b < w.heap.size + 2 := by omega
      obtain ⟨N, hN⟩ : ∃ N, N = l.length := ⟨_, rfl⟩
      have HN := Lib.hid hN
      rw [← hN] at HA HG
      clear hN
      obtain ⟨x1, x2, x3⟩ := blk_cells HG.out
      have p0 := x1 0
      have p1 := x1 1
      simp at p0 p1
      clear x1
      go_wp2_with fail
      refine C.wp_region_chain (R := relC b) 4 (by kernel_rfl) (by kernel_rfl) ?_
      simp only [List.take_succ_cons, List.take_zero, List.drop_succ_cons, List.drop_zero]
      · apply C.Chain.quiet (R := relC b)
        · intro vs wq hEq hd
          have b5 := XC.blk hEq HG.out (by omega)
          obtain ⟨c1, c2, c3⟩ := blk_cells b5
          have e0 := c1 0
          have e1 := c1 1
          simp at e0 e1
          clear b5 c1 hEq hd
          (try simp only [Act.put, C.SP.pick, C.SP.is, SPC.val, SPC.ints, SPC.msg, SPC.que, id_eq, List.take_succ_cons, List.take_zero, List.drop_succ_cons, List.drop_zero, List.setIfInBounds_toArray, List.set_cons_zero, List.set_cons_succ])
          refine C.growOp_go (R := relC b) ?_
          go_simp
          exact ⟨C.Ext.refl (R := relC b) _, rfl⟩
        (apply C.Chain.quiet (R := relC b); · (intro vs wq hEq hd; clear hEq hd; (try simp only [Act.put, C.SP.pick, C.SP.is, SPC.val, SPC.ints, id_eq, List.take_succ_cons, List.take_zero, List.drop_succ_cons, List.drop_zero, List.setIfInBounds_toArray, List.set_cons_zero, List.set_cons_succ]); refine C.growOp_go (R := relC b) ?_; go_simp; exact ⟨C.Ext.refl (R := relC b) _, rfl⟩))
        refine C.Chain.sp (R := relC b) (SPC.msg b (w.heap.size + 2) hbg) ?_ ?_
        · intro vs wq hEq hd
          have hC := Lib.hid (XC.cur hEq HD.out.2)
          have hz := XC.size hEq
          have hz2 : w.heap.size + 2 ≤ wq.heap.size := by have := heap_lt HG.out; omega
          clear hd hEq
          (try simp only [Act.put, C.SP.pick, C.SP.is, SPC.val, SPC.ints, SPC.msg, SPC.que, id_eq, List.take_succ_cons, List.take_zero, List.drop_succ_cons, List.drop_zero, List.setIfInBounds_toArray, List.set_cons_zero, List.set_cons_succ])
          refine C.growOp_go (R := relC b) ?_
          go_simp
          refine (sMsg17 _ _ hC.out).mono ?_
          rintro e w6 ⟨ta, ct, dl, g, Am, cm, bl, rfl, hI, hbb, hbl, hNB, hD⟩
          exact ⟨_, rfl, XC.of_drawn hD, ta, ct, dl, g, Am, cm, bl, rfl, ⟨hbb, hbl⟩, hNB.mono hz2⟩
        refine C.Chain.sp (R := relC b) (SPC.que b (w.heap.size + 2) (14 - iv + 1) hbg) ?_ ?_
        · intro vs wq hEq hd
          obtain ⟨ta, ct, dl, g, Am, cm, bl, e7, hP, hNB⟩ := hd 2 (by kernel_rfl)
          have HP := Lib.hid hP
          have HNB := Lib.hid hNB
          have HAq := Lib.hid (HA.out.chg (XC.chg hEq) (fun y hy _ h => by omega))
          have hz := XC.size hEq
          have hz2 : w.heap.size + 2 ≤ wq.heap.size := by have := heap_lt HG.out; omega
          clear hd hEq hP hNB
          simp only [Act.put, C.SP.pick, C.SP.is, SPC.val, SPC.ints, SPC.msg, SPC.que, id_eq, List.take_succ_cons, List.take_zero, List.drop_succ_cons, List.drop_zero, List.setIfInBounds_toArray, List.set_cons_zero, List.set_cons_succ]
          rw [e7]
          refine C.growOp_go (R := relC b) ?_
          clear e7
          go_simp
          obtain ⟨A', c', hv, -, -, hO, -⟩ := HAq.out.own
          injection hv with q1 q2 q3
          subst q1 q3
          refine (sEnqA _ _ N c d l ⟨ta, ct, dl, bl⟩ _ _ HN.out.symm hO.els (fun m hm => by have := (HB.out.2.2 m hm).2; omega) (by have := HB.out.1; have := HN.out; omega) HNB.out.rb (Nat.le_trans HP.out.2 (by omega))).mono ?_
          rintro e w6 ⟨A', c', rfl, h6, hA6⟩
          exact ⟨_, rfl, XC.of_ext h6, A', c', _, _, rfl, HB.out.enq HP.out (by omega), hA6.weak hz2 (fun _ h => h)⟩
        refine C.Chain.done (R := relC b) ?_
        intro vs w6 hE6 hd6
        simp only [Act.put, C.SP.pick, C.SP.is, SPC.val, SPC.ints, SPC.msg, SPC.que, id_eq, List.take_succ_cons, List.take_zero, List.drop_succ_cons, List.drop_zero, List.setIfInBounds_toArray, List.set_cons_zero, List.set_cons_succ]
        obtain ⟨A', c', l', d', e3, hB', hA'⟩ := hd6 3
        rw [e3]
        have D6 := Lib.hid (Drawn.trans HD.out (XC.drawn hE6 HD.out.2))
        have bG6 := Lib.hid (XC.blk hE6 HG.out (by omega))
        have bR6 := Lib.hid (XC.blk hE6 HR.out (by omega))
        have HB' := Lib.hid hB'
        have HA' := Lib.hid hA'
        clear hd6 hE6 e3 hB' hA' HB HA HG HR HD p0 p1 x2 x3
        obtain ⟨x1, x2, x3⟩ := blk_cells bG6.out
        have p0 := x1 0
        have p1 := x1 1
        simp at p0 p1
        clear x1
        go_wp2_with fail
        go_roundw
        case rel =>
          refine ⟨iv - 1, A', c', l', d', rfl, ⟨by omega, by omega⟩, Lib.hid (by have h := HB'.out; rw [show 14 - (iv - 1) = 14 - iv + 1 by omega]; exact h), Lib.hid ?_, Lib.hid ?_, Lib.hid ?_, Lib.hid ?_⟩
          · iterate 2 refine AppR.setb ?_ (by simp) _
            exact HA'.out
          · have h := blk_set (blk_set bG6.out 0 (.slice A' l'.length c')) 1 (.int .i64 d')
            simpa using h
          · iterate 2 refine set_blk ?_ (by simp)
            exact bR6.out
          · iterate 2 refine Drawn.set_ ?_ (by simp) (by simp; omega) _
            exact D6.out
        case measure => simp [intOf]; omega
    · have hbg : b < w.heap.size + 2 := by omega
      obtain ⟨N, hN⟩ : ∃ N, N = l.length := ⟨_, rfl⟩
      have HN := Lib.hid hN
      rw [← hN] at HA HG
      clear hN
      obtain ⟨x1, x2, x3⟩ := blk_cells HG.out
      have p0 := x1 0
      have p1 := x1 1
      simp at p0 p1
      clear x1
      go_wp2_with fail
      refine (sBelow _ _ _ HD.out.2 (by decide)).mono ?_
      rintro e w5 ⟨k, rfl, hk, hD⟩
      have D5 := Lib.hid (HD.out.trans hD)
      have HA5 := Lib.hid (HA.out.chg hD.1 (fun y hy _ h => by omega))
      have bG5 := Lib.hid (hD.blk HG.out (by omega))
      have bR5 := Lib.hid (hD.blk HR.out (by omega))
      have HQ := Lib.hid (show l.length ≤ 12 ∧ (0 ≤ d ∧ d ≤ 14) ∧ ∀ m ∈ l, MsgP m from ⟨HB.out.1, by have := HB.out.2.1; omega, HB.out.2.2⟩)
      clear hD HB HA HG HR HD p0 p1 x2 x3
      obtain ⟨x1, x2, x3⟩ := blk_cells bG5.out
      have p0 := x1 0
      have p1 := x1 1
      simp at p0 p1
      clear x1
      obtain ⟨y1, y2, y3⟩ := blk_cells bR5.out
      have q0 := y1 0
      have q1 := y1 1
      simp at q0 q1
      clear y1
      by_cases k0 : k = 0
      · subst k0
        go_wp2_with fail
        refine bodyPost_ret (v := .agg #[.slice A N c, .int .i64 (-1)]) (by clear D5 HA5 bG5 bR5 HQ HN; simp [results, Try.results132, go_sem, *]) rfl ⟨A, c, l, -1, by rw [HN.out], ⟨by have := HQ.out.1; omega, ⟨by decide, by decide⟩, HQ.out.2.2⟩, ?_, ?_⟩
        · refine AppR.weak (B := w.heap.size + 2) (X := fun _ => False) ?_ (by omega) (fun _ h => h)
          iterate 3 refine AppR.setb ?_ (by simp <;> omega) _
          rw [← HN.out]
          exact HA5.out
        · iterate 3 refine Drawn.set_ ?_ (by simp <;> omega) (by simp <;> omega) _
          exact D5.out
      have hwz5 : w.heap.size + 1 < w5.heap.size := heap_lt bG5.out
      by_cases k1 : k = 1
      · subst k1
        go_upto_region 10 with fail
        go_region_law (first | (go_simp; go_at_call 133; refine (sMsg17 _ _ (D5.out.2.ext (by repeat (first | exact Ext.refl _ | refine Ext.drew ?_)))).mono ?_; rintro e w6 ⟨ta, ct, dl, g, Am, cm, bl, rfl, hI, hbb, hbl, hNB, hD6⟩; have X6 := (Drawn.of_ext D5.out.2 (by repeat (first | exact Ext.refl _ | refine Ext.drew ?_))).trans hD6; have D6 := Lib.hid (D5.out.trans X6); have hB := X6.blk bG5.out (by omega); have hB2 := X6.blk bR5.out (by omega); have bG6 := Lib.hid hB; have bR6 := Lib.hid hB2; have HA6 := Lib.hid (HA5.out.chg X6.1 (fun y hy _ h => by omega)); have HC6 := Lib.hid X6.1; have NB6 := Lib.hid (hNB.mono (B' := w5.heap.size) (by first | exact Nat.le_refl _ | simp)); have hz6 := Lib.hid X6.1.size; have hP6 := Lib.hid (show MsgP ⟨ta, ct, dl, bl⟩ from ⟨hbb, hbl⟩); clear hI hbb hbl hNB hD6 X6; obtain ⟨s1, s2, s3⟩ := blk_cells hB; have i0 := s1 0; have i1 := s1 1; simp at i0 i1; clear s1 hB; obtain ⟨t1, t2, t3⟩ := blk_cells hB2; have j0 := t1 0; have j1 := t1 1; simp at j0 j1; clear t1 hB2) | (refine step_pushC (K := kMsg) (.tmp 25) (.tmp 28) elMsg rfl rfl (w.heap.size + 2) (.slice A N c) l rfl HA5.out (S' := fun y => y = b) (HC6.out.trans (Chg.of_ext _ (Ext.alloc_ w6 _))) (fun y hy h => by omega) _ _ ⟨ta, ct, dl, bl⟩ g Am cm rfl (cel_blk2 (cs := #[.int .i64 ta, .int .i64 ct, .int .i64 dl, .slice Am bl.length cm]) (T := 59) (new_blk1 w6 _ _)) (by simp) (msg_one _ _ _ _) (((NB6.out.mono (by omega)).el (K := kMsg) (x := ⟨ta, ct, dl, bl⟩)).ext (Ext.alloc_ _ _)) NB6.out.2.2.1 (fun x hx => hx.elim) (by have := HQ.out.1; unfold maxLen; omega) (by have := HQ.out.1; omega) (by have := hz6.out; simp; omega) ?_; intro v' w7 hA' hc'; have D7 := Lib.hid ((D6.out.ext (Ext.alloc_ w6 _)).chgd hc' (by omega) (by omega)); have hB7 := chg_blk hc' (ext_blk (Ext.alloc_ w6 _) bG6.out) (by omega); have hR7 := chg_blk hc' (ext_blk (Ext.alloc_ w6 _) bR6.out) (by omega); obtain ⟨L1, hL1⟩ : ∃ L1, L1 = l ++ [(⟨ta, ct, dl, bl⟩ : Msg)] := ⟨_, rfl⟩; rw [← hL1] at hA'; have HL1 := Lib.hid hL1; have HA7 := Lib.hid hA'; obtain ⟨A7, c7, hv, -, -, -, -⟩ := hA'.own; subst hv; clear hA' hc' hL1; obtain ⟨s1, s2, s3⟩ := blk_cells hB7; have i0 := s1 0; have i1 := s1 1; simp at i0 i1; clear s1 hB7; obtain ⟨t1, t2, t3⟩ := blk_cells hR7; have j0 := t1 0; have j1 := t1 1; simp at j0 j1; clear t1 hR7))
        all_goals go_wp2_with fail
        all_goals refine bodyPost_ret (v := .agg #[.slice A7 L1.length c7, .int .i64 d]) (by clear D5 HA5 bG5 bR5 HQ HN D6 bG6 bR6 HA6 HC6 NB6 hz6 hP6 D7 HL1 HA7; simp [results, Try.results132, go_sem, *]) rfl ⟨A7, c7, L1, d, rfl, ⟨by rw [HL1.out]; have := HQ.out.1; simp; omega, by have := HQ.out.2.1; omega, fun m hm => by rw [HL1.out] at hm; rcases List.mem_append.1 hm with h | h; exact HQ.out.2.2 m h; simp at h; subst h; exact hP6.out⟩, ?_, ?_⟩
        all_goals first
          | exact AppR.weak (B := w.heap.size + 2) (X := fun _ => False) (AppR.setb (AppR.setb (AppR.setb HA7.out (Nat.lt_succ_self _) _) (Nat.lt_succ_of_lt (Nat.lt_succ_self _)) _) (Nat.lt_succ_of_lt (Nat.lt_succ_self _)) _) (by omega) (fun _ h => h)
          | exact Drawn.set_ (Drawn.set_ (Drawn.set_ D7.out (Nat.le_succ _) (Nat.lt_succ_of_lt hlt) _) (Nat.le_refl _) hlt _) (Nat.le_refl _) hlt _
      go_wp2_with fail
      refine bodyPost_ret (v := .agg #[.slice A N c, .int .i64 d]) (by clear D5 HA5 bG5 bR5 HQ HN; simp [results, Try.results132, go_sem, *]) rfl ⟨A, c, l, d, by rw [HN.out], ⟨by have := HQ.out.1; omega, by have := HQ.out.2.1; omega, HQ.out.2.2⟩, ?_, ?_⟩
      · refine AppR.weak (B := w.heap.size + 2) (X := fun _ => False) ?_ (by omega) (fun _ h => h)
        iterate 2 refine AppR.setb ?_ (by simp <;> omega) _
        rw [← HN.out]
        exact HA5.out
      · iterate 2 refine Drawn.set_ ?_ (by simp <;> omega) (by simp <;> omega) _
        exact D5.out
end Go.Proofs.Ytkmklafjcjkpdaa
