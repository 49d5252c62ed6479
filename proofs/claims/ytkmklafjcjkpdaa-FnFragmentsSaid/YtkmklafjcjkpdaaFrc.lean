/- Fragments of a drawn frame. -/
import Derived.Test.YtkmklafjcjkpdaaFrgI
import Derived.Test.YtkmklafjcjkpdaaFrA
namespace Go.Proofs.Ytkmklafjcjkpdaa
open Go.RowKit
set_option linter.unusedVariables false
set_option linter.unusedSimpArgs false
set_option maxHeartbeats 1000000 in
theorem sBytesS (w : World) (b : Nat) (n : Int) (hC : Cur w b) (hn : 0 ≤ n ∧ n ≤ 1000) :
    Calls Try.prog 136 #[.pointer (some ⟨b, 0, none⟩), .int .i64 n] w fun e w' => ∃ (g G : Nat) (c : Nat) (l : List Int), e = .returned (.slice (some ⟨G, 0, none⟩) l.length c) ∧ (l.length : Int) = n ∧ (∀ x ∈ l, 0 ≤ x ∧ x ≤ 255) ∧ NewB w' w.heap.size g (some ⟨G, 0, none⟩) c l ∧ Drawn w w' b := by
  have hlt := hC.lt
  have hO := World.ownsRow_lit (size := 1) (e := 5) (base := w.heap.size) w #[] 0 (Nat.le_refl _) (by unfold maxLen; omega) (by simp)
  have hO0 := Lib.hid hO
  have D0 := Lib.hid (Drawn.of_ext hC (Ext.alloc_ w (.cells #[] 5)))
  clear hO hC
  go_enter Try.func136, Try.ntmps136
  go_wp2_with fail
  go_loopw [5, 6] (fun v i wr => ∃ l : List Int, (l.length : Int) ≤ n ∧ i = .int .i64 l.length ∧ Hid (∀ x ∈ l, 0 ≤ x ∧ x ≤ 255) ∧ Hid (wr.ownsRow w.heap.size 5 1 v l.length (l.map (Value.int .u8))) ∧ Hid (Drawn w wr b) ∧ v.ownBlock.isSome = true) (fun _ i _ => (n - intOf i).toNat)
  case atStart => exact ⟨[], by simpa using hn.1, rfl, Lib.hid (by simp), Lib.hid (by simpa using hO0.out), D0, rfl⟩
  case round =>
    clear hO0 D0
    obtain ⟨l, hk, rfl, hb, hO, hD, hS⟩ := hrel
    by_cases hlt' : (l.length : Int) < n
    · go_wp2_with fail
      refine (sByte _ _ hD.out.2).mono ?_
      rintro e w5 ⟨x, rfl, hx, h1, h2⟩
      have hw := u8_wrap hx
      have e5 := Ext.alloc_ w5 (.cells #[.int .u8 x] 5)
      have D5 := Lib.hid ((hD.out.trans ⟨h1, h2⟩).ext e5)
      have O5 := Lib.hid (Ext.own e5 (own_chg hO.out h1 (fun y hy hS => by omega)))
      have hB := Lib.hid (show ∀ y ∈ l ++ [x], 0 ≤ y ∧ y ≤ 255 by
        intro y hy
        rcases List.mem_append.1 hy with h | h
        · exact hb.out y h
        · simp at h
          subst h
          exact hx)
      have hL := Lib.hid (cel_lit w5 5 #[.int .u8 x])
      have hsz : w.heap.size ≤ w5.heap.size := Nat.le_trans hD.out.1.size h1.size
      clear h1 h2 hD hO hb e5 hx
      go_wp2_with (at_builtin; refine wpApp (.tmp 13) (.tmp 17) elByte rfl rfl w.heap.size _ _ _ rfl O5.out _ _ _ _ rfl hL.out (by simp) (fun h => by simp at h) (by simp [Value.oneCell']) (by unfold maxLen; omega) (by omega) (by simp <;> omega) ?_)
      intro v1 w6 hO1 hg1 hq
      have hS1 : v1.ownBlock.isSome = true := by rcases hq with h | h <;> rw [h]; exact hS; rfl
      clear hq
      have D6 := Lib.hid (Drawn.grown D5.out hg1 O5.out (Nat.le_refl _) hlt)
      have O6 := Lib.hid hO1
      clear hO1 hg1 O5 D5 hL
      go_wp2_with fail
      go_roundw
      case rel => exact ⟨l ++ [x], by simp; omega, by simp, hB, Lib.hid (by simpa using O6.out), D6, hS1⟩
      case measure => simp [intOf]; omega
    · obtain ⟨g, A, c, hv, hN⟩ := NewB.of_own hO.out hD.out.1.size
      obtain ⟨G, rfl⟩ : ∃ G, A = some ⟨G, 0, none⟩ := by
        rcases hO.out.2 with ⟨h1, _⟩ | ⟨G, cap, cur, h1, _⟩
        · rw [h1] at hS; cases hS
        · rw [h1] at hv
          injection hv with q1
          exact ⟨G, q1.symm⟩
      subst hv
      have HN := Lib.hid hN
      clear hN
      go_wp2_with fail
      go_ret
      exact ⟨g, G, c, l, rfl, by omega, hb.out, HN.out, hD.out⟩
theorem rb_pieceC {w : World} {g n cb lo hi : Nat} {l : List Int} (h : RB w (some ⟨g, 0, none⟩) cb l) (hn : l.length = n) (h1 : lo ≤ hi) (h2 : hi ≤ n) (hcb : n ≤ cb) : RB w (if cb = lo then some ⟨g, 0, none⟩ else some ⟨g, lo, none⟩) (cb - lo) ((l.drop lo).take (hi - lo)) := by
  refine ⟨?_, fun h => (by split at h <;> cases h), by simp; omega⟩
  by_cases h0 : cb = lo
  · refine .inl ?_
    have : hi - lo = 0 := by omega
    simp [this]
  · rw [if_neg h0]
    rcases h.1 with h3 | ⟨b, off, e1, e2, e3⟩
    · have : l = [] := by simpa using h3
      subst this
      exact .inl (by simp)
    · injection e1 with e1
      injection e1 with e4 e5
      subst e4 e5
      refine .inr ⟨g, lo, rfl, e2, fun j u hu => ?_⟩
      have hu' : (l.map (Value.int .u8))[lo + j]? = some u := by
        rw [List.map_take, List.map_drop] at hu
        rw [List.getElem?_take] at hu
        split at hu
        · rwa [List.getElem?_drop] at hu
        · cases hu
      have := e3 (lo + j) u hu'
      rwa [Nat.zero_add] at this
set_option maxHeartbeats 2000000 in
theorem iFrgsC (w : World) (kd fm to sq fr : Int) (mo re : Bool) (du : Int) (g n cb : Nat) (t : Int) (l : List Int) (hn : l.length = n) (hr : RB w (some ⟨g, 0, none⟩) cb l) (hl : n ≤ 1048576) :
    Calls Try.prog 82 #[.agg #[.int .i64 kd, .int .i64 fm, .int .i64 to, .int .i64 sq, .int .i64 fr, .bool mo, .bool re, .int .i64 du, .slice (some ⟨g, 0, none⟩) n cb], .int .i64 t] w fun e w' => ∃ A' c', e = .returned (.slice A' (frgL ⟨kd, fm, to, sq, fr, mo, re, du, l⟩ t).length c') ∧ Ext w w' ∧ Own kMac w' w.heap.size w'.heap.size A' (frgL ⟨kd, fm, to, sq, fr, mo, re, du, l⟩ t) := by
  have hR := Lib.hid (hr.ext (Ext.alloc_ w (.cells #[.int .i64 kd, .int .i64 fm, .int .i64 to, .int .i64 sq, .int .i64 fr, .bool mo, .bool re, .int .i64 du, .slice (some ⟨g, 0, none⟩) n cb] 66)))
  have b1 := Lib.hid (new_blk1 w #[.int .i64 kd, .int .i64 fm, .int .i64 to, .int .i64 sq, .int .i64 fr, .bool mo, .bool re, .int .i64 du, .slice (some ⟨g, 0, none⟩) n cb] 66)
  have E0 := Lib.hid (Ext.alloc_ w (.cells #[.int .i64 kd, .int .i64 fm, .int .i64 to, .int .i64 sq, .int .i64 fr, .bool mo, .bool re, .int .i64 du, .slice (some ⟨g, 0, none⟩) n cb] 66))
  have hn' := Lib.hid hn
  have hcb : n ≤ cb := by have := hr.2.2; omega
  clear hr hn
  rcases fragV_cases n t with hf | ⟨N, tn, hf, rfl, ht1, ht2, hN1, hN2, hnt, hkk⟩
  · obtain ⟨cs, hcs, hmk⟩ := make_cap elMac 0 (by omega) (by omega)
    simp only [show ((0 : Nat) : Int) = 0 from rfl] at hmk
    have hf' := Lib.hid hf
    have hFL := Lib.hid (show frgL ⟨kd, fm, to, sq, fr, mo, re, du, l⟩ t = [] by unfold frgL; simp only [hn'.out, hf]; rfl)
    clear hf
    go_enter Try.func82, Try.ntmps82
    go_wp2_with fail
    refine (iFrag _ _ _).mono ?_
    rintro e w' ⟨rfl, rfl⟩
    rw [hf'.out]
    go_wp2
    go_loopw [6, 7] (fun sv i wr => sv = .slice (some ⟨w.heap.size + 1, 0, none⟩) 0 0 ∧ i = .int .i64 0 ∧ wr = (w.alloc (.cells #[.int .i64 kd, .int .i64 fm, .int .i64 to, .int .i64 sq, .int .i64 fr, .bool mo, .bool re, .int .i64 du, .slice (some ⟨g, 0, none⟩) n cb] 66)).alloc (.cells cs 66)) (fun _ _ _ => 0)
    case atStart => exact ⟨rfl, rfl, rfl⟩
    case round =>
      obtain ⟨rfl, rfl, rfl⟩ := hrel
      go_wp2
      go_ret
      exact ⟨_, _, by rw [hFL.out]; rfl, Ext.trans (Ext.alloc_ _ _) (Ext.alloc_ _ _), by rw [hFL.out]; exact .inl rfl⟩
  · obtain ⟨cs, hcs, hmk⟩ := make_cap elMac N (by omega) (by omega)
    have hA0 := Lib.hid (AppR.made (K := kMac) (T := 66) (w := w.alloc (.cells #[.int .i64 kd, .int .i64 fm, .int .i64 to, .int .i64 sq, .int .i64 fr, .bool mo, .bool re, .int .i64 du, .slice (some ⟨g, 0, none⟩) n cb] 66)) (B := w.heap.size + 1) (X := fun _ => False) (cap := N) (cs := cs) (by simp) (fun h => h) (by unfold maxLen; omega) hcs)
    simp only [World.size_alloc] at hA0
    clear hcs
    have hf' := Lib.hid hf
    have hkk' := Lib.hid hkk
    clear hf hkk
    go_enter Try.func82, Try.ntmps82
    go_wp2_with fail
    refine (iFrag _ _ _).mono ?_
    rintro e w' ⟨rfl, rfl⟩
    rw [hf'.out]
    go_wp2
    go_loopw [6, 7] (fun sv i wr => ∃ (k : Nat) (v : Value), k ≤ N ∧ i = .int .i64 k ∧ v = sv ∧ Hid (Ext (w.alloc (.cells #[.int .i64 kd, .int .i64 fm, .int .i64 to, .int .i64 sq, .int .i64 fr, .bool mo, .bool re, .int .i64 du, .slice (some ⟨g, 0, none⟩) n cb] 66)) wr) ∧ Hid (AppR kMac 66 wr (w.heap.size + 1) (fun _ => False) v ((List.range k).map (frgAt ⟨kd, fm, to, sq, fr, mo, re, du, l⟩ N tn)))) (fun _ i _ => N - (intOf i).toNat)
    case atStart => exact ⟨0, _, Nat.zero_le _, rfl, rfl, Lib.hid (Ext.alloc_ _ _), hA0⟩
    case round =>
      obtain ⟨k, v, hk, rfl, rfl, hE, hA⟩ := hrel
      clear hA0 hmk
      by_cases hlt : k < N
      · obtain ⟨x1, x2, x3⟩ := blk_cells (ext_blk hE.out b1.out)
        obtain ⟨hlo, hlo2⟩ := hkk'.out k hlt
        obtain ⟨lo, hloq⟩ : ∃ lo, lo = k * tn := ⟨_, rfl⟩
        obtain ⟨hi, hhiq⟩ : ∃ hi, hi = min ((k + 1) * tn) n := ⟨_, rfl⟩
        have q1 : (k : Int) * (tn : Int) = (lo : Int) := by rw [hloq, Int.natCast_mul]
        have hs1 : (k + 1) * tn = lo + tn := by rw [hloq, Nat.succ_mul]
        obtain ⟨hj, hjq⟩ : ∃ hj, hj = lo + tn := ⟨_, rfl⟩
        have q2 : ((k : Int) + 1) * (tn : Int) = (hj : Int) := by rw [hjq, hloq, Int.add_mul, Int.natCast_add, Int.natCast_mul]; omega
        have q3 : min (hj : Int) (n : Int) = (hi : Int) := by rw [hhiq, hs1, hjq]; omega
        have hj1 : hj ≤ 1048676 := by omega
        have w1 : IntKind.i64.wrap (lo : Int) = (lo : Int) := by rw [IntKind.wrap_i64]; omega
        have w2 : IntKind.i64.wrap ((k : Int) + 1) = (k : Int) + 1 := by rw [IntKind.wrap_i64]; omega
        have w3 : IntKind.i64.wrap (hj : Int) = (hj : Int) := by rw [IntKind.wrap_i64]; omega
        have hlo1 : lo ≤ n := by rw [hloq]; exact hlo
        have hhi1 : lo ≤ hi := by rw [hhiq, hs1]; omega
        have hhi2 : hi ≤ n := by rw [hhiq]; omega
        have hhi3 : hi ≤ cb := by omega
        have hP := Lib.hid (show frgAt ⟨kd, fm, to, sq, fr, mo, re, du, l⟩ N tn k = ⟨kd, fm, to, sq, k, decide ((k : Int) < (N : Int) - 1), re, du, (l.drop lo).take (hi - lo)⟩ by unfold frgAt; rw [hn'.out, hloq, hhiq])
        clear hlo hlo2 hloq hhiq hs1 hjq
        obtain ⟨pc, hpc⟩ : ∃ pc, pc = (l.drop lo).take (hi - lo) := ⟨_, rfl⟩
        obtain ⟨pn, hpn⟩ : ∃ pn, pn = hi - lo := ⟨_, rfl⟩
        obtain ⟨PA, hPA0⟩ : ∃ PA : Option Addr, (if cb = lo then some ⟨g, 0, none⟩ else some ⟨g, lo, none⟩) = PA := ⟨_, rfl⟩
        have PR := Lib.hid (show RB wr PA (cb - lo) pc by rw [hpc, ← hPA0]; exact rb_pieceC (hR.out.ext hE.out) hn'.out hhi1 hhi2 hcb)
        have hPA := Lib.hid hPA0
        clear hPA0
        have PL := Lib.hid (show pc.length = hi - lo by rw [hpc]; simp; have := hn'.out; omega)
        rw [← hpc] at hP
        clear hpc hpn
        go_wp2_with fail
        refine wp_region_chain 15 (by kernel_rfl) (by kernel_rfl) ?_
        simp only [List.take_succ_cons, List.take_zero, List.drop_succ_cons, List.drop_zero]
        repeat (apply Chain.quiet; · (intro vs wq hEq hd; obtain ⟨hcq, hfq⟩ := bcell hEq; clear hEq hd; (try simp only [Act.put, SP.pick, SP.is, SP.box, id_eq, List.take_succ_cons, List.take_zero, List.drop_succ_cons, List.drop_zero, List.setIfInBounds_toArray, List.set_cons_zero, List.set_cons_succ]); refine growOp_go ?_; go_simp; exact ⟨Ext.refl _, rfl⟩))
        apply Chain.quiet
        · intro vs wq hEq hd
          clear hd
          (try simp only [Act.put, SP.pick, SP.is, SP.box, id_eq, List.take_succ_cons, List.take_zero, List.drop_succ_cons, List.drop_zero, List.setIfInBounds_toArray, List.set_cons_zero, List.set_cons_succ])
          refine growOp_go ?_
          go_simp
          refine (iMin _ _ _).mono ?_
          rintro e w7 ⟨rfl, rfl⟩
          rw [q3]
          first | exact ⟨rfl, Ext.refl _⟩ | exact ⟨_, rfl, Ext.refl _, rfl⟩
        refine Chain.quiet (V := .slice PA (hi - lo) (cb - lo)) ?_ ?_
        · intro vs wq hEq hd
          clear hEq hd
          (try simp only [Act.put, SP.pick, SP.is, SP.box, id_eq, List.take_succ_cons, List.take_zero, List.drop_succ_cons, List.drop_zero, List.setIfInBounds_toArray, List.set_cons_zero, List.set_cons_succ])
          refine growOp_go ?_
          go_simp
          exact ⟨Ext.refl _, by rw [hPA.out]⟩
        refine Chain.sp (SP.newBn (wr.heap.size + 1) (hi - lo) pc) ?_ ?_
        · intro vs wq hEq hd
          clear hd
          (try simp only [Act.put, SP.pick, SP.is, SP.box, id_eq, List.take_succ_cons, List.take_zero, List.drop_succ_cons, List.drop_zero, List.setIfInBounds_toArray, List.set_cons_zero, List.set_cons_succ])
          refine growOp_go ?_
          go_simp
          refine (iCopyB _ _ _ _ pc PL.out (PR.out.ext (Ext.trans (Ext.alloc_ _ _) hEq)) (by omega)).mono ?_
          rintro e w6 ⟨g6, A6, c6, rfl, hE6, hN6⟩
          exact ⟨_, rfl, hE6, g6, A6, c6, rfl, hN6.mono (by have := hEq.size; simpa using this)⟩
        refine Chain.done ?_
        intro vs w5 hE5 hd5
        simp only [Act.put, SP.pick, SP.is, SP.box, id_eq, List.take_succ_cons, List.take_zero, List.drop_succ_cons, List.drop_zero, List.setIfInBounds_toArray, List.set_cons_zero, List.set_cons_succ]
        obtain ⟨g9, A9, c9, e9, N9⟩ := hd5 14
        rw [e9]
        simp only [SP.newBn, id_eq]
        obtain ⟨y1, y2, y3⟩ := blk_cells (ext_blk hE5 (new_blk1 wr _ _))
        have r0 := y1 0
        have r1 := y1 1
        have r2 := y1 2
        have r3 := y1 3
        have r4 := y1 4
        have r5 := y1 5
        have r6 := y1 6
        have r7 := y1 7
        have r8 := y1 8
        simp at r0 r1 r2 r3 r4 r5 r6 r7 r8
        have F5 := Lib.hid ((Ext.trans (Ext.alloc_ _ _) hE5).setCell_ (p := ⟨wr.heap.size, 8, none⟩) (Nat.le_refl _) (.slice A9 (hi - lo) c9))
        have N6 := Lib.hid (show NewB (w5.setCell ⟨wr.heap.size, 8, none⟩ (.slice A9 (hi - lo) c9)) (w.heap.size + 1) g9 A9 c9 pc from ⟨N9.1, N9.2.1, by have h1 := N9.2.2.1; have h2 := hE.out.size; simp at h2; omega, N9.2.2.2.imp_right fun ⟨a, b, cs, T, d, e⟩ => ⟨a, by simpa using b, cs, T, by rw [Below.heap_setCell _ _ _ _ (by have := N9.2.2.1; simp; omega)]; exact d, e⟩⟩)
        have hL := Lib.hid (cel_lit (w5.setCell ⟨wr.heap.size, 8, none⟩ (.slice A9 (hi - lo) c9)) 66 #[.int .i64 kd, .int .i64 fm, .int .i64 to, .int .i64 sq, .int .i64 (k : Int), .bool (decide ((k : Int) < (N : Int) - 1)), .bool re, .int .i64 du, .slice A9 (hi - lo) c9])
        rw [World.size_setCell] at hL
        have hG := Lib.hid (Ext.trans F5.out (Ext.alloc_ _ (.cells #[.int .i64 kd, .int .i64 fm, .int .i64 to, .int .i64 sq, .int .i64 (k : Int), .bool (decide ((k : Int) < (N : Int) - 1)), .bool re, .int .i64 du, .slice A9 (hi - lo) c9] 66)))
        have hel := Lib.hid ((N6.out.el (K := kMac) (x := (⟨kd, fm, to, sq, (k : Int), decide ((k : Int) < (N : Int) - 1), re, du, pc⟩ : Mac))).ext (Ext.alloc_ _ (.cells #[.int .i64 kd, .int .i64 fm, .int .i64 to, .int .i64 sq, .int .i64 (k : Int), .bool (decide ((k : Int) < (N : Int) - 1)), .bool re, .int .i64 du, .slice A9 (hi - lo) c9] 66)))
        have hgg := Lib.hid (show wr.heap.size ≤ g9 by have := N9.2.2.1; omega)
        have hone := Lib.hid (mac_one (⟨kd, fm, to, sq, (k : Int), decide ((k : Int) < (N : Int) - 1), re, du, pc⟩ : Mac) A9 (hi - lo) c9)
        have hsz := Lib.hid (show w.heap.size + 1 ≤ w5.heap.size ∧ w.heap.size + 1 ≤ wr.heap.size by have h1 := hE.out.size; have h2 := hE5.size; simp at h1 h2; omega)
        have hLL := Lib.hid (show Cel _ _ (kMac.hd (⟨kd, fm, to, sq, (k : Int), decide ((k : Int) < (N : Int) - 1), re, du, pc⟩ : Mac) (.slice A9 (kMac.bd (⟨kd, fm, to, sq, (k : Int), decide ((k : Int) < (N : Int) - 1), re, du, pc⟩ : Mac)).length c9)) from by
          have h := hL.out
          simp only [kMac, PL.out]
          exact h)
        clear hd5 e9 hE5 y1 x1 x2 x3
        go_wp2_with (at_builtin; refine wpPush (K := kMac) (.tmp 45) (.tmp 47) elMac rfl rfl (w.heap.size + 1) (w1 := w.alloc (.cells #[.int .i64 kd, .int .i64 fm, .int .i64 to, .int .i64 sq, .int .i64 fr, .bool mo, .bool re, .int .i64 du, .slice (some ⟨g, 0, none⟩) n cb] 66)) v ((List.range k).map (frgAt ⟨kd, fm, to, sq, fr, mo, re, du, l⟩ N tn)) rfl hA.out hG.out _ _ (⟨kd, fm, to, sq, (k : Int), decide ((k : Int) < (N : Int) - 1), re, du, pc⟩ : Mac) g9 A9 c9 rfl hLL.out (by simp) (by have h := hone.out; simp only [kMac, PL.out]; exact h) hel.out hgg.out (fun x hx => hx.elim) (by simp; unfold maxLen; omega) (by simp; omega) (by have := hsz.out; simp; omega) (Ext.trans hE.out hG.out) (by simp) ?_)
        intro v' w' hA' hE'
        have K1 := Lib.hid hE'
        have A1 := Lib.hid hA'
        clear hL hG hel hone hE' hA' hgg hsz hLL N6 F5 r0 r1 r2 r3 r4 r5 r6 r7 r8 PR PL y2 y3
        go_wp2
        go_roundw
        case rel => exact ⟨k + 1, _, by omega, by go_num, rfl, K1, Lib.hid (by
          rw [List.range_succ, List.map_append, List.map_cons, List.map_nil, hP.out]
          exact A1.out)⟩
        case measure => simp [intOf]; omega
      · obtain rfl : k = N := by omega
        obtain ⟨A', c', rfl, -, -, hO, -⟩ := hA.out.own
        have hO' := Lib.hid (hO.mono (B' := w.heap.size) (by omega) (Nat.le_refl _))
        have hFL := Lib.hid (show frgL ⟨kd, fm, to, sq, fr, mo, re, du, l⟩ (tn : Int) = (List.range k).map (frgAt ⟨kd, fm, to, sq, fr, mo, re, du, l⟩ k tn) by unfold frgL; simp only [hn'.out, hf'.out, Int.toNat_natCast])
        clear hA hO
        go_wp2
        go_ret
        exact ⟨A', c', by rw [hFL.out]; first | done | rfl | simp, Ext.trans E0.out hE.out, by rw [hFL.out]; exact hO'.out⟩
end Go.Proofs.Ytkmklafjcjkpdaa
