/- Fragments: both sides make the same row of frames. -/
import Derived.Test.YtcjppmihmfcagaaMacS
import Derived.Test.YtcjppmihmfcagaaSt
import Derived.Test.YtcjppmihmfcagaaG5
namespace Go.Proofs.Ytcjppmihmfcagaa
open Go.RowKit
set_option linter.unusedVariables false
set_option linter.unusedSimpArgs false

def frgAt (m : Mac) (N : Int) (t : Nat) (i : Nat) : Mac := { m with fr := i, mo := decide ((i : Int) < N - 1), body := (m.body.drop (i * t)).take (min ((i + 1) * t) m.body.length - i * t) }
def frgL (m : Mac) (t : Int) : List Mac := (List.range (fragV m.body.length t).toNat).map (frgAt m (fragV m.body.length t) t.toNat)
/-- How many fragments: none, or their places lie in the body. -/
theorem fragV_cases (b : Nat) (t : Int) : (fragV b t = 0) ∨ (∃ N tn : Nat, fragV b t = N ∧ t = tn ∧ 1 ≤ tn ∧ tn ≤ 100 ∧ 1 ≤ N ∧ N ≤ 16 ∧ b ≤ 16 * tn ∧ ∀ k, k < N → k * tn ≤ b ∧ (b = 0 ∨ k * tn < b)) := by
  by_cases h2 : inB t 1 100 = true
  · have hb := inB_true h2
    by_cases h3 : 16 * t < b
    · exact .inl (by simp [fragV, h3])
    · refine .inr ?_
      obtain ⟨tn, rfl⟩ : ∃ tn : Nat, t = tn := ⟨t.toNat, by omega⟩
      by_cases h4 : (b : Int) = 0
      · refine ⟨1, tn, ?_, rfl, by omega, by omega, by omega, by omega, by omega, fun k hk => ?_⟩
        · simp [fragV, h2, h4]; omega
        · have : k = 0 := by omega
          subst this
          simp
          omega
      · have e1 : fragV b tn = ((b : Int) + tn - 1) / tn := by
          simp [fragV, h2, h4]
          omega
        have hd := div_bd (b := b) (t := tn) (by omega) (by omega) (by omega)
        refine ⟨(((b : Int) + tn - 1) / tn).toNat, tn, by rw [e1]; omega, rfl, by omega, by omega, by omega, by omega, by omega, fun k hk => ?_⟩
        have hk' : (k : Int) + 1 ≤ ((b : Int) + tn - 1) / tn := by omega
        have h5 := (Int.le_ediv_iff_mul_le (by omega : (0 : Int) < tn)).1 hk'
        have h6 : ((k : Int) + 1) * tn = k * tn + tn := by rw [Int.add_mul]; omega
        have h7 : ((k * tn : Nat) : Int) = (k : Int) * tn := by rw [Int.natCast_mul]
        omega
  · exact .inl (by simp [fragV, show inB t 1 100 = false by simpa using h2])
theorem frgL_len (m : Mac) (t : Int) : (frgL m t).length = (fragV m.body.length t).toNat := by simp [frgL]
def SP.newBn (B n : Nat) (l : List Int) : SP :=
  { p := fun v w => ∃ g A c, v = .slice A n c ∧ NewB w B g A c l
    st := fun v w w' hE ⟨g, A, c, h1, h2⟩ => ⟨g, A, c, h1, h2.ext hE⟩ }
theorem rb_piece {w : World} {g n lo hi : Nat} {l : List Int} (h : RB w (some ⟨g, 0, none⟩) n l) (hn : l.length = n) (h1 : lo ≤ hi) (h2 : hi ≤ n) : RB w (if n = lo then some ⟨g, 0, none⟩ else some ⟨g, lo, none⟩) (n - lo) ((l.drop lo).take (hi - lo)) := by
  refine ⟨?_, fun h => (by split at h <;> cases h), by simp; omega⟩
  by_cases h0 : n = lo
  · refine .inl ?_
    have : hi - lo = 0 := by omega
    simp [this]
  · rw [if_neg h0]
    rcases h.1 with h3 | ⟨b, off, e1, e2, e3⟩
    · have : l = [] := by simpa using h3
      subst this
      exact .inl (by simp)
    · injection e1 with e1
      injection e1 with e4 e5
      subst e4 e5
      refine .inr ⟨g, lo, rfl, e2, fun j u hu => ?_⟩
      have hu' : (l.map (Value.int .u8))[lo + j]? = some u := by
        rw [List.map_take, List.map_drop] at hu
        rw [List.getElem?_take] at hu
        split at hu
        · rwa [List.getElem?_drop] at hu
        · cases hu
      have := e3 (lo + j) u hu'
      rwa [Nat.zero_add] at this
/-- make([]T, 0, n): a new block. -/
theorem make_cap {P : Program} {t e : TypeId} {size bytes : Nat} (hT : ElemTy P t e size bytes) (n : Nat) (hn : bytes * n ≤ 281474976710656) (h63 : n ≤ 9223372036854775807) :
    ∃ cs : Array Value, cs.size = n * size ∧ ∀ W : World, (Instr.makeSlice t (.int .i64 0) (.int .i64 (n : Int))).run P W = .ok (.slice (some ⟨W.heap.size, 0, none⟩) 0 n) (W.alloc (.cells cs e)) := by
  obtain ⟨i, z, hi, hz, hs, hb, _⟩ := hT.info
  have hbn : (i.bytes : Int) * (n : Int) ≤ 281474976710656 := by
    rw [hb]
    have h0 : ((bytes * n : Nat) : Int) ≤ 281474976710656 := by omega
    rwa [Int.natCast_mul] at h0
  refine ⟨madeCells z.cells (n * size), size_madeCells _ _, fun W => ?_⟩
  have h := run_make (P := P) W t e i _ hT.und hi hz .i64 .i64 0 (n : Int) (by omega) (by omega) hbn (by omega)
  rw [h, hs, Int.toNat_natCast]
  rfl
set_option maxHeartbeats 2000000 in
theorem sFrgs (w : World) (kd fm to sq fr : Int) (mo re : Bool) (du : Int) (g n : Nat) (t : Int) (l : List Int) (hn : l.length = n) (hr : RB w (some ⟨g, 0, none⟩) n l) (hl : n ≤ 1048576) :
    Calls Try.prog 58 #[.agg #[.int .i64 kd, .int .i64 fm, .int .i64 to, .int .i64 sq, .int .i64 fr, .bool mo, .bool re, .int .i64 du, .slice (some ⟨g, 0, none⟩) n n], .int .i64 t] w fun e w' => ∃ A' c', e = .returned (.slice A' (frgL ⟨kd, fm, to, sq, fr, mo, re, du, l⟩ t).length c') ∧ Ext w w' ∧ Own kMac w' w.heap.size w'.heap.size A' (frgL ⟨kd, fm, to, sq, fr, mo, re, du, l⟩ t) := by
  have hR := Lib.hid (hr.ext (Ext.alloc_ w (.cells #[.int .i64 kd, .int .i64 fm, .int .i64 to, .int .i64 sq, .int .i64 fr, .bool mo, .bool re, .int .i64 du, .slice (some ⟨g, 0, none⟩) n n] 33)))
  have b1 := Lib.hid (new_blk1 w #[.int .i64 kd, .int .i64 fm, .int .i64 to, .int .i64 sq, .int .i64 fr, .bool mo, .bool re, .int .i64 du, .slice (some ⟨g, 0, none⟩) n n] 33)
  have E0 := Lib.hid (Ext.alloc_ w (.cells #[.int .i64 kd, .int .i64 fm, .int .i64 to, .int .i64 sq, .int .i64 fr, .bool mo, .bool re, .int .i64 du, .slice (some ⟨g, 0, none⟩) n n] 33))
  have hn' := Lib.hid hn
  have hA0 := Lib.hid (AppR.lit0 (K := kMac) (T := 33) (w := w.alloc (.cells #[.int .i64 kd, .int .i64 fm, .int .i64 to, .int .i64 sq, .int .i64 fr, .bool mo, .bool re, .int .i64 du, .slice (some ⟨g, 0, none⟩) n n] 33)) (B := w.heap.size + 1) (X := fun _ => False) (by simp) (fun h => h))
  simp only [World.size_alloc] at hA0
  clear hr hn
  rcases fragV_cases n t with hf | ⟨N, tn, hf, rfl, ht1, ht2, hN1, hN2, hnt, hkk⟩
  · have hf' := Lib.hid hf
    have hFL := Lib.hid (show frgL ⟨kd, fm, to, sq, fr, mo, re, du, l⟩ t = [] by unfold frgL; simp only [hn'.out, hf]; rfl)
    clear hf
    go_enter Try.func58, Try.ntmps58
    go_wp2_with fail
    refine (sFrag _ _ _).mono ?_
    rintro e w' ⟨rfl, rfl⟩
    rw [hf'.out]
    go_wp2
    go_loopw [5, 7] (fun sv i wr => sv = .slice (some ⟨w.heap.size + 1, 0, none⟩) 0 0 ∧ i = .int .i64 0 ∧ wr = (w.alloc (.cells #[.int .i64 kd, .int .i64 fm, .int .i64 to, .int .i64 sq, .int .i64 fr, .bool mo, .bool re, .int .i64 du, .slice (some ⟨g, 0, none⟩) n n] 33)).alloc (.cells #[] 33)) (fun _ _ _ => 0)
    case atStart => exact ⟨rfl, rfl, rfl⟩
    case round =>
      obtain ⟨rfl, rfl, rfl⟩ := hrel
      go_wp2
      go_ret
      exact ⟨_, _, by rw [hFL.out]; rfl, Ext.trans (Ext.alloc_ _ _) (Ext.alloc_ _ _), by rw [hFL.out]; exact .inl rfl⟩
  · have hf' := Lib.hid hf
    have hkk' := Lib.hid hkk
    clear hf hkk
    go_enter Try.func58, Try.ntmps58
    go_wp2_with fail
    refine (sFrag _ _ _).mono ?_
    rintro e w' ⟨rfl, rfl⟩
    rw [hf'.out]
    go_wp2
    go_loopw [5, 7] (fun sv i wr => ∃ (k : Nat) (v : Value), k ≤ N ∧ i = .int .i64 k ∧ v = sv ∧ Hid (Ext (w.alloc (.cells #[.int .i64 kd, .int .i64 fm, .int .i64 to, .int .i64 sq, .int .i64 fr, .bool mo, .bool re, .int .i64 du, .slice (some ⟨g, 0, none⟩) n n] 33)) wr) ∧ Hid (AppR kMac 33 wr (w.heap.size + 1) (fun _ => False) v ((List.range k).map (frgAt ⟨kd, fm, to, sq, fr, mo, re, du, l⟩ N tn)))) (fun _ i _ => N - (intOf i).toNat)
    case atStart => exact ⟨0, _, Nat.zero_le _, rfl, rfl, Lib.hid (Ext.alloc_ _ _), hA0⟩
    case round =>
      obtain ⟨k, v, hk, rfl, rfl, hE, hA⟩ := hrel
      clear hA0
      by_cases hlt : k < N
      · obtain ⟨x1, x2, x3⟩ := blk_cells (ext_blk hE.out b1.out)
        obtain ⟨hlo, hlo2⟩ := hkk'.out k hlt
        obtain ⟨lo, hloq⟩ : ∃ lo, lo = k * tn := ⟨_, rfl⟩
        obtain ⟨hi, hhiq⟩ : ∃ hi, hi = min ((k + 1) * tn) n := ⟨_, rfl⟩
        have q1 : (k : Int) * (tn : Int) = (lo : Int) := by rw [hloq, Int.natCast_mul]
        have hs1 : (k + 1) * tn = lo + tn := by rw [hloq, Nat.succ_mul]
        obtain ⟨hj, hjq⟩ : ∃ hj, hj = lo + tn := ⟨_, rfl⟩
        have q2 : ((k : Int) + 1) * (tn : Int) = (hj : Int) := by rw [hjq, hloq, Int.add_mul, Int.natCast_add, Int.natCast_mul]; omega
        have q3 : min (n : Int) (hj : Int) = (hi : Int) := by rw [hhiq, hs1, hjq]; omega
        have hj1 : hj ≤ 1048676 := by omega
        have w1 : IntKind.i64.wrap (lo : Int) = (lo : Int) := by rw [IntKind.wrap_i64]; omega
        have w2 : IntKind.i64.wrap ((k : Int) + 1) = (k : Int) + 1 := by rw [IntKind.wrap_i64]; omega
        have w3 : IntKind.i64.wrap (hj : Int) = (hj : Int) := by rw [IntKind.wrap_i64]; omega
        have hlo1 : lo ≤ n := by rw [hloq]; exact hlo
        have hhi1 : lo ≤ hi := by rw [hhiq, hs1]; omega
        have hhi2 : hi ≤ n := by rw [hhiq]; omega
        have hP := Lib.hid (show frgAt ⟨kd, fm, to, sq, fr, mo, re, du, l⟩ N tn k = ⟨kd, fm, to, sq, k, decide ((k : Int) < (N : Int) - 1), re, du, (l.drop lo).take (hi - lo)⟩ by unfold frgAt; rw [hn'.out, hloq, hhiq])
        clear hlo hlo2 hloq hhiq hs1 hjq
        obtain ⟨pc, hpc⟩ : ∃ pc, pc = (l.drop lo).take (hi - lo) := ⟨_, rfl⟩
        obtain ⟨pn, hpn⟩ : ∃ pn, pn = hi - lo := ⟨_, rfl⟩
        obtain ⟨PA, hPA0⟩ : ∃ PA : Option Addr, (if n = lo then some ⟨g, 0, none⟩ else some ⟨g, lo, none⟩) = PA := ⟨_, rfl⟩
        have PR := Lib.hid (show RB wr PA (n - lo) pc by rw [hpc, ← hPA0]; exact rb_piece (hR.out.ext hE.out) hn'.out hhi1 hhi2)
        have hPA := Lib.hid hPA0
        clear hPA0
        have PL := Lib.hid (show pc.length = hi - lo by rw [hpc]; simp; have := hn'.out; omega)
        rw [← hpc] at hP
        clear hpc hpn
        go_wp2_with fail
        refine wp_region_chain 16 (by kernel_rfl) (by kernel_rfl) ?_
        simp only [List.take_succ_cons, List.take_zero, List.drop_succ_cons, List.drop_zero]
        refine Chain.sp (SP.emp (wr.heap.size + 1) 5) ?_ ?_
        · intro vs wq hEq hd
          have hz := hEq.size
          clear hd
          (try simp only [Act.put, SP.pick, SP.is, SP.box, id_eq, List.take_succ_cons, List.take_zero, List.drop_succ_cons, List.drop_zero, List.setIfInBounds_toArray, List.set_cons_zero, List.set_cons_succ])
          refine growOp_go ?_
          go_simp
          exact ⟨Ext.alloc_ _ _, wq.heap.size, rfl, by simp at hz; omega, new_blk1 wq #[] 5⟩
        repeat (apply Chain.quiet; · (intro vs wq hEq hd; obtain ⟨hcq, hfq⟩ := bcell hEq; clear hEq hd; (try simp only [Act.put, SP.pick, SP.is, SP.box, id_eq, List.take_succ_cons, List.take_zero, List.drop_succ_cons, List.drop_zero, List.setIfInBounds_toArray, List.set_cons_zero, List.set_cons_succ]); refine growOp_go ?_; go_simp; exact ⟨Ext.refl _, rfl⟩))
        apply Chain.quiet
        · intro vs wq hEq hd
          clear hd
          (try simp only [Act.put, SP.pick, SP.is, SP.box, id_eq, List.take_succ_cons, List.take_zero, List.drop_succ_cons, List.drop_zero, List.setIfInBounds_toArray, List.set_cons_zero, List.set_cons_succ])
          refine growOp_go ?_
          go_simp
          refine (sMin _ _ _).mono ?_
          rintro e w7 ⟨rfl, rfl⟩
          rw [q3]
          first | exact ⟨rfl, Ext.refl _⟩ | exact ⟨_, rfl, Ext.refl _, rfl⟩
        refine Chain.quiet (V := .slice PA (hi - lo) (n - lo)) ?_ ?_
        · intro vs wq hEq hd
          clear hEq hd
          (try simp only [Act.put, SP.pick, SP.is, SP.box, id_eq, List.take_succ_cons, List.take_zero, List.drop_succ_cons, List.drop_zero, List.setIfInBounds_toArray, List.set_cons_zero, List.set_cons_succ])
          refine growOp_go ?_
          go_simp
          exact ⟨Ext.refl _, by rw [hPA.out]⟩
        refine Chain.sp (SP.newBn (wr.heap.size + 1) (hi - lo) pc) ?_ ?_
        · intro vs wq hEq hd
          obtain ⟨g7, e7, hg7, hb7⟩ := hd 0 (by kernel_rfl)
          have hb8 := Lib.hid hb7
          clear hd hb7
          simp only [Act.put, SP.pick, SP.is, SP.box, id_eq, List.take_succ_cons, List.take_zero, List.drop_succ_cons, List.drop_zero, List.setIfInBounds_toArray, List.set_cons_zero, List.set_cons_succ]
          rw [e7]
          refine grow_app0 (.tmp 28) (.tmp 42) elByte rfl rfl g7 rfl hb8.out _ _ _ pc rfl (PR.out.ext (Ext.trans (Ext.alloc_ _ _) hEq)) PL.out (by omega) (by omega) (wr.heap.size + 1) (by omega) ?_
          exact fun v' w' h => h
        refine Chain.done ?_
        intro vs w5 hE5 hd5
        simp only [Act.put, SP.pick, SP.is, SP.box, id_eq, List.take_succ_cons, List.take_zero, List.drop_succ_cons, List.drop_zero, List.setIfInBounds_toArray, List.set_cons_zero, List.set_cons_succ]
        obtain ⟨g9, A9, c9, e9, N9⟩ := hd5 15
        rw [e9]
        simp only [SP.newBn, id_eq]
        obtain ⟨y1, y2, y3⟩ := blk_cells (ext_blk hE5 (new_blk1 wr _ _))
        have r0 := y1 0
        have r1 := y1 1
        have r2 := y1 2
        have r3 := y1 3
        have r4 := y1 4
        have r5 := y1 5
        have r6 := y1 6
        have r7 := y1 7
        have r8 := y1 8
        simp at r0 r1 r2 r3 r4 r5 r6 r7 r8
        have F5 := Lib.hid ((Ext.trans (Ext.alloc_ _ _) hE5).setCell_ (p := ⟨wr.heap.size, 8, none⟩) (Nat.le_refl _) (.slice A9 (hi - lo) c9))
        have N6 := Lib.hid (show NewB (w5.setCell ⟨wr.heap.size, 8, none⟩ (.slice A9 (hi - lo) c9)) (w.heap.size + 1) g9 A9 c9 pc from ⟨N9.1, N9.2.1, by have h1 := N9.2.2.1; have h2 := hE.out.size; simp at h2; omega, N9.2.2.2.imp_right fun ⟨a, b, cs, T, d, e⟩ => ⟨a, by simpa using b, cs, T, by rw [Below.heap_setCell _ _ _ _ (by have := N9.2.2.1; simp; omega)]; exact d, e⟩⟩)
        have hL := Lib.hid (cel_lit (w5.setCell ⟨wr.heap.size, 8, none⟩ (.slice A9 (hi - lo) c9)) 33 #[.int .i64 kd, .int .i64 fm, .int .i64 to, .int .i64 sq, .int .i64 (k : Int), .bool (decide ((k : Int) < (N : Int) - 1)), .bool re, .int .i64 du, .slice A9 (hi - lo) c9])
        rw [World.size_setCell] at hL
        have hG := Lib.hid (Ext.trans F5.out (Ext.alloc_ _ (.cells #[.int .i64 kd, .int .i64 fm, .int .i64 to, .int .i64 sq, .int .i64 (k : Int), .bool (decide ((k : Int) < (N : Int) - 1)), .bool re, .int .i64 du, .slice A9 (hi - lo) c9] 33)))
        have hel := Lib.hid ((N6.out.el (K := kMac) (x := (⟨kd, fm, to, sq, (k : Int), decide ((k : Int) < (N : Int) - 1), re, du, pc⟩ : Mac))).ext (Ext.alloc_ _ (.cells #[.int .i64 kd, .int .i64 fm, .int .i64 to, .int .i64 sq, .int .i64 (k : Int), .bool (decide ((k : Int) < (N : Int) - 1)), .bool re, .int .i64 du, .slice A9 (hi - lo) c9] 33)))
        have hgg := Lib.hid (show wr.heap.size ≤ g9 by have := N9.2.2.1; omega)
        have hone := Lib.hid (mac_one (⟨kd, fm, to, sq, (k : Int), decide ((k : Int) < (N : Int) - 1), re, du, pc⟩ : Mac) A9 (hi - lo) c9)
        have hsz := Lib.hid (show w.heap.size + 1 ≤ w5.heap.size ∧ w.heap.size + 1 ≤ wr.heap.size by have h1 := hE.out.size; have h2 := hE5.size; simp at h1 h2; omega)
        have hLL := Lib.hid (show Cel _ _ (kMac.hd (⟨kd, fm, to, sq, (k : Int), decide ((k : Int) < (N : Int) - 1), re, du, pc⟩ : Mac) (.slice A9 (kMac.bd (⟨kd, fm, to, sq, (k : Int), decide ((k : Int) < (N : Int) - 1), re, du, pc⟩ : Mac)).length c9)) from by
          have h := hL.out
          simp only [kMac, PL.out]
          exact h)
        clear hd5 e9 hE5 y1 x1 x2 x3
        go_wp2_with (at_builtin; refine wpPush (K := kMac) (.tmp 45) (.tmp 47) elMac rfl rfl (w.heap.size + 1) (w1 := w.alloc (.cells #[.int .i64 kd, .int .i64 fm, .int .i64 to, .int .i64 sq, .int .i64 fr, .bool mo, .bool re, .int .i64 du, .slice (some ⟨g, 0, none⟩) n n] 33)) v ((List.range k).map (frgAt ⟨kd, fm, to, sq, fr, mo, re, du, l⟩ N tn)) rfl hA.out hG.out _ _ (⟨kd, fm, to, sq, (k : Int), decide ((k : Int) < (N : Int) - 1), re, du, pc⟩ : Mac) g9 A9 c9 rfl hLL.out (by simp) (by have h := hone.out; simp only [kMac, PL.out]; exact h) hel.out hgg.out (fun x hx => hx.elim) (by simp; unfold maxLen; omega) (by simp; omega) (by have := hsz.out; simp; omega) (Ext.trans hE.out hG.out) (by simp) ?_)
        intro v' w' hA' hE'
        have K1 := Lib.hid hE'
        have A1 := Lib.hid hA'
        clear hL hG hel hone hE' hA' hgg hsz hLL N6 F5 r0 r1 r2 r3 r4 r5 r6 r7 r8 PR PL y2 y3
        go_wp2
        go_roundw
        case rel => exact ⟨k + 1, _, by omega, by go_num, rfl, K1, Lib.hid (by
          rw [List.range_succ, List.map_append, List.map_cons, List.map_nil, hP.out]
          exact A1.out)⟩
        case measure => simp [intOf]; omega
      · obtain rfl : k = N := by omega
        obtain ⟨A', c', rfl, -, -, hO, -⟩ := hA.out.own
        have hO' := Lib.hid (hO.mono (B' := w.heap.size) (by omega) (Nat.le_refl _))
        have hFL := Lib.hid (show frgL ⟨kd, fm, to, sq, fr, mo, re, du, l⟩ (tn : Int) = (List.range k).map (frgAt ⟨kd, fm, to, sq, fr, mo, re, du, l⟩ k tn) by unfold frgL; simp only [hn'.out, hf'.out, Int.toNat_natCast])
        clear hA hO
        go_wp2
        go_ret
        exact ⟨A', c', by rw [hFL.out]; first | done | rfl | simp, Ext.trans E0.out hE.out, by rw [hFL.out]; exact hO'.out⟩
end Go.Proofs.Ytcjppmihmfcagaa
