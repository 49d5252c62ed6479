/- Messages that have expired are dropped: the program's side. -/
import Derived.Test.YtkmklafjcjkpdaaExp
namespace Go.Proofs.Ytkmklafjcjkpdaa
open Go.RowKit
set_option linter.unusedVariables false
set_option linter.unusedSimpArgs false
/-- A message whose body is a copy. -/
def SP.msgC (B : Nat) (t c d : Int) (l : List Int) : SP :=
  { p := fun v w => ∃ g A cc, v = .agg #[.int .i64 t, .int .i64 c, .int .i64 d, .slice A l.length cc] ∧ NewB w B g A cc l
    st := fun v w w' hE ⟨g, A, cc, h1, h2⟩ => ⟨g, A, cc, h1, h2.ext hE⟩ }
/-- A slice of one such message. -/
def SP.msgL (B : Nat) (t c d : Int) (l : List Int) : SP :=
  { p := fun v w => ∃ G g A cc, v = .slice (some ⟨G, 0, none⟩) 1 1 ∧ NewB w B g A cc l ∧ Cel w (some ⟨G, 0, none⟩) [.int .i64 t, .int .i64 c, .int .i64 d, .slice A l.length cc]
    st := fun v w w' hE ⟨G, g, A, cc, h1, h2, h3⟩ => ⟨G, g, A, cc, h1, h2.ext hE, h3.ext hE⟩ }
set_option maxHeartbeats 1000000 in
theorem iExpM (w : World) (A : Option Addr) (n c : Nat) (d now : Int) (l : List Msg) (hn : l.length = n) (hM : Els w A 4 (kE kMsg) l) (hb : ∀ m ∈ l, m.body.length ≤ 1048576) (hl : n ≤ 1048576) :
    Calls Try.prog 42 #[.agg #[.slice A n c, .int .i64 d], .int .i64 now] w fun e w' => ∃ A' c', e = .returned (.agg #[.slice A' (keepM now l).length c', .int .i64 (dropM now d l)]) ∧ Ext w w' ∧ Own kMsg w' w.heap.size w'.heap.size A' (keepM now l) := by
  subst hn
  have hM' := Lib.hid hM
  have hb' := Lib.hid hb
  have hE0 := Lib.hid (show Ext ((w.alloc (.cells #[.slice A l.length c, .int .i64 d] 55)).alloc (.cells #[.slice none 0 0, .int .i64 0] 55)) ((((w.alloc (.cells #[.slice A l.length c, .int .i64 d] 55)).alloc (.cells #[.slice none 0 0, .int .i64 0] 55)).alloc (.cells #[] 59)).alloc (.cells #[.slice (some ⟨w.heap.size + 1 + 1, 0, none⟩) 0 0, .int .i64 d] 55)) ∧ ((((w.alloc (.cells #[.slice A l.length c, .int .i64 d] 55)).alloc (.cells #[.slice none 0 0, .int .i64 0] 55)).alloc (.cells #[] 59)).alloc (.cells #[.slice (some ⟨w.heap.size + 1 + 1, 0, none⟩) 0 0, .int .i64 d] 55)).heap[w.heap.size + 1 + 1 + 1]? = some (.cells #[.slice (some ⟨w.heap.size + 1 + 1, 0, none⟩) 0 0, .int .i64 d] 55 (0, 0)) from ⟨Ext.trans (Ext.alloc_ _ _) (Ext.alloc_ _ _), by
    have h := new_blk1 (((w.alloc (.cells #[.slice A l.length c, .int .i64 d] 55)).alloc (.cells #[.slice none 0 0, .int .i64 0] 55)).alloc (.cells #[] 59)) #[.slice (some ⟨w.heap.size + 1 + 1, 0, none⟩) 0 0, .int .i64 d] 55
    simpa only [World.size_alloc] using h⟩)
  have hA0 := Lib.hid (((AppR.lit0 (K := kMsg) (T := 59) (w := ((w.alloc (.cells #[.slice A l.length c, .int .i64 d] 55)).alloc (.cells #[.slice none 0 0, .int .i64 0] 55))) (B := w.heap.size + 1 + 1) (X := fun x => x = w.heap.size + 1 + 1 + 1) (by simp) (by simp)).ext (Ext.alloc_ _ (.cells #[.slice (some ⟨w.heap.size + 1 + 1, 0, none⟩) 0 0, .int .i64 d] 55))))
  simp only [World.size_alloc] at hA0
  clear hM hb
  go_enter Try.func42, Try.ntmps42
  go_wp2
  go_loopw [15] (fun i wr => ∃ (k : Nat) (v : Value) (D : Int), k ≤ l.length ∧ i = .int .i64 k ∧ Hid (Ext ((w.alloc (.cells #[.slice A l.length c, .int .i64 d] 55)).alloc (.cells #[.slice none 0 0, .int .i64 0] 55)) wr ∧ wr.heap[w.heap.size + 1 + 1 + 1]? = some (.cells #[v, .int .i64 D] 55 (0, 0))) ∧ Hid (AppR kMsg 59 wr (w.heap.size + 1 + 1) (fun x => x = w.heap.size + 1 + 1 + 1) v (keepM now (l.take k))) ∧ Hid (D = dropM now d (l.take k))) (fun i _ => l.length - (intOf i).toNat)
  case atStart => exact ⟨0, _, d, Nat.zero_le _, rfl, hE0, hA0, Lib.hid rfl⟩
  case round =>
    obtain ⟨k, v, D, hk, rfl, hE, hA, hD⟩ := hrel
    clear hE0 hA0
    obtain ⟨x1, x2, x3⟩ := blk_cells (ext_blk (Ext.trans (Ext.alloc_ _ _) hE.out.1) (new_blk1 w _ _))
    obtain ⟨y1, y2, y3⟩ := blk_cells (ext_blk hE.out.1 (new_blk2 w _ _ _))
    have hbox := hE.out.2
    obtain ⟨z1, z2, z3⟩ := blk_cells hbox
    have p0 := x1 0
    have q0 := y1 0
    have q1 := y1 1
    have r0 := z1 0
    have r1 := z1 1
    simp at p0 q0 q1 r0 r1
    have hbox' := Lib.hid hbox
    clear x1 y1 z1 hbox
    by_cases hlt : k < l.length
    · obtain ⟨b, off, rfl, hb, hc⟩ := (els_up hM'.out (Ext.trans (Ext.trans (Ext.alloc_ _ _) (Ext.alloc_ _ _)) hE.out.1)).at_ (List.ne_nil_of_length_pos (by omega))
      obtain ⟨B, cB, hRB, k0, k1, k2, k3⟩ := els_msg hc k hlt
      have hbl := hb'.out _ (List.getElem_mem hlt)
      have R := Lib.hid hRB
      clear hc hRB
      by_cases h1 : l[k].dl < now
      · go_wp2
        go_roundw
        case rel =>
          exact ⟨k + 1, v, wrap64 (D + 1), by omega, by go_num, Lib.hid ⟨Ext.trans (hE.out.1.setCell_ (p := ⟨w.heap.size + 1 + 1 + 1, 1, none⟩) (by simp <;> omega) _) (Ext.alloc_ _ _), ext_blk (Ext.alloc_ _ _) (blk_set hE.out.2 1 _)⟩, Lib.hid (by rw [keepM_no now l k hlt h1]; exact (hA.out.set_ (p := ⟨w.heap.size + 1 + 1 + 1, 1, none⟩) rfl _).ext (Ext.alloc_ _ _)), Lib.hid (by rw [dropM_no now d l k hlt h1, ← hD.out])⟩
        case measure => simp [intOf]; omega
      · go_wp2_with fail
        have hEm := Lib.hid (Ext.alloc_ wr (.cells #[.int .i64 l[k].to, .int .i64 l[k].cat, .int .i64 l[k].dl, .slice B l[k].body.length cB] 59))
        have z4 : w.heap.size + 1 + 1 < wr.heap.size := by omega
        refine wp_region_chain 5 (by kernel_rfl) (by kernel_rfl) ?_
        simp only [List.take_succ_cons, List.take_zero, List.drop_succ_cons, List.drop_zero]
        repeat (apply Chain.quiet; · (intro vs wq hEq hd; obtain ⟨hcq, hfq⟩ := bcell hEq; clear hEq hd; (try simp only [Act.put, SP.pick, SP.is, SP.box, id_eq, List.take_succ_cons, List.take_zero, List.drop_succ_cons, List.drop_zero, List.setIfInBounds_toArray, List.set_cons_zero, List.set_cons_succ]); refine growOp_go ?_; go_simp; exact ⟨Ext.refl _, rfl⟩))
        refine Chain.sp (SP.msgC wr.heap.size l[k].to l[k].cat l[k].dl l[k].body) ?_ ?_
        · intro vs wq hEq hd
          clear hd
          (try simp only [Act.put, SP.pick, SP.is, SP.box, id_eq, List.take_succ_cons, List.take_zero, List.drop_succ_cons, List.drop_zero, List.setIfInBounds_toArray, List.set_cons_zero, List.set_cons_succ])
          refine growOp_go ?_
          go_simp
          refine (iMsgC _ _ _ _ _ _ _ l[k].body rfl (R.out.ext (Ext.trans hEm.out hEq)) (by omega)).mono ?_
          rintro e w6 ⟨g6, A6, c6, rfl, hE6, hN6⟩
          exact ⟨_, rfl, hE6, g6, A6, c6, rfl, hN6.mono (Ext.trans hEm.out hEq).size⟩
        refine Chain.sp (SP.msgL wr.heap.size l[k].to l[k].cat l[k].dl l[k].body) ?_ ?_
        · intro vs wq hEq hd
          obtain ⟨g7, A7, c7, e7, N7⟩ := hd 3 (by kernel_rfl)
          have N7' := Lib.hid N7
          clear hd N7
          simp only [Act.put, SP.pick, SP.is, SP.box, id_eq, List.take_succ_cons, List.take_zero, List.drop_succ_cons, List.drop_zero, List.setIfInBounds_toArray, List.set_cons_zero, List.set_cons_succ]
          rw [e7]
          refine growOp_go ?_
          clear e7
          go_simp
          refine ⟨Ext.alloc_ _ _, wq.heap.size, g7, A7, c7, rfl, N7'.out.ext (Ext.alloc_ _ _), ?_⟩
          exact cel_lit wq 59 #[.int .i64 l[k].to, .int .i64 l[k].cat, .int .i64 l[k].dl, .slice A7 l[k].body.length c7]
        refine Chain.done ?_
        intro vs w5 hE5 hd5
        simp only [Act.put, SP.pick, SP.is, SP.box, id_eq, List.take_succ_cons, List.take_zero, List.drop_succ_cons, List.drop_zero, List.setIfInBounds_toArray, List.set_cons_zero, List.set_cons_succ]
        obtain ⟨G5, g5, A5, c5, e5, N5, L5⟩ := hd5 4
        rw [e5]
        clear hd5 e5
        have F5 := Lib.hid (Ext.trans hEm.out hE5)
        have L5' := Lib.hid L5
        have hel := Lib.hid ((N5.mono (B' := w.heap.size + 1 + 1) (by omega)).el (K := kMsg) (x := l[k]))
        have hgg := Lib.hid N5.2.2.1
        have hkl := keepM_len now l k
        have hsz := Lib.hid F5.out.size
        have hone := Lib.hid (msg_one l[k] A5 l[k].body.length c5)
        clear hE5 N5 L5 x2 x3 y2 y3 p0 q0 q1 r0 r1 k0 k1 k2 k3
        refine wpPush (K := kMsg) (.tmp 28) (.tmp 31) elMsg rfl rfl (w.heap.size + 1 + 1) (w1 := ((w.alloc (.cells #[.slice (some ⟨b, off, none⟩) l.length c, .int .i64 d] 55)).alloc (.cells #[.slice none 0 0, .int .i64 0] 55))) v (keepM now (l.take k)) rfl hA.out F5.out _ _ l[k] g5 A5 c5 rfl L5'.out (by simp) hone.out hel.out hgg.out (fun x hx => by rw [hx]; omega) (by unfold maxLen; omega) (by omega) (by have := hsz.out; omega) (Ext.trans hE.out.1 F5.out) (by simp) ?_
        intro v' w' hA' hE' hX'
        obtain ⟨A2, c2, hv, -⟩ := hA'.own
        obtain ⟨n2, hn2⟩ : ∃ n2, (keepM now (l.take k) ++ [l[k]]).length = n2 := ⟨_, rfl⟩
        rw [hn2] at hv
        subst hv
        have hbx := Lib.hid ((hX' _ rfl).trans (ext_blk F5.out hbox'.out))
        obtain ⟨z1, z2, z3⟩ := blk_cells hbx.out
        have r0' := z1 0
        simp at r0'
        have K1 := Lib.hid hE'
        have A1 := Lib.hid hA'
        clear hn2 L5' hel hgg hsz hone hX' hE' z1 hA' hkl hEm
        go_wp2
        go_roundw
        case rel =>
          exact ⟨k + 1, .slice A2 n2 c2, D, by omega, by go_num, Lib.hid ⟨K1.out.setCell_ (p := ⟨w.heap.size + 1 + 1 + 1, 0, none⟩) (by simp <;> omega) _, blk_set hbx.out 0 _⟩, Lib.hid (by rw [keepM_yes now l k hlt (by omega)]; exact A1.out.set_ rfl _), Lib.hid (by rw [dropM_yes now d l k hlt (by omega), ← hD.out])⟩
        case measure => simp [intOf]; omega
    · obtain rfl : k = l.length := by omega
      have hA1 := hA.out
      have hD1 := hD.out
      rw [List.take_length] at hA1 hD1
      obtain ⟨A', c', rfl, -, -, hO, -⟩ := hA1.own
      have hO' := Lib.hid hO
      have hD' := Lib.hid hD1
      clear hA hA1 hD hD1 hO
      go_wp2_with fail
      refine bodyPost_ret (v := .agg #[.slice A' (keepM now l).length c', .int .i64 D]) (by clear r0 r1 p0 x2 x3 z2 z3 hO' hD' hE hbox' hM' hb'; simp [results, Try.results42, go_sem, q0, q1, y2, y3]) rfl ⟨A', c', by rw [hD'.out], ?_, ?_⟩
      · iterate 2 refine Ext.setCell_ ?_ (by simp <;> omega) _
        exact Ext.trans (Ext.trans (Ext.alloc_ _ _) (Ext.alloc_ _ _)) hE.out.1
      · refine Own.mono (B := w.heap.size + 1 + 1) (C := wr.heap.size) ?_ (by omega) (by simp)
        iterate 2 refine Own.set_ ?_ (by simp <;> omega) _
        exact hO'.out
end Go.Proofs.Ytkmklafjcjkpdaa
