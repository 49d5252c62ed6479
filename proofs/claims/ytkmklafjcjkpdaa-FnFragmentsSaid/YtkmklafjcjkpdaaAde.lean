/- A fragment is added to a list of at most one reassembly. -/
import Derived.Test.YtkmklafjcjkpdaaAdd
namespace Go.Proofs.Ytkmklafjcjkpdaa
open Go.RowKit
set_option linter.unusedVariables false
set_option linter.unusedSimpArgs false
set_option maxHeartbeats 2000000 in
theorem iAddD (w : World) (kd to : Int) (re : Bool) (du : Int) (A0 : Option Addr) (c0 : Nat) (Ab : Option Addr) (cb : Nat) (now : Int) (bl : List Int) (m : Rea) (hM : Els w A0 5 (kE kRea) [m]) (hmb : m.body.length ≤ 1048576) (fr : Int) (mo : Bool) (hfr : 0 < fr) (hnx : m.nx ≠ fr) (hr : RB w Ab cb bl) (hl : bl.length ≤ 1048576) :
    Calls Try.prog 85 #[.slice A0 1 c0, .agg #[.int .i64 kd, .int .i64 m.frm, .int .i64 to, .int .i64 m.sq, .int .i64 fr, .bool mo, .bool re, .int .i64 du, .slice Ab bl.length cb], .int .i64 now] w fun e w' => ∃ (A' : Option Addr) (c' : Nat) (B' : Option Addr) (cB' : Nat), e = .returned (.tuple #[.slice A' 1 c', .slice B' 0 cB', .bool false]) ∧ Ext w w' ∧ Els w' A' 5 (kE kRea) [m] := by
  have hf0 : ¬ fr = 0 := by omega
  have hf1 : ¬ fr < 0 := by omega
  have b1 := Lib.hid (new_blk1 w #[.int .i64 kd, .int .i64 m.frm, .int .i64 to, .int .i64 m.sq, .int .i64 fr, .bool mo, .bool re, .int .i64 du, .slice Ab bl.length cb] 66)
  have E1 := Lib.hid (Ext.alloc_ w (.cells #[.int .i64 kd, .int .i64 m.frm, .int .i64 to, .int .i64 m.sq, .int .i64 fr, .bool mo, .bool re, .int .i64 du, .slice Ab bl.length cb] 66))
  have R1 := Lib.hid (hr.ext E1.out)
  have M1 := Lib.hid (els_up hM E1.out)
  clear hr hM
  obtain ⟨x1, x2, x3⟩ := blk_cells (b1.out)
  have p0 := x1 0
  have p1 := x1 1
  have p2 := x1 2
  have p3 := x1 3
  have p4 := x1 4
  have p5 := x1 5
  have p6 := x1 6
  have p7 := x1 7
  have p8 := x1 8
  simp at p0 p1 p2 p3 p4 p5 p6 p7 p8
  clear x1
  go_enter Try.func85, Try.ntmps85
  go_wp2_with fail
  refine (iFnd1 _ _ _ m _ rfl M1.out).mono ?_
  rintro e w2 ⟨rfl, h2⟩
  have E2 := Lib.hid (Ext.trans E1.out h2)
  have b2 := Lib.hid (ext_blk h2 b1.out)
  have R2 := Lib.hid (R1.out.ext h2)
  have M2 := Lib.hid (els_up M1.out h2)
  clear M1 E1 b1 R1 p0 p1 p2 p3 p4 p5 p6 p7 p8 x2 x3
  have hz2 := E2.out.size
  obtain ⟨x1, x2, x3⟩ := blk_cells (b2.out)
  have p0 := x1 0
  have p1 := x1 1
  have p2 := x1 2
  have p3 := x1 3
  have p4 := x1 4
  have p5 := x1 5
  have p6 := x1 6
  have p7 := x1 7
  have p8 := x1 8
  simp at p0 p1 p2 p3 p4 p5 p6 p7 p8
  clear x1
  go_wp2_with fail
  refine (iCpA _ _ 1 _ [m] rfl M2.out (by simpa using hmb) (by omega)).mono ?_
  rintro e w3 ⟨v3, rfl, h3, hA3⟩
  obtain ⟨A3, c3, hv3, -, -, hO3, -⟩ := hA3.own
  have hv3' : v3 = .slice A3 1 c3 := hv3
  subst hv3'
  have O3 := Lib.hid hO3
  obtain ⟨G, cs, T, Ar, cr, rfl, hG1, hG2, hGb, hGc, hRr⟩ := own1 hO3
  have c0' : cs[0]? = some (.int .i64 m.frm) := hGc 0 _ rfl
  have c1' : cs[1]? = some (.int .i64 m.sq) := hGc 1 _ rfl
  have c2' : cs[2]? = some (.int .i64 m.nx) := hGc 2 _ rfl
  have c3' : cs[3]? = some (.slice Ar m.body.length cr) := hGc 3 _ rfl
  have c4' : cs[4]? = some (.int .i64 m.st) := hGc 4 _ rfl
  have GB := Lib.hid hGb
  have CS := Lib.hid (show cs[0]? = some (.int .i64 m.frm) ∧ cs[1]? = some (.int .i64 m.sq) ∧ cs[2]? = some (.int .i64 m.nx) ∧ cs[3]? = some (.slice Ar m.body.length cr) ∧ cs[4]? = some (.int .i64 m.st) from ⟨c0', c1', c2', c3', c4'⟩)
  have RR := Lib.hid (show RB w3 Ar cr m.body from hRr)
  have E3 := Lib.hid (Ext.trans E2.out h3)
  have b3 := Lib.hid (ext_blk h3 b2.out)
  have R3 := Lib.hid (R2.out.ext h3)
  have M3 := Lib.hid (els_up M2.out h3)
  clear M2 E2 b2 R2 p0 p1 p2 p3 p4 p5 p6 p7 p8 x2 x3
  clear hA3 hv3 hO3 hGb hGc hRr c0' c1' c2' c3' c4'
  obtain ⟨x1, x2, x3⟩ := blk_cells (b3.out)
  have p0 := x1 0
  have p1 := x1 1
  have p2 := x1 2
  have p3 := x1 3
  have p4 := x1 4
  have p5 := x1 5
  have p6 := x1 6
  have p7 := x1 7
  have p8 := x1 8
  simp at p0 p1 p2 p3 p4 p5 p6 p7 p8
  clear x1
  obtain ⟨g0, g1, g2⟩ := blk_cells GB.out
  have r0 := (g0 0).trans CS.out.1
  have r1 := (g0 1).trans CS.out.2.1
  have r2 := (g0 2).trans CS.out.2.2.1
  have r3 := (g0 3).trans CS.out.2.2.2.1
  have r4 := (g0 4).trans CS.out.2.2.2.2
  clear g0
  go_wp2_with fail
  refine bodyPost_ret (v := .tuple #[.slice (some ⟨G, 0, none⟩) 1 c3, .slice (some ⟨w3.heap.size + 1, 0, none⟩) 0 0, .bool false]) (by clear E3 b3 R3 M3 O3 GB CS RR; simp [results, Try.results85, go_sem, *]) rfl ⟨_, c3, _, _, rfl, Ext.trans E3.out (Ext.trans (Ext.alloc_ _ _) (Ext.alloc_ _ _)), els_up O3.out.els (Ext.trans (Ext.alloc_ _ _) (Ext.alloc_ _ _))⟩
set_option maxHeartbeats 2000000 in
theorem iAddF (w : World) (kd to : Int) (re : Bool) (du : Int) (A0 : Option Addr) (c0 : Nat) (Ab : Option Addr) (cb : Nat) (now : Int) (bl : List Int) (m : Rea) (hM : Els w A0 5 (kE kRea) [m]) (hmb : m.body.length ≤ 1048576) (hnx : 0 < m.nx) (hnx2 : m.nx ≤ 1000) (hlen : m.body.length + bl.length ≤ 100) (hr : RB w Ab cb bl) (hl : bl.length ≤ 1048576) :
    Calls Try.prog 85 #[.slice A0 1 c0, .agg #[.int .i64 kd, .int .i64 m.frm, .int .i64 to, .int .i64 m.sq, .int .i64 m.nx, .bool false, .bool re, .int .i64 du, .slice Ab bl.length cb], .int .i64 now] w fun e w' => ∃ (A' : Option Addr) (c' : Nat) (B' : Option Addr) (cB' : Nat), e = .returned (.tuple #[.slice A' 0 c', .slice B' (m.body ++ bl).length cB', .bool true]) ∧ Ext w w' ∧ RB w' B' cB' (m.body ++ bl) := by
  have hf0 : ¬ m.nx = 0 := by omega
  have hf1 : ¬ m.nx < 0 := by omega
  have hwn : IntKind.i64.wrap (m.nx + 1) = m.nx + 1 := IntWalk.i64_in _ (by omega)
  have b1 := Lib.hid (new_blk1 w #[.int .i64 kd, .int .i64 m.frm, .int .i64 to, .int .i64 m.sq, .int .i64 m.nx, .bool false, .bool re, .int .i64 du, .slice Ab bl.length cb] 66)
  have E1 := Lib.hid (Ext.alloc_ w (.cells #[.int .i64 kd, .int .i64 m.frm, .int .i64 to, .int .i64 m.sq, .int .i64 m.nx, .bool false, .bool re, .int .i64 du, .slice Ab bl.length cb] 66))
  have R1 := Lib.hid (hr.ext E1.out)
  have M1 := Lib.hid (els_up hM E1.out)
  clear hr hM
  obtain ⟨x1, x2, x3⟩ := blk_cells (b1.out)
  have p0 := x1 0
  have p1 := x1 1
  have p2 := x1 2
  have p3 := x1 3
  have p4 := x1 4
  have p5 := x1 5
  have p6 := x1 6
  have p7 := x1 7
  have p8 := x1 8
  simp at p0 p1 p2 p3 p4 p5 p6 p7 p8
  clear x1
  go_enter Try.func85, Try.ntmps85
  go_wp2_with fail
  refine (iFnd1 _ _ _ m _ rfl M1.out).mono ?_
  rintro e w2 ⟨rfl, h2⟩
  have E2 := Lib.hid (Ext.trans E1.out h2)
  have b2 := Lib.hid (ext_blk h2 b1.out)
  have R2 := Lib.hid (R1.out.ext h2)
  have M2 := Lib.hid (els_up M1.out h2)
  clear M1 E1 b1 R1 p0 p1 p2 p3 p4 p5 p6 p7 p8 x2 x3
  have hz2 := E2.out.size
  obtain ⟨x1, x2, x3⟩ := blk_cells (b2.out)
  have p0 := x1 0
  have p1 := x1 1
  have p2 := x1 2
  have p3 := x1 3
  have p4 := x1 4
  have p5 := x1 5
  have p6 := x1 6
  have p7 := x1 7
  have p8 := x1 8
  simp at p0 p1 p2 p3 p4 p5 p6 p7 p8
  clear x1
  go_wp2_with fail
  refine (iCpA _ _ 1 _ [m] rfl M2.out (by simpa using hmb) (by omega)).mono ?_
  rintro e w3 ⟨v3, rfl, h3, hA3⟩
  obtain ⟨A3, c3, hv3, -, -, hO3, -⟩ := hA3.own
  have hv3' : v3 = .slice A3 1 c3 := hv3
  subst hv3'
  have O3 := Lib.hid hO3
  obtain ⟨G, cs, T, Ar, cr, rfl, hG1, hG2, hGb, hGc, hRr⟩ := own1 hO3
  have c0' : cs[0]? = some (.int .i64 m.frm) := hGc 0 _ rfl
  have c1' : cs[1]? = some (.int .i64 m.sq) := hGc 1 _ rfl
  have c2' : cs[2]? = some (.int .i64 m.nx) := hGc 2 _ rfl
  have c3' : cs[3]? = some (.slice Ar m.body.length cr) := hGc 3 _ rfl
  have c4' : cs[4]? = some (.int .i64 m.st) := hGc 4 _ rfl
  have GB := Lib.hid hGb
  have CS := Lib.hid (show cs[0]? = some (.int .i64 m.frm) ∧ cs[1]? = some (.int .i64 m.sq) ∧ cs[2]? = some (.int .i64 m.nx) ∧ cs[3]? = some (.slice Ar m.body.length cr) ∧ cs[4]? = some (.int .i64 m.st) from ⟨c0', c1', c2', c3', c4'⟩)
  have RR := Lib.hid (show RB w3 Ar cr m.body from hRr)
  have E3 := Lib.hid (Ext.trans E2.out h3)
  have b3 := Lib.hid (ext_blk h3 b2.out)
  have R3 := Lib.hid (R2.out.ext h3)
  have M3 := Lib.hid (els_up M2.out h3)
  clear M2 E2 b2 R2 p0 p1 p2 p3 p4 p5 p6 p7 p8 x2 x3
  clear hA3 hv3 hO3 hGb hGc hRr c0' c1' c2' c3' c4'
  obtain ⟨x1, x2, x3⟩ := blk_cells (b3.out)
  have p0 := x1 0
  have p1 := x1 1
  have p2 := x1 2
  have p3 := x1 3
  have p4 := x1 4
  have p5 := x1 5
  have p6 := x1 6
  have p7 := x1 7
  have p8 := x1 8
  simp at p0 p1 p2 p3 p4 p5 p6 p7 p8
  clear x1
  obtain ⟨g0, g1, g2⟩ := blk_cells GB.out
  have r0 := (g0 0).trans CS.out.1
  have r1 := (g0 1).trans CS.out.2.1
  have r2 := (g0 2).trans CS.out.2.2.1
  have r3 := (g0 3).trans CS.out.2.2.2.1
  have r4 := (g0 4).trans CS.out.2.2.2.2
  clear g0
  obtain ⟨s, hs⟩ : ∃ s : Int, s = (m.body.length : Int) + bl.length := ⟨_, rfl⟩
  have hw1 : IntKind.i64.wrap ((m.body.length : Int) + (bl.length : Int)) = s := by rw [hs]; exact IntWalk.i64_in _ (by omega)
  have hs1 : ¬ 100 < s := by omega
  clear hs
  have e4 := Ext.alloc_ w3 (.cells #[.int .i64 m.frm, .int .i64 m.sq, .int .i64 m.nx, .slice Ar m.body.length cr, .int .i64 m.st] 114)
  have E4 := Lib.hid (Ext.trans E3.out e4)
  have b4 := Lib.hid (ext_blk e4 b3.out)
  have R4 := Lib.hid (R3.out.ext e4)
  have M4 := Lib.hid (els_up M3.out e4)
  have G4 := Lib.hid (ext_blk e4 GB.out)
  have RR4 := Lib.hid (RR.out.ext e4)
  have X4 := Lib.hid (new_blk1 w3 #[.int .i64 m.frm, .int .i64 m.sq, .int .i64 m.nx, .slice Ar m.body.length cr, .int .i64 m.st] 114)
  clear e4
  go_wp2_with fail
  clear p0 p1 p2 p3 p4 p5 p6 p7 p8 x2 x3 r0 r1 r2 r3 r4 g1 g2 E3 b3 R3 M3 O3 GB RR
  generalize World.alloc w3 _ = w4 at *
  generalize w3.heap.size = gr at *
  obtain ⟨x1, x2, x3⟩ := blk_cells (b4.out)
  have p0 := x1 0
  have p1 := x1 1
  have p2 := x1 2
  have p3 := x1 3
  have p4 := x1 4
  have p5 := x1 5
  have p6 := x1 6
  have p7 := x1 7
  have p8 := x1 8
  simp at p0 p1 p2 p3 p4 p5 p6 p7 p8
  clear x1
  obtain ⟨y1, y2, y3⟩ := blk_cells X4.out
  have q3 := y1 3
  simp at q3
  clear y1
  refine wp_region_chain 5 (by kernel_rfl) (by kernel_rfl) ?_
  simp only [List.take_succ_cons, List.take_zero, List.drop_succ_cons, List.drop_zero]
  iterate 2 (apply Chain.quiet; · (intro vs wq hEq hd; obtain ⟨hcq, hfq⟩ := bcell hEq; clear hEq hd; (try simp only [Act.put, SP.pick, SP.is, SP.box, id_eq, List.take_succ_cons, List.take_zero, List.drop_succ_cons, List.drop_zero, List.setIfInBounds_toArray, List.set_cons_zero, List.set_cons_succ]); refine growOp_go ?_; go_simp; first | exact ⟨Ext.refl _, rfl⟩ | exact rfl | (split; (exfalso; omega); (first | exact ⟨Ext.refl _, rfl⟩ | exact rfl)) | (split; (first | exact ⟨Ext.refl _, rfl⟩ | exact rfl); (exfalso; omega))))
  refine Chain.sp (SP.blkB w4.heap.size m.body) ?_ ?_
  · intro vs wq hEq hd
    have hRq := Lib.hid (RR4.out.ext hEq)
    have hz := Lib.hid hEq.size
    clear hEq hd
    (try simp only [Act.put, SP.pick, SP.is, SP.box, id_eq, List.take_succ_cons, List.take_zero, List.drop_succ_cons, List.drop_zero, List.setIfInBounds_toArray, List.set_cons_zero, List.set_cons_succ])
    refine growOp_go ?_
    go_simp
    refine (iCopyO _ _ _ _ m.body rfl hRq.out (by omega)).mono ?_
    rintro e w6 ⟨g6, rfl, hE6, hg6, hb6⟩
    exact ⟨_, rfl, hE6, g6, rfl, Nat.le_trans hz.out hg6, hb6⟩
  iterate 2 (apply Chain.quiet; · (intro vs wq hEq hd; obtain ⟨hcq, hfq⟩ := bcell hEq; clear hEq hd; (try simp only [Act.put, SP.pick, SP.is, SP.box, id_eq, List.take_succ_cons, List.take_zero, List.drop_succ_cons, List.drop_zero, List.setIfInBounds_toArray, List.set_cons_zero, List.set_cons_succ]); refine growOp_go ?_; go_simp; first | exact ⟨Ext.refl _, rfl⟩ | exact rfl | (split; (exfalso; omega); (first | exact ⟨Ext.refl _, rfl⟩ | exact rfl)) | (split; (first | exact ⟨Ext.refl _, rfl⟩ | exact rfl); (exfalso; omega))))
  refine Chain.done ?_
  intro vs w5 hE5 hd5
  simp only [Act.put, SP.pick, SP.is, SP.box, id_eq, List.take_succ_cons, List.take_zero, List.drop_succ_cons, List.drop_zero, List.setIfInBounds_toArray, List.set_cons_zero, List.set_cons_succ]
  obtain ⟨g6, e6, hg6, hb6⟩ := hd5 2
  rw [e6]
  simp only [SP.blkB, id_eq]
  have HO := Lib.hid (blk_own hg6 hb6 (by unfold maxLen; omega))
  have E5 := Lib.hid hE5
  have R5 := Lib.hid (R4.out.ext hE5)
  have hz5 := hE5.size
  clear hd5 e6 hE5 hb6 p0 p1 p2 p3 p4 p5 p6 p7 p8 x2 x3 q3 y2 y3
  refine wpApp (.tmp 78) (.tmp 80) elByte rfl rfl w4.heap.size _ m.body.length _ rfl HO.out _ _ _ _ rfl R5.out.1 (by simp) R5.out.2.1 (bytes_one bl) (by unfold maxLen; omega) (by omega) hz5 ?_
  intro v6 w6 q1 q2 _
  have hE6 := ext_grown (w0 := w4) E5.out q2 HO.out (Nat.le_refl _)
  obtain ⟨gn, An, cn, hv6, hN6⟩ := NewB.of_own (l := m.body ++ bl) (n := m.body.length + bl.length) (by simpa using q1) hE6.size
  have hLn : (m.body ++ bl).length = m.body.length + bl.length := by simp
  subst hv6
  have F6 := Lib.hid hE6
  have N6 := Lib.hid hN6
  have E6 := Lib.hid (Ext.trans E4.out hE6)
  have b6 := Lib.hid (ext_blk hE6 b4.out)
  have M6 := Lib.hid (els_up M4.out hE6)
  have G6 := Lib.hid (ext_blk hE6 G4.out)
  have hG4 : G < w4.heap.size := heap_lt G4.out
  obtain ⟨L, hL⟩ : ∃ L, L = m.body ++ bl := ⟨_, rfl⟩
  rw [← hL] at N6 ⊢
  have HL := Lib.hid hL
  clear q1 q2 hE6 hN6 HO E5 R5 hz5 E4 b4 M4 G4 X4 R4 RR4 hg6 hLn hL
  obtain ⟨x1, x2, x3⟩ := blk_cells (b6.out)
  have p0 := x1 0
  have p1 := x1 1
  have p2 := x1 2
  have p3 := x1 3
  have p4 := x1 4
  have p5 := x1 5
  have p6 := x1 6
  have p7 := x1 7
  have p8 := x1 8
  simp at p0 p1 p2 p3 p4 p5 p6 p7 p8
  clear x1
  obtain ⟨g0, g1, g2⟩ := blk_cells G6.out
  have r2 := (g0 2).trans CS.out.2.2.1
  have r3 := (g0 3).trans CS.out.2.2.2.1
  clear g0
  go_wp2_with fail
  refine (iCpB _ _ _ m M6.out).mono ?_
  rintro e w7 ⟨v7, rfl, h7, hA7⟩
  obtain ⟨A7, c7, hv7, -, -, -, -⟩ := hA7.own
  have hv7' : v7 = .slice A7 0 c7 := hv7
  subst hv7'
  have E7 := Lib.hid (Ext.trans E6.out h7)
  have N7 := Lib.hid (N6.out.rb.ext h7)
  clear h7 hA7 hv7
  go_wp2_with fail
  refine bodyPost_ret (v := .tuple #[.slice A7 0 c7, .slice An L.length cn, .bool true]) (by clear E7 N7 E6 b6 M6 G6 F6 N6 CS HL; simp [results, Try.results85, go_sem, *]) rfl ⟨A7, c7, An, cn, by rw [HL.out], E7.out, by rw [← HL.out]; exact N7.out⟩
set_option maxHeartbeats 2000000 in
theorem iAddE (w : World) (kd to : Int) (re : Bool) (du : Int) (A0 : Option Addr) (c0 : Nat) (Ab : Option Addr) (cb : Nat) (now : Int) (bl : List Int) (m : Rea) (hM : Els w A0 5 (kE kRea) [m]) (hmb : m.body.length ≤ 1048576) (hnx : 0 < m.nx) (hnx2 : m.nx ≤ 1000) (hlen : m.body.length + bl.length ≤ 100) (hr : RB w Ab cb bl) (hl : bl.length ≤ 1048576) :
    Calls Try.prog 85 #[.slice A0 1 c0, .agg #[.int .i64 kd, .int .i64 m.frm, .int .i64 to, .int .i64 m.sq, .int .i64 m.nx, .bool true, .bool re, .int .i64 du, .slice Ab bl.length cb], .int .i64 now] w fun e w' => ∃ (A' : Option Addr) (c' : Nat) (B' : Option Addr) (cB' : Nat), e = .returned (.tuple #[.slice A' 1 c', .slice B' 0 cB', .bool false]) ∧ Ext w w' ∧ Els w' A' 5 (kE kRea) [({ m with nx := m.nx + 1, body := m.body ++ bl } : Rea)] := by
  have hf0 : ¬ m.nx = 0 := by omega
  have hf1 : ¬ m.nx < 0 := by omega
  have hwn : IntKind.i64.wrap (m.nx + 1) = m.nx + 1 := IntWalk.i64_in _ (by omega)
  have b1 := Lib.hid (new_blk1 w #[.int .i64 kd, .int .i64 m.frm, .int .i64 to, .int .i64 m.sq, .int .i64 m.nx, .bool true, .bool re, .int .i64 du, .slice Ab bl.length cb] 66)
  have E1 := Lib.hid (Ext.alloc_ w (.cells #[.int .i64 kd, .int .i64 m.frm, .int .i64 to, .int .i64 m.sq, .int .i64 m.nx, .bool true, .bool re, .int .i64 du, .slice Ab bl.length cb] 66))
  have R1 := Lib.hid (hr.ext E1.out)
  have M1 := Lib.hid (els_up hM E1.out)
  clear hr hM
  obtain ⟨x1, x2, x3⟩ := blk_cells (b1.out)
  have p0 := x1 0
  have p1 := x1 1
  have p2 := x1 2
  have p3 := x1 3
  have p4 := x1 4
  have p5 := x1 5
  have p6 := x1 6
  have p7 := x1 7
  have p8 := x1 8
  simp at p0 p1 p2 p3 p4 p5 p6 p7 p8
  clear x1
  go_enter Try.func85, Try.ntmps85
  go_wp2_with fail
  refine (iFnd1 _ _ _ m _ rfl M1.out).mono ?_
  rintro e w2 ⟨rfl, h2⟩
  have E2 := Lib.hid (Ext.trans E1.out h2)
  have b2 := Lib.hid (ext_blk h2 b1.out)
  have R2 := Lib.hid (R1.out.ext h2)
  have M2 := Lib.hid (els_up M1.out h2)
  clear M1 E1 b1 R1 p0 p1 p2 p3 p4 p5 p6 p7 p8 x2 x3
  have hz2 := E2.out.size
  obtain ⟨x1, x2, x3⟩ := blk_cells (b2.out)
  have p0 := x1 0
  have p1 := x1 1
  have p2 := x1 2
  have p3 := x1 3
  have p4 := x1 4
  have p5 := x1 5
  have p6 := x1 6
  have p7 := x1 7
  have p8 := x1 8
  simp at p0 p1 p2 p3 p4 p5 p6 p7 p8
  clear x1
  go_wp2_with fail
  refine (iCpA _ _ 1 _ [m] rfl M2.out (by simpa using hmb) (by omega)).mono ?_
  rintro e w3 ⟨v3, rfl, h3, hA3⟩
  obtain ⟨A3, c3, hv3, -, -, hO3, -⟩ := hA3.own
  have hv3' : v3 = .slice A3 1 c3 := hv3
  subst hv3'
  have O3 := Lib.hid hO3
  obtain ⟨G, cs, T, Ar, cr, rfl, hG1, hG2, hGb, hGc, hRr⟩ := own1 hO3
  have c0' : cs[0]? = some (.int .i64 m.frm) := hGc 0 _ rfl
  have c1' : cs[1]? = some (.int .i64 m.sq) := hGc 1 _ rfl
  have c2' : cs[2]? = some (.int .i64 m.nx) := hGc 2 _ rfl
  have c3' : cs[3]? = some (.slice Ar m.body.length cr) := hGc 3 _ rfl
  have c4' : cs[4]? = some (.int .i64 m.st) := hGc 4 _ rfl
  have GB := Lib.hid hGb
  have CS := Lib.hid (show cs[0]? = some (.int .i64 m.frm) ∧ cs[1]? = some (.int .i64 m.sq) ∧ cs[2]? = some (.int .i64 m.nx) ∧ cs[3]? = some (.slice Ar m.body.length cr) ∧ cs[4]? = some (.int .i64 m.st) from ⟨c0', c1', c2', c3', c4'⟩)
  have RR := Lib.hid (show RB w3 Ar cr m.body from hRr)
  have E3 := Lib.hid (Ext.trans E2.out h3)
  have b3 := Lib.hid (ext_blk h3 b2.out)
  have R3 := Lib.hid (R2.out.ext h3)
  have M3 := Lib.hid (els_up M2.out h3)
  clear M2 E2 b2 R2 p0 p1 p2 p3 p4 p5 p6 p7 p8 x2 x3
  clear hA3 hv3 hO3 hGb hGc hRr c0' c1' c2' c3' c4'
  obtain ⟨x1, x2, x3⟩ := blk_cells (b3.out)
  have p0 := x1 0
  have p1 := x1 1
  have p2 := x1 2
  have p3 := x1 3
  have p4 := x1 4
  have p5 := x1 5
  have p6 := x1 6
  have p7 := x1 7
  have p8 := x1 8
  simp at p0 p1 p2 p3 p4 p5 p6 p7 p8
  clear x1
  obtain ⟨g0, g1, g2⟩ := blk_cells GB.out
  have r0 := (g0 0).trans CS.out.1
  have r1 := (g0 1).trans CS.out.2.1
  have r2 := (g0 2).trans CS.out.2.2.1
  have r3 := (g0 3).trans CS.out.2.2.2.1
  have r4 := (g0 4).trans CS.out.2.2.2.2
  clear g0
  obtain ⟨s, hs⟩ : ∃ s : Int, s = (m.body.length : Int) + bl.length := ⟨_, rfl⟩
  have hw1 : IntKind.i64.wrap ((m.body.length : Int) + (bl.length : Int)) = s := by rw [hs]; exact IntWalk.i64_in _ (by omega)
  have hs1 : ¬ 100 < s := by omega
  clear hs
  have e4 := Ext.alloc_ w3 (.cells #[.int .i64 m.frm, .int .i64 m.sq, .int .i64 m.nx, .slice Ar m.body.length cr, .int .i64 m.st] 114)
  have E4 := Lib.hid (Ext.trans E3.out e4)
  have b4 := Lib.hid (ext_blk e4 b3.out)
  have R4 := Lib.hid (R3.out.ext e4)
  have M4 := Lib.hid (els_up M3.out e4)
  have G4 := Lib.hid (ext_blk e4 GB.out)
  have RR4 := Lib.hid (RR.out.ext e4)
  have X4 := Lib.hid (new_blk1 w3 #[.int .i64 m.frm, .int .i64 m.sq, .int .i64 m.nx, .slice Ar m.body.length cr, .int .i64 m.st] 114)
  clear e4
  go_wp2_with fail
  clear p0 p1 p2 p3 p4 p5 p6 p7 p8 x2 x3 r0 r1 r2 r3 r4 g1 g2 E3 b3 R3 M3 O3 GB RR
  generalize World.alloc w3 _ = w4 at *
  generalize w3.heap.size = gr at *
  obtain ⟨x1, x2, x3⟩ := blk_cells (b4.out)
  have p0 := x1 0
  have p1 := x1 1
  have p2 := x1 2
  have p3 := x1 3
  have p4 := x1 4
  have p5 := x1 5
  have p6 := x1 6
  have p7 := x1 7
  have p8 := x1 8
  simp at p0 p1 p2 p3 p4 p5 p6 p7 p8
  clear x1
  obtain ⟨y1, y2, y3⟩ := blk_cells X4.out
  have q3 := y1 3
  simp at q3
  clear y1
  refine wp_region_chain 5 (by kernel_rfl) (by kernel_rfl) ?_
  simp only [List.take_succ_cons, List.take_zero, List.drop_succ_cons, List.drop_zero]
  iterate 2 (apply Chain.quiet; · (intro vs wq hEq hd; obtain ⟨hcq, hfq⟩ := bcell hEq; clear hEq hd; (try simp only [Act.put, SP.pick, SP.is, SP.box, id_eq, List.take_succ_cons, List.take_zero, List.drop_succ_cons, List.drop_zero, List.setIfInBounds_toArray, List.set_cons_zero, List.set_cons_succ]); refine growOp_go ?_; go_simp; first | exact ⟨Ext.refl _, rfl⟩ | exact rfl | (split; (exfalso; omega); (first | exact ⟨Ext.refl _, rfl⟩ | exact rfl)) | (split; (first | exact ⟨Ext.refl _, rfl⟩ | exact rfl); (exfalso; omega))))
  refine Chain.sp (SP.blkB w4.heap.size m.body) ?_ ?_
  · intro vs wq hEq hd
    have hRq := Lib.hid (RR4.out.ext hEq)
    have hz := Lib.hid hEq.size
    clear hEq hd
    (try simp only [Act.put, SP.pick, SP.is, SP.box, id_eq, List.take_succ_cons, List.take_zero, List.drop_succ_cons, List.drop_zero, List.setIfInBounds_toArray, List.set_cons_zero, List.set_cons_succ])
    refine growOp_go ?_
    go_simp
    refine (iCopyO _ _ _ _ m.body rfl hRq.out (by omega)).mono ?_
    rintro e w6 ⟨g6, rfl, hE6, hg6, hb6⟩
    exact ⟨_, rfl, hE6, g6, rfl, Nat.le_trans hz.out hg6, hb6⟩
  iterate 2 (apply Chain.quiet; · (intro vs wq hEq hd; obtain ⟨hcq, hfq⟩ := bcell hEq; clear hEq hd; (try simp only [Act.put, SP.pick, SP.is, SP.box, id_eq, List.take_succ_cons, List.take_zero, List.drop_succ_cons, List.drop_zero, List.setIfInBounds_toArray, List.set_cons_zero, List.set_cons_succ]); refine growOp_go ?_; go_simp; first | exact ⟨Ext.refl _, rfl⟩ | exact rfl | (split; (exfalso; omega); (first | exact ⟨Ext.refl _, rfl⟩ | exact rfl)) | (split; (first | exact ⟨Ext.refl _, rfl⟩ | exact rfl); (exfalso; omega))))
  refine Chain.done ?_
  intro vs w5 hE5 hd5
  simp only [Act.put, SP.pick, SP.is, SP.box, id_eq, List.take_succ_cons, List.take_zero, List.drop_succ_cons, List.drop_zero, List.setIfInBounds_toArray, List.set_cons_zero, List.set_cons_succ]
  obtain ⟨g6, e6, hg6, hb6⟩ := hd5 2
  rw [e6]
  simp only [SP.blkB, id_eq]
  have HO := Lib.hid (blk_own hg6 hb6 (by unfold maxLen; omega))
  have E5 := Lib.hid hE5
  have R5 := Lib.hid (R4.out.ext hE5)
  have hz5 := hE5.size
  clear hd5 e6 hE5 hb6 p0 p1 p2 p3 p4 p5 p6 p7 p8 x2 x3 q3 y2 y3
  refine wpApp (.tmp 78) (.tmp 80) elByte rfl rfl w4.heap.size _ m.body.length _ rfl HO.out _ _ _ _ rfl R5.out.1 (by simp) R5.out.2.1 (bytes_one bl) (by unfold maxLen; omega) (by omega) hz5 ?_
  intro v6 w6 q1 q2 _
  have hE6 := ext_grown (w0 := w4) E5.out q2 HO.out (Nat.le_refl _)
  obtain ⟨gn, An, cn, hv6, hN6⟩ := NewB.of_own (l := m.body ++ bl) (n := m.body.length + bl.length) (by simpa using q1) hE6.size
  have hLn : (m.body ++ bl).length = m.body.length + bl.length := by simp
  subst hv6
  have F6 := Lib.hid hE6
  have N6 := Lib.hid hN6
  have E6 := Lib.hid (Ext.trans E4.out hE6)
  have b6 := Lib.hid (ext_blk hE6 b4.out)
  have M6 := Lib.hid (els_up M4.out hE6)
  have G6 := Lib.hid (ext_blk hE6 G4.out)
  have hG4 : G < w4.heap.size := heap_lt G4.out
  obtain ⟨L, hL⟩ : ∃ L, L = m.body ++ bl := ⟨_, rfl⟩
  rw [← hL] at N6 ⊢
  have HL := Lib.hid hL
  clear q1 q2 hE6 hN6 HO E5 R5 hz5 E4 b4 M4 G4 X4 R4 RR4 hg6 hLn hL
  obtain ⟨x1, x2, x3⟩ := blk_cells (b6.out)
  have p0 := x1 0
  have p1 := x1 1
  have p2 := x1 2
  have p3 := x1 3
  have p4 := x1 4
  have p5 := x1 5
  have p6 := x1 6
  have p7 := x1 7
  have p8 := x1 8
  simp at p0 p1 p2 p3 p4 p5 p6 p7 p8
  clear x1
  obtain ⟨g0, g1, g2⟩ := blk_cells G6.out
  have r2 := (g0 2).trans CS.out.2.2.1
  have r3 := (g0 3).trans CS.out.2.2.2.1
  clear g0
  have hGE : w.heap.size ≤ G := by omega
  go_wp2_with fail
  refine bodyPost_ret (v := .tuple #[.slice (some ⟨G, 0, none⟩) 1 c3, .slice (some ⟨w6.heap.size, 0, none⟩) 0 0, .bool false]) (by clear E6 b6 M6 G6 F6 N6 CS HL; simp [results, Try.results85, go_sem, *]) rfl ⟨_, c3, _, _, rfl, ?_, ?_⟩
  · refine Ext.trans ?_ (Ext.alloc_ _ _)
    iterate 2 refine Ext.setCell_ ?_ hGE _
    exact E6.out
  · refine els_up ?_ (Ext.alloc_ _ _)
    have hb := blk_set (blk_set G6.out 3 (.slice An L.length cn)) 2 (.int .i64 (m.nx + 1))
    have hs5 : 4 < cs.size := (Array.getElem?_eq_some_iff.1 CS.out.2.2.2.2).1
    refine .inr ⟨G, 0, rfl, heap_lt hb, fun i hi => ?_⟩
    obtain rfl : i = 0 := by simp at hi; omega
    refine ⟨_, ⟨An, cn, rfl, ?_⟩, fun j u hu => ?_⟩
    · show RB _ An cn (m.body ++ bl)
      rw [← HL.out]
      exact ((N6.out.set_ (p := ⟨G, 3, none⟩) hG4 _).set_ (p := ⟨G, 2, none⟩) hG4 _).rb
    · obtain ⟨z1, -, -⟩ := blk_cells hb
      rw [z1]
      have hlb : (m.body ++ bl).length = L.length := by rw [HL.out]
      rcases j with _ | _ | _ | _ | _ | j
      · have hu' := (Option.some.inj hu).symm
        subst hu'
        show ((cs.setIfInBounds 3 _).setIfInBounds 2 _)[0]? = _
        rw [Array.getElem?_setIfInBounds, if_neg (by decide), Array.getElem?_setIfInBounds, if_neg (by decide)]
        exact CS.out.1
      · have hu' := (Option.some.inj hu).symm
        subst hu'
        show ((cs.setIfInBounds 3 _).setIfInBounds 2 _)[1]? = _
        rw [Array.getElem?_setIfInBounds, if_neg (by decide), Array.getElem?_setIfInBounds, if_neg (by decide)]
        exact CS.out.2.1
      · have hu' := (Option.some.inj hu).symm
        subst hu'
        show ((cs.setIfInBounds 3 _).setIfInBounds 2 _)[2]? = _
        rw [Array.getElem?_setIfInBounds, if_pos rfl, if_pos (by simp; omega)]
        rfl
      · have hu' := (Option.some.inj hu).symm
        subst hu'
        show ((cs.setIfInBounds 3 _).setIfInBounds 2 _)[3]? = some (.slice An (m.body ++ bl).length cn)
        rw [Array.getElem?_setIfInBounds, if_neg (by decide), Array.getElem?_setIfInBounds, if_pos rfl, if_pos (by omega), hlb]
      · have hu' := (Option.some.inj hu).symm
        subst hu'
        show ((cs.setIfInBounds 3 _).setIfInBounds 2 _)[4]? = _
        rw [Array.getElem?_setIfInBounds, if_neg (by decide), Array.getElem?_setIfInBounds, if_neg (by decide)]
        exact CS.out.2.2.2.2
      · simp [kRea] at hu
end Go.Proofs.Ytkmklafjcjkpdaa
