/- Rows of frames: what is read, compared, marked. -/
import Derived.Test.YtcjppmihmfcagaaNb
namespace Go.Proofs.Ytcjppmihmfcagaa
open Go.RowKit
set_option linter.unusedVariables false
set_option linter.unusedSimpArgs false

theorem els_mac {w : World} {b off : Nat} {l : List Mac} (h : ∀ i (h : i < l.length), ∃ cs, kE kMac w l[i] cs ∧ ∀ j u, cs[j]? = some u → w.cell? ⟨b, off + i * 9 + j, none⟩ = some u) (k : Nat) (hk : k < l.length) :
    ∃ A c, RB w A c l[k].body ∧ w.cell? ⟨b, off + k * 9, none⟩ = some (.int .i64 l[k].kd) ∧ w.cell? ⟨b, off + k * 9 + 1, none⟩ = some (.int .i64 l[k].fm) ∧ w.cell? ⟨b, off + k * 9 + 2, none⟩ = some (.int .i64 l[k].to) ∧ w.cell? ⟨b, off + k * 9 + 3, none⟩ = some (.int .i64 l[k].sq) ∧ w.cell? ⟨b, off + k * 9 + 4, none⟩ = some (.int .i64 l[k].fr) ∧ w.cell? ⟨b, off + k * 9 + 5, none⟩ = some (.bool l[k].mo) ∧ w.cell? ⟨b, off + k * 9 + 6, none⟩ = some (.bool l[k].re) ∧ w.cell? ⟨b, off + k * 9 + 7, none⟩ = some (.int .i64 l[k].du) ∧ w.cell? ⟨b, off + k * 9 + 8, none⟩ = some (.slice A l[k].body.length c) := by
  obtain ⟨cs, ⟨A, c, rfl, hr⟩, h2⟩ := h k hk
  exact ⟨A, c, hr, h2 0 _ rfl, h2 1 _ rfl, h2 2 _ rfl, h2 3 _ rfl, h2 4 _ rfl, h2 5 _ rfl, h2 6 _ rfl, h2 7 _ rfl, h2 8 _ rfl⟩
theorem mac_one (m : Mac) (A : Option Addr) (n c : Nat) : ∀ u ∈ kMac.hd m (.slice A n c), u.oneCell' = true := by
  intro u hu
  simp [kMac] at hu
  rcases hu with rfl | rfl | rfl | rfl | rfl | rfl | rfl | rfl | rfl <;> rfl
theorem elMac : ElemTy Try.prog 81 33 9 80 := ElemTy.mk_ (z := .agg #[.int .i64 0, .int .i64 0, .int .i64 0, .int .i64 0, .int .i64 0, .bool false, .bool false, .int .i64 0, .slice none 0 0]) Try.underlying81 (by kernel_rfl) (by kernel_rfl) (by decide)
theorem eqMacS_ (w : World) (A A' : Option Addr) (n c c' : Nat) (l : List Mac) (hn : l.length = n) (hM : Els w A 9 (kE kMac) l) (hM' : Els w A' 9 (kE kMac) l) (hbb : ∀ m ∈ l, m.body.length ≤ 1048576) (hl : n ≤ 1048577) :
    Calls Try.prog 60 #[.slice A n c, .slice A' n c'] w fun e w' => e = .returned (.bool true) ∧ Below w.heap.size w w' := by
  subst hn
  have hbb' := Lib.hid hbb
  clear hbb
  go_enter Try.func60, Try.ntmps60
  go_wp2
  go_loopw [5] (fun i wr => ∃ k : Nat, k ≤ l.length ∧ i = .int .i64 k ∧ Ext w wr) (fun i _ => l.length - (intOf i).toNat)
  case atStart => exact ⟨0, Nat.zero_le _, rfl, Ext.refl _⟩
  case round =>
    obtain ⟨k, hk, rfl, hE⟩ := hrel
    by_cases hlt : k < l.length
    · obtain ⟨b, off, rfl, hb, hc⟩ := (els_up hM hE).at_ (List.ne_nil_of_length_pos (by omega))
      obtain ⟨b', off', rfl, hb', hc'⟩ := (els_up hM' hE).at_ (List.ne_nil_of_length_pos (by omega))
      obtain ⟨B, cB, hRB, k0, k1, k2, k3, k4, k5, k6, k7, k8⟩ := els_mac hc k hlt
      obtain ⟨B', cB', hRB', m0, m1, m2, m3, m4, m5, m6, m7, m8⟩ := els_mac hc' k hlt
      have hbl := hbb'.out _ (List.getElem_mem hlt)
      have R1 := Lib.hid hRB
      have R2 := Lib.hid hRB'
      clear hc hM hc' hM' hRB hRB'
      go_wp2_with fail
      refine wp_region_chain 10 (by kernel_rfl) (by kernel_rfl) ?_
      simp only [List.take_succ_cons, List.take_zero, List.drop_succ_cons, List.drop_zero]
      repeat (apply Chain.quiet; · (intro vs wq hEq hd; obtain ⟨hcq, hfq⟩ := bcell hEq; clear hEq hd; (try simp only [Act.put, SP.pick, SP.is, SP.box, id_eq, List.take_succ_cons, List.take_zero, List.drop_succ_cons, List.drop_zero, List.setIfInBounds_toArray, List.set_cons_zero, List.set_cons_succ]); refine growOp_go ?_; go_simp; exact ⟨Ext.refl _, rfl⟩))
      apply Chain.quiet
      · intro vs wq hEq hd
        clear hd
        (try simp only [Act.put, SP.pick, SP.is, SP.box, id_eq, List.take_succ_cons, List.take_zero, List.drop_succ_cons, List.drop_zero, List.setIfInBounds_toArray, List.set_cons_zero, List.set_cons_succ])
        refine growOp_go ?_
        go_simp
        refine (eqMac_ _ _ _ _ _ _ _ _ _ _ _ _ _ _ l[k].body rfl (R1.out.ext hEq) (R2.out.ext hEq) hbl).mono ?_
        rintro e w7 ⟨rfl, hb7⟩
        first | exact ⟨rfl, hb7⟩ | exact ⟨_, rfl, hb7, rfl⟩
      repeat (apply Chain.quiet; · (intro vs wq hEq hd; obtain ⟨hcq, hfq⟩ := bcell hEq; clear hEq hd; (try simp only [Act.put, SP.pick, SP.is, SP.box, id_eq, List.take_succ_cons, List.take_zero, List.drop_succ_cons, List.drop_zero, List.setIfInBounds_toArray, List.set_cons_zero, List.set_cons_succ]); refine growOp_go ?_; go_simp; exact ⟨Ext.refl _, rfl⟩))
      refine Chain.done ?_
      intro vs w8 hE8 hd8
      simp only [Act.put, SP.pick, SP.is, SP.box, id_eq, List.take_succ_cons, List.take_zero, List.drop_succ_cons, List.drop_zero, List.setIfInBounds_toArray, List.set_cons_zero, List.set_cons_succ]
      clear hd8
      go_wp2
      go_roundw
      case rel => exact ⟨k + 1, by omega, by go_num, Ext.trans hE hE8⟩
      case measure => simp [intOf]; omega
    · clear hM hM'
      go_wp2
      go_ret
      exact ⟨rfl, hE⟩
def mkMac (k : Int) (m : Mac) : Mac := ⟨k, k + 1, k + 1 + 1, k + 1 + 1 + 1, k + 1 + 1 + 1 + 1, ((k + 1 + 1 + 1 + 1 + 1) % 3 == 0), ((k + 1 + 1 + 1 + 1 + 1 + 1) % 3 == 0), k + 1 + 1 + 1 + 1 + 1 + 1 + 1, bytesK (k + 1 + 1 + 1 + 1 + 1 + 1 + 1 + 1) m.body.length⟩
def cMac (m : Mac) : Nat := 8 + m.body.length
theorem ownE_mac {w : World} {B C G : Nat} {T : TypeId} {es : List (El Mac)} (h : OwnE kMac w B C G T es) {i : Nat} (hi : i < es.length) :
    w.cell? ⟨G, i * 9, none⟩ = some (.int .i64 es[i].x.kd) ∧ w.cell? ⟨G, i * 9 + 1, none⟩ = some (.int .i64 es[i].x.fm) ∧ w.cell? ⟨G, i * 9 + 2, none⟩ = some (.int .i64 es[i].x.to) ∧ w.cell? ⟨G, i * 9 + 3, none⟩ = some (.int .i64 es[i].x.sq) ∧ w.cell? ⟨G, i * 9 + 4, none⟩ = some (.int .i64 es[i].x.fr) ∧ w.cell? ⟨G, i * 9 + 5, none⟩ = some (.bool es[i].x.mo) ∧ w.cell? ⟨G, i * 9 + 6, none⟩ = some (.bool es[i].x.re) ∧ w.cell? ⟨G, i * 9 + 7, none⟩ = some (.int .i64 es[i].x.du) ∧ w.cell? ⟨G, i * 9 + 8, none⟩ = some (.slice es[i].A es[i].x.body.length es[i].c) ∧ (∀ p, w.frozen? ⟨G, p, none⟩ = false) ∧ G < w.heap.size :=
  ⟨(h.at_ hi (j := 0) (by decide)).1, (h.at_ hi (j := 1) (by decide)).1, (h.at_ hi (j := 2) (by decide)).1, (h.at_ hi (j := 3) (by decide)).1, (h.at_ hi (j := 4) (by decide)).1, (h.at_ hi (j := 5) (by decide)).1, (h.at_ hi (j := 6) (by decide)).1, (h.at_ hi (j := 7) (by decide)).1, (h.at_ hi (j := 8) (by decide)).1, (h.at_ hi (j := 8) (by decide)).2⟩
theorem ownE_mac8 {w : World} {B C G : Nat} {T : TypeId} {es : List (El Mac)} (h : OwnE kMac w B C G T es) {i : Nat} (hi : i < es.length) (x0 x1 x2 x3 x4 : Int) (x5 x6 : Bool) (x7 : Int) :
    OwnE kMac ((((((((w.setCell ⟨G, i * 9, none⟩ (.int .i64 x0)).setCell ⟨G, i * 9 + 1, none⟩ (.int .i64 x1)).setCell ⟨G, i * 9 + 2, none⟩ (.int .i64 x2)).setCell ⟨G, i * 9 + 3, none⟩ (.int .i64 x3)).setCell ⟨G, i * 9 + 4, none⟩ (.int .i64 x4)).setCell ⟨G, i * 9 + 5, none⟩ (.bool x5)).setCell ⟨G, i * 9 + 6, none⟩ (.bool x6)).setCell ⟨G, i * 9 + 7, none⟩ (.int .i64 x7)) B C G T (es.set i { es[i] with x := ⟨x0, x1, x2, x3, x4, x5, x6, x7, es[i].x.body⟩ }) := by
  have h1 := h.setHd i (by simpa using hi) 0 (by decide) ⟨x0, es[i].x.fm, es[i].x.to, es[i].x.sq, es[i].x.fr, es[i].x.mo, es[i].x.re, es[i].x.du, es[i].x.body⟩ (.int .i64 x0) (by simp [kMac]) (fun v => by simp [kMac])
  have h2 := h1.setHd i (by simpa using hi) 1 (by decide) ⟨x0, x1, es[i].x.to, es[i].x.sq, es[i].x.fr, es[i].x.mo, es[i].x.re, es[i].x.du, es[i].x.body⟩ (.int .i64 x1) (by simp [kMac]) (fun v => by simp [kMac])
  have h3 := h2.setHd i (by simpa using hi) 2 (by decide) ⟨x0, x1, x2, es[i].x.sq, es[i].x.fr, es[i].x.mo, es[i].x.re, es[i].x.du, es[i].x.body⟩ (.int .i64 x2) (by simp [kMac]) (fun v => by simp [kMac])
  have h4 := h3.setHd i (by simpa using hi) 3 (by decide) ⟨x0, x1, x2, x3, es[i].x.fr, es[i].x.mo, es[i].x.re, es[i].x.du, es[i].x.body⟩ (.int .i64 x3) (by simp [kMac]) (fun v => by simp [kMac])
  have h5 := h4.setHd i (by simpa using hi) 4 (by decide) ⟨x0, x1, x2, x3, x4, es[i].x.mo, es[i].x.re, es[i].x.du, es[i].x.body⟩ (.int .i64 x4) (by simp [kMac]) (fun v => by simp [kMac])
  have h6 := h5.setHd i (by simpa using hi) 5 (by decide) ⟨x0, x1, x2, x3, x4, x5, es[i].x.re, es[i].x.du, es[i].x.body⟩ (.bool x5) (by simp [kMac]) (fun v => by simp [kMac])
  have h7 := h6.setHd i (by simpa using hi) 6 (by decide) ⟨x0, x1, x2, x3, x4, x5, x6, es[i].x.du, es[i].x.body⟩ (.bool x6) (by simp [kMac]) (fun v => by simp [kMac])
  have h8 := h7.setHd i (by simpa using hi) 7 (by decide) ⟨x0, x1, x2, x3, x4, x5, x6, x7, es[i].x.body⟩ (.int .i64 x7) (by simp [kMac]) (fun v => by simp [kMac])
  simpa [show kMac.size = 9 from rfl] using h8
theorem markMacS_ (w : World) (A : Option Addr) (n c B C : Nat) (k : Int) (l : List Mac) (hn : l.length = n) (hO : Own kMac w B C A l) (hk : 1 ≤ k) (hs : k + (sumC cMac l : Nat) ≤ 1073741824) :
    Calls Try.prog 61 #[.slice A n c, .int .i64 k] w fun e w' => e = .returned (.int .i64 (k + (sumC cMac l : Nat))) ∧ Chg w w' (fun b => B ≤ b ∧ b < C) ∧ w'.heap.size = w.heap.size ∧ Own kMac w' B C A (markL mkMac cMac k l) := by
  subst hn
  by_cases hl : l = []
  · subst hl
    clear hO hs
    simp only [List.length_nil]
    go_enter Try.func61, Try.ntmps61
    go_wp2
    go_loopw [1, 5] (fun kv i wr => kv = .int .i64 k ∧ i = .int .i64 0 ∧ wr = w) (fun _ _ _ => 0)
    case atStart => exact ⟨rfl, rfl, rfl⟩
    case round =>
      obtain ⟨rfl, rfl, rfl⟩ := hrel
      go_wp2
      go_ret
      exact ⟨by simp [sumC], Chg.refl _ _, rfl, .inl rfl⟩
  · obtain ⟨G, T, es0, rfl, hE0, hmap0⟩ := hO.open_ hl
    have hin := Lib.hid hE0
    have hmp := Lib.hid hmap0
    have hlim := Lib.hid (show l.length ≤ sumC cMac l from by
      clear hs hO hl hE0 hmap0 hin hmp
      induction l with
      | nil => simp
      | cons x xs ih => simp only [sumC, cMac, List.map_cons, List.sum_cons, List.length_cons] at ih ⊢; omega)
    have hln : l.length ≤ 1073741824 := by have := hlim.out; omega
    have hs' := Lib.hid hs
    clear hO hl hE0 hmap0 hs
    go_enter Try.func61, Try.ntmps61
    go_wp2
    go_loopw [1, 5] (fun kv i wr => ∃ m : Nat, ∃ kk : Int, m ≤ l.length ∧ i = .int .i64 m ∧ kv = .int .i64 kk ∧ Hid (kk = k + (sumC cMac (l.take m) : Nat)) ∧ Hid (∃ es : List (El Mac), OwnE kMac wr B C G T es ∧ es.map (·.x) = markL mkMac cMac k (l.take m) ++ l.drop m) ∧ Chg w wr (fun b => B ≤ b ∧ b < C) ∧ wr.heap.size = w.heap.size) (fun _ i _ => l.length - (intOf i).toNat)
    case atStart => exact ⟨0, k, Nat.zero_le _, rfl, rfl, Lib.hid (by simp [sumC]), Lib.hid ⟨es0, hin.out, by rw [hmp.out]; simp [markL]⟩, Chg.refl _ _, rfl⟩
    case round =>
      obtain ⟨m, kk, hm, rfl, rfl, hkk, hI, hC, hz⟩ := hrel
      clear hin hmp
      by_cases hlt : m < l.length
      · obtain ⟨es, hO, hmap⟩ := hI.out
        have hel : m < es.length := by
          have := congrArg List.length hmap
          simp [markL_len] at this
          omega
        have hx : es[m].x = l[m] := by
          have := mem_get hmap (m := m) (by simpa using hel) (by simp [markL_len]; omega)
          rw [markL_mid _ _ _ hlt] at this
          simpa using this
        have hkr : 1 ≤ kk ∧ kk + cMac l[m] ≤ 1073741824 := by
          have h1 := hkk.out
          have h2 := sumC_take (ct := cMac) l m hlt
          have h3 := sumC_le (ct := cMac) l (m + 1)
          have h4 := hs'.out
          omega
        have hcm : cMac l[m] = 8 + l[m].body.length := rfl
        obtain ⟨k0, k1, k2, k3, k4, k5, k6, k7, k8, hf, hG⟩ := ownE_mac hO hel
        have hO3 := ownE_mac8 hO hel kk (kk + 1) (kk + 1 + 1) (kk + 1 + 1 + 1) (kk + 1 + 1 + 1 + 1) ((kk + 1 + 1 + 1 + 1 + 1) % 3 == 0) ((kk + 1 + 1 + 1 + 1 + 1 + 1) % 3 == 0) (kk + 1 + 1 + 1 + 1 + 1 + 1 + 1)
        have hmp3 := hO3.body m (by simpa using hel)
        have hch3 := hO3.chgS m (by simpa using hel)
        simp only [List.getElem_set_self] at hmp3 hch3
        have hb3 := Lib.hid hmp3
        have hc3 := Lib.hid hch3
        have hOE := Lib.hid hO3
        have hmap' := Lib.hid hmap
        have hx' := Lib.hid hx
        rw [hx] at k0 k1 k2 k3 k4 k5 k6 k7 k8
        clear hmp3 hch3 hO3 hO hmap hI hx
        have hbl : l[m].body.length ≤ 1073741824 := by omega
        have hk3 : 1 ≤ kk + 1 + 1 + 1 + 1 + 1 + 1 + 1 + 1 ∧ kk + 1 + 1 + 1 + 1 + 1 + 1 + 1 + 1 ≤ 1099511627776 := by omega
        go_wp2_with fail
        refine (markByteS_ _ _ _ _ es[m].g _ hk3 hbl (by have h := hb3.out; rw [hx'.out] at h; exact h)).mono ?_
        rintro e w4 ⟨rfl, h1, h2, h3, h4⟩
        have hfin := Lib.hid (show ∃ es : List (El Mac), OwnE kMac w4 B C G T es ∧ es.map (·.x) = markL mkMac cMac k (l.take (m + 1)) ++ l.drop (m + 1) from by
          have hx := hx'.out
          refine ⟨_, hOE.out.setBd m (by simpa using hel) (mkMac kk l[m]) ?_ ?_ ?_ ?_ ?_, ?_⟩
          · simp [kMac, mkMac, bytesK_len, hx]
          · intro v; simp [kMac, mkMac]
          · simpa using h1
          · intro h; exact h3 (by rw [← hx]; simpa [kMac] using h)
          · intro h; simpa [kMac, mkMac] using h4 (by rw [← hx]; simpa [kMac] using h)
          · rw [map_set_x, map_set_x, hmap'.out, List.set_set, ← markL_step l k m hlt, hkk.out])
        have hC4 := Lib.hid (show Chg w w4 (fun b => B ≤ b ∧ b < C) from ((((((((hC.set (p := ⟨G, m * 9, none⟩) ⟨hOE.out.1, hOE.out.2.1⟩ _).set (p := ⟨G, m * 9 + 1, none⟩) ⟨hOE.out.1, hOE.out.2.1⟩ _).set (p := ⟨G, m * 9 + 2, none⟩) ⟨hOE.out.1, hOE.out.2.1⟩ _).set (p := ⟨G, m * 9 + 3, none⟩) ⟨hOE.out.1, hOE.out.2.1⟩ _).set (p := ⟨G, m * 9 + 4, none⟩) ⟨hOE.out.1, hOE.out.2.1⟩ _).set (p := ⟨G, m * 9 + 5, none⟩) ⟨hOE.out.1, hOE.out.2.1⟩ _).set (p := ⟨G, m * 9 + 6, none⟩) ⟨hOE.out.1, hOE.out.2.1⟩ _).set (p := ⟨G, m * 9 + 7, none⟩) ⟨hOE.out.1, hOE.out.2.1⟩ _).trans (chg_body h1 h3 (fun h => hc3.out (by rw [hx'.out] at *; simpa [kMac] using h))))
        have hz4 := Lib.hid (show w4.heap.size = w.heap.size by rw [h2]; simpa using hz)
        clear h1 h2 h3 h4 hOE hb3 hc3 hmap'
        go_wp2
        go_roundw
        case rel =>
          exact ⟨m + 1, _, by omega, by go_num, rfl, Lib.hid (by rw [sumC_take l m hlt, hkk.out, hcm]; omega), hfin, hC4.out, hz4.out⟩
        case measure => simp [intOf]; omega
      · obtain rfl : m = l.length := by omega
        have hF := Lib.hid (show Own kMac wr B C (some ⟨G, 0, none⟩) (markL mkMac cMac k l) from by
          obtain ⟨es, hO, hmap⟩ := hI.out
          rw [List.take_length, List.drop_length, List.append_nil] at hmap
          rw [← hmap]
          exact hO.own)
        have hkl := hkk.out
        rw [List.take_length] at hkl
        subst hkl
        clear hI hkk
        go_wp2
        go_ret
        exact ⟨rfl, hC, hz, hF.out⟩
set_option maxRecDepth 8000 in
theorem heldMacS_ (w : World) (A : Option Addr) (n c : Nat) (k : Int) (l : List Mac) (hn : l.length = n) (hM : Els w A 9 (kE kMac) (markL mkMac cMac k l)) (hk : 1 ≤ k) (hs : k + (sumC cMac l : Nat) ≤ 1073741824) :
    Calls Try.prog 62 #[.slice A n c, .int .i64 k] w fun e w' => e = .returned (.int .i64 (k + (sumC cMac l : Nat))) ∧ Below w.heap.size w w' := by
  subst hn
  have hlim := Lib.hid (show l.length ≤ sumC cMac l from by
    clear hs hM
    induction l with
    | nil => simp
    | cons x xs ih => simp only [sumC, cMac, List.map_cons, List.sum_cons, List.length_cons] at ih ⊢; omega)
  have hln : l.length ≤ 1073741824 := by have := hlim.out; omega
  have hs' := Lib.hid hs
  clear hs
  go_enter Try.func62, Try.ntmps62
  go_wp2
  go_loopw [1, 5] (fun kv i wr => ∃ m : Nat, ∃ kk : Int, m ≤ l.length ∧ i = .int .i64 m ∧ kv = .int .i64 kk ∧ Hid (kk = k + (sumC cMac (l.take m) : Nat)) ∧ Ext w wr) (fun _ i _ => l.length - (intOf i).toNat)
  case atStart => exact ⟨0, k, Nat.zero_le _, rfl, rfl, Lib.hid (by simp [sumC]), Ext.refl _⟩
  case round =>
    obtain ⟨m, kk, hm, rfl, rfl, hkk, hE⟩ := hrel
    by_cases hlt : m < l.length
    · obtain ⟨b, off, rfl, hb, hc⟩ := (els_up hM hE).at_ (List.ne_nil_of_length_pos (by rw [markL_len]; omega))
      obtain ⟨B, cB, hRB, k0, k1, k2, k3, k4, k5, k6, k7, k8⟩ := els_mac hc m (by rw [markL_len]; exact hlt)
      rw [markL_get l k m hlt, ← hkk.out] at k0 k1 k2 k3 k4 k5 k6 k7 k8 hRB
      have hkr : 1 ≤ kk ∧ kk + cMac l[m] ≤ 1073741824 := by
        have h1 := hkk.out
        have h2 := sumC_take (ct := cMac) l m hlt
        have h3 := sumC_le (ct := cMac) l (m + 1)
        have h4 := hs'.out
        omega
      have hcm : cMac l[m] = 8 + l[m].body.length := rfl
      simp only [mkMac, bytesK_len] at k0 k1 k2 k3 k4 k5 k6 k7 k8 hRB
      have hR := Lib.hid hRB
      have hbl : l[m].body.length ≤ 1073741824 := by omega
      have hk3 : 1 ≤ kk + 1 + 1 + 1 + 1 + 1 + 1 + 1 + 1 ∧ kk + 1 + 1 + 1 + 1 + 1 + 1 + 1 + 1 ≤ 1099511627776 := by omega
      clear hc hM hRB
      go_wp2_with fail
      refine (heldByteS_ _ _ _ _ _ hk3 hbl hR.out).mono ?_
      rintro e w4 ⟨rfl, hb4⟩
      have hnn : ¬ (kk + 1 + 1 + 1 + 1 + 1 + 1 + 1 + 1 + (l[m].body.length : Int) < 0) := by omega
      go_wp2
      go_roundw
      case rel =>
        exact ⟨m + 1, _, by omega, by go_num, rfl, Lib.hid (by rw [sumC_take l m hlt, hkk.out, hcm]; omega), Ext.trans hE hb4⟩
      case measure => simp [intOf]; omega
    · obtain rfl : m = l.length := by omega
      have hkl := hkk.out
      rw [List.take_length] at hkl
      subst hkl
      clear hM hkk
      go_wp2
      go_ret
      exact ⟨rfl, hE⟩
end Go.Proofs.Ytcjppmihmfcagaa
