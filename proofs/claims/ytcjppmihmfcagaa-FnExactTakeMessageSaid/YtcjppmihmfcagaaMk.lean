/- Marks of messages, reassemblies, frames, seen frames: what the rows hold then, and that the check sees it. -/
import Derived.Test.YtcjppmihmfcagaaMark
import Derived.Test.YtcjppmihmfcagaaSeen
import Derived.Test.YtcjppmihmfcagaaMac
namespace Go.Proofs.Ytcjppmihmfcagaa
open Go.RowKit
set_option linter.unusedVariables false
set_option linter.unusedSimpArgs false

section
variable {α : Type} {K : Kind α} {w w' : World} {B C G : Nat} {T : TypeId} {es : List (El α)}
theorem OwnE.body (h : OwnE K w B C G T es) (i : Nat) (hi : i < es.length) : (K.bd es[i].x).length = 0 ∨ es[i].A = some ⟨es[i].g, 0, none⟩ ∧ ∃ (cs : Array Value) (T : TypeId), w.heap[es[i].g]? = some (.cells cs T (0, 0)) ∧ (K.bd es[i].x).length ≤ cs.size := by
  obtain ⟨_, _, _, hB⟩ := h
  obtain ⟨_, _, q⟩ := hB.1 es[i] (List.getElem_mem _)
  rcases q with q | ⟨a, b, c, d, cs, T, e, f⟩
  · exact .inl (by rw [q]; rfl)
  · refine .inr ⟨a, cs, T, e, ?_⟩
    rcases Nat.lt_or_ge cs.size (K.bd es[i].x).length with h | h
    · have := f cs.size _ (List.getElem?_eq_getElem h)
      rw [Array.getElem?_eq_none (Nat.le_refl _)] at this
      cases this
    · exact h
theorem OwnE.chgS (h : OwnE K w B C G T es) (i : Nat) (hi : i < es.length) (h0 : (K.bd es[i].x).length ≠ 0) : B ≤ es[i].g ∧ es[i].g < C := by
  obtain ⟨_, _, _, hB⟩ := h
  obtain ⟨_, _, q⟩ := hB.1 es[i] (List.getElem_mem _)
  obtain ⟨a, b, c, _⟩ := q.resolve_left (by intro h; exact h0 (by rw [h]; rfl))
  exact ⟨b, c⟩
theorem map_set_x (i : Nat) (e' : El α) : (es.set i e').map (·.x) = (es.map (·.x)).set i e'.x := List.map_set
theorem chg_body {n g : Nat} {S : Nat → Prop} (h : Chg w w' (fun b => b = g)) (h0 : n = 0 → w' = w) (hS : n ≠ 0 → S g) : Chg w w' S := by
  by_cases hn : n = 0
  · rw [h0 hn]; exact Chg.refl _ _
  · exact h.mono fun x hx => by rw [hx]; exact hS hn
theorem mem_get {l l' : List α} {m : Nat} (h : l = l') (h1 : m < l.length) (h2 : m < l'.length) : l[m] = l'[m] := by subst h; rfl
theorem Own.nil' {A : Option Addr} : Own K w B C A [] := .inl rfl
end

def mkMsg (k : Int) (m : Msg) : Msg := ⟨k, k + 1, k + 1 + 1, bytesK (k + 1 + 1 + 1) m.body.length⟩
def cMsg (m : Msg) : Nat := 3 + m.body.length
theorem ownE_msg {w : World} {B C G : Nat} {T : TypeId} {es : List (El Msg)} (h : OwnE kMsg w B C G T es) {i : Nat} (hi : i < es.length) :
    w.cell? ⟨G, i * 4, none⟩ = some (.int .i64 es[i].x.to) ∧ w.cell? ⟨G, i * 4 + 1, none⟩ = some (.int .i64 es[i].x.cat) ∧ w.cell? ⟨G, i * 4 + 2, none⟩ = some (.int .i64 es[i].x.dl) ∧ w.cell? ⟨G, i * 4 + 3, none⟩ = some (.slice es[i].A es[i].x.body.length es[i].c) ∧ (∀ p, w.frozen? ⟨G, p, none⟩ = false) ∧ G < w.heap.size :=
  ⟨(h.at_ hi (j := 0) (by decide)).1, (h.at_ hi (j := 1) (by decide)).1, (h.at_ hi (j := 2) (by decide)).1, (h.at_ hi (j := 3) (by decide)).1, (h.at_ hi (j := 3) (by decide)).2⟩
theorem ownE_msg3 {w : World} {B C G : Nat} {T : TypeId} {es : List (El Msg)} (h : OwnE kMsg w B C G T es) {i : Nat} (hi : i < es.length) (x y z : Int) :
    OwnE kMsg (((w.setCell ⟨G, i * 4, none⟩ (.int .i64 x)).setCell ⟨G, i * 4 + 1, none⟩ (.int .i64 y)).setCell ⟨G, i * 4 + 2, none⟩ (.int .i64 z)) B C G T (es.set i { es[i] with x := ⟨x, y, z, es[i].x.body⟩ }) := by
  have h1 := h.setHd i hi 0 (by decide) { es[i].x with to := x } (.int .i64 x) rfl (fun v => rfl)
  have h2 := h1.setHd i (by simpa using hi) 1 (by decide) ⟨x, y, es[i].x.dl, es[i].x.body⟩ (.int .i64 y) (by simp [kMsg]) (fun v => by simp [kMsg])
  have h3 := h2.setHd i (by simpa using hi) 2 (by decide) ⟨x, y, z, es[i].x.body⟩ (.int .i64 z) (by simp [kMsg]) (fun v => by simp [kMsg])
  simpa [show kMsg.size = 4 from rfl] using h3
theorem markMsgS_ (w : World) (A : Option Addr) (n c B C : Nat) (k : Int) (l : List Msg) (hn : l.length = n) (hO : Own kMsg w B C A l) (hk : 1 ≤ k) (hs : k + (sumC cMsg l : Nat) ≤ 1073741824) :
    Calls Try.prog 78 #[.slice A n c, .int .i64 k] w fun e w' => e = .returned (.int .i64 (k + (sumC cMsg l : Nat))) ∧ Chg w w' (fun b => B ≤ b ∧ b < C) ∧ w'.heap.size = w.heap.size ∧ Own kMsg w' B C A (markL mkMsg cMsg k l) := by
  subst hn
  by_cases hl : l = []
  · subst hl
    clear hO hs
    simp only [List.length_nil]
    go_enter Try.func78, Try.ntmps78
    go_wp2
    go_loopw [1, 5] (fun kv i wr => kv = .int .i64 k ∧ i = .int .i64 0 ∧ wr = w) (fun _ _ _ => 0)
    case atStart => exact ⟨rfl, rfl, rfl⟩
    case round =>
      obtain ⟨rfl, rfl, rfl⟩ := hrel
      go_wp2
      go_ret
      exact ⟨by simp [sumC], Chg.refl _ _, rfl, .inl rfl⟩
  · obtain ⟨G, T, es0, rfl, hE0, hmap0⟩ := hO.open_ hl
    have hin := Lib.hid hE0
    have hmp := Lib.hid hmap0
    have hlim := Lib.hid (show l.length ≤ sumC cMsg l from by
      clear hs hO hl hE0 hmap0 hin hmp
      induction l with
      | nil => simp
      | cons x xs ih => simp only [sumC, cMsg, List.map_cons, List.sum_cons, List.length_cons] at ih ⊢; omega)
    have hln : l.length ≤ 1073741824 := by have := hlim.out; omega
    have hs' := Lib.hid hs
    clear hO hl hE0 hmap0 hs
    go_enter Try.func78, Try.ntmps78
    go_wp2
    go_loopw [1, 5] (fun kv i wr => ∃ m : Nat, ∃ kk : Int, m ≤ l.length ∧ i = .int .i64 m ∧ kv = .int .i64 kk ∧ Hid (kk = k + (sumC cMsg (l.take m) : Nat)) ∧ Hid (∃ es : List (El Msg), OwnE kMsg wr B C G T es ∧ es.map (·.x) = markL mkMsg cMsg k (l.take m) ++ l.drop m) ∧ Chg w wr (fun b => B ≤ b ∧ b < C) ∧ wr.heap.size = w.heap.size) (fun _ i _ => l.length - (intOf i).toNat)
    case atStart => exact ⟨0, k, Nat.zero_le _, rfl, rfl, Lib.hid (by simp [sumC]), Lib.hid ⟨es0, hin.out, by rw [hmp.out]; simp [markL]⟩, Chg.refl _ _, rfl⟩
    case round =>
      obtain ⟨m, kk, hm, rfl, rfl, hkk, hI, hC, hz⟩ := hrel
      clear hin hmp
      by_cases hlt : m < l.length
      · obtain ⟨es, hO, hmap⟩ := hI.out
        have hel : m < es.length := by
          have := congrArg List.length hmap
          simp [markL_len] at this
          omega
        have hx : es[m].x = l[m] := by
          have := mem_get hmap (m := m) (by simpa using hel) (by simp [markL_len]; omega)
          rw [markL_mid _ _ _ hlt] at this
          simpa using this
        have hkr : 1 ≤ kk ∧ kk + cMsg l[m] ≤ 1073741824 := by
          have h1 := hkk.out
          have h2 := sumC_take (ct := cMsg) l m hlt
          have h3 := sumC_le (ct := cMsg) l (m + 1)
          have h4 := hs'.out
          omega
        have hcm : cMsg l[m] = 3 + l[m].body.length := rfl
        obtain ⟨k0, k1, k2, k3, hf, hG⟩ := ownE_msg hO hel
        have hO3 := ownE_msg3 hO hel kk (kk + 1) (kk + 1 + 1)
        have hmp3 := hO3.body m (by simpa using hel)
        have hch3 := hO3.chgS m (by simpa using hel)
        simp only [List.getElem_set_self] at hmp3 hch3
        have hb3 := Lib.hid hmp3
        have hc3 := Lib.hid hch3
        have hOE := Lib.hid hO3
        have hmap' := Lib.hid hmap
        have hx' := Lib.hid hx
        rw [hx] at k0 k1 k2 k3
        clear hmp3 hch3 hO3 hO hmap hI hx
        have hbl : l[m].body.length ≤ 1073741824 := by omega
        have hk3 : 1 ≤ kk + 1 + 1 + 1 ∧ kk + 1 + 1 + 1 ≤ 1099511627776 := by omega
        go_wp2_with fail
        refine (markByteS_ _ _ _ _ es[m].g _ hk3 hbl (by have h := hb3.out; rw [hx'.out] at h; exact h)).mono ?_
        rintro e w4 ⟨rfl, h1, h2, h3, h4⟩
        have hfin := Lib.hid (show ∃ es : List (El Msg), OwnE kMsg w4 B C G T es ∧ es.map (·.x) = markL mkMsg cMsg k (l.take (m + 1)) ++ l.drop (m + 1) from by
          have hx := hx'.out
          refine ⟨_, hOE.out.setBd m (by simpa using hel) (mkMsg kk l[m]) ?_ ?_ ?_ ?_ ?_, ?_⟩
          · simp [kMsg, mkMsg, bytesK_len, hx]
          · intro v; simp [kMsg, mkMsg]
          · simpa using h1
          · intro h; exact h3 (by rw [← hx]; simpa [kMsg] using h)
          · intro h; simpa [kMsg, mkMsg] using h4 (by rw [← hx]; simpa [kMsg] using h)
          · rw [map_set_x, map_set_x, hmap'.out, List.set_set, ← markL_step l k m hlt, hkk.out])
        have hC4 := Lib.hid (show Chg w w4 (fun b => B ≤ b ∧ b < C) from (((hC.set (p := ⟨G, m * 4, none⟩) ⟨hOE.out.1, hOE.out.2.1⟩ _).set (p := ⟨G, m * 4 + 1, none⟩) ⟨hOE.out.1, hOE.out.2.1⟩ _).set (p := ⟨G, m * 4 + 2, none⟩) ⟨hOE.out.1, hOE.out.2.1⟩ _).trans (chg_body h1 h3 (fun h => hc3.out (by rw [hx'.out] at *; simpa [kMsg] using h))))
        have hz4 := Lib.hid (show w4.heap.size = w.heap.size by rw [h2]; simpa using hz)
        clear h1 h2 h3 h4 hOE hb3 hc3 hmap'
        go_wp2
        go_roundw
        case rel =>
          exact ⟨m + 1, _, by omega, by go_num, rfl, Lib.hid (by rw [sumC_take l m hlt, hkk.out, hcm]; omega), hfin, hC4.out, hz4.out⟩
        case measure => simp [intOf]; omega
      · obtain rfl : m = l.length := by omega
        have hF := Lib.hid (show Own kMsg wr B C (some ⟨G, 0, none⟩) (markL mkMsg cMsg k l) from by
          obtain ⟨es, hO, hmap⟩ := hI.out
          rw [List.take_length, List.drop_length, List.append_nil] at hmap
          rw [← hmap]
          exact hO.own)
        have hkl := hkk.out
        rw [List.take_length] at hkl
        subst hkl
        clear hI hkk
        go_wp2
        go_ret
        exact ⟨rfl, hC, hz, hF.out⟩
theorem heldMsgS_ (w : World) (A : Option Addr) (n c : Nat) (k : Int) (l : List Msg) (hn : l.length = n) (hM : Els w A 4 (kE kMsg) (markL mkMsg cMsg k l)) (hk : 1 ≤ k) (hs : k + (sumC cMsg l : Nat) ≤ 1073741824) :
    Calls Try.prog 79 #[.slice A n c, .int .i64 k] w fun e w' => e = .returned (.int .i64 (k + (sumC cMsg l : Nat))) ∧ Below w.heap.size w w' := by
  subst hn
  have hlim := Lib.hid (show l.length ≤ sumC cMsg l from by
    clear hs hM
    induction l with
    | nil => simp
    | cons x xs ih => simp only [sumC, cMsg, List.map_cons, List.sum_cons, List.length_cons] at ih ⊢; omega)
  have hln : l.length ≤ 1073741824 := by have := hlim.out; omega
  have hs' := Lib.hid hs
  clear hs
  go_enter Try.func79, Try.ntmps79
  go_wp2
  go_loopw [1, 5] (fun kv i wr => ∃ m : Nat, ∃ kk : Int, m ≤ l.length ∧ i = .int .i64 m ∧ kv = .int .i64 kk ∧ Hid (kk = k + (sumC cMsg (l.take m) : Nat)) ∧ Ext w wr) (fun _ i _ => l.length - (intOf i).toNat)
  case atStart => exact ⟨0, k, Nat.zero_le _, rfl, rfl, Lib.hid (by simp [sumC]), Ext.refl _⟩
  case round =>
    obtain ⟨m, kk, hm, rfl, rfl, hkk, hE⟩ := hrel
    by_cases hlt : m < l.length
    · obtain ⟨b, off, rfl, hb, hc⟩ := (els_up hM hE).at_ (List.ne_nil_of_length_pos (by rw [markL_len]; omega))
      obtain ⟨B, cB, hRB, k0, k1, k2, k3⟩ := els_msg hc m (by rw [markL_len]; exact hlt)
      rw [markL_get l k m hlt, ← hkk.out] at k0 k1 k2 k3 hRB
      have hkr : 1 ≤ kk ∧ kk + cMsg l[m] ≤ 1073741824 := by
        have h1 := hkk.out
        have h2 := sumC_take (ct := cMsg) l m hlt
        have h3 := sumC_le (ct := cMsg) l (m + 1)
        have h4 := hs'.out
        omega
      have hcm : cMsg l[m] = 3 + l[m].body.length := rfl
      simp only [mkMsg, bytesK_len] at k0 k1 k2 k3 hRB
      have hR := Lib.hid hRB
      have hbl : l[m].body.length ≤ 1073741824 := by omega
      have hk3 : 1 ≤ kk + 1 + 1 + 1 ∧ kk + 1 + 1 + 1 ≤ 1099511627776 := by omega
      clear hc hM hRB
      go_wp2_with fail
      refine (heldByteS_ _ _ _ _ _ hk3 hbl hR.out).mono ?_
      rintro e w4 ⟨rfl, hb4⟩
      have hnn : ¬ (kk + 1 + 1 + 1 + (l[m].body.length : Int) < 0) := by omega
      go_wp2
      go_roundw
      case rel =>
        exact ⟨m + 1, _, by omega, by go_num, rfl, Lib.hid (by rw [sumC_take l m hlt, hkk.out, hcm]; omega), Ext.trans hE hb4⟩
      case measure => simp [intOf]; omega
    · obtain rfl : m = l.length := by omega
      have hkl := hkk.out
      rw [List.take_length] at hkl
      subst hkl
      clear hM hkk
      go_wp2
      go_ret
      exact ⟨rfl, hE⟩
end Go.Proofs.Ytcjppmihmfcagaa
