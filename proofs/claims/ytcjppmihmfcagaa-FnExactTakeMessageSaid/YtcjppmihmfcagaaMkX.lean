/- Marks of a queue beside a message whose body's block is none of the queue's. -/
import Derived.Test.YtcjppmihmfcagaaMk2
namespace Go.Proofs.Ytcjppmihmfcagaa
open Go.RowKit
set_option linter.unusedVariables false
set_option linter.unusedSimpArgs false

/-- None of a row's blocks is X. -/
def AvE {α : Type} (K : Kind α) (X G : Nat) (es : List (El α)) : Prop := G ≠ X ∧ ∀ e ∈ es, K.bd e.x ≠ [] → e.g ≠ X
def OwnX {α : Type} (K : Kind α) (w : World) (B C X : Nat) (A : Option Addr) (l : List α) : Prop :=
  l = [] ∨ ∃ (G : Nat) (T : TypeId) (es : List (El α)), A = some ⟨G, 0, none⟩ ∧ OwnE K w B C G T es ∧ AvE K X G es ∧ es.map (·.x) = l
section
variable {α : Type} {K : Kind α} {w w' : World} {B C X G : Nat} {T : TypeId} {es : List (El α)} {A : Option Addr} {l : List α}
theorem AvE.set (h : AvE K X G es) (i : Nat) (hi : i < es.length) {x' : α} (hb : (K.bd x').length = (K.bd es[i].x).length) : AvE K X G (es.set i { es[i] with x := x' }) := by
  refine ⟨h.1, fun e he h0 => ?_⟩
  rcases List.mem_or_eq_of_mem_set he with he | rfl
  · exact h.2 e he h0
  · refine h.2 es[i] (List.getElem_mem _) fun h1 => h0 ?_
    rw [h1] at hb
    exact List.eq_nil_of_length_eq_zero (by simpa using hb)
theorem OwnX.own (h : OwnX K w B C X A l) : Own K w B C A l := by
  rcases h with h | ⟨G, T, es, rfl, h1, _, rfl⟩
  · exact .inl h
  · exact h1.own
theorem OwnX.ext (h : OwnX K w B C X A l) (hE : Ext w w') : OwnX K w' B C X A l := by
  rcases h with h | ⟨G, T, es, h0, ⟨h1, h2, ⟨cs, h3, h4⟩, h5⟩, h6, h7⟩
  · exact .inl h
  · exact .inr ⟨G, T, es, h0, ⟨h1, h2, ⟨cs, ext_blk hE h3, h4⟩, h5.ext hE⟩, h6, h7⟩
theorem OwnX.chg {S : Nat → Prop} (h : OwnX K w B C X A l) (hc : Chg w w' S) (hS : ∀ x, B ≤ x → x < C → x ≠ X → ¬ S x) : OwnX K w' B C X A l := by
  rcases h with h | ⟨G, T, es, h0, ⟨h1, h2, ⟨cs, h3, h4⟩, h5⟩, h6, h7⟩
  · exact .inl h
  · refine .inr ⟨G, T, es, h0, ⟨h1, h2, ⟨cs, by rw [hc.block G (heap_lt h3) (hS G h1 h2 h6.1), h3], h4⟩, ⟨fun e he => (h5.1 e he).chg hc fun h0 => ?_, h5.2⟩⟩, h6, h7⟩
    obtain ⟨_, _, q⟩ := h5.1 e he
    obtain ⟨_, q2, q3, _⟩ := q.resolve_left h0
    exact hS _ q2 q3 (h6.2 e he h0)
/-- Nothing of a row lies at X where X is not below its bound. -/
theorem Own.x (h : Own K w B C A l) (hX : C ≤ X ∨ X < B) : OwnX K w B C X A l := by
  by_cases hl : l = []
  · exact .inl hl
  · obtain ⟨G, T, es, h0, h1, h2⟩ := h.open_ hl
    obtain ⟨q1, q2, _, hB⟩ := h1
    refine .inr ⟨G, T, es, h0, ⟨q1, q2, ‹_›, hB⟩, ⟨by omega, fun e he h0 => ?_⟩, h2⟩
    obtain ⟨_, _, q⟩ := hB.1 e he
    obtain ⟨_, a, b, _⟩ := q.resolve_left h0
    omega
theorem OwnX.mono {B' C' : Nat} (h : OwnX K w B C X A l) (hB : B' ≤ B) (hC : C ≤ C') : OwnX K w B' C' X A l := by
  rcases h with h | ⟨G, T, es, h0, ⟨h1, h2, ⟨cs, h3, h4⟩, h5⟩, h6, h7⟩
  · exact .inl h
  · exact .inr ⟨G, T, es, h0, ⟨by omega, by omega, ⟨cs, h3, h4⟩, h5.mono hB hC⟩, h6, h7⟩
end
theorem markMsgSX_ (w : World) (A : Option Addr) (n c B C X : Nat) (k : Int) (l : List Msg) (hn : l.length = n) (hO : OwnX kMsg w B C X A l) (hk : 1 ≤ k) (hs : k + (sumC cMsg l : Nat) ≤ 1073741824) :
    Calls Try.prog 78 #[.slice A n c, .int .i64 k] w fun e w' => e = .returned (.int .i64 (k + (sumC cMsg l : Nat))) ∧ Chg w w' (fun b => (B ≤ b ∧ b < C) ∧ b ≠ X) ∧ w'.heap.size = w.heap.size ∧ OwnX kMsg w' B C X A (markL mkMsg cMsg k l) := by
  subst hn
  by_cases hl : l = []
  · subst hl
    clear hO hs
    simp only [List.length_nil]
    go_enter Try.func78, Try.ntmps78
    go_wp2
    go_loopw [1, 5] (fun kv i wr => kv = .int .i64 k ∧ i = .int .i64 0 ∧ wr = w) (fun _ _ _ => 0)
    case atStart => exact ⟨rfl, rfl, rfl⟩
    case round =>
      obtain ⟨rfl, rfl, rfl⟩ := hrel
      go_wp2
      go_ret
      exact ⟨by simp [sumC], Chg.refl _ _, rfl, .inl rfl⟩
  · obtain ⟨G, T, es0, rfl, hE0, hav0, hmap0⟩ := hO.resolve_left hl
    have hav1 := Lib.hid hav0
    clear hav0
    have hin := Lib.hid hE0
    have hmp := Lib.hid hmap0
    have hlim := Lib.hid (show l.length ≤ sumC cMsg l from by
      clear hs hO hl hE0 hmap0 hin hmp
      induction l with
      | nil => simp
      | cons x xs ih => simp only [sumC, cMsg, List.map_cons, List.sum_cons, List.length_cons] at ih ⊢; omega)
    have hln : l.length ≤ 1073741824 := by have := hlim.out; omega
    have hs' := Lib.hid hs
    clear hO hl hE0 hmap0 hs
    go_enter Try.func78, Try.ntmps78
    go_wp2
    go_loopw [1, 5] (fun kv i wr => ∃ m : Nat, ∃ kk : Int, m ≤ l.length ∧ i = .int .i64 m ∧ kv = .int .i64 kk ∧ Hid (kk = k + (sumC cMsg (l.take m) : Nat)) ∧ Hid (∃ es : List (El Msg), OwnE kMsg wr B C G T es ∧ AvE kMsg X G es ∧ es.map (·.x) = markL mkMsg cMsg k (l.take m) ++ l.drop m) ∧ Chg w wr (fun b => (B ≤ b ∧ b < C) ∧ b ≠ X) ∧ wr.heap.size = w.heap.size) (fun _ i _ => l.length - (intOf i).toNat)
    case atStart => exact ⟨0, k, Nat.zero_le _, rfl, rfl, Lib.hid (by simp [sumC]), Lib.hid ⟨es0, hin.out, hav1.out, by rw [hmp.out]; simp [markL]⟩, Chg.refl _ _, rfl⟩
    case round =>
      obtain ⟨m, kk, hm, rfl, rfl, hkk, hI, hC, hz⟩ := hrel
      clear hin hmp hav1
      by_cases hlt : m < l.length
      · obtain ⟨es, hO, hav, hmap⟩ := hI.out
        have hav' := Lib.hid hav
        clear hav
        have hel : m < es.length := by
          have := congrArg List.length hmap
          simp [markL_len] at this
          omega
        have hx : es[m].x = l[m] := by
          have := mem_get hmap (m := m) (by simpa using hel) (by simp [markL_len]; omega)
          rw [markL_mid _ _ _ hlt] at this
          simpa using this
        have hkr : 1 ≤ kk ∧ kk + cMsg l[m] ≤ 1073741824 := by
          have h1 := hkk.out
          have h2 := sumC_take (ct := cMsg) l m hlt
          have h3 := sumC_le (ct := cMsg) l (m + 1)
          have h4 := hs'.out
          omega
        have hcm : cMsg l[m] = 3 + l[m].body.length := rfl
        obtain ⟨k0, k1, k2, k3, hf, hG⟩ := ownE_msg hO hel
        have hO3 := ownE_msg3 hO hel kk (kk + 1) (kk + 1 + 1)
        have hmp3 := hO3.body m (by simpa using hel)
        have hch3 := hO3.chgS m (by simpa using hel)
        have hav3 := Lib.hid (hav'.out.set m hel (x' := ⟨kk, kk + 1, kk + 1 + 1, es[m].x.body⟩) rfl)
        simp only [List.getElem_set_self] at hmp3 hch3
        have hb3 := Lib.hid hmp3
        have hc3 := Lib.hid hch3
        have hOE := Lib.hid hO3
        have hmap' := Lib.hid hmap
        have hx' := Lib.hid hx
        rw [hx] at k0 k1 k2 k3
        clear hmp3 hch3 hO3 hO hmap hI hx
        have hbl : l[m].body.length ≤ 1073741824 := by omega
        have hk3 : 1 ≤ kk + 1 + 1 + 1 ∧ kk + 1 + 1 + 1 ≤ 1099511627776 := by omega
        go_wp2_with fail
        refine (markByteS_ _ _ _ _ es[m].g _ hk3 hbl (by have h := hb3.out; rw [hx'.out] at h; exact h)).mono ?_
        rintro e w4 ⟨rfl, h1, h2, h3, h4⟩
        have hfin := Lib.hid (show ∃ es : List (El Msg), OwnE kMsg w4 B C G T es ∧ AvE kMsg X G es ∧ es.map (·.x) = markL mkMsg cMsg k (l.take (m + 1)) ++ l.drop (m + 1) from by
          have hx := hx'.out
          refine ⟨_, hOE.out.setBd m (by simpa using hel) (mkMsg kk l[m]) ?_ ?_ ?_ ?_ ?_, hav3.out.set m (by simpa using hel) (by simp [kMsg, mkMsg, bytesK_len, hx]), ?_⟩
          · simp [kMsg, mkMsg, bytesK_len, hx]
          · intro v; simp [kMsg, mkMsg]
          · simpa using h1
          · intro h; exact h3 (by rw [← hx]; simpa [kMsg] using h)
          · intro h; simpa [kMsg, mkMsg] using h4 (by rw [← hx]; simpa [kMsg] using h)
          · rw [map_set_x, map_set_x, hmap'.out, List.set_set, ← markL_step l k m hlt, hkk.out])
        have hC4 := Lib.hid (show Chg w w4 (fun b => (B ≤ b ∧ b < C) ∧ b ≠ X) from (((hC.set (p := ⟨G, m * 4, none⟩) ⟨⟨hOE.out.1, hOE.out.2.1⟩, hav'.out.1⟩ _).set (p := ⟨G, m * 4 + 1, none⟩) ⟨⟨hOE.out.1, hOE.out.2.1⟩, hav'.out.1⟩ _).set (p := ⟨G, m * 4 + 2, none⟩) ⟨⟨hOE.out.1, hOE.out.2.1⟩, hav'.out.1⟩ _).trans (chg_body h1 h3 (fun h => ⟨hc3.out (by rw [hx'.out] at *; simpa [kMsg] using h), hav'.out.2 es[m] (List.getElem_mem _) (by rw [hx'.out]; intro h0; exact h (by simpa [kMsg] using h0))⟩)))
        have hz4 := Lib.hid (show w4.heap.size = w.heap.size by rw [h2]; simpa using hz)
        clear h1 h2 h3 h4 hOE hb3 hc3 hmap'
        go_wp2
        go_roundw
        case rel =>
          exact ⟨m + 1, _, by omega, by go_num, rfl, Lib.hid (by rw [sumC_take l m hlt, hkk.out, hcm]; omega), hfin, hC4.out, hz4.out⟩
        case measure => simp [intOf]; omega
      · obtain rfl : m = l.length := by omega
        have hF := Lib.hid (show OwnX kMsg wr B C X (some ⟨G, 0, none⟩) (markL mkMsg cMsg k l) from by
          obtain ⟨es, hO, hav, hmap⟩ := hI.out
          rw [List.take_length, List.drop_length, List.append_nil] at hmap
          exact .inr ⟨G, T, es, rfl, hO, hav, hmap⟩)
        have hkl := hkk.out
        rw [List.take_length] at hkl
        subst hkl
        clear hI hkk
        go_wp2
        go_ret
        exact ⟨rfl, hC, hz, hF.out⟩
theorem markTqX_ (w : World) (A : Option Addr) (n c B C X : Nat) (d k : Int) (l : List Msg) (hn : l.length = n) (hO : OwnX kMsg w B C X A l) (hBC : C ≤ w.heap.size) (hk : 1 ≤ k) (hs : k + (sumC cMsg l : Nat) ≤ 1073741824) :
    Calls Try.prog 38 #[.agg #[.slice A n c, .int .i64 d], .int .i64 k] w fun e w' => e = .returned (.int .i64 (k + (sumC cMsg l : Nat))) ∧ Chg w w' (fun b => (B ≤ b ∧ b < C) ∧ b ≠ X) ∧ OwnX kMsg w' B C X A (markL mkMsg cMsg k l) := by
  have hE := Ext.alloc_ w (.cells #[.slice A n c, .int .i64 d] 54)
  have hO' := Lib.hid (hO.ext hE)
  have hE' := Lib.hid hE
  have hn' := Lib.hid hn
  have hs' := Lib.hid hs
  clear hO hE hn hs
  go_enter Try.func38, Try.ntmps38
  go_wp2_with fail
  refine (markMsgSX_ _ _ _ _ B C X _ l hn'.out hO'.out hk hs'.out).mono ?_
  rintro e w1 ⟨rfl, h1, h2, h3⟩
  have h1' := Lib.hid h1
  have h3' := Lib.hid h3
  clear h1 h2 h3
  go_wp2_with fail
  go_ret
  exact ⟨rfl, (Chg.of_ext _ hE'.out).trans h1'.out, h3'.out⟩
end Go.Proofs.Ytcjppmihmfcagaa
