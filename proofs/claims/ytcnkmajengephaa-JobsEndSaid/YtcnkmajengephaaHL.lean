/- Mine. Chapter 31, by hand: the law JobsEnd. -/
import Derived.Test.YtcnkmajengephaaHK
namespace Go.Proofs.Ytcnkmajengephaa.H
open Go Go.Proofs Go.RowKit Go.Lib Go.Proofs.Ytcnkmajengephaa.P Go.Proofs.YtcnkmajengephaaW.PrintWords Go.Proofs.YtcnkmajengephaaW.PrintLast Go.Proofs.YtcnkmajengephaaW.PrintMore
set_option linter.unusedVariables false
set_option linter.unusedSimpArgs false
def jk (kind : Int) (key : ByteArray) : S36 := ⟨0, kind, 0, key, ⟨#[]⟩, 0, ⟨0, 0⟩, ⟨0, 0⟩, false, 0, 0, 0⟩
/-- The law's nodes. -/
def eN (n : ND) (clk : Int) (js : List S36) (rs : List S51) (iv : Int) : ND := { n with a2 := clk, l9 := js, l10 := rs, a12 := iv }
def jA (n : ND) (kind : Int) (key : ByteArray) : S36 := { jk kind key with f0 := addId n, f11 := n.a2 + 200 }
theorem e_add (n : ND) (kind : Int) (key : ByteArray) (h0 : 0 ≤ n.a2) (h1 : n.a2 ≤ 1099511627776) : addN { n with l9 := [], l10 := [] } (jk kind key) = eN n n.a2 [jA n kind key] [] (addId n) ∧ addI { n with l9 := [], l10 := [] } = addId n ∧ addE { n with l9 := [], l10 := [] } = 0 := by
  have hn : nowF { n with l9 := [], l10 := [] } = n.a2 := by
    show nowF n = n.a2
    unfold nowF
    rw [if_neg (by omega), if_neg (by omega)]
  refine ⟨?_, rfl, rfl⟩
  show ({ n with l9 := [addJ { n with l9 := [], l10 := [] } (jk kind key)], l10 := [], a12 := addId n } : ND) = _
  unfold addJ
  rw [hn]
  rfl
theorem e_keep (n : ND) (clk : Int) (j : S36) (iv : Int) (h : keepJ clk j = true) : lateN (eN n clk [j] [] iv) = eN n clk [j] [] iv := by
  have h1 : ([j] : List S36).filter (keepJ clk) = [j] := by simp [h]
  have h2 : resAll clk [] [j] = [] := by
    show resStep clk [] j = []
    unfold resStep
    rw [if_pos h]
  show ({ n with a2 := clk, l9 := ([j] : List S36).filter (keepJ clk), l10 := resAll clk [] [j], a12 := iv } : ND) = _
  rw [h1, h2]
  rfl
theorem e_told (n : ND) (clk : Int) (j : S36) (iv : Int) (h : keepJ clk j = false) (hk : j.f1 = 2 ∨ j.f1 = 3) : lateN (eN n clk [j] [] iv) = eN n clk [] [⟨j.f0, j.f1, j.f3, ⟨#[]⟩, false, 18⟩] iv := by
  have h1 : ([j] : List S36).filter (keepJ clk) = [] := by simp [h]
  have h2 : resAll clk [] [j] = [⟨j.f0, j.f1, j.f3, ⟨#[]⟩, false, 18⟩] := by
    show resStep clk [] j = _
    unfold resStep toldL
    rw [if_neg (by simp [h]), if_pos hk]
    rfl
  show ({ n with a2 := clk, l9 := ([j] : List S36).filter (keepJ clk), l10 := resAll clk [] [j], a12 := iv } : ND) = _
  rw [h1, h2]
  rfl
theorem e_none (n : ND) (clk : Int) (r : S51) (iv : Int) : lateN (eN n clk [] [r] iv) = eN n clk [] [r] iv := rfl
theorem eN_nb {n : ND} (h : NB n) (clk : Int) (js : List S36) (rs : List S51) (iv : Int) (h1 : js.length ≤ 1) (h2 : rs.length ≤ 1) : NB (eN n clk js rs iv) := ⟨h.b4, h.b5, h.b6, h.b7, h.b8, by show js.length * _ ≤ _; omega, by show rs.length * _ ≤ _; omega⟩
theorem eN_clk {w : World} {base : Nat} {n : ND} {clk clk' iv : Int} {js : List S36} {rs : List S51} {s : NA} (h : NR w base (eN n clk js rs iv) s) : NR w base (eN n clk' js rs iv) s := ⟨h.o4, h.o5, h.o6, h.o7, h.o8, h.o9, h.o10⟩
/-- A late node, its cells written out. -/
def LateE (n : ND) (clk : Int) (k r : Nat) (js : List S36) (rs : List S51) (iv : Int) (W : World) (e : Ending) (w' : World) : Prop := ∃ s : NA, e = .returned (.agg #[.int .u64 n.a0, .int .u16 n.a1, .int .i64 clk, .bool n.a3, .slice s.A4 n.l4.length s.c4, .slice s.A5 n.l5.length s.c5, .slice s.A6 n.l6.length s.c6, .slice s.A7 n.l7.length s.c7, .slice s.A8 n.l8.length s.c8, .slice s.A9 k s.c9, .slice s.A10 r s.c10, .int .u32 n.a11, .int .i64 iv, .int .i64 n.a13]) ∧ NR w' W.heap.size (eN n clk js rs iv) s ∧ Below W.heap.size W w'
set_option maxRecDepth 100000 in
set_option maxHeartbeats 16000000 in
theorem ends_calls (n : ND) (s : NA) (kind : Int) (key : ByteArray) (w : World) (h : NC w n s) (hb : NB n) :
    Calls Try.prog 5 #[nv n s, .int .i64 kind, .string key] w fun e w' => e = .returned (.bool true) ∧ Below w.heap.size w w' := by
  obtain ⟨lg, HLG, hlb⟩ := large_ok n s
  have HLG := Aside0.mk HLG
  obtain ⟨g, hg⟩ : ∃ g, w.heap.size = g := ⟨_, rfl⟩
  obtain ⟨W, hW⟩ : ∃ W, w.alloc (.cells #[.int .u64 n.a0, .int .u16 n.a1, .int .i64 n.a2, .bool n.a3, .slice s.A4 n.l4.length s.c4, .slice s.A5 n.l5.length s.c5, .slice s.A6 n.l6.length s.c6, .slice s.A7 n.l7.length s.c7, .slice s.A8 n.l8.length s.c8, .slice s.A9 n.l9.length s.c9, .slice s.A10 n.l10.length s.c10, .int .u32 n.a11, .int .i64 n.a12, .int .i64 n.a13] 34) = W := ⟨_, rfl⟩
  have hbW : Below w.heap.size w W := by rw [← hW]; exact below_alloc (Below.refl _ _) _
  have e5 : W.heap[g]? = some (.cells #[.int .u64 n.a0, .int .u16 n.a1, .int .i64 n.a2, .bool n.a3, .slice s.A4 n.l4.length s.c4, .slice s.A5 n.l5.length s.c5, .slice s.A6 n.l6.length s.c6, .slice s.A7 n.l7.length s.c7, .slice s.A8 n.l8.length s.c8, .slice s.A9 n.l9.length s.c9, .slice s.A10 n.l10.length s.c10, .int .u32 n.a11, .int .i64 n.a12, .int .i64 n.a13] 34 (0, 0)) := by rw [← hW, ← hg]; exact heap_alloc_new w _
  have hsW : W.heap.size = g + 1 := by rw [← hW, ← hg]; simp
  have HN := Aside0.mk h
  have HNB := Aside0.mk hb
  have HBW := Aside0.mk hbW
  have HGG := Aside0.mk hg
  have HSW := Aside0.mk hsW
  have HE5 := Aside0.mk e5
  clear h hb hbW hlb hsW
  have hcs : lg = true ∨ (lg = false ∧ (n.a2 < 0) = True) ∨ (lg = false ∧ (n.a2 < 0) = False ∧ (1099511627776 < n.a2) = True) ∨ (lg = false ∧ (n.a2 < 0) = False ∧ (1099511627776 < n.a2) = False ∧ ((300 : Int) < (key.size : Int)) = True) ∨ (lg = false ∧ (n.a2 < 0) = False ∧ (1099511627776 < n.a2) = False ∧ ((300 : Int) < (key.size : Int)) = False ∧ (kind < 1) = True) ∨ (lg = false ∧ (n.a2 < 0) = False ∧ (1099511627776 < n.a2) = False ∧ ((300 : Int) < (key.size : Int)) = False ∧ (kind < 1) = False ∧ (3 < kind) = True) ∨ (lg = false ∧ (n.a2 < 0) = False ∧ (1099511627776 < n.a2) = False ∧ ((300 : Int) < (key.size : Int)) = False ∧ (kind < 1) = False ∧ (3 < kind) = False) := by
    cases lg
    · refine .inr ?_
      by_cases h1 : n.a2 < 0
      · exact .inl ⟨rfl, eq_true h1⟩
      refine .inr ?_
      by_cases h2 : 1099511627776 < n.a2
      · exact .inl ⟨rfl, eq_false h1, eq_true h2⟩
      refine .inr ?_
      by_cases h3 : (300 : Int) < (key.size : Int)
      · exact .inl ⟨rfl, eq_false h1, eq_false h2, eq_true h3⟩
      refine .inr ?_
      by_cases h4 : kind < 1
      · exact .inl ⟨rfl, eq_false h1, eq_false h2, eq_false h3, eq_true h4⟩
      refine .inr ?_
      by_cases h5 : 3 < kind
      · exact .inl ⟨rfl, eq_false h1, eq_false h2, eq_false h3, eq_false h4, eq_true h5⟩
      exact .inr ⟨rfl, eq_false h1, eq_false h2, eq_false h3, eq_false h4, eq_false h5⟩
    · exact .inl rfl
  rcases hcs with rfl | ⟨rfl, h1⟩ | ⟨rfl, h1, h2⟩ | ⟨rfl, h1, h2, h3⟩ | ⟨rfl, h1, h2, h3, h4⟩ | ⟨rfl, h1, h2, h3, h4, h5⟩ | ⟨rfl, h1, h2, h3, h4, h5⟩
  iterate 6
    · go_enter Try.func5, Try.ntmps5
      go_wp2_with (refine gate_ (.load 34 (.tmp 3)) rfl ?_; refine wpList_load_row rfl 34 _ rfl (g) rfl 34 _ (0, 0) _ e5 Try.underlying34 rfl (by kernel_rfl) ?_)
      refine (HLG.out W (HN.out.below HBW.out)).mono ?_
      rintro e w1 ⟨rfl, hb1⟩
      have HB1 := Aside0.mk (below_then HBW.out HBW.out.size hb1)
      have c2 : w1.cell? ⟨g, 2, none⟩ = some (.int .i64 n.a2) := (blk_cell ((hb1.block g (blk_lt HE5.out)).trans HE5.out) 2).trans rfl
      clear hb1 e5 hW
      go_wp2_with fail
      refine (awake_ok _).mono ?_
      rintro e wz ⟨rfl, hbz⟩
      have HBZ := Aside0.mk hbz
      clear hbz
      go_wp2_with fail
      go_ret
      exact ⟨rfl, below_then (HB1.out) (HB1.out).size HBZ.out⟩
  · obtain ⟨iv, hiv⟩ : ∃ iv, addId n = iv := ⟨_, rfl⟩
    obtain ⟨jj, hjj⟩ : ∃ jj, jA n kind key = jj := ⟨_, rfl⟩
    have hclk : 0 ≤ n.a2 ∧ n.a2 ≤ 1099511627776 := ⟨by have := of_eq_false h1; omega, by have := of_eq_false h2; omega⟩
    have hjf : jj.f0 = iv ∧ jj.f1 = kind ∧ jj.f3 = key ∧ jj.f11 = n.a2 + 200 := by rw [← hjj, ← hiv]; exact ⟨rfl, rfl, rfl, rfl⟩
    have hk13 : 1 ≤ kind ∧ kind ≤ 3 := ⟨by have := of_eq_false h4; omega, by have := of_eq_false h5; omega⟩
    have HADD : Aside0 (∀ V : World, NC V { n with l9 := [], l10 := [] } { s with A9 := none, c9 := 0, A10 := none, c10 := 0 } → Calls Try.prog 8 #[.agg #[.int .u64 n.a0, .int .u16 n.a1, .int .i64 n.a2, .bool n.a3, .slice s.A4 n.l4.length s.c4, .slice s.A5 n.l5.length s.c5, .slice s.A6 n.l6.length s.c6, .slice s.A7 n.l7.length s.c7, .slice s.A8 n.l8.length s.c8, .slice none 0 0, .slice none 0 0, .int .u32 n.a11, .int .i64 n.a12, .int .i64 n.a13], .agg #[.int .i64 0, .int .i64 kind, .int .i64 0, .string key, .string ⟨#[]⟩, .int .u64 0, .int .u64 0, .int .u16 0, .int .u64 0, .int .u16 0, .bool false, .int .i64 0, .int .i64 0, .int .i64 0]] V fun e w' => ∃ s1 : NA, e = .returned (.tuple #[.agg #[.int .u64 n.a0, .int .u16 n.a1, .int .i64 n.a2, .bool n.a3, .slice s1.A4 n.l4.length s1.c4, .slice s1.A5 n.l5.length s1.c5, .slice s1.A6 n.l6.length s1.c6, .slice s1.A7 n.l7.length s1.c7, .slice s1.A8 n.l8.length s1.c8, .slice s1.A9 1 s1.c9, .slice s1.A10 0 s1.c10, .int .u32 n.a11, .int .i64 iv, .int .i64 n.a13], .int .i64 iv, .int .i64 0]) ∧ NR w' V.heap.size (eN n n.a2 [jj] [] iv) s1 ∧ Below V.heap.size V w') := ⟨fun V hV => by
      have h := add_ok { n with l9 := [], l10 := [] } { s with A9 := none, c9 := 0, A10 := none, c10 := 0 } (jk kind key) V hV (eN_nb HNB.out n.a2 [] [] n.a12 (by decide) (by decide))
      rw [(e_add n kind key hclk.1 hclk.2).1, (e_add n kind key hclk.1 hclk.2).2.1, (e_add n kind key hclk.1 hclk.2).2.2, hiv, hjj] at h
      exact h⟩
    have HL1 : Aside0 (∀ (V : World) (s1 : NA), NC V (eN n (n.a2 + 200) [jj] [] iv) s1 → Calls Try.prog 13 #[.agg #[.int .u64 n.a0, .int .u16 n.a1, .int .i64 (n.a2 + 200), .bool n.a3, .slice s1.A4 n.l4.length s1.c4, .slice s1.A5 n.l5.length s1.c5, .slice s1.A6 n.l6.length s1.c6, .slice s1.A7 n.l7.length s1.c7, .slice s1.A8 n.l8.length s1.c8, .slice s1.A9 1 s1.c9, .slice s1.A10 0 s1.c10, .int .u32 n.a11, .int .i64 iv, .int .i64 n.a13]] V (LateE n (n.a2 + 200) 1 0 [jj] [] iv V)) := ⟨fun V s1 hV => by
      have h := late_ok (eN n (n.a2 + 200) [jj] [] iv) s1 V hV (eN_nb HNB.out _ _ _ _ (Nat.le_refl 1) (Nat.zero_le 1)) (Nat.zero_le _) (by show (1 : Nat) ≤ _; omega)
      rw [e_keep n (n.a2 + 200) jj iv (by unfold keepJ; rw [hjf.2.2.2]; simp)] at h
      exact h⟩
    have HLK : Aside0 (kind = 1 → ∀ (V : World) (s1 : NA), NC V (eN n (n.a2 + 201) [jj] [] iv) s1 → Calls Try.prog 13 #[.agg #[.int .u64 n.a0, .int .u16 n.a1, .int .i64 (n.a2 + 201), .bool n.a3, .slice s1.A4 n.l4.length s1.c4, .slice s1.A5 n.l5.length s1.c5, .slice s1.A6 n.l6.length s1.c6, .slice s1.A7 n.l7.length s1.c7, .slice s1.A8 n.l8.length s1.c8, .slice s1.A9 1 s1.c9, .slice s1.A10 0 s1.c10, .int .u32 n.a11, .int .i64 iv, .int .i64 n.a13]] V (LateE n (n.a2 + 201) 1 0 [jj] [] iv V)) := ⟨fun hk V s1 hV => by
      have h := late_ok (eN n (n.a2 + 201) [jj] [] iv) s1 V hV (eN_nb HNB.out _ _ _ _ (Nat.le_refl 1) (Nat.zero_le 1)) (Nat.zero_le _) (by show (1 : Nat) ≤ _; omega)
      rw [e_keep n (n.a2 + 201) jj iv (by unfold keepJ; rw [hjf.2.1, hk]; simp)] at h
      exact h⟩
    obtain ⟨rr, hrr⟩ : ∃ rr : S51, (⟨jj.f0, jj.f1, jj.f3, ⟨#[]⟩, false, 18⟩ : S51) = rr := ⟨_, rfl⟩
    have HLT : Aside0 (kind ≠ 1 → ∀ (V : World) (s1 : NA), NC V (eN n (n.a2 + 201) [jj] [] iv) s1 → Calls Try.prog 13 #[.agg #[.int .u64 n.a0, .int .u16 n.a1, .int .i64 (n.a2 + 201), .bool n.a3, .slice s1.A4 n.l4.length s1.c4, .slice s1.A5 n.l5.length s1.c5, .slice s1.A6 n.l6.length s1.c6, .slice s1.A7 n.l7.length s1.c7, .slice s1.A8 n.l8.length s1.c8, .slice s1.A9 1 s1.c9, .slice s1.A10 0 s1.c10, .int .u32 n.a11, .int .i64 iv, .int .i64 n.a13]] V (LateE n (n.a2 + 201) 0 1 [] [rr] iv V)) := ⟨fun hk V s1 hV => by
      have h := late_ok (eN n (n.a2 + 201) [jj] [] iv) s1 V hV (eN_nb HNB.out _ _ _ _ (Nat.le_refl 1) (Nat.zero_le 1)) (Nat.zero_le _) (by show (1 : Nat) ≤ _; omega)
      rw [e_told n (n.a2 + 201) jj iv (by unfold keepJ; rw [hjf.2.1, hjf.2.2.2]; simp; omega) (by rw [hjf.2.1]; omega), hrr] at h
      exact h⟩
    have HLN : Aside0 (∀ (V : World) (s1 : NA), NC V (eN n (n.a2 + 201) [] [rr] iv) s1 → Calls Try.prog 13 #[.agg #[.int .u64 n.a0, .int .u16 n.a1, .int .i64 (n.a2 + 201), .bool n.a3, .slice s1.A4 n.l4.length s1.c4, .slice s1.A5 n.l5.length s1.c5, .slice s1.A6 n.l6.length s1.c6, .slice s1.A7 n.l7.length s1.c7, .slice s1.A8 n.l8.length s1.c8, .slice s1.A9 0 s1.c9, .slice s1.A10 1 s1.c10, .int .u32 n.a11, .int .i64 iv, .int .i64 n.a13]] V (LateE n (n.a2 + 201) 0 1 [] [rr] iv V)) := ⟨fun V s1 hV => by
      have h := late_ok (eN n (n.a2 + 201) [] [rr] iv) s1 V hV (eN_nb HNB.out _ _ _ _ (Nat.zero_le 1) (Nat.le_refl 1)) (by show (1 : Nat) ≤ _; omega) (Nat.zero_le _)
      rw [e_none] at h
      exact h⟩
    have HRR : Aside0 (rr = ⟨iv, kind, key, ⟨#[]⟩, false, 18⟩) := ⟨by rw [← hrr, hjf.1, hjf.2.1, hjf.2.2.1]⟩
    have hw1 : wrap64 (n.a2 + 200) = n.a2 + 200 := by unfold wrap64; omega
    have hw2 : wrap64 (n.a2 + 200 + 1) = n.a2 + 201 := by unfold wrap64; omega
    have HW1 := Aside0.mk hw1
    have HW2 := Aside0.mk hw2
    clear hiv hjj hclk hjf hrr hw1 hw2
    have hkc : (kind = 1 ∧ (kind == 1) = true) ∨ (kind ≠ 1 ∧ (kind == 1) = false) := by
      by_cases hk : kind = 1
      · exact .inl ⟨hk, by simp [hk]⟩
      · exact .inr ⟨hk, by simp [hk]⟩
    clear hk13
    rcases hkc with ⟨hk, hkb⟩ | ⟨hk, hkb⟩
    · have HK := Aside0.mk hk
      clear hk
      go_enter Try.func5, Try.ntmps5
      go_wp2_with (refine gate_ (.load 34 (.tmp 3)) rfl ?_; refine wpList_load_row rfl 34 _ rfl (g) rfl 34 _ (0, 0) _ e5 Try.underlying34 rfl (by kernel_rfl) ?_)
      refine (HLG.out W (HN.out.below HBW.out)).mono ?_
      rintro e w1 ⟨rfl, hb1⟩
      have HB1 := Aside0.mk (below_then HBW.out HBW.out.size hb1)
      have f5 := (hb1.block g (blk_lt HE5.out)).trans HE5.out
      have c2 : w1.cell? ⟨g, 2, none⟩ = some (.int .i64 n.a2) := (blk_cell f5 2).trans rfl
      have HGL : Aside0 (g < w1.heap.size) := ⟨blk_lt f5⟩
      clear hb1 e5 hW
      go_wp2_with (first | (refine gate_ (.load 34 (.tmp 3)) rfl ?_; refine wpList_load_row rfl 34 _ rfl (g) rfl 34 _ (0, 0) _ e7 Try.underlying34 rfl (by kernel_rfl) ?_) | (refine store_box (.store 30 (.tmp 38) (.const (.slice none 0 0))) 30 _ _ (g) 9 _ #[.int .u64 n.a0, .int .u16 n.a1, .int .i64 n.a2, .bool n.a3, .slice s.A4 n.l4.length s.c4, .slice s.A5 n.l5.length s.c5, .slice s.A6 n.l6.length s.c6, .slice s.A7 n.l7.length s.c7, .slice s.A8 n.l8.length s.c8, .slice none 0 0, .slice s.A10 n.l10.length s.c10, .int .u32 n.a11, .int .i64 n.a12, .int .i64 n.a13] 34 (.slice none 0 0) [.slice none 0 0] rfl rfl rfl rfl rfl rfl f5 rfl (by kernel_rfl) (by simp) (by simp [Value.oneCell']) (by simp) ?_; intro w2 e6 hs2; have HS2 := Aside0.mk hs2; clear hs2 f5 c2) | (refine store_box (.store 31 (.tmp 39) (.const (.slice none 0 0))) 31 _ _ (g) 10 _ #[.int .u64 n.a0, .int .u16 n.a1, .int .i64 n.a2, .bool n.a3, .slice s.A4 n.l4.length s.c4, .slice s.A5 n.l5.length s.c5, .slice s.A6 n.l6.length s.c6, .slice s.A7 n.l7.length s.c7, .slice s.A8 n.l8.length s.c8, .slice none 0 0, .slice none 0 0, .int .u32 n.a11, .int .i64 n.a12, .int .i64 n.a13] 34 (.slice none 0 0) [.slice none 0 0] rfl rfl rfl rfl rfl rfl e6 rfl (by kernel_rfl) (by simp) (by simp [Value.oneCell']) (by simp) ?_; intro w3 e7 hs3; have HS3 := Aside0.mk hs3; clear hs3 e6))
      have hw3 : Below w.heap.size w w3 := HS3.out.on (by have := HGG.out; omega) (HS2.out.on (by have := HGG.out; omega) HB1.out)
      have HW3 := Aside0.mk hw3
      have hn3 := HN.out.below hw3
      refine (HADD.out w3 ⟨hn3.r4, hn3.q4, hn3.r5, hn3.q5, hn3.r6, hn3.q6, hn3.r7, hn3.q7, hn3.r8, hn3.q8, C_nil _ _, Nat.le_refl _, C_nil _ _, Nat.le_refl _⟩).mono ?_
      rintro e w4 ⟨s4, rfl, hN4, hb4⟩
      have HN4 := Aside0.mk hN4
      have HB4 := Aside0.mk (below_then hw3 hw3.size hb4)
      have hz := heap_alloc_new w4 (.cells #[.int .u64 0, .int .u16 0, .int .i64 0, .bool false, .slice none 0 0, .slice none 0 0, .slice none 0 0, .slice none 0 0, .slice none 0 0, .slice none 0 0, .slice none 0 0, .int .u32 0, .int .i64 0, .int .i64 0] 34)
      clear hw3 hn3 hN4 hb4 e7
      go_wp2_with (first | (refine store_box (.store 34 (.tmp 7) (.tmp 46)) 34 _ _ (w4.heap.size) 0 _ #[.int .u64 n.a0, .int .u16 n.a1, .int .i64 n.a2, .bool n.a3, .slice s4.A4 n.l4.length s4.c4, .slice s4.A5 n.l5.length s4.c5, .slice s4.A6 n.l6.length s4.c6, .slice s4.A7 n.l7.length s4.c7, .slice s4.A8 n.l8.length s4.c8, .slice s4.A9 1 s4.c9, .slice s4.A10 0 s4.c10, .int .u32 n.a11, .int .i64 iv, .int .i64 n.a13] 34 _ [.int .u64 n.a0, .int .u16 n.a1, .int .i64 n.a2, .bool n.a3, .slice s4.A4 n.l4.length s4.c4, .slice s4.A5 n.l5.length s4.c5, .slice s4.A6 n.l6.length s4.c6, .slice s4.A7 n.l7.length s4.c7, .slice s4.A8 n.l8.length s4.c8, .slice s4.A9 1 s4.c9, .slice s4.A10 0 s4.c10, .int .u32 n.a11, .int .i64 iv, .int .i64 n.a13] rfl rfl rfl rfl rfl rfl hz rfl (by kernel_rfl) (by simp) (by simp [Value.oneCell']) (by simp) ?_; intro v4 e8 hs4; have HS4 := Aside0.mk hs4; have c2 : v4.cell? ⟨w4.heap.size, 2, none⟩ = some (.int .i64 n.a2) := (blk_cell e8 2).trans rfl; clear hs4 hz) | (refine store_box (.store 3 (.tmp 54) (.tmp 53)) 3 _ _ (w4.heap.size) 2 _ #[.int .u64 n.a0, .int .u16 n.a1, .int .i64 (n.a2 + 200), .bool n.a3, .slice s4.A4 n.l4.length s4.c4, .slice s4.A5 n.l5.length s4.c5, .slice s4.A6 n.l6.length s4.c6, .slice s4.A7 n.l7.length s4.c7, .slice s4.A8 n.l8.length s4.c8, .slice s4.A9 1 s4.c9, .slice s4.A10 0 s4.c10, .int .u32 n.a11, .int .i64 iv, .int .i64 n.a13] 34 (.int .i64 (n.a2 + 200)) [.int .i64 (n.a2 + 200)] rfl rfl rfl rfl rfl (congrArg (Value.int .i64) HW1.out) e8 rfl (by kernel_rfl) (by simp) (by simp [Value.oneCell']) (by simp) ?_; intro w5 e9 hs5; have HS5 := Aside0.mk hs5; clear hs5 e8 c2) | (refine gate_ (.load 34 (.tmp 7)) rfl ?_; refine wpList_load_row rfl 34 _ rfl (w4.heap.size) rfl 34 _ (0, 0) _ e9 Try.underlying34 rfl (by kernel_rfl) ?_))
      have HBV4 := Aside0.mk (sto_new HS4.out)
      have hr5 : NR w5 w3.heap.size (eN n (n.a2 + 200) [jj] [] iv) s4 := eN_clk (HN4.out.step (fun k h1 hlt => (HS5.out.far k (by omega)).trans (HBV4.out.block k hlt)))
      refine (HL1.out w5 s4 hr5.reads).mono ?_
      rintro e w6 ⟨s6, rfl, hN6, hb6⟩
      have HN6 := Aside0.mk hN6
      have hw5 : Below w.heap.size w w5 := HS5.out.on (by have := HB4.out.size; omega) (below_then HB4.out HB4.out.size HBV4.out)
      have HB6 := Aside0.mk (below_then hw5 hw5.size hb6)
      have hz := heap_alloc_new w6 (.cells #[.int .u64 0, .int .u16 0, .int .i64 0, .bool false, .slice none 0 0, .slice none 0 0, .slice none 0 0, .slice none 0 0, .slice none 0 0, .slice none 0 0, .slice none 0 0, .int .u32 0, .int .i64 0, .int .i64 0] 34)
      clear hw5 hN6 hb6 hr5 e9
      go_wp2_with (first | (refine store_box (.store 34 (.tmp 10) (.tmp 56)) 34 _ _ (w6.heap.size) 0 _ #[.int .u64 n.a0, .int .u16 n.a1, .int .i64 (n.a2 + 200), .bool n.a3, .slice s6.A4 n.l4.length s6.c4, .slice s6.A5 n.l5.length s6.c5, .slice s6.A6 n.l6.length s6.c6, .slice s6.A7 n.l7.length s6.c7, .slice s6.A8 n.l8.length s6.c8, .slice s6.A9 1 s6.c9, .slice s6.A10 0 s6.c10, .int .u32 n.a11, .int .i64 iv, .int .i64 n.a13] 34 _ [.int .u64 n.a0, .int .u16 n.a1, .int .i64 (n.a2 + 200), .bool n.a3, .slice s6.A4 n.l4.length s6.c4, .slice s6.A5 n.l5.length s6.c5, .slice s6.A6 n.l6.length s6.c6, .slice s6.A7 n.l7.length s6.c7, .slice s6.A8 n.l8.length s6.c8, .slice s6.A9 1 s6.c9, .slice s6.A10 0 s6.c10, .int .u32 n.a11, .int .i64 iv, .int .i64 n.a13] rfl rfl rfl rfl rfl rfl hz rfl (by kernel_rfl) (by simp) (by simp [Value.oneCell']) (by simp) ?_; intro v6 e10 hs6; have HS6 := Aside0.mk hs6; have c2 : v6.cell? ⟨w6.heap.size, 2, none⟩ = some (.int .i64 (n.a2 + 200)) := (blk_cell e10 2).trans rfl; clear hs6 hz) | (refine store_box (.store 3 (.tmp 60) (.tmp 59)) 3 _ _ (w6.heap.size) 2 _ #[.int .u64 n.a0, .int .u16 n.a1, .int .i64 (n.a2 + 201), .bool n.a3, .slice s6.A4 n.l4.length s6.c4, .slice s6.A5 n.l5.length s6.c5, .slice s6.A6 n.l6.length s6.c6, .slice s6.A7 n.l7.length s6.c7, .slice s6.A8 n.l8.length s6.c8, .slice s6.A9 1 s6.c9, .slice s6.A10 0 s6.c10, .int .u32 n.a11, .int .i64 iv, .int .i64 n.a13] 34 (.int .i64 (n.a2 + 201)) [.int .i64 (n.a2 + 201)] rfl rfl rfl rfl rfl (congrArg (Value.int .i64) HW2.out) e10 rfl (by kernel_rfl) (by simp) (by simp [Value.oneCell']) (by simp) ?_; intro w7 e11 hs7; have HS7 := Aside0.mk hs7; clear hs7 e10 c2) | (refine gate_ (.load 34 (.tmp 10)) rfl ?_; refine wpList_load_row rfl 34 _ rfl (w6.heap.size) rfl 34 _ (0, 0) _ e11 Try.underlying34 rfl (by kernel_rfl) ?_))
      have HBV6 := Aside0.mk (sto_new HS6.out)
      have hr7 : NR w7 w5.heap.size (eN n (n.a2 + 201) [jj] [] iv) s6 := eN_clk (HN6.out.step (fun k h1 hlt => (HS7.out.far k (by omega)).trans (HBV6.out.block k hlt)))
      have hw7 : Below w.heap.size w w7 := HS7.out.on (by have := HB6.out.size; omega) (below_then HB6.out HB6.out.size HBV6.out)
      refine (HLK.out HK.out w7 s6 hr7.reads).mono ?_
      rintro e w8 ⟨s8, rfl, hN8, hb8⟩
      have HN8 := Aside0.mk hN8
      have HB8 := Aside0.mk (below_then hw7 hw7.size hb8)
      have F11 := Aside0.mk ((hb8.block _ (blk_lt e11)).trans e11)
      have hz := heap_alloc_new w8 (.cells #[.int .u64 0, .int .u16 0, .int .i64 0, .bool false, .slice none 0 0, .slice none 0 0, .slice none 0 0, .slice none 0 0, .slice none 0 0, .slice none 0 0, .slice none 0 0, .int .u32 0, .int .i64 0, .int .i64 0] 34)
      clear hw7 hr7 hN8 hb8 e11
      go_wp2_with ((refine store_box (.store 34 (.tmp 11) (.tmp 62)) 34 _ _ (w8.heap.size) 0 _ #[.int .u64 n.a0, .int .u16 n.a1, .int .i64 (n.a2 + 201), .bool n.a3, .slice s8.A4 n.l4.length s8.c4, .slice s8.A5 n.l5.length s8.c5, .slice s8.A6 n.l6.length s8.c6, .slice s8.A7 n.l7.length s8.c7, .slice s8.A8 n.l8.length s8.c8, .slice s8.A9 1 s8.c9, .slice s8.A10 0 s8.c10, .int .u32 n.a11, .int .i64 iv, .int .i64 n.a13] 34 _ [.int .u64 n.a0, .int .u16 n.a1, .int .i64 (n.a2 + 201), .bool n.a3, .slice s8.A4 n.l4.length s8.c4, .slice s8.A5 n.l5.length s8.c5, .slice s8.A6 n.l6.length s8.c6, .slice s8.A7 n.l7.length s8.c7, .slice s8.A8 n.l8.length s8.c8, .slice s8.A9 1 s8.c9, .slice s8.A10 0 s8.c10, .int .u32 n.a11, .int .i64 iv, .int .i64 n.a13] rfl rfl rfl rfl rfl rfl hz rfl (by kernel_rfl) (by simp) (by simp [Value.oneCell']) (by simp) ?_; intro v8 e12 hs8; have HS8 := Aside0.mk hs8; have q11 := ((sto_new hs8).block _ (blk_lt F11.out)).trans F11.out; have c9b : v8.cell? ⟨w6.heap.size, 9, none⟩ = some (.slice s6.A9 1 s6.c9) := (blk_cell q11 9).trans rfl; have c10b : v8.cell? ⟨w6.heap.size, 10, none⟩ = some (.slice s6.A10 0 s6.c10) := (blk_cell q11 10).trans rfl; have d9 : v8.cell? ⟨w8.heap.size, 9, none⟩ = some (.slice s8.A9 1 s8.c9) := (blk_cell e12 9).trans rfl; have d10 : v8.cell? ⟨w8.heap.size, 10, none⟩ = some (.slice s8.A10 0 s8.c10) := (blk_cell e12 10).trans rfl; clear hs8 hz q11))
      have HB9 : Aside0 (Below w.heap.size w v8) := ⟨below_then HB8.out HB8.out.size (sto_new HS8.out)⟩
      clear c9b c10b d9 d10 e12
      refine (awake_ok _).mono ?_
      rintro e wz ⟨rfl, hbz⟩
      have HBZ := Aside0.mk hbz
      clear hbz
      go_wp2_with fail
      go_ret
      exact ⟨rfl, below_then HB9.out HB9.out.size HBZ.out⟩
    · have HK := Aside0.mk hk
      clear hk
      go_enter Try.func5, Try.ntmps5
      go_wp2_with (refine gate_ (.load 34 (.tmp 3)) rfl ?_; refine wpList_load_row rfl 34 _ rfl (g) rfl 34 _ (0, 0) _ e5 Try.underlying34 rfl (by kernel_rfl) ?_)
      refine (HLG.out W (HN.out.below HBW.out)).mono ?_
      rintro e w1 ⟨rfl, hb1⟩
      have HB1 := Aside0.mk (below_then HBW.out HBW.out.size hb1)
      have f5 := (hb1.block g (blk_lt HE5.out)).trans HE5.out
      have c2 : w1.cell? ⟨g, 2, none⟩ = some (.int .i64 n.a2) := (blk_cell f5 2).trans rfl
      have HGL : Aside0 (g < w1.heap.size) := ⟨blk_lt f5⟩
      clear hb1 e5 hW
      go_wp2_with (first | (refine gate_ (.load 34 (.tmp 3)) rfl ?_; refine wpList_load_row rfl 34 _ rfl (g) rfl 34 _ (0, 0) _ e7 Try.underlying34 rfl (by kernel_rfl) ?_) | (refine store_box (.store 30 (.tmp 38) (.const (.slice none 0 0))) 30 _ _ (g) 9 _ #[.int .u64 n.a0, .int .u16 n.a1, .int .i64 n.a2, .bool n.a3, .slice s.A4 n.l4.length s.c4, .slice s.A5 n.l5.length s.c5, .slice s.A6 n.l6.length s.c6, .slice s.A7 n.l7.length s.c7, .slice s.A8 n.l8.length s.c8, .slice none 0 0, .slice s.A10 n.l10.length s.c10, .int .u32 n.a11, .int .i64 n.a12, .int .i64 n.a13] 34 (.slice none 0 0) [.slice none 0 0] rfl rfl rfl rfl rfl rfl f5 rfl (by kernel_rfl) (by simp) (by simp [Value.oneCell']) (by simp) ?_; intro w2 e6 hs2; have HS2 := Aside0.mk hs2; clear hs2 f5 c2) | (refine store_box (.store 31 (.tmp 39) (.const (.slice none 0 0))) 31 _ _ (g) 10 _ #[.int .u64 n.a0, .int .u16 n.a1, .int .i64 n.a2, .bool n.a3, .slice s.A4 n.l4.length s.c4, .slice s.A5 n.l5.length s.c5, .slice s.A6 n.l6.length s.c6, .slice s.A7 n.l7.length s.c7, .slice s.A8 n.l8.length s.c8, .slice none 0 0, .slice none 0 0, .int .u32 n.a11, .int .i64 n.a12, .int .i64 n.a13] 34 (.slice none 0 0) [.slice none 0 0] rfl rfl rfl rfl rfl rfl e6 rfl (by kernel_rfl) (by simp) (by simp [Value.oneCell']) (by simp) ?_; intro w3 e7 hs3; have HS3 := Aside0.mk hs3; clear hs3 e6))
      have hw3 : Below w.heap.size w w3 := HS3.out.on (by have := HGG.out; omega) (HS2.out.on (by have := HGG.out; omega) HB1.out)
      have HW3 := Aside0.mk hw3
      have hn3 := HN.out.below hw3
      refine (HADD.out w3 ⟨hn3.r4, hn3.q4, hn3.r5, hn3.q5, hn3.r6, hn3.q6, hn3.r7, hn3.q7, hn3.r8, hn3.q8, C_nil _ _, Nat.le_refl _, C_nil _ _, Nat.le_refl _⟩).mono ?_
      rintro e w4 ⟨s4, rfl, hN4, hb4⟩
      have HN4 := Aside0.mk hN4
      have HB4 := Aside0.mk (below_then hw3 hw3.size hb4)
      have hz := heap_alloc_new w4 (.cells #[.int .u64 0, .int .u16 0, .int .i64 0, .bool false, .slice none 0 0, .slice none 0 0, .slice none 0 0, .slice none 0 0, .slice none 0 0, .slice none 0 0, .slice none 0 0, .int .u32 0, .int .i64 0, .int .i64 0] 34)
      clear hw3 hn3 hN4 hb4 e7
      go_wp2_with (first | (refine store_box (.store 34 (.tmp 7) (.tmp 46)) 34 _ _ (w4.heap.size) 0 _ #[.int .u64 n.a0, .int .u16 n.a1, .int .i64 n.a2, .bool n.a3, .slice s4.A4 n.l4.length s4.c4, .slice s4.A5 n.l5.length s4.c5, .slice s4.A6 n.l6.length s4.c6, .slice s4.A7 n.l7.length s4.c7, .slice s4.A8 n.l8.length s4.c8, .slice s4.A9 1 s4.c9, .slice s4.A10 0 s4.c10, .int .u32 n.a11, .int .i64 iv, .int .i64 n.a13] 34 _ [.int .u64 n.a0, .int .u16 n.a1, .int .i64 n.a2, .bool n.a3, .slice s4.A4 n.l4.length s4.c4, .slice s4.A5 n.l5.length s4.c5, .slice s4.A6 n.l6.length s4.c6, .slice s4.A7 n.l7.length s4.c7, .slice s4.A8 n.l8.length s4.c8, .slice s4.A9 1 s4.c9, .slice s4.A10 0 s4.c10, .int .u32 n.a11, .int .i64 iv, .int .i64 n.a13] rfl rfl rfl rfl rfl rfl hz rfl (by kernel_rfl) (by simp) (by simp [Value.oneCell']) (by simp) ?_; intro v4 e8 hs4; have HS4 := Aside0.mk hs4; have c2 : v4.cell? ⟨w4.heap.size, 2, none⟩ = some (.int .i64 n.a2) := (blk_cell e8 2).trans rfl; clear hs4 hz) | (refine store_box (.store 3 (.tmp 54) (.tmp 53)) 3 _ _ (w4.heap.size) 2 _ #[.int .u64 n.a0, .int .u16 n.a1, .int .i64 (n.a2 + 200), .bool n.a3, .slice s4.A4 n.l4.length s4.c4, .slice s4.A5 n.l5.length s4.c5, .slice s4.A6 n.l6.length s4.c6, .slice s4.A7 n.l7.length s4.c7, .slice s4.A8 n.l8.length s4.c8, .slice s4.A9 1 s4.c9, .slice s4.A10 0 s4.c10, .int .u32 n.a11, .int .i64 iv, .int .i64 n.a13] 34 (.int .i64 (n.a2 + 200)) [.int .i64 (n.a2 + 200)] rfl rfl rfl rfl rfl (congrArg (Value.int .i64) HW1.out) e8 rfl (by kernel_rfl) (by simp) (by simp [Value.oneCell']) (by simp) ?_; intro w5 e9 hs5; have HS5 := Aside0.mk hs5; clear hs5 e8 c2) | (refine gate_ (.load 34 (.tmp 7)) rfl ?_; refine wpList_load_row rfl 34 _ rfl (w4.heap.size) rfl 34 _ (0, 0) _ e9 Try.underlying34 rfl (by kernel_rfl) ?_))
      have HBV4 := Aside0.mk (sto_new HS4.out)
      have hr5 : NR w5 w3.heap.size (eN n (n.a2 + 200) [jj] [] iv) s4 := eN_clk (HN4.out.step (fun k h1 hlt => (HS5.out.far k (by omega)).trans (HBV4.out.block k hlt)))
      refine (HL1.out w5 s4 hr5.reads).mono ?_
      rintro e w6 ⟨s6, rfl, hN6, hb6⟩
      have HN6 := Aside0.mk hN6
      have hw5 : Below w.heap.size w w5 := HS5.out.on (by have := HB4.out.size; omega) (below_then HB4.out HB4.out.size HBV4.out)
      have HB6 := Aside0.mk (below_then hw5 hw5.size hb6)
      have hz := heap_alloc_new w6 (.cells #[.int .u64 0, .int .u16 0, .int .i64 0, .bool false, .slice none 0 0, .slice none 0 0, .slice none 0 0, .slice none 0 0, .slice none 0 0, .slice none 0 0, .slice none 0 0, .int .u32 0, .int .i64 0, .int .i64 0] 34)
      clear hw5 hN6 hb6 hr5 e9
      go_wp2_with (first | (refine store_box (.store 34 (.tmp 10) (.tmp 56)) 34 _ _ (w6.heap.size) 0 _ #[.int .u64 n.a0, .int .u16 n.a1, .int .i64 (n.a2 + 200), .bool n.a3, .slice s6.A4 n.l4.length s6.c4, .slice s6.A5 n.l5.length s6.c5, .slice s6.A6 n.l6.length s6.c6, .slice s6.A7 n.l7.length s6.c7, .slice s6.A8 n.l8.length s6.c8, .slice s6.A9 1 s6.c9, .slice s6.A10 0 s6.c10, .int .u32 n.a11, .int .i64 iv, .int .i64 n.a13] 34 _ [.int .u64 n.a0, .int .u16 n.a1, .int .i64 (n.a2 + 200), .bool n.a3, .slice s6.A4 n.l4.length s6.c4, .slice s6.A5 n.l5.length s6.c5, .slice s6.A6 n.l6.length s6.c6, .slice s6.A7 n.l7.length s6.c7, .slice s6.A8 n.l8.length s6.c8, .slice s6.A9 1 s6.c9, .slice s6.A10 0 s6.c10, .int .u32 n.a11, .int .i64 iv, .int .i64 n.a13] rfl rfl rfl rfl rfl rfl hz rfl (by kernel_rfl) (by simp) (by simp [Value.oneCell']) (by simp) ?_; intro v6 e10 hs6; have HS6 := Aside0.mk hs6; have c2 : v6.cell? ⟨w6.heap.size, 2, none⟩ = some (.int .i64 (n.a2 + 200)) := (blk_cell e10 2).trans rfl; clear hs6 hz) | (refine store_box (.store 3 (.tmp 60) (.tmp 59)) 3 _ _ (w6.heap.size) 2 _ #[.int .u64 n.a0, .int .u16 n.a1, .int .i64 (n.a2 + 201), .bool n.a3, .slice s6.A4 n.l4.length s6.c4, .slice s6.A5 n.l5.length s6.c5, .slice s6.A6 n.l6.length s6.c6, .slice s6.A7 n.l7.length s6.c7, .slice s6.A8 n.l8.length s6.c8, .slice s6.A9 1 s6.c9, .slice s6.A10 0 s6.c10, .int .u32 n.a11, .int .i64 iv, .int .i64 n.a13] 34 (.int .i64 (n.a2 + 201)) [.int .i64 (n.a2 + 201)] rfl rfl rfl rfl rfl (congrArg (Value.int .i64) HW2.out) e10 rfl (by kernel_rfl) (by simp) (by simp [Value.oneCell']) (by simp) ?_; intro w7 e11 hs7; have HS7 := Aside0.mk hs7; clear hs7 e10 c2) | (refine gate_ (.load 34 (.tmp 10)) rfl ?_; refine wpList_load_row rfl 34 _ rfl (w6.heap.size) rfl 34 _ (0, 0) _ e11 Try.underlying34 rfl (by kernel_rfl) ?_))
      have HBV6 := Aside0.mk (sto_new HS6.out)
      have hr7 : NR w7 w5.heap.size (eN n (n.a2 + 201) [jj] [] iv) s6 := eN_clk (HN6.out.step (fun k h1 hlt => (HS7.out.far k (by omega)).trans (HBV6.out.block k hlt)))
      have hw7 : Below w.heap.size w w7 := HS7.out.on (by have := HB6.out.size; omega) (below_then HB6.out HB6.out.size HBV6.out)
      refine (HLT.out HK.out w7 s6 hr7.reads).mono ?_
      rintro e w8 ⟨s8, rfl, hN8, hb8⟩
      have HN8 := Aside0.mk hN8
      have HB8 := Aside0.mk (below_then hw7 hw7.size hb8)
      have F11 := Aside0.mk ((hb8.block _ (blk_lt e11)).trans e11)
      have hz := heap_alloc_new w8 (.cells #[.int .u64 0, .int .u16 0, .int .i64 0, .bool false, .slice none 0 0, .slice none 0 0, .slice none 0 0, .slice none 0 0, .slice none 0 0, .slice none 0 0, .slice none 0 0, .int .u32 0, .int .i64 0, .int .i64 0] 34)
      clear hw7 hr7 hN8 hb8 e11
      obtain ⟨ad, had, r0, r1, r2, r3, r4, r5⟩ := at_T51 HN8.out.reads.r10 0 (by decide) (by show (0 : Int) < ((1 : Nat) : Int); decide)
      have hz0 : ad.add ((0 : Int).toNat * 6) = ad := by simp [Addr.add]
      have hr0 : rd_T51 (eN n (n.a2 + 201) [] [rr] iv).l10 0 = rr := rfl
      rw [hz0, hr0, HRR.out] at r0 r1 r2 r3 r4 r5
      have HAD := Aside0.mk had
      have HR5 := Aside0.mk (And.intro r0 (And.intro r1 (And.intro r2 (And.intro r3 (And.intro r4 r5)))))
      clear had hz0 hr0 r0 r1 r2 r3 r4 r5
      go_wp2_with (first | (refine store_box (.store 34 (.tmp 11) (.tmp 62)) 34 _ _ (w8.heap.size) 0 _ #[.int .u64 n.a0, .int .u16 n.a1, .int .i64 (n.a2 + 201), .bool n.a3, .slice s8.A4 n.l4.length s8.c4, .slice s8.A5 n.l5.length s8.c5, .slice s8.A6 n.l6.length s8.c6, .slice s8.A7 n.l7.length s8.c7, .slice s8.A8 n.l8.length s8.c8, .slice s8.A9 0 s8.c9, .slice s8.A10 1 s8.c10, .int .u32 n.a11, .int .i64 iv, .int .i64 n.a13] 34 _ [.int .u64 n.a0, .int .u16 n.a1, .int .i64 (n.a2 + 201), .bool n.a3, .slice s8.A4 n.l4.length s8.c4, .slice s8.A5 n.l5.length s8.c5, .slice s8.A6 n.l6.length s8.c6, .slice s8.A7 n.l7.length s8.c7, .slice s8.A8 n.l8.length s8.c8, .slice s8.A9 0 s8.c9, .slice s8.A10 1 s8.c10, .int .u32 n.a11, .int .i64 iv, .int .i64 n.a13] rfl rfl rfl rfl rfl rfl hz rfl (by kernel_rfl) (by simp) (by simp [Value.oneCell']) (by simp) ?_; intro v8 e12 hs8; have HS8 := Aside0.mk hs8; have q11 := ((sto_new hs8).block _ (blk_lt F11.out)).trans F11.out; have c9b : v8.cell? ⟨w6.heap.size, 9, none⟩ = some (.slice s6.A9 1 s6.c9) := (blk_cell q11 9).trans rfl; have c10b : v8.cell? ⟨w6.heap.size, 10, none⟩ = some (.slice s6.A10 0 s6.c10) := (blk_cell q11 10).trans rfl; rw [HAD.out] at e12; obtain ⟨d0, d1, d2, d3, d4, d5, d6, d7, d8, d9, d10, d11, d12, d13, _⟩ := box14f e12; have k0 := pw_cell_below (sto_new hs8) HR5.out.1; have k1 := pw_cell_below (sto_new hs8) HR5.out.2.1; have k2 := pw_cell_below (sto_new hs8) HR5.out.2.2.1; have k3 := pw_cell_below (sto_new hs8) HR5.out.2.2.2.1; have k4 := pw_cell_below (sto_new hs8) HR5.out.2.2.2.2.1; have k5 := pw_cell_below (sto_new hs8) HR5.out.2.2.2.2.2; clear hs8 hz q11) | (refine gate_ (.load 34 (.tmp 11)) rfl ?_; refine wpList_load_row rfl 34 _ rfl (w8.heap.size) rfl 34 _ (0, 0) _ e12 Try.underlying34 rfl (by kernel_rfl) ?_))
      have HBV8 := Aside0.mk (sto_new HS8.out)
      have HB9 : Aside0 (Below w.heap.size w v8) := ⟨below_then HB8.out HB8.out.size HBV8.out⟩
      have hln := HLN.out v8 s8 (HN8.out.below HBV8.out).reads
      rw [HAD.out] at hln
      refine hln.mono ?_
      rintro e w9 ⟨s9, rfl, hN9, hb9⟩
      have HB10 := Aside0.mk (below_then HB9.out HB9.out.size hb9)
      clear hln hN9 hb9 c9b c10b d0 d1 d2 d3 d4 d5 d6 d7 d8 d9 d10 d11 d12 d13 e12 k0 k1 k2 k3 k4 k5
      have hfd : ∀ v : World, (Instr.field 34 (.agg #[.int .u64 n.a0, .int .u16 n.a1, .int .i64 (n.a2 + 201), .bool n.a3, .slice s9.A4 n.l4.length s9.c4, .slice s9.A5 n.l5.length s9.c5, .slice s9.A6 n.l6.length s9.c6, .slice s9.A7 n.l7.length s9.c7, .slice s9.A8 n.l8.length s9.c8, .slice s9.A9 0 s9.c9, .slice s9.A10 1 s9.c10, .int .u32 n.a11, .int .i64 iv, .int .i64 n.a13]) 9).run Try.prog v = .ok (.slice s9.A10 1 s9.c10) v := fun _ => by kernel_rfl
      go_wp2_with fail
      refine (awake_ok _).mono ?_
      rintro e wz ⟨rfl, hbz⟩
      have HBZ := Aside0.mk hbz
      clear hbz
      go_wp2_with fail
      go_ret
      exact ⟨rfl, below_then HB10.out HB10.out.size HBZ.out⟩
#print axioms ends_calls
end Go.Proofs.Ytcnkmajengephaa.H
