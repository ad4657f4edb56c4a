/- Mine. Chapter 39, by hand: net.copied. -/
import Derived.Test.YtakbkpgbchdocaaHA
namespace Go.Proofs.Ytakbkpgbchdocaa.H
open Go Go.Proofs Go.RowKit Go.Lib Go.Proofs.Ytakbkpgbchdocaa.P Go.Proofs.YtakbkpgbchdocaaW.PrintWords Go.Proofs.YtakbkpgbchdocaaW.PrintLast Go.Proofs.YtakbkpgbchdocaaW.PrintMore Go.Proofs.YtakbkpgbchdocaaW.PrintFlat
set_option linter.unusedVariables false
set_option linter.unusedSimpArgs false
def half {α : Type} (k : Nat) (l : List α) : List (Bool × α) := ons (l.take k) ++ offs (l.drop k)
theorem half_zero {α : Type} (l : List α) : half 0 l = offs l := by simp [half, ons]
theorem half_all {α : Type} (l : List α) : half l.length l = ons l := by simp [half, offs]
theorem half_len {α : Type} (k : Nat) (l : List α) : (half k l).length = l.length := by simp [half, ons, offs]; omega
theorem half_get {α : Type} (k : Nat) (l : List α) (x : α) (h : l[k]? = some x) : (half k l)[k]? = some (false, x) := by
  have hk : k < l.length := (List.getElem?_eq_some_iff.1 h).1
  unfold half
  rw [List.getElem?_append_right (by simp [ons]; omega)]
  simp [ons, offs]
  rw [show k - min k l.length = 0 by omega]
  simp [h]
theorem half_set {α : Type} (k : Nat) (l : List α) (x : α) (h : l[k]? = some x) : (half k l).set k (true, x) = half (k + 1) l := by
  have hk : k < l.length := (List.getElem?_eq_some_iff.1 h).1
  have hx : l[k] = x := (List.getElem?_eq_some_iff.1 h).2
  unfold half ons offs
  have e1 : l.drop k = x :: l.drop (k + 1) := by rw [← hx, List.getElem_cons_drop]
  have e2 : l.take (k + 1) = l.take k ++ [x] := by rw [List.take_succ_eq_append_getElem hk, hx]
  rw [e1, e2, List.set_append_right _ _ (by simp; omega)]
  simp
  rw [show k - min k l.length = 0 by omega]
  simp
/-- What stands at an element of the half-way row. -/
theorem mix_at {w wr : World} {base : Nat} {ok : Nat → Prop} {v : Value} {l : List S26} {k : Nat} (h : (mixK k26 w).R 26 wr base ok v (half k l)) (hb : Below w.heap.size w wr) (hk : k < l.length) :
    ∃ g cap A c, v = .slice (some ⟨g, 0, none⟩) l.length cap ∧ l.length ≤ cap ∧ wr.cell? ⟨g, k * 4, none⟩ = some (.int .u16 (rd_T26 l k).f0) ∧ wr.cell? ⟨g, k * 4 + 1, none⟩ = some (.int .u16 (rd_T26 l k).f1) ∧ wr.cell? ⟨g, k * 4 + 2, none⟩ = some (.slice A (rd_T26 l k).f2.length c) ∧ wr.cell? ⟨g, k * 4 + 3, none⟩ = some (.bool (rd_T26 l k).f3) ∧
      (rd_T26 l k).f2.length ≤ c ∧ Kd.C (Kd.int .u8) w A (rd_T26 l k).f2.length (rd_T26 l k).f2 := by
  obtain ⟨A0, c0, rfl, hlc, hC⟩ := Kd.R_reads h
  have hg0 : ∃ g cap, (Value.slice A0 (half k l).length c0) = .slice (some ⟨g, 0, none⟩) (half k l).length cap := by
    obtain ⟨_, inner, hown, _⟩ := h
    rcases hown.2 with ⟨hv, hn⟩ | ⟨g, cap, cur, hv, _⟩
    · rw [half_len] at hn; omega
    · exact ⟨g, cap, hv⟩
  obtain ⟨g, cap, hv⟩ := hg0
  have hx : l[k]? = some (rd_T26 l k) := by
    unfold rd_T26
    simp [List.getD_eq_getElem?_getD, hk]
  have hx2 := half_get k l _ hx
  obtain ⟨ad, e, hc⟩ := hC.2.2 (by rw [half_len]; omega)
  obtain ⟨c, h1, h2, h3⟩ := hc k _ hx2
  rcases h2 with ⟨hf, _⟩ | ⟨_, h2⟩
  · cases hf
  · obtain ⟨A, c2, rfl, hl2, hC2⟩ := k26_open h2
    rw [e] at hv
    injection hv with ha _ hcc
    injection ha with ha
    subst ha
    have h4 : ∀ i u, [Value.int .u16 (rd_T26 l k).f0, .int .u16 (rd_T26 l k).f1, .slice A (rd_T26 l k).f2.length c2, .bool (rd_T26 l k).f3][i]? = some u → wr.cell? ⟨g, k * 4 + i, none⟩ = some u := fun i u hi => by
      have h5 := h3 i u hi
      have e6 : (⟨g, 0, none⟩ : Addr).add (k * (mixK k26 w).sz + i) = ⟨g, k * 4 + i, none⟩ := by
        show Addr.add ⟨g, 0, none⟩ (k * 4 + i) = _
        unfold Addr.add
        split <;> simp_all
      rwa [e6] at h5
    refine ⟨g, c0, A, c2, ?_, ?_, h4 0 _ rfl, h4 1 _ rfl, h4 2 _ rfl, h4 3 _ rfl, hl2, hC2⟩
    · rw [e, half_len]
    · rw [half_len] at hlc; exact hlc
set_option maxRecDepth 100000 in
set_option maxHeartbeats 4000000 in
theorem copied_calls (A0 : Option Addr) (n0 c0 : Nat) (l0 : List S26) (w : World) (hr0 : Kd.C k26 w A0 n0 l0) (hc0 : n0 ≤ c0) (hb : n0 * 40 ≤ 140737488355328) (hbs : ∀ x ∈ l0, x.f2.length ≤ 140737488355328) :
    Calls Try.prog 19 #[.slice A0 n0 c0] w fun e w' => ∃ v0_ : Value, e = .returned v0_ ∧ Kd.R k26 26 w' w.heap.size (fun _ => True) v0_ l0 ∧ Below w.heap.size w w' := by
  obtain rfl : l0.length = n0 := hr0.1
  have HR0 := Aside0.mk hr0
  have HC0 := Aside0.mk hc0
  have HL := Aside0.mk hb
  have HBS := Aside0.mk hbs
  clear hr0 hc0 hb hbs
  go_enter Try.func19, Try.ntmps19
  go_wp2_with fail
  refine (pclone_calls A0 l0.length c0 l0 w HR0.out HC0.out HL.out).mono ?_
  rintro e w1 ⟨v0, rfl, hR, hb1⟩
  obtain ⟨A, c, rfl, hlc, _⟩ := Kd.R_reads hR
  rw [show (offs l0).length = l0.length by simp [offs]] at hR hlc ⊢
  rw [← half_zero] at hR
  have HR := Aside0.mk hR
  have HB1 := Aside0.mk hb1
  clear hR hb1
  go_wp2_with fail
  go_loopg [4, 9] l0.length (fun gg s4 s9 wr => ∃ k : Nat, k ≤ l0.length ∧ l0.length - k ≤ gg ∧ s9 = .int .i64 k ∧ Aside0 (Below w.heap.size w wr) ∧ Aside0 ((mixK k26 w).R 26 wr w.heap.size (fun _ => True) (.slice A l0.length c) (half k l0)))
  case atStart => exact ⟨0, Nat.zero_le _, by omega, rfl, HB1, HR⟩
  case round =>
    obtain ⟨k, hk, hgg, rfl, HBk, HRk⟩ := hrel
    by_cases hlt : k < l0.length
    · obtain ⟨g, cap, A1, c1, hv, hcap, x0, x1, x2, x3, hl1, hC1⟩ := mix_at HRk.out HBk.out hlt
      injection hv with hA _ hcc
      subst hA
      subst hcc
      have hx : l0[k]? = some (rd_T26 l0 k) := by
        unfold rd_T26
        simp [List.getD_eq_getElem?_getD, hlt]
      have hbx : (rd_T26 l0 k).f2.length ≤ 140737488355328 := HBS.out _ (List.mem_of_getElem? hx)
      obtain ⟨x, hxx⟩ : ∃ x, rd_T26 l0 k = x := ⟨_, rfl⟩
      rw [hxx] at x0 x1 x2 x3 hl1 hC1 hx hbx
      have p0 : (0 ≤ (k : Int)) = True := eq_true (by omega)
      have p1 : ((k : Int) < (l0.length : Int)) = True := eq_true (by omega)
      have HX := Aside0.mk (And.intro x0 (And.intro x1 (And.intro x2 x3)))
      have HY := Aside0.mk (And.intro hl1 (And.intro hC1 (And.intro hx hbx)))
      clear x0 x1 x3 hl1 hC1 hx hbx hxx
      go_wp2_with fail
      refine (bclone_calls A1 x.f2.length c1 x.f2 wr (Kd.C_below HY.out.2.1 HBk.out) HY.out.1 (by have := HY.out.2.2.2; omega)).mono ?_
      rintro e w2 ⟨v1, rfl, hR1, hb1⟩
      obtain ⟨B1, d1, rfl, hd1, _⟩ := Kd.R_reads hR1
      have hgl : g < wr.heap.size := World.block_lt_of_cell? _ _ HX.out.1
      have HM : Aside0 ((mixK k26 w).M w2 w.heap.size (fun k => wr.heap.size ≤ k) (true, x) [.int .u16 x.f0, .int .u16 x.f1, .slice B1 x.f2.length d1, .bool x.f3]) := ⟨.inl ⟨rfl, k26_mkM w2 w.heap.size _ x (Kd.R_lower (Kd.R_mono (Kd.R_bound hR1) (fun k hk => hk.2.1)) HBk.out.size)⟩⟩
      have HB2 := Aside0.mk (below_then HBk.out HBk.out.size hb1)
      have HO := Aside0.mk (Kd.R_below HRk.out hb1)
      have HCC : Aside0 (∀ j u, [Value.int .u16 x.f0, .int .u16 x.f1, .slice A1 x.f2.length c1, .bool x.f3][j]? = some u → w2.cell? ⟨g, (k : Int).toNat * 4 + j, none⟩ = some u) := ⟨fun j u hj => by
        rw [Int.toNat_natCast]
        rcases j with _ | _ | _ | _ | j
        · cases hj; exact (hb1.cell (p := ⟨g, k * 4, none⟩) hgl).trans HX.out.1
        · cases hj; exact (hb1.cell (p := ⟨g, k * 4 + 1, none⟩) hgl).trans HX.out.2.1
        · cases hj; exact (hb1.cell (p := ⟨g, k * 4 + 2, none⟩) hgl).trans HX.out.2.2.1
        · cases hj; exact (hb1.cell (p := ⟨g, k * 4 + 3, none⟩) hgl).trans HX.out.2.2.2
        · simp at hj⟩
      have HG := Aside0.mk hgl
      clear hR1 hb1 hgl
      go_wp2_with (refine Kd.R_store (mixK k26 w) (w0 := w) w.heap.size rfl rfl 24 _ _ rfl 26 (k : Int) 2 (half k l0) (true, x) (.slice B1 x.f2.length d1) [.slice B1 x.f2.length d1] [.int .u16 x.f0, .int .u16 x.f1, .slice A1 x.f2.length c1, .bool x.f3] (fun _ => True) (fun k => wr.heap.size ≤ k) rfl rfl rfl rfl (by kernel_rfl) (by simp [Value.oneCell']) HO.out (by omega) (by omega) rfl HCC.out (show 2 + 1 ≤ 4 by decide) HM.out (fun q hq => ⟨trivial, by have := HG.out; omega⟩) HB2.out ?_; intro w3 hO3 hb3 hg3; have HO3 := Aside0.mk hO3; have HB3 := Aside0.mk hb3; clear hO3 hb3 hg3)
      go_roundg (l0.length - (k + 1))
      case measure => omega
      case rel =>
        have hll := HL.out
        have hw : wrap64 ((k : Int) + 1) = ((k + 1 : Nat) : Int) := by unfold wrap64; omega
        refine ⟨k + 1, by omega, by omega, by rw [hw], HB3, ⟨?_⟩⟩
        have h1 := HO3.out
        rw [Int.toNat_natCast, half_set k l0 x HY.out.2.2.1] at h1
        exact h1
    · have hkk : k = l0.length := by omega
      go_wp2
      go_ret
      subst hkk
      refine ⟨_, rfl, all_on (w0 := w) (by rw [← half_all]; exact HRk.out), HBk.out⟩
#print axioms copied_calls
end Go.Proofs.Ytakbkpgbchdocaa.H
