/- Mine. Chapter 22, by hand: the reference's table: Tick, New. -/
import Derived.Test.YtaeelmkpjgmdlaaHXA
namespace Go.Proofs.Ytaeelmkpjgmdlaa.H
open Go Go.Proofs Go.RowKit Go.Lib Go.Proofs.Ytaeelmkpjgmdlaa.P Go.Proofs.YtaeelmkpjgmdlaaW.PrintWords Go.Proofs.YtaeelmkpjgmdlaaW.PrintLast Go.Proofs.YtaeelmkpjgmdlaaW.PrintMore Go.Proofs.YtaeelmkpjgmdlaaW.PrintFlat
set_option linter.unusedVariables false
set_option linter.unusedSimpArgs false
def XNewP (L : Room.Lim) (W : World) (e : Ending) (w' : World) : Prop := Below W.heap.size W w' ∧
  ((limB L = true ∧ ∃ x, e = .returned (.tuple #[.pointer (some ⟨x, 0, none⟩), .int .i64 0]) ∧ XS (fun k => W.heap.size ≤ k ∧ k < w'.heap.size) x L [] w') ∨ (limB L = false ∧ e = .returned (.tuple #[.pointer none, .int .i64 1])))
set_option maxRecDepth 100000 in
set_option maxHeartbeats 2000000 in
theorem xnew_calls (L : Room.Lim) (W : World) : Calls Try.prog 10 #[.agg #[.int .i64 L.op, .int .i64 L.by_, .int .i64 L.ex]] W (XNewP L W) := by
  have HB := Aside0.mk (show Below W.heap.size W (W.alloc (.cells #[.int .i64 L.op, .int .i64 L.by_, .int .i64 L.ex] 23)) from below_alloc (Below.refl _ _) _)
  by_cases h0 : L.op < 1
  · have d0 : decide (L.op < 1) = true := decide_eq_true h0
    have HL : Aside0 (limB L = false) := ⟨by unfold limB inB; simp; omega⟩
    go_enter Try.func10, Try.ntmps10
    go_wp2
    go_ret2
    exact ⟨HB.out, .inr ⟨HL.out, rfl⟩⟩
  have d0 : decide (L.op < 1) = false := decide_eq_false h0
  by_cases h1 : L.op > 16
  · have d1 : decide (L.op > 16) = true := decide_eq_true h1
    have HL : Aside0 (limB L = false) := ⟨by unfold limB inB; simp; omega⟩
    go_enter Try.func10, Try.ntmps10
    go_wp2
    go_ret2
    exact ⟨HB.out, .inr ⟨HL.out, rfl⟩⟩
  have d1 : decide (L.op > 16) = false := decide_eq_false h1
  by_cases h2 : L.by_ < 1
  · have d2 : decide (L.by_ < 1) = true := decide_eq_true h2
    have HL : Aside0 (limB L = false) := ⟨by unfold limB inB; simp; omega⟩
    go_enter Try.func10, Try.ntmps10
    go_wp2
    go_ret2
    exact ⟨HB.out, .inr ⟨HL.out, rfl⟩⟩
  have d2 : decide (L.by_ < 1) = false := decide_eq_false h2
  by_cases h3 : L.by_ > 65536
  · have d3 : decide (L.by_ > 65536) = true := decide_eq_true h3
    have HL : Aside0 (limB L = false) := ⟨by unfold limB inB; simp; omega⟩
    go_enter Try.func10, Try.ntmps10
    go_wp2
    go_ret2
    exact ⟨HB.out, .inr ⟨HL.out, rfl⟩⟩
  have d3 : decide (L.by_ > 65536) = false := decide_eq_false h3
  by_cases h4 : L.ex < 1
  · have d4 : decide (L.ex < 1) = true := decide_eq_true h4
    have HL : Aside0 (limB L = false) := ⟨by unfold limB inB; simp; omega⟩
    go_enter Try.func10, Try.ntmps10
    go_wp2
    go_ret2
    exact ⟨HB.out, .inr ⟨HL.out, rfl⟩⟩
  have d4 : decide (L.ex < 1) = false := decide_eq_false h4
  by_cases h5 : L.ex > 32
  · have d5 : decide (L.ex > 32) = true := decide_eq_true h5
    have HL : Aside0 (limB L = false) := ⟨by unfold limB inB; simp; omega⟩
    go_enter Try.func10, Try.ntmps10
    go_wp2
    go_ret2
    exact ⟨HB.out, .inr ⟨HL.out, rfl⟩⟩
  have d5 : decide (L.ex > 32) = false := decide_eq_false h5
  have HL : Aside0 (limB L = true) := ⟨by unfold limB inB; simp; omega⟩
  clear h0 h1 h2 h3 h4 h5
  go_enter Try.func10, Try.ntmps10
  go_wp2
  go_ret2
  obtain ⟨V, hV⟩ : ∃ V, W.alloc (.cells #[.int .i64 L.op, .int .i64 L.by_, .int .i64 L.ex] 23) = V := ⟨_, rfl⟩
  have e1 : V.heap.size = W.heap.size + 1 := by rw [← hV]; simp
  have hV2 := HB.out
  rw [hV] at hV2 ⊢
  have hn := heap_alloc_new V (.cells #[.int .i64 L.op, .int .i64 L.by_, .int .i64 L.ex, .slice none 0 0] 48)
  have e2 : (V.alloc (.cells #[.int .i64 L.op, .int .i64 L.by_, .int .i64 L.ex, .slice none 0 0] 48)).heap.size = W.heap.size + 1 + 1 := by rw [← e1]; simp
  rw [e1] at hn
  refine ⟨hV2.alloc (by omega) _, .inl ⟨HL.out, W.heap.size + 1, rfl, ⟨by omega, by rw [e2]; omega⟩, ⟨.slice none 0 0, fun _ => False, hn, ?_, fun _ h => h.elim⟩, fun k hk => hk.2⟩⟩
  exact ⟨⟨fun _ => False, Kd.R_nil _ _ _ _ _, fun _ h => h.elim⟩, fun o ho => by simp at ho, fun o ho => by simp at ho, List.Pairwise.nil, fun _ h => h.elim⟩
def tkB (L : Room.Lim) (os : List OB) : List OB := (os.map incB).filter fun x => decide (x.a.age ≤ L.ex)
theorem tkB_snoc (L : Room.Lim) (os : List OB) (y : OB) : tkB L (os ++ [y]) = if y.a.age + 1 ≤ L.ex then tkB L os ++ [incB y] else tkB L os := by
  unfold tkB
  rw [List.map_append, List.filter_append]
  by_cases h : y.a.age + 1 ≤ L.ex
  · rw [if_pos h]
    have : decide ((incB y).a.age ≤ L.ex) = true := decide_eq_true h
    simp [this]
  · rw [if_neg h]
    have : decide ((incB y).a.age ≤ L.ex) = false := decide_eq_false h
    simp [this]
theorem tkB_aOf (L : Room.Lim) (os : List OB) : aOf (tkB L os) = Room.tick L (aOf os) := by
  rw [← aOf_inc]
  unfold tkB
  congr 2
  funext x
  by_cases h : x.a.age ≤ L.ex
  · rw [decide_eq_true h, decide_eq_false (by omega)]; rfl
  · rw [decide_eq_false h, decide_eq_true (by omega)]; rfl
theorem tkB_key (L : Room.Lim) (os : List OB) : ((tkB L os).map okey4).Sublist (os.map okey4) := by
  have h : (os.map incB).map okey4 = os.map okey4 := by rw [List.map_map]; rfl
  rw [← h]
  exact List.filter_sublist.map _
theorem tkB_len (L : Room.Lim) (os : List OB) : (tkB L os).length ≤ os.length := by
  have := (tkB_key L os).length_le
  simpa using this
set_option maxHeartbeats 4000000 in
set_option maxRecDepth 100000 in
theorem xtick_calls {own : Nat → Prop} {x : Nat} {L : Room.Lim} {os : List OB} {W : World} (h : XS own x L os W) (hm : os.length ≤ 1000) (ha : ∀ o ∈ os, 0 ≤ o.a.age ∧ o.a.age ≤ 1000) :
    Calls Try.prog 12 #[.pointer (some ⟨x, 0, none⟩)] W fun e' w' => e' = .returned (.tuple #[]) ∧ Fr own W w' ∧ XS (fun q => own q ∨ W.heap.size ≤ q ∧ q < w'.heap.size) x L (tkB L os) w' := by
  have HH := Aside0.mk h
  have HA := Aside0.mk ha
  have HB0 := Aside0.mk (Below.refl W.heap.size W)
  have HR0 : Aside0 (k7.R 74 W 0 (fun q => W.heap.size ≤ q) (.slice none 0 0) (tkB L (os.take 0))) := ⟨Kd.R_nil _ _ _ _ _⟩
  clear h ha
  go_enter Try.func12, Try.ntmps12
  go_wp2
  go_loopg [2, 3] os.length (fun gg s2 s3 wr => ∃ k : Nat, k ≤ os.length ∧ os.length - k ≤ gg ∧ s3 = .int .i64 k ∧ Aside0 (Below W.heap.size W wr) ∧ Aside0 (k7.R 74 wr 0 (fun q => W.heap.size ≤ q) s2 (tkB L (os.take k))))
  case atStart => exact ⟨0, Nat.zero_le _, by omega, rfl, HB0, HR0⟩
  case round =>
    obtain ⟨k, hk, hgg, rfl, HBk, HRK⟩ := hrel
    have hX := HH.out.below HBk.out
    obtain ⟨A, c, g0, g1, g2, g3, hl, hC⟩ := hX.reads
    by_cases hlt : k < os.length
    · obtain ⟨ad, e1, hx0, hx1, hx2, hx3, hx4, hx5, hx6⟩ := at7 hC (k : Int) (by omega) (by omega)
      cases e1
      simp only [Int.toNat_natCast] at hx0 hx1 hx2 hx3 hx4 hx5 hx6
      rw [rd7_eq hlt] at hx0 hx1 hx2 hx3 hx4 hx5 hx6
      obtain ⟨y, hy⟩ : ∃ y, os[k] = y := ⟨_, rfl⟩
      rw [hy] at hx0 hx1 hx2 hx3 hx4 hx5 hx6
      have hay := HA.out y (by rw [← hy]; exact List.getElem_mem _)
      have HET : Aside0 (tkB L (os.take (k + 1)) = if y.a.age + 1 ≤ L.ex then tkB L (os.take k) ++ [incB y] else tkB L (os.take k)) := ⟨by
        rw [List.take_succ_eq_append_getElem hlt, hy, tkB_snoc]⟩
      have hwa : wrap64 (y.a.age + 1) = y.a.age + 1 := by unfold wrap64; omega
      have p0 : (0 ≤ (k : Int)) = True := eq_true (by omega)
      have p1 : ((k : Int) < (os.length : Int)) = True := eq_true (by omega)
      obtain ⟨acc, hacc⟩ : ∃ acc, tkB L (os.take k) = acc := ⟨_, rfl⟩
      have HLQ : Aside0 ((acc.length + 1) * 32 ≤ 140737488355328) := ⟨by have h1 := tkB_len L (os.take k); have h2 := List.length_take_le k os; rw [hacc] at h1; omega⟩
      rw [hacc] at HRK HET
      obtain ⟨A4, c4, rfl, _, _⟩ := Kd.R_reads HRK.out
      -- the world behind the box
      obtain ⟨V, hV⟩ : ∃ V, wr.alloc (.cells #[.int .u16 y.a.fr, .int .u32 y.a.ep, .int .u32 y.a.id, .int .u16 y.a.cnt, .int .u8 y.a.ver, .int .i64 (y.a.age + 1), .pointer (some ⟨y.p, 0, none⟩)] 74) = V := ⟨_, rfl⟩
      have hbV : Below wr.heap.size wr V := by rw [← hV]; exact below_alloc (Below.refl _ _) _
      have hnV : V.heap[wr.heap.size]? = some (.cells #[.int .u16 y.a.fr, .int .u32 y.a.ep, .int .u32 y.a.id, .int .u16 y.a.cnt, .int .u8 y.a.ver, .int .i64 (y.a.age + 1), .pointer (some ⟨y.p, 0, none⟩)] 74 (0, 0)) := by rw [← hV]; exact heap_alloc_new wr _
      obtain ⟨q0, q1, q2, q3, q4, q5, q6⟩ := box7c hnV
      have r2 : V.cell? ⟨x, 2, none⟩ = some (.int .i64 L.ex) := pw_cell_below hbV g2
      have HV := Aside0.mk hbV
      clear hX hC hy hacc hbV hnV
      by_cases hle : y.a.age + 1 ≤ L.ex
      · have d1 : decide (y.a.age + 1 ≤ L.ex) = true := decide_eq_true hle
        have HLE := Aside0.mk hle
        clear hle
        go_wp2
        go_quiet (fail)
        obtain ⟨wq, hwq⟩ : ∃ wq, V.drewN nq = wq := ⟨_, rfl⟩
        rw [hwq]
        have hbq : Below V.heap.size V wq := by rw [← hwq]; exact pw_below_drewN (Below.refl _ _) _
        have q0 := pw_cell_below hbq q0
        have q1 := pw_cell_below hbq q1
        have q2 := pw_cell_below hbq q2
        have q3 := pw_cell_below hbq q3
        have q4 := pw_cell_below hbq q4
        have q5 := pw_cell_below hbq q5
        have q6 := pw_cell_below hbq q6
        have hbwq := below_then HV.out HV.out.size hbq
        have HBq := Aside0.mk (below_then HBk.out HBk.out.size hbwq)
        have HRQ := Aside0.mk (Kd.R_below HRK.out hbwq)
        have HRK := HRQ
        have HSZ := Aside0.mk HBq.out.size
        clear hwq hbq hbwq hx0 hx1 hx2 hx3 hx4 hx5 hx6 g0 g1 g2 g3 r2 d1 hwa hV
        go_wp2_with (at_builtin; (with_reducible refine Kd.R_append k7 (w0 := wq) 0 rfl _ _ 46 74 _ 32 rfl Try.underlying46 i74 rfl (by decide) (by decide) (.slice A4 acc.length c4) acc (incB y) [.int .u16 y.a.fr, .int .u32 y.a.ep, .int .u32 y.a.id, .int .u16 y.a.cnt, .int .u8 y.a.ver, .int .i64 (y.a.age + 1), .pointer (some ⟨y.p, 0, none⟩)] (fun q => W.heap.size ≤ q) (fun _ => False) rfl rfl ?hp ?hokp ?hfresh ?hO ?hB (Nat.zero_le _) ?hl ?_); (case hp => exact k7_mkM _ _ _ _); (case hokp => exact fun _ h => h.elim); (case hfresh => exact fun _ h => Nat.le_trans HSZ.out h); (case hO => exact HRK.out); (case hB => exact Below.refl _ _); (case hl => exact HLQ.out); intro v8 w8 hO8 hb8 hg8 hat8; have HO8 := Aside0.mk hO8; have HG8 := Aside0.mk hg8; clear hO8 hb8 hg8 hat8)
        go_roundg (os.length - (k + 1))
        case measure => omega
        case rel =>
          refine ⟨k + 1, by omega, by omega, by go_num, ⟨pw_below_grown HBq.out _ HBq.out.size HG8.out (fun q hq => HRQ.out.1 q hq)⟩, ⟨?_⟩⟩
          rw [HET.out, if_pos HLE.out]
          exact HO8.out
      · have d1 : decide (y.a.age + 1 ≤ L.ex) = false := decide_eq_false hle
        have HLE := Aside0.mk hle
        clear hle
        go_wp2
        go_quiet (fail)
        obtain ⟨wq, hwq⟩ : ∃ wq, V.drewN nq = wq := ⟨_, rfl⟩
        rw [hwq]
        have hbq : Below V.heap.size V wq := by rw [← hwq]; exact pw_below_drewN (Below.refl _ _) _
        have hbwq := below_then HV.out HV.out.size hbq
        have HBq := Aside0.mk (below_then HBk.out HBk.out.size hbwq)
        have HRQ := Aside0.mk (Kd.R_below HRK.out hbwq)
        clear hwq hbq hbwq hx0 hx1 hx2 hx3 hx4 hx5 hx6 g0 g1 g2 g3 r2 d1 hwa hV q0 q1 q2 q3 q4 q5 q6
        go_wp2
        go_roundg (os.length - (k + 1))
        case measure => omega
        case rel =>
          refine ⟨k + 1, by omega, by omega, by go_num, HBq, ⟨?_⟩⟩
          rw [HET.out, if_neg (show ¬ y.a.age + 1 ≤ L.ex by have := HLE.out; omega)]
          exact HRQ.out
    · have hkk : k = os.length := by omega
      have p1 : ¬ ((k : Int) < (os.length : Int)) := by omega
      subst hkk
      rw [List.take_length] at HRK
      obtain ⟨A4, c4, rfl, _, _⟩ := Kd.R_reads HRK.out
      have hbx := hX.st.choose_spec.choose_spec.1
      have hfx : wr.frozen? ⟨x, 3, none⟩ = false := blk_frozen hbx 3
      clear hX hC hbx
      go_wp2
      go_end0
      have h := HH.out.turn HBk.out HRK.out (fun _ h => h) (tkB_key L os) rfl
      exact ⟨rfl, h.1, h.2⟩
#print axioms xtick_calls
end Go.Proofs.Ytaeelmkpjgmdlaa.H
