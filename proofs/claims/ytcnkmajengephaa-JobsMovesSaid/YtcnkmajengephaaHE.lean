/- Mine. Chapter 31, by hand: jobs.Settle. -/
import Derived.Test.YtcnkmajengephaaHD
import Derived.Test.YtcnkmajengephaaPx15
import Derived.Test.YtcnkmajengephaaPx16
namespace Go.Proofs.Ytcnkmajengephaa.H
open Go Go.Proofs Go.RowKit Go.Lib Go.Proofs.Ytcnkmajengephaa.P Go.Proofs.YtcnkmajengephaaW.PrintWords Go.Proofs.YtcnkmajengephaaW.PrintLast Go.Proofs.YtcnkmajengephaaW.PrintMore
set_option linter.unusedVariables false
set_option linter.unusedSimpArgs false
theorem alloc2 {w W : World} {a b : Obj} (h : (w.alloc a).alloc b = W) : Below w.heap.size w W ∧ W.heap.size = w.heap.size + 1 + 1 ∧ W.heap[w.heap.size]? = some a ∧ W.heap[w.heap.size + 1]? = some b := by
  subst h
  have s1 : (w.alloc a).heap.size = w.heap.size + 1 := by show (w.heap.push a).size = _; simp
  have s2 : ((w.alloc a).alloc b).heap.size = (w.alloc a).heap.size + 1 := by show ((w.alloc a).heap.push b).size = _; simp
  have n2 := heap_alloc_new (w.alloc a) b
  rw [s1] at n2
  refine ⟨(below_alloc (Below.refl _ _) a).alloc (by omega) b, by omega, ?_, n2⟩
  rw [heap_alloc_old _ b (by omega)]; exact heap_alloc_new w a
def fJob (l : List S36) (id : Int) : Int := Go.Proofs.YtcnkmajengephaaW.PrintIdx.firstIdx (fun x => x.f0 == id) l
theorem find_ok (A : Option Addr) (c : Nat) (l : List S36) (id : Int) (w : World) (h : Kd.C k36 w A l.length l) (hc : l.length ≤ c) : Calls Try.prog 17 #[.slice A l.length c, .int .i64 id] w fun e w' => e = .returned (.int .i64 (fJob l id)) ∧ Below w.heap.size w w' :=
  jobs_Find.calls A c l id _ w h hc rfl
theorem find_cases (l : List S36) (id : Int) : fJob l id = -1 ∨ ∃ k : Nat, k < l.length ∧ fJob l id = k := by
  rcases Go.Proofs.YtcnkmajengephaaW.PrintIdx.firstIdx_range (fun x : S36 => x.f0 == id) l with ⟨h1, h2⟩ | h
  · rcases Int.lt_or_le (fJob l id) 0 with h | h
    · exact .inl (by have : -1 ≤ fJob l id := h1; omega)
    · exact .inr ⟨(fJob l id).toNat, by have : fJob l id < l.length := h2; omega, by omega⟩
  · exact .inl h
/-- What Settle makes. -/
def settleN (n : ND) (id : Int) (has : Bool) (val : ByteArray) (e : Int) : ND :=
  if fJob n.l9 id < 0 then n else toldN { n with l9 := n.l9.eraseIdx (fJob n.l9 id).toNat } (rd_T36 n.l9 (fJob n.l9 id)) has val e
theorem nr_jobs {V V' : World} {base g : Nat} {n : ND} {s : NA} {A : Option Addr} {c : Nat} {l : List S36} (h : NR V base n s) (hf : Tf 36 base g V V') (hg : g < base) (hl : Kd.R k36 36 V' base (fun _ => True) (.slice A l.length c) l) : NR V' base { n with l9 := l } { s with A9 := A, c9 := c } :=
  ⟨hf.R h.o4 (by decide) hg, hf.R h.o5 (by decide) hg, hf.R h.o6 (by decide) hg, hf.R h.o7 (by decide) hg, hf.R h.o8 (by decide) hg, hl, hf.R h.o10 (by decide) hg⟩
theorem own_form {α : Type} {d : Kd α} {e : Nat} {w : World} {base : Nat} {ok : Nat → Prop} {A : Option Addr} {n c : Nat} {xs : List α} (h : d.R e w base ok (.slice A n c) xs) (hn : 0 < n) : ∃ g, A = some ⟨g, 0, none⟩ := by
  obtain ⟨_, inner, hown, _⟩ := h
  rcases hown.2 with ⟨hv, h0⟩ | ⟨g, cap, cur, hv, _⟩
  · injection hv with _ h1 _; omega
  · injection hv with ha; exact ⟨g, ha⟩
theorem add_at (g k : Nat) : (⟨g, 0, none⟩ : Addr).add k = ⟨g, k, none⟩ := by
  unfold Addr.add
  split <;> simp_all
theorem sto_new {w V : World} {o : Obj} (h : Sto (w.alloc o) V w.heap.size) : Below w.heap.size w V := h.on (Nat.le_refl _) (below_alloc (Below.refl _ _) _)
theorem NR.lower {w : World} {base base' : Nat} {n : ND} {s : NA} (h : NR w base n s) (hb : base' ≤ base) : NR w base' n s :=
  ⟨Kd.R_lower h.o4 hb, Kd.R_lower h.o5 hb, Kd.R_lower h.o6 hb, Kd.R_lower h.o7 hb, Kd.R_lower h.o8 hb, Kd.R_lower h.o9 hb, Kd.R_lower h.o10 hb⟩
set_option maxRecDepth 100000 in
set_option maxHeartbeats 8000000 in
theorem settle_ok (n : ND) (s : NA) (id : Int) (has : Bool) (val : ByteArray) (e : Int) (w : World) (h : NC w n s) (hb : NB n) (hl10 : n.l10.length ≤ 100000) (hl9 : n.l9.length ≤ 100000) :
    Calls Try.prog 15 #[nv n s, .int .i64 id, .bool has, .string val, .int .i64 e] w (NodeP (settleN n id has val e) w) := by
  obtain ⟨g, hg⟩ : ∃ g, w.heap.size = g := ⟨_, rfl⟩
  obtain ⟨W, hW⟩ : ∃ W, (w.alloc (.cells #[.int .u64 n.a0, .int .u16 n.a1, .int .i64 n.a2, .bool n.a3, .slice s.A4 n.l4.length s.c4, .slice s.A5 n.l5.length s.c5, .slice s.A6 n.l6.length s.c6, .slice s.A7 n.l7.length s.c7, .slice s.A8 n.l8.length s.c8, .slice s.A9 n.l9.length s.c9, .slice s.A10 n.l10.length s.c10, .int .u32 n.a11, .int .i64 n.a12, .int .i64 n.a13] 34)).alloc (.cells #[.int .u64 0, .int .u16 0, .int .i64 0, .bool false, .slice none 0 0, .slice none 0 0, .slice none 0 0, .slice none 0 0, .slice none 0 0, .slice none 0 0, .slice none 0 0, .int .u32 0, .int .i64 0, .int .i64 0] 34) = W := ⟨_, rfl⟩
  obtain ⟨hbW, hsW, e5, e10⟩ := alloc2 hW
  rw [hg] at hsW e5 e10
  have HCP := Aside0.mk (copy_ok n s W (h.below hbW) hb)
  have HBW := Aside0.mk hbW
  have HSW := Aside0.mk hsW
  have HE10 := Aside0.mk e10
  have HE5 := Aside0.mk e5
  have HGG := Aside0.mk hg
  have HL := Aside0.mk (And.intro hl10 hl9)
  clear h hb hbW hsW e10 hl10 hl9
  obtain ⟨fi, hfi⟩ : ∃ fi, fJob n.l9 id = fi := ⟨_, rfl⟩
  have HFI := Aside0.mk hfi
  have hcs := find_cases n.l9 id
  rw [hfi] at hcs
  clear hfi
  rcases hcs with rfl | ⟨k, hk, rfl⟩
  · have HS : Aside0 (settleN n id has val e = n) := ⟨by unfold settleN; rw [HFI.out]; rfl⟩
    rw [HS.out]
    go_enter Try.func15, Try.ntmps15
    go_wp2_with (refine gate_ (.load 34 (.tmp 5)) rfl ?_; refine wpList_load_row rfl 34 _ rfl (g) rfl 34 _ (0, 0) _ e5 Try.underlying34 rfl (by kernel_rfl) ?_)
    refine HCP.out.mono ?_
    rintro e w1 ⟨s1, rfl, hR1, hb1⟩
    have HR1 := Aside0.mk hR1
    have HB1 := Aside0.mk hb1
    have f5 := (hb1.block g (blk_lt HE5.out)).trans HE5.out
    have F10 := Aside0.mk ((hb1.block _ (blk_lt HE10.out)).trans HE10.out)
    clear hR1 hb1 e5 hW
    go_wp2_with ((refine store_box (.store 34 (.tmp 5) (.tmp 14)) 34 _ _ (g) 0 _ #[.int .u64 n.a0, .int .u16 n.a1, .int .i64 n.a2, .bool n.a3, .slice s1.A4 n.l4.length s1.c4, .slice s1.A5 n.l5.length s1.c5, .slice s1.A6 n.l6.length s1.c6, .slice s1.A7 n.l7.length s1.c7, .slice s1.A8 n.l8.length s1.c8, .slice s1.A9 n.l9.length s1.c9, .slice s1.A10 n.l10.length s1.c10, .int .u32 n.a11, .int .i64 n.a12, .int .i64 n.a13] 34 _ [.int .u64 n.a0, .int .u16 n.a1, .int .i64 n.a2, .bool n.a3, .slice s1.A4 n.l4.length s1.c4, .slice s1.A5 n.l5.length s1.c5, .slice s1.A6 n.l6.length s1.c6, .slice s1.A7 n.l7.length s1.c7, .slice s1.A8 n.l8.length s1.c8, .slice s1.A9 n.l9.length s1.c9, .slice s1.A10 n.l10.length s1.c10, .int .u32 n.a11, .int .i64 n.a12, .int .i64 n.a13] rfl rfl rfl rfl rfl rfl f5 rfl (by kernel_rfl) (by simp) (by simp [Value.oneCell']) (by simp) ?_; intro w2 e5 hs2; have HS2 := Aside0.mk hs2; clear hs2 f5; refine hold_ ?_))
    intro _
    have c9 : w2.cell? ⟨g, 9, none⟩ = some (.slice s1.A9 n.l9.length s1.c9) := (blk_cell e5 9).trans rfl
    have HR2 : Aside0 (NR w2 W.heap.size n s1) := ⟨HR1.out.step (fun k hk hlt => HS2.out.far k (by have := HSW.out; omega))⟩
    have E5 := Aside0.mk e5
    have F10' := Aside0.mk (HS2.out.blk (by omega) F10.out)
    go_wp2_with fail
    refine (find_ok s1.A9 s1.c9 n.l9 id w2 HR2.out.reads.r9 HR2.out.reads.q9).mono ?_
    rintro e w3 ⟨rfl, hb3⟩
    rw [HFI.out]
    have HB3 := Aside0.mk hb3
    have f5 := (hb3.block g (blk_lt E5.out)).trans E5.out
    have f10 := (hb3.block _ (blk_lt F10'.out)).trans F10'.out
    clear hb3 e5 c9
    go_wp2_with (first | (refine gate_ (.load 34 (.tmp 5)) rfl ?_; refine wpList_load_row rfl 34 _ rfl (g) rfl 34 _ (0, 0) _ f5 Try.underlying34 rfl (by kernel_rfl) ?_) | (refine store_box (.store 34 (.tmp 10) (.tmp 21)) 34 _ _ (g + 1) 0 _ #[.int .u64 n.a0, .int .u16 n.a1, .int .i64 n.a2, .bool n.a3, .slice s1.A4 n.l4.length s1.c4, .slice s1.A5 n.l5.length s1.c5, .slice s1.A6 n.l6.length s1.c6, .slice s1.A7 n.l7.length s1.c7, .slice s1.A8 n.l8.length s1.c8, .slice s1.A9 n.l9.length s1.c9, .slice s1.A10 n.l10.length s1.c10, .int .u32 n.a11, .int .i64 n.a12, .int .i64 n.a13] 34 _ [.int .u64 n.a0, .int .u16 n.a1, .int .i64 n.a2, .bool n.a3, .slice s1.A4 n.l4.length s1.c4, .slice s1.A5 n.l5.length s1.c5, .slice s1.A6 n.l6.length s1.c6, .slice s1.A7 n.l7.length s1.c7, .slice s1.A8 n.l8.length s1.c8, .slice s1.A9 n.l9.length s1.c9, .slice s1.A10 n.l10.length s1.c10, .int .u32 n.a11, .int .i64 n.a12, .int .i64 n.a13] rfl rfl rfl rfl rfl rfl f10 rfl (by kernel_rfl) (by simp) (by simp [Value.oneCell']) (by simp) ?_; intro w4 e10 hs4; have HS4 := Aside0.mk hs4; obtain ⟨y0, y1, y2, y3, y4, y5, y6, y7, y8, y9, y10, y11, y12, y13, _⟩ := box14f e10; clear hs4 f10))
    refine bodyPost_ret (v := nv n s1) ?hres rfl ?_
    case hres =>
      simp only [results, Try.f15]
      go_simp
    have h24 : Below w.heap.size w w4 := HS4.out.on (by have := HGG.out; omega) (below_then (HS2.out.on (by have := HGG.out; omega) (below_then HBW.out HBW.out.size HB1.out)) (by have := HS2.out.size; have := HB1.out.size; have := HBW.out.size; omega) HB3.out)
    exact ⟨s1, rfl, ((HR2.out.below HB3.out).step (fun k hk hlt => HS4.out.far k (by have := HSW.out; omega))).lower HBW.out.size, h24⟩
  · have hw8 : wrap64 ((k : Int) + 1) = (k : Int) + 1 := by have := HL.out.2; unfold wrap64; omega
    have HW8 := Aside0.mk hw8
    have HK := Aside0.mk hk
    obtain ⟨x, hx⟩ : ∃ x, rd_T36 n.l9 (k : Int) = x := ⟨_, rfl⟩
    obtain ⟨n7, hn7⟩ : ∃ n7, toldN { n with l9 := n.l9.eraseIdx k } x has val e = n7 := ⟨_, rfl⟩
    have HS : Aside0 (settleN n id has val e = n7) := ⟨by unfold settleN; rw [HFI.out, if_neg (by omega), hx]; exact hn7⟩
    have HXX := Aside0.mk hx
    have HN7E := Aside0.mk hn7
    rw [HS.out]
    clear hx hn7
    have p0 : ((k : Int) < 0) = False := eq_false (by omega)
    have p1 : ((k : Int) < (n.l9.length : Int)) = True := eq_true (by omega)
    have p2 : (0 ≤ (k : Int)) = True := eq_true (by omega)
    clear hw8 hk
    go_enter Try.func15, Try.ntmps15
    go_wp2_with (refine gate_ (.load 34 (.tmp 5)) rfl ?_; refine wpList_load_row rfl 34 _ rfl (g) rfl 34 _ (0, 0) _ e5 Try.underlying34 rfl (by kernel_rfl) ?_)
    refine HCP.out.mono ?_
    rintro e1 w1 ⟨s1, rfl, hR1, hb1⟩
    have HR1 := Aside0.mk hR1
    have HB1 := Aside0.mk hb1
    have f5 := (hb1.block g (blk_lt HE5.out)).trans HE5.out
    have F10 := Aside0.mk ((hb1.block _ (blk_lt HE10.out)).trans HE10.out)
    clear hR1 hb1 e5 hW
    go_wp2_with ((refine store_box (.store 34 (.tmp 5) (.tmp 14)) 34 _ _ (g) 0 _ #[.int .u64 n.a0, .int .u16 n.a1, .int .i64 n.a2, .bool n.a3, .slice s1.A4 n.l4.length s1.c4, .slice s1.A5 n.l5.length s1.c5, .slice s1.A6 n.l6.length s1.c6, .slice s1.A7 n.l7.length s1.c7, .slice s1.A8 n.l8.length s1.c8, .slice s1.A9 n.l9.length s1.c9, .slice s1.A10 n.l10.length s1.c10, .int .u32 n.a11, .int .i64 n.a12, .int .i64 n.a13] 34 _ [.int .u64 n.a0, .int .u16 n.a1, .int .i64 n.a2, .bool n.a3, .slice s1.A4 n.l4.length s1.c4, .slice s1.A5 n.l5.length s1.c5, .slice s1.A6 n.l6.length s1.c6, .slice s1.A7 n.l7.length s1.c7, .slice s1.A8 n.l8.length s1.c8, .slice s1.A9 n.l9.length s1.c9, .slice s1.A10 n.l10.length s1.c10, .int .u32 n.a11, .int .i64 n.a12, .int .i64 n.a13] rfl rfl rfl rfl rfl rfl f5 rfl (by kernel_rfl) (by simp) (by simp [Value.oneCell']) (by simp) ?_; intro w2 e5 hs2; have HS2 := Aside0.mk hs2; clear hs2 f5; refine hold_ ?_))
    intro _
    have c9 : w2.cell? ⟨g, 9, none⟩ = some (.slice s1.A9 n.l9.length s1.c9) := (blk_cell e5 9).trans rfl
    have HR2 : Aside0 (NR w2 W.heap.size n s1) := ⟨HR1.out.step (fun k hk hlt => HS2.out.far k (by have := HSW.out; omega))⟩
    have E5 := Aside0.mk e5
    have F10' := Aside0.mk (HS2.out.blk (by omega) F10.out)
    go_wp2_with fail
    refine (find_ok s1.A9 s1.c9 n.l9 id w2 HR2.out.reads.r9 HR2.out.reads.q9).mono ?_
    rintro e1 w3 ⟨rfl, hb3⟩
    rw [HFI.out]
    have HB3 := Aside0.mk hb3
    have HR3 := Aside0.mk (HR2.out.below hb3)
    have e5' := (hb3.block g (blk_lt E5.out)).trans E5.out
    have HE5' := Aside0.mk e5'
    have F10'' := Aside0.mk ((hb3.block _ (blk_lt F10'.out)).trans F10'.out)
    obtain ⟨gr, hgr⟩ := own_form HR3.out.o9 (by have := HK.out; omega)
    have HGR := Aside0.mk hgr
    have c9' : w3.cell? ⟨g, 9, none⟩ = some (.slice (some ⟨gr, 0, none⟩) n.l9.length s1.c9) := by rw [← hgr]; exact (blk_cell e5' 9).trans rfl
    obtain ⟨ad, had, x0, x1, x2, x3, x4, x5, x6, x7, x8, x9, x10, x11, x12, x13⟩ := at_T36 HR3.out.reads.r9 (k : Int) (Int.natCast_nonneg k) (by have := HK.out; omega)
    obtain rfl : ad = ⟨gr, 0, none⟩ := by rw [hgr] at had; injection had with had; exact had.symm
    rw [HXX.out] at x0 x1 x2 x3 x4 x5 x6 x7 x8 x9 x10 x11 x12 x13
    simp only [add_at, Int.toNat_natCast] at x0 x1 x2 x3 x4 x5 x6 x7 x8 x9 x10 x11 x12 x13
    have hz := heap_alloc_new w3 (.cells #[.int .i64 0, .int .i64 0, .int .i64 0, .string ⟨#[]⟩, .string ⟨#[]⟩, .int .u64 0, .int .u64 0, .int .u16 0, .int .u64 0, .int .u16 0, .bool false, .int .i64 0, .int .i64 0, .int .i64 0] 36)
    clear hb3 e5 c9 hgr had e5'
    go_wp2_with ((refine store_box (.store 36 (.tmp 12) (.tmp 26)) 36 _ _ (w3.heap.size) 0 _ #[.int .i64 x.f0, .int .i64 x.f1, .int .i64 x.f2, .string x.f3, .string x.f4, .int .u64 x.f5, .int .u64 x.f6.f0, .int .u16 x.f6.f1, .int .u64 x.f7.f0, .int .u16 x.f7.f1, .bool x.f8, .int .i64 x.f9, .int .i64 x.f10, .int .i64 x.f11] 36 _ [.int .i64 x.f0, .int .i64 x.f1, .int .i64 x.f2, .string x.f3, .string x.f4, .int .u64 x.f5, .int .u64 x.f6.f0, .int .u16 x.f6.f1, .int .u64 x.f7.f0, .int .u16 x.f7.f1, .bool x.f8, .int .i64 x.f9, .int .i64 x.f10, .int .i64 x.f11] rfl rfl rfl rfl rfl rfl hz rfl (by kernel_rfl) (by simp) (by simp [Value.oneCell']) (by simp) ?_; intro w4 e12 hs4; have HS4 := Aside0.mk hs4; clear hs4 hz; refine hold_ ?_))
    intro _
    have HB4 := Aside0.mk (sto_new HS4.out)
    have HR4 := Aside0.mk (HR3.out.below HB4.out)
    have f5 := (HB4.out.block g (blk_lt HE5'.out)).trans HE5'.out
    have F5 := Aside0.mk f5
    have E12 := Aside0.mk e12
    have c9 : w4.cell? ⟨g, 9, none⟩ = some (.slice (some ⟨gr, 0, none⟩) n.l9.length s1.c9) := by rw [← HGR.out]; exact (blk_cell f5 9).trans rfl
    have HBS4 : Aside0 (W.heap.size ≤ w4.heap.size) := ⟨by have := HB4.out.size; have := HB3.out.size; have := HS2.out.size; have := HB1.out.size; omega⟩
    have hRd : Kd.R k36 36 w4 W.heap.size (fun _ => True) (.slice (some ⟨gr, 0, none⟩) n.l9.length s1.c9) n.l9 := by rw [← HGR.out]; exact HR4.out.o9
    have HDEL := Aside0.mk (del_calls hRd HK.out HBS4.out (by have := HL.out.2; omega))
    have HGRB : Aside0 (W.heap.size ≤ gr ∧ gr < w3.heap.size) := ⟨by
      have h1 := HR3.out.o9
      rw [HGR.out] at h1
      obtain ⟨_, h2, h3, _⟩ := (Kd.R_bound h1).1 gr rfl
      exact ⟨h2, h3⟩⟩
    clear f5 hRd e12 x0 x1 x2 x3 x4 x5 x6 x7 x8 x9 x10 x11 x12 x13 c9'
    go_wp2_with fail
    try rw [HW8.out]
    refine HDEL.out.mono ?_
    rintro e1 w5 ⟨rfl, hR5, hg5⟩
    have HR5 := Aside0.mk hR5
    have HG5 := Aside0.mk hg5
    have e5 := (hg5.block g (blk_lt F5.out) (fun e' => by have := HGRB.out; have := HSW.out; cases e'; omega)).trans F5.out
    clear hR5 hg5 c9
    go_wp2_with ((refine store_box (.store 30 (.tmp 33) (.tmp 32)) 30 _ _ (g) 9 _ #[.int .u64 n.a0, .int .u16 n.a1, .int .i64 n.a2, .bool n.a3, .slice s1.A4 n.l4.length s1.c4, .slice s1.A5 n.l5.length s1.c5, .slice s1.A6 n.l6.length s1.c6, .slice s1.A7 n.l7.length s1.c7, .slice s1.A8 n.l8.length s1.c8, .slice (some ⟨gr, 0, none⟩) (n.l9.length - 1) s1.c9, .slice s1.A10 n.l10.length s1.c10, .int .u32 n.a11, .int .i64 n.a12, .int .i64 n.a13] 34 _ [.slice (some ⟨gr, 0, none⟩) (n.l9.length - 1) s1.c9] rfl rfl rfl rfl rfl rfl e5 rfl (by kernel_rfl) (by simp) (by simp [Value.oneCell']) (by simp) ?_; intro w6 e6 hs6; have HS6 := Aside0.mk hs6; clear hs6; refine hold_ ?_))
    intro _
    have hlen : (n.l9.eraseIdx k).length = n.l9.length - 1 := List.length_eraseIdx_of_lt HK.out
    have HLEN := Aside0.mk hlen
    have HT6 : Aside0 (Tf 36 W.heap.size g w4 w6) := ⟨(Tf.grown HG5.out (fun q hq => by
      have h1 := HR4.out.o9
      rw [HGR.out] at h1
      cases hq
      obtain ⟨_, h2, _, q', hq', c', hc'⟩ := (Kd.R_bound h1).1 gr rfl
      have h36 : q' = 36 := by
        have : q' ∈ [36] := hq'
        simpa using this
      rw [h36] at hc'
      exact ⟨h2, c', hc'⟩)).trans (Tf.sto HS6.out)⟩
    have hgw : g < W.heap.size := by have := HSW.out; omega
    have HN6 : Aside0 (NR w6 W.heap.size { n with l9 := n.l9.eraseIdx k } { s1 with A9 := some ⟨gr, 0, none⟩, c9 := s1.c9 }) := ⟨nr_jobs HR4.out HT6.out hgw (by
      rw [hlen]
      exact Kd.R_mono (Kd.R_step (Kd.R_bound HR5.out) (fun q hq _ => HS6.out.far q (by have := hq.2.1; omega))) (fun _ _ => trivial))⟩
    have HBX6 : Aside0 (w6.heap[g]? = some (.cells #[.int .u64 n.a0, .int .u16 n.a1, .int .i64 n.a2, .bool n.a3, .slice s1.A4 n.l4.length s1.c4, .slice s1.A5 n.l5.length s1.c5, .slice s1.A6 n.l6.length s1.c6, .slice s1.A7 n.l7.length s1.c7, .slice s1.A8 n.l8.length s1.c8, .slice (some ⟨gr, 0, none⟩) (n.l9.eraseIdx k).length s1.c9, .slice s1.A10 n.l10.length s1.c10, .int .u32 n.a11, .int .i64 n.a12, .int .i64 n.a13] 34 (0, 0))) := ⟨by rw [hlen]; exact e6⟩
    have f12 := HS6.out.blk (by have := HGRB.out; omega) ((HG5.out.block _ (blk_lt E12.out) (fun e' => by have := HGRB.out; cases e'; omega)).trans E12.out)
    have HTD := Aside0.mk (told_ok { n with l9 := n.l9.eraseIdx k } { s1 with A9 := some ⟨gr, 0, none⟩, c9 := s1.c9 } x has val e g W.heap.size w6 HBX6.out HN6.out hgw (by have := HT6.out.size; have := HBS4.out; omega) HL.out.1)
    have F10w : Aside0 (w6.heap[g + 1]? = some (.cells #[.int .u64 0, .int .u16 0, .int .i64 0, .bool false, .slice none 0 0, .slice none 0 0, .slice none 0 0, .slice none 0 0, .slice none 0 0, .slice none 0 0, .slice none 0 0, .int .u32 0, .int .i64 0, .int .i64 0] 34 (0, 0))) := ⟨(HT6.out.keep (g + 1) (by have := HSW.out; have := HBS4.out; omega) (by omega) (.inl (by have := HSW.out; omega))).trans ((HB4.out.block _ (blk_lt F10''.out)).trans F10''.out)⟩
    rw [HN7E.out] at HTD
    clear hlen e5 e6
    go_wp2_with (refine gate_ (.load 36 (.tmp 12)) rfl ?_; refine wpList_load_row rfl 36 _ rfl (w3.heap.size) rfl 36 _ (0, 0) _ f12 Try.underlying36 rfl (by kernel_rfl) ?_)
    refine HTD.out.mono ?_
    rintro e1 w7 ⟨rfl, A, c, hbx, hN7, hT7⟩
    have HN7 := Aside0.mk hN7
    have HT7 := Aside0.mk hT7
    have f10 := (hT7.keep (g + 1) (blk_lt F10w.out) (by omega) (.inl (by have := HSW.out; omega))).trans F10w.out
    clear hN7 hT7 f12
    go_wp2_with (first | (refine gate_ (.load 34 (.tmp 5)) rfl ?_; refine wpList_load_row rfl 34 _ rfl (g) rfl 34 _ (0, 0) _ hbx Try.underlying34 rfl (by kernel_rfl) ?_) | (refine store_box (.store 34 (.tmp 10) (.tmp 39)) 34 _ _ (g + 1) 0 _ #[.int .u64 n7.a0, .int .u16 n7.a1, .int .i64 n7.a2, .bool n7.a3, .slice s1.A4 n7.l4.length s1.c4, .slice s1.A5 n7.l5.length s1.c5, .slice s1.A6 n7.l6.length s1.c6, .slice s1.A7 n7.l7.length s1.c7, .slice s1.A8 n7.l8.length s1.c8, .slice (some ⟨gr, 0, none⟩) n7.l9.length s1.c9, .slice A n7.l10.length c, .int .u32 n7.a11, .int .i64 n7.a12, .int .i64 n7.a13] 34 _ [.int .u64 n7.a0, .int .u16 n7.a1, .int .i64 n7.a2, .bool n7.a3, .slice s1.A4 n7.l4.length s1.c4, .slice s1.A5 n7.l5.length s1.c5, .slice s1.A6 n7.l6.length s1.c6, .slice s1.A7 n7.l7.length s1.c7, .slice s1.A8 n7.l8.length s1.c8, .slice (some ⟨gr, 0, none⟩) n7.l9.length s1.c9, .slice A n7.l10.length c, .int .u32 n7.a11, .int .i64 n7.a12, .int .i64 n7.a13] rfl rfl rfl rfl rfl rfl f10 rfl (by kernel_rfl) (by simp) (by simp [Value.oneCell']) (by simp) ?_; intro w8 e10 hs8; have HS8 := Aside0.mk hs8; obtain ⟨y0, y1, y2, y3, y4, y5, y6, y7, y8, y9, y10, y11, y12, y13, _⟩ := box14f e10; clear hs8 f10))
    refine bodyPost_ret (v := nv n7 { s1 with A9 := some ⟨gr, 0, none⟩, c9 := s1.c9, A10 := A, c10 := c }) ?hres rfl ?_
    case hres =>
      simp only [results, Try.f15]
      go_simp
    have hw3 : Below w.heap.size w w3 := below_then (HS2.out.on (by have := HGG.out; omega) (below_then HBW.out HBW.out.size HB1.out)) (by have := HS2.out.size; have := HB1.out.size; have := HBW.out.size; omega) HB3.out
    have hw4 := below_then hw3 hw3.size HB4.out
    have hw7 := HT7.out.on (HT6.out.on hw4 HBW.out.size (by have := HGG.out; omega)) HBW.out.size (by have := HGG.out; omega)
    exact ⟨_, rfl, (HN7.out.step (fun q hq hlt => HS8.out.far q (by have := HSW.out; omega))).lower HBW.out.size, HS8.out.on (by have := HGG.out; omega) hw7⟩
#print axioms settle_ok
end Go.Proofs.Ytcnkmajengephaa.H
