/- Mine. Chapter 23, by hand: asm's New, Tick, Held of none, Memory. -/
import Derived.Test.YtaeelmkpjgmdlaaHAs
namespace Go.Proofs.Ytaeelmkpjgmdlaa.H
open Go Go.Proofs Go.RowKit Go.Lib Go.Proofs.Ytaeelmkpjgmdlaa.P Go.Proofs.YtaeelmkpjgmdlaaW.PrintWords Go.Proofs.YtaeelmkpjgmdlaaW.PrintLast Go.Proofs.YtaeelmkpjgmdlaaW.PrintMore Go.Proofs.YtaeelmkpjgmdlaaW.PrintFlat Go.Proofs.Ytaeelmkpjgmdlaa.Seen
set_option linter.unusedVariables false
set_option linter.unusedSimpArgs false
theorem box4c {w : World} {g t : Nat} {c0 c1 c2 c3 : Value} (h : w.heap[g]? = some (.cells #[c0, c1, c2, c3] t (0, 0))) : w.cell? ⟨g, 0, none⟩ = some c0 ∧ w.cell? ⟨g, 1, none⟩ = some c1 ∧ w.cell? ⟨g, 2, none⟩ = some c2 ∧ w.cell? ⟨g, 3, none⟩ = some c3 := ⟨(blk_cell h 0).trans rfl, (blk_cell h 1).trans rfl, (blk_cell h 2).trans rfl, (blk_cell h 3).trans rfl⟩
def ANewP (L : Room.Lim) (W : World) (e : Ending) (w' : World) : Prop := Below W.heap.size W w' ∧
  ((limB L = true ∧ ∃ a, e = .returned (.tuple #[.pointer (some ⟨a, 0, none⟩), .int .i64 0]) ∧ AS (fun k => W.heap.size ≤ k ∧ k < w'.heap.size) a L [] (fun _ => s0) 0 w') ∨ (limB L = false ∧ e = .returned (.tuple #[.pointer none, .int .i64 1])))
set_option maxRecDepth 100000 in
set_option maxHeartbeats 1000000 in
theorem anew_calls (L : Room.Lim) (W : World) : Calls Try.prog 20 #[.agg #[.int .i64 L.op, .int .i64 L.by_, .int .i64 L.ex]] W (ANewP L W) := by
  obtain ⟨V, hV⟩ : ∃ V, (W.alloc (.cells #[.int .i64 L.op, .int .i64 L.by_, .int .i64 L.ex] 23)) = V := ⟨_, rfl⟩
  have hbV : Below W.heap.size W V := by rw [← hV]; exact below_alloc (Below.refl _ _) _
  have hx1 : V.heap[W.heap.size]? = some (.cells #[.int .i64 L.op, .int .i64 L.by_, .int .i64 L.ex] 23 (0, 0)) := by rw [← hV]; exact heap_alloc_new W _
  obtain ⟨x0, x1, x2⟩ := box3c hx1
  have HN := Aside0.mk (tnew_calls L V)
  have HBV := Aside0.mk hbV
  clear hbV hx1
  go_enter Try.func20, Try.ntmps20
  go_wp2_with fail
  refine HN.out.mono ?_
  rintro e w1 ⟨hb1, (⟨hl, t, rfl, hT⟩ | ⟨hl, rfl⟩)⟩
  · have HB1 := Aside0.mk (below_then HBV.out HBV.out.size hb1)
    have HT := Aside0.mk hT
    have HL := Aside0.mk hl
    have HBB := Aside0.mk hb1
    clear hb1 hT hl x0 x1 x2
    go_wp2_with fail
    rw [show (Instr.makeMap 100 none).run Try.prog w1 = .ok (.map (some w1.heap.size)) (w1.alloc (.map #[] 0)) from rfl]
    simp only [Result.andThen_ok]
    go_wp2
    go_ret2
    have hm := World.ownsMap_made w1 Try.prog 34 RV
    have e1 : (w1.alloc (.map #[] 0)).heap.size = w1.heap.size + 1 := by simp
    have hn := heap_alloc_new (w1.alloc (.map #[] 0)) (.cells #[.bool true, .pointer (some ⟨t, 0, none⟩), .map (some w1.heap.size)] 102)
    have e2 : ((w1.alloc (.map #[] 0)).alloc (.cells #[.bool true, .pointer (some ⟨t, 0, none⟩), .map (some w1.heap.size)] 102)).heap.size = w1.heap.size + 1 + 1 := by rw [← e1]; simp
    have hB2 := below_alloc (below_alloc (Below.refl w1.heap.size w1) (.map #[] 0)) (.cells #[.bool true, .pointer (some ⟨t, 0, none⟩), .map (some w1.heap.size)] 102)
    rw [e1] at hn
    have s1 := HB1.out.size
    have s2 := HBB.out.size
    have s3 := HBV.out.size
    refine ⟨below_then HB1.out HB1.out.size hB2, .inl ⟨HL.out, w1.heap.size + 1, rfl, t, w1.heap.size, (fun k => V.heap.size ≤ k ∧ k < w1.heap.size), ⟨by omega, by rw [e2]; omega⟩, ⟨by omega, by rw [e2]; omega⟩, by omega, hn, HT.out.below hB2, fun q hq => ⟨⟨by omega, by rw [e2]; omega⟩, by omega, by omega⟩, ⟨_, hm.alloc _, Maps.tidy_empty, fun i => rfl⟩, fun q hq => hq.2⟩⟩
  · have HB1 := Aside0.mk (below_then HBV.out HBV.out.size hb1)
    have HL := Aside0.mk hl
    clear hb1 hl x0 x1 x2
    go_wp2_with fail
    go_ret2
    exact ⟨HB1.out, .inr ⟨HL.out, rfl⟩⟩
set_option maxRecDepth 100000 in
set_option maxHeartbeats 1000000 in
theorem atick_calls {own : Nat → Prop} {a : Nat} {L : Room.Lim} {os : List OB} {mem : Int → SS} {n : Nat} {W : World} (h' : AS own a L os mem n W) (hm : os.length ≤ 1000) (ha : ∀ o ∈ os, 0 ≤ o.a.age ∧ o.a.age ≤ 1000) :
    Calls Try.prog 23 #[.pointer (some ⟨a, 0, none⟩)] W fun e' w' => e' = .returned (.tuple #[]) ∧ Fr own W w' ∧ ∃ os', aOf os' = Room.tick L (aOf os) ∧ AS own a L os' mem n w' := by
  obtain ⟨t, b, ownT, h⟩ := h'
  have HAX := Aside0.mk h
  have HTK := Aside0.mk (tick_calls h.tb hm ha)
  have a0 : W.cell? ⟨a, 0, none⟩ = some (.bool true) := (blk_cell h.st 0).trans rfl
  have a1 : W.cell? ⟨a, 1, none⟩ = some (.pointer (some ⟨t, 0, none⟩)) := (blk_cell h.st 1).trans rfl
  have HD := Aside0.mk (adead_ok a0)
  clear h hm ha a0
  go_enter Try.func23, Try.ntmps23
  go_wp2_with fail
  refine HD.out.mono ?_
  rintro e1 w1 ⟨rfl, rfl⟩
  go_wp2_with fail
  refine HTK.out.mono ?_
  rintro e2 w2 ⟨rfl, hf, os', ha', hT⟩
  have HF := Aside0.mk hf
  have HA := Aside0.mk ha'
  have HT := Aside0.mk hT
  clear hf ha' hT a1
  go_wp2
  go_end0
  refine ⟨rfl, HF.out.mono (fun q _ hq => (HAX.out.sub q hq).1), os', HA.out, t, b, ownT, HAX.out.oa, HAX.out.ob, HAX.out.ne, ?_, HT.out, HAX.out.sub, ?_, fun q hq => Nat.lt_of_lt_of_le (HAX.out.lt q hq) HF.out.size⟩
  · exact (HF.out.block a (HAX.out.lt a HAX.out.oa) (fun e => (HAX.out.sub a e).2.1 rfl)).trans HAX.out.st
  · exact HAX.out.mm.frame (HF.out.block b (HAX.out.lt b HAX.out.ob) (fun e => (HAX.out.sub b e).2.2 rfl))
theorem aheld_nil (W : World) : Calls Try.prog 44 #[.pointer none] W fun e w' => e = .returned (.int .i64 0) ∧ Below W.heap.size W w' := by
  have HB := Aside0.mk (Below.refl W.heap.size W)
  go_enter Try.func44, Try.ntmps44
  go_wp2
  go_ret
  exact ⟨rfl, HB.out⟩
set_option maxRecDepth 100000 in
set_option maxHeartbeats 1000000 in
theorem amem_calls {own : Nat → Prop} {a : Nat} {L : Room.Lim} {os : List OB} {mem : Int → SS} {n : Nat} {W : World} (h' : AS own a L os mem n W) (f : Int) (hf : (Lit.int .u16 f).wf = true) :
    Calls Try.prog 43 #[.pointer (some ⟨a, 0, none⟩), .int .u16 f] W fun e' w' => e' = .returned (encS (mem f)) ∧ Below W.heap.size W w' := by
  obtain ⟨t, b, ownT, h⟩ := h'
  obtain ⟨V, hV⟩ : ∃ V, (W.alloc (.cells #[.bool false, .int .u32 0, .int .u32 0, .int .u64 0] 94)) = V := ⟨_, rfl⟩
  have hbV : Below W.heap.size W V := by rw [← hV]; exact below_alloc (Below.refl _ _) _
  have hx1 : V.heap[W.heap.size]? = some (.cells #[.bool false, .int .u32 0, .int .u32 0, .int .u64 0] 94 (0, 0)) := by rw [← hV]; exact heap_alloc_new W _
  have hA := h.below hbV
  have a0 : V.cell? ⟨a, 0, none⟩ = some (.bool true) := (blk_cell hA.st 0).trans rfl
  have a2 : V.cell? ⟨a, 2, none⟩ = some (.map (some b)) := (blk_cell hA.st 2).trans rfl
  obtain ⟨s, hs⟩ : ∃ s, mem f = s := ⟨_, rfl⟩
  have hlook := hA.mm.look f hf
  rw [hs] at hlook ⊢
  have HLK := Aside0.mk hlook
  have HD := Aside0.mk (adead_ok a0)
  have HBV := Aside0.mk hbV
  have HX1 := Aside0.mk hx1
  clear h hA a0 hs hbV hx1 hlook
  go_enter Try.func43, Try.ntmps43
  go_wp2_with fail
  refine HD.out.mono ?_
  rintro e1 w1 ⟨rfl, rfl⟩
  go_wp2_with (first | (at_lookup; refine wpList_lookup _ rfl _ _ 100 rfl _ _ b rfl rfl HLK.out ?_) | (refine store_box (.store 94 (.tmp 4) (.tmp 13)) 94 _ _ W.heap.size 0 _ #[.bool s.1, .int .u32 s.2.1, .int .u32 s.2.2.1, .int .u64 s.2.2.2] 94 (encS s) [.bool s.1, .int .u32 s.2.1, .int .u32 s.2.2.1, .int .u64 s.2.2.2] rfl rfl rfl rfl rfl rfl HX1.out rfl (by kernel_rfl) (by simp) (by simp [Value.oneCell']) (by simp) ?_; intro w2 e2 hs2; have HE2 := Aside0.mk e2; have HS2 := Aside0.mk hs2; clear e2 hs2))
  obtain ⟨y0, y1, y2, y3⟩ := box4c HE2.out
  refine bodyPost_ret (v := .agg #[.bool s.1, .int .u32 s.2.1, .int .u32 s.2.2.1, .int .u64 s.2.2.2]) ?hres rfl ?_
  case hres =>
    simp only [results, Try.f43]
    simp only [Act.put, List.setIfInBounds_toArray, List.set_cons_zero, List.set_cons_succ]
    go_simp
  exact ⟨rfl, HS2.out.on (Nat.le_refl _) HBV.out⟩
#print axioms amem_calls
end Go.Proofs.Ytaeelmkpjgmdlaa.H
