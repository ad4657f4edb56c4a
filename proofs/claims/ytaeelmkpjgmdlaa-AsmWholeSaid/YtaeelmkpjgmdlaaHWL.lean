/- Mine. Chapter 23, by hand: the law AsmWhole, walked. -/
import Derived.Test.YtaeelmkpjgmdlaaHWE
namespace Go.Proofs.Ytaeelmkpjgmdlaa.H
open Go Go.Proofs Go.RowKit Go.Lib Go.Proofs.Ytaeelmkpjgmdlaa.P Go.Proofs.YtaeelmkpjgmdlaaW.PrintWords Go.Proofs.YtaeelmkpjgmdlaaW.PrintLast Go.Proofs.YtaeelmkpjgmdlaaW.PrintMore Go.Proofs.YtaeelmkpjgmdlaaW.PrintFlat Go.Proofs.Ytaeelmkpjgmdlaa.Seen
set_option linter.unusedVariables false
set_option linter.unusedSimpArgs false
set_option maxHeartbeats 4000000 in
set_option maxRecDepth 100000 in
theorem split_no {A : Option Addr} {c : Nat} {body : List Int} {W : World} (mtu kd ver ep id ix0 cnt0 : Int) (hroom : annuletref19_Room.f mtu = some 0) :
    Calls Try.prog 19 #[.int .i64 mtu, .agg #[.int .u8 kd, .int .u8 ver, .int .u32 ep, .int .u32 id, .int .u16 ix0, .int .u16 cnt0, .slice A body.length c]] W fun e w' => Below W.heap.size W w' ∧ e = .returned (.tuple #[.slice none 0 0, .int .i64 1]) := by
  obtain ⟨V, hV⟩ : ∃ V, (W.alloc (.cells #[.int .u8 kd, .int .u8 ver, .int .u32 ep, .int .u32 id, .int .u16 ix0, .int .u16 cnt0, .slice A body.length c] 38)) = V := ⟨_, rfl⟩
  have hbV : Below W.heap.size W V := by rw [← hV]; exact below_alloc (Below.refl _ _) _
  have hx3 : V.heap[W.heap.size]? = some (.cells #[.int .u8 kd, .int .u8 ver, .int .u32 ep, .int .u32 id, .int .u16 ix0, .int .u16 cnt0, .slice A body.length c] 38 (0, 0)) := by rw [← hV]; exact heap_alloc_new W _
  obtain ⟨v0, v1, v2, v3, v4, v5, v6⟩ := box7c hx3
  have HCO : Aside0 (Calls Try.prog 45 #[.int .i64 mtu, .int .i64 (body.length : Int)] V fun e w' => e = .returned (.tuple #[.int .i64 0, .int .i64 1]) ∧ Below V.heap.size V w') := ⟨(annuletref19_Count.calls 3 mtu (body.length : Int) 0 1 V (count_no hroom)).mono (fun e w' h => ⟨h.1, by obtain ⟨m, hm⟩ := h.2; rw [hm]; exact pw_below_drewN (Below.refl _ _) _⟩)⟩
  have HBV := Aside0.mk hbV
  clear hbV hx3 hroom
  go_enter Try.func19, Try.ntmps19
  go_wp2_with fail
  refine HCO.out.mono ?_
  rintro e1 w1 ⟨rfl, hb1⟩
  have HB1 := Aside0.mk (below_then HBV.out HBV.out.size hb1)
  clear hb1
  go_wp2_with fail
  go_ret2
  exact ⟨HB1.out, rfl⟩
/-- A datagram of the row of them. -/
theorem at_kB {w : World} {A : Option Addr} {n : Nat} {xs : List (List Int)} (h : Kd.C kB w A n xs) {k : Nat} (hk : k < n) : ∃ ad A' c', A = some ad ∧ ∃ x, xs[k]? = some x ∧ w.cell? (ad.add k) = some (.slice A' x.length c') ∧ x.length ≤ c' ∧ Kd.C (Kd.int .u8) w A' x.length x := by
  obtain ⟨h1, h2, h3⟩ := h
  obtain ⟨ad, e, hc⟩ := h3 (by omega)
  obtain ⟨x, hx⟩ : ∃ x, xs[k]? = some x := ⟨xs[k]'(by omega), List.getElem?_eq_getElem _⟩
  obtain ⟨cs, g1, ⟨A', c', rfl, hl, hC⟩, g3⟩ := hc k x hx
  have h4 := g3 0 _ rfl
  rw [show k * kB.sz + 0 = k from Nat.mul_one k] at h4
  exact ⟨ad, A', c', e, x, hx, h4, hl, hC⟩
theorem osP_inv {body : List Int} {room many : Nat} {ver ep id : Int} {picked : List Nat} (hb : BdOk body room many) (hp : PkOk body room many picked) : RInv LW (osP body room many ver ep id picked) := by
  have hs := hb.size hp
  have h1 := hb.m1
  have h2 := hb.m2
  unfold osP
  split
  · exact RInv.nil LW_ok
  · refine ⟨⟨by simp, fun o ho => ?_, by simp, fun o ho => ?_⟩, ?_⟩
    · rw [List.mem_singleton.1 ho]
      show Room.size (ptP body room picked) ≤ 65536
      omega
    · rw [List.mem_singleton.1 ho]
      exact ⟨by show (1 : Int) ≤ (many : Int); omega, by show (many : Int) ≤ 65535; omega⟩
    · show Room.held [_] ≤ 65536
      have : Room.held [(⟨7, ep, id, (many : Int), ver, 0, ptP body room picked⟩ : Room.OA)] = Room.size (ptP body room picked) := by unfold Room.held; simp
      rw [this]
      omega
theorem memP_bd {many : Nat} {ep id : Int} (he : ep.toNat < 4294967296) (hi : id.toNat < 4294967296) (picked : List Nat) : ∀ i, SBd (memP many ep id picked i) := by
  intro i
  unfold memP
  split
  · unfold upM
    split
    · exact mks_bd s0_bd he hi
    · exact s0_bd
  · exact s0_bd
/-- What stands there behind some of the picks. -/
structure WS (w W1 : World) (body : List Int) (room many : Nat) (ver ep id : Int) (A1 : Option Addr) (c1 : Nat) (dg : Nat → List Int) (z4 b cap j : Nat) (own : Nat → Prop) (a n : Nat) (picked : List Nat) (B : List Bool) (wr : World) : Prop where
  asm : ∃ os, AS own a LW os (memP many ep id picked) n wr ∧ aOf os = osP body room many ver ep id picked
  pk : PkOk body room many picked
  nn : n ≤ j
  be : Below W1.heap.size W1 wr
  th : Kd.R Kd.bool 4 wr W1.heap.size (fun q => q = b) (.slice (some ⟨b, 0, none⟩) many cap) B
  hb : W1.heap.size ≤ b
  ow : ∀ q, own q → W1.heap.size ≤ q ∧ q ≠ b
  bb : ∀ k, k < many → rdOf false B (k : Int) = decide (k ∈ picked)
theorem WS.below {w W1 : World} {body : List Int} {room many : Nat} {ver ep id : Int} {A1 : Option Addr} {c1 : Nat} {dg : Nat → List Int} {z4 b cap j : Nat} {own : Nat → Prop} {a n : Nat} {picked : List Nat} {B : List Bool} {wr wr' : World} (h : WS w W1 body room many ver ep id A1 c1 dg z4 b cap j own a n picked B wr) (hb : Below wr.heap.size wr wr') : WS w W1 body room many ver ep id A1 c1 dg z4 b cap j own a n picked B wr' := by
  obtain ⟨os, h1, h2⟩ := h.asm
  exact ⟨⟨os, h1.below hb, h2⟩, h.pk, h.nn, below_then h.be h.be.size hb, Kd.R_below h.th hb, h.hb, h.ow, h.bb⟩
theorem addr_z (g q : Nat) : Addr.add ⟨g, 0, none⟩ q = ⟨g, q, none⟩ := by
  unfold Addr.add
  split <;> simp_all
theorem grown_below {w w1 : World} (h : w.grownBy w1 none) : Below w.heap.size w w1 := ⟨h.os, h.tape, h.output, h.size, fun k hk => h.block k hk (by simp)⟩
theorem row_open {w : World} {base : Nat} {ok : Nat → Prop} {v : Value} {xs : List Bool} (h : Kd.bool.R 4 w base ok v xs) (hp : 0 < xs.length) : ∃ b cap, v = .slice (some ⟨b, 0, none⟩) xs.length cap ∧ base ≤ b ∧ b < w.heap.size ∧ Kd.bool.R 4 w base (fun q => q = b) (.slice (some ⟨b, 0, none⟩) xs.length cap) xs := by
  have hb := Kd.R_base h
  have hlt := Kd.R_lt h
  have ht := Kd.R_tight rfl h
  obtain ⟨_, inner, hown, _⟩ := h
  rcases hown.2 with ⟨hv, hn⟩ | ⟨g, cap, cur, hv, _⟩
  · omega
  · subst hv
    exact ⟨g, cap, rfl, hb g rfl, hlt g rfl, Kd.R_mono ht (fun k hk => by have h1 : some k = some g := hk; injection h1)⟩
theorem rdOf_set {B : List Bool} {many k : Nat} {picked picked' : List Nat} (hl : B.length = many) (hb : ∀ i, i < many → rdOf false B (i : Int) = decide (i ∈ picked)) (hm : ∀ j, j ∈ picked' ↔ j ∈ picked ∨ j = k) (hk : k < many) : ∀ i, i < many → rdOf false (B.set k true) (i : Int) = decide (i ∈ picked') := by
  intro i hi
  have h1 := hb i hi
  unfold rdOf at h1 ⊢
  rw [Int.toNat_natCast] at h1 ⊢
  rw [List.getD_eq_getElem?_getD, List.getElem?_set]
  by_cases hki : k = i
  · subst hki
    rw [if_pos rfl, if_pos (by omega)]
    have : k ∈ picked' := (hm k).2 (.inr rfl)
    simp [this]
  · rw [if_neg hki, ← List.getD_eq_getElem?_getD, h1]
    have : (i ∈ picked') ↔ (i ∈ picked) := ⟨fun h => ((hm i).1 h).resolve_right (fun e => hki e.symm), fun h => (hm i).2 (.inl h)⟩
    simp [this]
theorem rdOf_same {B : List Bool} {many k : Nat} {picked picked' : List Nat} (hb : ∀ i, i < many → rdOf false B (i : Int) = decide (i ∈ picked)) (hm : ∀ j, j ∈ picked' ↔ j ∈ picked ∨ j = k) (hk : k ∈ picked) : ∀ i, i < many → rdOf false B (i : Int) = decide (i ∈ picked') := by
  intro i hi
  rw [hb i hi]
  have : (i ∈ picked') ↔ (i ∈ picked) := ⟨fun h => ((hm i).1 h).elim (fun x => x) (fun e => e ▸ hk), fun h => (hm i).2 (.inl h)⟩
  simp [this]
theorem gm_part {body : List Int} {room many k : Nat} {ver ep id : Int} (hb : BdOk body room many) (hk : k < many) : Gm (gP body room many ver ep id k) := by
  have h1 := hb.m2
  have h2 := hb.bl
  have h3 := (chunk_len body room k).2
  unfold Gm gP
  show 0 ≤ (k : Int) ∧ (k : Int) ≤ 65535 ∧ 0 ≤ (many : Int) ∧ (many : Int) ≤ 65535 ∧ (chunk body room k).length ≤ 80000
  omega
theorem u8_bd {x : Int} (h : (Lit.int .u8 x).wf = true) : 0 ≤ x ∧ x < 256 := by
  simp [Lit.wf, IntKind.min, IntKind.max, IntKind.bits, IntKind.signed] at h
  omega
theorem ofN_lt {a n : Int} (h : a < n) (h0 : ¬ a < 0) : ∃ k : Nat, a = k := ⟨a.toNat, by omega⟩
theorem dg_at {many k : Nat} (dg : Nat → List Int) (hk : k < many) : ((List.range many).map dg)[k]? = some (dg k) := by simp [hk]
theorem w1_ok {n : Nat} (h : n ≤ 400) : wrap64 ((n : Int) + 1) = ((n + 1 : Nat) : Int) := by unfold wrap64; omega
theorem body_stays {w5 w6 U : World} {B : Nat} {own : Nat → Prop} {A : Option Addr} {n c : Nat} {xs : List Int} (hR : Kd.R (Kd.int .u8) 5 w5 B (fun _ => True) (.slice A n c) xs) (h56 : Below w5.heap.size w5 w6) (ho : ∀ q, own q → q < B) (hU : Fr own w6 U) : Kd.C (Kd.int .u8) U A xs.length xs :=
  (Kd.R_reads' (Kd.R_step (w1 := U) (Kd.R_bound (Kd.R_below hR h56)) (fun q hq hlt => hU.block q hlt (fun e => absurd (ho q e) (Nat.not_lt.2 hq.2.1))))).2.2
theorem WS.took {w W1 : World} {body : List Int} {room many : Nat} {ver ep id : Int} {A1 : Option Addr} {c1 : Nat} {dg : Nat → List Int} {z4 b cap j : Nat} {own own7 : Nat → Prop} {a n n7 : Nat} {picked picked' : List Nat} {B : List Bool} {w6 w7 : World} {os7 : List OB} (h : WS w W1 body room many ver ep id A1 c1 dg z4 b cap j own a n picked B w6) (hf : Fr own w6 w7)
    (hA : AS own7 a LW os7 (memP many ep id picked') n7 w7) (ha : aOf os7 = osP body room many ver ep id picked') (hn : n7 ≤ n + 1) (ho : ∀ q, own7 q → own q ∨ w6.heap.size ≤ q) (hpk : PkOk body room many picked') :
    Below W1.heap.size W1 w7 ∧ Kd.R Kd.bool 4 w7 W1.heap.size (fun q => q = b) (.slice (some ⟨b, 0, none⟩) many cap) B ∧ b < w6.heap.size ∧ ∀ B' w8, Fr (fun q => q = b) w7 w8 → Kd.R Kd.bool 4 w8 W1.heap.size (fun q => q = b) (.slice (some ⟨b, 0, none⟩) many cap) B' → (∀ i, i < many → rdOf false B' (i : Int) = decide (i ∈ picked')) → WS w W1 body room many ver ep id A1 c1 dg z4 b cap (j + 1) own7 a n7 picked' B' w8 := by
  have hbl : b < w6.heap.size := Kd.R_lt h.th b rfl
  have hbe : Below W1.heap.size W1 w7 := h.be.trans (hf.below h.be.size (fun q hq => (h.ow q hq).1))
  have hnb : ¬ own b := fun e => (h.ow b e).2 rfl
  have how : ∀ q, own7 q → W1.heap.size ≤ q ∧ q ≠ b := fun q hq => by
    rcases ho q hq with h1 | h1
    · exact h.ow q h1
    · exact ⟨Nat.le_trans h.be.size h1, fun e => by rw [e] at h1; exact absurd hbl (Nat.not_lt.2 h1)⟩
  refine ⟨hbe, Kd.R_step h.th (fun q hq hlt => by rw [hq]; exact hf.block b hbl hnb), hbl, fun B' w8 hf8 hB8 hbb => ⟨⟨os7, ?_, ha⟩, hpk, by have := h.nn; omega, hbe.trans (hf8.below hbe.size (fun q hq => by rw [hq]; exact h.hb)), hB8, h.hb, how, hbb⟩⟩
  obtain ⟨t, b2, ownT, hx⟩ := hA
  exact ⟨t, b2, ownT, hx.frame hf8 (fun q hq e => (how q hq).2 e)⟩
theorem th_at {w : World} {base b cap many k : Nat} {B : List Bool} (h : Kd.R Kd.bool 4 w base (fun q => q = b) (.slice (some ⟨b, 0, none⟩) many cap) B) (hk : k < many) : w.cell? ⟨b, k, none⟩ = some (.bool (rdOf false B (k : Int))) ∧ B.length = many := by
  obtain ⟨h1, _, h2⟩ := Kd.R_reads' h
  obtain ⟨ad, e, hx⟩ := Kd.at_bool h2 (k : Int) (by omega) (by omega)
  injection e with e
  subst e
  rw [Int.toNat_natCast, addr_z] at hx
  exact ⟨hx, h1.symm⟩
theorem miss_end {many l l' : Nat} (hl : l + 1 = many) (h : l' = l + 1) : (0 : Int) = ((many - l' : Nat) : Int) := by omega
theorem miss_less {miss : Int} {many l l' : Nat} (h : miss = ((many - l : Nat) : Int)) (hl : l < many) (h' : l' = l + 1) : miss - 1 = ((many - l' : Nat) : Int) := by omega
theorem miss_bd {miss : Int} {many l : Nat} (h : miss = ((many - l : Nat) : Int)) (hl : l < many) (hm : many ≤ 126) : 1 ≤ miss ∧ miss ≤ 126 := by omega
theorem came_end {many l l' : Nat} (hl : l + 1 = many) (h : l' = l + 1) : (1 : Int) = if l' = many then 1 else 0 := by rw [if_pos (by omega)]
theorem came_same {came : Int} {many l l' : Nat} (h : came = if l = many then 1 else 0) (hl : l < many) (hn : l + 1 ≠ many) (h' : l' = l + 1) : came = if l' = many then 1 else 0 := by rw [h, if_neg (by omega), if_neg (by omega)]
theorem less_in {body : List Int} {room many k : Nat} {picked : List Nat} (hp : PkOk body room many picked) (hk : k < many) (hin : k ∉ picked) : picked.length < many := by
  rcases Nat.lt_or_ge picked.length many with h | h
  · exact h
  · exact absurd (all_in hp.nd hp.lt (Nat.le_antisymm (le_many many hp.nd hp.lt) h) k hk) hin
theorem miss_one {miss : Int} {many l : Nat} (h : miss = ((many - l : Nat) : Int)) (hl : l + 1 = many) : miss = 1 := by omega
theorem came_no {came : Int} {many l : Nat} (h : came = if l = many then 1 else 0) (hl : l + 1 = many) : came = 0 := by rw [h, if_neg (by omega)]
theorem th_frozen {w : World} {base b cap many k : Nat} {B : List Bool} (h : Kd.R Kd.bool 4 w base (fun q => q = b) (.slice (some ⟨b, 0, none⟩) many cap) B) : w.frozen? ⟨b, k, none⟩ = false := by
  obtain ⟨cs, hcs⟩ := Kd.R_typed h b rfl
  exact blk_frozen hcs k
theorem whole_mn {body : List Int} {room many : Nat} (h : BdOk body room many) : (0 : Int) ≤ (many : Int) ∧ ((many : Int)).toNat * 1 ≤ 281474976710656 := by have := h.m2; omega
abbrev DgOk (kd ver ep id : Int) (body : List Int) (room many : Nat) (dg : Nat → List Int) : Prop := ∀ k, k < many → ∃ s, dg k = dgP kd ver ep id (k : Int) (many : Int) (chunk body room k) ++ s ∧ annuletref18_Bytes.f 60000 kd ver ep id (k : Int) (many : Int) (chunk body room k) = some (dg k) ∧ annuletref18_Sum.f 60000 (dgP kd ver ep id (k : Int) (many : Int) (chunk body room k)) = some s ∧ s.length = 4 ∧ ∀ b ∈ s, 0 ≤ b ∧ b < 256
theorem u32_bd {x : Int} (h : (Lit.int .u32 x).wf = true) : 0 ≤ x ∧ x < 4294967296 := by have := i_nat h; omega
theorem whole_pre {mtu : Int} {body : List Int} {kd ver ep id : Int} (hm : 32 ≤ mtu ∧ mtu ≤ 65507) (hlen : body.length ≤ 1500) (he : (Lit.int .u32 ep).wf = true) (hi : (Lit.int .u32 id).wf = true) :
    ∃ (room many : Nat) (dg : Nat → List Int), annuletref19_Room.f mtu = some (room : Int) ∧ room ≤ 65487 ∧ annuletref19_Count.f 3 mtu (body.length : Int) = some ((many : Int), 0) ∧ BdOk body room many ∧ (∀ k, k < many → k * room ≤ body.length) ∧ DgOk kd ver ep id body room many dg := by
  obtain ⟨room, hroom⟩ : ∃ room, (mtu - 20).toNat = room := ⟨_, rfl⟩
  have hR1 := room_is hm
  rw [hroom] at hR1
  have hrm : 12 ≤ room ∧ room ≤ 65487 := ⟨by omega, by omega⟩
  have hmn := many_is (n := body.length) hlen hrm.1
  have hcn := count_is hR1 hrm.1 hrm.2 (n := body.length) hlen
  obtain ⟨many, hmany⟩ : ∃ many, manyOf body.length room = many := ⟨_, rfl⟩
  rw [hmany] at hmn hcn
  have h1 := u32_bd he
  have h2 := u32_bd hi
  have hm126 := hmn.2.1
  have h3 : ∀ k : Nat, k < many → ∃ d, ∃ s, d = dgP kd ver ep id (k : Int) (many : Int) (chunk body room k) ++ s ∧ annuletref18_Bytes.f 60000 kd ver ep id (k : Int) (many : Int) (chunk body room k) = some d ∧ annuletref18_Sum.f 60000 (dgP kd ver ep id (k : Int) (many : Int) (chunk body room k)) = some s ∧ s.length = 4 ∧ ∀ b ∈ s, 0 ≤ b ∧ b < 256 := fun k hk => by
    obtain ⟨s, g1, g2, g3, g4⟩ := bytes_is (kd := kd) (ver := ver) (ep := ep) (id := id) (ix := (k : Int)) (cnt := (many : Int)) (body := chunk body room k) h1 h2 ⟨by omega, by omega⟩ ⟨by omega, by omega⟩ (Nat.le_trans (chunk_len body room k).2 hlen)
    exact ⟨_, s, rfl, g1, g2, g3, g4⟩
  refine ⟨room, many, fun k => if h : k < many then Classical.choose (h3 k h) else [], hR1, hrm.2, hcn, ⟨hmn.1, hm126, hlen, hmn.2.2.1, hmn.2.2.2.2⟩, hmn.2.2.2.1, fun k hk => ?_⟩
  have h4 := Classical.choose_spec (h3 k hk)
  simp only [hk, dif_pos]
  exact h4
set_option maxHeartbeats 8000000 in
set_option maxRecDepth 100000 in
theorem whole_law (mtu kd ver ep id ix0 cnt0 : Int) (A : Option Addr) (c : Nat) (body : List Int) (A2 : Option Addr) (c2 : Nat) (picks : List Int) (w : World) (hr : Kd.C (Kd.int .u8) w A body.length body) (hc : body.length ≤ c) (hr2 : Kd.C (Kd.int .i64) w A2 picks.length picks) (hc2 : picks.length ≤ c2) (hv : (Lit.int .u8 ver).wf = true) (he : (Lit.int .u32 ep).wf = true) (hi : (Lit.int .u32 id).wf = true) (hbb : ∀ b ∈ body, (Lit.int .u8 b).wf = true) :
    Calls Try.prog 5 #[.int .i64 mtu, .agg #[.int .u8 kd, .int .u8 ver, .int .u32 ep, .int .u32 id, .int .u16 ix0, .int .u16 cnt0, .slice A body.length c], .slice A2 picks.length c2] w fun e w' => e = .returned (.bool true) ∧ Below w.heap.size w w' := by
  obtain ⟨V, hV⟩ : ∃ V, (w.alloc (.cells #[.int .u8 kd, .int .u8 ver, .int .u32 ep, .int .u32 id, .int .u16 ix0, .int .u16 cnt0, .slice A body.length c] 38)) = V := ⟨_, rfl⟩
  have hbV : Below w.heap.size w V := by rw [← hV]; exact below_alloc (Below.refl _ _) _
  have hx4 : V.heap[w.heap.size]? = some (.cells #[.int .u8 kd, .int .u8 ver, .int .u32 ep, .int .u32 id, .int .u16 ix0, .int .u16 cnt0, .slice A body.length c] 38 (0, 0)) := by rw [← hV]; exact heap_alloc_new w _
  obtain ⟨v0, v1, v2, v3, v4, v5, v6⟩ := box7c hx4
  have HR := Aside0.mk hr
  have HR2 := Aside0.mk hr2
  have HC := Aside0.mk hc
  have HBV := Aside0.mk hbV
  have HX4 := Aside0.mk hx4
  have HAW : Aside0 (∀ V, Below w.heap.size w V → Calls Try.prog 18 #[] V fun e w' => e = .returned (.bool true) ∧ Below w.heap.size w w') := ⟨fun V hV => (aawake_calls V).mono (fun e w' h => ⟨h.1, below_then hV hV.size h.2⟩)⟩
  have HBB : Aside0 (∀ b ∈ body, 0 ≤ b ∧ b < 256) := ⟨fun b hb => by
    have h := hbb b hb
    simp [Lit.wf, IntKind.min, IntKind.max, IntKind.bits, IntKind.signed] at h
    omega⟩
  have HVE := Aside0.mk hv
  have HE := Aside0.mk he
  have HI := Aside0.mk hi
  clear hr hr2 hc hbV hx4 hv he hi hbb
  by_cases hlen : body.length > 1500
  · have p1 : ((1500 : Int) < (body.length : Int)) = True := eq_true (by omega)
    go_enter Try.func5, Try.ntmps5
    go_wp2_with fail
    refine (HAW.out _ HBV.out).mono ?_
    rintro e9 w9 ⟨rfl, hb9⟩
    have HB9 := Aside0.mk hb9
    clear hb9
    go_wp2_with fail
    go_ret
    exact ⟨rfl, HB9.out⟩
  by_cases hpk : picks.length > 300
  · have p1 : ((1500 : Int) < (body.length : Int)) = False := eq_false (by omega)
    have p2 : ((300 : Int) < (picks.length : Int)) = True := eq_true (by omega)
    go_enter Try.func5, Try.ntmps5
    go_wp2_with fail
    refine (HAW.out _ HBV.out).mono ?_
    rintro e9 w9 ⟨rfl, hb9⟩
    have HB9 := Aside0.mk hb9
    clear hb9
    go_wp2_with fail
    go_ret
    exact ⟨rfl, HB9.out⟩
  by_cases hkd : kd = 1
  case neg =>
    have p1 : ((1500 : Int) < (body.length : Int)) = False := eq_false (by omega)
    have p2 : ((300 : Int) < (picks.length : Int)) = False := eq_false (by omega)
    have p3 : (kd == 1) = false := by simpa using hkd
    have p4 : (kd != 1) = true := by simpa using hkd
    go_enter Try.func5, Try.ntmps5
    go_wp2_with fail
    refine (HAW.out _ HBV.out).mono ?_
    rintro e9 w9 ⟨rfl, hb9⟩
    have HB9 := Aside0.mk hb9
    clear hb9
    go_wp2_with fail
    go_ret
    exact ⟨rfl, HB9.out⟩
  have p1 : ((1500 : Int) < (body.length : Int)) = False := eq_false (by omega)
  have p2 : ((300 : Int) < (picks.length : Int)) = False := eq_false (by omega)
  have p3 : (kd == 1) = true := by simpa using hkd
  have p4 : (kd != 1) = false := by simpa using hkd
  have HLP := Aside0.mk (And.intro hlen (And.intro hpk hkd))
  by_cases hm : 32 ≤ mtu ∧ mtu ≤ 65507
  case neg =>
    have HSP := Aside0.mk (split_no (A := A) (c := c) (body := body) (W := V) mtu kd ver ep id ix0 cnt0 (room_no hm))
    clear hlen hpk hkd hm
    go_enter Try.func5, Try.ntmps5
    go_wp2_with fail
    refine HSP.out.mono ?_
    rintro e1 w1 ⟨hb1, rfl⟩
    have HB1 := Aside0.mk (below_then HBV.out HBV.out.size hb1)
    have HNW := Aside0.mk (anew_calls LW w1)
    clear hb1 v0 v1 v2 v3 v4 v5 v6 p1 p2 p3 p4
    go_wp2_with fail
    refine HNW.out.mono ?_
    rintro e2 w2 ⟨hb2, hnw⟩
    obtain ⟨a, rfl⟩ : ∃ a, e2 = .returned (.tuple #[.pointer (some ⟨a, 0, none⟩), .int .i64 0]) := by
      rcases hnw with ⟨_, a, h, _⟩ | ⟨h, _⟩
      · exact ⟨a, h⟩
      · rw [LW_b] at h; cases h
    have HB2 := Aside0.mk (below_then HB1.out HB1.out.size hb2)
    clear hb2 hnw
    go_wp2_with fail
    refine (HAW.out _ HB2.out).mono ?_
    rintro e9 w9 ⟨rfl, hb9⟩
    have HB9 := Aside0.mk hb9
    clear hb9
    go_wp2_with fail
    go_ret
    exact ⟨rfl, HB9.out⟩
  obtain ⟨room, many, dg, hR1, hrm, hcn, hbo, hkr, hdg⟩ := whole_pre (mtu := mtu) (body := body) (kd := kd) (ver := ver) (ep := ep) (id := id) hm (Nat.not_lt.1 hlen) HE.out HI.out
  have HBO := Aside0.mk hbo
  have HDG := Aside0.mk hdg
  have HSP := Aside0.mk (split_ok (Kd.C_below HR.out HBV.out) HC.out (Nat.not_lt.1 hlen) mtu kd ver ep id ix0 cnt0 (by rw [hkd]; decide) (by rw [hkd]; decide) room many hR1 hrm hcn (Nat.le_trans hbo.m2 (by decide)) hkr dg (fun k hk => by obtain ⟨s, _, g, _⟩ := hdg k hk; exact g))
  clear hlen hpk hm hR1 hrm hcn hbo hkr hdg hkd
  go_enter Try.func5, Try.ntmps5
  go_wp2_with fail
  refine HSP.out.mono ?_
  rintro e1 w1 ⟨hb1, vl, rfl, hRl⟩
  obtain ⟨A1, c1, rfl, hl1, hC1⟩ := Kd.R_reads hRl
  have hlm : ((List.range many).map dg).length = many := by simp
  rw [hlm] at hl1 hC1 ⊢
  have HC1 := Aside0.mk hC1
  have HB1w := Aside0.mk hb1
  have HB1 := Aside0.mk (below_then HBV.out HBV.out.size hb1)
  have HX1 := Aside0.mk ((hb1.block _ (blk_lt HX4.out)).trans HX4.out)
  have HNW := Aside0.mk (anew_calls LW w1)
  clear hb1 hRl hl1 hC1 hlm v0 v1 v2 v3 v4 v5 v6 p1 p2 p3 p4
  go_wp2_with fail
  refine HNW.out.mono ?_
  rintro e2 w2 ⟨hb2, hnw⟩
  obtain ⟨a, he2, hAS⟩ : ∃ a, e2 = .returned (.tuple #[.pointer (some ⟨a, 0, none⟩), .int .i64 0]) ∧ AS (fun k => w1.heap.size ≤ k ∧ k < w2.heap.size) a LW [] (fun _ => s0) 0 w2 := by
    rcases hnw with ⟨_, a, h, h2⟩ | ⟨h, _⟩
    · exact ⟨a, h, h2⟩
    · rw [LW_b] at h; cases h
  subst he2
  have HB2 := Aside0.mk hb2
  have HAS := Aside0.mk hAS
  clear hb2 hnw hAS
  have HMN := Aside0.mk (whole_mn HBO.out)
  go_wp2_with (refine Kd.R_make Kd.bool (w0 := w1) w1.heap.size 4 rfl (N := 64) rfl 57 (.tmp 63) (.tmp 63) rfl (many : Int) rfl rfl Try.underlying57 (.bool false) 1 (by kernel_rfl) rfl (by decide) (by decide) false (ok := fun q => w2.heap.size ≤ q) (okp := fun _ => False) rfl (fun _ h => h.elim) (Nat.le_refl _) HMN.out.1 HMN.out.2 HB2.out HB2.out.size ?_; intro v3 w3 hR3 hb3 hg3 hat3; have HR3 := Aside0.mk hR3; have HB3 := Aside0.mk hb3; have HG3 := Aside0.mk hg3; have HAT3 := Aside0.mk hat3; clear hR3 hb3 hg3 hat3)
  obtain ⟨b, cap, hv3, hbw, hbl, hth⟩ := row_open HR3.out (by rw [List.length_replicate]; have := HBO.out.m1; omega)
  rw [List.length_replicate, Int.toNat_natCast] at hv3 hth
  subst hv3
  have HWS : Aside0 (WS w w1 body room many ver ep id A1 c1 dg w.heap.size b cap 0 (fun k => w1.heap.size ≤ k ∧ k < w2.heap.size) a 0 [] (List.replicate many false) w3) := ⟨⟨⟨[], by
      have h1 := HAS.out.below (grown_below HG3.out)
      have h2 : memP many ep id [] = fun _ => s0 := by unfold memP; rw [if_neg (by have := HBO.out.m1; show ¬ (0 = many); omega)]
      rw [h2]
      exact ⟨h1, by unfold osP; rw [if_pos (.inl rfl)]; rfl⟩⟩, ⟨List.nodup_nil, fun k hk => by simp at hk⟩, Nat.le_refl _, HB3.out, hth, hbw, fun q hq => ⟨hq.1, fun e => by
      obtain ⟨g, hg, hg2⟩ := HAT3.out
      have h3 : b = g := by injection hg
      rw [e, h3] at hq
      exact absurd hq.2 (Nat.not_lt.2 hg2)⟩, fun k hk => by simp [rdOf, List.getElem?_replicate, hk]⟩⟩
  have HPL : Aside0 (picks.length ≤ 300) := ⟨Nat.not_lt.1 HLP.out.2.1⟩
  have HMP : Aside0 (many - ([] : List Nat).length = many ∧ (([] : List Nat).length = many) = False) := ⟨rfl, eq_false (by have := HBO.out.m1; show ¬ (0 = many); omega)⟩
  clear hth hbw hbl
  go_loopg [12, 13, 14] picks.length (fun gg s12 s13 s14 wr => ∃ (j : Nat) (own' : Nat → Prop) (n' : Nat) (picked : List Nat) (B : List Bool) (miss came : Int), j ≤ picks.length ∧ picks.length - j ≤ gg ∧ s12 = .int .i64 miss ∧ s13 = .int .i64 came ∧ s14 = .int .i64 j ∧ Aside0 (miss = ((many - picked.length : Nat) : Int)) ∧ Aside0 (came = if picked.length = many then 1 else 0) ∧ Aside0 (WS w w1 body room many ver ep id A1 c1 dg w.heap.size b cap j own' a n' picked B wr))
  case atStart => exact ⟨0, _, 0, [], _, (many : Int), 0, Nat.zero_le _, Nat.le_refl _, rfl, rfl, rfl, ⟨rfl⟩, ⟨by rw [if_neg (by rw [HMP.out.2]; exact fun h => h)]⟩, HWS⟩
  case round =>
    obtain ⟨j, own', n', picked, B, miss, came, hj, hgg, rfl, rfl, rfl, HMI, HCA, HT⟩ := hrel
    by_cases hlt : j < picks.length
    · obtain ⟨ad, e1, hx⟩ := Kd.at_int (Kd.C_below HR2.out (HBV.out.trans (Below.mono (below_then HB1w.out HB1w.out.size HT.out.be) HBV.out.size))) (j : Int) (by omega) (by omega)
      cases e1
      rw [Int.toNat_natCast] at hx
      obtain ⟨p, hp⟩ : ∃ p, rd picks (j : Int) = p := ⟨_, rfl⟩
      rw [hp] at hx
      have q0 : (0 ≤ (j : Int)) = True := eq_true (by omega)
      have q1 : ((j : Int) < (picks.length : Int)) = True := eq_true (by omega)
      clear hp
      by_cases hp0 : p < 0
      · have q2 : (p < 0) = True := eq_true hp0
        have HW2 : Aside0 (WS w w1 body room many ver ep id A1 c1 dg w.heap.size b cap (j + 1) own' a n' picked B wr) := ⟨{ HT.out with nn := Nat.le_succ_of_le HT.out.nn }⟩
        clear hp0
        go_wp2_with fail
        go_roundg (picks.length - (j + 1))
        case measure => omega
        case rel => exact ⟨j + 1, own', n', picked, B, miss, came, hlt, Nat.le_refl _, rfl, rfl, congrArg (Value.int .i64) (w1_ok (Nat.le_trans hj (Nat.le_trans HPL.out (by decide)))), HMI, HCA, HW2⟩
      · by_cases hp1 : p ≥ (many : Int)
        · have q2 : (p < 0) = False := eq_false hp0
          have q3 : ((many : Int) ≤ p) = True := eq_true hp1
          have HW2 : Aside0 (WS w w1 body room many ver ep id A1 c1 dg w.heap.size b cap (j + 1) own' a n' picked B wr) := ⟨{ HT.out with nn := Nat.le_succ_of_le HT.out.nn }⟩
          clear hp0 hp1
          go_wp2_with fail
          go_roundg (picks.length - (j + 1))
          case measure => omega
          case rel => exact ⟨j + 1, own', n', picked, B, miss, came, hlt, Nat.le_refl _, rfl, rfl, congrArg (Value.int .i64) (w1_ok (Nat.le_trans hj (Nat.le_trans HPL.out (by decide)))), HMI, HCA, HW2⟩
        · obtain ⟨k, rfl⟩ := ofN_lt (Int.not_le.1 hp1) hp0
          have hk : k < many := by omega
          obtain ⟨ad1, A5, c5, e5, x5, hx5, hy5, hl5, hC5⟩ := at_kB (Kd.C_below HC1.out HT.out.be) hk
          rw [dg_at dg hk] at hx5
          cases hx5
          cases e5
          obtain ⟨s5, hs1, hs2, hs3, hs4, hs5⟩ := HDG.out k hk
          have HGET := Aside0.mk (part_ok hs1 hs3 hs4 hs5 hC5 hl5 (Nat.le_trans (chunk_len body room k).2 HBO.out.bl) (fun b hb => HBB.out b (chunk_mem hb)) (by rw [HLP.out.2.2]; decide) (u8_bd HVE.out) (u32_bd HE.out) (u32_bd HI.out) ⟨Int.natCast_nonneg k, by omega⟩ (by have := HBO.out.m2; omega))
          have HK := Aside0.mk hk
          have q2 : ((k : Int) < 0) = False := eq_false (by omega)
          have q3 : ((many : Int) ≤ (k : Int)) = False := eq_false (by omega)
          have q4 : ((k : Int) < (many : Int)) = True := eq_true (by omega)
          have q5 : (0 ≤ (k : Int)) = True := eq_true (by omega)
          clear hp0 hp1 hk hs1 hs2 hs3 hs4 hs5 hl5 hC5
          go_wp2_with fail
          refine HGET.out.mono ?_
          rintro e5 w5 ⟨hb5, A9, c9, rfl, hl9, hR9⟩
          have HT5 := Aside0.mk (HT.out.below hb5)
          have HL9 := Aside0.mk hl9
          have HR9 := Aside0.mk hR9
          have HS5 := Aside0.mk hb5.size
          clear hb5 hl9 hR9 hx hy5
          go_wp2_with (refine store_box (.store 38 (.tmp 16) (.tmp 91)) 38 _ _ w5.heap.size 0 _ #[.int .u8 kd, .int .u8 ver, .int .u32 ep, .int .u32 id, .int .u16 (k : Int), .int .u16 (many : Int), .slice A9 (chunk body room k).length c9] 38 (.agg #[.int .u8 kd, .int .u8 ver, .int .u32 ep, .int .u32 id, .int .u16 (k : Int), .int .u16 (many : Int), .slice A9 (chunk body room k).length c9]) [.int .u8 kd, .int .u8 ver, .int .u32 ep, .int .u32 id, .int .u16 (k : Int), .int .u16 (many : Int), .slice A9 (chunk body room k).length c9] rfl rfl rfl rfl rfl rfl (heap_alloc_new w5 _) rfl (by kernel_rfl) (by simp) (by simp [Value.oneCell']) (by simp) ?_; intro w6 he6 hs6; have HE6 := Aside0.mk he6; have HS6 := Aside0.mk hs6; obtain ⟨t0, t1, t2, t3, t4, t5, t6⟩ := box7c he6; clear he6 hs6)
          have h56 := HS6.out.on (Nat.le_refl _) (below_alloc (Below.refl _ _) _)
          have HT6 := Aside0.mk (HT5.out.below h56)
          obtain ⟨os, hAS, hos⟩ := HT6.out.asm
          obtain ⟨os0, hAS0, _⟩ := HT.out.asm
          have htk := take_calls hAS LW_ok (by rw [hos]; exact osP_inv HBO.out HT6.out.pk) (memP_bd (i_nat HE.out).2 (i_nat HI.out).2 picked) (Nat.le_trans HT6.out.nn (Nat.le_trans hj (Nat.le_trans HPL.out (by decide)))) 7 kd (by decide) (gP body room many ver ep id k) (gm_part HBO.out HK.out) HE.out HI.out A9 c9 HL9.out (fun U hU => body_stays HR9.out h56 hAS0.lt hU)
          rw [hos] at htk
          obtain ⟨picked', hpk', hmem', hlen', h1', hcase⟩ := take_part (body := body) (room := room) (ver := ver) (ep := ep) (id := id) HLP.out.2.2 HBO.out HT6.out.pk HK.out
          obtain ⟨r, hr⟩ : ∃ r, takeR LW (osP body room many ver ep id picked) (memP many ep id picked) 7 kd (gP body room many ver ep id k) = r := ⟨_, rfl⟩
          rw [hr] at htk h1' hcase
          have HTK := Aside0.mk htk
          have HPK := Aside0.mk hpk'
          have HMEM := Aside0.mk hmem'
          have HLEN := Aside0.mk hlen'
          have HR1 := Aside0.mk h1'
          have HCASE := Aside0.mk hcase
          clear h56 hAS hos hAS0 htk hpk' hmem' hlen' h1' hcase hr t0 t1 t2 t3 t4 t5 t6
          refine HTK.out.mono ?_
          rintro e7 w7 ⟨hf7, own7, os7, n7, v7, hAS7, hn7, ho7, ha7, rfl, A7, c7, rfl, hl7, hst7⟩
          rw [HR1.out] at hAS7 ha7
          have htook := HT6.out.took hf7 hAS7 ha7 hn7 ho7 HPK.out
          have HBE7 := Aside0.mk htook.1
          have HTH := Aside0.mk htook.2.1
          have HBL := Aside0.mk htook.2.2.1
          have HWS7 := Aside0.mk htook.2.2.2
          have HST7 := Aside0.mk hst7
          have HLC7 := Aside0.mk hl7
          have HCELL0 := Aside0.mk (th_at htook.2.1 HK.out)
          clear hf7 hAS7 hn7 ho7 ha7 hl7 hst7 htook
          rcases HCASE.out with ⟨hin, hlast, hbs, hok⟩ | ⟨hor, hok⟩
          · rw [hok]
            rw [hbs] at HST7 HLC7 ⊢
            have HLAST := Aside0.mk hlast
            have HIN := Aside0.mk hin
            have HCELL : Aside0 (w7.cell? ⟨b, k, none⟩ = some (.bool false)) := ⟨by have h := HCELL0.out.1; rw [HT6.out.bb k HK.out] at h; simpa [hin] using h⟩
            have hcell := HCELL.out
            have hfz7 : w7.frozen? ⟨b, k, none⟩ = false := th_frozen HTH.out
            have HCC7 : Aside0 (∀ i u, [Value.bool false][i]? = some u → w7.cell? ⟨b, (k : Int).toNat * Kd.bool.sz + i, none⟩ = some u) := ⟨fun i u hi => by
              rcases i with _ | i
              · cases hi; rw [Int.toNat_natCast, show k * Kd.bool.sz + 0 = k from Nat.mul_one k]; exact HCELL.out
              · simp at hi⟩
            have HOFF : Aside0 (k = (k : Int).toNat * Kd.bool.sz + 0) := ⟨by rw [Int.toNat_natCast]; exact (Nat.mul_one k).symm⟩
            have HOFI : Aside0 ((0 : Int) ≤ (k : Int) ∧ (k : Int) < ((many : Nat) : Int)) := ⟨⟨Int.natCast_nonneg k, by have := HK.out; omega⟩⟩
            have HCVL : Aside0 (∀ U, Fr (fun q => q = b) w7 U → (Go.convert 36 9 (.slice A7 body.length c7)).run Try.prog U = .ok (.string (strOfNums body)) U ∧ (Go.convert 36 9 (.slice A body.length c)).run Try.prog U = .ok (.string (strOfNums body)) U ∧ U.cell? ⟨w.heap.size, 6, none⟩ = some (.slice A body.length c)) := ⟨fun U hU => by
              have h1 : Below w1.heap.size w1 U := HBE7.out.trans (hU.below HBE7.out.size (fun q hq => by rw [hq]; exact HT6.out.hb))
              have h2 := below_then HB1.out HB1.out.size h1
              exact ⟨Kd.C_string (P := Try.prog) (A := A7) (c := c7) Try.underlying36 Try.underlying5 Try.underlying9 (HST7.out _ U hU (fun q hq => .inr (by rw [hq]; exact HBL.out))), Kd.C_string (P := Try.prog) (A := A) (c := c) Try.underlying36 Try.underlying5 Try.underlying9 (Kd.C_below HR.out h2), (blk_cell ((h1.block _ (blk_lt HX1.out)).trans HX1.out) 6).trans rfl⟩⟩
            obtain rfl : miss = 1 := miss_one HMI.out hlast
            obtain rfl : came = 0 := came_no HCA.out hlast
            clear hbs hok hlast hin
            go_wp2_with (first | (refine Kd.R_store Kd.bool (w0 := w1) w1.heap.size rfl rfl 4 (.tmp 107) (.const (.bool true)) rfl 4 (g := b) (n := many) (cap := cap) (o' := k) (k : Int) 0 B true (.bool true) [.bool true] [.bool false] (fun q => q = b) (fun _ => False) rfl HOFF.out rfl rfl (by kernel_rfl) (by simp [Value.oneCell']) HTH.out HOFI.out.1 HOFI.out.2 rfl HCC7.out (by decide) rfl (fun _ h => h.elim) HBE7.out ?_; intro w8 hR8 hb8 hg8; have hf8 : Fr (fun q => q = b) w7 w8 := Fr.of_grown hg8 rfl; have HF8 := Aside0.mk hf8; have hcv8 := (HCVL.out w8 hf8).1; have hcb8 := (HCVL.out w8 hf8).2.1; have hx8 := (HCVL.out w8 hf8).2.2; have HR8 := Aside0.mk hR8; have HG8 := Aside0.mk hg8; clear hR8 hb8 hg8 hf8) | fail)
            clear hcv8 hcb8 hx8
            go_roundg (picks.length - (j + 1))
            case measure => omega
            case rel => exact ⟨j + 1, own7, n7, picked', B.set k true, 0, 1, hlt, Nat.le_refl _, rfl, rfl, congrArg (Value.int .i64) (w1_ok (Nat.le_trans hj (Nat.le_trans HPL.out (by decide)))), ⟨miss_end HLAST.out (by rw [HLEN.out, if_neg HIN.out])⟩, ⟨came_end HLAST.out (by rw [HLEN.out, if_neg HIN.out])⟩, ⟨HWS7.out _ _ HF8.out HR8.out (rdOf_set HCELL0.out.2 HT6.out.bb HMEM.out HK.out)⟩⟩
          · rw [hok]
            have HOR := Aside0.mk hor
            clear hok hor
            by_cases hin : k ∈ picked
            · have HIN := Aside0.mk hin
              have hcell : w7.cell? ⟨b, k, none⟩ = some (.bool true) := by have h := HCELL0.out.1; rw [HT6.out.bb k HK.out] at h; simpa [hin] using h
              clear hin
              go_wp2_with fail
              clear hcell
              go_roundg (picks.length - (j + 1))
              case measure => omega
              case rel => exact ⟨j + 1, own7, n7, picked', B, miss, came, hlt, Nat.le_refl _, rfl, rfl, congrArg (Value.int .i64) (w1_ok (Nat.le_trans hj (Nat.le_trans HPL.out (by decide)))), ⟨by rw [HLEN.out, if_pos HIN.out]; exact HMI.out⟩, ⟨by rw [HLEN.out, if_pos HIN.out]; exact HCA.out⟩, ⟨HWS7.out _ _ (Fr.refl _ _) HTH.out (rdOf_same HT6.out.bb HMEM.out HIN.out)⟩⟩
            · have HIN := Aside0.mk hin
              have HCELL : Aside0 (w7.cell? ⟨b, k, none⟩ = some (.bool false)) := ⟨by have h := HCELL0.out.1; rw [HT6.out.bb k HK.out] at h; simpa [hin] using h⟩
              have hcell := HCELL.out
              have hfz7 : w7.frozen? ⟨b, k, none⟩ = false := th_frozen HTH.out
              have HCC7 : Aside0 (∀ i u, [Value.bool false][i]? = some u → w7.cell? ⟨b, (k : Int).toNat * Kd.bool.sz + i, none⟩ = some u) := ⟨fun i u hi => by
                rcases i with _ | i
                · cases hi; rw [Int.toNat_natCast, show k * Kd.bool.sz + 0 = k from Nat.mul_one k]; exact HCELL.out
                · simp at hi⟩
              have HOFF : Aside0 (k = (k : Int).toNat * Kd.bool.sz + 0) := ⟨by rw [Int.toNat_natCast]; exact (Nat.mul_one k).symm⟩
              have HOFI : Aside0 ((0 : Int) ≤ (k : Int) ∧ (k : Int) < ((many : Nat) : Int)) := ⟨⟨Int.natCast_nonneg k, by have := HK.out; omega⟩⟩
              have hlt2 := less_in HT6.out.pk HK.out hin
              have HLT2 := Aside0.mk hlt2
              have hmb := miss_bd HMI.out hlt2 HBO.out.m2
              have m0 := hmb.1
              have m1 := hmb.2
              clear hin hlt2 hmb
              go_wp2_with (first | (refine Kd.R_store Kd.bool (w0 := w1) w1.heap.size rfl rfl 4 (.tmp 107) (.const (.bool true)) rfl 4 (g := b) (n := many) (cap := cap) (o' := k) (k : Int) 0 B true (.bool true) [.bool true] [.bool false] (fun q => q = b) (fun _ => False) rfl HOFF.out rfl rfl (by kernel_rfl) (by simp [Value.oneCell']) HTH.out HOFI.out.1 HOFI.out.2 rfl HCC7.out (by decide) rfl (fun _ h => h.elim) HBE7.out ?_; intro w8 hR8 hb8 hg8; have hf8 : Fr (fun q => q = b) w7 w8 := Fr.of_grown hg8 rfl; have HF8 := Aside0.mk hf8; have HR8 := Aside0.mk hR8; have HG8 := Aside0.mk hg8; clear hR8 hb8 hg8 hf8) | fail)
              go_roundg (picks.length - (j + 1))
              case measure => omega
              case rel => exact ⟨j + 1, own7, n7, picked', B.set k true, miss - 1, came, hlt, Nat.le_refl _, rfl, rfl, congrArg (Value.int .i64) (w1_ok (Nat.le_trans hj (Nat.le_trans HPL.out (by decide)))), ⟨miss_less HMI.out HLT2.out (by rw [HLEN.out, if_neg HIN.out])⟩, ⟨came_same HCA.out HLT2.out (HOR.out.resolve_left HIN.out) (by rw [HLEN.out, if_neg HIN.out])⟩, ⟨HWS7.out _ _ HF8.out HR8.out (rdOf_set HCELL0.out.2 HT6.out.bb HMEM.out HK.out)⟩⟩
    · have q1 : ((j : Int) < (picks.length : Int)) = False := eq_false (by omega)
      have HBE := Aside0.mk (below_then HB1.out HB1.out.size HT.out.be)
      by_cases hw : picked.length = many
      · obtain rfl : came = 1 := by rw [HCA.out, if_pos hw]
        obtain rfl : miss = 0 := by rw [HMI.out, hw, Nat.sub_self]; rfl
        clear hw
        go_wp2_with fail
        refine (HAW.out _ HBE.out).mono ?_
        rintro e9 w9 ⟨rfl, hb9⟩
        have HB9 := Aside0.mk hb9
        clear hb9
        go_wp2_with fail
        go_ret
        exact ⟨rfl, HB9.out⟩
      · obtain rfl : came = 0 := by rw [HCA.out, if_neg hw]
        have hmz := miss_bd HMI.out (Nat.lt_of_le_of_ne (le_many many HT.out.pk.nd HT.out.pk.lt) hw) HBO.out.m2
        have m2 : (miss == 0) = false := by have := hmz.1; simp; omega
        clear hw hmz
        go_wp2_with fail
        refine (HAW.out _ HBE.out).mono ?_
        rintro e9 w9 ⟨rfl, hb9⟩
        have HB9 := Aside0.mk hb9
        clear hb9
        go_wp2_with fail
        go_ret
        exact ⟨rfl, HB9.out⟩
#print axioms whole_law
end Go.Proofs.Ytaeelmkpjgmdlaa.H
