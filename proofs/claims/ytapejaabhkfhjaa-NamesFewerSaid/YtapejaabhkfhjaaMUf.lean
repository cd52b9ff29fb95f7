/- The law's sane (printed by gen_uf.py). -/
import Derived.Test.YtapejaabhkfhjaaMUd
namespace Go.Proofs.Ytapejaabhkfhjaa
open Go.RowKit

theorem wpList_load_mid_g {ops : Array Oper} {rest : List Oper} {op : Oper} {a : Act} {w : World} {Q : Exit → Act → World → Prop} (hw : Region.wanted op (yielded ops a.tmps) = true) (ty : TypeId) (x : Operand) (ho : op.op = .load ty x)
    (b o : Nat) (hx : a.eval x = .pointer (some ⟨b, o, none⟩)) (cs : List Value) (d : TypeDesc) (hc : w.rangeAt b o cs) (hu : Try.prog.underlying ty = some d) (hd : d.isRow = true) (hi : (Try.prog.info? ty).map (·.size) = some cs.length)
    (h : wpList Try.prog ops Q rest (a.put op.dst (.agg cs.toArray)) w) : wpList Try.prog ops Q (op :: rest) a w :=
  wpList_step fun K hK => by rw [if_pos hw]; exact wp_load_mid ty x ho b o hx cs d hc hu hd hi (hK _ _ h)
mutual
def slimB : Ex → Bool
  | .mk _ _ _ _ _ args => decide (args.length ≤ 100000) && slimBL args
def slimBL : List Ex → Bool
  | [] => true
  | e :: r => slimB e && slimBL r
end
mutual
theorem slimB_ok : ∀ e : Ex, slimB e = true → slimE e
  | .mk _ _ _ _ _ args, h => by
    rw [slimB, Bool.and_eq_true, decide_eq_true_eq] at h
    rw [slimE]; exact ⟨h.1, slimBL_ok args h.2⟩
theorem slimBL_ok : ∀ l : List Ex, slimBL l = true → slimL l
  | [], _ => by rw [slimL]; trivial
  | e :: r, h => by
    rw [slimBL, Bool.and_eq_true] at h
    rw [slimL]; exact ⟨slimB_ok e h.1, slimBL_ok r h.2⟩
end
theorem slim_exprs {x : Src} (h : (allE x).all (fun e => slimB e.1) = true) : ∀ e ∈ allE x, slimE e.1 := fun e he => slimB_ok _ (by rw [List.all_eq_true] at h; exact h e he)
theorem wpList_g {P : Program} {ops : Array Oper} {rest : List Oper} {o : Oper} {a : Act} {w : World} {Q : Exit → Act → World → Prop} (hw : Region.wanted o (yielded ops a.tmps) = true) (h : ∀ K : Act → World → Prop, (∀ a w, wpList P ops Q rest a w → K a w) → o.wp P a w K Q) : wpList P ops Q (o :: rest) a w :=
  wpList_step fun K hK => by rw [if_pos hw]; exact h K hK
theorem slim_empty (nm : ByteArray) (l : List CropD) (h : l.length ≤ 2) (he : ∀ e ∈ allE (emptyX nm l), slimE e.1) : Slim (emptyX nm l) := ⟨by simp [emptyX], by simp [emptyX]; omega, by simp [emptyX], by simp [emptyX], by simp [emptyX], by simp [emptyX], by simp [emptyX], by simp [emptyX], he⟩
theorem deep_of {x : Src} (h : fitsAll x = true) : ∀ e ∈ allE x, depthE e.1 ≤ 1000000 := fun e he => by
  obtain ⟨_, _, _, _, _, _, _, _, h9⟩ := fits_all h
  have := h9 e he; omega
theorem res_empty {w : World} (hg : GV w) {W : World} (hb : Below w.heap.size w W) (nm : ByteArray) (hn : nm.size ≤ 1000) (hf : fitsAll (emptyX nm []) = true) : Calls Try.prog 11 #[.agg (emptyCs nm ⟨none, 0, 0⟩).toArray] W (ResPost W (emptyX nm [])) :=
  resolve_any (L := emptyL ⟨none, 0, 0⟩) (N := fun _ => False) (empty_src hn row_nil) (fun _ h => h.elim) (slim_empty _ _ (by simp) (slim_exprs rfl)) (hg.below hb hg.1) (deep_of hf)
def twoC : Array Value := #[.string bC, .int .i64 0, .int .i64 0, .int .i64 0, .string ⟨#[]⟩, .int .i64 0, .slice none 0 0, .string bC, .int .i64 0, .int .i64 0, .int .i64 0, .string ⟨#[]⟩, .int .i64 0, .slice none 0 0]
theorem res_two {w : World} (hg : GV w) {W W' : World} {g : Nat} (hb : Below w.heap.size w W) (hW : W' = W.alloc (.cells twoC 57)) (hgz : g = W.heap.size) : Calls Try.prog 11 #[.agg (emptyCs bVega ⟨some ⟨g, 0, none⟩, 2, 2⟩).toArray] W' (ResPost W' (emptyX bVega [⟨bC, exZ⟩, ⟨bC, exZ⟩])) := by
  subst hW hgz
  have hk := World.alloc_heap_new W (.cells twoC 57)
  refine resolve_any (L := emptyL ⟨some ⟨W.heap.size, 0, none⟩, 2, 2⟩) (N := fun b => b = W.heap.size) (empty_src (of_decide_eq_true rfl) ⟨rfl, by simp, fun i hi => ?_⟩) (fun b hb => by rw [hb]; simp) (slim_empty _ _ (by simp) (slim_exprs rfl)) (hg.below (hb.alloc hb.size _) hg.1) (deep_of (by kernel_rfl))
  match i, hi with
  | 0, _ => exact ⟨W.heap.size, 0, .string bC :: exC 0 0 0 bN 0, rfl, rfl, rfl, range_sub hk _ rfl, mx _ (of_decide_eq_true rfl), _, rfl, ev_z⟩
  | 1, _ => exact ⟨W.heap.size, 0, .string bC :: exC 0 0 0 bN 0, rfl, rfl, rfl, range_sub hk _ rfl, mx _ (of_decide_eq_true rfl), _, rfl, ev_z⟩
theorem slim_small : Slim smallX := ⟨by decide, by decide, by decide, by decide, by decide, by decide, by decide, by simp [smallX], slim_exprs (by kernel_rfl)⟩
theorem slim_smallR : Slim smallR := ⟨by decide, by decide, by decide, by decide, by decide, by decide, by decide, by simp [smallR], slim_exprs (by kernel_rfl)⟩
set_option maxRecDepth 100000 in
set_option maxHeartbeats 16000000 in
theorem sane_any {w : World} (hg : GV w) : Calls Try.prog 9 #[] w fun e w' => e = .returned (.bool true) ∧ Below w.heap.size w w' := by
  have HG := Lib.hid hg
  have HB0 := Lib.hid (Below.refl w.heap.size w)
  clear hg
  go_enter Try.func9, Try.ntmps9
  go_upto_region 1 with fail
  refine wp_region_lit ?_
  refine wpList_plain rfl fun K hK => ?_
  go_simp
  refine hK _ _ ?_
  clear hK K
  refine wpList_plain rfl fun K hK => ?_
  go_simp
  refine (res_empty HG.out HB0.out bN (by decide) (by kernel_rfl)).mono ?_
  intro e v1 hres
  obtain ⟨rs1, rfl, h26, hone, hb2, hsr⟩ := res_row hres
  clear hres
  rw [wrong0]
  refine hK _ _ ?_
  clear hK K
  have HL1 := Lib.hid h26; have HOne1 := Lib.hid (all_oneCell_toArray hone); have HSr1 := Lib.hid hsr
  have HB1 := Lib.hid (((HB0.out).trans (hb2.mono (HB0.out).size)).alloc (Nat.le_trans (HB0.out).size hb2.size) (.cells rs1.toArray 35))
  clear h26 hone hb2 hsr
  refine wpList_plain rfl fun K hK => ?_
  go_simp
  refine hK _ _ ?_
  clear hK K
  refine wpList_plain rfl fun K hK => ?_
  go_simp
  refine hK _ _ ?_
  clear hK K
  refine wpList_plain rfl fun K hK => ?_
  go_simp
  refine hK _ _ ?_
  clear hK K
  refine wpList_plain rfl fun K hK => ?_
  go_simp
  refine hK _ _ ?_
  clear hK K
  refine wpList_store_row rfl 35 _ _ rfl v1.heap.size rs1.toArray rfl rfl 35 _ (World.alloc_heap_new _ _) (by rw [List.size_toArray, HL1.out]; kernel_rfl) (by simp [HL1.out]) HOne1.out ?_
  rw [World.setRow_alloc_new]
  refine wpList_plain rfl fun K hK => ?_
  go_simp
  refine hK _ _ ?_
  clear hK K
  refine wpList_nil ?_
  go_upto_region 2 with fail
  refine wp_region_lit ?_
  refine wpList_plain rfl fun K hK => ?_
  go_simp
  refine hK _ _ ?_
  clear hK K
  refine wpList_plain rfl fun K hK => ?_
  go_simp
  refine (res_empty HG.out HB1.out bRiver (by decide) (by kernel_rfl)).mono ?_
  intro e v2 hres
  obtain ⟨rs2, rfl, h26, hone, hb2, hsr⟩ := res_row hres
  clear hres
  rw [wrong1]
  refine hK _ _ ?_
  clear hK K
  have HL2 := Lib.hid h26; have HOne2 := Lib.hid (all_oneCell_toArray hone); have HSr2 := Lib.hid hsr
  have HB2 := Lib.hid (((HB1.out).trans (hb2.mono (HB1.out).size)).alloc (Nat.le_trans (HB1.out).size hb2.size) (.cells rs2.toArray 35))
  clear h26 hone hb2 hsr
  refine wpList_plain rfl fun K hK => ?_
  go_simp
  refine hK _ _ ?_
  clear hK K
  refine wpList_plain rfl fun K hK => ?_
  go_simp
  refine hK _ _ ?_
  clear hK K
  refine wpList_plain rfl fun K hK => ?_
  go_simp
  refine hK _ _ ?_
  clear hK K
  refine wpList_plain rfl fun K hK => ?_
  go_simp
  refine hK _ _ ?_
  clear hK K
  refine wpList_store_row rfl 35 _ _ rfl v2.heap.size rs2.toArray rfl rfl 35 _ (World.alloc_heap_new _ _) (by rw [List.size_toArray, HL2.out]; kernel_rfl) (by simp [HL2.out]) HOne2.out ?_
  rw [World.setRow_alloc_new]
  refine wpList_plain rfl fun K hK => ?_
  go_simp
  refine hK _ _ ?_
  clear hK K
  refine wpList_nil ?_
  go_upto_region 3 with fail
  refine wp_region_lit ?_
  refine wpList_plain rfl fun K hK => ?_
  go_simp
  refine hK _ _ ?_
  clear hK K
  refine wpList_plain rfl fun K hK => ?_
  go_simp
  refine hK _ _ ?_
  clear hK K
  refine wpList_plain rfl fun K hK => ?_
  go_simp
  refine hK _ _ ?_
  clear hK K
  refine wpList_plain rfl fun K hK => ?_
  go_simp
  refine hK _ _ ?_
  clear hK K
  refine wpList_plain rfl fun K hK => ?_
  go_simp
  refine (res_two HG.out HB2.out rfl (by simp)).mono ?_
  intro e v3 hres
  obtain ⟨rs3, rfl, h26, hone, hb2, hsr⟩ := res_row hres
  clear hres
  rw [wrong2]
  refine hK _ _ ?_
  clear hK K
  have HL3 := Lib.hid h26; have HOne3 := Lib.hid (all_oneCell_toArray hone); have HSr3 := Lib.hid hsr
  have HB3 := Lib.hid ((((HB2.out.alloc HB2.out.size (.cells twoC 57))).trans (hb2.mono ((HB2.out.alloc HB2.out.size (.cells twoC 57))).size)).alloc (Nat.le_trans ((HB2.out.alloc HB2.out.size (.cells twoC 57))).size hb2.size) (.cells rs3.toArray 35))
  clear h26 hone hb2 hsr
  refine wpList_plain rfl fun K hK => ?_
  go_simp
  refine hK _ _ ?_
  clear hK K
  refine wpList_plain rfl fun K hK => ?_
  go_simp
  refine hK _ _ ?_
  clear hK K
  refine wpList_plain rfl fun K hK => ?_
  go_simp
  refine hK _ _ ?_
  clear hK K
  refine wpList_plain rfl fun K hK => ?_
  go_simp
  refine hK _ _ ?_
  clear hK K
  refine wpList_store_row rfl 35 _ _ rfl v3.heap.size rs3.toArray rfl rfl 35 _ (World.alloc_heap_new _ _) (by rw [List.size_toArray, HL3.out]; kernel_rfl) (by simp [HL3.out]) HOne3.out ?_
  rw [World.setRow_alloc_new]
  refine wpList_plain rfl fun K hK => ?_
  go_simp
  refine hK _ _ ?_
  clear hK K
  refine wpList_nil ?_
  go_upto_region 4 with fail
  refine wp_region_lit ?_
  refine wpList_plain rfl fun K hK => ?_
  go_simp
  refine (small_raw _).mono ?_
  rintro e w4 ⟨cells, rfl, hc26, hb4, hp4⟩
  obtain ⟨L4, cs4, rfl, hs4⟩ := small_src hp4
  have HW4 := Lib.hid (HB3.out.trans (hb4.mono HB3.out.size))
  have HS4 := Lib.hid hs4
  clear hc26 hb4 hp4 hs4
  refine hK _ _ ?_
  clear hK K
  refine wpList_plain rfl fun K hK => ?_
  go_simp
  refine (resolve_any HS4.out (fun b hb => hb.2) slim_small (HG.out.below HW4.out HG.out.1) (deep_of (by kernel_rfl))).mono ?_
  intro e v4 hres
  obtain ⟨rs4, rfl, h26, hone, hb2, hsr⟩ := res_row hres
  clear hres
  rw [wrong3]
  refine hK _ _ ?_
  clear hK K
  have HL4 := Lib.hid h26; have HOne4 := Lib.hid (all_oneCell_toArray hone); have HSr4 := Lib.hid hsr
  have HB4 := Lib.hid (((HW4.out).trans (hb2.mono (HW4.out).size)).alloc (Nat.le_trans (HW4.out).size hb2.size) (.cells rs4.toArray 35))
  clear h26 hone hb2 hsr
  refine wpList_plain rfl fun K hK => ?_
  go_simp
  refine hK _ _ ?_
  clear hK K
  refine wpList_plain rfl fun K hK => ?_
  go_simp
  refine hK _ _ ?_
  clear hK K
  refine wpList_plain rfl fun K hK => ?_
  go_simp
  refine hK _ _ ?_
  clear hK K
  refine wpList_plain rfl fun K hK => ?_
  go_simp
  refine hK _ _ ?_
  clear hK K
  refine wpList_store_row rfl 35 _ _ rfl v4.heap.size rs4.toArray rfl rfl 35 _ (World.alloc_heap_new _ _) (by rw [List.size_toArray, HL4.out]; kernel_rfl) (by simp [HL4.out]) HOne4.out ?_
  rw [World.setRow_alloc_new]
  refine wpList_plain rfl fun K hK => ?_
  go_simp
  refine hK _ _ ?_
  clear hK K
  refine wpList_nil ?_
  obtain ⟨L5, N5, s5, n5⟩ := HSr4.out wrong3
  rw [res_small] at s5
  have hb5 : Below v4.heap.size v4 (v4.alloc (.cells rs4.toArray 35)) := (Below.refl _ _).alloc (Nat.le_refl _) _
  have hs5 : SrcV N5 (v4.alloc (.cells rs4.toArray 35)) L5 rs4 smallR := s5.same (fun _ h => h) (fun b hb => hb5.block b (n5 b hb).2)
  have hr5 : (v4.alloc (.cells rs4.toArray 35)).rangeAt v4.heap.size 0 rs4 := by
    have h := World.rangeAt_of_block (World.alloc_heap_new v4 (.cells rs4.toArray 35)) 0 rs4.length
    simpa using h
  obtain ⟨b1, o1, c1, b2, o2, c2, b3, o3, c3, b4, o4, c4, b5, o5, c5, b6, o6, c6, b7, o7, c7, b8, o8, c8, hF⟩ := small_facts hs5 hr5
  have HCk := Lib.hid (check_any hs5 (fun b hb => by have := (n5 b hb).2; simp; omega) slim_smallR (HG.out.below HB4.out HG.out.1) (deep_of (by kernel_rfl)))
  have HR5 := Lib.hid hr5; have HF := Lib.hid hF
  have H26 : Hid ((Try.prog.info? 35).map (·.size) = some rs4.length) := Lib.hid (by rw [HL4.out]; kernel_rfl)
  have HNb : Hid (∀ U, Below (v4.alloc (.cells rs4.toArray 35)).heap.size (v4.alloc (.cells rs4.toArray 35)) U → SmFacts U v4.heap.size b1 o1 c1 b2 o2 c2 b3 o3 c3 b4 o4 c4 b5 o5 c5 b6 o6 c6 b7 o7 c7 b8 o8 c8) := Lib.hid (fun U hU => by
    have cc : ∀ {p : Addr} {v : Value}, (v4.alloc (.cells rs4.toArray 35)).cell? p = some v → U.cell? p = some v := fun {p v} h => (hU.cell (p := p) (by
      rcases Nat.lt_or_ge p.block (v4.alloc (.cells rs4.toArray 35)).heap.size with h' | h'
      · exact h'
      · simp [World.cell?, Array.getElem?_eq_none h'] at h)).trans h
    exact ⟨cc hF.lets, cc hF.args, cc hF.arg0, cc hF.reaches, cc hF.cap, cc hF.farms, cc hF.on0, cc hF.crop0, cc hF.on1, cc hF.rots, cc hF.turns, cc hF.turn0, cc hF.rights, cc hF.right0, cc hF.duties, cc hF.duty0⟩)
  clear s5 hb5 hs5 hr5 hF n5
  have check5 : Hid (checkS smallR = 0) := Lib.hid (by kernel_rfl)
  go_upto_region 5 with fail
  refine wp_region_lit ?_
  refine wpList_g (by kernel_rfl) fun K hK => ?_
  go_simp
  refine hK _ _ ?_
  clear hK K
  refine wpList_g (by kernel_rfl) fun K hK => ?_
  go_simp
  refine hK _ _ ?_
  clear hK K
  refine wpList_g (by kernel_rfl) fun K hK => ?_
  go_simp
  refine hK _ _ ?_
  clear hK K
  refine wpList_g (by kernel_rfl) fun K hK => ?_
  go_simp
  refine hK _ _ ?_
  clear hK K
  refine wpList_g (by kernel_rfl) fun K hK => ?_
  go_simp
  refine hK _ _ ?_
  clear hK K
  refine wpList_g (by kernel_rfl) fun K hK => ?_
  go_simp
  refine hK _ _ ?_
  clear hK K
  refine wpList_g (by kernel_rfl) fun K hK => ?_
  go_simp
  refine hK _ _ ?_
  clear hK K
  refine wpList_g (by kernel_rfl) fun K hK => ?_
  go_simp
  refine hK _ _ ?_
  clear hK K
  refine wpList_g (by kernel_rfl) fun K hK => ?_
  go_simp
  refine hK _ _ ?_
  clear hK K
  refine wpList_g (by kernel_rfl) fun K hK => ?_
  go_simp
  refine hK _ _ ?_
  clear hK K
  refine wpList_g (by kernel_rfl) fun K hK => ?_
  go_simp
  refine hK _ _ ?_
  clear hK K
  refine wpList_g (by kernel_rfl) fun K hK => ?_
  go_simp
  refine hK _ _ ?_
  clear hK K
  refine wpList_g (by kernel_rfl) fun K hK => ?_
  go_simp
  refine hK _ _ ?_
  clear hK K
  refine wpList_g (by kernel_rfl) fun K hK => ?_
  go_simp
  refine hK _ _ ?_
  clear hK K
  refine wpList_g (by kernel_rfl) fun K hK => ?_
  go_simp
  refine hK _ _ ?_
  clear hK K
  refine wpList_load_mid_g (by kernel_rfl) 35 _ rfl v4.heap.size 0 rfl rs4 _ HR5.out Try.underlying35 rfl H26.out ?_
  refine wpList_g (by kernel_rfl) fun K hK => ?_
  go_simp
  refine HCk.out.mono ?_
  rintro e w8 ⟨he8, hb8⟩
  rw [check5.out] at he8
  subst he8
  have HB8 := Lib.hid hb8
  have HW8 := Lib.hid (HB4.out.trans (hb8.mono HB4.out.size))
  clear hb8
  refine hK _ _ ?_
  clear hK K
  refine wpList_g (by kernel_rfl) fun K hK => ?_
  go_simp
  refine hK _ _ ?_
  clear hK K
  refine wpList_g (by kernel_rfl) fun K hK => ?_
  go_simp
  refine hK _ _ ?_
  clear hK K
  refine wpList_g (by kernel_rfl) fun K hK => ?_
  go_simp
  refine hK _ _ ?_
  clear hK K
  refine wpList_g (by kernel_rfl) fun K hK => ?_
  go_simp
  refine (small_raw _).mono ?_
  rintro e w9 ⟨cells, rfl, hc26, hb9, hp9⟩
  obtain ⟨L9, cs9, rfl, hs9⟩ := small_src hp9
  have HB9 := Lib.hid (HB8.out.trans (hb9.mono HB8.out.size))
  have HW9 := Lib.hid (HW8.out.trans (hb9.mono HW8.out.size))
  have HS9 := Lib.hid hs9
  clear hc26 hb9 hp9 hs9
  refine hK _ _ ?_
  clear hK K
  refine wpList_g (by kernel_rfl) fun K hK => ?_
  go_simp
  refine (check_any HS9.out (fun b hb => hb.2) slim_small (HG.out.below HW9.out HG.out.1) (deep_of (by kernel_rfl))).mono ?_
  rintro e w10 ⟨he10, hb10⟩
  rw [check3] at he10
  subst he10
  have HB10 := Lib.hid (HB9.out.trans (hb10.mono HB9.out.size))
  have HW10 := Lib.hid (HW9.out.trans (hb10.mono HW9.out.size))
  clear hb10
  refine hK _ _ ?_
  clear hK K
  refine wpList_g (by kernel_rfl) fun K hK => ?_
  go_simp
  refine hK _ _ ?_
  clear hK K
  refine wpList_g (by kernel_rfl) fun K hK => ?_
  go_simp
  refine hK _ _ ?_
  clear hK K
  refine wpList_nil ?_
  obtain ⟨f1, f2, f3, f4, f5, f6, f7, f8, f9, f10, f11, f12, f13, f14, f15, f16⟩ := HNb.out _ HB10.out
  go_upto_region 7 with fail
  refine wp_region_lit ?_
  refine wpList_g (by kernel_rfl) fun K hK => ?_
  go_simp
  refine hK _ _ ?_
  clear hK K
  refine wpList_g (by kernel_rfl) fun K hK => ?_
  go_simp
  refine hK _ _ ?_
  clear hK K
  refine wpList_g (by kernel_rfl) fun K hK => ?_
  go_simp
  refine hK _ _ ?_
  clear hK K
  refine wpList_g (by kernel_rfl) fun K hK => ?_
  go_simp
  refine hK _ _ ?_
  clear hK K
  refine wpList_g (by kernel_rfl) fun K hK => ?_
  go_simp
  refine hK _ _ ?_
  clear hK K
  refine wpList_g (by kernel_rfl) fun K hK => ?_
  go_simp
  refine hK _ _ ?_
  clear hK K
  refine wpList_g (by kernel_rfl) fun K hK => ?_
  go_simp
  refine hK _ _ ?_
  clear hK K
  refine wpList_g (by kernel_rfl) fun K hK => ?_
  go_simp
  refine hK _ _ ?_
  clear hK K
  refine wpList_g (by kernel_rfl) fun K hK => ?_
  go_simp
  refine hK _ _ ?_
  clear hK K
  refine wpList_g (by kernel_rfl) fun K hK => ?_
  go_simp
  refine hK _ _ ?_
  clear hK K
  refine wpList_g (by kernel_rfl) fun K hK => ?_
  go_simp
  refine hK _ _ ?_
  clear hK K
  refine wpList_g (by kernel_rfl) fun K hK => ?_
  go_simp
  refine hK _ _ ?_
  clear hK K
  refine wpList_g (by kernel_rfl) fun K hK => ?_
  go_simp
  refine hK _ _ ?_
  clear hK K
  refine wpList_g (by kernel_rfl) fun K hK => ?_
  go_simp
  refine hK _ _ ?_
  clear hK K
  refine wpList_g (by kernel_rfl) fun K hK => ?_
  go_simp
  refine hK _ _ ?_
  clear hK K
  refine wpList_g (by kernel_rfl) fun K hK => ?_
  go_simp
  refine hK _ _ ?_
  clear hK K
  refine wpList_g (by kernel_rfl) fun K hK => ?_
  go_simp
  refine hK _ _ ?_
  clear hK K
  refine wpList_g (by kernel_rfl) fun K hK => ?_
  go_simp
  refine hK _ _ ?_
  clear hK K
  refine wpList_g (by kernel_rfl) fun K hK => ?_
  go_simp
  refine hK _ _ ?_
  clear hK K
  refine wpList_g (by kernel_rfl) fun K hK => ?_
  go_simp
  refine hK _ _ ?_
  clear hK K
  refine wpList_g (by kernel_rfl) fun K hK => ?_
  go_simp
  refine hK _ _ ?_
  clear hK K
  refine wpList_g (by kernel_rfl) fun K hK => ?_
  go_simp
  refine hK _ _ ?_
  clear hK K
  refine wpList_g (by kernel_rfl) fun K hK => ?_
  go_simp
  refine hK _ _ ?_
  clear hK K
  refine wpList_g (by kernel_rfl) fun K hK => ?_
  go_simp
  refine hK _ _ ?_
  clear hK K
  refine wpList_g (by kernel_rfl) fun K hK => ?_
  go_simp
  refine hK _ _ ?_
  clear hK K
  refine wpList_g (by kernel_rfl) fun K hK => ?_
  go_simp
  refine hK _ _ ?_
  clear hK K
  refine wpList_g (by kernel_rfl) fun K hK => ?_
  go_simp
  refine hK _ _ ?_
  clear hK K
  refine wpList_g (by kernel_rfl) fun K hK => ?_
  go_simp
  refine hK _ _ ?_
  clear hK K
  refine wpList_g (by kernel_rfl) fun K hK => ?_
  go_simp
  refine hK _ _ ?_
  clear hK K
  refine wpList_g (by kernel_rfl) fun K hK => ?_
  go_simp
  refine hK _ _ ?_
  clear hK K
  refine wpList_g (by kernel_rfl) fun K hK => ?_
  go_simp
  refine hK _ _ ?_
  clear hK K
  refine wpList_g (by kernel_rfl) fun K hK => ?_
  go_simp
  refine hK _ _ ?_
  clear hK K
  refine wpList_g (by kernel_rfl) fun K hK => ?_
  go_simp
  refine hK _ _ ?_
  clear hK K
  refine wpList_g (by kernel_rfl) fun K hK => ?_
  go_simp
  refine hK _ _ ?_
  clear hK K
  refine wpList_g (by kernel_rfl) fun K hK => ?_
  go_simp
  refine hK _ _ ?_
  clear hK K
  refine wpList_g (by kernel_rfl) fun K hK => ?_
  go_simp
  refine hK _ _ ?_
  clear hK K
  refine wpList_g (by kernel_rfl) fun K hK => ?_
  go_simp
  refine hK _ _ ?_
  clear hK K
  refine wpList_g (by kernel_rfl) fun K hK => ?_
  go_simp
  refine hK _ _ ?_
  clear hK K
  refine wpList_g (by kernel_rfl) fun K hK => ?_
  go_simp
  refine hK _ _ ?_
  clear hK K
  refine wpList_g (by kernel_rfl) fun K hK => ?_
  go_simp
  refine hK _ _ ?_
  clear hK K
  refine wpList_g (by kernel_rfl) fun K hK => ?_
  go_simp
  refine hK _ _ ?_
  clear hK K
  refine wpList_g (by kernel_rfl) fun K hK => ?_
  go_simp
  refine hK _ _ ?_
  clear hK K
  refine wpList_g (by kernel_rfl) fun K hK => ?_
  go_simp
  refine hK _ _ ?_
  clear hK K
  refine wpList_g (by kernel_rfl) fun K hK => ?_
  go_simp
  refine hK _ _ ?_
  clear hK K
  refine wpList_g (by kernel_rfl) fun K hK => ?_
  go_simp
  refine hK _ _ ?_
  clear hK K
  refine wpList_g (by kernel_rfl) fun K hK => ?_
  go_simp
  refine hK _ _ ?_
  clear hK K
  refine wpList_g (by kernel_rfl) fun K hK => ?_
  go_simp
  refine hK _ _ ?_
  clear hK K
  refine wpList_g (by kernel_rfl) fun K hK => ?_
  go_simp
  refine hK _ _ ?_
  clear hK K
  refine wpList_g (by kernel_rfl) fun K hK => ?_
  go_simp
  refine hK _ _ ?_
  clear hK K
  refine wpList_g (by kernel_rfl) fun K hK => ?_
  go_simp
  refine hK _ _ ?_
  clear hK K
  refine wpList_g (by kernel_rfl) fun K hK => ?_
  go_simp
  refine hK _ _ ?_
  clear hK K
  refine wpList_g (by kernel_rfl) fun K hK => ?_
  go_simp
  refine hK _ _ ?_
  clear hK K
  refine wpList_g (by kernel_rfl) fun K hK => ?_
  go_simp
  refine hK _ _ ?_
  clear hK K
  refine wpList_nil ?_
  go_upto_region 9 with fail
  refine wp_region_lit ?_
  refine wpList_g (by kernel_rfl) fun K hK => ?_
  go_simp
  refine hK _ _ ?_
  clear hK K
  refine wpList_g (by kernel_rfl) fun K hK => ?_
  go_simp
  refine hK _ _ ?_
  clear hK K
  refine wpList_g (by kernel_rfl) fun K hK => ?_
  go_simp
  refine hK _ _ ?_
  clear hK K
  refine wpList_g (by kernel_rfl) fun K hK => ?_
  go_simp
  refine hK _ _ ?_
  clear hK K
  refine wpList_g (by kernel_rfl) fun K hK => ?_
  go_simp
  refine hK _ _ ?_
  clear hK K
  refine wpList_g (by kernel_rfl) fun K hK => ?_
  go_simp
  refine hK _ _ ?_
  clear hK K
  refine wpList_g (by kernel_rfl) fun K hK => ?_
  go_simp
  refine hK _ _ ?_
  clear hK K
  refine wpList_g (by kernel_rfl) fun K hK => ?_
  go_simp
  refine hK _ _ ?_
  clear hK K
  refine wpList_g (by kernel_rfl) fun K hK => ?_
  go_simp
  refine hK _ _ ?_
  clear hK K
  refine wpList_g (by kernel_rfl) fun K hK => ?_
  go_simp
  refine hK _ _ ?_
  clear hK K
  refine wpList_g (by kernel_rfl) fun K hK => ?_
  go_simp
  refine hK _ _ ?_
  clear hK K
  refine wpList_g (by kernel_rfl) fun K hK => ?_
  go_simp
  refine hK _ _ ?_
  clear hK K
  refine wpList_g (by kernel_rfl) fun K hK => ?_
  go_simp
  refine hK _ _ ?_
  clear hK K
  refine wpList_g (by kernel_rfl) fun K hK => ?_
  go_simp
  refine hK _ _ ?_
  clear hK K
  refine wpList_g (by kernel_rfl) fun K hK => ?_
  go_simp
  refine hK _ _ ?_
  clear hK K
  refine wpList_g (by kernel_rfl) fun K hK => ?_
  go_simp
  refine hK _ _ ?_
  clear hK K
  refine wpList_g (by kernel_rfl) fun K hK => ?_
  go_simp
  refine hK _ _ ?_
  clear hK K
  refine wpList_g (by kernel_rfl) fun K hK => ?_
  go_simp
  refine hK _ _ ?_
  clear hK K
  refine wpList_g (by kernel_rfl) fun K hK => ?_
  go_simp
  refine hK _ _ ?_
  clear hK K
  refine wpList_g (by kernel_rfl) fun K hK => ?_
  go_simp
  refine hK _ _ ?_
  clear hK K
  refine wpList_g (by kernel_rfl) fun K hK => ?_
  go_simp
  refine hK _ _ ?_
  clear hK K
  refine wpList_g (by kernel_rfl) fun K hK => ?_
  go_simp
  refine hK _ _ ?_
  clear hK K
  refine wpList_g (by kernel_rfl) fun K hK => ?_
  go_simp
  refine hK _ _ ?_
  clear hK K
  refine wpList_g (by kernel_rfl) fun K hK => ?_
  go_simp
  refine hK _ _ ?_
  clear hK K
  refine wpList_g (by kernel_rfl) fun K hK => ?_
  go_simp
  refine hK _ _ ?_
  clear hK K
  refine wpList_g (by kernel_rfl) fun K hK => ?_
  go_simp
  refine hK _ _ ?_
  clear hK K
  refine wpList_g (by kernel_rfl) fun K hK => ?_
  go_simp
  refine hK _ _ ?_
  clear hK K
  refine wpList_g (by kernel_rfl) fun K hK => ?_
  go_simp
  refine hK _ _ ?_
  clear hK K
  refine wpList_g (by kernel_rfl) fun K hK => ?_
  go_simp
  refine hK _ _ ?_
  clear hK K
  refine wpList_g (by kernel_rfl) fun K hK => ?_
  go_simp
  refine hK _ _ ?_
  clear hK K
  refine wpList_g (by kernel_rfl) fun K hK => ?_
  go_simp
  refine hK _ _ ?_
  clear hK K
  refine wpList_g (by kernel_rfl) fun K hK => ?_
  go_simp
  refine hK _ _ ?_
  clear hK K
  refine wpList_g (by kernel_rfl) fun K hK => ?_
  go_simp
  refine hK _ _ ?_
  clear hK K
  refine wpList_g (by kernel_rfl) fun K hK => ?_
  go_simp
  refine hK _ _ ?_
  clear hK K
  refine wpList_g (by kernel_rfl) fun K hK => ?_
  go_simp
  refine hK _ _ ?_
  clear hK K
  refine wpList_g (by kernel_rfl) fun K hK => ?_
  go_simp
  refine hK _ _ ?_
  clear hK K
  refine wpList_g (by kernel_rfl) fun K hK => ?_
  go_simp
  refine hK _ _ ?_
  clear hK K
  refine wpList_g (by kernel_rfl) fun K hK => ?_
  go_simp
  refine hK _ _ ?_
  clear hK K
  refine wpList_g (by kernel_rfl) fun K hK => ?_
  go_simp
  refine hK _ _ ?_
  clear hK K
  refine wpList_g (by kernel_rfl) fun K hK => ?_
  go_simp
  refine hK _ _ ?_
  clear hK K
  refine wpList_g (by kernel_rfl) fun K hK => ?_
  go_simp
  refine hK _ _ ?_
  clear hK K
  refine wpList_g (by kernel_rfl) fun K hK => ?_
  go_simp
  refine hK _ _ ?_
  clear hK K
  refine wpList_g (by kernel_rfl) fun K hK => ?_
  go_simp
  refine hK _ _ ?_
  clear hK K
  refine wpList_g (by kernel_rfl) fun K hK => ?_
  go_simp
  refine hK _ _ ?_
  clear hK K
  refine wpList_g (by kernel_rfl) fun K hK => ?_
  go_simp
  refine hK _ _ ?_
  clear hK K
  refine wpList_g (by kernel_rfl) fun K hK => ?_
  go_simp
  refine hK _ _ ?_
  clear hK K
  refine wpList_g (by kernel_rfl) fun K hK => ?_
  go_simp
  refine hK _ _ ?_
  clear hK K
  refine wpList_g (by kernel_rfl) fun K hK => ?_
  go_simp
  refine hK _ _ ?_
  clear hK K
  refine wpList_g (by kernel_rfl) fun K hK => ?_
  go_simp
  refine hK _ _ ?_
  clear hK K
  refine wpList_g (by kernel_rfl) fun K hK => ?_
  go_simp
  refine hK _ _ ?_
  clear hK K
  refine wpList_g (by kernel_rfl) fun K hK => ?_
  go_simp
  refine hK _ _ ?_
  clear hK K
  refine wpList_g (by kernel_rfl) fun K hK => ?_
  go_simp
  refine hK _ _ ?_
  clear hK K
  refine wpList_g (by kernel_rfl) fun K hK => ?_
  go_simp
  refine hK _ _ ?_
  clear hK K
  refine wpList_g (by kernel_rfl) fun K hK => ?_
  go_simp
  refine hK _ _ ?_
  clear hK K
  refine wpList_g (by kernel_rfl) fun K hK => ?_
  go_simp
  refine hK _ _ ?_
  clear hK K
  refine wpList_g (by kernel_rfl) fun K hK => ?_
  go_simp
  refine hK _ _ ?_
  clear hK K
  refine wpList_g (by kernel_rfl) fun K hK => ?_
  go_simp
  refine hK _ _ ?_
  clear hK K
  refine wpList_g (by kernel_rfl) fun K hK => ?_
  go_simp
  refine hK _ _ ?_
  clear hK K
  refine wpList_g (by kernel_rfl) fun K hK => ?_
  go_simp
  refine hK _ _ ?_
  clear hK K
  refine wpList_g (by kernel_rfl) fun K hK => ?_
  go_simp
  refine hK _ _ ?_
  clear hK K
  refine wpList_g (by kernel_rfl) fun K hK => ?_
  go_simp
  refine hK _ _ ?_
  clear hK K
  refine wpList_g (by kernel_rfl) fun K hK => ?_
  go_simp
  refine hK _ _ ?_
  clear hK K
  refine wpList_g (by kernel_rfl) fun K hK => ?_
  go_simp
  refine hK _ _ ?_
  clear hK K
  refine wpList_g (by kernel_rfl) fun K hK => ?_
  go_simp
  refine hK _ _ ?_
  clear hK K
  refine wpList_g (by kernel_rfl) fun K hK => ?_
  go_simp
  refine hK _ _ ?_
  clear hK K
  refine wpList_g (by kernel_rfl) fun K hK => ?_
  go_simp
  refine hK _ _ ?_
  clear hK K
  refine wpList_g (by kernel_rfl) fun K hK => ?_
  go_simp
  refine hK _ _ ?_
  clear hK K
  refine wpList_g (by kernel_rfl) fun K hK => ?_
  go_simp
  refine hK _ _ ?_
  clear hK K
  refine wpList_g (by kernel_rfl) fun K hK => ?_
  go_simp
  refine hK _ _ ?_
  clear hK K
  refine wpList_g (by kernel_rfl) fun K hK => ?_
  go_simp
  refine hK _ _ ?_
  clear hK K
  refine wpList_g (by kernel_rfl) fun K hK => ?_
  go_simp
  refine hK _ _ ?_
  clear hK K
  refine wpList_g (by kernel_rfl) fun K hK => ?_
  go_simp
  refine hK _ _ ?_
  clear hK K
  refine wpList_g (by kernel_rfl) fun K hK => ?_
  go_simp
  refine hK _ _ ?_
  clear hK K
  refine wpList_g (by kernel_rfl) fun K hK => ?_
  go_simp
  refine hK _ _ ?_
  clear hK K
  refine wpList_g (by kernel_rfl) fun K hK => ?_
  go_simp
  refine hK _ _ ?_
  clear hK K
  refine wpList_g (by kernel_rfl) fun K hK => ?_
  go_simp
  refine hK _ _ ?_
  clear hK K
  refine wpList_g (by kernel_rfl) fun K hK => ?_
  go_simp
  refine hK _ _ ?_
  clear hK K
  refine wpList_g (by kernel_rfl) fun K hK => ?_
  go_simp
  refine hK _ _ ?_
  clear hK K
  refine wpList_g (by kernel_rfl) fun K hK => ?_
  go_simp
  refine hK _ _ ?_
  clear hK K
  refine wpList_nil ?_
  go_wp2
  go_ret
  exact ⟨rfl, HW10.out⟩

end Go.Proofs.Ytapejaabhkfhjaa
