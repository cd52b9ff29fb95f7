/- Texts Rc Rd Re in one: each says what it proves. -/
import Derived.Test.YtapejaabhkfhjaaMQb
/- Resolve: the references of a source that lies in typed blocks. -/
namespace Go.Proofs.Ytapejaabhkfhjaa
open Go.RowKit

section
variable {W : World} {g : Nat}
theorem tyCls {t : Nat} (h : Ty W g t) (q : Nat) : cls (tyAt W g) q = cls t q := by rw [tyAt_of h]
theorem catM_reach (h : Ty W g 51) (i : Nat) : catM W g (i * 51 + 1) = if i = 0 then 0 else 6 := by
  have e : cls 51 (i * 51 + 1 + 1) = 2 := by rw [Nat.add_assoc, (cls_row isReach i (1 + 1)).1]; rfl
  unfold catM
  rw [tyAt_of h, e, if_neg (by decide), if_pos rfl]
  by_cases hi : i = 0
  · subst hi; rfl
  · rw [if_neg hi, if_neg (by omega)]
theorem catM_on (h : Ty W g 59) (i : Nat) : catM W g (i * 12 + 1) = 4 := by
  have e : cls 59 (i * 12 + 1 + 1) = 2 := by rw [Nat.add_assoc, (cls_row isFarm i (1 + 1)).1]; rfl
  unfold catM
  rw [tyAt_of h, e, if_neg (by decide), if_neg (by decide), if_pos rfl, if_pos (by omega)]
theorem catM_crop (h : Ty W g 59) (i : Nat) {r : Bool} (hr : W.cell? ⟨g, i * 12 + 3, none⟩ = some (.bool r)) : catM W g (i * 12 + 10) = if r then 0 else 3 := by
  have e : cls 59 (i * 12 + 10 + 1) = 2 := by rw [Nat.add_assoc, (cls_row isFarm i (10 + 1)).1]; rfl
  unfold catM
  rw [tyAt_of h, e, if_neg (by decide), if_neg (by decide), if_pos rfl, if_neg (by omega), show i * 12 + 10 - 7 = i * 12 + 3 by omega, hr]
theorem catM_rot (h : Ty W g 64) (i : Nat) : catM W g (i * 23 + 1) = 4 := by
  have e : cls 64 (i * 23 + 1 + 1) = 2 := by rw [Nat.add_assoc, (cls_row isRot i (1 + 1)).1]; rfl
  unfold catM
  rw [tyAt_of h, e, if_neg (by decide), if_neg (by decide), if_neg (by decide), if_pos rfl]
theorem catM_turn (h : Ty W g 66) (i : Nat) : catM W g (i * 8) = 5 := by
  have e : cls 66 (i * 8 + 1) = 2 := by rw [(cls_row isTurn i 1).1]; rfl
  unfold catM
  rw [tyAt_of h, e, if_neg (by decide), if_neg (by decide), if_neg (by decide), if_neg (by decide), if_pos rfl]
theorem catM_rf (h : Ty W g 68) (i : Nat) : catM W g (i * 37 + 2) = 5 := by
  have e : cls 68 (i * 37 + 2 + 1) = 2 := by rw [Nat.add_assoc, (cls_row isRight i (2 + 1)).1]; rfl
  unfold catM
  rw [tyAt_of h, e, if_neg (by decide), if_neg (by decide), if_neg (by decide), if_neg (by decide), if_neg (by decide), if_pos rfl, if_pos (by omega)]
theorem catM_rr (h : Ty W g 68) (i : Nat) {k : IntKind} {z : Int} (hr : W.cell? ⟨g, i * 37, none⟩ = some (.int k z)) : catM W g (i * 37 + 4) = if z = 1 then 0 else 4 := by
  have e : cls 68 (i * 37 + 4 + 1) = 2 := by rw [Nat.add_assoc, (cls_row isRight i (4 + 1)).1]; rfl
  unfold catM
  rw [tyAt_of h, e, if_neg (by decide), if_neg (by decide), if_neg (by decide), if_neg (by decide), if_neg (by decide), if_pos rfl, if_neg (by omega), show i * 37 + 4 - 4 = i * 37 by omega, hr]
theorem catM_df (h : Ty W g 70) (i : Nat) : catM W g (i * 11 + 1) = 5 := by
  have e : cls 70 (i * 11 + 1 + 1) = 2 := by rw [Nat.add_assoc, (cls_row isDuty i (1 + 1)).1]; rfl
  unfold catM
  rw [tyAt_of h, e, if_neg (by decide), if_neg (by decide), if_neg (by decide), if_neg (by decide), if_neg (by decide), if_neg (by decide), if_pos (by omega)]
theorem catM_dr (h : Ty W g 70) (i : Nat) : catM W g (i * 11 + 3) = 4 := by
  have e : cls 70 (i * 11 + 3 + 1) = 2 := by rw [Nat.add_assoc, (cls_row isDuty i (3 + 1)).1]; rfl
  unfold catM
  rw [tyAt_of h, e, if_neg (by decide), if_neg (by decide), if_neg (by decide), if_neg (by decide), if_neg (by decide), if_neg (by decide), if_neg (by omega)]
theorem catM_ex {o : Nat} (h : EPos W g o) {k : IntKind} {op : Int} (hr : W.cell? ⟨g, o, none⟩ = some (.int k op)) : catM W g (o + 3) = if op = 2 then 1 else 0 := by
  obtain ⟨t, ty, hp⟩ := h
  have e : cls t (o + 3 + 1) = 1 := (hp 4 (by omega)).1
  unfold catM
  rw [tyAt_of ty, e, if_pos rfl, show o + 3 - 3 = o by omega, hr]
theorem epos_arg (h : Ty W g 26) (i : Nat) : EPos W g (i * 6) :=
  ⟨_, h, fun j hj => ⟨by simp [cls], by simp only [eoff]; simp; omega⟩⟩
end
section
variable {B : Nat} {W : World} {M : Nat → Prop}
theorem uok_ref {to at_ : Int} {r : Rf} {b o : Nat} (hB : B ≤ b) (hr : RV W to r b o) (hp : RPos W b o) (hc : catM W b o = catT to) (ht : to = 0 ∨ to = 1 ∨ to = 2 ∨ to = 3 ∨ to = 4 ∨ to = 5 ∨ to = 6) : UOk B W ⟨b, o, to, at_, r.name, r.n⟩ := by
  obtain ⟨t, ty, h1, h2⟩ := hp
  refine ⟨hB, ⟨t, ty, .inl h2, ?_⟩, hr.2.1, hr.1, hr.2.2, hc, ht⟩
  rintro (h | h)
  · rw [h1] at h; cases h
  · rw [h1] at h; cases h.1
mutual
theorem uok_preE (hM : ∀ g, M g → B ≤ g) (lt : Int) : ∀ (e : Ex) (b o : Nat) (cs : List Value), B ≤ b → ExT W M e cs → W.rangeAt b o cs → EPos W b o → ∀ u ∈ (preE W lt e b o).1, UOk B W u
  | .mk op n u rn ri args, b, o, cs, hb, hv, hr, hp => by
    rw [ExT] at hv
    obtain ⟨a, cap, rfl, h2, h3, h4⟩ := hv
    obtain ⟨r0, r1, r2, r3, r4, r5⟩ := rangeAt6 hr
    intro v hm
    rw [preE] at hm
    by_cases hs : okS op args.length = true
    · rw [if_pos hs, r5] at hm
      simp only [List.mem_cons] at hm
      rcases hm with rfl | hm
      · have hc := catM_ex hp r0
        obtain ⟨t, ty, hq⟩ := hp
        have q3 := hq 3 (by omega); have q4 := hq 4 (by omega)
        refine ⟨hb, ⟨t, ty, .inr q4, ?_⟩, r3, h3, r4, ?_, ?_⟩
        · rintro (h | h)
          · simp only at h; rw [q3.1] at h; cases h
          · simp only at h; rw [q3.2] at h; exact absurd h.2 (by decide)
        · simp only; rw [hc]; unfold toE catT
          by_cases ho : op = 2
          · simp only [ho, if_true]; split <;> simp
          · simp [ho]
        · simp only; unfold toE
          by_cases ho : op = 2
          · simp only [ho, if_true]; split <;> simp
          · simp [ho]
      · exact uok_preL hM lt args a args.length cap 0 h4 v hm
    · rw [if_neg hs] at hm; cases hm
theorem uok_preL (hM : ∀ g, M g → B ≤ g) (lt : Int) : ∀ (l : List Ex) (a : Option Addr) (n cap i : Nat), RowT W M a i l → ∀ u ∈ (preL W lt l (some (.slice a n cap)) i).1, UOk B W u
  | [], a, n, cap, i, h => by intro v hm; rw [preL] at hm; cases hm
  | e :: r, a, n, cap, i, h => by
    rw [RowT] at h
    obtain ⟨⟨g, cs, rfl, h1, h2, h3, h4⟩, h5⟩ := h
    have i1 := uok_preE hM lt e g (0 + i * 6) cs (hM g h1) h4 (by rw [Nat.zero_add]; exact h3) (by rw [Nat.zero_add]; exact epos_arg h2 i)
    have i2 := uok_preL hM lt r (some ⟨g, 0, none⟩) n cap (i + 1) h5
    intro v hm
    rw [preL] at hm
    split at hm
    · rcases List.mem_append.1 hm with hm | hm
      · exact i1 v hm
      · exact i2 v hm
    · exact i1 v hm
end
theorem mem_seqU {u : Us} : ∀ {l : List (List Us × Bool)}, u ∈ (seqU l).1 → ∃ p ∈ l, u ∈ p.1
  | [], h => by simp [seqU] at h
  | x :: r, h => by
    have e : seqU (x :: r) = if x.2 then (x.1 ++ (seqU r).1, (seqU r).2) else (x.1, false) := rfl
    rw [e] at h
    split at h
    · rcases List.mem_append.1 h with h | h
      · exact ⟨x, by simp, h⟩
      · obtain ⟨p, h1, h2⟩ := mem_seqU h
        exact ⟨p, by simp [h1], h2⟩
    · exact ⟨x, by simp, h⟩
theorem mem_zip {α β : Type} {R : α → β → Prop} {f : α → β → List Us × Bool} {P : Us → Prop} (h : ∀ a b, R a b → ∀ u ∈ (f a b).1, P u) : ∀ {l : List α} {m : List β}, All2 R l m → ∀ p ∈ List.zipWith f l m, ∀ u ∈ p.1, P u
  | [], _, _ => by simp
  | _ :: _, [], _ => by simp
  | a :: l, b :: m, hA => by
    rw [All2] at hA
    simp only [List.zipWith_cons_cons, List.forall_mem_cons]
    exact ⟨h a b hA.1, mem_zip h hA.2⟩
def reachU (h : Hdr) (l : List ReachD) (i : Nat) : List Us := match l[i]? with
  | some d => [⟨(h.at 51 i 1).block, (h.at 51 i 1).off, if i = 0 then 0 else 6, i, d.frm.name, d.frm.n⟩]
  | none => []
def reachX (L : Lay) (x : Src) : List Us := (List.range L.reaches.n).flatMap (reachU L.reaches x.reaches)
/- all references of a source -/
def allX (W : World) (L : Lay) (x : Src) : List Us := reachX L x ++ (usesU W L x).1
theorem uok_all {N : Nat → Prop} {L : Lay} {x : Src} (hN : ∀ g, N g → B ≤ g) (hM : ∀ g, M g → B ≤ g) (hs : N L.s) (h : PSrc N (ET M W) (RV W) W L x) : ∀ u ∈ allX W L x, UOk B W u := by
  intro u hu
  rcases List.mem_append.1 hu with hu | hu
  · obtain ⟨i, hi, hu⟩ := List.mem_flatMap.1 hu
    have hl : i < x.reaches.length := by rw [← h.reaches.1]; exact List.mem_range.1 hi
    unfold reachU at hu
    rw [List.getElem?_eq_getElem hl] at hu
    simp only [List.mem_singleton] at hu
    obtain ⟨g, ha, hg, ty, _, hr, _⟩ := h.reaches.2.2 i hl
    rw [hat_of ha, Nat.zero_add] at hu
    rw [hu]
    exact uok_ref (hN g hg) hr (rpos_row ty isReach i 1 rfl rfl) (by rw [catM_reach ty]; split <;> rfl) (by split <;> simp)
  · obtain ⟨p, hp, hu⟩ := mem_seqU hu
    unfold partsU at hp
    rcases List.mem_append.1 hp with hp | hp
    · refine mem_zip (R := AtE N (ET M W) W) (f := topPart W) (P := UOk B W) (fun a e hA u hu => ?_) (h.all2 hs) p hp u hu
      obtain ⟨b, o, rfl, hb, hpos, c, hc1, hc2⟩ := hA
      unfold topPart at hu
      split at hu
      · cases hu
      · exact uok_preE hM e.2 e.1 b o c (hN b hb) hc2 hc1 hpos u hu
    · simp only [List.mem_singleton] at hp
      rw [hp] at hu
      simp only at hu
      split at hu
      · unfold listU at hu
        simp only [List.mem_append] at hu
        rcases hu with ((hu | hu) | hu) | hu
        · obtain ⟨i, hi, hu⟩ := List.mem_flatMap.1 hu
          have hl : i < x.farms.length := by rw [← h.farms.1]; exact List.mem_range.1 hi
          obtain ⟨g, ha, hg, ty, _, hr, hv, _, hr2⟩ := h.farms.2.2 i hl
          unfold farmU at hu
          rw [List.getElem?_eq_getElem hl] at hu
          simp only [usAt, hat_of ha, Nat.zero_add, List.mem_cons, List.not_mem_nil, or_false] at hu
          rcases hu with rfl | rfl
          · exact uok_ref (hN g hg) hr (rpos_row ty isFarm i 1 rfl rfl) (by rw [catM_on ty]; rfl) (by simp)
          · exact uok_ref (hN g hg) hr2 (rpos_row ty isFarm i 10 rfl rfl) (by rw [catM_crop ty i hv]; split <;> rfl) (by split <;> simp)
        · obtain ⟨i, hi, hu⟩ := List.mem_flatMap.1 hu
          have hl : i < x.rots.length := by rw [← h.rots.1]; exact List.mem_range.1 hi
          obtain ⟨g, ha, hg, ty, _, hr, _, _, _, _, _, ht⟩ := h.rots.2.2 i hl
          unfold rotU at hu
          rw [List.getElem?_eq_getElem hl] at hu
          simp only [usAt, hat_of ha, Nat.zero_add, List.mem_cons] at hu
          rcases hu with rfl | hu
          · exact uok_ref (hN g hg) hr (rpos_row ty isRot i 1 rfl rfl) (by rw [catM_rot ty]; rfl) (by simp)
          · obtain ⟨k, hk, hu⟩ := List.mem_flatMap.1 hu
            have hkl : k < (x.rots[i]).turns.length := by rw [← ht.1]; exact List.mem_range.1 hk
            obtain ⟨g, ha, hg, ty, hr, _⟩ := ht.2.2 k hkl
            unfold turnU at hu
            rw [List.getElem?_eq_getElem hkl] at hu
            simp only [usAt, hat_of ha, Nat.zero_add, Nat.add_zero, List.mem_singleton] at hu
            rw [hu]
            exact uok_ref (hN g hg) hr (rpos_row0 ty isTurn k rfl rfl) (by rw [catM_turn ty]; rfl) (by simp)
        · obtain ⟨i, hi, hu⟩ := List.mem_flatMap.1 hu
          have hl : i < x.rights.length := by rw [← h.rights.1]; exact List.mem_range.1 hi
          obtain ⟨g, ha, hg, ty, hk, _, hr, hr2, _⟩ := h.rights.2.2 i hl
          unfold rightU at hu
          rw [List.getElem?_eq_getElem hl] at hu
          simp only [usAt, hat_of ha, Nat.zero_add, List.mem_cons, List.not_mem_nil, or_false] at hu
          rcases hu with rfl | rfl
          · exact uok_ref (hN g hg) hr (rpos_row ty isRight i 2 rfl rfl) (by rw [catM_rf ty]; rfl) (by simp)
          · exact uok_ref (hN g hg) hr2 (rpos_row ty isRight i 4 rfl rfl) (by rw [catM_rr ty i hk]; split <;> rfl) (by split <;> simp)
        · obtain ⟨i, hi, hu⟩ := List.mem_flatMap.1 hu
          have hl : i < x.duties.length := by rw [← h.duties.1]; exact List.mem_range.1 hi
          obtain ⟨g, ha, hg, ty, _, hr, hr2, _⟩ := h.duties.2.2 i hl
          unfold dutyU at hu
          rw [List.getElem?_eq_getElem hl] at hu
          simp only [usAt, hat_of ha, Nat.zero_add, List.mem_cons, List.not_mem_nil, or_false] at hu
          rcases hu with rfl | rfl
          · exact uok_ref (hN g hg) hr (rpos_row ty isDuty i 1 rfl rfl) (by rw [catM_df ty]; rfl) (by simp)
          · exact uok_ref (hN g hg) hr2 (rpos_row ty isDuty i 3 rfl rfl) (by rw [catM_dr ty]; rfl) (by simp)
      · cases hu
end

end Go.Proofs.Ytapejaabhkfhjaa

/- Resolve: what the iterator over references may read; the source when all references have their numbers. -/
namespace Go.Proofs.Ytapejaabhkfhjaa
open Go.RowKit

section
variable {B : Nat} {W W' : World} {N M : Nat → Prop} {L : Lay} {x : Src} {t : Tb} {X : List Us} {k : Nat} {O : Nat → Prop}
/- what is not written -/
def CR (B : Nat) (W : World) (p : Addr) : Prop := ∃ b q, p = ⟨b, q, none⟩ ∧ b < W.heap.size ∧ ¬ NumC B W b q
def DR (W : World) (p : Addr) : Prop := ∃ b q, p = ⟨b, q, none⟩ ∧ b < W.heap.size ∧ ∃ z, W.cell? ⟨b, q, none⟩ = some (.int .i64 z)
theorem RJ.hd (h : RJ B W t X k O W') : HdU W (CR B W) (DR W) W' := by
  constructor
  · rintro p ⟨b, q, rfl, h1, h2⟩; exact h.cells b q h1 h2
  · rintro p ⟨b, q, rfl, h1, h2⟩
    by_cases hn : NumC B W b q
    · exact h.nums b q hn h2
    · rw [h.cells b q h1 hn]; exact h2
theorem notNum {b q ty : Nat} (h : Ty W b ty) (hn : ¬ Num ty q) : ¬ NumC B W b q := by
  rintro ⟨_, o, ty', rfl, h1, h2, _⟩
  obtain rfl := h.inj h1
  exact hn h2
theorem notNum_P {b q : Nat} (h : PPos W b q) : ¬ NumC B W b q := by
  obtain ⟨ty, h1, h2⟩ := h
  exact notNum h1 (by rintro (h | h); rw [h2] at h; cases h; rw [h2] at h; cases h.1)
theorem notNum_E {b o : Nat} (h : EPos W b o) {j : Nat} (hj : j < 6) (h4 : j ≠ 4) : ¬ NumC B W b (o + j) := by
  obtain ⟨ty, h1, h2⟩ := h
  refine notNum h1 ?_
  rintro (h | h)
  · rw [(h2 j hj).1] at h; cases h
  · rw [(h2 j hj).2] at h; exact h4 h.2
theorem notNum_4 {b o : Nat} (h : EPos W b o) {kk : IntKind} {op : Int} (hr : W.cell? ⟨b, o, none⟩ = some (.int kk op)) (h2 : op ≠ 2) : ¬ NumC B W b (o + 4) := by
  rintro ⟨_, o', ty', e, h1, _, h3⟩
  obtain rfl : o' = o + 3 := by omega
  rw [catM_ex h hr, if_neg h2] at h3
  exact h3 rfl
mutual
theorem exR_of : ∀ (e : Ex) (b o : Nat) (cs : List Value), ExT W M e cs → W.rangeAt b o cs → EPos W b o → ExR W (CR B W) e b o
  | .mk op n u rn ri args, b, o, cs, hv, hr, hp => by
    rw [ExT] at hv
    obtain ⟨a, cap, rfl, h2, h3, h4⟩ := hv
    obtain ⟨r0, r1, r2, r3, r4, r5⟩ := rangeAt6 hr
    rw [ExR]
    exact ⟨a, cap, ⟨r0, _, _, rfl, hp.lt, notNum_E (j := 0) hp (by omega) (by omega)⟩, ⟨r5, _, _, rfl, hp.lt, notNum_E hp (by omega) (by omega)⟩, h2, rowR_of args a 0 h4⟩
theorem rowR_of : ∀ (l : List Ex) (a : Option Addr) (i : Nat), RowT W M a i l → RowR W (CR B W) a i l
  | [], a, i, h => by rw [RowR]; trivial
  | e :: r, a, i, h => by
    rw [RowT] at h
    rw [RowR]
    obtain ⟨⟨g, cs, rfl, h1, h2, h3, h4⟩, h5⟩ := h
    exact ⟨⟨g, 0, rfl, by rw [Nat.zero_add]; exact exR_of e g (i * 6) cs h4 h3 (epos_arg h2 i)⟩, rowR_of r _ (i + 1) h5⟩
end
theorem flat_le {f : Nat → List Us} {c : Nat} (n : Nat) (h : ∀ i, (f i).length ≤ c) : ((List.range n).flatMap f).length ≤ n * c := by
  induction n with
  | zero => simp
  | succ n ih => rw [range_flatMap_succ, List.length_append, Nat.succ_mul]; have := h n; omega
theorem flat_leN {f : Nat → List Us} {c : Nat} (n : Nat) (h : ∀ i, i < n → (f i).length ≤ c) : ((List.range n).flatMap f).length ≤ n * c := by
  induction n with
  | zero => simp
  | succ n ih => rw [range_flatMap_succ, List.length_append, Nat.succ_mul]; have := h n (by omega); have := ih (fun i hi => h i (by omega)); omega
theorem fits_all (h : fitsAll x = true) : x.lets.length ≤ 64 ∧ x.crops.length ≤ 32 ∧ x.reaches.length ≤ 64 ∧ x.farms.length ≤ 600 ∧ x.rots.length ≤ 64 ∧ x.rights.length ≤ 256 ∧ x.duties.length ≤ 256 ∧ (∀ d ∈ x.rots, d.turns.length ≤ 64) ∧ ∀ e ∈ allE x, depthE e.1 ≤ 8 := by
  unfold fitsAll fits0 fitsT deepOk at h
  simp only [Bool.and_eq_true, decide_eq_true_eq, List.all_eq_true] at h
  obtain ⟨⟨h1, h2, h3, h4, h5, h6, h7⟩, h8, h9⟩ := h
  exact ⟨h1, h2, h3, h4, h5, h6, h7, h8, h9⟩
theorem allE_few (h : x.lets.length ≤ 64) : ∀ e ∈ allE x, 0 ≤ e.2 ∧ e.2 ≤ 1000000 := by
  intro e he
  unfold allE letsE cropsE reachesE farmsE rotsE turnsE rightsE dutiesE at he
  simp only [List.mem_append, List.mem_cons, List.not_mem_nil, or_false, List.mem_flatMap, Prod.exists] at he
  rcases he with (rfl | rfl | rfl) | ⟨d, i, hm, rfl⟩ | ⟨d, i, hm, rfl⟩ | ⟨d, i, hm, rfl | rfl | rfl | rfl | rfl | rfl | rfl | rfl⟩ | ⟨d, i, hm, rfl⟩ | ⟨d, i, hm, (rfl | rfl | rfl) | ⟨d', i', hm', rfl⟩⟩ | ⟨d, i, hm, rfl | rfl | rfl | rfl | rfl⟩ | ⟨d, i, hm, rfl⟩
  all_goals first | exact ⟨by omega, by omega⟩ | skip
  have := List.mem_zipIdx hm
  simp only
  omega
theorem listU_short (h : PSrc N (ET M W) (RV W) W L x) (hf : fitsAll x = true) : (listU L x).length ≤ 1000000 := by
  obtain ⟨f1, f2, f3, f4, f5, f6, f7, f8, _⟩ := fits_all hf
  unfold listU
  simp only [List.length_append]
  have e1 : ((List.range L.farms.n).flatMap (farmU L.farms x.farms)).length ≤ L.farms.n * 2 := flat_le _ fun i => by unfold farmU; split <;> simp
  have e2 : ((List.range L.rots.n).flatMap (rotU L x.rots)).length ≤ L.rots.n * 66 := flat_leN _ fun i hi => by
    have hl : i < x.rots.length := by rw [← h.rots.1]; exact hi
    obtain ⟨_, _, _, _, _, _, _, _, _, _, _, ht⟩ := h.rots.2.2 i hl
    have e3 : ((List.range (turnsOf L i).n).flatMap (turnU (turnsOf L i) (x.rots[i]).turns)).length ≤ (turnsOf L i).n * 1 := flat_le _ fun k => by unfold turnU; split <;> simp
    have := f8 _ (List.getElem_mem hl)
    have := ht.1
    unfold rotU
    rw [List.getElem?_eq_getElem hl]
    simp only [List.length_cons]
    omega
  have e3 : ((List.range L.rights.n).flatMap (rightU L.rights x.rights)).length ≤ L.rights.n * 2 := flat_le _ fun i => by unfold rightU; split <;> simp
  have e4 : ((List.range L.duties.n).flatMap (dutyU L.duties x.duties)).length ≤ L.duties.n * 2 := flat_le _ fun i => by unfold dutyU; split <;> simp
  have := h.farms.1; have := h.rots.1; have := h.rights.1; have := h.duties.1
  omega
theorem usesC_of (hs : N L.s) (h : PSrc N (ET M W) (RV W) W L x) {Bu : Nat} (hbu : Bu < W.heap.size) (hbox : W.cell? ⟨Bu, 0, none⟩ = some (.pointer (some ⟨L.s, 0, none⟩))) (hf : fitsAll x = true) : UsesC M W (CR B W) (DR W) Bu L x := by
  have hat : ∀ {hd : Hdr} {g sz i off : Nat}, hd.a = some ⟨g, 0, none⟩ → hd.at sz i off = ⟨g, i * sz + off, none⟩ := fun ha => by rw [hat_of ha, Nat.zero_add]
  refine ⟨h.ok, h.heads (fun _ _ _ => rfl) hbox, ⟨Bu, 0, rfl, hbu, ?_⟩, fun j h1 h2 => ⟨L.s, j, rfl, h.ty.lt, notNum h.ty ?_⟩, fun i hi => ?_, fun i hi => ?_, fun i hi => ?_, ?_, h.farms.1, h.rots.1, fun i hi => ?_, h.rights.1, h.duties.1, allE_few (fits_all hf).1, listU_short h hf⟩
  · rintro ⟨_, o, ty, e, _⟩; omega
  · have : j = 19 ∨ j = 20 ∨ j = 21 ∨ j = 22 ∨ j = 23 ∨ j = 24 ∨ j = 25 := by omega
    rcases this with rfl | rfl | rfl | rfl | rfl | rfl | rfl <;> (intro hn; revert hn; unfold Num; decide)
  · obtain ⟨g, ha, hg, ty, _⟩ := h.rots.2.2 i (by rw [← h.rots.1]; exact hi)
    rw [hat ha]
    exact ⟨_, _, rfl, ty.lt, notNum_P (ppos_row ty isRot i 22 rfl)⟩
  · obtain ⟨g, ha, hg, ty, _, _, hv, _⟩ := h.farms.2.2 i hi
    rw [hat ha]
    exact ⟨⟨_, _, rfl, ty.lt, notNum_P (ppos_row ty isFarm i 3 rfl)⟩, hv⟩
  · obtain ⟨g, ha, hg, ty, hv, _⟩ := h.rights.2.2 i hi
    rw [hat ha]
    exact ⟨⟨_, _, rfl, ty.lt, notNum_P (ppos_row ty isRight i 0 rfl)⟩, hv⟩
  · refine All2.mono (fun a e hA => ?_) (h.all2 hs)
    obtain ⟨b, o, rfl, hb, hp, c, hc1, hc2⟩ := hA
    have hr := exR_of (B := B) e.1 b o c hc2 hc1 hp
    have hv := hc2.exV (N := M) (fun _ h _ => h)
    obtain ⟨a, cap, rfl, e1, e2, e3⟩ := hv.cells
    obtain ⟨r0, r1, r2, r3, r4, r5⟩ := rangeAt6 hc1
    exact ⟨b, o, _, rfl, hc1, hv, hr, ⟨_, _, rfl, hp.lt, notNum_E hp (by omega) (by omega)⟩, ⟨_, _, rfl, hp.lt, notNum_E hp (by omega) (by omega)⟩, ⟨_, _, rfl, hp.lt, notNum_E hp (by omega) (by omega)⟩, ⟨_, _, rfl, hp.lt, _, r4⟩,
      fun h0 => ⟨_, _, rfl, hp.lt, notNum_4 hp r0 (by rw [h0]; decide)⟩⟩
  · obtain ⟨_, _, _, _, _, _, _, _, _, _, _, ht⟩ := h.rots.2.2 i hi
    exact ht.1
end

end Go.Proofs.Ytapejaabhkfhjaa

/- Resolve: the source when all references have their numbers. -/
namespace Go.Proofs.Ytapejaabhkfhjaa
open Go.RowKit

section
variable {B : Nat} {W W' : World} {N M : Nat → Prop} {E : Int → Ex → Nat → Nat → Prop} {R : Int → Rf → Nat → Nat → Prop} {L : Lay} {x : Src} {t : Tb} {X : List Us} {O : Nat → Prop}
theorem seqU_all : ∀ {l : List (List Us × Bool)}, (seqU l).2 = true → ∀ p ∈ l, p.2 = true ∧ ∀ u ∈ p.1, u ∈ (seqU l).1
  | [], _ => by simp
  | y :: r, h => by
    have e : seqU (y :: r) = if y.2 then (y.1 ++ (seqU r).1, (seqU r).2) else (y.1, false) := rfl
    rw [e] at h ⊢
    by_cases h1 : y.2 = true
    · rw [if_pos h1] at h ⊢
      have ih := seqU_all h
      intro p hp
      rcases List.mem_cons.1 hp with rfl | hp
      · exact ⟨h1, fun u hu => List.mem_append.2 (.inl hu)⟩
      · exact ⟨(ih p hp).1, fun u hu => List.mem_append.2 (.inr ((ih p hp).2 u hu))⟩
    · rw [if_neg h1] at h; cases h
theorem all2_link {α β γ : Type} {R R' : α → β → Prop} {f : α → β → γ} {Q : γ → Prop} (h : ∀ a b, R a b → Q (f a b) → R' a b) : ∀ {l : List α} {m : List β}, All2 R l m → (∀ p ∈ List.zipWith f l m, Q p) → All2 R' l m
  | [], [], _, _ => trivial
  | a :: l, b :: m, hA, hq => by
    rw [All2] at hA
    simp only [List.zipWith_cons_cons, List.forall_mem_cons] at hq
    exact ⟨h a b hA.1 hq.1, all2_link h hA.2 hq.2⟩
  | [], _ :: _, hA, _ => by simp [All2] at hA
  | _ :: _, [], hA, _ => by simp [All2] at hA
/- an expression whose references are among X -/
def LinkE (W : World) (X : List Us) (M : Nat → Prop) (lt : Int) (e : Ex) (b o : Nat) : Prop := ET M W lt e b o ∧ (leftE e = false → (preE W lt e b o).2 = true ∧ ∀ u ∈ (preE W lt e b o).1, u ∈ X)
def LinkR (X : List Us) (R : Int → Rf → Nat → Nat → Prop) (to : Int) (r : Rf) (b o : Nat) : Prop := R to r b o ∧ ∃ at_, (⟨b, o, to, at_, r.name, r.n⟩ : Us) ∈ X
theorem PSrc.linkE (h : PSrc N (ET M W) R W L x) (hs : N L.s) (ho : (usesU W L x).2 = true) (hX : ∀ u ∈ (usesU W L x).1, u ∈ X) : PSrc N (LinkE W X M) R W L x := by
  have hq := seqU_all ho
  refine h.told (all2_link (f := topPart W) (Q := fun p => p.2 = true ∧ ∀ u ∈ p.1, u ∈ X) (fun a e hA hQ => ?_) (h.all2 hs) (fun p hp => ?_))
  · obtain ⟨b, o, rfl, hb, hp, hE⟩ := hA
    refine ⟨b, o, rfl, hE, fun hl => ?_⟩
    unfold topPart at hQ
    rw [hl] at hQ
    exact hQ
  · obtain ⟨h1, h2⟩ := hq p (List.mem_append.2 (.inl hp))
    exact ⟨h1, fun u hu => hX u (h2 u hu)⟩
theorem mem_range1 {f : Nat → List Us} {n i : Nat} {u : Us} (hi : i < n) (hu : u ∈ f i) : u ∈ (List.range n).flatMap f := List.mem_flatMap.2 ⟨i, List.mem_range.2 hi, hu⟩
theorem PSrc.linkR (h : PSrc N E R W L x) (hR : ∀ u ∈ reachX L x, u ∈ X) (hX : ∀ u ∈ listU L x, u ∈ X) : PSrc N E (LinkR X R) W L x := by
  have hat : ∀ {hd : Hdr} {g sz i off : Nat}, hd.a = some ⟨g, 0, none⟩ → hd.at sz i off = ⟨g, i * sz + off, none⟩ := fun ha => by rw [hat_of ha, Nat.zero_add]
  have k1 : ∀ u ∈ (List.range L.farms.n).flatMap (farmU L.farms x.farms), u ∈ X := fun u hu => hX u (by unfold listU; simp only [List.mem_append]; exact .inl (.inl (.inl hu)))
  have k2 : ∀ u ∈ (List.range L.rots.n).flatMap (rotU L x.rots), u ∈ X := fun u hu => hX u (by unfold listU; simp only [List.mem_append]; exact .inl (.inl (.inr hu)))
  have k3 : ∀ u ∈ (List.range L.rights.n).flatMap (rightU L.rights x.rights), u ∈ X := fun u hu => hX u (by unfold listU; simp only [List.mem_append]; exact .inl (.inr hu))
  have k4 : ∀ u ∈ (List.range L.duties.n).flatMap (dutyU L.duties x.duties), u ∈ X := fun u hu => hX u (by unfold listU; simp only [List.mem_append]; exact .inr hu)
  refine ⟨h.ty, h.name, h.season, h.cap, h.start, h.hlets, h.hcrops, h.hreaches, h.hfarms, h.hrots, h.hrights, h.hduties, h.lets, h.crops, ⟨h.reaches.1, h.reaches.2.1, fun i hi => ?_⟩, ⟨h.farms.1, h.farms.2.1, fun i hi => ?_⟩, ⟨h.rots.1, h.rots.2.1, fun i hi => ?_⟩, ⟨h.rights.1, h.rights.2.1, fun i hi => ?_⟩, ⟨h.duties.1, h.duties.2.1, fun i hi => ?_⟩⟩
  · obtain ⟨g, ha, hg, ty, h1, hr, h2⟩ := h.reaches.2.2 i hi
    refine ⟨g, ha, hg, ty, h1, ⟨hr, ⟨i, hR _ (mem_range1 (by rw [h.reaches.1]; exact hi) ?_)⟩⟩, h2⟩
    unfold reachU; rw [List.getElem?_eq_getElem hi]; simp [hat ha]
  · obtain ⟨g, ha, hg, ty, h1, hr, h2, h3, hr2⟩ := h.farms.2.2 i hi
    refine ⟨g, ha, hg, ty, h1, ⟨hr, ⟨0, k1 _ (mem_range1 (by rw [h.farms.1]; exact hi) ?_)⟩⟩, h2, h3, ⟨hr2, ⟨0, k1 _ (mem_range1 (by rw [h.farms.1]; exact hi) ?_)⟩⟩⟩
    · unfold farmU; rw [List.getElem?_eq_getElem hi]; simp [hat ha, usAt]
    · unfold farmU; rw [List.getElem?_eq_getElem hi]; simp [hat ha, usAt]
  · obtain ⟨g, ha, hg, ty, h1, hr, h2, h3, h4, h5, h6, ht⟩ := h.rots.2.2 i hi
    refine ⟨g, ha, hg, ty, h1, ⟨hr, ⟨0, k2 _ (mem_range1 (by rw [h.rots.1]; exact hi) ?_)⟩⟩, h2, h3, h4, h5, h6, ht.1, ht.2.1, fun k hk => ?_⟩
    · unfold rotU; rw [List.getElem?_eq_getElem hi]; simp [hat ha, usAt]
    · obtain ⟨g, ha, hg, ty, hr, h1⟩ := ht.2.2 k hk
      refine ⟨g, ha, hg, ty, ⟨hr, ⟨0, k2 _ (mem_range1 (i := i) (by rw [h.rots.1]; exact hi) ?_)⟩⟩, h1⟩
      unfold rotU; rw [List.getElem?_eq_getElem hi]
      refine List.mem_cons.2 (.inr (mem_range1 (i := k) (by rw [ht.1]; exact hk) ?_))
      unfold turnU; rw [List.getElem?_eq_getElem hk]; simp [hat ha, usAt]
  · obtain ⟨g, ha, hg, ty, h0, h1, hr, hr2, h2⟩ := h.rights.2.2 i hi
    refine ⟨g, ha, hg, ty, h0, h1, ⟨hr, ⟨0, k3 _ (mem_range1 (by rw [h.rights.1]; exact hi) ?_)⟩⟩, ⟨hr2, ⟨0, k3 _ (mem_range1 (by rw [h.rights.1]; exact hi) ?_)⟩⟩, h2⟩
    · unfold rightU; rw [List.getElem?_eq_getElem hi]; simp [hat ha, usAt]
    · unfold rightU; rw [List.getElem?_eq_getElem hi]; simp [hat ha, usAt]
  · obtain ⟨g, ha, hg, ty, h1, hr, hr2, h2⟩ := h.duties.2.2 i hi
    refine ⟨g, ha, hg, ty, h1, ⟨hr, ⟨0, k4 _ (mem_range1 (by rw [h.duties.1]; exact hi) ?_)⟩⟩, ⟨hr2, ⟨0, k4 _ (mem_range1 (by rw [h.duties.1]; exact hi) ?_)⟩⟩, h2⟩
    · unfold dutyU; rw [List.getElem?_eq_getElem hi]; simp [hat ha, usAt]
    · unfold dutyU; rw [List.getElem?_eq_getElem hi]; simp [hat ha, usAt]
theorem RJ.at (h : RJ B W t X X.length O W') {u : Us} (hu : u ∈ X) (h0 : u.to ≠ 0) : W'.cell? ⟨u.b, u.o + 1, none⟩ = some (.int .i64 (valT t (catT u.to) u.name)) := by
  obtain ⟨j, hj, rfl⟩ := List.mem_iff_getElem.1 hu
  exact ((h.done j hj hj).2 h0).2
theorem mapL_len (t : Tb) (l : List Ex) : (mapL t l).length = l.length := by rw [mapL_eq]; simp
mutual
theorem exT_map (h : RJ B W t X X.length O W') (lt : Int) : ∀ (e : Ex) (b o : Nat) (cs : List Value), ExT W M e cs → W.rangeAt b o cs → EPos W b o → (preE W lt e b o).2 = true → (∀ u ∈ (preE W lt e b o).1, u ∈ X) → ∃ c, W'.rangeAt b o c ∧ ExT W' M (mapE t e) c
  | .mk op n u rn ri args, b, o, cs, hv, hr, hp, ho, hX => by
    rw [ExT] at hv
    obtain ⟨a, cap, rfl, h2, h3, h4⟩ := hv
    obtain ⟨r0, r1, r2, r3, r4, r5⟩ := rangeAt6 hr
    have hc : ∀ j, j < 6 → j ≠ 4 → W'.cell? ⟨b, o + j, none⟩ = W.cell? ⟨b, o + j, none⟩ := fun j hj h4 => h.cells b _ hp.lt (notNum_E hp hj h4)
    rw [preE] at ho hX
    by_cases hs : okS op args.length = true
    · rw [if_pos hs] at ho hX
      rw [r5] at ho hX
      simp only [List.forall_mem_cons] at hX
      have hrow := rowT_map h lt args a args.length cap 0 h4 ho hX.2
      have hnum : W'.cell? ⟨b, o + 4, none⟩ = some (.int .i64 (if op = 2 then valT t 1 rn else ri)) := by
        by_cases h5 : op = 2
        · have h6 := h.at hX.1 (by simp only [toE, h5, if_true]; split <;> simp)
          rw [if_pos h5]
          simp only [toE, h5, if_true, Nat.add_assoc] at h6
          rw [h6]
          split <;> rfl
        · rw [if_neg h5]
          exact (h.cells b _ hp.lt (notNum_4 hp r0 h5)).trans r4
      refine ⟨[.int .i64 op, .int .i64 n, .int .i64 u, .string rn, .int .i64 (if op = 2 then valT t 1 rn else ri), .slice a args.length cap], ?_, ?_⟩
      · exact range_cons ((hc 0 (by omega) (by omega)).trans r0) (range_cons ((hc 1 (by omega) (by omega)).trans r1) (range_cons ((hc 2 (by omega) (by omega)).trans r2) (range_cons ((hc 3 (by omega) (by omega)).trans r3) (range_cons hnum (range_one ((hc 5 (by omega) (by omega)).trans r5))))))
      · rw [mapE, ExT]
        exact ⟨a, cap, by rw [mapL_len], by rw [mapL_len]; exact h2, h3, hrow⟩
    · rw [if_neg hs] at ho; cases ho
theorem rowT_map (h : RJ B W t X X.length O W') (lt : Int) : ∀ (l : List Ex) (a : Option Addr) (n cap i : Nat), RowT W M a i l → (preL W lt l (some (.slice a n cap)) i).2 = true → (∀ u ∈ (preL W lt l (some (.slice a n cap)) i).1, u ∈ X) → RowT W' M a i (mapL t l)
  | [], a, n, cap, i, _, _, _ => by rw [mapL, RowT]; trivial
  | e :: r, a, n, cap, i, hr, ho, hX => by
    rw [RowT] at hr
    obtain ⟨⟨g, cs, rfl, h1, h2, h3, h4⟩, h5⟩ := hr
    rw [preL] at ho hX
    by_cases hp : (preE W lt e g (0 + i * 6)).2 = true
    · rw [if_pos hp] at ho hX
      simp only [List.mem_append, or_imp, forall_and] at hX
      obtain ⟨c, c1, c2⟩ := exT_map h lt e g (0 + i * 6) cs h4 (by rw [Nat.zero_add]; exact h3) (by rw [Nat.zero_add]; exact epos_arg h2 i) hp hX.1
      rw [Nat.zero_add] at c1
      rw [mapL, RowT]
      exact ⟨⟨g, c, rfl, h1, h.tyT h2, c1, c2⟩, rowT_map h lt r (some ⟨g, 0, none⟩) n cap (i + 1) h5 ho hX.2⟩
    · rw [if_neg hp] at ho; cases ho
end
theorem left_args {e : Ex} (h : leftE e = true) : e.op = 0 ∧ e.args = [] := by
  unfold leftE leftC at h
  simp only [Bool.and_eq_true, decide_eq_true_eq] at h
  exact ⟨h.1, List.eq_nil_of_length_eq_zero h.2.2.2.2⟩
theorem left_map (h : RJ B W t X X.length O W') {lt : Int} {e : Ex} {b o : Nat} (hl : leftE e = true) (hE : ET M W lt e b o) (hp : EPos W b o) : ET M W' lt e b o := by
  obtain ⟨c, hr, hv⟩ := hE
  obtain ⟨l1, l2⟩ := left_args hl
  cases e with
  | mk op n u rn ri args =>
  simp only [Ex.op, Ex.args] at l1 l2
  subst l2
  rw [ExT] at hv
  obtain ⟨a, cap, rfl, h2, h3, h4⟩ := hv
  obtain ⟨r0, r1, r2, r3, r4, r5⟩ := rangeAt6 hr
  have hc : ∀ j, j < 6 → j ≠ 4 → W'.cell? ⟨b, o + j, none⟩ = W.cell? ⟨b, o + j, none⟩ := fun j hj h4 => h.cells b _ hp.lt (notNum_E hp hj h4)
  refine ⟨_, range_cons ((hc 0 (by omega) (by omega)).trans r0) (range_cons ((hc 1 (by omega) (by omega)).trans r1) (range_cons ((hc 2 (by omega) (by omega)).trans r2) (range_cons ((hc 3 (by omega) (by omega)).trans r3) (range_cons ((h.cells b _ hp.lt (notNum_4 hp r0 (by rw [l1]; decide))).trans r4) (range_one ((hc 5 (by omega) (by omega)).trans r5)))))), ?_⟩
  rw [ExT]
  exact ⟨a, cap, rfl, h2, h3, by rw [RowT]; trivial⟩
theorem psrc_done (hN : ∀ g, N g → B ≤ g) (hM : ∀ g, M g → B ≤ g) (hs : N L.s) (h : PSrc N (ET M W) (RV W) W L x) (hJ : RJ B W t (allX W L x) (allX W L x).length O W') (ho : (usesU W L x).2 = true) : PSrc N (ET M W') (RV W') W' L (x.mp (fT t) (gT t)) := by
  have hk : kindsOk x = true := by
    have := seqU_all ho (if kindsOk x then listU L x else [], kindsOk x) (List.mem_append.2 (.inr (by simp)))
    exact this.1
  have hlist : ∀ u ∈ listU L x, u ∈ allX W L x := fun u hu => List.mem_append.2 (.inr ((seqU_all ho (if kindsOk x then listU L x else [], kindsOk x) (List.mem_append.2 (.inr (by simp)))).2 u (by rw [if_pos hk]; exact hu)))
  refine ((h.linkE (X := allX W L x) hs ho (fun u hu => List.mem_append.2 (.inr hu))).linkR (X := allX W L x) (fun u hu => List.mem_append.2 (.inl hu)) hlist).map (fun b ty _ h => hJ.tyT h) (fun b o _ h => hJ.cells b o h.lt (notNum_P h)) (fun lt e b o _ hp hE => ?_) (fun to r b o _ hp hr => ?_)
  · obtain ⟨hE, hlink⟩ := hE
    unfold fT
    by_cases hl : leftE e = true
    · rw [if_pos hl]; exact left_map hJ hl hE hp
    · rw [if_neg hl]
      obtain ⟨l1, l2⟩ := hlink (by simpa using hl)
      obtain ⟨c, c1, c2⟩ := hE
      exact exT_map hJ lt e b o c c2 c1 hp l1 l2
  · obtain ⟨hr, hlink⟩ := hr
    have hnm : ¬ NumC B W b o := by
      obtain ⟨ty, p1, p2, _⟩ := hp
      exact notNum_P ⟨ty, p1, p2⟩
    unfold gT
    by_cases h0 : to = 0
    · rw [if_pos h0]
      refine ⟨hr.1, (hJ.cells b o hp.lt hnm).trans hr.2.1, (hJ.cells b _ hp.lt ?_).trans hr.2.2⟩
      obtain ⟨at_, hm⟩ := hlink
      exact (uok_all hN hM hs h _ hm).notNum h0
    · rw [if_neg h0]
      obtain ⟨at_, hm⟩ := hlink
      exact ⟨hr.1, (hJ.cells b o hp.lt hnm).trans hr.2.1, hJ.at hm h0⟩
end

end Go.Proofs.Ytapejaabhkfhjaa
