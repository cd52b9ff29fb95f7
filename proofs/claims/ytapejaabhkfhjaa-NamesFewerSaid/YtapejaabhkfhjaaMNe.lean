/- The iterator over a source's expressions: the walk. -/
import Derived.Test.YtapejaabhkfhjaaMNc
import Derived.Deep.RegionHeld2
import Derived.StillTailTactics
namespace Go.Proofs.Ytapejaabhkfhjaa
open Go.RowKit

/- how the iterator ends -/
def SeqEnd (J : Nat → (Nat → Prop) → World → Prop) (Jx : (Nat → Prop) → World → Prop) (Jp : List PanicEntry → (Nat → Prop) → World → Prop) (k : Nat) (e : Ending) (W' : World) : Prop :=
  ((∃ v, e = .returned v) ∧ ((∃ O, J k O W') ∨ ∃ O, Jx O W')) ∨ ∃ ch, e = .panicked ch ∧ ∃ O, Jp ch O W'
theorem ISt.start {n l : Nat} {P : Program} {xs : List (Array Value)} {Hd : World → Prop} {J : Nat → (Nat → Prop) → World → Prop} {Jx : (Nat → Prop) → World → Prop} {Jp : List PanicEntry → (Nat → Prop) → World → Prop} {W0 : World} (hc : Ctx n l P xs Hd J Jx Jp W0) (h0 : J 0 (fun _ => False) W0) (t : TypeId) :
    ISt J W0 l W0.heap.size 0 (fun b => False ∨ (W0.heap.size ≤ b ∧ b < (W0.alloc (.cells #[.func (.yield l) #[] #[]] t)).heap.size)) (W0.alloc (.cells #[.func (.yield l) #[] #[]] t)) :=
  ⟨stays_below hc.stays h0 ((Below.refl _ _).alloc (Nat.le_refl _) _), .inr ⟨Nat.le_refl _, by simp⟩, by
    have : (W0.alloc (.cells #[.func (.yield l) #[] #[]] t)).heap[W0.heap.size]? = some (.cells #[.func (.yield l) #[] #[]] t (0, 0)) := World.alloc_heap_new _ _
    simp only [World.cell?, this]; simp, by simp, fun b hb => by rcases hb with hb | hb; exact hb.elim; exact hb⟩

set_option maxRecDepth 100000 in
set_option maxHeartbeats 16000000 in
theorem exprs1_any (n : Nat) (hn : 1 ≤ n) (l Bs : Nat) (L : Lay) (hL : L.Ok) (J : Nat → (Nat → Prop) → World → Prop) (Jx : (Nat → Prop) → World → Prop) (Jp : List PanicEntry → (Nat → Prop) → World → Prop) (W0 : World)
    (hc : Ctx (n - 1) l Try.prog (exprX L) (Heads L Bs) J Jx Jp W0) (h0 : J 0 (fun _ => False) W0) :
    Calls Try.prog 89 #[.func (.yield l) #[] #[], .pointer (some ⟨Bs, 0, none⟩)] W0 (SeqEnd J Jx Jp (exprX L).length) := by
  have hmf : ∀ (fn : Fn) (first cap : Array Value) (w : World), (Instr.makeFunc fn first cap).run Try.prog w = .ok (.func fn first cap) w := fun _ _ _ _ => rfl
  have HC := Lib.hid hc
  have HL := Lib.hid hL
  have HI := Lib.hid (ISt.start hc h0 149)
  obtain ⟨X, hX⟩ : ∃ X, X = exprX L := ⟨_, rfl⟩
  have HX := Lib.hid hX
  rw [← hX] at HC ⊢
  clear hc hL h0 hX
  go_enter Try.func89, Try.ntmps89
  go_wp2_with fail
  generalize hw : W0.alloc (.cells #[.func (.yield l) #[] #[]] 149) = w1 at HI ⊢
  clear hw
  generalize W0.heap.size = Bc at HI ⊢
  have HH := Lib.hid (HC.out.hd _ _ _ HI.out.j)
  have HI1 := Lib.hid (HI.out.below HC.out (Below.refl _ _).drew)
  have HH1 := Lib.hid (HC.out.hd _ _ _ HI1.out.j)
  have HH2 := Lib.hid (HC.out.hd _ _ _ (HI.out.below HC.out (((Below.refl _ _).alloc (Nat.le_refl _) (.cells #[.pointer (some ⟨L.s, 1, none⟩), .pointer (some ⟨L.s, 7, none⟩), .pointer (some ⟨L.s, 13, none⟩)] 134)).drew)).j)
  have HX0 : Hid (∃ post, X = [] ++ ((#[.pointer (some ⟨L.s, 1, none⟩), .pointer (some ⟨L.s, 7, none⟩), .pointer (some ⟨L.s, 13, none⟩)] : Array Value).toList.map (fun p => #[p, .int .i64 0]) ++ post)) := Lib.hid ⟨_, by rw [HX.out]; rfl⟩
  go_region_held2 (fun w' => w'.cell? ⟨Bs, 0, none⟩ = some (.pointer (some ⟨L.s, 0, none⟩))) (first | exact HH1.out.box | exact HH2.out.box | exact HH3.out.box)
    (first | (go_at_call 90; refine (each_call HC.out hn (pre := []) HI1.out 0 _ 3 rfl _ HX0.out (by decide) (by simp) _ rfl).mono ?_; rintro e w2 (⟨r, rfl, hr⟩ | ⟨ch, rfl, hp⟩); rotate_left; exact ⟨rfl, .inr ⟨ch, rfl, hp⟩⟩; have HH3 := Lib.hid (hr.elim (fun h => h.2.elim fun O h => HC.out.hd _ _ _ h.j) (fun h => h.2.elim fun O h => HC.out.hdx _ _ h)); have HR := Lib.hid hr; clear hr))
  rcases HR.out with ⟨rfl, O2, hi2⟩ | ⟨rfl, O2, hx2⟩
  case inr =>
    have HX2 := Lib.hid hx2
    clear hx2 HR HH3
    go_wp2
    refine bodyPost_ret (results_none rfl _ _ _) rfl ?_
    exact .inl ⟨⟨_, rfl⟩, .inr ⟨_, HX2.out⟩⟩
  have HS : Hid (∃ O, ISt J W0 l Bc (many (headPs L.s) ++ letsX L 0).length O w2) := Lib.hid ⟨O2, hi2⟩
  clear hi2 HR HI1 HH1 HH2 HX0 HI HH
  have hbox := HH3.out.box
  have hhdr := HH3.out.lets
  unfold Hdr.v at hhdr
  go_wp2_with fail
  clear HH3
  clear hbox hhdr
  go_loopw [34] (fun iv wr => ∃ i : Nat, i ≤ L.lets.n ∧ iv = .int .i64 i ∧ Hid (∃ O, ISt J W0 l Bc (many (headPs L.s) ++ letsX L i).length O wr)) (fun iv _ => L.lets.n - (intOf iv).toNat)
  case atStart => exact ⟨0, Nat.zero_le _, rfl, HS⟩
  case round =>
    clear HS
    obtain ⟨i, hi, rfl, HSr⟩ := hrel
    have HHr := Lib.hid (HSr.out.elim fun O h => HC.out.hd _ _ _ h.j)
    have hbox := HHr.out.box
    by_cases hlt : i < L.lets.n
    · obtain ⟨b, o, he, hat⟩ := HL.out.lets.get hlt
      have hhdr := HHr.out.lets
      unfold Hdr.v at hhdr
      rw [he] at hhdr
      have hki : (i : Int) < (L.lets.n : Int) := by omega
      have hn47 : L.lets.n ≤ 140737488355328 := HL.out.lets.1
      have hfi : (fun i => [#[L.lets.ptr 7 i 1, .int .i64 (1 + (i : Int))]]) i = ((#[.pointer (some ⟨b, o + i * 7 + 1, none⟩)] : Array Value).toList.map (fun p => #[p, .int .i64 (1 + (i : Int))])) := by
        simp only [Hdr.ptr, hat, List.map_cons, List.map_nil]
      have HP : Hid (∃ post, X = (many (headPs L.s) ++ letsX L i) ++ ((#[.pointer (some ⟨b, o + i * 7 + 1, none⟩)] : Array Value).toList.map (fun p => #[p, .int .i64 (1 + (i : Int))]) ++ post)) := Lib.hid (by
        obtain ⟨post, hp⟩ := range_flatMap (fun i => [#[L.lets.ptr 7 i 1, .int .i64 (1 + (i : Int))]]) hlt
        have hp2 : letsX L L.lets.n = letsX L i ++ ((#[.pointer (some ⟨b, o + i * 7 + 1, none⟩)] : Array Value).toList.map (fun p => #[p, .int .i64 (1 + (i : Int))]) ++ post) := hp.trans (congrArg (fun z => letsX L i ++ (z ++ post)) hfi)
        refine ⟨(post ++ ((cropsX L L.crops.n ++ (reachesX L L.reaches.n ++ (farmsX L L.farms.n ++ (rotsX L L.rots.n ++ (rightsX L L.rights.n ++ dutiesX L L.duties.n))))))), ?_⟩
        rw [HX.out]
        unfold exprX
        rw [hp2]
        simp only [List.append_assoc])
      clear hfi
      have HAt := Lib.hid hat
      clear hat he
      obtain ⟨O, hi0⟩ := HSr.out
      have HI0 := Lib.hid hi0
      clear hi0
      go_wp2_with fail
      refine (each_call HC.out hn (pre := many (headPs L.s) ++ letsX L i) HI0.out (1 + (i : Int)) #[.pointer (some ⟨b, o + i * 7 + 1, none⟩)] 1 rfl _ HP.out (by decide) (by simp) _ rfl).mono ?_
      rintro e w3 (⟨r, rfl, hr⟩ | ⟨ch, rfl, hp⟩)
      rotate_left
      · exact ⟨rfl, .inr ⟨ch, rfl, hp⟩⟩
      have HR := Lib.hid hr
      clear hr hbox hhdr
      rcases HR.out with ⟨rfl, O3, h3⟩ | ⟨rfl, O3, hx3⟩
      · have HS3 : Hid (∃ O, ISt J W0 l Bc (many (headPs L.s) ++ letsX L (i + 1)).length O w3) := Lib.hid ⟨O3, by
          have e3 : (letsX L (i + 1)).length = (letsX L i).length + 1 := by rw [show letsX L (i + 1) = letsX L i ++ _ from range_flatMap_succ _ i, List.length_append]; rfl
          have e : (many (headPs L.s) ++ letsX L (i + 1)).length = (many (headPs L.s) ++ letsX L i).length + 1 := by simp only [List.length_append, e3]; omega
          rw [e]; exact h3⟩
        clear h3 HR
        go_wp2
        first
        | exact ⟨⟨i + 1, by omega, by go_num, HS3⟩, by simp [intOf]; omega⟩
        | (refine ⟨?_, by simp [intOf]; omega⟩; (repeat apply @Exists.intro Value); exact ⟨⟨i + 1, by omega, by go_num, HS3⟩, rfl⟩)
      · have HX3 := Lib.hid hx3
        clear hx3
        go_wp2
        refine bodyPost_ret (results_none rfl _ _ _) rfl ?_
        exact .inl ⟨⟨_, rfl⟩, .inr ⟨_, HX3.out⟩⟩
    · have hin : i = L.lets.n := by omega
      rw [hin] at HSr
      have HS : Hid (∃ O, ISt J W0 l Bc ((many (headPs L.s) ++ letsX L L.lets.n) ++ cropsX L 0).length O wr) := Lib.hid (by
        have := HSr.out
        rw [show ((many (headPs L.s) ++ letsX L L.lets.n) ++ cropsX L 0).length = (many (headPs L.s) ++ letsX L L.lets.n).length by simp [cropsX]]
        exact this)
      clear HSr hin
      have hhdr := HHr.out.crops
      unfold Hdr.v at hhdr
      clear HHr
      go_wp2_with fail
      clear hbox hhdr
      go_loopw [56] (fun iv wr => ∃ i : Nat, i ≤ L.crops.n ∧ iv = .int .i64 i ∧ Hid (∃ O, ISt J W0 l Bc ((many (headPs L.s) ++ letsX L L.lets.n) ++ cropsX L i).length O wr)) (fun iv _ => L.crops.n - (intOf iv).toNat)
      case atStart => exact ⟨0, Nat.zero_le _, rfl, HS⟩
      case round =>
        clear HS
        obtain ⟨i, hi, rfl, HSr⟩ := hrel
        have HHr := Lib.hid (HSr.out.elim fun O h => HC.out.hd _ _ _ h.j)
        have hbox := HHr.out.box
        by_cases hlt : i < L.crops.n
        · obtain ⟨b, o, he, hat⟩ := HL.out.crops.get hlt
          have hhdr := HHr.out.crops
          unfold Hdr.v at hhdr
          rw [he] at hhdr
          have hki : (i : Int) < (L.crops.n : Int) := by omega
          have hn47 : L.crops.n ≤ 140737488355328 := HL.out.crops.1
          have hfi : (fun i => many [L.crops.ptr 7 i 1]) i = ((#[.pointer (some ⟨b, o + i * 7 + 1, none⟩)] : Array Value).toList.map (fun p => #[p, .int .i64 0])) := by
            simp only [many, Hdr.ptr, hat, List.map_cons, List.map_nil]
          have HP : Hid (∃ post, X = ((many (headPs L.s) ++ letsX L L.lets.n) ++ cropsX L i) ++ ((#[.pointer (some ⟨b, o + i * 7 + 1, none⟩)] : Array Value).toList.map (fun p => #[p, .int .i64 0]) ++ post)) := Lib.hid (by
            obtain ⟨post, hp⟩ := range_flatMap (fun i => many [L.crops.ptr 7 i 1]) hlt
            have hp2 : cropsX L L.crops.n = cropsX L i ++ ((#[.pointer (some ⟨b, o + i * 7 + 1, none⟩)] : Array Value).toList.map (fun p => #[p, .int .i64 0]) ++ post) := hp.trans (congrArg (fun z => cropsX L i ++ (z ++ post)) hfi)
            refine ⟨(post ++ ((reachesX L L.reaches.n ++ (farmsX L L.farms.n ++ (rotsX L L.rots.n ++ (rightsX L L.rights.n ++ dutiesX L L.duties.n)))))), ?_⟩
            rw [HX.out]
            unfold exprX
            rw [hp2]
            simp only [List.append_assoc])
          clear hfi
          have HAt := Lib.hid hat
          clear hat he
          obtain ⟨O, hi0⟩ := HSr.out
          have HI0 := Lib.hid hi0
          clear hi0
          go_wp2_with fail
          refine (each_call HC.out hn (pre := (many (headPs L.s) ++ letsX L L.lets.n) ++ cropsX L i) HI0.out 0 #[.pointer (some ⟨b, o + i * 7 + 1, none⟩)] 1 rfl _ HP.out (by decide) (by simp) _ rfl).mono ?_
          rintro e w3 (⟨r, rfl, hr⟩ | ⟨ch, rfl, hp⟩)
          rotate_left
          · exact ⟨rfl, .inr ⟨ch, rfl, hp⟩⟩
          have HR := Lib.hid hr
          clear hr hbox hhdr
          rcases HR.out with ⟨rfl, O3, h3⟩ | ⟨rfl, O3, hx3⟩
          · have HS3 : Hid (∃ O, ISt J W0 l Bc ((many (headPs L.s) ++ letsX L L.lets.n) ++ cropsX L (i + 1)).length O w3) := Lib.hid ⟨O3, by
              have e3 : (cropsX L (i + 1)).length = (cropsX L i).length + 1 := by rw [show cropsX L (i + 1) = cropsX L i ++ _ from range_flatMap_succ _ i, List.length_append]; rfl
              have e : ((many (headPs L.s) ++ letsX L L.lets.n) ++ cropsX L (i + 1)).length = ((many (headPs L.s) ++ letsX L L.lets.n) ++ cropsX L i).length + 1 := by simp only [List.length_append, e3]; omega
              rw [e]; exact h3⟩
            clear h3 HR
            go_wp2
            first
            | exact ⟨⟨i + 1, by omega, by go_num, HS3⟩, by simp [intOf]; omega⟩
            | (refine ⟨?_, by simp [intOf]; omega⟩; (repeat apply @Exists.intro Value); exact ⟨⟨i + 1, by omega, by go_num, HS3⟩, rfl⟩)
          · have HX3 := Lib.hid hx3
            clear hx3
            go_wp2
            refine bodyPost_ret (results_none rfl _ _ _) rfl ?_
            exact .inl ⟨⟨_, rfl⟩, .inr ⟨_, HX3.out⟩⟩
        · have hin : i = L.crops.n := by omega
          rw [hin] at HSr
          have HS : Hid (∃ O, ISt J W0 l Bc (((many (headPs L.s) ++ letsX L L.lets.n) ++ cropsX L L.crops.n) ++ reachesX L 0).length O wr) := Lib.hid (by
            have := HSr.out
            rw [show (((many (headPs L.s) ++ letsX L L.lets.n) ++ cropsX L L.crops.n) ++ reachesX L 0).length = ((many (headPs L.s) ++ letsX L L.lets.n) ++ cropsX L L.crops.n).length by simp [reachesX]]
            exact this)
          clear HSr hin
          have hhdr := HHr.out.reaches
          unfold Hdr.v at hhdr
          clear HHr
          go_wp2_with fail
          clear hbox hhdr
          go_loopw [76] (fun iv wr => ∃ i : Nat, i ≤ L.reaches.n ∧ iv = .int .i64 i ∧ Hid (∃ O, ISt J W0 l Bc (((many (headPs L.s) ++ letsX L L.lets.n) ++ cropsX L L.crops.n) ++ reachesX L i).length O wr)) (fun iv _ => L.reaches.n - (intOf iv).toNat)
          case atStart => exact ⟨0, Nat.zero_le _, rfl, HS⟩
          case round =>
            clear HS
            obtain ⟨i, hi, rfl, HSr⟩ := hrel
            have HHr := Lib.hid (HSr.out.elim fun O h => HC.out.hd _ _ _ h.j)
            have hbox := HHr.out.box
            by_cases hlt : i < L.reaches.n
            · obtain ⟨b, o, he, hat⟩ := HL.out.reaches.get hlt
              have hhdr := HHr.out.reaches
              unfold Hdr.v at hhdr
              rw [he] at hhdr
              have hki : (i : Int) < (L.reaches.n : Int) := by omega
              have hn47 : L.reaches.n ≤ 140737488355328 := HL.out.reaches.1
              have hfi : (fun i => many (reachPs L.reaches i)) i = ((#[.pointer (some ⟨b, o + i * 51 + 3, none⟩), .pointer (some ⟨b, o + i * 51 + 9, none⟩), .pointer (some ⟨b, o + i * 51 + 15, none⟩), .pointer (some ⟨b, o + i * 51 + 21, none⟩), .pointer (some ⟨b, o + i * 51 + 27, none⟩), .pointer (some ⟨b, o + i * 51 + 33, none⟩), .pointer (some ⟨b, o + i * 51 + 39, none⟩), .pointer (some ⟨b, o + i * 51 + 45, none⟩)] : Array Value).toList.map (fun p => #[p, .int .i64 0])) := by
                simp only [many, reachPs, Hdr.ptr, hat, List.map_cons, List.map_nil]
              have HP : Hid (∃ post, X = (((many (headPs L.s) ++ letsX L L.lets.n) ++ cropsX L L.crops.n) ++ reachesX L i) ++ ((#[.pointer (some ⟨b, o + i * 51 + 3, none⟩), .pointer (some ⟨b, o + i * 51 + 9, none⟩), .pointer (some ⟨b, o + i * 51 + 15, none⟩), .pointer (some ⟨b, o + i * 51 + 21, none⟩), .pointer (some ⟨b, o + i * 51 + 27, none⟩), .pointer (some ⟨b, o + i * 51 + 33, none⟩), .pointer (some ⟨b, o + i * 51 + 39, none⟩), .pointer (some ⟨b, o + i * 51 + 45, none⟩)] : Array Value).toList.map (fun p => #[p, .int .i64 0]) ++ post)) := Lib.hid (by
                obtain ⟨post, hp⟩ := range_flatMap (fun i => many (reachPs L.reaches i)) hlt
                have hp2 : reachesX L L.reaches.n = reachesX L i ++ ((#[.pointer (some ⟨b, o + i * 51 + 3, none⟩), .pointer (some ⟨b, o + i * 51 + 9, none⟩), .pointer (some ⟨b, o + i * 51 + 15, none⟩), .pointer (some ⟨b, o + i * 51 + 21, none⟩), .pointer (some ⟨b, o + i * 51 + 27, none⟩), .pointer (some ⟨b, o + i * 51 + 33, none⟩), .pointer (some ⟨b, o + i * 51 + 39, none⟩), .pointer (some ⟨b, o + i * 51 + 45, none⟩)] : Array Value).toList.map (fun p => #[p, .int .i64 0]) ++ post) := hp.trans (congrArg (fun z => reachesX L i ++ (z ++ post)) hfi)
                refine ⟨(post ++ ((farmsX L L.farms.n ++ (rotsX L L.rots.n ++ (rightsX L L.rights.n ++ dutiesX L L.duties.n))))), ?_⟩
                rw [HX.out]
                unfold exprX
                rw [hp2]
                simp only [List.append_assoc])
              clear hfi
              have HAt := Lib.hid hat
              clear hat he
              obtain ⟨O, hi0⟩ := HSr.out
              go_wp2_with fail
              have HI1 := Lib.hid (hi0.below HC.out (Below.refl _ _).drew)
              have HI2 := Lib.hid (hi0.below HC.out (((Below.refl _ _).alloc (Nat.le_refl _) (.cells #[.pointer (some ⟨b, o + i * 51 + 3, none⟩), .pointer (some ⟨b, o + i * 51 + 9, none⟩), .pointer (some ⟨b, o + i * 51 + 15, none⟩), .pointer (some ⟨b, o + i * 51 + 21, none⟩), .pointer (some ⟨b, o + i * 51 + 27, none⟩), .pointer (some ⟨b, o + i * 51 + 33, none⟩), .pointer (some ⟨b, o + i * 51 + 39, none⟩), .pointer (some ⟨b, o + i * 51 + 45, none⟩)] 134)).drew))
              have HH1 := Lib.hid (HC.out.hd _ _ _ HI1.out.j)
              have HH2 := Lib.hid (HC.out.hd _ _ _ HI2.out.j)
              have hbox1 := HH1.out.box
              go_region_held2 (fun w' => w'.cell? ⟨Bs, 0, none⟩ = some (.pointer (some ⟨L.s, 0, none⟩))) (first | exact HH1.out.box | exact HH2.out.box | exact HH3.out.box)
                (first | (go_at_call 90; refine (each_call HC.out hn (pre := ((many (headPs L.s) ++ letsX L L.lets.n) ++ cropsX L L.crops.n) ++ reachesX L i) HI1.out 0 _ 8 rfl _ HP.out (by decide) (by simp) _ rfl).mono ?_; rintro e w3 (⟨r, rfl, hr⟩ | ⟨ch, rfl, hp⟩); rotate_left; exact ⟨rfl, .inr ⟨ch, rfl, hp⟩⟩; have HH3 := Lib.hid (hr.elim (fun h => h.2.elim fun O h => HC.out.hd _ _ _ h.j) (fun h => h.2.elim fun O h => HC.out.hdx _ _ h)); have HR := Lib.hid hr; clear hr))
              clear hbox1 hbox hhdr hi0
              rcases HR.out with ⟨rfl, O3, h3⟩ | ⟨rfl, O3, hx3⟩
              · have HS3 : Hid (∃ O, ISt J W0 l Bc (((many (headPs L.s) ++ letsX L L.lets.n) ++ cropsX L L.crops.n) ++ reachesX L (i + 1)).length O w3) := Lib.hid ⟨O3, by
                  have e3 : (reachesX L (i + 1)).length = (reachesX L i).length + 8 := by rw [show reachesX L (i + 1) = reachesX L i ++ _ from range_flatMap_succ _ i, List.length_append]; rfl
                  have e : (((many (headPs L.s) ++ letsX L L.lets.n) ++ cropsX L L.crops.n) ++ reachesX L (i + 1)).length = (((many (headPs L.s) ++ letsX L L.lets.n) ++ cropsX L L.crops.n) ++ reachesX L i).length + 8 := by simp only [List.length_append, e3]; omega
                  rw [e]; exact h3⟩
                clear h3 HR
                go_wp2
                first
                | exact ⟨⟨i + 1, by omega, by go_num, HS3⟩, by simp [intOf]; omega⟩
                | (refine ⟨?_, by simp [intOf]; omega⟩; (repeat apply @Exists.intro Value); exact ⟨⟨i + 1, by omega, by go_num, HS3⟩, rfl⟩)
              · have HX3 := Lib.hid hx3
                clear hx3
                go_wp2
                refine bodyPost_ret (results_none rfl _ _ _) rfl ?_
                exact .inl ⟨⟨_, rfl⟩, .inr ⟨_, HX3.out⟩⟩
            · have hin : i = L.reaches.n := by omega
              rw [hin] at HSr
              have HS : Hid (∃ O, ISt J W0 l Bc ((((many (headPs L.s) ++ letsX L L.lets.n) ++ cropsX L L.crops.n) ++ reachesX L L.reaches.n) ++ farmsX L 0).length O wr) := Lib.hid (by
                have := HSr.out
                rw [show ((((many (headPs L.s) ++ letsX L L.lets.n) ++ cropsX L L.crops.n) ++ reachesX L L.reaches.n) ++ farmsX L 0).length = (((many (headPs L.s) ++ letsX L L.lets.n) ++ cropsX L L.crops.n) ++ reachesX L L.reaches.n).length by simp [farmsX]]
                exact this)
              clear HSr hin
              have hhdr := HHr.out.farms
              unfold Hdr.v at hhdr
              clear HHr
              go_wp2_with fail
              clear hbox hhdr
              go_loopw [123] (fun iv wr => ∃ i : Nat, i ≤ L.farms.n ∧ iv = .int .i64 i ∧ Hid (∃ O, ISt J W0 l Bc ((((many (headPs L.s) ++ letsX L L.lets.n) ++ cropsX L L.crops.n) ++ reachesX L L.reaches.n) ++ farmsX L i).length O wr)) (fun iv _ => L.farms.n - (intOf iv).toNat)
              case atStart => exact ⟨0, Nat.zero_le _, rfl, HS⟩
              case round =>
                clear HS
                obtain ⟨i, hi, rfl, HSr⟩ := hrel
                have HHr := Lib.hid (HSr.out.elim fun O h => HC.out.hd _ _ _ h.j)
                have hbox := HHr.out.box
                by_cases hlt : i < L.farms.n
                · obtain ⟨b, o, he, hat⟩ := HL.out.farms.get hlt
                  have hhdr := HHr.out.farms
                  unfold Hdr.v at hhdr
                  rw [he] at hhdr
                  have hki : (i : Int) < (L.farms.n : Int) := by omega
                  have hn47 : L.farms.n ≤ 140737488355328 := HL.out.farms.1
                  have hfi : (fun i => many [L.farms.ptr 12 i 4]) i = ((#[.pointer (some ⟨b, o + i * 12 + 4, none⟩)] : Array Value).toList.map (fun p => #[p, .int .i64 0])) := by
                    simp only [many, Hdr.ptr, hat, List.map_cons, List.map_nil]
                  have HP : Hid (∃ post, X = ((((many (headPs L.s) ++ letsX L L.lets.n) ++ cropsX L L.crops.n) ++ reachesX L L.reaches.n) ++ farmsX L i) ++ ((#[.pointer (some ⟨b, o + i * 12 + 4, none⟩)] : Array Value).toList.map (fun p => #[p, .int .i64 0]) ++ post)) := Lib.hid (by
                    obtain ⟨post, hp⟩ := range_flatMap (fun i => many [L.farms.ptr 12 i 4]) hlt
                    have hp2 : farmsX L L.farms.n = farmsX L i ++ ((#[.pointer (some ⟨b, o + i * 12 + 4, none⟩)] : Array Value).toList.map (fun p => #[p, .int .i64 0]) ++ post) := hp.trans (congrArg (fun z => farmsX L i ++ (z ++ post)) hfi)
                    refine ⟨(post ++ ((rotsX L L.rots.n ++ (rightsX L L.rights.n ++ dutiesX L L.duties.n)))), ?_⟩
                    rw [HX.out]
                    unfold exprX
                    rw [hp2]
                    simp only [List.append_assoc])
                  clear hfi
                  have HAt := Lib.hid hat
                  clear hat he
                  obtain ⟨O, hi0⟩ := HSr.out
                  have HI0 := Lib.hid hi0
                  clear hi0
                  go_wp2_with fail
                  refine (each_call HC.out hn (pre := (((many (headPs L.s) ++ letsX L L.lets.n) ++ cropsX L L.crops.n) ++ reachesX L L.reaches.n) ++ farmsX L i) HI0.out 0 #[.pointer (some ⟨b, o + i * 12 + 4, none⟩)] 1 rfl _ HP.out (by decide) (by simp) _ rfl).mono ?_
                  rintro e w3 (⟨r, rfl, hr⟩ | ⟨ch, rfl, hp⟩)
                  rotate_left
                  · exact ⟨rfl, .inr ⟨ch, rfl, hp⟩⟩
                  have HR := Lib.hid hr
                  clear hr hbox hhdr
                  rcases HR.out with ⟨rfl, O3, h3⟩ | ⟨rfl, O3, hx3⟩
                  · have HS3 : Hid (∃ O, ISt J W0 l Bc ((((many (headPs L.s) ++ letsX L L.lets.n) ++ cropsX L L.crops.n) ++ reachesX L L.reaches.n) ++ farmsX L (i + 1)).length O w3) := Lib.hid ⟨O3, by
                      have e3 : (farmsX L (i + 1)).length = (farmsX L i).length + 1 := by rw [show farmsX L (i + 1) = farmsX L i ++ _ from range_flatMap_succ _ i, List.length_append]; rfl
                      have e : ((((many (headPs L.s) ++ letsX L L.lets.n) ++ cropsX L L.crops.n) ++ reachesX L L.reaches.n) ++ farmsX L (i + 1)).length = ((((many (headPs L.s) ++ letsX L L.lets.n) ++ cropsX L L.crops.n) ++ reachesX L L.reaches.n) ++ farmsX L i).length + 1 := by simp only [List.length_append, e3]; omega
                      rw [e]; exact h3⟩
                    clear h3 HR
                    go_wp2
                    first
                    | exact ⟨⟨i + 1, by omega, by go_num, HS3⟩, by simp [intOf]; omega⟩
                    | (refine ⟨?_, by simp [intOf]; omega⟩; (repeat apply @Exists.intro Value); exact ⟨⟨i + 1, by omega, by go_num, HS3⟩, rfl⟩)
                  · have HX3 := Lib.hid hx3
                    clear hx3
                    go_wp2
                    refine bodyPost_ret (results_none rfl _ _ _) rfl ?_
                    exact .inl ⟨⟨_, rfl⟩, .inr ⟨_, HX3.out⟩⟩
                · have hin : i = L.farms.n := by omega
                  rw [hin] at HSr
                  have HS : Hid (∃ O, ISt J W0 l Bc (((((many (headPs L.s) ++ letsX L L.lets.n) ++ cropsX L L.crops.n) ++ reachesX L L.reaches.n) ++ farmsX L L.farms.n) ++ rotsX L 0).length O wr) := Lib.hid (by
                    have := HSr.out
                    rw [show (((((many (headPs L.s) ++ letsX L L.lets.n) ++ cropsX L L.crops.n) ++ reachesX L L.reaches.n) ++ farmsX L L.farms.n) ++ rotsX L 0).length = ((((many (headPs L.s) ++ letsX L L.lets.n) ++ cropsX L L.crops.n) ++ reachesX L L.reaches.n) ++ farmsX L L.farms.n).length by simp [rotsX]]
                    exact this)
                  clear HSr hin
                  have hhdr := HHr.out.rots
                  unfold Hdr.v at hhdr
                  clear HHr
                  go_wp2_with fail
                  clear hbox hhdr
                  go_loopw [143] (fun iv wr => ∃ i : Nat, i ≤ L.rots.n ∧ iv = .int .i64 i ∧ Hid (∃ O, ISt J W0 l Bc (((((many (headPs L.s) ++ letsX L L.lets.n) ++ cropsX L L.crops.n) ++ reachesX L L.reaches.n) ++ farmsX L L.farms.n) ++ rotsX L i).length O wr)) (fun iv _ => L.rots.n - (intOf iv).toNat)
                  case atStart => exact ⟨0, Nat.zero_le _, rfl, HS⟩
                  case round =>
                    clear HS
                    obtain ⟨i, hi, rfl, HSr⟩ := hrel
                    have HHr := Lib.hid (HSr.out.elim fun O h => HC.out.hd _ _ _ h.j)
                    have hbox := HHr.out.box
                    by_cases hlt : i < L.rots.n
                    · obtain ⟨b, o, he, hat⟩ := HL.out.rots.get hlt
                      have hhdr := HHr.out.rots
                      unfold Hdr.v at hhdr
                      rw [he] at hhdr
                      have hki : (i : Int) < (L.rots.n : Int) := by omega
                      have hn47 : L.rots.n ≤ 140737488355328 := HL.out.rots.1
                      have hfi : (fun i => many (rotPs L.rots i) ++ turnsX (turnsOf L i) (turnsOf L i).n) i = ((#[.pointer (some ⟨b, o + i * 23 + 4, none⟩), .pointer (some ⟨b, o + i * 23 + 10, none⟩), .pointer (some ⟨b, o + i * 23 + 16, none⟩)] : Array Value).toList.map (fun p => #[p, .int .i64 0]) ++ turnsX (turnsOf L i) (turnsOf L i).n) := by
                        simp only [many, rotPs, Hdr.ptr, hat, List.map_cons, List.map_nil]
                      have HP : Hid (∃ post, X = (((((many (headPs L.s) ++ letsX L L.lets.n) ++ cropsX L L.crops.n) ++ reachesX L L.reaches.n) ++ farmsX L L.farms.n) ++ rotsX L i) ++ ((#[.pointer (some ⟨b, o + i * 23 + 4, none⟩), .pointer (some ⟨b, o + i * 23 + 10, none⟩), .pointer (some ⟨b, o + i * 23 + 16, none⟩)] : Array Value).toList.map (fun p => #[p, .int .i64 0]) ++ post)) := Lib.hid (by
                        obtain ⟨post, hp⟩ := range_flatMap (fun i => many (rotPs L.rots i) ++ turnsX (turnsOf L i) (turnsOf L i).n) hlt
                        have hp2 : rotsX L L.rots.n = rotsX L i ++ ((#[.pointer (some ⟨b, o + i * 23 + 4, none⟩), .pointer (some ⟨b, o + i * 23 + 10, none⟩), .pointer (some ⟨b, o + i * 23 + 16, none⟩)] : Array Value).toList.map (fun p => #[p, .int .i64 0]) ++ turnsX (turnsOf L i) (turnsOf L i).n ++ post) := hp.trans (congrArg (fun z => rotsX L i ++ (z ++ post)) hfi)
                        refine ⟨turnsX (turnsOf L i) (turnsOf L i).n ++ (post ++ ((rightsX L L.rights.n ++ dutiesX L L.duties.n))), ?_⟩
                        rw [HX.out]
                        unfold exprX
                        rw [hp2]
                        simp only [List.append_assoc])
                      clear hfi
                      have HAt := Lib.hid hat
                      clear hat he
                      obtain ⟨O, hi0⟩ := HSr.out
                      go_wp2_with fail
                      have HI1 := Lib.hid (hi0.below HC.out (Below.refl _ _).drew)
                      have HI2 := Lib.hid (hi0.below HC.out (((Below.refl _ _).alloc (Nat.le_refl _) (.cells #[.pointer (some ⟨b, o + i * 23 + 4, none⟩), .pointer (some ⟨b, o + i * 23 + 10, none⟩), .pointer (some ⟨b, o + i * 23 + 16, none⟩)] 134)).drew))
                      have HH1 := Lib.hid (HC.out.hd _ _ _ HI1.out.j)
                      have HH2 := Lib.hid (HC.out.hd _ _ _ HI2.out.j)
                      have hbox1 := HH1.out.box
                      go_region_held2 (fun w' => w'.cell? ⟨Bs, 0, none⟩ = some (.pointer (some ⟨L.s, 0, none⟩))) (first | exact HH1.out.box | exact HH2.out.box | exact HH3.out.box)
                        (first | (go_at_call 90; refine (each_call HC.out hn (pre := ((((many (headPs L.s) ++ letsX L L.lets.n) ++ cropsX L L.crops.n) ++ reachesX L L.reaches.n) ++ farmsX L L.farms.n) ++ rotsX L i) HI1.out 0 _ 3 rfl _ HP.out (by decide) (by simp) _ rfl).mono ?_; rintro e w3 (⟨r, rfl, hr⟩ | ⟨ch, rfl, hp⟩); rotate_left; exact ⟨rfl, .inr ⟨ch, rfl, hp⟩⟩; have HH3 := Lib.hid (hr.elim (fun h => h.2.elim fun O h => HC.out.hd _ _ _ h.j) (fun h => h.2.elim fun O h => HC.out.hdx _ _ h)); have HR := Lib.hid hr; clear hr))
                      clear hbox1 hbox hhdr hi0
                      rcases HR.out with ⟨rfl, O3, h3⟩ | ⟨rfl, O3, hx3⟩
                      case inr =>
                        have HX3 := Lib.hid hx3
                        clear hx3
                        go_wp2
                        refine bodyPost_ret (results_none rfl _ _ _) rfl ?_
                        exact .inl ⟨⟨_, rfl⟩, .inr ⟨_, HX3.out⟩⟩
                      have HS : Hid (∃ O, ISt J W0 l Bc ((((((many (headPs L.s) ++ letsX L L.lets.n) ++ cropsX L L.crops.n) ++ reachesX L L.reaches.n) ++ farmsX L L.farms.n) ++ rotsX L i ++ many (rotPs L.rots i)) ++ turnsX (turnsOf L i) 0).length O w3) := Lib.hid ⟨O3, by
                        have e : ((((((many (headPs L.s) ++ letsX L L.lets.n) ++ cropsX L L.crops.n) ++ reachesX L L.reaches.n) ++ farmsX L L.farms.n) ++ rotsX L i ++ many (rotPs L.rots i)) ++ turnsX (turnsOf L i) 0).length = (((((many (headPs L.s) ++ letsX L L.lets.n) ++ cropsX L L.crops.n) ++ reachesX L L.reaches.n) ++ farmsX L L.farms.n) ++ rotsX L i).length + 3 := by simp only [List.length_append, turnsX, List.range_zero, List.flatMap_nil, List.length_nil]; rfl
                        rw [e]; exact h3⟩
                      have HH4 := Lib.hid (HC.out.hd _ _ _ h3.j)
                      have hbox := HH4.out.box
                      have hturn := HH4.out.turns i hlt
                      rw [HAt.out] at hturn
                      unfold Hdr.v at hturn
                      clear h3 HR HH4 HH3 HH2 HH1 HI1 HI2
                      go_wp2_with fail
                      clear hbox hturn
                      go_loopw [170] (fun jv wq => ∃ j : Nat, j ≤ (turnsOf L i).n ∧ jv = .int .i64 j ∧ Hid (∃ O, ISt J W0 l Bc ((((((many (headPs L.s) ++ letsX L L.lets.n) ++ cropsX L L.crops.n) ++ reachesX L L.reaches.n) ++ farmsX L L.farms.n) ++ rotsX L i ++ many (rotPs L.rots i)) ++ turnsX (turnsOf L i) j).length O wq)) (fun jv _ => (turnsOf L i).n - (intOf jv).toNat)
                      case atStart => exact ⟨0, Nat.zero_le _, rfl, HS⟩
                      case round =>
                        rename_i wq0 _
                        clear HS
                        obtain ⟨j, hj, rfl, HSj⟩ := hrel
                        rename World => wq
                        have HHj := Lib.hid (HSj.out.elim fun O h => HC.out.hd _ _ _ h.j)
                        have hbox := HHj.out.box
                        by_cases hjt : j < (turnsOf L i).n
                        · obtain ⟨b2, o2, he2, hat2⟩ := (HL.out.turns i hlt).get hjt
                          have hturn := HHj.out.turns i hlt
                          rw [HAt.out] at hturn
                          unfold Hdr.v at hturn
                          rw [he2] at hturn
                          have hkj : (j : Int) < ((turnsOf L i).n : Int) := by omega
                          have hn48 : (turnsOf L i).n ≤ 140737488355328 := (HL.out.turns i hlt).1
                          have hfj : (fun k => many [(turnsOf L i).ptr 8 k 2]) j = ((#[.pointer (some ⟨b2, o2 + j * 8 + 2, none⟩)] : Array Value).toList.map (fun p => #[p, .int .i64 0])) := by
                            simp only [many, Hdr.ptr, hat2, List.map_cons, List.map_nil]
                          have HPj : Hid (∃ post, X = ((((((many (headPs L.s) ++ letsX L L.lets.n) ++ cropsX L L.crops.n) ++ reachesX L L.reaches.n) ++ farmsX L L.farms.n) ++ rotsX L i ++ many (rotPs L.rots i)) ++ turnsX (turnsOf L i) j) ++ ((#[.pointer (some ⟨b2, o2 + j * 8 + 2, none⟩)] : Array Value).toList.map (fun p => #[p, .int .i64 0]) ++ post)) := Lib.hid (by
                            obtain ⟨post, hp⟩ := range_flatMap (fun i => many (rotPs L.rots i) ++ turnsX (turnsOf L i) (turnsOf L i).n) hlt
                            obtain ⟨post2, hp3⟩ := range_flatMap (fun k => many [(turnsOf L i).ptr 8 k 2]) hjt
                            have hp2 : rotsX L L.rots.n = rotsX L i ++ ((many (rotPs L.rots i) ++ turnsX (turnsOf L i) (turnsOf L i).n) ++ post) := hp
                            have hp4 : turnsX (turnsOf L i) (turnsOf L i).n = turnsX (turnsOf L i) j ++ ((#[.pointer (some ⟨b2, o2 + j * 8 + 2, none⟩)] : Array Value).toList.map (fun p => #[p, .int .i64 0]) ++ post2) := hp3.trans (congrArg (fun z => turnsX (turnsOf L i) j ++ (z ++ post2)) hfj)
                            refine ⟨post2 ++ (post ++ ((rightsX L L.rights.n ++ dutiesX L L.duties.n))), ?_⟩
                            rw [HX.out]
                            unfold exprX
                            rw [hp2, hp4]
                            simp only [List.append_assoc])
                          obtain ⟨O, hi0⟩ := HSj.out
                          have HI0 := Lib.hid hi0
                          clear hi0 hat2 he2 hfj
                          go_wp2_with fail
                          refine (each_call HC.out hn (pre := (((((many (headPs L.s) ++ letsX L L.lets.n) ++ cropsX L L.crops.n) ++ reachesX L L.reaches.n) ++ farmsX L L.farms.n) ++ rotsX L i ++ many (rotPs L.rots i)) ++ turnsX (turnsOf L i) j) HI0.out 0 #[.pointer (some ⟨b2, o2 + j * 8 + 2, none⟩)] 1 rfl _ HPj.out (by decide) (by simp) _ rfl).mono ?_
                          rintro e w5 (⟨r, rfl, hr⟩ | ⟨ch, rfl, hp⟩)
                          rotate_left
                          · exact ⟨rfl, .inr ⟨ch, rfl, hp⟩⟩
                          have HR := Lib.hid hr
                          clear hr hbox hturn
                          rcases HR.out with ⟨rfl, O3, h3⟩ | ⟨rfl, O3, hx3⟩
                          · have HS3 : Hid (∃ O, ISt J W0 l Bc ((((((many (headPs L.s) ++ letsX L L.lets.n) ++ cropsX L L.crops.n) ++ reachesX L L.reaches.n) ++ farmsX L L.farms.n) ++ rotsX L i ++ many (rotPs L.rots i)) ++ turnsX (turnsOf L i) (j + 1)).length O w5) := Lib.hid ⟨O3, by
                              have e3 : (turnsX (turnsOf L i) (j + 1)).length = (turnsX (turnsOf L i) j).length + 1 := by rw [show turnsX (turnsOf L i) (j + 1) = turnsX (turnsOf L i) j ++ _ from range_flatMap_succ _ j, List.length_append]; rfl
                              have e : ((((((many (headPs L.s) ++ letsX L L.lets.n) ++ cropsX L L.crops.n) ++ reachesX L L.reaches.n) ++ farmsX L L.farms.n) ++ rotsX L i ++ many (rotPs L.rots i)) ++ turnsX (turnsOf L i) (j + 1)).length = ((((((many (headPs L.s) ++ letsX L L.lets.n) ++ cropsX L L.crops.n) ++ reachesX L L.reaches.n) ++ farmsX L L.farms.n) ++ rotsX L i ++ many (rotPs L.rots i)) ++ turnsX (turnsOf L i) j).length + 1 := by simp only [List.length_append, e3]; omega
                              rw [e]; exact h3⟩
                            clear h3 HR
                            go_wp2
                            first
                            | exact ⟨⟨j + 1, by omega, by go_num, HS3⟩, by simp [intOf]; omega⟩
                            | (refine ⟨?_, by simp [intOf]; omega⟩; (repeat apply @Exists.intro Value); exact ⟨⟨j + 1, by omega, by go_num, HS3⟩, rfl⟩)
                          · have HX3 := Lib.hid hx3
                            clear hx3
                            go_wp2
                            refine bodyPost_ret (results_none rfl _ _ _) rfl ?_
                            exact .inl ⟨⟨_, rfl⟩, .inr ⟨_, HX3.out⟩⟩
                        · have hjn : j = (turnsOf L i).n := by omega
                          rw [hjn] at HSj
                          have HS3 : Hid (∃ O, ISt J W0 l Bc (((((many (headPs L.s) ++ letsX L L.lets.n) ++ cropsX L L.crops.n) ++ reachesX L L.reaches.n) ++ farmsX L L.farms.n) ++ rotsX L (i + 1)).length O wq) := Lib.hid (HSj.out.elim fun O3 h3 => ⟨O3, by
                            have e3 : (rotsX L (i + 1)) = rotsX L i ++ (many (rotPs L.rots i) ++ turnsX (turnsOf L i) (turnsOf L i).n) := range_flatMap_succ _ i
                            have e : (((((many (headPs L.s) ++ letsX L L.lets.n) ++ cropsX L L.crops.n) ++ reachesX L L.reaches.n) ++ farmsX L L.farms.n) ++ rotsX L (i + 1)).length = ((((((many (headPs L.s) ++ letsX L L.lets.n) ++ cropsX L L.crops.n) ++ reachesX L L.reaches.n) ++ farmsX L L.farms.n) ++ rotsX L i ++ many (rotPs L.rots i)) ++ turnsX (turnsOf L i) (turnsOf L i).n).length := by rw [e3]; simp only [List.append_assoc]
                            rw [e]; exact h3⟩)
                          clear HSj hjn hbox
                          go_wp2
                          first
                          | exact ⟨⟨i + 1, by omega, by go_num, HS3⟩, by simp [intOf]; omega⟩
                          | (refine ⟨?_, by simp [intOf]; omega⟩; (repeat apply @Exists.intro Value); exact ⟨⟨i + 1, by omega, by go_num, HS3⟩, rfl⟩)
                    · have hin : i = L.rots.n := by omega
                      rw [hin] at HSr
                      have HS : Hid (∃ O, ISt J W0 l Bc ((((((many (headPs L.s) ++ letsX L L.lets.n) ++ cropsX L L.crops.n) ++ reachesX L L.reaches.n) ++ farmsX L L.farms.n) ++ rotsX L L.rots.n) ++ rightsX L 0).length O wr) := Lib.hid (by
                        have := HSr.out
                        rw [show ((((((many (headPs L.s) ++ letsX L L.lets.n) ++ cropsX L L.crops.n) ++ reachesX L L.reaches.n) ++ farmsX L L.farms.n) ++ rotsX L L.rots.n) ++ rightsX L 0).length = (((((many (headPs L.s) ++ letsX L L.lets.n) ++ cropsX L L.crops.n) ++ reachesX L L.reaches.n) ++ farmsX L L.farms.n) ++ rotsX L L.rots.n).length by simp [rightsX]]
                        exact this)
                      clear HSr hin
                      have hhdr := HHr.out.rights
                      unfold Hdr.v at hhdr
                      clear HHr
                      go_wp2_with fail
                      clear hbox hhdr
                      go_loopw [191] (fun iv wr => ∃ i : Nat, i ≤ L.rights.n ∧ iv = .int .i64 i ∧ Hid (∃ O, ISt J W0 l Bc ((((((many (headPs L.s) ++ letsX L L.lets.n) ++ cropsX L L.crops.n) ++ reachesX L L.reaches.n) ++ farmsX L L.farms.n) ++ rotsX L L.rots.n) ++ rightsX L i).length O wr)) (fun iv _ => L.rights.n - (intOf iv).toNat)
                      case atStart => exact ⟨0, Nat.zero_le _, rfl, HS⟩
                      case round =>
                        clear HS
                        obtain ⟨i, hi, rfl, HSr⟩ := hrel
                        have HHr := Lib.hid (HSr.out.elim fun O h => HC.out.hd _ _ _ h.j)
                        have hbox := HHr.out.box
                        by_cases hlt : i < L.rights.n
                        · obtain ⟨b, o, he, hat⟩ := HL.out.rights.get hlt
                          have hhdr := HHr.out.rights
                          unfold Hdr.v at hhdr
                          rw [he] at hhdr
                          have hki : (i : Int) < (L.rights.n : Int) := by omega
                          have hn47 : L.rights.n ≤ 140737488355328 := HL.out.rights.1
                          have hfi : (fun i => many (rightPs L.rights i)) i = ((#[.pointer (some ⟨b, o + i * 37 + 7, none⟩), .pointer (some ⟨b, o + i * 37 + 13, none⟩), .pointer (some ⟨b, o + i * 37 + 19, none⟩), .pointer (some ⟨b, o + i * 37 + 25, none⟩), .pointer (some ⟨b, o + i * 37 + 31, none⟩)] : Array Value).toList.map (fun p => #[p, .int .i64 0])) := by
                            simp only [many, rightPs, Hdr.ptr, hat, List.map_cons, List.map_nil]
                          have HP : Hid (∃ post, X = ((((((many (headPs L.s) ++ letsX L L.lets.n) ++ cropsX L L.crops.n) ++ reachesX L L.reaches.n) ++ farmsX L L.farms.n) ++ rotsX L L.rots.n) ++ rightsX L i) ++ ((#[.pointer (some ⟨b, o + i * 37 + 7, none⟩), .pointer (some ⟨b, o + i * 37 + 13, none⟩), .pointer (some ⟨b, o + i * 37 + 19, none⟩), .pointer (some ⟨b, o + i * 37 + 25, none⟩), .pointer (some ⟨b, o + i * 37 + 31, none⟩)] : Array Value).toList.map (fun p => #[p, .int .i64 0]) ++ post)) := Lib.hid (by
                            obtain ⟨post, hp⟩ := range_flatMap (fun i => many (rightPs L.rights i)) hlt
                            have hp2 : rightsX L L.rights.n = rightsX L i ++ ((#[.pointer (some ⟨b, o + i * 37 + 7, none⟩), .pointer (some ⟨b, o + i * 37 + 13, none⟩), .pointer (some ⟨b, o + i * 37 + 19, none⟩), .pointer (some ⟨b, o + i * 37 + 25, none⟩), .pointer (some ⟨b, o + i * 37 + 31, none⟩)] : Array Value).toList.map (fun p => #[p, .int .i64 0]) ++ post) := hp.trans (congrArg (fun z => rightsX L i ++ (z ++ post)) hfi)
                            refine ⟨(post ++ (dutiesX L L.duties.n)), ?_⟩
                            rw [HX.out]
                            unfold exprX
                            rw [hp2]
                            simp only [List.append_assoc])
                          clear hfi
                          have HAt := Lib.hid hat
                          clear hat he
                          obtain ⟨O, hi0⟩ := HSr.out
                          go_wp2_with fail
                          have HI1 := Lib.hid (hi0.below HC.out (Below.refl _ _).drew)
                          have HI2 := Lib.hid (hi0.below HC.out (((Below.refl _ _).alloc (Nat.le_refl _) (.cells #[.pointer (some ⟨b, o + i * 37 + 7, none⟩), .pointer (some ⟨b, o + i * 37 + 13, none⟩), .pointer (some ⟨b, o + i * 37 + 19, none⟩), .pointer (some ⟨b, o + i * 37 + 25, none⟩), .pointer (some ⟨b, o + i * 37 + 31, none⟩)] 134)).drew))
                          have HH1 := Lib.hid (HC.out.hd _ _ _ HI1.out.j)
                          have HH2 := Lib.hid (HC.out.hd _ _ _ HI2.out.j)
                          have hbox1 := HH1.out.box
                          go_region_held2 (fun w' => w'.cell? ⟨Bs, 0, none⟩ = some (.pointer (some ⟨L.s, 0, none⟩))) (first | exact HH1.out.box | exact HH2.out.box | exact HH3.out.box)
                            (first | (go_at_call 90; refine (each_call HC.out hn (pre := (((((many (headPs L.s) ++ letsX L L.lets.n) ++ cropsX L L.crops.n) ++ reachesX L L.reaches.n) ++ farmsX L L.farms.n) ++ rotsX L L.rots.n) ++ rightsX L i) HI1.out 0 _ 5 rfl _ HP.out (by decide) (by simp) _ rfl).mono ?_; rintro e w3 (⟨r, rfl, hr⟩ | ⟨ch, rfl, hp⟩); rotate_left; exact ⟨rfl, .inr ⟨ch, rfl, hp⟩⟩; have HH3 := Lib.hid (hr.elim (fun h => h.2.elim fun O h => HC.out.hd _ _ _ h.j) (fun h => h.2.elim fun O h => HC.out.hdx _ _ h)); have HR := Lib.hid hr; clear hr))
                          clear hbox1 hbox hhdr hi0
                          rcases HR.out with ⟨rfl, O3, h3⟩ | ⟨rfl, O3, hx3⟩
                          · have HS3 : Hid (∃ O, ISt J W0 l Bc ((((((many (headPs L.s) ++ letsX L L.lets.n) ++ cropsX L L.crops.n) ++ reachesX L L.reaches.n) ++ farmsX L L.farms.n) ++ rotsX L L.rots.n) ++ rightsX L (i + 1)).length O w3) := Lib.hid ⟨O3, by
                              have e3 : (rightsX L (i + 1)).length = (rightsX L i).length + 5 := by rw [show rightsX L (i + 1) = rightsX L i ++ _ from range_flatMap_succ _ i, List.length_append]; rfl
                              have e : ((((((many (headPs L.s) ++ letsX L L.lets.n) ++ cropsX L L.crops.n) ++ reachesX L L.reaches.n) ++ farmsX L L.farms.n) ++ rotsX L L.rots.n) ++ rightsX L (i + 1)).length = ((((((many (headPs L.s) ++ letsX L L.lets.n) ++ cropsX L L.crops.n) ++ reachesX L L.reaches.n) ++ farmsX L L.farms.n) ++ rotsX L L.rots.n) ++ rightsX L i).length + 5 := by simp only [List.length_append, e3]; omega
                              rw [e]; exact h3⟩
                            clear h3 HR
                            go_wp2
                            first
                            | exact ⟨⟨i + 1, by omega, by go_num, HS3⟩, by simp [intOf]; omega⟩
                            | (refine ⟨?_, by simp [intOf]; omega⟩; (repeat apply @Exists.intro Value); exact ⟨⟨i + 1, by omega, by go_num, HS3⟩, rfl⟩)
                          · have HX3 := Lib.hid hx3
                            clear hx3
                            go_wp2
                            refine bodyPost_ret (results_none rfl _ _ _) rfl ?_
                            exact .inl ⟨⟨_, rfl⟩, .inr ⟨_, HX3.out⟩⟩
                        · have hin : i = L.rights.n := by omega
                          rw [hin] at HSr
                          have HS : Hid (∃ O, ISt J W0 l Bc (((((((many (headPs L.s) ++ letsX L L.lets.n) ++ cropsX L L.crops.n) ++ reachesX L L.reaches.n) ++ farmsX L L.farms.n) ++ rotsX L L.rots.n) ++ rightsX L L.rights.n) ++ dutiesX L 0).length O wr) := Lib.hid (by
                            have := HSr.out
                            rw [show (((((((many (headPs L.s) ++ letsX L L.lets.n) ++ cropsX L L.crops.n) ++ reachesX L L.reaches.n) ++ farmsX L L.farms.n) ++ rotsX L L.rots.n) ++ rightsX L L.rights.n) ++ dutiesX L 0).length = ((((((many (headPs L.s) ++ letsX L L.lets.n) ++ cropsX L L.crops.n) ++ reachesX L L.reaches.n) ++ farmsX L L.farms.n) ++ rotsX L L.rots.n) ++ rightsX L L.rights.n).length by simp [dutiesX]]
                            exact this)
                          clear HSr hin
                          have hhdr := HHr.out.duties
                          unfold Hdr.v at hhdr
                          clear HHr
                          go_wp2_with fail
                          clear hbox hhdr
                          go_loopw [225] (fun iv wr => ∃ i : Nat, i ≤ L.duties.n ∧ iv = .int .i64 i ∧ Hid (∃ O, ISt J W0 l Bc (((((((many (headPs L.s) ++ letsX L L.lets.n) ++ cropsX L L.crops.n) ++ reachesX L L.reaches.n) ++ farmsX L L.farms.n) ++ rotsX L L.rots.n) ++ rightsX L L.rights.n) ++ dutiesX L i).length O wr)) (fun iv _ => L.duties.n - (intOf iv).toNat)
                          case atStart => exact ⟨0, Nat.zero_le _, rfl, HS⟩
                          case round =>
                            clear HS
                            obtain ⟨i, hi, rfl, HSr⟩ := hrel
                            have HHr := Lib.hid (HSr.out.elim fun O h => HC.out.hd _ _ _ h.j)
                            have hbox := HHr.out.box
                            by_cases hlt : i < L.duties.n
                            · obtain ⟨b, o, he, hat⟩ := HL.out.duties.get hlt
                              have hhdr := HHr.out.duties
                              unfold Hdr.v at hhdr
                              rw [he] at hhdr
                              have hki : (i : Int) < (L.duties.n : Int) := by omega
                              have hn47 : L.duties.n ≤ 140737488355328 := HL.out.duties.1
                              have hfi : (fun i => many [L.duties.ptr 11 i 5]) i = ((#[.pointer (some ⟨b, o + i * 11 + 5, none⟩)] : Array Value).toList.map (fun p => #[p, .int .i64 0])) := by
                                simp only [many, Hdr.ptr, hat, List.map_cons, List.map_nil]
                              have HP : Hid (∃ post, X = (((((((many (headPs L.s) ++ letsX L L.lets.n) ++ cropsX L L.crops.n) ++ reachesX L L.reaches.n) ++ farmsX L L.farms.n) ++ rotsX L L.rots.n) ++ rightsX L L.rights.n) ++ dutiesX L i) ++ ((#[.pointer (some ⟨b, o + i * 11 + 5, none⟩)] : Array Value).toList.map (fun p => #[p, .int .i64 0]) ++ post)) := Lib.hid (by
                                obtain ⟨post, hp⟩ := range_flatMap (fun i => many [L.duties.ptr 11 i 5]) hlt
                                have hp2 : dutiesX L L.duties.n = dutiesX L i ++ ((#[.pointer (some ⟨b, o + i * 11 + 5, none⟩)] : Array Value).toList.map (fun p => #[p, .int .i64 0]) ++ post) := hp.trans (congrArg (fun z => dutiesX L i ++ (z ++ post)) hfi)
                                refine ⟨post, ?_⟩
                                rw [HX.out]
                                unfold exprX
                                rw [hp2]
                                simp only [List.append_assoc])
                              clear hfi
                              have HAt := Lib.hid hat
                              clear hat he
                              obtain ⟨O, hi0⟩ := HSr.out
                              have HI0 := Lib.hid hi0
                              clear hi0
                              go_wp2_with fail
                              refine (each_call HC.out hn (pre := ((((((many (headPs L.s) ++ letsX L L.lets.n) ++ cropsX L L.crops.n) ++ reachesX L L.reaches.n) ++ farmsX L L.farms.n) ++ rotsX L L.rots.n) ++ rightsX L L.rights.n) ++ dutiesX L i) HI0.out 0 #[.pointer (some ⟨b, o + i * 11 + 5, none⟩)] 1 rfl _ HP.out (by decide) (by simp) _ rfl).mono ?_
                              rintro e w3 (⟨r, rfl, hr⟩ | ⟨ch, rfl, hp⟩)
                              rotate_left
                              · exact ⟨rfl, .inr ⟨ch, rfl, hp⟩⟩
                              have HR := Lib.hid hr
                              clear hr hbox hhdr
                              rcases HR.out with ⟨rfl, O3, h3⟩ | ⟨rfl, O3, hx3⟩
                              · have HS3 : Hid (∃ O, ISt J W0 l Bc (((((((many (headPs L.s) ++ letsX L L.lets.n) ++ cropsX L L.crops.n) ++ reachesX L L.reaches.n) ++ farmsX L L.farms.n) ++ rotsX L L.rots.n) ++ rightsX L L.rights.n) ++ dutiesX L (i + 1)).length O w3) := Lib.hid ⟨O3, by
                                  have e3 : (dutiesX L (i + 1)).length = (dutiesX L i).length + 1 := by rw [show dutiesX L (i + 1) = dutiesX L i ++ _ from range_flatMap_succ _ i, List.length_append]; rfl
                                  have e : (((((((many (headPs L.s) ++ letsX L L.lets.n) ++ cropsX L L.crops.n) ++ reachesX L L.reaches.n) ++ farmsX L L.farms.n) ++ rotsX L L.rots.n) ++ rightsX L L.rights.n) ++ dutiesX L (i + 1)).length = (((((((many (headPs L.s) ++ letsX L L.lets.n) ++ cropsX L L.crops.n) ++ reachesX L L.reaches.n) ++ farmsX L L.farms.n) ++ rotsX L L.rots.n) ++ rightsX L L.rights.n) ++ dutiesX L i).length + 1 := by simp only [List.length_append, e3]; omega
                                  rw [e]; exact h3⟩
                                clear h3 HR
                                go_wp2
                                first
                                | exact ⟨⟨i + 1, by omega, by go_num, HS3⟩, by simp [intOf]; omega⟩
                                | (refine ⟨?_, by simp [intOf]; omega⟩; (repeat apply @Exists.intro Value); exact ⟨⟨i + 1, by omega, by go_num, HS3⟩, rfl⟩)
                              · have HX3 := Lib.hid hx3
                                clear hx3
                                go_wp2
                                refine bodyPost_ret (results_none rfl _ _ _) rfl ?_
                                exact .inl ⟨⟨_, rfl⟩, .inr ⟨_, HX3.out⟩⟩
                            · have hin : i = L.duties.n := by omega
                              rw [hin] at HSr
                              have HS : Hid (∃ O, J X.length O wr) := Lib.hid (HSr.out.elim fun O h => ⟨O, by
                                have := h.j
                                rw [show (((((((many (headPs L.s) ++ letsX L L.lets.n) ++ cropsX L L.crops.n) ++ reachesX L L.reaches.n) ++ farmsX L L.farms.n) ++ rotsX L L.rots.n) ++ rightsX L L.rights.n) ++ dutiesX L L.duties.n).length = X.length by rw [HX.out]; unfold exprX; simp] at this
                                exact this⟩)
                              clear HSr hin HHr hbox
                              go_wp2
                              go_end0
                              exact .inl ⟨⟨_, rfl⟩, .inl HS.out⟩

end Go.Proofs.Ytapejaabhkfhjaa
