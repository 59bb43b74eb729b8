/- NameParts: the walk. -/
import Derived.Test.YtiopbhmohiggoaaDoorNamePartsPure
import Derived.Test.YtiopbhmohiggoaaDoorNameCuts
set_option linter.unusedVariables false
namespace Go.Proofs.YtiopbhmohiggoaaDoor
open Go.RowKit Go.Lib Go.Shelf Go.Proofs.YtiopbhmohiggoaaDoorW.PrintWords
set_option maxHeartbeats 4000000
set_option maxRecDepth 100000

theorem So.shape {w : World} {base : Nat} {v : Value} {l : List ByteArray} (h : So w base v l) : ∃ A c, v = .slice A l.length c ∧ l.length ≤ c ∧ l.length ≤ 9223372036854775807 := by
  rcases h.2 with ⟨rfl, h0⟩ | ⟨g, cap, cur, rfl, hg, hh, hn, hm, hc⟩
  · rw [h0]; exact ⟨none, 0, rfl, Nat.le_refl _, by decide⟩
  · exact ⟨_, _, rfl, hn, by simp only [maxLen] at hm; omega⟩
theorem So.at {w : World} {base : Nat} {A : Option Addr} {n c : Nat} {l : List ByteArray} (h : So w base (.slice A n c) l) (j : Nat) (x : ByteArray) (hx : l[j]? = some x) : ∃ g, A = some ⟨g, 0, none⟩ ∧ w.cell? ⟨g, j, none⟩ = some (.string x) := by
  rcases h.2 with ⟨h1, h0⟩ | ⟨g, cap, cur, h1, hg, hh, hn, hm, hc⟩
  · have : l = [] := List.eq_nil_of_length_eq_zero h0
    subst this
    simp at hx
  · injection h1 with h1 h2 h3
    subst h1
    subst h3
    have hl : n = l.length := h2
    subst hl
    refine ⟨g, rfl, ?_⟩
    have := World.ownsRow.cells h (g := g) rfl j (.string x) (by simp [hx])
    rw [Addr.add_lit, Nat.zero_add] at this
    exact this

theorem parts_eq (s : ByteArray) (c : Int) (L : List ByteArray) (hL : L.map (fun x => x.data.toList) = splitC c [] (CH s)) : L.map (fun x => x.data.toList) = (splitP c [] (CH s)).map flat := by
  rw [hL]
  exact splitC_eq c (CH s) []
theorem part_facts (s : ByteArray) (c : Int) (L : List ByteArray) (hL : L.map (fun x => x.data.toList) = splitC c [] (CH s)) (i : Nat) (x : ByteArray) (hx : L[i]? = some x) : x.size ≤ s.size ∧ ∀ q ∈ CH x, (q.2 : Int) ≠ c := by
  have h1 := parts_eq s c L hL
  have h2 : ((splitP c [] (CH s)).map flat)[i]? = some x.data.toList := by rw [← h1, List.getElem?_map, hx]; rfl
  rw [List.getElem?_map, Option.map_eq_some_iff] at h2
  obtain ⟨Q, hQ, hf⟩ := h2
  have hm := List.mem_of_getElem? hQ
  obtain ⟨X, Y, hxy⟩ := splitP_mid c (CH s) [] [] Q hm
  constructor
  · have h3 : s.data.toList = flat (CH s) := (chunks_flat _).symm
    have h4 : CH s = X ++ Q ++ Y := hxy
    rw [h4, flat_append, flat_append, hf] at h3
    have h5 := congrArg List.length h3
    rw [List.length_append, List.length_append, slen, slen] at h5
    omega
  · have h3 : CH x = Q := by
      unfold CH
      rw [← hf]
      exact part_chunks _ c Q hm
    rw [h3]
    exact splitP_no c (CH s) [] (fun _ h => by simp at h) Q hm
theorem parts_sum (s : ByteArray) (c : Int) (L : List ByteArray) (hL : L.map (fun x => x.data.toList) = splitC c [] (CH s)) : (L.map fun x => (CH x).length).sum + L.length = (CH s).length + 1 ∧ 0 < L.length := by
  have h1 := parts_eq s c L hL
  have h2 : L.map (fun x => (CH x).length) = (splitP c [] (CH s)).map List.length := by
    have h3 := congrArg (List.map fun l => (chunks l).length) h1
    rw [List.map_map, List.map_map] at h3
    have h4 : (splitP c [] (CH s)).map ((fun l => (chunks l).length) ∘ flat) = (splitP c [] (CH s)).map List.length := by
      apply List.map_congr_left
      intro Q hQ
      show (chunks (flat Q)).length = Q.length
      rw [part_chunks _ c Q hQ]
    rw [h4] at h3
    exact h3
  have h5 := splitP_sum c (CH s) []
  have h6 : L.length = (splitP c [] (CH s)).length := by
    have := congrArg List.length h1
    rw [List.length_map, List.length_map] at this
    exact this
  have h7 : 0 < (splitP c [] (CH s)).length := List.length_pos_iff.2 (splitP_ne c (CH s) [])
  rw [h2, h6]
  simp only [List.length_nil] at h5
  omega
theorem take_sum (l : List Nat) (i : Nat) (x : Nat) (h : l[i]? = some x) : (l.take (i + 1)).sum = (l.take i).sum + x := by
  rw [List.take_add_one, h, List.sum_append]; simp
theorem take_le (l : List Nat) (i : Nat) : (l.take i).sum ≤ l.sum := by
  conv => rhs; rw [← List.take_append_drop i l, List.sum_append]
  omega

theorem parts_any (s : ByteArray) (c n : Int) (w : World) (ht : Tabs w) :
    Calls Tryd.prog 8 #[.string s, .int .i32 c, .int .i64 n] w fun e w' => e = .returned (.bool true) ∧ Ext w w' := by
  go_enter Tryd.func8, Tryd.ntmps8
  go_wp2_with (go_at_call 9; refine (awake_any _ ht).mono ?_)
  rintro e w1 ⟨rfl, x1⟩
  by_cases h : s.size ≤ 200
  · have q1 : ¬ (200 < s.size) := by omega
    go_wp2_with fail
    refine (split_any s c _ (by omega)).mono ?_
    rintro e w2 ⟨v, L, rfl, hS, hL, x2⟩
    obtain ⟨hsum, hpos⟩ := parts_sum s c L hL
    have hfact := part_facts s c L hL
    have x12 := x1.trans x2
    obtain ⟨A, cp, rfl, hLc, hLm⟩ := hS.shape
    obtain ⟨m, Hm⟩ : ∃ m, Hid (L.length = m) := ⟨_, Lib.hid rfl⟩
    rw [Hm.out] at hsum hpos hLc hLm hS ⊢
    clear hL
    obtain ⟨N, HN⟩ : ∃ N, Hid ((CH s).length = N) := ⟨_, Lib.hid rfl⟩
    rw [HN.out] at hsum
    have hNs : N ≤ s.size := by rw [← HN.out]; exact CH_length s
    obtain ⟨l, Hl⟩ : ∃ l : List Nat, Hid (L.map (fun x => (CH x).length) = l) := ⟨_, Lib.hid rfl⟩
    rw [Hl.out] at hsum
    go_wp2_with fail
    go_loopw [8, 9] (fun av iv wr => ∃ (i all : Nat), av = Value.int .i64 all ∧ iv = Value.int .i64 i ∧ Ext w2 wr ∧ i ≤ m ∧ all = (l.take i).sum) (fun _ iv _ => m - (intOf iv).toNat)
    case atStart => exact ⟨0, 0, rfl, rfl, Ext.refl _, Nat.zero_le _, rfl⟩
    case round =>
      obtain ⟨i, all, rfl, rfl, hx, hi, hall⟩ := hrel
      by_cases hlt : i < m
      · obtain ⟨x, hxi⟩ : ∃ x, L[i]? = some x := ⟨_, List.getElem?_eq_getElem (by rw [Hm.out]; exact hlt)⟩
        obtain ⟨hxs, hno⟩ := hfact i x hxi
        obtain ⟨g, rfl, hc⟩ := hS.at i x hxi
        have hc2 := hx.cell hc
        have hli : l[i]? = some (CH x).length := by rw [← Hl.out, List.getElem?_map, hxi]; rfl
        have hts := take_sum l i _ hli
        have htl := take_le l (i + 1)
        go_wp2_with fail
        refine (len_any x _ (by omega)).mono ?_
        rintro e w3 ⟨rfl, x3⟩
        have hc3 := x3.cell hc2
        have hx3 := hx.trans x3
        go_wp2_with fail
        go_loopw [11] (fun _ W => ∃ pos : Nat, W.heap[w3.heap.size]? = some (.stringIter x pos) ∧ Ext w3 W ∧ pos ≤ x.size ∧ ∀ q ∈ rest x pos, (q.2 : Int) ≠ c) (fun _ W => x.size - W.iterPos w3.heap.size)
        case atStart =>
          refine ⟨0, ?_, (Ext.refl w3).alloc _, Nat.zero_le _, hno⟩
          have := World.iter_heap w3 x 0
          simpa using this
        case round =>
          obtain ⟨pos, hit, hbw, hps, hq⟩ := hrel
          by_cases hp : pos < x.size
          · have hnx : ∀ ty, (Instr.next (.pointer (some ⟨w3.heap.size, 0, none⟩)) true ty).run Tryd.prog wr = _ := fun ty => Lib.run_next_any_at wr w3.heap.size x pos ty hit hp
            have hwd := width x pos hp
            have hwl := width_le x pos hp
            have hit2 := Lib.iterAt_heap wr w3.heap.size x pos (pos + (Utf8.decode x pos).2) hit
            have hbw2 : Ext w3 (wr.iterAt w3.heap.size x (pos + (Utf8.decode x pos).2)) := Lib.below_iterAt hbw (k := w3.heap.size) (Nat.le_refl _) x (pos + (Utf8.decode x pos).2)
            rw [rest_step x pos hp] at hq
            have hne : ¬ (((Utf8.decode x pos).1 : Int) = c) := hq _ List.mem_cons_self
            go_wp2_with fail
            go_roundw
            case rel => exact ⟨pos + (Utf8.decode x pos).2, hit2, hbw2, hwl, fun q h => hq q (List.mem_cons_of_mem _ h)⟩
            case measure =>
              simp only [World.iterPos, hit2, hit]
              omega
          · have hnx : ∀ ty, (Instr.next (.pointer (some ⟨w3.heap.size, 0, none⟩)) true ty).run Tryd.prog wr = _ := fun ty => Lib.run_next_end_at wr w3.heap.size x pos ty hit hp
            go_wp2_with fail
            go_roundw
            case rel => exact ⟨i + 1, all + (CH x).length, by simp [hall], by simp, hx3.trans hbw, by omega, by omega⟩
            case measure => simp [intOf]; omega
      · have him : i = m := by omega
        subst him
        have hln : l.length = i := by rw [← Hl.out, List.length_map, Hm.out]
        rw [List.take_of_length_le (by omega)] at hall
        have hyx := x12.trans hx
        go_wp2_with fail
        refine (cut_any s n _ (by omega)).mono ?_
        rintro e w4 ⟨⟨C, rfl, hC⟩, x4⟩
        obtain ⟨c1, c2, c3, c4⟩ := cut_back s C n hC
        have kC := fun W => len_any C W (by omega)
        have kS := fun W => len_any s W (by omega)
        rw [HN.out] at kS
        have hcl : (CH C).length = min n.toNat N := by rw [c3, List.length_take, HN.out]
        obtain ⟨M, HM⟩ : ∃ M, Hid ((CH C).length = M) := ⟨_, Lib.hid rfl⟩
        rw [HM.out] at kC hcl
        have hy4 := hyx.trans x4
        clear c2 c3 c4
        have hE : s.extract 0 C.size = C := by
          apply bytes_ext
          rw [extract_list, List.drop_zero, Nat.sub_zero, hC]
          have hsz : C.size = (flat ((CH s).take n.toNat)).length := by rw [← slen, hC]; rfl
          rw [hsz, cutL]
          exact taken s n.toNat _ rfl
        have Hall2 : Hid ((all : Int) + (i : Int) - 1 = (N : Int)) := Lib.hid (by omega)
        have HE := Lib.hid hE
        have hb1 : all ≤ 200 := by omega
        have hb2 : i ≤ 201 := by omega
        have hb3 : 1 ≤ i := by omega
        clear hall hC hE hsum
        have Hcl := Lib.hid hcl
        clear hcl
        by_cases qn : n < 0
        · have hM0 : M = 0 := by have := Hcl.out; omega
          subst hM0
          go_wp2_with fail
          refine (kS _).mono ?_
          rintro e w5 ⟨rfl, x5⟩
          have hy5 := hy4.trans x5
          go_wp2_with fail
          refine (kS _).mono ?_
          rintro e w6 ⟨rfl, x6⟩
          go_wp2_with fail
          rotate_left
          · rename_i hb
            exact absurd (congrArg ByteArray.toList HE.out) hb
          refine (kC _).mono ?_
          rintro e w7 ⟨rfl, x7⟩
          go_wp2_with fail
          go_ret
          exact ⟨rfl, hy5.trans (x6.trans x7)⟩
        · by_cases qN : (N : Int) < n
          · have hM0 : M = N := by have := Hcl.out; omega
            subst hM0
            go_wp2_with fail
            refine (kS _).mono ?_
            rintro e w5 ⟨rfl, x5⟩
            go_wp2_with fail
            refine (kS _).mono ?_
            rintro e w55 ⟨rfl, x55⟩
            have hy5 := hy4.trans (x5.trans x55)
            go_wp2_with fail
            refine (kS _).mono ?_
            rintro e w6 ⟨rfl, x6⟩
            go_wp2_with fail
            rotate_left
            · rename_i hb
              exact absurd (congrArg ByteArray.toList HE.out) hb
            refine (kC _).mono ?_
            rintro e w7 ⟨rfl, x7⟩
            go_wp2_with fail
            go_ret
            exact ⟨rfl, hy5.trans (x6.trans x7)⟩
          · have hM0 : (M : Int) = n := by have := Hcl.out; omega
            subst hM0
            go_wp2_with fail
            refine (kS _).mono ?_
            rintro e w5 ⟨rfl, x5⟩
            have hy5 := hy4.trans x5
            go_wp2_with fail
            refine (kS _).mono ?_
            rintro e w6 ⟨rfl, x6⟩
            go_wp2_with fail
            rotate_left
            · rename_i hb
              exact absurd (congrArg ByteArray.toList HE.out) hb
            refine (kC _).mono ?_
            rintro e w7 ⟨rfl, x7⟩
            go_wp2_with fail
            go_ret
            exact ⟨rfl, hy5.trans (x6.trans x7)⟩
  · go_wp2_with fail
    all_goals go_ret
    all_goals exact ⟨rfl, x1⟩
end Go.Proofs.YtiopbhmohiggoaaDoor
