/- The reference's ParseGraph, whole. -/
import Derived.Test.YteabfdcobkgmmaaDoorPgS
namespace Go.Proofs.YteabfdcobkgmmaaDoor.PgT
open Go.RowKit Go.Proofs.YteabfdcobkgmmaaDoor.PFnExactParseGraph Go.Proofs.YteabfdcobkgmmaaDoorW.PrintWords Go.Proofs.YteabfdcobkgmmaaDoorW.PrintLast Go.Proofs.YteabfdcobkgmmaaDoor.Bit Go.Proofs.YteabfdcobkgmmaaDoor.Gra Go.Proofs.YteabfdcobkgmmaaDoor.LemFnExactParseGraph Go.Proofs.YteabfdcobkgmmaaDoor.PgB Go.Proofs.YteabfdcobkgmmaaDoor.PgS
set_option linter.unusedVariables false
set_option linter.unusedSimpArgs false
theorem size_f (v : Int) : spec_grSize.f v = some (decide (1 ≤ v ∧ v ≤ 16)) := by
  unfold spec_grSize.f
  rw [l1In_f]
  simp only [bs]
theorem sj2 (s : ByteArray) (h t : List UInt8) (ht : t.length ≤ 2000) (own : Bool) (x5 : ByteArray) (k : Nat) (hk : 20000 ≤ k) : ∃ r, spec_grParse.j2 k s ([h, t].map B) x5 own = some r ∧ Ok s r := by
  obtain ⟨k, rfl⟩ : ∃ q, k = q + 1 := ⟨k - 1, by omega⟩
  obtain ⟨v, hv⟩ := read_any x5 k (by omega)
  rw [spec_grParse.j2, hv]
  simp only [bs]
  rw [size_f]
  simp only [bs]
  by_cases g : 1 ≤ v ∧ v ≤ 16
  · rw [decide_eq_true g, if_pos rfl]
    obtain ⟨n, rfl⟩ := Int.eq_ofNat_of_zero_le (show 0 ≤ v by omega)
    rw [if_pos (by omega), Int.toNat_natCast, if_pos (by omega), zs_zeros]
    simp only [bs, if_pos (g4 h t)]
    rw [r1 h t]
    by_cases hd : (B t).toList = [45]
    · rw [if_pos hd]
      exact sj4 s _ own k (by omega)
    · rw [if_neg hd, split_f t 44 (by omega) k (by omega) 44 rfl]
      simp only [bs]
      have hl := spl_len 44 t
      exact sloop s own _ (fun w hw => by
        obtain ⟨x, hx, rfl⟩ := List.mem_map.1 hw
        have := spl_piece 44 t x hx
        rw [B_size]; omega) (by rw [List.length_map]; omega) ((spl 44 t).map B).length 0 k _ (by omega) (by rw [List.length_map]; omega) (by rw [List.length_replicate]; omega) (by rw [List.length_replicate]; omega) (zero_lt n)
  · rw [decide_eq_false g, if_neg (by decide)]; exact ⟨_, rfl, .inl rfl⟩
theorem sj1 (s : ByteArray) (h t : List UInt8) (ht : t.length ≤ 2000) (own : Bool) (x5 : ByteArray) (h5 : own = true → 1 ≤ x5.size) (h6 : x5.size ≤ 2000) (k : Nat) (hk : 20001 ≤ k) : ∃ r, spec_grParse.j1 k s ([h, t].map B) x5 own = some r ∧ Ok s r := by
  obtain ⟨k, rfl⟩ : ∃ q, k = q + 1 := ⟨k - 1, by omega⟩
  rw [spec_grParse.j1]
  cases own with
  | true =>
    have := h5 rfl
    have e : wrap64 ((x5.size : Int) - 1) = (x5.size : Int) - 1 := by unfold wrap64; omega
    rw [if_pos rfl, e, if_pos (by omega), if_pos (by omega)]
    exact sj2 s h t ht true _ k (by omega)
  | false =>
    rw [if_neg (by decide)]
    exact sj2 s h t ht false _ k (by omega)
theorem sj0 (s : ByteArray) (h t : List UInt8) (hh : h.length ≤ 2000) (ht : t.length ≤ 2000) (k : Nat) (hk : 20002 ≤ k) : ∃ r, spec_grParse.j0 k s ([h, t].map B) false = some r ∧ Ok s r := by
  obtain ⟨k, rfl⟩ : ∃ q, k = q + 1 := ⟨k - 1, by omega⟩
  rw [spec_grParse.j0, if_neg (by decide)]
  simp only [if_pos (g3 h t), r0, B_size]
  by_cases h0 : (h.length : Int) > 0
  · have e : wrap64 ((h.length : Int) - 1) = (h.length : Int) - 1 := by unfold wrap64; omega
    rw [if_pos h0, e, if_pos (by omega), if_pos (by omega)]
    exact sj1 s h t ht _ _ (fun _ => by rw [B_size]; omega) (by rw [B_size]; exact hh) k (by omega)
  · rw [if_neg h0]
    exact sj1 s h t ht _ _ (fun q => by cases q) (by rw [B_size]; exact hh) k (by omega)
theorem sTot (s : ByteArray) (hs : s.size ≤ 1048576) (k : Nat) (hk : 5000000 ≤ k) : ∃ r, spec_grParse.f k s = some r ∧ Ok s r := by
  have hl : s.data.toList.length ≤ 1048576 := by rw [← Lib.size_eq]; exact hs
  have no : ∀ p, ∃ r, spec_grParse.j0 k s p true = some r ∧ Ok s r := by
    intro p
    obtain ⟨k, rfl⟩ : ∃ q, k = q + 1 := ⟨k - 1, by omega⟩
    rw [spec_grParse.j0, if_pos rfl]; exact ⟨_, rfl, .inl rfl⟩
  have sp := split_f s.data.toList 58 (by omega) k (by omega) 58 rfl
  rw [B_of] at sp
  unfold spec_grParse.f
  rw [sp]
  simp only [bs]
  by_cases h1 : (s.size : Int) > 1000
  · rw [if_pos h1]; exact no _
  · rw [if_neg h1]
    by_cases h2 : (((spl 58 s.data.toList).map B).length : Int) = 2
    · obtain ⟨x, y, e⟩ := two_of h2
      have hx := spl_piece 58 s.data.toList x (by rw [e]; simp)
      have hy := spl_piece 58 s.data.toList y (by rw [e]; simp)
      rw [← Lib.size_eq] at hx hy
      rw [e, show ((([x, y].map B).length : Int) != 2) = false from rfl]
      exact sj0 s x y (by omega) (by omega) k (by omega)
    · rw [show ((((spl 58 s.data.toList).map B).length : Int) != 2) = true from bne_iff_ne.2 h2]
      exact no _
theorem dec_plus : ∀ n : Nat, n ≤ 16 → (43 : UInt8) ∉ dec n := by
  have h : (List.range 17).all (fun n => decide ((43 : UInt8) ∉ dec n)) = true := by kernel_rfl
  intro n hn
  exact of_decide_eq_true (List.all_eq_true.1 h n (List.mem_range.2 (by omega)))
theorem sAcc (m : List Nat) (hm : Gra.Good m) (own : Bool) (s : ByteArray) (hs : s.data.toList = txt m.length own (eOut m m.length)) (k : Nat) (hk : 5000000 ≤ k) : spec_grParse.f k s = some (zs m, own, true) := by
  have h1 := hm.pos
  have h16 := hm.le
  have hE := eOut_edge m m.length (Nat.le_refl _)
  have hfew := eOut_few m m.length
  have hfew2 : (eOut m m.length).length ≤ 128 := by
    have : m.length * m.length ≤ 16 * 16 := Nat.mul_le_mul h16 h16
    omega
  have htl := txt_len m.length own (eOut m m.length)
  have hbl := body_len (eOut m m.length)
  have hdl := dec_len m.length
  have hsz : s.size ≤ 1000 := by rw [Lib.size_eq, hs]; omega
  obtain ⟨k, rfl⟩ : ∃ q, k = q + 3 := ⟨k - 3, by omega⟩
  have sp := split_f s.data.toList 58 (by rw [← Lib.size_eq]; omega) (k + 3) (by rw [← Lib.size_eq]; omega) 58 rfl
  rw [B_of, hs, spl_txt m.length h16 own _ hE] at sp
  have J : ∀ k, 2000 ≤ k → spec_grParse.j4 k s (zs (addEs (List.replicate m.length 0) (eOut m m.length))) own = some (zs m, own, true) := by
    intro k hk
    rw [fold_eOut m hm]
    exact sj4_acc s m hm own hs k hk
  have j2 : spec_grParse.j2 (k + 1) s ([dec m.length ++ (if own = true then [43] else []), body (eOut m m.length)].map B) (B (dec m.length)) own = some (zs m, own, true) := by
    rw [spec_grParse.j2, read_dec m.length h16 k (by omega)]
    simp only [bs]
    rw [size_f]
    simp only [bs]
    rw [decide_eq_true (show 1 ≤ (m.length : Int) ∧ (m.length : Int) ≤ 16 by omega), if_pos rfl, if_pos (by omega), Int.toNat_natCast, if_pos (by omega), zs_zeros]
    simp only [bs, if_pos (g4 _ (body (eOut m m.length)))]
    rw [r1, Lib.toList_data, B_list]
    by_cases h0 : (eOut m m.length).length = 0
    · rw [if_pos (by unfold body; rw [if_pos h0])]
      have := J k (by omega)
      rw [List.length_eq_zero_iff.1 h0] at this
      exact this
    · rw [if_neg (body_ne m.length h16 _ hE h0), split_f _ 44 (by omega) k (by omega) 44 rfl]
      simp only [bs]
      have e : spl 44 (body (eOut m m.length)) = (eOut m m.length).map tx := by
        unfold body; rw [if_neg h0]; exact spl_jn m.length h16 _ hE h0
      rw [e, List.map_map]
      have := sloop_acc s own m.length h1 h16 (eOut m m.length) hE (by omega) _ J (eOut m m.length).length 0 k (by omega) (by omega)
      rw [List.take_zero] at this
      rw [List.length_map]
      exact this
  have hdne := (dec_free m.length h16).2.2.2
  have hdp : 0 < (dec m.length).length := List.length_pos_iff.2 hdne
  unfold spec_grParse.f
  rw [sp]
  simp only [bs]
  rw [if_neg (by omega), show ((([dec m.length ++ (if own = true then [43] else []), body (eOut m m.length)].map B).length : Int) != 2) = false from rfl, spec_grParse.j0, if_neg (by decide)]
  simp only [if_pos (g3 _ (body (eOut m m.length))), r0, B_size]
  cases own with
  | true =>
    simp only [if_true] at j2 ⊢
    have hlen : (dec m.length ++ [(43 : UInt8)]).length = (dec m.length).length + 1 := by rw [List.length_append]; rfl
    have e : wrap64 (((dec m.length ++ [(43 : UInt8)]).length : Int) - 1) = ((dec m.length).length : Int) := by rw [hlen]; unfold wrap64; omega
    have hb : bt (B (dec m.length ++ [43])) ((dec m.length).length : Int) = 43 := by
      rw [bt_B _ _ (by rw [hlen]; omega), List.getElem_append_right (Nat.le_refl _)]
      simp
    rw [if_pos (by rw [hlen]; omega), e, if_pos (by omega), if_pos (by rw [hlen]; omega), hb, show ((43 : Int) == 43) = true from rfl, spec_grParse.j1, if_pos rfl, B_size, e, if_pos (by omega), if_pos (by rw [hlen]; omega), Int.toNat_natCast, cut_B, List.drop_zero, Nat.sub_zero, List.take_left' rfl]
    exact j2
  | false =>
    simp only [Bool.false_eq_true, if_false, List.append_nil] at j2 ⊢
    have e : wrap64 (((dec m.length).length : Int) - 1) = (((dec m.length).length - 1 : Nat) : Int) := by unfold wrap64; omega
    have hb : (bt (B (dec m.length)) (((dec m.length).length - 1 : Nat) : Int) == 43) = false := by
      rw [bt_B _ _ (by omega)]
      rw [beq_eq_false_iff_ne]
      intro q
      have q2 : (dec m.length)[(dec m.length).length - 1] = 43 := UInt8.toNat_inj.1 (by
        have : (43 : UInt8).toNat = 43 := rfl
        omega)
      exact dec_plus m.length h16 (q2 ▸ List.getElem_mem _)
    rw [if_pos (by omega), e, if_pos (by omega), if_pos (by omega), hb, spec_grParse.j1, if_neg (by decide)]
    exact j2
end Go.Proofs.YteabfdcobkgmmaaDoor.PgT
