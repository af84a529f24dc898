/- The program's ParseGraph: each text gets an answer; what it takes is the text of the graph that it gives; it takes each graph's text. -/
import Derived.Test.YteabfdcobkgmmaaDoorPgT
namespace Go.Proofs.YteabfdcobkgmmaaDoor.PgI
open Go.RowKit Go.Proofs.YteabfdcobkgmmaaDoor.PFnExactParseGraph Go.Proofs.YteabfdcobkgmmaaDoorW.PrintWords Go.Proofs.YteabfdcobkgmmaaDoorW.PrintLast Go.Proofs.YteabfdcobkgmmaaDoor.Bit Go.Proofs.YteabfdcobkgmmaaDoor.Gra Go.Proofs.YteabfdcobkgmmaaDoor.LemFnExactParseGraph Go.Proofs.YteabfdcobkgmmaaDoor.PgB Go.Proofs.YteabfdcobkgmmaaDoor.PgS
set_option linter.unusedVariables false
set_option linter.unusedSimpArgs false
/-- An edge between two of n buttons. -/
def Ed (n : Nat) (e : List Int) : Prop := ∃ a b : Nat, e = [(a : Int), (b : Int)] ∧ a < n ∧ b < n ∧ a ≠ b
theorem Ed.edge {n : Nat} {e : List Int} (h : Ed n e) : LemFnExactParseGraph.Edge n e := by
  obtain ⟨a, b, h, ha, hb, _⟩ := h
  exact ⟨a, b, h, ha, hb⟩
theorem two_of_int {e : List Int} (h : (e.length : Int) = 2) : ∃ a b, e = [a, b] := by
  match e, h with
  | [a, b], _ => exact ⟨a, b, rfl⟩
  | [], h => simp at h
  | [_], h => simp at h
  | _ :: _ :: _ :: _, h => simp at h; omega
theorem igof_l (es : List (List Int)) (hl : es.length ≤ 200) (n : Nat) (hn : 1 ≤ n) (hn2 : n ≤ 16) (own : Bool) :
    ∀ d i k, i + d = es.length → d + 10 < k → (∀ e ∈ es.take i, Ed n e) →
      ∃ r, impl_GraphOf.l0 k (n : Int) es (es.length : Int) (i : Int) (zs (addEs (List.replicate n 0) (es.take i))) own = some r ∧ ((∀ e ∈ es, Ed n e) → r = (zs (addEs (List.replicate n 0) es), own, true)) ∧ (¬ (∀ e ∈ es, Ed n e) → r = ([], false, false)) := by
  intro d
  induction d with
  | zero =>
    intro i k hi hk hE
    obtain ⟨k, rfl⟩ : ∃ m, k = m + 1 := ⟨k - 1, by omega⟩
    rw [List.take_of_length_le (by omega)] at hE ⊢
    rw [impl_GraphOf.l0, if_neg (by omega)]
    exact ⟨_, rfl, fun _ => rfl, fun h => absurd hE h⟩
  | succ d ih =>
    intro i k hi hk hE
    obtain ⟨k, rfl⟩ : ∃ m, k = m + 1 := ⟨k - 1, by omega⟩
    have hlt : i < es.length := by omega
    have en : wrap64 ((n : Int) - 1) = (n : Int) - 1 := by unfold wrap64; omega
    have e : rd_L2 es (i : Int) = es[i] := by
      unfold rd_L2
      rw [Int.toNat_natCast, List.getD_eq_getElem?_getD, List.getElem?_eq_getElem hlt]; rfl
    have hlen : (addEs (List.replicate n 0) (es.take i)).length = n := by rw [addEs_length, List.length_replicate]
    have hb16 : ∀ j, nth (addEs (List.replicate n 0) (es.take i)) j < 2 ^ 16 := addEs_lt _ _ (by rw [List.length_replicate]; exact hn2) (fun e h => by rw [List.length_replicate]; exact (hE e h).edge) (zero_lt n)
    have out : ¬ Ed n es[i] → ∃ r, some (([] : List Int), false, false) = some r ∧ ((∀ e ∈ es, Ed n e) → r = (zs (addEs (List.replicate n 0) es), own, true)) ∧ (¬ (∀ e ∈ es, Ed n e) → r = ([], false, false)) :=
      fun h => ⟨_, rfl, fun q => absurd (q _ (List.getElem_mem hlt)) h, fun _ => rfl⟩
    rw [impl_GraphOf.l0, if_pos (by omega), if_pos (by omega), if_pos (by omega), e, en]
    by_cases h2 : (es[i].length : Int) = 2
    · obtain ⟨a, b, ee⟩ := two_of_int h2
      have g1 : (0 : Int) < (es[i].length : Int) := by rw [h2]; decide
      have g2 : (1 : Int) < (es[i].length : Int) := by rw [h2]; decide
      have e0 : rd es[i] 0 = a := by rw [ee]; rfl
      have e1 : rd es[i] 1 = b := by rw [ee]; rfl
      rw [if_pos h2, if_pos g1, e0, e1, in_f, in_f]
      simp only [bs]
      by_cases ha : 0 ≤ a ∧ a ≤ (n : Int) - 1
      · rw [decide_eq_true ha, if_pos rfl, if_pos g2]
        by_cases hb : 0 ≤ b ∧ b ≤ (n : Int) - 1
        · rw [decide_eq_true hb, if_pos rfl]
          obtain ⟨a, rfl⟩ := Int.eq_ofNat_of_zero_le ha.1
          obtain ⟨b, rfl⟩ := Int.eq_ofNat_of_zero_le hb.1
          by_cases hab : (a : Int) = (b : Int)
          · rw [if_pos hab]
            refine out ?_
            rintro ⟨x, y, h, _, _, hxy⟩
            rw [ee] at h
            have := edge_inj.1 h
            omega
          · have hEd : Ed n es[i] := ⟨a, b, ee, by omega, by omega, by omega⟩
            have ihs := ih (i + 1) k (by omega) (by omega) (fun x hx => by
              rw [List.take_succ_eq_append_getElem hlt, List.mem_append, List.mem_singleton] at hx
              rcases hx with hx | rfl
              · exact hE x hx
              · exact hEd)
            rw [List.take_succ_eq_append_getElem hlt, addEs_snoc, e0, e1, Int.toNat_natCast, Int.toNat_natCast] at ihs
            rw [if_neg hab, iAdd_f _ own a b (by omega) (by omega) (by omega) hb16]
            simp only [bs]
            rw [show ((i : Int) + 1) = ((i + 1 : Nat) : Int) from rfl, wrapn _ (by omega)]
            exact ihs
        · rw [decide_eq_false hb, if_neg (by decide)]
          refine out ?_
          rintro ⟨x, y, h, hx, hy, _⟩
          rw [ee] at h
          simp only [List.cons.injEq, and_true] at h
          exact hb ⟨by omega, by omega⟩
      · rw [decide_eq_false ha, if_neg (by decide)]
        refine out ?_
        rintro ⟨x, y, h, hx, hy, _⟩
        rw [ee] at h
        simp only [List.cons.injEq, and_true] at h
        exact ha ⟨by omega, by omega⟩
    · rw [if_neg h2]
      refine out ?_
      rintro ⟨x, y, h, _⟩
      rw [h] at h2
      exact h2 rfl
/-- The program's GraphOf: a graph of the edges, or none. -/
theorem igof (v : Int) (es : List (List Int)) (own : Bool) (k : Nat) (hk : 300 ≤ k) : ∃ r, impl_GraphOf.f k v es own = some r ∧
    (r = ([], false, false) ∨ ∃ n : Nat, v = (n : Int) ∧ 1 ≤ n ∧ n ≤ 16 ∧ (∀ e ∈ es, Ed n e) ∧ r = (zs (addEs (List.replicate n 0) es), own, true)) := by
  obtain ⟨k, rfl⟩ : ∃ q, k = q + 1 := ⟨k - 1, by omega⟩
  have no : ∃ r, impl_GraphOf.j0 (k + 1) v es own true = some r ∧ (r = ([], false, false) ∨ ∃ n : Nat, v = (n : Int) ∧ 1 ≤ n ∧ n ≤ 16 ∧ (∀ e ∈ es, Ed n e) ∧ r = (zs (addEs (List.replicate n 0) es), own, true)) := by
    rw [impl_GraphOf.j0, if_pos rfl]; exact ⟨_, rfl, .inl rfl⟩
  unfold impl_GraphOf.f impl_isCount.f
  rw [in_f]
  simp only [bs]
  by_cases h : 1 ≤ v ∧ v ≤ 16
  · rw [decide_eq_true h, if_pos rfl]
    by_cases hl : es.length ≤ 200
    · obtain ⟨n, rfl⟩ := Int.eq_ofNat_of_zero_le (show 0 ≤ v by omega)
      rw [decide_eq_false (show ¬ ((es.length : Int) > 200) by omega), impl_GraphOf.j0, if_neg (by decide), if_pos (by omega), Int.toNat_natCast, if_pos (by omega), zs_zeros]
      obtain ⟨r, hr, h1, h2⟩ := igof_l es hl n (by omega) (by omega) own es.length 0 k (by omega) (by omega) (fun e h => by simp at h)
      refine ⟨r, hr, ?_⟩
      by_cases hE : ∀ e ∈ es, Ed n e
      · exact .inr ⟨n, rfl, by omega, by omega, hE, h1 hE⟩
      · exact .inl (h2 hE)
    · rw [decide_eq_true (show (es.length : Int) > 200 by omega)]; exact no
  · rw [decide_eq_false h, if_neg (by decide)]; exact no
theorem igof_acc (n : Nat) (hn : 1 ≤ n) (hn2 : n ≤ 16) (es : List (List Int)) (hl : es.length ≤ 200) (hE : ∀ e ∈ es, Ed n e) (own : Bool) (k : Nat) (hk : 300 ≤ k) : impl_GraphOf.f k (n : Int) es own = some (zs (addEs (List.replicate n 0) es), own, true) := by
  obtain ⟨k, rfl⟩ : ∃ q, k = q + 1 := ⟨k - 1, by omega⟩
  unfold impl_GraphOf.f impl_isCount.f
  rw [in_f]
  simp only [bs]
  rw [decide_eq_true (show 1 ≤ (n : Int) ∧ (n : Int) ≤ 16 by omega), if_pos rfl, decide_eq_false (show ¬ ((es.length : Int) > 200) by omega), impl_GraphOf.j0, if_neg (by decide), if_pos (by omega), Int.toNat_natCast, if_pos (by omega), zs_zeros]
  obtain ⟨r, hr, h1, h2⟩ := igof_l es hl n hn hn2 own es.length 0 k (by omega) (by omega) (fun e h => by simp at h)
  rw [h1 hE] at hr
  exact hr
theorem ij1 (s : ByteArray) (own : Bool) (v : Int) (es : List (List Int)) (k : Nat) (hk : 3000 ≤ k) : ∃ r, impl_ParseGraph.j1 k s own v es = some r ∧ Ok s r := by
  obtain ⟨k, rfl⟩ : ∃ q, k = q + 1 := ⟨k - 1, by omega⟩
  rw [impl_ParseGraph.j1]
  obtain ⟨r, hr, rfl | ⟨n, rfl, h1, h16, hE, rfl⟩⟩ := igof v es own k (by omega)
  · rw [hr]
    simp only [bs]
    rw [if_neg (by decide)]; exact ⟨_, rfl, .inl rfl⟩
  · rw [hr]
    have hm := good_fold n h1 h16 es hE
    simp only [bs, if_true]
    rw [iText _ hm own k (by omega)]
    simp only [bs]
    by_cases hs : (B (txt (addEs (List.replicate n 0) es).length own (eOut (addEs (List.replicate n 0) es) (addEs (List.replicate n 0) es).length))).toList = s.toList
    · rw [if_pos hs]
      rw [Lib.toList_data, Lib.toList_data, B_list] at hs
      exact ⟨_, rfl, .inr ⟨_, own, hm, rfl, hs.symm⟩⟩
    · rw [if_neg hs]; exact ⟨_, rfl, .inl rfl⟩
theorem ij1_acc (s : ByteArray) (m : List Nat) (hm : Gra.Good m) (own : Bool) (hs : s.data.toList = txt m.length own (eOut m m.length)) (k : Nat) (hk : 3000 ≤ k) : impl_ParseGraph.j1 k s own (m.length : Int) (eOut m m.length) = some (zs m, own, true) := by
  obtain ⟨k, rfl⟩ : ∃ q, k = q + 1 := ⟨k - 1, by omega⟩
  have hfew := eOut_few m m.length
  have h16 := hm.le
  have : m.length * m.length ≤ 16 * 16 := Nat.mul_le_mul h16 h16
  rw [impl_ParseGraph.j1, igof_acc m.length hm.pos h16 _ (by omega) (eOut_apart m) own k (by omega), fold_eOut m hm]
  simp only [bs, if_true]
  rw [iText m hm own k (by omega)]
  simp only [bs]
  rw [if_pos (by rw [Lib.toList_data, Lib.toList_data, B_list, hs])]
theorem cut_f (l p : List UInt8) (hl : l.length ≤ 2000000) : strings_Cut.f (B l) (B p) = some (B (Lib.cut l p).1, B (Lib.cut l p).2.1, (Lib.cut l p).2.2) := by
  unfold strings_Cut.f
  rw [if_pos (by rw [B_size]; exact hl), B_list, B_list]; rfl
theorem suf_f (l p : List UInt8) (hl : l.length ≤ 2000000) : strings_CutSuffix.f (B l) (B p) = some (B (Lib.trimSuffix l p), Lib.hasSuffix l p) := by
  unfold strings_CutSuffix.f
  rw [if_pos (by rw [B_size]; exact hl), B_list, B_list]; rfl
theorem split_f (l : List UInt8) (b : UInt8) (hl : l.length ≤ 2000000) : strings_Split.f (B l) (B [b]) = some ((spl b l).map B) := by
  unfold strings_Split.f
  rw [if_pos ⟨by rw [B_size]; exact hl, by rw [B_size]; exact Nat.le_refl _⟩, splitB_spl]
theorem atoi_any (l : List UInt8) (hl : l.length ≤ 2000000) : ∃ v o, strconv_Atoi.f (B l) = some (v, o) := by
  unfold strconv_Atoi.f
  rw [if_pos (by rw [B_size]; exact hl)]
  exact ⟨_, _, rfl⟩
theorem iloop (s rest : ByteArray) (own : Bool) (v : Int) (words : List ByteArray) (hw : ∀ w ∈ words, w.size ≤ 1100000) (hl : words.length ≤ 2000000) :
    ∀ d i k (es : List (List Int)), i + d = words.length → d + 5000 < k → es.length ≤ i → ∃ r, impl_ParseGraph.l0 k s rest own v es words (words.length : Int) (i : Int) = some r ∧ Ok s r := by
  intro d
  induction d with
  | zero =>
    intro i k es hi hk he
    obtain ⟨k, rfl⟩ : ∃ m, k = m + 1 := ⟨k - 1, by omega⟩
    rw [impl_ParseGraph.l0, if_neg (by omega)]
    exact ij1 s own v es k (by omega)
  | succ d ih =>
    intro i k es hi hk he
    obtain ⟨k, rfl⟩ : ∃ m, k = m + 1 := ⟨k - 1, by omega⟩
    have hlt : i < words.length := by omega
    obtain ⟨l, el, hll⟩ : ∃ l, words[i] = B l ∧ l.length ≤ 1100000 := ⟨_, (B_of _).symm, by have := hw _ (List.getElem_mem hlt); rwa [← Lib.size_eq]⟩
    rw [impl_ParseGraph.l0, if_pos (by omega), if_pos (by omega), if_pos (by omega), word_at words i hlt, el]
    by_cases h0 : rest.toList = [45]
    · rw [if_pos h0]; exact ij1 s own v es k (by omega)
    · have hc := cut_len l [45]
      obtain ⟨a, o1, h1⟩ := atoi_any (Lib.cut l [45]).1 (by omega)
      obtain ⟨b, o2, h2⟩ := atoi_any (Lib.cut l [45]).2.1 (by omega)
      rw [if_neg h0, c45, cut_f l [45] (by omega)]
      simp only [bs]
      rw [h1]
      simp only [bs]
      rw [h2]
      simp only [bs]
      by_cases q1 : o1.isNone = true
      · rw [if_pos q1]
        by_cases q2 : o2.isNone = true
        · rw [if_pos q2, if_pos (by omega), show ((i : Int) + 1) = ((i + 1 : Nat) : Int) from rfl, wrapn _ (by omega)]
          exact ih (i + 1) k _ (by omega) (by omega) (by rw [List.length_append, List.length_singleton]; omega)
        · rw [if_neg q2]; exact ⟨_, rfl, .inl rfl⟩
      · rw [if_neg q1]; exact ⟨_, rfl, .inl rfl⟩
theorem iTot (s : ByteArray) (hs : s.size ≤ 1048576) (k : Nat) (hk : 5000000 ≤ k) : ∃ r, impl_ParseGraph.f k s = some r ∧ Ok s r := by
  obtain ⟨l, rfl⟩ : ∃ l, s = B l := ⟨_, (B_of s).symm⟩
  rw [B_size] at hs
  have hc := cut_len l [58]
  have ht := trim_len (Lib.cut l [58]).1 [43]
  obtain ⟨v, o, h1⟩ := atoi_any (Lib.trimSuffix (Lib.cut l [58]).1 [43]) (by omega)
  unfold impl_ParseGraph.f
  rw [c58, c43, c44, cut_f l [58] (by omega)]
  simp only [bs]
  rw [suf_f _ [43] (by omega)]
  simp only [bs]
  rw [h1]
  simp only [bs]
  by_cases q1 : o.isNone = true
  · rw [if_pos q1, split_f _ 44 (by omega)]
    simp only [bs]
    have hp := spl_len 44 (Lib.cut l [58]).2.1
    exact iloop (B l) _ _ v _ (fun w hw => by
      obtain ⟨x, hx, rfl⟩ := List.mem_map.1 hw
      have := spl_piece 44 _ x hx
      rw [B_size]; omega) (by rw [List.length_map]; omega) ((spl 44 (Lib.cut l [58]).2.1).map B).length 0 k _ (by omega) (by rw [List.length_map]; omega) (Nat.le_refl _)
  · rw [if_neg q1]; exact ⟨_, rfl, .inl rfl⟩
theorem iloop_acc (s rest : ByteArray) (own : Bool) (n : Nat) (h16 : n ≤ 16) (es : List (List Int)) (hE : ∀ e ∈ es, LemFnExactParseGraph.Edge n e) (hl : es.length ≤ 2000) (hr : ¬ rest.toList = [45]) (R : List Int × Bool × Bool)
    (J : ∀ k, 3000 ≤ k → impl_ParseGraph.j1 k s own (n : Int) es = some R) :
    ∀ d i k, i + d = es.length → d + 5000 < k → impl_ParseGraph.l0 k s rest own (n : Int) (es.take i) (es.map fun e => B (tx e)) (es.length : Int) (i : Int) = some R := by
  intro d
  induction d with
  | zero =>
    intro i k hi hk
    obtain ⟨k, rfl⟩ : ∃ m, k = m + 1 := ⟨k - 1, by omega⟩
    rw [impl_ParseGraph.l0, if_neg (by omega), List.take_of_length_le (by omega)]
    exact J k (by omega)
  | succ d ih =>
    intro i k hi hk
    obtain ⟨k, rfl⟩ : ∃ m, k = m + 1 := ⟨k - 1, by omega⟩
    have hlt : i < es.length := by omega
    have hlm : i < (es.map fun e => B (tx e)).length := by rw [List.length_map]; exact hlt
    obtain ⟨_, _, a, b, he, ha, hb, ht, _⟩ := tx_free es[i] n h16 (hE _ (List.getElem_mem hlt))
    have htl := tx_len es[i]
    have ihs := ih (i + 1) k (by omega) (by omega)
    rw [List.take_succ_eq_append_getElem hlt, he] at ihs
    rw [impl_ParseGraph.l0, if_pos (by omega), if_pos (by omega), if_pos (by omega), word_at _ i hlm, List.getElem_map, if_neg hr, c45, cut_f _ [45] (by omega), ht, cut_at 45 _ _ (dec_free a (by omega)).2.2.1]
    simp only [bs]
    rw [dec_atoi a (by omega)]
    simp only [bs]
    rw [dec_atoi b (by omega)]
    simp only [bs, Option.isNone_none, if_true]
    rw [if_pos (by rw [List.length_take]; omega), show ((i : Int) + 1) = ((i + 1 : Nat) : Int) from rfl, wrapn _ (by omega)]
    exact ihs
theorem iAcc (m : List Nat) (hm : Gra.Good m) (own : Bool) (s : ByteArray) (hs : s.data.toList = txt m.length own (eOut m m.length)) (k : Nat) (hk : 5000000 ≤ k) : impl_ParseGraph.f k s = some (zs m, own, true) := by
  have h16 := hm.le
  have hE := eOut_edge m m.length (Nat.le_refl _)
  have hfew := eOut_few m m.length
  have hfew2 : (eOut m m.length).length ≤ 128 := by
    have : m.length * m.length ≤ 16 * 16 := Nat.mul_le_mul h16 h16
    omega
  have htl := txt_len m.length own (eOut m m.length)
  have hbl := body_len (eOut m m.length)
  have hdl := dec_len m.length
  have hsB : s = B (txt m.length own (eOut m m.length)) := by rw [← hs]; exact (B_of s).symm
  have J : ∀ k, 3000 ≤ k → impl_ParseGraph.j1 k s own (m.length : Int) (eOut m m.length) = some (zs m, own, true) := fun k hk => ij1_acc s m hm own hs k hk
  have rest : impl_ParseGraph.l0 k s (B (body (eOut m m.length))) own (m.length : Int) [] ((spl 44 (body (eOut m m.length))).map B) (((spl 44 (body (eOut m m.length))).map B).length : Int) 0 = some (zs m, own, true) := by
    by_cases h0 : (eOut m m.length).length = 0
    · have e : body (eOut m m.length) = [45] := by unfold body; rw [if_pos h0]
      obtain ⟨k, rfl⟩ : ∃ q, k = q + 1 := ⟨k - 1, by omega⟩
      have J' := J k (by omega)
      rw [List.length_eq_zero_iff.1 h0] at J'
      rw [e, show spl 44 [45] = [[45]] from rfl, impl_ParseGraph.l0, if_pos (by decide), if_pos (by decide), if_pos (by decide), if_pos (by rw [Lib.toList_data, B_list])]
      exact J'
    · have e : spl 44 (body (eOut m m.length)) = (eOut m m.length).map tx := by
        unfold body; rw [if_neg h0]; exact spl_jn m.length h16 _ hE h0
      have := iloop_acc s (B (body (eOut m m.length))) own m.length h16 (eOut m m.length) hE (by omega) (by rw [Lib.toList_data, B_list]; exact body_ne m.length h16 _ hE h0) _ J (eOut m m.length).length 0 k (by omega) (by omega)
      rw [e, List.map_map, List.length_map]
      exact this
  unfold impl_ParseGraph.f
  rw [c58, c43, c44]
  have hsB2 : s = B ((dec m.length ++ if own then [43] else []) ++ (58 :: body (eOut m m.length))) := hsB
  have hlen : ((dec m.length ++ if own then [43] else []) ++ (58 :: body (eOut m m.length))).length ≤ 2000000 := by
    rw [← txt_eq]; omega
  have hc : strings_Cut.f s (B [58]) = some (B (dec m.length ++ if own then [43] else []), B (body (eOut m m.length)), true) := by
    rw [hsB2, cut_f _ [58] hlen, cut_at 58 _ _ (head_free m.length h16 own)]
  have hdt := dec_trim m.length h16
  have hsf : strings_CutSuffix.f (B (dec m.length ++ if own then [43] else [])) (B [43]) = some (B (dec m.length), own) := by
    cases own with
    | true => rw [if_pos rfl, suf_f _ [43] (by rw [List.length_append, List.length_cons, List.length_nil]; omega), hdt.1, hdt.2.1]
    | false =>
      rw [if_neg (by decide), List.append_nil, suf_f _ [43] (by omega), hdt.2.2.1, hdt.2.2.2]
  rw [hc]
  simp only [bs]
  rw [hsf]
  simp only [bs]
  rw [dec_atoi m.length h16]
  simp only [bs, Option.isNone_none, if_true]
  rw [split_f _ 44 (by omega)]
  simp only [bs]
  exact rest
end Go.Proofs.YteabfdcobkgmmaaDoor.PgI
