/- The reference's ParseGraph: each text gets an answer; what it takes is the text of the graph that it gives; it takes each graph's text. -/
import Derived.Test.YteabfdcobkgmmaaDoorPgB
namespace Go.Proofs.YteabfdcobkgmmaaDoor.PgS
open Go.RowKit Go.Proofs.YteabfdcobkgmmaaDoor.PFnExactParseGraph Go.Proofs.YteabfdcobkgmmaaDoorW.PrintWords Go.Proofs.YteabfdcobkgmmaaDoorW.PrintLast Go.Proofs.YteabfdcobkgmmaaDoor.Bit Go.Proofs.YteabfdcobkgmmaaDoor.Gra Go.Proofs.YteabfdcobkgmmaaDoor.LemFnExactParseGraph Go.Proofs.YteabfdcobkgmmaaDoor.PgB
set_option linter.unusedVariables false
set_option linter.unusedSimpArgs false
/-- An answer is right: none, or a graph whose text it was. -/
def Ok (s : ByteArray) (r : List Int × Bool × Bool) : Prop := r = ([], false, false) ∨ ∃ m own, Gra.Good m ∧ r = (zs m, own, true) ∧ s.data.toList = txt m.length own (eOut m m.length)
theorem zs_zeros (n : Nat) : List.replicate n (0 : Int) = zs (List.replicate n 0) := by simp [zs]
theorem sj4 (s : ByteArray) (acc : List Nat) (own : Bool) (k : Nat) (hk : 2000 ≤ k) : ∃ r, spec_grParse.j4 k s (zs acc) own = some r ∧ Ok s r := by
  obtain ⟨k, rfl⟩ : ∃ q, k = q + 1 := ⟨k - 1, by omega⟩
  rw [spec_grParse.j4]
  unfold spec_grGood.f
  simp only [bs]
  cases hg : goodB (zs acc) with
  | false => rw [if_neg (by decide)]; exact ⟨_, rfl, .inl rfl⟩
  | true =>
    obtain ⟨m, e, hm⟩ := (goodB_isG _).1 hg
    rw [e]
    simp only [if_true]
    rw [sText m hm own k (by omega)]
    simp only [bs]
    by_cases hs : (B (txt m.length own (eOut m m.length))).toList = s.toList
    · rw [if_pos hs]
      rw [Lib.toList_data, Lib.toList_data, B_list] at hs
      exact ⟨_, rfl, .inr ⟨m, own, hm, rfl, hs.symm⟩⟩
    · rw [if_neg hs]; exact ⟨_, rfl, .inl rfl⟩
theorem sj4_acc (s : ByteArray) (m : List Nat) (hm : Gra.Good m) (own : Bool) (hs : s.data.toList = txt m.length own (eOut m m.length)) (k : Nat) (hk : 2000 ≤ k) : spec_grParse.j4 k s (zs m) own = some (zs m, own, true) := by
  obtain ⟨k, rfl⟩ : ∃ q, k = q + 1 := ⟨k - 1, by omega⟩
  have hg : goodB (zs m) = true := (goodB_isG _).2 ⟨m, rfl, hm⟩
  rw [spec_grParse.j4]
  unfold spec_grGood.f
  simp only [bs]
  rw [hg, if_pos rfl, sText m hm own k (by omega)]
  simp only [bs]
  rw [if_pos (by rw [Lib.toList_data, Lib.toList_data, B_list, hs])]
theorem two_of {l : List (List UInt8)} (h : ((l.map B).length : Int) = 2) : ∃ x y, l = [x, y] := by
  match l, h with
  | [x, y], _ => exact ⟨x, y, rfl⟩
  | [], h => simp at h
  | [_], h => simp at h
  | _ :: _ :: _ :: _, h => simp at h; omega
section
variable (x y : List UInt8)
theorem g2 : (([x, y].map B).length : Int) = 2 := rfl
theorem g3 : (0 : Int) < (([x, y].map B).length : Int) := by rw [g2]; decide
theorem g4 : (1 : Int) < (([x, y].map B).length : Int) := by rw [g2]; decide
theorem r0 : rdOf ByteArray.empty ([x, y].map B) 0 = B x := rfl
theorem r1 : rdOf ByteArray.empty ([x, y].map B) 1 = B y := rfl
end
theorem word_at (words : List ByteArray) (i : Nat) (h : i < words.length) : rdOf ByteArray.empty words (i : Int) = words[i] := by
  unfold rdOf
  rw [Int.toNat_natCast, List.getD_eq_getElem?_getD, List.getElem?_eq_getElem h]; rfl
theorem sloop (s : ByteArray) (own : Bool) (words : List ByteArray) (hw : ∀ w ∈ words, w.size ≤ 2000) (hl : words.length ≤ 2000000) :
    ∀ d i k (acc : List Nat), i + d = words.length → d + 5000 < k → 1 ≤ acc.length → acc.length ≤ 16 → (∀ j, nth acc j < 2 ^ 16) →
      ∃ r, spec_grParse.l0 k s words (words.length : Int) (i : Int) (zs acc) own = some r ∧ Ok s r := by
  intro d
  induction d with
  | zero =>
    intro i k acc hi hk _ _ _
    obtain ⟨k, rfl⟩ : ∃ m, k = m + 1 := ⟨k - 1, by omega⟩
    rw [spec_grParse.l0, if_neg (by omega)]
    exact sj4 s acc own k (by omega)
  | succ d ih =>
    intro i k acc hi hk h1 h16 hn
    obtain ⟨k, rfl⟩ : ∃ m, k = m + 1 := ⟨k - 1, by omega⟩
    have hlt : i < words.length := by omega
    obtain ⟨l, el, hll⟩ : ∃ l, words[i] = B l ∧ l.length ≤ 2000 := ⟨_, (B_of _).symm, by have := hw _ (List.getElem_mem hlt); rwa [← Lib.size_eq]⟩
    have ew : wrap64 ((acc.length : Int) - 1) = (acc.length : Int) - 1 := by unfold wrap64; omega
    rw [spec_grParse.l0, if_pos (by omega), if_pos (by omega), if_pos (by omega), word_at words i hlt, el, split_f l 45 (by omega) k (by omega) 45 rfl]
    simp only [bs]
    by_cases h2 : (((spl 45 l).map B).length : Int) = 2
    · obtain ⟨x, y, e⟩ := two_of h2
      rw [e]
      simp only [if_pos (g2 x y), if_pos (g3 x y), if_pos (g4 x y), r0, r1]
      obtain ⟨a, ha⟩ := read_any (B x) k (by omega)
      obtain ⟨b, hb⟩ := read_any (B y) k (by omega)
      rw [ha]
      simp only [bs]
      rw [hb]
      simp only [bs]
      rw [zs_length, ew, l1In_f, l1In_f]
      simp only [bs]
      by_cases ga : 0 ≤ a ∧ a ≤ (acc.length : Int) - 1
      · rw [decide_eq_true ga, if_pos rfl]
        by_cases gb : 0 ≤ b ∧ b ≤ (acc.length : Int) - 1
        · rw [decide_eq_true gb, if_pos rfl]
          obtain ⟨a, rfl⟩ := Int.eq_ofNat_of_zero_le ga.1
          obtain ⟨b, rfl⟩ := Int.eq_ofNat_of_zero_le gb.1
          rw [sAdd_f acc own a b (by omega) (by omega) h16 hn]
          simp only [bs]
          rw [show ((i : Int) + 1) = ((i + 1 : Nat) : Int) from rfl, wrapn _ (by omega)]
          exact ih (i + 1) k _ (by omega) (by omega) (by rw [addN_length]; omega) (by rw [addN_length]; omega) (addN_lt acc a b (by omega) (by omega) h16 hn)
        · rw [decide_eq_false gb, if_neg (by decide)]; exact ⟨_, rfl, .inl rfl⟩
      · rw [decide_eq_false ga, if_neg (by decide)]; exact ⟨_, rfl, .inl rfl⟩
    · rw [if_neg h2]; exact ⟨_, rfl, .inl rfl⟩
theorem tx_free (e : List Int) (n : Nat) (hn : n ≤ 16) (he : LemFnExactParseGraph.Edge n e) : (58 : UInt8) ∉ tx e ∧ (44 : UInt8) ∉ tx e ∧ ∃ a b : Nat, e = [(a : Int), (b : Int)] ∧ a < n ∧ b < n ∧ tx e = dec a ++ 45 :: dec b ∧ spl 45 (tx e) = [dec a, dec b] := by
  obtain ⟨a, b, rfl, ha, hb⟩ := he
  have fa := dec_free a (by omega)
  have fb := dec_free b (by omega)
  have et : tx [(a : Int), (b : Int)] = dec a ++ 45 :: dec b := rfl
  rw [et]
  refine ⟨?_, ?_, a, b, rfl, ha, hb, rfl, ?_⟩
  · rw [List.mem_append, List.mem_cons]
    rintro (h | h | h)
    · exact fa.1 h
    · exact absurd h (by decide)
    · exact fb.1 h
  · rw [List.mem_append, List.mem_cons]
    rintro (h | h | h)
    · exact fa.2.1 h
    · exact absurd h (by decide)
    · exact fb.2.1 h
  · rw [spl_at 45 _ _ fa.2.2.1, spl_none 45 _ fb.2.2.1]
theorem sloop_acc (s : ByteArray) (own : Bool) (n : Nat) (h1 : 1 ≤ n) (h16 : n ≤ 16) (es : List (List Int)) (hE : ∀ e ∈ es, LemFnExactParseGraph.Edge n e) (hl : es.length ≤ 2000) (R : List Int × Bool × Bool)
    (J : ∀ k, 2000 ≤ k → spec_grParse.j4 k s (zs (addEs (List.replicate n 0) es)) own = some R) :
    ∀ d i k, i + d = es.length → d + 5000 < k → spec_grParse.l0 k s (es.map fun e => B (tx e)) (es.length : Int) (i : Int) (zs (addEs (List.replicate n 0) (es.take i))) own = some R := by
  intro d
  induction d with
  | zero =>
    intro i k hi hk
    obtain ⟨k, rfl⟩ : ∃ m, k = m + 1 := ⟨k - 1, by omega⟩
    rw [spec_grParse.l0, if_neg (by omega), List.take_of_length_le (by omega)]
    exact J k (by omega)
  | succ d ih =>
    intro i k hi hk
    obtain ⟨k, rfl⟩ : ∃ m, k = m + 1 := ⟨k - 1, by omega⟩
    have hlt : i < es.length := by omega
    have hlm : i < (es.map fun e => B (tx e)).length := by rw [List.length_map]; exact hlt
    obtain ⟨_, _, a, b, he, ha, hb, _, hs⟩ := tx_free es[i] n h16 (hE _ (List.getElem_mem hlt))
    have hlen : (addEs (List.replicate n 0) (es.take i)).length = n := by rw [addEs_length, List.length_replicate]
    have htl := tx_len es[i]
    have hn : ∀ j, nth (addEs (List.replicate n 0) (es.take i)) j < 2 ^ 16 := addEs_lt _ _ (by rw [List.length_replicate]; exact h16) (fun e h => by rw [List.length_replicate]; exact hE e (List.mem_of_mem_take h)) (zero_lt n)
    have ew : wrap64 ((n : Int) - 1) = (n : Int) - 1 := by unfold wrap64; omega
    have hsn : addEs (List.replicate n 0) (es.take (i + 1)) = addN (addEs (List.replicate n 0) (es.take i)) a b := by
      rw [List.take_succ_eq_append_getElem hlt, addEs_snoc, he]; rfl
    have ihs := ih (i + 1) k (by omega) (by omega)
    rw [hsn] at ihs
    rw [spec_grParse.l0, if_pos (by omega), if_pos (by omega), if_pos (by omega), word_at _ i hlm, List.getElem_map, split_f _ 45 (by omega) k (by omega) 45 rfl, hs]
    simp only [bs, if_pos (g2 (dec a) (dec b)), if_pos (g3 (dec a) (dec b)), if_pos (g4 (dec a) (dec b)), r0, r1]
    rw [read_dec a (by omega) k (by omega)]
    simp only [bs]
    rw [read_dec b (by omega) k (by omega)]
    simp only [bs]
    rw [zs_length, hlen, ew, l1In_f, l1In_f]
    simp only [bs]
    rw [decide_eq_true (show 0 ≤ (a : Int) ∧ (a : Int) ≤ (n : Int) - 1 by omega), if_pos rfl, decide_eq_true (show 0 ≤ (b : Int) ∧ (b : Int) ≤ (n : Int) - 1 by omega), if_pos rfl, sAdd_f _ own a b (by omega) (by omega) (by omega) hn]
    simp only [bs]
    rw [show ((i : Int) + 1) = ((i + 1 : Nat) : Int) from rfl, wrapn _ (by omega)]
    exact ihs
/-- Words joined, cut again. -/
theorem spl_join : ∀ (l : List (List UInt8)) (x : List UInt8), (44 : UInt8) ∉ x → (∀ y ∈ l, (44 : UInt8) ∉ y) → spl 44 (x ++ Lib.joinTail [44] l) = x :: l
  | [], x, hx, _ => by
    rw [show Lib.joinTail [44] [] = [] from rfl, List.append_nil, spl_none 44 x hx]
  | y :: t, x, hx, h => by
    have e : Lib.joinTail [44] (y :: t) = 44 :: (y ++ Lib.joinTail [44] t) := by simp [Lib.joinTail]
    rw [e, spl_at 44 _ x hx, spl_join t y (h y (List.mem_cons_self ..)) fun z hz => h z (List.mem_cons_of_mem _ hz)]
theorem jn_all (es : List (List Int)) : jn es es.length = Lib.join (es.map tx) [44] := by unfold jn; rw [List.take_length]
theorem spl_jn (n : Nat) (hn : n ≤ 16) (es : List (List Int)) (hE : ∀ e ∈ es, LemFnExactParseGraph.Edge n e) (h0 : es.length ≠ 0) : spl 44 (jn es es.length) = es.map tx := by
  have hf : ∀ y ∈ es.map tx, (44 : UInt8) ∉ y := fun y hy => by
    obtain ⟨e, he, rfl⟩ := List.mem_map.1 hy
    exact (tx_free e n hn (hE e he)).2.1
  rw [jn_all]
  cases h : es.map tx with
  | nil => have := congrArg List.length h; rw [List.length_map, List.length_nil] at this; omega
  | cons x t =>
    rw [h] at hf
    rw [Lib.join_cons, spl_join t x (hf x (List.mem_cons_self ..)) fun y hy => hf y (List.mem_cons_of_mem _ hy)]
theorem jt_free (c : UInt8) (hc : c ≠ 44) : ∀ l : List (List UInt8), (∀ y ∈ l, c ∉ y) → c ∉ Lib.joinTail [44] l
  | [], _ => by simp [Lib.joinTail]
  | y :: t, h => by
    have e : Lib.joinTail [44] (y :: t) = 44 :: (y ++ Lib.joinTail [44] t) := by simp [Lib.joinTail]
    rw [e, List.mem_cons, List.mem_append]
    rintro (q | q | q)
    · exact hc q
    · exact h y (List.mem_cons_self ..) q
    · exact jt_free c hc t (fun z hz => h z (List.mem_cons_of_mem _ hz)) q
/-- A text's body: '-', or the words. -/
def body (es : List (List Int)) : List UInt8 := if es.length = 0 then [45] else jn es es.length
theorem txt_eq (n : Nat) (own : Bool) (es : List (List Int)) : txt n own es = (dec n ++ if own then [43] else []) ++ (58 :: body es) := rfl
theorem body_free (n : Nat) (hn : n ≤ 16) (es : List (List Int)) (hE : ∀ e ∈ es, LemFnExactParseGraph.Edge n e) : (58 : UInt8) ∉ body es := by
  unfold body
  split
  · decide
  · rename_i h0
    have hf : ∀ y ∈ es.map tx, (58 : UInt8) ∉ y := fun y hy => by
      obtain ⟨e, he, rfl⟩ := List.mem_map.1 hy
      exact (tx_free e n hn (hE e he)).1
    rw [jn_all]
    cases h : es.map tx with
    | nil => have := congrArg List.length h; rw [List.length_map, List.length_nil] at this; omega
    | cons x t =>
      rw [h] at hf
      rw [Lib.join_cons, List.mem_append]
      rintro (q | q)
      · exact hf x (List.mem_cons_self ..) q
      · exact jt_free 58 (by decide) t (fun y hy => hf y (List.mem_cons_of_mem _ hy)) q
theorem head_free (n : Nat) (hn : n ≤ 16) (own : Bool) : (58 : UInt8) ∉ (dec n ++ if own then [43] else []) := by
  rw [List.mem_append]
  rintro (q | q)
  · exact (dec_free n hn).1 q
  · cases own <;> simp at q
theorem spl_txt (n : Nat) (hn : n ≤ 16) (own : Bool) (es : List (List Int)) (hE : ∀ e ∈ es, LemFnExactParseGraph.Edge n e) : spl 58 (txt n own es) = [dec n ++ (if own then [43] else []), body es] := by
  rw [txt_eq, spl_at 58 _ _ (head_free n hn own), spl_none 58 _ (body_free n hn es hE)]
theorem body_len (es : List (List Int)) : (body es).length ≤ 6 * es.length + 1 := by
  unfold body
  split
  · exact Nat.le_add_left _ _
  · have := jn_len es es.length (Nat.le_refl _); omega
theorem txt_len (n : Nat) (own : Bool) (es : List (List Int)) : (txt n own es).length ≤ 6 * es.length + 5 := by
  have h1 := body_len es
  have h2 := dec_len n
  rw [txt_eq]
  cases own <;> simp only [List.length_append, List.length_cons, List.length_nil, if_true, Bool.false_eq_true, if_false] <;> omega
/-- A body with words is not '-'. -/
theorem body_ne (n : Nat) (hn : n ≤ 16) (es : List (List Int)) (hE : ∀ e ∈ es, LemFnExactParseGraph.Edge n e) (h0 : es.length ≠ 0) : body es ≠ [45] := by
  intro h
  have hs : spl 44 (body es) = es.map tx := by unfold body; rw [if_neg h0]; exact spl_jn n hn es hE h0
  rw [h, spl_none 44 _ (by decide)] at hs
  cases es with
  | nil => exact h0 rfl
  | cons e t =>
    obtain ⟨_, _, a, b, _, _, _, ht, _⟩ := tx_free e n hn (hE e (List.mem_cons_self ..))
    rw [List.map_cons, ht] at hs
    have h2 := (List.cons.inj hs).1
    have fa := dec_free a
    cases hd : dec a with
    | nil =>
      rename_i hA _ _ _
      exact (fa (by omega)).2.2.2 hd
    | cons c r =>
      rw [hd] at h2
      simp at h2
end Go.Proofs.YteabfdcobkgmmaaDoor.PgS
