/-
  lemmas for the theorems of this claim. No conditions beyond those written in the statements.
-/
import Derived.Test.YtcmjcobhobfloaaDoorCL27
import Derived.Shelf.Spec.SlicesInsert
import Derived.Lib.AppendZerosOnto
set_option linter.unusedVariables false
set_option linter.unusedSimpArgs false
set_option linter.unnecessarySimpa false
namespace Go.Proofs.Sky
open Go Go.RowKit Go.Shelf
attribute [local go_sem] Oper.semAt_some
set_option maxHeartbeats 4000000
set_option maxRecDepth 8000
/-! chapter 27: Insert into a row of pages -/
theorem Blk.setCell {w : World} {g : Nat} {T : TypeId} {cs : Array Value} (h : Blk w g T cs) (o : Nat) (v : Value) : Blk (w.setCell ⟨g, o, none⟩ v) g T (cs.setIfInBounds o v) := by
  unfold Blk at h ⊢
  simp only [World.setCell, Array.getElem?_modify, if_true, h]
  rfl
theorem blk_setCells {g : Nat} {T : TypeId} : ∀ (vs : List Value) (o : Nat) (w : World) (cs : Array Value), Blk w g T cs → ∃ cs', Blk (w.setCells g o vs) g T cs' ∧ cs'.size = cs.size
  | [], _, _, cs, h => ⟨cs, h, rfl⟩
  | v :: r, o, w, cs, h => by
    obtain ⟨cs', h1, h2⟩ := blk_setCells r (o + 1) (w.setCell ⟨g, o, none⟩ v) _ (h.setCell o v)
    exact ⟨cs', by rw [World.setCells]; exact h1, by rw [h2]; simp⟩
theorem blk_there {w : World} {g : Nat} {T : TypeId} {cs : Array Value} (h : Blk w g T cs) {o n : Nat} (hn : o + n ≤ cs.size) : w.there g o n := fun j hj =>
  ⟨by rw [h.cell (Array.getElem?_eq_getElem (show o + j < cs.size by omega))]; rfl, h.frozen _⟩
theorem bw_setCells {W0 : World} {g : Nat} (hg : W0.heap.size ≤ g) : ∀ (vs : List Value) (o : Nat) (w : World), Bw W0 w → Bw W0 (w.setCells g o vs)
  | [], _, _, h => h
  | v :: r, o, w, h => by rw [World.setCells]; exact bw_setCells hg r (o + 1) _ (Bw.setCell h hg v)
theorem rg_append {w : World} {g o : Nat} {us zs : List Value} (h1 : w.rangeAt g o us) (h2 : w.rangeAt g (o + us.length) zs) : w.rangeAt g o (us ++ zs) := fun j v hv => by
  rcases Nat.lt_or_ge j us.length with h | h
  · rw [List.getElem?_append_left h] at hv; exact h1 j v hv
  · rw [List.getElem?_append_right h] at hv
    have := h2 (j - us.length) v hv
    rwa [show o + us.length + (j - us.length) = o + j by omega] at this
theorem rg_take {w : World} {g o : Nat} {us : List Value} (h : w.rangeAt g o us) (k : Nat) : w.rangeAt g o (us.take k) := fun j v hv => by
  rw [List.getElem?_take] at hv
  split at hv
  · exact h j v hv
  · cases hv
theorem rg_drop {w : World} {g o : Nat} {us : List Value} (h : w.rangeAt g o us) (k : Nat) : w.rangeAt g (o + k) (us.drop k) := fun j v hv => by
  rw [List.getElem?_drop] at hv
  rw [Nat.add_assoc]; exact h (k + j) v hv
theorem own_of_range {w : World} {base g cap n : Nat} {T : TypeId} {cs : Array Value} {xs : List Value} (hb : Blk w g T cs) (hs : cs.size = cap * 13) (hn : n ≤ cap) (hc : cap ≤ maxLen) (hx : xs.length = n * 13) (hr : w.rangeAt g 0 xs) (hg : base ≤ g) :
    w.ownsRow base T 13 (.slice (some ⟨g, 0, none⟩) n cap) n xs := by
  refine ⟨hx, .inr ⟨g, cap, cs, rfl, hg, hb, hn, hc, hs, ?_⟩⟩
  apply List.ext_getElem?
  intro j
  rw [List.getElem?_take]
  split
  · rename_i hj
    have hjs : j < cs.size := by have := Nat.mul_le_mul_right 13 hn; omega
    have h1 := hb.cell (Array.getElem?_eq_getElem hjs)
    have h2 := hr j _ (List.getElem?_eq_getElem (show j < xs.length by omega))
    rw [Nat.zero_add, h1] at h2
    injection h2 with h2
    rw [List.getElem?_eq_getElem (show j < xs.length by omega), ← h2]
    simp [hjs]
  · exact (List.getElem?_eq_none (by omega)).symm
theorem run_copy_pg (w : World) (dT sT ty : TypeId) (b o dLen dCap : Nat) (b2 o2 sLen sCap : Nat) (cs : List Value)
    (hu : Tryd.prog.underlying dT = some (.slice 27)) (hn : cs.length = Nat.min sLen dLen * 13)
    (hsrc : w.rangeAt b2 o2 cs) (hc : w.there b o cs.length) (h1 : ∀ v ∈ cs, v.oneCell' = true) :
    (Builtin.copy_ #[dT, sT] ty #[.slice (some ⟨b, o, none⟩) dLen dCap, .slice (some ⟨b2, o2, none⟩) sLen sCap]).run Tryd.prog w = .ok (goInt (Nat.min sLen dLen)) (w.setCells b o cs) := by
  have hl := run_loadCells_list (P := Tryd.prog) w ⟨b2, o2, none⟩ cs (fun j v hv => by rw [Addr.add_mid]; exact hsrc j v hv)
  have hst := run_storeCells_cells (P := Tryd.prog) b o cs 0 w (by simpa using fun j hj => (hc j hj).1) (by simpa using fun j hj => (hc j hj).2) h1
  obtain ⟨i, hi, hzz⟩ := Option.map_eq_some_iff.1 infoPg
  simp only [Prod.mk.injEq] at hzz
  have hi13 : i.size = 13 := hzz.2.1
  simp [Builtin.copy_, run_underlying hu, Builtin.lenOf, Builtin.firstCells, sizeOf, typeInfo, hi, hi13, ← hn, hl, hst]
end Go.Proofs.Sky

namespace Go.Proofs.Sky
open Go Go.RowKit Go.Shelf
attribute [local go_sem] Oper.semAt_some
set_option maxHeartbeats 4000000
set_option maxRecDepth 8000
/-! chapter 27: Insert at the end of a row of pages -/
def insL (ps : List (Nat → Int)) (i : Nat) (x : Nat → Int) : List (Nat → Int) := ps.take i ++ x :: ps.drop i
theorem insL_len (ps : List (Nat → Int)) (i : Nat) (x : Nat → Int) : (insL ps i x).length = ps.length + 1 := by
  unfold insL; simp; omega
theorem insL_end (ps : List (Nat → Int)) (x : Nat → Int) : insL ps ps.length x = ps ++ [x] := by
  unfold insL; rw [List.take_length, List.drop_length]
theorem insL_flat (ps : List (Nat → Int)) (i : Nat) (x : Nat → Int) : flatG (insL ps i x) = (flatG ps).take (i * 13) ++ (pgc x ++ (flatG ps).drop (i * 13)) := by
  unfold insL; rw [flatG_append, flatG_cons, flatG_take, flatG_drop]
theorem insertEnd_any (W0 : World) (ps : List (Nat → Int)) (hs : ps.length ≤ 1000) (x : Nat → Int) (v : Value) (vb : Nat) (w : World) (hW : Bw W0 w) (ho : w.ownsRow W0.heap.size 27 13 v ps.length (flatG ps)) (hb : Blk w vb 27 (pgV x)) :
    Calls Tryd.prog 38 #[v, .int .i64 ps.length, .slice (some ⟨vb, 0, none⟩) 1 1] w fun e w' => OwQ W0.heap.size (insL ps ps.length x) e w' ∧ Bw W0 w' := by
  rw [insL_end]
  have OE := Lib.hid ho
  have HW := Lib.hid hW
  have HX := Lib.hid (rg_one (blk_rg (cs := pgc x) hb))
  have hsz := hW.size
  clear hW
  rcases ho.2 with ⟨rfl, h2⟩ | ⟨g, cap, cur, rfl, hg, hh, hn, hc, _⟩
  · clear ho hb
    obtain rfl : ps = [] := List.length_eq_zero_iff.1 h2
    go_enter Tryd.func38, Tryd.ntmps38
    go_wp2_with (at_builtin; refine wpList_append_pgs rfl (.tmp 23) (.tmp 24) _ rfl W0.heap.size Tryd.underlying24 _ [] [x] rfl OE.out vb 0 1 rfl HX.out (by simp) hsz ?_; intro v8 w8 hown hgr hni; replace HW := Lib.hid (bw_grownN rfl HW.out OE.out hgr); have O1 := Lib.hid hown; clear hown hgr hni)
    go_ret
    exact ⟨⟨_, rfl, O1.out⟩, HW.out⟩
  · clear ho hb hh
    obtain ⟨n, hnn⟩ : ∃ n, ps.length = n := ⟨_, rfl⟩
    have HN := Lib.hid hnn
    rw [hnn] at OE hn hs ⊢
    clear hnn
    unfold maxLen at hc
    have hnc : (n : Int) ≤ cap := by omega
    have hz2 : (0 : Int) ≤ n := by omega
    go_enter Tryd.func38, Tryd.ntmps38
    go_wp2_with (at_builtin; refine wpList_append_pgs rfl (.tmp 23) (.tmp 24) _ rfl W0.heap.size Tryd.underlying24 _ ps [x] rfl (by rw [HN.out]; exact OE.out) vb 0 1 rfl HX.out (by rw [HN.out]; simp; omega) hsz ?_; intro v8 w8 hown hgr hni; replace HW := Lib.hid (bw_grownN rfl HW.out OE.out hgr); have O1 := Lib.hid hown; clear hown hgr hni)
    all_goals (go_ret; exact ⟨⟨_, rfl, O1.out⟩, HW.out⟩)
theorem blk_shape {w : World} {g : Nat} {T : TypeId} {cs : Array Value} (h : Blk w g T cs) : w.shape? g = some (T, cs.size) := by
  unfold Blk at h
  simp [World.shape?, h]
theorem insertRoom_any (W0 : World) (ps : List (Nat → Int)) (hs : ps.length ≤ 1000) (i : Nat) (hi : i < ps.length) (x : Nat → Int) (g cap vb : Nat) (w : World) (hW : Bw W0 w) (ho : w.ownsRow W0.heap.size 27 13 (.slice (some ⟨g, 0, none⟩) ps.length cap) ps.length (flatG ps)) (hb : Blk w vb 27 (pgV x)) (hne : vb ≠ g) (hroom : ps.length + 1 ≤ cap) :
    Calls Tryd.prog 38 #[.slice (some ⟨g, 0, none⟩) ps.length cap, .int .i64 i, .slice (some ⟨vb, 0, none⟩) 1 1] w fun e w' => OwQ W0.heap.size (insL ps i x) e w' ∧ Bw W0 w' := by
  obtain ⟨hlen, h9⟩ := ho
  rcases h9 with ⟨h9, _⟩ | ⟨g', cap', cur, hv, hg, hh, hn, hc, hcs, htk⟩
  · cases h9
  injection hv with e1 _ e3
  injection e1 with e1
  injection e1 with e1
  subst e1 e3
  have hB : Blk w g 27 cur := hh
  have hR : w.rangeAt g 0 (flatG ps) := fun j u hu => by
    have hj := (List.getElem?_eq_some_iff.1 hu).1
    rw [Nat.zero_add]
    refine hB.cell ?_
    rw [← htk, List.getElem?_take] at hu
    split at hu
    · simpa using hu
    · cases hu
  have hXR : w.rangeAt vb 0 (pgc x) := blk_rg (cs := pgc x) hb
  have hf1 : ∀ u ∈ flatG ps, u.oneCell' = true := flatG_one' ps
  have hPX := pgc_one x
  have hcur : 13 * (ps.length + 1) ≤ cur.size := by omega
  have hfl := flatG_len ps
  have hFIN : ∀ W : World, W.rangeAt g 0 ((flatG ps).take (i * 13)) → W.rangeAt g (i * 13) (pgc x) → W.rangeAt g ((i + 1) * 13) ((flatG ps).drop (i * 13)) → (∃ cur', Blk W g 27 cur' ∧ cur'.size = cap * 13) → W.ownsRow W0.heap.size 27 13 (.slice (some ⟨g, 0, none⟩) (ps.length + 1) cap) (insL ps i x).length (flatG (insL ps i x)) := by
    intro W r1 r2 r3 ⟨cur', b1, b2⟩
    have htl : ((flatG ps).take (i * 13)).length = i * 13 := by rw [List.length_take, hfl]; omega
    rw [insL_len]
    refine own_of_range b1 b2 hroom hc (by rw [flatG_len, insL_len]) ?_ hg
    rw [insL_flat]
    refine rg_append r1 ?_
    rw [htl, Nat.zero_add]
    refine rg_append r2 ?_
    rw [pgc_len, show i * 13 + 13 = (i + 1) * 13 by omega]
    exact r3
  generalize hFL : flatG ps = FL at *
  have hov : ∀ lb cb, (callFunc 60 #[.slice (some ⟨vb, 0, none⟩) 1 1, .slice (some ⟨g, (i + 1) * 13, none⟩) lb cb]).run Tryd.prog w = .ok (.value (.bool false)) w := fun lb cb => by
    rw [run_callFunc_extern Tryd.func60 (by kernel_rfl) (by kernel_rfl) (by kernel_rfl) (e := Extern.SlicesOverlaps.overlaps #[24, 24] #[4]) (by kernel_rfl),
      Lib.run_overlaps_apart w 24 4 27 Tryd.underlying24 13 (fun w => by kernel_rfl) ⟨vb, 0, none⟩ ⟨g, (i + 1) * 13, none⟩ 1 1 lb cb hne _ _ _ _ (blk_shape hb) (blk_shape hB) (by omega) (hb.frozen _) (hb.frozen _)]
    rfl
  obtain ⟨n, hnn⟩ : ∃ n, ps.length = n := ⟨_, rfl⟩
  have HN := Lib.hid hnn
  rw [hnn] at hlen hs hi hroom hcur hfl hFIN ⊢
  clear hnn
  unfold maxLen at hc
  have HFIN := Lib.hid hFIN
  have HW := Lib.hid hW
  have HB := Lib.hid hB
  have HR := Lib.hid hR
  have HX := Lib.hid hXR
  have HBX := Lib.hid hb
  clear hFIN hW hB hh hR hXR hb htk hFL
  have hz2 : ¬ ((i : Int) = (n : Int)) := by omega
  have hz3 : (0 : Int) ≤ i := by omega
  have hz4 : (i : Int) ≤ n := by omega
  have hz5 : (i : Int) ≤ cap := by omega
  have hz6 : ¬ ((cap : Int) < (n : Int) + 1) := by omega
  have hz7 : (n : Int) ≤ cap := by omega
  have hz8 : (n : Int) + 1 ≤ cap := by omega
  have hw1 : IntKind.i64.wrap ((i : Int) + 1) = (i : Int) + 1 := by rw [IntKind.wrap_i64]; omega
  have hw2 : IntKind.i64.wrap ((n : Int) + 1) = (n : Int) + 1 := by rw [IntKind.wrap_i64]; omega
  have ht1 : ((i : Int) + 1).toNat = i + 1 := by omega
  have ht2 : ((n : Int) + 1).toNat = n + 1 := by omega
  have hb2 : ¬ (cap = i + 1) := by omega
  have hb4 : ¬ (cap = i) := by omega
  have hb5 : (i : Int) + 1 ≤ (n : Int) + 1 := by omega
  have hb6 : (0 : Int) ≤ (i : Int) + 1 := by omega
  have hb7 : (0 : Int) ≤ (n : Int) + 1 := by omega
  have hb8 : (i : Int) ≤ (n : Int) + 1 := by omega
  have hdl : (FL.drop (i * 13)).length = (n - i) * 13 := by rw [List.length_drop, hfl]; omega
  have hf2 : ∀ u ∈ FL.drop (i * 13), u.oneCell' = true := fun u hu => hf1 u (List.mem_of_mem_drop hu)
  have BD : Blk w.drew g 27 cur := HB.out
  have hcp1 : ∀ ty, (Builtin.copy_ #[24, 24] ty #[.slice (some ⟨g, (i + 1) * 13, none⟩) (n + 1 - (i + 1)) (cap - (i + 1)), .slice (some ⟨g, i * 13, none⟩) (n + 1 - i) (cap - i)]).run Tryd.prog w.drew = .ok (goInt (Nat.min (n + 1 - i) (n + 1 - (i + 1)))) (w.drew.setCells g ((i + 1) * 13) (FL.drop (i * 13))) := fun ty =>
    run_copy_pg w.drew _ _ ty g ((i + 1) * 13) _ _ g (i * 13) _ _ _ Tryd.underlying24 (by rw [hdl]; simp only [Nat.min_def]; split <;> omega)
      (by have h8 := rg_drop (w := w.drew) HR.out (i * 13); rwa [Nat.zero_add] at h8) (blk_there BD (by rw [hdl]; omega)) hf2
  obtain ⟨W1, hW1⟩ : ∃ W1, w.drew.setCells g ((i + 1) * 13) (FL.drop (i * 13)) = W1 := ⟨_, rfl⟩
  have HW1 := Lib.hid (bw_setCells hg (FL.drop (i * 13)) ((i + 1) * 13) w.drew HW.out.drew)
  obtain ⟨cur1, BD1, hcs1⟩ := blk_setCells (FL.drop (i * 13)) ((i + 1) * 13) w.drew cur BD
  have R1 := Lib.hid (World.rangeAt_setCells_apart (rg_take (w := w.drew) HR.out (i * 13)) g ((i + 1) * 13) (FL.drop (i * 13)) (.inr (.inl (by rw [List.length_take]; omega))))
  have R3 := Lib.hid (World.rangeAt_setCells_same w.drew g ((i + 1) * 13) (FL.drop (i * 13)) (blk_there BD (by rw [hdl]; omega)))
  have RX := Lib.hid (World.rangeAt_setCells_apart (w := w.drew) HX.out g ((i + 1) * 13) (FL.drop (i * 13)) (.inl hne))
  rw [hW1] at HW1 BD1 R1 R3 RX
  simp only [hW1] at hcp1
  clear hW1
  have hcp2 : ∀ ty, (Builtin.copy_ #[24, 24] ty #[.slice (some ⟨g, i * 13, none⟩) (n + 1 - i) (cap - i), .slice (some ⟨vb, 0, none⟩) 1 1]).run Tryd.prog W1 = .ok (goInt (Nat.min 1 (n + 1 - i))) (W1.setCells g (i * 13) (pgc x)) := fun ty =>
    run_copy_pg W1 _ _ ty g (i * 13) _ _ vb 0 _ _ _ Tryd.underlying24 (by rw [pgc_len]; simp only [Nat.min_def]; split <;> omega)
      RX.out (blk_there BD1 (by rw [pgc_len]; omega)) hPX
  have HW2 := Lib.hid (bw_setCells hg (pgc x) (i * 13) W1 HW1.out)
  obtain ⟨cur2, BD2, hcs2⟩ := blk_setCells (pgc x) (i * 13) W1 cur1 BD1
  have O2 := Lib.hid (HFIN.out _ (World.rangeAt_setCells_apart R1.out g (i * 13) (pgc x) (.inr (.inl (by rw [List.length_take]; omega)))) (World.rangeAt_setCells_same W1 g (i * 13) (pgc x) (blk_there BD1 (by rw [pgc_len]; omega)))
    (World.rangeAt_setCells_apart R3.out g (i * 13) (pgc x) (.inr (.inr (by rw [pgc_len]; omega)))) ⟨cur2, BD2, by omega⟩)
  clear BD BD1 BD2 R1 R3 RX HFIN
  go_enter Tryd.func38, Tryd.ntmps38
  go_upto_region 14 with fail
  go_upto_region 15 with (simp only [hov])
  have mixed : Tryd.prog.follows .mixedOrders = true := by kernel_rfl
  go_region_law_o (refine step_copy_runI rfl _ _ 24 24 rfl _ _ (by simp [Act.eval, Act.put]) (by simp [Act.eval, Act.put]) (hcp1 _) ?_)
  go_wp2_with (at_builtin; refine wpList_copy_runI _ rfl _ _ 24 24 rfl _ _ rfl rfl (hcp2 _) ?_)
  go_ret
  exact ⟨⟨_, rfl, O2.out⟩, HW2.out⟩
end Go.Proofs.Sky

namespace Go.Proofs.Sky
open Go Go.RowKit Go.Shelf
attribute [local go_sem] Oper.semAt_some
set_option maxHeartbeats 4000000
set_option maxRecDepth 8000
/-! chapter 27: Insert into a row of pages that has no room -/
def zPg : Array Value := #[.int .i64 0, .int .i64 0, .int .i64 0, .int .i64 0, .int .i64 0, .int .i64 0, .int .i64 0, .int .i64 0, .int .i64 0, .int .i64 0, .int .i64 0, .int .i64 0, .int .i64 0]
theorem insertGrow_any (W0 : World) (ps : List (Nat → Int)) (hs : ps.length ≤ 1000) (i : Nat) (hi : i < ps.length) (x : Nat → Int) (g cap vb : Nat) (w : World) (hW : Bw W0 w) (ho : w.ownsRow W0.heap.size 27 13 (.slice (some ⟨g, 0, none⟩) ps.length cap) ps.length (flatG ps)) (hb : Blk w vb 27 (pgV x)) (hroom : cap < ps.length + 1) :
    Calls Tryd.prog 38 #[.slice (some ⟨g, 0, none⟩) ps.length cap, .int .i64 i, .slice (some ⟨vb, 0, none⟩) 1 1] w fun e w' => OwQ W0.heap.size (insL ps i x) e w' ∧ Bw W0 w' := by
  obtain ⟨hlen, h9⟩ := ho
  rcases h9 with ⟨h9, _⟩ | ⟨g', cap', cur, hv, hg, hh, hn, hc, hcs, htk⟩
  · cases h9
  injection hv with e1 _ e3
  injection e1 with e1
  injection e1 with e1
  subst e1 e3
  have hB : Blk w g 27 cur := hh
  have hR : w.rangeAt g 0 (flatG ps) := fun j u hu => by
    have hj := (List.getElem?_eq_some_iff.1 hu).1
    rw [Nat.zero_add]
    refine hB.cell ?_
    rw [← htk, List.getElem?_take] at hu
    split at hu
    · simpa using hu
    · cases hu
  have hXR : w.rangeAt vb 0 (pgc x) := blk_rg (cs := pgc x) hb
  have hgl := hB.lt
  have hvl := hb.lt
  have hf1 : ∀ u ∈ flatG ps, u.oneCell' = true := flatG_one' ps
  have hPX := pgc_one x
  have hfl := flatG_len ps
  obtain ⟨N, hN⟩ : ∃ N, N = w.heap.size := ⟨_, rfl⟩
  have hNB : W0.heap.size ≤ N := by have := hW.size; omega
  have hFIN : ∀ (W : World) (G : Nat), ps.length + 1 ≤ G → G ≤ maxLen → W.rangeAt N 0 ((flatG ps).take (i * 13)) → W.rangeAt N (i * 13) (pgc x) → W.rangeAt N ((i + 1) * 13) ((flatG ps).drop (i * 13)) → (∃ cur', Blk W N 27 cur' ∧ cur'.size = G * 13) → W.ownsRow W0.heap.size 27 13 (.slice (some ⟨N, 0, none⟩) (ps.length + 1) G) (insL ps i x).length (flatG (insL ps i x)) := by
    intro W G hG hG2 r1 r2 r3 ⟨cur', b1, b2⟩
    have htl : ((flatG ps).take (i * 13)).length = i * 13 := by rw [List.length_take, hfl]; omega
    rw [insL_len]
    refine own_of_range b1 b2 hG hG2 (by rw [flatG_len, insL_len]) ?_ hNB
    rw [insL_flat]
    refine rg_append r1 ?_
    rw [htl, Nat.zero_add]
    refine rg_append r2 ?_
    rw [pgc_len, show i * 13 + 13 = (i + 1) * 13 by omega]
    exact r3
  generalize hFL : flatG ps = FL at *
  obtain ⟨n, hnn⟩ : ∃ n, ps.length = n := ⟨_, rfl⟩
  have HN := Lib.hid hnn
  rw [hnn] at hlen hs hi hroom hfl hFIN hn ⊢
  clear hnn
  have hcn : cap = n := by omega
  subst hcn
  have HFIN := Lib.hid hFIN
  have HW := Lib.hid hW
  have HB := Lib.hid hB
  have HR := Lib.hid hR
  have HX := Lib.hid hXR
  clear hFIN hW hB hh hR hXR hb htk hFL hn
  obtain ⟨i0, hi0, hzz⟩ := Option.map_eq_some_iff.1 infoPg
  simp only [Prod.mk.injEq] at hzz
  obtain ⟨hzr, hzs, hzb⟩ := hzz
  have hold : (Builtin.firstCells i0.size i (.slice (some ⟨g, 0, none⟩) i cap)).run Tryd.prog w.drew = .ok (FL.take (i * 13)).toArray w.drew := by
    rw [hzs]
    exact run_firstCells_some w.drew 13 i ⟨g, 0, none⟩ i cap (FL.take (i * 13)) (by rw [List.length_take]; omega) (fun j v hj => by
      rw [Addr.add_mid]
      exact rg_take (w := w.drew) HR.out (i * 13) j v hj)
  have hik : i + (cap + 1 - i) = cap + 1 := by omega
  obtain ⟨G, hG⟩ : ∃ G, G = grownCap w (cap + 1) cap 27 := ⟨_, rfl⟩
  have hrz : ∀ ty, (Builtin.append_ #[24, 3] ty #[.slice (some ⟨g, 0, none⟩) i cap, .int .i64 ((cap : Int) + 1 - i)]).run Tryd.prog w =
      .ok (.slice (some ⟨N, 0, none⟩) (cap + 1) G) (w.drew.alloc (.cells ((FL.take (i * 13)).toArray ++ Builtin.zeroCells (Value.agg zPg).cells (cap + 1 - i) ++ Builtin.zeroCells (Value.agg zPg).cells (G - (cap + 1))) 27)) := fun ty => by
    have h := Lib.run_append_grow_zeros w 24 3 ty 27 i0 (.agg zPg) .i64 .i64 Tryd.underlying24 Tryd.underlying3 hi0 hzr (some ⟨g, 0, none⟩) i cap (FL.take (i * 13)) hold (cap + 1 - i) (by omega) (by omega) (by omega) (by omega) (by rw [hzb]; omega) (by rw [hzb, hik]; exact growslice_fits hroom (by omega))
    rw [hik, ← hG, ← hN] at h
    rw [show (cap : Int) + 1 - i = ((cap + 1 - i : Nat) : Int) by omega]
    exact h
  have hGn : cap + 1 ≤ G := by rw [hG]; exact grownCap_ge w _ _ _
  have hGm : G ≤ maxLen := by rw [hG]; exact grownCap_le_maxLen w (cap + 1) cap 27 (by unfold maxLen; omega)
  have hzc : ∀ k, (Builtin.zeroCells (Value.agg zPg).cells k).size = k * 13 := fun k => by simp [Builtin.zeroCells, Value.cells, zPg]
  have hdl : (FL.drop (i * 13)).length = (cap - i) * 13 := by rw [List.length_drop, hfl]; omega
  have htl : (FL.take (i * 13)).length = i * 13 := by rw [List.length_take, hfl]; omega
  have hf2 : ∀ u ∈ FL.drop (i * 13), u.oneCell' = true := fun u hu => hf1 u (List.mem_of_mem_drop hu)
  obtain ⟨ROW, hROW⟩ : ∃ ROW : Array Value, (FL.take (i * 13)).toArray ++ Builtin.zeroCells (Value.agg zPg).cells (cap + 1 - i) ++ Builtin.zeroCells (Value.agg zPg).cells (G - (cap + 1)) = ROW := ⟨_, rfl⟩
  have hRS : ROW.size = G * 13 := by rw [← hROW]; simp only [Array.size_append, hzc, List.size_toArray, htl]; omega
  have hRT : ∀ j u, (FL.take (i * 13))[j]? = some u → ROW[j]? = some u := fun j u hu => by
    have hj := (List.getElem?_eq_some_iff.1 hu).1
    rw [← hROW, Array.append_assoc, Array.getElem?_append_left (by simpa using hj)]
    simpa using hu
  simp only [hROW] at hrz
  obtain ⟨W1, hW1⟩ : ∃ W1, w.drew.alloc (.cells ROW 27) = W1 := ⟨_, rfl⟩
  have hbw1 := Bw.alloc (Bw.drew (Bw.refl w)) (.cells ROW 27)
  have BD1 : Blk (w.drew.alloc (.cells ROW 27)) N 27 ROW := by rw [hN]; exact Blk.new w.drew 27 ROW
  rw [hW1] at hbw1 BD1
  simp only [hW1] at hrz
  clear hW1 hROW
  have HW1 := Lib.hid (HW.out.trans hbw1)
  have R1 := Lib.hid (show W1.rangeAt N 0 (FL.take (i * 13)) from fun j u hu => by rw [Nat.zero_add]; exact BD1.cell (hRT j u hu))
  have X1 := Lib.hid (rg_bw HX.out hbw1)
  have S1 := Lib.hid (rg_bw HR.out hbw1)
  clear hbw1
  have hNg : g ≠ N := by omega
  have hNv : vb ≠ N := by omega
  have hcpA : ∀ ty, (Builtin.copy_ #[24, 24] ty #[.slice (some ⟨N, i * 13, none⟩) (cap + 1 - i) (G - i), .slice (some ⟨vb, 0, none⟩) 1 1]).run Tryd.prog W1 = .ok (goInt (Nat.min 1 (cap + 1 - i))) (W1.setCells N (i * 13) (pgc x)) := fun ty =>
    run_copy_pg W1 _ _ ty N (i * 13) _ _ vb 0 _ _ _ Tryd.underlying24 (by rw [pgc_len]; simp only [Nat.min_def]; split <;> omega)
      X1.out (blk_there BD1 (by rw [pgc_len]; omega)) hPX
  obtain ⟨W2, hW2⟩ : ∃ W2, W1.setCells N (i * 13) (pgc x) = W2 := ⟨_, rfl⟩
  have HW2 := Lib.hid (bw_setCells hNB (pgc x) (i * 13) W1 HW1.out)
  obtain ⟨cur2, BD2, hcs2⟩ := blk_setCells (pgc x) (i * 13) W1 ROW BD1
  have R2 := Lib.hid (World.rangeAt_setCells_apart R1.out N (i * 13) (pgc x) (.inr (.inl (by rw [htl]; omega))))
  have X2 := Lib.hid (World.rangeAt_setCells_same W1 N (i * 13) (pgc x) (blk_there BD1 (by rw [pgc_len]; omega)))
  have S2 := Lib.hid (World.rangeAt_setCells_apart S1.out N (i * 13) (pgc x) (.inl hNg))
  rw [hW2] at HW2 BD2 R2 X2 S2
  simp only [hW2] at hcpA
  clear hW2 HW1 BD1 R1 X1 S1
  have BE : Blk W2.drew N 27 cur2 := BD2
  have hcpB : ∀ ty, (Builtin.copy_ #[24, 24] ty #[.slice (some ⟨N, (i + 1) * 13, none⟩) (cap + 1 - (i + 1)) (G - (i + 1)), .slice (some ⟨g, i * 13, none⟩) (cap - i) (cap - i)]).run Tryd.prog W2.drew = .ok (goInt (Nat.min (cap - i) (cap + 1 - (i + 1)))) (W2.drew.setCells N ((i + 1) * 13) (FL.drop (i * 13))) := fun ty =>
    run_copy_pg W2.drew _ _ ty N ((i + 1) * 13) _ _ g (i * 13) _ _ _ Tryd.underlying24 (by rw [hdl]; simp only [Nat.min_def]; split <;> omega)
      (by have h8 := rg_drop (w := W2.drew) S2.out (i * 13); rwa [Nat.zero_add] at h8) (blk_there BE (by rw [hdl]; omega)) hf2
  have HW3 := Lib.hid (bw_setCells hNB (FL.drop (i * 13)) ((i + 1) * 13) W2.drew HW2.out.drew)
  obtain ⟨cur3, BD3, hcs3⟩ := blk_setCells (FL.drop (i * 13)) ((i + 1) * 13) W2.drew cur2 BE
  have O3 := Lib.hid (HFIN.out _ G hGn hGm (World.rangeAt_setCells_apart (w := W2.drew) R2.out N ((i + 1) * 13) (FL.drop (i * 13)) (.inr (.inl (by rw [htl]; omega)))) (World.rangeAt_setCells_apart (w := W2.drew) X2.out N ((i + 1) * 13) (FL.drop (i * 13)) (.inr (.inl (by rw [pgc_len]; omega))))
    (World.rangeAt_setCells_same W2.drew N ((i + 1) * 13) (FL.drop (i * 13)) (blk_there BE (by rw [hdl]; omega))) ⟨cur3, BD3, by omega⟩)
  clear BD2 R2 X2 S2 BE BD3 HFIN HB HR HX
  unfold maxLen at hGm
  clear hG hN hNg hNv
  have hz2 : ¬ ((i : Int) = (cap : Int)) := by omega
  have hz3 : (0 : Int) ≤ i := by omega
  have hz4 : (i : Int) ≤ cap := by omega
  have hz6 : ((cap : Int) < (cap : Int) + 1) := by omega
  have hw1 : IntKind.i64.wrap ((i : Int) + 1) = (i : Int) + 1 := by rw [IntKind.wrap_i64]; omega
  have hw2 : IntKind.i64.wrap ((cap : Int) + 1) = (cap : Int) + 1 := by rw [IntKind.wrap_i64]; omega
  have hw3 : IntKind.i64.wrap ((cap : Int) + 1 - i) = (cap : Int) + 1 - i := by rw [IntKind.wrap_i64]; omega
  have ht1 : ((i : Int) + 1).toNat = i + 1 := by omega
  have hb1 : ¬ (cap = i) := by omega
  have hb2 : ¬ (G = i + 1) := by omega
  have hb4 : ¬ (G = i) := by omega
  have hb5 : (i : Int) + 1 ≤ (cap : Int) + 1 := by omega
  have hb6 : (0 : Int) ≤ (i : Int) + 1 := by omega
  have hb8 : (i : Int) ≤ (cap : Int) + 1 := by omega
  have mixed : Tryd.prog.follows .mixedOrders = true := by kernel_rfl
  go_enter Tryd.func38, Tryd.ntmps38
  go_wp2_with (first
    | (at_builtin; refine Lib.wpList_append_run _ rfl _ _ _ _ rfl _ _ rfl rfl _ _ (hrz _) ?_)
    | (at_builtin; refine wpList_copy_runI _ rfl _ _ 24 24 rfl _ _ rfl rfl (hcpA _) ?_))
  go_region_law_o (refine step_copy_runI rfl _ _ 24 24 rfl _ _ (by simp [Act.eval, Act.put]) (by simp [Act.eval, Act.put]) (hcpB _) ?_)
  go_wp2
  go_ret
  exact ⟨⟨_, rfl, O3.out⟩, HW3.out⟩
end Go.Proofs.Sky

namespace Go.Proofs.Sky
open Go Go.RowKit Go.Shelf
attribute [local go_sem] Oper.semAt_some
set_option maxHeartbeats 4000000
set_option maxRecDepth 8000
/-! chapter 27: Add -/
theorem fold_pg (x : Nat → Int) : Array.foldl (fun (cs : Array Value) (y : Value × Nat) => cs.setIfInBounds y.2 y.1) #[.int .i64 0, .int .i64 0, .int .i64 0, .int .i64 0, .int .i64 0, .int .i64 0, .int .i64 0, .int .i64 0, .int .i64 0, .int .i64 0, .int .i64 0, .int .i64 0, .int .i64 0] (pgV x).zipIdx 0 13 = pgV x := by
  simp [pgV, Array.zipIdx]
theorem rd_rg2 {W : World} {b o m c : Nat} {ps : List (Nat → Int)} (h : RdG W (.slice (some ⟨b, o, none⟩) m c) ps) {j : Nat} {y : Nat → Int} (hy : ps[j]? = some y) : W.rangeAt b (o + j * 13) (pgc y) := by
  have hj := (List.getElem?_eq_some_iff.1 hy).1
  have h9 := rd_rg h j hj
  rw [getD_some hj] at hy
  injection hy with hy
  rwa [hy] at h9
theorem insertPg_any (W0 : World) (ps : List (Nat → Int)) (hs : ps.length ≤ 1000) (i : Nat) (hi : i ≤ ps.length) (x : Nat → Int) (v : Value) (vb : Nat) (w : World) (hW : Bw W0 w) (ho : w.ownsRow W0.heap.size 27 13 v ps.length (flatG ps)) (hb : Blk w vb 27 (pgV x)) (hne : v.ownBlock ≠ some vb) :
    Calls Tryd.prog 38 #[v, .int .i64 i, .slice (some ⟨vb, 0, none⟩) 1 1] w fun e w' => OwQ W0.heap.size (insL ps i x) e w' ∧ Bw W0 w' := by
  rcases Nat.lt_or_ge i ps.length with h | h
  · rcases ho.2 with ⟨rfl, h2⟩ | ⟨g, cap, cur, rfl, hg, hh, hn, hc, _⟩
    · omega
    · rcases Nat.lt_or_ge cap (ps.length + 1) with h3 | h3
      · exact insertGrow_any W0 ps hs i h x g cap vb w hW ho hb h3
      · exact insertRoom_any W0 ps hs i h x g cap vb w hW ho hb (fun e => hne (by rw [e]; rfl)) h3
  · obtain rfl : i = ps.length := by omega
    exact insertEnd_any W0 ps hs x v vb w hW ho hb
theorem set_parts {ps : List (Nat → Int)} {i : Nat} (h : i < ps.length) (x : Nat → Int) : ps.set i x = ps.take i ++ x :: ps.drop (i + 1) := by
  rw [List.set_eq_take_append_cons_drop, if_pos h]
theorem own_there {w : World} {base g cap : Nat} {ps : List (Nat → Int)} (ho : w.ownsRow base 27 13 (.slice (some ⟨g, 0, none⟩) ps.length cap) ps.length (flatG ps)) {i : Nat} (h : i < ps.length) : w.there g (i * 13) 13 := by
  obtain ⟨hlen, h9⟩ := ho
  rcases h9 with ⟨h9, _⟩ | ⟨g', cap', cur, hv, hg, hh, hn, hc, hcs, htk⟩
  · cases h9
  injection hv with e1 _ e3
  injection e1 with e1
  injection e1 with e1
  subst e1 e3
  exact blk_there (cs := cur) hh (by have := Nat.mul_le_mul_right 13 hn; omega)
theorem own_put {w : World} {base g cap : Nat} {ps : List (Nat → Int)} (ho : w.ownsRow base 27 13 (.slice (some ⟨g, 0, none⟩) ps.length cap) ps.length (flatG ps)) {i : Nat} (h : i < ps.length) (x : Nat → Int) :
    (w.setCells g (i * 13) (pgc x)).ownsRow base 27 13 (.slice (some ⟨g, 0, none⟩) ps.length cap) (ps.set i x).length (flatG (ps.set i x)) := by
  have ht := own_there ho h
  obtain ⟨hlen, h9⟩ := ho
  rcases h9 with ⟨h9, _⟩ | ⟨g', cap', cur, hv, hg, hh, hn, hc, hcs, htk⟩
  · cases h9
  injection hv with e1 _ e3
  injection e1 with e1
  injection e1 with e1
  subst e1 e3
  have hB : Blk w g 27 cur := hh
  have hR : w.rangeAt g 0 (flatG ps) := fun j u hu => by
    have hj := (List.getElem?_eq_some_iff.1 hu).1
    rw [Nat.zero_add]
    refine hB.cell ?_
    rw [← htk, List.getElem?_take] at hu
    split at hu
    · simpa using hu
    · cases hu
  have hfl := flatG_len ps
  have htl : ((flatG ps).take (i * 13)).length = i * 13 := by rw [List.length_take, hfl]; omega
  obtain ⟨cur', b1, b2⟩ := blk_setCells (pgc x) (i * 13) w cur hB
  rw [List.length_set]
  refine own_of_range b1 (by omega) hn hc (by rw [flatG_len, List.length_set]) ?_ hg
  rw [set_parts h, flatG_append, flatG_cons, flatG_take, flatG_drop]
  refine rg_append (World.rangeAt_setCells_apart (rg_take hR (i * 13)) g (i * 13) (pgc x) (.inr (.inl (by rw [htl]; omega)))) ?_
  rw [htl, Nat.zero_add]
  refine rg_append (World.rangeAt_setCells_same w g (i * 13) (pgc x) ht) ?_
  rw [pgc_len, show i * 13 + 13 = (i + 1) * 13 by omega]
  refine World.rangeAt_setCells_apart ?_ g (i * 13) (pgc x) (.inr (.inr (by rw [pgc_len]; omega)))
  have h8 := rg_drop hR ((i + 1) * 13)
  rwa [Nat.zero_add] at h8
def addL (ps : List (Nat → Int)) (x : Nat → Int) (i : Nat) : List (Nat → Int) :=
  if thG ps (x 0) i = true then (if 0 ≤ arQ (x 1 - (ps.getD i fun _ => 0) 1) then ps.set i x else ps) else insL ps i x
def AddQ (ps : List (Nat → Int)) (x : Nat → Int) (L : List (Nat → Int)) (E : Int) : Prop :=
  (errRow ps ≠ 0 ∧ L = [] ∧ E = errRow ps) ∨ (errRow ps = 0 ∧ errPg x ≠ 0 ∧ L = [] ∧ E = errPg x) ∨ (errRow ps = 0 ∧ errPg x = 0 ∧ E = 0 ∧ ∃ i, PosG ps (x 0) i ∧ L = addL ps x i)
theorem addQ_ex (ps : List (Nat → Int)) (x : Nat → Int) : ∃ L E, AddQ ps x L E := by
  by_cases h : errRow ps = 0
  · by_cases h2 : errPg x = 0
    · obtain ⟨i, hp⟩ := pos_ex (errRow_zero h).2.2 (x 0)
      exact ⟨_, _, .inr (.inr ⟨h, h2, rfl, i, hp, rfl⟩)⟩
    · exact ⟨_, _, .inr (.inl ⟨h, h2, rfl, rfl⟩)⟩
  · exact ⟨_, _, .inl ⟨h, rfl, rfl⟩⟩
def AdR (base : Nat) (L : List (Nat → Int)) (E : Int) (e : Ending) (w' : World) : Prop := ∃ v', e = .returned (.tuple #[v', .int .i64 E]) ∧ w'.ownsRow base 27 13 v' L.length (flatG L)
theorem adR_nil (base : Nat) (E : Int) (w' : World) : AdR base [] E (.returned (.tuple #[.slice none 0 0, .int .i64 E])) w' := ⟨_, rfl, World.ownsRow_nil _ _ _ _⟩
theorem AlAdd_any (ps : List (Nat → Int)) (x : Nat → Int) (L : List (Nat → Int)) (E : Int) (h : AddQ ps x L E) (v : Value) (w : World) (hw : WdAt w) (hv : RdG w v ps) :
    Calls Tryd.prog 11 #[v, .agg (pgV x)] w fun e w' => AdR w.heap.size L E e w' ∧ Bw w w' := by
  have WH := Lib.hid (fun W hW hV => whole_any ps v W hW hV)
  have CK := Lib.hid (fun W hW => PgCheck_any x W hW)
  have HSZ : Hid ((Tryd.prog.info? 27).map (·.size) = some (pgV x).size) := Lib.hid (by kernel_rfl)
  have HPX : Hid ((pgV x).all (·.oneCell') = true) := Lib.hid (by simp [Value.oneCell', pgV])
  have HB0 := Bw.alloc (Bw.refl w) (.cells (pgV x) 27)
  have KX0 := Blk.new w 27 (pgV x)
  obtain ⟨g, hg⟩ : ∃ g, w.heap.size = g := ⟨_, rfl⟩
  have HG := Lib.hid hg
  obtain ⟨W0, hW0⟩ : ∃ W0, w.alloc (.cells (pgV x) 27) = W0 := ⟨_, rfl⟩
  have HWD := Lib.hid (hw.bw HB0)
  have HV := Lib.hid (hv.mono HB0)
  rw [hW0] at HB0 KX0 HWD HV
  rw [hg] at KX0
  have HW := Lib.hid HB0
  have KX := Lib.hid KX0
  clear HB0 KX0 hw hv
  rcases h with ⟨h1, rfl, h3⟩ | ⟨h1, h2, rfl, h3⟩ | ⟨h1, h2, rfl, i, hp, rfl⟩
  · rw [h3]
    generalize errRow ps = Er at *
    clear h3
    obtain ⟨A, hA⟩ : ∃ A, A = pgV x := ⟨_, rfl⟩
    rw [← hA] at KX hW0 ⊢
    clear hA CK HSZ HPX hg
    go_enter Tryd.func11, Tryd.ntmps11
    go_upto_region 1 with fail
    clear hW0
    go_wp2_with (first | (go_at_call 35; (with_reducible refine Calls.mono (WH.out _ HWD.out HV.out) ?_); rintro e1 w1 ⟨rfl, hb1⟩; replace HW := Lib.hid (HW.out.trans hb1); clear hb1))
    refine bodyPost_ret (v := .tuple #[.slice none 0 0, .int .i64 Er]) ?_ rfl ⟨adR_nil _ _ _, HW.out⟩
    simp [results, Tryd.results11, go_sem]
  · rw [h1] at WH
    rw [h3]
    generalize errPg x = Er at *
    clear h3
    obtain ⟨A, hA⟩ : ∃ A, A = pgV x := ⟨_, rfl⟩
    rw [← hA] at KX hW0 CK HSZ HPX ⊢
    clear hA hg
    go_enter Tryd.func11, Tryd.ntmps11
    go_upto_region 1 with fail
    clear hW0
    go_wp2_with (first | (go_at_call 35; (with_reducible refine Calls.mono (WH.out _ HWD.out HV.out) ?_); rintro e1 w1 ⟨rfl, hb1⟩; replace HW := Lib.hid (HW.out.trans hb1); replace KX := Lib.hid (KX.out.bw hb1); replace HWD := Lib.hid (HWD.out.bw hb1); clear hb1) | ((with_reducible refine at_load 27 (.tmp 3) ?_); refine wpList_load_row rfl 27 (.tmp 3) rfl g (by simp [Act.eval, Act.put, HG.out]) 27 A (0, 0) _ KX.out Tryd.underlying27 rfl HSZ.out ?_) | (go_at_call 22; (with_reducible refine Calls.mono (CK.out _ HWD.out) ?_); rintro e1 w1 ⟨rfl, hb1⟩; replace HW := Lib.hid (HW.out.trans hb1); clear hb1))
    refine bodyPost_ret (v := .tuple #[.slice none 0 0, .int .i64 Er]) ?_ rfl ⟨adR_nil _ _ _, HW.out⟩
    simp [results, Tryd.results11, go_sem]
  · rw [h1] at WH
    rw [h2] at CK
    obtain ⟨hlen, hok, ha⟩ := errRow_zero h1
    have FI := Lib.hid (fun v W hV => find27_any ps (by omega) (x 0) i hp v W hV)
    have CLN := Lib.hid (fun W hV => clonePg_any ps (by omega) v W hV)
    unfold OwQ at CLN
    have INS := Lib.hid (fun v vb W h1 h2 h3 h4 => insertPg_any w ps (by omega) i hp.1 x v vb W h1 h2 h3 h4)
    unfold OwQ at INS
    have HPX0 := Lib.hid (pgV_at x 0 (by omega))
    have HPX1 := Lib.hid (pgV_at x 1 (by omega))
    have hth : thG ps (x 0) i = true → i < ps.length := fun h9 => (of_decide_eq_true h9).1
    unfold addL
    have HPL := Lib.hid (And.intro h2 (And.intro hok hlen))
    clear h1 h2 ha hok hp
    generalize x 0 = xn at *
    generalize thG ps xn i = T at *
    cases T with
    | false =>
      rw [if_neg (by decide)]
      clear hth HPL HPX1
      obtain ⟨A, hA⟩ : ∃ A, A = pgV x := ⟨_, rfl⟩
      have hfold := fold_pg x
      have hA13 : (pgV x).size = 13 := rfl
      rw [← hA] at KX hW0 CK HSZ HPX HPX0 INS hfold hA13 ⊢
      clear hA
      go_enter Tryd.func11, Tryd.ntmps11
      go_upto_region 1 with fail
      clear hW0
      go_upto_region 8 with (first | (go_at_call 35; (with_reducible refine Calls.mono (WH.out _ HWD.out HV.out) ?_); rintro e1 w1 ⟨rfl, hb1⟩; replace HW := Lib.hid (HW.out.trans hb1); replace HV := Lib.hid (HV.out.mono hb1); replace KX := Lib.hid (KX.out.bw hb1); replace HWD := Lib.hid (HWD.out.bw hb1); clear hb1) | ((with_reducible refine at_load 27 (.tmp 3) ?_); refine wpList_load_row rfl 27 (.tmp 3) rfl g (by simp [Act.eval, Act.put, HG.out]) 27 A (0, 0) _ KX.out Tryd.underlying27 rfl HSZ.out ?_) | (go_at_call 22; (with_reducible refine Calls.mono (CK.out _ HWD.out) ?_); rintro e1 w2 ⟨rfl, hb1⟩; replace HW := Lib.hid (HW.out.trans hb1); replace HV := Lib.hid (HV.out.mono hb1); replace KX := Lib.hid (KX.out.bw hb1); replace HWD := Lib.hid (HWD.out.bw hb1); clear hb1) | (go_at_call 36; (with_reducible refine Calls.mono (CLN.out _ HV.out) ?_); rintro e1 w3 ⟨⟨v3, rfl, ho⟩, hb1⟩; have O1 := Lib.hid (own_down ho HW.out.size); replace HW := Lib.hid (HW.out.trans hb1); replace KX := Lib.hid (KX.out.bw hb1); clear hb1 ho))
      have d0 := KX.out.cell HPX0.out
      have RD := Lib.hid (own_rdG O1.out (by omega)).1
      go_upto_region 10 with (first | (go_at_call 37; (with_reducible refine Calls.mono (FI.out _ _ RD.out) ?_); rintro e1 w4 ⟨rfl, hb1⟩; replace O1 := Lib.hid (own_bw O1.out hb1); replace HW := Lib.hid (HW.out.trans hb1); replace KX := Lib.hid (KX.out.bw hb1); clear hb1))
      have NB := Lib.hid (Blk.new w4 27 A)
      have hba := Bw.alloc (Bw.refl w4) (.cells A 27)
      have HNE := Lib.hid (show v3.ownBlock ≠ some w4.heap.size from fun e => by
        rcases O1.out.2 with ⟨rfl, _⟩ | ⟨g', _, _, rfl, _, hh, _⟩
        · cases e
        · have h9 := (Array.getElem?_eq_some_iff.1 hh).1
          simp only [Value.ownBlock] at e
          injection e with e
          omega)
      have O2 := Lib.hid (own_bw O1.out hba)
      have HW2 := Lib.hid (HW.out.trans hba)
      clear hba d0
      go_wp2_with (first | ((with_reducible refine at_load 27 (.tmp 3) ?_); refine wpList_load_row rfl 27 (.tmp 3) rfl g (by simp [Act.eval, Act.put, HG.out]) 27 A (0, 0) _ KX.out Tryd.underlying27 rfl HSZ.out ?_) | (go_at_call 38; go_loud (with_reducible refine Calls.mono (INS.out _ _ _ HW2.out O2.out NB.out HNE.out) ?_); rintro e1 w5 ⟨⟨v5, rfl, ho⟩, hb1⟩; have O3 := Lib.hid ho; replace HW := Lib.hid hb1; clear hb1 ho))
      refine bodyPost_ret (v := .tuple #[v5, .int .i64 0]) ?_ rfl ⟨⟨_, rfl, O3.out⟩, HW.out⟩
      simp [results, Tryd.results11, go_sem]
    | true =>
      rw [if_pos rfl]
      have hil := hth rfl
      clear hth INS
      have HY := Lib.hid (getD_some hil)
      have HYK := Lib.hid (HPL.out.2.1 i hil)
      obtain ⟨y, hy⟩ : ∃ y, (ps.getD i fun _ => 0) = y := ⟨_, rfl⟩
      rw [hy] at HY HYK ⊢
      clear hy
      have hb1' := (pg_lim HPL.out.1).2.1
      have hb2' := (pg_lim HYK.out).2.1
      have AR := Lib.hid (fun W => around_any (x 1 - y 1) (by omega) W)
      have hwr : IntKind.i64.wrap (x 1 - y 1) = x 1 - y 1 := by rw [IntKind.wrap_i64]; omega
      clear HYK HPL
      generalize arQ (x 1 - y 1) = q at AR ⊢
      have HY1 := Lib.hid (show (pgc y)[1]? = some (.int .i64 (y 1)) from rfl)
      generalize y 1 = y1 at *
      generalize x 1 = x1 at *
      have hiz : (i : Int) < ps.length := by omega
      have hi0 : (0 : Int) ≤ i := by omega
      have HXC := Lib.hid (show (pgV x).toList = pgc x from rfl)
      obtain ⟨A, hA⟩ : ∃ A, A = pgV x := ⟨_, rfl⟩
      have hA13 : (pgV x).size = 13 := rfl
      rw [← hA] at KX hW0 CK HSZ HPX HPX0 HPX1 HXC hA13 ⊢
      clear hA hb1' hb2'
      by_cases hq : 0 ≤ q
      · rw [if_pos hq]
        go_enter Tryd.func11, Tryd.ntmps11
        go_upto_region 1 with fail
        clear hW0
        go_upto_region 8 with (first | (go_at_call 35; (with_reducible refine Calls.mono (WH.out _ HWD.out HV.out) ?_); rintro e1 w1 ⟨rfl, hb1⟩; replace HW := Lib.hid (HW.out.trans hb1); replace HV := Lib.hid (HV.out.mono hb1); replace KX := Lib.hid (KX.out.bw hb1); replace HWD := Lib.hid (HWD.out.bw hb1); clear hb1) | ((with_reducible refine at_load 27 (.tmp 3) ?_); refine wpList_load_row rfl 27 (.tmp 3) rfl g (by simp [Act.eval, Act.put, HG.out]) 27 A (0, 0) _ KX.out Tryd.underlying27 rfl HSZ.out ?_) | (go_at_call 22; (with_reducible refine Calls.mono (CK.out _ HWD.out) ?_); rintro e1 w2 ⟨rfl, hb1⟩; replace HW := Lib.hid (HW.out.trans hb1); replace HV := Lib.hid (HV.out.mono hb1); replace KX := Lib.hid (KX.out.bw hb1); replace HWD := Lib.hid (HWD.out.bw hb1); clear hb1) | (go_at_call 36; (with_reducible refine Calls.mono (CLN.out _ HV.out) ?_); rintro e1 w3 ⟨⟨v3, rfl, ho⟩, hb1⟩; have O1 := Lib.hid (own_down ho HW.out.size); replace HW := Lib.hid (HW.out.trans hb1); replace KX := Lib.hid (KX.out.bw hb1); clear hb1 ho))
        have d0 := KX.out.cell HPX0.out
        have RD := Lib.hid (own_rdG O1.out (by omega)).1
        go_upto_region 11 with (first | (go_at_call 37; (with_reducible refine Calls.mono (FI.out _ _ RD.out) ?_); rintro e1 w4 ⟨rfl, hb1⟩; replace O1 := Lib.hid (own_bw O1.out hb1); replace HW := Lib.hid (HW.out.trans hb1); replace KX := Lib.hid (KX.out.bw hb1); clear hb1))
        rcases O1.out.2 with ⟨rfl, h9⟩ | ⟨b3, c3, cur3, rfl, hg3, hh3, hn3, hc3, _⟩
        · exact absurd hil (by rw [h9]; exact Nat.not_lt_zero _)
        have d1 := KX.out.cell HPX1.out
        have d2 : w4.cell? ⟨b3, i * 13 + 1, none⟩ = some (.int .i64 y1) := by
          have h8 := rd_rg2 (own_rdG O1.out (by omega)).1 HY.out 1 _ HY1.out
          rwa [Nat.zero_add] at h8
        have e1 := fun p' : Ext w4 => Ext.cell' d1 p'
        have e2 := fun p' : Ext w4 => Ext.cell' d2 p'
        clear d0 d1 d2 hh3
        (refine wp_region_quiet_ext (by kernel_rfl) (by kernel_rfl) ?_; (repeat (go_big_quiet_step (((go_at_call 39; exact Calls.ext_of (AR.out _)))))); refine wpQuiet_nil ?_; rintro wq ⟨⟨_, hbq⟩, rfl⟩; obtain ⟨hccq, hffq⟩ := Bw.cells hbq; have hszq := Bw.size hbq)
        replace O1 := Lib.hid (own_bw O1.out hbq)
        replace HW := Lib.hid (HW.out.trans hbq)
        replace KX := Lib.hid (KX.out.bw hbq)
        clear e1 e2 hbq
        have HTH := Lib.hid (own_there O1.out hil)
        have OP := Lib.hid (own_put O1.out hil x)
        have HWP := Lib.hid (bw_setCells hg3 (pgc x) (i * 13) wq HW.out)
        rw [← HXC.out] at OP HWP
        go_wp2_with (first | ((with_reducible refine at_load 27 (.tmp 3) ?_); refine wpList_load_row rfl 27 (.tmp 3) rfl g (by simp [Act.eval, Act.put, HG.out]) 27 A (0, 0) _ KX.out Tryd.underlying27 rfl HSZ.out ?_) | ((with_reducible refine at_store 27 (.tmp 52) (.tmp 51) ?_); refine wpList_store_mid rfl 27 (.tmp 52) (.tmp 51) rfl b3 (i * 13) A (by simp [Act.eval, Act.put]) rfl (by rw [hA13]; exact HTH.out) HSZ.out HPX.out ?_))
        refine bodyPost_ret (v := .tuple #[_, .int .i64 0]) ?_ rfl ⟨⟨_, rfl, OP.out⟩, HWP.out⟩
        simp [results, Tryd.results11, go_sem]
      · rw [if_neg hq]
        go_enter Tryd.func11, Tryd.ntmps11
        go_upto_region 1 with fail
        clear hW0
        go_upto_region 8 with (first | (go_at_call 35; (with_reducible refine Calls.mono (WH.out _ HWD.out HV.out) ?_); rintro e1 w1 ⟨rfl, hb1⟩; replace HW := Lib.hid (HW.out.trans hb1); replace HV := Lib.hid (HV.out.mono hb1); replace KX := Lib.hid (KX.out.bw hb1); replace HWD := Lib.hid (HWD.out.bw hb1); clear hb1) | ((with_reducible refine at_load 27 (.tmp 3) ?_); refine wpList_load_row rfl 27 (.tmp 3) rfl g (by simp [Act.eval, Act.put, HG.out]) 27 A (0, 0) _ KX.out Tryd.underlying27 rfl HSZ.out ?_) | (go_at_call 22; (with_reducible refine Calls.mono (CK.out _ HWD.out) ?_); rintro e1 w2 ⟨rfl, hb1⟩; replace HW := Lib.hid (HW.out.trans hb1); replace HV := Lib.hid (HV.out.mono hb1); replace KX := Lib.hid (KX.out.bw hb1); replace HWD := Lib.hid (HWD.out.bw hb1); clear hb1) | (go_at_call 36; (with_reducible refine Calls.mono (CLN.out _ HV.out) ?_); rintro e1 w3 ⟨⟨v3, rfl, ho⟩, hb1⟩; have O1 := Lib.hid (own_down ho HW.out.size); replace HW := Lib.hid (HW.out.trans hb1); replace KX := Lib.hid (KX.out.bw hb1); clear hb1 ho))
        have d0 := KX.out.cell HPX0.out
        have RD := Lib.hid (own_rdG O1.out (by omega)).1
        go_upto_region 11 with (first | (go_at_call 37; (with_reducible refine Calls.mono (FI.out _ _ RD.out) ?_); rintro e1 w4 ⟨rfl, hb1⟩; replace O1 := Lib.hid (own_bw O1.out hb1); replace HW := Lib.hid (HW.out.trans hb1); replace KX := Lib.hid (KX.out.bw hb1); clear hb1))
        rcases O1.out.2 with ⟨rfl, h9⟩ | ⟨b3, c3, cur3, rfl, hg3, hh3, hn3, hc3, _⟩
        · exact absurd hil (by rw [h9]; exact Nat.not_lt_zero _)
        have d1 := KX.out.cell HPX1.out
        have d2 : w4.cell? ⟨b3, i * 13 + 1, none⟩ = some (.int .i64 y1) := by
          have h8 := rd_rg2 (own_rdG O1.out (by omega)).1 HY.out 1 _ HY1.out
          rwa [Nat.zero_add] at h8
        have e1 := fun p' : Ext w4 => Ext.cell' d1 p'
        have e2 := fun p' : Ext w4 => Ext.cell' d2 p'
        clear d0 d1 d2 hh3
        (refine wp_region_quiet_ext (by kernel_rfl) (by kernel_rfl) ?_; (repeat (go_big_quiet_step (((go_at_call 39; exact Calls.ext_of (AR.out _)))))); refine wpQuiet_nil ?_; rintro wq ⟨⟨_, hbq⟩, rfl⟩; obtain ⟨hccq, hffq⟩ := Bw.cells hbq; have hszq := Bw.size hbq)
        replace O1 := Lib.hid (own_bw O1.out hbq)
        replace HW := Lib.hid (HW.out.trans hbq)
        replace KX := Lib.hid (KX.out.bw hbq)
        clear e1 e2 hbq
        go_wp2
        refine bodyPost_ret (v := .tuple #[_, .int .i64 0]) ?_ rfl ⟨⟨_, rfl, O1.out⟩, HW.out⟩
        simp [results, Tryd.results11, go_sem]
end Go.Proofs.Sky

namespace Go.Proofs.Sky
open Go Go.RowKit Go.Shelf
attribute [local go_sem] Oper.semAt_some
set_option maxHeartbeats 4000000
set_option maxRecDepth 8000
/-! chapter 27: the document's Add -/
theorem take_nextG (ps : List (Nat → Int)) (k : Nat) (h : k < ps.length) : ps.take (k + 1) = ps.take k ++ [ps.getD k fun _ => 0] := by
  rw [List.take_add_one, getD_some h]; rfl
theorem insL_app {l : List (Nat → Int)} {i : Nat} (h : i ≤ l.length) (x y : Nat → Int) : insL (l ++ [y]) i x = insL l i x ++ [y] := by
  unfold insL
  rw [List.take_append_of_le_length h, List.drop_append_of_le_length h]
  simp
theorem set_app {l : List (Nat → Int)} {i : Nat} (h : i < l.length) (x y : Nat → Int) : (l ++ [y]).set i x = l.set i x ++ [y] := by
  rw [List.set_append_left _ _ h]
/-- what stands in out after k rounds: m = 0 insert, 1 replace, 2 keep -/
def accG (m : Nat) (ps : List (Nat → Int)) (i : Nat) (x : Nat → Int) (k : Nat) : List (Nat → Int) :=
  if k ≤ i then ps.take k else if m = 0 then insL (ps.take k) i x else if m = 1 then (ps.take k).set i x else ps.take k
theorem accG_zero (m : Nat) (ps : List (Nat → Int)) (i : Nat) (x : Nat → Int) : accG m ps i x 0 = [] := by
  unfold accG; rw [if_pos (Nat.zero_le _)]; rfl
theorem accG_other (m : Nat) {ps : List (Nat → Int)} {i k : Nat} (x : Nat → Int) (hk : k < ps.length) (h : k ≠ i) : accG m ps i x (k + 1) = accG m ps i x k ++ [ps.getD k fun _ => 0] := by
  unfold accG
  have hl : (ps.take k).length = k := by rw [List.length_take]; omega
  rcases Nat.lt_or_ge k i with h1 | h1
  · rw [if_pos (show k + 1 ≤ i by omega), if_pos (show k ≤ i by omega), take_nextG ps k hk]
  · rw [if_neg (show ¬ k + 1 ≤ i by omega), if_neg (show ¬ k ≤ i by omega), take_nextG ps k hk]
    split
    · rw [insL_app (by omega)]
    · split
      · rw [set_app (by omega)]
      · rfl
theorem accG_ins {ps : List (Nat → Int)} {i : Nat} (x : Nat → Int) (hk : i < ps.length) : accG 0 ps i x (i + 1) = accG 0 ps i x i ++ [x, ps.getD i fun _ => 0] := by
  unfold accG
  have hl : (ps.take i).length = i := by rw [List.length_take]; omega
  rw [if_neg (by omega), if_pos (Nat.le_refl _), if_pos rfl, take_nextG ps i hk, insL_app (by omega)]
  have h9 := insL_end (ps.take i) x
  rw [hl] at h9
  rw [h9]; simp
theorem accG_rep {ps : List (Nat → Int)} {i : Nat} (x : Nat → Int) (hk : i < ps.length) : accG 1 ps i x (i + 1) = accG 1 ps i x i ++ [x] := by
  unfold accG
  have hl : (ps.take i).length = i := by rw [List.length_take]; omega
  rw [if_neg (by omega), if_pos (Nat.le_refl _), if_neg (by decide), if_pos rfl, take_nextG ps i hk, List.set_append_right _ _ (by omega), hl, Nat.sub_self]
  rfl
theorem accG_keep {ps : List (Nat → Int)} {i : Nat} (x : Nat → Int) (hk : i < ps.length) : accG 2 ps i x (i + 1) = accG 2 ps i x i ++ [ps.getD i fun _ => 0] := by
  unfold accG
  rw [if_neg (by omega), if_pos (Nat.le_refl _), if_neg (by decide), if_neg (by decide), take_nextG ps i hk]
theorem accG_len (m : Nat) (ps : List (Nat → Int)) (i : Nat) (x : Nat → Int) (k : Nat) : (accG m ps i x k).length ≤ ps.length + 1 := by
  unfold accG
  have hl : (ps.take k).length ≤ ps.length := by rw [List.length_take]; omega
  split
  · omega
  · split
    · rw [insL_len]; omega
    · split
      · rw [List.length_set]; omega
      · omega
def mdG (ps : List (Nat → Int)) (x : Nat → Int) (i : Nat) : Nat := if thG ps (x 0) i = true then (if 0 ≤ arQ (x 1 - (ps.getD i fun _ => 0) 1) then 1 else 2) else 0
theorem accG_end {ps : List (Nat → Int)} {x : Nat → Int} {i : Nat} (hi : i < ps.length) : accG (mdG ps x i) ps i x ps.length = addL ps x i := by
  unfold accG mdG addL
  rw [if_neg (by omega), List.take_length]
  split
  · split
    · rw [if_neg (by decide), if_pos rfl]
    · rw [if_neg (by decide), if_neg (by decide)]
  · rw [if_pos rfl]
theorem accG_tail {ps : List (Nat → Int)} {x : Nat → Int} : accG (mdG ps x ps.length) ps ps.length x ps.length ++ [x] = addL ps x ps.length := by
  unfold accG addL
  rw [if_pos (Nat.le_refl _), List.take_length, if_neg (by unfold thG; simp), insL_end]
theorem rg_two {w : World} {b : Nat} {x y : Nat → Int} (h : w.rangeAt b 0 (pgc x ++ pgc y)) : ∀ i z, [x, y][i]? = some z → w.rangeAt b (0 + i * 13) (pgc z) := fun i z hi => by
  match i, hi with
  | 0, hi => simp at hi; subst hi; exact fun j u hu => h j u (by rw [List.getElem?_append_left (by exact (List.getElem?_eq_some_iff.1 hu).1)]; exact hu)
  | 1, hi => 
    simp at hi
    subst hi
    intro j u hu
    have h9 := h (13 + j) u (by rw [List.getElem?_append_right (by rw [pgc_len]; omega), pgc_len, Nat.add_sub_cancel_left]; exact hu)
    rwa [show 0 + (13 + j) = 0 + 1 * 13 + j by omega] at h9
section
variable {P : Program} {o : Oper} {a : Act} {w : World} {K : Act → World → Prop} {Q : Exit → Act → World → Prop}
theorem wp_build2 (t : TypeId) (p q : Operand) (ho : o.op = .buildSlice t 2 #[(0, p), (1, q)]) (dst : Option Tmp) (hd : o.dst = dst) (ht : Tryd.prog.underlying t = some (.slice 27)) (x y : Nat → Int) (hp : a.eval p = .agg (pgV x)) (hq : a.eval q = .agg (pgV y))
    (h : K (a.put dst (.slice (some ⟨w.heap.size, 0, none⟩) 2 2)) (w.alloc (.cells (pgc x ++ pgc y).toArray 27))) : o.wp Tryd.prog a w K Q := by
  subst hd
  have hs : ∀ w, (sizeOf 27).run Tryd.prog w = .ok 13 w := fun w => by kernel_rfl
  have hz : ∀ w, (zeroValue 27).run Tryd.prog w = .ok (.agg #[.int .i64 0, .int .i64 0, .int .i64 0, .int .i64 0, .int .i64 0, .int .i64 0, .int .i64 0, .int .i64 0, .int .i64 0, .int .i64 0, .int .i64 0, .int .i64 0, .int .i64 0]) w := fun w => by kernel_rfl
  unfold Oper.wp execOp
  unfold pgc at h
  unfold pgV at h hp hq
  generalize x 0 = a0, x 1 = a1, x 2 = a2, x 3 = a3, x 4 = a4, x 5 = a5, x 6 = a6, x 7 = a7, x 8 = a8, x 9 = a9, x 10 = a10, x 11 = a11, x 12 = a12 at h hp
  generalize y 0 = b0, y 1 = b1, y 2 = b2, y 3 = b3, y 4 = b4, y 5 = b5, y 6 = b6, y 7 = b7, y 8 = b8, y 9 = b9, y 10 = b10, y 11 = b11, y 12 = b12 at h hq
  simp only [ho, List.map_toArray, List.map_cons, List.map_nil, hp, hq]
  simp [go_sem, run_underlying ht, hs, hz]
  exact h
end
end Go.Proofs.Sky
