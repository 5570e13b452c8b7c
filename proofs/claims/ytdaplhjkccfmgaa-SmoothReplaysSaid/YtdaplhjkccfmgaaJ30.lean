/-
  lemmas for the theorems of this claim. No conditions beyond those written in the statements.
-/
import Derived.Test.YtdaplhjkccfmgaaI30
set_option linter.unusedVariables false
set_option linter.unusedSimpArgs false
set_option linter.unnecessarySimpa false
namespace Go.Proofs.Sky
open Go Go.RowKit Go.Shelf
set_option maxHeartbeats 1000000
theorem Blk.row {w : World} {g : Nat} {T : TypeId} {cs : Array Value} (h : Blk w g T cs) (cs' : Array Value) : Blk (w.setRow g cs') g T cs' := setRow_heap _ _ _ _ _ _ h
theorem Blk.row_other {w : World} {g : Nat} {T : TypeId} {cs : Array Value} (h : Blk w g T cs) {g' : Nat} (hn : g ≠ g') (cs' : Array Value) : Blk (w.setRow g' cs') g T cs := (setRow_other w g' g cs' hn).trans h
/-- a block that holds a ring of these differences -/
def RingB (w : World) (g : Nat) (r : Rg) : Prop := ∃ cs, Blk w g 53 cs ∧ RingV (.agg cs) r
theorem of_any (Wn : Nat) (L : Int) (ds : List Int) (v : Value) (w : World) (hv : RdI w v ds) (hW0 : (1 : Int) ≤ Wn) (hW1 : (Wn : Int) ≤ 100) (hl : (ds.length : Int) ≤ Wn) (hds : OkD ds) :
    Calls Try.prog 24 #[.agg #[.int .i64 Wn, .int .i64 L, v]] w fun e w' => (∃ v', e = .returned v' ∧ RingV v' (Rg.of Wn ds)) ∧ Bw w w' := by
  have HV := Lib.hid hv
  obtain ⟨ad, cap, rfl⟩ := hv.form
  clear hv
  have hz := zeroRing
  have hbt : Try.prog.built 53 [(3, .int .i64 Wn)] = some (ringR Wn) := builtRing Wn
  have hrs : (ringR (Wn : Int)).size = 104 := (ringR_ok _).size
  have hrk := (ringR_ok (Wn : Int)).ok
  have HR0 : Hid (RingV (.agg (ringR Wn)) (Rg.of Wn (ds.take 0))) := Lib.hid ⟨by rw [ringR_new]; rfl, Rg.new_ok _ (by omega) (by omega)⟩
  have HD := Lib.hid hds; clear hds
  obtain ⟨n, hn⟩ : ∃ n, n = ds.length := ⟨_, rfl⟩
  rw [← hn] at HV hl ⊢
  have HN := Lib.hid hn; clear hn
  have h0s : ring0.size = 104 := ring0_ok.size
  have HB2 : Hid (Blk (((w.alloc (.cells #[.int .i64 Wn, .int .i64 L, .slice ad n cap] 34)).alloc (.cells ring0 53)).alloc (.cells ring0 53)) (w.heap.size + 1) 53 ring0) := Lib.hid (by have := (Blk.new (w.alloc (.cells #[.int .i64 Wn, .int .i64 L, .slice ad n cap] 34)) 53 ring0).alloc (.cells ring0 53); simpa using this)
  have HB3 : Hid (Blk (((w.alloc (.cells #[.int .i64 Wn, .int .i64 L, .slice ad n cap] 34)).alloc (.cells ring0 53)).alloc (.cells ring0 53)) (w.heap.size + 1 + 1) 53 ring0) := Lib.hid (by have := Blk.new ((w.alloc (.cells #[.int .i64 Wn, .int .i64 L, .slice ad n cap] 34)).alloc (.cells ring0 53)) 53 ring0; simpa using this)
  have HB1 : Hid (Blk (((w.alloc (.cells #[.int .i64 Wn, .int .i64 L, .slice ad n cap] 34)).alloc (.cells ring0 53)).alloc (.cells ring0 53)) w.heap.size 34 #[.int .i64 Wn, .int .i64 L, .slice ad n cap]) := Lib.hid (((Blk.new w _ _).alloc _).alloc _)
  have HG : Hid (Bw w (((w.alloc (.cells #[.int .i64 Wn, .int .i64 L, .slice ad n cap] 34)).alloc (.cells ring0 53)).alloc (.cells ring0 53))) := Lib.hid (by repeat (first | exact Bw.refl _ | assumption | refine Bw.alloc ?_ _ | refine Bw.drew ?_ | refine Bw.trans ?_ (by assumption) | refine Bw.setCell ?_ (by simp; try omega) _))
  have HX : Hid (∀ W1, W1 = (((w.alloc (.cells #[.int .i64 Wn, .int .i64 L, .slice ad n cap] 34)).alloc (.cells ring0 53)).alloc (.cells ring0 53)).setRow (w.heap.size + 1 + 1) (ringR Wn) → Bw w W1 ∧ Blk W1 (w.heap.size + 1 + 1) 53 (ringR Wn) ∧ Blk W1 (w.heap.size + 1) 53 ring0 ∧ W1.cell? ⟨w.heap.size, 2, none⟩ = some (.slice ad n cap)) := Lib.hid (by
    rintro _ rfl
    exact ⟨Bw.setRow HG.out (by omega) _, HB3.out.row _, HB2.out.row_other (by omega) _, (HB1.out.row_other (by omega) _).cell rfl⟩)
  go_enter Try.func24, Try.ntmps24
  go_wp2_with (refine wpList_store_row rfl 53 _ _ rfl (w.heap.size + 1 + 1) (ringR Wn) rfl rfl 53 ring0 HB3.out (by rw [infoRing, hrs]) (by rw [ring0_ok.size, hrs]) hrk ?_; generalize hW1e : World.setRow _ (w.heap.size + 1 + 1) (ringR Wn) = W1; obtain ⟨x1, x2, x3, k2⟩ := HX.out W1 hW1e.symm; clear hW1e; have X1 := Lib.hid x1; clear x1; have X2 := Lib.hid x2; clear x2; have X3 := Lib.hid x3; clear x3)
  clear HB1 HB2 HB3 HG HX hz hbt
  go_loopg [12] n (fun gg s12 wr => ∃ k : Nat, k ≤ n ∧ n - k ≤ gg ∧ s12 = .int .i64 k ∧ Hid (Bw w wr) ∧ Hid (RingB wr (w.heap.size + 1 + 1) (Rg.of Wn (ds.take k))) ∧ Hid (Blk wr (w.heap.size + 1) 53 ring0))
  case atStart => exact ⟨0, Nat.zero_le _, by omega, rfl, X1.out, ⟨_, X2.out, HR0.out⟩, X3.out⟩
  case round =>
    obtain ⟨k, hk, hg, rfl, hbw, hrb, hk2⟩ := hrel
    obtain ⟨cs, hk3, hrv⟩ := hrb.out
    have HK3 := Lib.hid hk3; clear hk3
    have HK2 := Lib.hid hk2.out; clear hk2
    have HRV := Lib.hid hrv
    obtain ⟨_, e, hsz, hok⟩ := hrv.form
    cases e
    clear hrb hrv
    by_cases hlt : k < n
    · have hltz : (k : Int) < (n : Int) := by omega
      obtain ⟨_, a2, c2, ha, hr4⟩ := HV.out
      simp only [Value.slice.injEq] at ha
      obtain ⟨rfl, hz9, rfl⟩ := ha
      clear hz9
      have hq := HN.out
      obtain ⟨bb, off, rfl, hbb, hc⟩ := hr4.resolve_left (by intro h; rw [h] at hq; simp at hq; omega)
      have hc1 := hbw.out.cell' (hc k (by omega))
      have hdd := HD.out _ (getD_mem ds k 0 (by omega))
      have HT := Lib.hid (show (Rg.of Wn (ds.take k)).push (ds.getD k 0) = Rg.of Wn (ds.take (k + 1)) by rw [take_snoc ds k 0 (by omega), Rg.of_snoc])
      have HO : Hid (OkD (Rg.of Wn (ds.take k)).ds) := Lib.hid (by rw [Rg.of_ds _ _ (by have := List.length_take_le k ds; omega)]; exact fun x hx => HD.out x (List.mem_of_mem_take hx))
      generalize ds.getD k 0 = x at hc1 hdd HT
      have HWi := Lib.hid (fun W' => with_any (.agg cs) (Rg.of Wn (ds.take k)) x W' HRV.out HO.out hdd.1 hdd.2)
      rw [HT.out] at HWi
      clear hr4 hc hdd HT HO hq
      go_wp2_with (first | (refine wpList_load_row rfl 53 _ rfl (w.heap.size + 1 + 1) rfl 53 cs (0, 0) _ HK3.out Try.underlying53 rfl (by rw [infoRing, hsz]) ?_) | (go_at_call 35; refine (HWi.out _).mono ?_; rintro e w2 ⟨⟨v2, rfl, hr2⟩, hb2⟩; have HR2 := Lib.hid hr2; obtain ⟨cs2, rfl, hsz2, hok2⟩ := hr2.form; clear hr2) | (refine wpList_store_row rfl 53 _ _ rfl (w.heap.size + 1 + 1) cs2 rfl rfl 53 cs (HK3.out.bw hb2) (by rw [infoRing, hsz2]) (by rw [hsz, hsz2]) hok2 ?_))
      have R1 : Hid (RingB (w2.setRow (w.heap.size + 1 + 1) cs2) (w.heap.size + 1 + 1) (Rg.of Wn (ds.take (k + 1)))) := Lib.hid ⟨cs2, (HK3.out.bw hb2).row _, HR2.out⟩
      have R2 : Hid (Blk (w2.setRow (w.heap.size + 1 + 1) cs2) (w.heap.size + 1) 53 ring0) := Lib.hid ((HK2.out.bw hb2).row_other (by omega) _)
      have R3 : Hid (Bw w (w2.setRow (w.heap.size + 1 + 1) cs2)) := Lib.hid (Bw.setRow (hbw.out.trans hb2) (by omega) _)
      go_roundg (n - (k + 1))
      case measure => omega
      case rel => exact ⟨k + 1, by omega, by omega, by go_num, R3.out, R1.out, R2.out⟩
    · have hltz : ¬ (k : Int) < (n : Int) := by omega
      obtain rfl : k = n := by omega
      go_wp2_with (first | (refine wpList_load_row rfl 53 _ rfl (w.heap.size + 1 + 1) rfl 53 cs (0, 0) _ HK3.out Try.underlying53 rfl (by rw [infoRing, hsz]) ?_) | (refine wpList_store_row rfl 53 _ _ rfl (w.heap.size + 1) cs rfl rfl 53 ring0 HK2.out (by rw [infoRing, hsz]) (by rw [ring0_ok.size, hsz]) hok ?_))
      refine bodyPost_ret (v := .agg cs) ?_ rfl ⟨⟨_, rfl, ?_⟩, Bw.setRow hbw.out (by omega) _⟩
      · exact results_cell_row (P := Try.prog) Try.results24 _ _ (w.heap.size + 1) 53 cs (0, 0) _ rfl (HK2.out.row _) Try.underlying53 rfl (by rw [infoRing, hsz])
      · have := HRV.out; rw [HN.out, List.take_length] at this; exact this
end Go.Proofs.Sky
