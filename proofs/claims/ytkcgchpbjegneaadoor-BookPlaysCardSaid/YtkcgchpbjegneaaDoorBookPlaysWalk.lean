/-
  The walk of openbelllaw.BookPlays.
-/
import Derived.WalkKit
import Derived.WalkLawsBesides
import Derived.WalkSpells
import Derived.Deep.QuietTactic
import Derived.BigQuiet
import Derived.Deep.LoopGhost
import Derived.Deep.DeepCutAuto
import Derived.Deep.CutBlock
import Derived.Laws.StructEq
import Derived.Test.YtkcgchpbjegneaaDoorDuo
namespace Go.Proofs.YtkcgchpbjegneaaDoor
open Go.RowKit
set_option linter.unusedVariables false

theorem side_bad (b : Nat) (s : Int) (w : World) (h1 : s ≠ 1) (h2 : s ≠ 2) : Calls Tryd.prog 15 #[.pointer (some ⟨b, 0, none⟩), .int .i64 s] w fun e w' => e = .returned (.tuple #[.slice none 0 0, errV 1]) ∧ Below w.heap.size w w' := by
  have d1 := bneT h1
  have d2 := bneT h2
  clear h1 h2
  go_enter Tryd.func15, Tryd.ntmps15
  go_wp2
  go_ret2
  exact ⟨rfl, Below.refl _ _⟩
theorem depth_bad (b : Nat) (s : Int) (w : World) (h1 : s ≠ 1) (h2 : s ≠ 2) : Calls Tryd.prog 17 #[.pointer (some ⟨b, 0, none⟩), .int .i64 s] w fun e w' => e = .returned (.tuple #[.slice none 0 0, errV 1]) ∧ Below w.heap.size w w' := by
  have d1 := bneT h1
  have d2 := bneT h2
  clear h1 h2
  go_enter Tryd.func17, Tryd.ntmps17
  go_wp2
  go_ret2
  exact ⟨rfl, Below.refl _ _⟩
theorem best_bad (b : Nat) (s : Int) (w : World) (h1 : s ≠ 1) (h2 : s ≠ 2) : Calls Tryd.prog 16 #[.pointer (some ⟨b, 0, none⟩), .int .i64 s] w fun e w' => e = .returned (.tuple #[.agg #[.int .i64 0, .int .i64 0, .int .i64 0, .int .i64 0, .int .i64 0], errV 1]) ∧ Below w.heap.size w w' := by
  have d1 := bneT h1
  have d2 := bneT h2
  clear h1 h2
  go_enter Tryd.func16, Tryd.ntmps16
  go_wp2
  have hb : Below w.heap.size w (w.alloc (.cells (boxO noO) 30)) := (Below.refl _ _).alloc (Nat.le_refl _) _
  have hx : Blk ((w.alloc (.cells (boxO noO) 30)).alloc (.cells #[errV 1] 35)) w.heap.size 30 (boxO noO) := Blk.alloc (Blk.new _ _ _) _
  have he : Boxed ((w.alloc (.cells (boxO noO) 30)).alloc (.cells #[errV 1] 35)) (w.heap.size + 1) 35 (errV 1) := by
    have := Blk.new (w.alloc (.cells (boxO noO) 30)) 35 #[errV 1]
    rw [show (w.alloc (.cells (boxO noO) 30)).heap.size = w.heap.size + 1 by simp] at this
    exact this
  exact bodyPost_ret (best_results rfl rfl hx he) rfl ⟨rfl, hb.alloc hb.size _⟩
abbrev LieT := Int × Int × Ord5
def encLie (x : LieT) : List Value := .int .i64 x.1 :: .int .i64 x.2.1 :: encO x.2.2
def boxLie (x : LieT) : Array Value := #[.int .i64 x.1, .int .i64 x.2.1, .int .i64 x.2.2.id, .int .i64 x.2.2.side, .int .i64 x.2.2.kind, .int .i64 x.2.2.price, .int .i64 x.2.2.qty]
theorem lie_at {w : World} {b off len : Nat} {l : List LieT} (h : ElemsAt w encLie 7 (some ⟨b, off, none⟩) len l) {i : Nat} (hi : i < l.length) :
    w.cell? ⟨b, off + i * 7, none⟩ = some (.int .i64 l[i].1) ∧ w.cell? ⟨b, off + i * 7 + 1, none⟩ = some (.int .i64 l[i].2.1) ∧ w.cell? ⟨b, off + i * 7 + 2, none⟩ = some (.int .i64 l[i].2.2.id) ∧ w.cell? ⟨b, off + i * 7 + 3, none⟩ = some (.int .i64 l[i].2.2.side) ∧ w.cell? ⟨b, off + i * 7 + 4, none⟩ = some (.int .i64 l[i].2.2.kind) ∧ w.cell? ⟨b, off + i * 7 + 5, none⟩ = some (.int .i64 l[i].2.2.price) ∧ w.cell? ⟨b, off + i * 7 + 6, none⟩ = some (.int .i64 l[i].2.2.qty) :=
  ⟨h.at_ hi (j := 0) rfl, h.at_ hi (j := 1) rfl, h.at_ hi (j := 2) rfl, h.at_ hi (j := 3) rfl, h.at_ hi (j := 4) rfl, h.at_ hi (j := 5) rfl, h.at_ hi (j := 6) rfl⟩
theorem lie_box {w : World} {X : Nat} {t : TypeId} {x : LieT} (h : Blk w X t (boxLie x)) : w.cell? ⟨X, 0, none⟩ = some (.int .i64 x.1) ∧ w.cell? ⟨X, 1, none⟩ = some (.int .i64 x.2.1) ∧ w.cell? ⟨X, 2, none⟩ = some (.int .i64 x.2.2.id) ∧ w.cell? ⟨X, 3, none⟩ = some (.int .i64 x.2.2.side) ∧ w.cell? ⟨X, 4, none⟩ = some (.int .i64 x.2.2.kind) ∧ w.cell? ⟨X, 5, none⟩ = some (.int .i64 x.2.2.price) ∧ w.cell? ⟨X, 6, none⟩ = some (.int .i64 x.2.2.qty) :=
  ⟨by rw [Blk.cell h]; rfl, by rw [Blk.cell h]; rfl, by rw [Blk.cell h]; rfl, by rw [Blk.cell h]; rfl, by rw [Blk.cell h]; rfl, by rw [Blk.cell h]; rfl, by rw [Blk.cell h]; rfl⟩
/-- both books, no box -/
structure Duo0 (w0 w : World) (b B : Nat) (G : Nat → Prop) (cs : Array Value) (A : Option Addr) (L L1 L2 : List Ord5) : Prop where
  book : BookAt w b G L1 L2
  ref : RefB w B 28 cs 0 A L
  bel : Below w0.heap.size w0 w
  gb : ∀ i, G i → w0.heap.size ≤ i
  bb : w0.heap.size ≤ B
  ab : ∀ g, blkOf A = some g → w0.heap.size ≤ g
  ap : ¬ G B
  aa : ∀ g, blkOf A = some g → ¬ G g
theorem Duo.none {w0 w : World} {b B X : Nat} {G : Nat → Prop} {cs xs : Array Value} {A : Option Addr} {tx : TypeId} {L L1 L2 : List Ord5} (h : Duo w0 w b B G cs A X tx xs L L1 L2) : Duo0 w0 w b B G cs A L L1 L2 := ⟨h.book, h.ref, h.bel, h.gb, h.bb, h.ab, h.ap, h.aa⟩
theorem Duo0.boxed {w0 w : World} {b B : Nat} {G : Nat → Prop} {cs : Array Value} {A : Option Addr} {L L1 L2 : List Ord5} (h : Duo0 w0 w b B G cs A L L1 L2) (tx : TypeId) (xs : Array Value) : Duo w0 (w.alloc (.cells xs tx)) b B G cs A w.heap.size tx xs L L1 L2 := by
  have hb : Below w.heap.size w (w.alloc (.cells xs tx)) := (Below.refl _ _).alloc (Nat.le_refl _) _
  exact ⟨h.book.below hb, h.ref.below hb, Blk.new _ _ _, h.bel.trans (hb.mono h.bel.size), h.gb, h.bb, h.ab, h.ap, h.aa, fun e => Nat.lt_irrefl _ (h.book.fp e), fun e => by have := h.ref.blt; omega, fun e => by have := h.ref.lt _ e; omega⟩
theorem Duo0.below {w0 w w' : World} {b B : Nat} {G : Nat → Prop} {cs : Array Value} {A : Option Addr} {L L1 L2 : List Ord5} (h : Duo0 w0 w b B G cs A L L1 L2) (hb : Below w.heap.size w w') : Duo0 w0 w' b B G cs A L L1 L2 :=
  ⟨h.book.below hb, h.ref.below hb, h.bel.trans (hb.mono h.bel.size), h.gb, h.bb, h.ab, h.ap, h.aa⟩
/-- twins in memory -/
def PlayS (w0 w : World) (b B : Nat) : Prop := ∃ G cs A L L1 L2, Duo0 w0 w b B G cs A L L1 L2 ∧ Twin L L1 L2
def PlayX (w0 w : World) (b B X : Nat) (x : LieT) : Prop := ∃ G cs A L L1 L2, Duo w0 w b B G cs A X 32 (boxLie x) L L1 L2 ∧ Twin L L1 L2

theorem lieS {W : World} {X : Nat} {t : TypeId} {q1 q2 : Int} {o : Ord5} (h : Blk W X t (boxLie (q1, q2, o))) : W.cell? ⟨X, 1, none⟩ = some (.int .i64 q2) ∧ W.cell? ⟨X, 2, none⟩ = some (.int .i64 o.id) ∧ W.cell? ⟨X, 3, none⟩ = some (.int .i64 o.side) ∧ W.cell? ⟨X, 4, none⟩ = some (.int .i64 o.kind) ∧ W.cell? ⟨X, 5, none⟩ = some (.int .i64 o.price) ∧ W.cell? ⟨X, 6, none⟩ = some (.int .i64 o.qty) := (lie_box h).2
theorem two5 {W : World} {g h : Nat} {t u : TypeId} {a b c d e : Value} (x : Blk W g t #[a, b, c, d, e]) (y : Blk W h u #[a, b, c, d, e]) : W.cell? ⟨g, 0, none⟩ = some a ∧ W.cell? ⟨g, 1, none⟩ = some b ∧ W.cell? ⟨g, 2, none⟩ = some c ∧ W.cell? ⟨g, 3, none⟩ = some d ∧ W.cell? ⟨g, 4, none⟩ = some e ∧ W.cell? ⟨h, 0, none⟩ = some a ∧ W.cell? ⟨h, 1, none⟩ = some b ∧ W.cell? ⟨h, 2, none⟩ = some c ∧ W.cell? ⟨h, 3, none⟩ = some d ∧ W.cell? ⟨h, 4, none⟩ = some e := by
  obtain ⟨x0, x1, x2, x3, x4⟩ := box5' x
  obtain ⟨y0, y1, y2, y3, y4⟩ := box5' y
  exact ⟨x0, x1, x2, x3, x4, y0, y1, y2, y3, y4⟩
theorem duo_cancelK {w0 w : World} {b B X : Nat} {G : Nat → Prop} {cs xs : Array Value} {A : Option Addr} {tx : TypeId} {L L1 L2 : List Ord5} (h : Duo w0 w b B G cs A X tx xs L L1 L2) (id : Int) :
    Calls Tryd.prog 9 #[.pointer (some ⟨b, 0, none⟩), .int .i64 id] w fun e w' => e = .returned (.tuple #[aggO (bcanO L1 L2 id), errV (bcanE L1 L2 id)]) ∧ (∃ G', Duo w0 w' b B G' cs A X tx xs L (remI L1 id) (remI L2 id)) ∧ Keeps G w w' := by
  refine (bookCancel_any w b G L1 L2 h.book id).mono ?_
  rintro e w' (⟨h1, rfl, hb⟩ | ⟨o, h1, rfl, ht⟩)
  · have h2 := getI_no.1 h1
    rw [remI_none (fun o ho => h2 o (List.mem_append.2 (.inl ho))), remI_none (fun o ho => h2 o (List.mem_append.2 (.inr ho)))]
    refine ⟨?_, ⟨G, h.below hb⟩, Keeps.of_below hb _⟩
    unfold bcanO bcanE
    rw [h1]
    rfl
  · refine ⟨?_, h.bookTo ht, by obtain ⟨G', _, hk, _⟩ := ht; exact hk⟩
    unfold bcanO bcanE
    rw [h1]
    rfl
theorem order_same {w : World} {b : Nat} {G : Nat → Prop} {L1 L2 : List Ord5} (h : BookAt w b G L1 L2) (id : Int) :
    Calls Tryd.prog 13 #[.pointer (some ⟨b, 0, none⟩), .int .i64 id] w fun e w' => e = .returned (.tuple #[aggO (bcanO L1 L2 id), errV (bcanE L1 L2 id)]) ∧ Below w.heap.size w w' := by
  refine (bookOrder_any w b G L1 L2 h id).mono ?_
  rintro e w' ⟨hb, ⟨h1, rfl⟩ | ⟨o, h1, rfl⟩⟩
  · refine ⟨?_, hb⟩
    unfold bcanO bcanE
    rw [h1]
    rfl
  · refine ⟨?_, hb⟩
    unfold bcanO bcanE
    rw [h1]
    rfl
theorem bare_same (n : Int) (w : World) (hE : ErrType w) : Calls Tryd.prog 5 #[errV n, .int .i64 n] w fun e w' => e = .returned (.bool true) ∧ Below w.heap.size w w' :=
  (bare_any (errV n) n (-1) n w hE (errIs_errV w n)).mono fun e w' ⟨h1, h2⟩ => ⟨by rw [h1]; simp, h2⟩
set_option maxRecDepth 100000 in
set_option maxHeartbeats 4000000 in
theorem bookPlays_any (side : Int) (A : Option Addr) (len cap : Nat) (l : List LieT) (w : World) (h : ElemsAt w encLie 7 A len l) (hm : len ≤ 9223372036854775807) (hf : ∀ x ∈ l, Fit64 x.2.1 ∧ FitO x.2.2) (hE : ErrType w) :
    Calls Tryd.prog 3 #[.slice A len cap, .int .i64 side] w fun e w' => e = .returned (.bool true) ∧ Below w.heap.size w w' := by
  have HEl := hid h
  have HF := hid hf
  have HE := hid hE
  have HL := hid h.1
  have HN := hid (bookNew_any w)
  clear h hf hE
  by_cases hbig : 150 < len
  · have hz : (150 : Int) < (len : Int) := by omega
    go_enter Tryd.func3, Tryd.ntmps3
    go_wp2
    go_ret
    exact ⟨rfl, Below.refl _ _⟩
  · have hz : ¬ (150 : Int) < (len : Int) := by omega
    go_enter Tryd.func3, Tryd.ntmps3
    go_wp2_with fail
    refine HN.out.mono ?_
    rintro e w1 ⟨hb1, b, G, hG, rfl, hbk⟩
    have HBk := hid hbk
    have HG := hid hG
    have HB1 := hid hb1
    clear hbk hG hb1 HN
    go_wp2_with fail
    have hPS : PlayS w (w1.alloc (.cells #[.slice none 0 0] 28)) b w1.heap.size := by
      have hb := (Below.refl w1.heap.size w1).alloc (Nat.le_refl _) (.cells #[.slice none 0 0] 28)
      refine ⟨G, #[.slice none 0 0], none, [], [], [], ⟨HBk.out.below hb, ⟨Blk.new _ _ _, ⟨0, rfl, Nat.le_refl _, by unfold maxLen; omega⟩, ⟨rfl, fun h => absurd h (by simp)⟩, by simp [blkOf], by simp [blkOf]⟩, HB1.out.trans (hb.mono HB1.out.size), HG.out, HB1.out.size, by simp [blkOf], fun e => Nat.lt_irrefl _ (HBk.out.fp e), by simp [blkOf]⟩, twin_nil⟩
    have HPS := hid hPS
    clear hPS
    obtain ⟨w2, ew2⟩ : ∃ W, (w1.alloc (.cells #[.slice none 0 0] 28)) = W := ⟨_, rfl⟩
    obtain ⟨B, eB⟩ : ∃ B, w1.heap.size = B := ⟨_, rfl⟩
    rw [ew2, eB] at HPS ⊢
    clear ew2 eB HBk HG HB1
    go_loopg [7] len (fun gg s7 wx => ∃ k : Nat, k ≤ len ∧ gg = len - k ∧ s7 = .int .i64 k ∧ PlayS w wx b B)
    case atStart => exact ⟨0, Nat.zero_le _, rfl, rfl, HPS.out⟩
    case round =>
      obtain ⟨k, hk, rfl, rfl, hP⟩ := hrel
      have HP := hid hP
      have HB : Hid (Below w.heap.size w wr) := hid (by obtain ⟨_, _, _, _, _, _, h1, _⟩ := hP; exact h1.bel)
      clear hP HPS
      by_cases hlt : k < len
      · have hkl : k < l.length := by have := HL.out; omega
        obtain ⟨gA, oA, hA⟩ : ∃ b off, A = some ⟨b, off, none⟩ := by obtain ⟨b, off, h1, _⟩ := HEl.out.2 (by omega); exact ⟨b, off, h1⟩
        subst hA
        obtain ⟨x0, x1, x2, x3, x4, x5, x6⟩ := lie_at (HEl.out.below HB.out (Nat.le_refl _)) hkl
        have hltz : (k : Int) < (len : Int) := by omega
        have hk7 : (0 : Int) ≤ (k : Int) := by omega
        have HFx := hid (HF.out _ (List.getElem_mem hkl))
        obtain ⟨⟨q1, q2, o⟩, eo⟩ : ∃ o, l[k] = o := ⟨_, rfl⟩
        rw [eo] at x0 x1 x2 x3 x4 x5 x6 HFx
        clear eo
        dsimp only at x0 x1 x2 x3 x4 x5 x6
        have HX : Hid (PlayX w (wr.alloc (.cells (boxLie (q1, q2, o)) 32)) b B wr.heap.size (q1, q2, o)) := hid (by
          obtain ⟨G, cs, A, L, L1, L2, h1, h2⟩ := HP.out
          exact ⟨G, cs, A, L, L1, L2, h1.boxed _ _, h2⟩)
        go_upto_block 2 with fail
        obtain ⟨w3, ew3⟩ : ∃ W, (wr.alloc (.cells (boxLie (q1, q2, o)) 32)) = W := ⟨_, rfl⟩
        obtain ⟨gx, egx⟩ : ∃ g, wr.heap.size = g := ⟨_, rfl⟩
        rw [ew3, egx] at HX
        have ew4 := ew3
        unfold boxLie at ew4
        dsimp only at ew4
        rw [ew4, egx]
        clear ew3 ew4 egx HP HB x0 x1 x2 x3 x4 x5 x6
        go_cut [43] (fun s43 wx => PlayX w wx b B gx (q1, q2, o))
        case first =>
          obtain ⟨G, cs, A, L, L1, L2, hd, ht⟩ := HX.out
          have hd0 := hd.below (Below.drew (Below.refl _ _))
          have hl := hd.book.lists
          have hsm := ht.small hl
          clear HX
          by_cases c0 : q1 = 0
          · have d0 := beqT c0
            clear c0
            obtain ⟨he, htw⟩ := twin_add ht hl (o := o) HFx.out.2
            have hA : ∀ W G cs A L, Duo w W b B G cs A gx 32 (boxLie (q1, q2, o)) L L1 L2 → Calls Tryd.prog 6 #[.pointer (some ⟨b, 0, none⟩), aggO o] W fun e w' => e = .returned (errV (addE L1 L2 o)) ∧ ∃ G', Duo w w' b B G' cs A gx 32 (boxLie (q1, q2, o)) L (baddL 1 L1 L2 L1 o) (baddL 2 L1 L2 L2 o) := fun W G cs A L h => duo_add h HFx.out.2
            have hR : ∀ W G cs A M1 M2, Duo w W b B G cs A gx 32 (boxLie (q1, q2, o)) L M1 M2 → Calls Tryd.prog 7 #[.pointer (some ⟨B, 0, none⟩), aggO o] W fun e w' => e = .returned (.int .i64 (raddE L o)) ∧ ∃ cs' A', Duo w w' b B G cs' A' gx 32 (boxLie (q1, q2, o)) (raddL L o) M1 M2 := fun W G cs A M1 M2 h => duo_radd h (by omega) o
            rw [he] at hA
            obtain ⟨ev, hev⟩ : ∃ e, raddE L o = e := ⟨_, rfl⟩
            rw [hev] at hA hR
            clear he hev
            -- PART0
            go_upto_region 13 with fail
            refine region_held_drew (fun W => W.cell? ⟨gx, 1, none⟩ = some (.int .i64 q2) ∧ W.cell? ⟨gx, 2, none⟩ = some (.int .i64 o.id) ∧ W.cell? ⟨gx, 3, none⟩ = some (.int .i64 o.side) ∧ W.cell? ⟨gx, 4, none⟩ = some (.int .i64 o.kind) ∧ W.cell? ⟨gx, 5, none⟩ = some (.int .i64 o.price) ∧ W.cell? ⟨gx, 6, none⟩ = some (.int .i64 o.qty)) (by kernel_rfl) (lieS hd0.box) (fun hS => ?_)
            refine takeH 0 45 (.pointer (some ⟨b, 0, none⟩)) rfl rfl (by kernel_rfl) (by kernel_rfl) (by kernel_rfl) (fun _ _ _ h => h) (by rfl) ?_ (by assumption) ?_
            · intro W hSw; go_simp
            simp only [Act.put, List.setIfInBounds_toArray, List.set_cons_zero, List.set_cons_succ]
            refine takeH 1 46 (.pointer (some ⟨gx, 2, none⟩)) rfl rfl (by kernel_rfl) (by kernel_rfl) (by kernel_rfl) (fun _ _ _ h => h) (by rfl) ?_ (by assumption) ?_
            · intro W hSw; go_simp
            simp only [Act.put, List.setIfInBounds_toArray, List.set_cons_zero, List.set_cons_succ]
            refine takeH 2 47 (.agg #[.int .i64 o.id, .int .i64 o.side, .int .i64 o.kind, .int .i64 o.price, .int .i64 o.qty]) rfl rfl (by kernel_rfl) (by kernel_rfl) (by kernel_rfl) (fun _ _ _ h => h) (by rfl) ?_ (by assumption) ?_
            · intro W hSw; go_simp
            simp only [Act.put, List.setIfInBounds_toArray, List.set_cons_zero, List.set_cons_succ]
            refine takeH 4 49 (.pointer (some ⟨B, 0, none⟩)) rfl rfl (by kernel_rfl) (by kernel_rfl) (by kernel_rfl) (fun _ _ _ h => h) (by rfl) ?_ (by assumption) ?_
            · intro W hSw; go_simp
            simp only [Act.put, List.setIfInBounds_toArray, List.set_cons_zero, List.set_cons_succ]
            refine takeH 5 50 (.pointer (some ⟨gx, 2, none⟩)) rfl rfl (by kernel_rfl) (by kernel_rfl) (by kernel_rfl) (fun _ _ _ h => h) (by rfl) ?_ (by assumption) ?_
            · intro W hSw; go_simp
            simp only [Act.put, List.setIfInBounds_toArray, List.set_cons_zero, List.set_cons_succ]
            refine takeH 6 51 (.agg #[.int .i64 o.id, .int .i64 o.side, .int .i64 o.kind, .int .i64 o.price, .int .i64 o.qty]) rfl rfl (by kernel_rfl) (by kernel_rfl) (by kernel_rfl) (fun _ _ _ h => h) (by rfl) ?_ (by assumption) ?_
            · intro W hSw; go_simp
            simp only [Act.put, List.setIfInBounds_toArray, List.set_cons_zero, List.set_cons_succ]
            refine oneH 3 (by kernel_rfl) rfl (fun K1 hK1 => ?_)
            go_simp
            go_at_call 6
            refine (hA _ _ _ _ _ hd0).mono ?_
            rintro e w4 ⟨rfl, ⟨G4, hd4⟩⟩
            refine hK1 _ _ (lieS hd4.box) (fun hS => ?_)
            clear hK1
            refine oneH 7 (by kernel_rfl) rfl (fun K2 hK2 => ?_)
            go_simp
            go_at_call 7
            refine (hR _ _ _ _ _ _ hd4).mono ?_
            rintro e w5 ⟨rfl, ⟨cs5, A5, hd5⟩⟩
            refine hK2 _ _ (lieS hd5.box) (fun hS => ?_)
            clear hK2
            refine oneH 8 (by kernel_rfl) rfl (fun K3 hK3 => ?_)
            go_simp
            go_at_call 5
            refine (bare_same ev _ (HE.out.below hd5.bel (Nat.le_refl _))).mono ?_
            rintro e w6 ⟨rfl, hb6⟩
            have hd6 := hd5.below hb6
            refine hK3 _ _ (lieS hd6.box) (fun hS => ?_)
            clear hK3
            refine takeH 9 54 (.bool false) rfl rfl (by kernel_rfl) (by kernel_rfl) (by kernel_rfl) (fun _ _ _ h => h) (by rfl) ?_ (by assumption) ?_
            · intro W hSw; go_simp
            simp only [Act.put, List.setIfInBounds_toArray, List.set_cons_zero, List.set_cons_succ]
            refine wpAnyH_done (by kernel_rfl) ?_ _
            go_wp2_with fail
            go_meet
            exact ⟨_, _, _, _, _, _, hd6, htw⟩
            -- ENDPART0
          · have d0 := beqF c0
            clear c0
            by_cases c1 : q1 = 1
            · have d1 := beqT c1
              clear c1
              obtain ⟨hE1, hO1, htw⟩ := twin_cancel ht hl o.id
              obtain ⟨y0, y1, y2, y3, y4, y5, y6⟩ := lie_box hd.box
              dsimp only at y0 y1 y2 y3 y4 y5 y6
              go_wp2_with fail
              refine (duo_rcancel hd (by omega) o.id).mono ?_
              rintro e w4 ⟨rfl, cs4, A4, hd4⟩
              obtain ⟨⟨i1, i2, i3, i4, i5⟩, hro⟩ : ∃ x, roO L o.id = x := ⟨_, rfl⟩
              obtain ⟨ev, hev⟩ : ∃ x, roE L o.id = x := ⟨_, rfl⟩
              rw [hro, hev, show aggO (⟨i1, i2, i3, i4, i5⟩ : Ord5) = .agg #[.int .i64 i1, .int .i64 i2, .int .i64 i3, .int .i64 i4, .int .i64 i5] from rfl]
              rw [hro] at hO1
              rw [hev] at hE1
              clear hro hev y0 y1 y2 y3 y4 y5 y6
              have hGy : ¬ G w4.heap.size := fun e => Nat.lt_irrefl _ (hd4.book.fp e)
              go_upto_region 17 with fail
              obtain ⟨w5, ew5⟩ : ∃ W, (w4.alloc (.cells #[.int .i64 i1, .int .i64 i2, .int .i64 i3, .int .i64 i4, .int .i64 i5] 30)) = W := ⟨_, rfl⟩
              obtain ⟨g4, eg4⟩ : ∃ g, w4.heap.size = g := ⟨_, rfl⟩
              have hd5 := hd4.below ((Below.refl _ _).alloc (Nat.le_refl _) (.cells #[.int .i64 i1, .int .i64 i2, .int .i64 i3, .int .i64 i4, .int .i64 i5] 30))
              have hy5 := Blk.new w4 30 #[.int .i64 i1, .int .i64 i2, .int .i64 i3, .int .i64 i4, .int .i64 i5]
              rw [ew5] at hd5 hy5 ⊢
              rw [eg4] at hy5 hGy ⊢
              clear ew5 eg4
              obtain ⟨y0, y1, y2, y3, y4, y5, y6⟩ := lie_box hd5.box
              dsimp only at y0 y1 y2 y3 y4 y5 y6
              go_wp2_with fail
              refine (duo_cancelK hd5 o.id).mono ?_
              rintro e w6 ⟨rfl, ⟨G6, hd6⟩, hk6⟩
              have hy6 := Blk.keeps hy5 hk6 hGy
              rw [hE1, hO1, show aggO (⟨i1, i2, i3, i4, i5⟩ : Ord5) = .agg #[.int .i64 i1, .int .i64 i2, .int .i64 i3, .int .i64 i4, .int .i64 i5] from rfl]
              clear hE1 hO1 y0 y1 y2 y3 y4 y5 y6
              go_upto_region 18 with fail
              obtain ⟨w7, ew7⟩ : ∃ W, (w6.alloc (.cells #[.int .i64 i1, .int .i64 i2, .int .i64 i3, .int .i64 i4, .int .i64 i5] 30)) = W := ⟨_, rfl⟩
              obtain ⟨g7, eg7⟩ : ∃ g, w6.heap.size = g := ⟨_, rfl⟩
              have hb7 := (Below.refl w6.heap.size w6).alloc (Nat.le_refl _) (.cells #[.int .i64 i1, .int .i64 i2, .int .i64 i3, .int .i64 i4, .int .i64 i5] 30)
              have hz7 := Blk.new w6 30 #[.int .i64 i1, .int .i64 i2, .int .i64 i3, .int .i64 i4, .int .i64 i5]
              have hd7 := hd6.below hb7
              have hy7 := Blk.keep hy6 hb7
              rw [ew7] at hd7 hy7 hz7 ⊢
              rw [eg7] at hz7 ⊢
              clear ew7 eg7 hb7
              have hd8 := hd7
              have hy8 := hy7
              have hz8 := hz7
              have hne := order_ne i1 i2 i3 i4 i5
              obtain ⟨z0, z1, z2, z3, z4, z5, z6, z7, z8, z9⟩ := two5 hy8 hz8
              clear z0 z1 z2 z3 z4 z5 z6 z7 z8 z9
              have HE8 := hid (HE.out.below hd8.bel (Nat.le_refl _))
              go_wp2_with (go_at_call 5; refine (bare_same ev _ HE8.out).mono ?_; rintro e w9 ⟨rfl, hb9⟩; have hd9 := hd8.below hb9; have hy9 := Blk.keep hy8 hb9; have hz9 := Blk.keep hz8 hb9; obtain ⟨z0, z1, z2, z3, z4, z5, z6, z7, z8, z9⟩ := two5 hy9 hz9)
              go_meet
              exact ⟨_, _, _, _, _, _, hd9, htw⟩
            · have d1 := beqF c1
              clear c1
              by_cases c2 : q1 = 2
              · have d2 := beqT c2
                clear c2
                obtain ⟨he, htw⟩ := twin_cut ht hl o.id q2
                have hqq : ∀ o ∈ L, -1000000000 ≤ o.qty ∧ o.qty ≤ 1000000000 := fun o ho => by
                  have := (ht.ok o ho).1.2.2.2
                  omega
                have hA : ∀ W G cs A L, Duo w W b B G cs A gx 32 (boxLie (q1, q2, o)) L L1 L2 → Calls Tryd.prog 10 #[.pointer (some ⟨b, 0, none⟩), .int .i64 o.id, .int .i64 q2] W fun e w' => e = .returned (errV (cutE L1 L2 o.id q2)) ∧ ∃ G', Duo w w' b B G' cs A gx 32 (boxLie (q1, q2, o)) L (bcutL L1 L2 L1 o.id q2) (bcutL L1 L2 L2 o.id q2) := fun W G cs A L h => duo_cut h o.id HFx.out.1
                have hR : ∀ W G cs A M1 M2, Duo w W b B G cs A gx 32 (boxLie (q1, q2, o)) L M1 M2 → Calls Tryd.prog 11 #[.pointer (some ⟨B, 0, none⟩), .int .i64 o.id, .int .i64 q2] W fun e w' => e = .returned (.int .i64 (rcutE L o.id q2)) ∧ ∃ cs' A', Duo w w' b B G cs' A' gx 32 (boxLie (q1, q2, o)) (rcutL L o.id q2) M1 M2 := fun W G cs A M1 M2 h => duo_rcut h (by omega) o.id q2 hqq
                rw [he] at hA
                obtain ⟨ev, hev⟩ : ∃ e, rcutE L o.id q2 = e := ⟨_, rfl⟩
                rw [hev] at hA hR
                clear he hev
                -- PART2
                go_upto_region 21 with fail
                refine region_held_drew (fun W => W.cell? ⟨gx, 1, none⟩ = some (.int .i64 q2) ∧ W.cell? ⟨gx, 2, none⟩ = some (.int .i64 o.id) ∧ W.cell? ⟨gx, 3, none⟩ = some (.int .i64 o.side) ∧ W.cell? ⟨gx, 4, none⟩ = some (.int .i64 o.kind) ∧ W.cell? ⟨gx, 5, none⟩ = some (.int .i64 o.price) ∧ W.cell? ⟨gx, 6, none⟩ = some (.int .i64 o.qty)) (by kernel_rfl) (lieS hd0.box) (fun hS => ?_)
                refine takeH 0 84 (.pointer (some ⟨b, 0, none⟩)) rfl rfl (by kernel_rfl) (by kernel_rfl) (by kernel_rfl) (fun _ _ _ h => h) (by rfl) ?_ (by assumption) ?_
                · intro W hSw; go_simp
                simp only [Act.put, List.setIfInBounds_toArray, List.set_cons_zero, List.set_cons_succ]
                refine takeH 1 85 (.pointer (some ⟨gx, 2, none⟩)) rfl rfl (by kernel_rfl) (by kernel_rfl) (by kernel_rfl) (fun _ _ _ h => h) (by rfl) ?_ (by assumption) ?_
                · intro W hSw; go_simp
                simp only [Act.put, List.setIfInBounds_toArray, List.set_cons_zero, List.set_cons_succ]
                refine takeH 2 86 (.pointer (some ⟨gx, 2, none⟩)) rfl rfl (by kernel_rfl) (by kernel_rfl) (by kernel_rfl) (fun _ _ _ h => h) (by rfl) ?_ (by assumption) ?_
                · intro W hSw; go_simp
                simp only [Act.put, List.setIfInBounds_toArray, List.set_cons_zero, List.set_cons_succ]
                refine takeH 3 87 (.int .i64 o.id) rfl rfl (by kernel_rfl) (by kernel_rfl) (by kernel_rfl) (fun _ _ _ h => h) (by rfl) ?_ (by assumption) ?_
                · intro W hSw; go_simp
                simp only [Act.put, List.setIfInBounds_toArray, List.set_cons_zero, List.set_cons_succ]
                refine takeH 4 88 (.pointer (some ⟨gx, 1, none⟩)) rfl rfl (by kernel_rfl) (by kernel_rfl) (by kernel_rfl) (fun _ _ _ h => h) (by rfl) ?_ (by assumption) ?_
                · intro W hSw; go_simp
                simp only [Act.put, List.setIfInBounds_toArray, List.set_cons_zero, List.set_cons_succ]
                refine takeH 5 89 (.int .i64 q2) rfl rfl (by kernel_rfl) (by kernel_rfl) (by kernel_rfl) (fun _ _ _ h => h) (by rfl) ?_ (by assumption) ?_
                · intro W hSw; go_simp
                simp only [Act.put, List.setIfInBounds_toArray, List.set_cons_zero, List.set_cons_succ]
                refine takeH 7 91 (.pointer (some ⟨B, 0, none⟩)) rfl rfl (by kernel_rfl) (by kernel_rfl) (by kernel_rfl) (fun _ _ _ h => h) (by rfl) ?_ (by assumption) ?_
                · intro W hSw; go_simp
                simp only [Act.put, List.setIfInBounds_toArray, List.set_cons_zero, List.set_cons_succ]
                refine takeH 8 92 (.pointer (some ⟨gx, 2, none⟩)) rfl rfl (by kernel_rfl) (by kernel_rfl) (by kernel_rfl) (fun _ _ _ h => h) (by rfl) ?_ (by assumption) ?_
                · intro W hSw; go_simp
                simp only [Act.put, List.setIfInBounds_toArray, List.set_cons_zero, List.set_cons_succ]
                refine takeH 9 93 (.pointer (some ⟨gx, 2, none⟩)) rfl rfl (by kernel_rfl) (by kernel_rfl) (by kernel_rfl) (fun _ _ _ h => h) (by rfl) ?_ (by assumption) ?_
                · intro W hSw; go_simp
                simp only [Act.put, List.setIfInBounds_toArray, List.set_cons_zero, List.set_cons_succ]
                refine takeH 10 94 (.int .i64 o.id) rfl rfl (by kernel_rfl) (by kernel_rfl) (by kernel_rfl) (fun _ _ _ h => h) (by rfl) ?_ (by assumption) ?_
                · intro W hSw; go_simp
                simp only [Act.put, List.setIfInBounds_toArray, List.set_cons_zero, List.set_cons_succ]
                refine takeH 11 95 (.pointer (some ⟨gx, 1, none⟩)) rfl rfl (by kernel_rfl) (by kernel_rfl) (by kernel_rfl) (fun _ _ _ h => h) (by rfl) ?_ (by assumption) ?_
                · intro W hSw; go_simp
                simp only [Act.put, List.setIfInBounds_toArray, List.set_cons_zero, List.set_cons_succ]
                refine takeH 12 96 (.int .i64 q2) rfl rfl (by kernel_rfl) (by kernel_rfl) (by kernel_rfl) (fun _ _ _ h => h) (by rfl) ?_ (by assumption) ?_
                · intro W hSw; go_simp
                simp only [Act.put, List.setIfInBounds_toArray, List.set_cons_zero, List.set_cons_succ]
                refine oneH 6 (by kernel_rfl) rfl (fun K1 hK1 => ?_)
                go_simp
                go_at_call 10
                refine (hA _ _ _ _ _ hd0).mono ?_
                rintro e w4 ⟨rfl, ⟨G4, hd4⟩⟩
                refine hK1 _ _ (lieS hd4.box) (fun hS => ?_)
                clear hK1
                refine oneH 13 (by kernel_rfl) rfl (fun K2 hK2 => ?_)
                go_simp
                go_at_call 11
                refine (hR _ _ _ _ _ _ hd4).mono ?_
                rintro e w5 ⟨rfl, ⟨cs5, A5, hd5⟩⟩
                refine hK2 _ _ (lieS hd5.box) (fun hS => ?_)
                clear hK2
                refine oneH 14 (by kernel_rfl) rfl (fun K3 hK3 => ?_)
                go_simp
                go_at_call 5
                refine (bare_same ev _ (HE.out.below hd5.bel (Nat.le_refl _))).mono ?_
                rintro e w6 ⟨rfl, hb6⟩
                have hd6 := hd5.below hb6
                refine hK3 _ _ (lieS hd6.box) (fun hS => ?_)
                clear hK3
                refine takeH 15 99 (.bool false) rfl rfl (by kernel_rfl) (by kernel_rfl) (by kernel_rfl) (fun _ _ _ h => h) (by rfl) ?_ (by assumption) ?_
                · intro W hSw; go_simp
                simp only [Act.put, List.setIfInBounds_toArray, List.set_cons_zero, List.set_cons_succ]
                refine wpAnyH_done (by kernel_rfl) ?_ _
                go_wp2_with fail
                go_meet
                exact ⟨_, _, _, _, _, _, hd6, htw⟩
                -- ENDPART2
              · have d2 := beqF c2
                clear c2
                go_wp2_with fail
                go_meet
                exact ⟨_, _, _, _, _, _, hd, ht⟩
        case rest =>
          obtain ⟨G, cs, A, L, L1, L2, hd, ht⟩ := hcut
          have hl := hd.book.lists
          have hsm := ht.small hl
          clear HX
          obtain ⟨y0, y1, y2, y3, y4, y5, y6⟩ := lie_box hd.box
          dsimp only at y0 y1 y2 y3 y4 y5 y6
          go_wp2_with fail
          refine (rorder_any _ B _ cs 0 A L hd.ref (by omega) o.id).mono ?_
          rintro e w4 ⟨rfl, hb4⟩
          have hd4 := hd.below hb4
          have hO1 : bcanO L1 L2 o.id = roO L o.id := (twin_cancel ht hl o.id).2.1
          have hE1 : bcanE L1 L2 o.id = roE L o.id := (twin_cancel ht hl o.id).1
          obtain ⟨⟨i1, i2, i3, i4, i5⟩, hro⟩ : ∃ x, roO L o.id = x := ⟨_, rfl⟩
          obtain ⟨ev, hev⟩ : ∃ x, roE L o.id = x := ⟨_, rfl⟩
          rw [hro, hev, show aggO (⟨i1, i2, i3, i4, i5⟩ : Ord5) = .agg #[.int .i64 i1, .int .i64 i2, .int .i64 i3, .int .i64 i4, .int .i64 i5] from rfl]
          rw [hro] at hO1
          rw [hev] at hE1
          clear hro hev y0 y1 y2 y3 y4 y5 y6 hb4
          go_upto_region 24 with fail
          obtain ⟨w5, ew5⟩ : ∃ W, (w4.alloc (.cells #[.int .i64 i1, .int .i64 i2, .int .i64 i3, .int .i64 i4, .int .i64 i5] 30)) = W := ⟨_, rfl⟩
          obtain ⟨g4, eg4⟩ : ∃ g, w4.heap.size = g := ⟨_, rfl⟩
          have hd5 := hd4.below ((Below.refl _ _).alloc (Nat.le_refl _) (.cells #[.int .i64 i1, .int .i64 i2, .int .i64 i3, .int .i64 i4, .int .i64 i5] 30))
          have hy5 := Blk.new w4 30 #[.int .i64 i1, .int .i64 i2, .int .i64 i3, .int .i64 i4, .int .i64 i5]
          rw [ew5] at hd5 hy5 ⊢
          rw [eg4] at hy5 ⊢
          clear ew5 eg4
          obtain ⟨y0, y1, y2, y3, y4, y5, y6⟩ := lie_box hd5.box
          dsimp only at y0 y1 y2 y3 y4 y5 y6
          go_wp2_with fail
          refine (order_same hd5.book o.id).mono ?_
          rintro e w6 ⟨rfl, hb6⟩
          have hd6 := hd5.below hb6
          have hy6 := Blk.keep hy5 hb6
          rw [hE1, hO1, show aggO (⟨i1, i2, i3, i4, i5⟩ : Ord5) = .agg #[.int .i64 i1, .int .i64 i2, .int .i64 i3, .int .i64 i4, .int .i64 i5] from rfl]
          clear hE1 hO1 y0 y1 y2 y3 y4 y5 y6
          go_upto_region 25 with fail
          obtain ⟨w7, ew7⟩ : ∃ W, (w6.alloc (.cells #[.int .i64 i1, .int .i64 i2, .int .i64 i3, .int .i64 i4, .int .i64 i5] 30)) = W := ⟨_, rfl⟩
          obtain ⟨g7, eg7⟩ : ∃ g, w6.heap.size = g := ⟨_, rfl⟩
          have hb7 := (Below.refl w6.heap.size w6).alloc (Nat.le_refl _) (.cells #[.int .i64 i1, .int .i64 i2, .int .i64 i3, .int .i64 i4, .int .i64 i5] 30)
          have hz7 := Blk.new w6 30 #[.int .i64 i1, .int .i64 i2, .int .i64 i3, .int .i64 i4, .int .i64 i5]
          have hd7 := hd6.below hb7
          have hy7 := Blk.keep hy6 hb7
          rw [ew7] at hd7 hy7 hz7 ⊢
          rw [eg7] at hz7 ⊢
          clear ew7 eg7 hb7
          have hd8 := hd7
          have hy8 := hy7
          have hz8 := hz7
          have hne := order_ne i1 i2 i3 i4 i5
          obtain ⟨z0, z1, z2, z3, z4, z5, z6, z7, z8, z9⟩ := two5 hy8 hz8
          clear z0 z1 z2 z3 z4 z5 z6 z7 z8 z9
          have HE8 := hid (HE.out.below hd8.bel (Nat.le_refl _))
          go_wp2_with (first | (go_at_call 5; refine (bare_same ev _ HE8.out).mono ?_; rintro e w9 ⟨rfl, hb9⟩; have hd9 := hd8.below hb9; have hy9 := Blk.keep hy8 hb9; have hz9 := Blk.keep hz8 hb9; obtain ⟨z0, z1, z2, z3, z4, z5, z6, z7, z8, z9⟩ := two5 hy9 hz9) | (go_at_call 14; refine (same_any _ b B _ _ _ _ _ _ _ hd9.book hd9.ref ht (HE.out.below hd9.bel (Nat.le_refl _))).mono ?_; rintro e w10 ⟨rfl, hb10⟩; have hd10 := hd9.below hb10))
          go_roundg (len - (k + 1))
          case measure => omega
          case rel => exact ⟨k + 1, by omega, rfl, by go_num, _, _, _, _, _, _, hd10.none, ht⟩
      · obtain rfl : k = len := by omega
        have hltz : ¬ (k : Int) < (k : Int) := by omega
        clear HP
        by_cases h1 : side = 1
        · have d1 := beqT h1
          clear h1
          go_wp2
          go_ret
          exact ⟨rfl, HB.out⟩
        · by_cases h2 : side = 2
          · have d1 := beqF h1
            have d2 := beqT h2
            clear h1 h2
            go_wp2
            go_ret
            exact ⟨rfl, HB.out⟩
          · have d1 := beqF h1
            have d2 := beqF h2
            have H1 := hid (fun W => side_bad b side W h1 h2)
            have H2 := hid (fun W => best_bad b side W h1 h2)
            have H3 := hid (fun W => depth_bad b side W h1 h2)
            clear h1 h2
            go_wp2_with fail
            refine (H1.out _).mono ?_
            rintro e w4 ⟨rfl, hb4⟩
            have HB4 := hid (HB.out.trans (hb4.mono HB.out.size))
            go_wp2_with fail
            refine (H2.out _).mono ?_
            rintro e w5 ⟨rfl, hb5⟩
            have HB5 := hid (HB4.out.trans (hb5.mono HB4.out.size))
            go_upto_region 31 with fail
            obtain ⟨w6, ew6⟩ : ∃ W, (w5.alloc (.cells #[.int .i64 0, .int .i64 0, .int .i64 0, .int .i64 0, .int .i64 0] 30)) = W := ⟨_, rfl⟩
            have HB6 := hid (HB5.out.trans (((Below.refl w5.heap.size w5).alloc (Nat.le_refl _) (.cells #[.int .i64 0, .int .i64 0, .int .i64 0, .int .i64 0, .int .i64 0] 30)).mono HB5.out.size))
            rw [ew6] at HB6 ⊢
            clear ew6
            go_wp2_with fail
            refine (H3.out _).mono ?_
            rintro e w7 ⟨rfl, hb7⟩
            have HB7 := hid (HB6.out.trans (hb7.mono HB6.out.size))
            go_wp2_with fail
            refine (bare_same 1 _ (HE.out.below HB7.out (Nat.le_refl _))).mono ?_
            rintro e w8 ⟨rfl, hb8⟩
            have HB8 := hid (HB7.out.trans (hb8.mono HB7.out.size))
            go_wp2_with fail
            refine (bare_same 1 _ (HE.out.below HB8.out (Nat.le_refl _))).mono ?_
            rintro e w9 ⟨rfl, hb9⟩
            have HB9 := hid (HB8.out.trans (hb9.mono HB8.out.size))
            go_wp2_with fail
            refine (bare_same 1 _ (HE.out.below HB9.out (Nat.le_refl _))).mono ?_
            rintro e w10 ⟨rfl, hb10⟩
            go_wp2_with fail
            go_ret
            exact ⟨rfl, HB9.out.trans (hb10.mono HB9.out.size)⟩
end Go.Proofs.YtkcgchpbjegneaaDoor
