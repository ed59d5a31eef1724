/-
  The walk of openbelllaw.laid: a book of orders, and the document's.
  The walk of cross.Meets, an order of side 1.
  The walk of cross.Meets, an order of side 2.
  The walk of the document's Meets, an order of side 1.
  The walk of the document's Meets, an order of side 2.
  Both books while an order meets in the one, then in the other. No walk.
  The walk of openbelllaw.sameFills at the same trades.
  The walk of openbelllaw.CrossMeets.
  An order as it comes in: an argument of five ints. No walk.
  openbelllaw.CrossMeets over its arguments as they come in.
  What the rows' list of package-level variables gives: errors.errorType holds the handle of the type error; and a world that meets it.
-/
import Derived.WalkKit
import Derived.WalkLawsBesides
import Derived.WalkSpells
import Derived.Deep.QuietTactic
import Derived.BigQuiet
import Derived.Deep.LoopGhost
import Derived.Deep.DeepCutAuto
import Derived.Deep.CutBlock
import Derived.Test.YtkcgchpbjegneaaGreatDoorCrossMeetsLawPack3
import Derived.Deep.AppendLies
import Derived.Shelf.Abstract
import Derived.Laws.EntriesVeiled
import Derived.Test.YtkcgchpbjegneaaGreatDoorCrossMeetsLawPack1
import Derived.Laws.StructEq
import Derived.Test.YtkcgchpbjegneaaGreatDoorMem
import Derived.ChangeSame
import Derived.ChangeVars
import Derived.JoinedOf
import Derived.RowKit
import Derived.RowKitTokens
import Derived.LaidLaws
import Derived.LaidHandle
import Derived.Stop.Joined
namespace Go.Proofs.YtkcgchpbjegneaaGreatDoor
open Go.RowKit
set_option linter.unusedVariables false

/-- both books, no box -/
structure Duo0 (w0 w : World) (b B : Nat) (G : Nat → Prop) (cs : Array Value) (A : Option Addr) (L L1 L2 : List Ord5) : Prop where
  book : BookAt w b G L1 L2
  ref : RefB w B 81 cs 0 A L
  bel : Below w0.heap.size w0 w
  gb : ∀ i, G i → w0.heap.size ≤ i
  bb : w0.heap.size ≤ B
  ab : ∀ g, blkOf A = some g → w0.heap.size ≤ g
  ap : ¬ G B
  aa : ∀ g, blkOf A = some g → ¬ G g
section
variable {w0 w w' : World} {b B : Nat} {G : Nat → Prop} {cs : Array Value} {A : Option Addr} {L L1 L2 : List Ord5}
theorem Duo0.below (h : Duo0 w0 w b B G cs A L L1 L2) (hb : Below w.heap.size w w') : Duo0 w0 w' b B G cs A L L1 L2 :=
  ⟨h.book.below hb, h.ref.below hb, h.bel.trans (hb.mono h.bel.size), h.gb, h.bb, h.ab, h.ap, h.aa⟩
theorem Duo0.bookTo (h : Duo0 w0 w b B G cs A L L1 L2) {M1 M2 : List Ord5} (ht : BookTo w w' b G M1 M2) : ∃ G', Duo0 w0 w' b B G' cs A L M1 M2 := by
  obtain ⟨G', h1, hk, hg⟩ := ht
  have hs := h.bel.size
  have hB := h.ref.blt
  refine ⟨G', h1, h.ref.keeps hk h.ap h.aa, h.bel.trans (hk.below h.gb h.bel.size), fun i hi => ?_, h.bb, h.ab, fun e => ?_, fun g hA e => ?_⟩
  · rcases hg i hi with h2 | h2
    · exact h.gb i h2
    · omega
  · rcases hg B e with h2 | h2
    · exact h.ap h2
    · omega
  · have h3 := h.ref.lt g hA
    rcases hg g e with h2 | h2
    · exact h.aa g hA h2
    · omega
theorem Duo0.refTo (h : Duo0 w0 w b B G cs A L L1 L2) {M : List Ord5} (ht : RefTo w w' B 81 cs 0 A M) : ∃ cs' A', Duo0 w0 w' b B G cs' A' M L1 L2 := by
  obtain ⟨A', c', h1, hk, hg⟩ := ht
  have hs := h.bel.size
  refine ⟨_, A', h.book.keeps hk (fun i hi e => h.ap (e ▸ hi)), h1, h.bel.trans (hk.below (fun i e => e ▸ h.bb) h.bel.size), h.gb, h.bb, fun g hA => ?_, h.ap, fun g hA e => ?_⟩
  · rcases hg g hA with h2 | h2
    · exact h.ab g h2
    · omega
  · rcases hg g hA with h2 | h2
    · exact h.aa g h2 e
    · have := h.book.fp e; omega
theorem duo0_add (h : Duo0 w0 w b B G cs A L L1 L2) {o : Ord5} (hf : FitO o) :
    Calls Tryz.prog 42 #[.pointer (some ⟨b, 0, none⟩), aggO o] w fun e w' => e = .returned (errV (addE L1 L2 o)) ∧ ∃ G', Duo0 w0 w' b B G' cs A L (baddL 1 L1 L2 L1 o) (baddL 2 L1 L2 L2 o) := by
  refine (bookAdd_any w b G L1 L2 h.book o hf).mono ?_
  rintro e w' (⟨h1, rfl, hb⟩ | ⟨h1, rfl, ht⟩)
  · refine ⟨rfl, G, ?_⟩
    unfold baddL
    rw [if_neg h1, if_neg h1]
    exact h.below hb
  · refine ⟨by rw [h1], ?_⟩
    unfold baddL
    rw [if_pos h1, if_pos h1]
    exact h.bookTo ht
theorem duo0_radd (h : Duo0 w0 w b B G cs A L L1 L2) (hn : L.length ≤ 100000) (o : Ord5) :
    Calls Tryz.prog 43 #[.pointer (some ⟨B, 0, none⟩), aggO o] w fun e w' => e = .returned (.int .i64 (raddE L o)) ∧ ∃ cs' A', Duo0 w0 w' b B G cs' A' (raddL L o) L1 L2 := by
  refine (radd_any w B _ cs 0 A L h.ref hn o).mono ?_
  rintro e w' ⟨rfl, ht⟩
  exact ⟨rfl, h.refTo ht⟩
end
/-- twins in memory -/
def PlayS (w0 w : World) (b B : Nat) : Prop := ∃ G cs A L L1 L2, Duo0 w0 w b B G cs A L L1 L2 ∧ Twin L L1 L2
theorem bare_same (n : Int) (w : World) (hE : ErrType w) : Calls Tryz.prog 17 #[errV n, .int .i64 n] w fun e w' => e = .returned (.bool true) ∧ Below w.heap.size w w' :=
  (bare_any (errV n) n (-1) n w hE (errIs_errV w n)).mono fun e w' ⟨h1, h2⟩ => ⟨by rw [h1]; simp, h2⟩

set_option maxRecDepth 100000 in
set_option maxHeartbeats 4000000 in
theorem laid_any (A : Option Addr) (len cap : Nat) (l : List Ord5) (w : World) (h : ElemsAt w encO 5 A len l) (hm : len ≤ 100) (hf : ∀ x ∈ l, FitO x) :
    Calls Tryz.prog 6 #[.slice A len cap] w fun e w' => ∃ b B, e = .returned (.tuple #[.pointer (some ⟨b, 0, none⟩), .pointer (some ⟨B, 0, none⟩)]) ∧ PlayS w w' b B := by
  have HEl := hid h
  have HF := hid hf
  have HL := hid h.1
  have HN := hid (bookNew_any w)
  clear h hf
  go_enter Tryz.func6, Tryz.ntmps6
  go_wp2_with fail
  refine HN.out.mono ?_
  rintro e w1 ⟨hb1, b, G, hG, rfl, hbk⟩
  have HBk := hid hbk
  have HG := hid hG
  have HB1 := hid hb1
  clear hbk hG hb1 HN
  have hPS : PlayS w (w1.alloc (.cells #[.slice none 0 0] 81)) b w1.heap.size := by
    have hb := (Below.refl w1.heap.size w1).alloc (Nat.le_refl _) (.cells #[.slice none 0 0] 81)
    refine ⟨G, #[.slice none 0 0], none, [], [], [], ⟨HBk.out.below hb, ⟨Blk.new _ _ _, ⟨0, rfl, Nat.le_refl _, by unfold maxLen; omega⟩, ⟨rfl, fun h => absurd h (by simp)⟩, by simp [blkOf], by simp [blkOf]⟩, HB1.out.trans (hb.mono HB1.out.size), HG.out, HB1.out.size, by simp [blkOf], fun e => Nat.lt_irrefl _ (HBk.out.fp e), by simp [blkOf]⟩, twin_nil⟩
  have HPS := hid hPS
  clear hPS
  go_upto_region 2 with fail
  obtain ⟨w2, ew2⟩ : ∃ W, (w1.alloc (.cells #[.slice none 0 0] 81)) = W := ⟨_, rfl⟩
  obtain ⟨B, eB⟩ : ∃ B, w1.heap.size = B := ⟨_, rfl⟩
  rw [ew2, eB] at HPS ⊢
  clear ew2 eB HBk HG HB1
  go_wp2_with fail
  go_loopg [6] len (fun gg s6 wx => ∃ k : Nat, k ≤ len ∧ gg = len - k ∧ s6 = .int .i64 k ∧ PlayS w wx b B)
  case atStart => exact ⟨0, Nat.zero_le _, rfl, rfl, HPS.out⟩
  case round =>
    obtain ⟨k, hk, rfl, rfl, hP⟩ := hrel
    have HP := hid hP
    have HB : Hid (Below w.heap.size w wr) := hid (by obtain ⟨_, _, _, _, _, _, h1, _⟩ := hP; exact h1.bel)
    clear hP HPS
    by_cases hlt : k < len
    · have hkl : k < l.length := by have := HL.out; omega
      obtain ⟨gA, oA, hA⟩ : ∃ b off, A = some ⟨b, off, none⟩ := by obtain ⟨b, off, h1, _⟩ := HEl.out.2 (by omega); exact ⟨b, off, h1⟩
      subst hA
      have hltz : (k : Int) < (len : Int) := by omega
      have hk7 : (0 : Int) ≤ (k : Int) := by omega
      have HFx := hid (HF.out _ (List.getElem_mem hkl))
      obtain ⟨G, cs, A, L, L1, L2, hd, ht⟩ := HP.out
      have HTw := hid ht
      have HSm := hid (ht.small hd.book.lists)
      obtain ⟨o, eo⟩ : ∃ o, l[k] = o := ⟨_, rfl⟩
      have hx0 := ord_at (HEl.out.below HB.out (Nat.le_refl _)) hkl
      rw [eo] at hx0 HFx
      obtain ⟨x0, x1, x2, x3, x4⟩ := hx0
      have hadd := duo0_add hd HFx.out
      unfold aggO at hadd
      have HA := hid hadd
      have HLs := hid hd.book.lists
      clear hadd hd ht HP
      go_wp2_with fail
      refine HA.out.mono ?_
      rintro e w3 ⟨rfl, G', hd3⟩
      obtain ⟨-, htw⟩ := twin_add HTw.out HLs.out (o := o) HFx.out
      have HB3 := hid hd3.bel
      have hradd := duo0_radd hd3 (by have := HSm.out; omega) o
      unfold aggO at hradd
      have HR := hid hradd
      have HTw3 := hid htw
      have hx1 := ord_at (HEl.out.below HB3.out (Nat.le_refl _)) hkl
      rw [eo] at hx1
      clear x0 x1 x2 x3 x4
      obtain ⟨x0, x1, x2, x3, x4⟩ := hx1
      clear hradd hd3 htw HA HTw HB HSm HLs
      go_wp2_with fail
      refine HR.out.mono ?_
      rintro e w4 ⟨rfl, cs4, A4, hd4⟩
      have HP4 := hid (show PlayS w w4 b B from ⟨_, _, _, _, _, _, hd4, HTw3.out⟩)
      clear hd4 HR HTw3 x0 x1 x2 x3 x4 HB3 eo
      go_wp2_with fail
      go_roundg (len - (k + 1))
      case measure => omega
      case rel => exact ⟨k + 1, by omega, rfl, by go_num, HP4.out⟩
    · obtain rfl : k = len := by omega
      have hltz : ¬ (k : Int) < (k : Int) := by omega
      go_wp2_with fail
      refine bodyPost_ret (results_tmp2 rfl _ _ _) rfl ?_
      exact ⟨b, B, rfl, HP.out⟩
end Go.Proofs.YtkcgchpbjegneaaGreatDoor
namespace Go.Proofs.YtkcgchpbjegneaaGreatDoor
open Go.RowKit
set_option linter.unusedVariables false

set_option maxRecDepth 100000 in
set_option maxHeartbeats 16000000 in
theorem crossMeets_1 {σ : Type} {K : σ → List Ord5 → List Ord5 → (Nat → Prop) → World → Prop} {al : σ → Int → Bool} {tr : σ → Int → σ} {cnt : σ → Nat} {ga gt : FuncId} {ca ct : Array Value} {b : Nat}
    (hs : MeetSays K al tr cnt ga gt ca ct 47 (.pointer (some ⟨b, 0, none⟩)) .nilIface)
    (hside : ∀ {s : σ} {L1 L2 : List Ord5} {F : Nat → Prop} {w : World}, K s L1 L2 F w → ∀ sd, Is12 sd → Calls Tryz.prog 46 #[.pointer (some ⟨b, 0, none⟩), .int .i64 sd] w fun e w' => Below w.heap.size w w' ∧ ∃ A c, e = .returned (.tuple #[.slice A (sideL sd L1 L2).length c, .nilIface]) ∧ RowAt w' A (sideL sd L1 L2).length c 24 5 (flat encO (sideL sd L1 L2)) ∧ ∀ g, blkOf A = some g → w.heap.size ≤ g)
    (w : World) (s0 : σ) (G : Nat → Prop) (L1 L2 : List Ord5) (h : K s0 L1 L2 G w) (h0 : cnt s0 = 0) (oi ok op oq : Int) (hf : FitO ⟨oi, 1, ok, op, oq⟩) :
    Calls Tryz.prog 11 #[.pointer (some ⟨b, 0, none⟩), aggO ⟨oi, 1, ok, op, oq⟩, .func (.func ga) #[] ca, .func (.func gt) #[] ct] w fun e w' => MeetDone K w w' G 1 L1 L2 (meetP al tr (sideL 2 L1 L2) ⟨oi, 1, ok, op, oq⟩ s0) e := by
  have HS := hid hs
  have ega := hs.ega
  have egt := hs.egt
  have hlt := hs.lt h
  have hlists := hs.ok h
  obtain ⟨l, hl⟩ : ∃ l, sideL 2 L1 L2 = l := ⟨_, rfl⟩
  rw [hl]
  have hok : ∀ x ∈ l, OkO x := fun x hx => by
    rw [← hl] at hx
    refine hlists.ok x ?_
    unfold sideL at hx
    split at hx
    · exact List.mem_append_left _ hx
    · exact List.mem_append_right _ hx
  have hlen : l.length ≤ 100 := by
    have h1 := hlists.cnt
    rw [List.length_append] at h1
    rw [← hl]
    unfold sideL
    split <;> omega
  obtain ⟨n, hn⟩ : ∃ n, l.length = n := ⟨_, rfl⟩
  rw [hn] at hlen
  have hA1 : Below w.heap.size w (w.alloc (.cells (boxO ⟨oi, 1, ok, op, oq⟩) 24)) := (Below.refl _ w).alloc (Nat.le_refl _) _
  have hA2 : Below w.heap.size w ((w.alloc (.cells (boxO ⟨oi, 1, ok, op, oq⟩) 24)).alloc (.cells (boxO noO) 24)) := hA1.alloc (by simp) _
  have hX := Blk.alloc (Blk.new w 24 (boxO ⟨oi, 1, ok, op, oq⟩)) (.cells (boxO noO) 24)
  have hY : Blk ((w.alloc (.cells (boxO ⟨oi, 1, ok, op, oq⟩) 24)).alloc (.cells (boxO noO) 24)) (w.heap.size + 1) 24 (boxO noO) := by
    have := Blk.new (w.alloc (.cells (boxO ⟨oi, 1, ok, op, oq⟩) 24)) 24 (boxO noO)
    rw [World.size_alloc] at this
    exact this
  obtain ⟨w2, ew2⟩ : ∃ W, ((w.alloc (.cells (boxO ⟨oi, 1, ok, op, oq⟩) 24)).alloc (.cells (boxO noO) 24)) = W := ⟨_, rfl⟩
  rw [ew2] at hA2 hX hY
  have hK2 := hs.keep h (Keeps.of_below hA2 (fun _ => False)) (fun _ _ => id)
  have hcall := hside hK2 2 Is12_2
  rw [hl, hn] at hcall
  have HC := hid hcall
  have HX := hid hX
  have HY := hid hY
  have HA2 := hid hA2
  have HLt := hid hlt
  have HK2 := hid hK2
  have HOk := hid hok
  have HN := hid hn
  have HL := hid hl
  have hxs := hX.lt
  have hys := hY.lt
  have hqf : Fit64 oq := hf.2.2.2.2
  obtain ⟨x0, x1, x2, x3, x4⟩ := ord_box hX
  dsimp only at x0 x1 x2 x3 x4
  clear hs h hside hlists hok hA1 hA2 hX hY hK2 hcall hn hlt hf
  unfold boxO noO at ew2
  dsimp only at ew2
  show Calls Tryz.prog 11 #[.pointer (some ⟨b, 0, none⟩), .agg #[.int .i64 oi, .int .i64 1, .int .i64 ok, .int .i64 op, .int .i64 oq], .func (.func ga) #[] ca, .func (.func gt) #[] ct] w _
  go_enter Tryz.func11, Tryz.ntmps11
  go_upto_region 2 with fail
  try rw [ew2]
  clear ew2
  go_wp2_with fail
  refine HC.out.mono ?_
  rintro e w3 ⟨hb3, AL, cl, rfl, hrow3, hnew3⟩
  have hw2 : w.heap.size ≤ w2.heap.size := HA2.out.size
  have HST := hid (show MeetW K al tr cnt w w3 s0 s0 G G L1 L2 L1 L2 l oi 1 ok op oq oq w.heap.size (w.heap.size + 1) AL n cl none 0 [] [] 0 from
    ⟨⟨⟨HS.out.keep HK2.out (Keeps.of_below hb3 (fun _ => False)) (fun _ _ => id), BStep.of_below (HA2.out.trans (hb3.mono HA2.out.size)), World.ownsRow_nil _ _ _ _, fun g hg => by simp [blkOf] at hg⟩,
      Blk.keep HX.out hb3, Blk.keep HY.out hb3, fun e => Nat.lt_irrefl _ (HLt.out _ e), fun e => by have := HLt.out _ e; omega, by simp [blkOf], by simp [blkOf], by omega, hrow3, fun g hg => ⟨fun e => by have := HLt.out _ e; have := hnew3 g hg; omega, by simp [blkOf], by have := hnew3 g hg; omega, by have := hnew3 g hg; omega⟩, Nat.le_refl _, by omega⟩, by rw [List.drop_zero]; rfl, rfl, by rw [List.drop_zero, List.nil_append]; exact HL.out, Nat.zero_le _, hqf, by rw [h0]; exact Nat.zero_le _⟩)
  clear hb3 hrow3 hnew3 x0 x1 x2 x3 x4 HX HY HC HK2 HLt
  obtain ⟨X, eX⟩ : ∃ X, w.heap.size = X := ⟨_, rfl⟩
  obtain ⟨Y, eY⟩ : ∃ Y, w.heap.size + 1 = Y := ⟨_, rfl⟩
  rw [eY, eX] at HST ⊢
  have HEX := hid eX
  clear eX eY hxs hys HA2 hw2
  go_wp2_with fail
  go_loopg [11, 28] n (fun gg s11 s28 wr => ∃ (k : Nat) (q : Int) (s : σ) (G' : Nat → Prop) (M1 M2 : List Ord5) (A : Option Addr) (c : Nat) (F : List Fill4) (R : List Ord5), k ≤ n ∧ gg = n - k ∧ s28 = .int .i64 k ∧ s11 = .slice A F.length c ∧ Hid (MeetW K al tr cnt w wr s0 s G G' L1 L2 M1 M2 l oi 1 ok op oq q X Y AL n cl A c F R k))
  case atStart => exact ⟨0, oq, s0, G, L1, L2, none, 0, [], [], Nat.zero_le _, rfl, rfl, rfl, HST⟩
  case round =>
    obtain ⟨k, q, s, G', M1, M2, A, c, F, R, hk, rfl, rfl, rfl, HW⟩ := hrel
    clear HST
    by_cases hlt : k < n
    · have hkl : k < l.length := by rw [HN.out]; exact hlt
      obtain ⟨gl, hgl⟩ := row_addr' HW.out.v.lr (by omega)
      subst hgl
      obtain ⟨y0, y1, y2, y3, y4⟩ := ord_own HW.out.v.lr hkl
      have hdrop := List.drop_eq_getElem_cons hkl
      have hxok := HOk.out l[k] (List.getElem_mem hkl)
      obtain ⟨x, hx⟩ : ∃ x, l[k] = x := ⟨_, rfl⟩
      rw [hx] at y0 y1 y2 y3 y4 hdrop hxok
      have HDrop := hid hdrop
      have HXok := hid hxok
      have hltz : (k : Int) < (n : Int) := by omega
      have hk7 : (0 : Int) ≤ (k : Int) := by omega
      clear hdrop hxok hx
      go_upto_region 6 with fail
      obtain ⟨wa, ewa⟩ : ∃ W, (wr.alloc (.cells #[.int .i64 x.id, .int .i64 x.side, .int .i64 x.kind, .int .i64 x.price, .int .i64 x.qty] 24)) = W := ⟨_, rfl⟩
      obtain ⟨Z, eZ⟩ : ∃ Z, wr.heap.size = Z := ⟨_, rfl⟩
      have hZ := Blk.new wr 24 (boxO x)
      unfold boxO at hZ
      have hWa := HW.out.below HS.out ((Below.refl wr.heap.size wr).alloc (Nat.le_refl _) (.cells #[.int .i64 x.id, .int .i64 x.side, .int .i64 x.kind, .int .i64 x.price, .int .i64 x.qty] 24))
      have hGZ : ¬ G' wr.heap.size := fun e => Nat.lt_irrefl _ (HS.out.lt HW.out.v.m.mk_ _ e)
      have hZA : blkOf A ≠ some wr.heap.size := fun e => Nat.lt_irrefl _ (HW.out.v.m.row.lt e)
      have hZX : wr.heap.size ≠ X := fun e => by have := Blk.lt HW.out.v.bx; omega
      rw [ewa] at hZ hWa ⊢
      rw [eZ] at hZ hGZ hZA hZX ⊢
      have HZA := hid hZA
      have HZX := hid hZX
      clear hZA hZX
      obtain ⟨x0, x1, x2, x3, x4⟩ := ord_box hWa.v.bx
      obtain ⟨z0, z1, z2, z3, z4⟩ := box5m hZ
      dsimp only at x0 x1 x2 x3 x4
      have HWa := hid hWa
      have HZ := hid hZ
      have HGZ := hid hGZ
      clear hWa hZ hGZ HW ewa eZ y0 y1 y2 y3 y4
      by_cases c0 : q < 1
      · have d0 : decide (q < 1) = true := decT c0
        have HC0 := hid c0
        clear c0
        have hY := HWa.out.v.by_
        obtain ⟨v0, v1, v2, v3, v4⟩ := ord_box hY
        have f0 := Blk.frozen hY 0
        have f1 := Blk.frozen hY 1
        have f2 := Blk.frozen hY 2
        have f3 := Blk.frozen hY 3
        have f4 := Blk.frozen hY 4
        obtain ⟨hy1, hy2⟩ := box_set5 hY (.int .i64 oi) (.int .i64 1) (.int .i64 ok) (.int .i64 op) (.int .i64 q)
        have HY1 := hid hy1
        have HY2 := hid hy2
        clear hY hy1 hy2
        go_wp2_with fail
        go_region
        go_wp2_with fail
        exact meet_ret rfl (o := ⟨oi, 1, ok, op, q⟩) Y rfl rfl rfl rfl (Blk.drew HY1.out) (HWa.out.done HS.out (by rw [HDrop.out]; exact meet_done HC0.out) (HY2.out.then_ (Below.drew (Below.refl _ _))))
      · have d0 : decide (q < 1) = false := decF c0
        have HC0 : Hid (1 ≤ q) := hid (by omega)
        clear c0
        by_cases c1 : x.kind = 2
        · have d1 := beqT c1
          have HC1 := hid c1
          clear c1
          go_wp2_with fail
          go_roundg (n - (k + 1))
          case measure => omega
          case rel => exact ⟨k + 1, q, s, G', M1, M2, A, c, F, R ++ [x], by omega, rfl, by go_num, rfl, hid (HWa.out.pass HDrop.out (by have := HC0.out; omega) HC1.out)⟩
        · have d1 := beqF c1
          have HC1 := hid c1
          clear c1
          go_upto_region 9 with fail
          go_cut [42] (fun s42 wx => s42 = .bool (beyondB ⟨oi, 1, ok, op, q⟩ x) ∧ wx = wa)
          case first =>
            by_cases c2 : ok = 2
            · have d2 := bneF c2
              have HE : Hid (beyondB ⟨oi, 1, ok, op, q⟩ x = false) := hid (by unfold beyondB; dsimp only; rw [beqT c2]; rfl)
              clear c2
              go_wp2_with fail
              go_meet
              exact ⟨by rw [HE.out], rfl⟩
            · have d2 := bneT c2
              by_cases c3 : op < x.price
              · have d3 := decT c3
                have HE : Hid (beyondB ⟨oi, 1, ok, op, q⟩ x = true) := hid (by unfold beyondB; dsimp only; rw [beqF c2]; simp; exact c3)
                clear c2 c3
                go_wp2_with fail
                go_meet
                exact ⟨by rw [HE.out], rfl⟩
              · have d3 := decF c3
                have HE : Hid (beyondB ⟨oi, 1, ok, op, q⟩ x = false) := hid (by unfold beyondB; dsimp only; rw [beqF c2]; simp; omega)
                clear c2 c3
                go_wp2_with fail
                go_meet
                exact ⟨by rw [HE.out], rfl⟩
          case rest =>
            obtain ⟨rfl, rfl⟩ := hcut
            obtain ⟨bb, hbb⟩ : ∃ bb, beyondB ⟨oi, 1, ok, op, q⟩ x = bb := ⟨_, rfl⟩
            rw [hbb]
            have HBB := hid hbb
            clear hbb
            cases bb with
            | true =>
              have hY := HWa.out.v.by_
              obtain ⟨v0, v1, v2, v3, v4⟩ := ord_box hY
              have f0 := Blk.frozen hY 0
              have f1 := Blk.frozen hY 1
              have f2 := Blk.frozen hY 2
              have f3 := Blk.frozen hY 3
              have f4 := Blk.frozen hY 4
              obtain ⟨hy1, hy2⟩ := box_set5 hY (.int .i64 oi) (.int .i64 1) (.int .i64 ok) (.int .i64 op) (.int .i64 q)
              have HY1 := hid hy1
              have HY2 := hid hy2
              clear hY hy1 hy2
              go_wp2_with fail
              go_region
              go_wp2_with fail
              exact meet_ret rfl (o := ⟨oi, 1, ok, op, q⟩) Y rfl rfl rfl rfl (Blk.drew HY1.out) (HWa.out.done HS.out (by rw [HDrop.out]; exact meet_beyond (by have := HC0.out; show ¬ q < 1; omega) HC1.out HBB.out) (HY2.out.then_ (Below.drew (Below.refl _ _))))
            | false =>
              go_wp2_with fail
              go_at_fn ga
              refine (HS.out.allows x.price HWa.out.v.m.mk_ ⟨HXok.out.2.2.1.1, HXok.out.2.2.1.2⟩).mono ?_
              rintro e wb ⟨rfl, hbb⟩
              have hWb := HWa.out.below HS.out hbb
              have hZb := Blk.keep HZ.out hbb
              obtain ⟨ab, hab⟩ : ∃ ab, al s x.price = ab := ⟨_, rfl⟩
              rw [hab]
              have HAB := hid hab
              have HWa := hid hWb
              have HZ := hid hZb
              obtain ⟨x0, x1, x2, x3, x4⟩ := ord_box hWb.v.bx
              obtain ⟨z0, z1, z2, z3, z4⟩ := box5m hZb
              dsimp only at x0 x1 x2 x3 x4
              clear hWb hZb hbb hab
              cases ab with
              | false =>
                have hY := HWa.out.v.by_
                obtain ⟨v0, v1, v2, v3, v4⟩ := ord_box hY
                have f0 := Blk.frozen hY 0
                have f1 := Blk.frozen hY 1
                have f2 := Blk.frozen hY 2
                have f3 := Blk.frozen hY 3
                have f4 := Blk.frozen hY 4
                obtain ⟨hy1, hy2⟩ := box_set5 hY (.int .i64 oi) (.int .i64 1) (.int .i64 ok) (.int .i64 op) (.int .i64 q)
                have HY1 := hid hy1
                have HY2 := hid hy2
                clear hY hy1 hy2
                go_wp2_with fail
                go_region
                go_wp2_with fail
                exact meet_ret rfl (o := ⟨oi, 1, ok, op, q⟩) Y rfl rfl rfl rfl (Blk.drew HY1.out) (HWa.out.done HS.out (by rw [HDrop.out]; exact meet_stop (by have := HC0.out; show ¬ q < 1; omega) HC1.out HBB.out HAB.out) (HY2.out.then_ (Below.drew (Below.refl _ _))))
              | true =>
                clear x0 x1 x2 x3 x4 z0 z1 z2 z3 z4
                obtain ⟨m, hm⟩ : ∃ m, min q x.qty = m := ⟨_, rfl⟩
                have hq1 := HC0.out
                have hxq := HXok.out.2.2.2
                have hqb := HWa.out.qb
                unfold Fit64 at hqb
                have hm1 : 1 ≤ m := by omega
                have hmx : m ≤ x.qty := by omega
                have hmq : m ≤ q := by omega
                have HM := hid hm
                clear hm
                go_upto_region 13 with fail
                obtain ⟨x0, x1, x2, x3, x4⟩ := ord_box HWa.out.v.bx
                obtain ⟨z0, z1, z2, z3, z4⟩ := box5m HZ.out
                dsimp only at x0 x1 x2 x3 x4
                go_cut [16] (fun s16 wx => s16 = .int .i64 m ∧ wx = wb)
                case first =>
                  go_wp2_with fail
                  all_goals go_meet
                  all_goals refine ⟨?_, rfl⟩
                  all_goals rw [← HM.out]
                  all_goals congr 1
                  all_goals omega
                case rest =>
                  obtain ⟨rfl, rfl⟩ := hcut
                  have hF1 : F.length ≤ 100000000 := by have := HWa.out.fl; omega
                  have HCn : Hid (cnt s ≤ F.length) := hid HWa.out.cn
                  have HCk : Hid (cnt s ≤ 1000) := hid (by have := HWa.out.fl; have := HWa.out.cn; omega)
                  obtain ⟨i0, hi0, hz0, hz1, hz2⟩ := info_parts fill_info
                  go_upto_region 15 with fail
                  have hal : Below wc.heap.size wc (wc.alloc (.cells #[.int .i64 oi, .int .i64 x.id, .int .i64 x.price, .int .i64 m] 96)) := (Below.refl _ _).alloc (Nat.le_refl _) _
                  have hQ := Blk.new wc 96 #[.int .i64 oi, .int .i64 x.id, .int .i64 x.price, .int .i64 m]
                  obtain ⟨Q, eQ⟩ : ∃ Q, wc.heap.size = Q := ⟨_, rfl⟩
                  have HQ0 : Hid (wc.heap.size ≤ Q) := hid (by omega)
                  obtain ⟨wf, ewf⟩ : ∃ W, wc.alloc (.cells #[.int .i64 oi, .int .i64 x.id, .int .i64 x.price, .int .i64 m] 96) = W := ⟨_, rfl⟩
                  have hWf := HWa.out.below HS.out hal
                  have hXQ : X ≠ wc.heap.size := fun e => by have := Blk.lt HWa.out.v.bx; omega
                  have hZf := Blk.keep HZ.out hal
                  rw [ewf] at hQ hWf hZf hal ⊢
                  have HAL := hid hal
                  rw [eQ] at hQ hXQ ⊢
                  have HXQ := hid hXQ
                  clear hXQ
                  have HWf := hid hWf
                  have HZf := hid hZf
                  have HQ := hid hQ
                  clear x0 x1 x2 x3 x4 z0 z1 z2 z3 z4 hal ewf eQ hWf hZf
                  obtain ⟨x0, x1, x2, x3, x4⟩ := ord_box HWf.out.v.bx
                  obtain ⟨z0, z1, z2, z3, z4⟩ := box5m HZf.out
                  obtain ⟨q0, q1, q2, q3⟩ := box4m hQ
                  dsimp only at x0 x1 x2 x3 x4
                  clear hQ
                  have HO1 := hid (World.ownsRow.alloc (show wf.ownsRow 0 96 4 (.slice A F.length c) F.length (flat encFl F) from HWf.out.v.m.row) (.cells #[.int .i64 oi, .int .i64 x.id, .int .i64 x.price, .int .i64 m] 96))
                  go_upto_region 18 with (at_builtin; refine wpList_append_lies _ rfl _ _ 34 rfl 0 96 i0 _ 4 32 Tryz.underlying34 hi0 hz0 hz1 hz2 rfl (by omega) (.slice A F.length c) F.length _ rfl HO1.out ⟨wf.heap.size, 0, none⟩ 1 1 [.int .i64 oi, .int .i64 x.id, .int .i64 x.price, .int .i64 m] rfl rfl (World.news_of_block (cs := #[.int .i64 oi, .int .i64 x.id, .int .i64 x.price, .int .i64 m]) (t := 96) (fr := (0, 0)) (heap_alloc_new wf _)) (by simp [Value.oneCell']) (by omega) (by unfold maxLen; omega) (by omega) (by simp) (wf.heap.size + 1) (by simp) ?_; intro gg cap w6 hown hgrow hat6 hlt6)
                  have hk6 := keeps_of_new hgrow
                  rw [own_slice] at hk6 hat6
                  have hV6 := HWf.out.v.fill HS.out (f := ⟨oi, x.id, x.price, m⟩) hk6 hown (hat6.imp id (fun e => by omega))
                  have hZ6 := Blk.keeps HZf.out hk6 HZA.out
                  obtain ⟨hget, hown6, hoth6⟩ := meet_cut (n := m) (HS.out.ok hV6.m.mk_) Is12_1 (HWf.out.oth.trans (by rw [HDrop.out]))
                  have hcc := HS.out.cut x m hV6.m.mk_ hget hm1 hmx
                  have HCC := hid hcc
                  have HV6 := hid hV6
                  have HZ6 := hid hZ6
                  have HOwn := hid (hown6.trans HWf.out.own)
                  have HOth := hid hoth6
                  have HEq := hid (show meetP al tr l ⟨oi, 1, ok, op, oq⟩ s0 = MeetR.join (F ++ [⟨oi, x.id, x.price, m⟩]) (R ++ leftL x m) (meetP al tr (l.drop (k + 1)) ⟨oi, 1, ok, op, q - m⟩ (tr s x.price)) from HWf.out.eq.trans (by rw [HDrop.out]; exact meet_trade (by have := HC0.out; show ¬ q < 1; omega) HC1.out HBB.out HAB.out HM.out))
                  have HFl := hid HWf.out.fl
                  clear x0 x1 x2 x3 x4 z0 z1 z2 z3 z4 q0 q1 q2 q3 hk6 hown hgrow hat6 hlt6 hV6 hZ6 hget hown6 hoth6 hcc HO1 hi0 hz0 hz1 hz2 HWf HZf HQ HWa HZ
                  obtain ⟨z0, z1, z2, z3, z4⟩ := box5m HZ6.out
                  go_wp2_with fail
                  refine HCC.out.mono ?_
                  rintro e w7 ⟨rfl, G2, hk7, hb7⟩
                  have hV7 := HV6.out.turn hk7 hb7
                  have hZ7 := Blk.keeps HZ6.out hb7.1 (fun e => HGZ.out e)
                  have hV8 := hV7.lots HS.out (q' := q - m)
                  have hZ8 := Blk.keeps hZ7 (Keeps.set_ w7 ⟨X, 4, none⟩ (.int .i64 (q - m))) HZX.out
                  have i1 : RowKit.wrap64 (q - m) = q - m := by unfold RowKit.wrap64; omega
                  have f4 := Blk.frozen hV7.bx 4
                  obtain ⟨x0, x1, x2, x3, x4⟩ := ord_box hV7.bx
                  dsimp only at x0 x1 x2 x3 x4
                  have HV8 := hid hV8
                  have HZ8 := hid hZ8
                  clear hV7 hZ7 hV8 hZ8 hk7 hb7 z0 z1 z2 z3 z4 HV6 HZ6 HCC
                  go_upto_region 20 with fail
                  obtain ⟨w8, ew8⟩ : ∃ W, w7.setCell ⟨X, 4, none⟩ (.int .i64 (q - m)) = W := ⟨_, rfl⟩
                  rw [ew8] at HV8 HZ8 ⊢
                  clear ew8 x0 x1 x2 x3 x4 f4
                  obtain ⟨z0, z1, z2, z3, z4⟩ := box5m HZ8.out
                  go_wp2_with fail
                  go_at_fn gt
                  refine (HS.out.trades x.price HV8.out.m.mk_ ⟨HXok.out.2.2.1.1, HXok.out.2.2.1.2⟩ HCk.out).mono ?_
                  rintro e w9 ⟨rfl, G3, hk9, hb9⟩
                  have HV9 := hid (HV8.out.turn hk9 hb9)
                  clear hk9 hb9 z0 z1 z2 z3 z4 HV8 HZ8 i1
                  go_wp2_with fail
                  go_roundg (n - (k + 1))
                  case measure => omega
                  case rel => exact ⟨k + 1, q - m, tr s x.price, G3, cutS M1 x m, cutS M2 x m, some ⟨gg, 0, none⟩, cap, F ++ [⟨oi, x.id, x.price, m⟩], R ++ leftL x m, by omega, rfl, by go_num, by simp, hid ⟨HV9.out, HEq.out, HOwn.out, HOth.out, by rw [List.length_append, List.length_singleton]; exact Nat.succ_le_succ HFl.out, by unfold Fit64; omega, by have h1 := HS.out.cnt_ s x.price; have h2 := HCn.out; rw [List.length_append, List.length_singleton]; omega⟩⟩
    · obtain rfl : k = n := by omega
      have hltz : ¬ (k : Int) < (k : Int) := by omega
      have hY := HW.out.v.by_
      obtain ⟨v0, v1, v2, v3, v4⟩ := ord_box hY
      obtain ⟨x0, x1, x2, x3, x4⟩ := ord_box HW.out.v.bx
      dsimp only at x0 x1 x2 x3 x4
      have f0 := Blk.frozen hY 0
      have f1 := Blk.frozen hY 1
      have f2 := Blk.frozen hY 2
      have f3 := Blk.frozen hY 3
      have f4 := Blk.frozen hY 4
      obtain ⟨hy1, hy2⟩ := box_set5 hY (.int .i64 oi) (.int .i64 1) (.int .i64 ok) (.int .i64 op) (.int .i64 q)
      have HY1 := hid hy1
      have HY2 := hid hy2
      clear hY hy1 hy2
      go_wp2_with fail
      go_region
      go_wp2_with fail
      have hdn : l.drop k = [] := List.drop_eq_nil_of_le (by rw [HN.out]; exact Nat.le_refl _)
      exact meet_ret rfl (o := ⟨oi, 1, ok, op, q⟩) Y rfl rfl rfl rfl (Blk.drew HY1.out) (HW.out.done HS.out (by rw [hdn, meet_end, List.append_nil]) (HY2.out.then_ (Below.drew (Below.refl _ _))))
end Go.Proofs.YtkcgchpbjegneaaGreatDoor
namespace Go.Proofs.YtkcgchpbjegneaaGreatDoor
open Go.RowKit
set_option linter.unusedVariables false

set_option maxRecDepth 100000 in
set_option maxHeartbeats 16000000 in
theorem crossMeets_2 {σ : Type} {K : σ → List Ord5 → List Ord5 → (Nat → Prop) → World → Prop} {al : σ → Int → Bool} {tr : σ → Int → σ} {cnt : σ → Nat} {ga gt : FuncId} {ca ct : Array Value} {b : Nat}
    (hs : MeetSays K al tr cnt ga gt ca ct 47 (.pointer (some ⟨b, 0, none⟩)) .nilIface)
    (hside : ∀ {s : σ} {L1 L2 : List Ord5} {F : Nat → Prop} {w : World}, K s L1 L2 F w → ∀ sd, Is12 sd → Calls Tryz.prog 46 #[.pointer (some ⟨b, 0, none⟩), .int .i64 sd] w fun e w' => Below w.heap.size w w' ∧ ∃ A c, e = .returned (.tuple #[.slice A (sideL sd L1 L2).length c, .nilIface]) ∧ RowAt w' A (sideL sd L1 L2).length c 24 5 (flat encO (sideL sd L1 L2)) ∧ ∀ g, blkOf A = some g → w.heap.size ≤ g)
    (w : World) (s0 : σ) (G : Nat → Prop) (L1 L2 : List Ord5) (h : K s0 L1 L2 G w) (h0 : cnt s0 = 0) (oi ok op oq : Int) (hf : FitO ⟨oi, 2, ok, op, oq⟩) :
    Calls Tryz.prog 11 #[.pointer (some ⟨b, 0, none⟩), aggO ⟨oi, 2, ok, op, oq⟩, .func (.func ga) #[] ca, .func (.func gt) #[] ct] w fun e w' => MeetDone K w w' G 2 L1 L2 (meetP al tr (sideL 1 L1 L2) ⟨oi, 2, ok, op, oq⟩ s0) e := by
  have HS := hid hs
  have ega := hs.ega
  have egt := hs.egt
  have hlt := hs.lt h
  have hlists := hs.ok h
  obtain ⟨l, hl⟩ : ∃ l, sideL 1 L1 L2 = l := ⟨_, rfl⟩
  rw [hl]
  have hok : ∀ x ∈ l, OkO x := fun x hx => by
    rw [← hl] at hx
    refine hlists.ok x ?_
    unfold sideL at hx
    split at hx
    · exact List.mem_append_left _ hx
    · exact List.mem_append_right _ hx
  have hlen : l.length ≤ 100 := by
    have h1 := hlists.cnt
    rw [List.length_append] at h1
    rw [← hl]
    unfold sideL
    split <;> omega
  obtain ⟨n, hn⟩ : ∃ n, l.length = n := ⟨_, rfl⟩
  rw [hn] at hlen
  have hA1 : Below w.heap.size w (w.alloc (.cells (boxO ⟨oi, 2, ok, op, oq⟩) 24)) := (Below.refl _ w).alloc (Nat.le_refl _) _
  have hA2 : Below w.heap.size w ((w.alloc (.cells (boxO ⟨oi, 2, ok, op, oq⟩) 24)).alloc (.cells (boxO noO) 24)) := hA1.alloc (by simp) _
  have hX := Blk.alloc (Blk.new w 24 (boxO ⟨oi, 2, ok, op, oq⟩)) (.cells (boxO noO) 24)
  have hY : Blk ((w.alloc (.cells (boxO ⟨oi, 2, ok, op, oq⟩) 24)).alloc (.cells (boxO noO) 24)) (w.heap.size + 1) 24 (boxO noO) := by
    have := Blk.new (w.alloc (.cells (boxO ⟨oi, 2, ok, op, oq⟩) 24)) 24 (boxO noO)
    rw [World.size_alloc] at this
    exact this
  obtain ⟨w2, ew2⟩ : ∃ W, ((w.alloc (.cells (boxO ⟨oi, 2, ok, op, oq⟩) 24)).alloc (.cells (boxO noO) 24)) = W := ⟨_, rfl⟩
  rw [ew2] at hA2 hX hY
  have hK2 := hs.keep h (Keeps.of_below hA2 (fun _ => False)) (fun _ _ => id)
  have hcall := hside hK2 1 Is12_1
  rw [hl, hn] at hcall
  have HC := hid hcall
  have HX := hid hX
  have HY := hid hY
  have HA2 := hid hA2
  have HLt := hid hlt
  have HK2 := hid hK2
  have HOk := hid hok
  have HN := hid hn
  have HL := hid hl
  have hxs := hX.lt
  have hys := hY.lt
  have hqf : Fit64 oq := hf.2.2.2.2
  obtain ⟨x0, x1, x2, x3, x4⟩ := ord_box hX
  dsimp only at x0 x1 x2 x3 x4
  clear hs h hside hlists hok hA1 hA2 hX hY hK2 hcall hn hlt hf
  unfold boxO noO at ew2
  dsimp only at ew2
  show Calls Tryz.prog 11 #[.pointer (some ⟨b, 0, none⟩), .agg #[.int .i64 oi, .int .i64 2, .int .i64 ok, .int .i64 op, .int .i64 oq], .func (.func ga) #[] ca, .func (.func gt) #[] ct] w _
  go_enter Tryz.func11, Tryz.ntmps11
  go_upto_region 2 with fail
  try rw [ew2]
  clear ew2
  go_wp2_with fail
  refine HC.out.mono ?_
  rintro e w3 ⟨hb3, AL, cl, rfl, hrow3, hnew3⟩
  have hw2 : w.heap.size ≤ w2.heap.size := HA2.out.size
  have HST := hid (show MeetW K al tr cnt w w3 s0 s0 G G L1 L2 L1 L2 l oi 2 ok op oq oq w.heap.size (w.heap.size + 1) AL n cl none 0 [] [] 0 from
    ⟨⟨⟨HS.out.keep HK2.out (Keeps.of_below hb3 (fun _ => False)) (fun _ _ => id), BStep.of_below (HA2.out.trans (hb3.mono HA2.out.size)), World.ownsRow_nil _ _ _ _, fun g hg => by simp [blkOf] at hg⟩,
      Blk.keep HX.out hb3, Blk.keep HY.out hb3, fun e => Nat.lt_irrefl _ (HLt.out _ e), fun e => by have := HLt.out _ e; omega, by simp [blkOf], by simp [blkOf], by omega, hrow3, fun g hg => ⟨fun e => by have := HLt.out _ e; have := hnew3 g hg; omega, by simp [blkOf], by have := hnew3 g hg; omega, by have := hnew3 g hg; omega⟩, Nat.le_refl _, by omega⟩, by rw [List.drop_zero]; rfl, rfl, by rw [List.drop_zero, List.nil_append]; exact HL.out, Nat.zero_le _, hqf, by rw [h0]; exact Nat.zero_le _⟩)
  clear hb3 hrow3 hnew3 x0 x1 x2 x3 x4 HX HY HC HK2 HLt
  obtain ⟨X, eX⟩ : ∃ X, w.heap.size = X := ⟨_, rfl⟩
  obtain ⟨Y, eY⟩ : ∃ Y, w.heap.size + 1 = Y := ⟨_, rfl⟩
  rw [eY, eX] at HST ⊢
  have HEX := hid eX
  clear eX eY hxs hys HA2 hw2
  go_wp2_with fail
  go_loopg [11, 28] n (fun gg s11 s28 wr => ∃ (k : Nat) (q : Int) (s : σ) (G' : Nat → Prop) (M1 M2 : List Ord5) (A : Option Addr) (c : Nat) (F : List Fill4) (R : List Ord5), k ≤ n ∧ gg = n - k ∧ s28 = .int .i64 k ∧ s11 = .slice A F.length c ∧ Hid (MeetW K al tr cnt w wr s0 s G G' L1 L2 M1 M2 l oi 2 ok op oq q X Y AL n cl A c F R k))
  case atStart => exact ⟨0, oq, s0, G, L1, L2, none, 0, [], [], Nat.zero_le _, rfl, rfl, rfl, HST⟩
  case round =>
    obtain ⟨k, q, s, G', M1, M2, A, c, F, R, hk, rfl, rfl, rfl, HW⟩ := hrel
    clear HST
    by_cases hlt : k < n
    · have hkl : k < l.length := by rw [HN.out]; exact hlt
      obtain ⟨gl, hgl⟩ := row_addr' HW.out.v.lr (by omega)
      subst hgl
      obtain ⟨y0, y1, y2, y3, y4⟩ := ord_own HW.out.v.lr hkl
      have hdrop := List.drop_eq_getElem_cons hkl
      have hxok := HOk.out l[k] (List.getElem_mem hkl)
      obtain ⟨x, hx⟩ : ∃ x, l[k] = x := ⟨_, rfl⟩
      rw [hx] at y0 y1 y2 y3 y4 hdrop hxok
      have HDrop := hid hdrop
      have HXok := hid hxok
      have hltz : (k : Int) < (n : Int) := by omega
      have hk7 : (0 : Int) ≤ (k : Int) := by omega
      clear hdrop hxok hx
      go_upto_region 6 with fail
      obtain ⟨wa, ewa⟩ : ∃ W, (wr.alloc (.cells #[.int .i64 x.id, .int .i64 x.side, .int .i64 x.kind, .int .i64 x.price, .int .i64 x.qty] 24)) = W := ⟨_, rfl⟩
      obtain ⟨Z, eZ⟩ : ∃ Z, wr.heap.size = Z := ⟨_, rfl⟩
      have hZ := Blk.new wr 24 (boxO x)
      unfold boxO at hZ
      have hWa := HW.out.below HS.out ((Below.refl wr.heap.size wr).alloc (Nat.le_refl _) (.cells #[.int .i64 x.id, .int .i64 x.side, .int .i64 x.kind, .int .i64 x.price, .int .i64 x.qty] 24))
      have hGZ : ¬ G' wr.heap.size := fun e => Nat.lt_irrefl _ (HS.out.lt HW.out.v.m.mk_ _ e)
      have hZA : blkOf A ≠ some wr.heap.size := fun e => Nat.lt_irrefl _ (HW.out.v.m.row.lt e)
      have hZX : wr.heap.size ≠ X := fun e => by have := Blk.lt HW.out.v.bx; omega
      rw [ewa] at hZ hWa ⊢
      rw [eZ] at hZ hGZ hZA hZX ⊢
      have HZA := hid hZA
      have HZX := hid hZX
      clear hZA hZX
      obtain ⟨x0, x1, x2, x3, x4⟩ := ord_box hWa.v.bx
      obtain ⟨z0, z1, z2, z3, z4⟩ := box5m hZ
      dsimp only at x0 x1 x2 x3 x4
      have HWa := hid hWa
      have HZ := hid hZ
      have HGZ := hid hGZ
      clear hWa hZ hGZ HW ewa eZ y0 y1 y2 y3 y4
      by_cases c0 : q < 1
      · have d0 : decide (q < 1) = true := decT c0
        have HC0 := hid c0
        clear c0
        have hY := HWa.out.v.by_
        obtain ⟨v0, v1, v2, v3, v4⟩ := ord_box hY
        have f0 := Blk.frozen hY 0
        have f1 := Blk.frozen hY 1
        have f2 := Blk.frozen hY 2
        have f3 := Blk.frozen hY 3
        have f4 := Blk.frozen hY 4
        obtain ⟨hy1, hy2⟩ := box_set5 hY (.int .i64 oi) (.int .i64 2) (.int .i64 ok) (.int .i64 op) (.int .i64 q)
        have HY1 := hid hy1
        have HY2 := hid hy2
        clear hY hy1 hy2
        go_wp2_with fail
        go_region
        go_wp2_with fail
        exact meet_ret rfl (o := ⟨oi, 2, ok, op, q⟩) Y rfl rfl rfl rfl (Blk.drew HY1.out) (HWa.out.done HS.out (by rw [HDrop.out]; exact meet_done HC0.out) (HY2.out.then_ (Below.drew (Below.refl _ _))))
      · have d0 : decide (q < 1) = false := decF c0
        have HC0 : Hid (1 ≤ q) := hid (by omega)
        clear c0
        by_cases c1 : x.kind = 2
        · have d1 := beqT c1
          have HC1 := hid c1
          clear c1
          go_wp2_with fail
          go_roundg (n - (k + 1))
          case measure => omega
          case rel => exact ⟨k + 1, q, s, G', M1, M2, A, c, F, R ++ [x], by omega, rfl, by go_num, rfl, hid (HWa.out.pass HDrop.out (by have := HC0.out; omega) HC1.out)⟩
        · have d1 := beqF c1
          have HC1 := hid c1
          clear c1
          go_upto_region 9 with fail
          go_cut [42] (fun s42 wx => s42 = .bool (beyondB ⟨oi, 2, ok, op, q⟩ x) ∧ wx = wa)
          case first =>
            by_cases c2 : ok = 2
            · have d2 := bneF c2
              have HE : Hid (beyondB ⟨oi, 2, ok, op, q⟩ x = false) := hid (by unfold beyondB; dsimp only; rw [beqT c2]; rfl)
              clear c2
              go_wp2_with fail
              go_meet
              exact ⟨by rw [HE.out], rfl⟩
            · have d2 := bneT c2
              by_cases c3 : x.price < op
              · have d3 := decT c3
                have HE : Hid (beyondB ⟨oi, 2, ok, op, q⟩ x = true) := hid (by unfold beyondB; dsimp only; rw [beqF c2]; simp; exact c3)
                clear c2 c3
                go_wp2_with fail
                go_meet
                exact ⟨by rw [HE.out], rfl⟩
              · have d3 := decF c3
                have HE : Hid (beyondB ⟨oi, 2, ok, op, q⟩ x = false) := hid (by unfold beyondB; dsimp only; rw [beqF c2]; simp; omega)
                clear c2 c3
                go_wp2_with fail
                go_meet
                exact ⟨by rw [HE.out], rfl⟩
          case rest =>
            obtain ⟨rfl, rfl⟩ := hcut
            obtain ⟨bb, hbb⟩ : ∃ bb, beyondB ⟨oi, 2, ok, op, q⟩ x = bb := ⟨_, rfl⟩
            rw [hbb]
            have HBB := hid hbb
            clear hbb
            cases bb with
            | true =>
              have hY := HWa.out.v.by_
              obtain ⟨v0, v1, v2, v3, v4⟩ := ord_box hY
              have f0 := Blk.frozen hY 0
              have f1 := Blk.frozen hY 1
              have f2 := Blk.frozen hY 2
              have f3 := Blk.frozen hY 3
              have f4 := Blk.frozen hY 4
              obtain ⟨hy1, hy2⟩ := box_set5 hY (.int .i64 oi) (.int .i64 2) (.int .i64 ok) (.int .i64 op) (.int .i64 q)
              have HY1 := hid hy1
              have HY2 := hid hy2
              clear hY hy1 hy2
              go_wp2_with fail
              go_region
              go_wp2_with fail
              exact meet_ret rfl (o := ⟨oi, 2, ok, op, q⟩) Y rfl rfl rfl rfl (Blk.drew HY1.out) (HWa.out.done HS.out (by rw [HDrop.out]; exact meet_beyond (by have := HC0.out; show ¬ q < 1; omega) HC1.out HBB.out) (HY2.out.then_ (Below.drew (Below.refl _ _))))
            | false =>
              go_wp2_with fail
              go_at_fn ga
              refine (HS.out.allows x.price HWa.out.v.m.mk_ ⟨HXok.out.2.2.1.1, HXok.out.2.2.1.2⟩).mono ?_
              rintro e wb ⟨rfl, hbb⟩
              have hWb := HWa.out.below HS.out hbb
              have hZb := Blk.keep HZ.out hbb
              obtain ⟨ab, hab⟩ : ∃ ab, al s x.price = ab := ⟨_, rfl⟩
              rw [hab]
              have HAB := hid hab
              have HWa := hid hWb
              have HZ := hid hZb
              obtain ⟨x0, x1, x2, x3, x4⟩ := ord_box hWb.v.bx
              obtain ⟨z0, z1, z2, z3, z4⟩ := box5m hZb
              dsimp only at x0 x1 x2 x3 x4
              clear hWb hZb hbb hab
              cases ab with
              | false =>
                have hY := HWa.out.v.by_
                obtain ⟨v0, v1, v2, v3, v4⟩ := ord_box hY
                have f0 := Blk.frozen hY 0
                have f1 := Blk.frozen hY 1
                have f2 := Blk.frozen hY 2
                have f3 := Blk.frozen hY 3
                have f4 := Blk.frozen hY 4
                obtain ⟨hy1, hy2⟩ := box_set5 hY (.int .i64 oi) (.int .i64 2) (.int .i64 ok) (.int .i64 op) (.int .i64 q)
                have HY1 := hid hy1
                have HY2 := hid hy2
                clear hY hy1 hy2
                go_wp2_with fail
                go_region
                go_wp2_with fail
                exact meet_ret rfl (o := ⟨oi, 2, ok, op, q⟩) Y rfl rfl rfl rfl (Blk.drew HY1.out) (HWa.out.done HS.out (by rw [HDrop.out]; exact meet_stop (by have := HC0.out; show ¬ q < 1; omega) HC1.out HBB.out HAB.out) (HY2.out.then_ (Below.drew (Below.refl _ _))))
              | true =>
                clear x0 x1 x2 x3 x4 z0 z1 z2 z3 z4
                obtain ⟨m, hm⟩ : ∃ m, min q x.qty = m := ⟨_, rfl⟩
                have hq1 := HC0.out
                have hxq := HXok.out.2.2.2
                have hqb := HWa.out.qb
                unfold Fit64 at hqb
                have hm1 : 1 ≤ m := by omega
                have hmx : m ≤ x.qty := by omega
                have hmq : m ≤ q := by omega
                have HM := hid hm
                clear hm
                go_upto_region 13 with fail
                obtain ⟨x0, x1, x2, x3, x4⟩ := ord_box HWa.out.v.bx
                obtain ⟨z0, z1, z2, z3, z4⟩ := box5m HZ.out
                dsimp only at x0 x1 x2 x3 x4
                go_cut [16] (fun s16 wx => s16 = .int .i64 m ∧ wx = wb)
                case first =>
                  go_wp2_with fail
                  all_goals go_meet
                  all_goals refine ⟨?_, rfl⟩
                  all_goals rw [← HM.out]
                  all_goals congr 1
                  all_goals omega
                case rest =>
                  obtain ⟨rfl, rfl⟩ := hcut
                  have hF1 : F.length ≤ 100000000 := by have := HWa.out.fl; omega
                  have HCn : Hid (cnt s ≤ F.length) := hid HWa.out.cn
                  have HCk : Hid (cnt s ≤ 1000) := hid (by have := HWa.out.fl; have := HWa.out.cn; omega)
                  obtain ⟨i0, hi0, hz0, hz1, hz2⟩ := info_parts fill_info
                  go_upto_region 15 with fail
                  have hal : Below wc.heap.size wc (wc.alloc (.cells #[.int .i64 oi, .int .i64 x.id, .int .i64 x.price, .int .i64 m] 96)) := (Below.refl _ _).alloc (Nat.le_refl _) _
                  have hQ := Blk.new wc 96 #[.int .i64 oi, .int .i64 x.id, .int .i64 x.price, .int .i64 m]
                  obtain ⟨Q, eQ⟩ : ∃ Q, wc.heap.size = Q := ⟨_, rfl⟩
                  have HQ0 : Hid (wc.heap.size ≤ Q) := hid (by omega)
                  obtain ⟨wf, ewf⟩ : ∃ W, wc.alloc (.cells #[.int .i64 oi, .int .i64 x.id, .int .i64 x.price, .int .i64 m] 96) = W := ⟨_, rfl⟩
                  have hWf := HWa.out.below HS.out hal
                  have hXQ : X ≠ wc.heap.size := fun e => by have := Blk.lt HWa.out.v.bx; omega
                  have hZf := Blk.keep HZ.out hal
                  rw [ewf] at hQ hWf hZf hal ⊢
                  have HAL := hid hal
                  rw [eQ] at hQ hXQ ⊢
                  have HXQ := hid hXQ
                  clear hXQ
                  have HWf := hid hWf
                  have HZf := hid hZf
                  have HQ := hid hQ
                  clear x0 x1 x2 x3 x4 z0 z1 z2 z3 z4 hal ewf eQ hWf hZf
                  obtain ⟨x0, x1, x2, x3, x4⟩ := ord_box HWf.out.v.bx
                  obtain ⟨z0, z1, z2, z3, z4⟩ := box5m HZf.out
                  obtain ⟨q0, q1, q2, q3⟩ := box4m hQ
                  dsimp only at x0 x1 x2 x3 x4
                  clear hQ
                  have f0 := Blk.frozen HQ.out 0
                  have f1 := Blk.frozen HQ.out 1
                  have hk1 := Keeps.set_ wf ⟨Q, 0, none⟩ (.int .i64 x.id)
                  have hxq2 := (hk1.cell (p := ⟨X, 0, none⟩) (Blk.lt HWf.out.v.bx) (fun e => HXQ.out e)).trans x0
                  have hq1 := Blk.set_ HQ.out 0 (.int .i64 x.id)
                  have g1 : (wf.setCell ⟨Q, 0, none⟩ (.int .i64 x.id)).cell? ⟨Q, 1, none⟩ = some (.int .i64 x.id) := by rw [Blk.cell hq1]; rfl
                  have g2 := Blk.frozen hq1 1
                  clear hk1 hq1
                  go_upto_region 16 with fail
                  go_region
                  have hkk := ((Keeps.set_ wf ⟨Q, 0, none⟩ (.int .i64 x.id)).trans (Keeps.set_ _ ⟨Q, 1, none⟩ (.int .i64 oi)) (fun _ h => .inl h)).then_ (Below.drew (Below.refl _ _))
                  have hb2 := HAL.out.trans (hkk.below (fun i e => e ▸ HQ0.out) HAL.out.size)
                  have hW2 := HWa.out.below HS.out hb2
                  have hZ2 := Blk.keep HZ.out hb2
                  have hQ2 : Blk ((wf.setCell ⟨Q, 0, none⟩ (.int .i64 x.id)).setCell ⟨Q, 1, none⟩ (.int .i64 oi)).drew Q 96 #[.int .i64 x.id, .int .i64 oi, .int .i64 x.price, .int .i64 m] := Blk.drew (Blk.set_ (Blk.set_ HQ.out 0 _) 1 _)
                  obtain ⟨wg, ewg⟩ : ∃ W, ((wf.setCell ⟨Q, 0, none⟩ (.int .i64 x.id)).setCell ⟨Q, 1, none⟩ (.int .i64 oi)).drew = W := ⟨_, rfl⟩
                  rw [ewg] at hW2 hZ2 hQ2 ⊢
                  clear x0 x1 x2 x3 x4 z0 z1 z2 z3 z4 q0 q1 q2 q3 hkk hb2 ewg f0 f1 hxq2 g1 g2 HWf HZf HQ
                  have HWf := hid hW2
                  have HZf := hid hZ2
                  obtain ⟨x0, x1, x2, x3, x4⟩ := ord_box HWf.out.v.bx
                  obtain ⟨z0, z1, z2, z3, z4⟩ := box5m HZf.out
                  obtain ⟨q0, q1, q2, q3⟩ := box4m hQ2
                  dsimp only at x0 x1 x2 x3 x4
                  have HQ := hid hQ2
                  clear hW2 hZ2 hQ2
                  have HO1 := hid (World.ownsRow.alloc (show wg.ownsRow 0 96 4 (.slice A F.length c) F.length (flat encFl F) from HWf.out.v.m.row) (.cells #[.int .i64 x.id, .int .i64 oi, .int .i64 x.price, .int .i64 m] 96))
                  go_upto_region 18 with (at_builtin; refine wpList_append_lies _ rfl _ _ 34 rfl 0 96 i0 _ 4 32 Tryz.underlying34 hi0 hz0 hz1 hz2 rfl (by omega) (.slice A F.length c) F.length _ rfl HO1.out ⟨wg.heap.size, 0, none⟩ 1 1 [.int .i64 x.id, .int .i64 oi, .int .i64 x.price, .int .i64 m] rfl rfl (World.news_of_block (cs := #[.int .i64 x.id, .int .i64 oi, .int .i64 x.price, .int .i64 m]) (t := 96) (fr := (0, 0)) (heap_alloc_new wg _)) (by simp [Value.oneCell']) (by omega) (by unfold maxLen; omega) (by omega) (by simp) (wg.heap.size + 1) (by simp) ?_; intro gg cap w6 hown hgrow hat6 hlt6)
                  have hk6 := keeps_of_new hgrow
                  rw [own_slice] at hk6 hat6
                  have hV6 := HWf.out.v.fill HS.out (f := ⟨x.id, oi, x.price, m⟩) hk6 hown (hat6.imp id (fun e => by omega))
                  have hZ6 := Blk.keeps HZf.out hk6 HZA.out
                  obtain ⟨hget, hown6, hoth6⟩ := meet_cut (n := m) (HS.out.ok hV6.m.mk_) Is12_2 (HWf.out.oth.trans (by rw [HDrop.out]))
                  have hcc := HS.out.cut x m hV6.m.mk_ hget hm1 hmx
                  have HCC := hid hcc
                  have HV6 := hid hV6
                  have HZ6 := hid hZ6
                  have HOwn := hid (hown6.trans HWf.out.own)
                  have HOth := hid hoth6
                  have HEq := hid (show meetP al tr l ⟨oi, 2, ok, op, oq⟩ s0 = MeetR.join (F ++ [⟨x.id, oi, x.price, m⟩]) (R ++ leftL x m) (meetP al tr (l.drop (k + 1)) ⟨oi, 2, ok, op, q - m⟩ (tr s x.price)) from HWf.out.eq.trans (by rw [HDrop.out]; exact meet_trade (by have := HC0.out; show ¬ q < 1; omega) HC1.out HBB.out HAB.out HM.out))
                  have HFl := hid HWf.out.fl
                  clear x0 x1 x2 x3 x4 z0 z1 z2 z3 z4 q0 q1 q2 q3 hk6 hown hgrow hat6 hlt6 hV6 hZ6 hget hown6 hoth6 hcc HO1 hi0 hz0 hz1 hz2 HWf HZf HQ HWa HZ
                  obtain ⟨z0, z1, z2, z3, z4⟩ := box5m HZ6.out
                  go_wp2_with fail
                  refine HCC.out.mono ?_
                  rintro e w7 ⟨rfl, G2, hk7, hb7⟩
                  have hV7 := HV6.out.turn hk7 hb7
                  have hZ7 := Blk.keeps HZ6.out hb7.1 (fun e => HGZ.out e)
                  have hV8 := hV7.lots HS.out (q' := q - m)
                  have hZ8 := Blk.keeps hZ7 (Keeps.set_ w7 ⟨X, 4, none⟩ (.int .i64 (q - m))) HZX.out
                  have i1 : RowKit.wrap64 (q - m) = q - m := by unfold RowKit.wrap64; omega
                  have f4 := Blk.frozen hV7.bx 4
                  obtain ⟨x0, x1, x2, x3, x4⟩ := ord_box hV7.bx
                  dsimp only at x0 x1 x2 x3 x4
                  have HV8 := hid hV8
                  have HZ8 := hid hZ8
                  clear hV7 hZ7 hV8 hZ8 hk7 hb7 z0 z1 z2 z3 z4 HV6 HZ6 HCC
                  go_upto_region 20 with fail
                  obtain ⟨w8, ew8⟩ : ∃ W, w7.setCell ⟨X, 4, none⟩ (.int .i64 (q - m)) = W := ⟨_, rfl⟩
                  rw [ew8] at HV8 HZ8 ⊢
                  clear ew8 x0 x1 x2 x3 x4 f4
                  obtain ⟨z0, z1, z2, z3, z4⟩ := box5m HZ8.out
                  go_wp2_with fail
                  go_at_fn gt
                  refine (HS.out.trades x.price HV8.out.m.mk_ ⟨HXok.out.2.2.1.1, HXok.out.2.2.1.2⟩ HCk.out).mono ?_
                  rintro e w9 ⟨rfl, G3, hk9, hb9⟩
                  have HV9 := hid (HV8.out.turn hk9 hb9)
                  clear hk9 hb9 z0 z1 z2 z3 z4 HV8 HZ8 i1
                  go_wp2_with fail
                  go_roundg (n - (k + 1))
                  case measure => omega
                  case rel => exact ⟨k + 1, q - m, tr s x.price, G3, cutS M1 x m, cutS M2 x m, some ⟨gg, 0, none⟩, cap, F ++ [⟨x.id, oi, x.price, m⟩], R ++ leftL x m, by omega, rfl, by go_num, by simp, hid ⟨HV9.out, HEq.out, HOwn.out, HOth.out, by rw [List.length_append, List.length_singleton]; exact Nat.succ_le_succ HFl.out, by unfold Fit64; omega, by have h1 := HS.out.cnt_ s x.price; have h2 := HCn.out; rw [List.length_append, List.length_singleton]; omega⟩⟩
    · obtain rfl : k = n := by omega
      have hltz : ¬ (k : Int) < (k : Int) := by omega
      have hY := HW.out.v.by_
      obtain ⟨v0, v1, v2, v3, v4⟩ := ord_box hY
      obtain ⟨x0, x1, x2, x3, x4⟩ := ord_box HW.out.v.bx
      dsimp only at x0 x1 x2 x3 x4
      have f0 := Blk.frozen hY 0
      have f1 := Blk.frozen hY 1
      have f2 := Blk.frozen hY 2
      have f3 := Blk.frozen hY 3
      have f4 := Blk.frozen hY 4
      obtain ⟨hy1, hy2⟩ := box_set5 hY (.int .i64 oi) (.int .i64 2) (.int .i64 ok) (.int .i64 op) (.int .i64 q)
      have HY1 := hid hy1
      have HY2 := hid hy2
      clear hY hy1 hy2
      go_wp2_with fail
      go_region
      go_wp2_with fail
      have hdn : l.drop k = [] := List.drop_eq_nil_of_le (by rw [HN.out]; exact Nat.le_refl _)
      exact meet_ret rfl (o := ⟨oi, 2, ok, op, q⟩) Y rfl rfl rfl rfl (Blk.drew HY1.out) (HW.out.done HS.out (by rw [hdn, meet_end, List.append_nil]) (HY2.out.then_ (Below.drew (Below.refl _ _))))
end Go.Proofs.YtkcgchpbjegneaaGreatDoor
namespace Go.Proofs.YtkcgchpbjegneaaGreatDoor
open Go.RowKit
set_option linter.unusedVariables false

set_option maxRecDepth 100000 in
set_option maxHeartbeats 16000000 in
theorem refMeets_1 {σ : Type} {K : σ → List Ord5 → List Ord5 → (Nat → Prop) → World → Prop} {al : σ → Int → Bool} {tr : σ → Int → σ} {cnt : σ → Nat} {ga gt : FuncId} {ca ct : Array Value} {b o0 : Nat}
    (hs : MeetSays K al tr cnt ga gt ca ct 45 (.pointer (some ⟨b, o0, none⟩)) (.int .i64 0))
    (hside : ∀ {s : σ} {L1 L2 : List Ord5} {F : Nat → Prop} {w : World}, K s L1 L2 F w → ∀ sd, Is12 sd → Calls Tryz.prog 40 #[.pointer (some ⟨b, o0, none⟩), .int .i64 sd] w fun e w' => Below w.heap.size w w' ∧ ∃ A c, e = .returned (.slice A (sideL sd L1 L2).length c) ∧ RowAt w' A (sideL sd L1 L2).length c 24 5 (flat encO (sideL sd L1 L2)) ∧ ∀ g, blkOf A = some g → w.heap.size ≤ g)
    (w : World) (s0 : σ) (G : Nat → Prop) (L1 L2 : List Ord5) (h : K s0 L1 L2 G w) (h0 : cnt s0 = 0) (oi ok op oq : Int) (hf : FitO ⟨oi, 1, ok, op, oq⟩) :
    Calls Tryz.prog 9 #[.pointer (some ⟨b, o0, none⟩), aggO ⟨oi, 1, ok, op, oq⟩, .func (.func ga) #[] ca, .func (.func gt) #[] ct] w fun e w' => MeetDone K w w' G 1 L1 L2 (meetP al tr (sideL 2 L1 L2) ⟨oi, 1, ok, op, oq⟩ s0) e := by
  have HS := hid hs
  have ega := hs.ega
  have egt := hs.egt
  have hlt := hs.lt h
  have hlists := hs.ok h
  obtain ⟨l, hl⟩ : ∃ l, sideL 2 L1 L2 = l := ⟨_, rfl⟩
  rw [hl]
  have hok : ∀ x ∈ l, OkO x := fun x hx => by
    rw [← hl] at hx
    refine hlists.ok x ?_
    unfold sideL at hx
    split at hx
    · exact List.mem_append_left _ hx
    · exact List.mem_append_right _ hx
  have hlen : l.length ≤ 100 := by
    have h1 := hlists.cnt
    rw [List.length_append] at h1
    rw [← hl]
    unfold sideL
    split <;> omega
  obtain ⟨n, hn⟩ : ∃ n, l.length = n := ⟨_, rfl⟩
  rw [hn] at hlen
  have hA1 : Below w.heap.size w (w.alloc (.cells (boxO ⟨oi, 1, ok, op, oq⟩) 24)) := (Below.refl _ w).alloc (Nat.le_refl _) _
  have hA2 : Below w.heap.size w ((w.alloc (.cells (boxO ⟨oi, 1, ok, op, oq⟩) 24)).alloc (.cells (boxO noO) 24)) := hA1.alloc (by simp) _
  have hX := Blk.alloc (Blk.new w 24 (boxO ⟨oi, 1, ok, op, oq⟩)) (.cells (boxO noO) 24)
  have hY : Blk ((w.alloc (.cells (boxO ⟨oi, 1, ok, op, oq⟩) 24)).alloc (.cells (boxO noO) 24)) (w.heap.size + 1) 24 (boxO noO) := by
    have := Blk.new (w.alloc (.cells (boxO ⟨oi, 1, ok, op, oq⟩) 24)) 24 (boxO noO)
    rw [World.size_alloc] at this
    exact this
  obtain ⟨w2, ew2⟩ : ∃ W, ((w.alloc (.cells (boxO ⟨oi, 1, ok, op, oq⟩) 24)).alloc (.cells (boxO noO) 24)) = W := ⟨_, rfl⟩
  rw [ew2] at hA2 hX hY
  have hK2 := hs.keep h (Keeps.of_below hA2 (fun _ => False)) (fun _ _ => id)
  have hcall := hside hK2 2 Is12_2
  rw [hl, hn] at hcall
  have HC := hid hcall
  have HX := hid hX
  have HY := hid hY
  have HA2 := hid hA2
  have HLt := hid hlt
  have HK2 := hid hK2
  have HOk := hid hok
  have HN := hid hn
  have HL := hid hl
  have hxs := hX.lt
  have hys := hY.lt
  have hqf : Fit64 oq := hf.2.2.2.2
  obtain ⟨x0, x1, x2, x3, x4⟩ := ord_box hX
  dsimp only at x0 x1 x2 x3 x4
  clear hs h hside hlists hok hA1 hA2 hX hY hK2 hcall hn hlt hf
  unfold boxO noO at ew2
  dsimp only at ew2
  show Calls Tryz.prog 9 #[.pointer (some ⟨b, o0, none⟩), .agg #[.int .i64 oi, .int .i64 1, .int .i64 ok, .int .i64 op, .int .i64 oq], .func (.func ga) #[] ca, .func (.func gt) #[] ct] w _
  go_enter Tryz.func9, Tryz.ntmps9
  go_upto_region 2 with fail
  try rw [ew2]
  clear ew2
  go_wp2_with fail
  refine HC.out.mono ?_
  rintro e w3 ⟨hb3, AL, cl, rfl, hrow3, hnew3⟩
  have hw2 : w.heap.size ≤ w2.heap.size := HA2.out.size
  have HST := hid (show MeetW K al tr cnt w w3 s0 s0 G G L1 L2 L1 L2 l oi 1 ok op oq oq w.heap.size (w.heap.size + 1) AL n cl none 0 [] [] 0 from
    ⟨⟨⟨HS.out.keep HK2.out (Keeps.of_below hb3 (fun _ => False)) (fun _ _ => id), BStep.of_below (HA2.out.trans (hb3.mono HA2.out.size)), World.ownsRow_nil _ _ _ _, fun g hg => by simp [blkOf] at hg⟩,
      Blk.keep HX.out hb3, Blk.keep HY.out hb3, fun e => Nat.lt_irrefl _ (HLt.out _ e), fun e => by have := HLt.out _ e; omega, by simp [blkOf], by simp [blkOf], by omega, hrow3, fun g hg => ⟨fun e => by have := HLt.out _ e; have := hnew3 g hg; omega, by simp [blkOf], by have := hnew3 g hg; omega, by have := hnew3 g hg; omega⟩, Nat.le_refl _, by omega⟩, by rw [List.drop_zero]; rfl, rfl, by rw [List.drop_zero, List.nil_append]; exact HL.out, Nat.zero_le _, hqf, by rw [h0]; exact Nat.zero_le _⟩)
  clear hb3 hrow3 hnew3 x0 x1 x2 x3 x4 HX HY HC HK2 HLt
  obtain ⟨X, eX⟩ : ∃ X, w.heap.size = X := ⟨_, rfl⟩
  obtain ⟨Y, eY⟩ : ∃ Y, w.heap.size + 1 = Y := ⟨_, rfl⟩
  rw [eY, eX] at HST ⊢
  have HEX := hid eX
  clear eX eY hxs hys HA2 hw2
  go_wp2_with fail
  go_loopg [11, 23] n (fun gg s11 s28 wr => ∃ (k : Nat) (q : Int) (s : σ) (G' : Nat → Prop) (M1 M2 : List Ord5) (A : Option Addr) (c : Nat) (F : List Fill4) (R : List Ord5), k ≤ n ∧ gg = n - k ∧ s28 = .int .i64 k ∧ s11 = .slice A F.length c ∧ Hid (MeetW K al tr cnt w wr s0 s G G' L1 L2 M1 M2 l oi 1 ok op oq q X Y AL n cl A c F R k))
  case atStart => exact ⟨0, oq, s0, G, L1, L2, none, 0, [], [], Nat.zero_le _, rfl, rfl, rfl, HST⟩
  case round =>
    obtain ⟨k, q, s, G', M1, M2, A, c, F, R, hk, rfl, rfl, rfl, HW⟩ := hrel
    clear HST
    by_cases hlt : k < n
    · have hkl : k < l.length := by rw [HN.out]; exact hlt
      obtain ⟨gl, hgl⟩ := row_addr' HW.out.v.lr (by omega)
      subst hgl
      obtain ⟨y0, y1, y2, y3, y4⟩ := ord_own HW.out.v.lr hkl
      have hdrop := List.drop_eq_getElem_cons hkl
      have hxok := HOk.out l[k] (List.getElem_mem hkl)
      obtain ⟨x, hx⟩ : ∃ x, l[k] = x := ⟨_, rfl⟩
      rw [hx] at y0 y1 y2 y3 y4 hdrop hxok
      have HDrop := hid hdrop
      have HXok := hid hxok
      have hltz : (k : Int) < (n : Int) := by omega
      have hk7 : (0 : Int) ≤ (k : Int) := by omega
      clear hdrop hxok hx
      go_upto_region 6 with fail
      obtain ⟨wa, ewa⟩ : ∃ W, (wr.alloc (.cells #[.int .i64 x.id, .int .i64 x.side, .int .i64 x.kind, .int .i64 x.price, .int .i64 x.qty] 24)) = W := ⟨_, rfl⟩
      obtain ⟨Z, eZ⟩ : ∃ Z, wr.heap.size = Z := ⟨_, rfl⟩
      have hZ := Blk.new wr 24 (boxO x)
      unfold boxO at hZ
      have hWa := HW.out.below HS.out ((Below.refl wr.heap.size wr).alloc (Nat.le_refl _) (.cells #[.int .i64 x.id, .int .i64 x.side, .int .i64 x.kind, .int .i64 x.price, .int .i64 x.qty] 24))
      have hGZ : ¬ G' wr.heap.size := fun e => Nat.lt_irrefl _ (HS.out.lt HW.out.v.m.mk_ _ e)
      have hZA : blkOf A ≠ some wr.heap.size := fun e => Nat.lt_irrefl _ (HW.out.v.m.row.lt e)
      have hZX : wr.heap.size ≠ X := fun e => by have := Blk.lt HW.out.v.bx; omega
      rw [ewa] at hZ hWa ⊢
      rw [eZ] at hZ hGZ hZA hZX ⊢
      have HZA := hid hZA
      have HZX := hid hZX
      clear hZA hZX
      obtain ⟨x0, x1, x2, x3, x4⟩ := ord_box hWa.v.bx
      obtain ⟨z0, z1, z2, z3, z4⟩ := box5m hZ
      dsimp only at x0 x1 x2 x3 x4
      have HWa := hid hWa
      have HZ := hid hZ
      have HGZ := hid hGZ
      clear hWa hZ hGZ HW ewa eZ y0 y1 y2 y3 y4
      by_cases c0 : q < 1
      · have d0 : decide (q ≤ 0) = true := decT (by omega)
        have HC0 := hid c0
        clear c0
        have hY := HWa.out.v.by_
        obtain ⟨v0, v1, v2, v3, v4⟩ := ord_box hY
        have f0 := Blk.frozen hY 0
        have f1 := Blk.frozen hY 1
        have f2 := Blk.frozen hY 2
        have f3 := Blk.frozen hY 3
        have f4 := Blk.frozen hY 4
        obtain ⟨hy1, hy2⟩ := box_set5 hY (.int .i64 oi) (.int .i64 1) (.int .i64 ok) (.int .i64 op) (.int .i64 q)
        have HY1 := hid hy1
        have HY2 := hid hy2
        clear hY hy1 hy2
        go_wp2_with fail
        go_region
        go_wp2_with fail
        exact meet_ret rfl (o := ⟨oi, 1, ok, op, q⟩) Y rfl rfl rfl rfl (Blk.drew HY1.out) (HWa.out.done HS.out (by rw [HDrop.out]; exact meet_done HC0.out) (HY2.out.then_ (Below.drew (Below.refl _ _))))
      · have d0 : decide (q ≤ 0) = false := decF (by omega)
        have HC0 : Hid (1 ≤ q) := hid (by omega)
        clear c0
        by_cases c1 : x.kind = 2
        · have d1 := beqT c1
          have HC1 := hid c1
          clear c1
          go_wp2_with fail
          go_roundg (n - (k + 1))
          case measure => omega
          case rel => exact ⟨k + 1, q, s, G', M1, M2, A, c, F, R ++ [x], by omega, rfl, by go_num, rfl, hid (HWa.out.pass HDrop.out (by have := HC0.out; omega) HC1.out)⟩
        · have d1 := beqF c1
          have HC1 := hid c1
          clear c1
          have hbeyond : ok ≠ 2 → op < x.price → beyondB ⟨oi, 1, ok, op, q⟩ x = true := fun c2 c3 => by unfold beyondB; dsimp only; rw [beqF c2]; simp; exact c3
          have hbeyond2 : ok ≠ 2 → ¬ (op < x.price) → beyondB ⟨oi, 1, ok, op, q⟩ x = false := fun c2 c3 => by unfold beyondB; dsimp only; rw [beqF c2]; simp; omega
          have hbeyond3 : ok = 2 → beyondB ⟨oi, 1, ok, op, q⟩ x = false := fun c2 => by unfold beyondB; dsimp only; rw [beqT c2]; rfl
          by_cases c2 : ok = 2
          · have d2 := bneF c2
            have HBB := hid (hbeyond3 c2)
            clear c2 hbeyond hbeyond2 hbeyond3
            go_wp2_with fail
            go_at_fn ga
            refine (HS.out.allows x.price HWa.out.v.m.mk_ ⟨HXok.out.2.2.1.1, HXok.out.2.2.1.2⟩).mono ?_
            rintro e wb ⟨rfl, hbb⟩
            have hWb := HWa.out.below HS.out hbb
            have hZb := Blk.keep HZ.out hbb
            obtain ⟨ab, hab⟩ : ∃ ab, al s x.price = ab := ⟨_, rfl⟩
            rw [hab]
            have HAB := hid hab
            have HWa := hid hWb
            have HZ := hid hZb
            obtain ⟨x0, x1, x2, x3, x4⟩ := ord_box hWb.v.bx
            obtain ⟨z0, z1, z2, z3, z4⟩ := box5m hZb
            dsimp only at x0 x1 x2 x3 x4
            clear hWb hZb hbb hab
            cases ab with
            | false =>
              have hY := HWa.out.v.by_
              obtain ⟨v0, v1, v2, v3, v4⟩ := ord_box hY
              have f0 := Blk.frozen hY 0
              have f1 := Blk.frozen hY 1
              have f2 := Blk.frozen hY 2
              have f3 := Blk.frozen hY 3
              have f4 := Blk.frozen hY 4
              obtain ⟨hy1, hy2⟩ := box_set5 hY (.int .i64 oi) (.int .i64 1) (.int .i64 ok) (.int .i64 op) (.int .i64 q)
              have HY1 := hid hy1
              have HY2 := hid hy2
              clear hY hy1 hy2
              go_wp2_with fail
              go_region
              go_wp2_with fail
              exact meet_ret rfl (o := ⟨oi, 1, ok, op, q⟩) Y rfl rfl rfl rfl (Blk.drew HY1.out) (HWa.out.done HS.out (by rw [HDrop.out]; exact meet_stop (by have := HC0.out; show ¬ q < 1; omega) HC1.out HBB.out HAB.out) (HY2.out.then_ (Below.drew (Below.refl _ _))))
            | true =>
              clear x0 x1 x2 x3 x4 z0 z1 z2 z3 z4
              obtain ⟨m, hm⟩ : ∃ m, min q x.qty = m := ⟨_, rfl⟩
              have hq1 := HC0.out
              have hxq := HXok.out.2.2.2
              have hqb := HWa.out.qb
              unfold Fit64 at hqb
              have hm1 : 1 ≤ m := by omega
              have hmx : m ≤ x.qty := by omega
              have hmq : m ≤ q := by omega
              have HM := hid hm
              clear hm
              go_upto_region 13 with fail
              obtain ⟨x0, x1, x2, x3, x4⟩ := ord_box HWa.out.v.bx
              obtain ⟨z0, z1, z2, z3, z4⟩ := box5m HZ.out
              dsimp only at x0 x1 x2 x3 x4
              go_cut [15] (fun s15 wx => s15 = .int .i64 m ∧ wx = wb)
              case first =>
                go_wp2_with fail
                all_goals go_meet
                all_goals refine ⟨?_, rfl⟩
                all_goals rw [← HM.out]
                all_goals congr 1
                all_goals omega
              case rest =>
                obtain ⟨rfl, rfl⟩ := hcut
                have hF1 : F.length ≤ 100000000 := by have := HWa.out.fl; omega
                have HCn : Hid (cnt s ≤ F.length) := hid HWa.out.cn
                have HCk : Hid (cnt s ≤ 1000) := hid (by have := HWa.out.fl; have := HWa.out.cn; omega)
                obtain ⟨i0, hi0, hz0, hz1, hz2⟩ := info_parts fill_info
                have HWf := HWa
                have HZf := HZ
                have HO1 := hid (World.ownsRow.alloc (show wc.ownsRow 0 96 4 (.slice A F.length c) F.length (flat encFl F) from HWf.out.v.m.row) (.cells #[.int .i64 oi, .int .i64 x.id, .int .i64 x.price, .int .i64 m] 96))
                go_upto_region 17 with (at_builtin; refine wpList_append_lies _ rfl _ _ 34 rfl 0 96 i0 _ 4 32 Tryz.underlying34 hi0 hz0 hz1 hz2 rfl (by omega) (.slice A F.length c) F.length _ rfl HO1.out ⟨wc.heap.size, 0, none⟩ 1 1 [.int .i64 oi, .int .i64 x.id, .int .i64 x.price, .int .i64 m] rfl rfl (World.news_of_block (cs := #[.int .i64 oi, .int .i64 x.id, .int .i64 x.price, .int .i64 m]) (t := 96) (fr := (0, 0)) (heap_alloc_new wc _)) (by simp [Value.oneCell']) (by omega) (by unfold maxLen; omega) (by omega) (by simp) (wc.heap.size + 1) (by simp) ?_; intro gg cap w6 hown hgrow hat6 hlt6)
                have hk6 := keeps_of_new hgrow
                rw [own_slice] at hk6 hat6
                have hV6 := HWf.out.v.fill HS.out (f := ⟨oi, x.id, x.price, m⟩) hk6 hown (hat6.imp id (fun e => by omega))
                have hZ6 := Blk.keeps HZf.out hk6 HZA.out
                obtain ⟨hget, hown6, hoth6⟩ := meet_cut (n := m) (HS.out.ok hV6.m.mk_) Is12_1 (HWf.out.oth.trans (by rw [HDrop.out]))
                have hcc := HS.out.cut x m hV6.m.mk_ hget hm1 hmx
                have HCC := hid hcc
                have HV6 := hid hV6
                have HZ6 := hid hZ6
                have HOwn := hid (hown6.trans HWf.out.own)
                have HOth := hid hoth6
                have HEq := hid (show meetP al tr l ⟨oi, 1, ok, op, oq⟩ s0 = MeetR.join (F ++ [⟨oi, x.id, x.price, m⟩]) (R ++ leftL x m) (meetP al tr (l.drop (k + 1)) ⟨oi, 1, ok, op, q - m⟩ (tr s x.price)) from HWf.out.eq.trans (by rw [HDrop.out]; exact meet_trade (by have := HC0.out; show ¬ q < 1; omega) HC1.out HBB.out HAB.out HM.out))
                have HFl := hid HWf.out.fl
                clear x0 x1 x2 x3 x4 z0 z1 z2 z3 z4 hk6 hown hgrow hat6 hlt6 hV6 hZ6 hget hown6 hoth6 hcc HO1 hi0 hz0 hz1 hz2 HWf HZf HWa HZ
                obtain ⟨z0, z1, z2, z3, z4⟩ := box5m HZ6.out
                go_wp2_with fail
                refine HCC.out.mono ?_
                rintro e w7 ⟨rfl, G2, hk7, hb7⟩
                have hV7 := HV6.out.turn hk7 hb7
                have hZ7 := Blk.keeps HZ6.out hb7.1 (fun e => HGZ.out e)
                have hV8 := hV7.lots HS.out (q' := q - m)
                have hZ8 := Blk.keeps hZ7 (Keeps.set_ w7 ⟨X, 4, none⟩ (.int .i64 (q - m))) HZX.out
                have i1 : RowKit.wrap64 (q - m) = q - m := by unfold RowKit.wrap64; omega
                have f4 := Blk.frozen hV7.bx 4
                obtain ⟨x0, x1, x2, x3, x4⟩ := ord_box hV7.bx
                dsimp only at x0 x1 x2 x3 x4
                have HV8 := hid hV8
                have HZ8 := hid hZ8
                clear hV7 hZ7 hV8 hZ8 hk7 hb7 z0 z1 z2 z3 z4 HV6 HZ6 HCC
                go_upto_region 19 with fail
                obtain ⟨w8, ew8⟩ : ∃ W, w7.setCell ⟨X, 4, none⟩ (.int .i64 (q - m)) = W := ⟨_, rfl⟩
                rw [ew8] at HV8 HZ8 ⊢
                clear ew8 x0 x1 x2 x3 x4 f4
                obtain ⟨z0, z1, z2, z3, z4⟩ := box5m HZ8.out
                go_wp2_with fail
                go_at_fn gt
                refine (HS.out.trades x.price HV8.out.m.mk_ ⟨HXok.out.2.2.1.1, HXok.out.2.2.1.2⟩ HCk.out).mono ?_
                rintro e w9 ⟨rfl, G3, hk9, hb9⟩
                have HV9 := hid (HV8.out.turn hk9 hb9)
                clear hk9 hb9 z0 z1 z2 z3 z4 HV8 HZ8 i1
                go_wp2_with fail
                go_roundg (n - (k + 1))
                case measure => omega
                case rel => exact ⟨k + 1, q - m, tr s x.price, G3, cutS M1 x m, cutS M2 x m, some ⟨gg, 0, none⟩, cap, F ++ [⟨oi, x.id, x.price, m⟩], R ++ leftL x m, by omega, rfl, by go_num, by simp, hid ⟨HV9.out, HEq.out, HOwn.out, HOth.out, by rw [List.length_append, List.length_singleton]; exact Nat.succ_le_succ HFl.out, by unfold Fit64; omega, by have h1 := HS.out.cnt_ s x.price; have h2 := HCn.out; rw [List.length_append, List.length_singleton]; omega⟩⟩
          · have d2 := bneT c2
            by_cases c3 : op < x.price
            · have d3 := decT c3
              have HBB := hid (hbeyond c2 c3)
              clear c2 c3 hbeyond hbeyond2 hbeyond3
              have hY := HWa.out.v.by_
              obtain ⟨v0, v1, v2, v3, v4⟩ := ord_box hY
              have f0 := Blk.frozen hY 0
              have f1 := Blk.frozen hY 1
              have f2 := Blk.frozen hY 2
              have f3 := Blk.frozen hY 3
              have f4 := Blk.frozen hY 4
              obtain ⟨hy1, hy2⟩ := box_set5 hY (.int .i64 oi) (.int .i64 1) (.int .i64 ok) (.int .i64 op) (.int .i64 q)
              have HY1 := hid hy1
              have HY2 := hid hy2
              clear hY hy1 hy2
              go_wp2_with fail
              go_region
              go_wp2_with fail
              exact meet_ret rfl (o := ⟨oi, 1, ok, op, q⟩) Y rfl rfl rfl rfl (Blk.drew HY1.out) (HWa.out.done HS.out (by rw [HDrop.out]; exact meet_beyond (by have := HC0.out; show ¬ q < 1; omega) HC1.out HBB.out) (HY2.out.then_ (Below.drew (Below.refl _ _))))
            · have d3 := decF c3
              have HBB := hid (hbeyond2 c2 c3)
              clear c2 c3 hbeyond hbeyond2 hbeyond3
              go_wp2_with fail
              go_at_fn ga
              refine (HS.out.allows x.price HWa.out.v.m.mk_ ⟨HXok.out.2.2.1.1, HXok.out.2.2.1.2⟩).mono ?_
              rintro e wb ⟨rfl, hbb⟩
              have hWb := HWa.out.below HS.out hbb
              have hZb := Blk.keep HZ.out hbb
              obtain ⟨ab, hab⟩ : ∃ ab, al s x.price = ab := ⟨_, rfl⟩
              rw [hab]
              have HAB := hid hab
              have HWa := hid hWb
              have HZ := hid hZb
              obtain ⟨x0, x1, x2, x3, x4⟩ := ord_box hWb.v.bx
              obtain ⟨z0, z1, z2, z3, z4⟩ := box5m hZb
              dsimp only at x0 x1 x2 x3 x4
              clear hWb hZb hbb hab
              cases ab with
              | false =>
                have hY := HWa.out.v.by_
                obtain ⟨v0, v1, v2, v3, v4⟩ := ord_box hY
                have f0 := Blk.frozen hY 0
                have f1 := Blk.frozen hY 1
                have f2 := Blk.frozen hY 2
                have f3 := Blk.frozen hY 3
                have f4 := Blk.frozen hY 4
                obtain ⟨hy1, hy2⟩ := box_set5 hY (.int .i64 oi) (.int .i64 1) (.int .i64 ok) (.int .i64 op) (.int .i64 q)
                have HY1 := hid hy1
                have HY2 := hid hy2
                clear hY hy1 hy2
                go_wp2_with fail
                go_region
                go_wp2_with fail
                exact meet_ret rfl (o := ⟨oi, 1, ok, op, q⟩) Y rfl rfl rfl rfl (Blk.drew HY1.out) (HWa.out.done HS.out (by rw [HDrop.out]; exact meet_stop (by have := HC0.out; show ¬ q < 1; omega) HC1.out HBB.out HAB.out) (HY2.out.then_ (Below.drew (Below.refl _ _))))
              | true =>
                clear x0 x1 x2 x3 x4 z0 z1 z2 z3 z4
                obtain ⟨m, hm⟩ : ∃ m, min q x.qty = m := ⟨_, rfl⟩
                have hq1 := HC0.out
                have hxq := HXok.out.2.2.2
                have hqb := HWa.out.qb
                unfold Fit64 at hqb
                have hm1 : 1 ≤ m := by omega
                have hmx : m ≤ x.qty := by omega
                have hmq : m ≤ q := by omega
                have HM := hid hm
                clear hm
                go_upto_region 13 with fail
                obtain ⟨x0, x1, x2, x3, x4⟩ := ord_box HWa.out.v.bx
                obtain ⟨z0, z1, z2, z3, z4⟩ := box5m HZ.out
                dsimp only at x0 x1 x2 x3 x4
                go_cut [15] (fun s15 wx => s15 = .int .i64 m ∧ wx = wb)
                case first =>
                  go_wp2_with fail
                  all_goals go_meet
                  all_goals refine ⟨?_, rfl⟩
                  all_goals rw [← HM.out]
                  all_goals congr 1
                  all_goals omega
                case rest =>
                  obtain ⟨rfl, rfl⟩ := hcut
                  have hF1 : F.length ≤ 100000000 := by have := HWa.out.fl; omega
                  have HCn : Hid (cnt s ≤ F.length) := hid HWa.out.cn
                  have HCk : Hid (cnt s ≤ 1000) := hid (by have := HWa.out.fl; have := HWa.out.cn; omega)
                  obtain ⟨i0, hi0, hz0, hz1, hz2⟩ := info_parts fill_info
                  have HWf := HWa
                  have HZf := HZ
                  have HO1 := hid (World.ownsRow.alloc (show wc.ownsRow 0 96 4 (.slice A F.length c) F.length (flat encFl F) from HWf.out.v.m.row) (.cells #[.int .i64 oi, .int .i64 x.id, .int .i64 x.price, .int .i64 m] 96))
                  go_upto_region 17 with (at_builtin; refine wpList_append_lies _ rfl _ _ 34 rfl 0 96 i0 _ 4 32 Tryz.underlying34 hi0 hz0 hz1 hz2 rfl (by omega) (.slice A F.length c) F.length _ rfl HO1.out ⟨wc.heap.size, 0, none⟩ 1 1 [.int .i64 oi, .int .i64 x.id, .int .i64 x.price, .int .i64 m] rfl rfl (World.news_of_block (cs := #[.int .i64 oi, .int .i64 x.id, .int .i64 x.price, .int .i64 m]) (t := 96) (fr := (0, 0)) (heap_alloc_new wc _)) (by simp [Value.oneCell']) (by omega) (by unfold maxLen; omega) (by omega) (by simp) (wc.heap.size + 1) (by simp) ?_; intro gg cap w6 hown hgrow hat6 hlt6)
                  have hk6 := keeps_of_new hgrow
                  rw [own_slice] at hk6 hat6
                  have hV6 := HWf.out.v.fill HS.out (f := ⟨oi, x.id, x.price, m⟩) hk6 hown (hat6.imp id (fun e => by omega))
                  have hZ6 := Blk.keeps HZf.out hk6 HZA.out
                  obtain ⟨hget, hown6, hoth6⟩ := meet_cut (n := m) (HS.out.ok hV6.m.mk_) Is12_1 (HWf.out.oth.trans (by rw [HDrop.out]))
                  have hcc := HS.out.cut x m hV6.m.mk_ hget hm1 hmx
                  have HCC := hid hcc
                  have HV6 := hid hV6
                  have HZ6 := hid hZ6
                  have HOwn := hid (hown6.trans HWf.out.own)
                  have HOth := hid hoth6
                  have HEq := hid (show meetP al tr l ⟨oi, 1, ok, op, oq⟩ s0 = MeetR.join (F ++ [⟨oi, x.id, x.price, m⟩]) (R ++ leftL x m) (meetP al tr (l.drop (k + 1)) ⟨oi, 1, ok, op, q - m⟩ (tr s x.price)) from HWf.out.eq.trans (by rw [HDrop.out]; exact meet_trade (by have := HC0.out; show ¬ q < 1; omega) HC1.out HBB.out HAB.out HM.out))
                  have HFl := hid HWf.out.fl
                  clear x0 x1 x2 x3 x4 z0 z1 z2 z3 z4 hk6 hown hgrow hat6 hlt6 hV6 hZ6 hget hown6 hoth6 hcc HO1 hi0 hz0 hz1 hz2 HWf HZf HWa HZ
                  obtain ⟨z0, z1, z2, z3, z4⟩ := box5m HZ6.out
                  go_wp2_with fail
                  refine HCC.out.mono ?_
                  rintro e w7 ⟨rfl, G2, hk7, hb7⟩
                  have hV7 := HV6.out.turn hk7 hb7
                  have hZ7 := Blk.keeps HZ6.out hb7.1 (fun e => HGZ.out e)
                  have hV8 := hV7.lots HS.out (q' := q - m)
                  have hZ8 := Blk.keeps hZ7 (Keeps.set_ w7 ⟨X, 4, none⟩ (.int .i64 (q - m))) HZX.out
                  have i1 : RowKit.wrap64 (q - m) = q - m := by unfold RowKit.wrap64; omega
                  have f4 := Blk.frozen hV7.bx 4
                  obtain ⟨x0, x1, x2, x3, x4⟩ := ord_box hV7.bx
                  dsimp only at x0 x1 x2 x3 x4
                  have HV8 := hid hV8
                  have HZ8 := hid hZ8
                  clear hV7 hZ7 hV8 hZ8 hk7 hb7 z0 z1 z2 z3 z4 HV6 HZ6 HCC
                  go_upto_region 19 with fail
                  obtain ⟨w8, ew8⟩ : ∃ W, w7.setCell ⟨X, 4, none⟩ (.int .i64 (q - m)) = W := ⟨_, rfl⟩
                  rw [ew8] at HV8 HZ8 ⊢
                  clear ew8 x0 x1 x2 x3 x4 f4
                  obtain ⟨z0, z1, z2, z3, z4⟩ := box5m HZ8.out
                  go_wp2_with fail
                  go_at_fn gt
                  refine (HS.out.trades x.price HV8.out.m.mk_ ⟨HXok.out.2.2.1.1, HXok.out.2.2.1.2⟩ HCk.out).mono ?_
                  rintro e w9 ⟨rfl, G3, hk9, hb9⟩
                  have HV9 := hid (HV8.out.turn hk9 hb9)
                  clear hk9 hb9 z0 z1 z2 z3 z4 HV8 HZ8 i1
                  go_wp2_with fail
                  go_roundg (n - (k + 1))
                  case measure => omega
                  case rel => exact ⟨k + 1, q - m, tr s x.price, G3, cutS M1 x m, cutS M2 x m, some ⟨gg, 0, none⟩, cap, F ++ [⟨oi, x.id, x.price, m⟩], R ++ leftL x m, by omega, rfl, by go_num, by simp, hid ⟨HV9.out, HEq.out, HOwn.out, HOth.out, by rw [List.length_append, List.length_singleton]; exact Nat.succ_le_succ HFl.out, by unfold Fit64; omega, by have h1 := HS.out.cnt_ s x.price; have h2 := HCn.out; rw [List.length_append, List.length_singleton]; omega⟩⟩
    · obtain rfl : k = n := by omega
      have hltz : ¬ (k : Int) < (k : Int) := by omega
      have hY := HW.out.v.by_
      obtain ⟨v0, v1, v2, v3, v4⟩ := ord_box hY
      obtain ⟨x0, x1, x2, x3, x4⟩ := ord_box HW.out.v.bx
      dsimp only at x0 x1 x2 x3 x4
      have f0 := Blk.frozen hY 0
      have f1 := Blk.frozen hY 1
      have f2 := Blk.frozen hY 2
      have f3 := Blk.frozen hY 3
      have f4 := Blk.frozen hY 4
      obtain ⟨hy1, hy2⟩ := box_set5 hY (.int .i64 oi) (.int .i64 1) (.int .i64 ok) (.int .i64 op) (.int .i64 q)
      have HY1 := hid hy1
      have HY2 := hid hy2
      clear hY hy1 hy2
      go_wp2_with fail
      go_region
      go_wp2_with fail
      have hdn : l.drop k = [] := List.drop_eq_nil_of_le (by rw [HN.out]; exact Nat.le_refl _)
      exact meet_ret rfl (o := ⟨oi, 1, ok, op, q⟩) Y rfl rfl rfl rfl (Blk.drew HY1.out) (HW.out.done HS.out (by rw [hdn, meet_end, List.append_nil]) (HY2.out.then_ (Below.drew (Below.refl _ _))))
end Go.Proofs.YtkcgchpbjegneaaGreatDoor
namespace Go.Proofs.YtkcgchpbjegneaaGreatDoor
open Go.RowKit
set_option linter.unusedVariables false

set_option maxRecDepth 100000 in
set_option maxHeartbeats 16000000 in
theorem refMeets_2 {σ : Type} {K : σ → List Ord5 → List Ord5 → (Nat → Prop) → World → Prop} {al : σ → Int → Bool} {tr : σ → Int → σ} {cnt : σ → Nat} {ga gt : FuncId} {ca ct : Array Value} {b o0 : Nat}
    (hs : MeetSays K al tr cnt ga gt ca ct 45 (.pointer (some ⟨b, o0, none⟩)) (.int .i64 0))
    (hside : ∀ {s : σ} {L1 L2 : List Ord5} {F : Nat → Prop} {w : World}, K s L1 L2 F w → ∀ sd, Is12 sd → Calls Tryz.prog 40 #[.pointer (some ⟨b, o0, none⟩), .int .i64 sd] w fun e w' => Below w.heap.size w w' ∧ ∃ A c, e = .returned (.slice A (sideL sd L1 L2).length c) ∧ RowAt w' A (sideL sd L1 L2).length c 24 5 (flat encO (sideL sd L1 L2)) ∧ ∀ g, blkOf A = some g → w.heap.size ≤ g)
    (w : World) (s0 : σ) (G : Nat → Prop) (L1 L2 : List Ord5) (h : K s0 L1 L2 G w) (h0 : cnt s0 = 0) (oi ok op oq : Int) (hf : FitO ⟨oi, 2, ok, op, oq⟩) :
    Calls Tryz.prog 9 #[.pointer (some ⟨b, o0, none⟩), aggO ⟨oi, 2, ok, op, oq⟩, .func (.func ga) #[] ca, .func (.func gt) #[] ct] w fun e w' => MeetDone K w w' G 2 L1 L2 (meetP al tr (sideL 1 L1 L2) ⟨oi, 2, ok, op, oq⟩ s0) e := by
  have HS := hid hs
  have ega := hs.ega
  have egt := hs.egt
  have hlt := hs.lt h
  have hlists := hs.ok h
  obtain ⟨l, hl⟩ : ∃ l, sideL 1 L1 L2 = l := ⟨_, rfl⟩
  rw [hl]
  have hok : ∀ x ∈ l, OkO x := fun x hx => by
    rw [← hl] at hx
    refine hlists.ok x ?_
    unfold sideL at hx
    split at hx
    · exact List.mem_append_left _ hx
    · exact List.mem_append_right _ hx
  have hlen : l.length ≤ 100 := by
    have h1 := hlists.cnt
    rw [List.length_append] at h1
    rw [← hl]
    unfold sideL
    split <;> omega
  obtain ⟨n, hn⟩ : ∃ n, l.length = n := ⟨_, rfl⟩
  rw [hn] at hlen
  have hA1 : Below w.heap.size w (w.alloc (.cells (boxO ⟨oi, 2, ok, op, oq⟩) 24)) := (Below.refl _ w).alloc (Nat.le_refl _) _
  have hA2 : Below w.heap.size w ((w.alloc (.cells (boxO ⟨oi, 2, ok, op, oq⟩) 24)).alloc (.cells (boxO noO) 24)) := hA1.alloc (by simp) _
  have hX := Blk.alloc (Blk.new w 24 (boxO ⟨oi, 2, ok, op, oq⟩)) (.cells (boxO noO) 24)
  have hY : Blk ((w.alloc (.cells (boxO ⟨oi, 2, ok, op, oq⟩) 24)).alloc (.cells (boxO noO) 24)) (w.heap.size + 1) 24 (boxO noO) := by
    have := Blk.new (w.alloc (.cells (boxO ⟨oi, 2, ok, op, oq⟩) 24)) 24 (boxO noO)
    rw [World.size_alloc] at this
    exact this
  obtain ⟨w2, ew2⟩ : ∃ W, ((w.alloc (.cells (boxO ⟨oi, 2, ok, op, oq⟩) 24)).alloc (.cells (boxO noO) 24)) = W := ⟨_, rfl⟩
  rw [ew2] at hA2 hX hY
  have hK2 := hs.keep h (Keeps.of_below hA2 (fun _ => False)) (fun _ _ => id)
  have hcall := hside hK2 1 Is12_1
  rw [hl, hn] at hcall
  have HC := hid hcall
  have HX := hid hX
  have HY := hid hY
  have HA2 := hid hA2
  have HLt := hid hlt
  have HK2 := hid hK2
  have HOk := hid hok
  have HN := hid hn
  have HL := hid hl
  have hxs := hX.lt
  have hys := hY.lt
  have hqf : Fit64 oq := hf.2.2.2.2
  obtain ⟨x0, x1, x2, x3, x4⟩ := ord_box hX
  dsimp only at x0 x1 x2 x3 x4
  clear hs h hside hlists hok hA1 hA2 hX hY hK2 hcall hn hlt hf
  unfold boxO noO at ew2
  dsimp only at ew2
  show Calls Tryz.prog 9 #[.pointer (some ⟨b, o0, none⟩), .agg #[.int .i64 oi, .int .i64 2, .int .i64 ok, .int .i64 op, .int .i64 oq], .func (.func ga) #[] ca, .func (.func gt) #[] ct] w _
  go_enter Tryz.func9, Tryz.ntmps9
  go_upto_region 2 with fail
  try rw [ew2]
  clear ew2
  go_wp2_with fail
  refine HC.out.mono ?_
  rintro e w3 ⟨hb3, AL, cl, rfl, hrow3, hnew3⟩
  have hw2 : w.heap.size ≤ w2.heap.size := HA2.out.size
  have HST := hid (show MeetW K al tr cnt w w3 s0 s0 G G L1 L2 L1 L2 l oi 2 ok op oq oq w.heap.size (w.heap.size + 1) AL n cl none 0 [] [] 0 from
    ⟨⟨⟨HS.out.keep HK2.out (Keeps.of_below hb3 (fun _ => False)) (fun _ _ => id), BStep.of_below (HA2.out.trans (hb3.mono HA2.out.size)), World.ownsRow_nil _ _ _ _, fun g hg => by simp [blkOf] at hg⟩,
      Blk.keep HX.out hb3, Blk.keep HY.out hb3, fun e => Nat.lt_irrefl _ (HLt.out _ e), fun e => by have := HLt.out _ e; omega, by simp [blkOf], by simp [blkOf], by omega, hrow3, fun g hg => ⟨fun e => by have := HLt.out _ e; have := hnew3 g hg; omega, by simp [blkOf], by have := hnew3 g hg; omega, by have := hnew3 g hg; omega⟩, Nat.le_refl _, by omega⟩, by rw [List.drop_zero]; rfl, rfl, by rw [List.drop_zero, List.nil_append]; exact HL.out, Nat.zero_le _, hqf, by rw [h0]; exact Nat.zero_le _⟩)
  clear hb3 hrow3 hnew3 x0 x1 x2 x3 x4 HX HY HC HK2 HLt
  obtain ⟨X, eX⟩ : ∃ X, w.heap.size = X := ⟨_, rfl⟩
  obtain ⟨Y, eY⟩ : ∃ Y, w.heap.size + 1 = Y := ⟨_, rfl⟩
  rw [eY, eX] at HST ⊢
  have HEX := hid eX
  clear eX eY hxs hys HA2 hw2
  go_wp2_with fail
  go_loopg [11, 23] n (fun gg s11 s28 wr => ∃ (k : Nat) (q : Int) (s : σ) (G' : Nat → Prop) (M1 M2 : List Ord5) (A : Option Addr) (c : Nat) (F : List Fill4) (R : List Ord5), k ≤ n ∧ gg = n - k ∧ s28 = .int .i64 k ∧ s11 = .slice A F.length c ∧ Hid (MeetW K al tr cnt w wr s0 s G G' L1 L2 M1 M2 l oi 2 ok op oq q X Y AL n cl A c F R k))
  case atStart => exact ⟨0, oq, s0, G, L1, L2, none, 0, [], [], Nat.zero_le _, rfl, rfl, rfl, HST⟩
  case round =>
    obtain ⟨k, q, s, G', M1, M2, A, c, F, R, hk, rfl, rfl, rfl, HW⟩ := hrel
    clear HST
    by_cases hlt : k < n
    · have hkl : k < l.length := by rw [HN.out]; exact hlt
      obtain ⟨gl, hgl⟩ := row_addr' HW.out.v.lr (by omega)
      subst hgl
      obtain ⟨y0, y1, y2, y3, y4⟩ := ord_own HW.out.v.lr hkl
      have hdrop := List.drop_eq_getElem_cons hkl
      have hxok := HOk.out l[k] (List.getElem_mem hkl)
      obtain ⟨x, hx⟩ : ∃ x, l[k] = x := ⟨_, rfl⟩
      rw [hx] at y0 y1 y2 y3 y4 hdrop hxok
      have HDrop := hid hdrop
      have HXok := hid hxok
      have hltz : (k : Int) < (n : Int) := by omega
      have hk7 : (0 : Int) ≤ (k : Int) := by omega
      clear hdrop hxok hx
      go_upto_region 6 with fail
      obtain ⟨wa, ewa⟩ : ∃ W, (wr.alloc (.cells #[.int .i64 x.id, .int .i64 x.side, .int .i64 x.kind, .int .i64 x.price, .int .i64 x.qty] 24)) = W := ⟨_, rfl⟩
      obtain ⟨Z, eZ⟩ : ∃ Z, wr.heap.size = Z := ⟨_, rfl⟩
      have hZ := Blk.new wr 24 (boxO x)
      unfold boxO at hZ
      have hWa := HW.out.below HS.out ((Below.refl wr.heap.size wr).alloc (Nat.le_refl _) (.cells #[.int .i64 x.id, .int .i64 x.side, .int .i64 x.kind, .int .i64 x.price, .int .i64 x.qty] 24))
      have hGZ : ¬ G' wr.heap.size := fun e => Nat.lt_irrefl _ (HS.out.lt HW.out.v.m.mk_ _ e)
      have hZA : blkOf A ≠ some wr.heap.size := fun e => Nat.lt_irrefl _ (HW.out.v.m.row.lt e)
      have hZX : wr.heap.size ≠ X := fun e => by have := Blk.lt HW.out.v.bx; omega
      rw [ewa] at hZ hWa ⊢
      rw [eZ] at hZ hGZ hZA hZX ⊢
      have HZA := hid hZA
      have HZX := hid hZX
      clear hZA hZX
      obtain ⟨x0, x1, x2, x3, x4⟩ := ord_box hWa.v.bx
      obtain ⟨z0, z1, z2, z3, z4⟩ := box5m hZ
      dsimp only at x0 x1 x2 x3 x4
      have HWa := hid hWa
      have HZ := hid hZ
      have HGZ := hid hGZ
      clear hWa hZ hGZ HW ewa eZ y0 y1 y2 y3 y4
      by_cases c0 : q < 1
      · have d0 : decide (q ≤ 0) = true := decT (by omega)
        have HC0 := hid c0
        clear c0
        have hY := HWa.out.v.by_
        obtain ⟨v0, v1, v2, v3, v4⟩ := ord_box hY
        have f0 := Blk.frozen hY 0
        have f1 := Blk.frozen hY 1
        have f2 := Blk.frozen hY 2
        have f3 := Blk.frozen hY 3
        have f4 := Blk.frozen hY 4
        obtain ⟨hy1, hy2⟩ := box_set5 hY (.int .i64 oi) (.int .i64 2) (.int .i64 ok) (.int .i64 op) (.int .i64 q)
        have HY1 := hid hy1
        have HY2 := hid hy2
        clear hY hy1 hy2
        go_wp2_with fail
        go_region
        go_wp2_with fail
        exact meet_ret rfl (o := ⟨oi, 2, ok, op, q⟩) Y rfl rfl rfl rfl (Blk.drew HY1.out) (HWa.out.done HS.out (by rw [HDrop.out]; exact meet_done HC0.out) (HY2.out.then_ (Below.drew (Below.refl _ _))))
      · have d0 : decide (q ≤ 0) = false := decF (by omega)
        have HC0 : Hid (1 ≤ q) := hid (by omega)
        clear c0
        by_cases c1 : x.kind = 2
        · have d1 := beqT c1
          have HC1 := hid c1
          clear c1
          go_wp2_with fail
          go_roundg (n - (k + 1))
          case measure => omega
          case rel => exact ⟨k + 1, q, s, G', M1, M2, A, c, F, R ++ [x], by omega, rfl, by go_num, rfl, hid (HWa.out.pass HDrop.out (by have := HC0.out; omega) HC1.out)⟩
        · have d1 := beqF c1
          have HC1 := hid c1
          clear c1
          have hbeyond : ok ≠ 2 → x.price < op → beyondB ⟨oi, 2, ok, op, q⟩ x = true := fun c2 c3 => by unfold beyondB; dsimp only; rw [beqF c2]; simp; exact c3
          have hbeyond2 : ok ≠ 2 → ¬ (x.price < op) → beyondB ⟨oi, 2, ok, op, q⟩ x = false := fun c2 c3 => by unfold beyondB; dsimp only; rw [beqF c2]; simp; omega
          have hbeyond3 : ok = 2 → beyondB ⟨oi, 2, ok, op, q⟩ x = false := fun c2 => by unfold beyondB; dsimp only; rw [beqT c2]; rfl
          by_cases c2 : ok = 2
          · have d2 := bneF c2
            have HBB := hid (hbeyond3 c2)
            clear c2 hbeyond hbeyond2 hbeyond3
            go_wp2_with fail
            go_at_fn ga
            refine (HS.out.allows x.price HWa.out.v.m.mk_ ⟨HXok.out.2.2.1.1, HXok.out.2.2.1.2⟩).mono ?_
            rintro e wb ⟨rfl, hbb⟩
            have hWb := HWa.out.below HS.out hbb
            have hZb := Blk.keep HZ.out hbb
            obtain ⟨ab, hab⟩ : ∃ ab, al s x.price = ab := ⟨_, rfl⟩
            rw [hab]
            have HAB := hid hab
            have HWa := hid hWb
            have HZ := hid hZb
            obtain ⟨x0, x1, x2, x3, x4⟩ := ord_box hWb.v.bx
            obtain ⟨z0, z1, z2, z3, z4⟩ := box5m hZb
            dsimp only at x0 x1 x2 x3 x4
            clear hWb hZb hbb hab
            cases ab with
            | false =>
              have hY := HWa.out.v.by_
              obtain ⟨v0, v1, v2, v3, v4⟩ := ord_box hY
              have f0 := Blk.frozen hY 0
              have f1 := Blk.frozen hY 1
              have f2 := Blk.frozen hY 2
              have f3 := Blk.frozen hY 3
              have f4 := Blk.frozen hY 4
              obtain ⟨hy1, hy2⟩ := box_set5 hY (.int .i64 oi) (.int .i64 2) (.int .i64 ok) (.int .i64 op) (.int .i64 q)
              have HY1 := hid hy1
              have HY2 := hid hy2
              clear hY hy1 hy2
              go_wp2_with fail
              go_region
              go_wp2_with fail
              exact meet_ret rfl (o := ⟨oi, 2, ok, op, q⟩) Y rfl rfl rfl rfl (Blk.drew HY1.out) (HWa.out.done HS.out (by rw [HDrop.out]; exact meet_stop (by have := HC0.out; show ¬ q < 1; omega) HC1.out HBB.out HAB.out) (HY2.out.then_ (Below.drew (Below.refl _ _))))
            | true =>
              clear x0 x1 x2 x3 x4 z0 z1 z2 z3 z4
              obtain ⟨m, hm⟩ : ∃ m, min q x.qty = m := ⟨_, rfl⟩
              have hq1 := HC0.out
              have hxq := HXok.out.2.2.2
              have hqb := HWa.out.qb
              unfold Fit64 at hqb
              have hm1 : 1 ≤ m := by omega
              have hmx : m ≤ x.qty := by omega
              have hmq : m ≤ q := by omega
              have HM := hid hm
              clear hm
              go_upto_region 13 with fail
              obtain ⟨x0, x1, x2, x3, x4⟩ := ord_box HWa.out.v.bx
              obtain ⟨z0, z1, z2, z3, z4⟩ := box5m HZ.out
              dsimp only at x0 x1 x2 x3 x4
              go_cut [15] (fun s15 wx => s15 = .int .i64 m ∧ wx = wb)
              case first =>
                go_wp2_with fail
                all_goals go_meet
                all_goals refine ⟨?_, rfl⟩
                all_goals rw [← HM.out]
                all_goals congr 1
                all_goals omega
              case rest =>
                obtain ⟨rfl, rfl⟩ := hcut
                have hF1 : F.length ≤ 100000000 := by have := HWa.out.fl; omega
                have HCn : Hid (cnt s ≤ F.length) := hid HWa.out.cn
                have HCk : Hid (cnt s ≤ 1000) := hid (by have := HWa.out.fl; have := HWa.out.cn; omega)
                obtain ⟨i0, hi0, hz0, hz1, hz2⟩ := info_parts fill_info
                have HWf := HWa
                have HZf := HZ
                have HO1 := hid (World.ownsRow.alloc (show wc.ownsRow 0 96 4 (.slice A F.length c) F.length (flat encFl F) from HWf.out.v.m.row) (.cells #[.int .i64 x.id, .int .i64 oi, .int .i64 x.price, .int .i64 m] 96))
                go_upto_region 17 with (at_builtin; refine wpList_append_lies _ rfl _ _ 34 rfl 0 96 i0 _ 4 32 Tryz.underlying34 hi0 hz0 hz1 hz2 rfl (by omega) (.slice A F.length c) F.length _ rfl HO1.out ⟨wc.heap.size, 0, none⟩ 1 1 [.int .i64 x.id, .int .i64 oi, .int .i64 x.price, .int .i64 m] rfl rfl (World.news_of_block (cs := #[.int .i64 x.id, .int .i64 oi, .int .i64 x.price, .int .i64 m]) (t := 96) (fr := (0, 0)) (heap_alloc_new wc _)) (by simp [Value.oneCell']) (by omega) (by unfold maxLen; omega) (by omega) (by simp) (wc.heap.size + 1) (by simp) ?_; intro gg cap w6 hown hgrow hat6 hlt6)
                have hk6 := keeps_of_new hgrow
                rw [own_slice] at hk6 hat6
                have hV6 := HWf.out.v.fill HS.out (f := ⟨x.id, oi, x.price, m⟩) hk6 hown (hat6.imp id (fun e => by omega))
                have hZ6 := Blk.keeps HZf.out hk6 HZA.out
                obtain ⟨hget, hown6, hoth6⟩ := meet_cut (n := m) (HS.out.ok hV6.m.mk_) Is12_2 (HWf.out.oth.trans (by rw [HDrop.out]))
                have hcc := HS.out.cut x m hV6.m.mk_ hget hm1 hmx
                have HCC := hid hcc
                have HV6 := hid hV6
                have HZ6 := hid hZ6
                have HOwn := hid (hown6.trans HWf.out.own)
                have HOth := hid hoth6
                have HEq := hid (show meetP al tr l ⟨oi, 2, ok, op, oq⟩ s0 = MeetR.join (F ++ [⟨x.id, oi, x.price, m⟩]) (R ++ leftL x m) (meetP al tr (l.drop (k + 1)) ⟨oi, 2, ok, op, q - m⟩ (tr s x.price)) from HWf.out.eq.trans (by rw [HDrop.out]; exact meet_trade (by have := HC0.out; show ¬ q < 1; omega) HC1.out HBB.out HAB.out HM.out))
                have HFl := hid HWf.out.fl
                clear x0 x1 x2 x3 x4 z0 z1 z2 z3 z4 hk6 hown hgrow hat6 hlt6 hV6 hZ6 hget hown6 hoth6 hcc HO1 hi0 hz0 hz1 hz2 HWf HZf HWa HZ
                obtain ⟨z0, z1, z2, z3, z4⟩ := box5m HZ6.out
                go_wp2_with fail
                refine HCC.out.mono ?_
                rintro e w7 ⟨rfl, G2, hk7, hb7⟩
                have hV7 := HV6.out.turn hk7 hb7
                have hZ7 := Blk.keeps HZ6.out hb7.1 (fun e => HGZ.out e)
                have hV8 := hV7.lots HS.out (q' := q - m)
                have hZ8 := Blk.keeps hZ7 (Keeps.set_ w7 ⟨X, 4, none⟩ (.int .i64 (q - m))) HZX.out
                have i1 : RowKit.wrap64 (q - m) = q - m := by unfold RowKit.wrap64; omega
                have f4 := Blk.frozen hV7.bx 4
                obtain ⟨x0, x1, x2, x3, x4⟩ := ord_box hV7.bx
                dsimp only at x0 x1 x2 x3 x4
                have HV8 := hid hV8
                have HZ8 := hid hZ8
                clear hV7 hZ7 hV8 hZ8 hk7 hb7 z0 z1 z2 z3 z4 HV6 HZ6 HCC
                go_upto_region 19 with fail
                obtain ⟨w8, ew8⟩ : ∃ W, w7.setCell ⟨X, 4, none⟩ (.int .i64 (q - m)) = W := ⟨_, rfl⟩
                rw [ew8] at HV8 HZ8 ⊢
                clear ew8 x0 x1 x2 x3 x4 f4
                obtain ⟨z0, z1, z2, z3, z4⟩ := box5m HZ8.out
                go_wp2_with fail
                go_at_fn gt
                refine (HS.out.trades x.price HV8.out.m.mk_ ⟨HXok.out.2.2.1.1, HXok.out.2.2.1.2⟩ HCk.out).mono ?_
                rintro e w9 ⟨rfl, G3, hk9, hb9⟩
                have HV9 := hid (HV8.out.turn hk9 hb9)
                clear hk9 hb9 z0 z1 z2 z3 z4 HV8 HZ8 i1
                go_wp2_with fail
                go_roundg (n - (k + 1))
                case measure => omega
                case rel => exact ⟨k + 1, q - m, tr s x.price, G3, cutS M1 x m, cutS M2 x m, some ⟨gg, 0, none⟩, cap, F ++ [⟨x.id, oi, x.price, m⟩], R ++ leftL x m, by omega, rfl, by go_num, by simp, hid ⟨HV9.out, HEq.out, HOwn.out, HOth.out, by rw [List.length_append, List.length_singleton]; exact Nat.succ_le_succ HFl.out, by unfold Fit64; omega, by have h1 := HS.out.cnt_ s x.price; have h2 := HCn.out; rw [List.length_append, List.length_singleton]; omega⟩⟩
          · have d2 := bneT c2
            by_cases c3 : x.price < op
            · have d3 := decT c3
              have HBB := hid (hbeyond c2 c3)
              clear c2 c3 hbeyond hbeyond2 hbeyond3
              have hY := HWa.out.v.by_
              obtain ⟨v0, v1, v2, v3, v4⟩ := ord_box hY
              have f0 := Blk.frozen hY 0
              have f1 := Blk.frozen hY 1
              have f2 := Blk.frozen hY 2
              have f3 := Blk.frozen hY 3
              have f4 := Blk.frozen hY 4
              obtain ⟨hy1, hy2⟩ := box_set5 hY (.int .i64 oi) (.int .i64 2) (.int .i64 ok) (.int .i64 op) (.int .i64 q)
              have HY1 := hid hy1
              have HY2 := hid hy2
              clear hY hy1 hy2
              go_wp2_with fail
              go_region
              go_wp2_with fail
              exact meet_ret rfl (o := ⟨oi, 2, ok, op, q⟩) Y rfl rfl rfl rfl (Blk.drew HY1.out) (HWa.out.done HS.out (by rw [HDrop.out]; exact meet_beyond (by have := HC0.out; show ¬ q < 1; omega) HC1.out HBB.out) (HY2.out.then_ (Below.drew (Below.refl _ _))))
            · have d3 := decF c3
              have HBB := hid (hbeyond2 c2 c3)
              clear c2 c3 hbeyond hbeyond2 hbeyond3
              go_wp2_with fail
              go_at_fn ga
              refine (HS.out.allows x.price HWa.out.v.m.mk_ ⟨HXok.out.2.2.1.1, HXok.out.2.2.1.2⟩).mono ?_
              rintro e wb ⟨rfl, hbb⟩
              have hWb := HWa.out.below HS.out hbb
              have hZb := Blk.keep HZ.out hbb
              obtain ⟨ab, hab⟩ : ∃ ab, al s x.price = ab := ⟨_, rfl⟩
              rw [hab]
              have HAB := hid hab
              have HWa := hid hWb
              have HZ := hid hZb
              obtain ⟨x0, x1, x2, x3, x4⟩ := ord_box hWb.v.bx
              obtain ⟨z0, z1, z2, z3, z4⟩ := box5m hZb
              dsimp only at x0 x1 x2 x3 x4
              clear hWb hZb hbb hab
              cases ab with
              | false =>
                have hY := HWa.out.v.by_
                obtain ⟨v0, v1, v2, v3, v4⟩ := ord_box hY
                have f0 := Blk.frozen hY 0
                have f1 := Blk.frozen hY 1
                have f2 := Blk.frozen hY 2
                have f3 := Blk.frozen hY 3
                have f4 := Blk.frozen hY 4
                obtain ⟨hy1, hy2⟩ := box_set5 hY (.int .i64 oi) (.int .i64 2) (.int .i64 ok) (.int .i64 op) (.int .i64 q)
                have HY1 := hid hy1
                have HY2 := hid hy2
                clear hY hy1 hy2
                go_wp2_with fail
                go_region
                go_wp2_with fail
                exact meet_ret rfl (o := ⟨oi, 2, ok, op, q⟩) Y rfl rfl rfl rfl (Blk.drew HY1.out) (HWa.out.done HS.out (by rw [HDrop.out]; exact meet_stop (by have := HC0.out; show ¬ q < 1; omega) HC1.out HBB.out HAB.out) (HY2.out.then_ (Below.drew (Below.refl _ _))))
              | true =>
                clear x0 x1 x2 x3 x4 z0 z1 z2 z3 z4
                obtain ⟨m, hm⟩ : ∃ m, min q x.qty = m := ⟨_, rfl⟩
                have hq1 := HC0.out
                have hxq := HXok.out.2.2.2
                have hqb := HWa.out.qb
                unfold Fit64 at hqb
                have hm1 : 1 ≤ m := by omega
                have hmx : m ≤ x.qty := by omega
                have hmq : m ≤ q := by omega
                have HM := hid hm
                clear hm
                go_upto_region 13 with fail
                obtain ⟨x0, x1, x2, x3, x4⟩ := ord_box HWa.out.v.bx
                obtain ⟨z0, z1, z2, z3, z4⟩ := box5m HZ.out
                dsimp only at x0 x1 x2 x3 x4
                go_cut [15] (fun s15 wx => s15 = .int .i64 m ∧ wx = wb)
                case first =>
                  go_wp2_with fail
                  all_goals go_meet
                  all_goals refine ⟨?_, rfl⟩
                  all_goals rw [← HM.out]
                  all_goals congr 1
                  all_goals omega
                case rest =>
                  obtain ⟨rfl, rfl⟩ := hcut
                  have hF1 : F.length ≤ 100000000 := by have := HWa.out.fl; omega
                  have HCn : Hid (cnt s ≤ F.length) := hid HWa.out.cn
                  have HCk : Hid (cnt s ≤ 1000) := hid (by have := HWa.out.fl; have := HWa.out.cn; omega)
                  obtain ⟨i0, hi0, hz0, hz1, hz2⟩ := info_parts fill_info
                  have HWf := HWa
                  have HZf := HZ
                  have HO1 := hid (World.ownsRow.alloc (show wc.ownsRow 0 96 4 (.slice A F.length c) F.length (flat encFl F) from HWf.out.v.m.row) (.cells #[.int .i64 x.id, .int .i64 oi, .int .i64 x.price, .int .i64 m] 96))
                  go_upto_region 17 with (at_builtin; refine wpList_append_lies _ rfl _ _ 34 rfl 0 96 i0 _ 4 32 Tryz.underlying34 hi0 hz0 hz1 hz2 rfl (by omega) (.slice A F.length c) F.length _ rfl HO1.out ⟨wc.heap.size, 0, none⟩ 1 1 [.int .i64 x.id, .int .i64 oi, .int .i64 x.price, .int .i64 m] rfl rfl (World.news_of_block (cs := #[.int .i64 x.id, .int .i64 oi, .int .i64 x.price, .int .i64 m]) (t := 96) (fr := (0, 0)) (heap_alloc_new wc _)) (by simp [Value.oneCell']) (by omega) (by unfold maxLen; omega) (by omega) (by simp) (wc.heap.size + 1) (by simp) ?_; intro gg cap w6 hown hgrow hat6 hlt6)
                  have hk6 := keeps_of_new hgrow
                  rw [own_slice] at hk6 hat6
                  have hV6 := HWf.out.v.fill HS.out (f := ⟨x.id, oi, x.price, m⟩) hk6 hown (hat6.imp id (fun e => by omega))
                  have hZ6 := Blk.keeps HZf.out hk6 HZA.out
                  obtain ⟨hget, hown6, hoth6⟩ := meet_cut (n := m) (HS.out.ok hV6.m.mk_) Is12_2 (HWf.out.oth.trans (by rw [HDrop.out]))
                  have hcc := HS.out.cut x m hV6.m.mk_ hget hm1 hmx
                  have HCC := hid hcc
                  have HV6 := hid hV6
                  have HZ6 := hid hZ6
                  have HOwn := hid (hown6.trans HWf.out.own)
                  have HOth := hid hoth6
                  have HEq := hid (show meetP al tr l ⟨oi, 2, ok, op, oq⟩ s0 = MeetR.join (F ++ [⟨x.id, oi, x.price, m⟩]) (R ++ leftL x m) (meetP al tr (l.drop (k + 1)) ⟨oi, 2, ok, op, q - m⟩ (tr s x.price)) from HWf.out.eq.trans (by rw [HDrop.out]; exact meet_trade (by have := HC0.out; show ¬ q < 1; omega) HC1.out HBB.out HAB.out HM.out))
                  have HFl := hid HWf.out.fl
                  clear x0 x1 x2 x3 x4 z0 z1 z2 z3 z4 hk6 hown hgrow hat6 hlt6 hV6 hZ6 hget hown6 hoth6 hcc HO1 hi0 hz0 hz1 hz2 HWf HZf HWa HZ
                  obtain ⟨z0, z1, z2, z3, z4⟩ := box5m HZ6.out
                  go_wp2_with fail
                  refine HCC.out.mono ?_
                  rintro e w7 ⟨rfl, G2, hk7, hb7⟩
                  have hV7 := HV6.out.turn hk7 hb7
                  have hZ7 := Blk.keeps HZ6.out hb7.1 (fun e => HGZ.out e)
                  have hV8 := hV7.lots HS.out (q' := q - m)
                  have hZ8 := Blk.keeps hZ7 (Keeps.set_ w7 ⟨X, 4, none⟩ (.int .i64 (q - m))) HZX.out
                  have i1 : RowKit.wrap64 (q - m) = q - m := by unfold RowKit.wrap64; omega
                  have f4 := Blk.frozen hV7.bx 4
                  obtain ⟨x0, x1, x2, x3, x4⟩ := ord_box hV7.bx
                  dsimp only at x0 x1 x2 x3 x4
                  have HV8 := hid hV8
                  have HZ8 := hid hZ8
                  clear hV7 hZ7 hV8 hZ8 hk7 hb7 z0 z1 z2 z3 z4 HV6 HZ6 HCC
                  go_upto_region 19 with fail
                  obtain ⟨w8, ew8⟩ : ∃ W, w7.setCell ⟨X, 4, none⟩ (.int .i64 (q - m)) = W := ⟨_, rfl⟩
                  rw [ew8] at HV8 HZ8 ⊢
                  clear ew8 x0 x1 x2 x3 x4 f4
                  obtain ⟨z0, z1, z2, z3, z4⟩ := box5m HZ8.out
                  go_wp2_with fail
                  go_at_fn gt
                  refine (HS.out.trades x.price HV8.out.m.mk_ ⟨HXok.out.2.2.1.1, HXok.out.2.2.1.2⟩ HCk.out).mono ?_
                  rintro e w9 ⟨rfl, G3, hk9, hb9⟩
                  have HV9 := hid (HV8.out.turn hk9 hb9)
                  clear hk9 hb9 z0 z1 z2 z3 z4 HV8 HZ8 i1
                  go_wp2_with fail
                  go_roundg (n - (k + 1))
                  case measure => omega
                  case rel => exact ⟨k + 1, q - m, tr s x.price, G3, cutS M1 x m, cutS M2 x m, some ⟨gg, 0, none⟩, cap, F ++ [⟨x.id, oi, x.price, m⟩], R ++ leftL x m, by omega, rfl, by go_num, by simp, hid ⟨HV9.out, HEq.out, HOwn.out, HOth.out, by rw [List.length_append, List.length_singleton]; exact Nat.succ_le_succ HFl.out, by unfold Fit64; omega, by have h1 := HS.out.cnt_ s x.price; have h2 := HCn.out; rw [List.length_append, List.length_singleton]; omega⟩⟩
    · obtain rfl : k = n := by omega
      have hltz : ¬ (k : Int) < (k : Int) := by omega
      have hY := HW.out.v.by_
      obtain ⟨v0, v1, v2, v3, v4⟩ := ord_box hY
      obtain ⟨x0, x1, x2, x3, x4⟩ := ord_box HW.out.v.bx
      dsimp only at x0 x1 x2 x3 x4
      have f0 := Blk.frozen hY 0
      have f1 := Blk.frozen hY 1
      have f2 := Blk.frozen hY 2
      have f3 := Blk.frozen hY 3
      have f4 := Blk.frozen hY 4
      obtain ⟨hy1, hy2⟩ := box_set5 hY (.int .i64 oi) (.int .i64 2) (.int .i64 ok) (.int .i64 op) (.int .i64 q)
      have HY1 := hid hy1
      have HY2 := hid hy2
      clear hY hy1 hy2
      go_wp2_with fail
      go_region
      go_wp2_with fail
      have hdn : l.drop k = [] := List.drop_eq_nil_of_le (by rw [HN.out]; exact Nat.le_refl _)
      exact meet_ret rfl (o := ⟨oi, 2, ok, op, q⟩) Y rfl rfl rfl rfl (Blk.drew HY1.out) (HW.out.done HS.out (by rw [hdn, meet_end, List.append_nil]) (HY2.out.then_ (Below.drew (Below.refl _ _))))
end Go.Proofs.YtkcgchpbjegneaaGreatDoor
namespace Go.Proofs.YtkcgchpbjegneaaGreatDoor
open Go.RowKit
set_option linter.unusedVariables false

abbrev lawAl (lo hi : Int) : List Int → Int → Bool := fun _ p => decide (lo ≤ p) && decide (p ≤ hi)
abbrev lawTr : List Int → Int → List Int := fun s p => s ++ [p]
def lawR (lo hi sd : Int) (L1 L2 : List Ord5) (o : Ord5) : MeetR (List Int) := meetP (lawAl lo hi) lawTr (sideL (3 - sd) L1 L2) o []
/-- both books, the order's variable, the asker's, and two lists of prices, empty yet -/
structure LawS (w0 w1 w : World) (b B lX hX X5 T13 T14 : Nat) (lo hi : Int) (ob : Ord5) (G : Nat → Prop) (cs : Array Value) (A : Option Addr) (L L1 L2 : List Ord5) : Prop where
  duo : Duo0 w1 w b B G cs A L L1 L2
  twin : Twin L L1 L2
  b01 : Below w0.heap.size w0 w1
  x5 : Blk w X5 24 (boxO ob)
  lo_ : Blk w lX 3 #[.int .i64 lo]
  hi_ : Blk w hX 3 #[.int .i64 hi]
  xl : w0.heap.size ≤ X5 ∧ X5 < lX ∧ lX < hX ∧ hX < w1.heap.size
  t13 : Blk w T13 32 #[.slice none 0 0]
  t14 : Blk w T14 32 #[.slice none 0 0]
  tt : w1.heap.size ≤ T13 ∧ T13 < T14
  n13 : ¬ G T13 ∧ T13 ≠ B ∧ blkOf A ≠ some T13
  n14 : ¬ G T14 ∧ T14 ≠ B ∧ blkOf A ≠ some T14
def lawF1 (B T14 lX hX : Nat) (A : Option Addr) (i : Nat) : Prop := (i = B ∨ blkOf A = some i) ∨ i = T14 ∨ i = lX ∨ i = hX
def lawF2 (T13 lX hX : Nat) (G : Nat → Prop) (i : Nat) : Prop := G i ∨ i = T13 ∨ i = lX ∨ i = hX
section
variable {w0 w1 w w' w6 w7 : World} {b B lX hX X5 T13 T14 : Nat} {lo hi sd : Int} {ob : Ord5} {G F1' F2' : Nat → Prop} {cs : Array Value} {A A1 A2 : Option Addr} {c1 c2 : Nat} {L L1 L2 M1 M2 N1 N2 : List Ord5} {r : MeetR (List Int)}
theorem LawS.few (h : LawS w0 w1 w b B lX hX X5 T13 T14 lo hi ob G cs A L L1 L2) : L.length ≤ 100 := by
  have h1 := h.duo.book.lists.cnt
  have h2 := h.twin.len
  rw [List.length_append] at h1
  omega
theorem LawS.first (h : LawS w0 w1 w b B lX hX X5 T13 T14 lo hi ob G cs A L L1 L2) : KLaw (RBk B) T14 lX hX lo hi [] L1 L2 (lawF1 B T14 lX hX A) w := by
  have hbb := h.duo.bb
  have hl := h.xl
  have ht := h.tt
  refine ⟨fun i => i = B ∨ blkOf A = some i, none, 0, ⟨cs, A, L, h.duo.ref, h.twin, h.few, fun i => Iff.rfl⟩, ⟨h.t14, World.ownsRow_nil _ _ _ _, by simp [blkOf]⟩, h.lo_, h.hi_, fun i => ?_, ?_, ?_, ?_, fun g hg => by simp [blkOf] at hg, by omega, by omega⟩
  · unfold lawF1
    simp [blkOf]
  · rintro (e | e)
    · exact h.n14.2.1 e
    · exact h.n14.2.2 e
  · rintro (e | e)
    · omega
    · have := h.duo.ab _ e; omega
  · rintro (e | e)
    · omega
    · have := h.duo.ab _ e; omega
/-- none of the program's in what the document's meeting turns -/
theorem LawS.far1 (h : LawS w0 w1 w b B lX hX X5 T13 T14 lo hi ob G cs A L L1 L2) {i : Nat} (hi : G i ∨ i = T13 ∨ i = X5) : ¬ lawF1 B T14 lX hX A i := by
  have hl := h.xl
  have ht := h.tt
  have hbb := h.duo.bb
  unfold lawF1
  rcases hi with hG | rfl | rfl
  · have := h.duo.gb _ hG
    rintro ((e | e) | e | e | e)
    · exact h.duo.ap (e ▸ hG)
    · exact h.duo.aa _ e hG
    · exact h.n14.1 (e ▸ hG)
    · omega
    · omega
  · rintro ((e | e) | e | e | e)
    · exact h.n13.2.1 e
    · exact h.n13.2.2 e
    · omega
    · omega
    · omega
  · rintro ((e | e) | e | e | e)
    · omega
    · have := h.duo.ab _ e; omega
    · omega
    · omega
    · omega
theorem LawS.second (h : LawS w0 w1 w b B lX hX X5 T13 T14 lo hi ob G cs A L L1 L2) (hm : MeetM (KLaw (RBk B) T14 lX hX lo hi) w w' r.st (lawF1 B T14 lX hX A) F1' M1 M2 A1 c1 r.fills) :
    KLaw (fun L1 L2 G w => BookAt w b G L1 L2) T13 lX hX lo hi [] L1 L2 (lawF2 T13 lX hX G) w' ∧ Blk w' X5 24 (boxO ob) := by
  have hbb := h.duo.bb
  have hl := h.xl
  have ht := h.tt
  obtain ⟨G1, At, ct, hk⟩ := hm.mk_
  refine ⟨⟨G, none, 0, h.duo.book.keeps hm.step.1 (fun i hi => h.far1 (.inl hi)), ⟨Blk.keeps h.t13 hm.step.1 (h.far1 (.inr (.inl rfl))), World.ownsRow_nil _ _ _ _, by simp [blkOf]⟩, hk.lo_, hk.hi_, fun i => ?_, h.n13.1, fun e => ?_, fun e => ?_, fun g hg => by simp [blkOf] at hg, by omega, by omega⟩, Blk.keeps h.x5 hm.step.1 (h.far1 (.inr (.inr rfl)))⟩
  · unfold lawF2
    simp [blkOf]
  · have := h.duo.gb _ e; omega
  · have := h.duo.gb _ e; omega
/-- what both leave -/
structure LawE (w0 w : World) (b B T13 T14 : Nat) (r : MeetR (List Int)) (A1 A2 : Option Addr) (c1 c2 : Nat) (G : Nat → Prop) (cs : Array Value) (A : Option Addr) (L M1 M2 : List Ord5) (Aa Ab : Option Addr) (ca cb : Nat) : Prop where
  bel : Below w0.heap.size w0 w
  book : BookAt w b G M1 M2
  ref : RefB w B 81 cs 0 A L
  twin : Twin L M1 M2
  row1 : RowAt w A1 r.fills.length c1 96 4 (flat encFl r.fills)
  row2 : RowAt w A2 r.fills.length c2 96 4 (flat encFl r.fills)
  told1 : ToldAt w T14 Aa ca r.st
  told2 : ToldAt w T13 Ab cb r.st
theorem LawE.below {Aa Ab : Option Addr} {ca cb : Nat} (h : LawE w0 w b B T13 T14 r A1 A2 c1 c2 G cs A L M1 M2 Aa Ab ca cb) (hb : Below w.heap.size w w') : LawE w0 w' b B T13 T14 r A1 A2 c1 c2 G cs A L M1 M2 Aa Ab ca cb :=
  ⟨h.bel.trans (hb.mono h.bel.size), h.book.below hb, h.ref.below hb, h.twin, h.row1.below hb, h.row2.below hb, h.told1.keeps (Keeps.of_below hb (fun _ => False)) id (fun _ _ => id), h.told2.keeps (Keeps.of_below hb (fun _ => False)) id (fun _ _ => id)⟩
theorem LawS.third (h : LawS w0 w1 w b B lX hX X5 T13 T14 lo hi ob G cs A L L1 L2) (hm : MeetM (KLaw (RBk B) T14 lX hX lo hi) w w' r.st (lawF1 B T14 lX hX A) F1' M1 M2 A1 c1 r.fills) (hb : Below w'.heap.size w' w6)
    (hm2 : MeetM (KLaw (fun L1 L2 G w => BookAt w b G L1 L2) T13 lX hX lo hi) w6 w7 r.st (lawF2 T13 lX hX G) F2' N1 N2 A2 c2 r.fills) (e1 : N1 = M1) (e2 : N2 = M2) :
    (∃ G' cs' A' L' Aa Ab ca cb, LawE w0 w7 b B T13 T14 r A1 A2 c1 c2 G' cs' A' L' M1 M2 Aa Ab ca cb) ∧ ∀ (i : Nat) (t : TypeId) (us : Array Value), Blk w6 i t us → w'.heap.size ≤ i → Blk w7 i t us := by
  subst e1 e2
  have hbb := h.duo.bb
  have hl := h.xl
  have ht := h.tt
  obtain ⟨G1, At, ct, k1⟩ := hm.mk_
  obtain ⟨G2, Bt, dt, k2⟩ := hm2.mk_
  obtain ⟨cs', A', L', hr, htw, hfew, hG1⟩ := k1.bk
  have hsz := hm.step.1.size
  have hsz6 := hb.size
  have h14l : T14 < w.heap.size := Blk.lt h.t14
  -- what is turned by the second meeting, lies ahead of the first one, and is none of the document's
  have old2 : ∀ i, lawF2 T13 lX hX G i → i < w.heap.size := by
    intro i hi
    unfold lawF2 at hi
    have := h.duo.book.fp (i := i)
    have h13 := Blk.lt h.t13
    rcases hi with e | e | e | e
    · exact this e
    · omega
    · omega
    · omega
  have far2 : ∀ i, (i = B ∨ blkOf A = some i ∨ i = T14) → ¬ lawF2 T13 lX hX G i := by
    intro i hi
    unfold lawF2
    rcases hi with rfl | e0 | rfl
    · rintro (e | e | e | e)
      · exact h.duo.ap e
      · exact h.n13.2.1 e.symm
      · omega
      · omega
    · have hab := h.duo.ab _ e0
      rintro (e | e | e | e)
      · exact h.duo.aa _ e0 e
      · exact h.n13.2.2 (e ▸ e0)
      · omega
      · omega
    · rintro (e | e | e | e)
      · exact h.n14.1 e
      · omega
      · omega
      · omega
  have farG1 : ∀ i, (G1 i ∨ i = T14 ∨ blkOf At = some i) → ¬ lawF2 T13 lX hX G i := by
    intro i hi e2
    have hF : F1' i := (k1.fp i).2 (by rcases hi with e | e | e <;> simp [e])
    rcases hm.step.2 i hF with h1 | h1
    · unfold lawF1 at h1
      rcases h1 with (e | e) | e | e | e
      · exact far2 i (.inl e) e2
      · exact far2 i (.inr (.inl e)) e2
      · exact far2 i (.inr (.inr e)) e2
      · rcases hi with e3 | e3 | e3
        · exact k1.gl (e ▸ e3)
        · omega
        · exact (k1.ga i e3).2.1 e
      · rcases hi with e3 | e3 | e3
        · exact k1.gh (e ▸ e3)
        · omega
        · exact (k1.ga i e3).2.2 e
    · have := old2 i e2; omega
  have hk67 := hm2.step.1
  have hr7 := (hr.below hb).keeps hk67 (farG1 B (.inl ((hG1 B).2 (.inl rfl)))) (fun g hg => farG1 g (.inl ((hG1 g).2 (.inr hg))))
  have hrow7 : RowAt w7 A1 r.fills.length c1 96 4 (flat encFl r.fills) := (hm.row.below hb).keeps hk67 (fun g hg e => by have := (hm.fpA g hg).2; have := old2 g e; omega)
  have ht7 := (k1.told.keeps (Keeps.of_below hb (fun _ => False)) id (fun _ _ => id)).keeps hk67 (farG1 T14 (.inr (.inl rfl))) (fun g hg => farG1 g (.inr (.inr hg)))
  have hb0 : Below w0.heap.size w0 w := h.b01.trans (h.duo.bel.mono h.b01.size)
  have hb1 : Below w0.heap.size w0 w' := hb0.trans (hm.step.1.below (fun i hi => by
    have := h.b01.size
    unfold lawF1 at hi
    rcases hi with (e | e) | e | e | e
    · omega
    · have := h.duo.ab _ e; omega
    · omega
    · omega
    · omega) hb0.size)
  have hb6 := hb1.trans (hb.mono hb1.size)
  have hb7 := hb6.trans (hk67.below (fun i hi => by
    have := h.b01.size
    unfold lawF2 at hi
    rcases hi with e | e | e | e
    · have := h.duo.gb _ e; omega
    · omega
    · omega
    · omega) hb6.size)
  refine ⟨⟨G2, cs', A', L', At, Bt, ct, dt, hb7, k2.bk, hr7, htw, hrow7, hm2.row, ht7, k2.told⟩, fun i t us hB hi => Blk.keeps hB hk67 (fun e => by have := old2 i e; omega)⟩
end
theorem refMeets_any {σ : Type} {K : σ → List Ord5 → List Ord5 → (Nat → Prop) → World → Prop} {al : σ → Int → Bool} {tr : σ → Int → σ} {cnt : σ → Nat} {ga gt : FuncId} {ca ct : Array Value} {b o0 : Nat}
    (hs : MeetSays K al tr cnt ga gt ca ct 45 (.pointer (some ⟨b, o0, none⟩)) (.int .i64 0))
    (hside : ∀ {s : σ} {L1 L2 : List Ord5} {F : Nat → Prop} {w : World}, K s L1 L2 F w → ∀ sd, Is12 sd → Calls Tryz.prog 40 #[.pointer (some ⟨b, o0, none⟩), .int .i64 sd] w fun e w' => Below w.heap.size w w' ∧ ∃ A c, e = .returned (.slice A (sideL sd L1 L2).length c) ∧ RowAt w' A (sideL sd L1 L2).length c 24 5 (flat encO (sideL sd L1 L2)) ∧ ∀ g, blkOf A = some g → w.heap.size ≤ g)
    (w : World) (s0 : σ) (G : Nat → Prop) (L1 L2 : List Ord5) (h : K s0 L1 L2 G w) (h0 : cnt s0 = 0) (oi sd ok op oq : Int) (hsd : Is12 sd) (hf : FitO ⟨oi, sd, ok, op, oq⟩) :
    Calls Tryz.prog 9 #[.pointer (some ⟨b, o0, none⟩), .agg #[.int .i64 oi, .int .i64 sd, .int .i64 ok, .int .i64 op, .int .i64 oq], .func (.func ga) #[] ca, .func (.func gt) #[] ct] w fun e w' => MeetDone K w w' G sd L1 L2 (meetP al tr (sideL (3 - sd) L1 L2) ⟨oi, sd, ok, op, oq⟩ s0) e := by
  rcases hsd with rfl | rfl
  · exact refMeets_1 hs hside w s0 G L1 L2 h h0 oi ok op oq hf
  · exact refMeets_2 hs hside w s0 G L1 L2 h h0 oi ok op oq hf
theorem crossMeets_any {σ : Type} {K : σ → List Ord5 → List Ord5 → (Nat → Prop) → World → Prop} {al : σ → Int → Bool} {tr : σ → Int → σ} {cnt : σ → Nat} {ga gt : FuncId} {ca ct : Array Value} {b : Nat}
    (hs : MeetSays K al tr cnt ga gt ca ct 47 (.pointer (some ⟨b, 0, none⟩)) .nilIface)
    (hside : ∀ {s : σ} {L1 L2 : List Ord5} {F : Nat → Prop} {w : World}, K s L1 L2 F w → ∀ sd, Is12 sd → Calls Tryz.prog 46 #[.pointer (some ⟨b, 0, none⟩), .int .i64 sd] w fun e w' => Below w.heap.size w w' ∧ ∃ A c, e = .returned (.tuple #[.slice A (sideL sd L1 L2).length c, .nilIface]) ∧ RowAt w' A (sideL sd L1 L2).length c 24 5 (flat encO (sideL sd L1 L2)) ∧ ∀ g, blkOf A = some g → w.heap.size ≤ g)
    (w : World) (s0 : σ) (G : Nat → Prop) (L1 L2 : List Ord5) (h : K s0 L1 L2 G w) (h0 : cnt s0 = 0) (oi sd ok op oq : Int) (hsd : Is12 sd) (hf : FitO ⟨oi, sd, ok, op, oq⟩) :
    Calls Tryz.prog 11 #[.pointer (some ⟨b, 0, none⟩), .agg #[.int .i64 oi, .int .i64 sd, .int .i64 ok, .int .i64 op, .int .i64 oq], .func (.func ga) #[] ca, .func (.func gt) #[] ct] w fun e w' => MeetDone K w w' G sd L1 L2 (meetP al tr (sideL (3 - sd) L1 L2) ⟨oi, sd, ok, op, oq⟩ s0) e := by
  rcases hsd with rfl | rfl
  · exact crossMeets_1 hs hside w s0 G L1 L2 h h0 oi ok op oq hf
  · exact crossMeets_2 hs hside w s0 G L1 L2 h h0 oi ok op oq hf
end Go.Proofs.YtkcgchpbjegneaaGreatDoor
namespace Go.Proofs.YtkcgchpbjegneaaGreatDoor
open Go.RowKit
set_option linter.unusedVariables false

theorem fill_ne (a b c d : Int) (w : World) : (binOp .neq 96 (.agg #[.int .i64 a, .int .i64 b, .int .i64 c, .int .i64 d]) (.agg #[.int .i64 a, .int .i64 b, .int .i64 c, .int .i64 d])).run Tryz.prog w = .ok (.bool false) w := by
  have hf : Tryz.prog.underlying 96 = some (.struct (Tryz.prog.fieldsOf 96)) := by kernel_rfl
  have hs : Tryz.prog.stoodInHeld 96 = false := by kernel_rfl
  have hi : Tryz.prog.underlying 3 = some (.int .i64) := Tryz.underlying3
  rw [run_neq_struct, run_equalIn_agg _ _ _ _ _ hf hs]
  simp [Program.fieldsOf, Tryz.underlying96, Op.eqFields, go_sem, hi]
theorem fill_at {w : World} {b off len : Nat} {l : List Fill4} (h : ElemsAt w encFl 4 (some ⟨b, off, none⟩) len l) {i : Nat} (hi : i < l.length) :
    w.cell? ⟨b, off + i * 4, none⟩ = some (.int .i64 l[i].b) ∧ w.cell? ⟨b, off + i * 4 + 1, none⟩ = some (.int .i64 l[i].s) ∧ w.cell? ⟨b, off + i * 4 + 2, none⟩ = some (.int .i64 l[i].p) ∧ w.cell? ⟨b, off + i * 4 + 3, none⟩ = some (.int .i64 l[i].n) :=
  ⟨h.at_ hi (j := 0) rfl, h.at_ hi (j := 1) rfl, h.at_ hi (j := 2) rfl, h.at_ hi (j := 3) rfl⟩

set_option maxRecDepth 100000 in
set_option maxHeartbeats 4000000 in
theorem sameFills_any (A A2 : Option Addr) (n c c2 : Nat) (ps : List Fill4) (w : World) (h : ElemsAt w encFl 4 A n ps) (h2 : ElemsAt w encFl 4 A2 n ps) (hm : n ≤ 1000000000) :
    Calls Tryz.prog 13 #[.slice A n c, .slice A2 n c2] w fun e w' => e = .returned (.bool true) ∧ Below w.heap.size w w' := by
  have HH := hid h
  have HH2 := hid h2
  have hl := h.1
  have HL := hid hl
  have e0 : ((n : Int) != (n : Int)) = false := bneF rfl
  clear h h2 hl
  go_enter Tryz.func13, Tryz.ntmps13
  go_wp2_with fail
  go_loopg [5] n (fun gg s5 wx => ∃ k : Nat, k ≤ n ∧ gg = n - k ∧ s5 = .int .i64 k ∧ Below w.heap.size w wx)
  case atStart => exact ⟨0, Nat.zero_le _, rfl, rfl, Below.refl _ _⟩
  case round =>
    obtain ⟨k, hk, rfl, rfl, hB⟩ := hrel
    by_cases hlt : k < n
    · have hkl : k < ps.length := by have := HL.out; omega
      obtain ⟨b, off, hA⟩ : ∃ b off, A = some ⟨b, off, none⟩ := by obtain ⟨b, off, h1, _⟩ := HH.out.2 (by omega); exact ⟨b, off, h1⟩
      obtain ⟨b2, off2, hA2⟩ : ∃ b off, A2 = some ⟨b, off, none⟩ := by obtain ⟨b, off, h1, _⟩ := HH2.out.2 (by omega); exact ⟨b, off, h1⟩
      subst hA hA2
      obtain ⟨x0, x1, x2, x3⟩ := fill_at (HH.out.below hB (Nat.le_refl _)) hkl
      obtain ⟨y0, y1, y2, y3⟩ := fill_at (HH2.out.below hB (Nat.le_refl _)) hkl
      have hltz : (k : Int) < (n : Int) := by omega
      have hi7 : (0 : Int) ≤ (k : Int) := by omega
      obtain ⟨o, eo⟩ : ∃ o, ps[k] = o := ⟨_, rfl⟩
      rw [eo] at x0 x1 x2 x3 y0 y1 y2 y3
      clear eo
      have hne := fill_ne o.b o.s o.p o.n
      go_wp2_with fail
      go_quiet (fail)
      go_wp2_with fail
      go_roundg (n - (k + 1))
      case measure => omega
      case rel => exact ⟨k + 1, by omega, rfl, by go_num, drewN_below hB _⟩
    · obtain rfl : k = n := by omega
      have hltz : ¬ (k : Int) < (k : Int) := by omega
      go_wp2
      go_ret
      exact ⟨rfl, hB⟩
end Go.Proofs.YtkcgchpbjegneaaGreatDoor
namespace Go.Proofs.YtkcgchpbjegneaaGreatDoor
open Go.RowKit
set_option linter.unusedVariables false

theorem told_at {w : World} {T : Nat} {A : Option Addr} {c m : Nat} {s : List Int} (h : ToldAt w T A c s) (hm : s.length = m) {k : Nat} (hk : k < s.length) : ∃ g, w.cell? ⟨T, 0, none⟩ = some (.slice (some ⟨g, 0, none⟩) m c) ∧ w.cell? ⟨g, k, none⟩ = some (.int .i64 s[k]) := by
  obtain ⟨g, hg, hc⟩ := h.row.cell (j := k) (u := .int .i64 s[k]) (by simp [hk])
  refine ⟨g, ?_, hc⟩
  rw [Blk.cell h.var, hg, hm]
  rfl

set_option maxRecDepth 100000 in
set_option maxHeartbeats 8000000 in
theorem crossMeets_law (A : Option Addr) (len cap : Nat) (l : List Ord5) (oi sd ok op oq lo hi : Int) (w : World) (h : ElemsAt w encO 5 A len l) (hm : len ≤ 9223372036854775807) (hf : ∀ x ∈ l, FitO x) (hfo : FitO ⟨oi, sd, ok, op, oq⟩) (hE : ErrType w) :
    Calls Tryz.prog 3 #[.slice A len cap, .agg #[.int .i64 oi, .int .i64 sd, .int .i64 ok, .int .i64 op, .int .i64 oq], .int .i64 lo, .int .i64 hi] w fun e w' => e = .returned (.bool true) ∧ Below w.heap.size w w' := by
  have hbw : Below w.heap.size w (((w.alloc (.cells #[.int .i64 oi, .int .i64 sd, .int .i64 ok, .int .i64 op, .int .i64 oq] 24)).alloc (.cells #[.int .i64 lo] 3)).alloc (.cells #[.int .i64 hi] 3)) := (((Below.refl _ w).alloc (Nat.le_refl _) _).alloc (by simp) _).alloc (by simp; omega) _
  by_cases hbig : 100 < len
  · have hz : (100 : Int) < (len : Int) := by omega
    clear h hf hE
    go_enter Tryz.func3, Tryz.ntmps3
    go_wp2
    go_ret
    exact ⟨rfl, hbw⟩
  · have hz : ¬ (100 : Int) < (len : Int) := by omega
    by_cases hsd : Is12 sd
    · have h5 : Blk (((w.alloc (.cells #[.int .i64 oi, .int .i64 sd, .int .i64 ok, .int .i64 op, .int .i64 oq] 24)).alloc (.cells #[.int .i64 lo] 3)).alloc (.cells #[.int .i64 hi] 3)) w.heap.size 24 #[.int .i64 oi, .int .i64 sd, .int .i64 ok, .int .i64 op, .int .i64 oq] := Blk.alloc (Blk.alloc (Blk.new _ _ _) _) _
      have h6 : Blk (((w.alloc (.cells #[.int .i64 oi, .int .i64 sd, .int .i64 ok, .int .i64 op, .int .i64 oq] 24)).alloc (.cells #[.int .i64 lo] 3)).alloc (.cells #[.int .i64 hi] 3)) (w.heap.size + 1) 3 #[.int .i64 lo] := by
        have := Blk.new (w.alloc (.cells #[.int .i64 oi, .int .i64 sd, .int .i64 ok, .int .i64 op, .int .i64 oq] 24)) 3 #[.int .i64 lo]
        rw [World.size_alloc] at this
        exact Blk.alloc this _
      have h7 : Blk (((w.alloc (.cells #[.int .i64 oi, .int .i64 sd, .int .i64 ok, .int .i64 op, .int .i64 oq] 24)).alloc (.cells #[.int .i64 lo] 3)).alloc (.cells #[.int .i64 hi] 3)) (w.heap.size + 1 + 1) 3 #[.int .i64 hi] := by
        have := Blk.new ((w.alloc (.cells #[.int .i64 oi, .int .i64 sd, .int .i64 ok, .int .i64 op, .int .i64 oq] 24)).alloc (.cells #[.int .i64 lo] 3)) 3 #[.int .i64 hi]
        rw [World.size_alloc, World.size_alloc] at this
        exact this
      obtain ⟨w1, ew1⟩ : ∃ W, (((w.alloc (.cells #[.int .i64 oi, .int .i64 sd, .int .i64 ok, .int .i64 op, .int .i64 oq] 24)).alloc (.cells #[.int .i64 lo] 3)).alloc (.cells #[.int .i64 hi] 3)) = W := ⟨_, rfl⟩
      rw [ew1] at h5 h6 h7 hbw
      have HLd := hid (laid_any A len cap l w1 (h.below hbw (Nat.le_refl _)) (by omega) hf)
      have HE := hid hE
      have HB1 := hid hbw
      have HFo := hid hfo
      have HSd := hid hsd
      clear h hf hE hbw hfo
      go_enter Tryz.func3, Tryz.ntmps3
      go_upto_region 1 with fail
      try rw [ew1]
      clear ew1
      obtain ⟨lX, e6⟩ : ∃ X, w.heap.size + 1 = X := ⟨_, rfl⟩
      obtain ⟨hX, e7⟩ : ∃ X, w.heap.size + 1 + 1 = X := ⟨_, rfl⟩
      rw [e7, e6]
      rw [e7] at h7
      rw [e6] at h6
      have HX := hid (And.intro e6 e7)
      have H6 := hid h6
      have H7 := hid h7
      have H5 := hid h5
      have HSz1 := hid (Blk.lt h7)
      obtain ⟨x0, x1, x2, x3, x4⟩ := box5m h5
      clear e6 e7 h5 h6 h7
      go_cut [35] (fun s35 wx => s35 = .bool false ∧ wx = w1)
      case first =>
        rcases hsd with c1 | c2
        · have b1 : (sd != 1) = false := bneF c1
          clear c1
          go_wp2_with fail
          go_meet
          exact ⟨rfl, rfl⟩
        · have b1 : (sd != 1) = true := bneT (by omega)
          have b2 : (sd != 2) = false := bneF c2
          clear c2
          go_wp2_with fail
          go_meet
          exact ⟨rfl, rfl⟩
      case rest =>
        obtain ⟨rfl, rfl⟩ := hcut
        clear x0 x1 x2 x3 x4 hsd
        go_wp2_with fail
        refine HLd.out.mono ?_
        rintro e w2 ⟨b, B, rfl, G, cs, A0, L, L1, L2, hd, ht⟩
        have h52 := Blk.keep H5.out hd.bel
        have h62 := Blk.keep H6.out hd.bel
        have h72 := Blk.keep H7.out hd.bel
        have hfew := ht.small hd.book.lists
        have HOr := hid (rorder_any w2 B _ cs 0 A0 L hd.ref (by omega) oi)
        obtain ⟨x0, x1, x2, x3, x4⟩ := box5m h52
        have HD := hid hd
        have HT := hid ht
        have H5 := hid h52
        have H6 := hid h62
        have H7 := hid h72
        clear hd ht h52 h62 h72 hfew HLd
        go_wp2_with fail
        refine HOr.out.mono ?_
        rintro e w3 ⟨rfl, hb3⟩
        have hd3 := HD.out.below hb3
        have h53 := Blk.keep H5.out hb3
        have h63 := Blk.keep H6.out hb3
        have h73 := Blk.keep H7.out hb3
        have hbel3 : Below w.heap.size w w3 := HB1.out.trans (hd3.bel.mono HB1.out.size)
        obtain ⟨⟨r1, r2, r3, r4, r5⟩, hro⟩ : ∃ o, roO L oi = o := ⟨_, rfl⟩
        obtain ⟨re, hre⟩ : ∃ e, roE L oi = e := ⟨_, rfl⟩
        rw [hro, hre]
        unfold aggO
        dsimp only
        have hb4 : Below w3.heap.size w3 (((w3.alloc (.cells #[.int .i64 r1, .int .i64 r2, .int .i64 r3, .int .i64 r4, .int .i64 r5] 24)).alloc (.cells #[.slice none 0 0] 32)).alloc (.cells #[.slice none 0 0] 32)) := (((Below.refl _ w3).alloc (Nat.le_refl _) _).alloc (by simp) _).alloc (by simp; omega) _
        have h13 : Blk (((w3.alloc (.cells #[.int .i64 r1, .int .i64 r2, .int .i64 r3, .int .i64 r4, .int .i64 r5] 24)).alloc (.cells #[.slice none 0 0] 32)).alloc (.cells #[.slice none 0 0] 32)) (w3.heap.size + 1) 32 #[.slice none 0 0] := by
          have := Blk.new (w3.alloc (.cells #[.int .i64 r1, .int .i64 r2, .int .i64 r3, .int .i64 r4, .int .i64 r5] 24)) 32 #[.slice none 0 0]
          rw [World.size_alloc] at this
          exact Blk.alloc this _
        have h14 : Blk (((w3.alloc (.cells #[.int .i64 r1, .int .i64 r2, .int .i64 r3, .int .i64 r4, .int .i64 r5] 24)).alloc (.cells #[.slice none 0 0] 32)).alloc (.cells #[.slice none 0 0] 32)) (w3.heap.size + 1 + 1) 32 #[.slice none 0 0] := by
          have := Blk.new ((w3.alloc (.cells #[.int .i64 r1, .int .i64 r2, .int .i64 r3, .int .i64 r4, .int .i64 r5] 24)).alloc (.cells #[.slice none 0 0] 32)) 32 #[.slice none 0 0]
          rw [World.size_alloc, World.size_alloc] at this
          exact this
        obtain ⟨w4, ew4⟩ : ∃ W, (((w3.alloc (.cells #[.int .i64 r1, .int .i64 r2, .int .i64 r3, .int .i64 r4, .int .i64 r5] 24)).alloc (.cells #[.slice none 0 0] 32)).alloc (.cells #[.slice none 0 0] 32)) = W := ⟨_, rfl⟩
        rw [ew4] at hb4 h13 h14
        have HLS : Hid (LawS w wc w4 b B lX hX w.heap.size (w3.heap.size + 1) (w3.heap.size + 1 + 1) lo hi ⟨oi, sd, ok, op, oq⟩ G cs A0 L L1 L2) := hid (by
          have hs13 := hd3.bel.size
          have hx := HX.out
          have hsz1 := HSz1.out
          refine ⟨hd3.below hb4, HT.out, HB1.out, Blk.keep h53 hb4, Blk.keep h63 hb4, Blk.keep h73 hb4, ⟨Nat.le_refl _, by omega, by omega, hsz1⟩, h13, h14, ⟨by omega, by omega⟩, ⟨fun e => ?_, ?_, fun e => ?_⟩, ⟨fun e => ?_, ?_, fun e => ?_⟩⟩
          · have := hd3.book.fp e; omega
          · have := hd3.ref.blt; omega
          · have := hd3.ref.lt _ e; omega
          · have := hd3.book.fp e; omega
          · have := hd3.ref.blt; omega
          · have := hd3.ref.lt _ e; omega)
        have HB3 := hid hbel3
        have HS3 := hid (show w.heap.size ≤ w3.heap.size from hbel3.size)
        clear x0 x1 x2 x3 x4 hd3 h53 h63 h73 hbel3 hb3 HOr HD H5 H6 H7 hb4 h13 h14
        by_cases c0 : re = 0
        · have d0 := beqT c0
          clear c0 ew4
          go_wp2_with fail
          go_ret
          exact ⟨rfl, HB3.out.alloc HS3.out _⟩
        · have d0 := beqF c0
          clear c0 hro hre
          go_upto_region 10 with fail
          try rw [ew4]
          clear ew4 d0
          obtain ⟨T13, e13⟩ : ∃ X, w3.heap.size + 1 = X := ⟨_, rfl⟩
          obtain ⟨T14, e14⟩ : ∃ X, w3.heap.size + 1 + 1 = X := ⟨_, rfl⟩
          rw [e14, e13] at HLS ⊢
          clear e13 e14
          obtain ⟨⟨fl, ⟨i1, i2, i3, i4, i5⟩, sp, st, rst⟩, hR⟩ : ∃ r, lawR lo hi sd L1 L2 ⟨oi, sd, ok, op, oq⟩ = r := ⟨_, rfl⟩
          have hrm := refMeets_any (kLaw_says (bk_ref B) T14 lX hX lo hi (gt := 10) (Go.Proofs.enters_of Tryz.func10 (by kernel_rfl) rfl) (fun W A c s p h hn => tells_2 W T14 A c s p h hn)) (fun {s L1 L2 F w} hK sd hs => by obtain ⟨G, A, c, hk⟩ := hK; exact side_ref hk.bk sd hs) w4 [] _ L1 L2 HLS.out.first rfl oi sd ok op oq HSd.out HFo.out
          have hcm := fun (W : World) (hK : KLaw (fun L1 L2 G w => BookAt w b G L1 L2) T13 lX hX lo hi [] L1 L2 (lawF2 T13 lX hX G) W) => crossMeets_any (kLaw_says (bk_book b) T13 lX hX lo hi (gt := 12) (Go.Proofs.enters_of Tryz.func12 (by kernel_rfl) rfl) (fun W A c s p h hn => tells_3 W T13 A c s p h hn)) (fun {s L1 L2 F w} hK sd hs => by obtain ⟨G, A, c, hk⟩ := hK; exact bookSide_any w b G L1 L2 hk.bk sd hs) W [] _ L1 L2 hK rfl oi sd ok op oq HSd.out HFo.out
          have e0 : meetP (fun (_ : List Int) p => decide (lo ≤ p) && decide (p ≤ hi)) (fun s p => s ++ [p]) (sideL (3 - sd) L1 L2) ⟨oi, sd, ok, op, oq⟩ [] = ⟨fl, ⟨i1, i2, i3, i4, i5⟩, sp, st, rst⟩ := hR
          rw [e0] at hrm
          simp only [e0] at hcm
          have hrm' : Calls Tryz.prog 9 #[.pointer (some ⟨B, 0, none⟩), .agg #[.int .i64 oi, .int .i64 sd, .int .i64 ok, .int .i64 op, .int .i64 oq], .func (.func 8) #[] #[.pointer (some ⟨lX, 0, none⟩), .pointer (some ⟨hX, 0, none⟩)], .func (.func 10) #[] #[.pointer (some ⟨T14, 0, none⟩)]] w4 fun e w' => ∃ A c G' M1 M2, e = .returned (.tuple #[.slice A fl.length c, .agg #[.int .i64 i1, .int .i64 i2, .int .i64 i3, .int .i64 i4, .int .i64 i5], .bool sp]) ∧ MeetM (KLaw (RBk B) T14 lX hX lo hi) w4 w' st (lawF1 B T14 lX hX A0) G' M1 M2 A c fl ∧ sideL sd M1 M2 = sideL sd L1 L2 ∧ sideL (3 - sd) M1 M2 = rst := hrm.mono fun e w' h => h
          have hcm' : ∀ W, KLaw (fun L1 L2 G w => BookAt w b G L1 L2) T13 lX hX lo hi [] L1 L2 (lawF2 T13 lX hX G) W → Calls Tryz.prog 11 #[.pointer (some ⟨b, 0, none⟩), .agg #[.int .i64 oi, .int .i64 sd, .int .i64 ok, .int .i64 op, .int .i64 oq], .func (.func 8) #[] #[.pointer (some ⟨lX, 0, none⟩), .pointer (some ⟨hX, 0, none⟩)], .func (.func 12) #[] #[.pointer (some ⟨T13, 0, none⟩)]] W fun e w' => ∃ A c G' M1 M2, e = .returned (.tuple #[.slice A fl.length c, .agg #[.int .i64 i1, .int .i64 i2, .int .i64 i3, .int .i64 i4, .int .i64 i5], .bool sp]) ∧ MeetM (KLaw (fun L1 L2 G w => BookAt w b G L1 L2) T13 lX hX lo hi) W w' st (lawF2 T13 lX hX G) G' M1 M2 A c fl ∧ sideL sd M1 M2 = sideL sd L1 L2 ∧ sideL (3 - sd) M1 M2 = rst := fun W hK => (hcm W hK).mono fun e w' h => h
          have hkeep2 : ∀ W W', KLaw (fun L1 L2 G w => BookAt w b G L1 L2) T13 lX hX lo hi [] L1 L2 (lawF2 T13 lX hX G) W → Below W.heap.size W W' → KLaw (fun L1 L2 G w => BookAt w b G L1 L2) T13 lX hX lo hi [] L1 L2 (lawF2 T13 lX hX G) W' := fun W W' hK hb => (kLaw_says (bk_book b) T13 lX hX lo hi (gt := 12) (Go.Proofs.enters_of Tryz.func12 (by kernel_rfl) rfl) (fun W A c s p h hn => tells_3 W T13 A c s p h hn)).keep hK (Keeps.of_below hb (fun _ => False)) (fun _ _ => id)
          have hfll : fl.length ≤ 1000000000 ∧ st.length ≤ 1000000000 := by
            have h1 := meet_len (al := lawAl lo hi) (tr := lawTr) (sideL (3 - sd) L1 L2) ⟨oi, sd, ok, op, oq⟩ []
            have h2 := meet_told (al := lawAl lo hi) (sideL (3 - sd) L1 L2) ⟨oi, sd, ok, op, oq⟩ []
            have h3 := HLS.out.duo.book.lists.cnt
            rw [List.length_append] at h3
            have h4 : (sideL (3 - sd) L1 L2).length ≤ 100 := by unfold sideL; split <;> omega
            have e1 : meetP (lawAl lo hi) lawTr (sideL (3 - sd) L1 L2) ⟨oi, sd, ok, op, oq⟩ [] = _ := hR
            rw [e1] at h1
            rw [e1] at h2
            dsimp only [List.length_nil] at h1 h2
            omega
          have HFll := hid hfll
          have HRm := hid hrm'
          have HCm := hid hcm'
          have HK2 := hid hkeep2
          clear hrm' hcm' hkeep2 hfll
          have HE0 := hid e0
          have hx5 := HLS.out.x5
          obtain ⟨x0, x1, x2, x3, x4⟩ := box5m hx5
          have hmf1 : ∀ w, (Instr.makeFunc (Fn.func 8) #[] #[.pointer (some ⟨lX, 0, none⟩), .pointer (some ⟨hX, 0, none⟩)]).run Tryz.prog w = .ok (.func (.func 8) #[] #[.pointer (some ⟨lX, 0, none⟩), .pointer (some ⟨hX, 0, none⟩)]) w := fun _ => rfl
          have hmf2 : ∀ w, (Instr.makeFunc (Fn.func 10) #[] #[.pointer (some ⟨T14, 0, none⟩)]).run Tryz.prog w = .ok (.func (.func 10) #[] #[.pointer (some ⟨T14, 0, none⟩)]) w := fun _ => rfl
          have hmf3 : ∀ w, (Instr.makeFunc (Fn.func 12) #[] #[.pointer (some ⟨T13, 0, none⟩)]).run Tryz.prog w = .ok (.func (.func 12) #[] #[.pointer (some ⟨T13, 0, none⟩)]) w := fun _ => rfl
          clear hrm hcm e0 hR hx5
          go_wp2_with fail
          refine HRm.out.mono ?_
          rintro e w5 ⟨A1, c1, F1', M1, M2, rfl, hm1, ho1, hs1⟩
          obtain ⟨hk2, hx5⟩ := HLS.out.second (r := ⟨fl, ⟨i1, i2, i3, i4, i5⟩, sp, st, rst⟩) hm1
          have hb6 : Below w5.heap.size w5 (w5.alloc (.cells #[.int .i64 i1, .int .i64 i2, .int .i64 i3, .int .i64 i4, .int .i64 i5] 24)) := (Below.refl _ w5).alloc (Nat.le_refl _) _
          have h17 := Blk.new w5 24 #[.int .i64 i1, .int .i64 i2, .int .i64 i3, .int .i64 i4, .int .i64 i5]
          have hx56 := Blk.keep hx5 hb6
          have hk26 := HK2.out _ _ hk2 hb6
          obtain ⟨w6, ew6⟩ : ∃ W, (w5.alloc (.cells #[.int .i64 i1, .int .i64 i2, .int .i64 i3, .int .i64 i4, .int .i64 i5] 24)) = W := ⟨_, rfl⟩
          rw [ew6] at hb6 h17 hx56 hk26
          have HM1 := hid hm1
          have HO1 := hid ho1
          have HS1 := hid hs1
          have HB6 := hid hb6
          have H17 := hid h17
          have HC2 := hid (HCm.out w6 hk26)
          clear x0 x1 x2 x3 x4 hm1 ho1 hs1 hb6 h17 hk2 hx5 hk26 HRm HCm HK2
          go_upto_region 12 with fail
          try rw [ew6]
          clear ew6
          obtain ⟨Y17, e17⟩ : ∃ X, w5.heap.size = X := ⟨_, rfl⟩
          rw [e17] at H17 ⊢
          have HE17 := hid e17
          obtain ⟨x0, x1, x2, x3, x4⟩ := box5m hx56
          clear hx56 e17
          go_wp2_with fail
          refine HC2.out.mono ?_
          rintro e w7 ⟨A2, c2, F2', N1, N2, rfl, hm2, ho2, hs2⟩
          obtain ⟨rfl, rfl⟩ : N1 = M1 ∧ N2 = M2 := sides_both HSd.out (ho2.trans HO1.out.symm) (hs2.trans HS1.out.symm)
          obtain ⟨⟨G9, cs9, A9, L9, Aa, Ab, ca, cb, hle⟩, hkeep⟩ := HLS.out.third (r := ⟨fl, ⟨i1, i2, i3, i4, i5⟩, sp, st, rst⟩) HM1.out HB6.out hm2 rfl rfl
          have h17 := hkeep _ _ _ H17.out (by have := HE17.out; omega)
          have hb8 : Below w7.heap.size w7 (w7.alloc (.cells #[.int .i64 i1, .int .i64 i2, .int .i64 i3, .int .i64 i4, .int .i64 i5] 24)) := (Below.refl _ w7).alloc (Nat.le_refl _) _
          have h20 := Blk.new w7 24 #[.int .i64 i1, .int .i64 i2, .int .i64 i3, .int .i64 i4, .int .i64 i5]
          have hle8 := hle.below hb8
          have h178 := Blk.keep h17 hb8
          obtain ⟨w8, ew8⟩ : ∃ W, (w7.alloc (.cells #[.int .i64 i1, .int .i64 i2, .int .i64 i3, .int .i64 i4, .int .i64 i5] 24)) = W := ⟨_, rfl⟩
          rw [ew8] at h20 hle8 h178
          have HLE := hid hle8
          have H17 := hid h178
          have H20 := hid h20
          clear x0 x1 x2 x3 x4 hm2 ho2 hs2 hle hkeep h17 hb8 h20 hle8 h178 HLS HM1 HO1 HS1 HB6 HE17 HC2 HB3 HS3
          go_upto_region 13 with fail
          try rw [ew8]
          clear ew8
          obtain ⟨Y20, e20⟩ : ∃ X, w7.heap.size = X := ⟨_, rfl⟩
          rw [e20] at H20 ⊢
          clear e20
          have hsf := sameFills_any A2 A1 fl.length c2 c1 fl w8 (ElemsAt.of_row encFl_length (by omega) HLE.out.row2) (ElemsAt.of_row encFl_length (by omega) HLE.out.row1) HFll.out.1
          obtain ⟨n, hn⟩ : ∃ n, fl.length = n := ⟨_, rfl⟩
          rw [hn] at hsf ⊢
          have HSf := hid hsf
          clear hn hsf
          go_wp2_with fail
          refine HSf.out.mono ?_
          rintro e w9 ⟨rfl, hb9⟩
          have hle9 := HLE.out.below hb9
          have h179 := Blk.keep H17.out hb9
          have h209 := Blk.keep H20.out hb9
          have x13 : w9.cell? ⟨T13, 0, none⟩ = some (.slice Ab st.length cb) := by rw [Blk.cell hle9.told2.var]; rfl
          have x14 : w9.cell? ⟨T14, 0, none⟩ = some (.slice Aa st.length ca) := by rw [Blk.cell hle9.told1.var]; rfl
          obtain ⟨m, hm9⟩ : ∃ m, st.length = m := ⟨_, rfl⟩
          rw [hm9] at x13 x14
          have hmm : ((m : Int) != (m : Int)) = false := bneF rfl
          have hsp : (sp != sp) = false := by simp
          have hne := order_ne i1 i2 i3 i4 i5
          obtain ⟨z0, z1, z2, z3, z4⟩ := box5m h179
          obtain ⟨y0, y1, y2, y3, y4⟩ := box5m h209
          have HSm := hid (same_any w9 b B G9 L9 _ _ _ cs9 A9 hle9.book hle9.ref hle9.twin (HE.out.below hle9.bel (Nat.le_refl _)))
          have HLE9 := hid hle9
          have HM9 := hid hm9
          clear hb9 hle9 h179 h209 hm9 HSf HLE H17 H20
          go_wp2_with fail
          refine HSm.out.mono ?_
          rintro e w10 ⟨rfl, hb10⟩
          have HLE := hid (HLE9.out.below hb10)
          clear hb10 HSm HLE9 z0 z1 z2 z3 z4 y0 y1 y2 y3 y4 x13 x14 hne
          go_wp2_with fail
          go_loopg [22] m (fun gg s22 wx => ∃ k : Nat, k ≤ m ∧ gg = m - k ∧ s22 = .int .i64 k ∧ Below w10.heap.size w10 wx)
          case atStart => exact ⟨0, Nat.zero_le _, rfl, rfl, Below.refl _ _⟩
          case round =>
            obtain ⟨k, hk, rfl, rfl, hbr⟩ := hrel
            have hler := HLE.out.below hbr
            have HBr := hid hbr
            clear hbr
            by_cases hlt : k < m
            · have hks : k < st.length := by rw [HM9.out]; exact hlt
              obtain ⟨ga, xa, ya⟩ := told_at hler.told1 HM9.out hks
              obtain ⟨gb, xb, yb⟩ := told_at hler.told2 HM9.out hks
              obtain ⟨v, hv⟩ : ∃ v, st[k] = v := ⟨_, rfl⟩
              rw [hv] at ya yb
              have hltz : (k : Int) < (m : Int) := by omega
              have hk7 : (0 : Int) ≤ (k : Int) := by omega
              have hvv : (v != v) = false := bneF rfl
              have hm64 : m ≤ 1000000000 := by have := HFll.out.2; rw [HM9.out] at this; exact this
              clear hler hv hks
              go_wp2_with fail
              go_quiet (fail)
              go_wp2_with fail
              go_roundg (m - (k + 1))
              case measure => omega
              case rel => exact ⟨k + 1, by omega, rfl, by go_num, drewN_below HBr.out _⟩
            · obtain rfl : k = m := by omega
              have hltz : ¬ (k : Int) < (k : Int) := by omega
              have x13 : wr.cell? ⟨T13, 0, none⟩ = some (.slice Ab k cb) := by rw [Blk.cell hler.told2.var, HM9.out]; rfl
              have hbel := hler.bel
              clear hler
              go_wp2_with fail
              go_ret
              exact ⟨rfl, hbel⟩
    · have b1 : (sd != 1) = true := bneT (fun e => hsd (.inl e))
      have b2 : (sd != 2) = true := bneT (fun e => hsd (.inr e))
      clear h hf hE
      go_enter Tryz.func3, Tryz.ntmps3
      go_wp2
      go_ret
      exact ⟨rfl, hbw⟩
end Go.Proofs.YtkcgchpbjegneaaGreatDoor
namespace Go.Proofs.YtkcgchpbjegneaaGreatDoor
open Go.RowKit Go.ChangeShapes Go.WideShapes Go.Deep
set_option linter.unusedVariables false

section
variable {H : Type} {enc : TypeId × Value → H} {P : Program} {w : World} {base : Nat} {spare : Nat → Bool} {held : Bool}
theorem ints_of_trod {t : TypeId} {m : Nat} {cs : Array Value} {d : DataW H} {p : List MemPlace} (hflat : ((List.range m).all fun i => flatAt P 5 t i) = true)
    (h : DataW.Trod enc P w base spare held t (.agg cs) d p) : ∀ i, i < m → ∃ z, cs[i]? = some (.int .i64 z) ∧ Fit64 z := by
  obtain ⟨fuel, hf⟩ := h
  intro i hi
  have hfi : flatAt P 5 t i = true := by
    rw [List.all_eq_true] at hflat
    exact hflat i (by simpa using hi)
  obtain ⟨z, hz, hb⟩ := flat_int 5 t i fuel _ _ hfi hf
  refine ⟨z, ?_, hb⟩
  have e : (Value.agg cs).cells = cs := rfl
  rw [e] at hz
  simpa using hz
theorem ord_of_trod {t : TypeId} {cs : Array Value} {d : DataW H} {p : List MemPlace} (hflat : ((List.range 5).all fun i => flatAt P 5 t i) = true) (hc : P.cellsOf t = 5) (hs : cs.size = P.cellsOf t)
    (h : DataW.Trod enc P w base spare held t (.agg cs) d p) : ∃ o : Ord5, cs = boxO o ∧ FitO o := by
  have key := ints_of_trod hflat h
  obtain ⟨z0, h0, f0⟩ := key 0 (by omega)
  obtain ⟨z1, h1, f1⟩ := key 1 (by omega)
  obtain ⟨z2, h2, f2⟩ := key 2 (by omega)
  obtain ⟨z3, h3, f3⟩ := key 3 (by omega)
  obtain ⟨z4, h4, f4⟩ := key 4 (by omega)
  refine ⟨⟨z0, z1, z2, z3, z4⟩, ?_, f0, f1, f2, f3, f4⟩
  rw [hc] at hs
  apply Array.ext_getElem?
  intro i
  match i with
  | 0 => rw [h0]; rfl
  | 1 => rw [h1]; rfl
  | 2 => rw [h2]; rfl
  | 3 => rw [h3]; rfl
  | 4 => rw [h4]; rfl
  | j + 5 =>
    rw [Array.getElem?_eq_none (by omega)]
    rw [Array.getElem?_eq_none (by show 5 ≤ j + 5; omega)]
end
end Go.Proofs.YtkcgchpbjegneaaGreatDoor
namespace Go.Proofs.YtkcgchpbjegneaaGreatDoor
open Go.RowKit

theorem crossMeets_rows {W : World} {A : Option Addr} {len cap : Nat} {rows : List (List Int)} {o : Ord5} (h : RowsAt W 5 A len cap rows) (fo : FitO o) (lo hi : Int) (hE : ErrType W) :
    Calls Tryz.prog 3 #[.slice A len cap, .agg (boxO o), .int .i64 lo, .int .i64 hi] W fun e w' => e = .returned (.bool true) ∧ Below W.heap.size W w' :=
  crossMeets_law A len cap (ordsOf rows) o.id o.side o.kind o.price o.qty lo hi W (ords_of_rows h) (by obtain ⟨_, h1, h2, _⟩ := h; unfold maxLen at h2; omega) (ords_fit h) fo hE
end Go.Proofs.YtkcgchpbjegneaaGreatDoor
namespace Go.Proofs.YtkcgchpbjegneaaGreatDoor
open Go.ChangeShapes Go.WideShapes Go.RowKit

theorem et : Tryz.prog.globalNamed "errors.errorType" = some 0 := by kernel_rfl
theorem rt : (Tryz.prog.cutTypes.find? (·.1 == "internal/reflectlite.rtype")).map (·.2) = some 239 := by kernel_rfl
theorem oneRow : ((List.range 321).filter fun t => Tryz.prog.rowNamed t [101, 114, 114, 111, 114]) = [45] := by kernel_rfl
theorem typesSize : Tryz.prog.types.size = 321 := by kernel_rfl

theorem errType_of_laid {W : World} (h : laidMetH Tryz.prog [("errors.errorType", Rows.laid_errors_errorType)] W) : ErrType W := by
  have h' : laidMet Tryz.prog [] W ∧ handlesMet Tryz.prog [("errors.errorType", Rows.laid_errors_errorType)] W := h
  obtain ⟨name, u, ty, e1, e2, e3, e4, e5⟩ := h'.2 _ (List.mem_singleton.2 rfl)
  have en : name = [101, 114, 114, 111, 114] := (Option.some.inj e1).symm
  subst en
  obtain rfl := Option.some.inj (rt.symm.trans e2)
  have hm : ty ∈ (List.range 321).filter fun t => Tryz.prog.rowNamed t [101, 114, 114, 111, 114] := List.mem_filter.2 ⟨List.mem_range.2 (by rw [← typesSize]; exact e3), e4⟩
  rw [oneRow] at hm
  obtain rfl := List.mem_singleton.1 hm
  have hh : typeHandle Tryz.prog 45 = .pointer (some ⟨1, 45, none⟩) := by kernel_rfl
  rw [hh] at e5
  have := World.var?_cell et e5 0
  simpa [ErrType] using this

/-- A world that meets the condition: the settled one, the variable's cell laid. -/
noncomputable def laidWorld (os : Os) : World :=
  let w0 := World.holding Tryz.prog os ⟨#[], #[], []⟩
  { w0 with heap := w0.heap.modify 0 fun
      | .cells _ t frozen => .cells #[.iface 239 (.agg #[.pointer (some ⟨1, 45, none⟩)])] t frozen
      | o => o }
theorem laidWorld_met (os : Os) (args : Array Value) : laidMetH Tryz.prog [("errors.errorType", Rows.laid_errors_errorType)] ((laidWorld os).forCall (fun _ _ => 0) ⟨#[], args, []⟩).memory :=
  laidMetH_of_parts (laidMet_nil _ _) (by kernel_rfl)
end Go.Proofs.YtkcgchpbjegneaaGreatDoor
