/-
  The walk of openbelllaw.IndicPlays: it returns true, whatever the input.
-/
import Derived.WalkKit
import Derived.WalkLawsBesides
import Derived.WalkSpells
import Derived.Deep.QuietTactic
import Derived.BigQuiet
import Derived.Deep.LoopGhost
import Derived.Deep.DeepCutAuto
import Derived.Deep.CutBlock
import Derived.Deep.RegionWith
import Derived.Deep.AppendLies
import Derived.Deep.AppendSrc
import Derived.Test.YteggaehelnmhnaaDoorHeldT
import Derived.Test.YteggaehelnmhnaaDoorIndColl
import Derived.Test.YteggaehelnmhnaaDoorIndQuote
import Derived.Test.YteggaehelnmhnaaDoorRefChoose
import Derived.Test.YteggaehelnmhnaaDoorSamePoints
import Derived.Test.YteggaehelnmhnaaDoorIs
namespace Go.Proofs.YteggaehelnmhnaaDoor
open Go.RowKit
set_option linter.unusedVariables false
set_option linter.unusedSimpArgs false

theorem errIs_errV (w : World) (e : Int) : ErrIs w (errV e) e (-1) := by
  unfold errV
  by_cases h : e = 0
  · rw [if_pos h]; exact .inl ⟨rfl, h, rfl⟩
  · rw [if_neg h]; exact .inr (.inl ⟨rfl, rfl⟩)
abbrev Lots := Int × Ord5
def encL (x : Lots) : List Value := .int .i64 x.1 :: encO x.2
theorem lots_at {w : World} {b off len : Nat} {l : List Lots} (h : ElemsAt w encL 6 (some ⟨b, off, none⟩) len l) {i : Nat} (hi : i < l.length) :
    w.cell? ⟨b, off + i * 6, none⟩ = some (.int .i64 l[i].1) ∧ w.cell? ⟨b, off + i * 6 + 1, none⟩ = some (.int .i64 l[i].2.id) ∧ w.cell? ⟨b, off + i * 6 + 2, none⟩ = some (.int .i64 l[i].2.side) ∧ w.cell? ⟨b, off + i * 6 + 3, none⟩ = some (.int .i64 l[i].2.kind) ∧ w.cell? ⟨b, off + i * 6 + 4, none⟩ = some (.int .i64 l[i].2.price) ∧ w.cell? ⟨b, off + i * 6 + 5, none⟩ = some (.int .i64 l[i].2.qty) :=
  ⟨h.at_ hi (j := 0) rfl, h.at_ hi (j := 1) rfl, h.at_ hi (j := 2) rfl, h.at_ hi (j := 3) rfl, h.at_ hi (j := 4) rfl, h.at_ hi (j := 5) rfl⟩
/-- behind k of the rounds -/
structure IndS (w wx : World) (X mb k : Nat) (cs : Array Value) (A : Option Addr) (c : Nat) (lv : List Tri) (bu se : Int) (f : Tri → Option Int) (hs : List Tri) : Prop where
  ind : IndM wx X 25 cs 0 A c lv bu se
  map_ : PMap wx mb k f
  rel : RelF lv bu se f
  told : Told6 hs f
  hl : hs.length ≤ k
  ll : lv.length ≤ k
  up : ∀ g, blkOf A = some g → w.heap.size ≤ g ∧ g ≠ mb
  keep : Below w.heap.size w wx
def IndR (w wx : World) (X mb k : Nat) : Prop := ∃ cs A c lv bu se f hs, IndS w wx X mb k cs A c lv bu se f hs
theorem IndS.below {w wx w' : World} {X mb k : Nat} {cs : Array Value} {A : Option Addr} {c : Nat} {lv : List Tri} {bu se : Int} {f : Tri → Option Int} {hs : List Tri} (h : IndS w wx X mb k cs A c lv bu se f hs) (hb : Below wx.heap.size wx w') : IndS w w' X mb k cs A c lv bu se f hs :=
  ⟨h.ind.below hb, h.map_.below hb, h.rel, h.told, h.hl, h.ll, h.up, h.keep.trans (hb.mono h.keep.size)⟩
theorem IndR.more {w wx : World} {X mb k k' : Nat} (h : IndR w wx X mb k) (hk : k ≤ k') : IndR w wx X mb k' := by
  obtain ⟨cs, A, c, lv, bu, se, f, hs, h⟩ := h
  exact ⟨cs, A, c, lv, bu, se, f, hs, h.ind, h.map_.more hk, h.rel, h.told, Nat.le_trans h.hl hk, Nat.le_trans h.ll hk, h.up, h.keep⟩

theorem IndS.turn {w wx w4 w5 : World} {X mb k : Nat} {cs : Array Value} {A : Option Addr} {c : Nat} {lv lv' : List Tri} {bu se bu' se' : Int} {f f' : Tri → Option Int} {hs hs' : List Tri} (h : IndS w wx X mb k cs A c lv bu se f hs) (hmX : mb ≠ X) (hX : w.heap.size ≤ X) (hmb : w.heap.size ≤ mb)
    (hk4 : Keeps (fun i => i = mb) wx w4) (hp4 : PMap w4 mb (k + 1) f') (ht : IndTo w4 w5 X 25 cs 0 A lv' bu' se') (hr : RelF lv' bu' se' f') (h6 : Told6 hs' f') (h1 : hs'.length ≤ k + 1) (h2 : lv'.length ≤ k + 1) : IndR w w5 X mb (k + 1) := by
  obtain ⟨cs', A', c', a1, a2, a3, a4, a5⟩ := ht
  have hlt := hp4.lt
  refine ⟨cs', A', c', lv', bu', se', f', hs', a1, hp4.keeps a4 (fun e => ?_), hr, h6, h1, h2, fun g hg => ?_, ?_⟩
  · rcases e with e | e
    · exact hmX e
    · exact (h.up _ e).2 rfl
  · rcases a5 g hg with e | e
    · exact h.up g e
    · have := h.keep.size
      have := hk4.size
      exact ⟨by omega, by omega⟩
  · refine (h.keep.trans (hk4.below (fun i e => ?_) h.keep.size)).trans (a4.below (fun i e => ?_) (Nat.le_trans h.keep.size hk4.size))
    · have e : i = mb := e
      omega
    · rcases e with e | e
      · omega
      · exact (h.up i e).1
theorem IndTo.still {w4 : World} {X : Nat} {t : TypeId} {cs : Array Value} {o : Nat} {A : Option Addr} {c : Nat} {lv : List Tri} {bu se : Int} (h : IndM w4 X t cs o A c lv bu se) : IndTo w4 w4 X t cs o A lv bu se := IndTo.same h (Below.refl _ _)
theorem IndR.below {w wx w' : World} {X mb k : Nat} (h : IndR w wx X mb k) (hb : Below wx.heap.size wx w') : IndR w w' X mb k := by
  obtain ⟨cs, A, c, lv, bu, se, f, hs, h⟩ := h
  exact ⟨cs, A, c, lv, bu, se, f, hs, h.below hb⟩
theorem IndTo.far {w wx w4 : World} {X mb k : Nat} {cs : Array Value} {A : Option Addr} {c : Nat} {lv lv' : List Tri} {bu se bu' se' : Int} {f : Tri → Option Int} {hs : List Tri} (h : IndS w wx X mb k cs A c lv bu se f hs) (hX : w.heap.size ≤ X) {w3 : World} (h3 : Below w.heap.size w w3) (ht : IndTo w3 w4 X 25 cs 0 A lv' bu' se') : Below w.heap.size w w4 := by
  obtain ⟨cs', A', c', -, -, -, a4, -⟩ := ht
  refine h3.trans (a4.below (fun i e => ?_) h3.size)
  rcases e with e | e
  · omega
  · exact (h.up i e).1
theorem box3 {w : World} {g : Nat} {t : TypeId} {a b c : Value} (h : Blk w g t #[a, b, c]) : w.cell? ⟨g, 0, none⟩ = some a ∧ w.cell? ⟨g, 1, none⟩ = some b ∧ w.cell? ⟨g, 2, none⟩ = some c :=
  ⟨by rw [Blk.cell h]; rfl, by rw [Blk.cell h]; rfl, by rw [Blk.cell h]; rfl⟩
theorem nz_some {v : Int} (h : v ≠ 0) : nzO v = some v := if_neg h

theorem quote_ne (a b c : Int) (w : World) : (binOp .neq 46 (.agg #[.int .i64 a, .int .i64 b, .int .i64 c]) (.agg #[.int .i64 a, .int .i64 b, .int .i64 c])).run Tryd.prog w = .ok (.bool false) w := by
  have hf : Tryd.prog.underlying 46 = some (.struct (Tryd.prog.fieldsOf 46)) := by kernel_rfl
  have hs : Tryd.prog.stoodInHeld 46 = false := by kernel_rfl
  have hi : Tryd.prog.underlying 3 = some (.int .i64) := Tryd.underlying3
  rw [run_neq_struct, run_equalIn_agg _ _ _ _ _ hf hs]
  simp [Program.fieldsOf, Tryd.underlying46, Op.eqFields, go_sem, hi]

theorem ind_ord_info : (Tryd.prog.info? 28).map (fun i => (i.zero, i.size, i.bytes)) = some (some (.agg #[.int .i64 0, .int .i64 0, .int .i64 0, .int .i64 0, .int .i64 0]), 5, 40) := by kernel_rfl

set_option maxRecDepth 100000 in
set_option maxHeartbeats 8000000 in
theorem indicPlays_any (A0 : Option Addr) (n cap : Nat) (l : List Lots) (more : Int) (w : World) (h : ElemsAt w encL 6 A0 n l) (hF : ∀ x ∈ l, FitO x.2) (hE : ErrType w) (hm : n ≤ 9223372036854775807) :
    Calls Tryd.prog 3 #[.slice A0 n cap, .int .i64 more] w fun e w' => e = .returned (.bool true) ∧ Below w.heap.size w w' := by
  have HH := hid h
  have hl := h.1
  have HL := hid hl
  have HF := hid hF
  have HEr := hid hE
  have hmm := @run_makeMap Tryd.prog
  clear h hl hF hE
  by_cases hn : (100 : Int) < (n : Int)
  · have d1 := decT hn
    go_enter Tryd.func3, Tryd.ntmps3
    go_wp2_with fail
    go_ret
    exact ⟨rfl, Below.refl _ _⟩
  have d1 := decF hn
  by_cases hm1 : 1000000 < more
  · have d2 := decT hm1
    clear hn
    go_enter Tryd.func3, Tryd.ntmps3
    go_wp2_with fail
    go_ret
    exact ⟨rfl, Below.refl _ _⟩
  have d2 := decF hm1
  by_cases hm2 : more < -1099511627776
  · have d3 := decT hm2
    clear hn hm1
    go_enter Tryd.func3, Tryd.ntmps3
    go_wp2_with fail
    go_ret
    exact ⟨rfl, Below.refl _ _⟩
  have d3 := decF hm2
  have hn2 : n ≤ 100 := by omega
  have hmo : -1099511627776 ≤ more ∧ more ≤ 1000000 := by omega
  have HMo := hid hmo
  clear hn hm1 hm2 hmo
  go_enter Tryd.func3, Tryd.ntmps3
  go_wp2_with fail
  go_loopg [7] n (fun gg s7 wx => ∃ k : Nat, k ≤ n ∧ gg = n - k ∧ s7 = .int .i64 k ∧ IndR w wx w.heap.size (w.heap.size + 1) k)
  case atStart =>
    refine ⟨0, Nat.zero_le _, rfl, rfl, #[.slice none 0 0, .int .i64 0, .int .i64 0], none, 0, [], 0, 0, fun _ => none, [], ⟨Blk.alloc (Blk.new w _ _) _, rfl, rfl, rfl, World.ownsRow_nil _ _ _ _, by simp [blkOf], ⟨List.Pairwise.nil, fun x hx => (by cases hx), fun x hx => (by cases hx)⟩⟩, ?_, ⟨rfl, rfl, fun p => rfl, fun p => rfl, fun x v hx => (by cases hx)⟩, fun x v hx => (by cases hx), Nat.le_refl _, Nat.le_refl _, by simp [blkOf], ((Below.refl _ w).alloc (Nat.le_refl _) _).alloc (by simp) _⟩
    have := PMap.made (w.alloc (.cells #[.slice none 0 0, .int .i64 0, .int .i64 0] 25))
    simpa using this
  case round =>
    obtain ⟨k, hk, rfl, rfl, hR⟩ := hrel
    by_cases hlt : k < n
    · have hkl : k < l.length := by have := HL.out; omega
      obtain ⟨cs, A, c, lv, bu, se, f, hs, hI⟩ := hR
      obtain ⟨b, off, hA⟩ : ∃ b off, A0 = some ⟨b, off, none⟩ := by obtain ⟨b, off, h1, _⟩ := HH.out.2 (by omega); exact ⟨b, off, h1⟩
      subst hA
      obtain ⟨v0, v1, v2, v3, v4, v5⟩ := lots_at (HH.out.below hI.keep (Nat.le_refl _)) hkl
      have hltz : (k : Int) < (n : Int) := by omega
      have hk0 : (0 : Int) ≤ (k : Int) := by omega
      have hfo := HF.out l[k] (List.getElem_mem hkl)
      obtain ⟨⟨wh, o⟩, EO⟩ : ∃ q, Hid (l[k] = q) := ⟨_, hid rfl⟩
      rw [EO.out] at v0 v1 v2 v3 v4 v5 hfo
      dsimp only at v0 v1 v2 v3 v4 v5 hfo
      obtain ⟨wq, rfl⟩ : ∃ wq : World, wq = wr := ⟨_, rfl⟩
      have HI := hid hI
      have HFo := hid hfo
      clear hI hfo
      go_upto_if 45 with fail
      clear v1 v2 v3 v4 v5
      go_cut [46, 47, 48] (fun s46 s47 s48 wx => Blk wx (wq.heap.size + 1) 32 #[.int .i64 (keyP o).1, .int .i64 (keyP o).2.1, .int .i64 (keyP o).2.2] ∧ Blk wx wq.heap.size 28 (boxO o) ∧ Below wq.heap.size wq wx)
      case first =>
        as_aux_lemma =>
        have hb1 := Blk.new wq 28 (boxO o)
        have hb2 := Blk.alloc hb1 (.cells #[.int .i64 o.side, .int .i64 0, .int .i64 o.price] 32)
        have hp2 := Blk.new (wq.alloc (.cells (boxO o) 28)) 32 #[.int .i64 o.side, .int .i64 0, .int .i64 o.price]
        have es : (wq.alloc (.cells (boxO o) 28)).heap.size = wq.heap.size + 1 := by simp
        rw [es] at hp2
        have HB2 := hid hb2
        have HP2 := hid hp2
        have HW2 := hid (show Below wq.heap.size wq ((wq.alloc (.cells (boxO o) 28)).alloc (.cells #[.int .i64 o.side, .int .i64 0, .int .i64 o.price] 32)) from ((Below.refl _ wq).alloc (Nat.le_refl _) _).alloc (by simp) _)
        have hfz := Blk.frozen hp2 0
        have hfz1 := Blk.frozen hp2 1
        have hfz2 := Blk.frozen hp2 2
        have hsd := (box5 hb2).2.1
        clear hb1 hb2 hp2 es
        by_cases hk2 : o.kind = 2
        · have d4 := beqT hk2
          have HK := hid (show keyP o = (o.side, 2, 0) from if_pos hk2)
          clear hk2
          go_wp2_with fail
          go_meet
          have hb2 := Blk.alloc (Blk.new wq 28 (boxO o)) (.cells #[.int .i64 o.side, .int .i64 2, .int .i64 0] 32)
          have hp2 := Blk.new (wq.alloc (.cells (boxO o) 28)) 32 #[.int .i64 o.side, .int .i64 2, .int .i64 0]
          rw [show (wq.alloc (.cells (boxO o) 28)).heap.size = wq.heap.size + 1 by simp] at hp2
          exact ⟨by rw [HK.out]; exact hp2, hb2, ((Below.refl _ wq).alloc (Nat.le_refl _) _).alloc (by simp) _⟩
        · have d4 := beqF hk2
          have HK := hid (show keyP o = (o.side, 0, o.price) from if_neg hk2)
          clear hk2
          go_wp2_with fail
          go_meet
          exact ⟨by rw [HK.out]; exact HP2.out, HB2.out, HW2.out⟩
      case rest =>
        obtain ⟨hP, hB, hW⟩ := hcut
        obtain ⟨w3, rfl⟩ : ∃ w3 : World, w3 = wc := ⟨_, rfl⟩
        have HPl := hid hP
        have HBo := hid hB
        have HW := hid hW
        obtain ⟨x0, x1, x2, x3, x4⟩ := box5 hB
        obtain ⟨rb, hrb⟩ : ∃ rb, rightO o = rb := ⟨_, rfl⟩
        have HRb := hid hrb
        have hv0 := (hW.cell (p := ⟨b, off + k * 6, none⟩) (World.block_lt_of_cell? _ _ v0)).trans v0
        clear hP hB hW hrb v0
        go_upto_region 13 with fail
        go_cut [77] (fun s77 wx => s77 = .bool (!rb) ∧ wx = w3)
        case first =>
          as_aux_lemma =>
          by_cases s1 : o.side < 1
          · have s1_ := decT s1
            have HE := hid (show (!rb) = true by rw [← HRb.out]; unfold rightO; simp; omega)
            clear s1
            go_wp2_with fail
            go_meet
            exact ⟨by rw [HE.out], rfl⟩
          have s1_ := decF s1
          by_cases s2 : 2 < o.side
          · have s2_ := decT s2
            have HE := hid (show (!rb) = true by rw [← HRb.out]; unfold rightO; simp; omega)
            clear s1 s2
            go_wp2_with fail
            go_meet
            exact ⟨by rw [HE.out], rfl⟩
          have s2_ := decF s2
          by_cases q1 : o.qty < 1
          · have q1_ := decT q1
            have HE := hid (show (!rb) = true by rw [← HRb.out]; unfold rightO; simp; omega)
            clear s1 s2 q1
            go_wp2_with fail
            go_meet
            exact ⟨by rw [HE.out], rfl⟩
          have q1_ := decF q1
          by_cases q2 : 1000000 < o.qty
          · have q2_ := decT q2
            have HE := hid (show (!rb) = true by rw [← HRb.out]; unfold rightO; simp; omega)
            clear s1 s2 q1 q2
            go_wp2_with fail
            go_meet
            exact ⟨by rw [HE.out], rfl⟩
          have q2_ := decF q2
          by_cases k2 : o.kind = 2
          · have k2_ := bneF k2
            have HE := hid (show (!rb) = false by rw [← HRb.out]; unfold rightO; simp; omega)
            clear s1 s2 q1 q2 k2
            go_wp2_with fail
            go_meet
            exact ⟨by rw [HE.out], rfl⟩
          have k2_ := bneT k2
          have HE := hid (show (!(decide (1 ≤ o.price) && decide (o.price ≤ 1000000))) = (!rb) by rw [← HRb.out]; unfold rightO; rw [beqF k2]; have a1 : (o.side == 1 || o.side == 2) = true := (by simp; omega); have a2 : decide (1 ≤ o.qty) = true := decT (by omega); have a3 : decide (o.qty ≤ 1000000) = true := decT (by omega); rw [a1, a2, a3]; simp)
          clear s1 s2 q1 q2 k2
          go_wp2_with fail
          refine (right1_any _ _).mono ?_
          rintro e w5 ⟨rfl, rfl⟩
          generalize (decide (1 ≤ o.price) && decide (o.price ≤ 1000000)) = pb at HE ⊢
          go_wp2_with fail
          go_meet
          exact ⟨by rw [HE.out], rfl⟩
        case rest =>
          obtain ⟨rfl, rfl⟩ := hcut
          obtain ⟨w3, rfl⟩ : ∃ w3 : World, w3 = wc := ⟨_, rfl⟩
          go_upto_if 77 with fail
          obtain ⟨e0, he0⟩ : ∃ e0 : Int, (if rb = true then 0 else 1) = e0 := ⟨_, rfl⟩
          have HE0 := hid he0
          clear he0
          go_cut [10] (fun s10 wx => s10 = .int .i64 e0 ∧ wx = w3)
          case first =>
            cases rb with
            | true =>
              go_wp2_with fail
              go_meet
              exact ⟨by rw [← HE0.out]; rfl, rfl⟩
            | false =>
              go_wp2_with fail
              go_meet
              exact ⟨by rw [← HE0.out]; rfl, rfl⟩
          case rest =>
            obtain ⟨rfl, rfl⟩ := hcut
            obtain ⟨w3, rfl⟩ : ∃ w3 : World, w3 = wc := ⟨_, rfl⟩
            go_upto_block 2 with fail
            have HI3 := hid (HI.out.below HW.out)
            have hks := HI.out.keep.size
            have hmlt := HI.out.map_.lt
            have HMild := hid (HI.out.rel.mild HI.out.ind.ok HI.out.told (by have := HI.out.hl; omega) (by have := HI.out.ll; omega))
            obtain ⟨⟨ka, kb, kc⟩, EK⟩ : ∃ q, Hid (keyP o = q) := ⟨_, hid rfl⟩
            rw [EK.out] at HPl
            dsimp only at HPl
            have HFt : Hid (FitT (ka, kb, kc)) := hid (by
              rw [← EK.out]
              have h1 := HFo.out.2.1
              have h2 := HFo.out.2.2.2.1
              unfold Fit64 at h1 h2
              unfold keyP
              split
              · exact FitT.of h1 (by dsimp only; omega) (by dsimp only; omega)
              · exact FitT.of h1 (by dsimp only; omega) h2)
            go_cut [10] (fun s10 wx => IndR w wx w.heap.size (w.heap.size + 1) (k + 1))
            case first =>
              as_aux_lemma =>
              by_cases z0 : wh = 0
              · have z0_ := beqT z0
                clear z0
                cases rb with
                | false =>
                  as_aux_lemma =>
                  obtain rfl : e0 = 1 := by rw [← HE0.out]; rfl
                  have ht : ToldE lv bu se o 1 = 1 := by unfold ToldE; rw [HRb.out]; rfl
                  have HT := hid ht
                  have HA := hid (add_ind w3 w.heap.size 25 cs 0 A c lv bu se HI3.out.ind HMild.out.small o)
                  clear ht
                  go_wp2_with (first | (go_at_call 6; refine HA.out.mono ?_; rintro e w4 ⟨rfl, hd⟩; rw [HT.out]; have HD := hid hd; clear hd) | (go_at_call 5; refine (bare_any _ 1 (-1) _ _ (HEr.out.below (by obtain ⟨lv', bu', se', h1, -⟩ := HD.out; exact h1.far HI3.out (Nat.le_refl _) HI3.out.keep) (Nat.le_refl _)) (errIs_errV _ _)).mono ?_; rintro e w5 ⟨rfl, hb⟩; have HB9 := hid hb; clear hb))
                  go_meet
                  obtain ⟨lv', bu', se', h1, h2⟩ := HD.out
                  unfold ToldI at h2
                  rw [HT.out, if_neg (by decide)] at h2
                  obtain ⟨rfl, rfl, rfl⟩ := h2
                  exact (HI3.out.turn (by omega) (Nat.le_refl _) (Nat.le_succ _) (Keeps.refl _ _) (HI3.out.map_.more (Nat.le_succ k)) h1 HI3.out.rel HI3.out.told (Nat.le_succ_of_le HI3.out.hl) (Nat.le_succ_of_le HI3.out.ll)).below HB9.out
                | true =>
                  as_aux_lemma =>
                  obtain rfl : e0 = 0 := by rw [← HE0.out]; rfl
                  obtain ⟨v, hvv⟩ : ∃ v, hasI lv bu se o = v := ⟨_, rfl⟩
                  have hgd : (f (ka, kb, kc)).getD 0 = v := by rw [← EK.out, HI3.out.rel.has (((rightO_iff o).1 HRb.out).1), hvv]
                  have hv0b : 0 ≤ v := by rw [← hgd]; exact HI3.out.rel.nonneg _
                  have hv1b : v ≤ 100000000 := by rw [← hgd]; exact HI3.out.told.bound _ (by have := HI3.out.hl; omega)
                  have HV := hid hgd
                  have HVV := hid hvv
                  obtain ⟨hq1, hq2⟩ := ((rightO_iff o).1 HRb.out).2.1
                  clear hgd hvv
                  have hm3 := (HI3.out.map_.of_block (w' := w3.drew) rfl).more (Nat.le_refl k)
                  have hft := HFt.out
                  obtain ⟨st, w4, hme, hp4, hk4, hst⟩ := hm3.entry (x := (ka, kb, kc)) (by omega) hft
                  have hv : (f (ka, kb, kc)).getD 0 = v := HV.out
                  rw [hv] at hme hp4
                  obtain ⟨w5, hes, hp5, hk5⟩ := hst w4 (v + o.qty) rfl (WalkArith.wf_i64 (by omega))
                  have hlook : (Instr.lookup 26 (.map (some (w.heap.size + 1))) (.agg #[.int .i64 ka, .int .i64 kb, .int .i64 kc]) false).run Tryd.prog w3.drew = .ok (.int .i64 v) w3.drew := by have := hm3.look hft; rw [hv] at this; exact this
                  have hlook4 : (Instr.lookup 26 (.map (some (w.heap.size + 1))) (.agg #[.int .i64 ka, .int .i64 kb, .int .i64 kc]) false).run Tryd.prog w4 = .ok (.int .i64 v) w4 := by have := hp4.look hft; unfold updT at this; rw [if_pos rfl] at this; exact this
                  unfold aggT at hme
                  dsimp only at hme
                  replace hme : (Instr.mapEntry 26 (.map (some (w.heap.size + 1))) (.agg #[.int .i64 ka, .int .i64 kb, .int .i64 kc])).run Tryd.prog w3.drew = .ok (.tuple #[.int .i64 v, .int .i64 st]) w4 := hme
                  replace hes : (Instr.entryStore 26 (.map (some (w.heap.size + 1))) (.int .i64 st) (.int .i64 (v + o.qty))).run Tryd.prog w4 = .ok () w5 := hes
                  have hPl4 := Blk.keeps (Blk.drew HPl.out) hk4 (show ¬ wq.heap.size + 1 = w.heap.size + 1 from by have := HI.out.keep.size; have := HI.out.map_.lt; omega)
                  have hBo4 := Blk.keeps (Blk.drew HBo.out) hk4 (show ¬ wq.heap.size = w.heap.size + 1 from by have := HI.out.map_.lt; omega)
                  have HPl5 := hid (Blk.keeps hPl4 hk5 (show ¬ wq.heap.size + 1 = w.heap.size + 1 from by have := HI.out.keep.size; have := HI.out.map_.lt; omega))
                  have hBo5 := Blk.keeps hBo4 hk5 (show ¬ wq.heap.size = w.heap.size + 1 from by have := HI.out.map_.lt; omega)
                  have HBo5 := hid hBo5
                  obtain ⟨q0, q1, q2⟩ := box3 hPl4
                  obtain ⟨-, -, -, -, q4⟩ := box5 hBo4
                  obtain ⟨p0, p1, p2⟩ := box3 HPl.out
                  have HP5 := hid (hp5.congr (f' := updT f (ka, kb, kc) (some (v + o.qty))) (fun x _ => rfl))
                  have HK5 := hid ((show Keeps (fun i => i = w.heap.size + 1) w3 w3.drew from ⟨rfl, rfl, rfl, Nat.le_refl _, fun _ _ _ => rfl⟩).trans (hk4.trans hk5 (fun i e => .inl e)) (fun i e => .inl e))
                  clear hm3 hft hst hp4 hk4 hp5 hk5 hPl4 hBo4 hBo5 hv
                  have i0 : IntKind.i64.wrap (v + o.qty) = v + o.qty := by rw [IntKind.wrap_i64]; omega
                  have i1 : RowKit.wrap64 (v + o.qty) = v + o.qty := by unfold RowKit.wrap64; omega
                  go_wp2_with fail
                  refine wp_region_heldT_drew 8 (fun W => (W.cell? ⟨wq.heap.size + 1, 0, none⟩ = some (.int .i64 ka) ∧ W.cell? ⟨wq.heap.size + 1, 1, none⟩ = some (.int .i64 kb) ∧ W.cell? ⟨wq.heap.size + 1, 2, none⟩ = some (.int .i64 kc)) ∧ W.cell? ⟨wq.heap.size, 4, none⟩ = some (.int .i64 o.qty) ∧ (Instr.lookup 26 (.map (some (w.heap.size + 1))) (.agg #[.int .i64 ka, .int .i64 kb, .int .i64 kc]) false).run Tryd.prog W = .ok (.int .i64 v) W) (by kernel_rfl) ⟨⟨p0, p1, p2⟩, x4, hlook⟩ (fun hS => ?_)
                  refine takeT 0 87 (.map (some (w.heap.size + 1))) rfl rfl rfl (by kernel_rfl) (by kernel_rfl) (by kernel_rfl) (by kernel_rfl) (fun _ _ _ h => h) (by rfl) ?_ (by assumption) ?_
                  · intro W hSw; go_simp
                  simp only [Act.put, List.setIfInBounds_toArray, List.set_cons_zero, List.set_cons_succ]
                  refine takeT 1 88 (.agg #[.int .i64 ka, .int .i64 kb, .int .i64 kc]) rfl rfl rfl (by kernel_rfl) (by kernel_rfl) (by kernel_rfl) (by kernel_rfl) (fun _ _ _ h => h) (by rfl) ?_ (by assumption) ?_
                  · intro W hSw; go_simp
                  simp only [Act.put, List.setIfInBounds_toArray, List.set_cons_zero, List.set_cons_succ]
                  refine takeT 2 89 (.int .i64 v) rfl rfl rfl (by kernel_rfl) (by kernel_rfl) (by kernel_rfl) (by kernel_rfl) (fun _ _ _ h => h) (by rfl) ?_ (by assumption) ?_
                  · intro W hSw; go_simp
                  simp only [Act.put, List.setIfInBounds_toArray, List.set_cons_zero, List.set_cons_succ]
                  refine takeT 3 90 (.pointer (some ⟨wq.heap.size, 4, none⟩)) rfl rfl rfl (by kernel_rfl) (by kernel_rfl) (by kernel_rfl) (by kernel_rfl) (fun _ _ _ h => h) (by rfl) ?_ (by assumption) ?_
                  · intro W hSw; go_simp
                  simp only [Act.put, List.setIfInBounds_toArray, List.set_cons_zero, List.set_cons_succ]
                  refine takeT 4 91 (.int .i64 o.qty) rfl rfl rfl (by kernel_rfl) (by kernel_rfl) (by kernel_rfl) (by kernel_rfl) (fun _ _ _ h => h) (by rfl) ?_ (by assumption) ?_
                  · intro W hSw; go_simp
                  simp only [Act.put, List.setIfInBounds_toArray, List.set_cons_zero, List.set_cons_succ]
                  refine takeT 5 92 (.int .i64 (v + o.qty)) rfl rfl rfl (by kernel_rfl) (by kernel_rfl) (by kernel_rfl) (by kernel_rfl) (fun _ _ _ h => h) (by rfl) ?_ (by assumption) ?_
                  · intro W hSw; go_simp
                  simp only [Act.put, List.setIfInBounds_toArray, List.set_cons_zero, List.set_cons_succ]
                  refine wpAnyT_one 6 (by kernel_rfl) rfl (fun K1 hK1 => ?_)
                  go_simp
                  refine hK1 _ _ ⟨⟨q0, q1, q2⟩, q4, hlook4⟩ (fun hS => ?_)
                  clear hK1
                  refine takeT 7 94 (.int .i64 st) rfl rfl rfl (by kernel_rfl) (by kernel_rfl) (by kernel_rfl) (by kernel_rfl) (fun _ _ _ h => h) (by rfl) ?_ (by assumption) ?_
                  · intro W hSw; go_simp
                  simp only [Act.put, List.setIfInBounds_toArray, List.set_cons_zero, List.set_cons_succ]
                  refine wpAnyT_last (by kernel_rfl) rfl (fun K1 hK1 => ?_)
                  go_simp
                  refine hK1 _ _ (wpAnyT_done (by kernel_rfl) ?_ _)
                  clear hK1
                  have hI5 := HI3.out.ind.keeps HK5.out (by omega) (fun g hg => (HI3.out.up g hg).2)
                  have hb5 := HI3.out.keep.trans (HK5.out.below (B := w.heap.size) (fun i e => by have e : i = w.heap.size + 1 := e; omega) HI3.out.keep.size)
                  have HBw5 := hid hb5
                  have ht : ToldE lv bu se o 1 = 0 := by unfold ToldE; rw [HRb.out]; rfl
                  have HT := hid ht
                  have HA := hid (add_ind w5 w.heap.size 25 cs 0 A c lv bu se hI5 HMild.out.small o)
                  obtain ⟨r0, r1, r2, r3, r4⟩ := box5 HBo5.out
                  clear ht hI5 hb5 p0 p1 p2 q0 q1 q2 q4 x0 x1 x2 x3 x4 hlook hlook4 hme hes i0 i1 hS
                  go_wp2_with (first | (go_at_call 6; refine HA.out.mono ?_; rintro e w6 ⟨rfl, hd⟩; rw [HT.out]; have HD := hid hd; clear hd) | (go_at_call 5; refine (bare_any _ 0 (-1) _ _ (HEr.out.below (by obtain ⟨lv', bu', se', h1, -⟩ := HD.out; exact h1.far HI3.out (Nat.le_refl _) HBw5.out) (Nat.le_refl _)) (errIs_errV _ _)).mono ?_; rintro e w7 ⟨rfl, hb⟩; have HB9 := hid hb; clear hb))
                  go_meet
                  obtain ⟨lv', bu', se', h1, h2⟩ := HD.out
                  unfold ToldI at h2
                  rw [HT.out, if_pos rfl] at h2
                  have hr := HI3.out.rel.turn ((rightO_iff o).1 HRb.out) (.inl rfl) (fun e => by cases e) h2 (by rw [HVV.out]; exact hv0b)
                  rw [HVV.out, EK.out, Int.one_mul, nz_some (by omega)] at hr
                  have h6 := HI3.out.told.add (ka, kb, kc) hq2 (v := v + o.qty) (by rw [HV.out]; exact Int.le_refl _) (by rw [HV.out]; exact hv0b)
                  rw [nz_some (by omega)] at h6
                  exact (HI3.out.turn (by omega) (Nat.le_refl _) (Nat.le_succ _) HK5.out HP5.out h1 hr h6 (by have := HI3.out.hl; simp; omega) (by have := h2.1; have := HI3.out.ll; omega)).below HB9.out
              · have z0_ := beqF z0
                clear z0
                by_cases z1 : wh = 1
                · have z1_ := beqT z1
                  clear z1
                  cases rb with
                  | false =>
                    as_aux_lemma =>
                    obtain rfl : e0 = 1 := by rw [← HE0.out]; rfl
                    go_wp2_with fail
                    go_quiet (fail)
                    have HI3 := hid (HI3.out.below (drewN_below (Below.refl _ w3) nq))
                    have HBo := hid (Blk.drewN HBo.out nq)
                    have HPl := hid (Blk.drewN HPl.out nq)
                    clear x0 x1 x2 x3 x4 HW hv0
                    generalize w3.drewN nq = w3 at HI3 HBo HPl ⊢
                    obtain ⟨x0, x1, x2, x3, x4⟩ := box5 HBo.out
                    have ht : ToldE lv bu se o (-1) = 1 := by unfold ToldE; rw [HRb.out]; rfl
                    have HT := hid ht
                    have HA := hid (take_ind w3 w.heap.size 25 cs 0 A c lv bu se HI3.out.ind HMild.out.small o)
                    clear ht
                    go_wp2_with (first | (go_at_call 7; refine HA.out.mono ?_; rintro e w4 ⟨rfl, hd⟩; rw [HT.out]; have HD := hid hd; clear hd) | (go_at_call 5; refine (bare_any _ 1 (-1) _ _ (HEr.out.below (by obtain ⟨lv', bu', se', h1, -⟩ := HD.out; exact h1.far HI3.out (Nat.le_refl _) HI3.out.keep) (Nat.le_refl _)) (errIs_errV _ _)).mono ?_; rintro e w5 ⟨rfl, hb⟩; have HB9 := hid hb; clear hb))
                    go_meet
                    obtain ⟨lv', bu', se', h1, h2⟩ := HD.out
                    unfold ToldI at h2
                    rw [HT.out, if_neg (by decide)] at h2
                    obtain ⟨rfl, rfl, rfl⟩ := h2
                    exact (HI3.out.turn (by omega) (Nat.le_refl _) (Nat.le_succ _) (Keeps.refl _ _) (HI3.out.map_.more (Nat.le_succ k)) h1 HI3.out.rel HI3.out.told (Nat.le_succ_of_le HI3.out.hl) (Nat.le_succ_of_le HI3.out.ll)).below HB9.out
                  | true =>
                    obtain rfl : e0 = 0 := by rw [← HE0.out]; rfl
                    obtain ⟨v, hvv⟩ : ∃ v, hasI lv bu se o = v := ⟨_, rfl⟩
                    have hgd : (f (ka, kb, kc)).getD 0 = v := by rw [← EK.out, HI3.out.rel.has (((rightO_iff o).1 HRb.out).1), hvv]
                    have hv0b : 0 ≤ v := by rw [← hgd]; exact HI3.out.rel.nonneg _
                    have hv1b : v ≤ 100000000 := by rw [← hgd]; exact HI3.out.told.bound _ (by have := HI3.out.hl; omega)
                    have HV := hid hgd
                    have HVV := hid hvv
                    obtain ⟨hq1, hq2⟩ := ((rightO_iff o).1 HRb.out).2.1
                    clear hgd hvv
                    have hlk := HI3.out.map_.look HFt.out
                    rw [HV.out] at hlk
                    unfold aggT at hlk
                    dsimp only at hlk
                    have hlook0 : ∀ q, (Instr.lookup 26 (.map (some (w.heap.size + 1))) (.agg #[.int .i64 ka, .int .i64 kb, .int .i64 kc]) false).run Tryd.prog (w3.drewN q) = .ok (.int .i64 v) (w3.drewN q) := fun q => by
                      have h := (HI3.out.map_.of_block (w' := w3.drewN q) rfl).look HFt.out
                      rw [HV.out] at h
                      exact h
                    obtain ⟨p0, p1, p2⟩ := box3 HPl.out
                    clear hlk
                    by_cases hq : v < o.qty
                    · as_aux_lemma =>
                      have hq_ := decT hq
                      have hqx : hasI lv bu se o < o.qty := by rw [HVV.out]; exact hq
                      have HQx := hid hqx
                      clear hq hqx
                      go_wp2_with fail
                      go_quiet (fail)
                      clear hlook0 p0 p1 p2
                      have HI3 := hid (HI3.out.below (drewN_below (Below.refl _ w3) nq))
                      have HBo := hid (Blk.drewN HBo.out nq)
                      have HPl := hid (Blk.drewN HPl.out nq)
                      clear x0 x1 x2 x3 x4 HW hv0
                      generalize w3.drewN nq = w3 at HI3 HBo HPl ⊢
                      obtain ⟨x0, x1, x2, x3, x4⟩ := box5 HBo.out
                      have ht : ToldE lv bu se o (-1) = 8 := by unfold ToldE; rw [HRb.out]; rw [if_pos rfl, if_pos ⟨rfl, HQx.out⟩]
                      have HT := hid ht
                      have HA := hid (take_ind w3 w.heap.size 25 cs 0 A c lv bu se HI3.out.ind HMild.out.small o)
                      clear ht
                      go_wp2_with (first | (go_at_call 7; refine HA.out.mono ?_; rintro e w4 ⟨rfl, hd⟩; rw [HT.out]; have HD := hid hd; clear hd) | (go_at_call 5; refine (bare_any _ 8 (-1) _ _ (HEr.out.below (by obtain ⟨lv', bu', se', h1, -⟩ := HD.out; exact h1.far HI3.out (Nat.le_refl _) HI3.out.keep) (Nat.le_refl _)) (errIs_errV _ _)).mono ?_; rintro e w5 ⟨rfl, hb⟩; have HB9 := hid hb; clear hb))
                      go_meet
                      obtain ⟨lv', bu', se', h1, h2⟩ := HD.out
                      unfold ToldI at h2
                      rw [HT.out, if_neg (by decide)] at h2
                      obtain ⟨rfl, rfl, rfl⟩ := h2
                      exact (HI3.out.turn (by omega) (Nat.le_refl _) (Nat.le_succ _) (Keeps.refl _ _) (HI3.out.map_.more (Nat.le_succ k)) h1 HI3.out.rel HI3.out.told (Nat.le_succ_of_le HI3.out.hl) (Nat.le_succ_of_le HI3.out.ll)).below HB9.out
                    · as_aux_lemma =>
                      have hq_ := decF hq
                      have hnq : o.qty ≤ v := by omega
                      clear hq
                      go_wp2_with fail
                      go_quiet (fail)
                      clear hlook0 p0 p1 p2
                      have HI3 := hid (HI3.out.below (drewN_below (Below.refl _ w3) nq))
                      have HBo := hid (Blk.drewN HBo.out nq)
                      have HPl := hid (Blk.drewN HPl.out nq)
                      clear x0 x1 x2 x3 x4 HW hv0
                      generalize w3.drewN nq = w3 at HI3 HBo HPl ⊢
                      obtain ⟨x0, x1, x2, x3, x4⟩ := box5 HBo.out
                      have hm3 := (HI3.out.map_.of_block (w' := w3.drew) rfl).more (Nat.le_refl k)
                      have hft := HFt.out
                      obtain ⟨st, w4, hme, hp4, hk4, hst⟩ := hm3.entry (x := (ka, kb, kc)) (by omega) hft
                      have hv : (f (ka, kb, kc)).getD 0 = v := HV.out
                      rw [hv] at hme hp4
                      obtain ⟨w5, hes, hp5, hk5⟩ := hst w4 (v - o.qty) rfl (WalkArith.wf_i64 (by omega))
                      have hlook : (Instr.lookup 26 (.map (some (w.heap.size + 1))) (.agg #[.int .i64 ka, .int .i64 kb, .int .i64 kc]) false).run Tryd.prog w3.drew = .ok (.int .i64 v) w3.drew := by have := hm3.look hft; rw [hv] at this; exact this
                      have hlook4 : (Instr.lookup 26 (.map (some (w.heap.size + 1))) (.agg #[.int .i64 ka, .int .i64 kb, .int .i64 kc]) false).run Tryd.prog w4 = .ok (.int .i64 v) w4 := by have := hp4.look hft; unfold updT at this; rw [if_pos rfl] at this; exact this
                      unfold aggT at hme
                      dsimp only at hme
                      replace hme : (Instr.mapEntry 26 (.map (some (w.heap.size + 1))) (.agg #[.int .i64 ka, .int .i64 kb, .int .i64 kc])).run Tryd.prog w3.drew = .ok (.tuple #[.int .i64 v, .int .i64 st]) w4 := hme
                      replace hes : (Instr.entryStore 26 (.map (some (w.heap.size + 1))) (.int .i64 st) (.int .i64 (v - o.qty))).run Tryd.prog w4 = .ok () w5 := hes
                      have hPl4 := Blk.keeps (Blk.drew HPl.out) hk4 (show ¬ wq.heap.size + 1 = w.heap.size + 1 from by have := HI.out.keep.size; have := HI.out.map_.lt; omega)
                      have hBo4 := Blk.keeps (Blk.drew HBo.out) hk4 (show ¬ wq.heap.size = w.heap.size + 1 from by have := HI.out.map_.lt; omega)
                      have HPl5 := hid (Blk.keeps hPl4 hk5 (show ¬ wq.heap.size + 1 = w.heap.size + 1 from by have := HI.out.keep.size; have := HI.out.map_.lt; omega))
                      have hBo5 := Blk.keeps hBo4 hk5 (show ¬ wq.heap.size = w.heap.size + 1 from by have := HI.out.map_.lt; omega)
                      have HBo5 := hid hBo5
                      obtain ⟨q0, q1, q2⟩ := box3 hPl4
                      obtain ⟨-, -, -, -, q4⟩ := box5 hBo4
                      obtain ⟨p0, p1, p2⟩ := box3 HPl.out
                      have HP5 := hid (hp5.congr (f' := updT f (ka, kb, kc) (some (v - o.qty))) (fun x _ => rfl))
                      have HK5 := hid ((show Keeps (fun i => i = w.heap.size + 1) w3 w3.drew from ⟨rfl, rfl, rfl, Nat.le_refl _, fun _ _ _ => rfl⟩).trans (hk4.trans hk5 (fun i e => .inl e)) (fun i e => .inl e))
                      clear hm3 hft hst hp4 hk4 hp5 hk5 hPl4 hBo4 hBo5 hv
                      have i0 : IntKind.i64.wrap (v - o.qty) = v - o.qty := by rw [IntKind.wrap_i64]; omega
                      have i1 : RowKit.wrap64 (v - o.qty) = v - o.qty := by unfold RowKit.wrap64; omega
                      go_wp2_with fail
                      refine wp_region_heldT_drew 8 (fun W => (W.cell? ⟨wq.heap.size + 1, 0, none⟩ = some (.int .i64 ka) ∧ W.cell? ⟨wq.heap.size + 1, 1, none⟩ = some (.int .i64 kb) ∧ W.cell? ⟨wq.heap.size + 1, 2, none⟩ = some (.int .i64 kc)) ∧ W.cell? ⟨wq.heap.size, 4, none⟩ = some (.int .i64 o.qty) ∧ (Instr.lookup 26 (.map (some (w.heap.size + 1))) (.agg #[.int .i64 ka, .int .i64 kb, .int .i64 kc]) false).run Tryd.prog W = .ok (.int .i64 v) W) (by kernel_rfl) ⟨⟨p0, p1, p2⟩, x4, hlook⟩ (fun hS => ?_)
                      refine takeT 0 114 (.map (some (w.heap.size + 1))) rfl rfl rfl (by kernel_rfl) (by kernel_rfl) (by kernel_rfl) (by kernel_rfl) (fun _ _ _ h => h) (by rfl) ?_ (by assumption) ?_
                      · intro W hSw; go_simp
                      simp only [Act.put, List.setIfInBounds_toArray, List.set_cons_zero, List.set_cons_succ]
                      refine takeT 1 115 (.agg #[.int .i64 ka, .int .i64 kb, .int .i64 kc]) rfl rfl rfl (by kernel_rfl) (by kernel_rfl) (by kernel_rfl) (by kernel_rfl) (fun _ _ _ h => h) (by rfl) ?_ (by assumption) ?_
                      · intro W hSw; go_simp
                      simp only [Act.put, List.setIfInBounds_toArray, List.set_cons_zero, List.set_cons_succ]
                      refine takeT 2 116 (.int .i64 v) rfl rfl rfl (by kernel_rfl) (by kernel_rfl) (by kernel_rfl) (by kernel_rfl) (fun _ _ _ h => h) (by rfl) ?_ (by assumption) ?_
                      · intro W hSw; go_simp
                      simp only [Act.put, List.setIfInBounds_toArray, List.set_cons_zero, List.set_cons_succ]
                      refine takeT 3 117 (.pointer (some ⟨wq.heap.size, 4, none⟩)) rfl rfl rfl (by kernel_rfl) (by kernel_rfl) (by kernel_rfl) (by kernel_rfl) (fun _ _ _ h => h) (by rfl) ?_ (by assumption) ?_
                      · intro W hSw; go_simp
                      simp only [Act.put, List.setIfInBounds_toArray, List.set_cons_zero, List.set_cons_succ]
                      refine takeT 4 118 (.int .i64 o.qty) rfl rfl rfl (by kernel_rfl) (by kernel_rfl) (by kernel_rfl) (by kernel_rfl) (fun _ _ _ h => h) (by rfl) ?_ (by assumption) ?_
                      · intro W hSw; go_simp
                      simp only [Act.put, List.setIfInBounds_toArray, List.set_cons_zero, List.set_cons_succ]
                      refine takeT 5 119 (.int .i64 (v - o.qty)) rfl rfl rfl (by kernel_rfl) (by kernel_rfl) (by kernel_rfl) (by kernel_rfl) (fun _ _ _ h => h) (by rfl) ?_ (by assumption) ?_
                      · intro W hSw; go_simp
                      simp only [Act.put, List.setIfInBounds_toArray, List.set_cons_zero, List.set_cons_succ]
                      refine wpAnyT_one 6 (by kernel_rfl) rfl (fun K1 hK1 => ?_)
                      go_simp
                      refine hK1 _ _ ⟨⟨q0, q1, q2⟩, q4, hlook4⟩ (fun hS => ?_)
                      clear hK1
                      refine takeT 7 121 (.int .i64 st) rfl rfl rfl (by kernel_rfl) (by kernel_rfl) (by kernel_rfl) (by kernel_rfl) (fun _ _ _ h => h) (by rfl) ?_ (by assumption) ?_
                      · intro W hSw; go_simp
                      simp only [Act.put, List.setIfInBounds_toArray, List.set_cons_zero, List.set_cons_succ]
                      refine wpAnyT_last (by kernel_rfl) rfl (fun K1 hK1 => ?_)
                      go_simp
                      refine hK1 _ _ (wpAnyT_done (by kernel_rfl) ?_ _)
                      clear hK1
                      have hlook5 := HP5.out.look HFt.out
                      unfold updT at hlook5
                      rw [if_pos rfl] at hlook5
                      unfold aggT at hlook5
                      dsimp only [Option.getD] at hlook5
                      obtain ⟨r0, r1, r2⟩ := box3 HPl5.out
                      clear p0 p1 p2 q0 q1 q2 q4 x0 x1 x2 x3 x4 hlook hlook4 hme hes i0 i1 hS
                      by_cases hz : v - o.qty = 0
                      · as_aux_lemma =>
                        have hz_ := beqT hz
                        obtain ⟨w6, hdel, hp6, hk6⟩ := HP5.out.delete HFt.out
                        unfold aggT at hdel
                        dsimp only at hdel
                        have HK6 := hid (HK5.out.trans hk6 (fun i e => .inl e))
                        have hBo6 := Blk.keeps HBo5.out hk6 (show ¬ wq.heap.size = w.heap.size + 1 from by omega)
                        have HBo6 := hid hBo6
                        have HP6 := hid (hp6.congr (f' := updT f (ka, kb, kc) none) (fun x _ => by unfold updT; split <;> rfl))
                        have Hz := hid hz
                        clear hp6 hk6 hBo6 hz
                        have hI5 := HI3.out.ind.keeps HK6.out (by omega) (fun g hg => (HI3.out.up g hg).2)
                        have hb5 := HI3.out.keep.trans (HK6.out.below (B := w.heap.size) (fun i e => by have e : i = w.heap.size + 1 := e; omega) HI3.out.keep.size)
                        have HBw5 := hid hb5
                        have ht : ToldE lv bu se o (-1) = 0 := by unfold ToldE; rw [HRb.out, if_pos rfl, if_neg (fun e => by have := e.2; have := HVV.out; omega)]
                        have HT := hid ht
                        have HA := hid (take_ind w6 w.heap.size 25 cs 0 A c lv bu se hI5 HMild.out.small o)
                        obtain ⟨s0, s1, s2, s3, s4⟩ := box5 HBo6.out
                        clear ht hI5 hb5
                        go_wp2_with (first | (go_at_call 7; refine HA.out.mono ?_; rintro e w7 ⟨rfl, hd⟩; rw [HT.out]; have HD := hid hd; clear hd) | (go_at_call 5; refine (bare_any _ 0 (-1) _ _ (HEr.out.below (by obtain ⟨lv', bu', se', h1, -⟩ := HD.out; exact h1.far HI3.out (Nat.le_refl _) HBw5.out) (Nat.le_refl _)) (errIs_errV _ _)).mono ?_; rintro e w8 ⟨rfl, hb⟩; have HB9 := hid hb; clear hb))
                        go_meet
                        obtain ⟨lv', bu', se', h1, h2⟩ := HD.out
                        unfold ToldI at h2
                        rw [HT.out, if_pos rfl] at h2
                        have hr := HI3.out.rel.turn ((rightO_iff o).1 HRb.out) (.inr rfl) (fun e => by rw [HVV.out]; exact hnq) h2 (by rw [HVV.out]; exact hv0b)
                        have e1 : hasI lv bu se o + -1 * o.qty = v - o.qty := by rw [HVV.out]; omega
                        rw [e1, EK.out] at hr
                        have h6 := HI3.out.told.less (ka, kb, kc) (v := v - o.qty) (by rw [HV.out]; omega)
                        rw [Hz.out, show nzO 0 = none from rfl] at hr h6
                        exact (HI3.out.turn (by omega) (Nat.le_refl _) (Nat.le_succ _) HK6.out HP6.out h1 hr h6 (by have := HI3.out.hl; omega) (by have := h2.1; have := HI3.out.ll; omega)).below HB9.out
                      · as_aux_lemma =>
                        have hz_ := beqF hz
                        have Hz := hid hz
                        clear hz
                        have hI5 := HI3.out.ind.keeps HK5.out (by omega) (fun g hg => (HI3.out.up g hg).2)
                        have hb5 := HI3.out.keep.trans (HK5.out.below (B := w.heap.size) (fun i e => by have e : i = w.heap.size + 1 := e; omega) HI3.out.keep.size)
                        have HBw5 := hid hb5
                        have ht : ToldE lv bu se o (-1) = 0 := by unfold ToldE; rw [HRb.out, if_pos rfl, if_neg (fun e => by have := e.2; have := HVV.out; omega)]
                        have HT := hid ht
                        have HA := hid (take_ind w5 w.heap.size 25 cs 0 A c lv bu se hI5 HMild.out.small o)
                        obtain ⟨s0, s1, s2, s3, s4⟩ := box5 HBo5.out
                        clear ht hI5 hb5
                        go_wp2_with (first | (go_at_call 7; refine HA.out.mono ?_; rintro e w7 ⟨rfl, hd⟩; rw [HT.out]; have HD := hid hd; clear hd) | (go_at_call 5; refine (bare_any _ 0 (-1) _ _ (HEr.out.below (by obtain ⟨lv', bu', se', h1, -⟩ := HD.out; exact h1.far HI3.out (Nat.le_refl _) HBw5.out) (Nat.le_refl _)) (errIs_errV _ _)).mono ?_; rintro e w8 ⟨rfl, hb⟩; have HB9 := hid hb; clear hb))
                        go_meet
                        obtain ⟨lv', bu', se', h1, h2⟩ := HD.out
                        unfold ToldI at h2
                        rw [HT.out, if_pos rfl] at h2
                        have hr := HI3.out.rel.turn ((rightO_iff o).1 HRb.out) (.inr rfl) (fun e => by rw [HVV.out]; exact hnq) h2 (by rw [HVV.out]; exact hv0b)
                        have e1 : hasI lv bu se o + -1 * o.qty = v - o.qty := by rw [HVV.out]; omega
                        rw [e1, EK.out] at hr
                        have h6 := HI3.out.told.less (ka, kb, kc) (v := v - o.qty) (by rw [HV.out]; omega)
                        rw [nz_some Hz.out] at hr h6
                        exact (HI3.out.turn (by omega) (Nat.le_refl _) (Nat.le_succ _) HK5.out HP5.out h1 hr h6 (by have := HI3.out.hl; omega) (by have := h2.1; have := HI3.out.ll; omega)).below HB9.out
                · have z1_ := beqF z1
                  clear z1
                  go_wp2_with fail
                  go_meet
                  have h : IndR w w3 w.heap.size (w.heap.size + 1) k := ⟨cs, A, c, lv, bu, se, f, hs, HI3.out⟩
                  exact h.more (Nat.le_succ k)
            case rest =>
              as_aux_lemma =>
              clear HI3 HMild HW HBo HPl HFt HFo HRb HE0 EO EK HI hmlt hks x0 x1 x2 x3 x4 hv0
              obtain ⟨cs, A, c, lv, bu, se, f, hs, hI⟩ := hcut
              obtain ⟨w9, rfl⟩ : ∃ w9 : World, w9 = wc := ⟨_, rfl⟩
              obtain ⟨wr0, hrun, ⟨cnt, hpr⟩, hb9, hsz⟩ := hI.map_.range
              have HJ := hid hI
              have HPr := hid hpr
              have HB9 := hid hb9
              have HSz := hid hsz
              obtain ⟨i0, hi0, hz0, hz1, hz2⟩ := info_parts ind_ord_info
              clear hI hpr hb9 hsz
              go_wp2_with fail
              go_loopg [11] cnt (fun gg s11 wx => ∃ (A9 : Option Addr) (n9 c9 : Nat) (l9 : List Ord5) (left : Tri → Bool), s11 = .slice A9 n9 c9 ∧ PRange wx (w.heap.size + 1) w9.heap.size (k + 1) f left gg ∧ Coll f left hs l9 ∧ RowAt wx A9 n9 c9 28 5 (flat encO l9) ∧ Below w9.heap.size w9 wx ∧ w9.heap.size < wx.heap.size ∧ ∀ g, blkOf A9 = some g → w9.heap.size < g)
              case atStart => exact ⟨none, 0, 0, [], _, rfl, HPr.out, coll_nil, World.ownsRow_nil _ _ _ _, HB9.out, by have := HSz.out; omega, by simp [blkOf]⟩
              case round =>
                obtain ⟨A9, n9, c9, l9, left, rfl, hpr, hco, hR9, hB, hsz, hup⟩ := hrel
                rcases hpr.next with ⟨h0, hrun⟩ | ⟨⟨xa, xb, xc⟩, cc, w', cnt', hx, hlx, hfx, hrun, hpr', hlt', hk', hsz', hen⟩
                · as_aux_lemma =>
                  have hmk := hco.makes HJ.out.rel h0
                  have hl9 := row_length encO_length (by omega) hR9
                  have hsh := hco.short
                  have hpt := points_same (more := more) HJ.out.ind.ok HJ.out.rel hmk
                  have hmild := HJ.out.rel.mild HJ.out.ind.ok HJ.out.told (by have := HJ.out.hl; omega) (by have := HJ.out.ll; omega)
                  have hnear := near_all (l := l9) (more := more) (by have := HJ.out.hl; omega) hco.price (by have := HMo.out; omega)
                  have hIx := HJ.out.ind.below hB
                  have hN1 : ∀ p ∈ pointsI lv bu se more, Near p := fun p hp => by
                    have h := hnear p (by rw [hpt]; exact hp)
                    exact ⟨⟨h.1, h.2.1⟩, ⟨by omega, by omega⟩, ⟨by omega, by omega⟩⟩
                  have hn9 : n9 ≤ 100 := by have := HJ.out.hl; omega
                  have hlen : (pointsI lv bu se more).length ≤ 100000 := by
                    rw [← hpt]
                    have h1 := curveP_len l9 more
                    have := HJ.out.hl
                    omega
                  obtain ⟨ps, EP⟩ : ∃ ps, Hid (pointsI lv bu se more = ps) := ⟨_, hid rfl⟩
                  have EP2 : Hid (curveP l9 more = ps) := hid (hpt.trans EP.out)
                  rw [EP.out] at hN1 hlen
                  have hmore : -1099511627776 ≤ more ∧ more ≤ 1099511627776 := by have := HMo.out; omega
                  have HP := hid (points_any wr w.heap.size 25 cs 0 A c lv bu se hIx hmild more)
                  have HQ := hid (fun (W : World) (hb : Below wr.heap.size wr W) => quote_any W w.heap.size 25 cs 0 A c lv bu se (hIx.below hb) hmild more hmore (by rw [EP.out]; exact hN1) (by rw [EP.out]; exact hlen))
                  have HRc := hid (fun (W : World) (hb : Below wr.heap.size wr W) => rcurve_any A9 n9 c9 l9 more W (ElemsAt.of_row encO_length (by omega) (hR9.below hb)) hn9)
                  have HCh := hid (fun (W : World) (A : Option Addr) (cc : Nat) (hR : RowAt W A ps.length cc 61 3 (flat encT ps)) => rchoose_any A ps.length cc more hmore ps W (ElemsAt.of_row encT_length (by omega) hR) hN1 hlen)
                  have HSm := hid (fun (W : World) (A A2 : Option Addr) (c c2 : Nat) (hR : RowAt W A ps.length c 60 3 (flat encT ps)) (hR2 : RowAt W A2 ps.length c2 61 3 (flat encT ps)) => samePoints_any A A2 ps.length c c2 ps W (ElemsAt.of_row encT_length (by omega) hR) (ElemsAt.of_row encT_length (by omega) hR2) (by omega))
                  have HBx := hid hB
                  clear hmk hl9 hsh hpt hmild hnear hIx hN1 hlen hmore hR9 hco hup hB h0 hpr hn9 hsz
                  go_wp2_with fail
                  refine HP.out.mono ?_
                  rintro e w2 ⟨hb2, A2, c2, rfl, hR2⟩
                  rw [EP.out] at hR2 ⊢
                  have HB2 := hid hb2
                  have HR2 := hid hR2
                  clear hb2 hR2
                  go_wp2_with fail
                  refine (HRc.out w2 HB2.out).mono ?_
                  rintro e w4 ⟨hb4, A4, c4, rfl, hR4⟩
                  rw [EP2.out] at hR4 ⊢
                  have hb24 := HB2.out.trans (hb4.mono HB2.out.size)
                  have HSm2 := hid (HSm.out w4 A2 A4 c2 c4 (HR2.out.below hb4) hR4)
                  have HB4 := hid hb24
                  clear hb4 hR4 hb24
                  go_wp2_with fail
                  refine HSm2.out.mono ?_
                  rintro e w5 ⟨rfl, hb5⟩
                  have HB5 := hid (HB4.out.trans (hb5.mono HB4.out.size))
                  clear hb5
                  go_wp2_with fail
                  have hq := quote_ne (chooseP ps more).1 (chooseP ps more).2.1 (chooseP ps more).2.2
                  have hQ := HQ.out w5 HB5.out
                  rw [EP.out] at hQ
                  have hC := HCh.out
                  rw [← choose_same] at hC
                  unfold aggT at hQ hC
                  generalize (chooseP ps more).1 = t0 at hQ hC hq
                  generalize (chooseP ps more).2.1 = t1 at hQ hC hq
                  generalize (chooseP ps more).2.2 = t2 at hQ hC hq
                  have HQ2 := hid hQ
                  have HC2 := hid hC
                  have HEq := hid hq
                  clear hq hQ hC
                  refine HQ2.out.mono ?_
                  rintro e w6 ⟨rfl, hb6⟩
                  have HB6 := hid (HB5.out.trans (hb6.mono HB5.out.size))
                  clear hb6
                  go_wp2_with fail
                  refine (HRc.out w6 HB6.out).mono ?_
                  rintro e w7 ⟨hb7, A7, c7, rfl, hR7⟩
                  rw [EP2.out] at hR7 ⊢
                  have hC3 := HC2.out w7 A7 c7 hR7
                  have HB7 := hid (HB6.out.trans (hb7.mono HB6.out.size))
                  have HC3 := hid hC3
                  clear hb7 hR7 hC3
                  go_wp2_with fail
                  refine HC3.out.mono ?_
                  rintro e w8 ⟨rfl, hb8⟩
                  have HB8 := hid (HB7.out.trans (hb8.mono HB7.out.size))
                  clear hb8
                  have hq := HEq.out
                  go_wp2_with fail
                  clear hq
                  go_roundg (n - (k + 1))
                  case measure => omega
                  case rel =>
                    refine ⟨k + 1, by omega, rfl, by go_num, cs, A, c, lv, bu, se, f, hs, HJ.out.below ?_⟩
                    exact HBx.out.trans (HB8.out.mono HBx.out.size)
                · unfold aggT at hrun hen
                  dsimp only at hrun hen
                  have hrs := HJ.out.rel.side hfx
                  have HRs := hid hrs
                  have hcnt := HJ.out.told _ _ hfx
                  have HCnt := hid hcnt
                  have HCo := hid hco
                  have HR9 := hid hR9
                  have HB := hid hB
                  have HUp := hid hup
                  have HPr2 := hid hpr'
                  have HK2 := hid hk'
                  have HLx := hid hlx
                  have HFx := hid hfx
                  have hcc : 1 ≤ cc := hrs.1
                  have HLt := hid hlt'
                  obtain ⟨Bx, hBx⟩ : ∃ Bx, w'.heap.size = Bx := ⟨_, rfl⟩
                  have HSz2 := hid (show Bx = wr.heap.size from hBx.symm.trans hsz')
                  clear hpr hco hR9 hB hup hpr' hk' hrs hcnt hlx hfx hx hsz' hlt'
                  go_wp2_with fail
                  have hbb := (HB.out.trans (HK2.out.below (B := w9.heap.size) (fun i e => by have e : i = w9.heap.size := e; omega) HB.out.size)).alloc (by have := HB.out.size; have := HK2.out.size; omega) (.cells #[.int .i64 xa, .int .i64 xb, .int .i64 xc] 32)
                  have hprb := HPr2.out.keeps (Keeps.of_below ((Below.refl w'.heap.size w').alloc (Nat.le_refl _) (.cells #[.int .i64 xa, .int .i64 xb, .int .i64 xc] 32)) (fun _ => False)) (fun h => h) (fun h => h)
                  have hrb := (HR9.out.keeps HK2.out (fun g hg => by have := HUp.out g hg; show ¬ g = w9.heap.size; omega)).below ((Below.refl w'.heap.size w').alloc (Nat.le_refl _) (.cells #[.int .i64 xa, .int .i64 xb, .int .i64 xc] 32))
                  have hxb := Blk.new w' 32 #[.int .i64 xa, .int .i64 xb, .int .i64 xc]
                  rw [hBx] at hxb
                  have hBl : w9.heap.size < Bx := by have := HSz2.out; omega
                  have hupx : ∀ g, blkOf A9 = some g → w9.heap.size < g ∧ g ≠ Bx := fun g hg => ⟨HUp.out g hg, by have := HR9.out.lt hg; have := HSz2.out; omega⟩
                  have HBb := hid hbb
                  have HPb := hid hprb
                  have HRb := hid hrb
                  have HXb := hid hxb
                  have HUx := hid hupx
                  have HOpen := hid (HCo.out.open_ (xa, xb, xc) (c := cc) (by omega))
                  clear hbb hprb hrb hxb hupx hrun hBx
                  go_loopg [11, 13] cc.toNat (fun gg s11 s13 wx => ∃ (A8 : Option Addr) (n8 c8 : Nat) (l8 : List Ord5) (nn : Int) (m : Nat), s11 = .slice A8 n8 c8 ∧ s13 = .int .i64 nn ∧ gg = nn.toNat ∧ CollIn f left hs (xa, xb, xc) cc l8 nn m ∧ PRange wx (w.heap.size + 1) w9.heap.size (k + 1) f (fun z => left z && !(z == (xa, xb, xc))) cnt' ∧ RowAt wx A8 n8 c8 28 5 (flat encO l8) ∧ Below w9.heap.size w9 wx ∧ Blk wx Bx 32 #[.int .i64 xa, .int .i64 xb, .int .i64 xc] ∧ ∀ g, blkOf A8 = some g → w9.heap.size < g ∧ g ≠ Bx)
                  case atStart => exact ⟨A9, n9, c9, l9, cc, 0, rfl, rfl, rfl, HOpen.out, HPb.out, HRb.out, HBb.out, HXb.out, HUx.out⟩
                  case round =>
                    as_aux_lemma =>
                    obtain ⟨A8, n8, c8, l8, nn, m, rfl, rfl, rfl, hci, hpr8, hr8, hb8, hx8, hu8⟩ := hrel
                    have HCi := hid hci
                    have HPr8 := hid hpr8
                    have HR8 := hid hr8
                    have HB8 := hid hb8
                    have HX8 := hid hx8
                    have HU8 := hid hu8
                    have hl8 := row_length encO_length (by omega) hr8
                    have hn8 : n8 ≤ 1000 := by
                      have h1 := hci.len
                      have h2 := hci.cnt
                      have h3 := List.length_filter_le (fun x => !left x) hs
                      have h4 := List.count_le_length (a := ((xa, xb, xc) : Tri)) (l := hs)
                      have h5 := HJ.out.hl
                      omega
                    have hn0 := hci.n0
                    by_cases hz : 0 < nn
                    · obtain ⟨q, hq⟩ : ∃ q, min nn 1000000 = q := ⟨_, rfl⟩
                      have hq1 : 1 ≤ q ∧ q ≤ 1000000 ∧ (q = nn ∨ q = 1000000) ∧ q ≤ nn := by omega
                      have hcb : cc ≤ 1000000 * hs.count (xa, xb, xc) := HCnt.out
                      have hcb2 : cc ≤ 100000000 := by
                        have h4 := List.count_le_length (a := ((xa, xb, xc) : Tri)) (l := hs)
                        have h5 := HJ.out.hl
                        omega
                      have hnm := hci.nm
                      have hst := hci.step hz hcb HRs.out.2.1 HRs.out.2.2 hq1.1 hq1.2.1 hq1.2.2.1 hq1.2.2.2
                      have hnn : nn ≤ 100000000 := by omega
                      obtain ⟨hq11, hq12, -, hq14⟩ := hq1
                      obtain ⟨q0, q1, q2⟩ := box3 hx8
                      have HSt := hid hst
                      have hn88 : n8 ≤ 1000 := hn8
                      have hsz8 := hb8.size
                      have hnX := Blk.lt hx8
                      have hneX : blkOf A8 ≠ some Bx := fun e => (hu8 _ e).2 rfl
                      have HnX := hid hneX
                      have HOb := hid (show World.ownsRow (wr.alloc (.cells #[.int .i64 0, .int .i64 xa, .int .i64 xb, .int .i64 xc, .int .i64 q] 28)) 0 28 5 (.slice A8 n8 c8) n8 (flat encO l8) from HR8.out.below ((Below.refl _ wr).alloc (Nat.le_refl _) _))
                      have HNWb := hid (heap_alloc_new wr (.cells #[.int .i64 0, .int .i64 xa, .int .i64 xb, .int .i64 xc, .int .i64 q] 28))
                      clear hci hpr8 hr8 hb8 hx8 hu8 hl8 hst hcb hcb2 hnm hneX
                      go_wp2_with (at_builtin; (refine wpList_append_lies _ rfl _ _ 39 rfl 0 28 i0 _ 5 40 Tryd.underlying39 hi0 hz0 hz1 hz2 rfl (by omega) (.slice A8 n8 c8) n8 _ rfl HOb.out ⟨wr.heap.size, 0, none⟩ 1 1 (encO (ordT (xa, xb, xc) q)) rfl rfl (World.news_of_block (cs := (encO (ordT (xa, xb, xc) q)).toArray) (t := 28) (fr := (0, 0)) HNWb.out) (encO_one _) (by omega) (by unfold maxLen; omega) (by omega) (by simp) (wr.heap.size + 1) (by simp) ?_); intro gg cap w4 hown hgrow hat hlt3; have HOw := hid hown; have HGr := hid hgrow; have HAt := hid hat; clear hown hgrow hat)
                      go_roundg ((nn - q).toNat)
                      case measure => omega
                      case rel =>
                        have hat := HAt.out
                        rw [own_slice] at hat
                        have hg := HGr.out
                        rw [own_slice] at hg
                        have hk4 : Keeps (fun i => blkOf A8 = some i) wr w4 := (Keeps.of_below ((Below.refl _ wr).alloc (Nat.le_refl _) _) _).trans (⟨hg.os, hg.tape, hg.output, hg.size, fun i hi hn => hg.block i hi (fun e => hn e.symm)⟩ : Keeps (fun i => blkOf A8 = some i) _ w4) (fun i e => .inl e)
                        refine ⟨some ⟨gg, 0, none⟩, n8 + 1, cap, _, nn - q, m + 1, rfl, rfl, rfl, HSt.out, HPr8.out.keeps hk4 (fun e => ?_) (fun e => ?_), ?_, ?_, Blk.keeps HX8.out hk4 HnX.out, fun g hg => ?_⟩
                        · have := (HU8.out _ e).1; have := HJ.out.map_.lt; omega
                        · have := (HU8.out _ e).1; omega
                        · rw [flat_snoc]; exact HOw.out
                        · exact HB8.out.trans (hk4.below (fun i e => Nat.le_of_lt (HU8.out i e).1) HB8.out.size)
                        · cases hg
                          rcases hat with h1 | h1
                          · exact HU8.out _ h1
                          · exact ⟨by show w9.heap.size < gg; omega, by show gg ≠ Bx; omega⟩
                    · obtain rfl : nn = 0 := by omega
                      have HCs := hid (hci.shut HLx.out HFx.out)
                      have hd0 : ¬ (0 : Int) < 0 := by omega
                      clear hci hpr8 hr8 hb8 hx8 hu8 hl8
                      go_wp2_with fail
                      go_roundg cnt'
                      case measure => exact HLt.out
                      case rel => exact ⟨A8, n8, c8, l8, _, rfl, HPr8.out, HCs.out, HR8.out, HB8.out, by have := Blk.lt HX8.out; omega, fun g hg => (HU8.out g hg).1⟩
    · obtain rfl : n = k := by omega
      have hltz : ¬ (n : Int) < (n : Int) := by omega
      obtain ⟨cs, A, c, lv, bu, se, f, hs, hI⟩ := hR
      have HI := hid hI
      clear hI
      go_wp2_with fail
      go_ret
      exact ⟨rfl, HI.out.keep⟩
end Go.Proofs.YteggaehelnmhnaaDoor
