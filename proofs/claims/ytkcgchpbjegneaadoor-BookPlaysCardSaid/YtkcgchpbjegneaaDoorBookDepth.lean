/-
  The walk of Book.Depth; and the plain law: queue by queue it is what the orders of the side make up.
-/
import Derived.WalkKit
import Derived.WalkLawsBesides
import Derived.WalkSpells
import Derived.Deep.LoopGhost
import Derived.Deep.DeepCutAuto
import Derived.Deep.CutBlock
import Derived.Deep.RegionWith
import Derived.Deep.AppendLies
import Derived.Deep.AppendSrc
import Derived.BigRegion
import Derived.Test.YtkcgchpbjegneaaDoorBookIter
import Derived.Test.YtkcgchpbjegneaaDoorRefDepth
namespace Go.Proofs.YtkcgchpbjegneaaDoor
open Go.RowKit
set_option linter.unusedVariables false

/-! ### the plain law -/
def sumO (os : List HO) : Int := os.foldl (fun s x => s + x.2.qty) 0
theorem sumO_snoc (os : List HO) (x : HO) : sumO (os ++ [x]) = sumO os + x.2.qty := by unfold sumO; rw [List.foldl_append]; rfl
def lvQ (q : QG) : Tri := (q.price, sumO q.os, (q.os.length : Int))
theorem dep_market {ms : List HO} (h : ∀ x ∈ ms, x.2.kind = 2) (out : List Tri) : (ordL ms).foldl depF out = out := by
  induction ms with
  | nil => rfl
  | cons x t ih =>
    show ((ordL t).foldl depF (depF out x.2)) = out
    rw [depF_market (h x (by simp))]
    exact ih (fun y hy => h y (by simp [hy]))
theorem foldl_from (os : List HO) : ∀ a : Int, os.foldl (fun s x => s + x.2.qty) a = a + sumO os := by
  unfold sumO
  induction os with
  | nil => intro a; simp
  | cons x t ih => intro a; rw [List.foldl_cons, List.foldl_cons, ih, ih (0 + x.2.qty)]; omega
theorem dep_run {p : Int} {os : List HO} (h : ∀ x ∈ os, x.2.kind ≠ 2 ∧ x.2.price = p) : ∀ (out : List Tri) (a c : Int), (ordL os).foldl depF (out ++ [(p, a, c)]) = out ++ [(p, a + sumO os, c + os.length)] := by
  induction os with
  | nil => intro out a c; show out ++ [(p, a, c)] = _; simp [sumO]
  | cons x t ih =>
    intro out a c
    obtain ⟨h1, h2⟩ := h x (by simp)
    show ((ordL t).foldl depF (depF (out ++ [(p, a, c)]) x.2)) = _
    rw [depF_same h1 h2.symm, ih (fun y hy => h y (by simp [hy]))]
    have e := foldl_from t (0 + x.2.qty)
    have e2 : sumO (x :: t) = x.2.qty + sumO t := by unfold sumO; rw [List.foldl_cons, e]; unfold sumO; omega
    rw [e2, List.length_cons]
    dsimp only
    have h3 : a + x.2.qty + sumO t = a + (x.2.qty + sumO t) := by omega
    have h4 : c + 1 + (t.length : Int) = c + ((t.length + 1 : Nat) : Int) := by omega
    rw [h3, h4]
theorem dep_queue {q : QG} (h : ∀ x ∈ q.os, x.2.kind ≠ 2 ∧ x.2.price = q.price) (hne : q.os ≠ []) {out : List Tri} (hl : ∀ x, out.getLast? = some x → x.1 ≠ q.price) : (ordL q.os).foldl depF out = out ++ [lvQ q] := by
  obtain ⟨x, t, ht⟩ : ∃ x t, q.os = x :: t := by
    cases hq : q.os with
    | nil => exact absurd hq hne
    | cons x t => exact ⟨x, t, rfl⟩
  obtain ⟨h1, h2⟩ := h x (by rw [ht]; simp)
  have e0 : depF out x.2 = out ++ [(q.price, x.2.qty, 1)] := by
    rcases nil_or_snoc out with rfl | ⟨u, y, rfl⟩
    · rw [depF_first h1, h2]; rfl
    · rw [depF_next h1 (by rw [h2]; exact hl y (by simp)), h2]
  rw [ht]
  show ((ordL t).foldl depF (depF out x.2)) = _
  rw [e0, dep_run (fun y hy => h y (by rw [ht]; simp [hy]))]
  unfold lvQ
  rw [ht]
  have e := foldl_from t (0 + x.2.qty)
  have e2 : sumO (x :: t) = x.2.qty + sumO t := by unfold sumO; rw [List.foldl_cons, e]; unfold sumO; omega
  rw [e2, List.length_cons]
  have h4 : (1 : Int) + (t.length : Int) = ((t.length + 1 : Nat) : Int) := by omega
  rw [h4]
theorem dep_queues {side : Int} : ∀ (qs : List QG), (∀ q ∈ qs, ∀ x ∈ q.os, x.2.kind ≠ 2 ∧ x.2.price = q.price) → (∀ q ∈ qs, q.os ≠ []) → RankQ side (qs.map QG.que) → ∀ out : List Tri, (∀ x, out.getLast? = some x → ∀ q ∈ qs, x.1 ≠ q.price) → (ordL (qOrd qs)).foldl depF out = out ++ qs.map lvQ := by
  intro qs
  induction qs with
  | nil => intro _ _ _ out _; show out = _; simp
  | cons q t ih =>
    intro h1 h2 h3 out h4
    have e : ordL (qOrd (q :: t)) = ordL q.os ++ ordL (qOrd t) := by unfold qOrd; rw [List.flatMap_cons, ordL_append]
    rw [e, List.foldl_append, dep_queue (h1 q (by simp)) (h2 q (by simp)) (fun x hx => h4 x hx q (by simp))]
    unfold RankQ at h3
    rw [List.map_cons, List.pairwise_cons] at h3
    rw [ih (fun y hy => h1 y (by simp [hy])) (fun y hy => h2 y (by simp [hy])) h3.2 _ (fun x hx y hy => by
      rw [List.getLast?_concat] at hx
      have := Option.some.inj hx
      subst this
      have := h3.1 (QG.que y) (List.mem_map.2 ⟨y, hy, rfl⟩)
      exact betB_ne this)]
    simp
theorem depth_half {side : Int} {h : HS} (H : HalfIs side h.ms h.qs) (hne : ∀ q ∈ h.qs, q.os ≠ []) : depthL h.L = h.qs.map lvQ := by
  unfold depthL HS.L HS.all hOrd
  rw [ordL_append, List.foldl_append, dep_market (fun x hx => (H.mkt x hx).1)]
  have := dep_queues h.qs (fun q hq x hx => ⟨(H.qk q hq x hx).1, (H.qk q hq x hx).2.2⟩) hne H.rank [] (fun x hx => by cases hx)
  simpa using this
theorem sumO_bound {os : List HO} (h : ∀ x ∈ os, 0 ≤ x.2.qty ∧ x.2.qty ≤ 1000000) : 0 ≤ sumO os ∧ sumO os ≤ 1000000 * os.length := by
  induction os with
  | nil => simp [sumO]
  | cons x t ih =>
    have h1 := ih (fun y hy => h y (by simp [hy]))
    have h2 := h x (by simp)
    have e := foldl_from t (0 + x.2.qty)
    have e2 : sumO (x :: t) = x.2.qty + sumO t := by unfold sumO; rw [List.foldl_cons, e]; unfold sumO; omega
    rw [e2, List.length_cons]
    omega

/-! ### the walk -/
theorem que_own {w : World} {g n c : Nat} {t : TypeId} {ps : List Que} (h : RowAt w (some ⟨g, 0, none⟩) n c t 2 (flat encQ ps)) {i : Nat} (hi : i < ps.length) :
    w.cell? ⟨g, i * 2, none⟩ = some (.int .i64 ps[i].1) ∧ w.cell? ⟨g, i * 2 + 1, none⟩ = some (.slice ps[i].2.1 ps[i].2.2.1 ps[i].2.2.2) := by
  obtain ⟨g', hg, hc⟩ := h.elem encQ_length (by omega) hi
  cases hg
  exact ⟨hc 0 _ rfl, hc 1 _ rfl⟩
theorem box2 {w : World} {g : Nat} {t : TypeId} {a b : Value} (h : Blk w g t #[a, b]) : w.cell? ⟨g, 0, none⟩ = some a ∧ w.cell? ⟨g, 1, none⟩ = some b :=
  ⟨by rw [Blk.cell h]; rfl, by rw [Blk.cell h]; rfl⟩
theorem box3' {w : World} {g : Nat} {t : TypeId} {a b c : Value} (h : Blk w g t #[a, b, c]) : w.cell? ⟨g, 0, none⟩ = some a ∧ w.cell? ⟨g, 1, none⟩ = some b ∧ w.cell? ⟨g, 2, none⟩ = some c :=
  ⟨by rw [Blk.cell h]; rfl, by rw [Blk.cell h]; rfl, by rw [Blk.cell h]; rfl⟩

set_option maxRecDepth 100000 in
set_option maxHeartbeats 8000000 in
theorem bdepth_m (W : World) (b a r N : Nat) (F : Nat → Prop) (M : Int → Int → Option Ord5) (f : Int → Option Value) (H : Int → HS) (reg : Nat → Int) (hM : BookM W b a F M N r f H reg) (hS : BookS M N f H) (hN : N ≤ 100) (sd : Int) (hs : Is12 sd) :
    Calls Tryd.prog 17 #[.pointer (some ⟨b, 0, none⟩), .int .i64 sd] W fun e w' => Below W.heap.size W w' ∧ ∃ A c, e = .returned (.tuple #[.slice A ((H sd).qs.map lvQ).length c, .nilIface]) ∧ RowAt w' A ((H sd).qs.map lvQ).length c 93 3 (flat encT ((H sd).qs.map lvQ)) := by
  have HM := hid hM
  have HSm := hid hS
  have HN := hid hN
  obtain ⟨i0, hi0, hz0, hz1, hz2⟩ := info_parts lev_info
  obtain ⟨qs, hqs⟩ : ∃ qs, (H sd).qs = qs := ⟨_, rfl⟩
  have hql := qs_le hs hS hN
  obtain ⟨n, hn⟩ : ∃ n, qs.length = n := ⟨_, rfl⟩
  rw [hqs, hn] at hql
  have hcell : W.cell? ⟨b, hoff sd + 1, none⟩ = some (.slice (H sd).qA n (H sd).qc) := by
    rw [← hn, ← hqs]
    rcases hs with rfl | rfl
    · exact hM.cells.2.2.2.1
    · exact hM.cells.2.2.2.2.2
  obtain ⟨Aq, hAq⟩ : ∃ A, (H sd).qA = A := ⟨_, rfl⟩
  obtain ⟨cq, hcq⟩ : ∃ c, (H sd).qc = c := ⟨_, rfl⟩
  rw [hAq, hcq] at hcell
  rw [hqs]
  have HQs := hid hqs
  have HNl := hid hn
  have Hs := hid hs
  have HA := hid (And.intro hAq hcq)
  have HC := hid hcell
  clear hM hS hN hqs hn hAq hcq hs hcell
  go_enter Tryd.func17, Tryd.ntmps17
  go_upto_region 1 with fail
  go_cut [19] (fun s19 wx => s19 = .bool false ∧ wx = W)
  case first =>
    rcases Hs.out with rfl | rfl
    · go_wp2_with fail
      go_meet
      exact ⟨rfl, rfl⟩
    · go_wp2_with fail
      go_meet
      exact ⟨rfl, rfl⟩
  case rest =>
    obtain ⟨rfl, rfl⟩ := hcut
    obtain ⟨W, rfl⟩ : ∃ w3 : World, w3 = wc := ⟨_, rfl⟩
    go_upto_region 4 with fail
    go_cut [28, 29, 30] (fun s28 s29 s30 wx => s28 = .slice Aq n cq ∧ s29 = .int .i64 n ∧ s30 = .int .i64 0 ∧ wx = W)
    case first =>
      rcases Hs.out with rfl | rfl
      · have hc : W.cell? ⟨b, 3, none⟩ = some (.slice Aq n cq) := HC.out
        go_wp2_with fail
        go_meet
        exact ⟨rfl, rfl, rfl, rfl⟩
      · have hc : W.cell? ⟨b, 5, none⟩ = some (.slice Aq n cq) := HC.out
        go_wp2_with fail
        go_meet
        exact ⟨rfl, rfl, rfl, rfl⟩
    case rest =>
      obtain ⟨rfl, rfl, rfl, rfl⟩ := hcut
      obtain ⟨W, rfl⟩ : ∃ w3 : World, w3 = wc := ⟨_, rfl⟩
      go_wp2_with fail
      go_loopg [6, 30] n (fun gg s6 s30 wx => ∃ (k n9 c9 : Nat) (A9 : Option Addr), k ≤ n ∧ gg = n - k ∧ s30 = .int .i64 k ∧ s6 = .slice A9 n9 c9 ∧ Below W.heap.size W wx ∧ RowAt wx A9 n9 c9 93 3 (flat encT ((qs.take k).map lvQ)) ∧ ∀ g, blkOf A9 = some g → W.heap.size ≤ g)
      case atStart => exact ⟨0, 0, 0, none, Nat.zero_le _, rfl, rfl, rfl, Below.refl _ _, World.ownsRow_nil _ _ _ _, by simp [blkOf]⟩
      case round =>
        obtain ⟨k, n9, c9, A9, hk, rfl, rfl, rfl, hB, hR, hup⟩ := hrel
        by_cases hlt : k < n
        · have hkl : k < qs.length := by have := HNl.out; omega
          have hMr := HM.out.below hB
          have hrow := (hMr.hx sd Hs.out).rq
          rw [HA.out.1, HA.out.2, HQs.out, HNl.out] at hrow
          obtain ⟨gq, hgq, -⟩ := hrow.elem encQ_length (by omega) (i := k) (by simpa using hkl)
          subst hgq
          obtain ⟨x0, x1⟩ := que_own hrow (i := k) (by simpa using hkl)
          obtain ⟨q, eq⟩ : ∃ q, qs[k] = q := ⟨_, rfl⟩
          have e1 : (qs.map QG.que)[k]'(by simpa using hkl) = QG.que q := by rw [← eq]; simp
          rw [e1] at x0 x1
          have hqm : q ∈ (H sd).qs := by rw [HQs.out, ← eq]; exact List.getElem_mem _
          have hrl := (hMr.hx sd Hs.out).rl q hqm
          have hol : q.os.length ≤ 1000 := by
            have := os_le Hs.out HSm.out HN.out (k := k) (by rw [HQs.out]; exact hkl)
            have e2 : (H sd).qs[k]'(by rw [HQs.out]; exact hkl) = q := by simp only [HQs.out]; exact eq
            rwa [e2] at this
          have HHd := hid (show ∀ x ∈ q.os, M x.1.1 x.1.2 = some x.2 ∧ 0 ≤ x.2.qty ∧ x.2.qty ≤ 1000000 from fun x hx => by
            have hx2 : x ∈ allH H := mem_allH Hs.out (List.mem_append_right _ (List.mem_flatMap.2 ⟨q, hqm, hx⟩))
            have hok := HSm.out.ok x hx2
            exact ⟨HSm.out.hM x hx2, by have := hok.2.2.2; omega⟩)
          have HTk := hid (show (qs.take (k + 1)).map lvQ = (qs.take k).map lvQ ++ [lvQ q] by rw [List.take_succ_eq_append_getElem hkl, eq, List.map_append]; rfl)
          have hltz : (k : Int) < (n : Int) := by omega
          have hk0 : (0 : Int) ≤ (k : Int) := by omega
          unfold QG.que at x0 x1
          dsimp only at x0 x1
          obtain ⟨m, hm⟩ : ∃ m, q.os.length = m := ⟨_, rfl⟩
          rw [hm] at x1 hol
          have Hm := hid hm
          have HMc := hid hMr
          have HRl := hid hrl
          have HB := hid hB
          have HR := hid hR
          have HUp := hid hup
          obtain ⟨wq, rfl⟩ : ∃ wq : World, wq = wr := ⟨_, rfl⟩
          clear hMr hrow e1 hqm hrl eq hB hR hup hm
          go_wp2_with fail
          obtain ⟨w1, ew1⟩ : ∃ X, (wq.alloc (.cells #[.int .i64 q.price, .slice q.A m q.c] 80)).alloc (.cells #[.int .i64 q.price, .int .i64 0, .int .i64 m] 93) = X := ⟨_, rfl⟩
          obtain ⟨lb, elb⟩ : ∃ g, wq.heap.size + 1 = g := ⟨_, rfl⟩
          have hal : Below wq.heap.size wq w1 := by rw [← ew1]; exact ((Below.refl _ _).alloc (Nat.le_refl _) _).alloc (by simp) _
          have hLv : Blk w1 lb 93 #[.int .i64 q.price, .int .i64 0, .int .i64 m] := by
            rw [← ew1, ← elb]
            have h := Blk.new (wq.alloc (.cells #[.int .i64 q.price, .slice q.A m q.c] 80)) 93 #[.int .i64 q.price, .int .i64 0, .int .i64 m]
            simpa using h
          have hlbw : wq.heap.size ≤ lb := by omega
          rw [ew1, elb]
          have HAl := hid hal
          have HLv := hid hLv
          clear ew1 elb hal hLv x0 x1
          go_loopg [43] m (fun gg s43 wx => ∃ i : Nat, i ≤ m ∧ gg = m - i ∧ s43 = .int .i64 i ∧ Below wq.heap.size wq wx ∧ Blk wx lb 93 #[.int .i64 q.price, .int .i64 (sumO (q.os.take i)), .int .i64 m])
          case atStart => exact ⟨0, Nat.zero_le _, rfl, rfl, HAl.out, HLv.out⟩
          case round =>
            obtain ⟨i, hi, rfl, rfl, hB2, hL2⟩ := hrel
            obtain ⟨l0, l1, l2⟩ := box3' hL2
            by_cases hlt2 : i < m
            · have hil : i < q.os.length := by have := Hm.out; omega
              have hrl := HRl.out.below hB2
              rw [Hm.out] at hrl
              obtain ⟨gh, hgh, -⟩ := hrl.elem encH_length (by omega) (i := i) (by simpa [hndL] using hil)
              obtain ⟨x, ex⟩ : ∃ x, q.os[i] = x := ⟨_, rfl⟩
              rw [hgh] at hrl
              obtain ⟨x0, x1⟩ := hnd_own hrl (i := i) (by simpa [hndL] using hil)
              have e3 : (hndL q.os)[i]'(by simpa [hndL] using hil) = x.1 := by rw [← ex]; simp [hndL]
              rw [e3] at x0 x1
              obtain ⟨hMx, hq1, hq2⟩ := HHd.out x (by rw [← ex]; exact List.getElem_mem _)
              have HSm2 := hid (show sumO (q.os.take (i + 1)) = sumO (q.os.take i) + x.2.qty by rw [List.take_succ_eq_append_getElem hil, ex, sumO_snoc])
              have hsb := sumO_bound (os := q.os.take i) (fun y hy => (HHd.out y (List.mem_of_mem_take hy)).2)
              rw [List.length_take] at hsb
              have hsb2 : 0 ≤ sumO (q.os.take i) ∧ sumO (q.os.take i) ≤ 1000000000 := by omega
              obtain ⟨hsb3, hsb4⟩ := hsb2
              have hM2 := HMc.out.below hB2
              have y0 := hM2.cells.1
              have hbl := Blk.lt hM2.blk
              obtain ⟨⟨h1, h2⟩, o⟩ := x
              dsimp only at x0 x1 hMx hq1 hq2 HSm2
              obtain ⟨sm, esm⟩ : ∃ sm, sumO (q.os.take i) = sm := ⟨_, rfl⟩
              rw [esm] at l1 hL2 HSm2 hsb3 hsb4
              have hltz2 : (i : Int) < (m : Int) := by omega
              have hi0' : (0 : Int) ≤ (i : Int) := by omega
              have hbox : Below wr.heap.size wr (wr.alloc (.cells #[.int .i64 h1, .int .i64 h2] 69)) := (Below.refl _ _).alloc (Nat.le_refl _) _
              have hget := get_one (hM2.below hbox) hMx
              have HG := hid hget
              have HB2 := hid hB2
              have HL2 := hid hL2
              have Hgh := hid hgh
              obtain ⟨wo, rfl⟩ : ∃ wo : World, wo = wr := ⟨_, rfl⟩
              clear hrl ex e3 hMx hsb hM2 hget hB2 hL2 hbox esm hgh
              rw [Hgh.out]
              go_upto_region 11 with fail
              go_cut [12] (fun s12 wx => Got wo wx o s12)
              case first =>
                have hB0 := hid (show Below wo.heap.size wo (wo.alloc (.cells #[.int .i64 h1, .int .i64 h2] 69)).drew from Below.drew ((Below.refl _ _).alloc (Nat.le_refl _) _))
                have HX0 := hid (show Blk _ (wo.heap.size + 1) 30 _ by simpa using Blk.new (wo.alloc (.cells #[.int .i64 h1, .int .i64 h2] 69)) 30 #[.int .i64 0, .int .i64 0, .int .i64 0, .int .i64 0, .int .i64 0])
                have hB00 := hid (show Below wo.heap.size wo ((wo.alloc (.cells #[.int .i64 h1, .int .i64 h2] 69)).alloc (.cells #[.int .i64 0, .int .i64 0, .int .i64 0, .int .i64 0, .int .i64 0] 30)).drew from Below.drew (((Below.refl _ _).alloc (Nat.le_refl _) _).alloc (by simp) _))
                have HA1 := hid (HG.out (wo.alloc (.cells #[.int .i64 h1, .int .i64 h2] 69)).drew (Below.drew (Below.refl _ _)))
                have HA2 := hid (HG.out ((wo.alloc (.cells #[.int .i64 h1, .int .i64 h2] 69)).alloc (.cells #[.int .i64 0, .int .i64 0, .int .i64 0, .int .i64 0, .int .i64 0] 30)).drew (Below.drew ((Below.refl _ _).alloc (Nat.le_refl _) _)))
                clear l0 l1 l2 x0 x1
                go_region_with (first | (go_at_call 34; refine HA1.out.mono ?_; rintro e w5 ⟨rfl, hb5⟩; have HB5 := hid (hB0.out.trans (hb5.mono (by simp <;> omega))); clear hb5) | (go_at_call 34; refine HA2.out.mono ?_; rintro e w5 ⟨rfl, hb5⟩; have hbx := Blk.keep (Blk.drew HX0.out) hb5; obtain ⟨z0, z1, z2, z3, z4⟩ := box5' hbx; have f0 := Blk.frozen hbx 0; have f1 := Blk.frozen hbx 1; have f2 := Blk.frozen hbx 2; have f3 := Blk.frozen hbx 3; have f4 := Blk.frozen hbx 4; have HBx := hid hbx; have HB5 := hid (hB00.out.trans (hb5.mono (by simp <;> omega))); clear hb5 hbx))
                all_goals go_wp2_with fail
                all_goals go_meet
                all_goals
                  refine ⟨_, rfl, ?_, ?_⟩
                  · first
                    | (with_reducible exact HB5.out.alloc HB5.out.size _)
                    | exact HB5.out.trans ((keeps5' _ _ _ _ _ _ _).below (B := wo.heap.size) (fun i e => by have e' : i = wo.heap.size + 1 := e; omega) HB5.out.size)
                  · unfold boxO
                    first
                    | (with_reducible exact Blk.new _ _ _)
                    | exact Blk.set_ (Blk.set_ (Blk.set_ (Blk.set_ (Blk.set_ HBx.out 0 _) 1 _) 2 _) 3 _) 4 _
              case rest =>
                obtain ⟨ob, rfl, hbo, hbx⟩ := hcut
                obtain ⟨-, -, -, -, z4⟩ := ord_box hbx
                have hL3 := Blk.keep HL2.out hbo
                obtain ⟨l0, l1, l2⟩ := box3' hL3
                have fl := Blk.frozen hL3 1
                have HL3 := hid hL3
                have HB3 := hid (HB2.out.trans (hbo.mono HB2.out.size))
                have hi1 : RowKit.wrap64 (sm + o.qty) = sm + o.qty := by unfold RowKit.wrap64; omega
                clear hbo hbx hL3 x0 x1 y0
                go_wp2_with fail
                rw [← Hgh.out]
                go_roundg (m - (i + 1))
                case measure => omega
                case rel => exact ⟨i + 1, by omega, rfl, by go_num, HB3.out.setCell hlbw _, by rw [HSm2.out]; exact Blk.set_ HL3.out 1 _⟩
            · obtain rfl : m = i := by omega
              have hltz2 : ¬ (m : Int) < (m : Int) := by omega
              have etk : q.os.take m = q.os := List.take_of_length_le (by rw [Hm.out]; exact Nat.le_refl _)
              rw [etk] at l1 hL2
              obtain ⟨sm, esm⟩ : ∃ sm, sumO q.os = sm := ⟨_, rfl⟩
              rw [esm] at l1 hL2
              have HLq := hid (show lvQ q = (q.price, sm, (m : Int)) by unfold lvQ; rw [esm, Hm.out])
              have hn9 : n9 ≤ 100000 := by have := row_length encT_length (by omega) HR.out; simp at this; omega
              have HRb := hid (HR.out.below hB2)
              have HOa := hid (show World.ownsRow (wr.alloc (.cells #[.int .i64 q.price, .int .i64 sm, .int .i64 m] 93)) 0 93 3 (.slice A9 n9 c9) n9 (flat encT ((qs.take k).map lvQ)) from HRb.out.below ((Below.refl _ _).alloc (Nat.le_refl _) _))
              have HNWa := hid (heap_alloc_new wr (.cells #[.int .i64 q.price, .int .i64 sm, .int .i64 m] 93))
              have HB2 := hid (HB.out.trans (hB2.mono HB.out.size))
              clear hB2 hL2 esm etk
              go_wp2_with (at_builtin; (refine wpList_append_lies _ rfl _ _ 48 rfl 0 93 i0 _ 3 24 Tryd.underlying48 hi0 hz0 hz1 hz2 rfl (by omega) (.slice A9 n9 c9) n9 _ rfl HOa.out ⟨wr.heap.size, 0, none⟩ 1 1 (encT (q.price, sm, (m : Int))) rfl rfl (World.news_of_block (cs := (encT (q.price, sm, (m : Int))).toArray) (t := 93) (fr := (0, 0)) HNWa.out) (encT_one _) (by omega) (by unfold maxLen; omega) (by omega) (by simp) (wr.heap.size + 1) (by simp) ?_); intro gg cap w4 hown hgrow hat hlt3; have HOw := hid hown; have HGr := hid hgrow; have HAt := hid hat; clear hown hgrow hat)
              go_roundg (n - (k + 1))
              case measure => omega
              case rel =>
                have hat := HAt.out
                rw [own_slice] at hat
                have hgr := HGr.out
                rw [own_slice] at hgr
                refine ⟨k + 1, n9 + 1, cap, some ⟨gg, 0, none⟩, by omega, rfl, by go_num, rfl, (HB2.out.alloc HB2.out.size _).grown hgr (by have := HB2.out.size; simp; omega) HUp.out, by rw [HTk.out, HLq.out, flat_snoc]; exact HOw.out, fun g hg => ?_⟩
                cases hg
                rcases hat with h1 | h1
                · exact HUp.out _ h1
                · have := HB2.out.size; show W.heap.size ≤ gg; omega
        · obtain rfl : n = k := by omega
          have hltz : ¬ (n : Int) < (n : Int) := by omega
          have etk : qs.take n = qs := List.take_of_length_le (by rw [HNl.out]; exact Nat.le_refl _)
          rw [etk] at hR
          have hl9 := row_length encT_length (by omega) hR
          have HLn := hid hl9
          have HB := hid hB
          have HR := hid hR
          clear hB hR hup etk hl9
          go_wp2_with fail
          go_ret2
          have e9 : qs.length = n9 := by have := HLn.out; simpa using this
          refine ⟨HB.out, A9, c9, ?_, ?_⟩
          · rw [e9]; rfl
          · rw [e9]; exact HR.out

/-- Book.Depth tells what the orders of the side make up -/
theorem bookDepth_any (w : World) (b : Nat) (G : Nat → Prop) (L1 L2 : List Ord5) (h : BookAt w b G L1 L2) (sd : Int) (hs : Is12 sd) :
    Calls Tryd.prog 17 #[.pointer (some ⟨b, 0, none⟩), .int .i64 sd] w fun e w' => Below w.heap.size w w' ∧ ∃ A c, e = .returned (.tuple #[.slice A (depthL (sideL sd L1 L2)).length c, .nilIface]) ∧ RowAt w' A (depthL (sideL sd L1 L2)).length c 93 3 (flat encT (depthL (sideL sd L1 L2))) := by
  obtain ⟨a, F, M, n, r, f, H, reg, hM, hS, hG, rfl, rfl⟩ := h
  have e : sideL sd (H 1).L (H 2).L = (H sd).L := by
    rcases hs with rfl | rfl
    · exact if_pos rfl
    · exact if_neg (by decide)
  rw [e, depth_half (hS.is sd hs) (hS.ne sd hs)]
  exact bdepth_m w b a r n F M f H reg hM hS hM.ar.le sd hs
end Go.Proofs.YtkcgchpbjegneaaDoor
