/-
  ValueRates: the walk, the plain laws.
-/
import Derived.Test.YtkifiopfapnpnaaDoorVal2
import Derived.Test.YtkifiopfapnpnaaDoorNum3
namespace Go.Proofs.YtkifiopfapnpnaaDoor
open Go.Vm

def plainF (a e : Int) : Int × Int := (if e = 0 then a else 0, e)
theorem plain_told {a e : Int} : plainF a e = toldF a e := by
  unfold plainF toldF
  split <;> simp_all
theorem int_self {a : Int} (h : InI a) : intB a = a ∧ faultB a = 0 := by
  obtain ⟨h1, h2⟩ := h
  unfold intB faultB okB
  rw [if_pos ⟨h1, h2⟩, decide_eq_true h1, decide_eq_true h2]
  exact ⟨rfl, rfl⟩
theorem scale_whole {a e : Int} (h : InI a) : vscaleF a e 1 1 true = plainF a e := by
  unfold vscaleF plainF
  by_cases c : e = 0
  · rw [if_pos c, if_pos c, c]
    by_cases k : a = 0
    · rw [if_pos k, k]
    · rw [if_neg k, if_pos rfl]
      have e1 : applyF a 1 1 = (a, 0) := by
        have e2 : applyF a 1 1 = evenF (a * 1) 1 := rfl
        have e3 : nearZ a 1 = a := by
          unfold nearZ
          rw [if_neg (by omega), Int.ediv_one]
        rw [e2, Int.mul_one]
        unfold evenF
        rw [if_neg (by decide), e3, (int_self h).1, (int_self h).2]
      rw [e1]
      rfl
  · rw [if_neg c, if_neg c]
theorem net_one {a e : Int} (h : InI a) : vnetF [(a, e)] [] = plainF a e := by
  have hn := netF_law (l := [a]) (m := []) (fun n hn => by rw [List.mem_singleton.1 hn]; exact h) (fun n hn => by cases hn) a (by simp) (by have := h.1; have := h.2; omega)
  rw [(int_self h).1, (int_self h).2] at hn
  have e1 : vnetF [(a, e)] [] = if e = 0 then toldF (netF [a] []).1 (netF [a] []).2 else (0, e) := rfl
  rw [e1, hn]
  unfold plainF toldF
  split <;> simp_all
theorem print_len {a e : Int} (h : InI a ∧ InI e) : (vprintF a e).length ≤ 10000 := by
  have h1 := itoa_len h.1
  have h2 := itoa_len h.2
  unfold vprintF
  split
  · omega
  · rw [List.length_append]
    have : errB.length = 6 := rfl
    omega
theorem itoa_head {n : Int} {c : UInt8} (h : (Lib.itoa n).head? = some c) : c = 45 ∨ isDig c = true := by
  unfold Lib.itoa at h
  split at h
  · left
    cases h
    rfl
  · right
    refine dec_all n.toNat c ?_
    exact List.mem_of_mem_head? h
theorem num_back {n a lo hi : Int} {s : By} (ha : 0 ≤ a) (hl : a ≤ s.length) (h : InI n) (hlo : lo ≤ n) (hhi : n ≤ hi) (hs : s.drop a.toNat = Lib.itoa n) : numF s a lo hi = (n, (s.length : Int), 0) := by
  rw [numF_in (by omega), hs]
  have := numR_back (s := []) (a := a) h hlo hhi (fun c hc => by cases hc)
  rw [List.append_nil] at this
  rw [this, ← hs, List.length_drop]
  congr 2
  omega
theorem parse_back {a e : Int} (h : InI a) (h0 : 0 ≤ e) (h1 : e ≤ 99) : vparseF (vprintF a e) = ((plainF a e).1, (plainF a e).2, 0) := by
  have he : InI e := ⟨by omega, by omega⟩
  by_cases c : e = 0
  · have ep : vprintF a e = Lib.itoa a := by unfold vprintF; rw [if_pos c]
    have hp : ¬ Lib.hasPrefix (Lib.itoa a) [101] = true := fun k => by
      rw [head_pre, ← List.head?_eq_getElem?] at k
      rcases itoa_head k with k | k <;> revert k <;> decide
    rw [ep]
    unfold vparseF plainF
    rw [if_neg hp, if_pos c, num_back (by omega) (by omega) h h.1 h.2 rfl]
    unfold restV
    rw [if_pos rfl, if_neg (by dsimp only; omega)]
    rw [c]
    rfl
  · have ep : vprintF a e = errB ++ Lib.itoa e := by unfold vprintF; rw [if_neg c]
    have hp : Lib.hasPrefix (errB ++ Lib.itoa e) [101] = true := by rw [head_pre]; rfl
    have hl : litF (errB ++ Lib.itoa e) 0 errB = (6, 0) := by
      unfold litF
      rw [if_neg (by omega), if_pos ((hasPrefix_iff _ _).2 rfl)]
      rfl
    rw [ep]
    unfold vparseF plainF
    rw [if_pos hp, hl, if_pos rfl, if_neg c]
    have hn := num_back (n := e) (a := 6) (lo := 1) (hi := 99) (s := errB ++ Lib.itoa e) (by omega) (by rw [List.length_append]; have : errB.length = 6 := rfl; omega) he (by omega) h1 rfl
    rw [hn]
    unfold restV
    rw [if_pos rfl, if_neg (by dsimp only; omega)]
    rfl
theorem rest_err {b : Bool} {n : Int} {r : Int × Int × Int} (h : ¬ (restV b n r).2.2 = 0) : (restV b n r).1 = 0 ∧ (restV b n r).2.1 = 0 := by
  unfold restV at h ⊢
  split
  · split
    · exact ⟨rfl, rfl⟩
    · rename_i h1 h2
      rw [if_pos h1, if_neg h2] at h
      cases b <;> exact absurd rfl h
  · exact ⟨rfl, rfl⟩
theorem parse_err {s : By} (h : ¬ (vparseF s).2.2 = 0) : (vparseF s).1 = 0 ∧ (vparseF s).2.1 = 0 := by
  unfold vparseF at h ⊢
  split
  · rename_i h1
    rw [if_pos h1] at h
    split
    · rename_i h2
      rw [if_pos h2] at h
      exact rest_err h
    · exact ⟨rfl, rfl⟩
  · rename_i h1
    rw [if_neg h1] at h
    exact rest_err h
theorem rest_ok {b : Bool} {n : Int} {r : Int × Int × Int} (h : (restV b n r).2.2 = 0) : r.2.2 = 0 ∧ n ≤ r.2.1 ∧ (restV b n r).1 = (if b then 0 else r.1) ∧ (restV b n r).2.1 = (if b then r.1 else 0) := by
  unfold restV at h ⊢
  by_cases h1 : r.2.2 = 0
  · rw [if_pos h1] at h ⊢
    by_cases h2 : r.2.1 < n
    · rw [if_pos h2] at h
      cases h
    · rw [if_neg h2] at h ⊢
      refine ⟨h1, by omega, ?_, ?_⟩ <;> cases b <;> rfl
  · rw [if_neg h1] at h
    exact absurd h h1
theorem pre_split {s p : By} (h : Lib.hasPrefix s p = true) : p ++ s.drop p.length = s := by
  rw [hasPrefix_iff] at h
  have := List.take_append_drop p.length s
  rw [h] at this
  exact this
theorem parse_text {s : By} (h : (vparseF s).2.2 = 0) : (InI (vparseF s).1 ∧ InI (vparseF s).2.1) ∧ vprintF (vparseF s).1 (vparseF s).2.1 = s := by
  have i0 : InI (0 : Int) := ⟨by decide, by decide⟩
  by_cases c : Lib.hasPrefix s [101] = true
  · by_cases k : (litF s 0 errB).2 = 0
    · have e : vparseF s = restV true s.length (numF s (litF s 0 errB).1 1 99) := by unfold vparseF; rw [if_pos c, if_pos k]
      have hq : litF s 0 errB = (6, 0) ∧ Lib.hasPrefix s errB = true := by
        unfold litF at k ⊢
        rw [if_neg (by omega)] at k ⊢
        have ed : s.drop (Int.toNat 0) = s := rfl
        rw [ed] at k ⊢
        by_cases p : Lib.hasPrefix s errB = true
        · rw [if_pos p]
          exact ⟨rfl, p⟩
        · rw [if_neg p] at k
          split at k <;> exact absurd k (by decide)
      rw [hq.1] at e
      change vparseF s = restV true s.length (numF s 6 1 99) at e
      rw [e] at h ⊢
      obtain ⟨r1, r2, r3, r4⟩ := rest_ok h
      obtain ⟨_, q2, q3, q4, q5, _⟩ := numF_zero r1
      rw [r3, r4]
      refine ⟨⟨i0, q4⟩, ?_⟩
      have hn : ¬ (numF s 6 1 99).1 = 0 := by omega
      have hl : (numF s 6 1 99).2.1.toNat = s.length := by omega
      simp only [if_true]
      unfold vprintF
      rw [if_neg hn, q5, hl, List.take_length]
      exact pre_split hq.2
    · have e : vparseF s = (0, 0, (litF s 0 errB).2) := by unfold vparseF; rw [if_pos c, if_neg k]
      rw [e] at h
      exact absurd h k
  · have e : vparseF s = restV false s.length (numF s 0 (-9223372036854775808) 9223372036854775807) := by unfold vparseF; rw [if_neg c]
    rw [e] at h ⊢
    obtain ⟨r1, r2, r3, r4⟩ := rest_ok h
    obtain ⟨_, q2, q3, q4, q5, _⟩ := numF_zero r1
    rw [r3, r4]
    refine ⟨⟨q4, i0⟩, ?_⟩
    have hl : (numF s 0 (-9223372036854775808) 9223372036854775807).2.1.toNat = s.length := by omega
    simp only [Bool.false_eq_true, if_false]
    unfold vprintF
    rw [if_pos rfl, q5, hl, List.take_length]
    rfl
noncomputable def env_rates (a e : Int) (s : By) (n d : Int) : Env where
  P := Tryd.prog
  ty := tys0
  specs := specsOf [sp_awake, sp_vparse, sp_vprint, sp_vscale, sp_vnet]
  frz := fun | 25 => true | 31 => true | 38 => true | _ => false
  joins := fun
    | 6 => some { slots := [], boxes := [(7, [.int .i64, .int .i64])], keep := [3, 5], inv := fun _ (x : Int × Int × Unit) => x.1 = (if e = 0 then a else 0) ∧ x.2.1 = e }
    | _ => none
noncomputable def g_rates (a e : Int) (s : By) (n d : Int) : Prop := vc (env_rates a e s n d) (codeOf Tryd.f5) (start0 Tryd.f5 [.agg [.int .i64 a, .int .i64 e], .str s, .agg [.int .i64 n, .int .i64 d]]) (exitK (tsOf Tryd.f5) [.bool] (true, ()))
def g_rates_vc (a : Int) (e : Int) (s : By) (n : Int) (d : Int) : Prop :=
  (decide ((200 : Int) < (↑(List.length s) : Int)) = true → True ∧ (true, ()) = (true, ())) ∧
  (decide ((200 : Int) < (↑(List.length s) : Int)) = false →
    (((!decide (e = (0 : Int))) = true →
          (some (Obj.box [V.int IntKind.i64 a, V.int IntKind.i64 e]) = some (Obj.box [V.int IntKind.i64 a, V.int IntKind.i64 e]) ∧
              some (Obj.box [V.int IntKind.i64 n, V.int IntKind.i64 d]) = some (Obj.box [V.int IntKind.i64 n, V.int IntKind.i64 d]) ∧ True) ∧
            ((0 : Int) = if e = (0 : Int) then a else (0 : Int)) ∧ e = e) ∧
        ((!decide (e = (0 : Int))) = false →
          (some (Obj.box [V.int IntKind.i64 a, V.int IntKind.i64 e]) = some (Obj.box [V.int IntKind.i64 a, V.int IntKind.i64 e]) ∧
              some (Obj.box [V.int IntKind.i64 n, V.int IntKind.i64 d]) = some (Obj.box [V.int IntKind.i64 n, V.int IntKind.i64 d]) ∧ True) ∧
            (a = if e = (0 : Int) then a else (0 : Int)) ∧ e = e)) ∧
      ∀ (x : Int × Int × Unit),
        (x.fst = if e = (0 : Int) then a else (0 : Int)) ∧ x.snd.fst = e →
          (InI a ∧ InI (1 : Int) ∧ InI (1 : Int)) ∧
            ((!(decide ((vscaleF a e (1 : Int) (1 : Int) true).fst = x.fst) && (decide ((vscaleF a e (1 : Int) (1 : Int) true).snd = x.snd.fst) && true))) = false →
                (InI (0 : Int) ∧ InI n ∧ InI d) ∧
                  ((!(decide ((vscaleF (0 : Int) (0 : Int) n d false).fst = (0 : Int)) && (decide ((vscaleF (0 : Int) (0 : Int) n d false).snd = (0 : Int)) && true))) = false →
                      ((1 : Nat) ≤ (1000000 : Nat) ∧ (0 : Nat) ≤ (1000000 : Nat)) ∧
                        ((!(decide ((vnetF [(a, e)] []).fst = x.fst) && (decide ((vnetF [(a, e)] []).snd = x.snd.fst) && true))) = true → (false, ()) = (true, ())) ∧
                          ((!(decide ((vnetF [(a, e)] []).fst = x.fst) && (decide ((vnetF [(a, e)] []).snd = x.snd.fst) && true))) = false →
                            (InI a ∧ InI e) ∧
                              List.length (vprintF a e) ≤ (10000 : Nat) ∧
                                (decide ((0 : Int) ≤ e) = true →
                                    (decide (e ≤ (99 : Int)) = true →
                                        ((!(decide ((vparseF (vprintF a e)).fst = x.fst) && (decide ((vparseF (vprintF a e)).snd.fst = x.snd.fst) && true))) = false →
                                            ((!decide ((vparseF (vprintF a e)).snd.snd = (0 : Int))) = true → (false, ()) = (true, ())) ∧
                                              ((!decide ((vparseF (vprintF a e)).snd.snd = (0 : Int))) = false →
                                                List.length s ≤ (10000 : Nat) ∧
                                                  ((!decide ((vparseF s).snd.snd = (0 : Int))) = true →
                                                      ((decide ((vparseF s).fst = (0 : Int)) && (decide ((vparseF s).snd.fst = (0 : Int)) && true)) = true → True ∧ (true, ()) = (true, ())) ∧
                                                        ((decide ((vparseF s).fst = (0 : Int)) && (decide ((vparseF s).snd.fst = (0 : Int)) && true)) = !true → (false, ()) = (true, ()))) ∧
                                                    ((!decide ((vparseF s).snd.snd = (0 : Int))) = false →
                                                      (InI (vparseF s).fst ∧ InI (vparseF s).snd.fst) ∧
                                                        (decide (vprintF (vparseF s).fst (vparseF s).snd.fst = s) = true → True ∧ (true, ()) = (true, ())) ∧
                                                          (decide (vprintF (vparseF s).fst (vparseF s).snd.fst = s) = !true → (false, ()) = (true, ()))))) ∧
                                          ((!(decide ((vparseF (vprintF a e)).fst = x.fst) && (decide ((vparseF (vprintF a e)).snd.fst = x.snd.fst) && true))) = !false → (false, ()) = (true, ()))) ∧
                                      (decide (e ≤ (99 : Int)) = !true →
                                        List.length s ≤ (10000 : Nat) ∧
                                          ((!decide ((vparseF s).snd.snd = (0 : Int))) = true →
                                              ((decide ((vparseF s).fst = (0 : Int)) && (decide ((vparseF s).snd.fst = (0 : Int)) && true)) = true → True ∧ (true, ()) = (true, ())) ∧
                                                ((decide ((vparseF s).fst = (0 : Int)) && (decide ((vparseF s).snd.fst = (0 : Int)) && true)) = !true → (false, ()) = (true, ()))) ∧
                                            ((!decide ((vparseF s).snd.snd = (0 : Int))) = false →
                                              (InI (vparseF s).fst ∧ InI (vparseF s).snd.fst) ∧
                                                (decide (vprintF (vparseF s).fst (vparseF s).snd.fst = s) = true → True ∧ (true, ()) = (true, ())) ∧
                                                  (decide (vprintF (vparseF s).fst (vparseF s).snd.fst = s) = !true → (false, ()) = (true, ()))))) ∧
                                  (decide ((0 : Int) ≤ e) = !true →
                                    List.length s ≤ (10000 : Nat) ∧
                                      ((!decide ((vparseF s).snd.snd = (0 : Int))) = true →
                                          ((decide ((vparseF s).fst = (0 : Int)) && (decide ((vparseF s).snd.fst = (0 : Int)) && true)) = true → True ∧ (true, ()) = (true, ())) ∧
                                            ((decide ((vparseF s).fst = (0 : Int)) && (decide ((vparseF s).snd.fst = (0 : Int)) && true)) = !true → (false, ()) = (true, ()))) ∧
                                        ((!decide ((vparseF s).snd.snd = (0 : Int))) = false →
                                          (InI (vparseF s).fst ∧ InI (vparseF s).snd.fst) ∧
                                            (decide (vprintF (vparseF s).fst (vparseF s).snd.fst = s) = true → True ∧ (true, ()) = (true, ())) ∧
                                              (decide (vprintF (vparseF s).fst (vparseF s).snd.fst = s) = !true → (false, ()) = (true, ())))))) ∧
                    ((!(decide ((vscaleF (0 : Int) (0 : Int) n d false).fst = (0 : Int)) && (decide ((vscaleF (0 : Int) (0 : Int) n d false).snd = (0 : Int)) && true))) = !false →
                      (false, ()) = (true, ()))) ∧
              ((!(decide ((vscaleF a e (1 : Int) (1 : Int) true).fst = x.fst) && (decide ((vscaleF a e (1 : Int) (1 : Int) true).snd = x.snd.fst) && true))) = !false → (false, ()) = (true, ())))

theorem g_rates_eq (a e : Int) (s : By) (n d : Int) : g_rates a e s n d = g_rates_vc a e s n d := by kernel_rfl
theorem g_rates_ok (a e : Int) (s : By) (n d : Int) (h : InI a ∧ InI e ∧ InI n ∧ InI d) : g_rates_vc a e s n d := by
  obtain ⟨ha, he, hn, hd⟩ := h
  have i1 : InI (1 : Int) := ⟨by decide, by decide⟩
  have i0 : InI (0 : Int) := ⟨by decide, by decide⟩
  unfold g_rates_vc
  simp only [decide_eq_true_eq, decide_eq_false_iff_not, Bool.not_eq_true', Bool.not_eq_false', Bool.not_true, Bool.not_false, Bool.and_true, Bool.and_eq_true, Bool.and_eq_false_iff]
  refine ⟨fun _ => ⟨trivial, trivial⟩, fun c => ⟨⟨fun k => ⟨⟨trivial, trivial, trivial⟩, by rw [if_neg k], trivial⟩, fun k => ⟨⟨trivial, trivial, trivial⟩, by rw [if_pos k], trivial⟩⟩, ?_⟩⟩
  rintro ⟨u, v, ⟨⟩⟩ ⟨hu, hv⟩
  dsimp only at hu hv
  have hpl : plainF a e = (u, v) := by unfold plainF; rw [hu, hv]
  rw [scale_whole ha, net_one ha, hpl, show vscaleF 0 0 n d false = (0, 0) from rfl]
  have tail : (¬ (vparseF s).2.2 = 0 → ((vparseF s).1 = 0 ∧ (vparseF s).2.1 = 0) ) := parse_err
  have tail2 : ((vparseF s).2.2 = 0 → (InI (vparseF s).1 ∧ InI (vparseF s).2.1) ∧ vprintF (vparseF s).1 (vparseF s).2.1 = s) := parse_text
  have back : 0 ≤ e → e ≤ 99 → vparseF (vprintF a e) = (u, v, 0) := fun h0 h1 => by rw [parse_back ha h0 h1, hpl]
  generalize vparseF s = q at tail tail2 ⊢
  have fin : (¬ q.2.2 = 0 → (q.1 = 0 ∧ q.2.1 = 0 → True ∧ True) ∧ (¬ q.1 = 0 ∨ ¬ q.2.1 = 0 → (false, ()) = (true, ()))) ∧
      (q.2.2 = 0 → (InI q.1 ∧ InI q.2.1) ∧ (vprintF q.1 q.2.1 = s → True ∧ True) ∧ (¬ vprintF q.1 q.2.1 = s → (false, ()) = (true, ()))) := by
    refine ⟨fun k => ⟨fun _ => ⟨trivial, trivial⟩, fun m => ?_⟩, fun k => ⟨(tail2 k).1, fun _ => ⟨trivial, trivial⟩, fun m => absurd (tail2 k).2 m⟩⟩
    obtain ⟨t1, t2⟩ := tail k
    rcases m with m | m
    · exact absurd t1 m
    · exact absurd t2 m
  have hle : s.length ≤ 10000 := by omega
  refine ⟨⟨ha, i1, i1⟩, fun _ => ⟨⟨i0, hn, hd⟩, fun _ => ⟨⟨by omega, by omega⟩, fun m => ?_, fun _ => ⟨⟨ha, he⟩, print_len ⟨ha, he⟩, fun h0 => ⟨fun h1 => ?_, fun _ => ⟨hle, fin⟩⟩, fun _ => ⟨hle, fin⟩⟩⟩, fun m => ?_⟩, fun m => ?_⟩
  · rcases m with m | m <;> exact absurd rfl m
  · rw [back h0 h1]
    exact ⟨fun _ => ⟨fun m => absurd rfl m, fun _ => ⟨hle, fin⟩⟩, fun m => by rcases m with m | m <;> exact absurd rfl m⟩
  · rcases m with m | m <;> exact absurd rfl m
  · rcases m with m | m <;> exact absurd rfl m
set_option maxRecDepth 20000 in
theorem rates_pure (a e : Int) (s : By) (n d : Int) (h : InI a ∧ InI e ∧ InI n ∧ InI d) : Pure Tryd.prog 5 [.agg [.int .i64 a, .int .i64 e], .str s, .agg [.int .i64 n, .int .i64 d]] (.bool true) :=
  Pure.of_g (E := env_rates a e s n d) (ts := tsOf Tryd.f5) (ps := [.bool]) (r := (true, ())) (fn := Tryd.f5) (c := codeOf Tryd.f5) (specs_ok (P := Tryd.prog) rfl [sp_awake, sp_vparse, sp_vprint, sp_vscale, sp_vnet] [] rfl rfl) mixed Tryd.func5 rfl rfl (g := g_rates a e s n d) (by delta g_rates start0; first | with_reducible exact Eq.refl _ | exact Eq.refl _) (by rw [g_rates_eq a e s n d]; exact g_rates_ok a e s n d h)
def q_rates (a e : Int) (s : By) (n d : Int) : Prop × V := (InI a ∧ InI e ∧ InI n ∧ InI d, (.bool true))
noncomputable def sp_rates : FSpec Tryd.prog where
  f := 5
  run := fun args => match args with
    | [.agg [.int .i64 a, .int .i64 e], .str s, .agg [.int .i64 n, .int .i64 d]] => some (q_rates a e s n d)
    | _ => none
  ok := fun args pre r h hp => by
    try dsimp only at h
    split at h
    · rename_i a e s n d
      have h := Option.some.inj h
      unfold q_rates at h
      cases h
      exact (rates_pure a e s n d hp).weak (.cons (Weak.refl _) (.cons (Weak.refl _) (.cons (Weak.refl _) .nil)))
    · cases h

end Go.Proofs.YtkifiopfapnpnaaDoor
