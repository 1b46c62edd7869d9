/- Contracts by hand: deriv.steps. -/
import Derived.StillTailTactics
import Derived.BigRegion
import Derived.Deep.RegionHeld3
import Derived.Test.YtmoiickbgokloaaKMp
namespace Go.Proofs.Ytmoiickbgokloaa.PA
open Go.RowKit Go.Proofs.YtmoiickbgokloaaW.PrintWords Go.Proofs.YtmoiickbgokloaaW.PrintLast Go.Proofs.YtmoiickbgokloaaW.PrintMore Go.Proofs.Ytmoiickbgokloaa.Utv
set_option linter.unusedVariables false
set_option linter.unusedSimpArgs false
theorem info166 : (Try.prog.info? 166).map (fun i => (i.zero, i.size, i.bytes)) = some (some (.agg #[(.int .i64 0), (.int .i64 0), (.int .i64 0)]), 3, 24) := by kernel_rfl
section
variable {P : Program} {ops : Array Oper} {Q : Exit → Act → World → Prop}
/-- A call of a function value that holds what it has captured. -/
theorem goesC_ {oi : Oper} {N : Option Tmp} {a : Act} {w : World} {K : Act → World → Prop} {f : FuncId} {fn : Func} {aas : Array Operand} {tys : Array TypeId} {tm : Tmp} {cap : Array Value} (hf : P.funcs[f]? = some fn) (hname : (fn.name == "runtime.NumGoroutine") = false) (hb : fn.body.isSome = true) (args all : Array Value)
 (hw : Region.wanted oi (yielded ops a.tmps) = true) (hN : oi.dst = N) (hop : oi.op = .call { callee := .value (.tmp tm), args := aas, argTypes := tys }) (hfun : a.eval (.tmp tm) = .func (.func f) #[] cap) (hargs : aas.map a.eval = args) (hall : args ++ cap = all)
 (h : Calls P f all w fun e w' => ∃ v, e = .returned v ∧ K (a.put N v) w') : if Region.wanted oi (yielded ops a.tmps) = true then Oper.wp P oi a w K Q else K (a.put N undef) w := by
 refine call_ f all hw hN ?_ h
 have he := enters_ hf hname hb all w
 unfold execOp
 simp [hop, resolve, Deferred.ofValue, invoke, hfun, hargs, hall, he]
end
theorem posIn_last {g : Nat} : ∀ {ks : List Nat}, g ∉ ks → posIn g (ks ++ [g]) = some ks.length
 | [], _ => by simp [posIn]
 | k :: ks, h => by
  have h1 : g ≠ k := fun e => h (by simp [e])
  have h2 : g ∉ ks := fun e => h (by simp [e])
  show (if g = k then some 0 else (posIn g (ks ++ [g])).map (· + 1)) = _
  rw [if_neg h1, posIn_last h2]; rfl
/-- What adding a derivation does. -/
def AddPost (w0 W : World) (a1 a2 a3 r : Nat) (ks : List Nat) (ts : List Tree) (v : Value) (t : Tree) (g : Nat) (e : Ending) (W' : World) : Prop :=
 ∃ (x : List Nat) (y : List Tree) (out' : List S166) (v' : Value) (q : Nat), e = .returned (.int .i64 (q : Nat)) ∧ Aside0 (AddSt w0 W' a1 a2 a3 r (ks ++ x) (ts ++ y) out' v') ∧
  Aside0 ((ks ++ x)[q]? = some g ∧ (ts ++ y)[q]? = some t ∧ (∀ u, u ∈ y → Sub u t) ∧ y.length ≤ tsz t ∧ (g ∉ ks → q + 1 = (ks ++ x).length)) ∧ Aside0 (Frame W W' a3 r v) ∧ Aside0 (v'.ownBlock = v.ownBlock ∨ ∃ b, v'.ownBlock = some b ∧ W.heap.size ≤ b)
set_option maxRecDepth 100000 in
set_option maxHeartbeats 1000000 in
theorem add_old (w0 W : World) (a1 a2 a3 r : Nat) (ks : List Nat) (ts : List Tree) (out : List S166) (v : Value) (t : Tree) (g q : Nat) (h : AddSt w0 W a1 a2 a3 r ks ts out v) (hd : Drv W t g) (hq : posIn g ks = some q) :
 Calls Try.prog 110 #[.pointer (some ⟨g, 0, none⟩), .pointer (some ⟨a1, 0, none⟩), .pointer (some ⟨a2, 0, none⟩), .pointer (some ⟨a3, 0, none⟩)] W (AddPost w0 W a1 a2 a3 r ks ts v t g) := by
 have c1 : W.cell? ⟨a1, 0, none⟩ = some (.map (some r)) := (cell_of h.m1 0).trans rfl
 have hl := lookup_old W r g q ks h.mm hd.isDrv h.isDrv hq true
 rw [if_pos rfl] at hl
 have hk := posIn_some hq
 have hkt := h.kt
 have hql : q < ts.length := by rw [← hkt]; exact (List.getElem?_eq_some_iff.1 hk).1
 have ht := h.dr q g _ hk (List.getElem?_eq_getElem hql)
 have hte := Drv.det ht hd
 have H := Aside0.mk h
 have HK : Aside0 (ks[q]? = some g ∧ ts[q]? = some t) := ⟨hk, by rw [List.getElem?_eq_getElem hql, hte]⟩
 clear h hk ht hte hkt
 go_enter Try.func110, Try.ntmps110
 go_wp2_with fail
 go_ret
 exact ⟨[], [], out, v, q, rfl, ⟨by simpa using H.out⟩, ⟨by simpa using HK.out.1, by simpa using HK.out.2, fun u hu => by simp at hu, by simp, fun h => (h (List.mem_of_getElem? HK.out.1)).elim⟩, ⟨Frame.refl _ _ _ _⟩, ⟨.inl rfl⟩⟩
set_option maxRecDepth 100000 in
set_option maxHeartbeats 4000000 in
theorem add_line (w0 : World) (a1 a2 a3 r : Nat) (i : Nat) (W : World) (ks : List Nat) (ts : List Tree) (out : List S166) (v : Value) (g : Nat) (h : AddSt w0 W a1 a2 a3 r ks ts out v) (hd : Drv W (.line i) g) (hsz : ts.length + tsz (.line i) ≤ 1000) (hn : g ∉ ks) :
 Calls Try.prog 110 #[.pointer (some ⟨g, 0, none⟩), .pointer (some ⟨a1, 0, none⟩), .pointer (some ⟨a2, 0, none⟩), .pointer (some ⟨a3, 0, none⟩)] W (AddPost w0 W a1 a2 a3 r ks ts v (.line i) g) := by
 have hu164 := Try.underlying164
 have hu166 := Try.underlying166
 have hu162 := Try.underlying162
 have c1 : W.cell? ⟨a1, 0, none⟩ = some (.map (some r)) := (cell_of h.m1 0).trans rfl
 have hl := lookup_new W r g ks h.mm hd.isDrv h.isDrv hn
 have H := Aside0.mk h
 have HD := Aside0.mk hd
 have HN := Aside0.mk hn
 have hb : W.heap[g]? = some (.cells #[.int .i64 1, .int .i64 (i : Nat), .pointer none, .pointer none] 164 (0, 0)) := hd
 have d0 : W.cell? ⟨g, 0, none⟩ = some (.int .i64 1) := (cell_of hb 0).trans rfl
 have d1 : W.cell? ⟨g, 1, none⟩ = some (.int .i64 (i : Nat)) := (cell_of hb 1).trans rfl
 have HBK := Aside0.mk hb
 clear h hd hn hb
 go_enter Try.func110, Try.ntmps110
 go_upto_region 4 with (fail)
 go_cut [8] (fun v8 wc => ∃ s8 : Nat, v8 = .pointer (some ⟨s8, 0, none⟩) ∧ Aside0 (wc.heap[s8]? = some (.cells #[.int .i64 1, .int .i64 (i : Nat), .int .i64 0] 166 (0, 0))) ∧ Aside0 (Below W.heap.size W wc) ∧ Aside0 (W.heap.size ≤ s8))
 case first =>
  go_region_held3 (fun w' => w'.cell? ⟨g, 0, none⟩ = some (.int .i64 1) ∧ w'.cell? ⟨g, 1, none⟩ = some (.int .i64 (i : Nat))) (go_keep) (fail)
  all_goals (go_wp2_with fail; go_meet)
  all_goals exact ⟨W.heap.size, rfl, ⟨blk_drew (heap1_0 _ _)⟩, ⟨((Below.refl _ W).alloc (Nat.le_refl _) _).drew⟩, ⟨Nat.le_refl _⟩⟩
 case rest =>
 obtain ⟨s8, rfl, HS, HBC, HSZ⟩ := hcut
 have H1 : Aside0 (AddSt w0 wc a1 a2 a3 r ks ts out v) := ⟨H.out.below HBC.out⟩
 have HD1 := Aside0.mk (HD.out.stays (Stays.below HBC.out rfl))
 have hb1 := blk_below HBK.out HBC.out
 have HB1 := Aside0.mk hb1
 have e0 : wc.cell? ⟨g, 0, none⟩ = some (.int .i64 1) := (cell_of hb1 0).trans rfl
 clear c1 hl d0 d1 hb1 HD HBK
 obtain ⟨A, c9, rfl, hl9, _⟩ := Kd.R_reads H1.out.ro
 have HT := H1
 have hlen : out.length ≤ 1000 := by have := H1.out.pf.1; have : tsz (.line i) = 1 := rfl; omega
 have HSW := HS
 have HDW := HD1
 have HNW := HN
 have c3 : wc.cell? ⟨a3, 0, none⟩ = some (.slice A out.length c9) := (cell_of HT.out.m3 0).trans rfl
 have HX3 : Aside0 (∀ w55, wc.grownBy w55 (Value.slice A out.length c9).ownBlock → w55.heap[a3]? = some (.cells #[.slice A out.length c9] 63 (0, 0))) := ⟨fun w55 hg => (hg.block a3 (blk_lt HT.out.m3) (fun e => by obtain ⟨cells, hc⟩ := HT.out.row a3 e.symm; have := hc.symm.trans HT.out.m3; simp at this)).trans HT.out.m3⟩
 obtain ⟨sp, hsp⟩ : ∃ sp : S166, sp = ⟨1, (i : Nat), 0⟩ := ⟨_, rfl⟩
 have HSP := Aside0.mk hsp
 have hsw : wc.heap[s8]? = some (.cells #[.int .i64 sp.f0, .int .i64 sp.f1, .int .i64 sp.f2] 166 (0, 0)) := by rw [hsp]; exact HSW.out
 have z0 : wc.cell? ⟨s8, 0, none⟩ = some (.int .i64 sp.f0) := (cell_of hsw 0).trans rfl
 have z1 : wc.cell? ⟨s8, 1, none⟩ = some (.int .i64 sp.f1) := (cell_of hsw 1).trans rfl
 have z2 : wc.cell? ⟨s8, 2, none⟩ = some (.int .i64 sp.f2) := (cell_of hsw 2).trans rfl
 clear hsp hsw
 go_upto_region 10 with ((with_reducible refine gate_builtin (b := .append) (xs := #[.tmp 52, .tmp 54]) rfl ?_); at_builtin; refine Kd.R_append k166 (w0 := w0) w0.heap.size rfl (.tmp 52) (.tmp 54) 63 166 (.agg #[(.int .i64 0), (.int .i64 0), (.int .i64 0)]) 24 rfl Try.underlying63 info166 rfl (by decide) (by omega) (.slice A out.length c9) out sp [.int .i64 sp.f0, .int .i64 sp.f1, .int .i64 sp.f2] (fun _ => True) (fun _ => False) rfl rfl ?aP (fun _ hk => hk.elim) ?aF ?aO ?aB ?aS ?aL ?_; (case aP => exact k166_mkM _ _ _ sp); (case aB => exact HT.out.bl); (case aF => exact (fun _ _ => trivial)); (case aO => exact HT.out.ro); (case aS => exact below_size HT.out.bl); (case aL => omega); intro v55 w55 ho hb hg hat; obtain ⟨A55, c55, rfl, hl55, _⟩ := Kd.R_reads ho; have HO5 := Aside0.mk ho; have HB5 := Aside0.mk hb; have HG5 := Aside0.mk hg; have HA5 := Aside0.mk hat; have hx3 := HX3.out w55 hg; have y3 : w55.cell? ⟨a3, 0, none⟩ = some (.slice A out.length c9) := (cell_of hx3 0).trans rfl; have y4 : w55.frozen? ⟨a3, 0, none⟩ = false := blk_frozen hx3 0; have HY3 := Aside0.mk hx3; clear ho hb hg hat hl55 hx3)
 have HV5 : Aside0 ((Value.slice A55 (out.length + 1) c55).ownBlock = (Value.slice A out.length c9).ownBlock ∨ ∃ b, (Value.slice A55 (out.length + 1) c55).ownBlock = some b ∧ wc.heap.size ≤ b) := ⟨by have := HA5.out; rwa [List.length_append] at this⟩
 have hro5 : Kd.R k166 166 w55 w0.heap.size (fun _ => True) (.slice A55 (out.length + 1) c55) (out ++ [sp]) := by have := HO5.out; rwa [List.length_append] at this
 obtain ⟨hmm, hfr, hx1, hx3⟩ := HT.out.mid (.slice A55 (out.length + 1) c55) HG5.out
 have hst := HT.out.stays hfr
 obtain ⟨W11, hrun, hmap, hgr, hszz⟩ := update_new _ r g ks hmm (HDW.out.stays hst).isDrv (fun g' hg' => by obtain ⟨C, hC⟩ := HT.out.isDrv g' hg'; exact ⟨C, hst g' C hC⟩) HNW.out
 obtain ⟨hpush, hfr2⟩ := HT.out.push HDW.out (s := sp) (by rw [HSP.out]; rfl) hro5 HB5.out HG5.out HV5.out hmap hgr
 have HPU := Aside0.mk hpush
 have HFR := Aside0.mk hfr2
 have hkl : (ks.length : Int) = (out.length : Int) := by have h1 := HT.out.kt; have h2 := HT.out.pf.1; omega
 rw [hkl] at hrun
 have hl2 := lookup_old W11 r g ks.length (ks ++ [g]) hpush.mm ((HDW.out.stays (HT.out.stays hfr2)).isDrv) hpush.isDrv (posIn_last HNW.out) false
 rw [if_neg (by simp), hkl] at hl2
 have u1 : W11.cell? ⟨a1, 0, none⟩ = some (.map (some r)) := (cell_of hpush.m1 0).trans rfl
 obtain ⟨W10, hW10⟩ : ∃ W10, W10 = w55.setCell ⟨a3, 0, none⟩ (.slice A55 (out.length + 1) c55) := ⟨_, rfl⟩
 rw [← hW10] at hrun hx1 hx3 ⊢
 have k1 : W10.cell? ⟨a1, 0, none⟩ = some (.map (some r)) := (cell_of hx1 0).trans rfl
 have k3 : W10.cell? ⟨a3, 0, none⟩ = some (.slice A55 (out.length + 1) c55) := (cell_of hx3 0).trans rfl
 have HKL := Aside0.mk hkl
 clear hmm hfr hx1 hx3 hst hmap hgr hszz hpush hfr2 hW10 hro5 HA5 HO5 HB5 HG5 HX3 c3 z0 z1 z2 y3 y4 HY3 hkl
 go_wp2_with fail
 go_ret
 refine ⟨[g], [.line i], out ++ [sp], _, ks.length, by rw [HKL.out]; rfl, HPU, ⟨by simp, by rw [HT.out.kt]; simp, fun u hu => by simp at hu; subst hu; exact Sub.refl _, Nat.le_refl _, fun _ => by simp⟩, ⟨(Frame.below a3 r _ HBC.out).trans HFR.out (.inl rfl)⟩, ⟨?_⟩⟩
 rcases HV5.out with h | ⟨b, h, hb⟩
 · exact .inl h
 · exact .inr ⟨b, h, by have := HBC.out.size; omega⟩
set_option maxRecDepth 100000 in
set_option maxHeartbeats 4000000 in
theorem add_half (w0 : World) (a1 a2 a3 r : Nat) (t : Tree) (ih0 : ∀ (W : World) (g : Nat) (ks : List Nat) (ts : List Tree) (out : List S166) (v : Value), AddSt w0 W a1 a2 a3 r ks ts out v → Drv W t g → ts.length + tsz t ≤ 1000 → Calls Try.prog 110 #[.pointer (some ⟨g, 0, none⟩), .pointer (some ⟨a1, 0, none⟩), .pointer (some ⟨a2, 0, none⟩), .pointer (some ⟨a3, 0, none⟩)] W (AddPost w0 W a1 a2 a3 r ks ts v t g)) (W : World) (ks : List Nat) (ts : List Tree) (out : List S166) (v : Value) (g : Nat) (h : AddSt w0 W a1 a2 a3 r ks ts out v) (hd : Drv W (.half t) g) (hsz : ts.length + tsz (.half t) ≤ 1000) (hn : g ∉ ks) :
 Calls Try.prog 110 #[.pointer (some ⟨g, 0, none⟩), .pointer (some ⟨a1, 0, none⟩), .pointer (some ⟨a2, 0, none⟩), .pointer (some ⟨a3, 0, none⟩)] W (AddPost w0 W a1 a2 a3 r ks ts v (.half t) g) := by
 have hu164 := Try.underlying164
 have hu166 := Try.underlying166
 have hu162 := Try.underlying162
 have c1 : W.cell? ⟨a1, 0, none⟩ = some (.map (some r)) := (cell_of h.m1 0).trans rfl
 have hl := lookup_new W r g ks h.mm hd.isDrv h.isDrv hn
 have H := Aside0.mk h
 have HD := Aside0.mk hd
 have HN := Aside0.mk hn
 obtain ⟨b, hb, hdb⟩ := id hd
 have d0 : W.cell? ⟨g, 0, none⟩ = some (.int .i64 3) := (cell_of hb 0).trans rfl
 have d1 : W.cell? ⟨g, 1, none⟩ = some (.int .i64 0) := (cell_of hb 1).trans rfl
 have HBK := Aside0.mk hb
 clear h hd hn hb
 go_enter Try.func110, Try.ntmps110
 go_upto_region 4 with (fail)
 go_cut [8] (fun v8 wc => ∃ s8 : Nat, v8 = .pointer (some ⟨s8, 0, none⟩) ∧ Aside0 (wc.heap[s8]? = some (.cells #[.int .i64 3, .int .i64 0, .int .i64 0] 166 (0, 0))) ∧ Aside0 (Below W.heap.size W wc) ∧ Aside0 (W.heap.size ≤ s8))
 case first =>
  go_region_held3 (fun w' => w'.cell? ⟨g, 0, none⟩ = some (.int .i64 3) ∧ w'.cell? ⟨g, 1, none⟩ = some (.int .i64 0)) (go_keep) (fail)
  all_goals (go_wp2_with fail; go_meet)
  all_goals exact ⟨W.heap.size, rfl, ⟨blk_drew (heap1_0 _ _)⟩, ⟨((Below.refl _ W).alloc (Nat.le_refl _) _).drew⟩, ⟨Nat.le_refl _⟩⟩
 case rest =>
 obtain ⟨s8, rfl, HS, HBC, HSZ⟩ := hcut
 have H1 : Aside0 (AddSt w0 wc a1 a2 a3 r ks ts out v) := ⟨H.out.below HBC.out⟩
 have HD1 := Aside0.mk (HD.out.stays (Stays.below HBC.out rfl))
 have hb1 := blk_below HBK.out HBC.out
 have HB1 := Aside0.mk hb1
 have e0 : wc.cell? ⟨g, 0, none⟩ = some (.int .i64 3) := (cell_of hb1 0).trans rfl
 clear c1 hl d0 d1 hb1 HD HBK
 obtain ⟨b, hb, hdb⟩ := id HD1.out
 have HDB := Aside0.mk hdb
 have HBG := Aside0.mk hb
 have HS8 := HS
 have hwz := HBC.out.size
 have HNE : Aside0 (some s8 ≠ v.ownBlock) := ⟨fun e => by have := Kd.R_lt H.out.ro s8 e.symm; have := HSZ.out; omega⟩
 have c2 : wc.cell? ⟨a2, 0, none⟩ = some (.func (.func 110) #[] #[.pointer (some ⟨a1, 0, none⟩), .pointer (some ⟨a2, 0, none⟩), .pointer (some ⟨a3, 0, none⟩)]) := (cell_of H1.out.m2 0).trans rfl
 have e2 : wc.cell? ⟨g, 2, none⟩ = some (.pointer (some ⟨b, 0, none⟩)) := (cell_of hb 2).trans rfl
 clear hb hdb
 go_upto_region 6 with (fail)
 refine start_ (n := 9) (S := fun w' => w'.cell? ⟨a2, 0, none⟩ = some (.func (.func 110) #[] #[.pointer (some ⟨a1, 0, none⟩), .pointer (some ⟨a2, 0, none⟩), .pointer (some ⟨a3, 0, none⟩)]) ∧ w'.cell? ⟨g, 2, none⟩ = some (.pointer (some ⟨b, 0, none⟩))) (ds := [8]) #[ff,ff,ff,ff,ff,ff,ff,ff,ff] (by kernel_rfl) rfl rfl ⟨c2, e2⟩ (fun hHeld => ?_)
 refine pure_ (i := 1) (N := some 32) (v := ?_) (a' := ?_) #[ff,tt,ff,ff,ff,ff,ff,ff,ff] rfl rfl (by kernel_rfl) (fun _ _ _ h => h) (Or.inl ⟨by rfl, ?_⟩) ?_ ?_
 rotate_left
 · intro w'
   go_simp
   with_reducible rfl
 rotate_left
 · simp only [Act.put, List.setIfInBounds_toArray, List.set_cons_zero, List.set_cons_succ, i64_w, i32_w]
   rfl
 refine pure_ (i := 2) (N := some 33) (v := ?_) (a' := ?_) #[ff,tt,tt,ff,ff,ff,ff,ff,ff] rfl rfl (by kernel_rfl) (fun _ _ _ h => h) (Or.inl ⟨by rfl, ?_⟩) ?_ ?_
 rotate_left
 · intro w'
   go_simp
   with_reducible rfl
 rotate_left
 · simp only [Act.put, List.setIfInBounds_toArray, List.set_cons_zero, List.set_cons_succ, i64_w, i32_w]
   rfl
 refine pure_ (i := 3) (N := some 34) (v := ?_) (a' := ?_) #[ff,tt,tt,tt,ff,ff,ff,ff,ff] rfl rfl (by kernel_rfl) (fun _ _ _ h => h) (Or.inl ⟨by rfl, ?_⟩) ?_ ?_
 rotate_left
 · intro w'
   go_simp
   with_reducible rfl
 rotate_left
 · simp only [Act.put, List.setIfInBounds_toArray, List.set_cons_zero, List.set_cons_succ, i64_w, i32_w]
   rfl
 refine pure_ (i := 4) (N := some 35) (v := ?_) (a' := ?_) #[ff,tt,tt,tt,tt,ff,ff,ff,ff] rfl rfl (by kernel_rfl) (fun _ _ _ h => h) (Or.inl ⟨by rfl, ?_⟩) ?_ ?_
 rotate_left
 · intro w'
   go_simp
   with_reducible rfl
 rotate_left
 · simp only [Act.put, List.setIfInBounds_toArray, List.set_cons_zero, List.set_cons_succ, i64_w, i32_w]
   rfl
 refine take_ (i := 0) (N := some 31) (v := ?_) (a' := ?_) #[tt,tt,tt,tt,tt,ff,ff,ff,ff] rfl rfl (by kernel_rfl) (fun _ _ _ h => h) (Or.inl ⟨by rfl, ?_⟩) hHeld ?_ ?_
 rotate_left
 · rintro w' ⟨s0, s1⟩
   go_simp
   with_reducible rfl
 rotate_left
 · simp only [Act.put, List.setIfInBounds_toArray, List.set_cons_zero, List.set_cons_succ, i64_w, i32_w]
   rfl
 refine take_ (i := 5) (N := some 36) (v := ?_) (a' := ?_) #[tt,tt,tt,tt,tt,tt,ff,ff,ff] rfl rfl (by kernel_rfl) (fun _ _ _ h => h) (Or.inl ⟨by rfl, ?_⟩) hHeld ?_ ?_
 rotate_left
 · rintro w' ⟨s0, s1⟩
   go_simp
   with_reducible rfl
 rotate_left
 · simp only [Act.put, List.setIfInBounds_toArray, List.set_cons_zero, List.set_cons_succ, i64_w, i32_w]
   rfl
 refine one_ (i := 6) (N := some 37) #[tt,tt,tt,tt,tt,tt,tt,ff,ff] rfl rfl (by kernel_rfl) (by decide) (fun K hK => ?_)
 refine goesC_ (tm := 31) Try.func110 (by kernel_rfl) rfl #[.pointer (some ⟨b, 0, none⟩)] #[.pointer (some ⟨b, 0, none⟩), .pointer (some ⟨a1, 0, none⟩), .pointer (some ⟨a2, 0, none⟩), .pointer (some ⟨a3, 0, none⟩)] (by rfl) rfl rfl (by rfl) (by simp only [List.map_toArray, List.map_cons, List.map_nil]; rfl) (by rfl) ?_
 with_reducible refine (ih0 wc.drew b ks ts out v (H1.out.below (Below.refl _ _).drew) (HDB.out.stays (Stays.drew _)) (by have : tsz (.half t) = 1 + tsz t := rfl; omega)).mono ?_
 rintro e W2 ⟨x, y, out1, v1, q, rfl, HST, HQ, HFR, HOW⟩
 refine ⟨_, rfl, ?_⟩
 have hfr2 : Frame wc W2 a3 r v := HFR.out
 have hst2 := H1.out.stays hfr2
 have hs2 := H1.out.keep hfr2 HS8.out HNE.out
 have z8 : W2.cell? ⟨s8, 1, none⟩ = some (.int .i64 0) := (cell_of hs2 1).trans rfl
 have zf : W2.frozen? ⟨s8, 1, none⟩ = false := blk_frozen hs2 1
 have HS9 := Aside0.mk hs2
 have HT9 := Aside0.mk hst2
 have HF9 := Aside0.mk hfr2
 clear hs2
 refine hK.out _ _ ⟨((cell_of HST.out.m2 0).trans rfl), ((cell_of (hst2 g _ HBG.out) 2).trans rfl)⟩ (fun hHeld => ?_)
 clear hK K
 refine norm_ (a' := ?_) ?_ ?_
 rotate_left
 · show Act.put _ (some 37) _ = _
   simp only [Act.put, List.setIfInBounds_toArray, List.set_cons_zero, List.set_cons_succ, i64_w, i32_w]
   rfl
 refine pure_ (i := 7) (N := some 38) (v := ?_) (a' := ?_) #[tt,tt,tt,tt,tt,tt,tt,tt,ff] rfl rfl (by kernel_rfl) (fun _ _ _ h => h) (Or.inl ⟨by rfl, ?_⟩) ?_ ?_
 rotate_left
 · intro w'
   go_simp
   with_reducible rfl
 rotate_left
 · simp only [Act.put, List.setIfInBounds_toArray, List.set_cons_zero, List.set_cons_succ, i64_w, i32_w]
   rfl
 refine last_ (i := 8) (N := none) #[tt,tt,tt,tt,tt,tt,tt,tt,tt] rfl rfl (by kernel_rfl) (by decide) (fun K hK => ?_)
 refine skip_ (w1 := ?_) (by rfl) rfl ?_ ?_
 rotate_left
 · go_simp
   rfl
 refine hK.out _ _ ?_
 clear hK K
 refine done_ (by kernel_rfl) ?_
 clear c2 e2 e0
 have hb0w : w0.heap.size ≤ s8 := by have := below_size H.out.bl; have := HSZ.out; omega
 have hown : some s8 ≠ v1.ownBlock := fun e => by
  rcases HOW.out with h | ⟨b', h, hb'⟩
  · exact HNE.out (e.trans h)
  · rw [h] at e
    simp at e
    have := blk_lt HS8.out
    have h3 : wc.drew.heap.size = wc.heap.size := rfl
    omega
 obtain ⟨h3, hst3⟩ := HST.out.local HS9.out hown hb0w 1 (.int .i64 (q : Nat))
 have hs3 := blk_set HS9.out 1 (.int .i64 (q : Nat))
 have hfr3 : Frame W (W2.setCell ⟨s8, 1, none⟩ (.int .i64 (q : Nat))) a3 r v := ((Frame.below a3 r v HBC.out).trans HF9.out (.inl rfl)).local HSZ.out 1 _
 have hd3 := (HD1.out.stays HT9.out).stays hst3
 have hb3 := hst3 g _ (HT9.out g _ HBG.out)
 generalize (W2.setCell ⟨s8, 1, none⟩ (.int .i64 (q : Nat))) = W3 at *
 have HSW : Aside0 (W3.heap[s8]? = some (.cells #[.int .i64 3, .int .i64 (q : Nat), .int .i64 0] 166 (0, 0))) := ⟨by simpa using hs3⟩
 have HDW := Aside0.mk hd3
 have HF3 := Aside0.mk hfr3
 have hkt0 := H.out.kt
 have htz : tsz (.half t) = 1 + tsz t := rfl
 have HNW : Aside0 (g ∉ ks ++ x) := ⟨h3.fresh hkt0 HN.out hd3 (fun u hu => by have := (HQ.out.2.2.1 u hu).size; omega)⟩
 have e0 : W3.cell? ⟨g, 0, none⟩ = some (.int .i64 3) := (cell_of hb3 0).trans rfl
 have h3l := h3.pf.1
 have hylen := HQ.out.2.2.2.1
 obtain ⟨A, c9, rfl, hl9, _⟩ := Kd.R_reads h3.ro
 have HT := Aside0.mk h3
 have hlen : out1.length ≤ 1000 := by rw [List.length_append] at h3l; omega
 have hqlt : q < (ts ++ y).length := (List.getElem?_eq_some_iff.1 HQ.out.2.1).1
 clear hs3 hst3 hfr3 hd3 hb3 h3 h3l hkt0
 have c3 : W3.cell? ⟨a3, 0, none⟩ = some (.slice A out1.length c9) := (cell_of HT.out.m3 0).trans rfl
 have HX3 : Aside0 (∀ w55, W3.grownBy w55 (Value.slice A out1.length c9).ownBlock → w55.heap[a3]? = some (.cells #[.slice A out1.length c9] 63 (0, 0))) := ⟨fun w55 hg => (hg.block a3 (blk_lt HT.out.m3) (fun e => by obtain ⟨cells, hc⟩ := HT.out.row a3 e.symm; have := hc.symm.trans HT.out.m3; simp at this)).trans HT.out.m3⟩
 obtain ⟨sp, hsp⟩ : ∃ sp : S166, sp = ⟨3, (q : Nat), 0⟩ := ⟨_, rfl⟩
 have HSP := Aside0.mk hsp
 have hsw : W3.heap[s8]? = some (.cells #[.int .i64 sp.f0, .int .i64 sp.f1, .int .i64 sp.f2] 166 (0, 0)) := by rw [hsp]; exact HSW.out
 have z0 : W3.cell? ⟨s8, 0, none⟩ = some (.int .i64 sp.f0) := (cell_of hsw 0).trans rfl
 have z1 : W3.cell? ⟨s8, 1, none⟩ = some (.int .i64 sp.f1) := (cell_of hsw 1).trans rfl
 have z2 : W3.cell? ⟨s8, 2, none⟩ = some (.int .i64 sp.f2) := (cell_of hsw 2).trans rfl
 clear hsp hsw
 go_upto_region 10 with ((with_reducible refine gate_builtin (b := .append) (xs := #[.tmp 52, .tmp 54]) rfl ?_); at_builtin; refine Kd.R_append k166 (w0 := w0) w0.heap.size rfl (.tmp 52) (.tmp 54) 63 166 (.agg #[(.int .i64 0), (.int .i64 0), (.int .i64 0)]) 24 rfl Try.underlying63 info166 rfl (by decide) (by omega) (.slice A out1.length c9) out1 sp [.int .i64 sp.f0, .int .i64 sp.f1, .int .i64 sp.f2] (fun _ => True) (fun _ => False) rfl rfl ?aP (fun _ hk => hk.elim) ?aF ?aO ?aB ?aS ?aL ?_; (case aP => exact k166_mkM _ _ _ sp); (case aB => exact HT.out.bl); (case aF => exact (fun _ _ => trivial)); (case aO => exact HT.out.ro); (case aS => exact below_size HT.out.bl); (case aL => omega); intro v55 w55 ho hb hg hat; obtain ⟨A55, c55, rfl, hl55, _⟩ := Kd.R_reads ho; have HO5 := Aside0.mk ho; have HB5 := Aside0.mk hb; have HG5 := Aside0.mk hg; have HA5 := Aside0.mk hat; have hx3 := HX3.out w55 hg; have y3 : w55.cell? ⟨a3, 0, none⟩ = some (.slice A out1.length c9) := (cell_of hx3 0).trans rfl; have y4 : w55.frozen? ⟨a3, 0, none⟩ = false := blk_frozen hx3 0; have HY3 := Aside0.mk hx3; clear ho hb hg hat hl55 hx3)
 have HV5 : Aside0 ((Value.slice A55 (out1.length + 1) c55).ownBlock = (Value.slice A out1.length c9).ownBlock ∨ ∃ b, (Value.slice A55 (out1.length + 1) c55).ownBlock = some b ∧ W3.heap.size ≤ b) := ⟨by have := HA5.out; rwa [List.length_append] at this⟩
 have hro5 : Kd.R k166 166 w55 w0.heap.size (fun _ => True) (.slice A55 (out1.length + 1) c55) (out1 ++ [sp]) := by have := HO5.out; rwa [List.length_append] at this
 obtain ⟨hmm, hfr, hx1, hx3⟩ := HT.out.mid (.slice A55 (out1.length + 1) c55) HG5.out
 have hst := HT.out.stays hfr
 obtain ⟨W11, hrun, hmap, hgr, hszz⟩ := update_new _ r g (ks ++ x) hmm (HDW.out.stays hst).isDrv (fun g' hg' => by obtain ⟨C, hC⟩ := HT.out.isDrv g' hg'; exact ⟨C, hst g' C hC⟩) HNW.out
 obtain ⟨hpush, hfr2⟩ := HT.out.push HDW.out (s := sp) (show StepFor (ts ++ y) (ts ++ y).length (.half t) sp from ⟨q, hqlt, HQ.out.2.1, HSP.out⟩) hro5 HB5.out HG5.out HV5.out hmap hgr
 have HPU := Aside0.mk hpush
 have HFR := Aside0.mk hfr2
 have hkl : ((ks ++ x).length : Int) = (out1.length : Int) := by have h1 := HT.out.kt; have h2 := HT.out.pf.1; omega
 rw [hkl] at hrun
 have hl2 := lookup_old W11 r g (ks ++ x).length ((ks ++ x) ++ [g]) hpush.mm ((HDW.out.stays (HT.out.stays hfr2)).isDrv) hpush.isDrv (posIn_last HNW.out) false
 rw [if_neg (by simp), hkl] at hl2
 have u1 : W11.cell? ⟨a1, 0, none⟩ = some (.map (some r)) := (cell_of hpush.m1 0).trans rfl
 obtain ⟨W10, hW10⟩ : ∃ W10, W10 = w55.setCell ⟨a3, 0, none⟩ (.slice A55 (out1.length + 1) c55) := ⟨_, rfl⟩
 rw [← hW10] at hrun hx1 hx3 ⊢
 have k1 : W10.cell? ⟨a1, 0, none⟩ = some (.map (some r)) := (cell_of hx1 0).trans rfl
 have k3 : W10.cell? ⟨a3, 0, none⟩ = some (.slice A55 (out1.length + 1) c55) := (cell_of hx3 0).trans rfl
 have HKL := Aside0.mk hkl
 clear hmm hfr hx1 hx3 hst hmap hgr hszz hpush hfr2 hW10 hro5 HA5 HO5 HB5 HG5 HX3 c3 z0 z1 z2 y3 y4 HY3 hkl
 go_wp2_with fail
 go_ret
 refine ⟨x ++ [g], y ++ [.half t], out1 ++ [sp], _, (ks ++ x).length, by rw [HKL.out]; rfl, ⟨by rw [← List.append_assoc, ← List.append_assoc]; exact HPU.out⟩, ⟨by rw [← List.append_assoc]; simp, by rw [← List.append_assoc, HT.out.kt]; simp, fun u hu => ?_, by rw [List.length_append, List.length_singleton]; omega, fun _ => by simp only [List.length_append, List.length_singleton]; omega⟩, ⟨HF3.out.trans HFR.out ?_⟩, ⟨?_⟩⟩
 · rcases List.mem_append.1 hu with hu | hu
   · exact .inr (HQ.out.2.2.1 u hu)
   · simp at hu; subst hu; exact Sub.refl _
 · rcases HOW.out with h | ⟨b', h, hb'⟩
   · exact .inl h
   · exact .inr ⟨b', h, by have h3 : wc.drew.heap.size = wc.heap.size := rfl; omega⟩
 · rcases HV5.out with h | ⟨b', h, hb'⟩
   · rcases HOW.out with k | ⟨b2, k, hb2⟩
     · exact .inl (h.trans k)
     · exact .inr ⟨b2, h.trans k, by have h3 : wc.drew.heap.size = wc.heap.size := rfl; omega⟩
   · exact .inr ⟨b', h, by have := HF3.out.1; omega⟩
set_option maxRecDepth 100000 in
set_option maxHeartbeats 4000000 in
theorem add_sum (w0 : World) (a1 a2 a3 r : Nat) (t u : Tree) (ih0 : ∀ (W : World) (g : Nat) (ks : List Nat) (ts : List Tree) (out : List S166) (v : Value), AddSt w0 W a1 a2 a3 r ks ts out v → Drv W t g → ts.length + tsz t ≤ 1000 → Calls Try.prog 110 #[.pointer (some ⟨g, 0, none⟩), .pointer (some ⟨a1, 0, none⟩), .pointer (some ⟨a2, 0, none⟩), .pointer (some ⟨a3, 0, none⟩)] W (AddPost w0 W a1 a2 a3 r ks ts v t g)) (ih1 : ∀ (W : World) (g : Nat) (ks : List Nat) (ts : List Tree) (out : List S166) (v : Value), AddSt w0 W a1 a2 a3 r ks ts out v → Drv W u g → ts.length + tsz u ≤ 1000 → Calls Try.prog 110 #[.pointer (some ⟨g, 0, none⟩), .pointer (some ⟨a1, 0, none⟩), .pointer (some ⟨a2, 0, none⟩), .pointer (some ⟨a3, 0, none⟩)] W (AddPost w0 W a1 a2 a3 r ks ts v u g)) (W : World) (ks : List Nat) (ts : List Tree) (out : List S166) (v : Value) (g : Nat) (h : AddSt w0 W a1 a2 a3 r ks ts out v) (hd : Drv W (.sum t u) g) (hsz : ts.length + tsz (.sum t u) ≤ 1000) (hn : g ∉ ks) :
 Calls Try.prog 110 #[.pointer (some ⟨g, 0, none⟩), .pointer (some ⟨a1, 0, none⟩), .pointer (some ⟨a2, 0, none⟩), .pointer (some ⟨a3, 0, none⟩)] W (AddPost w0 W a1 a2 a3 r ks ts v (.sum t u) g) := by
 have hu164 := Try.underlying164
 have hu166 := Try.underlying166
 have hu162 := Try.underlying162
 have c1 : W.cell? ⟨a1, 0, none⟩ = some (.map (some r)) := (cell_of h.m1 0).trans rfl
 have hl := lookup_new W r g ks h.mm hd.isDrv h.isDrv hn
 have H := Aside0.mk h
 have HD := Aside0.mk hd
 have HN := Aside0.mk hn
 obtain ⟨b, c, hb, hdb, hdc⟩ := id hd
 have d0 : W.cell? ⟨g, 0, none⟩ = some (.int .i64 2) := (cell_of hb 0).trans rfl
 have d1 : W.cell? ⟨g, 1, none⟩ = some (.int .i64 0) := (cell_of hb 1).trans rfl
 have HBK := Aside0.mk hb
 clear h hd hn hb
 go_enter Try.func110, Try.ntmps110
 go_upto_region 4 with (fail)
 go_cut [8] (fun v8 wc => ∃ s8 : Nat, v8 = .pointer (some ⟨s8, 0, none⟩) ∧ Aside0 (wc.heap[s8]? = some (.cells #[.int .i64 2, .int .i64 0, .int .i64 0] 166 (0, 0))) ∧ Aside0 (Below W.heap.size W wc) ∧ Aside0 (W.heap.size ≤ s8))
 case first =>
  go_region_held3 (fun w' => w'.cell? ⟨g, 0, none⟩ = some (.int .i64 2) ∧ w'.cell? ⟨g, 1, none⟩ = some (.int .i64 0)) (go_keep) (fail)
  all_goals (go_wp2_with fail; go_meet)
  all_goals exact ⟨W.heap.size, rfl, ⟨blk_drew (heap1_0 _ _)⟩, ⟨((Below.refl _ W).alloc (Nat.le_refl _) _).drew⟩, ⟨Nat.le_refl _⟩⟩
 case rest =>
 obtain ⟨s8, rfl, HS, HBC, HSZ⟩ := hcut
 have H1 : Aside0 (AddSt w0 wc a1 a2 a3 r ks ts out v) := ⟨H.out.below HBC.out⟩
 have HD1 := Aside0.mk (HD.out.stays (Stays.below HBC.out rfl))
 have hb1 := blk_below HBK.out HBC.out
 have HB1 := Aside0.mk hb1
 have e0 : wc.cell? ⟨g, 0, none⟩ = some (.int .i64 2) := (cell_of hb1 0).trans rfl
 clear c1 hl d0 d1 hb1 HD HBK
 obtain ⟨b, c, hb, hdb, hdc⟩ := id HD1.out
 have HDB := Aside0.mk hdb
 have HDC := Aside0.mk hdc
 have HBG := Aside0.mk hb
 have HS8 := HS
 have hwz := HBC.out.size
 have HNE : Aside0 (some s8 ≠ v.ownBlock) := ⟨fun e => by have := Kd.R_lt H.out.ro s8 e.symm; have := HSZ.out; omega⟩
 have c2 : wc.cell? ⟨a2, 0, none⟩ = some (.func (.func 110) #[] #[.pointer (some ⟨a1, 0, none⟩), .pointer (some ⟨a2, 0, none⟩), .pointer (some ⟨a3, 0, none⟩)]) := (cell_of H1.out.m2 0).trans rfl
 have e2 : wc.cell? ⟨g, 2, none⟩ = some (.pointer (some ⟨b, 0, none⟩)) := (cell_of hb 2).trans rfl
 clear hb hdb hdc
 go_upto_region 6 with (fail)
 refine start_ (n := 9) (S := fun w' => w'.cell? ⟨a2, 0, none⟩ = some (.func (.func 110) #[] #[.pointer (some ⟨a1, 0, none⟩), .pointer (some ⟨a2, 0, none⟩), .pointer (some ⟨a3, 0, none⟩)]) ∧ w'.cell? ⟨g, 2, none⟩ = some (.pointer (some ⟨b, 0, none⟩))) (ds := [8]) #[ff,ff,ff,ff,ff,ff,ff,ff,ff] (by kernel_rfl) rfl rfl ⟨c2, e2⟩ (fun hHeld => ?_)
 refine pure_ (i := 1) (N := some 32) (v := ?_) (a' := ?_) #[ff,tt,ff,ff,ff,ff,ff,ff,ff] rfl rfl (by kernel_rfl) (fun _ _ _ h => h) (Or.inl ⟨by rfl, ?_⟩) ?_ ?_
 rotate_left
 · intro w'
   go_simp
   with_reducible rfl
 rotate_left
 · simp only [Act.put, List.setIfInBounds_toArray, List.set_cons_zero, List.set_cons_succ, i64_w, i32_w]
   rfl
 refine pure_ (i := 2) (N := some 33) (v := ?_) (a' := ?_) #[ff,tt,tt,ff,ff,ff,ff,ff,ff] rfl rfl (by kernel_rfl) (fun _ _ _ h => h) (Or.inl ⟨by rfl, ?_⟩) ?_ ?_
 rotate_left
 · intro w'
   go_simp
   with_reducible rfl
 rotate_left
 · simp only [Act.put, List.setIfInBounds_toArray, List.set_cons_zero, List.set_cons_succ, i64_w, i32_w]
   rfl
 refine pure_ (i := 3) (N := some 34) (v := ?_) (a' := ?_) #[ff,tt,tt,tt,ff,ff,ff,ff,ff] rfl rfl (by kernel_rfl) (fun _ _ _ h => h) (Or.inl ⟨by rfl, ?_⟩) ?_ ?_
 rotate_left
 · intro w'
   go_simp
   with_reducible rfl
 rotate_left
 · simp only [Act.put, List.setIfInBounds_toArray, List.set_cons_zero, List.set_cons_succ, i64_w, i32_w]
   rfl
 refine pure_ (i := 4) (N := some 35) (v := ?_) (a' := ?_) #[ff,tt,tt,tt,tt,ff,ff,ff,ff] rfl rfl (by kernel_rfl) (fun _ _ _ h => h) (Or.inl ⟨by rfl, ?_⟩) ?_ ?_
 rotate_left
 · intro w'
   go_simp
   with_reducible rfl
 rotate_left
 · simp only [Act.put, List.setIfInBounds_toArray, List.set_cons_zero, List.set_cons_succ, i64_w, i32_w]
   rfl
 refine take_ (i := 0) (N := some 31) (v := ?_) (a' := ?_) #[tt,tt,tt,tt,tt,ff,ff,ff,ff] rfl rfl (by kernel_rfl) (fun _ _ _ h => h) (Or.inl ⟨by rfl, ?_⟩) hHeld ?_ ?_
 rotate_left
 · rintro w' ⟨s0, s1⟩
   go_simp
   with_reducible rfl
 rotate_left
 · simp only [Act.put, List.setIfInBounds_toArray, List.set_cons_zero, List.set_cons_succ, i64_w, i32_w]
   rfl
 refine take_ (i := 5) (N := some 36) (v := ?_) (a' := ?_) #[tt,tt,tt,tt,tt,tt,ff,ff,ff] rfl rfl (by kernel_rfl) (fun _ _ _ h => h) (Or.inl ⟨by rfl, ?_⟩) hHeld ?_ ?_
 rotate_left
 · rintro w' ⟨s0, s1⟩
   go_simp
   with_reducible rfl
 rotate_left
 · simp only [Act.put, List.setIfInBounds_toArray, List.set_cons_zero, List.set_cons_succ, i64_w, i32_w]
   rfl
 refine one_ (i := 6) (N := some 37) #[tt,tt,tt,tt,tt,tt,tt,ff,ff] rfl rfl (by kernel_rfl) (by decide) (fun K hK => ?_)
 refine goesC_ (tm := 31) Try.func110 (by kernel_rfl) rfl #[.pointer (some ⟨b, 0, none⟩)] #[.pointer (some ⟨b, 0, none⟩), .pointer (some ⟨a1, 0, none⟩), .pointer (some ⟨a2, 0, none⟩), .pointer (some ⟨a3, 0, none⟩)] (by rfl) rfl rfl (by rfl) (by simp only [List.map_toArray, List.map_cons, List.map_nil]; rfl) (by rfl) ?_
 with_reducible refine (ih0 wc.drew b ks ts out v (H1.out.below (Below.refl _ _).drew) (HDB.out.stays (Stays.drew _)) (by have : tsz (.sum t u) = 1 + tsz t + tsz u := rfl; omega)).mono ?_
 rintro e W2 ⟨x, y, out1, v1, q, rfl, HST, HQ, HFR, HOW⟩
 refine ⟨_, rfl, ?_⟩
 have hfr2 : Frame wc W2 a3 r v := HFR.out
 have hst2 := H1.out.stays hfr2
 have hs2 := H1.out.keep hfr2 HS8.out HNE.out
 have z8 : W2.cell? ⟨s8, 1, none⟩ = some (.int .i64 0) := (cell_of hs2 1).trans rfl
 have zf : W2.frozen? ⟨s8, 1, none⟩ = false := blk_frozen hs2 1
 have HS9 := Aside0.mk hs2
 have HT9 := Aside0.mk hst2
 have HF9 := Aside0.mk hfr2
 clear hs2
 refine hK.out _ _ ⟨((cell_of HST.out.m2 0).trans rfl), ((cell_of (hst2 g _ HBG.out) 2).trans rfl)⟩ (fun hHeld => ?_)
 clear hK K
 refine norm_ (a' := ?_) ?_ ?_
 rotate_left
 · show Act.put _ (some 37) _ = _
   simp only [Act.put, List.setIfInBounds_toArray, List.set_cons_zero, List.set_cons_succ, i64_w, i32_w]
   rfl
 refine pure_ (i := 7) (N := some 38) (v := ?_) (a' := ?_) #[tt,tt,tt,tt,tt,tt,tt,tt,ff] rfl rfl (by kernel_rfl) (fun _ _ _ h => h) (Or.inl ⟨by rfl, ?_⟩) ?_ ?_
 rotate_left
 · intro w'
   go_simp
   with_reducible rfl
 rotate_left
 · simp only [Act.put, List.setIfInBounds_toArray, List.set_cons_zero, List.set_cons_succ, i64_w, i32_w]
   rfl
 refine last_ (i := 8) (N := none) #[tt,tt,tt,tt,tt,tt,tt,tt,tt] rfl rfl (by kernel_rfl) (by decide) (fun K hK => ?_)
 refine skip_ (w1 := ?_) (by rfl) rfl ?_ ?_
 rotate_left
 · go_simp
   rfl
 refine hK.out _ _ ?_
 clear hK K
 refine done_ (by kernel_rfl) ?_
 clear c2 e2 e0
 have hb0w : w0.heap.size ≤ s8 := by have := below_size H.out.bl; have := HSZ.out; omega
 have hown : some s8 ≠ v1.ownBlock := fun e => by
  rcases HOW.out with h | ⟨b', h, hb'⟩
  · exact HNE.out (e.trans h)
  · rw [h] at e
    simp at e
    have := blk_lt HS8.out
    have h3 : wc.drew.heap.size = wc.heap.size := rfl
    omega
 obtain ⟨h3, hst3⟩ := HST.out.local HS9.out hown hb0w 1 (.int .i64 (q : Nat))
 have hs3 := blk_set HS9.out 1 (.int .i64 (q : Nat))
 have hfr3 : Frame W (W2.setCell ⟨s8, 1, none⟩ (.int .i64 (q : Nat))) a3 r v := ((Frame.below a3 r v HBC.out).trans HF9.out (.inl rfl)).local HSZ.out 1 _
 have hd3 := (HD1.out.stays HT9.out).stays hst3
 have hb3 := hst3 g _ (HT9.out g _ HBG.out)
 have hdc3 := (HDC.out.stays HT9.out).stays hst3
 have HSZ3 : Aside0 (W.heap.size ≤ s8) := HSZ
 generalize (W2.setCell ⟨s8, 1, none⟩ (.int .i64 (q : Nat))) = W3 at *
 have hs8 : W3.heap[s8]? = some (.cells #[.int .i64 2, .int .i64 (q : Nat), .int .i64 0] 166 (0, 0)) := by simpa using hs3
 have hkt0 := H.out.kt
 have htz : tsz (.sum t u) = 1 + tsz t + tsz u := rfl
 have e0 : W3.cell? ⟨g, 0, none⟩ = some (.int .i64 2) := (cell_of hb3 0).trans rfl
 have e2 : W3.cell? ⟨g, 3, none⟩ = some (.pointer (some ⟨c, 0, none⟩)) := (cell_of hb3 3).trans rfl
 have c2 : W3.cell? ⟨a2, 0, none⟩ = some (.func (.func 110) #[] #[.pointer (some ⟨a1, 0, none⟩), .pointer (some ⟨a2, 0, none⟩), .pointer (some ⟨a3, 0, none⟩)]) := (cell_of h3.m2 0).trans rfl
 have hylen := HQ.out.2.2.2.1
 have H3 := Aside0.mk h3
 have HDC3 := Aside0.mk hdc3
 have HD3 := Aside0.mk hd3
 have HF3 := Aside0.mk hfr3
 have HOWN := Aside0.mk hown
 have HOW1 : Aside0 (v1.ownBlock = v.ownBlock ∨ ∃ b, v1.ownBlock = some b ∧ W.heap.size ≤ b) := ⟨by
  rcases HOW.out with h | ⟨b', h, hb'⟩
  · exact .inl h
  · exact .inr ⟨b', h, by have h3 : wc.drew.heap.size = wc.heap.size := rfl; omega⟩⟩
 have HBG1 := Aside0.mk hb3
 have HQ1 := HQ
 have hys : (ts ++ y).length = ts.length + y.length := List.length_append
 clear hs3 hst3 hfr3 hd3 hb3 h3 hdc3 hown HBG HS8 HNE HS9 HT9 HF9 HFR HST HQ HOW HS HSZ HD1
 have HBG := HBG1
 have HS8 := Aside0.mk hs8
 have HNE := HOWN
 clear hs8
 go_upto_region 8 with (fail)
 refine start_ (n := 9) (S := fun w' => w'.cell? ⟨a2, 0, none⟩ = some (.func (.func 110) #[] #[.pointer (some ⟨a1, 0, none⟩), .pointer (some ⟨a2, 0, none⟩), .pointer (some ⟨a3, 0, none⟩)]) ∧ w'.cell? ⟨g, 3, none⟩ = some (.pointer (some ⟨c, 0, none⟩))) (ds := [8]) #[ff,ff,ff,ff,ff,ff,ff,ff,ff] (by kernel_rfl) rfl rfl ⟨c2, e2⟩ (fun hHeld => ?_)
 refine pure_ (i := 1) (N := some 45) (v := ?_) (a' := ?_) #[ff,tt,ff,ff,ff,ff,ff,ff,ff] rfl rfl (by kernel_rfl) (fun _ _ _ h => h) (Or.inl ⟨by rfl, ?_⟩) ?_ ?_
 rotate_left
 · intro w'
   go_simp
   with_reducible rfl
 rotate_left
 · simp only [Act.put, List.setIfInBounds_toArray, List.set_cons_zero, List.set_cons_succ, i64_w, i32_w]
   rfl
 refine pure_ (i := 2) (N := some 46) (v := ?_) (a' := ?_) #[ff,tt,tt,ff,ff,ff,ff,ff,ff] rfl rfl (by kernel_rfl) (fun _ _ _ h => h) (Or.inl ⟨by rfl, ?_⟩) ?_ ?_
 rotate_left
 · intro w'
   go_simp
   with_reducible rfl
 rotate_left
 · simp only [Act.put, List.setIfInBounds_toArray, List.set_cons_zero, List.set_cons_succ, i64_w, i32_w]
   rfl
 refine pure_ (i := 3) (N := some 47) (v := ?_) (a' := ?_) #[ff,tt,tt,tt,ff,ff,ff,ff,ff] rfl rfl (by kernel_rfl) (fun _ _ _ h => h) (Or.inl ⟨by rfl, ?_⟩) ?_ ?_
 rotate_left
 · intro w'
   go_simp
   with_reducible rfl
 rotate_left
 · simp only [Act.put, List.setIfInBounds_toArray, List.set_cons_zero, List.set_cons_succ, i64_w, i32_w]
   rfl
 refine pure_ (i := 4) (N := some 48) (v := ?_) (a' := ?_) #[ff,tt,tt,tt,tt,ff,ff,ff,ff] rfl rfl (by kernel_rfl) (fun _ _ _ h => h) (Or.inl ⟨by rfl, ?_⟩) ?_ ?_
 rotate_left
 · intro w'
   go_simp
   with_reducible rfl
 rotate_left
 · simp only [Act.put, List.setIfInBounds_toArray, List.set_cons_zero, List.set_cons_succ, i64_w, i32_w]
   rfl
 refine take_ (i := 0) (N := some 44) (v := ?_) (a' := ?_) #[tt,tt,tt,tt,tt,ff,ff,ff,ff] rfl rfl (by kernel_rfl) (fun _ _ _ h => h) (Or.inl ⟨by rfl, ?_⟩) hHeld ?_ ?_
 rotate_left
 · rintro w' ⟨s0, s1⟩
   go_simp
   with_reducible rfl
 rotate_left
 · simp only [Act.put, List.setIfInBounds_toArray, List.set_cons_zero, List.set_cons_succ, i64_w, i32_w]
   rfl
 refine take_ (i := 5) (N := some 49) (v := ?_) (a' := ?_) #[tt,tt,tt,tt,tt,tt,ff,ff,ff] rfl rfl (by kernel_rfl) (fun _ _ _ h => h) (Or.inl ⟨by rfl, ?_⟩) hHeld ?_ ?_
 rotate_left
 · rintro w' ⟨s0, s1⟩
   go_simp
   with_reducible rfl
 rotate_left
 · simp only [Act.put, List.setIfInBounds_toArray, List.set_cons_zero, List.set_cons_succ, i64_w, i32_w]
   rfl
 refine one_ (i := 6) (N := some 50) #[tt,tt,tt,tt,tt,tt,tt,ff,ff] rfl rfl (by kernel_rfl) (by decide) (fun K hK => ?_)
 refine goesC_ (tm := 44) Try.func110 (by kernel_rfl) rfl #[.pointer (some ⟨c, 0, none⟩)] #[.pointer (some ⟨c, 0, none⟩), .pointer (some ⟨a1, 0, none⟩), .pointer (some ⟨a2, 0, none⟩), .pointer (some ⟨a3, 0, none⟩)] (by rfl) rfl rfl (by rfl) (by simp only [List.map_toArray, List.map_cons, List.map_nil]; rfl) (by rfl) ?_
 with_reducible refine (ih1 W3.drew c (ks ++ x) (ts ++ y) out1 v1 (H3.out.below (Below.refl _ _).drew) (HDC3.out.stays (Stays.drew _)) (by omega)).mono ?_
 rintro e W5 ⟨x2, y2, out2, v2, q2, rfl, HST, HQ, HFR, HOW⟩
 refine ⟨_, rfl, ?_⟩
 have hfr2 : Frame W3 W5 a3 r v1 := HFR.out
 have hst2 := H3.out.stays hfr2
 have hs2 := H3.out.keep hfr2 HS8.out HNE.out
 have z8 : W5.cell? ⟨s8, 2, none⟩ = some (.int .i64 0) := (cell_of hs2 2).trans rfl
 have zf : W5.frozen? ⟨s8, 2, none⟩ = false := blk_frozen hs2 2
 have HS9 := Aside0.mk hs2
 have HT9 := Aside0.mk hst2
 have HF9 := Aside0.mk hfr2
 clear hs2
 refine hK.out _ _ ⟨((cell_of HST.out.m2 0).trans rfl), ((cell_of (hst2 g _ HBG.out) 3).trans rfl)⟩ (fun hHeld => ?_)
 clear hK K
 refine norm_ (a' := ?_) ?_ ?_
 rotate_left
 · show Act.put _ (some 50) _ = _
   simp only [Act.put, List.setIfInBounds_toArray, List.set_cons_zero, List.set_cons_succ, i64_w, i32_w]
   rfl
 refine pure_ (i := 7) (N := some 51) (v := ?_) (a' := ?_) #[tt,tt,tt,tt,tt,tt,tt,tt,ff] rfl rfl (by kernel_rfl) (fun _ _ _ h => h) (Or.inl ⟨by rfl, ?_⟩) ?_ ?_
 rotate_left
 · intro w'
   go_simp
   with_reducible rfl
 rotate_left
 · simp only [Act.put, List.setIfInBounds_toArray, List.set_cons_zero, List.set_cons_succ, i64_w, i32_w]
   rfl
 refine last_ (i := 8) (N := none) #[tt,tt,tt,tt,tt,tt,tt,tt,tt] rfl rfl (by kernel_rfl) (by decide) (fun K hK => ?_)
 refine skip_ (w1 := ?_) (by rfl) rfl ?_ ?_
 rotate_left
 · go_simp
   rfl
 refine hK.out _ _ ?_
 clear hK K
 refine done_ (by kernel_rfl) ?_
 clear c2 e2 e0
 have hown : some s8 ≠ v2.ownBlock := fun e => by
  rcases HOW.out with h | ⟨b', h, hb'⟩
  · exact HNE.out (e.trans h)
  · rw [h] at e
    simp at e
    have := blk_lt HS8.out
    have h3 : W3.drew.heap.size = W3.heap.size := rfl
    omega
 obtain ⟨h3, hst3⟩ := HST.out.local HS9.out hown hb0w 2 (.int .i64 (q2 : Nat))
 have hs3 := blk_set HS9.out 2 (.int .i64 (q2 : Nat))
 have hfr3 : Frame W (W5.setCell ⟨s8, 2, none⟩ (.int .i64 (q2 : Nat))) a3 r v := (HF3.out.trans HF9.out HOW1.out).local HSZ3.out 2 _
 have hd3 := (HD3.out.stays HT9.out).stays hst3
 have hb3 := hst3 g _ (HT9.out g _ HBG.out)
 generalize (W5.setCell ⟨s8, 2, none⟩ (.int .i64 (q2 : Nat))) = W6 at *
 have HSW : Aside0 (W6.heap[s8]? = some (.cells #[.int .i64 2, .int .i64 (q : Nat), .int .i64 (q2 : Nat)] 166 (0, 0))) := ⟨by simpa using hs3⟩
 have HDW := Aside0.mk hd3
 have HF6 := Aside0.mk hfr3
 have hyall : ∀ w, w ∈ y ++ y2 → tsz w < tsz (.sum t u) := fun w hw => by
  rcases List.mem_append.1 hw with hw | hw
  · have := (HQ1.out.2.2.1 w hw).size; omega
  · have := (HQ.out.2.2.1 w hw).size; omega
 have h3' : AddSt w0 W6 a1 a2 a3 r (ks ++ (x ++ x2)) (ts ++ (y ++ y2)) out2 v2 := by rw [← List.append_assoc, ← List.append_assoc]; exact h3
 have HNW : Aside0 (g ∉ (ks ++ x) ++ x2) := ⟨by rw [List.append_assoc]; exact h3'.fresh hkt0 HN.out hd3 hyall⟩
 have e0 : W6.cell? ⟨g, 0, none⟩ = some (.int .i64 2) := (cell_of hb3 0).trans rfl
 have h3l := h3.pf.1
 have hylen2 := HQ.out.2.2.2.1
 obtain ⟨A, c9, rfl, hl9, _⟩ := Kd.R_reads h3.ro
 have HT := Aside0.mk h3
 have hlen : out2.length ≤ 1000 := by rw [List.length_append, List.length_append] at h3l; omega
 have hq1lt : q < ((ts ++ y) ++ y2).length := by have := (List.getElem?_eq_some_iff.1 HQ1.out.2.1).1; rw [List.length_append]; omega
 have hq2lt : q2 < ((ts ++ y) ++ y2).length := (List.getElem?_eq_some_iff.1 HQ.out.2.1).1
 have HYA : Aside0 (∀ w, w ∈ y ++ y2 → Sub w (.sum t u)) := ⟨fun w hw => by
  rcases List.mem_append.1 hw with hw | hw
  · exact .inr (.inl (HQ1.out.2.2.1 w hw))
  · exact .inr (.inr (HQ.out.2.2.1 w hw))⟩
 clear hs3 hst3 hfr3 hd3 hb3 h3 h3l hkt0 h3' hyall
 have c3 : W6.cell? ⟨a3, 0, none⟩ = some (.slice A out2.length c9) := (cell_of HT.out.m3 0).trans rfl
 have HX3 : Aside0 (∀ w55, W6.grownBy w55 (Value.slice A out2.length c9).ownBlock → w55.heap[a3]? = some (.cells #[.slice A out2.length c9] 63 (0, 0))) := ⟨fun w55 hg => (hg.block a3 (blk_lt HT.out.m3) (fun e => by obtain ⟨cells, hc⟩ := HT.out.row a3 e.symm; have := hc.symm.trans HT.out.m3; simp at this)).trans HT.out.m3⟩
 obtain ⟨sp, hsp⟩ : ∃ sp : S166, sp = ⟨2, (q : Nat), (q2 : Nat)⟩ := ⟨_, rfl⟩
 have HSP := Aside0.mk hsp
 have hsw : W6.heap[s8]? = some (.cells #[.int .i64 sp.f0, .int .i64 sp.f1, .int .i64 sp.f2] 166 (0, 0)) := by rw [hsp]; exact HSW.out
 have z0 : W6.cell? ⟨s8, 0, none⟩ = some (.int .i64 sp.f0) := (cell_of hsw 0).trans rfl
 have z1 : W6.cell? ⟨s8, 1, none⟩ = some (.int .i64 sp.f1) := (cell_of hsw 1).trans rfl
 have z2 : W6.cell? ⟨s8, 2, none⟩ = some (.int .i64 sp.f2) := (cell_of hsw 2).trans rfl
 clear hsp hsw
 go_upto_region 10 with ((with_reducible refine gate_builtin (b := .append) (xs := #[.tmp 52, .tmp 54]) rfl ?_); at_builtin; refine Kd.R_append k166 (w0 := w0) w0.heap.size rfl (.tmp 52) (.tmp 54) 63 166 (.agg #[(.int .i64 0), (.int .i64 0), (.int .i64 0)]) 24 rfl Try.underlying63 info166 rfl (by decide) (by omega) (.slice A out2.length c9) out2 sp [.int .i64 sp.f0, .int .i64 sp.f1, .int .i64 sp.f2] (fun _ => True) (fun _ => False) rfl rfl ?aP (fun _ hk => hk.elim) ?aF ?aO ?aB ?aS ?aL ?_; (case aP => exact k166_mkM _ _ _ sp); (case aB => exact HT.out.bl); (case aF => exact (fun _ _ => trivial)); (case aO => exact HT.out.ro); (case aS => exact below_size HT.out.bl); (case aL => omega); intro v55 w55 ho hb hg hat; obtain ⟨A55, c55, rfl, hl55, _⟩ := Kd.R_reads ho; have HO5 := Aside0.mk ho; have HB5 := Aside0.mk hb; have HG5 := Aside0.mk hg; have HA5 := Aside0.mk hat; have hx3 := HX3.out w55 hg; have y3 : w55.cell? ⟨a3, 0, none⟩ = some (.slice A out2.length c9) := (cell_of hx3 0).trans rfl; have y4 : w55.frozen? ⟨a3, 0, none⟩ = false := blk_frozen hx3 0; have HY3 := Aside0.mk hx3; clear ho hb hg hat hl55 hx3)
 have HV5 : Aside0 ((Value.slice A55 (out2.length + 1) c55).ownBlock = (Value.slice A out2.length c9).ownBlock ∨ ∃ b, (Value.slice A55 (out2.length + 1) c55).ownBlock = some b ∧ W6.heap.size ≤ b) := ⟨by have := HA5.out; rwa [List.length_append] at this⟩
 have hro5 : Kd.R k166 166 w55 w0.heap.size (fun _ => True) (.slice A55 (out2.length + 1) c55) (out2 ++ [sp]) := by have := HO5.out; rwa [List.length_append] at this
 obtain ⟨hmm, hfr, hx1, hx3⟩ := HT.out.mid (.slice A55 (out2.length + 1) c55) HG5.out
 have hst := HT.out.stays hfr
 obtain ⟨W11, hrun, hmap, hgr, hszz⟩ := update_new _ r g ((ks ++ x) ++ x2) hmm (HDW.out.stays hst).isDrv (fun g' hg' => by obtain ⟨C, hC⟩ := HT.out.isDrv g' hg'; exact ⟨C, hst g' C hC⟩) HNW.out
 obtain ⟨hpush, hfr2⟩ := HT.out.push HDW.out (s := sp) (show StepFor ((ts ++ y) ++ y2) ((ts ++ y) ++ y2).length (.sum t u) sp from ⟨q, q2, hq1lt, hq2lt, get_app HQ1.out.2.1, HQ.out.2.1, HSP.out⟩) hro5 HB5.out HG5.out HV5.out hmap hgr
 have HPU := Aside0.mk hpush
 have HFR := Aside0.mk hfr2
 have hkl : (((ks ++ x) ++ x2).length : Int) = (out2.length : Int) := by have h1 := HT.out.kt; have h2 := HT.out.pf.1; omega
 rw [hkl] at hrun
 have hl2 := lookup_old W11 r g ((ks ++ x) ++ x2).length (((ks ++ x) ++ x2) ++ [g]) hpush.mm ((HDW.out.stays (HT.out.stays hfr2)).isDrv) hpush.isDrv (posIn_last HNW.out) false
 rw [if_neg (by simp), hkl] at hl2
 have u1 : W11.cell? ⟨a1, 0, none⟩ = some (.map (some r)) := (cell_of hpush.m1 0).trans rfl
 obtain ⟨W10, hW10⟩ : ∃ W10, W10 = w55.setCell ⟨a3, 0, none⟩ (.slice A55 (out2.length + 1) c55) := ⟨_, rfl⟩
 rw [← hW10] at hrun hx1 hx3 ⊢
 have k1 : W10.cell? ⟨a1, 0, none⟩ = some (.map (some r)) := (cell_of hx1 0).trans rfl
 have k3 : W10.cell? ⟨a3, 0, none⟩ = some (.slice A55 (out2.length + 1) c55) := (cell_of hx3 0).trans rfl
 have HKL := Aside0.mk hkl
 clear hmm hfr hx1 hx3 hst hmap hgr hszz hpush hfr2 hW10 hro5 HA5 HO5 HB5 HG5 HX3 c3 z0 z1 z2 y3 y4 HY3 hkl
 go_wp2_with fail
 go_ret
 refine ⟨(x ++ x2) ++ [g], (y ++ y2) ++ [.sum t u], out2 ++ [sp], _, ((ks ++ x) ++ x2).length, by rw [HKL.out]; rfl, ⟨by rw [← List.append_assoc, ← List.append_assoc, ← List.append_assoc, ← List.append_assoc]; exact HPU.out⟩, ⟨by rw [← List.append_assoc, ← List.append_assoc]; simp, by rw [← List.append_assoc, ← List.append_assoc, HT.out.kt]; simp, fun w hw => ?_, by rw [List.length_append, List.length_append, List.length_singleton]; omega, fun _ => by simp only [List.length_append, List.length_singleton]; omega⟩, ⟨HF6.out.trans HFR.out ?_⟩, ⟨?_⟩⟩
 · rcases List.mem_append.1 hw with hw | hw
   · exact HYA.out w hw
   · simp at hw; subst hw; exact Sub.refl _
 · rcases HOW.out with h | ⟨b', h, hb'⟩
   · rcases HOW1.out with k | ⟨b2, k, hb2⟩
     · exact .inl (h.trans k)
     · exact .inr ⟨b2, h.trans k, hb2⟩
   · exact .inr ⟨b', h, by have h3 : W3.drew.heap.size = W3.heap.size := rfl; have := HF3.out.1; omega⟩
 · rcases HV5.out with h | ⟨b', h, hb'⟩
   · rcases HOW.out with k | ⟨b2, k, hb2⟩
     · rcases HOW1.out with m | ⟨b3, m, hb3⟩
       · exact .inl (h.trans (k.trans m))
       · exact .inr ⟨b3, h.trans (k.trans m), hb3⟩
     · exact .inr ⟨b2, h.trans k, by have h3 : W3.drew.heap.size = W3.heap.size := rfl; have := HF3.out.1; omega⟩
   · exact .inr ⟨b', h, by have := HF6.out.1; omega⟩
theorem add_calls (w0 : World) (a1 a2 a3 r : Nat) : ∀ (t : Tree) (W : World) (g : Nat) (ks : List Nat) (ts : List Tree) (out : List S166) (v : Value), AddSt w0 W a1 a2 a3 r ks ts out v → Drv W t g → ts.length + tsz t ≤ 1000 →
 Calls Try.prog 110 #[.pointer (some ⟨g, 0, none⟩), .pointer (some ⟨a1, 0, none⟩), .pointer (some ⟨a2, 0, none⟩), .pointer (some ⟨a3, 0, none⟩)] W (AddPost w0 W a1 a2 a3 r ks ts v t g) := by
 intro t
 induction t with
 | line i =>
  intro W g ks ts out v h hd hs
  cases hq : posIn g ks with
  | some q => exact add_old w0 W a1 a2 a3 r ks ts out v _ g q h hd hq
  | none => exact add_line w0 a1 a2 a3 r i W ks ts out v g h hd hs (posIn_none.1 hq)
 | half t ih =>
  intro W g ks ts out v h hd hs
  cases hq : posIn g ks with
  | some q => exact add_old w0 W a1 a2 a3 r ks ts out v _ g q h hd hq
  | none => exact add_half w0 a1 a2 a3 r t ih W ks ts out v g h hd hs (posIn_none.1 hq)
 | sum t u ih1 ih2 =>
  intro W g ks ts out v h hd hs
  cases hq : posIn g ks with
  | some q => exact add_old w0 W a1 a2 a3 r ks ts out v _ g q h hd hq
  | none => exact add_sum w0 a1 a2 a3 r t u ih1 ih2 W ks ts out v g h hd hs (posIn_none.1 hq)
end Go.Proofs.Ytmoiickbgokloaa.PA
