/- Walks, written by a program of mine (wip/tool); the kernel checks them. -/
import Derived.Test.YtcakdidcpoolcaaGreatDoorProg
import Derived.Test.YtcakdidcpoolcaaGreatDoorSqText
import Derived.Test.YtcakdidcpoolcaaGreatDoorBl25
import Derived.Test.YtcakdidcpoolcaaGreatDoorF25
import Derived.Test.YtcakdidcpoolcaaGreatDoorPI
import Derived.Test.YtcakdidcpoolcaaGreatDoorWAText
import Derived.Test.YtcakdidcpoolcaaGreatDoorWRText
import Derived.Test.YtcakdidcpoolcaaGreatDoorWBText
import Derived.Test.YtcakdidcpoolcaaGreatDoorWCText
import Derived.Test.YtcakdidcpoolcaaGreatDoorWDText
set_option maxRecDepth 100000
set_option maxHeartbeats 40000000
set_option linter.unusedVariables false
set_option linter.unusedSimpArgs false
namespace Go.Proofs.YtcakdidcpoolcaaGreatDoor.WI
open Go Go.RowKit Go.X Go.D Go.Proofs.YtcakdidcpoolcaaGreatDoor.WF Go.Proofs.YtcakdidcpoolcaaGreatDoor.WA Go.Proofs.YtcakdidcpoolcaaGreatDoor.WR Go.Proofs.YtcakdidcpoolcaaGreatDoor.WB Go.Proofs.YtcakdidcpoolcaaGreatDoor.WC Go.Proofs.YtcakdidcpoolcaaGreatDoor.WD
theorem en120 : Go.X.Enters Tryz.prog 120 := ⟨Tryz.f120, Tryz.func120, by kernel_rfl, by kernel_rfl⟩
theorem indexOf_w (N : Nat) (s : (List Int)) (pb : Int) (s_v : Value) (w : World) (S : Nat → Prop) (s_h : Rs rI (vH w S [] w) s_v s) (r : Int) (h : indexOf N s pb = some r) :
  Calls Tryz.prog 120 #[s_v, (zI pb)] w (Ret w (fun v w' => (zI r) = v ∧ True)) := by
 unfold indexOf at h
 have hL : vL w w [] [] := Go.X.Loc.begin0 w
 refine calls_of (l := [s_v, (zI pb)]) (rl := [.tmp 4]) (n := 19) Tryz.func120 rfl rfl rfl (zae rfl) ?_
 refine zaj (zaf rfl (zag (zak (v := (zI 0)) rfl ?_)))
 refine zan (zaj (zaj (zaf rfl (zag (zai (v := s_v) rfl ?_)))))
 refine zag (zbc (v := s_v) zav rfl s_h ?_)
 refine zag (zai (v := (zI 0)) rfl (zan ?_))
 obtain ⟨s10, hl10, g10⟩ := zec h
 refine zbs (fun e w' => ∃  (u : Env), (Sum.inl ()) = s10 ∧ e = upds [] u ∧ vL w w' [] [] ∧ Keep w.heap.size [] w [] w' ∧ True) ?_ ?_
 ·
  refine zbb ?_
  refine zcb hl10 (fun (ss : Int) (e : Env) (w' : World) => match ss with | x10 => ∃ (u : Env), e = upds [(0, s_v), (1, (zI pb)), (7, (zI (s.length : Int))), (8, (zI x10))] u ∧ vL w w' [] [] ∧ Keep w.heap.size [] w [] w' ∧ True) ⟨_, (zeg ⟨rfl, rfl, rfl, rfl, trivial⟩), hL, zbq, trivial⟩ ?_
  rintro x10 oo _ w10 ⟨u, rfl, hL10, K10, -⟩ h hd10
  rw [indexOf_b1] at h
  refine zaj (zaf rfl (zag (zci (x := x10) (y := (s.length : Int)) ((x10 : Int) < (s.length : Int)) rfl rfl zbd ?_)))
  refine zan (zaj ?_)
  refine zba ((x10 : Int) < (s.length : Int)) rfl (fun hc10 => ?_) (fun hc10 => ?_)
  ·
   replace h := ite_t hc10 h
   refine zbf (zaj (zbb (zaj (zaf rfl (zag (zai (v := (zI x10)) rfl ?_))))))
   refine zag (zak (v := (zI x10)) rfl ?_)
   refine zan (zaj (zaf rfl (zag (zai (v := (zI pb)) rfl ?_))))
   refine zag (zai (v := s_v) rfl ?_)
   refine zag (zai (v := (zI x10)) rfl ?_)
   obtain ⟨x11, n10, q11, q12, -, h⟩ := zix h
   have f10 := (s_h.mono (K10 S))
   obtain ⟨b10, o10, c10, vs10, q13, q14, f11, q15⟩ := zcw f10 q12
   obtain rfl := q15
   refine zag (zbp (r := rI) (v := s_v) (n := n10) (m := (o10 + n10 * rI.sz)) zav ti3 rfl q13 rfl q11 q12 rfl ?_)
   refine zag (zca (v := (zI x11)) zax rfl rfl zek f11 ?_)
   refine zag (zdp (x := pb) (y := x11) ((pb : Int) = x11) rfl rfl zbd (zan ?_))
   refine zba ((pb : Int) = x11) rfl (fun hc11 => ?_) (fun hc11 => ?_)
   ·
    replace h := ite_t hc11 h
    refine zaj (zaf rfl (zag (zai (v := (zI x10)) rfl ?_)))
    refine zag (zak (v := (zI x10)) rfl ?_)
    refine zan (zbi ?_)
    obtain rfl := zah h
    obtain rfl := hd10 _ rfl
    replace h := g10
    try dsimp only at h
    obtain rfl := zah h
    refine ⟨[(zI x10)], zrt, ⟨_, rfl, hL10.done, ?_⟩⟩
    exact zrt
   replace h := ite_f hc11 h
   refine zbf (zbn (zaf rfl (zag (zbz (x := x10) (y := 1) (z := (iw (x10 + 1))) rfl rfl rfl ?_))))
   refine zag (zai (v := (zI (iw (x10 + 1)))) rfl (zan ?_))
   obtain rfl := zah h
   refine zaq ⟨(iw (x10 + 1)), rfl, ?_⟩
   exact ⟨_, (zeg ⟨rfl, rfl, rfl, rfl, trivial⟩), hL10, K10, trivial⟩
  replace h := ite_f hc10 h
  refine zck rfl ?_
  obtain rfl := zah h
  obtain rfl := hd10 _ rfl
  replace h := g10
  try dsimp only at h
  refine zaq ?_
  exact ⟨_, rfl, (zeg trivial), hL10, K10, trivial⟩
 rintro _ w11 ⟨u, rfl, rfl, hL11, K11, -⟩
 replace h := g10
 try dsimp only at h
 refine zaj (zaf rfl (zag (zak (v := (zI (-1))) rfl ?_)))
 refine zan (zbi ?_)
 obtain rfl := zah h
 refine ⟨[(zI (-1))], zrt, ⟨_, rfl, hL11.done, ?_⟩⟩
 exact zrt
theorem containsOf_w (N : Nat) (s : (List Int)) (pb : Int) (s_v : Value) (w : World) (S : Nat → Prop) (s_h : Rs rI (vH w S [] w) s_v s) (r : Bool) (h : containsOf N s pb = some r) :
  Calls Tryz.prog 91 #[s_v, (zI pb)] w (Ret w (fun v w' => (zab r) = v ∧ True)) := by
 unfold containsOf at h
 have hL : vL w w [] [] := Go.X.Loc.begin0 w
 refine calls_of (l := [s_v, (zI pb)]) (rl := [.tmp 4]) (n := 9) Tryz.func91 rfl rfl rfl (zae rfl) ?_
 refine zaj (zaf rfl (zag (zak (v := zF) rfl ?_)))
 refine zan (zaj (zaf rfl (zag (zai (v := s_v) rfl ?_))))
 refine zag (zai (v := (zI pb)) rfl ?_)
 obtain ⟨r1, q2, h⟩ := zec h
 refine zag (zay en120 rfl rfl (indexOf_w N s pb s_v _ Any (s_h.mono vw_any) r1 q2) ?_)
 rintro _ w4 hE7 ⟨rfl, -⟩
 have hL5 := hL.ext hE7
 refine zag (OpY.geq (x := r1) (y := 0) ((r1 : Int) ≥ 0) rfl rfl zbd ?_)
 refine zag (zak (v := (zab (decide ((r1 : Int) ≥ 0)))) rfl ?_)
 refine zan (zbi ?_)
 obtain rfl := zah h
 refine ⟨[(zab (decide ((r1 : Int) ≥ 0)))], zrt, ⟨_, rfl, hL5.done, ?_⟩⟩
 exact zrt
end Go.Proofs.YtcakdidcpoolcaaGreatDoor.WI
