-- Printed by a session's own program (wip/turnprint.py, wip/myprint.sh) over the translation's print. -- slim -- short -- s4
import Derived.Test.YtjenkcgjpdappaaPx0
import Derived.Test.YtjenkcgjpdappaaPx2
import Derived.Test.YtjenkcgjpdappaaPx3
import Derived.Test.YtjenkcgjpdappaaPx4
import Derived.Test.YtjenkcgjpdappaaPx5
import Derived.Test.YtjenkcgjpdappaaPx11
import Derived.Test.YtjenkcgjpdappaaPx9
import Derived.Test.YtjenkcgjpdappaaPx15
import Derived.Test.YtjenkcgjpdappaaPx16
import Derived.Test.YtjenkcgjpdappaaPx17
namespace Go.Proofs.Ytjenkcgjpdappaa.P
open Go.RowKit Go.Proofs.YtjenkcgjpdappaaW.PrintWords Go.Proofs.YtjenkcgjpdappaaW.PrintLast Go.Proofs.YtjenkcgjpdappaaW.PrintMore
attribute [local go_sem] max2_int min2_int max_two min_two max_three min_three max_four min_four   -- for this text's walks alone
set_option linter.unusedVariables false
set_option linter.unusedSimpArgs false

attribute [local go_sem high] eqA27
/-! ### perilunelaw23_JobsRequest: function 8 -/
def perilunelaw23_JobsRequest.f (k : Nat) (aP : Bool) (aQ : Int) (aR : Int) (aS : Int) (aT : Bool) (aU : Int) (aV : Bool) (aW : Int) (aX : Int) (aY : Int) (ag : Bool) (ah : Int) (ai : Bool) (aj : Int) (ak : Int) (al : Int) (am : Bool) (an : Int) (ao : Bool) (ap : Int) (aq : Int) (ar : Int) (au : Bool) (av : Int) (aw : Bool) (ax : Int) (ay : Int) (az : Int) (aA : Bool) (aB : Int) (aC : Bool) (aD : Int) (aE : Int) (aF : Int) (aG : Bool) (aH : Int) (aI : Bool) (aJ : Int) (aK : Int) (aL : Int) (aM : Bool) (aN : Int) (aO : Int) (a1 : Int) (a2 : Int) (a3 : Int) : Option (Bool) := (jobs_Request.f k aP aQ aR aS aT aU aV aW aX aY ag ah ai aj ak al am an ao ap aq ar au av aw ax ay az aA aB aC aD aE aF aG aH aI aJ aK aL aM aN aO a1 a2 a3).bind fun af => ((periluneref23_Request.f k aP aQ aR aS aT aU aV aW aX aY ag ah ai aj ak al am an ao ap aq ar au av aw ax ay az aA aB aC aD aE aF aG aH aI aJ aK aL aM aN aO a1 a2 a3).bind fun ae => (if (((af.1 == ae.1 && (af.2.1 == ae.2.1 && (af.2.2.1 == ae.2.2.1 && (af.2.2.2.1 == ae.2.2.2.1 && (af.2.2.2.2.1 == ae.2.2.2.2.1 && (af.2.2.2.2.2.1 == ae.2.2.2.2.2.1)))))) && ((af.2.2.2.2.2.2.1 == ae.2.2.2.2.2.2.1 && (af.2.2.2.2.2.2.2.1 == ae.2.2.2.2.2.2.2.1 && (af.2.2.2.2.2.2.2.2.1 == ae.2.2.2.2.2.2.2.2.1 && (af.2.2.2.2.2.2.2.2.2.1 == ae.2.2.2.2.2.2.2.2.2.1 && (af.2.2.2.2.2.2.2.2.2.2.1 == ae.2.2.2.2.2.2.2.2.2.2.1 && (af.2.2.2.2.2.2.2.2.2.2.2.1 == ae.2.2.2.2.2.2.2.2.2.2.2.1)))))) && ((af.2.2.2.2.2.2.2.2.2.2.2.2.1 == ae.2.2.2.2.2.2.2.2.2.2.2.2.1 && (af.2.2.2.2.2.2.2.2.2.2.2.2.2.1 == ae.2.2.2.2.2.2.2.2.2.2.2.2.2.1 && (af.2.2.2.2.2.2.2.2.2.2.2.2.2.2.1 == ae.2.2.2.2.2.2.2.2.2.2.2.2.2.2.1 && (af.2.2.2.2.2.2.2.2.2.2.2.2.2.2.2.1 == ae.2.2.2.2.2.2.2.2.2.2.2.2.2.2.2.1 && (af.2.2.2.2.2.2.2.2.2.2.2.2.2.2.2.2.1 == ae.2.2.2.2.2.2.2.2.2.2.2.2.2.2.2.2.1 && (af.2.2.2.2.2.2.2.2.2.2.2.2.2.2.2.2.2.1 == ae.2.2.2.2.2.2.2.2.2.2.2.2.2.2.2.2.2.1)))))) && ((af.2.2.2.2.2.2.2.2.2.2.2.2.2.2.2.2.2.2.1 == ae.2.2.2.2.2.2.2.2.2.2.2.2.2.2.2.2.2.2.1 && (af.2.2.2.2.2.2.2.2.2.2.2.2.2.2.2.2.2.2.2.1 == ae.2.2.2.2.2.2.2.2.2.2.2.2.2.2.2.2.2.2.2.1 && (af.2.2.2.2.2.2.2.2.2.2.2.2.2.2.2.2.2.2.2.2.1 == ae.2.2.2.2.2.2.2.2.2.2.2.2.2.2.2.2.2.2.2.2.1 && (af.2.2.2.2.2.2.2.2.2.2.2.2.2.2.2.2.2.2.2.2.2.1 == ae.2.2.2.2.2.2.2.2.2.2.2.2.2.2.2.2.2.2.2.2.2.1 && (af.2.2.2.2.2.2.2.2.2.2.2.2.2.2.2.2.2.2.2.2.2.2.1 == ae.2.2.2.2.2.2.2.2.2.2.2.2.2.2.2.2.2.2.2.2.2.2.1 && (af.2.2.2.2.2.2.2.2.2.2.2.2.2.2.2.2.2.2.2.2.2.2.2.1 == ae.2.2.2.2.2.2.2.2.2.2.2.2.2.2.2.2.2.2.2.2.2.2.2.1)))))) && ((af.2.2.2.2.2.2.2.2.2.2.2.2.2.2.2.2.2.2.2.2.2.2.2.2.1 == ae.2.2.2.2.2.2.2.2.2.2.2.2.2.2.2.2.2.2.2.2.2.2.2.2.1 && (af.2.2.2.2.2.2.2.2.2.2.2.2.2.2.2.2.2.2.2.2.2.2.2.2.2.1 == ae.2.2.2.2.2.2.2.2.2.2.2.2.2.2.2.2.2.2.2.2.2.2.2.2.2.1 && (af.2.2.2.2.2.2.2.2.2.2.2.2.2.2.2.2.2.2.2.2.2.2.2.2.2.2.1 == ae.2.2.2.2.2.2.2.2.2.2.2.2.2.2.2.2.2.2.2.2.2.2.2.2.2.2.1 && (af.2.2.2.2.2.2.2.2.2.2.2.2.2.2.2.2.2.2.2.2.2.2.2.2.2.2.2.1 == ae.2.2.2.2.2.2.2.2.2.2.2.2.2.2.2.2.2.2.2.2.2.2.2.2.2.2.2.1 && (af.2.2.2.2.2.2.2.2.2.2.2.2.2.2.2.2.2.2.2.2.2.2.2.2.2.2.2.2.1 == ae.2.2.2.2.2.2.2.2.2.2.2.2.2.2.2.2.2.2.2.2.2.2.2.2.2.2.2.2.1 && (af.2.2.2.2.2.2.2.2.2.2.2.2.2.2.2.2.2.2.2.2.2.2.2.2.2.2.2.2.2.1 == ae.2.2.2.2.2.2.2.2.2.2.2.2.2.2.2.2.2.2.2.2.2.2.2.2.2.2.2.2.2.1)))))) && ((af.2.2.2.2.2.2.2.2.2.2.2.2.2.2.2.2.2.2.2.2.2.2.2.2.2.2.2.2.2.2.1 == ae.2.2.2.2.2.2.2.2.2.2.2.2.2.2.2.2.2.2.2.2.2.2.2.2.2.2.2.2.2.2.1 && (af.2.2.2.2.2.2.2.2.2.2.2.2.2.2.2.2.2.2.2.2.2.2.2.2.2.2.2.2.2.2.2.1 == ae.2.2.2.2.2.2.2.2.2.2.2.2.2.2.2.2.2.2.2.2.2.2.2.2.2.2.2.2.2.2.2.1 && (af.2.2.2.2.2.2.2.2.2.2.2.2.2.2.2.2.2.2.2.2.2.2.2.2.2.2.2.2.2.2.2.2.1 == ae.2.2.2.2.2.2.2.2.2.2.2.2.2.2.2.2.2.2.2.2.2.2.2.2.2.2.2.2.2.2.2.2.1 && (af.2.2.2.2.2.2.2.2.2.2.2.2.2.2.2.2.2.2.2.2.2.2.2.2.2.2.2.2.2.2.2.2.2.1 == ae.2.2.2.2.2.2.2.2.2.2.2.2.2.2.2.2.2.2.2.2.2.2.2.2.2.2.2.2.2.2.2.2.2.1 && (af.2.2.2.2.2.2.2.2.2.2.2.2.2.2.2.2.2.2.2.2.2.2.2.2.2.2.2.2.2.2.2.2.2.2.1 == ae.2.2.2.2.2.2.2.2.2.2.2.2.2.2.2.2.2.2.2.2.2.2.2.2.2.2.2.2.2.2.2.2.2.2.1 && (af.2.2.2.2.2.2.2.2.2.2.2.2.2.2.2.2.2.2.2.2.2.2.2.2.2.2.2.2.2.2.2.2.2.2.2.1 == ae.2.2.2.2.2.2.2.2.2.2.2.2.2.2.2.2.2.2.2.2.2.2.2.2.2.2.2.2.2.2.2.2.2.2.2.1)))))) && ((af.2.2.2.2.2.2.2.2.2.2.2.2.2.2.2.2.2.2.2.2.2.2.2.2.2.2.2.2.2.2.2.2.2.2.2.2.1 == ae.2.2.2.2.2.2.2.2.2.2.2.2.2.2.2.2.2.2.2.2.2.2.2.2.2.2.2.2.2.2.2.2.2.2.2.2.1 && (af.2.2.2.2.2.2.2.2.2.2.2.2.2.2.2.2.2.2.2.2.2.2.2.2.2.2.2.2.2.2.2.2.2.2.2.2.2.1 == ae.2.2.2.2.2.2.2.2.2.2.2.2.2.2.2.2.2.2.2.2.2.2.2.2.2.2.2.2.2.2.2.2.2.2.2.2.2.1 && (af.2.2.2.2.2.2.2.2.2.2.2.2.2.2.2.2.2.2.2.2.2.2.2.2.2.2.2.2.2.2.2.2.2.2.2.2.2.2.1 == ae.2.2.2.2.2.2.2.2.2.2.2.2.2.2.2.2.2.2.2.2.2.2.2.2.2.2.2.2.2.2.2.2.2.2.2.2.2.2.1 && (af.2.2.2.2.2.2.2.2.2.2.2.2.2.2.2.2.2.2.2.2.2.2.2.2.2.2.2.2.2.2.2.2.2.2.2.2.2.2.2.1 == ae.2.2.2.2.2.2.2.2.2.2.2.2.2.2.2.2.2.2.2.2.2.2.2.2.2.2.2.2.2.2.2.2.2.2.2.2.2.2.2.1 && (af.2.2.2.2.2.2.2.2.2.2.2.2.2.2.2.2.2.2.2.2.2.2.2.2.2.2.2.2.2.2.2.2.2.2.2.2.2.2.2.2.1 == ae.2.2.2.2.2.2.2.2.2.2.2.2.2.2.2.2.2.2.2.2.2.2.2.2.2.2.2.2.2.2.2.2.2.2.2.2.2.2.2.2.1 && (af.2.2.2.2.2.2.2.2.2.2.2.2.2.2.2.2.2.2.2.2.2.2.2.2.2.2.2.2.2.2.2.2.2.2.2.2.2.2.2.2.2.1 == ae.2.2.2.2.2.2.2.2.2.2.2.2.2.2.2.2.2.2.2.2.2.2.2.2.2.2.2.2.2.2.2.2.2.2.2.2.2.2.2.2.2.1))))))))))))) && (af.2.2.2.2.2.2.2.2.2.2.2.2.2.2.2.2.2.2.2.2.2.2.2.2.2.2.2.2.2.2.2.2.2.2.2.2.2.2.2.2.2.2.1 == ae.2.2.2.2.2.2.2.2.2.2.2.2.2.2.2.2.2.2.2.2.2.2.2.2.2.2.2.2.2.2.2.2.2.2.2.2.2.2.2.2.2.2.1)) = true then (if af.2.2.2.2.2.2.2.2.2.2.2.2.2.2.2.2.2.2.2.2.2.2.2.2.2.2.2.2.2.2.2.2.2.2.2.2.2.2.2.2.2.2.2.1 = ae.2.2.2.2.2.2.2.2.2.2.2.2.2.2.2.2.2.2.2.2.2.2.2.2.2.2.2.2.2.2.2.2.2.2.2.2.2.2.2.2.2.2.2.1 then (if af.2.2.2.2.2.2.2.2.2.2.2.2.2.2.2.2.2.2.2.2.2.2.2.2.2.2.2.2.2.2.2.2.2.2.2.2.2.2.2.2.2.2.2.2 = ae.2.2.2.2.2.2.2.2.2.2.2.2.2.2.2.2.2.2.2.2.2.2.2.2.2.2.2.2.2.2.2.2.2.2.2.2.2.2.2.2.2.2.2.2 then ((jobs_Valid.f k aP aQ aR aS aT aU aV aW aX aY ag ah ai aj ak al am an ao ap aq ar au av aw ax ay az aA aB aC aD aE aF aG aH aI aJ aK aL aM aN aO).bind fun cG => ((periluneref23_Valid.f k aP aQ aR aS aT aU aV aW aX aY ag ah ai aj ak al am an ao ap aq ar au av aw ax ay az aA aB aC aD aE aF aG aH aI aJ aK aL aM aN aO).bind fun cD => (if (cG == cD) = true then ((jobs_Count.f k aP aQ aR aS aT aU aV aW aX aY ag ah ai aj ak al am an ao ap aq ar au av aw ax ay az aA aB aC aD aE aF aG aH aI aJ aK aL aM aN aO).bind fun cE => ((periluneref23_Count.f k aP aQ aR aS aT aU aV aW aX aY ag ah ai aj ak al am an ao ap aq ar au av aw ax ay az aA aB aC aD aE aF aG aH aI aJ aK aL aM aN aO).bind fun cC => (if cE = cC then ((jobs_New.f).bind fun aa => (if (((!aa.1 && (aa.2.1 == 0 && (aa.2.2.1 == 0 && (aa.2.2.2.1 == 0 && (!aa.2.2.2.2.1 && (aa.2.2.2.2.2.1 == 0)))))) && ((!aa.2.2.2.2.2.2.1 && (aa.2.2.2.2.2.2.2.1 == 0 && (aa.2.2.2.2.2.2.2.2.1 == 0 && (aa.2.2.2.2.2.2.2.2.2.1 == 0 && (!aa.2.2.2.2.2.2.2.2.2.2.1 && (aa.2.2.2.2.2.2.2.2.2.2.2.1 == 0)))))) && ((!aa.2.2.2.2.2.2.2.2.2.2.2.2.1 && (aa.2.2.2.2.2.2.2.2.2.2.2.2.2.1 == 0 && (aa.2.2.2.2.2.2.2.2.2.2.2.2.2.2.1 == 0 && (aa.2.2.2.2.2.2.2.2.2.2.2.2.2.2.2.1 == 0 && (!aa.2.2.2.2.2.2.2.2.2.2.2.2.2.2.2.2.1 && (aa.2.2.2.2.2.2.2.2.2.2.2.2.2.2.2.2.2.1 == 0)))))) && ((!aa.2.2.2.2.2.2.2.2.2.2.2.2.2.2.2.2.2.2.1 && (aa.2.2.2.2.2.2.2.2.2.2.2.2.2.2.2.2.2.2.2.1 == 0 && (aa.2.2.2.2.2.2.2.2.2.2.2.2.2.2.2.2.2.2.2.2.1 == 0 && (aa.2.2.2.2.2.2.2.2.2.2.2.2.2.2.2.2.2.2.2.2.2.1 == 0 && (!aa.2.2.2.2.2.2.2.2.2.2.2.2.2.2.2.2.2.2.2.2.2.2.1 && (aa.2.2.2.2.2.2.2.2.2.2.2.2.2.2.2.2.2.2.2.2.2.2.2.1 == 0)))))) && ((!aa.2.2.2.2.2.2.2.2.2.2.2.2.2.2.2.2.2.2.2.2.2.2.2.2.1 && (aa.2.2.2.2.2.2.2.2.2.2.2.2.2.2.2.2.2.2.2.2.2.2.2.2.2.1 == 0 && (aa.2.2.2.2.2.2.2.2.2.2.2.2.2.2.2.2.2.2.2.2.2.2.2.2.2.2.1 == 0 && (aa.2.2.2.2.2.2.2.2.2.2.2.2.2.2.2.2.2.2.2.2.2.2.2.2.2.2.2.1 == 0 && (!aa.2.2.2.2.2.2.2.2.2.2.2.2.2.2.2.2.2.2.2.2.2.2.2.2.2.2.2.2.1 && (aa.2.2.2.2.2.2.2.2.2.2.2.2.2.2.2.2.2.2.2.2.2.2.2.2.2.2.2.2.2.1 == 0)))))) && ((!aa.2.2.2.2.2.2.2.2.2.2.2.2.2.2.2.2.2.2.2.2.2.2.2.2.2.2.2.2.2.2.1 && (aa.2.2.2.2.2.2.2.2.2.2.2.2.2.2.2.2.2.2.2.2.2.2.2.2.2.2.2.2.2.2.2.1 == 0 && (aa.2.2.2.2.2.2.2.2.2.2.2.2.2.2.2.2.2.2.2.2.2.2.2.2.2.2.2.2.2.2.2.2.1 == 0 && (aa.2.2.2.2.2.2.2.2.2.2.2.2.2.2.2.2.2.2.2.2.2.2.2.2.2.2.2.2.2.2.2.2.2.1 == 0 && (!aa.2.2.2.2.2.2.2.2.2.2.2.2.2.2.2.2.2.2.2.2.2.2.2.2.2.2.2.2.2.2.2.2.2.2.1 && (aa.2.2.2.2.2.2.2.2.2.2.2.2.2.2.2.2.2.2.2.2.2.2.2.2.2.2.2.2.2.2.2.2.2.2.2.1 == 0)))))) && ((!aa.2.2.2.2.2.2.2.2.2.2.2.2.2.2.2.2.2.2.2.2.2.2.2.2.2.2.2.2.2.2.2.2.2.2.2.2.1 && (aa.2.2.2.2.2.2.2.2.2.2.2.2.2.2.2.2.2.2.2.2.2.2.2.2.2.2.2.2.2.2.2.2.2.2.2.2.2.1 == 0 && (aa.2.2.2.2.2.2.2.2.2.2.2.2.2.2.2.2.2.2.2.2.2.2.2.2.2.2.2.2.2.2.2.2.2.2.2.2.2.2.1 == 0 && (aa.2.2.2.2.2.2.2.2.2.2.2.2.2.2.2.2.2.2.2.2.2.2.2.2.2.2.2.2.2.2.2.2.2.2.2.2.2.2.2.1 == 0 && (!aa.2.2.2.2.2.2.2.2.2.2.2.2.2.2.2.2.2.2.2.2.2.2.2.2.2.2.2.2.2.2.2.2.2.2.2.2.2.2.2.2.1 && (aa.2.2.2.2.2.2.2.2.2.2.2.2.2.2.2.2.2.2.2.2.2.2.2.2.2.2.2.2.2.2.2.2.2.2.2.2.2.2.2.2.2.1 == 0))))))))))))) && (aa.2.2.2.2.2.2.2.2.2.2.2.2.2.2.2.2.2.2.2.2.2.2.2.2.2.2.2.2.2.2.2.2.2.2.2.2.2.2.2.2.2.2 == 0)) = true then ((perilunelaw23_live.f k).bind fun cF => (some cF)) else (some false))) else (some false)))) else (some false)))) else (some false)) else (some false)) else (some false)))
theorem perilunelaw23_JobsRequest.mono : ∀ a0 a1 a2 a3 a4 a5 a6 a7 a8 a9 a10 a11 a12 a13 a14 a15 a16 a17 a18 a19 a20 a21 a22 a23 a24 a25 a26 a27 a28 a29 a30 a31 a32 a33 a34 a35 a36 a37 a38 a39 a40 a41 a42 a43 a44 a45 k, LeO (perilunelaw23_JobsRequest.f k a0 a1 a2 a3 a4 a5 a6 a7 a8 a9 a10 a11 a12 a13 a14 a15 a16 a17 a18 a19 a20 a21 a22 a23 a24 a25 a26 a27 a28 a29 a30 a31 a32 a33 a34 a35 a36 a37 a38 a39 a40 a41 a42 a43 a44 a45) (perilunelaw23_JobsRequest.f (k + 1) a0 a1 a2 a3 a4 a5 a6 a7 a8 a9 a10 a11 a12 a13 a14 a15 a16 a17 a18 a19 a20 a21 a22 a23 a24 a25 a26 a27 a28 a29 a30 a31 a32 a33 a34 a35 a36 a37 a38 a39 a40 a41 a42 a43 a44 a45) := by
 intro a0 a1 a2 a3 a4 a5 a6 a7 a8 a9 a10 a11 a12 a13 a14 a15 a16 a17 a18 a19 a20 a21 a22 a23 a24 a25 a26 a27 a28 a29 a30 a31 a32 a33 a34 a35 a36 a37 a38 a39 a40 a41 a42 a43 a44 a45 k
 unfold perilunelaw23_JobsRequest.f
 repeat' first
   | (with_reducible apply jobs_Count.mono)
   | (with_reducible apply jobs_Request.mono)
   | (with_reducible apply jobs_Valid.mono)
   | (with_reducible apply perilunelaw23_live.mono)
   | (with_reducible apply periluneref23_Count.mono)
   | (with_reducible apply periluneref23_Request.mono)
   | (with_reducible apply periluneref23_Valid.mono)
   | (with_reducible exact LeO.refl _)
   | (with_reducible exact LeO.none _)
   | (with_reducible refine LeO.ite ?_ ?_)
   | (with_reducible refine LeO.bind ?_ (fun _ => ?_))
   | apply jobs_Count.mono
   | apply jobs_Request.mono
   | apply jobs_Valid.mono
   | apply perilunelaw23_live.mono
   | apply periluneref23_Count.mono
   | apply periluneref23_Request.mono
   | apply periluneref23_Valid.mono
   | exact LeO.none _
   | refine LeO.ite ?_ ?_
   | refine LeO.bind ?_ (fun _ => ?_)
def perilunelaw23_JobsRequest.T3 : Bool × List (List Nat × List Nat) := (true, [([], []), ([], []), ([0, 1], [0, 1]), ([2], [2]), ([3], [3]), ([3], [3]), ([4, 5, 3], [3, 4, 5]), ([3, 6], [3, 6]), ([7, 3], [7]), ([8], [8]), ([8], [8]), ([9, 10, 8], [8, 9, 10]), ([8, 11], [8, 11]), ([12, 8], [12]), ([13], [13]), ([14, 13, 13], [13, 14]), ([13], [13]), ([16, 15, 13], [13, 16]), ([15, 17, 13], [13, 15, 17]), ([13, 18], [13, 18]), ([19, 17], [19]), ([20], [20]), ([21, 20, 20], [20, 21]), ([20], [20]), ([23, 22, 20], [20, 23]), ([22, 24, 20], [20, 22, 24]), ([20, 25], [20, 25]), ([26, 24], [26]), ([27, 27], [27]), ([27], [27]), ([28, 29, 27], [27, 28, 29]), ([27, 30], [27, 30]), ([31, 28], [31]), ([32, 32], [32]), ([32, 33], [32, 33]), ([34, 33, 0, 1, 2, 3, 4, 5, 6, 7, 8, 9, 10, 11, 12, 13, 14, 15, 16, 17, 18, 19, 20, 21, 22, 23, 24, 25, 26, 27, 28, 29, 30, 31, 32, 33, 34], [34])])
def perilunelaw23_JobsRequest.B3 : List Nat := [0, 0, 3, 7, 15, 15, 63, 127, 255, 511, 511, 2047, 4095, 8191, 16383, 32767, 16383, 131071, 262143, 524287, 1048575, 2097151, 4194303, 2097151, 16777215, 33554431, 67108863, 134217727, 268435455, 268435455, 1073741823, 2147483647, 4294967295, 8589934591, 17179869183, 34359738367]
theorem perilunelaw23_JobsRequest.tab3 : rtab .any (opsOf Try.f8 3) = perilunelaw23_JobsRequest.T3 := by kernel_rfl
theorem perilunelaw23_JobsRequest.bits3 : waitsOk perilunelaw23_JobsRequest.T3.2 perilunelaw23_JobsRequest.B3 = true := by kernel_rfl
set_option maxHeartbeats 8000000 in
set_option maxRecDepth 100000 in
theorem perilunelaw23_JobsRequest.calls (k : Nat) (aP : Bool) (aQ : Int) (aR : Int) (aS : Int) (aT : Bool) (aU : Int) (aV : Bool) (aW : Int) (aX : Int) (aY : Int) (ag : Bool) (ah : Int) (ai : Bool) (aj : Int) (ak : Int) (al : Int) (am : Bool) (an : Int) (ao : Bool) (ap : Int) (aq : Int) (ar : Int) (au : Bool) (av : Int) (aw : Bool) (ax : Int) (ay : Int) (az : Int) (aA : Bool) (aB : Int) (aC : Bool) (aD : Int) (aE : Int) (aF : Int) (aG : Bool) (aH : Int) (aI : Bool) (aJ : Int) (aK : Int) (aL : Int) (aM : Bool) (aN : Int) (aO : Int) (a1 : Int) (a2 : Int) (a3 : Int) (r : Bool) (w : World) (h : perilunelaw23_JobsRequest.f k aP aQ aR aS aT aU aV aW aX aY ag ah ai aj ak al am an ao ap aq ar au av aw ax ay az aA aB aC aD aE aF aG aH aI aJ aK aL aM aN aO a1 a2 a3 = some r) (hT_ : Aside0 (r = true)) :
  Calls Try.prog 8 #[.agg #[.bool aP, .int .i64 aQ, .int .i64 aR, .int .i64 aS, .bool aT, .int .i64 aU, .bool aV, .int .i64 aW, .int .i64 aX, .int .i64 aY, .bool ag, .int .i64 ah, .bool ai, .int .i64 aj, .int .i64 ak, .int .i64 al, .bool am, .int .i64 an, .bool ao, .int .i64 ap, .int .i64 aq, .int .i64 ar, .bool au, .int .i64 av, .bool aw, .int .i64 ax, .int .i64 ay, .int .i64 az, .bool aA, .int .i64 aB, .bool aC, .int .i64 aD, .int .i64 aE, .int .i64 aF, .bool aG, .int .i64 aH, .bool aI, .int .i64 aJ, .int .i64 aK, .int .i64 aL, .bool aM, .int .i64 aN, .int .i64 aO], .int .i64 a1, .int .i64 a2, .int .i64 a3] w fun e w' => e = .returned (.bool r) ∧ Below w.heap.size w w' := by
 have hu27 := Try.underlying27
 have HB := Aside0.mk (Below.refl w.heap.size w)
 have H := h
 unfold perilunelaw23_JobsRequest.f at H
 clear h
 replace H := Option.bind_eq_some_iff.mp H
 obtain ⟨⟨bc, bd, be, bf, bg, bh, bi, bj, bk, bl, bm, bn, bo, bp, bq, br, bs, bt, bu, bv, bw, bx, bz, bA, bB, bC, bD, bE, bF, bG, bH, bI, bJ, bK, bL, bM, bN, bO, bP, bQ, bR, bS, bT, cK, cL⟩, A50, H⟩ := H
 try dsimp only at H
 have A5 := Aside0.mk A50
 clear A50
 replace H := Option.bind_eq_some_iff.mp H
 obtain ⟨⟨bU, bV, bW, bX, bY, bZ, b0, b1, b2, b3, b4, b5, b6, b7, b8, b9, ca, cb, cc, cd, ce, cf, cg, ch, ci, cj, ck, cl, cm, cn, co, cp, cq, cr, ct, cu, cv, cw, cx, cy, cz, cA, cB, cM, cN⟩, A60, H⟩ := H
 try dsimp only at H
 have A6 := Aside0.mk A60
 clear A60
 by_cases c7 : (((bc == bU && (bd == bV && (be == bW && (bf == bX && (bg == bY && (bh == bZ)))))) && ((bi == b0 && (bj == b1 && (bk == b2 && (bl == b3 && (bm == b4 && (bn == b5)))))) && ((bo == b6 && (bp == b7 && (bq == b8 && (br == b9 && (bs == ca && (bt == cb)))))) && ((bu == cc && (bv == cd && (bw == ce && (bx == cf && (bz == cg && (bA == ch)))))) && ((bB == ci && (bC == cj && (bD == ck && (bE == cl && (bF == cm && (bG == cn)))))) && ((bH == co && (bI == cp && (bJ == cq && (bK == cr && (bL == ct && (bM == cu)))))) && ((bN == cv && (bO == cw && (bP == cx && (bQ == cy && (bR == cz && (bS == cA))))))))))))) && (bT == cB)) = true
 ·rw [if_pos c7] at H
  have c7b0 : (((bc == bU && (bd == bV && (be == bW && (bf == bX && (bg == bY && (bh == bZ)))))) && ((bi == b0 && (bj == b1 && (bk == b2 && (bl == b3 && (bm == b4 && (bn == b5)))))) && ((bo == b6 && (bp == b7 && (bq == b8 && (br == b9 && (bs == ca && (bt == cb)))))) && ((bu == cc && (bv == cd && (bw == ce && (bx == cf && (bz == cg && (bA == ch)))))) && ((bB == ci && (bC == cj && (bD == ck && (bE == cl && (bF == cm && (bG == cn)))))) && ((bH == co && (bI == cp && (bJ == cq && (bK == cr && (bL == ct && (bM == cu)))))) && ((bN == cv && (bO == cw && (bP == cx && (bQ == cy && (bR == cz && (bS == cA))))))))))))) && (bT == cB)) = true := c7
  clear c7
  by_cases c8 : cK = cM
  ·rw [if_pos c8] at H
   have c8b0 : (cK == cM) = true := beq_iff_eq.mpr c8
   have c8b1 : (cK != cM) = false := bne_eq_false_iff_eq.mpr c8
   clear c8
   by_cases c9 : cL = cN
   ·rw [if_pos c9] at H
    have c9b0 : (cL == cN) = true := beq_iff_eq.mpr c9
    have c9b1 : (cL != cN) = false := bne_eq_false_iff_eq.mpr c9
    clear c9
    replace H := Option.bind_eq_some_iff.mp H
    obtain ⟨cG, A100, H⟩ := H
    try dsimp only at H
    have A10 := Aside0.mk A100
    clear A100
    replace H := Option.bind_eq_some_iff.mp H
    obtain ⟨cD, A110, H⟩ := H
    try dsimp only at H
    have A11 := Aside0.mk A110
    clear A110
    by_cases c12 : (cG == cD) = true
    ·rw [if_pos c12] at H
     have c12b0 : (cG == cD) = true := c12
     (try (have c12b1 : decide (cG = cD) = true := by simpa using c12))
     (try (have c12b2 : (cG == cD) = true := by simpa using c12))
     clear c12
     replace H := Option.bind_eq_some_iff.mp H
     obtain ⟨cE, A130, H⟩ := H
     try dsimp only at H
     have A13 := Aside0.mk A130
     clear A130
     replace H := Option.bind_eq_some_iff.mp H
     obtain ⟨cC, A140, H⟩ := H
     try dsimp only at H
     have A14 := Aside0.mk A140
     clear A140
     by_cases c15 : cE = cC
     ·rw [if_pos c15] at H
      have c15b0 : (cE == cC) = true := beq_iff_eq.mpr c15
      have c15b1 : (cE != cC) = false := bne_eq_false_iff_eq.mpr c15
      clear c15
      replace H := Option.bind_eq_some_iff.mp H
      obtain ⟨⟨cO, cP, cQ, cR, cS, cT, cU, cV, cW, cX, cY, cZ, c0, c1, c2, c3, c4, c5, c6, da, db, dc, dd, de, df, dg, dh, di, dj, dk, dl, dm, dn, dp, dq, dr, dt, du, dv, dw, dx, dy, dz⟩, A160, H⟩ := H
      try dsimp only at H
      have A16 := Aside0.mk A160
      clear A160
      by_cases c17 : (((!cO && (cP == 0 && (cQ == 0 && (cR == 0 && (!cS && (cT == 0)))))) && ((!cU && (cV == 0 && (cW == 0 && (cX == 0 && (!cY && (cZ == 0)))))) && ((!c0 && (c1 == 0 && (c2 == 0 && (c3 == 0 && (!c4 && (c5 == 0)))))) && ((!c6 && (da == 0 && (db == 0 && (dc == 0 && (!dd && (de == 0)))))) && ((!df && (dg == 0 && (dh == 0 && (di == 0 && (!dj && (dk == 0)))))) && ((!dl && (dm == 0 && (dn == 0 && (dp == 0 && (!dq && (dr == 0)))))) && ((!dt && (du == 0 && (dv == 0 && (dw == 0 && (!dx && (dy == 0))))))))))))) && (dz == 0)) = true
      ·rw [if_pos c17] at H
       have c17b0 : (((!cO && (cP == 0 && (cQ == 0 && (cR == 0 && (!cS && (cT == 0)))))) && ((!cU && (cV == 0 && (cW == 0 && (cX == 0 && (!cY && (cZ == 0)))))) && ((!c0 && (c1 == 0 && (c2 == 0 && (c3 == 0 && (!c4 && (c5 == 0)))))) && ((!c6 && (da == 0 && (db == 0 && (dc == 0 && (!dd && (de == 0)))))) && ((!df && (dg == 0 && (dh == 0 && (di == 0 && (!dj && (dk == 0)))))) && ((!dl && (dm == 0 && (dn == 0 && (dp == 0 && (!dq && (dr == 0)))))) && ((!dt && (du == 0 && (dv == 0 && (dw == 0 && (!dx && (dy == 0))))))))))))) && (dz == 0)) = true := c17
       clear c17
       replace H := Option.bind_eq_some_iff.mp H
       obtain ⟨cF, A180, H⟩ := H
       try dsimp only at H
       have A18 := Aside0.mk A180
       clear A180
       obtain rfl := Option.some.inj H
       go_enter Try.func8, Try.ntmps8
       try go_wp2_with (first | ((with_reducible refine gate_dst (N := 4) rfl ?_); refine box_event ?hg (N := 4) ?hd (cs := Jt aP aQ aR aS aT aU aV aW aX aY ag ah ai aj ak al am an ao ap aq ar au av aw ax ay az aA aB aC aD aE aF aG aH aI aJ aK aL aM aN aO) (t := 27) ?hr ?_; (case hd => rfl); (case hg => rfl); (case hr => first | (go_simp; done) | (go_simp; rfl)); intro ab hg w19 hbox hb; have aZ := Aside0.mk hbox; have GW907 := zhs HB hg; have cH := zhs HB hg; replace HB := zhB HB hb; clear hb hbox hg) | ((with_reducible refine gate_dst (N := 16) rfl ?_); refine seg_load_on (t := 27) (p := 4) (g := ab) (off := 0) (T := 27) (cur := Jt aP aQ aR aS aT aU aV aW aX aY ag ah ai aj ak al am an ao ap aq ar au av aw ax ay az aA aB aC aD aE aF aG aH aI aJ aK aL aM aN aO) (vs := Vt aP aQ aR aS aT aU aV aW aX aY ag ah ai aj ak al am an ao ap aq ar au av aw ax ay az aA aB aC aD aE aF aG aH aI aJ aK aL aM aN aO) ?hg ?ho ?hp ?hb Try.underlying27 ?hd ?hi ?hw ?_; (case ho => rfl); (case hg => first | rfl | (go_simp; done) | (simp [Region.wanted, yielded, *]; done)); (case hp => rfl); (case hb => exact (zbo aZ)); (case hd => rfl); (case hi => kernel_rfl); (case hw => rfl)) | ((with_reducible refine gate_callee (f := 16) rfl ?_); refine goesL_ (some 20) rfl rfl Try.func16 (by kernel_rfl) rfl #[.agg #[.bool aP, .int .i64 aQ, .int .i64 aR, .int .i64 aS, .bool aT, .int .i64 aU, .bool aV, .int .i64 aW, .int .i64 aX, .int .i64 aY, .bool ag, .int .i64 ah, .bool ai, .int .i64 aj, .int .i64 ak, .int .i64 al, .bool am, .int .i64 an, .bool ao, .int .i64 ap, .int .i64 aq, .int .i64 ar, .bool au, .int .i64 av, .bool aw, .int .i64 ax, .int .i64 ay, .int .i64 az, .bool aA, .int .i64 aB, .bool aC, .int .i64 aD, .int .i64 aE, .int .i64 aF, .bool aG, .int .i64 aH, .bool aI, .int .i64 aJ, .int .i64 aK, .int .i64 aL, .bool aM, .int .i64 aN, .int .i64 aO], .int .i64 a1, .int .i64 a2, .int .i64 a3] rfl (by (try simp only [List.map_toArray, List.map_cons, List.map_nil]); first | done | rfl | (simp only [List.length_drop, List.length_take]; rfl)) ?_; (with_reducible refine (jobs_Request.calls k aP aQ aR aS aT aU aV aW aX aY ag ah ai aj ak al am an ao ap aq ar au av aw ax ay az aA aB aC aD aE aF aG aH aI aJ aK aL aM aN aO a1 a2 a3 bc bd be bf bg bh bi bj bk bl bm bn bo bp bq br bs bt bu bv bw bx bz bA bB bC bD bE bF bG bH bI bJ bK bL bM bN bO bP bQ bR bS bT cK cL _ A5.out).mono ?_); rintro e w20 ⟨rfl, hb⟩; refine ⟨_, rfl, ?_⟩; replace aZ := zbB aZ hb; replace HB := zhB HB hb; (try clear hb); (try clear hb2); (try clear hk); (try clear hi)) | ((with_reducible refine gate_dst (N := 9) rfl ?_); refine box_event ?hg (N := 9) ?hd (cs := Jt false 0 0 0 false 0 false 0 0 0 false 0 false 0 0 0 false 0 false 0 0 0 false 0 false 0 0 0 false 0 false 0 0 0 false 0 false 0 0 0 false 0 0) (t := 27) ?hr ?_; (case hd => rfl); (case hg => rfl); (case hr => first | (go_simp; done) | (go_simp; rfl)); intro ac hg w21 hbox hb; have ba := Aside0.mk hbox; have GW953 := zhs HB hg; have cI := zhs HB hg; have dA := znl aZ hg; have NB953_907 := zng aZ hg; replace aZ := zbB aZ hb; replace HB := zhB HB hb; clear hb hbox hg) | ((with_reducible refine gate_store (t := 27) (p := 9) rfl ?_); refine seg_event (t := 27) (p := 9) (x := ?xo_w22) (g := ac) (off := 0) (T := 27) (cur := Jt false 0 0 0 false 0 false 0 0 0 false 0 false 0 0 0 false 0 false 0 0 0 false 0 false 0 0 0 false 0 false 0 0 0 false 0 false 0 0 0 false 0 0) (vs := Vt bc bd be bf bg bh bi bj bk bl bm bn bo bp bq br bs bt bu bv bw bx bz bA bB bC bD bE bF bG bH bI bJ bK bL bM bN bO bP bQ bR bS bT) (new := Jt bc bd be bf bg bh bi bj bk bl bm bn bo bp bq br bs bt bu bv bw bx bz bA bB bC bD bE bF bG bH bI bJ bK bL bM bN bO bP bQ bR bS bT) ?hg ?ho ?hn ?hp ?hv ?hb ?hi ?hf ?h1 ?hw ?_; (case ho => rfl); (case hg => rfl); (case hn => rfl); (case hp => rfl); (case hv => first | rfl | (go_simp; done) | (simp [*]; done)); (case hb => exact (zbo ba)); (case hi => kernel_rfl); (case hf => exact Nat.le_of_ble_eq_true rfl); (case h1 => rfl); (case hw => rfl); intro w22 hbox hg hbl; replace aZ := zbG aZ hg dA; replace ba := Aside0.mk hbox; replace HB := zhL hbl HB cI; clear hbox hg hbl) | ((with_reducible refine gate_dst (N := 25) rfl ?_); refine seg_load_on (t := 27) (p := 4) (g := ab) (off := 0) (T := 27) (cur := Jt aP aQ aR aS aT aU aV aW aX aY ag ah ai aj ak al am an ao ap aq ar au av aw ax ay az aA aB aC aD aE aF aG aH aI aJ aK aL aM aN aO) (vs := Vt aP aQ aR aS aT aU aV aW aX aY ag ah ai aj ak al am an ao ap aq ar au av aw ax ay az aA aB aC aD aE aF aG aH aI aJ aK aL aM aN aO) ?hg ?ho ?hp ?hb Try.underlying27 ?hd ?hi ?hw ?_; (case ho => rfl); (case hg => first | rfl | (go_simp; done) | (simp [Region.wanted, yielded, *]; done)); (case hp => rfl); (case hb => exact (zbo aZ)); (case hd => rfl); (case hi => kernel_rfl); (case hw => rfl)) | ((with_reducible refine gate_callee (f := 17) rfl ?_); refine goesL_ (some 29) rfl rfl Try.func17 (by kernel_rfl) rfl #[.agg #[.bool aP, .int .i64 aQ, .int .i64 aR, .int .i64 aS, .bool aT, .int .i64 aU, .bool aV, .int .i64 aW, .int .i64 aX, .int .i64 aY, .bool ag, .int .i64 ah, .bool ai, .int .i64 aj, .int .i64 ak, .int .i64 al, .bool am, .int .i64 an, .bool ao, .int .i64 ap, .int .i64 aq, .int .i64 ar, .bool au, .int .i64 av, .bool aw, .int .i64 ax, .int .i64 ay, .int .i64 az, .bool aA, .int .i64 aB, .bool aC, .int .i64 aD, .int .i64 aE, .int .i64 aF, .bool aG, .int .i64 aH, .bool aI, .int .i64 aJ, .int .i64 aK, .int .i64 aL, .bool aM, .int .i64 aN, .int .i64 aO], .int .i64 a1, .int .i64 a2, .int .i64 a3] rfl (by (try simp only [List.map_toArray, List.map_cons, List.map_nil]); first | done | rfl | (simp only [List.length_drop, List.length_take]; rfl)) ?_; (with_reducible refine (periluneref23_Request.calls k aP aQ aR aS aT aU aV aW aX aY ag ah ai aj ak al am an ao ap aq ar au av aw ax ay az aA aB aC aD aE aF aG aH aI aJ aK aL aM aN aO a1 a2 a3 bU bV bW bX bY bZ b0 b1 b2 b3 b4 b5 b6 b7 b8 b9 ca cb cc cd ce cf cg ch ci cj ck cl cm cn co cp cq cr ct cu cv cw cx cy cz cA cB cM cN _ A6.out).mono ?_); rintro e w23 ⟨rfl, hb⟩; refine ⟨_, rfl, ?_⟩; replace aZ := zbB aZ hb; replace ba := zbB ba hb; replace HB := zhB HB hb; (try clear hb); (try clear hb2); (try clear hk); (try clear hi)) | ((with_reducible refine gate_dst (N := 12) rfl ?_); refine box_event ?hg (N := 12) ?hd (cs := Jt false 0 0 0 false 0 false 0 0 0 false 0 false 0 0 0 false 0 false 0 0 0 false 0 false 0 0 0 false 0 false 0 0 0 false 0 false 0 0 0 false 0 0) (t := 27) ?hr ?_; (case hd => rfl); (case hg => rfl); (case hr => first | (go_simp; done) | (go_simp; rfl)); intro ad hg w24 hbox hb; have bb := Aside0.mk hbox; have GW999 := zhs HB hg; have cJ := zhs HB hg; have dB := znl aZ hg; have NB999_907 := zng aZ hg; have dC := znl ba hg; have NB999_953 := zng ba hg; replace aZ := zbB aZ hb; replace ba := zbB ba hb; replace HB := zhB HB hb; clear hb hbox hg) | ((with_reducible refine gate_store (t := 27) (p := 12) rfl ?_); refine seg_event (t := 27) (p := 12) (x := ?xo_w25) (g := ad) (off := 0) (T := 27) (cur := Jt false 0 0 0 false 0 false 0 0 0 false 0 false 0 0 0 false 0 false 0 0 0 false 0 false 0 0 0 false 0 false 0 0 0 false 0 false 0 0 0 false 0 0) (vs := Vt bU bV bW bX bY bZ b0 b1 b2 b3 b4 b5 b6 b7 b8 b9 ca cb cc cd ce cf cg ch ci cj ck cl cm cn co cp cq cr ct cu cv cw cx cy cz cA cB) (new := Jt bU bV bW bX bY bZ b0 b1 b2 b3 b4 b5 b6 b7 b8 b9 ca cb cc cd ce cf cg ch ci cj ck cl cm cn co cp cq cr ct cu cv cw cx cy cz cA cB) ?hg ?ho ?hn ?hp ?hv ?hb ?hi ?hf ?h1 ?hw ?_; (case ho => rfl); (case hg => rfl); (case hn => rfl); (case hp => rfl); (case hv => first | rfl | (go_simp; done) | (simp [*]; done)); (case hb => exact (zbo bb)); (case hi => kernel_rfl); (case hf => exact Nat.le_of_ble_eq_true rfl); (case h1 => rfl); (case hw => rfl); intro w25 hbox hg hbl; replace aZ := zbG aZ hg dB; replace ba := zbG ba hg dC; replace bb := Aside0.mk hbox; replace HB := zhL hbl HB cJ; clear hbox hg hbl))
       have n0_ := Aside0.mk (blk_drew aZ.out)
       have n1_ := Aside0.mk (blk_drew ba.out)
       have n2_ := Aside0.mk (blk_drew bb.out)
       have n3_ := Aside0.mk (below_drew1 HB.out)
       clear aZ
       clear ba
       clear bb
       clear HB
       have aZ := n0_
       have ba := n1_
       have bb := n2_
       have HB := n3_
       clear n0_ n1_ n2_ n3_
       refine start_ (n := 36) (S := fun w' => w'.heap[ac]? = some (.cells (Jt bc bd be bf bg bh bi bj bk bl bm bn bo bp bq br bs bt bu bv bw bx bz bA bB bC bD bE bF bG bH bI bJ bK bL bM bN bO bP bQ bR bS bT) 27 (0, 0)) ∧ w'.heap[ad]? = some (.cells (Jt bU bV bW bX bY bZ b0 b1 b2 b3 b4 b5 b6 b7 b8 b9 ca cb cc cd ce cf cg ch ci cj ck cl cm cn co cp cq cr ct cu cv cw cx cy cz cA cB) 27 (0, 0)) ∧ w'.heap[ab]? = some (.cells (Jt aP aQ aR aS aT aU aV aW aX aY ag ah ai aj ak al am an ao ap aq ar au av aw ax ay az aA aB aC aD aE aF aG aH aI aJ aK aL aM aN aO) 27 (0, 0))) (ds := []) #[false, false, false, false, false, false, false, false, false, false, false, false, false, false, false, false, false, false, false, false, false, false, false, false, false, false, false, false, false, false, false, false, false, false, false, false] (by kernel_rfl) rfl rfl ⟨ba.out, bb.out, aZ.out⟩ (fun hHeld => ?_); refine with_tabW perilunelaw23_JobsRequest.tab3 perilunelaw23_JobsRequest.bits3 (fun HT_ HW_ => ?_)
       generalize w25.drew = w26 at aZ ba bb HB hHeld ⊢
       refine take_ (i := 0) (N := some 33) (v := ?_) (a' := ?_) #[true, false, false, false, false, false, false, false, false, false, false, false, false, false, false, false, false, false, false, false, false, false, false, false, false, false, false, false, false, false, false, false, false, false, false, false] rfl rfl (take_ofW HT_.out HW_.out (by kernel_rfl)) (fun _ _ _ h => h) (Or.inl ⟨by rfl, ?_⟩) hHeld ?_ ?_
       rotate_left
       ·rintro w' ⟨b_gb953, b_gb999, b_gb907⟩
        first | (refine seg_load_run (t := 27) (p := ?p148q) (g := ac) (off := 0) (T := 27) (cur := Jt bc bd be bf bg bh bi bj bk bl bm bn bo bp bq br bs bt bu bv bw bx bz bA bB bC bD bE bF bG bH bI bJ bK bL bM bN bO bP bQ bR bS bT) (vs := Vt bc bd be bf bg bh bi bj bk bl bm bn bo bp bq br bs bt bu bv bw bx bz bA bB bC bD bE bF bG bH bI bJ bK bL bM bN bO bP bQ bR bS bT) ?ho ?hp b_gb953 Try.underlying27 ?hd ?hi ?hw; (case ho => rfl); (case hp => rfl); (case hd => rfl); (case hi => kernel_rfl); (case hw => rfl)) | (refine seg_load_run (t := 27) (p := ?p148q) (g := ad) (off := 0) (T := 27) (cur := Jt bU bV bW bX bY bZ b0 b1 b2 b3 b4 b5 b6 b7 b8 b9 ca cb cc cd ce cf cg ch ci cj ck cl cm cn co cp cq cr ct cu cv cw cx cy cz cA cB) (vs := Vt bU bV bW bX bY bZ b0 b1 b2 b3 b4 b5 b6 b7 b8 b9 ca cb cc cd ce cf cg ch ci cj ck cl cm cn co cp cq cr ct cu cv cw cx cy cz cA cB) ?ho ?hp b_gb999 Try.underlying27 ?hd ?hi ?hw; (case ho => rfl); (case hp => rfl); (case hd => rfl); (case hi => kernel_rfl); (case hw => rfl)) | (refine seg_load_run (t := 27) (p := ?p148q) (g := ab) (off := 0) (T := 27) (cur := Jt aP aQ aR aS aT aU aV aW aX aY ag ah ai aj ak al am an ao ap aq ar au av aw ax ay az aA aB aC aD aE aF aG aH aI aJ aK aL aM aN aO) (vs := Vt aP aQ aR aS aT aU aV aW aX aY ag ah ai aj ak al am an ao ap aq ar au av aw ax ay az aA aB aC aD aE aF aG aH aI aJ aK aL aM aN aO) ?ho ?hp b_gb907 Try.underlying27 ?hd ?hi ?hw; (case ho => rfl); (case hp => rfl); (case hd => rfl); (case hi => kernel_rfl); (case hw => rfl))
       rotate_left
       ·simp only [Act.put, List.setIfInBounds_toArray, List.set_cons_zero, List.set_cons_succ, i64_w, i32_w]
        rfl
       refine take_ (i := 1) (N := some 34) (v := ?_) (a' := ?_) #[true, true, false, false, false, false, false, false, false, false, false, false, false, false, false, false, false, false, false, false, false, false, false, false, false, false, false, false, false, false, false, false, false, false, false, false] rfl rfl (take_ofW HT_.out HW_.out (by kernel_rfl)) (fun _ _ _ h => h) (Or.inl ⟨by rfl, ?_⟩) hHeld ?_ ?_
       rotate_left
       ·rintro w' ⟨b_gb953, b_gb999, b_gb907⟩
        first | (refine seg_load_run (t := 27) (p := ?p155q) (g := ac) (off := 0) (T := 27) (cur := Jt bc bd be bf bg bh bi bj bk bl bm bn bo bp bq br bs bt bu bv bw bx bz bA bB bC bD bE bF bG bH bI bJ bK bL bM bN bO bP bQ bR bS bT) (vs := Vt bc bd be bf bg bh bi bj bk bl bm bn bo bp bq br bs bt bu bv bw bx bz bA bB bC bD bE bF bG bH bI bJ bK bL bM bN bO bP bQ bR bS bT) ?ho ?hp b_gb953 Try.underlying27 ?hd ?hi ?hw; (case ho => rfl); (case hp => rfl); (case hd => rfl); (case hi => kernel_rfl); (case hw => rfl)) | (refine seg_load_run (t := 27) (p := ?p155q) (g := ad) (off := 0) (T := 27) (cur := Jt bU bV bW bX bY bZ b0 b1 b2 b3 b4 b5 b6 b7 b8 b9 ca cb cc cd ce cf cg ch ci cj ck cl cm cn co cp cq cr ct cu cv cw cx cy cz cA cB) (vs := Vt bU bV bW bX bY bZ b0 b1 b2 b3 b4 b5 b6 b7 b8 b9 ca cb cc cd ce cf cg ch ci cj ck cl cm cn co cp cq cr ct cu cv cw cx cy cz cA cB) ?ho ?hp b_gb999 Try.underlying27 ?hd ?hi ?hw; (case ho => rfl); (case hp => rfl); (case hd => rfl); (case hi => kernel_rfl); (case hw => rfl)) | (refine seg_load_run (t := 27) (p := ?p155q) (g := ab) (off := 0) (T := 27) (cur := Jt aP aQ aR aS aT aU aV aW aX aY ag ah ai aj ak al am an ao ap aq ar au av aw ax ay az aA aB aC aD aE aF aG aH aI aJ aK aL aM aN aO) (vs := Vt aP aQ aR aS aT aU aV aW aX aY ag ah ai aj ak al am an ao ap aq ar au av aw ax ay az aA aB aC aD aE aF aG aH aI aJ aK aL aM aN aO) ?ho ?hp b_gb907 Try.underlying27 ?hd ?hi ?hw; (case ho => rfl); (case hp => rfl); (case hd => rfl); (case hi => kernel_rfl); (case hw => rfl))
       rotate_left
       ·simp only [Act.put, List.setIfInBounds_toArray, List.set_cons_zero, List.set_cons_succ, i64_w, i32_w]
        rfl
       refine pure_ (i := 2) (N := some 35) (v := ?_) (a' := ?_) #[true, true, true, false, false, false, false, false, false, false, false, false, false, false, false, false, false, false, false, false, false, false, false, false, false, false, false, false, false, false, false, false, false, false, false, false] rfl rfl (any_of HT_.out (by kernel_rfl)) (fun _ _ _ h => h) (Or.inl ⟨by rfl, ?_⟩) ?_ ?_
       rotate_left
       ·intro w'
        go_simp
        with_reducible rfl
       rotate_left
       ·simp only [Act.put, List.setIfInBounds_toArray, List.set_cons_zero, List.set_cons_succ, i64_w, i32_w]
        rfl
       refine pure_ (i := 3) (N := some 36) (v := ?_) (a' := ?_) #[true, true, true, true, false, false, false, false, false, false, false, false, false, false, false, false, false, false, false, false, false, false, false, false, false, false, false, false, false, false, false, false, false, false, false, false] rfl rfl (any_of HT_.out (by kernel_rfl)) (fun _ _ _ h => h) (Or.inl ⟨by rfl, ?_⟩) ?_ ?_
       rotate_left
       ·intro w'
        go_simp
        with_reducible rfl
       rotate_left
       ·simp only [Act.put, List.setIfInBounds_toArray, List.set_cons_zero, List.set_cons_succ, i64_w, i32_w]
        rfl
       refine pure_ (i := 4) (N := some 37) (v := ?_) (a' := ?_) #[true, true, true, true, true, false, false, false, false, false, false, false, false, false, false, false, false, false, false, false, false, false, false, false, false, false, false, false, false, false, false, false, false, false, false, false] rfl rfl (any_of HT_.out (by kernel_rfl)) (fun _ _ _ h => h) (Or.inl ⟨by rfl, ?_⟩) ?_ ?_
       rotate_left
       ·intro w'
        go_simp
        with_reducible rfl
       rotate_left
       ·simp only [Act.put, List.setIfInBounds_toArray, List.set_cons_zero, List.set_cons_succ, i64_w, i32_w]
        rfl
       refine pure_ (i := 5) (N := some 38) (v := ?_) (a' := ?_) #[true, true, true, true, true, true, false, false, false, false, false, false, false, false, false, false, false, false, false, false, false, false, false, false, false, false, false, false, false, false, false, false, false, false, false, false] rfl rfl (any_of HT_.out (by kernel_rfl)) (fun _ _ _ h => h) (Or.inl ⟨by rfl, ?_⟩) ?_ ?_
       rotate_left
       ·intro w'
        go_simp
        with_reducible rfl
       rotate_left
       ·simp only [Act.put, List.setIfInBounds_toArray, List.set_cons_zero, List.set_cons_succ, i64_w, i32_w]
        rfl
       refine pure_ (i := 6) (N := some 39) (v := ?_) (a' := ?_) #[true, true, true, true, true, true, true, false, false, false, false, false, false, false, false, false, false, false, false, false, false, false, false, false, false, false, false, false, false, false, false, false, false, false, false, false] rfl rfl (any_of HT_.out (by kernel_rfl)) (fun _ _ _ h => h) (Or.inl ⟨by rfl, ?_⟩) ?_ ?_
       rotate_left
       ·intro w'
        go_simp
        with_reducible rfl
       rotate_left
       ·simp only [Act.put, List.setIfInBounds_toArray, List.set_cons_zero, List.set_cons_succ, i64_w, i32_w]
        rfl
       refine pure_ (i := 7) (N := some 40) (v := ?_) (a' := ?_) #[true, true, true, true, true, true, true, true, false, false, false, false, false, false, false, false, false, false, false, false, false, false, false, false, false, false, false, false, false, false, false, false, false, false, false, false] rfl rfl (any_of HT_.out (by kernel_rfl)) (fun _ _ _ h => h) (Or.inl ⟨by rfl, ?_⟩) ?_ ?_
       rotate_left
       ·intro w'
        go_simp
        with_reducible rfl
       rotate_left
       ·simp only [Act.put, List.setIfInBounds_toArray, List.set_cons_zero, List.set_cons_succ, i64_w, i32_w]
        rfl
       refine pure_ (i := 8) (N := some 41) (v := ?_) (a' := ?_) #[true, true, true, true, true, true, true, true, true, false, false, false, false, false, false, false, false, false, false, false, false, false, false, false, false, false, false, false, false, false, false, false, false, false, false, false] rfl rfl (any_of HT_.out (by kernel_rfl)) (fun _ _ _ h => h) (Or.inl ⟨by rfl, ?_⟩) ?_ ?_
       rotate_left
       ·intro w'
        go_simp
        with_reducible rfl
       rotate_left
       ·simp only [Act.put, List.setIfInBounds_toArray, List.set_cons_zero, List.set_cons_succ, i64_w, i32_w]
        rfl
       refine pure_ (i := 9) (N := some 42) (v := ?_) (a' := ?_) #[true, true, true, true, true, true, true, true, true, true, false, false, false, false, false, false, false, false, false, false, false, false, false, false, false, false, false, false, false, false, false, false, false, false, false, false] rfl rfl (any_of HT_.out (by kernel_rfl)) (fun _ _ _ h => h) (Or.inl ⟨by rfl, ?_⟩) ?_ ?_
       rotate_left
       ·intro w'
        go_simp
        with_reducible rfl
       rotate_left
       ·simp only [Act.put, List.setIfInBounds_toArray, List.set_cons_zero, List.set_cons_succ, i64_w, i32_w]
        rfl
       refine pure_ (i := 10) (N := some 43) (v := ?_) (a' := ?_) #[true, true, true, true, true, true, true, true, true, true, true, false, false, false, false, false, false, false, false, false, false, false, false, false, false, false, false, false, false, false, false, false, false, false, false, false] rfl rfl (any_of HT_.out (by kernel_rfl)) (fun _ _ _ h => h) (Or.inl ⟨by rfl, ?_⟩) ?_ ?_
       rotate_left
       ·intro w'
        go_simp
        with_reducible rfl
       rotate_left
       ·simp only [Act.put, List.setIfInBounds_toArray, List.set_cons_zero, List.set_cons_succ, i64_w, i32_w]
        rfl
       refine pure_ (i := 11) (N := some 44) (v := ?_) (a' := ?_) #[true, true, true, true, true, true, true, true, true, true, true, true, false, false, false, false, false, false, false, false, false, false, false, false, false, false, false, false, false, false, false, false, false, false, false, false] rfl rfl (any_of HT_.out (by kernel_rfl)) (fun _ _ _ h => h) (Or.inl ⟨by rfl, ?_⟩) ?_ ?_
       rotate_left
       ·intro w'
        go_simp
        with_reducible rfl
       rotate_left
       ·simp only [Act.put, List.setIfInBounds_toArray, List.set_cons_zero, List.set_cons_succ, i64_w, i32_w]
        rfl
       refine pure_ (i := 12) (N := some 45) (v := ?_) (a' := ?_) #[true, true, true, true, true, true, true, true, true, true, true, true, true, false, false, false, false, false, false, false, false, false, false, false, false, false, false, false, false, false, false, false, false, false, false, false] rfl rfl (any_of HT_.out (by kernel_rfl)) (fun _ _ _ h => h) (Or.inl ⟨by rfl, ?_⟩) ?_ ?_
       rotate_left
       ·intro w'
        go_simp
        with_reducible rfl
       rotate_left
       ·simp only [Act.put, List.setIfInBounds_toArray, List.set_cons_zero, List.set_cons_succ, i64_w, i32_w]
        rfl
       refine pure_ (i := 13) (N := some 46) (v := ?_) (a' := ?_) #[true, true, true, true, true, true, true, true, true, true, true, true, true, true, false, false, false, false, false, false, false, false, false, false, false, false, false, false, false, false, false, false, false, false, false, false] rfl rfl (any_of HT_.out (by kernel_rfl)) (fun _ _ _ h => h) (Or.inl ⟨by rfl, ?_⟩) ?_ ?_
       rotate_left
       ·intro w'
        go_simp
        with_reducible rfl
       rotate_left
       ·simp only [Act.put, List.setIfInBounds_toArray, List.set_cons_zero, List.set_cons_succ, i64_w, i32_w]
        rfl
       refine take_ (i := 14) (N := some 47) (v := ?_) (a' := ?_) #[true, true, true, true, true, true, true, true, true, true, true, true, true, true, true, false, false, false, false, false, false, false, false, false, false, false, false, false, false, false, false, false, false, false, false, false] rfl rfl (take_ofW HT_.out HW_.out (by kernel_rfl)) (fun _ _ _ h => h) (Or.inl ⟨by rfl, ?_⟩) hHeld ?_ ?_
       rotate_left
       ·rintro w' ⟨b_gb953, b_gb999, b_gb907⟩
        first | (refine seg_load_run (t := 27) (p := ?p258q) (g := ac) (off := 0) (T := 27) (cur := Jt bc bd be bf bg bh bi bj bk bl bm bn bo bp bq br bs bt bu bv bw bx bz bA bB bC bD bE bF bG bH bI bJ bK bL bM bN bO bP bQ bR bS bT) (vs := Vt bc bd be bf bg bh bi bj bk bl bm bn bo bp bq br bs bt bu bv bw bx bz bA bB bC bD bE bF bG bH bI bJ bK bL bM bN bO bP bQ bR bS bT) ?ho ?hp b_gb953 Try.underlying27 ?hd ?hi ?hw; (case ho => rfl); (case hp => rfl); (case hd => rfl); (case hi => kernel_rfl); (case hw => rfl)) | (refine seg_load_run (t := 27) (p := ?p258q) (g := ad) (off := 0) (T := 27) (cur := Jt bU bV bW bX bY bZ b0 b1 b2 b3 b4 b5 b6 b7 b8 b9 ca cb cc cd ce cf cg ch ci cj ck cl cm cn co cp cq cr ct cu cv cw cx cy cz cA cB) (vs := Vt bU bV bW bX bY bZ b0 b1 b2 b3 b4 b5 b6 b7 b8 b9 ca cb cc cd ce cf cg ch ci cj ck cl cm cn co cp cq cr ct cu cv cw cx cy cz cA cB) ?ho ?hp b_gb999 Try.underlying27 ?hd ?hi ?hw; (case ho => rfl); (case hp => rfl); (case hd => rfl); (case hi => kernel_rfl); (case hw => rfl)) | (refine seg_load_run (t := 27) (p := ?p258q) (g := ab) (off := 0) (T := 27) (cur := Jt aP aQ aR aS aT aU aV aW aX aY ag ah ai aj ak al am an ao ap aq ar au av aw ax ay az aA aB aC aD aE aF aG aH aI aJ aK aL aM aN aO) (vs := Vt aP aQ aR aS aT aU aV aW aX aY ag ah ai aj ak al am an ao ap aq ar au av aw ax ay az aA aB aC aD aE aF aG aH aI aJ aK aL aM aN aO) ?ho ?hp b_gb907 Try.underlying27 ?hd ?hi ?hw; (case ho => rfl); (case hp => rfl); (case hd => rfl); (case hi => kernel_rfl); (case hw => rfl))
       rotate_left
       ·simp only [Act.put, List.setIfInBounds_toArray, List.set_cons_zero, List.set_cons_succ, i64_w, i32_w]
        rfl
       refine take_ (i := 16) (N := some 49) (v := ?_) (a' := ?_) #[true, true, true, true, true, true, true, true, true, true, true, true, true, true, true, false, true, false, false, false, false, false, false, false, false, false, false, false, false, false, false, false, false, false, false, false] rfl rfl (take_ofW HT_.out HW_.out (by kernel_rfl)) (fun _ _ _ h => h) (Or.inl ⟨by rfl, ?_⟩) hHeld ?_ ?_
       rotate_left
       ·rintro w' ⟨b_gb953, b_gb999, b_gb907⟩
        first | (refine seg_load_run (t := 27) (p := ?p265q) (g := ac) (off := 0) (T := 27) (cur := Jt bc bd be bf bg bh bi bj bk bl bm bn bo bp bq br bs bt bu bv bw bx bz bA bB bC bD bE bF bG bH bI bJ bK bL bM bN bO bP bQ bR bS bT) (vs := Vt bc bd be bf bg bh bi bj bk bl bm bn bo bp bq br bs bt bu bv bw bx bz bA bB bC bD bE bF bG bH bI bJ bK bL bM bN bO bP bQ bR bS bT) ?ho ?hp b_gb953 Try.underlying27 ?hd ?hi ?hw; (case ho => rfl); (case hp => rfl); (case hd => rfl); (case hi => kernel_rfl); (case hw => rfl)) | (refine seg_load_run (t := 27) (p := ?p265q) (g := ad) (off := 0) (T := 27) (cur := Jt bU bV bW bX bY bZ b0 b1 b2 b3 b4 b5 b6 b7 b8 b9 ca cb cc cd ce cf cg ch ci cj ck cl cm cn co cp cq cr ct cu cv cw cx cy cz cA cB) (vs := Vt bU bV bW bX bY bZ b0 b1 b2 b3 b4 b5 b6 b7 b8 b9 ca cb cc cd ce cf cg ch ci cj ck cl cm cn co cp cq cr ct cu cv cw cx cy cz cA cB) ?ho ?hp b_gb999 Try.underlying27 ?hd ?hi ?hw; (case ho => rfl); (case hp => rfl); (case hd => rfl); (case hi => kernel_rfl); (case hw => rfl)) | (refine seg_load_run (t := 27) (p := ?p265q) (g := ab) (off := 0) (T := 27) (cur := Jt aP aQ aR aS aT aU aV aW aX aY ag ah ai aj ak al am an ao ap aq ar au av aw ax ay az aA aB aC aD aE aF aG aH aI aJ aK aL aM aN aO) (vs := Vt aP aQ aR aS aT aU aV aW aX aY ag ah ai aj ak al am an ao ap aq ar au av aw ax ay az aA aB aC aD aE aF aG aH aI aJ aK aL aM aN aO) ?ho ?hp b_gb907 Try.underlying27 ?hd ?hi ?hw; (case ho => rfl); (case hp => rfl); (case hd => rfl); (case hi => kernel_rfl); (case hw => rfl))
       rotate_left
       ·simp only [Act.put, List.setIfInBounds_toArray, List.set_cons_zero, List.set_cons_succ, i64_w, i32_w]
        rfl
       refine one_ (i := 15) (N := some 48) #[true, true, true, true, true, true, true, true, true, true, true, true, true, true, true, true, true, false, false, false, false, false, false, false, false, false, false, false, false, false, false, false, false, false, false, false] rfl rfl (one_of HT_.out (by kernel_rfl)) (by decide) (fun K hK => ?_)
       refine goes_ Try.func23 (by kernel_rfl) rfl #[.agg #[.bool aP, .int .i64 aQ, .int .i64 aR, .int .i64 aS, .bool aT, .int .i64 aU, .bool aV, .int .i64 aW, .int .i64 aX, .int .i64 aY, .bool ag, .int .i64 ah, .bool ai, .int .i64 aj, .int .i64 ak, .int .i64 al, .bool am, .int .i64 an, .bool ao, .int .i64 ap, .int .i64 aq, .int .i64 ar, .bool au, .int .i64 av, .bool aw, .int .i64 ax, .int .i64 ay, .int .i64 az, .bool aA, .int .i64 aB, .bool aC, .int .i64 aD, .int .i64 aE, .int .i64 aF, .bool aG, .int .i64 aH, .bool aI, .int .i64 aJ, .int .i64 aK, .int .i64 aL, .bool aM, .int .i64 aN, .int .i64 aO]] (by rfl) rfl rfl (by (try simp only [List.map_toArray, List.map_cons, List.map_nil]); first | done | rfl | (simp only [List.length_drop, List.length_take]; rfl)) ?_
       with_reducible refine (jobs_Valid.calls k aP aQ aR aS aT aU aV aW aX aY ag ah ai aj ak al am an ao ap aq ar au av aw ax ay az aA aB aC aD aE aF aG aH aI aJ aK aL aM aN aO cG _ A10.out).mono ?_
       rintro e w27 ⟨rfl, hb⟩
       refine ⟨_, rfl, ?_⟩
       have n0_ := zbB aZ hb
       have n1_ := zbB ba hb
       have n2_ := zbB bb hb
       have n3_ := zhB HB hb
       clear aZ
       clear ba
       clear bb
       clear HB
       have aZ := n0_
       have ba := n1_
       have bb := n2_
       have HB := n3_
       clear n0_ n1_ n2_ n3_
       (try clear hb)
       (try clear hb2)
       (try clear hk)
       (try clear hi)
       refine hK.out _ _ ⟨ba.out, bb.out, aZ.out⟩ (fun hHeld => ?_)
       clear hK K
       refine norm_ (a' := ?_) ?_ ?_
       rotate_left
       ·show Act.put _ (some 48) _ = _
        simp only [Act.put, List.setIfInBounds_toArray, List.set_cons_zero, List.set_cons_succ, i64_w, i32_w]
        rfl
       refine one_ (i := 17) (N := some 50) #[true, true, true, true, true, true, true, true, true, true, true, true, true, true, true, true, true, true, false, false, false, false, false, false, false, false, false, false, false, false, false, false, false, false, false, false] rfl rfl (one_of HT_.out (by kernel_rfl)) (by decide) (fun K hK => ?_)
       refine goes_ Try.func14 (by kernel_rfl) rfl #[.agg #[.bool aP, .int .i64 aQ, .int .i64 aR, .int .i64 aS, .bool aT, .int .i64 aU, .bool aV, .int .i64 aW, .int .i64 aX, .int .i64 aY, .bool ag, .int .i64 ah, .bool ai, .int .i64 aj, .int .i64 ak, .int .i64 al, .bool am, .int .i64 an, .bool ao, .int .i64 ap, .int .i64 aq, .int .i64 ar, .bool au, .int .i64 av, .bool aw, .int .i64 ax, .int .i64 ay, .int .i64 az, .bool aA, .int .i64 aB, .bool aC, .int .i64 aD, .int .i64 aE, .int .i64 aF, .bool aG, .int .i64 aH, .bool aI, .int .i64 aJ, .int .i64 aK, .int .i64 aL, .bool aM, .int .i64 aN, .int .i64 aO]] (by rfl) rfl rfl (by (try simp only [List.map_toArray, List.map_cons, List.map_nil]); first | done | rfl | (simp only [List.length_drop, List.length_take]; rfl)) ?_
       with_reducible refine (periluneref23_Valid.calls k aP aQ aR aS aT aU aV aW aX aY ag ah ai aj ak al am an ao ap aq ar au av aw ax ay az aA aB aC aD aE aF aG aH aI aJ aK aL aM aN aO cD _ A11.out).mono ?_
       rintro e w28 ⟨rfl, hb⟩
       refine ⟨_, rfl, ?_⟩
       have n0_ := zbB aZ hb
       have n1_ := zbB ba hb
       have n2_ := zbB bb hb
       have n3_ := zhB HB hb
       clear aZ
       clear ba
       clear bb
       clear HB
       have aZ := n0_
       have ba := n1_
       have bb := n2_
       have HB := n3_
       clear n0_ n1_ n2_ n3_
       (try clear hb)
       (try clear hb2)
       (try clear hk)
       (try clear hi)
       refine hK.out _ _ ⟨ba.out, bb.out, aZ.out⟩ (fun hHeld => ?_)
       clear hK K
       refine norm_ (a' := ?_) ?_ ?_
       rotate_left
       ·show Act.put _ (some 50) _ = _
        simp only [Act.put, List.setIfInBounds_toArray, List.set_cons_zero, List.set_cons_succ, i64_w, i32_w]
        rfl
       refine pure_ (i := 18) (N := some 51) (v := ?_) (a' := ?_) #[true, true, true, true, true, true, true, true, true, true, true, true, true, true, true, true, true, true, true, false, false, false, false, false, false, false, false, false, false, false, false, false, false, false, false, false] rfl rfl (any_of HT_.out (by kernel_rfl)) (fun _ _ _ h => h) (Or.inl ⟨by rfl, ?_⟩) ?_ ?_
       rotate_left
       ·intro w'
        go_simp
        with_reducible rfl
       rotate_left
       ·simp only [Act.put, List.setIfInBounds_toArray, List.set_cons_zero, List.set_cons_succ, i64_w, i32_w]
        rfl
       refine pure_ (i := 19) (N := some 52) (v := ?_) (a' := ?_) #[true, true, true, true, true, true, true, true, true, true, true, true, true, true, true, true, true, true, true, true, false, false, false, false, false, false, false, false, false, false, false, false, false, false, false, false] rfl rfl (any_of HT_.out (by kernel_rfl)) (fun _ _ _ h => h) (Or.inl ⟨by rfl, ?_⟩) ?_ ?_
       rotate_left
       ·intro w'
        go_simp
        with_reducible rfl
       rotate_left
       ·simp only [Act.put, List.setIfInBounds_toArray, List.set_cons_zero, List.set_cons_succ, i64_w, i32_w]
        rfl
       refine pure_ (i := 20) (N := some 53) (v := ?_) (a' := ?_) #[true, true, true, true, true, true, true, true, true, true, true, true, true, true, true, true, true, true, true, true, true, false, false, false, false, false, false, false, false, false, false, false, false, false, false, false] rfl rfl (any_of HT_.out (by kernel_rfl)) (fun _ _ _ h => h) (Or.inl ⟨by rfl, ?_⟩) ?_ ?_
       rotate_left
       ·intro w'
        go_simp
        with_reducible rfl
       rotate_left
       ·simp only [Act.put, List.setIfInBounds_toArray, List.set_cons_zero, List.set_cons_succ, i64_w, i32_w]
        rfl
       refine take_ (i := 21) (N := some 54) (v := ?_) (a' := ?_) #[true, true, true, true, true, true, true, true, true, true, true, true, true, true, true, true, true, true, true, true, true, true, false, false, false, false, false, false, false, false, false, false, false, false, false, false] rfl rfl (take_ofW HT_.out HW_.out (by kernel_rfl)) (fun _ _ _ h => h) (Or.inl ⟨by rfl, ?_⟩) hHeld ?_ ?_
       rotate_left
       ·rintro w' ⟨b_gb953, b_gb999, b_gb907⟩
        first | (refine seg_load_run (t := 27) (p := ?p354q) (g := ac) (off := 0) (T := 27) (cur := Jt bc bd be bf bg bh bi bj bk bl bm bn bo bp bq br bs bt bu bv bw bx bz bA bB bC bD bE bF bG bH bI bJ bK bL bM bN bO bP bQ bR bS bT) (vs := Vt bc bd be bf bg bh bi bj bk bl bm bn bo bp bq br bs bt bu bv bw bx bz bA bB bC bD bE bF bG bH bI bJ bK bL bM bN bO bP bQ bR bS bT) ?ho ?hp b_gb953 Try.underlying27 ?hd ?hi ?hw; (case ho => rfl); (case hp => rfl); (case hd => rfl); (case hi => kernel_rfl); (case hw => rfl)) | (refine seg_load_run (t := 27) (p := ?p354q) (g := ad) (off := 0) (T := 27) (cur := Jt bU bV bW bX bY bZ b0 b1 b2 b3 b4 b5 b6 b7 b8 b9 ca cb cc cd ce cf cg ch ci cj ck cl cm cn co cp cq cr ct cu cv cw cx cy cz cA cB) (vs := Vt bU bV bW bX bY bZ b0 b1 b2 b3 b4 b5 b6 b7 b8 b9 ca cb cc cd ce cf cg ch ci cj ck cl cm cn co cp cq cr ct cu cv cw cx cy cz cA cB) ?ho ?hp b_gb999 Try.underlying27 ?hd ?hi ?hw; (case ho => rfl); (case hp => rfl); (case hd => rfl); (case hi => kernel_rfl); (case hw => rfl)) | (refine seg_load_run (t := 27) (p := ?p354q) (g := ab) (off := 0) (T := 27) (cur := Jt aP aQ aR aS aT aU aV aW aX aY ag ah ai aj ak al am an ao ap aq ar au av aw ax ay az aA aB aC aD aE aF aG aH aI aJ aK aL aM aN aO) (vs := Vt aP aQ aR aS aT aU aV aW aX aY ag ah ai aj ak al am an ao ap aq ar au av aw ax ay az aA aB aC aD aE aF aG aH aI aJ aK aL aM aN aO) ?ho ?hp b_gb907 Try.underlying27 ?hd ?hi ?hw; (case ho => rfl); (case hp => rfl); (case hd => rfl); (case hi => kernel_rfl); (case hw => rfl))
       rotate_left
       ·simp only [Act.put, List.setIfInBounds_toArray, List.set_cons_zero, List.set_cons_succ, i64_w, i32_w]
        rfl
       refine take_ (i := 23) (N := some 56) (v := ?_) (a' := ?_) #[true, true, true, true, true, true, true, true, true, true, true, true, true, true, true, true, true, true, true, true, true, true, false, true, false, false, false, false, false, false, false, false, false, false, false, false] rfl rfl (take_ofW HT_.out HW_.out (by kernel_rfl)) (fun _ _ _ h => h) (Or.inl ⟨by rfl, ?_⟩) hHeld ?_ ?_
       rotate_left
       ·rintro w' ⟨b_gb953, b_gb999, b_gb907⟩
        first | (refine seg_load_run (t := 27) (p := ?p361q) (g := ac) (off := 0) (T := 27) (cur := Jt bc bd be bf bg bh bi bj bk bl bm bn bo bp bq br bs bt bu bv bw bx bz bA bB bC bD bE bF bG bH bI bJ bK bL bM bN bO bP bQ bR bS bT) (vs := Vt bc bd be bf bg bh bi bj bk bl bm bn bo bp bq br bs bt bu bv bw bx bz bA bB bC bD bE bF bG bH bI bJ bK bL bM bN bO bP bQ bR bS bT) ?ho ?hp b_gb953 Try.underlying27 ?hd ?hi ?hw; (case ho => rfl); (case hp => rfl); (case hd => rfl); (case hi => kernel_rfl); (case hw => rfl)) | (refine seg_load_run (t := 27) (p := ?p361q) (g := ad) (off := 0) (T := 27) (cur := Jt bU bV bW bX bY bZ b0 b1 b2 b3 b4 b5 b6 b7 b8 b9 ca cb cc cd ce cf cg ch ci cj ck cl cm cn co cp cq cr ct cu cv cw cx cy cz cA cB) (vs := Vt bU bV bW bX bY bZ b0 b1 b2 b3 b4 b5 b6 b7 b8 b9 ca cb cc cd ce cf cg ch ci cj ck cl cm cn co cp cq cr ct cu cv cw cx cy cz cA cB) ?ho ?hp b_gb999 Try.underlying27 ?hd ?hi ?hw; (case ho => rfl); (case hp => rfl); (case hd => rfl); (case hi => kernel_rfl); (case hw => rfl)) | (refine seg_load_run (t := 27) (p := ?p361q) (g := ab) (off := 0) (T := 27) (cur := Jt aP aQ aR aS aT aU aV aW aX aY ag ah ai aj ak al am an ao ap aq ar au av aw ax ay az aA aB aC aD aE aF aG aH aI aJ aK aL aM aN aO) (vs := Vt aP aQ aR aS aT aU aV aW aX aY ag ah ai aj ak al am an ao ap aq ar au av aw ax ay az aA aB aC aD aE aF aG aH aI aJ aK aL aM aN aO) ?ho ?hp b_gb907 Try.underlying27 ?hd ?hi ?hw; (case ho => rfl); (case hp => rfl); (case hd => rfl); (case hi => kernel_rfl); (case hw => rfl))
       rotate_left
       ·simp only [Act.put, List.setIfInBounds_toArray, List.set_cons_zero, List.set_cons_succ, i64_w, i32_w]
        rfl
       refine one_ (i := 22) (N := some 55) #[true, true, true, true, true, true, true, true, true, true, true, true, true, true, true, true, true, true, true, true, true, true, true, true, false, false, false, false, false, false, false, false, false, false, false, false] rfl rfl (one_of HT_.out (by kernel_rfl)) (by decide) (fun K hK => ?_)
       refine goes_ Try.func24 (by kernel_rfl) rfl #[.agg #[.bool aP, .int .i64 aQ, .int .i64 aR, .int .i64 aS, .bool aT, .int .i64 aU, .bool aV, .int .i64 aW, .int .i64 aX, .int .i64 aY, .bool ag, .int .i64 ah, .bool ai, .int .i64 aj, .int .i64 ak, .int .i64 al, .bool am, .int .i64 an, .bool ao, .int .i64 ap, .int .i64 aq, .int .i64 ar, .bool au, .int .i64 av, .bool aw, .int .i64 ax, .int .i64 ay, .int .i64 az, .bool aA, .int .i64 aB, .bool aC, .int .i64 aD, .int .i64 aE, .int .i64 aF, .bool aG, .int .i64 aH, .bool aI, .int .i64 aJ, .int .i64 aK, .int .i64 aL, .bool aM, .int .i64 aN, .int .i64 aO]] (by rfl) rfl rfl (by (try simp only [List.map_toArray, List.map_cons, List.map_nil]); first | done | rfl | (simp only [List.length_drop, List.length_take]; rfl)) ?_
       with_reducible refine (jobs_Count.calls k aP aQ aR aS aT aU aV aW aX aY ag ah ai aj ak al am an ao ap aq ar au av aw ax ay az aA aB aC aD aE aF aG aH aI aJ aK aL aM aN aO cE _ A13.out).mono ?_
       rintro e w29 ⟨rfl, hb⟩
       refine ⟨_, rfl, ?_⟩
       have n0_ := zbB aZ hb
       have n1_ := zbB ba hb
       have n2_ := zbB bb hb
       have n3_ := zhB HB hb
       clear aZ
       clear ba
       clear bb
       clear HB
       have aZ := n0_
       have ba := n1_
       have bb := n2_
       have HB := n3_
       clear n0_ n1_ n2_ n3_
       (try clear hb)
       (try clear hb2)
       (try clear hk)
       (try clear hi)
       refine hK.out _ _ ⟨ba.out, bb.out, aZ.out⟩ (fun hHeld => ?_)
       clear hK K
       refine norm_ (a' := ?_) ?_ ?_
       rotate_left
       ·show Act.put _ (some 55) _ = _
        simp only [Act.put, List.setIfInBounds_toArray, List.set_cons_zero, List.set_cons_succ, i64_w, i32_w]
        rfl
       refine one_ (i := 24) (N := some 57) #[true, true, true, true, true, true, true, true, true, true, true, true, true, true, true, true, true, true, true, true, true, true, true, true, true, false, false, false, false, false, false, false, false, false, false, false] rfl rfl (one_of HT_.out (by kernel_rfl)) (by decide) (fun K hK => ?_)
       refine goes_ Try.func25 (by kernel_rfl) rfl #[.agg #[.bool aP, .int .i64 aQ, .int .i64 aR, .int .i64 aS, .bool aT, .int .i64 aU, .bool aV, .int .i64 aW, .int .i64 aX, .int .i64 aY, .bool ag, .int .i64 ah, .bool ai, .int .i64 aj, .int .i64 ak, .int .i64 al, .bool am, .int .i64 an, .bool ao, .int .i64 ap, .int .i64 aq, .int .i64 ar, .bool au, .int .i64 av, .bool aw, .int .i64 ax, .int .i64 ay, .int .i64 az, .bool aA, .int .i64 aB, .bool aC, .int .i64 aD, .int .i64 aE, .int .i64 aF, .bool aG, .int .i64 aH, .bool aI, .int .i64 aJ, .int .i64 aK, .int .i64 aL, .bool aM, .int .i64 aN, .int .i64 aO]] (by rfl) rfl rfl (by (try simp only [List.map_toArray, List.map_cons, List.map_nil]); first | done | rfl | (simp only [List.length_drop, List.length_take]; rfl)) ?_
       with_reducible refine (periluneref23_Count.calls k aP aQ aR aS aT aU aV aW aX aY ag ah ai aj ak al am an ao ap aq ar au av aw ax ay az aA aB aC aD aE aF aG aH aI aJ aK aL aM aN aO cC _ A14.out).mono ?_
       rintro e w30 ⟨rfl, hb⟩
       refine ⟨_, rfl, ?_⟩
       have n0_ := zbB aZ hb
       have n1_ := zbB ba hb
       have n2_ := zbB bb hb
       have n3_ := zhB HB hb
       clear aZ
       clear ba
       clear bb
       clear HB
       have aZ := n0_
       have ba := n1_
       have bb := n2_
       have HB := n3_
       clear n0_ n1_ n2_ n3_
       (try clear hb)
       (try clear hb2)
       (try clear hk)
       (try clear hi)
       refine hK.out _ _ ⟨ba.out, bb.out, aZ.out⟩ (fun hHeld => ?_)
       clear hK K
       refine norm_ (a' := ?_) ?_ ?_
       rotate_left
       ·show Act.put _ (some 57) _ = _
        simp only [Act.put, List.setIfInBounds_toArray, List.set_cons_zero, List.set_cons_succ, i64_w, i32_w]
        rfl
       refine pure_ (i := 25) (N := some 58) (v := ?_) (a' := ?_) #[true, true, true, true, true, true, true, true, true, true, true, true, true, true, true, true, true, true, true, true, true, true, true, true, true, true, false, false, false, false, false, false, false, false, false, false] rfl rfl (any_of HT_.out (by kernel_rfl)) (fun _ _ _ h => h) (Or.inl ⟨by rfl, ?_⟩) ?_ ?_
       rotate_left
       ·intro w'
        go_simp
        with_reducible rfl
       rotate_left
       ·simp only [Act.put, List.setIfInBounds_toArray, List.set_cons_zero, List.set_cons_succ, i64_w, i32_w]
        rfl
       refine pure_ (i := 26) (N := some 59) (v := ?_) (a' := ?_) #[true, true, true, true, true, true, true, true, true, true, true, true, true, true, true, true, true, true, true, true, true, true, true, true, true, true, true, false, false, false, false, false, false, false, false, false] rfl rfl (any_of HT_.out (by kernel_rfl)) (fun _ _ _ h => h) (Or.inl ⟨by rfl, ?_⟩) ?_ ?_
       rotate_left
       ·intro w'
        go_simp
        with_reducible rfl
       rotate_left
       ·simp only [Act.put, List.setIfInBounds_toArray, List.set_cons_zero, List.set_cons_succ, i64_w, i32_w]
        rfl
       refine pure_ (i := 27) (N := some 60) (v := ?_) (a' := ?_) #[true, true, true, true, true, true, true, true, true, true, true, true, true, true, true, true, true, true, true, true, true, true, true, true, true, true, true, true, false, false, false, false, false, false, false, false] rfl rfl (any_of HT_.out (by kernel_rfl)) (fun _ _ _ h => h) (Or.inl ⟨by rfl, ?_⟩) ?_ ?_
       rotate_left
       ·intro w'
        go_simp
        with_reducible rfl
       rotate_left
       ·simp only [Act.put, List.setIfInBounds_toArray, List.set_cons_zero, List.set_cons_succ, i64_w, i32_w]
        rfl
       refine pure_ (i := 29) (N := some 62) (v := ?_) (a' := ?_) #[true, true, true, true, true, true, true, true, true, true, true, true, true, true, true, true, true, true, true, true, true, true, true, true, true, true, true, true, false, true, false, false, false, false, false, false] rfl rfl (any_of HT_.out (by kernel_rfl)) (fun _ _ _ h => h) (Or.inl ⟨by rfl, ?_⟩) ?_ ?_
       rotate_left
       ·intro w'
        go_simp
        with_reducible rfl
       rotate_left
       ·simp only [Act.put, List.setIfInBounds_toArray, List.set_cons_zero, List.set_cons_succ, i64_w, i32_w]
        rfl
       refine one_ (i := 28) (N := some 61) #[true, true, true, true, true, true, true, true, true, true, true, true, true, true, true, true, true, true, true, true, true, true, true, true, true, true, true, true, true, true, false, false, false, false, false, false] rfl rfl (one_of HT_.out (by kernel_rfl)) (by decide) (fun K hK => ?_)
       refine goes_ Try.func12 (by kernel_rfl) rfl #[] (by rfl) rfl rfl (by (try simp only [List.map_toArray, List.map_cons, List.map_nil]); first | done | rfl | (simp only [List.length_drop, List.length_take]; rfl)) ?_
       with_reducible refine (jobs_New.calls  cO cP cQ cR cS cT cU cV cW cX cY cZ c0 c1 c2 c3 c4 c5 c6 da db dc dd de df dg dh di dj dk dl dm dn dp dq dr dt du dv dw dx dy dz _ A16.out).mono ?_
       rintro e w31 ⟨rfl, hb⟩
       refine ⟨_, rfl, ?_⟩
       have n0_ := zbB aZ hb
       have n1_ := zbB ba hb
       have n2_ := zbB bb hb
       have n3_ := zhB HB hb
       clear aZ
       clear ba
       clear bb
       clear HB
       have aZ := n0_
       have ba := n1_
       have bb := n2_
       have HB := n3_
       clear n0_ n1_ n2_ n3_
       (try clear hb)
       (try clear hb2)
       (try clear hk)
       (try clear hi)
       refine hK.out _ _ ⟨ba.out, bb.out, aZ.out⟩ (fun hHeld => ?_)
       clear hK K
       refine norm_ (a' := ?_) ?_ ?_
       rotate_left
       ·show Act.put _ (some 61) _ = _
        simp only [Act.put, List.setIfInBounds_toArray, List.set_cons_zero, List.set_cons_succ, i64_w, i32_w]
        rfl
       refine pure_ (i := 30) (N := some 63) (v := ?_) (a' := ?_) #[true, true, true, true, true, true, true, true, true, true, true, true, true, true, true, true, true, true, true, true, true, true, true, true, true, true, true, true, true, true, true, false, false, false, false, false] rfl rfl (any_of HT_.out (by kernel_rfl)) (fun _ _ _ h => h) (Or.inl ⟨by rfl, ?_⟩) ?_ ?_
       rotate_left
       ·intro w'
        go_simp
        with_reducible rfl
       rotate_left
       ·simp only [Act.put, List.setIfInBounds_toArray, List.set_cons_zero, List.set_cons_succ, i64_w, i32_w]
        rfl
       refine pure_ (i := 31) (N := some 64) (v := ?_) (a' := ?_) #[true, true, true, true, true, true, true, true, true, true, true, true, true, true, true, true, true, true, true, true, true, true, true, true, true, true, true, true, true, true, true, true, false, false, false, false] rfl rfl (any_of HT_.out (by kernel_rfl)) (fun _ _ _ h => h) (Or.inl ⟨by rfl, ?_⟩) ?_ ?_
       rotate_left
       ·intro w'
        go_simp
        with_reducible rfl
       rotate_left
       ·simp only [Act.put, List.setIfInBounds_toArray, List.set_cons_zero, List.set_cons_succ, i64_w, i32_w]
        rfl
       refine pure_ (i := 32) (N := some 65) (v := ?_) (a' := ?_) #[true, true, true, true, true, true, true, true, true, true, true, true, true, true, true, true, true, true, true, true, true, true, true, true, true, true, true, true, true, true, true, true, true, false, false, false] rfl rfl (any_of HT_.out (by kernel_rfl)) (fun _ _ _ h => h) (Or.inl ⟨by rfl, ?_⟩) ?_ ?_
       rotate_left
       ·intro w'
        go_simp
        with_reducible rfl
       rotate_left
       ·simp only [Act.put, List.setIfInBounds_toArray, List.set_cons_zero, List.set_cons_succ, i64_w, i32_w]
        rfl
       refine one_ (i := 33) (N := some 66) #[true, true, true, true, true, true, true, true, true, true, true, true, true, true, true, true, true, true, true, true, true, true, true, true, true, true, true, true, true, true, true, true, true, true, false, false] rfl rfl (one_of HT_.out (by kernel_rfl)) (by decide) (fun K hK => ?_)
       refine goes_ Try.func15 (by kernel_rfl) rfl #[] (by rfl) rfl rfl (by (try simp only [List.map_toArray, List.map_cons, List.map_nil]); first | done | rfl | (simp only [List.length_drop, List.length_take]; rfl)) ?_
       with_reducible refine (perilunelaw23_live.calls k  cF _ A18.out).mono ?_
       rintro e w32 ⟨rfl, hb⟩
       refine ⟨_, rfl, ?_⟩
       have n0_ := zbB aZ hb
       have n1_ := zbB ba hb
       have n2_ := zbB bb hb
       have n3_ := zhB HB hb
       clear aZ
       clear ba
       clear bb
       clear HB
       have aZ := n0_
       have ba := n1_
       have bb := n2_
       have HB := n3_
       clear n0_ n1_ n2_ n3_
       (try clear hb)
       (try clear hb2)
       (try clear hk)
       (try clear hi)
       refine hK.out _ _ ⟨ba.out, bb.out, aZ.out⟩ (fun hHeld => ?_)
       clear hK K
       refine norm_ (a' := ?_) ?_ ?_
       rotate_left
       ·show Act.put _ (some 66) _ = _
        simp only [Act.put, List.setIfInBounds_toArray, List.set_cons_zero, List.set_cons_succ, i64_w, i32_w]
        rfl
       refine pure_ (i := 34) (N := some 67) (v := ?_) (a' := ?_) #[true, true, true, true, true, true, true, true, true, true, true, true, true, true, true, true, true, true, true, true, true, true, true, true, true, true, true, true, true, true, true, true, true, true, true, false] rfl rfl (any_of HT_.out (by kernel_rfl)) (fun _ _ _ h => h) (Or.inl ⟨by rfl, ?_⟩) ?_ ?_
       rotate_left
       ·intro w'
        go_simp
        with_reducible rfl
       rotate_left
       ·simp only [Act.put, List.setIfInBounds_toArray, List.set_cons_zero, List.set_cons_succ, i64_w, i32_w]
        rfl
       refine pure_ (i := 35) (N := some 8) (v := ?_) (a' := ?_) #[true, true, true, true, true, true, true, true, true, true, true, true, true, true, true, true, true, true, true, true, true, true, true, true, true, true, true, true, true, true, true, true, true, true, true, true] rfl rfl (any_of HT_.out (by kernel_rfl)) (fun _ _ _ h => h) (Or.inl ⟨by rfl, ?_⟩) ?_ ?_
       rotate_left
       ·intro w'
        go_simp
        with_reducible rfl
       rotate_left
       ·simp only [Act.put, List.setIfInBounds_toArray, List.set_cons_zero, List.set_cons_succ, i64_w, i32_w]
        rfl
       refine done_ (done_of HT_.out (by kernel_rfl)) ?_
       try go_wp2
       go_ret
       exact ⟨by first | rfl | (simp [errW_none, errW_some] <;> rfl) | (simp [*, errW_none, errW_some] <;> rfl), zho HB⟩
      ·rw [if_neg c17] at H
       have c17b0 : (((!cO && (cP == 0 && (cQ == 0 && (cR == 0 && (!cS && (cT == 0)))))) && ((!cU && (cV == 0 && (cW == 0 && (cX == 0 && (!cY && (cZ == 0)))))) && ((!c0 && (c1 == 0 && (c2 == 0 && (c3 == 0 && (!c4 && (c5 == 0)))))) && ((!c6 && (da == 0 && (db == 0 && (dc == 0 && (!dd && (de == 0)))))) && ((!df && (dg == 0 && (dh == 0 && (di == 0 && (!dj && (dk == 0)))))) && ((!dl && (dm == 0 && (dn == 0 && (dp == 0 && (!dq && (dr == 0)))))) && ((!dt && (du == 0 && (dv == 0 && (dw == 0 && (!dx && (dy == 0))))))))))))) && (dz == 0)) = false := by simpa using c17
       clear c17
       exact absurd (Option.some.inj H) (by rw [hT_.out]; decide)
     ·rw [if_neg c15] at H
      have c15b0 : (cE == cC) = false := beq_eq_false_iff_ne.mpr c15
      have c15b1 : (cE != cC) = true := bne_iff_ne.mpr c15
      exact absurd (Option.some.inj H) (by rw [hT_.out]; decide)
    ·rw [if_neg c12] at H
     have c12b0 : (cG == cD) = false := by simpa using c12
     (try (have c12b1 : decide (cG = cD) = false := by simpa using c12))
     (try (have c12b2 : (cG == cD) = false := by simpa using c12))
     (try (have c12b3 : ¬ (cG = cD) := by simpa using c12))
     clear c12
     exact absurd (Option.some.inj H) (by rw [hT_.out]; decide)
   ·rw [if_neg c9] at H
    have c9b0 : (cL == cN) = false := beq_eq_false_iff_ne.mpr c9
    have c9b1 : (cL != cN) = true := bne_iff_ne.mpr c9
    exact absurd (Option.some.inj H) (by rw [hT_.out]; decide)
  ·rw [if_neg c8] at H
   have c8b0 : (cK == cM) = false := beq_eq_false_iff_ne.mpr c8
   have c8b1 : (cK != cM) = true := bne_iff_ne.mpr c8
   exact absurd (Option.some.inj H) (by rw [hT_.out]; decide)
 ·rw [if_neg c7] at H
  have c7b0 : (((bc == bU && (bd == bV && (be == bW && (bf == bX && (bg == bY && (bh == bZ)))))) && ((bi == b0 && (bj == b1 && (bk == b2 && (bl == b3 && (bm == b4 && (bn == b5)))))) && ((bo == b6 && (bp == b7 && (bq == b8 && (br == b9 && (bs == ca && (bt == cb)))))) && ((bu == cc && (bv == cd && (bw == ce && (bx == cf && (bz == cg && (bA == ch)))))) && ((bB == ci && (bC == cj && (bD == ck && (bE == cl && (bF == cm && (bG == cn)))))) && ((bH == co && (bI == cp && (bJ == cq && (bK == cr && (bL == ct && (bM == cu)))))) && ((bN == cv && (bO == cw && (bP == cx && (bQ == cy && (bR == cz && (bS == cA))))))))))))) && (bT == cB)) = false := by simpa using c7
  clear c7
  exact absurd (Option.some.inj H) (by rw [hT_.out]; decide)

end Go.Proofs.Ytjenkcgjpdappaa.P
