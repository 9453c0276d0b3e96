-- Printed by a session's own program (wip/turnprint.py, wip/myprint.sh) over the translation's print. -- slim -- short -- s4
import Derived.Test.YtjenkcgjpdappaaPx0
import Derived.Test.YtjenkcgjpdappaaPx1
import Derived.Test.YtjenkcgjpdappaaPx3
namespace Go.Proofs.Ytjenkcgjpdappaa.P
open Go.RowKit Go.Proofs.YtjenkcgjpdappaaW.PrintWords Go.Proofs.YtjenkcgjpdappaaW.PrintLast Go.Proofs.YtjenkcgjpdappaaW.PrintMore
attribute [local go_sem] max2_int min2_int max_two min_two max_three min_three max_four min_four   -- for this text's walks alone
set_option linter.unusedVariables false
set_option linter.unusedSimpArgs false

attribute [local go_sem high] eqA24
/-! ### jobs_Valid: function 23 -/
mutual
def jobs_Valid.j0 : Nat → Bool → Bool → Int → Int → Int → Bool → Int → Bool → Int → Int → Int → Bool → Int → Bool → Int → Int → Int → Bool → Int → Bool → Int → Int → Int → Bool → Int → Bool → Int → Int → Int → Bool → Int → Bool → Int → Int → Int → Bool → Int → Bool → Int → Int → Int → Bool → Int → Int → Option (Bool)
 | 0, _, _, _, _, _, _, _, _, _, _, _, _, _, _, _, _, _, _, _, _, _, _, _, _, _, _, _, _, _, _, _, _, _, _, _, _, _, _, _, _, _, _, _, _ => none
 | k + 1, x15, b9, ca, cw, cx, cy, cz, cb, cc, cA, cB, cC, cD, cd, ce, cE, cF, cG, cH, cf, cg, cI, cJ, cK, cL, ch, ci, cM, cN, cO, cP, cj, ck, cQ, cR, cS, cT, cl, cm, cU, cV, cW, cX, cY => if x15 = true then (some false) else (jobs_Valid.l0 k 0 b9 ca cw cx cy cz cb cc cA cB cC cD cd ce cE cF cG cH cf cg cI cJ cK cL ch ci cM cN cO cP cj ck cQ cR cS cT cl cm cU cV cW cX cY 0 0 0 0 0 0 0 b9 ca cw cx cy cz cb cc cA cB cC cD cd ce cE cF cG cH cf cg cI cJ cK cL ch ci cM cN cO cP cj ck cQ cR cS cT cl cm cU cV cW cX)
def jobs_Valid.l0 : Nat → Int → Bool → Int → Int → Int → Bool → Int → Bool → Int → Int → Int → Bool → Int → Bool → Int → Int → Int → Bool → Int → Bool → Int → Int → Int → Bool → Int → Bool → Int → Int → Int → Bool → Int → Bool → Int → Int → Int → Bool → Int → Bool → Int → Int → Int → Bool → Int → Int → Int → Int → Int → Int → Int → Int → Int → Bool → Int → Int → Int → Bool → Int → Bool → Int → Int → Int → Bool → Int → Bool → Int → Int → Int → Bool → Int → Bool → Int → Int → Int → Bool → Int → Bool → Int → Int → Int → Bool → Int → Bool → Int → Int → Int → Bool → Int → Bool → Int → Int → Int → Bool → Int → Option (Bool)
 | 0, _, _, _, _, _, _, _, _, _, _, _, _, _, _, _, _, _, _, _, _, _, _, _, _, _, _, _, _, _, _, _, _, _, _, _, _, _, _, _, _, _, _, _, _, _, _, _, _, _, _, _, _, _, _, _, _, _, _, _, _, _, _, _, _, _, _, _, _, _, _, _, _, _, _, _, _, _, _, _, _, _, _, _, _, _, _, _, _, _, _, _, _, _ => none
 | k + 1, bx, b9, ca, cw, cx, cy, cz, cb, cc, cA, cB, cC, cD, cd, ce, cE, cF, cG, cH, cf, cg, cI, cJ, cK, cL, ch, ci, cM, cN, cO, cP, cj, ck, cQ, cR, cS, cT, cl, cm, cU, cV, cW, cX, cY, bi, bj, bk, bl, bm, bn, bo, bH, bz, bI, bJ, cn, bK, bL, bA, bM, bN, co, bO, bP, bB, bQ, bR, cp, bS, bT, bC, bU, bV, cq, bW, bX, bD, bY, bZ, cr, b0, b1, bE, b2, b3, ct, b4, b5, bF, b6, b7, cu, b8 => if bx < 7 then (if 0 ≤ bx then (if pk7 bH bL bP bT bX b1 b5 bx = true then (if (pk7 bz bA bB bC bD bE bF bx) < 1 then (jobs_Valid.j2 k bx bx true b9 ca cw cx cy cz cb cc cA cB cC cD cd ce cE cF cG cH cf cg cI cJ cK cL ch ci cM cN cO cP cj ck cQ cR cS cT cl cm cU cV cW cX cY bi bj bk bl bm bn bo (pk7 bH bL bP bT bX b1 b5 bx) (pk7 bz bA bB bC bD bE bF bx) (pk7 bI bM bQ bU bY b2 b6 bx) (pk7 bJ bN bR bV bZ b3 b7 bx) (pk7 cn co cp cq cr ct cu bx) (pk7 bK bO bS bW b0 b4 b8 bx) bH bz bI bJ cn bK bL bA bM bN co bO bP bB bQ bR cp bS bT bC bU bV cq bW bX bD bY bZ cr b0 b1 bE b2 b3 ct b4 b5 bF b6 b7 cu b8) else (if (pk7 bz bA bB bC bD bE bF bx) > cY then (jobs_Valid.j2 k bx bx true b9 ca cw cx cy cz cb cc cA cB cC cD cd ce cE cF cG cH cf cg cI cJ cK cL ch ci cM cN cO cP cj ck cQ cR cS cT cl cm cU cV cW cX cY bi bj bk bl bm bn bo (pk7 bH bL bP bT bX b1 b5 bx) (pk7 bz bA bB bC bD bE bF bx) (pk7 bI bM bQ bU bY b2 b6 bx) (pk7 bJ bN bR bV bZ b3 b7 bx) (pk7 cn co cp cq cr ct cu bx) (pk7 bK bO bS bW b0 b4 b8 bx) bH bz bI bJ cn bK bL bA bM bN co bO bP bB bQ bR cp bS bT bC bU bV cq bW bX bD bY bZ cr b0 b1 bE b2 b3 ct b4 b5 bF b6 b7 cu b8) else ((jobs_fits.f k (pk7 bI bM bQ bU bY b2 b6 bx) (pk7 bJ bN bR bV bZ b3 b7 bx) (pk7 bK bO bS bW b0 b4 b8 bx)).bind fun kf => (jobs_Valid.j2 k bx bx (!kf) b9 ca cw cx cy cz cb cc cA cB cC cD cd ce cE cF cG cH cf cg cI cJ cK cL ch ci cM cN cO cP cj ck cQ cR cS cT cl cm cU cV cW cX cY bi bj bk bl bm bn bo (pk7 bH bL bP bT bX b1 b5 bx) (pk7 bz bA bB bC bD bE bF bx) (pk7 bI bM bQ bU bY b2 b6 bx) (pk7 bJ bN bR bV bZ b3 b7 bx) (pk7 cn co cp cq cr ct cu bx) (pk7 bK bO bS bW b0 b4 b8 bx) bH bz bI bJ cn bK bL bA bM bN co bO bP bB bQ bR cp bS bT bC bU bV cq bW bX bD bY bZ cr b0 b1 bE b2 b3 ct b4 b5 bF b6 b7 cu b8)))) else (if ((pk7 bH bL bP bT bX b1 b5 bx) || (!((pk7 bz bA bB bC bD bE bF bx) == 0) || (!((pk7 bI bM bQ bU bY b2 b6 bx) == 0) || (!((pk7 bJ bN bR bV bZ b3 b7 bx) == 0) || ((pk7 cn co cp cq cr ct cu bx) || (!((pk7 bK bO bS bW b0 b4 b8 bx) == 0))))))) = true then (some false) else (jobs_Valid.l0 k (wrap64 (bx + 1)) b9 ca cw cx cy cz cb cc cA cB cC cD cd ce cE cF cG cH cf cg cI cJ cK cL ch ci cM cN cO cP cj ck cQ cR cS cT cl cm cU cV cW cX cY bi bj bk bl bm bn bo bH bz bI bJ cn bK bL bA bM bN co bO bP bB bQ bR cp bS bT bC bU bV cq bW bX bD bY bZ cr b0 b1 bE b2 b3 ct b4 b5 bF b6 b7 cu b8))) else (none)) else (some true)
def jobs_Valid.j2 : Nat → Int → Int → Bool → Bool → Int → Int → Int → Bool → Int → Bool → Int → Int → Int → Bool → Int → Bool → Int → Int → Int → Bool → Int → Bool → Int → Int → Int → Bool → Int → Bool → Int → Int → Int → Bool → Int → Bool → Int → Int → Int → Bool → Int → Bool → Int → Int → Int → Bool → Int → Int → Int → Int → Int → Int → Int → Int → Int → Bool → Int → Int → Int → Bool → Int → Bool → Int → Int → Int → Bool → Int → Bool → Int → Int → Int → Bool → Int → Bool → Int → Int → Int → Bool → Int → Bool → Int → Int → Int → Bool → Int → Bool → Int → Int → Int → Bool → Int → Bool → Int → Int → Int → Bool → Int → Bool → Int → Int → Int → Bool → Int → Option (Bool)
 | 0, _, _, _, _, _, _, _, _, _, _, _, _, _, _, _, _, _, _, _, _, _, _, _, _, _, _, _, _, _, _, _, _, _, _, _, _, _, _, _, _, _, _, _, _, _, _, _, _, _, _, _, _, _, _, _, _, _, _, _, _, _, _, _, _, _, _, _, _, _, _, _, _, _, _, _, _, _, _, _, _, _, _, _, _, _, _, _, _, _, _, _, _, _, _, _, _, _, _, _, _, _ => none
 | k + 1, x4, bx, x47, b9, ca, cw, cx, cy, cz, cb, cc, cA, cB, cC, cD, cd, ce, cE, cF, cG, cH, cf, cg, cI, cJ, cK, cL, ch, ci, cM, cN, cO, cP, cj, ck, cQ, cR, cS, cT, cl, cm, cU, cV, cW, cX, cY, bi, bj, bk, bl, bm, bn, bo, db, c8, dc, bf, dd, de, bH, bz, bI, bJ, cn, bK, bL, bA, bM, bN, co, bO, bP, bB, bQ, bR, cp, bS, bT, bC, bU, bV, cq, bW, bX, bD, bY, bZ, cr, b0, b1, bE, b2, b3, ct, b4, b5, bF, b6, b7, cu, b8 => if x47 = true then (some false) else (if 0 ≤ bf then (if bf < 7 then (if bf = 0 then (jobs_Valid.j3 k x4 bx false b9 ca cw cx cy cz cb cc cA cB cC cD cd ce cE cF cG cH cf cg cI cJ cK cL ch ci cM cN cO cP cj ck cQ cR cS cT cl cm cU cV cW cX cY (pt 0 bf (wrap64 ((pk7 bi bj bk bl bm bn bo bf) + 1)) bi) (pt 1 bf (wrap64 ((pk7 bi bj bk bl bm bn bo bf) + 1)) bj) (pt 2 bf (wrap64 ((pk7 bi bj bk bl bm bn bo bf) + 1)) bk) (pt 3 bf (wrap64 ((pk7 bi bj bk bl bm bn bo bf) + 1)) bl) (pt 4 bf (wrap64 ((pk7 bi bj bk bl bm bn bo bf) + 1)) bm) (pt 5 bf (wrap64 ((pk7 bi bj bk bl bm bn bo bf) + 1)) bn) (pt 6 bf (wrap64 ((pk7 bi bj bk bl bm bn bo bf) + 1)) bo) db c8 dc bf dd de bH bz bI bJ cn bK bL bA bM bN co bO bP bB bQ bR cp bS bT bC bU bV cq bW bX bD bY bZ cr b0 b1 bE b2 b3 ct b4 b5 bF b6 b7 cu b8) else (jobs_Valid.j3 k x4 bx (decide ((pk7 (pt 0 bf (wrap64 ((pk7 bi bj bk bl bm bn bo bf) + 1)) bi) (pt 1 bf (wrap64 ((pk7 bi bj bk bl bm bn bo bf) + 1)) bj) (pt 2 bf (wrap64 ((pk7 bi bj bk bl bm bn bo bf) + 1)) bk) (pt 3 bf (wrap64 ((pk7 bi bj bk bl bm bn bo bf) + 1)) bl) (pt 4 bf (wrap64 ((pk7 bi bj bk bl bm bn bo bf) + 1)) bm) (pt 5 bf (wrap64 ((pk7 bi bj bk bl bm bn bo bf) + 1)) bn) (pt 6 bf (wrap64 ((pk7 bi bj bk bl bm bn bo bf) + 1)) bo) bf) > 1)) b9 ca cw cx cy cz cb cc cA cB cC cD cd ce cE cF cG cH cf cg cI cJ cK cL ch ci cM cN cO cP cj ck cQ cR cS cT cl cm cU cV cW cX cY (pt 0 bf (wrap64 ((pk7 bi bj bk bl bm bn bo bf) + 1)) bi) (pt 1 bf (wrap64 ((pk7 bi bj bk bl bm bn bo bf) + 1)) bj) (pt 2 bf (wrap64 ((pk7 bi bj bk bl bm bn bo bf) + 1)) bk) (pt 3 bf (wrap64 ((pk7 bi bj bk bl bm bn bo bf) + 1)) bl) (pt 4 bf (wrap64 ((pk7 bi bj bk bl bm bn bo bf) + 1)) bm) (pt 5 bf (wrap64 ((pk7 bi bj bk bl bm bn bo bf) + 1)) bn) (pt 6 bf (wrap64 ((pk7 bi bj bk bl bm bn bo bf) + 1)) bo) db c8 dc bf dd de bH bz bI bJ cn bK bL bA bM bN co bO bP bB bQ bR cp bS bT bC bU bV cq bW bX bD bY bZ cr b0 b1 bE b2 b3 ct b4 b5 bF b6 b7 cu b8)) else (none)) else (none))
def jobs_Valid.j3 : Nat → Int → Int → Bool → Bool → Int → Int → Int → Bool → Int → Bool → Int → Int → Int → Bool → Int → Bool → Int → Int → Int → Bool → Int → Bool → Int → Int → Int → Bool → Int → Bool → Int → Int → Int → Bool → Int → Bool → Int → Int → Int → Bool → Int → Bool → Int → Int → Int → Bool → Int → Int → Int → Int → Int → Int → Int → Int → Int → Bool → Int → Int → Int → Bool → Int → Bool → Int → Int → Int → Bool → Int → Bool → Int → Int → Int → Bool → Int → Bool → Int → Int → Int → Bool → Int → Bool → Int → Int → Int → Bool → Int → Bool → Int → Int → Int → Bool → Int → Bool → Int → Int → Int → Bool → Int → Bool → Int → Int → Int → Bool → Int → Option (Bool)
 | 0, _, _, _, _, _, _, _, _, _, _, _, _, _, _, _, _, _, _, _, _, _, _, _, _, _, _, _, _, _, _, _, _, _, _, _, _, _, _, _, _, _, _, _, _, _, _, _, _, _, _, _, _, _, _, _, _, _, _, _, _, _, _, _, _, _, _, _, _, _, _, _, _, _, _, _, _, _, _, _, _, _, _, _, _, _, _, _, _, _, _, _, _, _, _, _, _, _, _, _, _, _ => none
 | k + 1, x4, bx, x63, b9, ca, cw, cx, cy, cz, cb, cc, cA, cB, cC, cD, cd, ce, cE, cF, cG, cH, cf, cg, cI, cJ, cK, cL, ch, ci, cM, cN, cO, cP, cj, ck, cQ, cR, cS, cT, cl, cm, cU, cV, cW, cX, cY, bi, bj, bk, bl, bm, bn, bo, db, c8, dc, bf, dd, de, bH, bz, bI, bJ, cn, bK, bL, bA, bM, bN, co, bO, bP, bB, bQ, bR, cp, bS, bT, bC, bU, bV, cq, bW, bX, bD, bY, bZ, cr, b0, b1, bE, b2, b3, ct, b4, b5, bF, b6, b7, cu, b8 => if x63 = true then (some false) else (if 0 ≤ x4 then (if x4 < 7 then (jobs_Valid.l1 k bx x4 0 b9 ca cw cx cy cz cb cc cA cB cC cD cd ce cE cF cG cH cf cg cI cJ cK cL ch ci cM cN cO cP cj ck cQ cR cS cT cl cm cU cV cW cX cY bi bj bk bl bm bn bo db c8 dc bf dd de bH bz bI bJ cn bK bL bA bM bN co bO bP bB bQ bR cp bS bT bC bU bV cq bW bX bD bY bZ cr b0 b1 bE b2 b3 ct b4 b5 bF b6 b7 cu b8) else (none)) else (none))
def jobs_Valid.l1 : Nat → Int → Int → Int → Bool → Int → Int → Int → Bool → Int → Bool → Int → Int → Int → Bool → Int → Bool → Int → Int → Int → Bool → Int → Bool → Int → Int → Int → Bool → Int → Bool → Int → Int → Int → Bool → Int → Bool → Int → Int → Int → Bool → Int → Bool → Int → Int → Int → Bool → Int → Int → Int → Int → Int → Int → Int → Int → Int → Bool → Int → Int → Int → Bool → Int → Bool → Int → Int → Int → Bool → Int → Bool → Int → Int → Int → Bool → Int → Bool → Int → Int → Int → Bool → Int → Bool → Int → Int → Int → Bool → Int → Bool → Int → Int → Int → Bool → Int → Bool → Int → Int → Int → Bool → Int → Bool → Int → Int → Int → Bool → Int → Option (Bool)
 | 0, _, _, _, _, _, _, _, _, _, _, _, _, _, _, _, _, _, _, _, _, _, _, _, _, _, _, _, _, _, _, _, _, _, _, _, _, _, _, _, _, _, _, _, _, _, _, _, _, _, _, _, _, _, _, _, _, _, _, _, _, _, _, _, _, _, _, _, _, _, _, _, _, _, _, _, _, _, _, _, _, _, _, _, _, _, _, _, _, _, _, _, _, _, _, _, _, _, _, _, _, _ => none
 | k + 1, bx, x67, x68, b9, ca, cw, cx, cy, cz, cb, cc, cA, cB, cC, cD, cd, ce, cE, cF, cG, cH, cf, cg, cI, cJ, cK, cL, ch, ci, cM, cN, cO, cP, cj, ck, cQ, cR, cS, cT, cl, cm, cU, cV, cW, cX, cY, bi, bj, bk, bl, bm, bn, bo, db, c8, dc, bf, dd, de, bH, bz, bI, bJ, cn, bK, bL, bA, bM, bN, co, bO, bP, bB, bQ, bR, cp, bS, bT, bC, bU, bV, cq, bW, bX, bD, bY, bZ, cr, b0, b1, bE, b2, b3, ct, b4, b5, bF, b6, b7, cu, b8 => if x68 < x67 then (if 0 ≤ x67 then (if x67 < 7 then (if 0 ≤ x68 then (if pk7 b9 cb cd cf ch cj cl x68 = true then (if (pk7 ca cc ce cg ci ck cm x68) = c8 then (some false) else (jobs_Valid.l1 k bx x67 (wrap64 (x68 + 1)) b9 ca cw cx cy cz cb cc cA cB cC cD cd ce cE cF cG cH cf cg cI cJ cK cL ch ci cM cN cO cP cj ck cQ cR cS cT cl cm cU cV cW cX cY bi bj bk bl bm bn bo db c8 dc bf dd de bH bz bI bJ cn bK bL bA bM bN co bO bP bB bQ bR cp bS bT bC bU bV cq bW bX bD bY bZ cr b0 b1 bE b2 b3 ct b4 b5 bF b6 b7 cu b8)) else (jobs_Valid.l1 k bx x67 (wrap64 (x68 + 1)) b9 ca cw cx cy cz cb cc cA cB cC cD cd ce cE cF cG cH cf cg cI cJ cK cL ch ci cM cN cO cP cj ck cQ cR cS cT cl cm cU cV cW cX cY bi bj bk bl bm bn bo db c8 dc bf dd de bH bz bI bJ cn bK bL bA bM bN co bO bP bB bQ bR cp bS bT bC bU bV cq bW bX bD bY bZ cr b0 b1 bE b2 b3 ct b4 b5 bF b6 b7 cu b8)) else (none)) else (none)) else (none)) else (jobs_Valid.l0 k (wrap64 (bx + 1)) b9 ca cw cx cy cz cb cc cA cB cC cD cd ce cE cF cG cH cf cg cI cJ cK cL ch ci cM cN cO cP cj ck cQ cR cS cT cl cm cU cV cW cX cY bi bj bk bl bm bn bo bH bz bI bJ cn bK bL bA bM bN co bO bP bB bQ bR cp bS bT bC bU bV cq bW bX bD bY bZ cr b0 b1 bE b2 b3 ct b4 b5 bF b6 b7 cu b8)
end
def jobs_Valid.f (k : Nat) (aZ : Bool) (aW : Int) (bb : Int) (ah : Int) (be : Bool) (bc : Int) (ba : Bool) (aX : Int) (bd : Int) (ai : Int) (aQ : Bool) (aF : Int) (aA : Bool) (av : Int) (aG : Int) (ab : Int) (aR : Bool) (aH : Int) (aB : Bool) (aw : Int) (aI : Int) (ac : Int) (aS : Bool) (aJ : Int) (aC : Bool) (ax : Int) (aK : Int) (ad : Int) (aT : Bool) (aL : Int) (aD : Bool) (ay : Int) (aM : Int) (ae : Int) (aU : Bool) (aN : Int) (aE : Bool) (az : Int) (aO : Int) (af : Int) (aV : Bool) (aP : Int) (bh : Int) : Option (Bool) := if bh < 0 then (jobs_Valid.j0 k true aZ aW bb ah be bc ba aX bd ai aQ aF aA av aG ab aR aH aB aw aI ac aS aJ aC ax aK ad aT aL aD ay aM ae aU aN aE az aO af aV aP bh) else (jobs_Valid.j0 k (decide (bh > 1073741824)) aZ aW bb ah be bc ba aX bd ai aQ aF aA av aG ab aR aH aB aw aI ac aS aJ aC ax aK ad aT aL aD ay aM ae aU aN aE az aO af aV aP bh)
theorem jobs_Valid.mono_l : ∀ k, (∀ y0 y1 y2 y3 y4 y5 y6 y7 y8 y9 y10 y11 y12 y13 y14 y15 y16 y17 y18 y19 y20 y21 y22 y23 y24 y25 y26 y27 y28 y29 y30 y31 y32 y33 y34 y35 y36 y37 y38 y39 y40 y41 y42 y43, LeO (jobs_Valid.j0 k y0 y1 y2 y3 y4 y5 y6 y7 y8 y9 y10 y11 y12 y13 y14 y15 y16 y17 y18 y19 y20 y21 y22 y23 y24 y25 y26 y27 y28 y29 y30 y31 y32 y33 y34 y35 y36 y37 y38 y39 y40 y41 y42 y43) (jobs_Valid.j0 (k + 1) y0 y1 y2 y3 y4 y5 y6 y7 y8 y9 y10 y11 y12 y13 y14 y15 y16 y17 y18 y19 y20 y21 y22 y23 y24 y25 y26 y27 y28 y29 y30 y31 y32 y33 y34 y35 y36 y37 y38 y39 y40 y41 y42 y43)) ∧ (∀ y0 y1 y2 y3 y4 y5 y6 y7 y8 y9 y10 y11 y12 y13 y14 y15 y16 y17 y18 y19 y20 y21 y22 y23 y24 y25 y26 y27 y28 y29 y30 y31 y32 y33 y34 y35 y36 y37 y38 y39 y40 y41 y42 y43 y44 y45 y46 y47 y48 y49 y50 y51 y52 y53 y54 y55 y56 y57 y58 y59 y60 y61 y62 y63 y64 y65 y66 y67 y68 y69 y70 y71 y72 y73 y74 y75 y76 y77 y78 y79 y80 y81 y82 y83 y84 y85 y86 y87 y88 y89 y90 y91 y92, LeO (jobs_Valid.l0 k y0 y1 y2 y3 y4 y5 y6 y7 y8 y9 y10 y11 y12 y13 y14 y15 y16 y17 y18 y19 y20 y21 y22 y23 y24 y25 y26 y27 y28 y29 y30 y31 y32 y33 y34 y35 y36 y37 y38 y39 y40 y41 y42 y43 y44 y45 y46 y47 y48 y49 y50 y51 y52 y53 y54 y55 y56 y57 y58 y59 y60 y61 y62 y63 y64 y65 y66 y67 y68 y69 y70 y71 y72 y73 y74 y75 y76 y77 y78 y79 y80 y81 y82 y83 y84 y85 y86 y87 y88 y89 y90 y91 y92) (jobs_Valid.l0 (k + 1) y0 y1 y2 y3 y4 y5 y6 y7 y8 y9 y10 y11 y12 y13 y14 y15 y16 y17 y18 y19 y20 y21 y22 y23 y24 y25 y26 y27 y28 y29 y30 y31 y32 y33 y34 y35 y36 y37 y38 y39 y40 y41 y42 y43 y44 y45 y46 y47 y48 y49 y50 y51 y52 y53 y54 y55 y56 y57 y58 y59 y60 y61 y62 y63 y64 y65 y66 y67 y68 y69 y70 y71 y72 y73 y74 y75 y76 y77 y78 y79 y80 y81 y82 y83 y84 y85 y86 y87 y88 y89 y90 y91 y92)) ∧ (∀ y0 y1 y2 y3 y4 y5 y6 y7 y8 y9 y10 y11 y12 y13 y14 y15 y16 y17 y18 y19 y20 y21 y22 y23 y24 y25 y26 y27 y28 y29 y30 y31 y32 y33 y34 y35 y36 y37 y38 y39 y40 y41 y42 y43 y44 y45 y46 y47 y48 y49 y50 y51 y52 y53 y54 y55 y56 y57 y58 y59 y60 y61 y62 y63 y64 y65 y66 y67 y68 y69 y70 y71 y72 y73 y74 y75 y76 y77 y78 y79 y80 y81 y82 y83 y84 y85 y86 y87 y88 y89 y90 y91 y92 y93 y94 y95 y96 y97 y98 y99 y100, LeO (jobs_Valid.j2 k y0 y1 y2 y3 y4 y5 y6 y7 y8 y9 y10 y11 y12 y13 y14 y15 y16 y17 y18 y19 y20 y21 y22 y23 y24 y25 y26 y27 y28 y29 y30 y31 y32 y33 y34 y35 y36 y37 y38 y39 y40 y41 y42 y43 y44 y45 y46 y47 y48 y49 y50 y51 y52 y53 y54 y55 y56 y57 y58 y59 y60 y61 y62 y63 y64 y65 y66 y67 y68 y69 y70 y71 y72 y73 y74 y75 y76 y77 y78 y79 y80 y81 y82 y83 y84 y85 y86 y87 y88 y89 y90 y91 y92 y93 y94 y95 y96 y97 y98 y99 y100) (jobs_Valid.j2 (k + 1) y0 y1 y2 y3 y4 y5 y6 y7 y8 y9 y10 y11 y12 y13 y14 y15 y16 y17 y18 y19 y20 y21 y22 y23 y24 y25 y26 y27 y28 y29 y30 y31 y32 y33 y34 y35 y36 y37 y38 y39 y40 y41 y42 y43 y44 y45 y46 y47 y48 y49 y50 y51 y52 y53 y54 y55 y56 y57 y58 y59 y60 y61 y62 y63 y64 y65 y66 y67 y68 y69 y70 y71 y72 y73 y74 y75 y76 y77 y78 y79 y80 y81 y82 y83 y84 y85 y86 y87 y88 y89 y90 y91 y92 y93 y94 y95 y96 y97 y98 y99 y100)) ∧ (∀ y0 y1 y2 y3 y4 y5 y6 y7 y8 y9 y10 y11 y12 y13 y14 y15 y16 y17 y18 y19 y20 y21 y22 y23 y24 y25 y26 y27 y28 y29 y30 y31 y32 y33 y34 y35 y36 y37 y38 y39 y40 y41 y42 y43 y44 y45 y46 y47 y48 y49 y50 y51 y52 y53 y54 y55 y56 y57 y58 y59 y60 y61 y62 y63 y64 y65 y66 y67 y68 y69 y70 y71 y72 y73 y74 y75 y76 y77 y78 y79 y80 y81 y82 y83 y84 y85 y86 y87 y88 y89 y90 y91 y92 y93 y94 y95 y96 y97 y98 y99 y100, LeO (jobs_Valid.j3 k y0 y1 y2 y3 y4 y5 y6 y7 y8 y9 y10 y11 y12 y13 y14 y15 y16 y17 y18 y19 y20 y21 y22 y23 y24 y25 y26 y27 y28 y29 y30 y31 y32 y33 y34 y35 y36 y37 y38 y39 y40 y41 y42 y43 y44 y45 y46 y47 y48 y49 y50 y51 y52 y53 y54 y55 y56 y57 y58 y59 y60 y61 y62 y63 y64 y65 y66 y67 y68 y69 y70 y71 y72 y73 y74 y75 y76 y77 y78 y79 y80 y81 y82 y83 y84 y85 y86 y87 y88 y89 y90 y91 y92 y93 y94 y95 y96 y97 y98 y99 y100) (jobs_Valid.j3 (k + 1) y0 y1 y2 y3 y4 y5 y6 y7 y8 y9 y10 y11 y12 y13 y14 y15 y16 y17 y18 y19 y20 y21 y22 y23 y24 y25 y26 y27 y28 y29 y30 y31 y32 y33 y34 y35 y36 y37 y38 y39 y40 y41 y42 y43 y44 y45 y46 y47 y48 y49 y50 y51 y52 y53 y54 y55 y56 y57 y58 y59 y60 y61 y62 y63 y64 y65 y66 y67 y68 y69 y70 y71 y72 y73 y74 y75 y76 y77 y78 y79 y80 y81 y82 y83 y84 y85 y86 y87 y88 y89 y90 y91 y92 y93 y94 y95 y96 y97 y98 y99 y100)) ∧ (∀ y0 y1 y2 y3 y4 y5 y6 y7 y8 y9 y10 y11 y12 y13 y14 y15 y16 y17 y18 y19 y20 y21 y22 y23 y24 y25 y26 y27 y28 y29 y30 y31 y32 y33 y34 y35 y36 y37 y38 y39 y40 y41 y42 y43 y44 y45 y46 y47 y48 y49 y50 y51 y52 y53 y54 y55 y56 y57 y58 y59 y60 y61 y62 y63 y64 y65 y66 y67 y68 y69 y70 y71 y72 y73 y74 y75 y76 y77 y78 y79 y80 y81 y82 y83 y84 y85 y86 y87 y88 y89 y90 y91 y92 y93 y94 y95 y96 y97 y98 y99 y100, LeO (jobs_Valid.l1 k y0 y1 y2 y3 y4 y5 y6 y7 y8 y9 y10 y11 y12 y13 y14 y15 y16 y17 y18 y19 y20 y21 y22 y23 y24 y25 y26 y27 y28 y29 y30 y31 y32 y33 y34 y35 y36 y37 y38 y39 y40 y41 y42 y43 y44 y45 y46 y47 y48 y49 y50 y51 y52 y53 y54 y55 y56 y57 y58 y59 y60 y61 y62 y63 y64 y65 y66 y67 y68 y69 y70 y71 y72 y73 y74 y75 y76 y77 y78 y79 y80 y81 y82 y83 y84 y85 y86 y87 y88 y89 y90 y91 y92 y93 y94 y95 y96 y97 y98 y99 y100) (jobs_Valid.l1 (k + 1) y0 y1 y2 y3 y4 y5 y6 y7 y8 y9 y10 y11 y12 y13 y14 y15 y16 y17 y18 y19 y20 y21 y22 y23 y24 y25 y26 y27 y28 y29 y30 y31 y32 y33 y34 y35 y36 y37 y38 y39 y40 y41 y42 y43 y44 y45 y46 y47 y48 y49 y50 y51 y52 y53 y54 y55 y56 y57 y58 y59 y60 y61 y62 y63 y64 y65 y66 y67 y68 y69 y70 y71 y72 y73 y74 y75 y76 y77 y78 y79 y80 y81 y82 y83 y84 y85 y86 y87 y88 y89 y90 y91 y92 y93 y94 y95 y96 y97 y98 y99 y100))
 | 0 => ⟨fun _ _ _ _ _ _ _ _ _ _ _ _ _ _ _ _ _ _ _ _ _ _ _ _ _ _ _ _ _ _ _ _ _ _ _ _ _ _ _ _ _ _ _ _ r h => by simp [jobs_Valid.j0] at h, fun _ _ _ _ _ _ _ _ _ _ _ _ _ _ _ _ _ _ _ _ _ _ _ _ _ _ _ _ _ _ _ _ _ _ _ _ _ _ _ _ _ _ _ _ _ _ _ _ _ _ _ _ _ _ _ _ _ _ _ _ _ _ _ _ _ _ _ _ _ _ _ _ _ _ _ _ _ _ _ _ _ _ _ _ _ _ _ _ _ _ _ _ _ r h => by simp [jobs_Valid.l0] at h, fun _ _ _ _ _ _ _ _ _ _ _ _ _ _ _ _ _ _ _ _ _ _ _ _ _ _ _ _ _ _ _ _ _ _ _ _ _ _ _ _ _ _ _ _ _ _ _ _ _ _ _ _ _ _ _ _ _ _ _ _ _ _ _ _ _ _ _ _ _ _ _ _ _ _ _ _ _ _ _ _ _ _ _ _ _ _ _ _ _ _ _ _ _ _ _ _ _ _ _ _ _ r h => by simp [jobs_Valid.j2] at h, fun _ _ _ _ _ _ _ _ _ _ _ _ _ _ _ _ _ _ _ _ _ _ _ _ _ _ _ _ _ _ _ _ _ _ _ _ _ _ _ _ _ _ _ _ _ _ _ _ _ _ _ _ _ _ _ _ _ _ _ _ _ _ _ _ _ _ _ _ _ _ _ _ _ _ _ _ _ _ _ _ _ _ _ _ _ _ _ _ _ _ _ _ _ _ _ _ _ _ _ _ _ r h => by simp [jobs_Valid.j3] at h, fun _ _ _ _ _ _ _ _ _ _ _ _ _ _ _ _ _ _ _ _ _ _ _ _ _ _ _ _ _ _ _ _ _ _ _ _ _ _ _ _ _ _ _ _ _ _ _ _ _ _ _ _ _ _ _ _ _ _ _ _ _ _ _ _ _ _ _ _ _ _ _ _ _ _ _ _ _ _ _ _ _ _ _ _ _ _ _ _ _ _ _ _ _ _ _ _ _ _ _ _ _ r h => by simp [jobs_Valid.l1] at h⟩
 | k + 1 => by
  obtain ⟨ih0, ih1, ih2, ih3, ih4⟩ := jobs_Valid.mono_l k
  refine ⟨?_, ?_, ?_, ?_, ?_⟩
  ·intro y0 y1 y2 y3 y4 y5 y6 y7 y8 y9 y10 y11 y12 y13 y14 y15 y16 y17 y18 y19 y20 y21 y22 y23 y24 y25 y26 y27 y28 y29 y30 y31 y32 y33 y34 y35 y36 y37 y38 y39 y40 y41 y42 y43
   unfold jobs_Valid.j0
   repeat' first
   | (with_reducible exact ih0 _ _ _ _ _ _ _ _ _ _ _ _ _ _ _ _ _ _ _ _ _ _ _ _ _ _ _ _ _ _ _ _ _ _ _ _ _ _ _ _ _ _ _ _)
   | (with_reducible exact ih1 _ _ _ _ _ _ _ _ _ _ _ _ _ _ _ _ _ _ _ _ _ _ _ _ _ _ _ _ _ _ _ _ _ _ _ _ _ _ _ _ _ _ _ _ _ _ _ _ _ _ _ _ _ _ _ _ _ _ _ _ _ _ _ _ _ _ _ _ _ _ _ _ _ _ _ _ _ _ _ _ _ _ _ _ _ _ _ _ _ _ _ _ _)
   | (with_reducible exact ih2 _ _ _ _ _ _ _ _ _ _ _ _ _ _ _ _ _ _ _ _ _ _ _ _ _ _ _ _ _ _ _ _ _ _ _ _ _ _ _ _ _ _ _ _ _ _ _ _ _ _ _ _ _ _ _ _ _ _ _ _ _ _ _ _ _ _ _ _ _ _ _ _ _ _ _ _ _ _ _ _ _ _ _ _ _ _ _ _ _ _ _ _ _ _ _ _ _ _ _ _ _)
   | (with_reducible exact ih3 _ _ _ _ _ _ _ _ _ _ _ _ _ _ _ _ _ _ _ _ _ _ _ _ _ _ _ _ _ _ _ _ _ _ _ _ _ _ _ _ _ _ _ _ _ _ _ _ _ _ _ _ _ _ _ _ _ _ _ _ _ _ _ _ _ _ _ _ _ _ _ _ _ _ _ _ _ _ _ _ _ _ _ _ _ _ _ _ _ _ _ _ _ _ _ _ _ _ _ _ _)
   | (with_reducible exact ih4 _ _ _ _ _ _ _ _ _ _ _ _ _ _ _ _ _ _ _ _ _ _ _ _ _ _ _ _ _ _ _ _ _ _ _ _ _ _ _ _ _ _ _ _ _ _ _ _ _ _ _ _ _ _ _ _ _ _ _ _ _ _ _ _ _ _ _ _ _ _ _ _ _ _ _ _ _ _ _ _ _ _ _ _ _ _ _ _ _ _ _ _ _ _ _ _ _ _ _ _ _)
   | (with_reducible apply jobs_fits.mono)
   | (with_reducible exact LeO.refl _)
   | (with_reducible exact LeO.none _)
   | (with_reducible refine LeO.ite ?_ ?_)
   | (with_reducible refine LeO.bind ?_ (fun _ => ?_))
   | exact ih0 _ _ _ _ _ _ _ _ _ _ _ _ _ _ _ _ _ _ _ _ _ _ _ _ _ _ _ _ _ _ _ _ _ _ _ _ _ _ _ _ _ _ _ _
   | exact ih1 _ _ _ _ _ _ _ _ _ _ _ _ _ _ _ _ _ _ _ _ _ _ _ _ _ _ _ _ _ _ _ _ _ _ _ _ _ _ _ _ _ _ _ _ _ _ _ _ _ _ _ _ _ _ _ _ _ _ _ _ _ _ _ _ _ _ _ _ _ _ _ _ _ _ _ _ _ _ _ _ _ _ _ _ _ _ _ _ _ _ _ _ _
   | exact ih2 _ _ _ _ _ _ _ _ _ _ _ _ _ _ _ _ _ _ _ _ _ _ _ _ _ _ _ _ _ _ _ _ _ _ _ _ _ _ _ _ _ _ _ _ _ _ _ _ _ _ _ _ _ _ _ _ _ _ _ _ _ _ _ _ _ _ _ _ _ _ _ _ _ _ _ _ _ _ _ _ _ _ _ _ _ _ _ _ _ _ _ _ _ _ _ _ _ _ _ _ _
   | exact ih3 _ _ _ _ _ _ _ _ _ _ _ _ _ _ _ _ _ _ _ _ _ _ _ _ _ _ _ _ _ _ _ _ _ _ _ _ _ _ _ _ _ _ _ _ _ _ _ _ _ _ _ _ _ _ _ _ _ _ _ _ _ _ _ _ _ _ _ _ _ _ _ _ _ _ _ _ _ _ _ _ _ _ _ _ _ _ _ _ _ _ _ _ _ _ _ _ _ _ _ _ _
   | exact ih4 _ _ _ _ _ _ _ _ _ _ _ _ _ _ _ _ _ _ _ _ _ _ _ _ _ _ _ _ _ _ _ _ _ _ _ _ _ _ _ _ _ _ _ _ _ _ _ _ _ _ _ _ _ _ _ _ _ _ _ _ _ _ _ _ _ _ _ _ _ _ _ _ _ _ _ _ _ _ _ _ _ _ _ _ _ _ _ _ _ _ _ _ _ _ _ _ _ _ _ _ _
   | apply jobs_fits.mono
   | exact LeO.none _
   | refine LeO.ite ?_ ?_
   | refine LeO.bind ?_ (fun _ => ?_)
  ·intro y0 y1 y2 y3 y4 y5 y6 y7 y8 y9 y10 y11 y12 y13 y14 y15 y16 y17 y18 y19 y20 y21 y22 y23 y24 y25 y26 y27 y28 y29 y30 y31 y32 y33 y34 y35 y36 y37 y38 y39 y40 y41 y42 y43 y44 y45 y46 y47 y48 y49 y50 y51 y52 y53 y54 y55 y56 y57 y58 y59 y60 y61 y62 y63 y64 y65 y66 y67 y68 y69 y70 y71 y72 y73 y74 y75 y76 y77 y78 y79 y80 y81 y82 y83 y84 y85 y86 y87 y88 y89 y90 y91 y92
   unfold jobs_Valid.l0
   repeat' first
   | (with_reducible exact ih0 _ _ _ _ _ _ _ _ _ _ _ _ _ _ _ _ _ _ _ _ _ _ _ _ _ _ _ _ _ _ _ _ _ _ _ _ _ _ _ _ _ _ _ _)
   | (with_reducible exact ih1 _ _ _ _ _ _ _ _ _ _ _ _ _ _ _ _ _ _ _ _ _ _ _ _ _ _ _ _ _ _ _ _ _ _ _ _ _ _ _ _ _ _ _ _ _ _ _ _ _ _ _ _ _ _ _ _ _ _ _ _ _ _ _ _ _ _ _ _ _ _ _ _ _ _ _ _ _ _ _ _ _ _ _ _ _ _ _ _ _ _ _ _ _)
   | (with_reducible exact ih2 _ _ _ _ _ _ _ _ _ _ _ _ _ _ _ _ _ _ _ _ _ _ _ _ _ _ _ _ _ _ _ _ _ _ _ _ _ _ _ _ _ _ _ _ _ _ _ _ _ _ _ _ _ _ _ _ _ _ _ _ _ _ _ _ _ _ _ _ _ _ _ _ _ _ _ _ _ _ _ _ _ _ _ _ _ _ _ _ _ _ _ _ _ _ _ _ _ _ _ _ _)
   | (with_reducible exact ih3 _ _ _ _ _ _ _ _ _ _ _ _ _ _ _ _ _ _ _ _ _ _ _ _ _ _ _ _ _ _ _ _ _ _ _ _ _ _ _ _ _ _ _ _ _ _ _ _ _ _ _ _ _ _ _ _ _ _ _ _ _ _ _ _ _ _ _ _ _ _ _ _ _ _ _ _ _ _ _ _ _ _ _ _ _ _ _ _ _ _ _ _ _ _ _ _ _ _ _ _ _)
   | (with_reducible exact ih4 _ _ _ _ _ _ _ _ _ _ _ _ _ _ _ _ _ _ _ _ _ _ _ _ _ _ _ _ _ _ _ _ _ _ _ _ _ _ _ _ _ _ _ _ _ _ _ _ _ _ _ _ _ _ _ _ _ _ _ _ _ _ _ _ _ _ _ _ _ _ _ _ _ _ _ _ _ _ _ _ _ _ _ _ _ _ _ _ _ _ _ _ _ _ _ _ _ _ _ _ _)
   | (with_reducible apply jobs_fits.mono)
   | (with_reducible exact LeO.refl _)
   | (with_reducible exact LeO.none _)
   | (with_reducible refine LeO.ite ?_ ?_)
   | (with_reducible refine LeO.bind ?_ (fun _ => ?_))
   | exact ih0 _ _ _ _ _ _ _ _ _ _ _ _ _ _ _ _ _ _ _ _ _ _ _ _ _ _ _ _ _ _ _ _ _ _ _ _ _ _ _ _ _ _ _ _
   | exact ih1 _ _ _ _ _ _ _ _ _ _ _ _ _ _ _ _ _ _ _ _ _ _ _ _ _ _ _ _ _ _ _ _ _ _ _ _ _ _ _ _ _ _ _ _ _ _ _ _ _ _ _ _ _ _ _ _ _ _ _ _ _ _ _ _ _ _ _ _ _ _ _ _ _ _ _ _ _ _ _ _ _ _ _ _ _ _ _ _ _ _ _ _ _
   | exact ih2 _ _ _ _ _ _ _ _ _ _ _ _ _ _ _ _ _ _ _ _ _ _ _ _ _ _ _ _ _ _ _ _ _ _ _ _ _ _ _ _ _ _ _ _ _ _ _ _ _ _ _ _ _ _ _ _ _ _ _ _ _ _ _ _ _ _ _ _ _ _ _ _ _ _ _ _ _ _ _ _ _ _ _ _ _ _ _ _ _ _ _ _ _ _ _ _ _ _ _ _ _
   | exact ih3 _ _ _ _ _ _ _ _ _ _ _ _ _ _ _ _ _ _ _ _ _ _ _ _ _ _ _ _ _ _ _ _ _ _ _ _ _ _ _ _ _ _ _ _ _ _ _ _ _ _ _ _ _ _ _ _ _ _ _ _ _ _ _ _ _ _ _ _ _ _ _ _ _ _ _ _ _ _ _ _ _ _ _ _ _ _ _ _ _ _ _ _ _ _ _ _ _ _ _ _ _
   | exact ih4 _ _ _ _ _ _ _ _ _ _ _ _ _ _ _ _ _ _ _ _ _ _ _ _ _ _ _ _ _ _ _ _ _ _ _ _ _ _ _ _ _ _ _ _ _ _ _ _ _ _ _ _ _ _ _ _ _ _ _ _ _ _ _ _ _ _ _ _ _ _ _ _ _ _ _ _ _ _ _ _ _ _ _ _ _ _ _ _ _ _ _ _ _ _ _ _ _ _ _ _ _
   | apply jobs_fits.mono
   | exact LeO.none _
   | refine LeO.ite ?_ ?_
   | refine LeO.bind ?_ (fun _ => ?_)
  ·intro y0 y1 y2 y3 y4 y5 y6 y7 y8 y9 y10 y11 y12 y13 y14 y15 y16 y17 y18 y19 y20 y21 y22 y23 y24 y25 y26 y27 y28 y29 y30 y31 y32 y33 y34 y35 y36 y37 y38 y39 y40 y41 y42 y43 y44 y45 y46 y47 y48 y49 y50 y51 y52 y53 y54 y55 y56 y57 y58 y59 y60 y61 y62 y63 y64 y65 y66 y67 y68 y69 y70 y71 y72 y73 y74 y75 y76 y77 y78 y79 y80 y81 y82 y83 y84 y85 y86 y87 y88 y89 y90 y91 y92 y93 y94 y95 y96 y97 y98 y99 y100
   unfold jobs_Valid.j2
   repeat' first
   | (with_reducible exact ih0 _ _ _ _ _ _ _ _ _ _ _ _ _ _ _ _ _ _ _ _ _ _ _ _ _ _ _ _ _ _ _ _ _ _ _ _ _ _ _ _ _ _ _ _)
   | (with_reducible exact ih1 _ _ _ _ _ _ _ _ _ _ _ _ _ _ _ _ _ _ _ _ _ _ _ _ _ _ _ _ _ _ _ _ _ _ _ _ _ _ _ _ _ _ _ _ _ _ _ _ _ _ _ _ _ _ _ _ _ _ _ _ _ _ _ _ _ _ _ _ _ _ _ _ _ _ _ _ _ _ _ _ _ _ _ _ _ _ _ _ _ _ _ _ _)
   | (with_reducible exact ih2 _ _ _ _ _ _ _ _ _ _ _ _ _ _ _ _ _ _ _ _ _ _ _ _ _ _ _ _ _ _ _ _ _ _ _ _ _ _ _ _ _ _ _ _ _ _ _ _ _ _ _ _ _ _ _ _ _ _ _ _ _ _ _ _ _ _ _ _ _ _ _ _ _ _ _ _ _ _ _ _ _ _ _ _ _ _ _ _ _ _ _ _ _ _ _ _ _ _ _ _ _)
   | (with_reducible exact ih3 _ _ _ _ _ _ _ _ _ _ _ _ _ _ _ _ _ _ _ _ _ _ _ _ _ _ _ _ _ _ _ _ _ _ _ _ _ _ _ _ _ _ _ _ _ _ _ _ _ _ _ _ _ _ _ _ _ _ _ _ _ _ _ _ _ _ _ _ _ _ _ _ _ _ _ _ _ _ _ _ _ _ _ _ _ _ _ _ _ _ _ _ _ _ _ _ _ _ _ _ _)
   | (with_reducible exact ih4 _ _ _ _ _ _ _ _ _ _ _ _ _ _ _ _ _ _ _ _ _ _ _ _ _ _ _ _ _ _ _ _ _ _ _ _ _ _ _ _ _ _ _ _ _ _ _ _ _ _ _ _ _ _ _ _ _ _ _ _ _ _ _ _ _ _ _ _ _ _ _ _ _ _ _ _ _ _ _ _ _ _ _ _ _ _ _ _ _ _ _ _ _ _ _ _ _ _ _ _ _)
   | (with_reducible apply jobs_fits.mono)
   | (with_reducible exact LeO.refl _)
   | (with_reducible exact LeO.none _)
   | (with_reducible refine LeO.ite ?_ ?_)
   | (with_reducible refine LeO.bind ?_ (fun _ => ?_))
   | exact ih0 _ _ _ _ _ _ _ _ _ _ _ _ _ _ _ _ _ _ _ _ _ _ _ _ _ _ _ _ _ _ _ _ _ _ _ _ _ _ _ _ _ _ _ _
   | exact ih1 _ _ _ _ _ _ _ _ _ _ _ _ _ _ _ _ _ _ _ _ _ _ _ _ _ _ _ _ _ _ _ _ _ _ _ _ _ _ _ _ _ _ _ _ _ _ _ _ _ _ _ _ _ _ _ _ _ _ _ _ _ _ _ _ _ _ _ _ _ _ _ _ _ _ _ _ _ _ _ _ _ _ _ _ _ _ _ _ _ _ _ _ _
   | exact ih2 _ _ _ _ _ _ _ _ _ _ _ _ _ _ _ _ _ _ _ _ _ _ _ _ _ _ _ _ _ _ _ _ _ _ _ _ _ _ _ _ _ _ _ _ _ _ _ _ _ _ _ _ _ _ _ _ _ _ _ _ _ _ _ _ _ _ _ _ _ _ _ _ _ _ _ _ _ _ _ _ _ _ _ _ _ _ _ _ _ _ _ _ _ _ _ _ _ _ _ _ _
   | exact ih3 _ _ _ _ _ _ _ _ _ _ _ _ _ _ _ _ _ _ _ _ _ _ _ _ _ _ _ _ _ _ _ _ _ _ _ _ _ _ _ _ _ _ _ _ _ _ _ _ _ _ _ _ _ _ _ _ _ _ _ _ _ _ _ _ _ _ _ _ _ _ _ _ _ _ _ _ _ _ _ _ _ _ _ _ _ _ _ _ _ _ _ _ _ _ _ _ _ _ _ _ _
   | exact ih4 _ _ _ _ _ _ _ _ _ _ _ _ _ _ _ _ _ _ _ _ _ _ _ _ _ _ _ _ _ _ _ _ _ _ _ _ _ _ _ _ _ _ _ _ _ _ _ _ _ _ _ _ _ _ _ _ _ _ _ _ _ _ _ _ _ _ _ _ _ _ _ _ _ _ _ _ _ _ _ _ _ _ _ _ _ _ _ _ _ _ _ _ _ _ _ _ _ _ _ _ _
   | apply jobs_fits.mono
   | exact LeO.none _
   | refine LeO.ite ?_ ?_
   | refine LeO.bind ?_ (fun _ => ?_)
  ·intro y0 y1 y2 y3 y4 y5 y6 y7 y8 y9 y10 y11 y12 y13 y14 y15 y16 y17 y18 y19 y20 y21 y22 y23 y24 y25 y26 y27 y28 y29 y30 y31 y32 y33 y34 y35 y36 y37 y38 y39 y40 y41 y42 y43 y44 y45 y46 y47 y48 y49 y50 y51 y52 y53 y54 y55 y56 y57 y58 y59 y60 y61 y62 y63 y64 y65 y66 y67 y68 y69 y70 y71 y72 y73 y74 y75 y76 y77 y78 y79 y80 y81 y82 y83 y84 y85 y86 y87 y88 y89 y90 y91 y92 y93 y94 y95 y96 y97 y98 y99 y100
   unfold jobs_Valid.j3
   repeat' first
   | (with_reducible exact ih0 _ _ _ _ _ _ _ _ _ _ _ _ _ _ _ _ _ _ _ _ _ _ _ _ _ _ _ _ _ _ _ _ _ _ _ _ _ _ _ _ _ _ _ _)
   | (with_reducible exact ih1 _ _ _ _ _ _ _ _ _ _ _ _ _ _ _ _ _ _ _ _ _ _ _ _ _ _ _ _ _ _ _ _ _ _ _ _ _ _ _ _ _ _ _ _ _ _ _ _ _ _ _ _ _ _ _ _ _ _ _ _ _ _ _ _ _ _ _ _ _ _ _ _ _ _ _ _ _ _ _ _ _ _ _ _ _ _ _ _ _ _ _ _ _)
   | (with_reducible exact ih2 _ _ _ _ _ _ _ _ _ _ _ _ _ _ _ _ _ _ _ _ _ _ _ _ _ _ _ _ _ _ _ _ _ _ _ _ _ _ _ _ _ _ _ _ _ _ _ _ _ _ _ _ _ _ _ _ _ _ _ _ _ _ _ _ _ _ _ _ _ _ _ _ _ _ _ _ _ _ _ _ _ _ _ _ _ _ _ _ _ _ _ _ _ _ _ _ _ _ _ _ _)
   | (with_reducible exact ih3 _ _ _ _ _ _ _ _ _ _ _ _ _ _ _ _ _ _ _ _ _ _ _ _ _ _ _ _ _ _ _ _ _ _ _ _ _ _ _ _ _ _ _ _ _ _ _ _ _ _ _ _ _ _ _ _ _ _ _ _ _ _ _ _ _ _ _ _ _ _ _ _ _ _ _ _ _ _ _ _ _ _ _ _ _ _ _ _ _ _ _ _ _ _ _ _ _ _ _ _ _)
   | (with_reducible exact ih4 _ _ _ _ _ _ _ _ _ _ _ _ _ _ _ _ _ _ _ _ _ _ _ _ _ _ _ _ _ _ _ _ _ _ _ _ _ _ _ _ _ _ _ _ _ _ _ _ _ _ _ _ _ _ _ _ _ _ _ _ _ _ _ _ _ _ _ _ _ _ _ _ _ _ _ _ _ _ _ _ _ _ _ _ _ _ _ _ _ _ _ _ _ _ _ _ _ _ _ _ _)
   | (with_reducible apply jobs_fits.mono)
   | (with_reducible exact LeO.refl _)
   | (with_reducible exact LeO.none _)
   | (with_reducible refine LeO.ite ?_ ?_)
   | (with_reducible refine LeO.bind ?_ (fun _ => ?_))
   | exact ih0 _ _ _ _ _ _ _ _ _ _ _ _ _ _ _ _ _ _ _ _ _ _ _ _ _ _ _ _ _ _ _ _ _ _ _ _ _ _ _ _ _ _ _ _
   | exact ih1 _ _ _ _ _ _ _ _ _ _ _ _ _ _ _ _ _ _ _ _ _ _ _ _ _ _ _ _ _ _ _ _ _ _ _ _ _ _ _ _ _ _ _ _ _ _ _ _ _ _ _ _ _ _ _ _ _ _ _ _ _ _ _ _ _ _ _ _ _ _ _ _ _ _ _ _ _ _ _ _ _ _ _ _ _ _ _ _ _ _ _ _ _
   | exact ih2 _ _ _ _ _ _ _ _ _ _ _ _ _ _ _ _ _ _ _ _ _ _ _ _ _ _ _ _ _ _ _ _ _ _ _ _ _ _ _ _ _ _ _ _ _ _ _ _ _ _ _ _ _ _ _ _ _ _ _ _ _ _ _ _ _ _ _ _ _ _ _ _ _ _ _ _ _ _ _ _ _ _ _ _ _ _ _ _ _ _ _ _ _ _ _ _ _ _ _ _ _
   | exact ih3 _ _ _ _ _ _ _ _ _ _ _ _ _ _ _ _ _ _ _ _ _ _ _ _ _ _ _ _ _ _ _ _ _ _ _ _ _ _ _ _ _ _ _ _ _ _ _ _ _ _ _ _ _ _ _ _ _ _ _ _ _ _ _ _ _ _ _ _ _ _ _ _ _ _ _ _ _ _ _ _ _ _ _ _ _ _ _ _ _ _ _ _ _ _ _ _ _ _ _ _ _
   | exact ih4 _ _ _ _ _ _ _ _ _ _ _ _ _ _ _ _ _ _ _ _ _ _ _ _ _ _ _ _ _ _ _ _ _ _ _ _ _ _ _ _ _ _ _ _ _ _ _ _ _ _ _ _ _ _ _ _ _ _ _ _ _ _ _ _ _ _ _ _ _ _ _ _ _ _ _ _ _ _ _ _ _ _ _ _ _ _ _ _ _ _ _ _ _ _ _ _ _ _ _ _ _
   | apply jobs_fits.mono
   | exact LeO.none _
   | refine LeO.ite ?_ ?_
   | refine LeO.bind ?_ (fun _ => ?_)
  ·intro y0 y1 y2 y3 y4 y5 y6 y7 y8 y9 y10 y11 y12 y13 y14 y15 y16 y17 y18 y19 y20 y21 y22 y23 y24 y25 y26 y27 y28 y29 y30 y31 y32 y33 y34 y35 y36 y37 y38 y39 y40 y41 y42 y43 y44 y45 y46 y47 y48 y49 y50 y51 y52 y53 y54 y55 y56 y57 y58 y59 y60 y61 y62 y63 y64 y65 y66 y67 y68 y69 y70 y71 y72 y73 y74 y75 y76 y77 y78 y79 y80 y81 y82 y83 y84 y85 y86 y87 y88 y89 y90 y91 y92 y93 y94 y95 y96 y97 y98 y99 y100
   unfold jobs_Valid.l1
   repeat' first
   | (with_reducible exact ih0 _ _ _ _ _ _ _ _ _ _ _ _ _ _ _ _ _ _ _ _ _ _ _ _ _ _ _ _ _ _ _ _ _ _ _ _ _ _ _ _ _ _ _ _)
   | (with_reducible exact ih1 _ _ _ _ _ _ _ _ _ _ _ _ _ _ _ _ _ _ _ _ _ _ _ _ _ _ _ _ _ _ _ _ _ _ _ _ _ _ _ _ _ _ _ _ _ _ _ _ _ _ _ _ _ _ _ _ _ _ _ _ _ _ _ _ _ _ _ _ _ _ _ _ _ _ _ _ _ _ _ _ _ _ _ _ _ _ _ _ _ _ _ _ _)
   | (with_reducible exact ih2 _ _ _ _ _ _ _ _ _ _ _ _ _ _ _ _ _ _ _ _ _ _ _ _ _ _ _ _ _ _ _ _ _ _ _ _ _ _ _ _ _ _ _ _ _ _ _ _ _ _ _ _ _ _ _ _ _ _ _ _ _ _ _ _ _ _ _ _ _ _ _ _ _ _ _ _ _ _ _ _ _ _ _ _ _ _ _ _ _ _ _ _ _ _ _ _ _ _ _ _ _)
   | (with_reducible exact ih3 _ _ _ _ _ _ _ _ _ _ _ _ _ _ _ _ _ _ _ _ _ _ _ _ _ _ _ _ _ _ _ _ _ _ _ _ _ _ _ _ _ _ _ _ _ _ _ _ _ _ _ _ _ _ _ _ _ _ _ _ _ _ _ _ _ _ _ _ _ _ _ _ _ _ _ _ _ _ _ _ _ _ _ _ _ _ _ _ _ _ _ _ _ _ _ _ _ _ _ _ _)
   | (with_reducible exact ih4 _ _ _ _ _ _ _ _ _ _ _ _ _ _ _ _ _ _ _ _ _ _ _ _ _ _ _ _ _ _ _ _ _ _ _ _ _ _ _ _ _ _ _ _ _ _ _ _ _ _ _ _ _ _ _ _ _ _ _ _ _ _ _ _ _ _ _ _ _ _ _ _ _ _ _ _ _ _ _ _ _ _ _ _ _ _ _ _ _ _ _ _ _ _ _ _ _ _ _ _ _)
   | (with_reducible apply jobs_fits.mono)
   | (with_reducible exact LeO.refl _)
   | (with_reducible exact LeO.none _)
   | (with_reducible refine LeO.ite ?_ ?_)
   | (with_reducible refine LeO.bind ?_ (fun _ => ?_))
   | exact ih0 _ _ _ _ _ _ _ _ _ _ _ _ _ _ _ _ _ _ _ _ _ _ _ _ _ _ _ _ _ _ _ _ _ _ _ _ _ _ _ _ _ _ _ _
   | exact ih1 _ _ _ _ _ _ _ _ _ _ _ _ _ _ _ _ _ _ _ _ _ _ _ _ _ _ _ _ _ _ _ _ _ _ _ _ _ _ _ _ _ _ _ _ _ _ _ _ _ _ _ _ _ _ _ _ _ _ _ _ _ _ _ _ _ _ _ _ _ _ _ _ _ _ _ _ _ _ _ _ _ _ _ _ _ _ _ _ _ _ _ _ _
   | exact ih2 _ _ _ _ _ _ _ _ _ _ _ _ _ _ _ _ _ _ _ _ _ _ _ _ _ _ _ _ _ _ _ _ _ _ _ _ _ _ _ _ _ _ _ _ _ _ _ _ _ _ _ _ _ _ _ _ _ _ _ _ _ _ _ _ _ _ _ _ _ _ _ _ _ _ _ _ _ _ _ _ _ _ _ _ _ _ _ _ _ _ _ _ _ _ _ _ _ _ _ _ _
   | exact ih3 _ _ _ _ _ _ _ _ _ _ _ _ _ _ _ _ _ _ _ _ _ _ _ _ _ _ _ _ _ _ _ _ _ _ _ _ _ _ _ _ _ _ _ _ _ _ _ _ _ _ _ _ _ _ _ _ _ _ _ _ _ _ _ _ _ _ _ _ _ _ _ _ _ _ _ _ _ _ _ _ _ _ _ _ _ _ _ _ _ _ _ _ _ _ _ _ _ _ _ _ _
   | exact ih4 _ _ _ _ _ _ _ _ _ _ _ _ _ _ _ _ _ _ _ _ _ _ _ _ _ _ _ _ _ _ _ _ _ _ _ _ _ _ _ _ _ _ _ _ _ _ _ _ _ _ _ _ _ _ _ _ _ _ _ _ _ _ _ _ _ _ _ _ _ _ _ _ _ _ _ _ _ _ _ _ _ _ _ _ _ _ _ _ _ _ _ _ _ _ _ _ _ _ _ _ _
   | apply jobs_fits.mono
   | exact LeO.none _
   | refine LeO.ite ?_ ?_
   | refine LeO.bind ?_ (fun _ => ?_)
theorem jobs_Valid.mono : ∀ a0 a1 a2 a3 a4 a5 a6 a7 a8 a9 a10 a11 a12 a13 a14 a15 a16 a17 a18 a19 a20 a21 a22 a23 a24 a25 a26 a27 a28 a29 a30 a31 a32 a33 a34 a35 a36 a37 a38 a39 a40 a41 a42 k, LeO (jobs_Valid.f k a0 a1 a2 a3 a4 a5 a6 a7 a8 a9 a10 a11 a12 a13 a14 a15 a16 a17 a18 a19 a20 a21 a22 a23 a24 a25 a26 a27 a28 a29 a30 a31 a32 a33 a34 a35 a36 a37 a38 a39 a40 a41 a42) (jobs_Valid.f (k + 1) a0 a1 a2 a3 a4 a5 a6 a7 a8 a9 a10 a11 a12 a13 a14 a15 a16 a17 a18 a19 a20 a21 a22 a23 a24 a25 a26 a27 a28 a29 a30 a31 a32 a33 a34 a35 a36 a37 a38 a39 a40 a41 a42) := by
 intro a0 a1 a2 a3 a4 a5 a6 a7 a8 a9 a10 a11 a12 a13 a14 a15 a16 a17 a18 a19 a20 a21 a22 a23 a24 a25 a26 a27 a28 a29 a30 a31 a32 a33 a34 a35 a36 a37 a38 a39 a40 a41 a42 k
 obtain ⟨ih0, ih1, ih2, ih3, ih4⟩ := jobs_Valid.mono_l k
 unfold jobs_Valid.f
 repeat' first
   | (with_reducible exact ih0 _ _ _ _ _ _ _ _ _ _ _ _ _ _ _ _ _ _ _ _ _ _ _ _ _ _ _ _ _ _ _ _ _ _ _ _ _ _ _ _ _ _ _ _)
   | (with_reducible exact ih1 _ _ _ _ _ _ _ _ _ _ _ _ _ _ _ _ _ _ _ _ _ _ _ _ _ _ _ _ _ _ _ _ _ _ _ _ _ _ _ _ _ _ _ _ _ _ _ _ _ _ _ _ _ _ _ _ _ _ _ _ _ _ _ _ _ _ _ _ _ _ _ _ _ _ _ _ _ _ _ _ _ _ _ _ _ _ _ _ _ _ _ _ _)
   | (with_reducible exact ih2 _ _ _ _ _ _ _ _ _ _ _ _ _ _ _ _ _ _ _ _ _ _ _ _ _ _ _ _ _ _ _ _ _ _ _ _ _ _ _ _ _ _ _ _ _ _ _ _ _ _ _ _ _ _ _ _ _ _ _ _ _ _ _ _ _ _ _ _ _ _ _ _ _ _ _ _ _ _ _ _ _ _ _ _ _ _ _ _ _ _ _ _ _ _ _ _ _ _ _ _ _)
   | (with_reducible exact ih3 _ _ _ _ _ _ _ _ _ _ _ _ _ _ _ _ _ _ _ _ _ _ _ _ _ _ _ _ _ _ _ _ _ _ _ _ _ _ _ _ _ _ _ _ _ _ _ _ _ _ _ _ _ _ _ _ _ _ _ _ _ _ _ _ _ _ _ _ _ _ _ _ _ _ _ _ _ _ _ _ _ _ _ _ _ _ _ _ _ _ _ _ _ _ _ _ _ _ _ _ _)
   | (with_reducible exact ih4 _ _ _ _ _ _ _ _ _ _ _ _ _ _ _ _ _ _ _ _ _ _ _ _ _ _ _ _ _ _ _ _ _ _ _ _ _ _ _ _ _ _ _ _ _ _ _ _ _ _ _ _ _ _ _ _ _ _ _ _ _ _ _ _ _ _ _ _ _ _ _ _ _ _ _ _ _ _ _ _ _ _ _ _ _ _ _ _ _ _ _ _ _ _ _ _ _ _ _ _ _)
   | (with_reducible apply jobs_fits.mono)
   | (with_reducible exact LeO.refl _)
   | (with_reducible exact LeO.none _)
   | (with_reducible refine LeO.ite ?_ ?_)
   | (with_reducible refine LeO.bind ?_ (fun _ => ?_))
   | exact ih0 _ _ _ _ _ _ _ _ _ _ _ _ _ _ _ _ _ _ _ _ _ _ _ _ _ _ _ _ _ _ _ _ _ _ _ _ _ _ _ _ _ _ _ _
   | exact ih1 _ _ _ _ _ _ _ _ _ _ _ _ _ _ _ _ _ _ _ _ _ _ _ _ _ _ _ _ _ _ _ _ _ _ _ _ _ _ _ _ _ _ _ _ _ _ _ _ _ _ _ _ _ _ _ _ _ _ _ _ _ _ _ _ _ _ _ _ _ _ _ _ _ _ _ _ _ _ _ _ _ _ _ _ _ _ _ _ _ _ _ _ _
   | exact ih2 _ _ _ _ _ _ _ _ _ _ _ _ _ _ _ _ _ _ _ _ _ _ _ _ _ _ _ _ _ _ _ _ _ _ _ _ _ _ _ _ _ _ _ _ _ _ _ _ _ _ _ _ _ _ _ _ _ _ _ _ _ _ _ _ _ _ _ _ _ _ _ _ _ _ _ _ _ _ _ _ _ _ _ _ _ _ _ _ _ _ _ _ _ _ _ _ _ _ _ _ _
   | exact ih3 _ _ _ _ _ _ _ _ _ _ _ _ _ _ _ _ _ _ _ _ _ _ _ _ _ _ _ _ _ _ _ _ _ _ _ _ _ _ _ _ _ _ _ _ _ _ _ _ _ _ _ _ _ _ _ _ _ _ _ _ _ _ _ _ _ _ _ _ _ _ _ _ _ _ _ _ _ _ _ _ _ _ _ _ _ _ _ _ _ _ _ _ _ _ _ _ _ _ _ _ _
   | exact ih4 _ _ _ _ _ _ _ _ _ _ _ _ _ _ _ _ _ _ _ _ _ _ _ _ _ _ _ _ _ _ _ _ _ _ _ _ _ _ _ _ _ _ _ _ _ _ _ _ _ _ _ _ _ _ _ _ _ _ _ _ _ _ _ _ _ _ _ _ _ _ _ _ _ _ _ _ _ _ _ _ _ _ _ _ _ _ _ _ _ _ _ _ _ _ _ _ _ _ _ _ _
   | apply jobs_fits.mono
   | exact LeO.none _
   | refine LeO.ite ?_ ?_
   | refine LeO.bind ?_ (fun _ => ?_)
set_option maxHeartbeats 8000000 in
set_option maxRecDepth 100000 in
theorem jobs_Valid.calls (k : Nat) (aZ : Bool) (aW : Int) (bb : Int) (ah : Int) (be : Bool) (bc : Int) (ba : Bool) (aX : Int) (bd : Int) (ai : Int) (aQ : Bool) (aF : Int) (aA : Bool) (av : Int) (aG : Int) (ab : Int) (aR : Bool) (aH : Int) (aB : Bool) (aw : Int) (aI : Int) (ac : Int) (aS : Bool) (aJ : Int) (aC : Bool) (ax : Int) (aK : Int) (ad : Int) (aT : Bool) (aL : Int) (aD : Bool) (ay : Int) (aM : Int) (ae : Int) (aU : Bool) (aN : Int) (aE : Bool) (az : Int) (aO : Int) (af : Int) (aV : Bool) (aP : Int) (bh : Int) (r : Bool) (w : World) (h : jobs_Valid.f k aZ aW bb ah be bc ba aX bd ai aQ aF aA av aG ab aR aH aB aw aI ac aS aJ aC ax aK ad aT aL aD ay aM ae aU aN aE az aO af aV aP bh = some r) :
  Calls Try.prog 23 #[.agg #[.bool aZ, .int .i64 aW, .int .i64 bb, .int .i64 ah, .bool be, .int .i64 bc, .bool ba, .int .i64 aX, .int .i64 bd, .int .i64 ai, .bool aQ, .int .i64 aF, .bool aA, .int .i64 av, .int .i64 aG, .int .i64 ab, .bool aR, .int .i64 aH, .bool aB, .int .i64 aw, .int .i64 aI, .int .i64 ac, .bool aS, .int .i64 aJ, .bool aC, .int .i64 ax, .int .i64 aK, .int .i64 ad, .bool aT, .int .i64 aL, .bool aD, .int .i64 ay, .int .i64 aM, .int .i64 ae, .bool aU, .int .i64 aN, .bool aE, .int .i64 az, .int .i64 aO, .int .i64 af, .bool aV, .int .i64 aP, .int .i64 bh]] w fun e w' => e = .returned (.bool r) ∧ Below w.heap.size w w' := by
 have hu27 := Try.underlying27
 have hu61 := Try.underlying61
 have hu25 := Try.underlying25
 have hu24 := Try.underlying24
 have HB := Aside0.mk (Below.refl w.heap.size w)
 have H := h
 unfold jobs_Valid.f at H
 clear h
 have HC2 := Aside0.mk H
 clear H
 go_enter Try.func23, Try.ntmps23
 go_upto_region 1 with (first | ((with_reducible refine gate_dst (N := 1) rfl ?_); refine box_event ?hg (N := 1) ?hd (cs := Jt aZ aW bb ah be bc ba aX bd ai aQ aF aA av aG ab aR aH aB aw aI ac aS aJ aC ax aK ad aT aL aD ay aM ae aU aN aE az aO af aV aP bh) (t := 27) ?hr ?_; (case hd => rfl); (case hg => rfl); (case hr => first | (go_simp; done) | (go_simp; rfl)); intro aq hg w3 hbox hb; have ag := Aside0.mk hbox; have GW102 := zhs HB hg; have bq := zhs HB hg; replace HB := zhB HB hb; clear hb hbox hg))
 (try simp only [Act.put, List.setIfInBounds_toArray, List.set_cons_zero, List.set_cons_succ])
 go_cut [15] (fun v15 wc => ∃ (kq : Nat) (ke : Bool), v15 = .bool ke ∧ Aside0 (jobs_Valid.j0 kq ke aZ aW bb ah be bc ba aX bd ai aQ aF aA av aG ab aR aH aB aw aI ac aS aJ aC ax aK ad aT aL aD ay aM ae aU aN aE az aO af aV aP bh = some r) ∧ Aside0 (kq ≤ k) ∧ Aside0 (wc.heap[aq]? = some (.cells (Jt aZ aW bb ah be bc ba aX bd ai aQ aF aA av aG ab aR aH aB aw aI ac aS aJ aC ax aK ad aT aL aD ay aM ae aU aN aE az aO af aV aP bh) 27 (0, 0))) ∧ Aside0 (Below w.heap.size w wc))
 case first =>
  have H := HC2.out
  clear HC2
  by_cases c4 : bh < 0
  ·rw [if_pos c4] at H
   have c4b0 : decide (bh < 0) = true := decide_eq_true c4
   clear c4
   (first | rw [c4b0] | (simp only [i64_w, i32_w]; rw [c4b0]) | rw [c4b1] | skip)
   have H' := Aside0.mk H
   clear H
   have fy : w3.cell? ⟨aq, 0, none⟩ = some (.bool aZ) := (blk_cell ag.out 0).trans rfl
   have fz : w3.cell? ⟨aq, 1, none⟩ = some (.int .i64 aW) := (blk_cell ag.out 1).trans rfl
   have fA : w3.cell? ⟨aq, 2, none⟩ = some (.int .i64 bb) := (blk_cell ag.out 2).trans rfl
   have fB : w3.cell? ⟨aq, 3, none⟩ = some (.int .i64 ah) := (blk_cell ag.out 3).trans rfl
   have fC : w3.cell? ⟨aq, 4, none⟩ = some (.bool be) := (blk_cell ag.out 4).trans rfl
   have fD : w3.cell? ⟨aq, 5, none⟩ = some (.int .i64 bc) := (blk_cell ag.out 5).trans rfl
   have fE : w3.cell? ⟨aq, 6, none⟩ = some (.bool ba) := (blk_cell ag.out 6).trans rfl
   have fF : w3.cell? ⟨aq, 7, none⟩ = some (.int .i64 aX) := (blk_cell ag.out 7).trans rfl
   have fG : w3.cell? ⟨aq, 8, none⟩ = some (.int .i64 bd) := (blk_cell ag.out 8).trans rfl
   have fH : w3.cell? ⟨aq, 9, none⟩ = some (.int .i64 ai) := (blk_cell ag.out 9).trans rfl
   have di : w3.cell? ⟨aq, 10, none⟩ = some (.bool aQ) := (blk_cell ag.out 10).trans rfl
   have dj : w3.cell? ⟨aq, 11, none⟩ = some (.int .i64 aF) := (blk_cell ag.out 11).trans rfl
   have dk : w3.cell? ⟨aq, 12, none⟩ = some (.bool aA) := (blk_cell ag.out 12).trans rfl
   have dl : w3.cell? ⟨aq, 13, none⟩ = some (.int .i64 av) := (blk_cell ag.out 13).trans rfl
   have dm : w3.cell? ⟨aq, 14, none⟩ = some (.int .i64 aG) := (blk_cell ag.out 14).trans rfl
   have dn : w3.cell? ⟨aq, 15, none⟩ = some (.int .i64 ab) := (blk_cell ag.out 15).trans rfl
   have dp : w3.cell? ⟨aq, 16, none⟩ = some (.bool aR) := (blk_cell ag.out 16).trans rfl
   have dq : w3.cell? ⟨aq, 17, none⟩ = some (.int .i64 aH) := (blk_cell ag.out 17).trans rfl
   have dr : w3.cell? ⟨aq, 18, none⟩ = some (.bool aB) := (blk_cell ag.out 18).trans rfl
   have ds : w3.cell? ⟨aq, 19, none⟩ = some (.int .i64 aw) := (blk_cell ag.out 19).trans rfl
   have dt : w3.cell? ⟨aq, 20, none⟩ = some (.int .i64 aI) := (blk_cell ag.out 20).trans rfl
   have du : w3.cell? ⟨aq, 21, none⟩ = some (.int .i64 ac) := (blk_cell ag.out 21).trans rfl
   have dv : w3.cell? ⟨aq, 22, none⟩ = some (.bool aS) := (blk_cell ag.out 22).trans rfl
   have dw : w3.cell? ⟨aq, 23, none⟩ = some (.int .i64 aJ) := (blk_cell ag.out 23).trans rfl
   have dx : w3.cell? ⟨aq, 24, none⟩ = some (.bool aC) := (blk_cell ag.out 24).trans rfl
   have dy : w3.cell? ⟨aq, 25, none⟩ = some (.int .i64 ax) := (blk_cell ag.out 25).trans rfl
   have dz : w3.cell? ⟨aq, 26, none⟩ = some (.int .i64 aK) := (blk_cell ag.out 26).trans rfl
   have dA : w3.cell? ⟨aq, 27, none⟩ = some (.int .i64 ad) := (blk_cell ag.out 27).trans rfl
   have dB : w3.cell? ⟨aq, 28, none⟩ = some (.bool aT) := (blk_cell ag.out 28).trans rfl
   have dC : w3.cell? ⟨aq, 29, none⟩ = some (.int .i64 aL) := (blk_cell ag.out 29).trans rfl
   have dD : w3.cell? ⟨aq, 30, none⟩ = some (.bool aD) := (blk_cell ag.out 30).trans rfl
   have dE : w3.cell? ⟨aq, 31, none⟩ = some (.int .i64 ay) := (blk_cell ag.out 31).trans rfl
   have dF : w3.cell? ⟨aq, 32, none⟩ = some (.int .i64 aM) := (blk_cell ag.out 32).trans rfl
   have dG : w3.cell? ⟨aq, 33, none⟩ = some (.int .i64 ae) := (blk_cell ag.out 33).trans rfl
   have dH : w3.cell? ⟨aq, 34, none⟩ = some (.bool aU) := (blk_cell ag.out 34).trans rfl
   have dI : w3.cell? ⟨aq, 35, none⟩ = some (.int .i64 aN) := (blk_cell ag.out 35).trans rfl
   have dJ : w3.cell? ⟨aq, 36, none⟩ = some (.bool aE) := (blk_cell ag.out 36).trans rfl
   have dK : w3.cell? ⟨aq, 37, none⟩ = some (.int .i64 az) := (blk_cell ag.out 37).trans rfl
   have dL : w3.cell? ⟨aq, 38, none⟩ = some (.int .i64 aO) := (blk_cell ag.out 38).trans rfl
   have dM : w3.cell? ⟨aq, 39, none⟩ = some (.int .i64 af) := (blk_cell ag.out 39).trans rfl
   have dN : w3.cell? ⟨aq, 40, none⟩ = some (.bool aV) := (blk_cell ag.out 40).trans rfl
   have dO : w3.cell? ⟨aq, 41, none⟩ = some (.int .i64 aP) := (blk_cell ag.out 41).trans rfl
   have dP : w3.cell? ⟨aq, 42, none⟩ = some (.int .i64 bh) := (blk_cell ag.out 42).trans rfl
   have fI := blk_frozen ag.out 0
   have fJ := blk_frozen ag.out 1
   have fK := blk_frozen ag.out 2
   have fL := blk_frozen ag.out 3
   have fM := blk_frozen ag.out 4
   have fN := blk_frozen ag.out 5
   have fO := blk_frozen ag.out 6
   have fP := blk_frozen ag.out 7
   have fQ := blk_frozen ag.out 8
   have fR := blk_frozen ag.out 9
   have dQ := blk_frozen ag.out 10
   have dR := blk_frozen ag.out 11
   have dS := blk_frozen ag.out 12
   have dT := blk_frozen ag.out 13
   have dU := blk_frozen ag.out 14
   have dV := blk_frozen ag.out 15
   have dW := blk_frozen ag.out 16
   have dX := blk_frozen ag.out 17
   have dY := blk_frozen ag.out 18
   have dZ := blk_frozen ag.out 19
   have d0 := blk_frozen ag.out 20
   have d1 := blk_frozen ag.out 21
   have d2 := blk_frozen ag.out 22
   have d3 := blk_frozen ag.out 23
   have d4 := blk_frozen ag.out 24
   have d5 := blk_frozen ag.out 25
   have d6 := blk_frozen ag.out 26
   have d7 := blk_frozen ag.out 27
   have d8 := blk_frozen ag.out 28
   have d9 := blk_frozen ag.out 29
   have ea := blk_frozen ag.out 30
   have eb := blk_frozen ag.out 31
   have ec := blk_frozen ag.out 32
   have ed := blk_frozen ag.out 33
   have ee := blk_frozen ag.out 34
   have ef := blk_frozen ag.out 35
   have eg := blk_frozen ag.out 36
   have eh := blk_frozen ag.out 37
   have ei := blk_frozen ag.out 38
   have ej := blk_frozen ag.out 39
   have ek := blk_frozen ag.out 40
   have el := blk_frozen ag.out 41
   have em := blk_frozen ag.out 42
   go_wp2
   go_meet
   case rel => exact ⟨_, (true), (by first | rfl | (simp; done) | (simp [*]; done)), H', ⟨by first | omega | exact Nat.le_refl _⟩, ⟨by (with_reducible repeat (first | refine blk_drewN ?_ _ | refine blk_drew ?_ | refine blk_alloc ?_ _)); exact ag.out⟩, ⟨zho HB⟩⟩
  ·rw [if_neg c4] at H
   have c4b0 : decide (bh < 0) = false := decide_eq_false c4
   clear c4
   (first | rw [c4b0] | (simp only [i64_w, i32_w]; rw [c4b0]) | rw [c4b1] | skip)
   have H' := Aside0.mk H
   clear H
   have fS : w3.cell? ⟨aq, 0, none⟩ = some (.bool aZ) := (blk_cell ag.out 0).trans rfl
   have fT : w3.cell? ⟨aq, 1, none⟩ = some (.int .i64 aW) := (blk_cell ag.out 1).trans rfl
   have fU : w3.cell? ⟨aq, 2, none⟩ = some (.int .i64 bb) := (blk_cell ag.out 2).trans rfl
   have fV : w3.cell? ⟨aq, 3, none⟩ = some (.int .i64 ah) := (blk_cell ag.out 3).trans rfl
   have fW : w3.cell? ⟨aq, 4, none⟩ = some (.bool be) := (blk_cell ag.out 4).trans rfl
   have fX : w3.cell? ⟨aq, 5, none⟩ = some (.int .i64 bc) := (blk_cell ag.out 5).trans rfl
   have fY : w3.cell? ⟨aq, 6, none⟩ = some (.bool ba) := (blk_cell ag.out 6).trans rfl
   have fZ : w3.cell? ⟨aq, 7, none⟩ = some (.int .i64 aX) := (blk_cell ag.out 7).trans rfl
   have f0 : w3.cell? ⟨aq, 8, none⟩ = some (.int .i64 bd) := (blk_cell ag.out 8).trans rfl
   have f1 : w3.cell? ⟨aq, 9, none⟩ = some (.int .i64 ai) := (blk_cell ag.out 9).trans rfl
   have en : w3.cell? ⟨aq, 10, none⟩ = some (.bool aQ) := (blk_cell ag.out 10).trans rfl
   have eo : w3.cell? ⟨aq, 11, none⟩ = some (.int .i64 aF) := (blk_cell ag.out 11).trans rfl
   have ep : w3.cell? ⟨aq, 12, none⟩ = some (.bool aA) := (blk_cell ag.out 12).trans rfl
   have er : w3.cell? ⟨aq, 13, none⟩ = some (.int .i64 av) := (blk_cell ag.out 13).trans rfl
   have es : w3.cell? ⟨aq, 14, none⟩ = some (.int .i64 aG) := (blk_cell ag.out 14).trans rfl
   have et : w3.cell? ⟨aq, 15, none⟩ = some (.int .i64 ab) := (blk_cell ag.out 15).trans rfl
   have eu : w3.cell? ⟨aq, 16, none⟩ = some (.bool aR) := (blk_cell ag.out 16).trans rfl
   have ev : w3.cell? ⟨aq, 17, none⟩ = some (.int .i64 aH) := (blk_cell ag.out 17).trans rfl
   have ew : w3.cell? ⟨aq, 18, none⟩ = some (.bool aB) := (blk_cell ag.out 18).trans rfl
   have ex : w3.cell? ⟨aq, 19, none⟩ = some (.int .i64 aw) := (blk_cell ag.out 19).trans rfl
   have ey : w3.cell? ⟨aq, 20, none⟩ = some (.int .i64 aI) := (blk_cell ag.out 20).trans rfl
   have ez : w3.cell? ⟨aq, 21, none⟩ = some (.int .i64 ac) := (blk_cell ag.out 21).trans rfl
   have eA : w3.cell? ⟨aq, 22, none⟩ = some (.bool aS) := (blk_cell ag.out 22).trans rfl
   have eB : w3.cell? ⟨aq, 23, none⟩ = some (.int .i64 aJ) := (blk_cell ag.out 23).trans rfl
   have eC : w3.cell? ⟨aq, 24, none⟩ = some (.bool aC) := (blk_cell ag.out 24).trans rfl
   have eD : w3.cell? ⟨aq, 25, none⟩ = some (.int .i64 ax) := (blk_cell ag.out 25).trans rfl
   have eE : w3.cell? ⟨aq, 26, none⟩ = some (.int .i64 aK) := (blk_cell ag.out 26).trans rfl
   have eF : w3.cell? ⟨aq, 27, none⟩ = some (.int .i64 ad) := (blk_cell ag.out 27).trans rfl
   have eG : w3.cell? ⟨aq, 28, none⟩ = some (.bool aT) := (blk_cell ag.out 28).trans rfl
   have eH : w3.cell? ⟨aq, 29, none⟩ = some (.int .i64 aL) := (blk_cell ag.out 29).trans rfl
   have eI : w3.cell? ⟨aq, 30, none⟩ = some (.bool aD) := (blk_cell ag.out 30).trans rfl
   have eJ : w3.cell? ⟨aq, 31, none⟩ = some (.int .i64 ay) := (blk_cell ag.out 31).trans rfl
   have eK : w3.cell? ⟨aq, 32, none⟩ = some (.int .i64 aM) := (blk_cell ag.out 32).trans rfl
   have eL : w3.cell? ⟨aq, 33, none⟩ = some (.int .i64 ae) := (blk_cell ag.out 33).trans rfl
   have eM : w3.cell? ⟨aq, 34, none⟩ = some (.bool aU) := (blk_cell ag.out 34).trans rfl
   have eN : w3.cell? ⟨aq, 35, none⟩ = some (.int .i64 aN) := (blk_cell ag.out 35).trans rfl
   have eO : w3.cell? ⟨aq, 36, none⟩ = some (.bool aE) := (blk_cell ag.out 36).trans rfl
   have eP : w3.cell? ⟨aq, 37, none⟩ = some (.int .i64 az) := (blk_cell ag.out 37).trans rfl
   have eQ : w3.cell? ⟨aq, 38, none⟩ = some (.int .i64 aO) := (blk_cell ag.out 38).trans rfl
   have eR : w3.cell? ⟨aq, 39, none⟩ = some (.int .i64 af) := (blk_cell ag.out 39).trans rfl
   have eS : w3.cell? ⟨aq, 40, none⟩ = some (.bool aV) := (blk_cell ag.out 40).trans rfl
   have eT : w3.cell? ⟨aq, 41, none⟩ = some (.int .i64 aP) := (blk_cell ag.out 41).trans rfl
   have eU : w3.cell? ⟨aq, 42, none⟩ = some (.int .i64 bh) := (blk_cell ag.out 42).trans rfl
   have f2 := blk_frozen ag.out 0
   have f3 := blk_frozen ag.out 1
   have f4 := blk_frozen ag.out 2
   have f5 := blk_frozen ag.out 3
   have f6 := blk_frozen ag.out 4
   have f7 := blk_frozen ag.out 5
   have f8 := blk_frozen ag.out 6
   have f9 := blk_frozen ag.out 7
   have ga := blk_frozen ag.out 8
   have gb := blk_frozen ag.out 9
   have eV := blk_frozen ag.out 10
   have eW := blk_frozen ag.out 11
   have eX := blk_frozen ag.out 12
   have eY := blk_frozen ag.out 13
   have eZ := blk_frozen ag.out 14
   have e0 := blk_frozen ag.out 15
   have e1 := blk_frozen ag.out 16
   have e2 := blk_frozen ag.out 17
   have e3 := blk_frozen ag.out 18
   have e4 := blk_frozen ag.out 19
   have e5 := blk_frozen ag.out 20
   have e6 := blk_frozen ag.out 21
   have e7 := blk_frozen ag.out 22
   have e8 := blk_frozen ag.out 23
   have e9 := blk_frozen ag.out 24
   have fa := blk_frozen ag.out 25
   have fb := blk_frozen ag.out 26
   have fc := blk_frozen ag.out 27
   have fd := blk_frozen ag.out 28
   have fe := blk_frozen ag.out 29
   have ff := blk_frozen ag.out 30
   have fg := blk_frozen ag.out 31
   have fh := blk_frozen ag.out 32
   have fi := blk_frozen ag.out 33
   have fj := blk_frozen ag.out 34
   have fk := blk_frozen ag.out 35
   have fl := blk_frozen ag.out 36
   have fm := blk_frozen ag.out 37
   have fn := blk_frozen ag.out 38
   have fo := blk_frozen ag.out 39
   have fp := blk_frozen ag.out 40
   have fq := blk_frozen ag.out 41
   have fr := blk_frozen ag.out 42
   go_wp2
   go_meet
   case rel => exact ⟨_, (decide (bh > 1073741824)), (by first | rfl | (simp; done) | (simp [*]; done)), H', ⟨by first | omega | exact Nat.le_refl _⟩, ⟨by (with_reducible repeat (first | refine blk_drewN ?_ _ | refine blk_drew ?_ | refine blk_alloc ?_ _)); exact ag.out⟩, ⟨zho HB⟩⟩
 case rest =>
  clear HC2
  try clear c2 p2 c4 c4b0 c4b1 fy fz di dj dk dl dm dn dp dq dr ds fA dt du dv dw dx dy dz dA dB dC fB dD dE dF dG dH dI dJ dK dL dM fC dN dO dP fD fE fF fG fH fS fT en eo ep er es et eu ev ew ex fU ey ez eA eB eC eD eE eF eG eH fV eI eJ eK eL eM eN eO eP eQ eR fW eS eT eU fX fY fZ f0 f1 fI fJ dQ dR dS dT dU dV dW dX dY dZ fK d0 d1 d2 d3 d4 d5 d6 d7 d8 d9 fL ea eb ec ed ee ef eg eh ei ej fM ek el em fN fO fP fQ fR f2 f3 eV eW eX eY eZ e0 e1 e2 e3 e4 f4 e5 e6 e7 e8 e9 fa fb fc fd fe f5 ff fg fh fi fj fk fl fm fn fo f6 fp fq fr f7 f8 f9 ga gb
  obtain ⟨kq, ke, rfl, HA, HJ1, ag, HB⟩ := hcut
  cases kq with
  | zero => exact absurd HA.out (by simp [jobs_Valid.j0])
  | succ kj1 =>
   have H := HA.out
   clear HA
   simp only [jobs_Valid.j0] at H
   by_cases c7 : ke = true
   ·subst c7
    have H1 : (some false) = some r := by rw [if_pos rfl] at H; exact H
    clear H
    have H := H1
    clear H1
    obtain rfl := Option.some.inj H
    go_wp2
    go_ret
    exact ⟨by first | rfl | (simp [errW_none, errW_some] <;> rfl) | (simp [*, errW_none, errW_some] <;> rfl), zho HB⟩
   ·replace c7 := Bool.eq_false_iff.mpr c7
    subst c7
    have H1 : (jobs_Valid.l0 kj1 0 aZ aW bb ah be bc ba aX bd ai aQ aF aA av aG ab aR aH aB aw aI ac aS aJ aC ax aK ad aT aL aD ay aM ae aU aN aE az aO af aV aP bh 0 0 0 0 0 0 0 aZ aW bb ah be bc ba aX bd ai aQ aF aA av aG ab aR aH aB aw aI ac aS aJ aC ax aK ad aT aL aD ay aM ae aU aN aE az aO af aV aP) = some r := by rw [if_neg (show ¬ (false = true) by decide)] at H; exact H
    clear H
    have H := H1
    clear H1
    have H' := Aside0.mk H
    clear H
    go_wp2_with (first | ((with_reducible refine gate_dst (N := 3) rfl ?_); refine box_event ?hg (N := 3) ?hd (cs := #[.int .i64 0, .int .i64 0, .int .i64 0, .int .i64 0, .int .i64 0, .int .i64 0, .int .i64 0]) (t := 61) ?hr ?_; (case hd => rfl); (case hg => rfl); (case hr => first | (go_simp; done) | (go_simp; rfl)); intro bp hg w8 hbox hb; have bg := Aside0.mk hbox; have GW103 := zhs HB hg; have bt := zhs HB hg; have gc := znl ag hg; have kd := zng ag hg; replace ag := zbB ag hb; replace HB := zhB HB hb; clear hb hbox hg) | ((with_reducible refine gate_dst (N := 17) rfl ?_); refine seg_load_on (t := 25) (p := 16) (g := aq) (off := 0) (T := 27) (cur := Jt aZ aW bb ah be bc ba aX bd ai aQ aF aA av aG ab aR aH aB aw aI ac aS aJ aC ax aK ad aT aL aD ay aM ae aU aN aE az aO af aV aP bh) (vs := [.bool aZ, .int .i64 aW, .int .i64 bb, .int .i64 ah, .bool be, .int .i64 bc, .bool ba, .int .i64 aX, .int .i64 bd, .int .i64 ai, .bool aQ, .int .i64 aF, .bool aA, .int .i64 av, .int .i64 aG, .int .i64 ab, .bool aR, .int .i64 aH, .bool aB, .int .i64 aw, .int .i64 aI, .int .i64 ac, .bool aS, .int .i64 aJ, .bool aC, .int .i64 ax, .int .i64 aK, .int .i64 ad, .bool aT, .int .i64 aL, .bool aD, .int .i64 ay, .int .i64 aM, .int .i64 ae, .bool aU, .int .i64 aN, .bool aE, .int .i64 az, .int .i64 aO, .int .i64 af, .bool aV, .int .i64 aP]) ?hg ?ho ?hp ?hb Try.underlying25 ?hd ?hi ?hw ?_; (case ho => rfl); (case hg => first | rfl | (go_simp; done) | (simp [Region.wanted, yielded, *]; done)); (case hp => rfl); (case hb => exact ag.out); (case hd => rfl); (case hi => kernel_rfl); (case hw => rfl)))
    go_loopg [18] kj1 (fun kq v18 w' => ∃ (aa : Int) (aj : Int) (ak : Int) (al : Int) (am : Int) (an : Int) (ao : Int) (ap : Int), v18 = .int .i64 aa ∧ Aside0 (jobs_Valid.l0 kq aa aZ aW bb ah be bc ba aX bd ai aQ aF aA av aG ab aR aH aB aw aI ac aS aJ aC ax aK ad aT aL aD ay aM ae aU aN aE az aO af aV aP bh aj ak al am an ao ap aZ aW bb ah be bc ba aX bd ai aQ aF aA av aG ab aR aH aB aw aI ac aS aJ aC ax aK ad aT aL aD ay aM ae aU aN aE az aO af aV aP = some r) ∧ Aside0 (kq ≤ kj1) ∧ Aside0 (w'.heap[aq]? = some (.cells (Jt aZ aW bb ah be bc ba aX bd ai aQ aF aA av aG ab aR aH aB aw aI ac aS aJ aC ax aK ad aT aL aD ay aM ae aU aN aE az aO af aV aP bh) 27 (0, 0))) ∧ Aside0 (w'.heap[bp]? = some (.cells #[.int .i64 aj, .int .i64 ak, .int .i64 al, .int .i64 am, .int .i64 an, .int .i64 ao, .int .i64 ap] 61 (0, 0))) ∧ Aside0 (Below w.heap.size w w'))
    case atStart => exact ⟨(0), (0), (0), (0), (0), (0), (0), (0), (by first | rfl | (simp; done) | (simp [*]; done)), H', ⟨Nat.le_refl _⟩, ⟨by (with_reducible repeat (first | refine blk_drewN ?_ _ | refine blk_drew ?_ | refine blk_alloc ?_ _)); exact ag.out⟩, ⟨by (with_reducible repeat (first | refine blk_drewN ?_ _ | refine blk_drew ?_ | refine blk_alloc ?_ _)); exact bg.out⟩, ⟨zho HB⟩⟩
    case round =>
     clear H'
     try clear c2 p2 c4 c4b0 c4b1 c7 fy fz di dj dk dl dm dn dp dq dr ds fA dt du dv dw dx dy dz dA dB dC fB dD dE dF dG dH dI dJ dK dL dM fC dN dO dP fD fE fF fG fH fS fT en eo ep er es et eu ev ew ex fU ey ez eA eB eC eD eE eF eG eH fV eI eJ eK eL eM eN eO eP eQ eR fW eS eT eU fX fY fZ f0 f1 fI fJ dQ dR dS dT dU dV dW dX dY dZ fK d0 d1 d2 d3 d4 d5 d6 d7 d8 d9 fL ea eb ec ed ee ef eg eh ei ej fM ek el em fN fO fP fQ fR f2 f3 eV eW eX eY eZ e0 e1 e2 e3 e4 f4 e5 e6 e7 e8 e9 fa fb fc fd fe f5 ff fg fh fi fj fk fl fm fn fo f6 fp fq fr f7 f8 f9 ga gb p2
     obtain ⟨aa, aj, ak, al, am, an, ao, ap, rfl, HA, HK2, ag, bg, HB⟩ := hrel
     cases gk with
     | zero => exact absurd HA.out (by simp [jobs_Valid.l0])
     | succ k2 =>
      have H := HA.out
      clear HA
      simp only [jobs_Valid.l0] at H
      by_cases c9 : aa < 7
      ·rw [if_pos c9] at H
       have c9b0 : decide (aa < 7) = true := decide_eq_true c9
       clear c9
       by_cases c10 : 0 ≤ aa
       ·rw [if_pos c10] at H
        have c10b0 : decide (0 ≤ aa) = true := decide_eq_true c10
        clear c10
        by_cases c11 : pk7 aZ ba aA aB aC aD aE aa = true
        ·rw [if_pos c11] at H
         have c11b0 : pk7 aZ ba aA aB aC aD aE aa = true := c11
         clear c11
         have HC12 := Aside0.mk H
         clear H
         have vi104 := fun (W_ : World) => idxA25 aZ aW bb ah be bc ba aX bd ai aQ aF aA av aG ab aR aH aB aw aI ac aS aJ aC ax aK ad aT aL aD ay aM ae aU aN aE az aO af aV aP .i64 (aa) (of_decide_eq_true (by first | (with_reducible assumption) | assumption)) (of_decide_eq_true (by first | (with_reducible assumption) | assumption)) W_
         go_upto_region 10 with (first | ((with_reducible refine gate_dst (N := 5) rfl ?_); refine box_event ?hg (N := 5) ?hd (cs := #[.bool false, .int .i64 0, .int .i64 0, .int .i64 0, .bool false, .int .i64 0]) (t := 24) ?hr ?_; (case hd => rfl); (case hg => rfl); (case hr => first | (go_simp; done) | (go_simp; rfl)); intro aY hg w13 hbox hb; have ar := Aside0.mk hbox; have kR := zhs HB hg; have bu := zhs HB hg; have bv := znl ag hg; have cv := zng ag hg; have bw := znl bg hg; have bG := zng bg hg; replace ag := zbB ag hb; replace bg := zbB bg hb; replace HB := zhB HB hb; clear hb hbox hg) | ((with_reducible refine gate_store (t := 24) (p := 5) rfl ?_); refine seg_event (t := 24) (p := 5) (x := ?xo_w14) (g := aY) (off := 0) (T := 24) (cur := #[.bool false, .int .i64 0, .int .i64 0, .int .i64 0, .bool false, .int .i64 0]) (vs := [.bool (pk7 aZ ba aA aB aC aD aE aa), .int .i64 (pk7 aW aX av aw ax ay az aa), .int .i64 (pk7 bb bd aG aI aK aM aO aa), .int .i64 (pk7 ah ai ab ac ad ae af aa), .bool (pk7 be aQ aR aS aT aU aV aa), .int .i64 (pk7 bc aF aH aJ aL aN aP aa)]) (new := #[.bool (pk7 aZ ba aA aB aC aD aE aa), .int .i64 (pk7 aW aX av aw ax ay az aa), .int .i64 (pk7 bb bd aG aI aK aM aO aa), .int .i64 (pk7 ah ai ab ac ad ae af aa), .bool (pk7 be aQ aR aS aT aU aV aa), .int .i64 (pk7 bc aF aH aJ aL aN aP aa)]) ?hg ?ho ?hn ?hp ?hv ?hb ?hi ?hf ?h1 ?hw ?_; (case ho => rfl); (case hg => rfl); (case hn => rfl); (case hp => rfl); (case hv => first | rfl | (go_simp; done) | (simp [*]; done)); (case hb => exact ar.out); (case hi => kernel_rfl); (case hf => exact Nat.le_of_ble_eq_true rfl); (case h1 => rfl); (case hw => rfl); intro w14 hbox hg hbl; replace ag := zbG ag hg bv; replace bg := zbG bg hg bw; replace ar := Aside0.mk hbox; replace HB := zhL hbl HB bu; clear hbox hg hbl; have hnb15 := cv.out; have hnc15 := bv.out; have hnb16 := bG.out; have hnc16 := bw.out; have iK : w14.cell? ⟨aY, 0, none⟩ = some (.bool (pk7 aZ ba aA aB aC aD aE aa)) := (blk_cell ar.out 0).trans rfl; have iL : w14.cell? ⟨aY, 1, none⟩ = some (.int .i64 (pk7 aW aX av aw ax ay az aa)) := (blk_cell ar.out 1).trans rfl; have iM : w14.cell? ⟨aY, 2, none⟩ = some (.int .i64 (pk7 bb bd aG aI aK aM aO aa)) := (blk_cell ar.out 2).trans rfl; have iN : w14.cell? ⟨aY, 3, none⟩ = some (.int .i64 (pk7 ah ai ab ac ad ae af aa)) := (blk_cell ar.out 3).trans rfl; have iO : w14.cell? ⟨aY, 4, none⟩ = some (.bool (pk7 be aQ aR aS aT aU aV aa)) := (blk_cell ar.out 4).trans rfl; have iP : w14.cell? ⟨aY, 5, none⟩ = some (.int .i64 (pk7 bc aF aH aJ aL aN aP aa)) := (blk_cell ar.out 5).trans rfl; have iQ := blk_frozen ar.out 0; have iR := blk_frozen ar.out 1; have iS := blk_frozen ar.out 2; have iT := blk_frozen ar.out 3; have iU := blk_frozen ar.out 4; have iV := blk_frozen ar.out 5))
         (try simp only [Act.put, List.setIfInBounds_toArray, List.set_cons_zero, List.set_cons_succ])
         go_cut [47] (fun v47 wc => ∃ (kq : Nat) (iI : Bool), v47 = .bool iI ∧ Aside0 (jobs_Valid.j2 kq aa aa iI aZ aW bb ah be bc ba aX bd ai aQ aF aA av aG ab aR aH aB aw aI ac aS aJ aC ax aK ad aT aL aD ay aM ae aU aN aE az aO af aV aP bh aj ak al am an ao ap (pk7 aZ ba aA aB aC aD aE aa) (pk7 aW aX av aw ax ay az aa) (pk7 bb bd aG aI aK aM aO aa) (pk7 ah ai ab ac ad ae af aa) (pk7 be aQ aR aS aT aU aV aa) (pk7 bc aF aH aJ aL aN aP aa) aZ aW bb ah be bc ba aX bd ai aQ aF aA av aG ab aR aH aB aw aI ac aS aJ aC ax aK ad aT aL aD ay aM ae aU aN aE az aO af aV aP = some r) ∧ Aside0 (kq ≤ k2) ∧ Aside0 (wc.heap[aq]? = some (.cells (Jt aZ aW bb ah be bc ba aX bd ai aQ aF aA av aG ab aR aH aB aw aI ac aS aJ aC ax aK ad aT aL aD ay aM ae aU aN aE az aO af aV aP bh) 27 (0, 0))) ∧ Aside0 (wc.heap[bp]? = some (.cells #[.int .i64 aj, .int .i64 ak, .int .i64 al, .int .i64 am, .int .i64 an, .int .i64 ao, .int .i64 ap] 61 (0, 0))) ∧ Aside0 (wc.heap[aY]? = some (.cells #[.bool (pk7 aZ ba aA aB aC aD aE aa), .int .i64 (pk7 aW aX av aw ax ay az aa), .int .i64 (pk7 bb bd aG aI aK aM aO aa), .int .i64 (pk7 ah ai ab ac ad ae af aa), .bool (pk7 be aQ aR aS aT aU aV aa), .int .i64 (pk7 bc aF aH aJ aL aN aP aa)] 24 (0, 0))) ∧ Aside0 (Below w.heap.size w wc))
         case first =>
          have H := HC12.out
          clear HC12
          by_cases c18 : (pk7 aW aX av aw ax ay az aa) < 1
          ·rw [if_pos c18] at H
           have c18b0 : decide ((pk7 aW aX av aw ax ay az aa) < 1) = true := decide_eq_true c18
           clear c18
           (first | rw [c18b0] | (simp only [i64_w, i32_w]; rw [c18b0]) | rw [c18b1] | skip)
           have H' := Aside0.mk H
           clear H
           have hnb19 := cv.out
           have hnc19 := bv.out
           have hnb20 := bG.out
           have hnc20 := bw.out
           have iW : w14.cell? ⟨aY, 0, none⟩ = some (.bool (pk7 aZ ba aA aB aC aD aE aa)) := (blk_cell ar.out 0).trans rfl
           have iX : w14.cell? ⟨aY, 1, none⟩ = some (.int .i64 (pk7 aW aX av aw ax ay az aa)) := (blk_cell ar.out 1).trans rfl
           have iY : w14.cell? ⟨aY, 2, none⟩ = some (.int .i64 (pk7 bb bd aG aI aK aM aO aa)) := (blk_cell ar.out 2).trans rfl
           have iZ : w14.cell? ⟨aY, 3, none⟩ = some (.int .i64 (pk7 ah ai ab ac ad ae af aa)) := (blk_cell ar.out 3).trans rfl
           have i0 : w14.cell? ⟨aY, 4, none⟩ = some (.bool (pk7 be aQ aR aS aT aU aV aa)) := (blk_cell ar.out 4).trans rfl
           have i1 : w14.cell? ⟨aY, 5, none⟩ = some (.int .i64 (pk7 bc aF aH aJ aL aN aP aa)) := (blk_cell ar.out 5).trans rfl
           have i2 := blk_frozen ar.out 0
           have i3 := blk_frozen ar.out 1
           have i4 := blk_frozen ar.out 2
           have i5 := blk_frozen ar.out 3
           have i6 := blk_frozen ar.out 4
           have i7 := blk_frozen ar.out 5
           go_wp2
           go_meet
           case rel => exact ⟨_, (true), (by first | rfl | (simp; done) | (simp [*]; done)), H', ⟨by have := HJ1.out; have := HK2.out; first | omega | exact Nat.le_refl _⟩, ⟨by (with_reducible repeat (first | refine blk_drewN ?_ _ | refine blk_drew ?_ | refine blk_alloc ?_ _)); exact ag.out⟩, ⟨by (with_reducible repeat (first | refine blk_drewN ?_ _ | refine blk_drew ?_ | refine blk_alloc ?_ _)); exact bg.out⟩, ⟨by (with_reducible repeat (first | refine blk_drewN ?_ _ | refine blk_drew ?_ | refine blk_alloc ?_ _)); exact ar.out⟩, ⟨zho HB⟩⟩
          ·rw [if_neg c18] at H
           have c18b0 : decide ((pk7 aW aX av aw ax ay az aa) < 1) = false := decide_eq_false c18
           clear c18
           (first | rw [c18b0] | (simp only [i64_w, i32_w]; rw [c18b0]) | rw [c18b1] | skip)
           by_cases c22 : (pk7 aW aX av aw ax ay az aa) > bh
           ·rw [if_pos c22] at H
            have c22b0 : decide (bh < (pk7 aW aX av aw ax ay az aa)) = true := decide_eq_true c22
            clear c22
            have H' := Aside0.mk H
            clear H
            have hnb23 := cv.out
            have hnc23 := bv.out
            have hnb24 := bG.out
            have hnc24 := bw.out
            have i8 : w14.cell? ⟨aY, 0, none⟩ = some (.bool (pk7 aZ ba aA aB aC aD aE aa)) := (blk_cell ar.out 0).trans rfl
            have i9 : w14.cell? ⟨aY, 1, none⟩ = some (.int .i64 (pk7 aW aX av aw ax ay az aa)) := (blk_cell ar.out 1).trans rfl
            have ja : w14.cell? ⟨aY, 2, none⟩ = some (.int .i64 (pk7 bb bd aG aI aK aM aO aa)) := (blk_cell ar.out 2).trans rfl
            have jb : w14.cell? ⟨aY, 3, none⟩ = some (.int .i64 (pk7 ah ai ab ac ad ae af aa)) := (blk_cell ar.out 3).trans rfl
            have jc : w14.cell? ⟨aY, 4, none⟩ = some (.bool (pk7 be aQ aR aS aT aU aV aa)) := (blk_cell ar.out 4).trans rfl
            have jd : w14.cell? ⟨aY, 5, none⟩ = some (.int .i64 (pk7 bc aF aH aJ aL aN aP aa)) := (blk_cell ar.out 5).trans rfl
            have je := blk_frozen ar.out 0
            have jf := blk_frozen ar.out 1
            have jg := blk_frozen ar.out 2
            have jh := blk_frozen ar.out 3
            have ji := blk_frozen ar.out 4
            have jj := blk_frozen ar.out 5
            have hnb26 := gc.out
            have hnc26 := kd.out
            have jk : w14.cell? ⟨aq, 0, none⟩ = some (.bool aZ) := (blk_cell ag.out 0).trans rfl
            have jl : w14.cell? ⟨aq, 1, none⟩ = some (.int .i64 aW) := (blk_cell ag.out 1).trans rfl
            have jm : w14.cell? ⟨aq, 2, none⟩ = some (.int .i64 bb) := (blk_cell ag.out 2).trans rfl
            have jn : w14.cell? ⟨aq, 3, none⟩ = some (.int .i64 ah) := (blk_cell ag.out 3).trans rfl
            have jo : w14.cell? ⟨aq, 4, none⟩ = some (.bool be) := (blk_cell ag.out 4).trans rfl
            have jp : w14.cell? ⟨aq, 5, none⟩ = some (.int .i64 bc) := (blk_cell ag.out 5).trans rfl
            have jq : w14.cell? ⟨aq, 6, none⟩ = some (.bool ba) := (blk_cell ag.out 6).trans rfl
            have jr : w14.cell? ⟨aq, 7, none⟩ = some (.int .i64 aX) := (blk_cell ag.out 7).trans rfl
            have js : w14.cell? ⟨aq, 8, none⟩ = some (.int .i64 bd) := (blk_cell ag.out 8).trans rfl
            have jt : w14.cell? ⟨aq, 9, none⟩ = some (.int .i64 ai) := (blk_cell ag.out 9).trans rfl
            have gd : w14.cell? ⟨aq, 10, none⟩ = some (.bool aQ) := (blk_cell ag.out 10).trans rfl
            have ge : w14.cell? ⟨aq, 11, none⟩ = some (.int .i64 aF) := (blk_cell ag.out 11).trans rfl
            have gf : w14.cell? ⟨aq, 12, none⟩ = some (.bool aA) := (blk_cell ag.out 12).trans rfl
            have gg : w14.cell? ⟨aq, 13, none⟩ = some (.int .i64 av) := (blk_cell ag.out 13).trans rfl
            have gh : w14.cell? ⟨aq, 14, none⟩ = some (.int .i64 aG) := (blk_cell ag.out 14).trans rfl
            have gi : w14.cell? ⟨aq, 15, none⟩ = some (.int .i64 ab) := (blk_cell ag.out 15).trans rfl
            have gj : w14.cell? ⟨aq, 16, none⟩ = some (.bool aR) := (blk_cell ag.out 16).trans rfl
            have gl : w14.cell? ⟨aq, 17, none⟩ = some (.int .i64 aH) := (blk_cell ag.out 17).trans rfl
            have gm : w14.cell? ⟨aq, 18, none⟩ = some (.bool aB) := (blk_cell ag.out 18).trans rfl
            have gn : w14.cell? ⟨aq, 19, none⟩ = some (.int .i64 aw) := (blk_cell ag.out 19).trans rfl
            have gp : w14.cell? ⟨aq, 20, none⟩ = some (.int .i64 aI) := (blk_cell ag.out 20).trans rfl
            have gq : w14.cell? ⟨aq, 21, none⟩ = some (.int .i64 ac) := (blk_cell ag.out 21).trans rfl
            have gr : w14.cell? ⟨aq, 22, none⟩ = some (.bool aS) := (blk_cell ag.out 22).trans rfl
            have gs : w14.cell? ⟨aq, 23, none⟩ = some (.int .i64 aJ) := (blk_cell ag.out 23).trans rfl
            have gt : w14.cell? ⟨aq, 24, none⟩ = some (.bool aC) := (blk_cell ag.out 24).trans rfl
            have gu : w14.cell? ⟨aq, 25, none⟩ = some (.int .i64 ax) := (blk_cell ag.out 25).trans rfl
            have gv : w14.cell? ⟨aq, 26, none⟩ = some (.int .i64 aK) := (blk_cell ag.out 26).trans rfl
            have gw : w14.cell? ⟨aq, 27, none⟩ = some (.int .i64 ad) := (blk_cell ag.out 27).trans rfl
            have gx : w14.cell? ⟨aq, 28, none⟩ = some (.bool aT) := (blk_cell ag.out 28).trans rfl
            have gy : w14.cell? ⟨aq, 29, none⟩ = some (.int .i64 aL) := (blk_cell ag.out 29).trans rfl
            have gz : w14.cell? ⟨aq, 30, none⟩ = some (.bool aD) := (blk_cell ag.out 30).trans rfl
            have gA : w14.cell? ⟨aq, 31, none⟩ = some (.int .i64 ay) := (blk_cell ag.out 31).trans rfl
            have gB : w14.cell? ⟨aq, 32, none⟩ = some (.int .i64 aM) := (blk_cell ag.out 32).trans rfl
            have gC : w14.cell? ⟨aq, 33, none⟩ = some (.int .i64 ae) := (blk_cell ag.out 33).trans rfl
            have gD : w14.cell? ⟨aq, 34, none⟩ = some (.bool aU) := (blk_cell ag.out 34).trans rfl
            have gE : w14.cell? ⟨aq, 35, none⟩ = some (.int .i64 aN) := (blk_cell ag.out 35).trans rfl
            have gF : w14.cell? ⟨aq, 36, none⟩ = some (.bool aE) := (blk_cell ag.out 36).trans rfl
            have gG : w14.cell? ⟨aq, 37, none⟩ = some (.int .i64 az) := (blk_cell ag.out 37).trans rfl
            have gH : w14.cell? ⟨aq, 38, none⟩ = some (.int .i64 aO) := (blk_cell ag.out 38).trans rfl
            have gI : w14.cell? ⟨aq, 39, none⟩ = some (.int .i64 af) := (blk_cell ag.out 39).trans rfl
            have gJ : w14.cell? ⟨aq, 40, none⟩ = some (.bool aV) := (blk_cell ag.out 40).trans rfl
            have gK : w14.cell? ⟨aq, 41, none⟩ = some (.int .i64 aP) := (blk_cell ag.out 41).trans rfl
            have gL : w14.cell? ⟨aq, 42, none⟩ = some (.int .i64 bh) := (blk_cell ag.out 42).trans rfl
            have ju := blk_frozen ag.out 0
            have jv := blk_frozen ag.out 1
            have jw := blk_frozen ag.out 2
            have jx := blk_frozen ag.out 3
            have jy := blk_frozen ag.out 4
            have jz := blk_frozen ag.out 5
            have jA := blk_frozen ag.out 6
            have jB := blk_frozen ag.out 7
            have jC := blk_frozen ag.out 8
            have jD := blk_frozen ag.out 9
            have gM := blk_frozen ag.out 10
            have gN := blk_frozen ag.out 11
            have gO := blk_frozen ag.out 12
            have gP := blk_frozen ag.out 13
            have gQ := blk_frozen ag.out 14
            have gR := blk_frozen ag.out 15
            have gS := blk_frozen ag.out 16
            have gT := blk_frozen ag.out 17
            have gU := blk_frozen ag.out 18
            have gV := blk_frozen ag.out 19
            have gW := blk_frozen ag.out 20
            have gX := blk_frozen ag.out 21
            have gY := blk_frozen ag.out 22
            have gZ := blk_frozen ag.out 23
            have g0 := blk_frozen ag.out 24
            have g1 := blk_frozen ag.out 25
            have g2 := blk_frozen ag.out 26
            have g3 := blk_frozen ag.out 27
            have g4 := blk_frozen ag.out 28
            have g5 := blk_frozen ag.out 29
            have g6 := blk_frozen ag.out 30
            have g7 := blk_frozen ag.out 31
            have g8 := blk_frozen ag.out 32
            have g9 := blk_frozen ag.out 33
            have ha := blk_frozen ag.out 34
            have hc := blk_frozen ag.out 35
            have he := blk_frozen ag.out 36
            have hj := blk_frozen ag.out 37
            have hk := blk_frozen ag.out 38
            have ht := blk_frozen ag.out 39
            have hu := blk_frozen ag.out 40
            have hx := blk_frozen ag.out 41
            have hy := blk_frozen ag.out 42
            go_wp2
            go_meet
            case rel => exact ⟨_, (true), (by first | rfl | (simp; done) | (simp [*]; done)), H', ⟨by have := HJ1.out; have := HK2.out; first | omega | exact Nat.le_refl _⟩, ⟨by (with_reducible repeat (first | refine blk_drewN ?_ _ | refine blk_drew ?_ | refine blk_alloc ?_ _)); exact ag.out⟩, ⟨by (with_reducible repeat (first | refine blk_drewN ?_ _ | refine blk_drew ?_ | refine blk_alloc ?_ _)); exact bg.out⟩, ⟨by (with_reducible repeat (first | refine blk_drewN ?_ _ | refine blk_drew ?_ | refine blk_alloc ?_ _)); exact ar.out⟩, ⟨zho HB⟩⟩
           ·rw [if_neg c22] at H
            have c22b0 : decide (bh < (pk7 aW aX av aw ax ay az aa)) = false := decide_eq_false c22
            clear c22
            replace H := Option.bind_eq_some_iff.mp H
            obtain ⟨kf, A280, H⟩ := H
            try dsimp only at H
            have A28 := Aside0.mk A280
            clear A280
            have H' := Aside0.mk H
            clear H
            have hnb29 := cv.out
            have hnc29 := bv.out
            have hnb30 := bG.out
            have hnc30 := bw.out
            have jE : w14.cell? ⟨aY, 0, none⟩ = some (.bool (pk7 aZ ba aA aB aC aD aE aa)) := (blk_cell ar.out 0).trans rfl
            have jF : w14.cell? ⟨aY, 1, none⟩ = some (.int .i64 (pk7 aW aX av aw ax ay az aa)) := (blk_cell ar.out 1).trans rfl
            have jG : w14.cell? ⟨aY, 2, none⟩ = some (.int .i64 (pk7 bb bd aG aI aK aM aO aa)) := (blk_cell ar.out 2).trans rfl
            have jH : w14.cell? ⟨aY, 3, none⟩ = some (.int .i64 (pk7 ah ai ab ac ad ae af aa)) := (blk_cell ar.out 3).trans rfl
            have jI : w14.cell? ⟨aY, 4, none⟩ = some (.bool (pk7 be aQ aR aS aT aU aV aa)) := (blk_cell ar.out 4).trans rfl
            have jJ : w14.cell? ⟨aY, 5, none⟩ = some (.int .i64 (pk7 bc aF aH aJ aL aN aP aa)) := (blk_cell ar.out 5).trans rfl
            have jK := blk_frozen ar.out 0
            have jL := blk_frozen ar.out 1
            have jM := blk_frozen ar.out 2
            have jN := blk_frozen ar.out 3
            have jO := blk_frozen ar.out 4
            have jP := blk_frozen ar.out 5
            have hnb32 := gc.out
            have hnc32 := kd.out
            have jQ : w14.cell? ⟨aq, 0, none⟩ = some (.bool aZ) := (blk_cell ag.out 0).trans rfl
            have jR : w14.cell? ⟨aq, 1, none⟩ = some (.int .i64 aW) := (blk_cell ag.out 1).trans rfl
            have jS : w14.cell? ⟨aq, 2, none⟩ = some (.int .i64 bb) := (blk_cell ag.out 2).trans rfl
            have jT : w14.cell? ⟨aq, 3, none⟩ = some (.int .i64 ah) := (blk_cell ag.out 3).trans rfl
            have jU : w14.cell? ⟨aq, 4, none⟩ = some (.bool be) := (blk_cell ag.out 4).trans rfl
            have jV : w14.cell? ⟨aq, 5, none⟩ = some (.int .i64 bc) := (blk_cell ag.out 5).trans rfl
            have jW : w14.cell? ⟨aq, 6, none⟩ = some (.bool ba) := (blk_cell ag.out 6).trans rfl
            have jX : w14.cell? ⟨aq, 7, none⟩ = some (.int .i64 aX) := (blk_cell ag.out 7).trans rfl
            have jY : w14.cell? ⟨aq, 8, none⟩ = some (.int .i64 bd) := (blk_cell ag.out 8).trans rfl
            have jZ : w14.cell? ⟨aq, 9, none⟩ = some (.int .i64 ai) := (blk_cell ag.out 9).trans rfl
            have hz : w14.cell? ⟨aq, 10, none⟩ = some (.bool aQ) := (blk_cell ag.out 10).trans rfl
            have hA : w14.cell? ⟨aq, 11, none⟩ = some (.int .i64 aF) := (blk_cell ag.out 11).trans rfl
            have hB : w14.cell? ⟨aq, 12, none⟩ = some (.bool aA) := (blk_cell ag.out 12).trans rfl
            have hC : w14.cell? ⟨aq, 13, none⟩ = some (.int .i64 av) := (blk_cell ag.out 13).trans rfl
            have hD : w14.cell? ⟨aq, 14, none⟩ = some (.int .i64 aG) := (blk_cell ag.out 14).trans rfl
            have hE : w14.cell? ⟨aq, 15, none⟩ = some (.int .i64 ab) := (blk_cell ag.out 15).trans rfl
            have hF : w14.cell? ⟨aq, 16, none⟩ = some (.bool aR) := (blk_cell ag.out 16).trans rfl
            have hG : w14.cell? ⟨aq, 17, none⟩ = some (.int .i64 aH) := (blk_cell ag.out 17).trans rfl
            have hH : w14.cell? ⟨aq, 18, none⟩ = some (.bool aB) := (blk_cell ag.out 18).trans rfl
            have hI : w14.cell? ⟨aq, 19, none⟩ = some (.int .i64 aw) := (blk_cell ag.out 19).trans rfl
            have hJ : w14.cell? ⟨aq, 20, none⟩ = some (.int .i64 aI) := (blk_cell ag.out 20).trans rfl
            have hK : w14.cell? ⟨aq, 21, none⟩ = some (.int .i64 ac) := (blk_cell ag.out 21).trans rfl
            have hL : w14.cell? ⟨aq, 22, none⟩ = some (.bool aS) := (blk_cell ag.out 22).trans rfl
            have hM : w14.cell? ⟨aq, 23, none⟩ = some (.int .i64 aJ) := (blk_cell ag.out 23).trans rfl
            have hN : w14.cell? ⟨aq, 24, none⟩ = some (.bool aC) := (blk_cell ag.out 24).trans rfl
            have hO : w14.cell? ⟨aq, 25, none⟩ = some (.int .i64 ax) := (blk_cell ag.out 25).trans rfl
            have hP : w14.cell? ⟨aq, 26, none⟩ = some (.int .i64 aK) := (blk_cell ag.out 26).trans rfl
            have hQ : w14.cell? ⟨aq, 27, none⟩ = some (.int .i64 ad) := (blk_cell ag.out 27).trans rfl
            have hR : w14.cell? ⟨aq, 28, none⟩ = some (.bool aT) := (blk_cell ag.out 28).trans rfl
            have hS : w14.cell? ⟨aq, 29, none⟩ = some (.int .i64 aL) := (blk_cell ag.out 29).trans rfl
            have hT : w14.cell? ⟨aq, 30, none⟩ = some (.bool aD) := (blk_cell ag.out 30).trans rfl
            have hU : w14.cell? ⟨aq, 31, none⟩ = some (.int .i64 ay) := (blk_cell ag.out 31).trans rfl
            have hV : w14.cell? ⟨aq, 32, none⟩ = some (.int .i64 aM) := (blk_cell ag.out 32).trans rfl
            have hW : w14.cell? ⟨aq, 33, none⟩ = some (.int .i64 ae) := (blk_cell ag.out 33).trans rfl
            have hX : w14.cell? ⟨aq, 34, none⟩ = some (.bool aU) := (blk_cell ag.out 34).trans rfl
            have hY : w14.cell? ⟨aq, 35, none⟩ = some (.int .i64 aN) := (blk_cell ag.out 35).trans rfl
            have hZ : w14.cell? ⟨aq, 36, none⟩ = some (.bool aE) := (blk_cell ag.out 36).trans rfl
            have h2 : w14.cell? ⟨aq, 37, none⟩ = some (.int .i64 az) := (blk_cell ag.out 37).trans rfl
            have h3 : w14.cell? ⟨aq, 38, none⟩ = some (.int .i64 aO) := (blk_cell ag.out 38).trans rfl
            have h4 : w14.cell? ⟨aq, 39, none⟩ = some (.int .i64 af) := (blk_cell ag.out 39).trans rfl
            have h5 : w14.cell? ⟨aq, 40, none⟩ = some (.bool aV) := (blk_cell ag.out 40).trans rfl
            have h6 : w14.cell? ⟨aq, 41, none⟩ = some (.int .i64 aP) := (blk_cell ag.out 41).trans rfl
            have h7 : w14.cell? ⟨aq, 42, none⟩ = some (.int .i64 bh) := (blk_cell ag.out 42).trans rfl
            have j1 := blk_frozen ag.out 0
            have j4 := blk_frozen ag.out 1
            have j5 := blk_frozen ag.out 2
            have j6 := blk_frozen ag.out 3
            have j7 := blk_frozen ag.out 4
            have j8 := blk_frozen ag.out 5
            have j9 := blk_frozen ag.out 6
            have ka := blk_frozen ag.out 7
            have kb := blk_frozen ag.out 8
            have kc := blk_frozen ag.out 9
            have h8 := blk_frozen ag.out 10
            have h9 := blk_frozen ag.out 11
            have ia := blk_frozen ag.out 12
            have ib := blk_frozen ag.out 13
            have ic := blk_frozen ag.out 14
            have id := blk_frozen ag.out 15
            have ie := blk_frozen ag.out 16
            have ig := blk_frozen ag.out 17
            have ih := blk_frozen ag.out 18
            have ii := blk_frozen ag.out 19
            have ij := blk_frozen ag.out 20
            have ik := blk_frozen ag.out 21
            have il := blk_frozen ag.out 22
            have im := blk_frozen ag.out 23
            have io := blk_frozen ag.out 24
            have ip := blk_frozen ag.out 25
            have iq := blk_frozen ag.out 26
            have ir := blk_frozen ag.out 27
            have it := blk_frozen ag.out 28
            have iu := blk_frozen ag.out 29
            have iv := blk_frozen ag.out 30
            have iw := blk_frozen ag.out 31
            have ix := blk_frozen ag.out 32
            have iy := blk_frozen ag.out 33
            have iz := blk_frozen ag.out 34
            have iA := blk_frozen ag.out 35
            have iB := blk_frozen ag.out 36
            have iC := blk_frozen ag.out 37
            have iD := blk_frozen ag.out 38
            have iE := blk_frozen ag.out 39
            have iF := blk_frozen ag.out 40
            have iG := blk_frozen ag.out 41
            have iH := blk_frozen ag.out 42
            go_wp2_with (first | (go_at_call 39; (with_reducible refine (jobs_fits.calls k2 (pk7 bb bd aG aI aK aM aO aa) (pk7 ah ai ab ac ad ae af aa) (pk7 bc aF aH aJ aL aN aP aa) kf _ A28.out).mono ?_); rintro e w' ⟨rfl, ⟨nd, rfl⟩⟩))
            go_meet
            case rel => exact ⟨_, (!kf), (by first | rfl | (simp; done) | (simp [*]; done)), H', ⟨by have := HJ1.out; have := HK2.out; first | omega | exact Nat.le_refl _⟩, ⟨by (with_reducible repeat (first | refine blk_drewN ?_ _ | refine blk_drew ?_ | refine blk_alloc ?_ _)); exact ag.out⟩, ⟨by (with_reducible repeat (first | refine blk_drewN ?_ _ | refine blk_drew ?_ | refine blk_alloc ?_ _)); exact bg.out⟩, ⟨by (with_reducible repeat (first | refine blk_drewN ?_ _ | refine blk_drew ?_ | refine blk_alloc ?_ _)); exact ar.out⟩, ⟨zho HB⟩⟩
         case rest =>
          clear HC12
          try clear c1 c2 p2 c3 c4 c4b0 c4b1 c7 c9 c9b0 c10 c10b0 c11 c11b0 c15 c16 c18 c18b0 c18b1 c19 c20 c22 c22b0 c23 c24 c26 c29 c30 c32 iK iL iM iN iO iP iW iX iY iZ i0 i1 i8 i9 ja jb jc jd jk jl gd ge gf gg gh gi gj gl gm gn jm gp gq gr gs gt gu gv gw gx gy jn gz gA gB gC gD gE gF gG gH gI jo gJ gK gL jp jq jr js jt jE jF jG jH jI jJ jQ jR hz hA hB hC hD hE hF hG hH hI jS hJ hK hL hM hN hO hP hQ hR hS jT hT hU hV hW hX hY hZ h2 h3 h4 jU h5 h6 h7 jV jW jX jY jZ fy fz di dj dk dl dm dn dp dq dr ds fA dt du dv dw dx dy dz dA dB dC fB dD dE dF dG dH dI dJ dK dL dM fC dN dO dP fD fE fF fG fH fS fT en eo ep er es et eu ev ew ex fU ey ez eA eB eC eD eE eF eG eH fV eI eJ eK eL eM eN eO eP eQ eR fW eS eT eU fX fY fZ f0 f1 iQ iR iS iT iU iV i2 i3 i4 i5 i6 i7 je jf jg jh ji jj ju jv gM gN gO gP gQ gR gS gT gU gV jw gW gX gY gZ g0 g1 g2 g3 g4 g5 jx g6 g7 g8 g9 ha hc he hj hk ht jy hu hx hy jz jA jB jC jD jK jL jM jN jO jP j1 j4 h8 h9 ia ib ic id ie ig ih ii j5 ij ik il im io ip iq ir it iu j6 iv iw ix iy iz iA iB iC iD iE j7 iF iG iH j8 j9 ka kb kc fI fJ dQ dR dS dT dU dV dW dX dY dZ fK d0 d1 d2 d3 d4 d5 d6 d7 d8 d9 fL ea eb ec ed ee ef eg eh ei ej fM ek el em fN fO fP fQ fR f2 f3 eV eW eX eY eZ e0 e1 e2 e3 e4 f4 e5 e6 e7 e8 e9 fa fb fc fd fe f5 ff fg fh fi fj fk fl fm fn fo f6 fp fq fr f7 f8 f9 ga gb p2
          obtain ⟨kq, iI, rfl, HA, HJ11, ag, bg, ar, HB⟩ := hcut
          cases kq with
          | zero => exact absurd HA.out (by simp [jobs_Valid.j2])
          | succ kj11 =>
           have H := HA.out
           clear HA
           simp only [jobs_Valid.j2] at H
           by_cases c34 : iI = true
           ·subst c34
            have H1 : (some false) = some r := by rw [if_pos rfl] at H; exact H
            clear H
            have H := H1
            clear H1
            obtain rfl := Option.some.inj H
            go_wp2
            go_ret
            exact ⟨by first | rfl | (simp [errW_none, errW_some] <;> rfl) | (simp [*, errW_none, errW_some] <;> rfl), zho HB⟩
           ·replace c34 := Bool.eq_false_iff.mpr c34
            subst c34
            have H1 : (if 0 ≤ (pk7 ah ai ab ac ad ae af aa) then (if (pk7 ah ai ab ac ad ae af aa) < 7 then (if (pk7 ah ai ab ac ad ae af aa) = 0 then (jobs_Valid.j3 kj11 aa aa false aZ aW bb ah be bc ba aX bd ai aQ aF aA av aG ab aR aH aB aw aI ac aS aJ aC ax aK ad aT aL aD ay aM ae aU aN aE az aO af aV aP bh (pt 0 (pk7 ah ai ab ac ad ae af aa) (wrap64 ((pk7 aj ak al am an ao ap (pk7 ah ai ab ac ad ae af aa)) + 1)) aj) (pt 1 (pk7 ah ai ab ac ad ae af aa) (wrap64 ((pk7 aj ak al am an ao ap (pk7 ah ai ab ac ad ae af aa)) + 1)) ak) (pt 2 (pk7 ah ai ab ac ad ae af aa) (wrap64 ((pk7 aj ak al am an ao ap (pk7 ah ai ab ac ad ae af aa)) + 1)) al) (pt 3 (pk7 ah ai ab ac ad ae af aa) (wrap64 ((pk7 aj ak al am an ao ap (pk7 ah ai ab ac ad ae af aa)) + 1)) am) (pt 4 (pk7 ah ai ab ac ad ae af aa) (wrap64 ((pk7 aj ak al am an ao ap (pk7 ah ai ab ac ad ae af aa)) + 1)) an) (pt 5 (pk7 ah ai ab ac ad ae af aa) (wrap64 ((pk7 aj ak al am an ao ap (pk7 ah ai ab ac ad ae af aa)) + 1)) ao) (pt 6 (pk7 ah ai ab ac ad ae af aa) (wrap64 ((pk7 aj ak al am an ao ap (pk7 ah ai ab ac ad ae af aa)) + 1)) ap) (pk7 aZ ba aA aB aC aD aE aa) (pk7 aW aX av aw ax ay az aa) (pk7 bb bd aG aI aK aM aO aa) (pk7 ah ai ab ac ad ae af aa) (pk7 be aQ aR aS aT aU aV aa) (pk7 bc aF aH aJ aL aN aP aa) aZ aW bb ah be bc ba aX bd ai aQ aF aA av aG ab aR aH aB aw aI ac aS aJ aC ax aK ad aT aL aD ay aM ae aU aN aE az aO af aV aP) else (jobs_Valid.j3 kj11 aa aa (decide ((pk7 (pt 0 (pk7 ah ai ab ac ad ae af aa) (wrap64 ((pk7 aj ak al am an ao ap (pk7 ah ai ab ac ad ae af aa)) + 1)) aj) (pt 1 (pk7 ah ai ab ac ad ae af aa) (wrap64 ((pk7 aj ak al am an ao ap (pk7 ah ai ab ac ad ae af aa)) + 1)) ak) (pt 2 (pk7 ah ai ab ac ad ae af aa) (wrap64 ((pk7 aj ak al am an ao ap (pk7 ah ai ab ac ad ae af aa)) + 1)) al) (pt 3 (pk7 ah ai ab ac ad ae af aa) (wrap64 ((pk7 aj ak al am an ao ap (pk7 ah ai ab ac ad ae af aa)) + 1)) am) (pt 4 (pk7 ah ai ab ac ad ae af aa) (wrap64 ((pk7 aj ak al am an ao ap (pk7 ah ai ab ac ad ae af aa)) + 1)) an) (pt 5 (pk7 ah ai ab ac ad ae af aa) (wrap64 ((pk7 aj ak al am an ao ap (pk7 ah ai ab ac ad ae af aa)) + 1)) ao) (pt 6 (pk7 ah ai ab ac ad ae af aa) (wrap64 ((pk7 aj ak al am an ao ap (pk7 ah ai ab ac ad ae af aa)) + 1)) ap) (pk7 ah ai ab ac ad ae af aa)) > 1)) aZ aW bb ah be bc ba aX bd ai aQ aF aA av aG ab aR aH aB aw aI ac aS aJ aC ax aK ad aT aL aD ay aM ae aU aN aE az aO af aV aP bh (pt 0 (pk7 ah ai ab ac ad ae af aa) (wrap64 ((pk7 aj ak al am an ao ap (pk7 ah ai ab ac ad ae af aa)) + 1)) aj) (pt 1 (pk7 ah ai ab ac ad ae af aa) (wrap64 ((pk7 aj ak al am an ao ap (pk7 ah ai ab ac ad ae af aa)) + 1)) ak) (pt 2 (pk7 ah ai ab ac ad ae af aa) (wrap64 ((pk7 aj ak al am an ao ap (pk7 ah ai ab ac ad ae af aa)) + 1)) al) (pt 3 (pk7 ah ai ab ac ad ae af aa) (wrap64 ((pk7 aj ak al am an ao ap (pk7 ah ai ab ac ad ae af aa)) + 1)) am) (pt 4 (pk7 ah ai ab ac ad ae af aa) (wrap64 ((pk7 aj ak al am an ao ap (pk7 ah ai ab ac ad ae af aa)) + 1)) an) (pt 5 (pk7 ah ai ab ac ad ae af aa) (wrap64 ((pk7 aj ak al am an ao ap (pk7 ah ai ab ac ad ae af aa)) + 1)) ao) (pt 6 (pk7 ah ai ab ac ad ae af aa) (wrap64 ((pk7 aj ak al am an ao ap (pk7 ah ai ab ac ad ae af aa)) + 1)) ap) (pk7 aZ ba aA aB aC aD aE aa) (pk7 aW aX av aw ax ay az aa) (pk7 bb bd aG aI aK aM aO aa) (pk7 ah ai ab ac ad ae af aa) (pk7 be aQ aR aS aT aU aV aa) (pk7 bc aF aH aJ aL aN aP aa) aZ aW bb ah be bc ba aX bd ai aQ aF aA av aG ab aR aH aB aw aI ac aS aJ aC ax aK ad aT aL aD ay aM ae aU aN aE az aO af aV aP)) else (none)) else (none)) = some r := by rw [if_neg (show ¬ (false = true) by decide)] at H; exact H
            clear H
            have H := H1
            clear H1
            by_cases c35 : 0 ≤ (pk7 ah ai ab ac ad ae af aa)
            ·rw [if_pos c35] at H
             have c35b0 : decide (0 ≤ (pk7 ah ai ab ac ad ae af aa)) = true := decide_eq_true c35
             clear c35
             by_cases c36 : (pk7 ah ai ab ac ad ae af aa) < 7
             ·rw [if_pos c36] at H
              have c36b0 : decide ((pk7 ah ai ab ac ad ae af aa) < 7) = true := decide_eq_true c36
              clear c36
              have HC37 := Aside0.mk H
              clear H
              have hnb38 := cv.out
              have hnc38 := bv.out
              have hnb39 := bG.out
              have hnc39 := bw.out
              have kg : wc.cell? ⟨aY, 0, none⟩ = some (.bool (pk7 aZ ba aA aB aC aD aE aa)) := (blk_cell ar.out 0).trans rfl
              have kh : wc.cell? ⟨aY, 1, none⟩ = some (.int .i64 (pk7 aW aX av aw ax ay az aa)) := (blk_cell ar.out 1).trans rfl
              have ki : wc.cell? ⟨aY, 2, none⟩ = some (.int .i64 (pk7 bb bd aG aI aK aM aO aa)) := (blk_cell ar.out 2).trans rfl
              have kj : wc.cell? ⟨aY, 3, none⟩ = some (.int .i64 (pk7 ah ai ab ac ad ae af aa)) := (blk_cell ar.out 3).trans rfl
              have kk : wc.cell? ⟨aY, 4, none⟩ = some (.bool (pk7 be aQ aR aS aT aU aV aa)) := (blk_cell ar.out 4).trans rfl
              have kl : wc.cell? ⟨aY, 5, none⟩ = some (.int .i64 (pk7 bc aF aH aJ aL aN aP aa)) := (blk_cell ar.out 5).trans rfl
              have km := blk_frozen ar.out 0
              have kn := blk_frozen ar.out 1
              have ko := blk_frozen ar.out 2
              have kp := blk_frozen ar.out 3
              have kr := blk_frozen ar.out 4
              have ks := blk_frozen ar.out 5
              have vp107 : (0 ≤ ((pk7 ah ai ab ac ad ae af aa) : Int)) = True := eq_true (of_decide_eq_true (by first | (with_reducible assumption) | assumption))
              have vq107 : (((pk7 ah ai ab ac ad ae af aa) : Int) < (7 : Int)) = True := eq_true (of_decide_eq_true (by first | (with_reducible assumption) | assumption))
              have hv108_0 : wc.cell? ⟨bp, ((pk7 ah ai ab ac ad ae af aa)).toNat, none⟩ = some (.int .i64 (pk7 aj ak al am an ao ap (pk7 ah ai ab ac ad ae af aa))) := cellA61_0_0 ((pk7 ah ai ab ac ad ae af aa)) (of_decide_eq_true (by first | (with_reducible assumption) | assumption)) (of_decide_eq_true (by first | (with_reducible assumption) | assumption)) bg.out
              have vp109 : (0 ≤ ((pk7 ah ai ab ac ad ae af aa) : Int)) = True := eq_true (of_decide_eq_true (by first | (with_reducible assumption) | assumption))
              have vq109 : (((pk7 ah ai ab ac ad ae af aa) : Int) < (7 : Int)) = True := eq_true (of_decide_eq_true (by first | (with_reducible assumption) | assumption))
              have hvk41_0 := cellA61_0_0 ((pk7 ah ai ab ac ad ae af aa)) (of_decide_eq_true (by first | (with_reducible assumption) | assumption)) (of_decide_eq_true (by first | (with_reducible assumption) | assumption)) bg.out
              have hfk41_0 := blk_frozen bg.out (((pk7 ah ai ab ac ad ae af aa)).toNat)
              go_upto_region 13 with (first | ((with_reducible refine gate_store (t := 3) (p := 53) rfl ?_); refine store_event (t := 3) (p := 53) (v := ?vo_w42) (w1 := (wc.setCell ⟨bp, ((pk7 ah ai ab ac ad ae af aa)).toNat, none⟩ (.int .i64 (wrap64 ((pk7 aj ak al am an ao ap (pk7 ah ai ab ac ad ae af aa)) + 1))))) ?hg ?ho ?hn ?hr ?_; (case ho => rfl); (case hg => rfl); (case hn => rfl); (case hr => first | (go_simp; done) | (go_simp; rfl)); intro w42 hw; have n0_ : Aside0 (w42.heap[aq]? = some (.cells (Jt aZ aW bb ah be bc ba aX bd ai aQ aF aA av aG ab aR aH aB aw aI ac aS aJ aC ax aK ad aT aL aD ay aM ae aU aN aE az aO af aV aP bh) 27 (0, 0))) := ⟨(by rw [hw]; exact (by (with_reducible repeat (first | refine blk_drewN ?_ _ | refine blk_drew ?_ | refine blk_alloc ?_ _)); refine blk_far ?_ gc.out _; (with_reducible repeat (first | refine blk_drewN ?_ _ | refine blk_drew ?_ | refine blk_alloc ?_ _)); exact ag.out))⟩; have n1_ : Aside0 (w42.heap[bp]? = some (.cells #[.int .i64 (pt 0 (pk7 ah ai ab ac ad ae af aa) (wrap64 ((pk7 aj ak al am an ao ap (pk7 ah ai ab ac ad ae af aa)) + 1)) aj), .int .i64 (pt 1 (pk7 ah ai ab ac ad ae af aa) (wrap64 ((pk7 aj ak al am an ao ap (pk7 ah ai ab ac ad ae af aa)) + 1)) ak), .int .i64 (pt 2 (pk7 ah ai ab ac ad ae af aa) (wrap64 ((pk7 aj ak al am an ao ap (pk7 ah ai ab ac ad ae af aa)) + 1)) al), .int .i64 (pt 3 (pk7 ah ai ab ac ad ae af aa) (wrap64 ((pk7 aj ak al am an ao ap (pk7 ah ai ab ac ad ae af aa)) + 1)) am), .int .i64 (pt 4 (pk7 ah ai ab ac ad ae af aa) (wrap64 ((pk7 aj ak al am an ao ap (pk7 ah ai ab ac ad ae af aa)) + 1)) an), .int .i64 (pt 5 (pk7 ah ai ab ac ad ae af aa) (wrap64 ((pk7 aj ak al am an ao ap (pk7 ah ai ab ac ad ae af aa)) + 1)) ao), .int .i64 (pt 6 (pk7 ah ai ab ac ad ae af aa) (wrap64 ((pk7 aj ak al am an ao ap (pk7 ah ai ab ac ad ae af aa)) + 1)) ap)] 61 (0, 0))) := ⟨(by rw [hw]; exact (by (with_reducible repeat (first | refine blk_drewN ?_ _ | refine blk_drew ?_ | refine blk_alloc ?_ _)); refine blk_put (cs := #[.int .i64 aj, .int .i64 ak, .int .i64 al, .int .i64 am, .int .i64 an, .int .i64 ao, .int .i64 ap]) ?_ (((pk7 ah ai ab ac ad ae af aa)).toNat) _ (putA61_0_0 (pk7 ah ai ab ac ad ae af aa) (of_decide_eq_true (by first | (with_reducible assumption) | assumption)) (of_decide_eq_true (by first | (with_reducible assumption) | assumption)) (wrap64 ((pk7 aj ak al am an ao ap (pk7 ah ai ab ac ad ae af aa)) + 1))); (with_reducible repeat (first | refine blk_drewN ?_ _ | refine blk_drew ?_ | refine blk_alloc ?_ _)); exact bg.out))⟩; have n2_ : Aside0 (w42.heap[aY]? = some (.cells #[.bool (pk7 aZ ba aA aB aC aD aE aa), .int .i64 (pk7 aW aX av aw ax ay az aa), .int .i64 (pk7 bb bd aG aI aK aM aO aa), .int .i64 (pk7 ah ai ab ac ad ae af aa), .bool (pk7 be aQ aR aS aT aU aV aa), .int .i64 (pk7 bc aF aH aJ aL aN aP aa)] 24 (0, 0))) := ⟨(by rw [hw]; exact (by (with_reducible repeat (first | refine blk_drewN ?_ _ | refine blk_drew ?_ | refine blk_alloc ?_ _)); refine blk_far ?_ bG.out _; (with_reducible repeat (first | refine blk_drewN ?_ _ | refine blk_drew ?_ | refine blk_alloc ?_ _)); exact ar.out))⟩; have n3_ : Aside0 (Below w.heap.size w w42) := ⟨(by rw [hw]; exact (zho HB))⟩; clear hw; clear ag; clear bg; clear ar; clear HB; have ag := n0_; have bg := n1_; have ar := n2_; have HB := n3_; clear n0_ n1_ n2_ n3_))
              (try simp only [Act.put, List.setIfInBounds_toArray, List.set_cons_zero, List.set_cons_succ])
              go_cut [63] (fun v63 wc => ∃ (kq : Nat) (iJ : Bool), v63 = .bool iJ ∧ Aside0 (jobs_Valid.j3 kq aa aa iJ aZ aW bb ah be bc ba aX bd ai aQ aF aA av aG ab aR aH aB aw aI ac aS aJ aC ax aK ad aT aL aD ay aM ae aU aN aE az aO af aV aP bh (pt 0 (pk7 ah ai ab ac ad ae af aa) (wrap64 ((pk7 aj ak al am an ao ap (pk7 ah ai ab ac ad ae af aa)) + 1)) aj) (pt 1 (pk7 ah ai ab ac ad ae af aa) (wrap64 ((pk7 aj ak al am an ao ap (pk7 ah ai ab ac ad ae af aa)) + 1)) ak) (pt 2 (pk7 ah ai ab ac ad ae af aa) (wrap64 ((pk7 aj ak al am an ao ap (pk7 ah ai ab ac ad ae af aa)) + 1)) al) (pt 3 (pk7 ah ai ab ac ad ae af aa) (wrap64 ((pk7 aj ak al am an ao ap (pk7 ah ai ab ac ad ae af aa)) + 1)) am) (pt 4 (pk7 ah ai ab ac ad ae af aa) (wrap64 ((pk7 aj ak al am an ao ap (pk7 ah ai ab ac ad ae af aa)) + 1)) an) (pt 5 (pk7 ah ai ab ac ad ae af aa) (wrap64 ((pk7 aj ak al am an ao ap (pk7 ah ai ab ac ad ae af aa)) + 1)) ao) (pt 6 (pk7 ah ai ab ac ad ae af aa) (wrap64 ((pk7 aj ak al am an ao ap (pk7 ah ai ab ac ad ae af aa)) + 1)) ap) (pk7 aZ ba aA aB aC aD aE aa) (pk7 aW aX av aw ax ay az aa) (pk7 bb bd aG aI aK aM aO aa) (pk7 ah ai ab ac ad ae af aa) (pk7 be aQ aR aS aT aU aV aa) (pk7 bc aF aH aJ aL aN aP aa) aZ aW bb ah be bc ba aX bd ai aQ aF aA av aG ab aR aH aB aw aI ac aS aJ aC ax aK ad aT aL aD ay aM ae aU aN aE az aO af aV aP = some r) ∧ Aside0 (kq ≤ kj11) ∧ Aside0 (wc.heap[aq]? = some (.cells (Jt aZ aW bb ah be bc ba aX bd ai aQ aF aA av aG ab aR aH aB aw aI ac aS aJ aC ax aK ad aT aL aD ay aM ae aU aN aE az aO af aV aP bh) 27 (0, 0))) ∧ Aside0 (wc.heap[bp]? = some (.cells #[.int .i64 (pt 0 (pk7 ah ai ab ac ad ae af aa) (wrap64 ((pk7 aj ak al am an ao ap (pk7 ah ai ab ac ad ae af aa)) + 1)) aj), .int .i64 (pt 1 (pk7 ah ai ab ac ad ae af aa) (wrap64 ((pk7 aj ak al am an ao ap (pk7 ah ai ab ac ad ae af aa)) + 1)) ak), .int .i64 (pt 2 (pk7 ah ai ab ac ad ae af aa) (wrap64 ((pk7 aj ak al am an ao ap (pk7 ah ai ab ac ad ae af aa)) + 1)) al), .int .i64 (pt 3 (pk7 ah ai ab ac ad ae af aa) (wrap64 ((pk7 aj ak al am an ao ap (pk7 ah ai ab ac ad ae af aa)) + 1)) am), .int .i64 (pt 4 (pk7 ah ai ab ac ad ae af aa) (wrap64 ((pk7 aj ak al am an ao ap (pk7 ah ai ab ac ad ae af aa)) + 1)) an), .int .i64 (pt 5 (pk7 ah ai ab ac ad ae af aa) (wrap64 ((pk7 aj ak al am an ao ap (pk7 ah ai ab ac ad ae af aa)) + 1)) ao), .int .i64 (pt 6 (pk7 ah ai ab ac ad ae af aa) (wrap64 ((pk7 aj ak al am an ao ap (pk7 ah ai ab ac ad ae af aa)) + 1)) ap)] 61 (0, 0))) ∧ Aside0 (wc.heap[aY]? = some (.cells #[.bool (pk7 aZ ba aA aB aC aD aE aa), .int .i64 (pk7 aW aX av aw ax ay az aa), .int .i64 (pk7 bb bd aG aI aK aM aO aa), .int .i64 (pk7 ah ai ab ac ad ae af aa), .bool (pk7 be aQ aR aS aT aU aV aa), .int .i64 (pk7 bc aF aH aJ aL aN aP aa)] 24 (0, 0))) ∧ Aside0 (Below w.heap.size w wc))
              case first =>
               have H := HC37.out
               clear HC37
               by_cases c43 : (pk7 ah ai ab ac ad ae af aa) = 0
               ·rw [if_pos c43] at H
                have c43b0 : ((pk7 ah ai ab ac ad ae af aa) == 0) = true := beq_iff_eq.mpr c43
                have c43b1 : ((pk7 ah ai ab ac ad ae af aa) != 0) = false := bne_eq_false_iff_eq.mpr c43
                clear c43
                (first | rw [c43b0] | (simp only [i64_w, i32_w]; rw [c43b0]) | rw [c43b1] | skip)
                have H' := Aside0.mk H
                clear H
                have hnb44 := cv.out
                have hnc44 := bv.out
                have hnb45 := bG.out
                have hnc45 := bw.out
                have kt : w42.cell? ⟨aY, 0, none⟩ = some (.bool (pk7 aZ ba aA aB aC aD aE aa)) := (blk_cell ar.out 0).trans rfl
                have ku : w42.cell? ⟨aY, 1, none⟩ = some (.int .i64 (pk7 aW aX av aw ax ay az aa)) := (blk_cell ar.out 1).trans rfl
                have kv : w42.cell? ⟨aY, 2, none⟩ = some (.int .i64 (pk7 bb bd aG aI aK aM aO aa)) := (blk_cell ar.out 2).trans rfl
                have kw : w42.cell? ⟨aY, 3, none⟩ = some (.int .i64 (pk7 ah ai ab ac ad ae af aa)) := (blk_cell ar.out 3).trans rfl
                have kx : w42.cell? ⟨aY, 4, none⟩ = some (.bool (pk7 be aQ aR aS aT aU aV aa)) := (blk_cell ar.out 4).trans rfl
                have ky : w42.cell? ⟨aY, 5, none⟩ = some (.int .i64 (pk7 bc aF aH aJ aL aN aP aa)) := (blk_cell ar.out 5).trans rfl
                have kz := blk_frozen ar.out 0
                have kA := blk_frozen ar.out 1
                have kB := blk_frozen ar.out 2
                have kC := blk_frozen ar.out 3
                have kD := blk_frozen ar.out 4
                have kE := blk_frozen ar.out 5
                go_wp2
                go_meet
                case rel => exact ⟨_, (false), (by first | rfl | (simp; done) | (simp [*]; done)), H', ⟨by have := HJ1.out; have := HK2.out; have := HJ11.out; first | omega | exact Nat.le_refl _⟩, ⟨by (with_reducible repeat (first | refine blk_drewN ?_ _ | refine blk_drew ?_ | refine blk_alloc ?_ _)); exact ag.out⟩, ⟨by (with_reducible repeat (first | refine blk_drewN ?_ _ | refine blk_drew ?_ | refine blk_alloc ?_ _)); exact bg.out⟩, ⟨by (with_reducible repeat (first | refine blk_drewN ?_ _ | refine blk_drew ?_ | refine blk_alloc ?_ _)); exact ar.out⟩, ⟨zho HB⟩⟩
               ·rw [if_neg c43] at H
                have c43b0 : ((pk7 ah ai ab ac ad ae af aa) == 0) = false := beq_eq_false_iff_ne.mpr c43
                have c43b1 : ((pk7 ah ai ab ac ad ae af aa) != 0) = true := bne_iff_ne.mpr c43
                (first | rw [c43b0] | (simp only [i64_w, i32_w]; rw [c43b0]) | rw [c43b1] | skip)
                have H' := Aside0.mk H
                clear H
                have hnb47 := cv.out
                have hnc47 := bv.out
                have hnb48 := bG.out
                have hnc48 := bw.out
                have kF : w42.cell? ⟨aY, 0, none⟩ = some (.bool (pk7 aZ ba aA aB aC aD aE aa)) := (blk_cell ar.out 0).trans rfl
                have kG : w42.cell? ⟨aY, 1, none⟩ = some (.int .i64 (pk7 aW aX av aw ax ay az aa)) := (blk_cell ar.out 1).trans rfl
                have kH : w42.cell? ⟨aY, 2, none⟩ = some (.int .i64 (pk7 bb bd aG aI aK aM aO aa)) := (blk_cell ar.out 2).trans rfl
                have kI : w42.cell? ⟨aY, 3, none⟩ = some (.int .i64 (pk7 ah ai ab ac ad ae af aa)) := (blk_cell ar.out 3).trans rfl
                have kJ : w42.cell? ⟨aY, 4, none⟩ = some (.bool (pk7 be aQ aR aS aT aU aV aa)) := (blk_cell ar.out 4).trans rfl
                have kK : w42.cell? ⟨aY, 5, none⟩ = some (.int .i64 (pk7 bc aF aH aJ aL aN aP aa)) := (blk_cell ar.out 5).trans rfl
                have kL := blk_frozen ar.out 0
                have kM := blk_frozen ar.out 1
                have kN := blk_frozen ar.out 2
                have kO := blk_frozen ar.out 3
                have kP := blk_frozen ar.out 4
                have kQ := blk_frozen ar.out 5
                have vp110 : (0 ≤ ((pk7 ah ai ab ac ad ae af aa) : Int)) = True := eq_true (of_decide_eq_true (by first | (with_reducible assumption) | assumption))
                have vq110 : (((pk7 ah ai ab ac ad ae af aa) : Int) < (7 : Int)) = True := eq_true (of_decide_eq_true (by first | (with_reducible assumption) | assumption))
                have hv111_0 : w42.cell? ⟨bp, ((pk7 ah ai ab ac ad ae af aa)).toNat, none⟩ = some (.int .i64 (pk7 (pt 0 (pk7 ah ai ab ac ad ae af aa) (wrap64 ((pk7 aj ak al am an ao ap (pk7 ah ai ab ac ad ae af aa)) + 1)) aj) (pt 1 (pk7 ah ai ab ac ad ae af aa) (wrap64 ((pk7 aj ak al am an ao ap (pk7 ah ai ab ac ad ae af aa)) + 1)) ak) (pt 2 (pk7 ah ai ab ac ad ae af aa) (wrap64 ((pk7 aj ak al am an ao ap (pk7 ah ai ab ac ad ae af aa)) + 1)) al) (pt 3 (pk7 ah ai ab ac ad ae af aa) (wrap64 ((pk7 aj ak al am an ao ap (pk7 ah ai ab ac ad ae af aa)) + 1)) am) (pt 4 (pk7 ah ai ab ac ad ae af aa) (wrap64 ((pk7 aj ak al am an ao ap (pk7 ah ai ab ac ad ae af aa)) + 1)) an) (pt 5 (pk7 ah ai ab ac ad ae af aa) (wrap64 ((pk7 aj ak al am an ao ap (pk7 ah ai ab ac ad ae af aa)) + 1)) ao) (pt 6 (pk7 ah ai ab ac ad ae af aa) (wrap64 ((pk7 aj ak al am an ao ap (pk7 ah ai ab ac ad ae af aa)) + 1)) ap) (pk7 ah ai ab ac ad ae af aa))) := cellA61_0_0 ((pk7 ah ai ab ac ad ae af aa)) (of_decide_eq_true (by first | (with_reducible assumption) | assumption)) (of_decide_eq_true (by first | (with_reducible assumption) | assumption)) bg.out
                go_wp2
                go_meet
                case rel => exact ⟨_, (decide ((pk7 (pt 0 (pk7 ah ai ab ac ad ae af aa) (wrap64 ((pk7 aj ak al am an ao ap (pk7 ah ai ab ac ad ae af aa)) + 1)) aj) (pt 1 (pk7 ah ai ab ac ad ae af aa) (wrap64 ((pk7 aj ak al am an ao ap (pk7 ah ai ab ac ad ae af aa)) + 1)) ak) (pt 2 (pk7 ah ai ab ac ad ae af aa) (wrap64 ((pk7 aj ak al am an ao ap (pk7 ah ai ab ac ad ae af aa)) + 1)) al) (pt 3 (pk7 ah ai ab ac ad ae af aa) (wrap64 ((pk7 aj ak al am an ao ap (pk7 ah ai ab ac ad ae af aa)) + 1)) am) (pt 4 (pk7 ah ai ab ac ad ae af aa) (wrap64 ((pk7 aj ak al am an ao ap (pk7 ah ai ab ac ad ae af aa)) + 1)) an) (pt 5 (pk7 ah ai ab ac ad ae af aa) (wrap64 ((pk7 aj ak al am an ao ap (pk7 ah ai ab ac ad ae af aa)) + 1)) ao) (pt 6 (pk7 ah ai ab ac ad ae af aa) (wrap64 ((pk7 aj ak al am an ao ap (pk7 ah ai ab ac ad ae af aa)) + 1)) ap) (pk7 ah ai ab ac ad ae af aa)) > 1)), (by first | rfl | (simp; done) | (simp [*]; done)), H', ⟨by have := HJ1.out; have := HK2.out; have := HJ11.out; first | omega | exact Nat.le_refl _⟩, ⟨by (with_reducible repeat (first | refine blk_drewN ?_ _ | refine blk_drew ?_ | refine blk_alloc ?_ _)); exact ag.out⟩, ⟨by (with_reducible repeat (first | refine blk_drewN ?_ _ | refine blk_drew ?_ | refine blk_alloc ?_ _)); exact bg.out⟩, ⟨by (with_reducible repeat (first | refine blk_drewN ?_ _ | refine blk_drew ?_ | refine blk_alloc ?_ _)); exact ar.out⟩, ⟨zho HB⟩⟩
              case rest =>
               clear HC37
               try clear c1 p1 q1 c2 p2 c3 c4 c4b0 c4b1 p6 c7 c9 c9b0 c10 c10b0 p10 q10 c11 c11b0 p11 q11 c15 c16 c18 c18b0 c18b1 c19 c20 c22 c22b0 c23 c24 c26 c29 c30 c32 c34 c35 c35b0 c36 c36b0 c38 c39 c43 c43b0 c43b1 c44 c45 c47 c48 iK iL iM iN iO iP iW iX iY iZ i0 i1 i8 i9 ja jb jc jd jk jl gd ge gf gg gh gi gj gl gm gn jm gp gq gr gs gt gu gv gw gx gy jn gz gA gB gC gD gE gF gG gH gI jo gJ gK gL jp jq jr js jt jE jF jG jH jI jJ jQ jR hz hA hB hC hD hE hF hG hH hI jS hJ hK hL hM hN hO hP hQ hR hS jT hT hU hV hW hX hY hZ h2 h3 h4 jU h5 h6 h7 jV jW jX jY jZ kg kh ki kj kk kl kt ku kv kw kx ky kF kG kH kI kJ kK fy fz di dj dk dl dm dn dp dq dr ds fA dt du dv dw dx dy dz dA dB dC fB dD dE dF dG dH dI dJ dK dL dM fC dN dO dP fD fE fF fG fH fS fT en eo ep er es et eu ev ew ex fU ey ez eA eB eC eD eE eF eG eH fV eI eJ eK eL eM eN eO eP eQ eR fW eS eT eU fX fY fZ f0 f1 iQ iR iS iT iU iV i2 i3 i4 i5 i6 i7 je jf jg jh ji jj ju jv gM gN gO gP gQ gR gS gT gU gV jw gW gX gY gZ g0 g1 g2 g3 g4 g5 jx g6 g7 g8 g9 ha hc he hj hk ht jy hu hx hy jz jA jB jC jD jK jL jM jN jO jP j1 j4 h8 h9 ia ib ic id ie ig ih ii j5 ij ik il im io ip iq ir it iu j6 iv iw ix iy iz iA iB iC iD iE j7 iF iG iH j8 j9 ka kb kc km kn ko kp kr ks kz kA kB kC kD kE kL kM kN kO kP kQ fI fJ dQ dR dS dT dU dV dW dX dY dZ fK d0 d1 d2 d3 d4 d5 d6 d7 d8 d9 fL ea eb ec ed ee ef eg eh ei ej fM ek el em fN fO fP fQ fR f2 f3 eV eW eX eY eZ e0 e1 e2 e3 e4 f4 e5 e6 e7 e8 e9 fa fb fc fd fe f5 ff fg fh fi fj fk fl fm fn fo f6 fp fq fr f7 f8 f9 ga gb p2
               obtain ⟨kq, iJ, rfl, HA, HJ36, ag, bg, ar, HB⟩ := hcut
               cases kq with
               | zero => exact absurd HA.out (by simp [jobs_Valid.j3])
               | succ kj36 =>
                have H := HA.out
                clear HA
                simp only [jobs_Valid.j3] at H
                by_cases c50 : iJ = true
                ·subst c50
                 have H1 : (some false) = some r := by rw [if_pos rfl] at H; exact H
                 clear H
                 have H := H1
                 clear H1
                 obtain rfl := Option.some.inj H
                 go_wp2
                 go_ret
                 exact ⟨by first | rfl | (simp [errW_none, errW_some] <;> rfl) | (simp [*, errW_none, errW_some] <;> rfl), zho HB⟩
                ·replace c50 := Bool.eq_false_iff.mpr c50
                 subst c50
                 have H1 : (if 0 ≤ aa then (if aa < 7 then (jobs_Valid.l1 kj36 aa aa 0 aZ aW bb ah be bc ba aX bd ai aQ aF aA av aG ab aR aH aB aw aI ac aS aJ aC ax aK ad aT aL aD ay aM ae aU aN aE az aO af aV aP bh (pt 0 (pk7 ah ai ab ac ad ae af aa) (wrap64 ((pk7 aj ak al am an ao ap (pk7 ah ai ab ac ad ae af aa)) + 1)) aj) (pt 1 (pk7 ah ai ab ac ad ae af aa) (wrap64 ((pk7 aj ak al am an ao ap (pk7 ah ai ab ac ad ae af aa)) + 1)) ak) (pt 2 (pk7 ah ai ab ac ad ae af aa) (wrap64 ((pk7 aj ak al am an ao ap (pk7 ah ai ab ac ad ae af aa)) + 1)) al) (pt 3 (pk7 ah ai ab ac ad ae af aa) (wrap64 ((pk7 aj ak al am an ao ap (pk7 ah ai ab ac ad ae af aa)) + 1)) am) (pt 4 (pk7 ah ai ab ac ad ae af aa) (wrap64 ((pk7 aj ak al am an ao ap (pk7 ah ai ab ac ad ae af aa)) + 1)) an) (pt 5 (pk7 ah ai ab ac ad ae af aa) (wrap64 ((pk7 aj ak al am an ao ap (pk7 ah ai ab ac ad ae af aa)) + 1)) ao) (pt 6 (pk7 ah ai ab ac ad ae af aa) (wrap64 ((pk7 aj ak al am an ao ap (pk7 ah ai ab ac ad ae af aa)) + 1)) ap) (pk7 aZ ba aA aB aC aD aE aa) (pk7 aW aX av aw ax ay az aa) (pk7 bb bd aG aI aK aM aO aa) (pk7 ah ai ab ac ad ae af aa) (pk7 be aQ aR aS aT aU aV aa) (pk7 bc aF aH aJ aL aN aP aa) aZ aW bb ah be bc ba aX bd ai aQ aF aA av aG ab aR aH aB aw aI ac aS aJ aC ax aK ad aT aL aD ay aM ae aU aN aE az aO af aV aP) else (none)) else (none)) = some r := by rw [if_neg (show ¬ (false = true) by decide)] at H; exact H
                 clear H
                 have H := H1
                 clear H1
                 by_cases c51 : 0 ≤ aa
                 ·rw [if_pos c51] at H
                  have c51b0 : decide (0 ≤ aa) = true := decide_eq_true c51
                  clear c51
                  by_cases c52 : aa < 7
                  ·rw [if_pos c52] at H
                   have c52b0 : decide (aa < 7) = true := decide_eq_true c52
                   clear c52
                   have H' := Aside0.mk H
                   clear H
                   have vn112 : (((aa : Int).toNat : Nat) : Int) = aa := Int.toNat_of_nonneg (of_decide_eq_true (by first | (with_reducible assumption) | assumption))
                   go_wp2_with (first | ((with_reducible refine gate_dst (N := 66) rfl ?_); refine cut_arr (t := 25) (p := 64) (h := 65) (g := aq) (hi := aa) ?hg ?ho ?hp ?hh Try.underlying25 ?h0 ?h1 ?hs ?_; (case ho => rfl); (case hg => rfl); (case hp => rfl); (case hh => rfl); (case h0 => exact (of_decide_eq_true (by first | (with_reducible assumption) | assumption))); (case h1 => exact (of_decide_eq_true (by first | (with_reducible assumption) | assumption))); (case hs => kernel_rfl)))
                   go_loopg [68] kj36 (fun kq v68 w' => ∃ (au : Int), v68 = .int .i64 au ∧ Aside0 (jobs_Valid.l1 kq aa aa au aZ aW bb ah be bc ba aX bd ai aQ aF aA av aG ab aR aH aB aw aI ac aS aJ aC ax aK ad aT aL aD ay aM ae aU aN aE az aO af aV aP bh (pt 0 (pk7 ah ai ab ac ad ae af aa) (wrap64 ((pk7 aj ak al am an ao ap (pk7 ah ai ab ac ad ae af aa)) + 1)) aj) (pt 1 (pk7 ah ai ab ac ad ae af aa) (wrap64 ((pk7 aj ak al am an ao ap (pk7 ah ai ab ac ad ae af aa)) + 1)) ak) (pt 2 (pk7 ah ai ab ac ad ae af aa) (wrap64 ((pk7 aj ak al am an ao ap (pk7 ah ai ab ac ad ae af aa)) + 1)) al) (pt 3 (pk7 ah ai ab ac ad ae af aa) (wrap64 ((pk7 aj ak al am an ao ap (pk7 ah ai ab ac ad ae af aa)) + 1)) am) (pt 4 (pk7 ah ai ab ac ad ae af aa) (wrap64 ((pk7 aj ak al am an ao ap (pk7 ah ai ab ac ad ae af aa)) + 1)) an) (pt 5 (pk7 ah ai ab ac ad ae af aa) (wrap64 ((pk7 aj ak al am an ao ap (pk7 ah ai ab ac ad ae af aa)) + 1)) ao) (pt 6 (pk7 ah ai ab ac ad ae af aa) (wrap64 ((pk7 aj ak al am an ao ap (pk7 ah ai ab ac ad ae af aa)) + 1)) ap) (pk7 aZ ba aA aB aC aD aE aa) (pk7 aW aX av aw ax ay az aa) (pk7 bb bd aG aI aK aM aO aa) (pk7 ah ai ab ac ad ae af aa) (pk7 be aQ aR aS aT aU aV aa) (pk7 bc aF aH aJ aL aN aP aa) aZ aW bb ah be bc ba aX bd ai aQ aF aA av aG ab aR aH aB aw aI ac aS aJ aC ax aK ad aT aL aD ay aM ae aU aN aE az aO af aV aP = some r) ∧ Aside0 (kq ≤ kj36) ∧ Aside0 (w'.heap[aq]? = some (.cells (Jt aZ aW bb ah be bc ba aX bd ai aQ aF aA av aG ab aR aH aB aw aI ac aS aJ aC ax aK ad aT aL aD ay aM ae aU aN aE az aO af aV aP bh) 27 (0, 0))) ∧ Aside0 (w'.heap[bp]? = some (.cells #[.int .i64 (pt 0 (pk7 ah ai ab ac ad ae af aa) (wrap64 ((pk7 aj ak al am an ao ap (pk7 ah ai ab ac ad ae af aa)) + 1)) aj), .int .i64 (pt 1 (pk7 ah ai ab ac ad ae af aa) (wrap64 ((pk7 aj ak al am an ao ap (pk7 ah ai ab ac ad ae af aa)) + 1)) ak), .int .i64 (pt 2 (pk7 ah ai ab ac ad ae af aa) (wrap64 ((pk7 aj ak al am an ao ap (pk7 ah ai ab ac ad ae af aa)) + 1)) al), .int .i64 (pt 3 (pk7 ah ai ab ac ad ae af aa) (wrap64 ((pk7 aj ak al am an ao ap (pk7 ah ai ab ac ad ae af aa)) + 1)) am), .int .i64 (pt 4 (pk7 ah ai ab ac ad ae af aa) (wrap64 ((pk7 aj ak al am an ao ap (pk7 ah ai ab ac ad ae af aa)) + 1)) an), .int .i64 (pt 5 (pk7 ah ai ab ac ad ae af aa) (wrap64 ((pk7 aj ak al am an ao ap (pk7 ah ai ab ac ad ae af aa)) + 1)) ao), .int .i64 (pt 6 (pk7 ah ai ab ac ad ae af aa) (wrap64 ((pk7 aj ak al am an ao ap (pk7 ah ai ab ac ad ae af aa)) + 1)) ap)] 61 (0, 0))) ∧ Aside0 (w'.heap[aY]? = some (.cells #[.bool (pk7 aZ ba aA aB aC aD aE aa), .int .i64 (pk7 aW aX av aw ax ay az aa), .int .i64 (pk7 bb bd aG aI aK aM aO aa), .int .i64 (pk7 ah ai ab ac ad ae af aa), .bool (pk7 be aQ aR aS aT aU aV aa), .int .i64 (pk7 bc aF aH aJ aL aN aP aa)] 24 (0, 0))) ∧ Aside0 (Below w.heap.size w w'))
                   case atStart => exact ⟨(0), (by first | rfl | (simp; done) | (simp [*]; done)), H', ⟨Nat.le_refl _⟩, ⟨by (with_reducible repeat (first | refine blk_drewN ?_ _ | refine blk_drew ?_ | refine blk_alloc ?_ _)); exact ag.out⟩, ⟨by (with_reducible repeat (first | refine blk_drewN ?_ _ | refine blk_drew ?_ | refine blk_alloc ?_ _)); exact bg.out⟩, ⟨by (with_reducible repeat (first | refine blk_drewN ?_ _ | refine blk_drew ?_ | refine blk_alloc ?_ _)); exact ar.out⟩, ⟨zho HB⟩⟩
                   case round =>
                    clear H'
                    try clear c1 p1 q1 c2 p2 c3 c4 c4b0 c4b1 c5 p6 c7 c9 c9b0 c10 c10b0 p10 q10 c11 c11b0 p11 q11 c15 c16 c18 c18b0 c18b1 c19 c20 c22 c22b0 c23 c24 c26 c29 c30 c32 c34 c35 c35b0 c36 c36b0 c38 c39 c43 c43b0 c43b1 c44 c45 c47 c48 c50 c51 c51b0 c52 c52b0 iK iL iM iN iO iP iW iX iY iZ i0 i1 i8 i9 ja jb jc jd jk jl gd ge gf gg gh gi gj gl gm gn jm gp gq gr gs gt gu gv gw gx gy jn gz gA gB gC gD gE gF gG gH gI jo gJ gK gL jp jq jr js jt jE jF jG jH jI jJ jQ jR hz hA hB hC hD hE hF hG hH hI jS hJ hK hL hM hN hO hP hQ hR hS jT hT hU hV hW hX hY hZ h2 h3 h4 jU h5 h6 h7 jV jW jX jY jZ kg kh ki kj kk kl kt ku kv kw kx ky kF kG kH kI kJ kK fy fz di dj dk dl dm dn dp dq dr ds fA dt du dv dw dx dy dz dA dB dC fB dD dE dF dG dH dI dJ dK dL dM fC dN dO dP fD fE fF fG fH fS fT en eo ep er es et eu ev ew ex fU ey ez eA eB eC eD eE eF eG eH fV eI eJ eK eL eM eN eO eP eQ eR fW eS eT eU fX fY fZ f0 f1 iQ iR iS iT iU iV i2 i3 i4 i5 i6 i7 je jf jg jh ji jj ju jv gM gN gO gP gQ gR gS gT gU gV jw gW gX gY gZ g0 g1 g2 g3 g4 g5 jx g6 g7 g8 g9 ha hc he hj hk ht jy hu hx hy jz jA jB jC jD jK jL jM jN jO jP j1 j4 h8 h9 ia ib ic id ie ig ih ii j5 ij ik il im io ip iq ir it iu j6 iv iw ix iy iz iA iB iC iD iE j7 iF iG iH j8 j9 ka kb kc km kn ko kp kr ks kz kA kB kC kD kE kL kM kN kO kP kQ fI fJ dQ dR dS dT dU dV dW dX dY dZ fK d0 d1 d2 d3 d4 d5 d6 d7 d8 d9 fL ea eb ec ed ee ef eg eh ei ej fM ek el em fN fO fP fQ fR f2 f3 eV eW eX eY eZ e0 e1 e2 e3 e4 f4 e5 e6 e7 e8 e9 fa fb fc fd fe f5 ff fg fh fi fj fk fl fm fn fo f6 fp fq fr f7 f8 f9 ga gb p1 p10 p11 p2 p6 q1 q10 q11
                    obtain ⟨au, rfl, HA, HK5, ag, bg, ar, HB⟩ := hrel
                    cases gk with
                    | zero => exact absurd HA.out (by simp [jobs_Valid.l1])
                    | succ k5 =>
                     have H := HA.out
                     clear HA
                     simp only [jobs_Valid.l1] at H
                     by_cases c53 : au < aa
                     ·rw [if_pos c53] at H
                      have c53b0 : decide (au < aa) = true := decide_eq_true c53
                      clear c53
                      by_cases c54 : 0 ≤ aa
                      ·rw [if_pos c54] at H
                       have c54b0 : decide (0 ≤ aa) = true := decide_eq_true c54
                       clear c54
                       by_cases c55 : aa < 7
                       ·rw [if_pos c55] at H
                        have c55b0 : decide (aa < 7) = true := decide_eq_true c55
                        clear c55
                        by_cases c56 : 0 ≤ au
                        ·rw [if_pos c56] at H
                         have c56b0 : decide (0 ≤ au) = true := decide_eq_true c56
                         clear c56
                         by_cases c57 : pk7 aZ ba aA aB aC aD aE au = true
                         ·rw [if_pos c57] at H
                          have c57b0 : pk7 aZ ba aA aB aC aD aE au = true := c57
                          clear c57
                          by_cases c58 : (pk7 aW aX av aw ax ay az au) = (pk7 aW aX av aw ax ay az aa)
                          ·rw [if_pos c58] at H
                           have c58b0 : ((pk7 aW aX av aw ax ay az au) == (pk7 aW aX av aw ax ay az aa)) = true := beq_iff_eq.mpr c58
                           have c58b1 : ((pk7 aW aX av aw ax ay az au) != (pk7 aW aX av aw ax ay az aa)) = false := bne_eq_false_iff_eq.mpr c58
                           clear c58
                           obtain rfl := Option.some.inj H
                           have vz113 : decide ((au : Int) < (7 : Int)) = true := decide_eq_true (Int.lt_trans (b := aa) (of_decide_eq_true (by first | (with_reducible assumption) | assumption)) (of_decide_eq_true (by first | (with_reducible assumption) | assumption)))
                           have fs : wr.cell? ⟨aq, au.toNat * 6, none⟩ = some (.bool (pk7 aZ ba aA aB aC aD aE au)) := cellA27_0_0 (au) (of_decide_eq_true (by first | (with_reducible assumption) | assumption)) (of_decide_eq_true (by first | (with_reducible assumption) | assumption)) ag.out
                           have ft : wr.cell? ⟨aq, au.toNat * 6 + 1, none⟩ = some (.int .i64 (pk7 aW aX av aw ax ay az au)) := cellA27_0_1 (au) (of_decide_eq_true (by first | (with_reducible assumption) | assumption)) (of_decide_eq_true (by first | (with_reducible assumption) | assumption)) ag.out
                           have fu : wr.cell? ⟨aq, au.toNat * 6 + 2, none⟩ = some (.int .i64 (pk7 bb bd aG aI aK aM aO au)) := cellA27_0_2 (au) (of_decide_eq_true (by first | (with_reducible assumption) | assumption)) (of_decide_eq_true (by first | (with_reducible assumption) | assumption)) ag.out
                           have fv : wr.cell? ⟨aq, au.toNat * 6 + 3, none⟩ = some (.int .i64 (pk7 ah ai ab ac ad ae af au)) := cellA27_0_3 (au) (of_decide_eq_true (by first | (with_reducible assumption) | assumption)) (of_decide_eq_true (by first | (with_reducible assumption) | assumption)) ag.out
                           have fw : wr.cell? ⟨aq, au.toNat * 6 + 4, none⟩ = some (.bool (pk7 be aQ aR aS aT aU aV au)) := cellA27_0_4 (au) (of_decide_eq_true (by first | (with_reducible assumption) | assumption)) (of_decide_eq_true (by first | (with_reducible assumption) | assumption)) ag.out
                           have fx : wr.cell? ⟨aq, au.toNat * 6 + 5, none⟩ = some (.int .i64 (pk7 bc aF aH aJ aL aN aP au)) := cellA27_0_5 (au) (of_decide_eq_true (by first | (with_reducible assumption) | assumption)) (of_decide_eq_true (by first | (with_reducible assumption) | assumption)) ag.out
                           go_wp2_with (first | ((with_reducible refine gate_dst (N := 70) rfl ?_); refine at_cut (t := 62) (p := 66) (q := 68) (g := aq) (j := au) (hi := aa) (sz := 6) (m := (aa : Int).toNat) (c := 7) ?hg ?ho ?hp ?hq Try.underlying62 ?hm ?h0 ?h1 ?hs ?_; (case ho => rfl); (case hg => rfl); (case hp => rfl); (case hq => rfl); (case hm => rfl); (case h0 => exact (of_decide_eq_true (by first | (with_reducible assumption) | assumption))); (case h1 => exact (of_decide_eq_true (by first | (with_reducible assumption) | assumption))); (case hs => kernel_rfl)) | ((with_reducible refine gate_dst (N := 71) rfl ?_); refine seg_load_cells (t := 24) (p := 70) (g := aq) (off := au.toNat * 6) (vs := [.bool (pk7 aZ ba aA aB aC aD aE au), .int .i64 (pk7 aW aX av aw ax ay az au), .int .i64 (pk7 bb bd aG aI aK aM aO au), .int .i64 (pk7 ah ai ab ac ad ae af au), .bool (pk7 be aQ aR aS aT aU aV au), .int .i64 (pk7 bc aF aH aJ aL aN aP au)]) ?hg ?ho ?hp ?hl Try.underlying24 ?hd ?hi ?_; (case ho => rfl); (case hg => first | rfl | (go_simp; done) | (simp [Region.wanted, yielded, *]; done)); (case hp => rfl); (case hl => exact cells6 fs ft fu fv fw fx); (case hd => rfl); (case hi => kernel_rfl)) | ((with_reducible refine gate_dst (N := 7) rfl ?_); refine box_event ?hg (N := 7) ?hd (cs := #[.bool false, .int .i64 0, .int .i64 0, .int .i64 0, .bool false, .int .i64 0]) (t := 24) ?hr ?_; (case hd => rfl); (case hg => rfl); (case hr => first | (go_simp; done) | (go_simp; rfl)); intro br hg w59 hbox hb; have bs := Aside0.mk hbox; have kS := zhs HB hg; have da := zhs HB hg; have cZ := znl ag hg; have df := zng ag hg; have c0 := znl bg hg; have dg := zng bg hg; have c6 := znl ar hg; have dh := zng ar hg; replace ag := zbB ag hb; replace bg := zbB bg hb; replace ar := zbB ar hb; replace HB := zhB HB hb; clear hb hbox hg) | ((with_reducible refine gate_store (t := 24) (p := 7) rfl ?_); refine seg_event (t := 24) (p := 7) (x := ?xo_w60) (g := br) (off := 0) (T := 24) (cur := #[.bool false, .int .i64 0, .int .i64 0, .int .i64 0, .bool false, .int .i64 0]) (vs := [.bool (pk7 aZ ba aA aB aC aD aE au), .int .i64 (pk7 aW aX av aw ax ay az au), .int .i64 (pk7 bb bd aG aI aK aM aO au), .int .i64 (pk7 ah ai ab ac ad ae af au), .bool (pk7 be aQ aR aS aT aU aV au), .int .i64 (pk7 bc aF aH aJ aL aN aP au)]) (new := #[.bool (pk7 aZ ba aA aB aC aD aE au), .int .i64 (pk7 aW aX av aw ax ay az au), .int .i64 (pk7 bb bd aG aI aK aM aO au), .int .i64 (pk7 ah ai ab ac ad ae af au), .bool (pk7 be aQ aR aS aT aU aV au), .int .i64 (pk7 bc aF aH aJ aL aN aP au)]) ?hg ?ho ?hn ?hp ?hv ?hb ?hi ?hf ?h1 ?hw ?_; (case ho => rfl); (case hg => rfl); (case hn => rfl); (case hp => rfl); (case hv => first | rfl | (go_simp; done) | (simp [*]; done)); (case hb => exact bs.out); (case hi => kernel_rfl); (case hf => exact Nat.le_of_ble_eq_true rfl); (case h1 => rfl); (case hw => rfl); intro w60 hbox hg hbl; replace ag := zbG ag hg cZ; replace bg := zbG bg hg c0; replace ar := zbG ar hg c6; replace bs := Aside0.mk hbox; replace HB := zhL hbl HB da; clear hbox hg hbl; have hnb61 := df.out; have hnc61 := cZ.out; have hnb62 := dg.out; have hnc62 := c0.out; have hnb63 := dh.out; have hnc63 := c6.out; have hcz64_0 : w60.cell? ⟨br, 0, none⟩ = some (.bool (pk7 aZ ba aA aB aC aD aE au)) := (blk_cell bs.out 0).trans rfl; have hcz64_1 : w60.cell? ⟨br, 1, none⟩ = some (.int .i64 (pk7 aW aX av aw ax ay az au)) := (blk_cell bs.out 1).trans rfl; have hcz64_2 : w60.cell? ⟨br, 2, none⟩ = some (.int .i64 (pk7 bb bd aG aI aK aM aO au)) := (blk_cell bs.out 2).trans rfl; have hcz64_3 : w60.cell? ⟨br, 3, none⟩ = some (.int .i64 (pk7 ah ai ab ac ad ae af au)) := (blk_cell bs.out 3).trans rfl; have hcz64_4 : w60.cell? ⟨br, 4, none⟩ = some (.bool (pk7 be aQ aR aS aT aU aV au)) := (blk_cell bs.out 4).trans rfl; have hcz64_5 : w60.cell? ⟨br, 5, none⟩ = some (.int .i64 (pk7 bc aF aH aJ aL aN aP au)) := (blk_cell bs.out 5).trans rfl; have hfz64_0 := blk_frozen bs.out 0; have hfz64_1 := blk_frozen bs.out 1; have hfz64_2 := blk_frozen bs.out 2; have hfz64_3 := blk_frozen bs.out 3; have hfz64_4 := blk_frozen bs.out 4; have hfz64_5 := blk_frozen bs.out 5; have hnb65 := cv.out; have hnc65 := bv.out; have hnb66 := bG.out; have hnc66 := bw.out; have hcz67_0 : w60.cell? ⟨aY, 0, none⟩ = some (.bool (pk7 aZ ba aA aB aC aD aE aa)) := (blk_cell ar.out 0).trans rfl; have hcz67_1 : w60.cell? ⟨aY, 1, none⟩ = some (.int .i64 (pk7 aW aX av aw ax ay az aa)) := (blk_cell ar.out 1).trans rfl; have hcz67_2 : w60.cell? ⟨aY, 2, none⟩ = some (.int .i64 (pk7 bb bd aG aI aK aM aO aa)) := (blk_cell ar.out 2).trans rfl; have hcz67_3 : w60.cell? ⟨aY, 3, none⟩ = some (.int .i64 (pk7 ah ai ab ac ad ae af aa)) := (blk_cell ar.out 3).trans rfl; have hcz67_4 : w60.cell? ⟨aY, 4, none⟩ = some (.bool (pk7 be aQ aR aS aT aU aV aa)) := (blk_cell ar.out 4).trans rfl; have hcz67_5 : w60.cell? ⟨aY, 5, none⟩ = some (.int .i64 (pk7 bc aF aH aJ aL aN aP aa)) := (blk_cell ar.out 5).trans rfl; have hfz67_0 := blk_frozen ar.out 0; have hfz67_1 := blk_frozen ar.out 1; have hfz67_2 := blk_frozen ar.out 2; have hfz67_3 := blk_frozen ar.out 3; have hfz67_4 := blk_frozen ar.out 4; have hfz67_5 := blk_frozen ar.out 5))
                           go_ret
                           exact ⟨by first | rfl | (simp [errW_none, errW_some] <;> rfl) | (simp [*, errW_none, errW_some] <;> rfl), zho HB⟩
                          ·rw [if_neg c58] at H
                           have c58b0 : ((pk7 aW aX av aw ax ay az au) == (pk7 aW aX av aw ax ay az aa)) = false := beq_eq_false_iff_ne.mpr c58
                           have c58b1 : ((pk7 aW aX av aw ax ay az au) != (pk7 aW aX av aw ax ay az aa)) = true := bne_iff_ne.mpr c58
                           have H' := Aside0.mk H
                           clear H
                           have vz113 : decide ((au : Int) < (7 : Int)) = true := decide_eq_true (Int.lt_trans (b := aa) (of_decide_eq_true (by first | (with_reducible assumption) | assumption)) (of_decide_eq_true (by first | (with_reducible assumption) | assumption)))
                           have fs : wr.cell? ⟨aq, au.toNat * 6, none⟩ = some (.bool (pk7 aZ ba aA aB aC aD aE au)) := cellA27_0_0 (au) (of_decide_eq_true (by first | (with_reducible assumption) | assumption)) (of_decide_eq_true (by first | (with_reducible assumption) | assumption)) ag.out
                           have ft : wr.cell? ⟨aq, au.toNat * 6 + 1, none⟩ = some (.int .i64 (pk7 aW aX av aw ax ay az au)) := cellA27_0_1 (au) (of_decide_eq_true (by first | (with_reducible assumption) | assumption)) (of_decide_eq_true (by first | (with_reducible assumption) | assumption)) ag.out
                           have fu : wr.cell? ⟨aq, au.toNat * 6 + 2, none⟩ = some (.int .i64 (pk7 bb bd aG aI aK aM aO au)) := cellA27_0_2 (au) (of_decide_eq_true (by first | (with_reducible assumption) | assumption)) (of_decide_eq_true (by first | (with_reducible assumption) | assumption)) ag.out
                           have fv : wr.cell? ⟨aq, au.toNat * 6 + 3, none⟩ = some (.int .i64 (pk7 ah ai ab ac ad ae af au)) := cellA27_0_3 (au) (of_decide_eq_true (by first | (with_reducible assumption) | assumption)) (of_decide_eq_true (by first | (with_reducible assumption) | assumption)) ag.out
                           have fw : wr.cell? ⟨aq, au.toNat * 6 + 4, none⟩ = some (.bool (pk7 be aQ aR aS aT aU aV au)) := cellA27_0_4 (au) (of_decide_eq_true (by first | (with_reducible assumption) | assumption)) (of_decide_eq_true (by first | (with_reducible assumption) | assumption)) ag.out
                           have fx : wr.cell? ⟨aq, au.toNat * 6 + 5, none⟩ = some (.int .i64 (pk7 bc aF aH aJ aL aN aP au)) := cellA27_0_5 (au) (of_decide_eq_true (by first | (with_reducible assumption) | assumption)) (of_decide_eq_true (by first | (with_reducible assumption) | assumption)) ag.out
                           go_wp2_with (first | ((with_reducible refine gate_dst (N := 70) rfl ?_); refine at_cut (t := 62) (p := 66) (q := 68) (g := aq) (j := au) (hi := aa) (sz := 6) (m := (aa : Int).toNat) (c := 7) ?hg ?ho ?hp ?hq Try.underlying62 ?hm ?h0 ?h1 ?hs ?_; (case ho => rfl); (case hg => rfl); (case hp => rfl); (case hq => rfl); (case hm => rfl); (case h0 => exact (of_decide_eq_true (by first | (with_reducible assumption) | assumption))); (case h1 => exact (of_decide_eq_true (by first | (with_reducible assumption) | assumption))); (case hs => kernel_rfl)) | ((with_reducible refine gate_dst (N := 71) rfl ?_); refine seg_load_cells (t := 24) (p := 70) (g := aq) (off := au.toNat * 6) (vs := [.bool (pk7 aZ ba aA aB aC aD aE au), .int .i64 (pk7 aW aX av aw ax ay az au), .int .i64 (pk7 bb bd aG aI aK aM aO au), .int .i64 (pk7 ah ai ab ac ad ae af au), .bool (pk7 be aQ aR aS aT aU aV au), .int .i64 (pk7 bc aF aH aJ aL aN aP au)]) ?hg ?ho ?hp ?hl Try.underlying24 ?hd ?hi ?_; (case ho => rfl); (case hg => first | rfl | (go_simp; done) | (simp [Region.wanted, yielded, *]; done)); (case hp => rfl); (case hl => exact cells6 fs ft fu fv fw fx); (case hd => rfl); (case hi => kernel_rfl)) | ((with_reducible refine gate_dst (N := 7) rfl ?_); refine box_event ?hg (N := 7) ?hd (cs := #[.bool false, .int .i64 0, .int .i64 0, .int .i64 0, .bool false, .int .i64 0]) (t := 24) ?hr ?_; (case hd => rfl); (case hg => rfl); (case hr => first | (go_simp; done) | (go_simp; rfl)); intro br hg w68 hbox hb; have bs := Aside0.mk hbox; have kS := zhs HB hg; have da := zhs HB hg; have cZ := znl ag hg; have df := zng ag hg; have c0 := znl bg hg; have dg := zng bg hg; have c6 := znl ar hg; have dh := zng ar hg; replace ag := zbB ag hb; replace bg := zbB bg hb; replace ar := zbB ar hb; replace HB := zhB HB hb; clear hb hbox hg) | ((with_reducible refine gate_store (t := 24) (p := 7) rfl ?_); refine seg_event (t := 24) (p := 7) (x := ?xo_w69) (g := br) (off := 0) (T := 24) (cur := #[.bool false, .int .i64 0, .int .i64 0, .int .i64 0, .bool false, .int .i64 0]) (vs := [.bool (pk7 aZ ba aA aB aC aD aE au), .int .i64 (pk7 aW aX av aw ax ay az au), .int .i64 (pk7 bb bd aG aI aK aM aO au), .int .i64 (pk7 ah ai ab ac ad ae af au), .bool (pk7 be aQ aR aS aT aU aV au), .int .i64 (pk7 bc aF aH aJ aL aN aP au)]) (new := #[.bool (pk7 aZ ba aA aB aC aD aE au), .int .i64 (pk7 aW aX av aw ax ay az au), .int .i64 (pk7 bb bd aG aI aK aM aO au), .int .i64 (pk7 ah ai ab ac ad ae af au), .bool (pk7 be aQ aR aS aT aU aV au), .int .i64 (pk7 bc aF aH aJ aL aN aP au)]) ?hg ?ho ?hn ?hp ?hv ?hb ?hi ?hf ?h1 ?hw ?_; (case ho => rfl); (case hg => rfl); (case hn => rfl); (case hp => rfl); (case hv => first | rfl | (go_simp; done) | (simp [*]; done)); (case hb => exact bs.out); (case hi => kernel_rfl); (case hf => exact Nat.le_of_ble_eq_true rfl); (case h1 => rfl); (case hw => rfl); intro w69 hbox hg hbl; replace ag := zbG ag hg cZ; replace bg := zbG bg hg c0; replace ar := zbG ar hg c6; replace bs := Aside0.mk hbox; replace HB := zhL hbl HB da; clear hbox hg hbl; have hnb70 := df.out; have hnc70 := cZ.out; have hnb71 := dg.out; have hnc71 := c0.out; have hnb72 := dh.out; have hnc72 := c6.out; have hcz73_0 : w69.cell? ⟨br, 0, none⟩ = some (.bool (pk7 aZ ba aA aB aC aD aE au)) := (blk_cell bs.out 0).trans rfl; have hcz73_1 : w69.cell? ⟨br, 1, none⟩ = some (.int .i64 (pk7 aW aX av aw ax ay az au)) := (blk_cell bs.out 1).trans rfl; have hcz73_2 : w69.cell? ⟨br, 2, none⟩ = some (.int .i64 (pk7 bb bd aG aI aK aM aO au)) := (blk_cell bs.out 2).trans rfl; have hcz73_3 : w69.cell? ⟨br, 3, none⟩ = some (.int .i64 (pk7 ah ai ab ac ad ae af au)) := (blk_cell bs.out 3).trans rfl; have hcz73_4 : w69.cell? ⟨br, 4, none⟩ = some (.bool (pk7 be aQ aR aS aT aU aV au)) := (blk_cell bs.out 4).trans rfl; have hcz73_5 : w69.cell? ⟨br, 5, none⟩ = some (.int .i64 (pk7 bc aF aH aJ aL aN aP au)) := (blk_cell bs.out 5).trans rfl; have hfz73_0 := blk_frozen bs.out 0; have hfz73_1 := blk_frozen bs.out 1; have hfz73_2 := blk_frozen bs.out 2; have hfz73_3 := blk_frozen bs.out 3; have hfz73_4 := blk_frozen bs.out 4; have hfz73_5 := blk_frozen bs.out 5; have hnb74 := cv.out; have hnc74 := bv.out; have hnb75 := bG.out; have hnc75 := bw.out; have hcz76_0 : w69.cell? ⟨aY, 0, none⟩ = some (.bool (pk7 aZ ba aA aB aC aD aE aa)) := (blk_cell ar.out 0).trans rfl; have hcz76_1 : w69.cell? ⟨aY, 1, none⟩ = some (.int .i64 (pk7 aW aX av aw ax ay az aa)) := (blk_cell ar.out 1).trans rfl; have hcz76_2 : w69.cell? ⟨aY, 2, none⟩ = some (.int .i64 (pk7 bb bd aG aI aK aM aO aa)) := (blk_cell ar.out 2).trans rfl; have hcz76_3 : w69.cell? ⟨aY, 3, none⟩ = some (.int .i64 (pk7 ah ai ab ac ad ae af aa)) := (blk_cell ar.out 3).trans rfl; have hcz76_4 : w69.cell? ⟨aY, 4, none⟩ = some (.bool (pk7 be aQ aR aS aT aU aV aa)) := (blk_cell ar.out 4).trans rfl; have hcz76_5 : w69.cell? ⟨aY, 5, none⟩ = some (.int .i64 (pk7 bc aF aH aJ aL aN aP aa)) := (blk_cell ar.out 5).trans rfl; have hfz76_0 := blk_frozen ar.out 0; have hfz76_1 := blk_frozen ar.out 1; have hfz76_2 := blk_frozen ar.out 2; have hfz76_3 := blk_frozen ar.out 3; have hfz76_4 := blk_frozen ar.out 4; have hfz76_5 := blk_frozen ar.out 5))
                           go_roundg k5
                           case measure => have := HJ1.out; have := HK2.out; have := HJ11.out; have := HJ36.out; have := HK5.out; omega
                           case rel => exact ⟨(wrap64 (au + 1)), (by first | rfl | (simp; done) | (simp [*]; done)), H', ⟨by have := HJ1.out; have := HK2.out; have := HJ11.out; have := HJ36.out; have := HK5.out; omega⟩, ⟨by (with_reducible repeat (first | refine blk_drewN ?_ _ | refine blk_drew ?_ | refine blk_alloc ?_ _)); exact ag.out⟩, ⟨by (with_reducible repeat (first | refine blk_drewN ?_ _ | refine blk_drew ?_ | refine blk_alloc ?_ _)); exact bg.out⟩, ⟨by (with_reducible repeat (first | refine blk_drewN ?_ _ | refine blk_drew ?_ | refine blk_alloc ?_ _)); exact ar.out⟩, ⟨zho HB⟩⟩
                         ·rw [if_neg c57] at H
                          have c57b0 : pk7 aZ ba aA aB aC aD aE au = false := by simpa using c57
                          clear c57
                          have H' := Aside0.mk H
                          clear H
                          have vz113 : decide ((au : Int) < (7 : Int)) = true := decide_eq_true (Int.lt_trans (b := aa) (of_decide_eq_true (by first | (with_reducible assumption) | assumption)) (of_decide_eq_true (by first | (with_reducible assumption) | assumption)))
                          have fs : wr.cell? ⟨aq, au.toNat * 6, none⟩ = some (.bool (pk7 aZ ba aA aB aC aD aE au)) := cellA27_0_0 (au) (of_decide_eq_true (by first | (with_reducible assumption) | assumption)) (of_decide_eq_true (by first | (with_reducible assumption) | assumption)) ag.out
                          have ft : wr.cell? ⟨aq, au.toNat * 6 + 1, none⟩ = some (.int .i64 (pk7 aW aX av aw ax ay az au)) := cellA27_0_1 (au) (of_decide_eq_true (by first | (with_reducible assumption) | assumption)) (of_decide_eq_true (by first | (with_reducible assumption) | assumption)) ag.out
                          have fu : wr.cell? ⟨aq, au.toNat * 6 + 2, none⟩ = some (.int .i64 (pk7 bb bd aG aI aK aM aO au)) := cellA27_0_2 (au) (of_decide_eq_true (by first | (with_reducible assumption) | assumption)) (of_decide_eq_true (by first | (with_reducible assumption) | assumption)) ag.out
                          have fv : wr.cell? ⟨aq, au.toNat * 6 + 3, none⟩ = some (.int .i64 (pk7 ah ai ab ac ad ae af au)) := cellA27_0_3 (au) (of_decide_eq_true (by first | (with_reducible assumption) | assumption)) (of_decide_eq_true (by first | (with_reducible assumption) | assumption)) ag.out
                          have fw : wr.cell? ⟨aq, au.toNat * 6 + 4, none⟩ = some (.bool (pk7 be aQ aR aS aT aU aV au)) := cellA27_0_4 (au) (of_decide_eq_true (by first | (with_reducible assumption) | assumption)) (of_decide_eq_true (by first | (with_reducible assumption) | assumption)) ag.out
                          have fx : wr.cell? ⟨aq, au.toNat * 6 + 5, none⟩ = some (.int .i64 (pk7 bc aF aH aJ aL aN aP au)) := cellA27_0_5 (au) (of_decide_eq_true (by first | (with_reducible assumption) | assumption)) (of_decide_eq_true (by first | (with_reducible assumption) | assumption)) ag.out
                          go_wp2_with (first | ((with_reducible refine gate_dst (N := 70) rfl ?_); refine at_cut (t := 62) (p := 66) (q := 68) (g := aq) (j := au) (hi := aa) (sz := 6) (m := (aa : Int).toNat) (c := 7) ?hg ?ho ?hp ?hq Try.underlying62 ?hm ?h0 ?h1 ?hs ?_; (case ho => rfl); (case hg => rfl); (case hp => rfl); (case hq => rfl); (case hm => rfl); (case h0 => exact (of_decide_eq_true (by first | (with_reducible assumption) | assumption))); (case h1 => exact (of_decide_eq_true (by first | (with_reducible assumption) | assumption))); (case hs => kernel_rfl)) | ((with_reducible refine gate_dst (N := 71) rfl ?_); refine seg_load_cells (t := 24) (p := 70) (g := aq) (off := au.toNat * 6) (vs := [.bool (pk7 aZ ba aA aB aC aD aE au), .int .i64 (pk7 aW aX av aw ax ay az au), .int .i64 (pk7 bb bd aG aI aK aM aO au), .int .i64 (pk7 ah ai ab ac ad ae af au), .bool (pk7 be aQ aR aS aT aU aV au), .int .i64 (pk7 bc aF aH aJ aL aN aP au)]) ?hg ?ho ?hp ?hl Try.underlying24 ?hd ?hi ?_; (case ho => rfl); (case hg => first | rfl | (go_simp; done) | (simp [Region.wanted, yielded, *]; done)); (case hp => rfl); (case hl => exact cells6 fs ft fu fv fw fx); (case hd => rfl); (case hi => kernel_rfl)) | ((with_reducible refine gate_dst (N := 7) rfl ?_); refine box_event ?hg (N := 7) ?hd (cs := #[.bool false, .int .i64 0, .int .i64 0, .int .i64 0, .bool false, .int .i64 0]) (t := 24) ?hr ?_; (case hd => rfl); (case hg => rfl); (case hr => first | (go_simp; done) | (go_simp; rfl)); intro br hg w77 hbox hb; have bs := Aside0.mk hbox; have kS := zhs HB hg; have da := zhs HB hg; have cZ := znl ag hg; have df := zng ag hg; have c0 := znl bg hg; have dg := zng bg hg; have c6 := znl ar hg; have dh := zng ar hg; replace ag := zbB ag hb; replace bg := zbB bg hb; replace ar := zbB ar hb; replace HB := zhB HB hb; clear hb hbox hg) | ((with_reducible refine gate_store (t := 24) (p := 7) rfl ?_); refine seg_event (t := 24) (p := 7) (x := ?xo_w78) (g := br) (off := 0) (T := 24) (cur := #[.bool false, .int .i64 0, .int .i64 0, .int .i64 0, .bool false, .int .i64 0]) (vs := [.bool (pk7 aZ ba aA aB aC aD aE au), .int .i64 (pk7 aW aX av aw ax ay az au), .int .i64 (pk7 bb bd aG aI aK aM aO au), .int .i64 (pk7 ah ai ab ac ad ae af au), .bool (pk7 be aQ aR aS aT aU aV au), .int .i64 (pk7 bc aF aH aJ aL aN aP au)]) (new := #[.bool (pk7 aZ ba aA aB aC aD aE au), .int .i64 (pk7 aW aX av aw ax ay az au), .int .i64 (pk7 bb bd aG aI aK aM aO au), .int .i64 (pk7 ah ai ab ac ad ae af au), .bool (pk7 be aQ aR aS aT aU aV au), .int .i64 (pk7 bc aF aH aJ aL aN aP au)]) ?hg ?ho ?hn ?hp ?hv ?hb ?hi ?hf ?h1 ?hw ?_; (case ho => rfl); (case hg => rfl); (case hn => rfl); (case hp => rfl); (case hv => first | rfl | (go_simp; done) | (simp [*]; done)); (case hb => exact bs.out); (case hi => kernel_rfl); (case hf => exact Nat.le_of_ble_eq_true rfl); (case h1 => rfl); (case hw => rfl); intro w78 hbox hg hbl; replace ag := zbG ag hg cZ; replace bg := zbG bg hg c0; replace ar := zbG ar hg c6; replace bs := Aside0.mk hbox; replace HB := zhL hbl HB da; clear hbox hg hbl; have hnb79 := df.out; have hnc79 := cZ.out; have hnb80 := dg.out; have hnc80 := c0.out; have hnb81 := dh.out; have hnc81 := c6.out; have hcz82_0 : w78.cell? ⟨br, 0, none⟩ = some (.bool (pk7 aZ ba aA aB aC aD aE au)) := (blk_cell bs.out 0).trans rfl; have hcz82_1 : w78.cell? ⟨br, 1, none⟩ = some (.int .i64 (pk7 aW aX av aw ax ay az au)) := (blk_cell bs.out 1).trans rfl; have hcz82_2 : w78.cell? ⟨br, 2, none⟩ = some (.int .i64 (pk7 bb bd aG aI aK aM aO au)) := (blk_cell bs.out 2).trans rfl; have hcz82_3 : w78.cell? ⟨br, 3, none⟩ = some (.int .i64 (pk7 ah ai ab ac ad ae af au)) := (blk_cell bs.out 3).trans rfl; have hcz82_4 : w78.cell? ⟨br, 4, none⟩ = some (.bool (pk7 be aQ aR aS aT aU aV au)) := (blk_cell bs.out 4).trans rfl; have hcz82_5 : w78.cell? ⟨br, 5, none⟩ = some (.int .i64 (pk7 bc aF aH aJ aL aN aP au)) := (blk_cell bs.out 5).trans rfl; have hfz82_0 := blk_frozen bs.out 0; have hfz82_1 := blk_frozen bs.out 1; have hfz82_2 := blk_frozen bs.out 2; have hfz82_3 := blk_frozen bs.out 3; have hfz82_4 := blk_frozen bs.out 4; have hfz82_5 := blk_frozen bs.out 5))
                          go_roundg k5
                          case measure => have := HJ1.out; have := HK2.out; have := HJ11.out; have := HJ36.out; have := HK5.out; omega
                          case rel => exact ⟨(wrap64 (au + 1)), (by first | rfl | (simp; done) | (simp [*]; done)), H', ⟨by have := HJ1.out; have := HK2.out; have := HJ11.out; have := HJ36.out; have := HK5.out; omega⟩, ⟨by (with_reducible repeat (first | refine blk_drewN ?_ _ | refine blk_drew ?_ | refine blk_alloc ?_ _)); exact ag.out⟩, ⟨by (with_reducible repeat (first | refine blk_drewN ?_ _ | refine blk_drew ?_ | refine blk_alloc ?_ _)); exact bg.out⟩, ⟨by (with_reducible repeat (first | refine blk_drewN ?_ _ | refine blk_drew ?_ | refine blk_alloc ?_ _)); exact ar.out⟩, ⟨zho HB⟩⟩
                        ·rw [if_neg c56] at H
                         exact absurd H (by simp)
                       ·rw [if_neg c55] at H
                        exact absurd H (by simp)
                      ·rw [if_neg c54] at H
                       exact absurd H (by simp)
                     ·rw [if_neg c53] at H
                      have c53b0 : decide (au < aa) = false := decide_eq_false c53
                      clear c53
                      have H' := Aside0.mk H
                      clear H
                      go_wp2
                      go_roundg k5
                      case measure => have := HJ1.out; have := HK2.out; have := HJ11.out; have := HJ36.out; have := HK5.out; omega
                      case rel => exact ⟨(wrap64 (aa + 1)), ((pt 0 (pk7 ah ai ab ac ad ae af aa) (wrap64 ((pk7 aj ak al am an ao ap (pk7 ah ai ab ac ad ae af aa)) + 1)) aj)), ((pt 1 (pk7 ah ai ab ac ad ae af aa) (wrap64 ((pk7 aj ak al am an ao ap (pk7 ah ai ab ac ad ae af aa)) + 1)) ak)), ((pt 2 (pk7 ah ai ab ac ad ae af aa) (wrap64 ((pk7 aj ak al am an ao ap (pk7 ah ai ab ac ad ae af aa)) + 1)) al)), ((pt 3 (pk7 ah ai ab ac ad ae af aa) (wrap64 ((pk7 aj ak al am an ao ap (pk7 ah ai ab ac ad ae af aa)) + 1)) am)), ((pt 4 (pk7 ah ai ab ac ad ae af aa) (wrap64 ((pk7 aj ak al am an ao ap (pk7 ah ai ab ac ad ae af aa)) + 1)) an)), ((pt 5 (pk7 ah ai ab ac ad ae af aa) (wrap64 ((pk7 aj ak al am an ao ap (pk7 ah ai ab ac ad ae af aa)) + 1)) ao)), ((pt 6 (pk7 ah ai ab ac ad ae af aa) (wrap64 ((pk7 aj ak al am an ao ap (pk7 ah ai ab ac ad ae af aa)) + 1)) ap)), (by first | rfl | (simp; done) | (simp [*]; done)), H', ⟨by have := HJ1.out; have := HK2.out; have := HJ11.out; have := HJ36.out; have := HK5.out; omega⟩, ⟨by (with_reducible repeat (first | refine blk_drewN ?_ _ | refine blk_drew ?_ | refine blk_alloc ?_ _)); exact ag.out⟩, ⟨by (with_reducible repeat (first | refine blk_drewN ?_ _ | refine blk_drew ?_ | refine blk_alloc ?_ _)); exact bg.out⟩, ⟨zho HB⟩⟩
                  ·rw [if_neg c52] at H
                   exact absurd H (by simp)
                 ·rw [if_neg c51] at H
                  exact absurd H (by simp)
             ·rw [if_neg c36] at H
              exact absurd H (by simp)
            ·rw [if_neg c35] at H
             exact absurd H (by simp)
        ·rw [if_neg c11] at H
         have c11b0 : pk7 aZ ba aA aB aC aD aE aa = false := by simpa using c11
         clear c11
         by_cases c83 : ((pk7 aZ ba aA aB aC aD aE aa) || (!((pk7 aW aX av aw ax ay az aa) == 0) || (!((pk7 bb bd aG aI aK aM aO aa) == 0) || (!((pk7 ah ai ab ac ad ae af aa) == 0) || ((pk7 be aQ aR aS aT aU aV aa) || (!((pk7 bc aF aH aJ aL aN aP aa) == 0))))))) = true
         ·rw [if_pos c83] at H
          have c83b0 : ((pk7 aZ ba aA aB aC aD aE aa) || (!((pk7 aW aX av aw ax ay az aa) == 0) || (!((pk7 bb bd aG aI aK aM aO aa) == 0) || (!((pk7 ah ai ab ac ad ae af aa) == 0) || ((pk7 be aQ aR aS aT aU aV aa) || (!((pk7 bc aF aH aJ aL aN aP aa) == 0))))))) = true := c83
          (try (have c83b4 := c83b0; simp only [c11b0, Bool.false_or, Bool.true_or, Bool.false_and, Bool.true_and, Bool.not_false, Bool.not_true] at c83b4))
          clear c83
          obtain rfl := Option.some.inj H
          have vi104 := fun (W_ : World) => idxA25 aZ aW bb ah be bc ba aX bd ai aQ aF aA av aG ab aR aH aB aw aI ac aS aJ aC ax aK ad aT aL aD ay aM ae aU aN aE az aO af aV aP .i64 (aa) (of_decide_eq_true (by first | (with_reducible assumption) | assumption)) (of_decide_eq_true (by first | (with_reducible assumption) | assumption)) W_
          go_wp2_with (first | ((with_reducible refine gate_dst (N := 5) rfl ?_); refine box_event ?hg (N := 5) ?hd (cs := #[.bool false, .int .i64 0, .int .i64 0, .int .i64 0, .bool false, .int .i64 0]) (t := 24) ?hr ?_; (case hd => rfl); (case hg => rfl); (case hr => first | (go_simp; done) | (go_simp; rfl)); intro aY hg w84 hbox hb; have ar := Aside0.mk hbox; have kR := zhs HB hg; have bu := zhs HB hg; have bv := znl ag hg; have cv := zng ag hg; have bw := znl bg hg; have bG := zng bg hg; replace ag := zbB ag hb; replace bg := zbB bg hb; replace HB := zhB HB hb; clear hb hbox hg) | ((with_reducible refine gate_store (t := 24) (p := 5) rfl ?_); refine seg_event (t := 24) (p := 5) (x := ?xo_w85) (g := aY) (off := 0) (T := 24) (cur := #[.bool false, .int .i64 0, .int .i64 0, .int .i64 0, .bool false, .int .i64 0]) (vs := [.bool (pk7 aZ ba aA aB aC aD aE aa), .int .i64 (pk7 aW aX av aw ax ay az aa), .int .i64 (pk7 bb bd aG aI aK aM aO aa), .int .i64 (pk7 ah ai ab ac ad ae af aa), .bool (pk7 be aQ aR aS aT aU aV aa), .int .i64 (pk7 bc aF aH aJ aL aN aP aa)]) (new := #[.bool (pk7 aZ ba aA aB aC aD aE aa), .int .i64 (pk7 aW aX av aw ax ay az aa), .int .i64 (pk7 bb bd aG aI aK aM aO aa), .int .i64 (pk7 ah ai ab ac ad ae af aa), .bool (pk7 be aQ aR aS aT aU aV aa), .int .i64 (pk7 bc aF aH aJ aL aN aP aa)]) ?hg ?ho ?hn ?hp ?hv ?hb ?hi ?hf ?h1 ?hw ?_; (case ho => rfl); (case hg => rfl); (case hn => rfl); (case hp => rfl); (case hv => first | rfl | (go_simp; done) | (simp [*]; done)); (case hb => exact ar.out); (case hi => kernel_rfl); (case hf => exact Nat.le_of_ble_eq_true rfl); (case h1 => rfl); (case hw => rfl); intro w85 hbox hg hbl; replace ag := zbG ag hg bv; replace bg := zbG bg hg bw; replace ar := Aside0.mk hbox; replace HB := zhL hbl HB bu; clear hbox hg hbl; have hnb86 := cv.out; have hnc86 := bv.out; have hnb87 := bG.out; have hnc87 := bw.out; have hcz88_0 : w85.cell? ⟨aY, 0, none⟩ = some (.bool (pk7 aZ ba aA aB aC aD aE aa)) := (blk_cell ar.out 0).trans rfl; have hcz88_1 : w85.cell? ⟨aY, 1, none⟩ = some (.int .i64 (pk7 aW aX av aw ax ay az aa)) := (blk_cell ar.out 1).trans rfl; have hcz88_2 : w85.cell? ⟨aY, 2, none⟩ = some (.int .i64 (pk7 bb bd aG aI aK aM aO aa)) := (blk_cell ar.out 2).trans rfl; have hcz88_3 : w85.cell? ⟨aY, 3, none⟩ = some (.int .i64 (pk7 ah ai ab ac ad ae af aa)) := (blk_cell ar.out 3).trans rfl; have hcz88_4 : w85.cell? ⟨aY, 4, none⟩ = some (.bool (pk7 be aQ aR aS aT aU aV aa)) := (blk_cell ar.out 4).trans rfl; have hcz88_5 : w85.cell? ⟨aY, 5, none⟩ = some (.int .i64 (pk7 bc aF aH aJ aL aN aP aa)) := (blk_cell ar.out 5).trans rfl; have hfz88_0 := blk_frozen ar.out 0; have hfz88_1 := blk_frozen ar.out 1; have hfz88_2 := blk_frozen ar.out 2; have hfz88_3 := blk_frozen ar.out 3; have hfz88_4 := blk_frozen ar.out 4; have hfz88_5 := blk_frozen ar.out 5) | ((with_reducible refine gate_dst (N := 25) rfl ?_); refine seg_load_on (t := 24) (p := 5) (g := aY) (off := 0) (T := 24) (cur := #[.bool (pk7 aZ ba aA aB aC aD aE aa), .int .i64 (pk7 aW aX av aw ax ay az aa), .int .i64 (pk7 bb bd aG aI aK aM aO aa), .int .i64 (pk7 ah ai ab ac ad ae af aa), .bool (pk7 be aQ aR aS aT aU aV aa), .int .i64 (pk7 bc aF aH aJ aL aN aP aa)]) (vs := [.bool (pk7 aZ ba aA aB aC aD aE aa), .int .i64 (pk7 aW aX av aw ax ay az aa), .int .i64 (pk7 bb bd aG aI aK aM aO aa), .int .i64 (pk7 ah ai ab ac ad ae af aa), .bool (pk7 be aQ aR aS aT aU aV aa), .int .i64 (pk7 bc aF aH aJ aL aN aP aa)]) ?hg ?ho ?hp ?hb Try.underlying24 ?hd ?hi ?hw ?_; (case ho => rfl); (case hg => first | rfl | (go_simp; done) | (simp [Region.wanted, yielded, *]; done)); (case hp => rfl); (case hb => exact ar.out); (case hd => rfl); (case hi => kernel_rfl); (case hw => rfl)))
          go_ret
          exact ⟨by first | rfl | (simp [errW_none, errW_some] <;> rfl) | (simp [*, errW_none, errW_some] <;> rfl), zho HB⟩
         ·rw [if_neg c83] at H
          have c83b0 : ((pk7 aZ ba aA aB aC aD aE aa) || (!((pk7 aW aX av aw ax ay az aa) == 0) || (!((pk7 bb bd aG aI aK aM aO aa) == 0) || (!((pk7 ah ai ab ac ad ae af aa) == 0) || ((pk7 be aQ aR aS aT aU aV aa) || (!((pk7 bc aF aH aJ aL aN aP aa) == 0))))))) = false := by simpa using c83
          (try (have c83b4 := c83b0; simp only [c11b0, Bool.false_or, Bool.true_or, Bool.false_and, Bool.true_and, Bool.not_false, Bool.not_true] at c83b4))
          clear c83
          have H' := Aside0.mk H
          clear H
          have vi104 := fun (W_ : World) => idxA25 aZ aW bb ah be bc ba aX bd ai aQ aF aA av aG ab aR aH aB aw aI ac aS aJ aC ax aK ad aT aL aD ay aM ae aU aN aE az aO af aV aP .i64 (aa) (of_decide_eq_true (by first | (with_reducible assumption) | assumption)) (of_decide_eq_true (by first | (with_reducible assumption) | assumption)) W_
          go_wp2_with (first | ((with_reducible refine gate_dst (N := 5) rfl ?_); refine box_event ?hg (N := 5) ?hd (cs := #[.bool false, .int .i64 0, .int .i64 0, .int .i64 0, .bool false, .int .i64 0]) (t := 24) ?hr ?_; (case hd => rfl); (case hg => rfl); (case hr => first | (go_simp; done) | (go_simp; rfl)); intro aY hg w89 hbox hb; have ar := Aside0.mk hbox; have kR := zhs HB hg; have bu := zhs HB hg; have bv := znl ag hg; have cv := zng ag hg; have bw := znl bg hg; have bG := zng bg hg; replace ag := zbB ag hb; replace bg := zbB bg hb; replace HB := zhB HB hb; clear hb hbox hg) | ((with_reducible refine gate_store (t := 24) (p := 5) rfl ?_); refine seg_event (t := 24) (p := 5) (x := ?xo_w90) (g := aY) (off := 0) (T := 24) (cur := #[.bool false, .int .i64 0, .int .i64 0, .int .i64 0, .bool false, .int .i64 0]) (vs := [.bool (pk7 aZ ba aA aB aC aD aE aa), .int .i64 (pk7 aW aX av aw ax ay az aa), .int .i64 (pk7 bb bd aG aI aK aM aO aa), .int .i64 (pk7 ah ai ab ac ad ae af aa), .bool (pk7 be aQ aR aS aT aU aV aa), .int .i64 (pk7 bc aF aH aJ aL aN aP aa)]) (new := #[.bool (pk7 aZ ba aA aB aC aD aE aa), .int .i64 (pk7 aW aX av aw ax ay az aa), .int .i64 (pk7 bb bd aG aI aK aM aO aa), .int .i64 (pk7 ah ai ab ac ad ae af aa), .bool (pk7 be aQ aR aS aT aU aV aa), .int .i64 (pk7 bc aF aH aJ aL aN aP aa)]) ?hg ?ho ?hn ?hp ?hv ?hb ?hi ?hf ?h1 ?hw ?_; (case ho => rfl); (case hg => rfl); (case hn => rfl); (case hp => rfl); (case hv => first | rfl | (go_simp; done) | (simp [*]; done)); (case hb => exact ar.out); (case hi => kernel_rfl); (case hf => exact Nat.le_of_ble_eq_true rfl); (case h1 => rfl); (case hw => rfl); intro w90 hbox hg hbl; replace ag := zbG ag hg bv; replace bg := zbG bg hg bw; replace ar := Aside0.mk hbox; replace HB := zhL hbl HB bu; clear hbox hg hbl; have hnb91 := cv.out; have hnc91 := bv.out; have hnb92 := bG.out; have hnc92 := bw.out; have hcz93_0 : w90.cell? ⟨aY, 0, none⟩ = some (.bool (pk7 aZ ba aA aB aC aD aE aa)) := (blk_cell ar.out 0).trans rfl; have hcz93_1 : w90.cell? ⟨aY, 1, none⟩ = some (.int .i64 (pk7 aW aX av aw ax ay az aa)) := (blk_cell ar.out 1).trans rfl; have hcz93_2 : w90.cell? ⟨aY, 2, none⟩ = some (.int .i64 (pk7 bb bd aG aI aK aM aO aa)) := (blk_cell ar.out 2).trans rfl; have hcz93_3 : w90.cell? ⟨aY, 3, none⟩ = some (.int .i64 (pk7 ah ai ab ac ad ae af aa)) := (blk_cell ar.out 3).trans rfl; have hcz93_4 : w90.cell? ⟨aY, 4, none⟩ = some (.bool (pk7 be aQ aR aS aT aU aV aa)) := (blk_cell ar.out 4).trans rfl; have hcz93_5 : w90.cell? ⟨aY, 5, none⟩ = some (.int .i64 (pk7 bc aF aH aJ aL aN aP aa)) := (blk_cell ar.out 5).trans rfl; have hfz93_0 := blk_frozen ar.out 0; have hfz93_1 := blk_frozen ar.out 1; have hfz93_2 := blk_frozen ar.out 2; have hfz93_3 := blk_frozen ar.out 3; have hfz93_4 := blk_frozen ar.out 4; have hfz93_5 := blk_frozen ar.out 5) | ((with_reducible refine gate_dst (N := 25) rfl ?_); refine seg_load_on (t := 24) (p := 5) (g := aY) (off := 0) (T := 24) (cur := #[.bool (pk7 aZ ba aA aB aC aD aE aa), .int .i64 (pk7 aW aX av aw ax ay az aa), .int .i64 (pk7 bb bd aG aI aK aM aO aa), .int .i64 (pk7 ah ai ab ac ad ae af aa), .bool (pk7 be aQ aR aS aT aU aV aa), .int .i64 (pk7 bc aF aH aJ aL aN aP aa)]) (vs := [.bool (pk7 aZ ba aA aB aC aD aE aa), .int .i64 (pk7 aW aX av aw ax ay az aa), .int .i64 (pk7 bb bd aG aI aK aM aO aa), .int .i64 (pk7 ah ai ab ac ad ae af aa), .bool (pk7 be aQ aR aS aT aU aV aa), .int .i64 (pk7 bc aF aH aJ aL aN aP aa)]) ?hg ?ho ?hp ?hb Try.underlying24 ?hd ?hi ?hw ?_; (case ho => rfl); (case hg => first | rfl | (go_simp; done) | (simp [Region.wanted, yielded, *]; done)); (case hp => rfl); (case hb => exact ar.out); (case hd => rfl); (case hi => kernel_rfl); (case hw => rfl)))
          go_roundg k2
          case measure => have := HJ1.out; have := HK2.out; omega
          case rel => exact ⟨(wrap64 (aa + 1)), (aj), (ak), (al), (am), (an), (ao), (ap), (by first | rfl | (simp; done) | (simp [*]; done)), H', ⟨by have := HJ1.out; have := HK2.out; omega⟩, ⟨by (with_reducible repeat (first | refine blk_drewN ?_ _ | refine blk_drew ?_ | refine blk_alloc ?_ _)); exact ag.out⟩, ⟨by (with_reducible repeat (first | refine blk_drewN ?_ _ | refine blk_drew ?_ | refine blk_alloc ?_ _)); exact bg.out⟩, ⟨zho HB⟩⟩
       ·rw [if_neg c10] at H
        exact absurd H (by simp)
      ·rw [if_neg c9] at H
       have c9b0 : decide (aa < 7) = false := decide_eq_false c9
       clear c9
       obtain rfl := Option.some.inj H
       go_wp2
       go_ret
       exact ⟨by first | rfl | (simp [errW_none, errW_some] <;> rfl) | (simp [*, errW_none, errW_some] <;> rfl), zho HB⟩

end Go.Proofs.Ytjenkcgjpdappaa.P
