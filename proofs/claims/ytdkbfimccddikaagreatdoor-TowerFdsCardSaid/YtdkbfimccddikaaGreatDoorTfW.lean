/- What the tower's functions leave behind, call by call: states, and rows that lead from one to another. No conditions. -/
import Derived.Test.YtdkbfimccddikaaGreatDoorUJ
namespace Go.Proofs.YtdkbfimccddikaaGreatDoor
open Go.VM
noncomputable section
open Go.VM.D8 (d0 d1 d2 d3 d4 d5 d6 d7)
abbrev KQ:=Key.mk
def tys:List Nat:=[117, 211, 321, 311, 327, 389]
def k0:=KQ d0 d0 d0 d0 d1
def k1:=KQ d1 d0 d0 d0 d1
def k2:=KQ d2 d0 d0 d0 d1
def k3:=KQ d3 d0 d0 d0 d1
def k4:=KQ d4 d0 d0 d0 d1
def k5:=KQ d5 d0 d0 d0 d1
def k6:=KQ d6 d0 d0 d0 d1
def k7:=KQ d7 d0 d0 d0 d1
def k8:=KQ d0 d1 d0 d0 d1
def k9:=KQ d1 d1 d0 d0 d1
def ka:=KQ d2 d1 d0 d0 d1
def kb:=KQ d3 d1 d0 d0 d1
def kc:=KQ d4 d1 d0 d0 d1
def kd:=KQ d5 d1 d0 d0 d1
def ke:=KQ d6 d1 d0 d0 d1
def kf:=KQ d7 d1 d0 d0 d1
def kg:=KQ d0 d2 d0 d0 d1
def kh:=KQ d1 d2 d0 d0 d1
def ki:=KQ d2 d2 d0 d0 d1
def kj:=KQ d3 d2 d0 d0 d1
def kk:=KQ d4 d2 d0 d0 d1
def kl:=KQ d5 d2 d0 d0 d1
def km:=KQ d6 d2 d0 d0 d1
def kn:=KQ d7 d2 d0 d0 d1
def ko:=KQ d0 d3 d0 d0 d1
def kp:=KQ d1 d3 d0 d0 d1
def kq:=KQ d2 d3 d0 d0 d1
def kr:=KQ d3 d3 d0 d0 d1
def ks:=KQ d4 d3 d0 d0 d1
def kt:=KQ d5 d3 d0 d0 d1
def ku:=KQ d6 d3 d0 d0 d1
def kv:=KQ d7 d3 d0 d0 d1
def kw:=KQ d0 d4 d0 d0 d1
def kx:=KQ d1 d4 d0 d0 d1
def ky:=KQ d2 d4 d0 d0 d1
def kz:=KQ d3 d4 d0 d0 d1
def k10:=KQ d4 d4 d0 d0 d1
def k11:=KQ d5 d4 d0 d0 d1
def k12:=KQ d6 d4 d0 d0 d1
def k13:=KQ d7 d4 d0 d0 d1
def k14:=KQ d0 d5 d0 d0 d1
def k15:=KQ d1 d5 d0 d0 d1
def k16:=KQ d2 d5 d0 d0 d1
def k17:=KQ d3 d5 d0 d0 d1
def k18:=KQ d4 d5 d0 d0 d1
def k19:=KQ d5 d5 d0 d0 d1
def k1a:=KQ d6 d5 d0 d0 d1
def k1b:=KQ d7 d5 d0 d0 d1
def k1c:=KQ d0 d6 d0 d0 d1
def k1d:=KQ d1 d6 d0 d0 d1
def k1e:=KQ d2 d6 d0 d0 d1
def k1f:=KQ d3 d6 d0 d0 d1
def k1g:=KQ d4 d6 d0 d0 d1
def k1h:=KQ d5 d6 d0 d0 d1
def k1i:=KQ d6 d6 d0 d0 d1
def k1j:=KQ d7 d6 d0 d0 d1
def k1k:=KQ d0 d7 d0 d0 d1
def k1l:=KQ d1 d7 d0 d0 d1
def k1m:=KQ d2 d7 d0 d0 d1
def k1n:=KQ d3 d7 d0 d0 d1
def k1o:=KQ d4 d7 d0 d0 d1
def k1p:=KQ d5 d7 d0 d0 d1
def k1q:=KQ d6 d7 d0 d0 d1
def k1r:=KQ d7 d7 d0 d0 d1
def k1s:=KQ d0 d0 d1 d0 d1
def k1t:=KQ d1 d0 d1 d0 d1
def k1u:=KQ d2 d0 d1 d0 d1
def k1v:=KQ d3 d0 d1 d0 d1
def k1w:=KQ d4 d0 d1 d0 d1
def k1x:=KQ d5 d0 d1 d0 d1
def k1y:=KQ d6 d0 d1 d0 d1
def k1z:=KQ d7 d0 d1 d0 d1
def k20:=KQ d0 d1 d1 d0 d1
def k21:=KQ d1 d1 d1 d0 d1
def k22:=KQ d2 d1 d1 d0 d1
def k23:=KQ d3 d1 d1 d0 d1
def k24:=KQ d4 d1 d1 d0 d1
def k25:=KQ d5 d1 d1 d0 d1
def k26:=KQ d6 d1 d1 d0 d1
def k27:=KQ d7 d1 d1 d0 d1
def k28:=KQ d0 d2 d1 d0 d1
def k29:=KQ d1 d2 d1 d0 d1
def k2a:=KQ d2 d2 d1 d0 d1
def k2b:=KQ d3 d2 d1 d0 d1
def k2c:=KQ d4 d2 d1 d0 d1
def k2d:=KQ d5 d2 d1 d0 d1
def k2e:=KQ d6 d2 d1 d0 d1
def k2f:=KQ d7 d2 d1 d0 d1
def k2g:=KQ d0 d3 d1 d0 d1
def k2h:=KQ d1 d3 d1 d0 d1
def k2i:=KQ d2 d3 d1 d0 d1
def k2j:=KQ d3 d3 d1 d0 d1
def k2k:=KQ d4 d3 d1 d0 d1
def k2l:=KQ d5 d3 d1 d0 d1
def k2m:=KQ d6 d3 d1 d0 d1
def k2n:=KQ d7 d3 d1 d0 d1
def k2o:=KQ d0 d4 d1 d0 d1
def k2p:=KQ d1 d4 d1 d0 d1
def k2q:=KQ d2 d4 d1 d0 d1
def k2r:=KQ d3 d4 d1 d0 d1
def k2s:=KQ d4 d4 d1 d0 d1
def k2t:=KQ d5 d4 d1 d0 d1
def k2u:=KQ d6 d4 d1 d0 d1
def k2v:=KQ d7 d4 d1 d0 d1
def k2w:=KQ d0 d5 d1 d0 d1
def k2x:=KQ d1 d5 d1 d0 d1
def k2y:=KQ d2 d5 d1 d0 d1
def k2z:=KQ d3 d5 d1 d0 d1
def k30:=KQ d4 d5 d1 d0 d1
def k31:=KQ d5 d5 d1 d0 d1
def k32:=KQ d6 d5 d1 d0 d1
def cl (i o:Int) (p q:AV) (f g n m:Int) (d:AV):List AV:=[.ptr k0 0,.agg [.int .i64 6,.str 0 0,.str 0 0,.str 0 0,.nilSlice,.int .i64 i,.int .i64 o,p,q,.int .i64 f,.int .i64 g,.int .i64 n,.int .i64 m,d]]
def an (s n k m:Int) (d ns:AV):AV:=.tup [.agg [.int .i64 0,.int .i64 0,.int .i64 0,.str 0 0,.nilSlice,.nilSlice,.int .i64 s,.int .i64 n,.int .i64 k,.int .i64 m,d,ns,.int .i64 0,.int .i64 0],.int .i64 0]
def nDm (o : AObj) : Bool := match o with
  | .dom _ => false
  | _ => true
def tRd (S S' : RT AObj) (n : Key) : MRow :=
  (fun L : List (Key × AObj) => MRow.mk [.ptr n 0] (lr S [.ptr n 0]) (.ptr (shK n) 0) (rnP (shL L RT.nil) L)) (lrN S' nDm 100000 [n] RT.nil)
def cRd (ts : List Nat) (t : Key) (S S' : RT AObj) (n : Key) : MRow :=
  (fun S : RT AObj => (fun cp : List (Key × AObj) => MRow.mk [.ptr n 0] (lr S [.ptr n 0]) (.ptr (shK n) 0) (rnP (shL cp RT.nil) cp)) (lrN (S'.set .dead t) (isCp ts) 100000 [n] RT.nil)) (S.set .dead t)
def S0 (x0 x1:Key) (y0 y1:AV):Key × AObj:=(x0,.cells 88 [.slice x1 0 4194304 (.is 4194304),.bool false,.bool false,y0,y1] false 0)
def S1 (x0 x1 x2 x3 x4:Key) (y0 y1:AV):Key × AObj:=(x0,.cells 174 [.ptr x1 0,.ptr x2 0,.ptr x3 0,y0,.nilPtr,.nilPtr,.nilPtr,.nilPtr,.nilPtr,.nilPtr,.nilPtr,.nilPtr,.slice x4 0 16384 (.is 16384),y1,.bool false] false 0)
def S2 (x0:Key):Key × AObj:=(x0,.map [] 0)
def S3 (x0:Key) (y0:AV):Key × AObj:=(x0,.cells 3 [y0] true 0)
def S4 (x0:Key):Key × AObj:=(x0,.cells 278 [.ustr 256,.bool false,.int .i64 0,.bool true] false 0)
def S5 (x0 x1 x2 x3 x4 x5 x6 x7:Key) (y0:AV):Key × AObj:=(x0,.cells 66 [.ptr x1 0,.ptr x2 0,.ptr x3 0,.ptr x4 0,.map x5,.map x6,y0,.bool false,.slice x7 0 1 (.more 5)] false 0)
def S6 (x0 x1 x2:Key):Key × AObj:=(x0,.cells 141 [.slice x1 0 1 (.more 4),.slice x2 0 1 (.more 4)] true 0)
def S7 (x0 x1:Key) (y0 y1 y2:AV):Key × AObj:=(x0,.cells 143 [.slice x1 0 1 (.more 4),y0,y1,y2,.nilSlice] false 0)
def S8 (x0:Key):Key × AObj:=(x0,.cells 195 [.str 1 100,.int .i64 1,.int .i64 493,.str 0 0] true 0)
def S9 (x0:Key):Key × AObj:=(x0,.cells 195 [.str 1 100,.int .i64 4,.int .i64 0,.str 0 0] true 0)
def Sa (x0:Key):Key × AObj:=(x0,.cells 278 [.ustr 256,.bool false,.int .i64 0,.bool false] false 0)
def Sb (x0 x1 x2:Key) (y0 y1 y2 y3 y4 y5 y6:AV):Key × AObj:=(x0,.cells 273 [y0,y1,y2,.ptr x1 0,y3,.nilMap,.nilSlice,.nilSlice,.slice x2 0 1 (.is 1),y4,y5,y6] false 0)
def Sc (x0:Key) (y0:AV):Key × AObj:=(x0,.cells 3 [y0] false 0)
def Sd (x0:Key):Key × AObj:=(x0,.cells 3 [.int .i64 50] false 0)
def Se (x0:Key):Key × AObj:=(x0,.cells 3 [.int .i64 52] false 0)
def Sf (x0 x1:Key) (y0 y1 y2 y3:AV):Key × AObj:=(x0,.cells 389 [y0,y1,y2,.map x1,.nilPtr,y3] false 0)
def Sg (x0:Key):Key × AObj:=(x0,.lmap [])
def Sh (x0:Key):Key × AObj:=(x0,.cells 3 [.int .i64 51] false 0)
def Si (x0:Key) (y0 y1 y2 y3 y4 y5:AV):Key × AObj:=(x0,.map [(y0,.agg [y1,y2],0),(y3,.agg [y4,y5],1)] 2)
def Sj (x0 x1 x2:Key) (y0 y1:AV):Key × AObj:=(x0,.lmap [(y0,.ptr x1 0),(y1,.ptr x2 0)])
def Sk (x0 x1 x2:Key):Key × AObj:=(x0,.cells 273 [.int .i64 2,.int .i64 63,.str 5 435744240755,.ptr x1 0,.int .i64 2,.nilMap,.nilSlice,.nilSlice,.slice x2 0 1 (.is 1),.int .i64 0,.int .i64 0,.int .i64 0] false 0)
def Sl (x0:Key):Key × AObj:=(x0,.bits 4 16384 42784196460019711)
def Sm (x0 x1 x2 x3 x4 x5:Key):Key × AObj:=(x0,.cells 169 [.ptr x1 0,.ptr x2 0,.ptr x3 0,.ptr x4 0,.ptr x5 0] true 0)
def Sn (x0 x1 x2:Key):Key × AObj:=(x0,.cells 273 [.int .i64 2,.int .i64 63,.str 5 435744240755,.ptr x1 0,.int .i64 0,.nilMap,.nilSlice,.nilSlice,.slice x2 0 1 (.is 1),.int .i64 0,.int .i64 0,.int .i64 0] false 0)
def So (x0:Key):Key × AObj:=(x0,.cells 3 [.int .i64 55] false 0)
def Sp (x0 x1 x2:Key):Key × AObj:=(x0,.cells 327 [.ptr x1 0,.ptr x2 0,.nilPtr,.nilPtr,.nilPtr,.nilPtr,.nilPtr,.nilPtr,.nilPtr,.nilPtr,.int .i64 1] false 0)
def Sq (x0 x1:Key) (y0:AV):Key × AObj:=(x0,.lmap [(y0,.ptr x1 0)])
def Sr (x0 x1 x2:Key) (y0 y1 y2 y3:AV):Key × AObj:=(x0,.cells 389 [y0,y1,y2,.map x1,.ptr x2 0,y3] false 0)
def Ss (x0:Key):Key × AObj:=(x0,.cells 3 [.int .i64 54] false 0)
def St (x0 x1 x2:Key):Key × AObj:=(x0,.cells 273 [.int .i64 2,.int .i64 63,.str 5 435744240755,.ptr x1 0,.int .i64 1,.nilMap,.nilSlice,.nilSlice,.slice x2 0 1 (.is 1),.int .i64 0,.int .i64 0,.int .i64 0] false 0)
def Su (x0 x1 x2 x3:Key) (y0:AV):Key × AObj:=(x0,.cells 327 [.ptr x1 0,.ptr x2 0,.ptr x3 0,.nilPtr,.nilPtr,.nilPtr,.nilPtr,.nilPtr,.nilPtr,.nilPtr,y0] false 0)
def Sv (x0 x1 x2:Key):Key × AObj:=(x0,.cells 327 [.ptr x1 0,.ptr x2 0,.nilPtr,.nilPtr,.nilPtr,.nilPtr,.nilPtr,.nilPtr,.nilPtr,.nilPtr,.int .i64 2] false 0)
def Sw (x0:Key):Key × AObj:=(x0,.bits 4 16384 25895697857380351)
def Sx (x0 x1 x2 x3 x4 x5 x6 x7:Key):Key × AObj:=(x0,.cells 66 [.ptr x1 0,.ptr x2 0,.ptr x3 0,.ptr x4 0,.map x5,.map x6,.int .i64 9,.bool false,.slice x7 0 1 (.more 5)] false 0)
def Sy (x0 x1:Key):Key × AObj:=(x0,.cells 88 [.slice x1 0 4194304 (.is 4194304),.bool false,.bool false,.int .i64 (-342),.int .i64 342] false 0)
def Sz (x0:Key):Key × AObj:=(x0,.map [] 103)
def S10 (x0 x1 x2 x3:Key) (y0 y1 y2:AV):Key × AObj:=(x0,.map [(y0,.ptr x1 0,23),(y1,.ptr x2 0,26),(y2,.ptr x3 0,28)] 29)
def S11 (x0 x1 x2:Key):Key × AObj:=(x0,.cells 327 [.ptr x1 0,.ptr x2 0,.nilPtr,.nilPtr,.nilPtr,.nilPtr,.nilPtr,.nilPtr,.nilPtr,.nilPtr,.int .i64 3] false 0)
def S12 (x0 x1 x2 x3:Key):Key × AObj:=(x0,.lmap [(.str 2 13167,.ptr x1 0),(.str 2 13935,.ptr x2 0),(.str 2 14703,.ptr x3 0)])
def S13 (x0 x1 x2:Key):Key × AObj:=(x0,.cells 389 [.int .i64 1,.int .i64 0,.str 0 0,.map x1,.ptr x2 0,.str 2 14703] false 0)
def S14 (x0 x1 x2 x3 x4 x5 x6 x7:Key):Key × AObj:=(x0,.cells 66 [.ptr x1 0,.ptr x2 0,.ptr x3 0,.ptr x4 0,.map x5,.map x6,.int .i64 10,.bool false,.slice x7 0 1 (.more 5)] false 0)
def S15 (x0 x1:Key):Key × AObj:=(x0,.cells 88 [.slice x1 0 4194304 (.is 4194304),.bool false,.bool false,.int .i64 (-372),.int .i64 372] false 0)
def S16 (x0:Key):Key × AObj:=(x0,.map [] 112)
def S17 (x0 x1 x2:Key):Key × AObj:=(x0,.cells 327 [.ptr x1 0,.ptr x2 0,.nilPtr,.nilPtr,.nilPtr,.nilPtr,.nilPtr,.nilPtr,.nilPtr,.nilPtr,.int .i64 4] false 0)
def S18 (x0 x1 x2 x3 x4:Key):Key × AObj:=(x0,.lmap [(.str 2 13167,.ptr x1 0),(.str 2 13935,.ptr x2 0),(.str 2 14703,.ptr x3 0),(.str 3 3289455,.ptr x4 0)])
def S19 (x0 x1 x2:Key):Key × AObj:=(x0,.cells 389 [.int .i64 1,.int .i64 0,.str 0 0,.map x1,.ptr x2 0,.str 3 3289455] false 0)
def S1a (x0 x1 x2 x3 x4 x5 x6 x7:Key):Key × AObj:=(x0,.cells 66 [.ptr x1 0,.ptr x2 0,.ptr x3 0,.ptr x4 0,.map x5,.map x6,.int .i64 11,.bool false,.slice x7 0 1 (.more 5)] false 0)
def S1b (x0 x1:Key):Key × AObj:=(x0,.cells 88 [.slice x1 0 4194304 (.is 4194304),.bool false,.bool false,.int .i64 (-402),.int .i64 402] false 0)
def S1c (x0:Key):Key × AObj:=(x0,.map [] 121)
def S1d (x0 x1 x2:Key):Key × AObj:=(x0,.cells 327 [.ptr x1 0,.ptr x2 0,.nilPtr,.nilPtr,.nilPtr,.nilPtr,.nilPtr,.nilPtr,.nilPtr,.nilPtr,.int .i64 5] false 0)
def S1e (x0 x1 x2 x3 x4 x5:Key):Key × AObj:=(x0,.lmap [(.str 2 13167,.ptr x1 0),(.str 2 13935,.ptr x2 0),(.str 2 14703,.ptr x3 0),(.str 3 3289455,.ptr x4 0),(.str 3 3486063,.ptr x5 0)])
def S1f (x0 x1 x2:Key):Key × AObj:=(x0,.cells 389 [.int .i64 1,.int .i64 0,.str 0 0,.map x1,.ptr x2 0,.str 3 3486063] false 0)
def S1g (x0 x1 x2 x3 x4 x5 x6 x7:Key):Key × AObj:=(x0,.cells 66 [.ptr x1 0,.ptr x2 0,.ptr x3 0,.ptr x4 0,.map x5,.map x6,.int .i64 12,.bool false,.slice x7 0 1 (.more 5)] false 0)
def S1h (x0 x1:Key):Key × AObj:=(x0,.cells 88 [.slice x1 0 4194304 (.is 4194304),.bool false,.bool false,.int .i64 (-432),.int .i64 432] false 0)
def S1i (x0:Key):Key × AObj:=(x0,.map [] 130)
def S1j (x0 x1 x2:Key):Key × AObj:=(x0,.cells 327 [.ptr x1 0,.ptr x2 0,.nilPtr,.nilPtr,.nilPtr,.nilPtr,.nilPtr,.nilPtr,.nilPtr,.nilPtr,.int .i64 6] false 0)
def S1k (x0 x1 x2 x3 x4 x5 x6:Key):Key × AObj:=(x0,.lmap [(.str 2 13167,.ptr x1 0),(.str 2 13935,.ptr x2 0),(.str 2 14703,.ptr x3 0),(.str 3 3289455,.ptr x4 0),(.str 3 3486063,.ptr x5 0),(.str 3 3682671,.ptr x6 0)])
def S1l (x0 x1 x2:Key):Key × AObj:=(x0,.cells 389 [.int .i64 1,.int .i64 0,.str 0 0,.map x1,.ptr x2 0,.str 3 3682671] false 0)
def S1m (x0 x1 x2 x3 x4 x5 x6 x7:Key):Key × AObj:=(x0,.cells 66 [.ptr x1 0,.ptr x2 0,.ptr x3 0,.ptr x4 0,.map x5,.map x6,.int .i64 13,.bool false,.slice x7 0 1 (.more 5)] false 0)
def S1n (x0 x1:Key):Key × AObj:=(x0,.cells 88 [.slice x1 0 4194304 (.is 4194304),.bool false,.bool false,.int .i64 (-462),.int .i64 462] false 0)
def S1o (x0:Key):Key × AObj:=(x0,.map [] 139)
def S1p (x0 x1 x2:Key):Key × AObj:=(x0,.cells 327 [.ptr x1 0,.ptr x2 0,.nilPtr,.nilPtr,.nilPtr,.nilPtr,.nilPtr,.nilPtr,.nilPtr,.nilPtr,.int .i64 7] false 0)
def S1q (x0 x1 x2 x3 x4 x5 x6 x7:Key):Key × AObj:=(x0,.lmap [(.str 2 13167,.ptr x1 0),(.str 2 13935,.ptr x2 0),(.str 2 14703,.ptr x3 0),(.str 3 3224175,.ptr x4 0),(.str 3 3289455,.ptr x5 0),(.str 3 3486063,.ptr x6 0),(.str 3 3682671,.ptr x7 0)])
def S1r (x0 x1 x2:Key):Key × AObj:=(x0,.cells 389 [.int .i64 1,.int .i64 0,.str 0 0,.map x1,.ptr x2 0,.str 3 3224175] false 0)
def S1s (x0 x1 x2 x3 x4 x5 x6 x7:Key):Key × AObj:=(x0,.cells 66 [.ptr x1 0,.ptr x2 0,.ptr x3 0,.ptr x4 0,.map x5,.map x6,.int .i64 14,.bool false,.slice x7 0 1 (.more 5)] false 0)
def S1t (x0 x1:Key):Key × AObj:=(x0,.cells 88 [.slice x1 0 4194304 (.is 4194304),.bool false,.bool false,.int .i64 (-492),.int .i64 492] false 0)
def S1u (x0:Key):Key × AObj:=(x0,.map [] 148)
def S1v (x0 x1 x2:Key):Key × AObj:=(x0,.cells 327 [.ptr x1 0,.ptr x2 0,.nilPtr,.nilPtr,.nilPtr,.nilPtr,.nilPtr,.nilPtr,.nilPtr,.nilPtr,.int .i64 8] false 0)
def S1w (x0 x1 x2 x3 x4 x5 x6 x7 x8:Key):Key × AObj:=(x0,.lmap [(.str 2 13167,.ptr x1 0),(.str 2 13935,.ptr x2 0),(.str 2 14703,.ptr x3 0),(.str 3 3224175,.ptr x4 0),(.str 3 3289455,.ptr x5 0),(.str 3 3420783,.ptr x6 0),(.str 3 3486063,.ptr x7 0),(.str 3 3682671,.ptr x8 0)])
def S1x (x0 x1 x2:Key):Key × AObj:=(x0,.cells 389 [.int .i64 1,.int .i64 0,.str 0 0,.map x1,.ptr x2 0,.str 3 3420783] false 0)
def S1y (x0:Key):Key × AObj:=(x0,.map [(.int .i64 1,.agg [.str 12 14909942882012283808127726898,.int .i64 9],0),(.int .i64 2,.agg [.str 12 14909942882012283808127726898,.int .i64 11],1)] 2)
def S1z (x0 x1 x2 x3:Key):Key × AObj:=(x0,.map [(.str 6 52970790924661,.ptr x1 0,26),(.str 7 13560488183804533,.ptr x2 0,32),(.str 5 435744240755,.ptr x3 0,34)] 35)
def S20 (x0 x1 x2:Key):Key × AObj:=(x0,.cells 273 [.int .i64 2,.int .i64 40,.str 7 13560488183804533,.ptr x1 0,.int .i64 1,.nilMap,.nilSlice,.nilSlice,.slice x2 0 1 (.is 1),.int .i64 0,.int .i64 0,.int .i64 0] false 0)
def S21 (x0:Key):Key × AObj:=(x0,.map [(.int .i64 1,.agg [.str 12 14909942882012283808127726898,.int .i64 9],0),(.int .i64 2,.agg [.str 12 14909942882012283808127726898,.int .i64 12],1)] 2)
def S22 (x0 x1 x2 x3:Key):Key × AObj:=(x0,.map [(.str 6 52970790924661,.ptr x1 0,26),(.str 7 13560492478771829,.ptr x2 0,35),(.str 5 435744240755,.ptr x3 0,37)] 38)
def S23 (x0 x1 x2:Key):Key × AObj:=(x0,.cells 273 [.int .i64 2,.int .i64 50,.str 7 13560492478771829,.ptr x1 0,.int .i64 0,.nilMap,.nilSlice,.nilSlice,.slice x2 0 1 (.is 1),.int .i64 0,.int .i64 0,.int .i64 0] false 0)
def S24 (x0 x1 x2 x3 x4 x5 x6 x7 x8 x9:Key):Key × AObj:=(x0,.cells 327 [.ptr x1 0,.ptr x2 0,.nilPtr,.ptr x3 0,.ptr x4 0,.ptr x5 0,.ptr x6 0,.ptr x7 0,.ptr x8 0,.ptr x9 0,.int .i64 2] false 0)
def S25 (x0:Key):Key × AObj:=(x0,.map [(.int .i64 1,.agg [.str 12 14909942882012283808127726898,.int .i64 9],0),(.int .i64 2,.agg [.str 12 14909942882012283808127726898,.int .i64 13],1)] 2)
def S26 (x0 x1 x2 x3:Key):Key × AObj:=(x0,.map [(.str 6 52970790924661,.ptr x1 0,26),(.str 7 13560496773739125,.ptr x2 0,38),(.str 5 435744240755,.ptr x3 0,40)] 41)
def S27 (x0 x1 x2:Key):Key × AObj:=(x0,.cells 273 [.int .i64 2,.int .i64 60,.str 7 13560496773739125,.ptr x1 0,.int .i64 1,.nilMap,.nilSlice,.nilSlice,.slice x2 0 1 (.is 1),.int .i64 0,.int .i64 0,.int .i64 0] false 0)
def S28 (x0:Key):Key × AObj:=(x0,.map [(.int .i64 1,.agg [.str 12 14909942882012283808127726898,.int .i64 9],0),(.int .i64 2,.agg [.str 12 14909942882012283808127726898,.int .i64 14],1)] 2)
def S29 (x0 x1 x2 x3:Key):Key × AObj:=(x0,.map [(.str 6 52970790924661,.ptr x1 0,26),(.str 7 13560501068706421,.ptr x2 0,41),(.str 5 435744240755,.ptr x3 0,43)] 44)
def S2a (x0 x1 x2:Key):Key × AObj:=(x0,.cells 273 [.int .i64 2,.int .i64 70,.str 7 13560501068706421,.ptr x1 0,.int .i64 0,.nilMap,.nilSlice,.nilSlice,.slice x2 0 1 (.is 1),.int .i64 0,.int .i64 0,.int .i64 0] false 0)
def Z0:List AV:=cl 1 16 (.str 0 0) (.str 0 0) 0 3 0 0 (.str 1 100)
def Z1:List AV:=cl 2 6 (.str 2 13935) (.str 0 0) 0 0 0 0 (.str 0 0)
def Z2:List AV:=cl 1 15 (.str 0 0) (.str 0 0) 0 0 9 0 (.str 0 0)
def Z3:List AV:=cl 1 5 (.str 1 104) (.str 0 0) 0 0 0 420 (.str 6 127978876068212)
def Z4:List AV:=cl 1 17 (.str 0 0) (.str 0 0) 0 0 0 0 (.str 0 0)
def Z5:List AV:=cl 2 6 (.str 2 14703) (.str 0 0) 0 0 0 0 (.str 0 0)
def Z6:List AV:=cl 1 17 (.str 0 0) (.str 0 0) 99 0 0 0 (.str 0 0)
def Z7:List AV:=cl 1 14 (.str 1 104) (.str 0 0) 0 0 0 0 (.str 0 0)
def Z8:List AV:=cl 2 6 (.str 3 3289455) (.str 0 0) 0 0 0 0 (.str 0 0)
def Z9:List AV:=cl 2 6 (.str 3 3486063) (.str 0 0) 0 0 0 0 (.str 0 0)
def Za:List AV:=cl 2 6 (.str 3 3682671) (.str 0 0) 0 0 0 0 (.str 0 0)
def Zb:List AV:=cl 2 6 (.str 3 3224175) (.str 0 0) 0 0 0 0 (.str 0 0)
def Zc:List AV:=cl 2 6 (.str 3 3420783) (.str 0 0) 0 0 0 0 (.str 0 0)
def Zd:AV:=an 0 0 0 0 (.str 0 0) .nilSlice
def Ze:AV:=an 0 3 0 0 (.str 0 0) .nilSlice
def Zf:AV:=an 0 1 0 0 (.str 0 0) .nilSlice
def Zg:AV:=an 0 4 0 0 (.str 4 1684234849) .nilSlice
def Zh:AV:=an 12 0 0 0 (.str 0 0) .nilSlice
def Zi:AV:=an 0 2 0 0 (.str 0 0) .nilSlice
def Zj:AV:=an 0 4 0 0 (.str 0 0) .nilSlice
def Zk:AV:=an 0 5 0 0 (.str 0 0) .nilSlice
def Zl:AV:=an 0 6 0 0 (.str 0 0) .nilSlice
def Zm:AV:=an 0 7 0 0 (.str 0 0) .nilSlice
def Zn:AV:=an 10 0 0 0 (.str 0 0) .nilSlice
def Zo:List (Key × AObj):=[(ke,.dead),(k2f,.dead),(k1i,.dead)]
def Zp:List (Key × AObj):=[(ke,.dead),(k2b,.dead)]
def Zq:List (Key × AObj):=[(ke,.dead),(k2a,.dead),(k1i,.dead),(k2b,.dead)]
def Zr:List (Key × AObj):=[(ke,.dead),(k1x,.dead),(k1i,.dead),(k2b,.dead)]
def Zs:List (Key × AObj):=[(ke,.dead),(k1y,.dead),(k2b,.dead)]
def Zt:List (Key × AObj):=[(ke,.dead),(k2a,.dead),(k1i,.dead),(k1y,.dead),(k2b,.dead)]
def Zu:List (Key × AObj):=[(ke,.dead),(k1x,.dead),(k1i,.dead),(k1y,.dead),(k2b,.dead)]
def Zv:List Key:=[k5,k6,k1i,k1l]
def Zw:List Key:=[k2a,k2c,k0,k1,ka,km,ku,k1e]
def Zx:List Key:=[k1x,k1z,k0,k1,ka,km,ku,k1e]
def Zy:Key × AObj:=Sh k1z
def Zz:Key × AObj:=Sk k1i kr k1l
def Z10:Key × AObj:=Sd k2c
def Z11:Key × AObj:=Sm k1e k1i k2a k2f k1i k1i
def Z12:Key × AObj:=Sn k1i kr k1l
def Z13:Key × AObj:=So k1l
def Z14:Key × AObj:=Sm k1e k1x k2a k1i k1i k1i
def Z15:Key × AObj:=Ss k1l
def Z16:Key × AObj:=Sm k1e k1x k1i k2f k1i k1i
def Z17:Key × AObj:=St k1i kr k1l
def Z18:Key × AObj:=Su k1r k1u k1u k2h (.int .i64 1)
def Z19:Key × AObj:=S5 k0 k1 k2 k3 k4 k5 k6 kv (.int .i64 6)
def Z1a:Key × AObj:=S0 k1 k7 (.int .i64 (-252)) (.int .i64 252)
def Z1b:Key × AObj:=Si k6 (.int .i64 1) (.str 12 14909942882012283808127726898) (.int .i64 6) (.int .i64 2) (.str 12 14909942882012283808127726898) (.int .i64 5)
def Z1c:Key × AObj:=S5 k0 k1 k2 k3 k4 k5 k6 kv (.int .i64 7)
def Z1d:Key × AObj:=S0 k1 k7 (.int .i64 (-282)) (.int .i64 282)
def Z1e:Key × AObj:=Sj k2b k2j k2l (.str 2 13167) (.str 2 13935)
def Z1f:Key × AObj:=Sr k2l k2m k27 (.int .i64 1) (.int .i64 0) (.str 0 0) (.str 2 13935)
def Z1g:Key × AObj:=S5 k0 k1 k2 k3 k4 k5 k6 kv (.int .i64 8)
def Z1h:Key × AObj:=S0 k1 k7 (.int .i64 (-312)) (.int .i64 312)
def Z1i:Key × AObj:=Sx k0 k1 k2 k3 k4 k5 k6 kv
def Z1j:Key × AObj:=S11 k24 k27 k27
def Z1k:Key × AObj:=S14 k0 k1 k2 k3 k4 k5 k6 kv
def Z1l:Key × AObj:=Si k6 (.int .i64 1) (.str 12 14909942882012283808127726898) (.int .i64 8) (.int .i64 2) (.str 12 14909942882012283808127726898) (.int .i64 10)
def Z1m:Key × AObj:=Sb k1x kr k1z (.int .i64 2) (.int .i64 40) (.str 7 13560483888837237) (.int .i64 0) (.int .i64 0) (.int .i64 0) (.int .i64 0)
def Z1n:Key × AObj:=S17 k24 k27 k27
def Z1o:Key × AObj:=S18 k2b k2j k2l k2p k2r
def Z1p:Key × AObj:=S1a k0 k1 k2 k3 k4 k5 k6 kv
def Z1q:Key × AObj:=S1b k1 k7
def Z1r:Key × AObj:=Si k6 (.int .i64 1) (.str 12 14909942882012283808127726898) (.int .i64 8) (.int .i64 2) (.str 12 14909942882012283808127726898) (.int .i64 11)
def Z1s:Key × AObj:=S1d k24 k27 k27
def Z1t:Key × AObj:=Sb k2a kr k2c (.int .i64 2) (.int .i64 50) (.str 7 13560488183804533) (.int .i64 1) (.int .i64 0) (.int .i64 0) (.int .i64 0)
def Z1u:Key × AObj:=S1e k2b k2j k2l k2p k2r k2t
def Z1v:Key × AObj:=S1g k0 k1 k2 k3 k4 k5 k6 kv
def Z1w:Key × AObj:=S1h k1 k7
def Z1x:Key × AObj:=S1j k24 k27 k27
def Z1y:Key × AObj:=S1k k2b k2j k2l k2p k2r k2t k2v
def Z1z:Key × AObj:=S1m k0 k1 k2 k3 k4 k5 k6 kv
def Z20:Key × AObj:=S1p k24 k27 k27
def Z21:Key × AObj:=S1q k2b k2j k2l k2p k2x k2r k2t k2v
def Z22:Key × AObj:=S1s k0 k1 k2 k3 k4 k5 k6 kv
def Z23:Key × AObj:=Su k1r k1u k1u k2h (.int .i64 2)
def Z24:Key × AObj:=Si k6 (.int .i64 1) (.str 12 14909942882012283808127726898) (.int .i64 9) (.int .i64 2) (.str 12 14909942882012283808127726898) (.int .i64 10)
def Z25:Key × AObj:=Sb k1x kr k1z (.int .i64 2) (.int .i64 30) (.str 7 13560483888837237) (.int .i64 0) (.int .i64 0) (.int .i64 0) (.int .i64 0)
def Z26:Key × AObj:=S1z ku k2f k2a k1i
def Z27:Key × AObj:=S20 k2a kr k2c
def Z28:Key × AObj:=S22 ku k2f k1x k1i
def Z29:Key × AObj:=S23 k1x kr k1z
def Z2a:Key × AObj:=S26 ku k2f k2a k1i
def Z2b:Key × AObj:=S29 ku k2f k1x k1i
def Z2c:Key × AObj:=S5 k0 k1 k2 k3 k4 k5 k6 kv (.int .i64 15)
def Z2d:Key × AObj:=S0 k1 k7 (.int .i64 (-522)) (.int .i64 522)
def Z2e:Key × AObj:=Si k6 (.int .i64 1) (.str 12 14909942882012283808127726898) (.int .i64 9) (.int .i64 2) (.str 12 14909942882012283808127726898) (.int .i64 15)
def Z2f:Key × AObj:=Sb k2a kr k2c (.int .i64 2) (.int .i64 80) (.str 7 13560505363673717) (.int .i64 1) (.int .i64 0) (.int .i64 0) (.int .i64 0)
def Z2g:Key × AObj:=S24 k1r k1u k1u k2p k2p k2p k2p k2p k2p k2p
def s0:RT AObj:=updS [(k0,.cells 66 [.ptr k1 0,.ptr k2 0,.ptr k3 0,.ptr k4 0,.map k5,.map k6,.int .i64 0,.bool false,.nilSlice] false 0),S0 k1 k7 (.int .i64 (-16)) (.int .i64 16),S1 k2 k1 k8 k9 ka (.int .i64 3) (.int .i64 16338),(k3,.cells 138 [.ptr kb 0,.ptr k2 0,.map kc] false 0),(k4,.cells 117 [.map kd,.map ke,.func (.func 64) [.ptr k0 0] [],.int .i64 0] false 0),S2 k5,S2 k6,(k7,.bytes 5 4194304),(k8,.cells 268 [.ptr kf 0,.int .i64 512,.map kg,.slice kh 0 2 (.more 1)] false 0),(k9,.cells 273 [.int .i64 1,.int .i64 0,.str 0 0,.nilPtr,.int .i64 0,.map ki,.slice kj 0 3 (.more 1),.slice kk 0 1 (.more 1),.nilSlice,.int .i64 0,.int .i64 0,.int .i64 0] false 0),(ka,.bits 4 16384 70368744177663),(kb,.cells 254 [.ptr k2 0,.map kl] false 0),S2 kc,S2 kd,S2 ke,(kf,.cells 151 [.ptr k1 0,.int .i64 1,.int .i64 44,.map km,.bool false] false 0),(kg,.map [(.int .i64 0,.ptr kn 0,0),(.int .i64 45,.ptr ko 0,1)] 2),(kh,.cells 3 [.int .i64 0,.int .i64 45] true 0),(ki,.map [(.str 5 495572708450,.ptr kp 0,0),(.str 6 126935165919596,.ptr kq 0,1),(.str 5 491328597876,.ptr kr 0,2)] 3),(kj,.cells 169 [.ptr kp 0,.ptr kq 0,.ptr kr 0] true 0),S3 kk (.int .i64 45),S2 kl,(km,.map [] 4),S4 kn,S4 ko,(kp,.cells 273 [.int .i64 1,.int .i64 0,.str 5 495572708450,.ptr k9 0,.int .i64 0,.map ks,.nilSlice,.nilSlice,.nilSlice,.int .i64 0,.int .i64 0,.int .i64 0] false 0),(kq,.cells 273 [.int .i64 1,.int .i64 0,.str 6 126935165919596,.ptr k9 0,.int .i64 1,.map kt,.nilSlice,.nilSlice,.nilSlice,.int .i64 0,.int .i64 0,.int .i64 0] false 0),(kr,.cells 273 [.int .i64 1,.int .i64 0,.str 5 491328597876,.ptr k9 0,.int .i64 2,.map ku,.nilSlice,.nilSlice,.nilSlice,.int .i64 0,.int .i64 0,.int .i64 0] false 0),S2 ks,S2 kt,S2 ku] RT.nil
def s1:RT AObj:=updS [S5 k0 k1 k2 k3 k4 k5 k6 kv (.int .i64 0),S0 k1 k7 (.int .i64 (-72)) (.int .i64 72),S1 k2 k1 k8 k9 ka (.int .i64 6) (.int .i64 16333),(k5,.map [(.str 1 116,.str 12 14909942882012283808127726898,0)] 1),(k8,.cells 268 [.ptr kf 0,.int .i64 512,.map kg,.slice kh 0 7 (.more 1)] false 0),(ka,.bits 4 16384 2251799813685247),(kc,.map [(.str 12 14909952252669478796797554994,.ptr ky 0,0),(.str 12 14909942882012283808127726898,.ptr kz 0,1)] 2),(kd,.map [(.str 1 116,.agg [.slice k10 0 2 (.more 1)],0)] 1),(kg,.map [(.int .i64 0,.ptr kn 0,0),(.int .i64 45,.ptr ko 0,1),(.int .i64 46,.ptr k13 0,2),(.int .i64 47,.ptr k14 0,3),(.int .i64 48,.ptr k15 0,4),(.int .i64 49,.ptr k16 0,5),(.int .i64 50,.ptr k17 0,6)] 7),(kh,.cells 3 [.int .i64 0,.int .i64 45,.int .i64 46,.int .i64 47,.int .i64 48,.int .i64 49,.int .i64 50] true 0),(km,.map [] 22),(kq,.cells 273 [.int .i64 1,.int .i64 0,.str 6 126935165919596,.ptr k9 0,.int .i64 1,.map kt,.slice k1c 0 2 (.more 1),.slice k1d 0 1 (.more 1),.nilSlice,.int .i64 0,.int .i64 0,.int .i64 0] false 0),(kr,.cells 273 [.int .i64 1,.int .i64 0,.str 5 491328597876,.ptr k9 0,.int .i64 2,.map ku,.slice k1e 0 1 (.more 1),.slice k1f 0 1 (.more 1),.nilSlice,.int .i64 0,.int .i64 0,.int .i64 0] false 0),(kt,.map [(.str 12 14909952252669478796797554994,.ptr k1g 0,1),(.str 12 14909942882012283808127726898,.ptr k1h 0,3)] 4),(ku,.map [(.str 5 435744240755,.ptr k1i 0,1)] 2),(kv,.cells 199 [.str 31 104481335786327267040345892488766287127177228565394820989683512661121135206,.nilSlice,.int .i64 20000,.map kw,.slice kx 0 2 (.more 1)] true 0),S2 kw,S6 kx k11 k12,S7 ky k18 (.str 0 0) (.int .i64 0) (.int .i64 1),S7 kz k19 (.str 12 14909952252669478796797554994) (.int .i64 1) (.int .i64 0),S6 k10 k1a k1b,S8 k11,S9 k12,S4 k13,S4 k14,Sa k15,S4 k16,Sa k17,S8 k18,S9 k19,S8 k1a,S9 k1b,(k1c,.cells 169 [.ptr k1g 0,.ptr k1h 0] true 0),S3 k1d (.int .i64 46),(k1e,.cells 169 [.ptr k1i 0] true 0),S3 k1f (.int .i64 49),Sb k1g kq k1j (.int .i64 2) (.int .i64 12) (.str 12 14909952252669478796797554994) (.int .i64 0) (.int .i64 0) (.int .i64 0) (.int .i64 0),Sb k1h kq k1k (.int .i64 2) (.int .i64 24) (.str 12 14909942882012283808127726898) (.int .i64 1) (.int .i64 0) (.int .i64 0) (.int .i64 0),Sb k1i kr k1l (.int .i64 2) (.int .i64 19) (.str 5 435744240755) (.int .i64 0) (.int .i64 0) (.int .i64 0) (.int .i64 0),Sc k1j (.int .i64 47),Sc k1k (.int .i64 48),Sd k1l] s0
def s2:RT AObj:=updS [S5 k0 k1 k2 k3 k4 k5 k6 kv (.int .i64 1),S0 k1 k7 (.int .i64 (-102)) (.int .i64 102),S1 k2 k1 k8 k9 ka (.int .i64 7) (.int .i64 16332),(k6,.map [(.int .i64 1,.agg [.str 12 14909942882012283808127726898,.int .i64 1],0)] 1),(k8,.cells 268 [.ptr kf 0,.int .i64 512,.map kg,.slice kh 0 9 (.more 1)] false 0),(ka,.bits 4 16384 7881299347898367),(ke,.map [(.int .i64 1,.ptr k1m 0,0)] 1),(kg,.map [(.int .i64 0,.ptr kn 0,0),(.int .i64 45,.ptr ko 0,1),(.int .i64 46,.ptr k13 0,2),(.int .i64 47,.ptr k14 0,3),(.int .i64 48,.ptr k15 0,4),(.int .i64 49,.ptr k16 0,5),(.int .i64 50,.ptr k17 0,6),(.int .i64 51,.ptr k1n 0,7),(.int .i64 52,.ptr k1o 0,8)] 9),(kh,.cells 3 [.int .i64 0,.int .i64 45,.int .i64 46,.int .i64 47,.int .i64 48,.int .i64 49,.int .i64 50,.int .i64 51,.int .i64 52] true 0),(km,.map [] 31),(kr,.cells 273 [.int .i64 1,.int .i64 0,.str 5 491328597876,.ptr k9 0,.int .i64 2,.map ku,.slice k1e 0 2 (.more 1),.slice k1f 0 1 (.more 1),.nilSlice,.int .i64 0,.int .i64 0,.int .i64 0] false 0),(ku,.map [(.str 6 52970656706933,.ptr k1x 0,2),(.str 5 435744240755,.ptr k1i 0,4)] 5),S7 kz k19 (.str 12 14909952252669478796797554994) (.int .i64 2) (.int .i64 0),S4 k15,(k1e,.cells 169 [.ptr k1x 0,.ptr k1i 0,.ptr k1i 0] true 0),Sb k1i kr k1l (.int .i64 2) (.int .i64 41) (.str 5 435744240755) (.int .i64 1) (.int .i64 0) (.int .i64 0) (.int .i64 0),Se k1l,(k1m,.cells 211 [.ptr k1p 0,.ptr k1q 0,.ptr k1r 0,.slice k1s 0 2 (.more 1),.nilSlice] false 0),Sa k1n,Sa k1o,(k1p,.cells 321 [.slice k1t 0 1 (.more 4),.int .i64 0,.int .i64 20000,.int .i64 0,.nilSlice,.bool false,.str 0 0,.float .f64 0,.bool false,.str 0 0,.float .f64 0,.bool false,.str 0 0,.float .f64 0,.bool false,.str 0 0,.float .f64 0,.bool false,.str 0 0,.float .f64 0,.bool false,.str 0 0,.float .f64 0,.bool false,.str 0 0,.float .f64 0,.bool false,.str 0 0,.float .f64 0,.bool false,.str 0 0,.float .f64 0,.bool false,.str 0 0,.float .f64 0,.bool false,.str 0 0,.float .f64 0,.bool false,.str 0 0,.float .f64 0,.bool false,.str 0 0,.float .f64 0,.bool false,.str 0 0,.float .f64 0,.bool false,.str 0 0,.float .f64 0,.bool false,.str 0 0,.float .f64 0,.bool false,.str 0 0,.float .f64 0,.bool false,.str 0 0,.float .f64 0,.bool false,.str 0 0,.float .f64 0,.bool false,.str 0 0,.float .f64 0,.bool false,.str 0 0,.float .f64 0,.bool false,.str 0 0,.float .f64 0,.bool false,.str 0 0,.float .f64 0,.bool false,.str 0 0,.float .f64 0,.bool false,.str 0 0,.float .f64 0,.bool false,.str 0 0,.float .f64 0,.bool false,.str 0 0,.float .f64 0,.bool false,.str 0 0,.float .f64 0,.bool false,.str 0 0,.float .f64 0,.bool false,.str 0 0,.float .f64 0,.bool false,.str 0 0,.float .f64 0,.bool false,.str 0 0,.float .f64 0,.bool false,.str 0 0,.float .f64 0,.bool false,.str 0 0,.float .f64 0,.bool false,.str 0 0,.float .f64 0,.bool false,.str 0 0,.float .f64 0,.bool false,.str 0 0,.float .f64 0,.bool false,.str 0 0,.float .f64 0,.bool false,.str 0 0,.float .f64 0,.bool false,.str 0 0,.float .f64 0,.bool false,.str 0 0,.float .f64 0,.bool false,.str 0 0,.float .f64 0,.bool false,.str 0 0,.float .f64 0,.bool false,.str 0 0,.float .f64 0,.bool false,.str 0 0,.float .f64 0,.bool false,.str 0 0,.float .f64 0,.bool false,.str 0 0,.float .f64 0,.bool false,.str 0 0,.float .f64 0,.bool false,.str 0 0,.float .f64 0,.bool false,.str 0 0,.float .f64 0,.bool false,.str 0 0,.float .f64 0,.bool false,.str 0 0,.float .f64 0,.bool false,.str 0 0,.float .f64 0,.bool false,.str 0 0,.float .f64 0,.bool false,.str 0 0,.float .f64 0,.bool false,.str 0 0,.float .f64 0,.bool false,.str 0 0,.float .f64 0,.bool false,.str 0 0,.float .f64 0,.bool false,.str 0 0,.float .f64 0,.bool false,.str 0 0,.float .f64 0,.bool false,.str 0 0,.float .f64 0,.bool false,.str 0 0,.float .f64 0,.bool false,.str 0 0,.float .f64 0,.bool false,.str 0 0,.float .f64 0,.int .i64 0,.int .i64 0,.str 0 0,.str 0 0,.int .i64 0,.int .i64 0,.int .i64 0,.int .i64 0,.str 0 0,.str 0 0,.int .i64 0,.str 0 0] false 0),(k1q,.cells 311 [.nilSlice] false 0),(k1r,.cells 327 [.ptr k1u 0,.ptr k1u 0,.nilPtr,.nilPtr,.nilPtr,.nilPtr,.nilPtr,.nilPtr,.nilPtr,.nilPtr,.int .i64 0] false 0),S6 k1s k1v k1w,(k1t,.cells 354 [.int .i64 0,.int .i64 0,.float .f64 0,.str 0 0] true 0),Sf k1u k1y (.int .i64 1) (.int .i64 493) (.str 0 0) (.str 0 0),S8 k1v,S9 k1w,Sb k1x kr k1z (.int .i64 2) (.int .i64 3) (.str 6 52970656706933) (.int .i64 0) (.int .i64 0) (.int .i64 0) (.int .i64 0),Sg k1y,Zy] s1
def s3:RT AObj:=updS [S5 k0 k1 k2 k3 k4 k5 k6 kv (.int .i64 2),S0 k1 k7 (.int .i64 (-132)) (.int .i64 132),S1 k2 k1 k8 k9 ka (.int .i64 8) (.int .i64 16331),Si k6 (.int .i64 1) (.str 12 14909942882012283808127726898) (.int .i64 1) (.int .i64 2) (.str 12 14909942882012283808127726898) (.int .i64 2),(k8,.cells 268 [.ptr kf 0,.int .i64 512,.map kg,.slice kh 0 10 (.more 1)] false 0),(ka,.bits 4 16384 13510798882111487),Sj ke k1m k20 (.int .i64 1) (.int .i64 2),(kg,.map [(.int .i64 0,.ptr kn 0,0),(.int .i64 45,.ptr ko 0,1),(.int .i64 46,.ptr k13 0,2),(.int .i64 47,.ptr k14 0,3),(.int .i64 48,.ptr k15 0,4),(.int .i64 49,.ptr k16 0,5),(.int .i64 50,.ptr k17 0,6),(.int .i64 51,.ptr k1n 0,7),(.int .i64 52,.ptr k1o 0,8),(.int .i64 53,.ptr k21 0,9)] 10),(kh,.cells 3 [.int .i64 0,.int .i64 45,.int .i64 46,.int .i64 47,.int .i64 48,.int .i64 49,.int .i64 50,.int .i64 51,.int .i64 52,.int .i64 53] true 0),(km,.map [] 40),(kr,.cells 273 [.int .i64 1,.int .i64 0,.str 5 491328597876,.ptr k9 0,.int .i64 2,.map ku,.slice k1e 0 3 (.more 1),.slice k1f 0 1 (.more 1),.nilSlice,.int .i64 0,.int .i64 0,.int .i64 0] false 0),(ku,.map [(.str 6 52970656706933,.ptr k1x 0,2),(.str 6 52970673484405,.ptr k2a 0,5),(.str 5 435744240755,.ptr k1i 0,7)] 8),S7 kz k19 (.str 12 14909952252669478796797554994) (.int .i64 3) (.int .i64 0),S4 k17,(k1e,.cells 169 [.ptr k1x 0,.ptr k2a 0,.ptr k1i 0,.ptr k1i 0] true 0),Zz,Sc k1l (.int .i64 53),(k20,.cells 211 [.ptr k22 0,.ptr k23 0,.ptr k24 0,.slice k25 0 2 (.more 1),.nilSlice] false 0),Sa k21,(k22,.cells 321 [.slice k26 0 1 (.more 4),.int .i64 0,.int .i64 20000,.int .i64 0,.nilSlice,.bool false,.str 0 0,.float .f64 0,.bool false,.str 0 0,.float .f64 0,.bool false,.str 0 0,.float .f64 0,.bool false,.str 0 0,.float .f64 0,.bool false,.str 0 0,.float .f64 0,.bool false,.str 0 0,.float .f64 0,.bool false,.str 0 0,.float .f64 0,.bool false,.str 0 0,.float .f64 0,.bool false,.str 0 0,.float .f64 0,.bool false,.str 0 0,.float .f64 0,.bool false,.str 0 0,.float .f64 0,.bool false,.str 0 0,.float .f64 0,.bool false,.str 0 0,.float .f64 0,.bool false,.str 0 0,.float .f64 0,.bool false,.str 0 0,.float .f64 0,.bool false,.str 0 0,.float .f64 0,.bool false,.str 0 0,.float .f64 0,.bool false,.str 0 0,.float .f64 0,.bool false,.str 0 0,.float .f64 0,.bool false,.str 0 0,.float .f64 0,.bool false,.str 0 0,.float .f64 0,.bool false,.str 0 0,.float .f64 0,.bool false,.str 0 0,.float .f64 0,.bool false,.str 0 0,.float .f64 0,.bool false,.str 0 0,.float .f64 0,.bool false,.str 0 0,.float .f64 0,.bool false,.str 0 0,.float .f64 0,.bool false,.str 0 0,.float .f64 0,.bool false,.str 0 0,.float .f64 0,.bool false,.str 0 0,.float .f64 0,.bool false,.str 0 0,.float .f64 0,.bool false,.str 0 0,.float .f64 0,.bool false,.str 0 0,.float .f64 0,.bool false,.str 0 0,.float .f64 0,.bool false,.str 0 0,.float .f64 0,.bool false,.str 0 0,.float .f64 0,.bool false,.str 0 0,.float .f64 0,.bool false,.str 0 0,.float .f64 0,.bool false,.str 0 0,.float .f64 0,.bool false,.str 0 0,.float .f64 0,.bool false,.str 0 0,.float .f64 0,.bool false,.str 0 0,.float .f64 0,.bool false,.str 0 0,.float .f64 0,.bool false,.str 0 0,.float .f64 0,.bool false,.str 0 0,.float .f64 0,.bool false,.str 0 0,.float .f64 0,.bool false,.str 0 0,.float .f64 0,.bool false,.str 0 0,.float .f64 0,.bool false,.str 0 0,.float .f64 0,.bool false,.str 0 0,.float .f64 0,.bool false,.str 0 0,.float .f64 0,.bool false,.str 0 0,.float .f64 0,.bool false,.str 0 0,.float .f64 0,.bool false,.str 0 0,.float .f64 0,.bool false,.str 0 0,.float .f64 0,.bool false,.str 0 0,.float .f64 0,.bool false,.str 0 0,.float .f64 0,.bool false,.str 0 0,.float .f64 0,.bool false,.str 0 0,.float .f64 0,.bool false,.str 0 0,.float .f64 0,.bool false,.str 0 0,.float .f64 0,.bool false,.str 0 0,.float .f64 0,.bool false,.str 0 0,.float .f64 0,.bool false,.str 0 0,.float .f64 0,.int .i64 0,.int .i64 0,.str 0 0,.str 0 0,.int .i64 0,.int .i64 0,.int .i64 0,.int .i64 0,.str 0 0,.str 0 0,.int .i64 0,.str 0 0] false 0),(k23,.cells 311 [.nilSlice] false 0),(k24,.cells 327 [.ptr k27 0,.ptr k27 0,.nilPtr,.nilPtr,.nilPtr,.nilPtr,.nilPtr,.nilPtr,.nilPtr,.nilPtr,.int .i64 0] false 0),S6 k25 k28 k29,(k26,.cells 354 [.int .i64 0,.int .i64 0,.float .f64 0,.str 0 0] true 0),Sf k27 k2b (.int .i64 1) (.int .i64 493) (.str 0 0) (.str 0 0),S8 k28,S9 k29,Sb k2a kr k2c (.int .i64 2) (.int .i64 3) (.str 6 52970673484405) (.int .i64 1) (.int .i64 0) (.int .i64 0) (.int .i64 0),Sg k2b,Z10] s2
def s4:RT AObj:=updS [S5 k0 k1 k2 k3 k4 k5 k6 kv (.int .i64 3),S0 k1 k7 (.int .i64 (-162)) (.int .i64 162),Si k6 (.int .i64 1) (.str 12 14909942882012283808127726898) (.int .i64 3) (.int .i64 2) (.str 12 14909942882012283808127726898) (.int .i64 2),(k8,.cells 268 [.ptr kf 0,.int .i64 512,.map kg,.slice kh 0 12 (.more 1)] false 0),Sl ka,(kg,.map [(.int .i64 0,.ptr kn 0,0),(.int .i64 45,.ptr ko 0,1),(.int .i64 46,.ptr k13 0,2),(.int .i64 47,.ptr k14 0,3),(.int .i64 48,.ptr k15 0,4),(.int .i64 49,.ptr k16 0,5),(.int .i64 50,.ptr k17 0,6),(.int .i64 51,.ptr k1n 0,7),(.int .i64 52,.ptr k1o 0,8),(.int .i64 53,.ptr k21 0,9),(.int .i64 54,.ptr k2d 0,10),(.int .i64 55,.ptr k2e 0,11)] 12),(kh,.cells 3 [.int .i64 0,.int .i64 45,.int .i64 46,.int .i64 47,.int .i64 48,.int .i64 49,.int .i64 50,.int .i64 51,.int .i64 52,.int .i64 53,.int .i64 54,.int .i64 55] true 0),(km,.map [] 49),(ku,.map [(.str 6 52970673484405,.ptr k2a 0,5),(.str 6 52970690261365,.ptr k2f 0,8),(.str 5 435744240755,.ptr k1i 0,10)] 11),Z11,(k1f,.cells 3 [.int .i64 49,.int .i64 54] true 0),Z12,Z13,S4 k1o,Sp k1r k1u k1u,Sq k1y k2h (.str 1 102),S4 k2d,Sa k2e,Sb k2f kr k2g (.int .i64 2) (.int .i64 11) (.str 6 52970690261365) (.int .i64 2) (.int .i64 0) (.int .i64 0) (.int .i64 0),Se k2g,Sr k2h k2i k1u (.int .i64 2) (.int .i64 420) (.str 0 0) (.str 1 102),Sg k2i] s3
def s5:RT AObj:=updS [S5 k0 k1 k2 k3 k4 k5 k6 kv (.int .i64 4),S0 k1 k7 (.int .i64 (-192)) (.int .i64 192),Si k6 (.int .i64 1) (.str 12 14909942882012283808127726898) (.int .i64 4) (.int .i64 2) (.str 12 14909942882012283808127726898) (.int .i64 2),(ka,.bits 4 16384 22517998136852479),(km,.map [] 58),(ku,.map [(.str 6 52970673484405,.ptr k2a 0,5),(.str 6 52970707038581,.ptr k1x 0,11),(.str 5 435744240755,.ptr k1i 0,13)] 14),Z14,(k1f,.cells 3 [.int .i64 49,.int .i64 53] true 0),Zz,Z15,S4 k1n,Sb k1x kr k1z (.int .i64 2) (.int .i64 14) (.str 6 52970707038581) (.int .i64 0) (.int .i64 0) (.int .i64 0) (.int .i64 0),Zy,S4 k21,Sr k2h k2i k1u (.int .i64 2) (.int .i64 420) (.str 3 6513249) (.str 1 102)] s4
def s6:RT AObj:=updS [S5 k0 k1 k2 k3 k4 k5 k6 kv (.int .i64 5),S0 k1 k7 (.int .i64 (-222)) (.int .i64 222),Si k6 (.int .i64 1) (.str 12 14909942882012283808127726898) (.int .i64 4) (.int .i64 2) (.str 12 14909942882012283808127726898) (.int .i64 5),(ka,.bits 4 16384 43910096366862335),(km,.map [] 67),(ku,.map [(.str 6 52970707038581,.ptr k1x 0,11),(.str 6 52970723816053,.ptr k2f 0,14),(.str 5 435744240755,.ptr k1i 0,16)] 17),Z16,Z17,Z13,Sp k24 k27 k27,Sq k2b k2j (.str 2 13167),S4 k2e,Sb k2f kr k2g (.int .i64 2) (.int .i64 12) (.str 6 52970723816053) (.int .i64 2) (.int .i64 0) (.int .i64 0) (.int .i64 0),Se k2g,Sr k2j k2k k27 (.int .i64 1) (.int .i64 0) (.str 0 0) (.str 2 13167),Sg k2k] s5
def s7:RT AObj:=updS [Z18] s6
def s8:RT AObj:=updS [Z19,Z1a,Z1b,(ka,.bits 4 16384 24769797950537727),(km,.map [] 76),(ku,.map [(.str 6 52970723816053,.ptr k2f 0,14),(.str 6 52970740593013,.ptr k2a 0,17),(.str 5 435744240755,.ptr k1i 0,19)] 20),Z11,Z12,Z15,Su k1r k1u k1u k2h (.int .i64 0),Sg k1y,Sb k2a kr k2c (.int .i64 2) (.int .i64 3) (.str 6 52970740593013) (.int .i64 1) (.int .i64 0) (.int .i64 0) (.int .i64 0),Z10] s7
def s9:RT AObj:=updS [Sf k2h k2i (.int .i64 2) (.int .i64 420) (.str 4 1684234849) (.str 0 0)] s8
def sa:RT AObj:=updS [Z1c,Z1d,Si k6 (.int .i64 1) (.str 12 14909942882012283808127726898) (.int .i64 6) (.int .i64 2) (.str 12 14909942882012283808127726898) (.int .i64 7),(ka,.bits 4 16384 40532396646334463),(km,.map [] 85),(ku,.map [(.str 6 52970740593013,.ptr k2a 0,17),(.str 6 52970757370485,.ptr k1x 0,20),(.str 5 435744240755,.ptr k1i 0,22)] 23),Z14,Zz,Z13,Sb k1x kr k1z (.int .i64 2) (.int .i64 21) (.str 6 52970757370485) (.int .i64 0) (.int .i64 0) (.int .i64 0) (.int .i64 0),Zy,Sv k24 k27 k27,Z1e,Z1f,Sg k2m] s9
def sb:RT AObj:=updS [Z1g,Z1h,Si k6 (.int .i64 1) (.str 12 14909942882012283808127726898) (.int .i64 8) (.int .i64 2) (.str 12 14909942882012283808127726898) (.int .i64 7),Sw ka,(km,.map [] 94),(ku,.map [(.str 6 52970757370485,.ptr k1x 0,20),(.str 6 52970774147445,.ptr k2f 0,23),(.str 5 435744240755,.ptr k1i 0,25)] 26),Z16,Z17,Z15,Z18,Sq k1y k2n (.str 1 104),Sb k2f kr k2g (.int .i64 2) (.int .i64 11) (.str 6 52970774147445) (.int .i64 2) (.int .i64 0) (.int .i64 0) (.int .i64 0),Se k2g,Sr k2n k2o k1u (.int .i64 2) (.int .i64 420) (.str 0 0) (.str 1 104),Sg k2o] sa
def sc:RT AObj:=updS [Sp k1r k1u k1u] sb
def sd:RT AObj:=updS [Z1i,Sy k1 k7,Si k6 (.int .i64 1) (.str 12 14909942882012283808127726898) (.int .i64 8) (.int .i64 2) (.str 12 14909942882012283808127726898) (.int .i64 9),Sl ka,Sz km,S10 ku k2f k2a k1i (.str 6 52970774147445) (.str 6 52970790924917) (.str 5 435744240755),Z11,Z12,Z13,Z1j,Sb k2a kr k2c (.int .i64 2) (.int .i64 30) (.str 6 52970790924917) (.int .i64 1) (.int .i64 0) (.int .i64 0) (.int .i64 0),S12 k2b k2j k2l k2h,Z10,S13 k2h k2i k27,Sg k2i] sc
def se:RT AObj:=updS [(k1r,.cells 327 [.ptr k1u 0,.ptr k1u 0,.ptr k2h 0,.ptr k2n 0,.nilPtr,.nilPtr,.nilPtr,.nilPtr,.nilPtr,.nilPtr,.int .i64 1] false 0)] sb
def sf:RT AObj:=updS [Z1i,Sy k1 k7,Si k6 (.int .i64 1) (.str 12 14909942882012283808127726898) (.int .i64 8) (.int .i64 2) (.str 12 14909942882012283808127726898) (.int .i64 9),Sl ka,Sz km,S10 ku k2f k2a k1i (.str 6 52970774147445) (.str 6 52970790924917) (.str 5 435744240755),Z11,Z12,Z13,Z1j,Sb k2a kr k2c (.int .i64 2) (.int .i64 30) (.str 6 52970790924917) (.int .i64 1) (.int .i64 0) (.int .i64 0) (.int .i64 0),S12 k2b k2j k2l k2p,Z10,S13 k2p k2q k27,Sg k2q] se
def sg:RT AObj:=updS [(k1r,.cells 327 [.ptr k1u 0,.ptr k1u 0,.nilPtr,.ptr k2n 0,.nilPtr,.nilPtr,.nilPtr,.nilPtr,.nilPtr,.nilPtr,.int .i64 1] false 0)] sf
def sh:RT AObj:=updS [(k1r,.cells 327 [.ptr k1u 0,.ptr k1u 0,.ptr k2h 0,.ptr k2n 0,.ptr k2n 0,.nilPtr,.nilPtr,.nilPtr,.nilPtr,.nilPtr,.int .i64 1] false 0)] sf
def si:RT AObj:=updS [(k1r,.cells 327 [.ptr k1u 0,.ptr k1u 0,.nilPtr,.ptr k2n 0,.ptr k2n 0,.nilPtr,.nilPtr,.nilPtr,.nilPtr,.nilPtr,.int .i64 1] false 0)] sh
def sj:RT AObj:=updS [Z1k,S15 k1 k7,Z1l,Sw ka,S16 km,(ku,.map [(.str 6 52970774147445,.ptr k2f 0,23),(.str 7 13560483888837237,.ptr k1x 0,29),(.str 5 435744240755,.ptr k1i 0,31)] 32),Z16,Z17,Z15,Z1m,Zy,Z1n,S18 k2b k2j k2l k2p k2h,S19 k2h k2i k27,Sg k2i] si
def sk:RT AObj:=updS [(k1r,.cells 327 [.ptr k1u 0,.ptr k1u 0,.ptr k2h 0,.ptr k2n 0,.ptr k2n 0,.ptr k2n 0,.nilPtr,.nilPtr,.nilPtr,.nilPtr,.int .i64 1] false 0)] sh
def sl:RT AObj:=updS [(k1r,.cells 327 [.ptr k1u 0,.ptr k1u 0,.nilPtr,.ptr k2n 0,.ptr k2n 0,.ptr k2n 0,.nilPtr,.nilPtr,.nilPtr,.nilPtr,.int .i64 1] false 0)] sk
def sm:RT AObj:=updS [Z1k,S15 k1 k7,Z1l,Sw ka,S16 km,(ku,.map [(.str 6 52970774147445,.ptr k2f 0,23),(.str 7 13560483888837237,.ptr k1x 0,29),(.str 5 435744240755,.ptr k1i 0,31)] 32),Z16,Z17,Z15,Z1m,Zy,Z1n,S18 k2b k2j k2l k2p k2h,S19 k2h k2i k27,Sg k2i] sl
def sn:RT AObj:=updS [(k1r,.cells 327 [.ptr k1u 0,.ptr k1u 0,.ptr k2h 0,.ptr k2n 0,.ptr k2n 0,.ptr k2n 0,.ptr k2n 0,.nilPtr,.nilPtr,.nilPtr,.int .i64 1] false 0)] sk
def so:RT AObj:=updS [Z1k,S15 k1 k7,Z1l,Sw ka,S16 km,(ku,.map [(.str 6 52970774147445,.ptr k2f 0,23),(.str 7 13560483888837237,.ptr k1x 0,29),(.str 5 435744240755,.ptr k1i 0,31)] 32),Z16,Z17,Z15,Z1m,Zy,Z1n,Z1o,S19 k2r k2s k27,Sg k2s] sn
def sp:RT AObj:=updS [(k1r,.cells 327 [.ptr k1u 0,.ptr k1u 0,.nilPtr,.ptr k2n 0,.ptr k2n 0,.ptr k2n 0,.ptr k2n 0,.nilPtr,.nilPtr,.nilPtr,.int .i64 1] false 0)] so
def sq:RT AObj:=updS [(k1r,.cells 327 [.ptr k1u 0,.ptr k1u 0,.ptr k2h 0,.ptr k2n 0,.ptr k2n 0,.ptr k2n 0,.ptr k2n 0,.ptr k2n 0,.nilPtr,.nilPtr,.int .i64 1] false 0)] so
def sr:RT AObj:=updS [(k1r,.cells 327 [.ptr k1u 0,.ptr k1u 0,.nilPtr,.ptr k2n 0,.ptr k2n 0,.ptr k2n 0,.ptr k2n 0,.ptr k2n 0,.nilPtr,.nilPtr,.int .i64 1] false 0)] sq
def ss:RT AObj:=updS [Z1p,Z1q,Z1r,Sl ka,S1c km,(ku,.map [(.str 6 52970774147445,.ptr k2f 0,23),(.str 7 13560488183804533,.ptr k2a 0,32),(.str 5 435744240755,.ptr k1i 0,34)] 35),Z11,Z12,Z13,Z1s,Z1t,S1e k2b k2j k2l k2p k2r k2h,Z10,S1f k2h k2i k27,Sg k2i] sr
def st:RT AObj:=updS [(k1r,.cells 327 [.ptr k1u 0,.ptr k1u 0,.ptr k2h 0,.ptr k2n 0,.ptr k2n 0,.ptr k2n 0,.ptr k2n 0,.ptr k2n 0,.ptr k2n 0,.nilPtr,.int .i64 1] false 0)] sq
def su:RT AObj:=updS [(k1r,.cells 327 [.ptr k1u 0,.ptr k1u 0,.nilPtr,.ptr k2n 0,.ptr k2n 0,.ptr k2n 0,.ptr k2n 0,.ptr k2n 0,.ptr k2n 0,.nilPtr,.int .i64 1] false 0)] st
def sv:RT AObj:=updS [Z1p,Z1q,Z1r,Sl ka,S1c km,(ku,.map [(.str 6 52970774147445,.ptr k2f 0,23),(.str 7 13560488183804533,.ptr k2a 0,32),(.str 5 435744240755,.ptr k1i 0,34)] 35),Z11,Z12,Z13,Z1s,Z1t,S1e k2b k2j k2l k2p k2r k2h,Z10,S1f k2h k2i k27,Sg k2i] su
def sw:RT AObj:=updS [(k1r,.cells 327 [.ptr k1u 0,.ptr k1u 0,.ptr k2h 0,.ptr k2n 0,.ptr k2n 0,.ptr k2n 0,.ptr k2n 0,.ptr k2n 0,.ptr k2n 0,.ptr k2n 0,.int .i64 1] false 0)] st
def sx:RT AObj:=updS [Z1p,Z1q,Z1r,Sl ka,S1c km,(ku,.map [(.str 6 52970774147445,.ptr k2f 0,23),(.str 7 13560488183804533,.ptr k2a 0,32),(.str 5 435744240755,.ptr k1i 0,34)] 35),Z11,Z12,Z13,Z1s,Z1t,Z1u,Z10,S1f k2t k2u k27,Sg k2u] sw
def sy:RT AObj:=updS [(k1r,.cells 327 [.ptr k1u 0,.ptr k1u 0,.nilPtr,.ptr k2n 0,.ptr k2n 0,.ptr k2n 0,.ptr k2n 0,.ptr k2n 0,.ptr k2n 0,.ptr k2n 0,.int .i64 1] false 0)] sx
def sz:RT AObj:=updS [Z1v,Z1w,Si k6 (.int .i64 1) (.str 12 14909942882012283808127726898) (.int .i64 8) (.int .i64 2) (.str 12 14909942882012283808127726898) (.int .i64 12),Sw ka,S1i km,(ku,.map [(.str 6 52970774147445,.ptr k2f 0,23),(.str 7 13560492478771829,.ptr k1x 0,35),(.str 5 435744240755,.ptr k1i 0,37)] 38),Z16,Z17,Z15,Sb k1x kr k1z (.int .i64 2) (.int .i64 60) (.str 7 13560492478771829) (.int .i64 0) (.int .i64 0) (.int .i64 0) (.int .i64 0),Zy,Z1x,S1k k2b k2j k2l k2p k2r k2t k2h,S1l k2h k2i k27,Sg k2i] sy
def s10:RT AObj:=updS [Z1v,Z1w,Si k6 (.int .i64 1) (.str 12 14909942882012283808127726898) (.int .i64 8) (.int .i64 2) (.str 12 14909942882012283808127726898) (.int .i64 12),Sw ka,S1i km,(ku,.map [(.str 6 52970774147445,.ptr k2f 0,23),(.str 7 13560492478771829,.ptr k1x 0,35),(.str 5 435744240755,.ptr k1i 0,37)] 38),Z16,Z17,Z15,Sb k1x kr k1z (.int .i64 2) (.int .i64 60) (.str 7 13560492478771829) (.int .i64 0) (.int .i64 0) (.int .i64 0) (.int .i64 0),Zy,Z1x,Z1y,S1l k2v k2w k27,Sg k2w] sx
def s11:RT AObj:=updS [Z1z,S1n k1 k7,Si k6 (.int .i64 1) (.str 12 14909942882012283808127726898) (.int .i64 8) (.int .i64 2) (.str 12 14909942882012283808127726898) (.int .i64 13),Sl ka,S1o km,(ku,.map [(.str 6 52970774147445,.ptr k2f 0,23),(.str 7 13560496773739125,.ptr k2a 0,38),(.str 5 435744240755,.ptr k1i 0,40)] 41),Z11,Z12,Z13,Z20,Sb k2a kr k2c (.int .i64 2) (.int .i64 70) (.str 7 13560496773739125) (.int .i64 1) (.int .i64 0) (.int .i64 0) (.int .i64 0),S1q k2b k2j k2l k2p k2v k2r k2t k2h,Z10,S1r k2v k2w k27,Sg k2w] sz
def s12:RT AObj:=updS [Z1z,S1n k1 k7,Si k6 (.int .i64 1) (.str 12 14909942882012283808127726898) (.int .i64 8) (.int .i64 2) (.str 12 14909942882012283808127726898) (.int .i64 13),Sl ka,S1o km,(ku,.map [(.str 6 52970774147445,.ptr k2f 0,23),(.str 7 13560496773739125,.ptr k2a 0,38),(.str 5 435744240755,.ptr k1i 0,40)] 41),Z11,Z12,Z13,Z20,Sb k2a kr k2c (.int .i64 2) (.int .i64 70) (.str 7 13560496773739125) (.int .i64 1) (.int .i64 0) (.int .i64 0) (.int .i64 0),Z21,Z10,S1r k2x k2y k27,Sg k2y] s10
def s13:RT AObj:=updS [Z22,S1t k1 k7,Si k6 (.int .i64 1) (.str 12 14909942882012283808127726898) (.int .i64 8) (.int .i64 2) (.str 12 14909942882012283808127726898) (.int .i64 14),Sw ka,S1u km,(ku,.map [(.str 6 52970774147445,.ptr k2f 0,23),(.str 7 13560501068706421,.ptr k1x 0,41),(.str 5 435744240755,.ptr k1i 0,43)] 44),Z16,Z17,Z15,Sb k1x kr k1z (.int .i64 2) (.int .i64 80) (.str 7 13560501068706421) (.int .i64 0) (.int .i64 0) (.int .i64 0) (.int .i64 0),Zy,S1v k24 k27 k27,S1w k2b k2j k2l k2p k2v k2r k2x k2t k2h,S1x k2x k2y k27,Sg k2y] s11
def s14:RT AObj:=updS [Z19,Z1a,Z1b,(ka,.bits 4 16384 24769797950537727),(km,.map [] 76),(ku,.map [(.str 6 52970723816053,.ptr k2f 0,14),(.str 6 52970740593013,.ptr k2a 0,17),(.str 5 435744240755,.ptr k1i 0,19)] 20),Z11,Z12,Z15,Sq k1y k2h (.str 1 103),Sb k2a kr k2c (.int .i64 2) (.int .i64 14) (.str 6 52970740593013) (.int .i64 1) (.int .i64 0) (.int .i64 0) (.int .i64 0),Z10,Sr k2h k2i k1u (.int .i64 2) (.int .i64 420) (.str 3 6513249) (.str 1 103)] s7
def s15:RT AObj:=updS [Z1c,Z1d,Si k6 (.int .i64 1) (.str 12 14909942882012283808127726898) (.int .i64 7) (.int .i64 2) (.str 12 14909942882012283808127726898) (.int .i64 5),(ka,.bits 4 16384 43910096366862335),(km,.map [] 85),(ku,.map [(.str 6 52970723816053,.ptr k2f 0,14),(.str 6 52970757370229,.ptr k1x 0,20),(.str 5 435744240755,.ptr k1i 0,22)] 23),Z16,Z17,Z13,Sb k1x kr k1z (.int .i64 2) (.int .i64 15) (.str 6 52970757370229) (.int .i64 0) (.int .i64 0) (.int .i64 0) (.int .i64 0),Zy,Sr k2h k2i k1u (.int .i64 2) (.int .i64 420) (.str 4 1684234849) (.str 1 103)] s14
def s16:RT AObj:=updS [Z1g,Z1h,Si k6 (.int .i64 1) (.str 12 14909942882012283808127726898) (.int .i64 7) (.int .i64 2) (.str 12 14909942882012283808127726898) (.int .i64 8),(ka,.bits 4 16384 22517998136852479),(km,.map [] 94),(ku,.map [(.str 6 52970757370229,.ptr k1x 0,20),(.str 6 52970774147701,.ptr k2a 0,23),(.str 5 435744240755,.ptr k1i 0,25)] 26),Z14,Zz,Z15,Sv k24 k27 k27,Sb k2a kr k2c (.int .i64 2) (.int .i64 21) (.str 6 52970774147701) (.int .i64 1) (.int .i64 0) (.int .i64 0) (.int .i64 0),Z1e,Z10,Z1f,Sg k2m] s15
def s17:RT AObj:=updS [Z1i,Sy k1 k7,Si k6 (.int .i64 1) (.str 12 14909942882012283808127726898) (.int .i64 9) (.int .i64 2) (.str 12 14909942882012283808127726898) (.int .i64 8),Sl ka,Sz km,S10 ku k2a k2f k1i (.str 6 52970774147701) (.str 6 52970790924661) (.str 5 435744240755),Z11,Z12,Z13,Z23,Sj k1y k2h k2n (.str 1 103) (.str 1 104),Sb k2f kr k2g (.int .i64 2) (.int .i64 23) (.str 6 52970790924661) (.int .i64 2) (.int .i64 0) (.int .i64 0) (.int .i64 0),Se k2g,Sr k2n k2o k1u (.int .i64 2) (.int .i64 420) (.str 0 0) (.str 1 104),Sg k2o] s16
def s18:RT AObj:=updS [Sv k1r k1u k1u] s17
def s19:RT AObj:=updS [Z1k,S15 k1 k7,Z24,Sw ka,S16 km,(ku,.map [(.str 6 52970790924661,.ptr k2f 0,26),(.str 7 13560483888837237,.ptr k1x 0,29),(.str 5 435744240755,.ptr k1i 0,31)] 32),Z16,Z17,Z15,Z25,Zy,Z1j,S12 k2b k2j k2l k2p,S13 k2p k2q k27,Sg k2q] s18
def s1a:RT AObj:=updS [(k1r,.cells 327 [.ptr k1u 0,.ptr k1u 0,.ptr k2h 0,.ptr k2n 0,.nilPtr,.nilPtr,.nilPtr,.nilPtr,.nilPtr,.nilPtr,.int .i64 2] false 0)] s17
def s1b:RT AObj:=updS [Z1k,S15 k1 k7,Z24,Sw ka,S16 km,(ku,.map [(.str 6 52970790924661,.ptr k2f 0,26),(.str 7 13560483888837237,.ptr k1x 0,29),(.str 5 435744240755,.ptr k1i 0,31)] 32),Z16,Z17,Z15,Z25,Zy,Z1j,S12 k2b k2j k2l k2p,S13 k2p k2q k27,Sg k2q] s1a
def s1c:RT AObj:=updS [(k1r,.cells 327 [.ptr k1u 0,.ptr k1u 0,.nilPtr,.ptr k2n 0,.nilPtr,.nilPtr,.nilPtr,.nilPtr,.nilPtr,.nilPtr,.int .i64 2] false 0)] s1b
def s1d:RT AObj:=updS [(k1r,.cells 327 [.ptr k1u 0,.ptr k1u 0,.ptr k2h 0,.ptr k2n 0,.ptr k2n 0,.nilPtr,.nilPtr,.nilPtr,.nilPtr,.nilPtr,.int .i64 2] false 0)] s1b
def s1e:RT AObj:=updS [(k1r,.cells 327 [.ptr k1u 0,.ptr k1u 0,.nilPtr,.ptr k2n 0,.ptr k2n 0,.nilPtr,.nilPtr,.nilPtr,.nilPtr,.nilPtr,.int .i64 2] false 0)] s1d
def s1f:RT AObj:=updS [Z1p,Z1q,S1y k6,Sl ka,S1c km,Z26,Z11,Z12,Z13,Z1n,Z27,Z1o,Z10,S19 k2r k2s k27,Sg k2s] s1e
def s1g:RT AObj:=updS [(k1r,.cells 327 [.ptr k1u 0,.ptr k1u 0,.ptr k2h 0,.ptr k2n 0,.ptr k2n 0,.ptr k2n 0,.nilPtr,.nilPtr,.nilPtr,.nilPtr,.int .i64 2] false 0)] s1d
def s1h:RT AObj:=updS [(k1r,.cells 327 [.ptr k1u 0,.ptr k1u 0,.nilPtr,.ptr k2n 0,.ptr k2n 0,.ptr k2n 0,.nilPtr,.nilPtr,.nilPtr,.nilPtr,.int .i64 2] false 0)] s1g
def s1i:RT AObj:=updS [Z1p,Z1q,S1y k6,Sl ka,S1c km,Z26,Z11,Z12,Z13,Z1n,Z27,Z1o,Z10,S19 k2r k2s k27,Sg k2s] s1h
def s1j:RT AObj:=updS [(k1r,.cells 327 [.ptr k1u 0,.ptr k1u 0,.ptr k2h 0,.ptr k2n 0,.ptr k2n 0,.ptr k2n 0,.ptr k2n 0,.nilPtr,.nilPtr,.nilPtr,.int .i64 2] false 0)] s1g
def s1k:RT AObj:=updS [Z1p,Z1q,S1y k6,Sl ka,S1c km,Z26,Z11,Z12,Z13,Z1n,Z27,Z1o,Z10,S19 k2r k2s k27,Sg k2s] s1j
def s1l:RT AObj:=updS [(k1r,.cells 327 [.ptr k1u 0,.ptr k1u 0,.nilPtr,.ptr k2n 0,.ptr k2n 0,.ptr k2n 0,.ptr k2n 0,.nilPtr,.nilPtr,.nilPtr,.int .i64 2] false 0)] s1k
def s1m:RT AObj:=updS [(k1r,.cells 327 [.ptr k1u 0,.ptr k1u 0,.ptr k2h 0,.ptr k2n 0,.ptr k2n 0,.ptr k2n 0,.ptr k2n 0,.ptr k2n 0,.nilPtr,.nilPtr,.int .i64 2] false 0)] s1k
def s1n:RT AObj:=updS [(k1r,.cells 327 [.ptr k1u 0,.ptr k1u 0,.nilPtr,.ptr k2n 0,.ptr k2n 0,.ptr k2n 0,.ptr k2n 0,.ptr k2n 0,.nilPtr,.nilPtr,.int .i64 2] false 0)] s1m
def s1o:RT AObj:=updS [Z1v,Z1w,S21 k6,Sw ka,S1i km,Z28,Z16,Z17,Z15,Z29,Zy,Z1s,Z1u,S1f k2t k2u k27,Sg k2u] s1n
def s1p:RT AObj:=updS [(k1r,.cells 327 [.ptr k1u 0,.ptr k1u 0,.ptr k2h 0,.ptr k2n 0,.ptr k2n 0,.ptr k2n 0,.ptr k2n 0,.ptr k2n 0,.ptr k2n 0,.nilPtr,.int .i64 2] false 0)] s1m
def s1q:RT AObj:=updS [(k1r,.cells 327 [.ptr k1u 0,.ptr k1u 0,.nilPtr,.ptr k2n 0,.ptr k2n 0,.ptr k2n 0,.ptr k2n 0,.ptr k2n 0,.ptr k2n 0,.nilPtr,.int .i64 2] false 0)] s1p
def s1r:RT AObj:=updS [Z1v,Z1w,S21 k6,Sw ka,S1i km,Z28,Z16,Z17,Z15,Z29,Zy,Z1s,Z1u,S1f k2t k2u k27,Sg k2u] s1q
def s1s:RT AObj:=updS [(k1r,.cells 327 [.ptr k1u 0,.ptr k1u 0,.ptr k2h 0,.ptr k2n 0,.ptr k2n 0,.ptr k2n 0,.ptr k2n 0,.ptr k2n 0,.ptr k2n 0,.ptr k2n 0,.int .i64 2] false 0)] s1p
def s1t:RT AObj:=updS [Z1v,Z1w,S21 k6,Sw ka,S1i km,Z28,Z16,Z17,Z15,Z29,Zy,Z1s,Z1u,S1f k2t k2u k27,Sg k2u] s1s
def s1u:RT AObj:=updS [S24 k1r k1u k1u k2n k2n k2n k2n k2n k2n k2n] s1t
def s1v:RT AObj:=updS [Z1z,S1n k1 k7,S25 k6,Sl ka,S1o km,Z2a,Z11,Z12,Z13,Z1x,S27 k2a kr k2c,Z1y,Z10,S1l k2v k2w k27,Sg k2w] s1u
def s1w:RT AObj:=updS [Z1z,S1n k1 k7,S25 k6,Sl ka,S1o km,Z2a,Z11,Z12,Z13,Z1x,S27 k2a kr k2c,Z1y,Z10,S1l k2v k2w k27,Sg k2w] s1t
def s1x:RT AObj:=updS [Z22,S1t k1 k7,S28 k6,Sw ka,S1u km,Z2b,Z16,Z17,Z15,S2a k1x kr k1z,Zy,Z20,Z21,S1r k2x k2y k27,Sg k2y] s1v
def s1y:RT AObj:=updS [Z22,S1t k1 k7,S28 k6,Sw ka,S1u km,Z2b,Z16,Z17,Z15,S2a k1x kr k1z,Zy,Z20,Z21,S1r k2x k2y k27,Sg k2y] s1w
def s1z:RT AObj:=updS [Z2c,Z2d,Z2e,Sl ka,(km,.map [] 157),(ku,.map [(.str 6 52970790924661,.ptr k2f 0,26),(.str 7 13560505363673717,.ptr k2a 0,44),(.str 5 435744240755,.ptr k1i 0,46)] 47),Z11,Z12,Z13,S1v k24 k27 k27,Z2f,S1w k2b k2j k2l k2p k2x k2r k2z k2t k2v,Z10,S1x k2z k30 k27,Sg k30] s1x
def s20:RT AObj:=updS [Z19,Z1a,Z1b,(ka,.bits 4 16384 24769797950537727),(km,.map [] 76),(ku,.map [(.str 6 52970723816053,.ptr k2f 0,14),(.str 6 52970740593013,.ptr k2a 0,17),(.str 5 435744240755,.ptr k1i 0,19)] 20),Z11,Z12,Z15,Z23,Sj k1y k2h k2l (.str 1 102) (.str 1 103),Sb k2a kr k2c (.int .i64 2) (.int .i64 22) (.str 6 52970740593013) (.int .i64 1) (.int .i64 0) (.int .i64 0) (.int .i64 0),Z10,Sr k2l k2m k1u (.int .i64 2) (.int .i64 420) (.str 0 0) (.str 1 103),Sg k2m] s7
def s21:RT AObj:=updS [Z1c,Z1d,Si k6 (.int .i64 1) (.str 12 14909942882012283808127726898) (.int .i64 7) (.int .i64 2) (.str 12 14909942882012283808127726898) (.int .i64 5),(ka,.bits 4 16384 43910096366862335),(km,.map [] 85),(ku,.map [(.str 6 52970723816053,.ptr k2f 0,14),(.str 6 52970757370229,.ptr k1x 0,20),(.str 5 435744240755,.ptr k1i 0,22)] 23),Z16,Z17,Z13,Z18,Sb k1x kr k1z (.int .i64 2) (.int .i64 11) (.str 6 52970757370229) (.int .i64 0) (.int .i64 0) (.int .i64 0) (.int .i64 0),Sq k1y k2n (.str 1 102),Zy,Sr k2n k2o k1u (.int .i64 2) (.int .i64 420) (.str 0 0) (.str 1 102),Sg k2o] s20
def s22:RT AObj:=updS [Z1g,Z1h,Si k6 (.int .i64 1) (.str 12 14909942882012283808127726898) (.int .i64 7) (.int .i64 2) (.str 12 14909942882012283808127726898) (.int .i64 8),(ka,.bits 4 16384 22517998136852479),(km,.map [] 94),(ku,.map [(.str 6 52970757370229,.ptr k1x 0,20),(.str 6 52970774147701,.ptr k2a 0,23),(.str 5 435744240755,.ptr k1i 0,25)] 26),Z14,Zz,Z15,Sv k24 k27 k27,Sb k2a kr k2c (.int .i64 2) (.int .i64 21) (.str 6 52970774147701) (.int .i64 1) (.int .i64 0) (.int .i64 0) (.int .i64 0),Z1e,Z10,Sf k2h k2i (.int .i64 2) (.int .i64 420) (.str 3 6513249) (.str 0 0),Z1f,Sg k2m] s21
def s23:RT AObj:=updS [Sf k2h k2i (.int .i64 2) (.int .i64 420) (.str 4 1684234849) (.str 0 0)] s22
def s24:RT AObj:=updS [Z1i,Sy k1 k7,Si k6 (.int .i64 1) (.str 12 14909942882012283808127726898) (.int .i64 9) (.int .i64 2) (.str 12 14909942882012283808127726898) (.int .i64 8),Sl ka,Sz km,S10 ku k2a k2f k1i (.str 6 52970774147701) (.str 6 52970790924661) (.str 5 435744240755),Z11,Z12,Z13,Z23,Sj k1y k2n k2p (.str 1 102) (.str 1 104),Sb k2f kr k2g (.int .i64 2) (.int .i64 19) (.str 6 52970790924661) (.int .i64 2) (.int .i64 0) (.int .i64 0) (.int .i64 0),Se k2g,Sr k2p k2q k1u (.int .i64 2) (.int .i64 420) (.str 0 0) (.str 1 104),Sg k2q] s23
def s25:RT AObj:=updS [Z1k,S15 k1 k7,Z24,Sw ka,S16 km,(ku,.map [(.str 6 52970790924661,.ptr k2f 0,26),(.str 7 13560483888837237,.ptr k1x 0,29),(.str 5 435744240755,.ptr k1i 0,31)] 32),Z16,Z17,Z15,Z25,Zy,Z1j,S12 k2b k2j k2l k2r,S13 k2r k2s k27,Sg k2s] s24
def s26:RT AObj:=updS [Sv k1r k1u k1u] s25
def s27:RT AObj:=updS [(k1r,.cells 327 [.ptr k1u 0,.ptr k1u 0,.ptr k2h 0,.ptr k2p 0,.nilPtr,.nilPtr,.nilPtr,.nilPtr,.nilPtr,.nilPtr,.int .i64 2] false 0)] s25
def s28:RT AObj:=updS [(k1r,.cells 327 [.ptr k1u 0,.ptr k1u 0,.nilPtr,.ptr k2p 0,.nilPtr,.nilPtr,.nilPtr,.nilPtr,.nilPtr,.nilPtr,.int .i64 2] false 0)] s27
def s29:RT AObj:=updS [Z1p,Z1q,S1y k6,Sl ka,S1c km,Z26,Z11,Z12,Z13,Z1n,Z27,S18 k2b k2j k2l k2r k2h,Z10,S19 k2h k2i k27,Sg k2i] s28
def s2a:RT AObj:=updS [(k1r,.cells 327 [.ptr k1u 0,.ptr k1u 0,.ptr k2h 0,.ptr k2p 0,.ptr k2p 0,.nilPtr,.nilPtr,.nilPtr,.nilPtr,.nilPtr,.int .i64 2] false 0)] s27
def s2b:RT AObj:=updS [(k1r,.cells 327 [.ptr k1u 0,.ptr k1u 0,.nilPtr,.ptr k2p 0,.ptr k2p 0,.nilPtr,.nilPtr,.nilPtr,.nilPtr,.nilPtr,.int .i64 2] false 0)] s2a
def s2c:RT AObj:=updS [Z1p,Z1q,S1y k6,Sl ka,S1c km,Z26,Z11,Z12,Z13,Z1n,Z27,S18 k2b k2j k2l k2r k2h,Z10,S19 k2h k2i k27,Sg k2i] s2b
def s2d:RT AObj:=updS [(k1r,.cells 327 [.ptr k1u 0,.ptr k1u 0,.ptr k2h 0,.ptr k2p 0,.ptr k2p 0,.ptr k2p 0,.nilPtr,.nilPtr,.nilPtr,.nilPtr,.int .i64 2] false 0)] s2a
def s2e:RT AObj:=updS [Z1p,Z1q,S1y k6,Sl ka,S1c km,Z26,Z11,Z12,Z13,Z1n,Z27,S18 k2b k2j k2l k2r k2t,Z10,S19 k2t k2u k27,Sg k2u] s2d
def s2f:RT AObj:=updS [(k1r,.cells 327 [.ptr k1u 0,.ptr k1u 0,.nilPtr,.ptr k2p 0,.ptr k2p 0,.ptr k2p 0,.nilPtr,.nilPtr,.nilPtr,.nilPtr,.int .i64 2] false 0)] s2e
def s2g:RT AObj:=updS [(k1r,.cells 327 [.ptr k1u 0,.ptr k1u 0,.ptr k2h 0,.ptr k2p 0,.ptr k2p 0,.ptr k2p 0,.ptr k2p 0,.nilPtr,.nilPtr,.nilPtr,.int .i64 2] false 0)] s2e
def s2h:RT AObj:=updS [(k1r,.cells 327 [.ptr k1u 0,.ptr k1u 0,.nilPtr,.ptr k2p 0,.ptr k2p 0,.ptr k2p 0,.ptr k2p 0,.nilPtr,.nilPtr,.nilPtr,.int .i64 2] false 0)] s2g
def s2i:RT AObj:=updS [Z1v,Z1w,S21 k6,Sw ka,S1i km,Z28,Z16,Z17,Z15,Z29,Zy,Z1s,S1e k2b k2j k2l k2r k2t k2h,S1f k2h k2i k27,Sg k2i] s2h
def s2j:RT AObj:=updS [(k1r,.cells 327 [.ptr k1u 0,.ptr k1u 0,.ptr k2h 0,.ptr k2p 0,.ptr k2p 0,.ptr k2p 0,.ptr k2p 0,.ptr k2p 0,.nilPtr,.nilPtr,.int .i64 2] false 0)] s2g
def s2k:RT AObj:=updS [(k1r,.cells 327 [.ptr k1u 0,.ptr k1u 0,.nilPtr,.ptr k2p 0,.ptr k2p 0,.ptr k2p 0,.ptr k2p 0,.ptr k2p 0,.nilPtr,.nilPtr,.int .i64 2] false 0)] s2j
def s2l:RT AObj:=updS [Z1v,Z1w,S21 k6,Sw ka,S1i km,Z28,Z16,Z17,Z15,Z29,Zy,Z1s,S1e k2b k2j k2l k2r k2t k2h,S1f k2h k2i k27,Sg k2i] s2k
def s2m:RT AObj:=updS [(k1r,.cells 327 [.ptr k1u 0,.ptr k1u 0,.ptr k2h 0,.ptr k2p 0,.ptr k2p 0,.ptr k2p 0,.ptr k2p 0,.ptr k2p 0,.ptr k2p 0,.nilPtr,.int .i64 2] false 0)] s2j
def s2n:RT AObj:=updS [Z1v,Z1w,S21 k6,Sw ka,S1i km,Z28,Z16,Z17,Z15,Z29,Zy,Z1s,S1e k2b k2j k2l k2r k2t k2v,S1f k2v k2w k27,Sg k2w] s2m
def s2o:RT AObj:=updS [(k1r,.cells 327 [.ptr k1u 0,.ptr k1u 0,.nilPtr,.ptr k2p 0,.ptr k2p 0,.ptr k2p 0,.ptr k2p 0,.ptr k2p 0,.ptr k2p 0,.nilPtr,.int .i64 2] false 0)] s2n
def s2p:RT AObj:=updS [(k1r,.cells 327 [.ptr k1u 0,.ptr k1u 0,.ptr k2h 0,.ptr k2p 0,.ptr k2p 0,.ptr k2p 0,.ptr k2p 0,.ptr k2p 0,.ptr k2p 0,.ptr k2p 0,.int .i64 2] false 0)] s2n
def s2q:RT AObj:=updS [Z2g] s2p
def s2r:RT AObj:=updS [Z1z,S1n k1 k7,S25 k6,Sl ka,S1o km,Z2a,Z11,Z12,Z13,Z1x,S27 k2a kr k2c,S1k k2b k2j k2l k2r k2t k2v k2h,Z10,S1l k2h k2i k27,Sg k2i] s2q
def s2s:RT AObj:=updS [Z1z,S1n k1 k7,S25 k6,Sl ka,S1o km,Z2a,Z11,Z12,Z13,Z1x,S27 k2a kr k2c,S1k k2b k2j k2l k2r k2t k2v k2x,Z10,S1l k2x k2y k27,Sg k2y] s2p
def s2t:RT AObj:=updS [Z22,S1t k1 k7,S28 k6,Sw ka,S1u km,Z2b,Z16,Z17,Z15,S2a k1x kr k1z,Zy,Z20,S1q k2b k2j k2l k2r k2x k2t k2v k2h,S1r k2x k2y k27,Sg k2y] s2r
def s2u:RT AObj:=updS [Z22,S1t k1 k7,S28 k6,Sw ka,S1u km,Z2b,Z16,Z17,Z15,S2a k1x kr k1z,Zy,Z20,S1q k2b k2j k2l k2r k2z k2t k2v k2x,S1r k2z k30 k27,Sg k30] s2s
def s2v:RT AObj:=updS [Z2c,Z2d,Z2e,Sl ka,(km,.map [] 157),(ku,.map [(.str 6 52970790924661,.ptr k2f 0,26),(.str 7 13560505363673717,.ptr k2a 0,44),(.str 5 435744240755,.ptr k1i 0,46)] 47),Z11,Z12,Z13,S1v k24 k27 k27,Z2f,S1w k2b k2j k2l k2r k2x k2t k2z k2v k2h,Z10,S1x k2z k30 k27,Sg k30] s2t
def s2w:RT AObj:=updS [Z2c,Z2d,Z2e,Sl ka,(km,.map [] 157),(ku,.map [(.str 6 52970790924661,.ptr k2f 0,26),(.str 7 13560505363673717,.ptr k2a 0,44),(.str 5 435744240755,.ptr k1i 0,46)] 47),Z11,Z12,Z13,S1v k24 k27 k27,Z2f,S1w k2b k2j k2l k2r k2z k2t k31 k2v k2x,Z10,S1x k31 k32 k27,Sg k32] s2u
def s2x:RT AObj:=updS [S5 k0 k1 k2 k3 k4 k5 k6 kv (.int .i64 0),S0 k1 k7 (.int .i64 (-52)) (.int .i64 52),S1 k2 k1 k8 k9 ka (.int .i64 5) (.int .i64 16334),(k5,.map [(.str 1 116,.str 12 14909952252669478796797554994,0)] 1),(k8,.cells 268 [.ptr kf 0,.int .i64 512,.map kg,.slice kh 0 6 (.more 1)] false 0),(ka,.bits 4 16384 1125899906842623),(kc,.map [(.str 12 14909952252669478796797554994,.ptr ky 0,0)] 1),(kd,.map [(.str 1 116,.agg [.slice kz 0 1 (.more 1)],0)] 1),(kg,.map [(.int .i64 0,.ptr kn 0,0),(.int .i64 45,.ptr ko 0,1),(.int .i64 46,.ptr k11 0,2),(.int .i64 47,.ptr k12 0,3),(.int .i64 48,.ptr k13 0,4),(.int .i64 49,.ptr k14 0,5)] 6),(kh,.cells 3 [.int .i64 0,.int .i64 45,.int .i64 46,.int .i64 47,.int .i64 48,.int .i64 49] true 0),(km,.map [] 16),(kq,.cells 273 [.int .i64 1,.int .i64 0,.str 6 126935165919596,.ptr k9 0,.int .i64 1,.map kt,.slice k17 0 1 (.more 1),.slice k18 0 1 (.more 1),.nilSlice,.int .i64 0,.int .i64 0,.int .i64 0] false 0),(kr,.cells 273 [.int .i64 1,.int .i64 0,.str 5 491328597876,.ptr k9 0,.int .i64 2,.map ku,.slice k19 0 1 (.more 1),.slice k1a 0 1 (.more 1),.nilSlice,.int .i64 0,.int .i64 0,.int .i64 0] false 0),(kt,.map [(.str 12 14909952252669478796797554994,.ptr k1b 0,1)] 2),(ku,.map [(.str 5 435744240755,.ptr k1c 0,1)] 2),(kv,.cells 199 [.str 19 1318739858033904608473444756492996921336492646,.nilSlice,.int .i64 20000,.map kw,.slice kx 0 1 (.more 1)] true 0),S2 kw,(kx,.cells 141 [.slice k10 0 1 (.more 4)] true 0),S7 ky k15 (.str 0 0) (.int .i64 1) (.int .i64 0),(kz,.cells 141 [.slice k16 0 1 (.more 4)] true 0),S8 k10,S4 k11,Sa k12,S4 k13,Sa k14,S8 k15,S8 k16,(k17,.cells 169 [.ptr k1b 0] true 0),S3 k18 (.int .i64 46),(k19,.cells 169 [.ptr k1c 0] true 0),S3 k1a (.int .i64 48),Sb k1b kq k1d (.int .i64 2) (.int .i64 12) (.str 12 14909952252669478796797554994) (.int .i64 0) (.int .i64 0) (.int .i64 0) (.int .i64 0),Sb k1c kr k1e (.int .i64 2) (.int .i64 19) (.str 5 435744240755) (.int .i64 0) (.int .i64 0) (.int .i64 0) (.int .i64 0),Sc k1d (.int .i64 47),Sc k1e (.int .i64 49)] s0
def s2y:RT AObj:=updS [S5 k0 k1 k2 k3 k4 k5 k6 kv (.int .i64 1),S0 k1 k7 (.int .i64 (-82)) (.int .i64 82),S1 k2 k1 k8 k9 ka (.int .i64 6) (.int .i64 16333),(k6,.map [(.int .i64 1,.agg [.str 12 14909952252669478796797554994,.int .i64 1],0)] 1),(k8,.cells 268 [.ptr kf 0,.int .i64 512,.map kg,.slice kh 0 8 (.more 1)] false 0),(ka,.bits 4 16384 3940649673949183),(ke,.map [(.int .i64 1,.ptr k1f 0,0)] 1),(kg,.map [(.int .i64 0,.ptr kn 0,0),(.int .i64 45,.ptr ko 0,1),(.int .i64 46,.ptr k11 0,2),(.int .i64 47,.ptr k12 0,3),(.int .i64 48,.ptr k13 0,4),(.int .i64 49,.ptr k14 0,5),(.int .i64 50,.ptr k1g 0,6),(.int .i64 51,.ptr k1h 0,7)] 8),(kh,.cells 3 [.int .i64 0,.int .i64 45,.int .i64 46,.int .i64 47,.int .i64 48,.int .i64 49,.int .i64 50,.int .i64 51] true 0),(km,.map [] 25),(kr,.cells 273 [.int .i64 1,.int .i64 0,.str 5 491328597876,.ptr k9 0,.int .i64 2,.map ku,.slice k19 0 2 (.more 1),.slice k1a 0 1 (.more 1),.nilSlice,.int .i64 0,.int .i64 0,.int .i64 0] false 0),(ku,.map [(.str 6 52970656706933,.ptr k1q 0,2),(.str 5 435744240755,.ptr k1c 0,4)] 5),S7 ky k15 (.str 0 0) (.int .i64 2) (.int .i64 0),S4 k12,(k19,.cells 169 [.ptr k1q 0,.ptr k1c 0,.ptr k1c 0] true 0),Sb k1c kr k1e (.int .i64 2) (.int .i64 41) (.str 5 435744240755) (.int .i64 1) (.int .i64 0) (.int .i64 0) (.int .i64 0),Sh k1e,(k1f,.cells 211 [.ptr k1i 0,.ptr k1j 0,.ptr k1k 0,.slice k1l 0 1 (.more 1),.slice k1m 0 1 (.more 4)] false 0),Sa k1g,Sa k1h,(k1i,.cells 321 [.slice k1n 0 5 (.more 4),.int .i64 0,.int .i64 20000,.int .i64 0,.nilSlice,.bool false,.str 0 0,.float .f64 0,.bool false,.str 0 0,.float .f64 0,.bool false,.str 0 0,.float .f64 0,.bool false,.str 0 0,.float .f64 0,.bool false,.str 0 0,.float .f64 0,.bool false,.str 0 0,.float .f64 0,.bool false,.str 0 0,.float .f64 0,.bool false,.str 0 0,.float .f64 0,.bool false,.str 0 0,.float .f64 0,.bool false,.str 0 0,.float .f64 0,.bool false,.str 0 0,.float .f64 0,.bool false,.str 0 0,.float .f64 0,.bool false,.str 0 0,.float .f64 0,.bool false,.str 0 0,.float .f64 0,.bool false,.str 0 0,.float .f64 0,.bool false,.str 0 0,.float .f64 0,.bool false,.str 0 0,.float .f64 0,.bool false,.str 0 0,.float .f64 0,.bool false,.str 0 0,.float .f64 0,.bool false,.str 0 0,.float .f64 0,.bool false,.str 0 0,.float .f64 0,.bool false,.str 0 0,.float .f64 0,.bool false,.str 0 0,.float .f64 0,.bool false,.str 0 0,.float .f64 0,.bool false,.str 0 0,.float .f64 0,.bool false,.str 0 0,.float .f64 0,.bool false,.str 0 0,.float .f64 0,.bool false,.str 0 0,.float .f64 0,.bool false,.str 0 0,.float .f64 0,.bool false,.str 0 0,.float .f64 0,.bool false,.str 0 0,.float .f64 0,.bool false,.str 0 0,.float .f64 0,.bool false,.str 0 0,.float .f64 0,.bool false,.str 0 0,.float .f64 0,.bool false,.str 0 0,.float .f64 0,.bool false,.str 0 0,.float .f64 0,.bool false,.str 0 0,.float .f64 0,.bool false,.str 0 0,.float .f64 0,.bool false,.str 0 0,.float .f64 0,.bool false,.str 0 0,.float .f64 0,.bool false,.str 0 0,.float .f64 0,.bool false,.str 0 0,.float .f64 0,.bool false,.str 0 0,.float .f64 0,.bool false,.str 0 0,.float .f64 0,.bool false,.str 0 0,.float .f64 0,.bool false,.str 0 0,.float .f64 0,.bool false,.str 0 0,.float .f64 0,.bool false,.str 0 0,.float .f64 0,.bool false,.str 0 0,.float .f64 0,.bool false,.str 0 0,.float .f64 0,.bool false,.str 0 0,.float .f64 0,.bool false,.str 0 0,.float .f64 0,.bool false,.str 0 0,.float .f64 0,.bool false,.str 0 0,.float .f64 0,.bool false,.str 0 0,.float .f64 0,.bool false,.str 0 0,.float .f64 0,.bool false,.str 0 0,.float .f64 0,.bool false,.str 0 0,.float .f64 0,.bool false,.str 0 0,.float .f64 0,.bool false,.str 0 0,.float .f64 0,.bool false,.str 0 0,.float .f64 0,.bool false,.str 0 0,.float .f64 0,.bool false,.str 0 0,.float .f64 0,.bool false,.str 0 0,.float .f64 0,.int .i64 0,.int .i64 0,.str 0 0,.str 0 0,.int .i64 0,.int .i64 0,.int .i64 0,.int .i64 0,.str 0 0,.str 0 0,.int .i64 0,.str 0 0] false 0),(k1j,.cells 311 [.nilSlice] false 0),Sp k1k k1o k1o,(k1l,.cells 141 [.slice k1p 0 1 (.more 4)] true 0),S8 k1m,(k1n,.cells 354 [.int .i64 2,.int .i64 0,.float .f64 0,.str 1 101,.int .i64 1,.int .i64 0,.float .f64 4607182418800017408,.str 0 0,.int .i64 17,.int .i64 2,.float .f64 0,.str 5 491394460525,.int .i64 18,.int .i64 0,.float .f64 0,.str 0 0,.int .i64 0,.int .i64 0,.float .f64 0,.str 0 0] true 0),Sf k1o k1r (.int .i64 1) (.int .i64 493) (.str 0 0) (.str 0 0),S8 k1p,Sb k1q kr k1s (.int .i64 2) (.int .i64 3) (.str 6 52970656706933) (.int .i64 0) (.int .i64 0) (.int .i64 0) (.int .i64 0),Sq k1r k1t (.str 1 100),Sd k1s,Sr k1t k1u k1o (.int .i64 1) (.int .i64 493) (.str 0 0) (.str 1 100),Sg k1u] s2x
def s2z:RT AObj:=updS [S5 k0 k1 k2 k3 k4 k5 k6 kv (.int .i64 2),S0 k1 k7 (.int .i64 (-110)) (.int .i64 110),(k6,.map [(.int .i64 1,.agg [.str 12 14909952252669478796797554994,.int .i64 2],0)] 1),(k8,.cells 268 [.ptr kf 0,.int .i64 512,.map kg,.slice kh 0 9 (.more 1)] false 0),(ka,.bits 4 16384 5629499534213119),(kg,.map [(.int .i64 0,.ptr kn 0,0),(.int .i64 45,.ptr ko 0,1),(.int .i64 46,.ptr k11 0,2),(.int .i64 47,.ptr k12 0,3),(.int .i64 48,.ptr k13 0,4),(.int .i64 49,.ptr k14 0,5),(.int .i64 50,.ptr k1g 0,6),(.int .i64 51,.ptr k1h 0,7),(.int .i64 52,.ptr k1v 0,8)] 9),(kh,.cells 3 [.int .i64 0,.int .i64 45,.int .i64 46,.int .i64 47,.int .i64 48,.int .i64 49,.int .i64 50,.int .i64 51,.int .i64 52] true 0),(km,.map [] 33),(ku,.map [(.str 6 52970673484149,.ptr k1x 0,5),(.str 5 435744240755,.ptr k1c 0,7)] 8),S4 k14,(k19,.cells 169 [.ptr k1c 0,.ptr k1x 0,.ptr k1c 0,.ptr k1c 0] true 0),Sb k1c kr k1e (.int .i64 2) (.int .i64 41) (.str 5 435744240755) (.int .i64 0) (.int .i64 0) (.int .i64 0) (.int .i64 0),Se k1e,(k1i,.cells 321 [.slice k1n 0 5 (.more 4),.int .i64 3,.int .i64 19997,.int .i64 3,.slice k1w 0 1 (.more 3),.bool false,.str 0 0,.float .f64 0,.bool false,.str 0 0,.float .f64 0,.bool false,.str 0 0,.float .f64 0,.bool false,.str 0 0,.float .f64 0,.bool false,.str 0 0,.float .f64 0,.bool false,.str 0 0,.float .f64 0,.bool false,.str 0 0,.float .f64 0,.bool false,.str 0 0,.float .f64 0,.bool false,.str 0 0,.float .f64 0,.bool false,.str 0 0,.float .f64 0,.bool false,.str 0 0,.float .f64 0,.bool false,.str 0 0,.float .f64 0,.bool false,.str 0 0,.float .f64 0,.bool false,.str 0 0,.float .f64 0,.bool false,.str 0 0,.float .f64 0,.bool false,.str 0 0,.float .f64 0,.bool false,.str 0 0,.float .f64 0,.bool false,.str 0 0,.float .f64 0,.bool false,.str 0 0,.float .f64 0,.bool false,.str 0 0,.float .f64 0,.bool false,.str 0 0,.float .f64 0,.bool false,.str 0 0,.float .f64 0,.bool false,.str 0 0,.float .f64 0,.bool false,.str 0 0,.float .f64 0,.bool false,.str 0 0,.float .f64 0,.bool false,.str 0 0,.float .f64 0,.bool false,.str 0 0,.float .f64 0,.bool false,.str 0 0,.float .f64 0,.bool false,.str 0 0,.float .f64 0,.bool false,.str 0 0,.float .f64 0,.bool false,.str 0 0,.float .f64 0,.bool false,.str 0 0,.float .f64 0,.bool false,.str 0 0,.float .f64 0,.bool false,.str 0 0,.float .f64 0,.bool false,.str 0 0,.float .f64 0,.bool false,.str 0 0,.float .f64 0,.bool false,.str 0 0,.float .f64 0,.bool false,.str 0 0,.float .f64 0,.bool false,.str 0 0,.float .f64 0,.bool false,.str 0 0,.float .f64 0,.bool false,.str 0 0,.float .f64 0,.bool false,.str 0 0,.float .f64 0,.bool false,.str 0 0,.float .f64 0,.bool false,.str 0 0,.float .f64 0,.bool false,.str 0 0,.float .f64 0,.bool false,.str 0 0,.float .f64 0,.bool false,.str 0 0,.float .f64 0,.bool false,.str 0 0,.float .f64 0,.bool false,.str 0 0,.float .f64 0,.bool false,.str 0 0,.float .f64 0,.bool false,.str 0 0,.float .f64 0,.bool false,.str 0 0,.float .f64 0,.bool false,.str 0 0,.float .f64 0,.bool false,.str 0 0,.float .f64 0,.bool false,.str 0 0,.float .f64 0,.bool false,.str 0 0,.float .f64 0,.bool false,.str 0 0,.float .f64 0,.bool false,.str 0 0,.float .f64 0,.bool false,.str 0 0,.float .f64 0,.bool false,.str 0 0,.float .f64 0,.bool false,.str 0 0,.float .f64 0,.bool false,.str 0 0,.float .f64 0,.bool false,.str 0 0,.float .f64 0,.bool false,.str 0 0,.float .f64 0,.int .i64 0,.int .i64 0,.str 0 0,.str 0 0,.int .i64 0,.int .i64 0,.int .i64 0,.int .i64 0,.str 0 0,.str 5 491394460525,.int .i64 0,.str 0 0] false 0),Sv k1k k1o k1o,Sj k1r k1t k1z (.str 1 100) (.str 1 101),Sa k1v,(k1w,.cells 318 [.bool false,.str 0 0,.float .f64 0,.bool false,.str 0 0,.float .f64 4607182418800017408] true 0),Sb k1x kr k1y (.int .i64 2) (.int .i64 11) (.str 6 52970673484149) (.int .i64 1) (.int .i64 0) (.int .i64 0) (.int .i64 0),Sc k1y (.int .i64 49),Sr k1z k20 k1o (.int .i64 1) (.int .i64 1) (.str 0 0) (.str 1 101),Sg k20] s2y
def s30:RT AObj:=updS [(k1r,.cells 327 [.ptr k1u 0,.ptr k1u 0,.nilPtr,.ptr k2n 0,.ptr k2n 0,.ptr k2n 0,.ptr k2n 0,.ptr k2n 0,.ptr k2n 0,.ptr k2n 0,.int .i64 1] false 0)] s10
def s31:RT AObj:=updS [(k1r,.cells 327 [.ptr k1u 0,.ptr k1u 0,.nilPtr,.ptr k2n 0,.ptr k2n 0,.ptr k2n 0,.ptr k2n 0,.ptr k2n 0,.ptr k2n 0,.ptr k2n 0,.int .i64 1] false 0)] s12
def s32:RT AObj:=updS [Z2g] s2s
def s33:RT AObj:=updS [Z2g] s2u
def s34:RT AObj:=updS [Z2g] s2w
def s8_d:RT AObj:=updS [(k2h,.cells 389 [.int .i64 2,.int .i64 420,.str 3 6513249,.map k2i,.nilPtr,.str 0 0] false 0)] s8
def s21_d:RT AObj:=updS [(k2h,.cells 389 [.int .i64 2,.int .i64 420,.str 3 6513249,.map k2i,.nilPtr,.str 0 0] false 0)] s21
def tw0:List MRow:=[tR s2 k1r,
 tR s4 k1r,
 tR s5 k1r,
 tR s6 k24]
def tw1:List MRow:=[tR s7 k1r,
 tRd s8 s8_d k1r,
 tR s9 k1r,
 tR sa k24]
def tw2:List MRow:=[tR sb k1r,
 tR sc k1r,
 tR sd k24,
 tR se k1r]
def tw3:List MRow:=[tR sg k1r,
 tR sh k1r,
 tR si k1r,
 tR sj k24]
def tw4:List MRow:=[tR sk k1r,
 tR sl k1r,
 tR sn k1r,
 tR sp k1r]
def tw5:List MRow:=[tR sq k1r,
 tR sr k1r,
 tR ss k24,
 tR st k1r]
def tw6:List MRow:=[tR su k1r,
 tR sw k1r,
 tR sy k1r,
 tR sz k24]
def tw7:List MRow:=[tR s11 k24,
 tR s13 k24,
 tR s14 k1r,
 tR s15 k1r]
def tw8:List MRow:=[tR s17 k1r,
 tR s18 k1r,
 tR s1a k1r,
 tR s1c k1r]
def tw9:List MRow:=[tR s1d k1r,
 tR s1e k1r,
 tR s1g k1r,
 tR s1h k1r]
def tw10:List MRow:=[tR s1j k1r,
 tR s1l k1r,
 tR s1m k1r,
 tR s1n k1r]
def tw11:List MRow:=[tR s1p k1r,
 tR s1q k1r,
 tR s1s k1r,
 tR s1u k1r]
def tw12:List MRow:=[tR s20 k1r,
 tRd s21 s21_d k1r,
 tR s22 k1r,
 tR s23 k1r]
def tw13:List MRow:=[tR s24 k1r,
 tR s26 k1r,
 tR s27 k1r,
 tR s28 k1r]
def tw14:List MRow:=[tR s2a k1r,
 tR s2b k1r,
 tR s2d k1r,
 tR s2f k1r]
def tw15:List MRow:=[tR s2g k1r,
 tR s2h k1r,
 tR s2j k1r,
 tR s2k k1r]
def tw16:List MRow:=[tR s2m k1r,
 tR s2o k1r,
 tR s2p k1r,
 tR s2q k1r]
def tw17:List MRow:=[tR s2y k1k]
def trows:List MRow:=tw0 ++ (tw1 ++ (tw2 ++ (tw3 ++ (tw4 ++ (tw5 ++ (tw6 ++ (tw7 ++ (tw8 ++ (tw9 ++ (tw10 ++ (tw11 ++ (tw12 ++ (tw13 ++ (tw14 ++ (tw15 ++ (tw16 ++ (tw17)))))))))))))))))
def cr0:MRow:=cR tys k0 s0 k4
def cr1:MRow:=cR tys k0 s1 k4
def cr2:MRow:=cR tys k0 s2 k4
def cr3:MRow:=cR tys k0 s3 k4
def cr4:MRow:=cR tys k0 s4 k4
def cr5:MRow:=cR tys k0 s5 k4
def cr6:MRow:=cR tys k0 s6 k4
def cr7:MRow:=cR tys k0 s7 k4
def cr8:MRow:=cRd tys k0 s8 s8_d k4
def cr9:MRow:=cR tys k0 s9 k4
def cr10:MRow:=cR tys k0 sa k4
def cr11:MRow:=cR tys k0 sb k4
def cr12:MRow:=cR tys k0 sc k4
def cr13:MRow:=cR tys k0 sd k4
def cr14:MRow:=cR tys k0 se k4
def cr15:MRow:=cR tys k0 sf k4
def cr16:MRow:=cR tys k0 sg k4
def cr17:MRow:=cR tys k0 sh k4
def cr18:MRow:=cR tys k0 si k4
def cr19:MRow:=cR tys k0 sj k4
def cr20:MRow:=cR tys k0 sk k4
def cr21:MRow:=cR tys k0 sl k4
def cr22:MRow:=cR tys k0 sm k4
def cr23:MRow:=cR tys k0 sn k4
def cr24:MRow:=cR tys k0 so k4
def cr25:MRow:=cR tys k0 sp k4
def cr26:MRow:=cR tys k0 sq k4
def cr27:MRow:=cR tys k0 sr k4
def cr28:MRow:=cR tys k0 ss k4
def cr29:MRow:=cR tys k0 st k4
def cr30:MRow:=cR tys k0 su k4
def cr31:MRow:=cR tys k0 sv k4
def cr32:MRow:=cR tys k0 sw k4
def cr33:MRow:=cR tys k0 sx k4
def cr34:MRow:=cR tys k0 sy k4
def cr35:MRow:=cR tys k0 sz k4
def cr36:MRow:=cR tys k0 s10 k4
def cr37:MRow:=cR tys k0 s11 k4
def cr38:MRow:=cR tys k0 s12 k4
def cr39:MRow:=cR tys k0 s13 k4
def cr40:MRow:=cR tys k0 s14 k4
def cr41:MRow:=cR tys k0 s15 k4
def cr42:MRow:=cR tys k0 s16 k4
def cr43:MRow:=cR tys k0 s17 k4
def cr44:MRow:=cR tys k0 s18 k4
def cr45:MRow:=cR tys k0 s19 k4
def cr46:MRow:=cR tys k0 s1a k4
def cr47:MRow:=cR tys k0 s1b k4
def cr48:MRow:=cR tys k0 s1c k4
def cr49:MRow:=cR tys k0 s1d k4
def cr50:MRow:=cR tys k0 s1e k4
def cr51:MRow:=cR tys k0 s1f k4
def cr52:MRow:=cR tys k0 s1g k4
def cr53:MRow:=cR tys k0 s1h k4
def cr54:MRow:=cR tys k0 s1i k4
def cr55:MRow:=cR tys k0 s1j k4
def cr56:MRow:=cR tys k0 s1k k4
def cr57:MRow:=cR tys k0 s1l k4
def cr58:MRow:=cR tys k0 s1m k4
def cr59:MRow:=cR tys k0 s1n k4
def cr60:MRow:=cR tys k0 s1o k4
def cr61:MRow:=cR tys k0 s1p k4
def cr62:MRow:=cR tys k0 s1q k4
def cr63:MRow:=cR tys k0 s1r k4
def cr64:MRow:=cR tys k0 s1s k4
def cr65:MRow:=cR tys k0 s1t k4
def cr66:MRow:=cR tys k0 s1u k4
def cr67:MRow:=cR tys k0 s1v k4
def cr68:MRow:=cR tys k0 s1w k4
def cr69:MRow:=cR tys k0 s1x k4
def cr70:MRow:=cR tys k0 s1y k4
def cr71:MRow:=cR tys k0 s1z k4
def cr72:MRow:=cR tys k0 s20 k4
def cr73:MRow:=cRd tys k0 s21 s21_d k4
def cr74:MRow:=cR tys k0 s22 k4
def cr75:MRow:=cR tys k0 s23 k4
def cr76:MRow:=cR tys k0 s24 k4
def cr77:MRow:=cR tys k0 s25 k4
def cr78:MRow:=cR tys k0 s26 k4
def cr79:MRow:=cR tys k0 s27 k4
def cr80:MRow:=cR tys k0 s28 k4
def cr81:MRow:=cR tys k0 s29 k4
def cr82:MRow:=cR tys k0 s2a k4
def cr83:MRow:=cR tys k0 s2b k4
def cr84:MRow:=cR tys k0 s2c k4
def cr85:MRow:=cR tys k0 s2d k4
def cr86:MRow:=cR tys k0 s2e k4
def cr87:MRow:=cR tys k0 s2f k4
def cr88:MRow:=cR tys k0 s2g k4
def cr89:MRow:=cR tys k0 s2h k4
def cr90:MRow:=cR tys k0 s2i k4
def cr91:MRow:=cR tys k0 s2j k4
def cr92:MRow:=cR tys k0 s2k k4
def cr93:MRow:=cR tys k0 s2l k4
def cr94:MRow:=cR tys k0 s2m k4
def cr95:MRow:=cR tys k0 s2n k4
def cr96:MRow:=cR tys k0 s2o k4
def cr97:MRow:=cR tys k0 s2p k4
def cr98:MRow:=cR tys k0 s2q k4
def cr99:MRow:=cR tys k0 s2r k4
def cr100:MRow:=cR tys k0 s2s k4
def cr101:MRow:=cR tys k0 s2t k4
def cr102:MRow:=cR tys k0 s2u k4
def cr103:MRow:=cR tys k0 s2v k4
def cr104:MRow:=cR tys k0 s2w k4
def cr105:MRow:=cR tys k0 s2x k4
def cr106:MRow:=cR tys k0 s2y k4
def cw0:List MRow:=[cr0,
 cr1,
 cr2,
 cr3]
def cw1:List MRow:=[cr4,
 cr5,
 cr6,
 cr7]
def cw2:List MRow:=[cr8,
 cr9,
 cr10,
 cr11]
def cw3:List MRow:=[cr12,
 cr13,
 cr14,
 cr15]
def cw4:List MRow:=[cr16,
 cr17,
 cr18,
 cr19]
def cw5:List MRow:=[cr20,
 cr21,
 cr22,
 cr23]
def cw6:List MRow:=[cr24,
 cr25,
 cr26,
 cr27]
def cw7:List MRow:=[cr28,
 cr29,
 cr30,
 cr31]
def cw8:List MRow:=[cr32,
 cr33,
 cr34,
 cr35]
def cw9:List MRow:=[cr36,
 cr37,
 cr38,
 cr39]
def cw10:List MRow:=[cr40,
 cr41,
 cr42,
 cr43]
def cw11:List MRow:=[cr44,
 cr45,
 cr46,
 cr47]
def cw12:List MRow:=[cr48,
 cr49,
 cr50,
 cr51]
def cw13:List MRow:=[cr52,
 cr53,
 cr54,
 cr55]
def cw14:List MRow:=[cr56,
 cr57,
 cr58,
 cr59]
def cw15:List MRow:=[cr60,
 cr61,
 cr62,
 cr63]
def cw16:List MRow:=[cr64,
 cr65,
 cr66,
 cr67]
def cw17:List MRow:=[cr68,
 cr69,
 cr70,
 cr71]
def cw18:List MRow:=[cr72,
 cr73,
 cr74,
 cr75]
def cw19:List MRow:=[cr76,
 cr77,
 cr78,
 cr79]
def cw20:List MRow:=[cr80,
 cr81,
 cr82,
 cr83]
def cw21:List MRow:=[cr84,
 cr85,
 cr86,
 cr87]
def cw22:List MRow:=[cr88,
 cr89,
 cr90,
 cr91]
def cw23:List MRow:=[cr92,
 cr93,
 cr94,
 cr95]
def cw24:List MRow:=[cr96,
 cr97,
 cr98,
 cr99]
def cw25:List MRow:=[cr100,
 cr101,
 cr102,
 cr103]
def cw26:List MRow:=[cr104,
 cr105,
 cr106]
def crows:List MRow:=cw0 ++ (cw1 ++ (cw2 ++ (cw3 ++ (cw4 ++ (cw5 ++ (cw6 ++ (cw7 ++ (cw8 ++ (cw9 ++ (cw10 ++ (cw11 ++ (cw12 ++ (cw13 ++ (cw14 ++ (cw15 ++ (cw16 ++ (cw17 ++ (cw18 ++ (cw19 ++ (cw20 ++ (cw21 ++ (cw22 ++ (cw23 ++ (cw24 ++ (cw25 ++ (cw26))))))))))))))))))))))))))
def nw0:List MRow:=[nR s0 [.int .i64 16384] (.tup [.ptr k0 0,.int .i64 0]) k0]
def nw1:List MRow:=[⟨[.int .i64 16383],[],.tup [.nilPtr, .int .i64 2600],[]⟩]
def nrows:List MRow:=nw0 ++ (nw1)
def dw0:List MRow:=[dR tys k4 s0 s1 [.ptr k0 0,.agg [.int .i64 3,.str 1 116,.str 0 0,.str 31 104481335786327267040345892488766287127177228565394820989683512661121135206,.nilSlice,.int .i64 0,.int .i64 0,.str 0 0,.str 0 0,.int .i64 0,.int .i64 0,.int .i64 0,.int .i64 0,.str 0 0]] Zd [k5,k6,kh] [kv,kw,kx,ky,kz,k10,k11,k12,k13,k14,k15,k16,k17,k18,k19,k1a,k1b,k1c,k1d,k1e,k1f,k1g,k1h,k1i,k1j,k1k,k1l,k0,k1,k2,k8,ka,kc,kg,km,kq,kr,kt,ku] [(kh,.dead)]]
def dw1:List MRow:=[dR tys k4 s1 s2 [.ptr k0 0,.agg [.int .i64 4,.str 1 116,.str 0 0,.str 0 0,.nilSlice,.int .i64 0,.int .i64 0,.str 0 0,.str 0 0,.int .i64 0,.int .i64 0,.int .i64 0,.int .i64 0,.str 0 0]] (.tup [.agg [.int .i64 0,.int .i64 0,.int .i64 1,.str 0 0,.nilSlice,.nilSlice,.int .i64 0,.int .i64 0,.int .i64 0,.int .i64 0,.str 0 0,.nilSlice,.int .i64 0,.int .i64 0],.int .i64 0]) [k5,k6,kh,k1e,k1i,k1k,k1l] [k1n,k1o,k1s,k1t,k1v,k1w,k1x,k1z,k0,k1,k2,k8,ka,kg,km,kr,ku,kz,k15,k1h] [(kh,.dead),(k1e,.dead),(k1i,.dead)]]
def dw2:List MRow:=[dR tys k4 s2 s3 [.ptr k0 0,.agg [.int .i64 4,.str 1 116,.str 0 0,.str 0 0,.nilSlice,.int .i64 0,.int .i64 0,.str 0 0,.str 0 0,.int .i64 0,.int .i64 0,.int .i64 0,.int .i64 0,.str 0 0]] (.tup [.agg [.int .i64 0,.int .i64 0,.int .i64 2,.str 0 0,.nilSlice,.nilSlice,.int .i64 0,.int .i64 0,.int .i64 0,.int .i64 0,.str 0 0,.nilSlice,.int .i64 0,.int .i64 0],.int .i64 0]) [k5,k6,kh,k1e,k1i,k1k,k1l] [k21,k25,k26,k28,k29,k2a,k2c,k0,k1,k2,k8,ka,kg,km,kr,ku,kz,k17,k1h] [(kh,.dead),(k1e,.dead),(k1i,.dead)]]
def dw3:List MRow:=[dR tys k4 s3 s4 (cl 1 5 (.str 1 102) (.str 0 0) 0 0 0 420 (.str 6 127978876068212)) Zd [k5,k6,kh,k1e,k1f,k1i,k1l] [k2d,k2e,k2f,k2g,k0,k1,k8,ka,kg,km,kr,ku,k1o] [(ke,.dead),(kh,.dead),(k1e,.dead),(k1f,.dead),(k1x,.dead),(k1i,.dead)]]
def dw4:List MRow:=[dR tys k4 s4 s5 (cl 1 8 (.str 1 102) (.str 0 0) 0 0 0 0 (.str 3 6513249)) Ze Zv [k1x,k1z,k0,k1,ka,km,ku,k1e,k1f,k1n,k21] Zo]
def dw5:List MRow:=[dR tys k4 s5 s6 (cl 2 6 (.str 2 13167) (.str 0 0) 0 0 0 0 (.str 0 0)) Zd Zv [k2f,k2g,k0,k1,ka,km,ku,k1e,k2e] [(ke,.dead),(k2a,.dead),(k1i,.dead)]]
def dw6:List MRow:=[dR tys k4 s6 s7 (cl 1 14 (.str 1 102) (.str 0 0) 0 0 0 0 (.str 0 0)) Zd [] [k0] [(ke,.dead)]]
def dw7:List MRow:=[dR tys k4 s7 s8 (cl 1 11 (.str 1 102) (.str 0 0) 0 0 0 0 (.str 0 0)) Zd Zv Zw [(ke,.dead),(k1x,.dead),(k1i,.dead)]]
def dw8:List MRow:=[dR tys k4 s8 s9 Z0 Zf [] [k0] [(ke,.dead)]]
def dw9:List MRow:=[dR tys k4 s9 sa Z1 Zd Zv Zx Zo]
def dw10:List MRow:=[dR tys k4 sa sa Z2 Zg [] [k0] Zp]
def dw11:List MRow:=[dR tys k4 sa sb Z3 Zd Zv [k2f,k2g,k0,k1,ka,km,ku,k1e] Zq]
def dw12:List MRow:=[dR tys k4 sb sc Z4 Zd [] [k0] Zp]
def dw13:List MRow:=[dR tys k4 sc sd Z5 Zd Zv Zw Zr]
def dw14:List MRow:=[dR tys k4 sd sd Z2 Zh [] [k0] Zp]
def dw15:List MRow:=[dR tys k4 sd sd Z6 Zh [] [k0] Zp]
def dw16:List MRow:=[dR tys k4 sb se Z7 Zf [] [k0] Zp]
def dw17:List MRow:=[dR tys k4 se sf Z5 Zd Zv Zw Zr]
def dw18:List MRow:=[dR tys k4 sf sg Z4 Zd [] [k0] Zp]
def dw19:List MRow:=[dR tys k4 sg sg Z2 Zh [] [k0] Zp]
def dw20:List MRow:=[dR tys k4 sg sg Z6 Zh [] [k0] Zp]
def dw21:List MRow:=[dR tys k4 sf sh Z7 Zi [] [k0] Zp]
def dw22:List MRow:=[dR tys k4 sh si Z4 Zd [] [k0] Zp]
def dw23:List MRow:=[dR tys k4 si si Z2 Zh [] [k0] Zp]
def dw24:List MRow:=[dR tys k4 si sj Z8 Zd Zv Zx Zq]
def dw25:List MRow:=[dR tys k4 sj sj Z6 Zh [] [k0] Zp]
def dw26:List MRow:=[dR tys k4 sh sk Z7 Ze [] [k0] Zp]
def dw27:List MRow:=[dR tys k4 sk sl Z4 Zd [] [k0] Zp]
def dw28:List MRow:=[dR tys k4 sl sm Z8 Zd Zv Zx Zq]
def dw29:List MRow:=[dR tys k4 sm sm Z2 Zh [] [k0] Zp]
def dw30:List MRow:=[dR tys k4 sm sm Z6 Zh [] [k0] Zp]
def dw31:List MRow:=[dR tys k4 sk sn Z7 Zj [] [k0] Zp]
def dw32:List MRow:=[dR tys k4 sn so Z8 Zd Zv Zx Zq]
def dw33:List MRow:=[dR tys k4 so sp Z4 Zd [] [k0] Zp]
def dw34:List MRow:=[dR tys k4 sp sp Z2 Zh [] [k0] Zp]
def dw35:List MRow:=[dR tys k4 sp sp Z6 Zh [] [k0] Zp]
def dw36:List MRow:=[dR tys k4 so sq Z7 Zk [] [k0] Zp]
def dw37:List MRow:=[dR tys k4 sq sr Z4 Zd [] [k0] Zp]
def dw38:List MRow:=[dR tys k4 sr sr Z2 Zh [] [k0] Zp]
def dw39:List MRow:=[dR tys k4 sr ss Z9 Zd Zv Zw Zr]
def dw40:List MRow:=[dR tys k4 ss ss Z6 Zh [] [k0] Zp]
def dw41:List MRow:=[dR tys k4 sq st Z7 Zl [] [k0] Zp]
def dw42:List MRow:=[dR tys k4 st su Z4 Zd [] [k0] Zp]
def dw43:List MRow:=[dR tys k4 su sv Z9 Zd Zv Zw Zr]
def dw44:List MRow:=[dR tys k4 sv sv Z2 Zh [] [k0] Zp]
def dw45:List MRow:=[dR tys k4 sv sv Z6 Zh [] [k0] Zp]
def dw46:List MRow:=[dR tys k4 st sw Z7 Zm [] [k0] Zp]
def dw47:List MRow:=[dR tys k4 sw sx Z9 Zd Zv Zw Zr]
def dw48:List MRow:=[dR tys k4 sx sy Z4 Zd [] [k0] Zp]
def dw49:List MRow:=[dR tys k4 sy sy Z2 Zh [] [k0] Zp]
def dw50:List MRow:=[dR tys k4 sy sy Z6 Zh [] [k0] Zp]
def dw51:List MRow:=[dR tys k4 sx sx Z7 Zn [] [k0] Zp]
def dw52:List MRow:=[dR tys k4 sy sz Za Zd Zv Zx Zq]
def dw53:List MRow:=[dR tys k4 sz sz Z6 Zh [] [k0] Zp]
def dw54:List MRow:=[dR tys k4 sz sz Z2 Zh [] [k0] Zp]
def dw55:List MRow:=[dR tys k4 sx s10 Za Zd Zv Zx Zq]
def dw56:List MRow:=[dR tys k4 s10 s30 Z4 Zd [] [k0] Zp]
def dw57:List MRow:=[dR tys k4 s10 s10 Z7 Zn [] [k0] Zp]
def dw58:List MRow:=[dR tys k4 sz s11 Zb Zd Zv Zw Zr]
def dw59:List MRow:=[dR tys k4 s11 s11 Z6 Zh [] [k0] Zp]
def dw60:List MRow:=[dR tys k4 s11 s11 Z2 Zh [] [k0] Zp]
def dw61:List MRow:=[dR tys k4 s10 s12 Zb Zd Zv Zw Zr]
def dw62:List MRow:=[dR tys k4 s12 s31 Z4 Zd [] [k0] Zp]
def dw63:List MRow:=[dR tys k4 s12 s12 Z7 Zn [] [k0] Zp]
def dw64:List MRow:=[dR tys k4 s11 s13 Zc Zd Zv Zx Zq]
def dw65:List MRow:=[dR tys k4 s13 s13 Z6 Zh [] [k0] Zp]
def dw66:List MRow:=[dR tys k4 s13 s13 Z2 Zh [] [k0] Zp]
def dw67:List MRow:=[dR tys k4 s7 s14 (cl 1 13 (.str 1 102) (.str 1 103) 0 0 0 0 (.str 0 0)) Zd Zv Zw [(ke,.dead),(k1x,.dead),(k1i,.dead)]]
def dw68:List MRow:=[dR tys k4 s14 s15 Z0 Zf Zv Zx [(ke,.dead),(k2a,.dead),(k1i,.dead)]]
def dw69:List MRow:=[dR tys k4 s15 s16 Z1 Zd Zv Zw Zo]
def dw70:List MRow:=[dR tys k4 s16 s16 Z2 Zg [] [k0] Zp]
def dw71:List MRow:=[dR tys k4 s16 s17 Z3 Zd Zv [k2f,k2g,k0,k1,ka,km,ku,k1e] Zr]
def dw72:List MRow:=[dR tys k4 s17 s18 Z4 Zd [] [k0] Zs]
def dw73:List MRow:=[dR tys k4 s18 s19 Z5 Zd Zv Zx Zt]
def dw74:List MRow:=[dR tys k4 s19 s19 Z2 Zh [] [k0] Zs]
def dw75:List MRow:=[dR tys k4 s19 s19 Z6 Zh [] [k0] Zs]
def dw76:List MRow:=[dR tys k4 s17 s1a Z7 Zf [] [k0] Zs]
def dw77:List MRow:=[dR tys k4 s1a s1b Z5 Zd Zv Zx Zt]
def dw78:List MRow:=[dR tys k4 s1b s1c Z4 Zd [] [k0] Zs]
def dw79:List MRow:=[dR tys k4 s1c s1c Z2 Zh [] [k0] Zs]
def dw80:List MRow:=[dR tys k4 s1c s1c Z6 Zh [] [k0] Zs]
def dw81:List MRow:=[dR tys k4 s1b s1d Z7 Zi [] [k0] Zs]
def dw82:List MRow:=[dR tys k4 s1d s1e Z4 Zd [] [k0] Zs]
def dw83:List MRow:=[dR tys k4 s1e s1e Z2 Zh [] [k0] Zs]
def dw84:List MRow:=[dR tys k4 s1e s1f Z8 Zd Zv Zw Zu]
def dw85:List MRow:=[dR tys k4 s1f s1f Z6 Zh [] [k0] Zs]
def dw86:List MRow:=[dR tys k4 s1d s1g Z7 Ze [] [k0] Zs]
def dw87:List MRow:=[dR tys k4 s1g s1h Z4 Zd [] [k0] Zs]
def dw88:List MRow:=[dR tys k4 s1h s1i Z8 Zd Zv Zw Zu]
def dw89:List MRow:=[dR tys k4 s1i s1i Z2 Zh [] [k0] Zs]
def dw90:List MRow:=[dR tys k4 s1i s1i Z6 Zh [] [k0] Zs]
def dw91:List MRow:=[dR tys k4 s1g s1j Z7 Zj [] [k0] Zs]
def dw92:List MRow:=[dR tys k4 s1j s1k Z8 Zd Zv Zw Zu]
def dw93:List MRow:=[dR tys k4 s1k s1l Z4 Zd [] [k0] Zs]
def dw94:List MRow:=[dR tys k4 s1l s1l Z2 Zh [] [k0] Zs]
def dw95:List MRow:=[dR tys k4 s1l s1l Z6 Zh [] [k0] Zs]
def dw96:List MRow:=[dR tys k4 s1k s1m Z7 Zk [] [k0] Zs]
def dw97:List MRow:=[dR tys k4 s1m s1n Z4 Zd [] [k0] Zs]
def dw98:List MRow:=[dR tys k4 s1n s1n Z2 Zh [] [k0] Zs]
def dw99:List MRow:=[dR tys k4 s1n s1o Z9 Zd Zv Zx Zt]
def dw100:List MRow:=[dR tys k4 s1o s1o Z6 Zh [] [k0] Zs]
def dw101:List MRow:=[dR tys k4 s1m s1p Z7 Zl [] [k0] Zs]
def dw102:List MRow:=[dR tys k4 s1p s1q Z4 Zd [] [k0] Zs]
def dw103:List MRow:=[dR tys k4 s1q s1r Z9 Zd Zv Zx Zt]
def dw104:List MRow:=[dR tys k4 s1r s1r Z2 Zh [] [k0] Zs]
def dw105:List MRow:=[dR tys k4 s1r s1r Z6 Zh [] [k0] Zs]
def dw106:List MRow:=[dR tys k4 s1p s1s Z7 Zm [] [k0] Zs]
def dw107:List MRow:=[dR tys k4 s1s s1t Z9 Zd Zv Zx Zt]
def dw108:List MRow:=[dR tys k4 s1t s1u Z4 Zd [] [k0] Zs]
def dw109:List MRow:=[dR tys k4 s1u s1u Z2 Zh [] [k0] Zs]
def dw110:List MRow:=[dR tys k4 s1u s1u Z6 Zh [] [k0] Zs]
def dw111:List MRow:=[dR tys k4 s1t s1t Z7 Zn [] [k0] Zs]
def dw112:List MRow:=[dR tys k4 s1u s1v Za Zd Zv Zw Zu]
def dw113:List MRow:=[dR tys k4 s1v s1v Z6 Zh [] [k0] Zs]
def dw114:List MRow:=[dR tys k4 s1v s1v Z2 Zh [] [k0] Zs]
def dw115:List MRow:=[dR tys k4 s1t s1w Za Zd Zv Zw Zu]
def dw116:List MRow:=[dR tys k4 s1w s1v Z4 Zd [] [k0] Zs]
def dw117:List MRow:=[dR tys k4 s1w s1w Z7 Zn [] [k0] Zs]
def dw118:List MRow:=[dR tys k4 s1v s1x Zb Zd Zv Zx Zt]
def dw119:List MRow:=[dR tys k4 s1x s1x Z6 Zh [] [k0] Zs]
def dw120:List MRow:=[dR tys k4 s1x s1x Z2 Zh [] [k0] Zs]
def dw121:List MRow:=[dR tys k4 s1w s1y Zb Zd Zv Zx Zt]
def dw122:List MRow:=[dR tys k4 s1y s1x Z4 Zd [] [k0] Zs]
def dw123:List MRow:=[dR tys k4 s1y s1y Z7 Zn [] [k0] Zs]
def dw124:List MRow:=[dR tys k4 s1x s1z Zc Zd Zv Zw Zu]
def dw125:List MRow:=[dR tys k4 s1z s1z Z6 Zh [] [k0] Zs]
def dw126:List MRow:=[dR tys k4 s1z s1z Z2 Zh [] [k0] Zs]
def dw127:List MRow:=[dR tys k4 s7 s20 (cl 1 5 (.str 1 103) (.str 0 0) 0 0 0 420 (.str 6 127978876068212)) Zd Zv Zw [(ke,.dead),(k1x,.dead),(k1i,.dead)]]
def dw128:List MRow:=[dR tys k4 s20 s21 (cl 1 13 (.str 1 103) (.str 1 102) 0 0 0 0 (.str 0 0)) Zd Zv Zx [(ke,.dead),(k2a,.dead),(k1i,.dead),(k1y,.dead)]]
def dw129:List MRow:=[dR tys k4 s21 s22 Z1 Zd Zv Zw Zo]
def dw130:List MRow:=[dR tys k4 s22 s23 Z0 Zf [] [k0] Zp]
def dw131:List MRow:=[dR tys k4 s23 s23 Z2 Zg [] [k0] Zp]
def dw132:List MRow:=[dR tys k4 s23 s24 Z3 Zd Zv [k2f,k2g,k0,k1,ka,km,ku,k1e] Zr]
def dw133:List MRow:=[dR tys k4 s24 s25 Z5 Zd Zv Zx Zt]
def dw134:List MRow:=[dR tys k4 s25 s26 Z4 Zd [] [k0] Zs]
def dw135:List MRow:=[dR tys k4 s26 s26 Z2 Zh [] [k0] Zs]
def dw136:List MRow:=[dR tys k4 s26 s26 Z6 Zh [] [k0] Zs]
def dw137:List MRow:=[dR tys k4 s25 s27 Z7 Zf [] [k0] Zs]
def dw138:List MRow:=[dR tys k4 s27 s28 Z4 Zd [] [k0] Zs]
def dw139:List MRow:=[dR tys k4 s28 s28 Z2 Zh [] [k0] Zs]
def dw140:List MRow:=[dR tys k4 s28 s29 Z8 Zd Zv Zw Zu]
def dw141:List MRow:=[dR tys k4 s29 s29 Z6 Zh [] [k0] Zs]
def dw142:List MRow:=[dR tys k4 s27 s2a Z7 Zi [] [k0] Zs]
def dw143:List MRow:=[dR tys k4 s2a s2b Z4 Zd [] [k0] Zs]
def dw144:List MRow:=[dR tys k4 s2b s2c Z8 Zd Zv Zw Zu]
def dw145:List MRow:=[dR tys k4 s2c s2c Z2 Zh [] [k0] Zs]
def dw146:List MRow:=[dR tys k4 s2c s2c Z6 Zh [] [k0] Zs]
def dw147:List MRow:=[dR tys k4 s2a s2d Z7 Ze [] [k0] Zs]
def dw148:List MRow:=[dR tys k4 s2d s2e Z8 Zd Zv Zw Zu]
def dw149:List MRow:=[dR tys k4 s2e s2f Z4 Zd [] [k0] Zs]
def dw150:List MRow:=[dR tys k4 s2f s2f Z2 Zh [] [k0] Zs]
def dw151:List MRow:=[dR tys k4 s2f s2f Z6 Zh [] [k0] Zs]
def dw152:List MRow:=[dR tys k4 s2e s2g Z7 Zj [] [k0] Zs]
def dw153:List MRow:=[dR tys k4 s2g s2h Z4 Zd [] [k0] Zs]
def dw154:List MRow:=[dR tys k4 s2h s2h Z2 Zh [] [k0] Zs]
def dw155:List MRow:=[dR tys k4 s2h s2i Z9 Zd Zv Zx Zt]
def dw156:List MRow:=[dR tys k4 s2i s2i Z6 Zh [] [k0] Zs]
def dw157:List MRow:=[dR tys k4 s2g s2j Z7 Zk [] [k0] Zs]
def dw158:List MRow:=[dR tys k4 s2j s2k Z4 Zd [] [k0] Zs]
def dw159:List MRow:=[dR tys k4 s2k s2l Z9 Zd Zv Zx Zt]
def dw160:List MRow:=[dR tys k4 s2l s2l Z2 Zh [] [k0] Zs]
def dw161:List MRow:=[dR tys k4 s2l s2l Z6 Zh [] [k0] Zs]
def dw162:List MRow:=[dR tys k4 s2j s2m Z7 Zl [] [k0] Zs]
def dw163:List MRow:=[dR tys k4 s2m s2n Z9 Zd Zv Zx Zt]
def dw164:List MRow:=[dR tys k4 s2n s2o Z4 Zd [] [k0] Zs]
def dw165:List MRow:=[dR tys k4 s2o s2o Z2 Zh [] [k0] Zs]
def dw166:List MRow:=[dR tys k4 s2o s2o Z6 Zh [] [k0] Zs]
def dw167:List MRow:=[dR tys k4 s2n s2p Z7 Zm [] [k0] Zs]
def dw168:List MRow:=[dR tys k4 s2p s2q Z4 Zd [] [k0] Zs]
def dw169:List MRow:=[dR tys k4 s2q s2q Z2 Zh [] [k0] Zs]
def dw170:List MRow:=[dR tys k4 s2q s2r Za Zd Zv Zw Zu]
def dw171:List MRow:=[dR tys k4 s2r s2r Z6 Zh [] [k0] Zs]
def dw172:List MRow:=[dR tys k4 s2p s2p Z7 Zn [] [k0] Zs]
def dw173:List MRow:=[dR tys k4 s2r s2r Z2 Zh [] [k0] Zs]
def dw174:List MRow:=[dR tys k4 s2p s2s Za Zd Zv Zw Zu]
def dw175:List MRow:=[dR tys k4 s2s s32 Z4 Zd [] [k0] Zs]
def dw176:List MRow:=[dR tys k4 s2s s2s Z7 Zn [] [k0] Zs]
def dw177:List MRow:=[dR tys k4 s2r s2t Zb Zd Zv Zx Zt]
def dw178:List MRow:=[dR tys k4 s2t s2t Z6 Zh [] [k0] Zs]
def dw179:List MRow:=[dR tys k4 s2t s2t Z2 Zh [] [k0] Zs]
def dw180:List MRow:=[dR tys k4 s2s s2u Zb Zd Zv Zx Zt]
def dw181:List MRow:=[dR tys k4 s2u s33 Z4 Zd [] [k0] Zs]
def dw182:List MRow:=[dR tys k4 s2u s2u Z7 Zn [] [k0] Zs]
def dw183:List MRow:=[dR tys k4 s2t s2v Zc Zd Zv Zw Zu]
def dw184:List MRow:=[dR tys k4 s2v s2v Z6 Zh [] [k0] Zs]
def dw185:List MRow:=[dR tys k4 s2v s2v Z2 Zh [] [k0] Zs]
def dw186:List MRow:=[dR tys k4 s2u s2w Zc Zd Zv Zw Zu]
def dw187:List MRow:=[dR tys k4 s2w s34 Z4 Zd [] [k0] Zs]
def dw188:List MRow:=[dR tys k4 s0 s2x [.ptr k0 0,.agg [.int .i64 3,.str 1 116,.str 0 0,.str 19 1318739858033904608473444756492996921336492646,.nilSlice,.int .i64 0,.int .i64 0,.str 0 0,.str 0 0,.int .i64 0,.int .i64 0,.int .i64 0,.int .i64 0,.str 0 0]] Zd [k5,k6,kh] [kv,kw,kx,ky,kz,k10,k11,k12,k13,k14,k15,k16,k17,k18,k19,k1a,k1b,k1c,k1d,k1e,k0,k1,k2,k8,ka,kc,kg,km,kq,kr,kt,ku] [(kh,.dead)]]
def dw189:List MRow:=[dR tys k4 s2x s2y [.ptr k0 0,.agg [.int .i64 4,.str 1 116,.str 0 0,.str 17 20131413071242410322311321564098966089572,.nilSlice,.int .i64 0,.int .i64 0,.str 0 0,.str 0 0,.int .i64 0,.int .i64 0,.int .i64 0,.int .i64 0,.str 0 0]] (.tup [.agg [.int .i64 0,.int .i64 0,.int .i64 1,.str 0 0,.nilSlice,.nilSlice,.int .i64 0,.int .i64 0,.int .i64 0,.int .i64 0,.str 0 0,.nilSlice,.int .i64 0,.int .i64 0],.int .i64 0]) [k5,k6,kh,k19,k1c,k1d,k1e] [k1g,k1h,k1l,k1m,k1n,k1p,k1q,k1s,k0,k1,k2,k8,ka,kg,km,kr,ku,ky,k12,k1b] [(kh,.dead),(k19,.dead),(k1c,.dead)]]
def dw190:List MRow:=[dR tys k4 s2y s2z [.ptr k0 0,.agg [.int .i64 5,.str 0 0,.str 0 0,.str 0 0,.nilSlice,.int .i64 1,.int .i64 0,.str 0 0,.str 0 0,.int .i64 0,.int .i64 0,.int .i64 0,.int .i64 0,.str 0 0]] Zd [k5,k6,kh,k19,k1c,k1e] [k1v,k1w,k1x,k1y,k0,k1,k8,ka,kg,km,kr,ku,k14] [(kh,.dead),(k19,.dead),(k1q,.dead),(k1c,.dead)]]
def drows:List MRow:=dw0 ++ (dw1 ++ (dw2 ++ (dw3 ++ (dw4 ++ (dw5 ++ (dw6 ++ (dw7 ++ (dw8 ++ (dw9 ++ (dw10 ++ (dw11 ++ (dw12 ++ (dw13 ++ (dw14 ++ (dw15 ++ (dw16 ++ (dw17 ++ (dw18 ++ (dw19 ++ (dw20 ++ (dw21 ++ (dw22 ++ (dw23 ++ (dw24 ++ (dw25 ++ (dw26 ++ (dw27 ++ (dw28 ++ (dw29 ++ (dw30 ++ (dw31 ++ (dw32 ++ (dw33 ++ (dw34 ++ (dw35 ++ (dw36 ++ (dw37 ++ (dw38 ++ (dw39 ++ (dw40 ++ (dw41 ++ (dw42 ++ (dw43 ++ (dw44 ++ (dw45 ++ (dw46 ++ (dw47 ++ (dw48 ++ (dw49 ++ (dw50 ++ (dw51 ++ (dw52 ++ (dw53 ++ (dw54 ++ (dw55 ++ (dw56 ++ (dw57 ++ (dw58 ++ (dw59 ++ (dw60 ++ (dw61 ++ (dw62 ++ (dw63 ++ (dw64 ++ (dw65 ++ (dw66 ++ (dw67 ++ (dw68 ++ (dw69 ++ (dw70 ++ (dw71 ++ (dw72 ++ (dw73 ++ (dw74 ++ (dw75 ++ (dw76 ++ (dw77 ++ (dw78 ++ (dw79 ++ (dw80 ++ (dw81 ++ (dw82 ++ (dw83 ++ (dw84 ++ (dw85 ++ (dw86 ++ (dw87 ++ (dw88 ++ (dw89 ++ (dw90 ++ (dw91 ++ (dw92 ++ (dw93 ++ (dw94 ++ (dw95 ++ (dw96 ++ (dw97 ++ (dw98 ++ (dw99 ++ (dw100 ++ (dw101 ++ (dw102 ++ (dw103 ++ (dw104 ++ (dw105 ++ (dw106 ++ (dw107 ++ (dw108 ++ (dw109 ++ (dw110 ++ (dw111 ++ (dw112 ++ (dw113 ++ (dw114 ++ (dw115 ++ (dw116 ++ (dw117 ++ (dw118 ++ (dw119 ++ (dw120 ++ (dw121 ++ (dw122 ++ (dw123 ++ (dw124 ++ (dw125 ++ (dw126 ++ (dw127 ++ (dw128 ++ (dw129 ++ (dw130 ++ (dw131 ++ (dw132 ++ (dw133 ++ (dw134 ++ (dw135 ++ (dw136 ++ (dw137 ++ (dw138 ++ (dw139 ++ (dw140 ++ (dw141 ++ (dw142 ++ (dw143 ++ (dw144 ++ (dw145 ++ (dw146 ++ (dw147 ++ (dw148 ++ (dw149 ++ (dw150 ++ (dw151 ++ (dw152 ++ (dw153 ++ (dw154 ++ (dw155 ++ (dw156 ++ (dw157 ++ (dw158 ++ (dw159 ++ (dw160 ++ (dw161 ++ (dw162 ++ (dw163 ++ (dw164 ++ (dw165 ++ (dw166 ++ (dw167 ++ (dw168 ++ (dw169 ++ (dw170 ++ (dw171 ++ (dw172 ++ (dw173 ++ (dw174 ++ (dw175 ++ (dw176 ++ (dw177 ++ (dw178 ++ (dw179 ++ (dw180 ++ (dw181 ++ (dw182 ++ (dw183 ++ (dw184 ++ (dw185 ++ (dw186 ++ (dw187 ++ (dw188 ++ (dw189 ++ (dw190))))))))))))))))))))))))))))))))))))))))))))))))))))))))))))))))))))))))))))))))))))))))))))))))))))))))))))))))))))))))))))))))))))))))))))))))))))))))))))))))))))))))))))))))))))))))))))))
def brows:List MRow:=[]
def yr0 : ORow := ⟨[.ptr ⟨.d0, .d0, .d0, .d0, .d1⟩ 0], [(⟨.d0, .d0, .d0, .d0, .d1⟩, .fixed 273 [.int .i64 1, .rng 0 1024, .ustr 5, .junk, .junk, .junk, .junk, .nilSlice, .junk, .rng 0 4096, .rng 0 4096, .junk])], .ustr 63⟩
def yr1 : ORow := ⟨[.ptr ⟨.d0, .d0, .d0, .d0, .d1⟩ 0], [(⟨.d0, .d0, .d0, .d0, .d1⟩, .fixed 273 [.int .i64 1, .rng 0 1024, .ustr 6, .junk, .junk, .junk, .junk, .slice ⟨.d1, .d0, .d0, .d0, .d1⟩ 0 1 (.more 1), .junk, .rng 0 4096, .rng 0 4096, .junk]), (⟨.d1, .d0, .d0, .d0, .d1⟩, .fixed 3 [.rng 0 4096])], .ustr 63⟩
def yr2 : ORow := ⟨[.ptr ⟨.d0, .d0, .d0, .d0, .d1⟩ 0], [(⟨.d0, .d0, .d0, .d0, .d1⟩, .fixed 273 [.int .i64 2, .rng 0 1024, .ustr 3, .junk, .junk, .junk, .junk, .junk, .nilSlice, .rng 0 4096, .rng 0 4096, .junk])], .ustr 63⟩
def yr3 : ORow := ⟨[.ptr ⟨.d0, .d0, .d0, .d0, .d1⟩ 0], [(⟨.d0, .d0, .d0, .d0, .d1⟩, .fixed 273 [.int .i64 2, .rng 0 1024, .ustr 3, .junk, .junk, .junk, .junk, .junk, .slice ⟨.d1, .d0, .d0, .d0, .d1⟩ 0 1 (.is 1), .rng 0 4096, .rng 0 4096, .junk]), (⟨.d1, .d0, .d0, .d0, .d1⟩, .fixed 3 [.rng 0 4096])], .ustr 63⟩
def yr4 : ORow := ⟨[.ptr ⟨.d0, .d0, .d0, .d0, .d1⟩ 0], [(⟨.d0, .d0, .d0, .d0, .d1⟩, .fixed 273 [.int .i64 1, .rng 0 1024, .ustr 6, .junk, .junk, .junk, .junk, .slice ⟨.d1, .d0, .d0, .d0, .d1⟩ 0 0 (.more 1), .junk, .rng 0 4096, .rng 0 4096, .junk]), (⟨.d1, .d0, .d0, .d0, .d1⟩, .fixed 3 [.rng 0 4096])], .ustr 63⟩
def yr5 : ORow := ⟨[.ptr ⟨.d0, .d0, .d0, .d0, .d1⟩ 0], [(⟨.d0, .d0, .d0, .d0, .d1⟩, .fixed 273 [.int .i64 2, .rng 0 1024, .ustr 12, .junk, .junk, .junk, .junk, .junk, .slice ⟨.d1, .d0, .d0, .d0, .d1⟩ 0 1 (.is 1), .rng 0 4096, .rng 0 4096, .junk]), (⟨.d1, .d0, .d0, .d0, .d1⟩, .fixed 3 [.rng 0 4096])], .ustr 63⟩
def yr6 : ORow := ⟨[.ptr ⟨.d0, .d0, .d0, .d0, .d1⟩ 0], [(⟨.d0, .d0, .d0, .d0, .d1⟩, .fixed 273 [.int .i64 1, .rng 0 1024, .ustr 5, .junk, .junk, .junk, .junk, .slice ⟨.d1, .d0, .d0, .d0, .d1⟩ 0 1 (.more 1), .junk, .rng 0 4096, .rng 0 4096, .junk]), (⟨.d1, .d0, .d0, .d0, .d1⟩, .fixed 3 [.rng 0 4096])], .ustr 63⟩
def yr7 : ORow := ⟨[.ptr ⟨.d0, .d0, .d0, .d0, .d1⟩ 0], [(⟨.d0, .d0, .d0, .d0, .d1⟩, .fixed 273 [.int .i64 1, .rng 0 1024, .ustr 5, .junk, .junk, .junk, .junk, .slice ⟨.d1, .d0, .d0, .d0, .d1⟩ 0 0 (.more 1), .junk, .rng 0 4096, .rng 0 4096, .junk]), (⟨.d1, .d0, .d0, .d0, .d1⟩, .fixed 3 [.rng 0 4096])], .ustr 63⟩
def yr8 : ORow := ⟨[.ptr ⟨.d0, .d0, .d0, .d0, .d1⟩ 0], [(⟨.d0, .d0, .d0, .d0, .d1⟩, .fixed 273 [.int .i64 2, .rng 0 1024, .ustr 5, .junk, .junk, .junk, .junk, .junk, .slice ⟨.d1, .d0, .d0, .d0, .d1⟩ 0 1 (.is 1), .rng 0 4096, .rng 0 4096, .junk]), (⟨.d1, .d0, .d0, .d0, .d1⟩, .fixed 3 [.rng 0 4096])], .ustr 63⟩
def yr9 : ORow := ⟨[.ptr ⟨.d0, .d0, .d0, .d0, .d1⟩ 0], [(⟨.d0, .d0, .d0, .d0, .d1⟩, .fixed 273 [.int .i64 2, .rng 0 1024, .ustr 6, .junk, .junk, .junk, .junk, .junk, .nilSlice, .rng 0 4096, .rng 0 4096, .junk])], .ustr 63⟩
def yr10 : ORow := ⟨[.ptr ⟨.d0, .d0, .d0, .d0, .d1⟩ 0], [(⟨.d0, .d0, .d0, .d0, .d1⟩, .fixed 273 [.int .i64 2, .rng 0 1024, .ustr 6, .junk, .junk, .junk, .junk, .junk, .slice ⟨.d1, .d0, .d0, .d0, .d1⟩ 0 1 (.is 1), .rng 0 4096, .rng 0 4096, .junk]), (⟨.d1, .d0, .d0, .d0, .d1⟩, .fixed 3 [.rng 0 4096])], .ustr 63⟩
def yr11 : ORow := ⟨[.ptr ⟨.d0, .d0, .d0, .d0, .d1⟩ 0], [(⟨.d0, .d0, .d0, .d0, .d1⟩, .fixed 273 [.int .i64 2, .rng 0 1024, .ustr 7, .junk, .junk, .junk, .junk, .junk, .nilSlice, .rng 0 4096, .rng 0 4096, .junk])], .ustr 63⟩
def yr12 : ORow := ⟨[.ptr ⟨.d0, .d0, .d0, .d0, .d1⟩ 0], [(⟨.d0, .d0, .d0, .d0, .d1⟩, .fixed 273 [.int .i64 2, .rng 0 1024, .ustr 7, .junk, .junk, .junk, .junk, .junk, .slice ⟨.d1, .d0, .d0, .d0, .d1⟩ 0 1 (.is 1), .rng 0 4096, .rng 0 4096, .junk]), (⟨.d1, .d0, .d0, .d0, .d1⟩, .fixed 3 [.rng 0 4096])], .ustr 63⟩
def yrows : List ORow := [yr0, yr1, yr2, yr3, yr4, yr5, yr6, yr7, yr8, yr9, yr10, yr11, yr12]
end
end Go.Proofs.YtdkbfimccddikaaGreatDoor
