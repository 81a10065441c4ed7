/- What the tower's functions leave behind, call by call: states, and rows that lead from one to another. No conditions. -/
import Derived.Test.YtdkbfimccddikaaGreatDoorUJ
namespace Go.Proofs.YtdkbfimccddikaaGreatDoor
open Go.VM
noncomputable section
open Go.VM.D8 (d0 d1 d2 d3 d4 d5 d6 d7)
abbrev KQ:=Key.mk
def tys:List Nat:=[117, 211, 321, 311, 327, 389]
def k0:=KQ d0 d0 d0 d0 d1
def k1:=KQ d1 d0 d0 d0 d1
def k2:=KQ d2 d0 d0 d0 d1
def k3:=KQ d3 d0 d0 d0 d1
def k4:=KQ d4 d0 d0 d0 d1
def k5:=KQ d5 d0 d0 d0 d1
def k6:=KQ d6 d0 d0 d0 d1
def k7:=KQ d7 d0 d0 d0 d1
def k8:=KQ d0 d1 d0 d0 d1
def k9:=KQ d1 d1 d0 d0 d1
def ka:=KQ d2 d1 d0 d0 d1
def kb:=KQ d3 d1 d0 d0 d1
def kc:=KQ d4 d1 d0 d0 d1
def kd:=KQ d5 d1 d0 d0 d1
def ke:=KQ d6 d1 d0 d0 d1
def kf:=KQ d7 d1 d0 d0 d1
def kg:=KQ d0 d2 d0 d0 d1
def kh:=KQ d1 d2 d0 d0 d1
def ki:=KQ d2 d2 d0 d0 d1
def kj:=KQ d3 d2 d0 d0 d1
def kk:=KQ d4 d2 d0 d0 d1
def kl:=KQ d5 d2 d0 d0 d1
def km:=KQ d6 d2 d0 d0 d1
def kn:=KQ d7 d2 d0 d0 d1
def ko:=KQ d0 d3 d0 d0 d1
def kp:=KQ d1 d3 d0 d0 d1
def kq:=KQ d2 d3 d0 d0 d1
def kr:=KQ d3 d3 d0 d0 d1
def ks:=KQ d4 d3 d0 d0 d1
def kt:=KQ d5 d3 d0 d0 d1
def ku:=KQ d6 d3 d0 d0 d1
def kv:=KQ d7 d3 d0 d0 d1
def kw:=KQ d0 d4 d0 d0 d1
def kx:=KQ d1 d4 d0 d0 d1
def ky:=KQ d2 d4 d0 d0 d1
def kz:=KQ d3 d4 d0 d0 d1
def k10:=KQ d4 d4 d0 d0 d1
def k11:=KQ d5 d4 d0 d0 d1
def k12:=KQ d6 d4 d0 d0 d1
def k13:=KQ d7 d4 d0 d0 d1
def k14:=KQ d0 d5 d0 d0 d1
def k15:=KQ d1 d5 d0 d0 d1
def k16:=KQ d2 d5 d0 d0 d1
def k17:=KQ d3 d5 d0 d0 d1
def k18:=KQ d4 d5 d0 d0 d1
def k19:=KQ d5 d5 d0 d0 d1
def k1a:=KQ d6 d5 d0 d0 d1
def k1b:=KQ d7 d5 d0 d0 d1
def k1c:=KQ d0 d6 d0 d0 d1
def k1d:=KQ d1 d6 d0 d0 d1
def k1e:=KQ d2 d6 d0 d0 d1
def k1f:=KQ d3 d6 d0 d0 d1
def k1g:=KQ d4 d6 d0 d0 d1
def k1h:=KQ d5 d6 d0 d0 d1
def k1i:=KQ d6 d6 d0 d0 d1
def k1j:=KQ d7 d6 d0 d0 d1
def k1k:=KQ d0 d7 d0 d0 d1
def k1l:=KQ d1 d7 d0 d0 d1
def k1m:=KQ d2 d7 d0 d0 d1
def k1n:=KQ d3 d7 d0 d0 d1
def k1o:=KQ d4 d7 d0 d0 d1
def k1p:=KQ d5 d7 d0 d0 d1
def k1q:=KQ d6 d7 d0 d0 d1
def k1r:=KQ d7 d7 d0 d0 d1
def k1s:=KQ d0 d0 d1 d0 d1
def k1t:=KQ d1 d0 d1 d0 d1
def k1u:=KQ d2 d0 d1 d0 d1
def k1v:=KQ d3 d0 d1 d0 d1
def k1w:=KQ d4 d0 d1 d0 d1
def k1x:=KQ d5 d0 d1 d0 d1
def k1y:=KQ d6 d0 d1 d0 d1
def k1z:=KQ d7 d0 d1 d0 d1
def k20:=KQ d0 d1 d1 d0 d1
def k21:=KQ d1 d1 d1 d0 d1
def k22:=KQ d2 d1 d1 d0 d1
def k23:=KQ d3 d1 d1 d0 d1
def k24:=KQ d4 d1 d1 d0 d1
def k25:=KQ d5 d1 d1 d0 d1
def k26:=KQ d6 d1 d1 d0 d1
def k27:=KQ d7 d1 d1 d0 d1
def k28:=KQ d0 d2 d1 d0 d1
def k29:=KQ d1 d2 d1 d0 d1
def k2a:=KQ d2 d2 d1 d0 d1
def k2b:=KQ d3 d2 d1 d0 d1
def k2c:=KQ d4 d2 d1 d0 d1
def k2d:=KQ d5 d2 d1 d0 d1
def k2e:=KQ d6 d2 d1 d0 d1
def k2f:=KQ d7 d2 d1 d0 d1
def k2g:=KQ d0 d3 d1 d0 d1
def k2h:=KQ d1 d3 d1 d0 d1
def k2i:=KQ d2 d3 d1 d0 d1
def k2j:=KQ d3 d3 d1 d0 d1
def k2k:=KQ d4 d3 d1 d0 d1
def k2l:=KQ d5 d3 d1 d0 d1
def k2m:=KQ d6 d3 d1 d0 d1
def k2n:=KQ d7 d3 d1 d0 d1
def k2o:=KQ d0 d4 d1 d0 d1
def k2p:=KQ d1 d4 d1 d0 d1
def k2q:=KQ d2 d4 d1 d0 d1
def k2r:=KQ d3 d4 d1 d0 d1
def k2s:=KQ d4 d4 d1 d0 d1
def k2t:=KQ d5 d4 d1 d0 d1
def k2u:=KQ d6 d4 d1 d0 d1
def k2v:=KQ d7 d4 d1 d0 d1
def k2w:=KQ d0 d5 d1 d0 d1
def k2x:=KQ d1 d5 d1 d0 d1
def k2y:=KQ d2 d5 d1 d0 d1
def k2z:=KQ d3 d5 d1 d0 d1
def k30:=KQ d4 d5 d1 d0 d1
def k31:=KQ d5 d5 d1 d0 d1
def k32:=KQ d6 d5 d1 d0 d1
def k33:=KQ d7 d5 d1 d0 d1
def k34:=KQ d0 d6 d1 d0 d1
def k35:=KQ d1 d6 d1 d0 d1
def k36:=KQ d2 d6 d1 d0 d1
def k37:=KQ d3 d6 d1 d0 d1
def k38:=KQ d4 d6 d1 d0 d1
def k39:=KQ d5 d6 d1 d0 d1
def k3a:=KQ d6 d6 d1 d0 d1
def k3b:=KQ d7 d6 d1 d0 d1
def k3c:=KQ d0 d7 d1 d0 d1
def k3d:=KQ d1 d7 d1 d0 d1
def k3e:=KQ d2 d7 d1 d0 d1
def k3f:=KQ d3 d7 d1 d0 d1
def k3g:=KQ d4 d7 d1 d0 d1
def k3h:=KQ d5 d7 d1 d0 d1
def k3i:=KQ d6 d7 d1 d0 d1
def k3j:=KQ d7 d7 d1 d0 d1
def k3k:=KQ d0 d0 d2 d0 d1
def k3l:=KQ d1 d0 d2 d0 d1
def k3m:=KQ d2 d0 d2 d0 d1
def k3n:=KQ d3 d0 d2 d0 d1
def k3o:=KQ d4 d0 d2 d0 d1
def k3p:=KQ d5 d0 d2 d0 d1
def k3q:=KQ d6 d0 d2 d0 d1
def k3r:=KQ d7 d0 d2 d0 d1
def k3s:=KQ d0 d1 d2 d0 d1
def k3t:=KQ d1 d1 d2 d0 d1
def k3u:=KQ d2 d1 d2 d0 d1
def k3v:=KQ d3 d1 d2 d0 d1
def k3w:=KQ d4 d1 d2 d0 d1
def cl (i o:Int) (p q:AV) (f g n m:Int) (d:AV):List AV:=[.ptr k0 0,.agg [.int .i64 6,.str 0 0,.str 0 0,.str 0 0,.nilSlice,.int .i64 i,.int .i64 o,p,q,.int .i64 f,.int .i64 g,.int .i64 n,.int .i64 m,d]]
def an (s n k m:Int) (d ns:AV):AV:=.tup [.agg [.int .i64 0,.int .i64 0,.int .i64 0,.str 0 0,.nilSlice,.nilSlice,.int .i64 s,.int .i64 n,.int .i64 k,.int .i64 m,d,ns,.int .i64 0,.int .i64 0],.int .i64 0]
def S0 (x0 x1:Key) (y0 y1:AV):Key × AObj:=(x0,.cells 88 [.slice x1 0 4194304 (.is 4194304),.bool false,.bool false,y0,y1] false 0)
def S1 (x0 x1 x2 x3 x4:Key) (y0 y1:AV):Key × AObj:=(x0,.cells 174 [.ptr x1 0,.ptr x2 0,.ptr x3 0,y0,.nilPtr,.nilPtr,.nilPtr,.nilPtr,.nilPtr,.nilPtr,.nilPtr,.nilPtr,.slice x4 0 16384 (.is 16384),y1,.bool false] false 0)
def S2 (x0:Key):Key × AObj:=(x0,.map [] 0)
def S3 (x0:Key) (y0:AV):Key × AObj:=(x0,.cells 3 [y0] true 0)
def S4 (x0:Key):Key × AObj:=(x0,.cells 278 [.ustr 256,.bool false,.int .i64 0,.bool true] false 0)
def S5 (x0 x1 x2 x3 x4 x5 x6 x7:Key) (y0:AV):Key × AObj:=(x0,.cells 66 [.ptr x1 0,.ptr x2 0,.ptr x3 0,.ptr x4 0,.map x5,.map x6,y0,.bool false,.slice x7 0 1 (.more 5)] false 0)
def S6 (x0 x1 x2:Key):Key × AObj:=(x0,.cells 141 [.slice x1 0 1 (.more 4),.slice x2 0 1 (.more 4)] true 0)
def S7 (x0 x1:Key) (y0 y1 y2:AV):Key × AObj:=(x0,.cells 143 [.slice x1 0 1 (.more 4),y0,y1,y2,.nilSlice] false 0)
def S8 (x0:Key):Key × AObj:=(x0,.cells 195 [.str 1 100,.int .i64 1,.int .i64 493,.str 0 0] true 0)
def S9 (x0:Key):Key × AObj:=(x0,.cells 195 [.str 1 100,.int .i64 4,.int .i64 0,.str 0 0] true 0)
def Sa (x0:Key):Key × AObj:=(x0,.cells 278 [.ustr 256,.bool false,.int .i64 0,.bool false] false 0)
def Sb (x0 x1 x2:Key) (y0 y1 y2 y3 y4 y5 y6:AV):Key × AObj:=(x0,.cells 273 [y0,y1,y2,.ptr x1 0,y3,.nilMap,.nilSlice,.nilSlice,.slice x2 0 1 (.is 1),y4,y5,y6] false 0)
def Sc (x0:Key) (y0:AV):Key × AObj:=(x0,.cells 3 [y0] false 0)
def Sd (x0:Key):Key × AObj:=(x0,.cells 3 [.int .i64 50] false 0)
def Se (x0:Key):Key × AObj:=(x0,.cells 3 [.int .i64 52] false 0)
def Sf (x0 x1 x2:Key) (y0:AV):Key × AObj:=(x0,.cells 327 [.ptr x1 0,.ptr x2 0,.nilPtr,.nilPtr,.nilPtr,.nilPtr,.nilPtr,.nilPtr,.nilPtr,.nilPtr,y0] false 0)
def Sg (x0:Key):Key × AObj:=(x0,.lmap [])
def Sh (x0:Key):Key × AObj:=(x0,.cells 3 [.int .i64 51] false 0)
def Si (x0:Key) (y0 y1 y2 y3 y4 y5:AV):Key × AObj:=(x0,.map [(y0,.agg [y1,y2],0),(y3,.agg [y4,y5],1)] 2)
def Sj (x0 x1 x2:Key) (y0 y1:AV):Key × AObj:=(x0,.lmap [(y0,.ptr x1 0),(y1,.ptr x2 0)])
def Sk (x0 x1 x2:Key):Key × AObj:=(x0,.cells 273 [.int .i64 2,.int .i64 63,.str 5 435744240755,.ptr x1 0,.int .i64 2,.nilMap,.nilSlice,.nilSlice,.slice x2 0 1 (.is 1),.int .i64 0,.int .i64 0,.int .i64 0] false 0)
def Sl (x0:Key):Key × AObj:=(x0,.bits 4 16384 42784196460019711)
def Sm (x0 x1 x2 x3 x4 x5:Key):Key × AObj:=(x0,.cells 169 [.ptr x1 0,.ptr x2 0,.ptr x3 0,.ptr x4 0,.ptr x5 0] true 0)
def Sn (x0 x1 x2:Key):Key × AObj:=(x0,.cells 273 [.int .i64 2,.int .i64 63,.str 5 435744240755,.ptr x1 0,.int .i64 0,.nilMap,.nilSlice,.nilSlice,.slice x2 0 1 (.is 1),.int .i64 0,.int .i64 0,.int .i64 0] false 0)
def So (x0:Key):Key × AObj:=(x0,.cells 3 [.int .i64 55] false 0)
def Sp (x0 x1 x2:Key) (y0 y1 y2 y3:AV):Key × AObj:=(x0,.cells 389 [y0,y1,y2,.map x1,.ptr x2 0,y3] false 0)
def Sq (x0:Key):Key × AObj:=(x0,.bits 4 16384 22517998136852479)
def Sr (x0:Key):Key × AObj:=(x0,.cells 3 [.int .i64 54] false 0)
def Ss (x0:Key):Key × AObj:=(x0,.bits 4 16384 43910096366862335)
def St (x0 x1 x2:Key):Key × AObj:=(x0,.cells 273 [.int .i64 2,.int .i64 63,.str 5 435744240755,.ptr x1 0,.int .i64 1,.nilMap,.nilSlice,.nilSlice,.slice x2 0 1 (.is 1),.int .i64 0,.int .i64 0,.int .i64 0] false 0)
def Su (x0:Key):Key × AObj:=(x0,.bits 4 16384 24769797950537727)
def Sv (x0 x1 x2:Key):Key × AObj:=(x0,.cells 327 [.ptr x1 0,.ptr x2 0,.nilPtr,.nilPtr,.nilPtr,.nilPtr,.nilPtr,.nilPtr,.nilPtr,.nilPtr,.int .i64 2] false 0)
def Sw (x0 x1 x2:Key):Key × AObj:=(x0,.cells 327 [.ptr x1 0,.ptr x2 0,.nilPtr,.nilPtr,.nilPtr,.nilPtr,.nilPtr,.nilPtr,.nilPtr,.nilPtr,.int .i64 3] false 0)
def Sx (x0 x1 x2:Key):Key × AObj:=(x0,.cells 389 [.int .i64 3,.int .i64 511,.str 1 98,.map x1,.ptr x2 0,.str 1 97] false 0)
def Sy (x0 x1 x2:Key):Key × AObj:=(x0,.cells 327 [.ptr x1 0,.ptr x2 0,.nilPtr,.nilPtr,.nilPtr,.nilPtr,.nilPtr,.nilPtr,.nilPtr,.nilPtr,.int .i64 4] false 0)
def Sz (x0 x1 x2:Key):Key × AObj:=(x0,.cells 389 [.int .i64 3,.int .i64 511,.str 1 97,.map x1,.ptr x2 0,.str 1 98] false 0)
def S10 (x0:Key):Key × AObj:=(x0,.bits 4 16384 40532396646334463)
def S11 (x0:Key):Key × AObj:=(x0,.bits 4 16384 25895697857380351)
def S12 (x0 x1 x2:Key):Key × AObj:=(x0,.cells 327 [.ptr x1 0,.ptr x2 0,.nilPtr,.nilPtr,.nilPtr,.nilPtr,.nilPtr,.nilPtr,.nilPtr,.nilPtr,.int .i64 5] false 0)
def S13 (x0 x1 x2 x3 x4 x5 x6 x7:Key):Key × AObj:=(x0,.cells 66 [.ptr x1 0,.ptr x2 0,.ptr x3 0,.ptr x4 0,.map x5,.map x6,.int .i64 11,.bool false,.slice x7 0 1 (.more 5)] false 0)
def S14 (x0 x1:Key):Key × AObj:=(x0,.cells 88 [.slice x1 0 4194304 (.is 4194304),.bool false,.bool false,.int .i64 (-402),.int .i64 402] false 0)
def S15 (x0:Key):Key × AObj:=(x0,.map [] 121)
def S16 (x0 x1 x2 x3:Key):Key × AObj:=(x0,.lmap [(.str 2 13167,.ptr x1 0),(.str 2 13935,.ptr x2 0),(.str 2 14703,.ptr x3 0)])
def S17 (x0 x1 x2:Key):Key × AObj:=(x0,.cells 389 [.int .i64 1,.int .i64 0,.str 0 0,.map x1,.ptr x2 0,.str 2 14703] false 0)
def S18 (x0 x1 x2:Key):Key × AObj:=(x0,.cells 327 [.ptr x1 0,.ptr x2 0,.nilPtr,.nilPtr,.nilPtr,.nilPtr,.nilPtr,.nilPtr,.nilPtr,.nilPtr,.int .i64 6] false 0)
def S19 (x0 x1 x2 x3 x4 x5 x6 x7:Key):Key × AObj:=(x0,.cells 66 [.ptr x1 0,.ptr x2 0,.ptr x3 0,.ptr x4 0,.map x5,.map x6,.int .i64 12,.bool false,.slice x7 0 1 (.more 5)] false 0)
def S1a (x0 x1:Key):Key × AObj:=(x0,.cells 88 [.slice x1 0 4194304 (.is 4194304),.bool false,.bool false,.int .i64 (-432),.int .i64 432] false 0)
def S1b (x0:Key):Key × AObj:=(x0,.map [] 130)
def S1c (x0 x1 x2:Key):Key × AObj:=(x0,.cells 327 [.ptr x1 0,.ptr x2 0,.nilPtr,.nilPtr,.nilPtr,.nilPtr,.nilPtr,.nilPtr,.nilPtr,.nilPtr,.int .i64 7] false 0)
def S1d (x0 x1 x2 x3 x4 x5 x6 x7:Key) (y0 y1 y2 y3 y4 y5 y6:AV):Key × AObj:=(x0,.lmap [(y0,.ptr x1 0),(y1,.ptr x2 0),(y2,.ptr x3 0),(y3,.ptr x4 0),(y4,.ptr x5 0),(y5,.ptr x6 0),(y6,.ptr x7 0)])
def S1e (x0 x1 x2 x3 x4 x5 x6 x7:Key):Key × AObj:=(x0,.cells 66 [.ptr x1 0,.ptr x2 0,.ptr x3 0,.ptr x4 0,.map x5,.map x6,.int .i64 15,.bool false,.slice x7 0 1 (.more 5)] false 0)
def S1f (x0 x1:Key):Key × AObj:=(x0,.cells 88 [.slice x1 0 4194304 (.is 4194304),.bool false,.bool false,.int .i64 (-522),.int .i64 522] false 0)
def S1g (x0:Key):Key × AObj:=(x0,.map [] 157)
def S1h (x0 x1 x2 x3 x4:Key):Key × AObj:=(x0,.lmap [(.str 2 13167,.ptr x1 0),(.str 2 13935,.ptr x2 0),(.str 2 14703,.ptr x3 0),(.str 3 3289455,.ptr x4 0)])
def S1i (x0 x1 x2:Key):Key × AObj:=(x0,.cells 389 [.int .i64 1,.int .i64 0,.str 0 0,.map x1,.ptr x2 0,.str 3 3289455] false 0)
def S1j (x0 x1 x2 x3 x4 x5 x6 x7:Key):Key × AObj:=(x0,.cells 66 [.ptr x1 0,.ptr x2 0,.ptr x3 0,.ptr x4 0,.map x5,.map x6,.int .i64 16,.bool false,.slice x7 0 1 (.more 5)] false 0)
def S1k (x0 x1:Key):Key × AObj:=(x0,.cells 88 [.slice x1 0 4194304 (.is 4194304),.bool false,.bool false,.int .i64 (-552),.int .i64 552] false 0)
def S1l (x0:Key):Key × AObj:=(x0,.map [] 166)
def S1m (x0 x1 x2 x3 x4 x5 x6 x7:Key):Key × AObj:=(x0,.cells 66 [.ptr x1 0,.ptr x2 0,.ptr x3 0,.ptr x4 0,.map x5,.map x6,.int .i64 19,.bool false,.slice x7 0 1 (.more 5)] false 0)
def S1n (x0 x1:Key):Key × AObj:=(x0,.cells 88 [.slice x1 0 4194304 (.is 4194304),.bool false,.bool false,.int .i64 (-642),.int .i64 642] false 0)
def S1o (x0:Key):Key × AObj:=(x0,.map [] 193)
def S1p (x0 x1 x2 x3 x4 x5:Key):Key × AObj:=(x0,.lmap [(.str 2 13167,.ptr x1 0),(.str 2 13935,.ptr x2 0),(.str 2 14703,.ptr x3 0),(.str 3 3289455,.ptr x4 0),(.str 3 3486063,.ptr x5 0)])
def S1q (x0 x1 x2:Key):Key × AObj:=(x0,.cells 389 [.int .i64 1,.int .i64 0,.str 0 0,.map x1,.ptr x2 0,.str 3 3486063] false 0)
def S1r (x0 x1 x2 x3 x4 x5 x6 x7:Key):Key × AObj:=(x0,.cells 66 [.ptr x1 0,.ptr x2 0,.ptr x3 0,.ptr x4 0,.map x5,.map x6,.int .i64 20,.bool false,.slice x7 0 1 (.more 5)] false 0)
def S1s (x0 x1:Key):Key × AObj:=(x0,.cells 88 [.slice x1 0 4194304 (.is 4194304),.bool false,.bool false,.int .i64 (-672),.int .i64 672] false 0)
def S1t (x0:Key):Key × AObj:=(x0,.map [] 202)
def S1u (x0 x1 x2 x3 x4 x5 x6 x7:Key):Key × AObj:=(x0,.cells 66 [.ptr x1 0,.ptr x2 0,.ptr x3 0,.ptr x4 0,.map x5,.map x6,.int .i64 24,.bool false,.slice x7 0 1 (.more 5)] false 0)
def S1v (x0 x1:Key):Key × AObj:=(x0,.cells 88 [.slice x1 0 4194304 (.is 4194304),.bool false,.bool false,.int .i64 (-792),.int .i64 792] false 0)
def S1w (x0:Key):Key × AObj:=(x0,.map [] 238)
def S1x (x0 x1 x2 x3 x4 x5 x6:Key):Key × AObj:=(x0,.lmap [(.str 2 13167,.ptr x1 0),(.str 2 13935,.ptr x2 0),(.str 2 14703,.ptr x3 0),(.str 3 3289455,.ptr x4 0),(.str 3 3486063,.ptr x5 0),(.str 3 3682671,.ptr x6 0)])
def S1y (x0 x1 x2:Key):Key × AObj:=(x0,.cells 389 [.int .i64 1,.int .i64 0,.str 0 0,.map x1,.ptr x2 0,.str 3 3682671] false 0)
def Z0:List AV:=cl 1 7 (.str 1 97) (.str 0 0) 0 0 0 0 (.str 1 98)
def Z1:List AV:=cl 1 7 (.str 1 98) (.str 0 0) 0 0 0 0 (.str 1 97)
def Z2:List AV:=cl 2 6 (.str 2 13935) (.str 0 0) 0 0 0 0 (.str 0 0)
def Z3:List AV:=cl 1 2 (.str 1 97) (.str 0 0) 0 0 0 0 (.str 0 0)
def Z4:List AV:=cl 1 1 (.str 1 97) (.str 0 0) 0 0 0 0 (.str 0 0)
def Z5:List AV:=cl 2 6 (.str 2 14703) (.str 0 0) 0 0 0 0 (.str 0 0)
def Z6:List AV:=cl 2 6 (.str 3 3289455) (.str 0 0) 0 0 0 0 (.str 0 0)
def Z7:List AV:=cl 2 6 (.str 3 3486063) (.str 0 0) 0 0 0 0 (.str 0 0)
def Z8:List AV:=cl 2 6 (.str 3 3682671) (.str 0 0) 0 0 0 0 (.str 0 0)
def Z9:AV:=an 0 0 0 0 (.str 0 0) .nilSlice
def Za:AV:=an 0 1 0 0 (.str 1 120) .nilSlice
def Zb:AV:=an 7 0 0 0 (.str 0 0) .nilSlice
def Zc:AV:=an 0 1 3 511 (.str 0 0) .nilSlice
def Zd:List (Key × AObj):=[(ke,.dead),(k1x,.dead),(k1i,.dead),(k1y,.dead)]
def Ze:List (Key × AObj):=[(ke,.dead),(k2f,.dead),(k1i,.dead),(k1y,.dead)]
def Zf:List (Key × AObj):=[(ke,.dead),(k1y,.dead),(k2b,.dead)]
def Zg:List (Key × AObj):=[(ke,.dead),(k2a,.dead),(k1i,.dead),(k1y,.dead),(k2b,.dead)]
def Zh:List (Key × AObj):=[(ke,.dead),(k1x,.dead),(k1i,.dead),(k1y,.dead),(k2b,.dead)]
def Zi:List (Key × AObj):=[(ke,.dead),(k2f,.dead),(k1i,.dead),(k1y,.dead),(k2b,.dead)]
def Zj:List Key:=[k5,k6,k1i,k1l]
def Zk:List Key:=[k2a,k2c,k0,k1,ka,km,ku,k1e]
def Zl:List Key:=[k1x,k1z,k0,k1,ka,km,ku,k1e]
def Zm:List Key:=[k2f,k2g,k0,k1,ka,km,ku,k1e]
def Zn:Key × AObj:=Sh k1z
def Zo:Key × AObj:=Sk k1i kr k1l
def Zp:Key × AObj:=Sd k2c
def Zq:Key × AObj:=Sm k1e k1i k2a k2f k1i k1i
def Zr:Key × AObj:=Sn k1i kr k1l
def Zs:Key × AObj:=So k1l
def Zt:Key × AObj:=Se k2g
def Zu:Key × AObj:=Sm k1e k1x k2a k1i k1i k1i
def Zv:Key × AObj:=Sr k1l
def Zw:Key × AObj:=Sm k1e k1x k1i k2f k1i k1i
def Zx:Key × AObj:=St k1i kr k1l
def Zy:Key × AObj:=S5 k0 k1 k2 k3 k4 k5 k6 kv (.int .i64 8)
def Zz:Key × AObj:=S0 k1 k7 (.int .i64 (-312)) (.int .i64 312)
def Z10:Key × AObj:=Si k6 (.int .i64 1) (.str 12 14909942882012283808127726898) (.int .i64 8) (.int .i64 2) (.str 12 14909942882012283808127726898) (.int .i64 5)
def Z11:Key × AObj:=S5 k0 k1 k2 k3 k4 k5 k6 kv (.int .i64 9)
def Z12:Key × AObj:=S0 k1 k7 (.int .i64 (-342)) (.int .i64 342)
def Z13:Key × AObj:=Si k6 (.int .i64 1) (.str 12 14909942882012283808127726898) (.int .i64 8) (.int .i64 2) (.str 12 14909942882012283808127726898) (.int .i64 9)
def Z14:Key × AObj:=Sb k1x kr k1z (.int .i64 2) (.int .i64 21) (.str 6 52970790924917) (.int .i64 0) (.int .i64 0) (.int .i64 0) (.int .i64 0)
def Z15:Key × AObj:=Sj k2b k2j k2r (.str 2 13167) (.str 2 13935)
def Z16:Key × AObj:=Sp k2r k2s k27 (.int .i64 1) (.int .i64 0) (.str 0 0) (.str 2 13935)
def Z17:Key × AObj:=S5 k0 k1 k2 k3 k4 k5 k6 kv (.int .i64 10)
def Z18:Key × AObj:=S0 k1 k7 (.int .i64 (-372)) (.int .i64 372)
def Z19:Key × AObj:=Si k6 (.int .i64 1) (.str 12 14909942882012283808127726898) (.int .i64 10) (.int .i64 2) (.str 12 14909942882012283808127726898) (.int .i64 9)
def Z1a:Key × AObj:=S13 k0 k1 k2 k3 k4 k5 k6 kv
def Z1b:Key × AObj:=Sw k24 k27 k27
def Z1c:Key × AObj:=Si k6 (.int .i64 1) (.str 12 14909942882012283808127726898) (.int .i64 11) (.int .i64 2) (.str 12 14909942882012283808127726898) (.int .i64 9)
def Z1d:Key × AObj:=S19 k0 k1 k2 k3 k4 k5 k6 kv
def Z1e:Key × AObj:=Si k6 (.int .i64 1) (.str 12 14909942882012283808127726898) (.int .i64 12) (.int .i64 2) (.str 12 14909942882012283808127726898) (.int .i64 9)
def Z1f:Key × AObj:=S5 k0 k1 k2 k3 k4 k5 k6 kv (.int .i64 13)
def Z1g:Key × AObj:=S0 k1 k7 (.int .i64 (-462)) (.int .i64 462)
def Z1h:Key × AObj:=Si k6 (.int .i64 1) (.str 12 14909942882012283808127726898) (.int .i64 12) (.int .i64 2) (.str 12 14909942882012283808127726898) (.int .i64 13)
def Z1i:Key × AObj:=Sb k2a kr k2c (.int .i64 2) (.int .i64 30) (.str 7 13560496773739125) (.int .i64 1) (.int .i64 0) (.int .i64 0) (.int .i64 0)
def Z1j:Key × AObj:=S5 k0 k1 k2 k3 k4 k5 k6 kv (.int .i64 14)
def Z1k:Key × AObj:=S0 k1 k7 (.int .i64 (-492)) (.int .i64 492)
def Z1l:Key × AObj:=Si k6 (.int .i64 1) (.str 12 14909942882012283808127726898) (.int .i64 14) (.int .i64 2) (.str 12 14909942882012283808127726898) (.int .i64 13)
def Z1m:Key × AObj:=S1e k0 k1 k2 k3 k4 k5 k6 kv
def Z1n:Key × AObj:=Sy k24 k27 k27
def Z1o:Key × AObj:=Si k6 (.int .i64 1) (.str 12 14909942882012283808127726898) (.int .i64 15) (.int .i64 2) (.str 12 14909942882012283808127726898) (.int .i64 13)
def Z1p:Key × AObj:=S1j k0 k1 k2 k3 k4 k5 k6 kv
def Z1q:Key × AObj:=Si k6 (.int .i64 1) (.str 12 14909942882012283808127726898) (.int .i64 16) (.int .i64 2) (.str 12 14909942882012283808127726898) (.int .i64 13)
def Z1r:Key × AObj:=S5 k0 k1 k2 k3 k4 k5 k6 kv (.int .i64 17)
def Z1s:Key × AObj:=S0 k1 k7 (.int .i64 (-582)) (.int .i64 582)
def Z1t:Key × AObj:=Si k6 (.int .i64 1) (.str 12 14909942882012283808127726898) (.int .i64 16) (.int .i64 2) (.str 12 14909942882012283808127726898) (.int .i64 17)
def Z1u:Key × AObj:=Sb k2f kr k2g (.int .i64 2) (.int .i64 40) (.str 7 13560513953608309) (.int .i64 2) (.int .i64 0) (.int .i64 0) (.int .i64 0)
def Z1v:Key × AObj:=S5 k0 k1 k2 k3 k4 k5 k6 kv (.int .i64 18)
def Z1w:Key × AObj:=S0 k1 k7 (.int .i64 (-612)) (.int .i64 612)
def Z1x:Key × AObj:=Si k6 (.int .i64 1) (.str 12 14909942882012283808127726898) (.int .i64 18) (.int .i64 2) (.str 12 14909942882012283808127726898) (.int .i64 17)
def Z1y:Key × AObj:=S1m k0 k1 k2 k3 k4 k5 k6 kv
def Z1z:Key × AObj:=S12 k24 k27 k27
def Z20:Key × AObj:=Si k6 (.int .i64 1) (.str 12 14909942882012283808127726898) (.int .i64 19) (.int .i64 2) (.str 12 14909942882012283808127726898) (.int .i64 17)
def Z21:Key × AObj:=S1r k0 k1 k2 k3 k4 k5 k6 kv
def Z22:Key × AObj:=Si k6 (.int .i64 1) (.str 12 14909942882012283808127726898) (.int .i64 20) (.int .i64 2) (.str 12 14909942882012283808127726898) (.int .i64 17)
def Z23:Key × AObj:=S5 k0 k1 k2 k3 k4 k5 k6 kv (.int .i64 21)
def Z24:Key × AObj:=S0 k1 k7 (.int .i64 (-702)) (.int .i64 702)
def Z25:Key × AObj:=Si k6 (.int .i64 1) (.str 12 14909942882012283808127726898) (.int .i64 20) (.int .i64 2) (.str 12 14909942882012283808127726898) (.int .i64 21)
def Z26:Key × AObj:=Sb k1x kr k1z (.int .i64 2) (.int .i64 50) (.str 7 13560488200581749) (.int .i64 0) (.int .i64 0) (.int .i64 0) (.int .i64 0)
def Z27:Key × AObj:=S5 k0 k1 k2 k3 k4 k5 k6 kv (.int .i64 22)
def Z28:Key × AObj:=S0 k1 k7 (.int .i64 (-732)) (.int .i64 732)
def Z29:Key × AObj:=Si k6 (.int .i64 1) (.str 12 14909942882012283808127726898) (.int .i64 22) (.int .i64 2) (.str 12 14909942882012283808127726898) (.int .i64 21)
def Z2a:Key × AObj:=S5 k0 k1 k2 k3 k4 k5 k6 kv (.int .i64 23)
def Z2b:Key × AObj:=S0 k1 k7 (.int .i64 (-762)) (.int .i64 762)
def Z2c:Key × AObj:=Si k6 (.int .i64 1) (.str 12 14909942882012283808127726898) (.int .i64 23) (.int .i64 2) (.str 12 14909942882012283808127726898) (.int .i64 21)
def Z2d:Key × AObj:=S1u k0 k1 k2 k3 k4 k5 k6 kv
def Z2e:Key × AObj:=Si k6 (.int .i64 1) (.str 12 14909942882012283808127726898) (.int .i64 24) (.int .i64 2) (.str 12 14909942882012283808127726898) (.int .i64 21)
def Z2f:Key × AObj:=S5 k0 k1 k2 k3 k4 k5 k6 kv (.int .i64 25)
def Z2g:Key × AObj:=S0 k1 k7 (.int .i64 (-822)) (.int .i64 822)
def Z2h:Key × AObj:=Si k6 (.int .i64 1) (.str 12 14909942882012283808127726898) (.int .i64 24) (.int .i64 2) (.str 12 14909942882012283808127726898) (.int .i64 25)
def Z2i:Key × AObj:=Sb k2a kr k2c (.int .i64 2) (.int .i64 60) (.str 7 13560505380450933) (.int .i64 1) (.int .i64 0) (.int .i64 0) (.int .i64 0)
def Z2j:Key × AObj:=S1x k2b k2j k2r k2z k37 k3f k3n
def Z2k:Key × AObj:=S5 k0 k1 k2 k3 k4 k5 k6 kv (.int .i64 26)
def Z2l:Key × AObj:=S0 k1 k7 (.int .i64 (-852)) (.int .i64 852)
def Z2m:Key × AObj:=Si k6 (.int .i64 1) (.str 12 14909942882012283808127726898) (.int .i64 26) (.int .i64 2) (.str 12 14909942882012283808127726898) (.int .i64 25)
def s0:RT AObj:=updS [(k0,.cells 66 [.ptr k1 0,.ptr k2 0,.ptr k3 0,.ptr k4 0,.map k5,.map k6,.int .i64 0,.bool false,.nilSlice] false 0),S0 k1 k7 (.int .i64 (-16)) (.int .i64 16),S1 k2 k1 k8 k9 ka (.int .i64 3) (.int .i64 16338),(k3,.cells 138 [.ptr kb 0,.ptr k2 0,.map kc] false 0),(k4,.cells 117 [.map kd,.map ke,.func (.func 64) [.ptr k0 0] [],.int .i64 0] false 0),S2 k5,S2 k6,(k7,.bytes 5 4194304),(k8,.cells 268 [.ptr kf 0,.int .i64 512,.map kg,.slice kh 0 2 (.more 1)] false 0),(k9,.cells 273 [.int .i64 1,.int .i64 0,.str 0 0,.nilPtr,.int .i64 0,.map ki,.slice kj 0 3 (.more 1),.slice kk 0 1 (.more 1),.nilSlice,.int .i64 0,.int .i64 0,.int .i64 0] false 0),(ka,.bits 4 16384 70368744177663),(kb,.cells 254 [.ptr k2 0,.map kl] false 0),S2 kc,S2 kd,S2 ke,(kf,.cells 151 [.ptr k1 0,.int .i64 1,.int .i64 44,.map km,.bool false] false 0),(kg,.map [(.int .i64 0,.ptr kn 0,0),(.int .i64 45,.ptr ko 0,1)] 2),(kh,.cells 3 [.int .i64 0,.int .i64 45] true 0),(ki,.map [(.str 5 495572708450,.ptr kp 0,0),(.str 6 126935165919596,.ptr kq 0,1),(.str 5 491328597876,.ptr kr 0,2)] 3),(kj,.cells 169 [.ptr kp 0,.ptr kq 0,.ptr kr 0] true 0),S3 kk (.int .i64 45),S2 kl,(km,.map [] 4),S4 kn,S4 ko,(kp,.cells 273 [.int .i64 1,.int .i64 0,.str 5 495572708450,.ptr k9 0,.int .i64 0,.map ks,.nilSlice,.nilSlice,.nilSlice,.int .i64 0,.int .i64 0,.int .i64 0] false 0),(kq,.cells 273 [.int .i64 1,.int .i64 0,.str 6 126935165919596,.ptr k9 0,.int .i64 1,.map kt,.nilSlice,.nilSlice,.nilSlice,.int .i64 0,.int .i64 0,.int .i64 0] false 0),(kr,.cells 273 [.int .i64 1,.int .i64 0,.str 5 491328597876,.ptr k9 0,.int .i64 2,.map ku,.nilSlice,.nilSlice,.nilSlice,.int .i64 0,.int .i64 0,.int .i64 0] false 0),S2 ks,S2 kt,S2 ku] RT.nil
def s1:RT AObj:=updS [S5 k0 k1 k2 k3 k4 k5 k6 kv (.int .i64 0),S0 k1 k7 (.int .i64 (-72)) (.int .i64 72),S1 k2 k1 k8 k9 ka (.int .i64 6) (.int .i64 16333),(k5,.map [(.str 1 116,.str 12 14909942882012283808127726898,0)] 1),(k8,.cells 268 [.ptr kf 0,.int .i64 512,.map kg,.slice kh 0 7 (.more 1)] false 0),(ka,.bits 4 16384 2251799813685247),(kc,.map [(.str 12 14909952252669478796797554994,.ptr ky 0,0),(.str 12 14909942882012283808127726898,.ptr kz 0,1)] 2),(kd,.map [(.str 1 116,.agg [.slice k10 0 2 (.more 1)],0)] 1),(kg,.map [(.int .i64 0,.ptr kn 0,0),(.int .i64 45,.ptr ko 0,1),(.int .i64 46,.ptr k13 0,2),(.int .i64 47,.ptr k14 0,3),(.int .i64 48,.ptr k15 0,4),(.int .i64 49,.ptr k16 0,5),(.int .i64 50,.ptr k17 0,6)] 7),(kh,.cells 3 [.int .i64 0,.int .i64 45,.int .i64 46,.int .i64 47,.int .i64 48,.int .i64 49,.int .i64 50] true 0),(km,.map [] 22),(kq,.cells 273 [.int .i64 1,.int .i64 0,.str 6 126935165919596,.ptr k9 0,.int .i64 1,.map kt,.slice k1c 0 2 (.more 1),.slice k1d 0 1 (.more 1),.nilSlice,.int .i64 0,.int .i64 0,.int .i64 0] false 0),(kr,.cells 273 [.int .i64 1,.int .i64 0,.str 5 491328597876,.ptr k9 0,.int .i64 2,.map ku,.slice k1e 0 1 (.more 1),.slice k1f 0 1 (.more 1),.nilSlice,.int .i64 0,.int .i64 0,.int .i64 0] false 0),(kt,.map [(.str 12 14909952252669478796797554994,.ptr k1g 0,1),(.str 12 14909942882012283808127726898,.ptr k1h 0,3)] 4),(ku,.map [(.str 5 435744240755,.ptr k1i 0,1)] 2),(kv,.cells 199 [.str 31 104481335786327267040345892488766287127177228565394820989683512661121135206,.nilSlice,.int .i64 20000,.map kw,.slice kx 0 2 (.more 1)] true 0),S2 kw,S6 kx k11 k12,S7 ky k18 (.str 0 0) (.int .i64 0) (.int .i64 1),S7 kz k19 (.str 12 14909952252669478796797554994) (.int .i64 1) (.int .i64 0),S6 k10 k1a k1b,S8 k11,S9 k12,S4 k13,S4 k14,Sa k15,S4 k16,Sa k17,S8 k18,S9 k19,S8 k1a,S9 k1b,(k1c,.cells 169 [.ptr k1g 0,.ptr k1h 0] true 0),S3 k1d (.int .i64 46),(k1e,.cells 169 [.ptr k1i 0] true 0),S3 k1f (.int .i64 49),Sb k1g kq k1j (.int .i64 2) (.int .i64 12) (.str 12 14909952252669478796797554994) (.int .i64 0) (.int .i64 0) (.int .i64 0) (.int .i64 0),Sb k1h kq k1k (.int .i64 2) (.int .i64 24) (.str 12 14909942882012283808127726898) (.int .i64 1) (.int .i64 0) (.int .i64 0) (.int .i64 0),Sb k1i kr k1l (.int .i64 2) (.int .i64 19) (.str 5 435744240755) (.int .i64 0) (.int .i64 0) (.int .i64 0) (.int .i64 0),Sc k1j (.int .i64 47),Sc k1k (.int .i64 48),Sd k1l] s0
def s2:RT AObj:=updS [S5 k0 k1 k2 k3 k4 k5 k6 kv (.int .i64 1),S0 k1 k7 (.int .i64 (-102)) (.int .i64 102),S1 k2 k1 k8 k9 ka (.int .i64 7) (.int .i64 16332),(k6,.map [(.int .i64 1,.agg [.str 12 14909942882012283808127726898,.int .i64 1],0)] 1),(k8,.cells 268 [.ptr kf 0,.int .i64 512,.map kg,.slice kh 0 9 (.more 1)] false 0),(ka,.bits 4 16384 7881299347898367),(ke,.map [(.int .i64 1,.ptr k1m 0,0)] 1),(kg,.map [(.int .i64 0,.ptr kn 0,0),(.int .i64 45,.ptr ko 0,1),(.int .i64 46,.ptr k13 0,2),(.int .i64 47,.ptr k14 0,3),(.int .i64 48,.ptr k15 0,4),(.int .i64 49,.ptr k16 0,5),(.int .i64 50,.ptr k17 0,6),(.int .i64 51,.ptr k1n 0,7),(.int .i64 52,.ptr k1o 0,8)] 9),(kh,.cells 3 [.int .i64 0,.int .i64 45,.int .i64 46,.int .i64 47,.int .i64 48,.int .i64 49,.int .i64 50,.int .i64 51,.int .i64 52] true 0),(km,.map [] 31),(kr,.cells 273 [.int .i64 1,.int .i64 0,.str 5 491328597876,.ptr k9 0,.int .i64 2,.map ku,.slice k1e 0 2 (.more 1),.slice k1f 0 1 (.more 1),.nilSlice,.int .i64 0,.int .i64 0,.int .i64 0] false 0),(ku,.map [(.str 6 52970656706933,.ptr k1x 0,2),(.str 5 435744240755,.ptr k1i 0,4)] 5),S7 kz k19 (.str 12 14909952252669478796797554994) (.int .i64 2) (.int .i64 0),S4 k15,(k1e,.cells 169 [.ptr k1x 0,.ptr k1i 0,.ptr k1i 0] true 0),Sb k1i kr k1l (.int .i64 2) (.int .i64 41) (.str 5 435744240755) (.int .i64 1) (.int .i64 0) (.int .i64 0) (.int .i64 0),Se k1l,(k1m,.cells 211 [.ptr k1p 0,.ptr k1q 0,.ptr k1r 0,.slice k1s 0 2 (.more 1),.nilSlice] false 0),Sa k1n,Sa k1o,(k1p,.cells 321 [.slice k1t 0 1 (.more 4),.int .i64 0,.int .i64 20000,.int .i64 0,.nilSlice,.bool false,.str 0 0,.float .f64 0,.bool false,.str 0 0,.float .f64 0,.bool false,.str 0 0,.float .f64 0,.bool false,.str 0 0,.float .f64 0,.bool false,.str 0 0,.float .f64 0,.bool false,.str 0 0,.float .f64 0,.bool false,.str 0 0,.float .f64 0,.bool false,.str 0 0,.float .f64 0,.bool false,.str 0 0,.float .f64 0,.bool false,.str 0 0,.float .f64 0,.bool false,.str 0 0,.float .f64 0,.bool false,.str 0 0,.float .f64 0,.bool false,.str 0 0,.float .f64 0,.bool false,.str 0 0,.float .f64 0,.bool false,.str 0 0,.float .f64 0,.bool false,.str 0 0,.float .f64 0,.bool false,.str 0 0,.float .f64 0,.bool false,.str 0 0,.float .f64 0,.bool false,.str 0 0,.float .f64 0,.bool false,.str 0 0,.float .f64 0,.bool false,.str 0 0,.float .f64 0,.bool false,.str 0 0,.float .f64 0,.bool false,.str 0 0,.float .f64 0,.bool false,.str 0 0,.float .f64 0,.bool false,.str 0 0,.float .f64 0,.bool false,.str 0 0,.float .f64 0,.bool false,.str 0 0,.float .f64 0,.bool false,.str 0 0,.float .f64 0,.bool false,.str 0 0,.float .f64 0,.bool false,.str 0 0,.float .f64 0,.bool false,.str 0 0,.float .f64 0,.bool false,.str 0 0,.float .f64 0,.bool false,.str 0 0,.float .f64 0,.bool false,.str 0 0,.float .f64 0,.bool false,.str 0 0,.float .f64 0,.bool false,.str 0 0,.float .f64 0,.bool false,.str 0 0,.float .f64 0,.bool false,.str 0 0,.float .f64 0,.bool false,.str 0 0,.float .f64 0,.bool false,.str 0 0,.float .f64 0,.bool false,.str 0 0,.float .f64 0,.bool false,.str 0 0,.float .f64 0,.bool false,.str 0 0,.float .f64 0,.bool false,.str 0 0,.float .f64 0,.bool false,.str 0 0,.float .f64 0,.bool false,.str 0 0,.float .f64 0,.bool false,.str 0 0,.float .f64 0,.bool false,.str 0 0,.float .f64 0,.bool false,.str 0 0,.float .f64 0,.bool false,.str 0 0,.float .f64 0,.bool false,.str 0 0,.float .f64 0,.bool false,.str 0 0,.float .f64 0,.bool false,.str 0 0,.float .f64 0,.bool false,.str 0 0,.float .f64 0,.bool false,.str 0 0,.float .f64 0,.bool false,.str 0 0,.float .f64 0,.bool false,.str 0 0,.float .f64 0,.bool false,.str 0 0,.float .f64 0,.bool false,.str 0 0,.float .f64 0,.bool false,.str 0 0,.float .f64 0,.bool false,.str 0 0,.float .f64 0,.bool false,.str 0 0,.float .f64 0,.bool false,.str 0 0,.float .f64 0,.bool false,.str 0 0,.float .f64 0,.int .i64 0,.int .i64 0,.str 0 0,.str 0 0,.int .i64 0,.int .i64 0,.int .i64 0,.int .i64 0,.str 0 0,.str 0 0,.int .i64 0,.str 0 0] false 0),(k1q,.cells 311 [.nilSlice] false 0),Sf k1r k1u k1u (.int .i64 0),S6 k1s k1v k1w,(k1t,.cells 354 [.int .i64 0,.int .i64 0,.float .f64 0,.str 0 0] true 0),(k1u,.cells 389 [.int .i64 1,.int .i64 493,.str 0 0,.map k1y,.nilPtr,.str 0 0] false 0),S8 k1v,S9 k1w,Sb k1x kr k1z (.int .i64 2) (.int .i64 3) (.str 6 52970656706933) (.int .i64 0) (.int .i64 0) (.int .i64 0) (.int .i64 0),Sg k1y,Zn] s1
def s3:RT AObj:=updS [S5 k0 k1 k2 k3 k4 k5 k6 kv (.int .i64 2),S0 k1 k7 (.int .i64 (-132)) (.int .i64 132),S1 k2 k1 k8 k9 ka (.int .i64 8) (.int .i64 16331),Si k6 (.int .i64 1) (.str 12 14909942882012283808127726898) (.int .i64 1) (.int .i64 2) (.str 12 14909942882012283808127726898) (.int .i64 2),(k8,.cells 268 [.ptr kf 0,.int .i64 512,.map kg,.slice kh 0 10 (.more 1)] false 0),(ka,.bits 4 16384 13510798882111487),Sj ke k1m k20 (.int .i64 1) (.int .i64 2),(kg,.map [(.int .i64 0,.ptr kn 0,0),(.int .i64 45,.ptr ko 0,1),(.int .i64 46,.ptr k13 0,2),(.int .i64 47,.ptr k14 0,3),(.int .i64 48,.ptr k15 0,4),(.int .i64 49,.ptr k16 0,5),(.int .i64 50,.ptr k17 0,6),(.int .i64 51,.ptr k1n 0,7),(.int .i64 52,.ptr k1o 0,8),(.int .i64 53,.ptr k21 0,9)] 10),(kh,.cells 3 [.int .i64 0,.int .i64 45,.int .i64 46,.int .i64 47,.int .i64 48,.int .i64 49,.int .i64 50,.int .i64 51,.int .i64 52,.int .i64 53] true 0),(km,.map [] 40),(kr,.cells 273 [.int .i64 1,.int .i64 0,.str 5 491328597876,.ptr k9 0,.int .i64 2,.map ku,.slice k1e 0 3 (.more 1),.slice k1f 0 1 (.more 1),.nilSlice,.int .i64 0,.int .i64 0,.int .i64 0] false 0),(ku,.map [(.str 6 52970656706933,.ptr k1x 0,2),(.str 6 52970673484405,.ptr k2a 0,5),(.str 5 435744240755,.ptr k1i 0,7)] 8),S7 kz k19 (.str 12 14909952252669478796797554994) (.int .i64 3) (.int .i64 0),S4 k17,(k1e,.cells 169 [.ptr k1x 0,.ptr k2a 0,.ptr k1i 0,.ptr k1i 0] true 0),Zo,Sc k1l (.int .i64 53),(k20,.cells 211 [.ptr k22 0,.ptr k23 0,.ptr k24 0,.slice k25 0 2 (.more 1),.nilSlice] false 0),Sa k21,(k22,.cells 321 [.slice k26 0 1 (.more 4),.int .i64 0,.int .i64 20000,.int .i64 0,.nilSlice,.bool false,.str 0 0,.float .f64 0,.bool false,.str 0 0,.float .f64 0,.bool false,.str 0 0,.float .f64 0,.bool false,.str 0 0,.float .f64 0,.bool false,.str 0 0,.float .f64 0,.bool false,.str 0 0,.float .f64 0,.bool false,.str 0 0,.float .f64 0,.bool false,.str 0 0,.float .f64 0,.bool false,.str 0 0,.float .f64 0,.bool false,.str 0 0,.float .f64 0,.bool false,.str 0 0,.float .f64 0,.bool false,.str 0 0,.float .f64 0,.bool false,.str 0 0,.float .f64 0,.bool false,.str 0 0,.float .f64 0,.bool false,.str 0 0,.float .f64 0,.bool false,.str 0 0,.float .f64 0,.bool false,.str 0 0,.float .f64 0,.bool false,.str 0 0,.float .f64 0,.bool false,.str 0 0,.float .f64 0,.bool false,.str 0 0,.float .f64 0,.bool false,.str 0 0,.float .f64 0,.bool false,.str 0 0,.float .f64 0,.bool false,.str 0 0,.float .f64 0,.bool false,.str 0 0,.float .f64 0,.bool false,.str 0 0,.float .f64 0,.bool false,.str 0 0,.float .f64 0,.bool false,.str 0 0,.float .f64 0,.bool false,.str 0 0,.float .f64 0,.bool false,.str 0 0,.float .f64 0,.bool false,.str 0 0,.float .f64 0,.bool false,.str 0 0,.float .f64 0,.bool false,.str 0 0,.float .f64 0,.bool false,.str 0 0,.float .f64 0,.bool false,.str 0 0,.float .f64 0,.bool false,.str 0 0,.float .f64 0,.bool false,.str 0 0,.float .f64 0,.bool false,.str 0 0,.float .f64 0,.bool false,.str 0 0,.float .f64 0,.bool false,.str 0 0,.float .f64 0,.bool false,.str 0 0,.float .f64 0,.bool false,.str 0 0,.float .f64 0,.bool false,.str 0 0,.float .f64 0,.bool false,.str 0 0,.float .f64 0,.bool false,.str 0 0,.float .f64 0,.bool false,.str 0 0,.float .f64 0,.bool false,.str 0 0,.float .f64 0,.bool false,.str 0 0,.float .f64 0,.bool false,.str 0 0,.float .f64 0,.bool false,.str 0 0,.float .f64 0,.bool false,.str 0 0,.float .f64 0,.bool false,.str 0 0,.float .f64 0,.bool false,.str 0 0,.float .f64 0,.bool false,.str 0 0,.float .f64 0,.bool false,.str 0 0,.float .f64 0,.bool false,.str 0 0,.float .f64 0,.bool false,.str 0 0,.float .f64 0,.bool false,.str 0 0,.float .f64 0,.bool false,.str 0 0,.float .f64 0,.bool false,.str 0 0,.float .f64 0,.bool false,.str 0 0,.float .f64 0,.bool false,.str 0 0,.float .f64 0,.bool false,.str 0 0,.float .f64 0,.bool false,.str 0 0,.float .f64 0,.bool false,.str 0 0,.float .f64 0,.int .i64 0,.int .i64 0,.str 0 0,.str 0 0,.int .i64 0,.int .i64 0,.int .i64 0,.int .i64 0,.str 0 0,.str 0 0,.int .i64 0,.str 0 0] false 0),(k23,.cells 311 [.nilSlice] false 0),Sf k24 k27 k27 (.int .i64 0),S6 k25 k28 k29,(k26,.cells 354 [.int .i64 0,.int .i64 0,.float .f64 0,.str 0 0] true 0),(k27,.cells 389 [.int .i64 1,.int .i64 493,.str 0 0,.map k2b,.nilPtr,.str 0 0] false 0),S8 k28,S9 k29,Sb k2a kr k2c (.int .i64 2) (.int .i64 3) (.str 6 52970673484405) (.int .i64 1) (.int .i64 0) (.int .i64 0) (.int .i64 0),Sg k2b,Zp] s2
def s4:RT AObj:=updS [S5 k0 k1 k2 k3 k4 k5 k6 kv (.int .i64 3),S0 k1 k7 (.int .i64 (-162)) (.int .i64 162),Si k6 (.int .i64 1) (.str 12 14909942882012283808127726898) (.int .i64 3) (.int .i64 2) (.str 12 14909942882012283808127726898) (.int .i64 2),(k8,.cells 268 [.ptr kf 0,.int .i64 512,.map kg,.slice kh 0 12 (.more 1)] false 0),Sl ka,(kg,.map [(.int .i64 0,.ptr kn 0,0),(.int .i64 45,.ptr ko 0,1),(.int .i64 46,.ptr k13 0,2),(.int .i64 47,.ptr k14 0,3),(.int .i64 48,.ptr k15 0,4),(.int .i64 49,.ptr k16 0,5),(.int .i64 50,.ptr k17 0,6),(.int .i64 51,.ptr k1n 0,7),(.int .i64 52,.ptr k1o 0,8),(.int .i64 53,.ptr k21 0,9),(.int .i64 54,.ptr k2d 0,10),(.int .i64 55,.ptr k2e 0,11)] 12),(kh,.cells 3 [.int .i64 0,.int .i64 45,.int .i64 46,.int .i64 47,.int .i64 48,.int .i64 49,.int .i64 50,.int .i64 51,.int .i64 52,.int .i64 53,.int .i64 54,.int .i64 55] true 0),(km,.map [] 49),(ku,.map [(.str 6 52970673484405,.ptr k2a 0,5),(.str 6 52970690261365,.ptr k2f 0,8),(.str 5 435744240755,.ptr k1i 0,10)] 11),Zq,(k1f,.cells 3 [.int .i64 49,.int .i64 54] true 0),Zr,Zs,S4 k1o,Sf k1r k1u k1u (.int .i64 1),(k1y,.lmap [(.str 3 6581861,.ptr k2h 0)]),S4 k2d,Sa k2e,Sb k2f kr k2g (.int .i64 2) (.int .i64 13) (.str 6 52970690261365) (.int .i64 2) (.int .i64 0) (.int .i64 0) (.int .i64 0),Zt,Sp k2h k2i k1u (.int .i64 2) (.int .i64 420) (.str 0 0) (.str 3 6581861),Sg k2i] s3
def s5:RT AObj:=updS [S5 k0 k1 k2 k3 k4 k5 k6 kv (.int .i64 4),S0 k1 k7 (.int .i64 (-192)) (.int .i64 192),Si k6 (.int .i64 1) (.str 12 14909942882012283808127726898) (.int .i64 4) (.int .i64 2) (.str 12 14909942882012283808127726898) (.int .i64 2),Sq ka,(km,.map [] 58),(ku,.map [(.str 6 52970673484405,.ptr k2a 0,5),(.str 6 52970707038581,.ptr k1x 0,11),(.str 5 435744240755,.ptr k1i 0,13)] 14),Zu,(k1f,.cells 3 [.int .i64 49,.int .i64 53] true 0),Zo,Zv,S4 k1n,Sb k1x kr k1z (.int .i64 2) (.int .i64 14) (.str 6 52970707038581) (.int .i64 0) (.int .i64 0) (.int .i64 0) (.int .i64 0),Zn,S4 k21,Sp k2h k2i k1u (.int .i64 2) (.int .i64 420) (.str 1 120) (.str 3 6581861)] s4
def s6:RT AObj:=updS [S5 k0 k1 k2 k3 k4 k5 k6 kv (.int .i64 5),S0 k1 k7 (.int .i64 (-222)) (.int .i64 222),Si k6 (.int .i64 1) (.str 12 14909942882012283808127726898) (.int .i64 4) (.int .i64 2) (.str 12 14909942882012283808127726898) (.int .i64 5),Ss ka,(km,.map [] 67),(ku,.map [(.str 6 52970707038581,.ptr k1x 0,11),(.str 6 52970723816053,.ptr k2f 0,14),(.str 5 435744240755,.ptr k1i 0,16)] 17),Zw,Zx,Zs,Sf k24 k27 k27 (.int .i64 1),(k2b,.lmap [(.str 2 13167,.ptr k2j 0)]),S4 k2e,Sb k2f kr k2g (.int .i64 2) (.int .i64 12) (.str 6 52970723816053) (.int .i64 2) (.int .i64 0) (.int .i64 0) (.int .i64 0),Zt,Sp k2j k2k k27 (.int .i64 1) (.int .i64 0) (.str 0 0) (.str 2 13167),Sg k2k] s5
def s7:RT AObj:=updS [S5 k0 k1 k2 k3 k4 k5 k6 kv (.int .i64 6),S0 k1 k7 (.int .i64 (-252)) (.int .i64 252),Si k6 (.int .i64 1) (.str 12 14909942882012283808127726898) (.int .i64 6) (.int .i64 2) (.str 12 14909942882012283808127726898) (.int .i64 5),Su ka,(km,.map [] 76),(ku,.map [(.str 6 52970723816053,.ptr k2f 0,14),(.str 6 52970740593013,.ptr k2a 0,17),(.str 5 435744240755,.ptr k1i 0,19)] 20),Zq,Zr,Zv,Sv k1r k1u k1u,Sj k1y k2l k2h (.str 2 12396) (.str 3 6581861),Sb k2a kr k2c (.int .i64 2) (.int .i64 26) (.str 6 52970740593013) (.int .i64 1) (.int .i64 0) (.int .i64 0) (.int .i64 0),Zp,Sp k2l k2m k1u (.int .i64 3) (.int .i64 511) (.str 3 6581861) (.str 2 12396),Sg k2m] s6
def s8:RT AObj:=updS [S5 k0 k1 k2 k3 k4 k5 k6 kv (.int .i64 7),S0 k1 k7 (.int .i64 (-282)) (.int .i64 282),Si k6 (.int .i64 1) (.str 12 14909942882012283808127726898) (.int .i64 7) (.int .i64 2) (.str 12 14909942882012283808127726898) (.int .i64 5),Ss ka,(km,.map [] 85),(ku,.map [(.str 6 52970723816053,.ptr k2f 0,14),(.str 6 52970757370229,.ptr k1x 0,20),(.str 5 435744240755,.ptr k1i 0,22)] 23),Zw,Zx,Zs,Sw k1r k1u k1u,Sb k1x kr k1z (.int .i64 2) (.int .i64 35) (.str 6 52970757370229) (.int .i64 0) (.int .i64 0) (.int .i64 0) (.int .i64 0),(k1y,.lmap [(.str 1 97,.ptr k2n 0),(.str 2 12396,.ptr k2l 0),(.str 3 6581861,.ptr k2h 0)]),Zn,Sx k2n k2o k1u,Sg k2o] s7
def s9:RT AObj:=updS [Zy,Zz,Z10,Su ka,(km,.map [] 94),(ku,.map [(.str 6 52970723816053,.ptr k2f 0,14),(.str 6 52970774147445,.ptr k2a 0,23),(.str 5 435744240755,.ptr k1i 0,25)] 26),Zq,Zr,Zv,Sy k1r k1u k1u,(k1y,.lmap [(.str 1 97,.ptr k2n 0),(.str 1 98,.ptr k2p 0),(.str 2 12396,.ptr k2l 0),(.str 3 6581861,.ptr k2h 0)]),Sb k2a kr k2c (.int .i64 2) (.int .i64 44) (.str 6 52970774147445) (.int .i64 1) (.int .i64 0) (.int .i64 0) (.int .i64 0),Zp,Sz k2p k2q k1u,Sg k2q] s8
def sa:RT AObj:=updS [Z11,Z12,Z13,S10 ka,(km,.map [] 103),(ku,.map [(.str 6 52970774147445,.ptr k2a 0,23),(.str 6 52970790924917,.ptr k1x 0,26),(.str 5 435744240755,.ptr k1i 0,28)] 29),Zu,Zo,Zs,Z14,Zn,Sv k24 k27 k27,Z15,Z16,Sg k2s] s9
def sb:RT AObj:=updS [S5 k0 k1 k2 k3 k4 k5 k6 kv (.int .i64 7),S0 k1 k7 (.int .i64 (-282)) (.int .i64 282),Si k6 (.int .i64 1) (.str 12 14909942882012283808127726898) (.int .i64 7) (.int .i64 2) (.str 12 14909942882012283808127726898) (.int .i64 5),Ss ka,(km,.map [] 85),(ku,.map [(.str 6 52970723816053,.ptr k2f 0,14),(.str 6 52970757370229,.ptr k1x 0,20),(.str 5 435744240755,.ptr k1i 0,22)] 23),Zw,Zx,Zs,Sw k1r k1u k1u,Sb k1x kr k1z (.int .i64 2) (.int .i64 37) (.str 6 52970757370229) (.int .i64 0) (.int .i64 0) (.int .i64 0) (.int .i64 0),(k1y,.lmap [(.str 2 12396,.ptr k2l 0),(.str 2 12652,.ptr k2n 0),(.str 3 6581861,.ptr k2h 0)]),Zn,Sp k2n k2o k1u (.int .i64 3) (.int .i64 511) (.str 2 12396) (.str 2 12652),Sg k2o] s7
def sc:RT AObj:=updS [Zy,Zz,Z10,Su ka,(km,.map [] 94),(ku,.map [(.str 6 52970723816053,.ptr k2f 0,14),(.str 6 52970774147445,.ptr k2a 0,23),(.str 5 435744240755,.ptr k1i 0,25)] 26),Zq,Zr,Zv,Sy k1r k1u k1u,(k1y,.lmap [(.str 1 97,.ptr k2p 0),(.str 2 12396,.ptr k2l 0),(.str 2 12652,.ptr k2n 0),(.str 3 6581861,.ptr k2h 0)]),Sb k2a kr k2c (.int .i64 2) (.int .i64 46) (.str 6 52970774147445) (.int .i64 1) (.int .i64 0) (.int .i64 0) (.int .i64 0),Zp,Sx k2p k2q k1u,Sg k2q] sb
def sd:RT AObj:=updS [Z11,Z12,Z13,S10 ka,(km,.map [] 103),(ku,.map [(.str 6 52970774147445,.ptr k2a 0,23),(.str 6 52970790924917,.ptr k1x 0,26),(.str 5 435744240755,.ptr k1i 0,28)] 29),Zu,Zo,Zs,Z14,Zn,Sv k24 k27 k27,Z15,Z16,Sg k2s] sc
def se:RT AObj:=updS [Z17,Z18,Z19,S11 ka,(km,.map [] 112),(ku,.map [(.str 6 52970790924917,.ptr k1x 0,26),(.str 7 13560483888836981,.ptr k2f 0,29),(.str 5 435744240755,.ptr k1i 0,31)] 32),Zw,Zx,Zv,S12 k1r k1u k1u,(k1y,.lmap [(.str 1 97,.ptr k2p 0),(.str 1 98,.ptr k2t 0),(.str 2 12396,.ptr k2l 0),(.str 2 12652,.ptr k2n 0),(.str 3 6581861,.ptr k2h 0)]),Sb k2f kr k2g (.int .i64 2) (.int .i64 55) (.str 7 13560483888836981) (.int .i64 2) (.int .i64 0) (.int .i64 0) (.int .i64 0),Zt,Sz k2t k2u k1u,Sg k2u] sd
def sf:RT AObj:=updS [Z1a,S14 k1 k7,Si k6 (.int .i64 1) (.str 12 14909942882012283808127726898) (.int .i64 10) (.int .i64 2) (.str 12 14909942882012283808127726898) (.int .i64 11),Sl ka,S15 km,(ku,.map [(.str 7 13560483888836981,.ptr k2f 0,29),(.str 7 13560488183804533,.ptr k2a 0,32),(.str 5 435744240755,.ptr k1i 0,34)] 35),Zq,Zr,Zs,Z1b,Sb k2a kr k2c (.int .i64 2) (.int .i64 30) (.str 7 13560488183804533) (.int .i64 1) (.int .i64 0) (.int .i64 0) (.int .i64 0),S16 k2b k2j k2r k2v,Zp,S17 k2v k2w k27,Sg k2w] se
def sg:RT AObj:=updS [Zy,Zz,Z10,Su ka,(km,.map [] 94),(ku,.map [(.str 6 52970723816053,.ptr k2f 0,14),(.str 6 52970774147445,.ptr k2a 0,23),(.str 5 435744240755,.ptr k1i 0,25)] 26),Zq,Zr,Zv,Sy k1r k1u k1u,(k1y,.lmap [(.str 2 12396,.ptr k2l 0),(.str 2 12652,.ptr k2n 0),(.str 2 12908,.ptr k2p 0),(.str 3 6581861,.ptr k2h 0)]),Sb k2a kr k2c (.int .i64 2) (.int .i64 48) (.str 6 52970774147445) (.int .i64 1) (.int .i64 0) (.int .i64 0) (.int .i64 0),Zp,Sp k2p k2q k1u (.int .i64 3) (.int .i64 511) (.str 2 12652) (.str 2 12908),Sg k2q] sb
def sh:RT AObj:=updS [Z11,Z12,Z13,S10 ka,(km,.map [] 103),(ku,.map [(.str 6 52970774147445,.ptr k2a 0,23),(.str 6 52970790924917,.ptr k1x 0,26),(.str 5 435744240755,.ptr k1i 0,28)] 29),Zu,Zo,Zs,Z14,Zn,Sv k24 k27 k27,Z15,Z16,Sg k2s] sg
def si:RT AObj:=updS [Z17,Z18,Z19,S11 ka,(km,.map [] 112),(ku,.map [(.str 6 52970790924917,.ptr k1x 0,26),(.str 7 13560483888836981,.ptr k2f 0,29),(.str 5 435744240755,.ptr k1i 0,31)] 32),Zw,Zx,Zv,S12 k1r k1u k1u,(k1y,.lmap [(.str 1 97,.ptr k2t 0),(.str 2 12396,.ptr k2l 0),(.str 2 12652,.ptr k2n 0),(.str 2 12908,.ptr k2p 0),(.str 3 6581861,.ptr k2h 0)]),Sb k2f kr k2g (.int .i64 2) (.int .i64 57) (.str 7 13560483888836981) (.int .i64 2) (.int .i64 0) (.int .i64 0) (.int .i64 0),Zt,Sx k2t k2u k1u,Sg k2u] sh
def sj:RT AObj:=updS [Z1a,S14 k1 k7,Z1c,S10 ka,S15 km,(ku,.map [(.str 6 52970790924917,.ptr k1x 0,26),(.str 7 13560488183804277,.ptr k2a 0,32),(.str 5 435744240755,.ptr k1i 0,34)] 35),Zu,Zo,Zs,S18 k1r k1u k1u,(k1y,.lmap [(.str 1 97,.ptr k2t 0),(.str 1 98,.ptr k2v 0),(.str 2 12396,.ptr k2l 0),(.str 2 12652,.ptr k2n 0),(.str 2 12908,.ptr k2p 0),(.str 3 6581861,.ptr k2h 0)]),Sb k2a kr k2c (.int .i64 2) (.int .i64 66) (.str 7 13560488183804277) (.int .i64 1) (.int .i64 0) (.int .i64 0) (.int .i64 0),Zp,Sz k2v k2w k1u,Sg k2w] si
def sk:RT AObj:=updS [Z1d,S1a k1 k7,Si k6 (.int .i64 1) (.str 12 14909942882012283808127726898) (.int .i64 11) (.int .i64 2) (.str 12 14909942882012283808127726898) (.int .i64 12),Su ka,S1b km,(ku,.map [(.str 7 13560488183804277,.ptr k2a 0,32),(.str 7 13560492478771829,.ptr k2f 0,35),(.str 5 435744240755,.ptr k1i 0,37)] 38),Zq,Zr,Zv,Z1b,S16 k2b k2j k2r k2x,Sb k2f kr k2g (.int .i64 2) (.int .i64 30) (.str 7 13560492478771829) (.int .i64 2) (.int .i64 0) (.int .i64 0) (.int .i64 0),Zt,S17 k2x k2y k27,Sg k2y] sj
def sl:RT AObj:=updS [Z17,Z18,Z19,S11 ka,(km,.map [] 112),(ku,.map [(.str 6 52970790924917,.ptr k1x 0,26),(.str 7 13560483888836981,.ptr k2f 0,29),(.str 5 435744240755,.ptr k1i 0,31)] 32),Zw,Zx,Zv,S12 k1r k1u k1u,(k1y,.lmap [(.str 2 12396,.ptr k2l 0),(.str 2 12652,.ptr k2n 0),(.str 2 12908,.ptr k2p 0),(.str 2 13164,.ptr k2t 0),(.str 3 6581861,.ptr k2h 0)]),Sb k2f kr k2g (.int .i64 2) (.int .i64 59) (.str 7 13560483888836981) (.int .i64 2) (.int .i64 0) (.int .i64 0) (.int .i64 0),Zt,Sp k2t k2u k1u (.int .i64 3) (.int .i64 511) (.str 2 12908) (.str 2 13164),Sg k2u] sh
def sm:RT AObj:=updS [Z1a,S14 k1 k7,Z1c,S10 ka,S15 km,(ku,.map [(.str 6 52970790924917,.ptr k1x 0,26),(.str 7 13560488183804277,.ptr k2a 0,32),(.str 5 435744240755,.ptr k1i 0,34)] 35),Zu,Zo,Zs,S18 k1r k1u k1u,(k1y,.lmap [(.str 1 97,.ptr k2v 0),(.str 2 12396,.ptr k2l 0),(.str 2 12652,.ptr k2n 0),(.str 2 12908,.ptr k2p 0),(.str 2 13164,.ptr k2t 0),(.str 3 6581861,.ptr k2h 0)]),Sb k2a kr k2c (.int .i64 2) (.int .i64 68) (.str 7 13560488183804277) (.int .i64 1) (.int .i64 0) (.int .i64 0) (.int .i64 0),Zp,Sx k2v k2w k1u,Sg k2w] sl
def sn:RT AObj:=updS [Z1d,S1a k1 k7,Z1e,S11 ka,S1b km,(ku,.map [(.str 6 52970790924917,.ptr k1x 0,26),(.str 7 13560492478771573,.ptr k2f 0,35),(.str 5 435744240755,.ptr k1i 0,37)] 38),Zw,Zx,Zv,S1c k1r k1u k1u,S1d k1y k2v k2x k2l k2n k2p k2t k2h (.str 1 97) (.str 1 98) (.str 2 12396) (.str 2 12652) (.str 2 12908) (.str 2 13164) (.str 3 6581861),Sb k2f kr k2g (.int .i64 2) (.int .i64 77) (.str 7 13560492478771573) (.int .i64 2) (.int .i64 0) (.int .i64 0) (.int .i64 0),Zt,Sz k2x k2y k1u,Sg k2y] sm
def so:RT AObj:=updS [Z1f,Z1g,Z1h,Sl ka,(km,.map [] 139),(ku,.map [(.str 7 13560492478771573,.ptr k2f 0,35),(.str 7 13560496773739125,.ptr k2a 0,38),(.str 5 435744240755,.ptr k1i 0,40)] 41),Zq,Zr,Zs,Z1b,Z1i,S16 k2b k2j k2r k2z,Zp,S17 k2z k30 k27,Sg k30] sn
def sp:RT AObj:=updS [Z1a,S14 k1 k7,Z1c,S10 ka,S15 km,(ku,.map [(.str 6 52970790924917,.ptr k1x 0,26),(.str 7 13560488183804277,.ptr k2a 0,32),(.str 5 435744240755,.ptr k1i 0,34)] 35),Zu,Zo,Zs,S18 k1r k1u k1u,(k1y,.lmap [(.str 2 12396,.ptr k2l 0),(.str 2 12652,.ptr k2n 0),(.str 2 12908,.ptr k2p 0),(.str 2 13164,.ptr k2t 0),(.str 2 13420,.ptr k2v 0),(.str 3 6581861,.ptr k2h 0)]),Sb k2a kr k2c (.int .i64 2) (.int .i64 70) (.str 7 13560488183804277) (.int .i64 1) (.int .i64 0) (.int .i64 0) (.int .i64 0),Zp,Sp k2v k2w k1u (.int .i64 3) (.int .i64 511) (.str 2 13164) (.str 2 13420),Sg k2w] sl
def sq:RT AObj:=updS [Z1d,S1a k1 k7,Z1e,S11 ka,S1b km,(ku,.map [(.str 6 52970790924917,.ptr k1x 0,26),(.str 7 13560492478771573,.ptr k2f 0,35),(.str 5 435744240755,.ptr k1i 0,37)] 38),Zw,Zx,Zv,S1c k1r k1u k1u,S1d k1y k2x k2l k2n k2p k2t k2v k2h (.str 1 97) (.str 2 12396) (.str 2 12652) (.str 2 12908) (.str 2 13164) (.str 2 13420) (.str 3 6581861),Sb k2f kr k2g (.int .i64 2) (.int .i64 79) (.str 7 13560492478771573) (.int .i64 2) (.int .i64 0) (.int .i64 0) (.int .i64 0),Zt,Sx k2x k2y k1u,Sg k2y] sp
def sr:RT AObj:=updS [Z1f,Z1g,Z1h,Sl ka,(km,.map [] 139),(ku,.map [(.str 7 13560492478771573,.ptr k2f 0,35),(.str 7 13560496773739125,.ptr k2a 0,38),(.str 5 435744240755,.ptr k1i 0,40)] 41),Zq,Zr,Zs,Z1b,Z1i,S16 k2b k2j k2r k2z,Zp,S17 k2z k30 k27,Sg k30] sq
def ss:RT AObj:=updS [Z1j,Z1k,Z1l,Sq ka,(km,.map [] 148),(ku,.map [(.str 7 13560496773739125,.ptr k2a 0,38),(.str 7 13560501068706165,.ptr k1x 0,41),(.str 5 435744240755,.ptr k1i 0,43)] 44),Zu,Zo,Zv,Sf k1r k1u k1u (.int .i64 8),Sb k1x kr k1z (.int .i64 2) (.int .i64 88) (.str 7 13560501068706165) (.int .i64 0) (.int .i64 0) (.int .i64 0) (.int .i64 0),(k1y,.lmap [(.str 1 97,.ptr k2x 0),(.str 1 98,.ptr k31 0),(.str 2 12396,.ptr k2l 0),(.str 2 12652,.ptr k2n 0),(.str 2 12908,.ptr k2p 0),(.str 2 13164,.ptr k2t 0),(.str 2 13420,.ptr k2v 0),(.str 3 6581861,.ptr k2h 0)]),Zn,Sz k31 k32 k1u,Sg k32] sr
def st:RT AObj:=updS [Z1m,S1f k1 k7,Si k6 (.int .i64 1) (.str 12 14909942882012283808127726898) (.int .i64 14) (.int .i64 2) (.str 12 14909942882012283808127726898) (.int .i64 15),Ss ka,S1g km,(ku,.map [(.str 7 13560501068706165,.ptr k1x 0,41),(.str 7 13560505363673717,.ptr k2f 0,44),(.str 5 435744240755,.ptr k1i 0,46)] 47),Zw,Zx,Zs,Z1n,S1h k2b k2j k2r k2z k33,Sb k2f kr k2g (.int .i64 2) (.int .i64 40) (.str 7 13560505363673717) (.int .i64 2) (.int .i64 0) (.int .i64 0) (.int .i64 0),Zt,S1i k33 k34 k27,Sg k34] ss
def su:RT AObj:=updS [Z1d,S1a k1 k7,Z1e,S11 ka,S1b km,(ku,.map [(.str 6 52970790924917,.ptr k1x 0,26),(.str 7 13560492478771573,.ptr k2f 0,35),(.str 5 435744240755,.ptr k1i 0,37)] 38),Zw,Zx,Zv,S1c k1r k1u k1u,S1d k1y k2l k2n k2p k2t k2v k2x k2h (.str 2 12396) (.str 2 12652) (.str 2 12908) (.str 2 13164) (.str 2 13420) (.str 2 13676) (.str 3 6581861),Sb k2f kr k2g (.int .i64 2) (.int .i64 81) (.str 7 13560492478771573) (.int .i64 2) (.int .i64 0) (.int .i64 0) (.int .i64 0),Zt,Sp k2x k2y k1u (.int .i64 3) (.int .i64 511) (.str 2 13420) (.str 2 13676),Sg k2y] sp
def sv:RT AObj:=updS [Z1f,Z1g,Z1h,Sl ka,(km,.map [] 139),(ku,.map [(.str 7 13560492478771573,.ptr k2f 0,35),(.str 7 13560496773739125,.ptr k2a 0,38),(.str 5 435744240755,.ptr k1i 0,40)] 41),Zq,Zr,Zs,Z1b,Z1i,S16 k2b k2j k2r k2z,Zp,S17 k2z k30 k27,Sg k30] su
def sw:RT AObj:=updS [Z1j,Z1k,Z1l,Sq ka,(km,.map [] 148),(ku,.map [(.str 7 13560496773739125,.ptr k2a 0,38),(.str 7 13560501068706165,.ptr k1x 0,41),(.str 5 435744240755,.ptr k1i 0,43)] 44),Zu,Zo,Zv,Sf k1r k1u k1u (.int .i64 8),Sb k1x kr k1z (.int .i64 2) (.int .i64 90) (.str 7 13560501068706165) (.int .i64 0) (.int .i64 0) (.int .i64 0) (.int .i64 0),(k1y,.lmap [(.str 1 97,.ptr k31 0),(.str 2 12396,.ptr k2l 0),(.str 2 12652,.ptr k2n 0),(.str 2 12908,.ptr k2p 0),(.str 2 13164,.ptr k2t 0),(.str 2 13420,.ptr k2v 0),(.str 2 13676,.ptr k2x 0),(.str 3 6581861,.ptr k2h 0)]),Zn,Sx k31 k32 k1u,Sg k32] sv
def sx:RT AObj:=updS [Z1m,S1f k1 k7,Z1o,Sl ka,S1g km,(ku,.map [(.str 7 13560496773739125,.ptr k2a 0,38),(.str 7 13560505363673461,.ptr k2f 0,44),(.str 5 435744240755,.ptr k1i 0,46)] 47),Zq,Zr,Zs,Sf k1r k1u k1u (.int .i64 9),(k1y,.lmap [(.str 1 97,.ptr k31 0),(.str 1 98,.ptr k33 0),(.str 2 12396,.ptr k2l 0),(.str 2 12652,.ptr k2n 0),(.str 2 12908,.ptr k2p 0),(.str 2 13164,.ptr k2t 0),(.str 2 13420,.ptr k2v 0),(.str 2 13676,.ptr k2x 0),(.str 3 6581861,.ptr k2h 0)]),Sb k2f kr k2g (.int .i64 2) (.int .i64 99) (.str 7 13560505363673461) (.int .i64 2) (.int .i64 0) (.int .i64 0) (.int .i64 0),Zt,Sz k33 k34 k1u,Sg k34] sw
def sy:RT AObj:=updS [Z1p,S1k k1 k7,Si k6 (.int .i64 1) (.str 12 14909942882012283808127726898) (.int .i64 15) (.int .i64 2) (.str 12 14909942882012283808127726898) (.int .i64 16),S11 ka,S1l km,(ku,.map [(.str 7 13560505363673461,.ptr k2f 0,44),(.str 7 13560509658641013,.ptr k1x 0,47),(.str 5 435744240755,.ptr k1i 0,49)] 50),Zw,Zx,Zv,Sb k1x kr k1z (.int .i64 2) (.int .i64 40) (.str 7 13560509658641013) (.int .i64 0) (.int .i64 0) (.int .i64 0) (.int .i64 0),Zn,Z1n,S1h k2b k2j k2r k2z k35,S1i k35 k36 k27,Sg k36] sx
def sz:RT AObj:=updS [Z1j,Z1k,Z1l,Sq ka,(km,.map [] 148),(ku,.map [(.str 7 13560496773739125,.ptr k2a 0,38),(.str 7 13560501068706165,.ptr k1x 0,41),(.str 5 435744240755,.ptr k1i 0,43)] 44),Zu,Zo,Zv,Sf k1r k1u k1u (.int .i64 8),Sb k1x kr k1z (.int .i64 2) (.int .i64 92) (.str 7 13560501068706165) (.int .i64 0) (.int .i64 0) (.int .i64 0) (.int .i64 0),(k1y,.lmap [(.str 2 12396,.ptr k2l 0),(.str 2 12652,.ptr k2n 0),(.str 2 12908,.ptr k2p 0),(.str 2 13164,.ptr k2t 0),(.str 2 13420,.ptr k2v 0),(.str 2 13676,.ptr k2x 0),(.str 2 13932,.ptr k31 0),(.str 3 6581861,.ptr k2h 0)]),Zn,Sp k31 k32 k1u (.int .i64 3) (.int .i64 511) (.str 2 13676) (.str 2 13932),Sg k32] sv
def s10:RT AObj:=updS [Z1m,S1f k1 k7,Z1o,Sl ka,S1g km,(ku,.map [(.str 7 13560496773739125,.ptr k2a 0,38),(.str 7 13560505363673461,.ptr k2f 0,44),(.str 5 435744240755,.ptr k1i 0,46)] 47),Zq,Zr,Zs,Sf k1r k1u k1u (.int .i64 9),(k1y,.lmap [(.str 1 97,.ptr k33 0),(.str 2 12396,.ptr k2l 0),(.str 2 12652,.ptr k2n 0),(.str 2 12908,.ptr k2p 0),(.str 2 13164,.ptr k2t 0),(.str 2 13420,.ptr k2v 0),(.str 2 13676,.ptr k2x 0),(.str 2 13932,.ptr k31 0),(.str 3 6581861,.ptr k2h 0)]),Sb k2f kr k2g (.int .i64 2) (.int .i64 101) (.str 7 13560505363673461) (.int .i64 2) (.int .i64 0) (.int .i64 0) (.int .i64 0),Zt,Sx k33 k34 k1u,Sg k34] sz
def s11:RT AObj:=updS [Z1p,S1k k1 k7,Z1q,Sq ka,S1l km,(ku,.map [(.str 7 13560496773739125,.ptr k2a 0,38),(.str 7 13560509658640757,.ptr k1x 0,47),(.str 5 435744240755,.ptr k1i 0,49)] 50),Zu,Zo,Zv,Sf k1r k1u k1u (.int .i64 10),Sb k1x kr k1z (.int .i64 2) (.int .i64 110) (.str 7 13560509658640757) (.int .i64 0) (.int .i64 0) (.int .i64 0) (.int .i64 0),(k1y,.lmap [(.str 1 97,.ptr k33 0),(.str 1 98,.ptr k35 0),(.str 2 12396,.ptr k2l 0),(.str 2 12652,.ptr k2n 0),(.str 2 12908,.ptr k2p 0),(.str 2 13164,.ptr k2t 0),(.str 2 13420,.ptr k2v 0),(.str 2 13676,.ptr k2x 0),(.str 2 13932,.ptr k31 0),(.str 3 6581861,.ptr k2h 0)]),Zn,Sz k35 k36 k1u,Sg k36] s10
def s12:RT AObj:=updS [Z1r,Z1s,Z1t,Ss ka,(km,.map [] 175),(ku,.map [(.str 7 13560509658640757,.ptr k1x 0,47),(.str 7 13560513953608309,.ptr k2f 0,50),(.str 5 435744240755,.ptr k1i 0,52)] 53),Zw,Zx,Zs,Z1n,S1h k2b k2j k2r k2z k37,Z1u,Zt,S1i k37 k38 k27,Sg k38] s11
def s13:RT AObj:=updS [Z1m,S1f k1 k7,Z1o,Sl ka,S1g km,(ku,.map [(.str 7 13560496773739125,.ptr k2a 0,38),(.str 7 13560505363673461,.ptr k2f 0,44),(.str 5 435744240755,.ptr k1i 0,46)] 47),Zq,Zr,Zs,Sf k1r k1u k1u (.int .i64 9),(k1y,.lmap [(.str 2 12396,.ptr k2l 0),(.str 2 12652,.ptr k2n 0),(.str 2 12908,.ptr k2p 0),(.str 2 13164,.ptr k2t 0),(.str 2 13420,.ptr k2v 0),(.str 2 13676,.ptr k2x 0),(.str 2 13932,.ptr k31 0),(.str 2 14188,.ptr k33 0),(.str 3 6581861,.ptr k2h 0)]),Sb k2f kr k2g (.int .i64 2) (.int .i64 103) (.str 7 13560505363673461) (.int .i64 2) (.int .i64 0) (.int .i64 0) (.int .i64 0),Zt,Sp k33 k34 k1u (.int .i64 3) (.int .i64 511) (.str 2 13932) (.str 2 14188),Sg k34] sz
def s14:RT AObj:=updS [Z1p,S1k k1 k7,Z1q,Sq ka,S1l km,(ku,.map [(.str 7 13560496773739125,.ptr k2a 0,38),(.str 7 13560509658640757,.ptr k1x 0,47),(.str 5 435744240755,.ptr k1i 0,49)] 50),Zu,Zo,Zv,Sf k1r k1u k1u (.int .i64 10),Sb k1x kr k1z (.int .i64 2) (.int .i64 112) (.str 7 13560509658640757) (.int .i64 0) (.int .i64 0) (.int .i64 0) (.int .i64 0),(k1y,.lmap [(.str 1 97,.ptr k35 0),(.str 2 12396,.ptr k2l 0),(.str 2 12652,.ptr k2n 0),(.str 2 12908,.ptr k2p 0),(.str 2 13164,.ptr k2t 0),(.str 2 13420,.ptr k2v 0),(.str 2 13676,.ptr k2x 0),(.str 2 13932,.ptr k31 0),(.str 2 14188,.ptr k33 0),(.str 3 6581861,.ptr k2h 0)]),Zn,Sx k35 k36 k1u,Sg k36] s13
def s15:RT AObj:=updS [Z1r,Z1s,Z1t,Ss ka,(km,.map [] 175),(ku,.map [(.str 7 13560509658640757,.ptr k1x 0,47),(.str 7 13560513953608309,.ptr k2f 0,50),(.str 5 435744240755,.ptr k1i 0,52)] 53),Zw,Zx,Zs,Z1n,S1h k2b k2j k2r k2z k37,Z1u,Zt,S1i k37 k38 k27,Sg k38] s14
def s16:RT AObj:=updS [Z1v,Z1w,Z1x,Su ka,(km,.map [] 184),(ku,.map [(.str 7 13560513953608309,.ptr k2f 0,50),(.str 7 13560518248575349,.ptr k2a 0,53),(.str 5 435744240755,.ptr k1i 0,55)] 56),Zq,Zr,Zv,Sf k1r k1u k1u (.int .i64 11),(k1y,.lmap [(.str 1 97,.ptr k35 0),(.str 1 98,.ptr k39 0),(.str 2 12396,.ptr k2l 0),(.str 2 12652,.ptr k2n 0),(.str 2 12908,.ptr k2p 0),(.str 2 13164,.ptr k2t 0),(.str 2 13420,.ptr k2v 0),(.str 2 13676,.ptr k2x 0),(.str 2 13932,.ptr k31 0),(.str 2 14188,.ptr k33 0),(.str 3 6581861,.ptr k2h 0)]),Sb k2a kr k2c (.int .i64 2) (.int .i64 121) (.str 7 13560518248575349) (.int .i64 1) (.int .i64 0) (.int .i64 0) (.int .i64 0),Zp,Sz k39 k3a k1u,Sg k3a] s15
def s17:RT AObj:=updS [Z1y,S1n k1 k7,Si k6 (.int .i64 1) (.str 12 14909942882012283808127726898) (.int .i64 18) (.int .i64 2) (.str 12 14909942882012283808127726898) (.int .i64 19),S10 ka,S1o km,(ku,.map [(.str 7 13560518248575349,.ptr k2a 0,53),(.str 7 13560522543542901,.ptr k1x 0,56),(.str 5 435744240755,.ptr k1i 0,58)] 59),Zu,Zo,Zs,Sb k1x kr k1z (.int .i64 2) (.int .i64 50) (.str 7 13560522543542901) (.int .i64 0) (.int .i64 0) (.int .i64 0) (.int .i64 0),Zn,Z1z,S1p k2b k2j k2r k2z k37 k3b,S1q k3b k3c k27,Sg k3c] s16
def s18:RT AObj:=updS [Z1p,S1k k1 k7,Z1q,Sq ka,S1l km,(ku,.map [(.str 7 13560496773739125,.ptr k2a 0,38),(.str 7 13560509658640757,.ptr k1x 0,47),(.str 5 435744240755,.ptr k1i 0,49)] 50),Zu,Zo,Zv,Sf k1r k1u k1u (.int .i64 10),Sb k1x kr k1z (.int .i64 2) (.int .i64 114) (.str 7 13560509658640757) (.int .i64 0) (.int .i64 0) (.int .i64 0) (.int .i64 0),(k1y,.lmap [(.str 2 12396,.ptr k2l 0),(.str 2 12652,.ptr k2n 0),(.str 2 12908,.ptr k2p 0),(.str 2 13164,.ptr k2t 0),(.str 2 13420,.ptr k2v 0),(.str 2 13676,.ptr k2x 0),(.str 2 13932,.ptr k31 0),(.str 2 14188,.ptr k33 0),(.str 2 14444,.ptr k35 0),(.str 3 6581861,.ptr k2h 0)]),Zn,Sp k35 k36 k1u (.int .i64 3) (.int .i64 511) (.str 2 14188) (.str 2 14444),Sg k36] s13
def s19:RT AObj:=updS [Z1r,Z1s,Z1t,Ss ka,(km,.map [] 175),(ku,.map [(.str 7 13560509658640757,.ptr k1x 0,47),(.str 7 13560513953608309,.ptr k2f 0,50),(.str 5 435744240755,.ptr k1i 0,52)] 53),Zw,Zx,Zs,Z1n,S1h k2b k2j k2r k2z k37,Z1u,Zt,S1i k37 k38 k27,Sg k38] s18
def s1a:RT AObj:=updS [Z1v,Z1w,Z1x,Su ka,(km,.map [] 184),(ku,.map [(.str 7 13560513953608309,.ptr k2f 0,50),(.str 7 13560518248575349,.ptr k2a 0,53),(.str 5 435744240755,.ptr k1i 0,55)] 56),Zq,Zr,Zv,Sf k1r k1u k1u (.int .i64 11),(k1y,.lmap [(.str 1 97,.ptr k39 0),(.str 2 12396,.ptr k2l 0),(.str 2 12652,.ptr k2n 0),(.str 2 12908,.ptr k2p 0),(.str 2 13164,.ptr k2t 0),(.str 2 13420,.ptr k2v 0),(.str 2 13676,.ptr k2x 0),(.str 2 13932,.ptr k31 0),(.str 2 14188,.ptr k33 0),(.str 2 14444,.ptr k35 0),(.str 3 6581861,.ptr k2h 0)]),Sb k2a kr k2c (.int .i64 2) (.int .i64 123) (.str 7 13560518248575349) (.int .i64 1) (.int .i64 0) (.int .i64 0) (.int .i64 0),Zp,Sx k39 k3a k1u,Sg k3a] s19
def s1b:RT AObj:=updS [Z1y,S1n k1 k7,Z20,Ss ka,S1o km,(ku,.map [(.str 7 13560513953608309,.ptr k2f 0,50),(.str 7 13560522543542645,.ptr k1x 0,56),(.str 5 435744240755,.ptr k1i 0,58)] 59),Zw,Zx,Zs,Sf k1r k1u k1u (.int .i64 12),Sb k1x kr k1z (.int .i64 2) (.int .i64 132) (.str 7 13560522543542645) (.int .i64 0) (.int .i64 0) (.int .i64 0) (.int .i64 0),(k1y,.lmap [(.str 1 97,.ptr k39 0),(.str 1 98,.ptr k3b 0),(.str 2 12396,.ptr k2l 0),(.str 2 12652,.ptr k2n 0),(.str 2 12908,.ptr k2p 0),(.str 2 13164,.ptr k2t 0),(.str 2 13420,.ptr k2v 0),(.str 2 13676,.ptr k2x 0),(.str 2 13932,.ptr k31 0),(.str 2 14188,.ptr k33 0),(.str 2 14444,.ptr k35 0),(.str 3 6581861,.ptr k2h 0)]),Zn,Sz k3b k3c k1u,Sg k3c] s1a
def s1c:RT AObj:=updS [Z21,S1s k1 k7,Si k6 (.int .i64 1) (.str 12 14909942882012283808127726898) (.int .i64 19) (.int .i64 2) (.str 12 14909942882012283808127726898) (.int .i64 20),Sq ka,S1t km,(ku,.map [(.str 7 13560522543542645,.ptr k1x 0,56),(.str 7 13560483905614453,.ptr k2a 0,59),(.str 5 435744240755,.ptr k1i 0,61)] 62),Zu,Zo,Zv,Z1z,Sb k2a kr k2c (.int .i64 2) (.int .i64 50) (.str 7 13560483905614453) (.int .i64 1) (.int .i64 0) (.int .i64 0) (.int .i64 0),S1p k2b k2j k2r k2z k37 k3d,Zp,S1q k3d k3e k27,Sg k3e] s1b
def s1d:RT AObj:=updS [Z1v,Z1w,Z1x,Su ka,(km,.map [] 184),(ku,.map [(.str 7 13560513953608309,.ptr k2f 0,50),(.str 7 13560518248575349,.ptr k2a 0,53),(.str 5 435744240755,.ptr k1i 0,55)] 56),Zq,Zr,Zv,Sf k1r k1u k1u (.int .i64 11),(k1y,.lmap [(.str 2 12396,.ptr k2l 0),(.str 2 12652,.ptr k2n 0),(.str 2 12908,.ptr k2p 0),(.str 2 13164,.ptr k2t 0),(.str 2 13420,.ptr k2v 0),(.str 2 13676,.ptr k2x 0),(.str 2 13932,.ptr k31 0),(.str 2 14188,.ptr k33 0),(.str 2 14444,.ptr k35 0),(.str 2 14700,.ptr k39 0),(.str 3 6581861,.ptr k2h 0)]),Sb k2a kr k2c (.int .i64 2) (.int .i64 125) (.str 7 13560518248575349) (.int .i64 1) (.int .i64 0) (.int .i64 0) (.int .i64 0),Zp,Sp k39 k3a k1u (.int .i64 3) (.int .i64 511) (.str 2 14444) (.str 2 14700),Sg k3a] s19
def s1e:RT AObj:=updS [Z1y,S1n k1 k7,Z20,Ss ka,S1o km,(ku,.map [(.str 7 13560513953608309,.ptr k2f 0,50),(.str 7 13560522543542645,.ptr k1x 0,56),(.str 5 435744240755,.ptr k1i 0,58)] 59),Zw,Zx,Zs,Sf k1r k1u k1u (.int .i64 12),Sb k1x kr k1z (.int .i64 2) (.int .i64 134) (.str 7 13560522543542645) (.int .i64 0) (.int .i64 0) (.int .i64 0) (.int .i64 0),(k1y,.lmap [(.str 1 97,.ptr k3b 0),(.str 2 12396,.ptr k2l 0),(.str 2 12652,.ptr k2n 0),(.str 2 12908,.ptr k2p 0),(.str 2 13164,.ptr k2t 0),(.str 2 13420,.ptr k2v 0),(.str 2 13676,.ptr k2x 0),(.str 2 13932,.ptr k31 0),(.str 2 14188,.ptr k33 0),(.str 2 14444,.ptr k35 0),(.str 2 14700,.ptr k39 0),(.str 3 6581861,.ptr k2h 0)]),Zn,Sx k3b k3c k1u,Sg k3c] s1d
def s1f:RT AObj:=updS [Z21,S1s k1 k7,Z22,Su ka,S1t km,(ku,.map [(.str 7 13560513953608309,.ptr k2f 0,50),(.str 7 13560483905614197,.ptr k2a 0,59),(.str 5 435744240755,.ptr k1i 0,61)] 62),Zq,Zr,Zv,Sf k1r k1u k1u (.int .i64 13),(k1y,.lmap [(.str 1 97,.ptr k3b 0),(.str 1 98,.ptr k3d 0),(.str 2 12396,.ptr k2l 0),(.str 2 12652,.ptr k2n 0),(.str 2 12908,.ptr k2p 0),(.str 2 13164,.ptr k2t 0),(.str 2 13420,.ptr k2v 0),(.str 2 13676,.ptr k2x 0),(.str 2 13932,.ptr k31 0),(.str 2 14188,.ptr k33 0),(.str 2 14444,.ptr k35 0),(.str 2 14700,.ptr k39 0),(.str 3 6581861,.ptr k2h 0)]),Sb k2a kr k2c (.int .i64 2) (.int .i64 143) (.str 7 13560483905614197) (.int .i64 1) (.int .i64 0) (.int .i64 0) (.int .i64 0),Zp,Sz k3d k3e k1u,Sg k3e] s1e
def s1g:RT AObj:=updS [Z23,Z24,Z25,S10 ka,(km,.map [] 211),(ku,.map [(.str 7 13560483905614197,.ptr k2a 0,59),(.str 7 13560488200581749,.ptr k1x 0,62),(.str 5 435744240755,.ptr k1i 0,64)] 65),Zu,Zo,Zs,Z26,Zn,Z1z,S1p k2b k2j k2r k2z k37 k3f,S1q k3f k3g k27,Sg k3g] s1f
def s1h:RT AObj:=updS [Z1y,S1n k1 k7,Z20,Ss ka,S1o km,(ku,.map [(.str 7 13560513953608309,.ptr k2f 0,50),(.str 7 13560522543542645,.ptr k1x 0,56),(.str 5 435744240755,.ptr k1i 0,58)] 59),Zw,Zx,Zs,Sf k1r k1u k1u (.int .i64 12),Sb k1x kr k1z (.int .i64 2) (.int .i64 137) (.str 7 13560522543542645) (.int .i64 0) (.int .i64 0) (.int .i64 0) (.int .i64 0),(k1y,.lmap [(.str 2 12396,.ptr k2l 0),(.str 2 12652,.ptr k2n 0),(.str 2 12908,.ptr k2p 0),(.str 2 13164,.ptr k2t 0),(.str 2 13420,.ptr k2v 0),(.str 2 13676,.ptr k2x 0),(.str 2 13932,.ptr k31 0),(.str 2 14188,.ptr k33 0),(.str 2 14444,.ptr k35 0),(.str 2 14700,.ptr k39 0),(.str 3 3158380,.ptr k3b 0),(.str 3 6581861,.ptr k2h 0)]),Zn,Sp k3b k3c k1u (.int .i64 3) (.int .i64 511) (.str 2 14700) (.str 3 3158380),Sg k3c] s1d
def s1i:RT AObj:=updS [Z21,S1s k1 k7,Z22,Su ka,S1t km,(ku,.map [(.str 7 13560513953608309,.ptr k2f 0,50),(.str 7 13560483905614197,.ptr k2a 0,59),(.str 5 435744240755,.ptr k1i 0,61)] 62),Zq,Zr,Zv,Sf k1r k1u k1u (.int .i64 13),(k1y,.lmap [(.str 1 97,.ptr k3d 0),(.str 2 12396,.ptr k2l 0),(.str 2 12652,.ptr k2n 0),(.str 2 12908,.ptr k2p 0),(.str 2 13164,.ptr k2t 0),(.str 2 13420,.ptr k2v 0),(.str 2 13676,.ptr k2x 0),(.str 2 13932,.ptr k31 0),(.str 2 14188,.ptr k33 0),(.str 2 14444,.ptr k35 0),(.str 2 14700,.ptr k39 0),(.str 3 3158380,.ptr k3b 0),(.str 3 6581861,.ptr k2h 0)]),Sb k2a kr k2c (.int .i64 2) (.int .i64 146) (.str 7 13560483905614197) (.int .i64 1) (.int .i64 0) (.int .i64 0) (.int .i64 0),Zp,Sx k3d k3e k1u,Sg k3e] s1h
def s1j:RT AObj:=updS [Z23,Z24,Z25,S10 ka,(km,.map [] 211),(ku,.map [(.str 7 13560483905614197,.ptr k2a 0,59),(.str 7 13560488200581749,.ptr k1x 0,62),(.str 5 435744240755,.ptr k1i 0,64)] 65),Zu,Zo,Zs,Z26,Zn,Z1z,S1p k2b k2j k2r k2z k37 k3f,S1q k3f k3g k27,Sg k3g] s1i
def s1k:RT AObj:=updS [Z27,Z28,Z29,S11 ka,(km,.map [] 220),(ku,.map [(.str 7 13560488200581749,.ptr k1x 0,62),(.str 7 13560492495548789,.ptr k2f 0,65),(.str 5 435744240755,.ptr k1i 0,67)] 68),Zw,Zx,Zv,Sf k1r k1u k1u (.int .i64 14),(k1y,.lmap [(.str 1 97,.ptr k3d 0),(.str 1 98,.ptr k3h 0),(.str 2 12396,.ptr k2l 0),(.str 2 12652,.ptr k2n 0),(.str 2 12908,.ptr k2p 0),(.str 2 13164,.ptr k2t 0),(.str 2 13420,.ptr k2v 0),(.str 2 13676,.ptr k2x 0),(.str 2 13932,.ptr k31 0),(.str 2 14188,.ptr k33 0),(.str 2 14444,.ptr k35 0),(.str 2 14700,.ptr k39 0),(.str 3 3158380,.ptr k3b 0),(.str 3 6581861,.ptr k2h 0)]),Sb k2f kr k2g (.int .i64 2) (.int .i64 155) (.str 7 13560492495548789) (.int .i64 2) (.int .i64 0) (.int .i64 0) (.int .i64 0),Zt,Sz k3h k3i k1u,Sg k3i] s1j
def s1l:RT AObj:=updS [Z21,S1s k1 k7,Z22,Su ka,S1t km,(ku,.map [(.str 7 13560513953608309,.ptr k2f 0,50),(.str 7 13560483905614197,.ptr k2a 0,59),(.str 5 435744240755,.ptr k1i 0,61)] 62),Zq,Zr,Zv,Sf k1r k1u k1u (.int .i64 13),(k1y,.lmap [(.str 2 12396,.ptr k2l 0),(.str 2 12652,.ptr k2n 0),(.str 2 12908,.ptr k2p 0),(.str 2 13164,.ptr k2t 0),(.str 2 13420,.ptr k2v 0),(.str 2 13676,.ptr k2x 0),(.str 2 13932,.ptr k31 0),(.str 2 14188,.ptr k33 0),(.str 2 14444,.ptr k35 0),(.str 2 14700,.ptr k39 0),(.str 3 3158380,.ptr k3b 0),(.str 3 3223916,.ptr k3d 0),(.str 3 6581861,.ptr k2h 0)]),Sb k2a kr k2c (.int .i64 2) (.int .i64 150) (.str 7 13560483905614197) (.int .i64 1) (.int .i64 0) (.int .i64 0) (.int .i64 0),Zp,Sp k3d k3e k1u (.int .i64 3) (.int .i64 511) (.str 3 3158380) (.str 3 3223916),Sg k3e] s1h
def s1m:RT AObj:=updS [Z23,Z24,Z25,S10 ka,(km,.map [] 211),(ku,.map [(.str 7 13560483905614197,.ptr k2a 0,59),(.str 7 13560488200581749,.ptr k1x 0,62),(.str 5 435744240755,.ptr k1i 0,64)] 65),Zu,Zo,Zs,Z26,Zn,Z1z,S1p k2b k2j k2r k2z k37 k3f,S1q k3f k3g k27,Sg k3g] s1l
def s1n:RT AObj:=updS [Z27,Z28,Z29,S11 ka,(km,.map [] 220),(ku,.map [(.str 7 13560488200581749,.ptr k1x 0,62),(.str 7 13560492495548789,.ptr k2f 0,65),(.str 5 435744240755,.ptr k1i 0,67)] 68),Zw,Zx,Zv,Sf k1r k1u k1u (.int .i64 14),(k1y,.lmap [(.str 1 97,.ptr k3h 0),(.str 2 12396,.ptr k2l 0),(.str 2 12652,.ptr k2n 0),(.str 2 12908,.ptr k2p 0),(.str 2 13164,.ptr k2t 0),(.str 2 13420,.ptr k2v 0),(.str 2 13676,.ptr k2x 0),(.str 2 13932,.ptr k31 0),(.str 2 14188,.ptr k33 0),(.str 2 14444,.ptr k35 0),(.str 2 14700,.ptr k39 0),(.str 3 3158380,.ptr k3b 0),(.str 3 3223916,.ptr k3d 0),(.str 3 6581861,.ptr k2h 0)]),Sb k2f kr k2g (.int .i64 2) (.int .i64 159) (.str 7 13560492495548789) (.int .i64 2) (.int .i64 0) (.int .i64 0) (.int .i64 0),Zt,Sx k3h k3i k1u,Sg k3i] s1m
def s1o:RT AObj:=updS [Z2a,Z2b,Z2c,S10 ka,(km,.map [] 229),(ku,.map [(.str 7 13560488200581749,.ptr k1x 0,62),(.str 7 13560496790516085,.ptr k2a 0,68),(.str 5 435744240755,.ptr k1i 0,70)] 71),Zu,Zo,Zs,Sf k1r k1u k1u (.int .i64 15),(k1y,.lmap [(.str 1 97,.ptr k3h 0),(.str 1 98,.ptr k3j 0),(.str 2 12396,.ptr k2l 0),(.str 2 12652,.ptr k2n 0),(.str 2 12908,.ptr k2p 0),(.str 2 13164,.ptr k2t 0),(.str 2 13420,.ptr k2v 0),(.str 2 13676,.ptr k2x 0),(.str 2 13932,.ptr k31 0),(.str 2 14188,.ptr k33 0),(.str 2 14444,.ptr k35 0),(.str 2 14700,.ptr k39 0),(.str 3 3158380,.ptr k3b 0),(.str 3 3223916,.ptr k3d 0),(.str 3 6581861,.ptr k2h 0)]),Sb k2a kr k2c (.int .i64 2) (.int .i64 168) (.str 7 13560496790516085) (.int .i64 1) (.int .i64 0) (.int .i64 0) (.int .i64 0),Zp,Sz k3j k3k k1u,Sg k3k] s1n
def s1p:RT AObj:=updS [Z2d,S1v k1 k7,Si k6 (.int .i64 1) (.str 12 14909942882012283808127726898) (.int .i64 23) (.int .i64 2) (.str 12 14909942882012283808127726898) (.int .i64 24),Su ka,S1w km,(ku,.map [(.str 7 13560496790516085,.ptr k2a 0,68),(.str 7 13560501085483637,.ptr k2f 0,71),(.str 5 435744240755,.ptr k1i 0,73)] 74),Zq,Zr,Zv,S18 k24 k27 k27,S1x k2b k2j k2r k2z k37 k3f k3l,Sb k2f kr k2g (.int .i64 2) (.int .i64 60) (.str 7 13560501085483637) (.int .i64 2) (.int .i64 0) (.int .i64 0) (.int .i64 0),Zt,S1y k3l k3m k27,Sg k3m] s1o
def s1q:RT AObj:=updS [Z27,Z28,Z29,S11 ka,(km,.map [] 220),(ku,.map [(.str 7 13560488200581749,.ptr k1x 0,62),(.str 7 13560492495548789,.ptr k2f 0,65),(.str 5 435744240755,.ptr k1i 0,67)] 68),Zw,Zx,Zv,Sf k1r k1u k1u (.int .i64 14),(k1y,.lmap [(.str 2 12396,.ptr k2l 0),(.str 2 12652,.ptr k2n 0),(.str 2 12908,.ptr k2p 0),(.str 2 13164,.ptr k2t 0),(.str 2 13420,.ptr k2v 0),(.str 2 13676,.ptr k2x 0),(.str 2 13932,.ptr k31 0),(.str 2 14188,.ptr k33 0),(.str 2 14444,.ptr k35 0),(.str 2 14700,.ptr k39 0),(.str 3 3158380,.ptr k3b 0),(.str 3 3223916,.ptr k3d 0),(.str 3 3289452,.ptr k3h 0),(.str 3 6581861,.ptr k2h 0)]),Sb k2f kr k2g (.int .i64 2) (.int .i64 163) (.str 7 13560492495548789) (.int .i64 2) (.int .i64 0) (.int .i64 0) (.int .i64 0),Zt,Sp k3h k3i k1u (.int .i64 3) (.int .i64 511) (.str 3 3223916) (.str 3 3289452),Sg k3i] s1m
def s1r:RT AObj:=updS [Z2a,Z2b,Z2c,S10 ka,(km,.map [] 229),(ku,.map [(.str 7 13560488200581749,.ptr k1x 0,62),(.str 7 13560496790516085,.ptr k2a 0,68),(.str 5 435744240755,.ptr k1i 0,70)] 71),Zu,Zo,Zs,Sf k1r k1u k1u (.int .i64 15),(k1y,.lmap [(.str 1 97,.ptr k3j 0),(.str 2 12396,.ptr k2l 0),(.str 2 12652,.ptr k2n 0),(.str 2 12908,.ptr k2p 0),(.str 2 13164,.ptr k2t 0),(.str 2 13420,.ptr k2v 0),(.str 2 13676,.ptr k2x 0),(.str 2 13932,.ptr k31 0),(.str 2 14188,.ptr k33 0),(.str 2 14444,.ptr k35 0),(.str 2 14700,.ptr k39 0),(.str 3 3158380,.ptr k3b 0),(.str 3 3223916,.ptr k3d 0),(.str 3 3289452,.ptr k3h 0),(.str 3 6581861,.ptr k2h 0)]),Sb k2a kr k2c (.int .i64 2) (.int .i64 172) (.str 7 13560496790516085) (.int .i64 1) (.int .i64 0) (.int .i64 0) (.int .i64 0),Zp,Sx k3j k3k k1u,Sg k3k] s1q
def s1s:RT AObj:=updS [Z2d,S1v k1 k7,Z2e,S11 ka,S1w km,(ku,.map [(.str 7 13560488200581749,.ptr k1x 0,62),(.str 7 13560501085483381,.ptr k2f 0,71),(.str 5 435744240755,.ptr k1i 0,73)] 74),Zw,Zx,Zv,Sf k1r k1u k1u (.int .i64 16),(k1y,.lmap [(.str 1 97,.ptr k3j 0),(.str 1 98,.ptr k3l 0),(.str 2 12396,.ptr k2l 0),(.str 2 12652,.ptr k2n 0),(.str 2 12908,.ptr k2p 0),(.str 2 13164,.ptr k2t 0),(.str 2 13420,.ptr k2v 0),(.str 2 13676,.ptr k2x 0),(.str 2 13932,.ptr k31 0),(.str 2 14188,.ptr k33 0),(.str 2 14444,.ptr k35 0),(.str 2 14700,.ptr k39 0),(.str 3 3158380,.ptr k3b 0),(.str 3 3223916,.ptr k3d 0),(.str 3 3289452,.ptr k3h 0),(.str 3 6581861,.ptr k2h 0)]),Sb k2f kr k2g (.int .i64 2) (.int .i64 181) (.str 7 13560501085483381) (.int .i64 2) (.int .i64 0) (.int .i64 0) (.int .i64 0),Zt,Sz k3l k3m k1u,Sg k3m] s1r
def s1t:RT AObj:=updS [Z2f,Z2g,Z2h,Sl ka,(km,.map [] 247),(ku,.map [(.str 7 13560501085483381,.ptr k2f 0,71),(.str 7 13560505380450933,.ptr k2a 0,74),(.str 5 435744240755,.ptr k1i 0,76)] 77),Zq,Zr,Zs,S18 k24 k27 k27,Z2i,Z2j,Zp,S1y k3n k3o k27,Sg k3o] s1s
def s1u:RT AObj:=updS [Z2a,Z2b,Z2c,S10 ka,(km,.map [] 229),(ku,.map [(.str 7 13560488200581749,.ptr k1x 0,62),(.str 7 13560496790516085,.ptr k2a 0,68),(.str 5 435744240755,.ptr k1i 0,70)] 71),Zu,Zo,Zs,Sf k1r k1u k1u (.int .i64 15),(k1y,.lmap [(.str 2 12396,.ptr k2l 0),(.str 2 12652,.ptr k2n 0),(.str 2 12908,.ptr k2p 0),(.str 2 13164,.ptr k2t 0),(.str 2 13420,.ptr k2v 0),(.str 2 13676,.ptr k2x 0),(.str 2 13932,.ptr k31 0),(.str 2 14188,.ptr k33 0),(.str 2 14444,.ptr k35 0),(.str 2 14700,.ptr k39 0),(.str 3 3158380,.ptr k3b 0),(.str 3 3223916,.ptr k3d 0),(.str 3 3289452,.ptr k3h 0),(.str 3 3354988,.ptr k3j 0),(.str 3 6581861,.ptr k2h 0)]),Sb k2a kr k2c (.int .i64 2) (.int .i64 176) (.str 7 13560496790516085) (.int .i64 1) (.int .i64 0) (.int .i64 0) (.int .i64 0),Zp,Sp k3j k3k k1u (.int .i64 3) (.int .i64 511) (.str 3 3289452) (.str 3 3354988),Sg k3k] s1q
def s1v:RT AObj:=updS [Z2d,S1v k1 k7,Z2e,S11 ka,S1w km,(ku,.map [(.str 7 13560488200581749,.ptr k1x 0,62),(.str 7 13560501085483381,.ptr k2f 0,71),(.str 5 435744240755,.ptr k1i 0,73)] 74),Zw,Zx,Zv,Sf k1r k1u k1u (.int .i64 16),(k1y,.lmap [(.str 1 97,.ptr k3l 0),(.str 2 12396,.ptr k2l 0),(.str 2 12652,.ptr k2n 0),(.str 2 12908,.ptr k2p 0),(.str 2 13164,.ptr k2t 0),(.str 2 13420,.ptr k2v 0),(.str 2 13676,.ptr k2x 0),(.str 2 13932,.ptr k31 0),(.str 2 14188,.ptr k33 0),(.str 2 14444,.ptr k35 0),(.str 2 14700,.ptr k39 0),(.str 3 3158380,.ptr k3b 0),(.str 3 3223916,.ptr k3d 0),(.str 3 3289452,.ptr k3h 0),(.str 3 3354988,.ptr k3j 0),(.str 3 6581861,.ptr k2h 0)]),Sb k2f kr k2g (.int .i64 2) (.int .i64 185) (.str 7 13560501085483381) (.int .i64 2) (.int .i64 0) (.int .i64 0) (.int .i64 0),Zt,Sx k3l k3m k1u,Sg k3m] s1u
def s1w:RT AObj:=updS [Z2f,Z2g,Z2h,Sl ka,(km,.map [] 247),(ku,.map [(.str 7 13560501085483381,.ptr k2f 0,71),(.str 7 13560505380450933,.ptr k2a 0,74),(.str 5 435744240755,.ptr k1i 0,76)] 77),Zq,Zr,Zs,S18 k24 k27 k27,Z2i,Z2j,Zp,S1y k3n k3o k27,Sg k3o] s1v
def s1x:RT AObj:=updS [Z2k,Z2l,Z2m,Sq ka,(km,.map [] 256),(ku,.map [(.str 7 13560505380450933,.ptr k2a 0,74),(.str 7 13560509675417973,.ptr k1x 0,77),(.str 5 435744240755,.ptr k1i 0,79)] 80),Zu,Zo,Zv,Sf k1r k1u k1u (.int .i64 17),Sb k1x kr k1z (.int .i64 2) (.int .i64 194) (.str 7 13560509675417973) (.int .i64 0) (.int .i64 0) (.int .i64 0) (.int .i64 0),(k1y,.lmap [(.str 1 97,.ptr k3l 0),(.str 1 98,.ptr k3p 0),(.str 2 12396,.ptr k2l 0),(.str 2 12652,.ptr k2n 0),(.str 2 12908,.ptr k2p 0),(.str 2 13164,.ptr k2t 0),(.str 2 13420,.ptr k2v 0),(.str 2 13676,.ptr k2x 0),(.str 2 13932,.ptr k31 0),(.str 2 14188,.ptr k33 0),(.str 2 14444,.ptr k35 0),(.str 2 14700,.ptr k39 0),(.str 3 3158380,.ptr k3b 0),(.str 3 3223916,.ptr k3d 0),(.str 3 3289452,.ptr k3h 0),(.str 3 3354988,.ptr k3j 0),(.str 3 6581861,.ptr k2h 0)]),Zn,Sz k3p k3q k1u,Sg k3q] s1w
def s1y:RT AObj:=updS [Z2d,S1v k1 k7,Z2e,S11 ka,S1w km,(ku,.map [(.str 7 13560488200581749,.ptr k1x 0,62),(.str 7 13560501085483381,.ptr k2f 0,71),(.str 5 435744240755,.ptr k1i 0,73)] 74),Zw,Zx,Zv,Sf k1r k1u k1u (.int .i64 16),(k1y,.lmap [(.str 2 12396,.ptr k2l 0),(.str 2 12652,.ptr k2n 0),(.str 2 12908,.ptr k2p 0),(.str 2 13164,.ptr k2t 0),(.str 2 13420,.ptr k2v 0),(.str 2 13676,.ptr k2x 0),(.str 2 13932,.ptr k31 0),(.str 2 14188,.ptr k33 0),(.str 2 14444,.ptr k35 0),(.str 2 14700,.ptr k39 0),(.str 3 3158380,.ptr k3b 0),(.str 3 3223916,.ptr k3d 0),(.str 3 3289452,.ptr k3h 0),(.str 3 3354988,.ptr k3j 0),(.str 3 3420524,.ptr k3l 0),(.str 3 6581861,.ptr k2h 0)]),Sb k2f kr k2g (.int .i64 2) (.int .i64 189) (.str 7 13560501085483381) (.int .i64 2) (.int .i64 0) (.int .i64 0) (.int .i64 0),Zt,Sp k3l k3m k1u (.int .i64 3) (.int .i64 511) (.str 3 3354988) (.str 3 3420524),Sg k3m] s1u
def s1z:RT AObj:=updS [Z2f,Z2g,Z2h,Sl ka,(km,.map [] 247),(ku,.map [(.str 7 13560501085483381,.ptr k2f 0,71),(.str 7 13560505380450933,.ptr k2a 0,74),(.str 5 435744240755,.ptr k1i 0,76)] 77),Zq,Zr,Zs,S18 k24 k27 k27,Z2i,Z2j,Zp,S1y k3n k3o k27,Sg k3o] s1y
def s20:RT AObj:=updS [Z2k,Z2l,Z2m,Sq ka,(km,.map [] 256),(ku,.map [(.str 7 13560505380450933,.ptr k2a 0,74),(.str 7 13560509675417973,.ptr k1x 0,77),(.str 5 435744240755,.ptr k1i 0,79)] 80),Zu,Zo,Zv,Sf k1r k1u k1u (.int .i64 17),Sb k1x kr k1z (.int .i64 2) (.int .i64 198) (.str 7 13560509675417973) (.int .i64 0) (.int .i64 0) (.int .i64 0) (.int .i64 0),(k1y,.lmap [(.str 1 97,.ptr k3p 0),(.str 2 12396,.ptr k2l 0),(.str 2 12652,.ptr k2n 0),(.str 2 12908,.ptr k2p 0),(.str 2 13164,.ptr k2t 0),(.str 2 13420,.ptr k2v 0),(.str 2 13676,.ptr k2x 0),(.str 2 13932,.ptr k31 0),(.str 2 14188,.ptr k33 0),(.str 2 14444,.ptr k35 0),(.str 2 14700,.ptr k39 0),(.str 3 3158380,.ptr k3b 0),(.str 3 3223916,.ptr k3d 0),(.str 3 3289452,.ptr k3h 0),(.str 3 3354988,.ptr k3j 0),(.str 3 3420524,.ptr k3l 0),(.str 3 6581861,.ptr k2h 0)]),Zn,Sx k3p k3q k1u,Sg k3q] s1z
def s21:RT AObj:=updS [S5 k0 k1 k2 k3 k4 k5 k6 kv (.int .i64 27),S0 k1 k7 (.int .i64 (-882)) (.int .i64 882),Si k6 (.int .i64 1) (.str 12 14909942882012283808127726898) (.int .i64 27) (.int .i64 2) (.str 12 14909942882012283808127726898) (.int .i64 25),Sl ka,(km,.map [] 265),(ku,.map [(.str 7 13560505380450933,.ptr k2a 0,74),(.str 7 13560513970385269,.ptr k2f 0,80),(.str 5 435744240755,.ptr k1i 0,82)] 83),Zq,Zr,Zs,Sf k1r k1u k1u (.int .i64 18),(k1y,.lmap [(.str 1 97,.ptr k3p 0),(.str 1 98,.ptr k3r 0),(.str 2 12396,.ptr k2l 0),(.str 2 12652,.ptr k2n 0),(.str 2 12908,.ptr k2p 0),(.str 2 13164,.ptr k2t 0),(.str 2 13420,.ptr k2v 0),(.str 2 13676,.ptr k2x 0),(.str 2 13932,.ptr k31 0),(.str 2 14188,.ptr k33 0),(.str 2 14444,.ptr k35 0),(.str 2 14700,.ptr k39 0),(.str 3 3158380,.ptr k3b 0),(.str 3 3223916,.ptr k3d 0),(.str 3 3289452,.ptr k3h 0),(.str 3 3354988,.ptr k3j 0),(.str 3 3420524,.ptr k3l 0),(.str 3 6581861,.ptr k2h 0)]),Sb k2f kr k2g (.int .i64 2) (.int .i64 207) (.str 7 13560513970385269) (.int .i64 2) (.int .i64 0) (.int .i64 0) (.int .i64 0),Zt,Sz k3r k3s k1u,Sg k3s] s20
def s22:RT AObj:=updS [S5 k0 k1 k2 k3 k4 k5 k6 kv (.int .i64 28),S0 k1 k7 (.int .i64 (-912)) (.int .i64 912),Si k6 (.int .i64 1) (.str 12 14909942882012283808127726898) (.int .i64 27) (.int .i64 2) (.str 12 14909942882012283808127726898) (.int .i64 28),S11 ka,(km,.map [] 274),(ku,.map [(.str 7 13560513970385269,.ptr k2f 0,80),(.str 7 13560518265352821,.ptr k1x 0,83),(.str 5 435744240755,.ptr k1i 0,85)] 86),Zw,Zx,Zv,Sb k1x kr k1z (.int .i64 2) (.int .i64 70) (.str 7 13560518265352821) (.int .i64 0) (.int .i64 0) (.int .i64 0) (.int .i64 0),Zn,S1c k24 k27 k27,S1d k2b k2j k2r k2z k3t k37 k3f k3n (.str 2 13167) (.str 2 13935) (.str 2 14703) (.str 3 3224175) (.str 3 3289455) (.str 3 3486063) (.str 3 3682671),Sp k3t k3u k27 (.int .i64 1) (.int .i64 0) (.str 0 0) (.str 3 3224175),Sg k3u] s21
def s23:RT AObj:=updS [Z2k,Z2l,Z2m,Sq ka,(km,.map [] 256),(ku,.map [(.str 7 13560505380450933,.ptr k2a 0,74),(.str 7 13560509675417973,.ptr k1x 0,77),(.str 5 435744240755,.ptr k1i 0,79)] 80),Zu,Zo,Zv,Sf k1r k1u k1u (.int .i64 17),Sb k1x kr k1z (.int .i64 2) (.int .i64 202) (.str 7 13560509675417973) (.int .i64 0) (.int .i64 0) (.int .i64 0) (.int .i64 0),(k1y,.lmap [(.str 2 12396,.ptr k2l 0),(.str 2 12652,.ptr k2n 0),(.str 2 12908,.ptr k2p 0),(.str 2 13164,.ptr k2t 0),(.str 2 13420,.ptr k2v 0),(.str 2 13676,.ptr k2x 0),(.str 2 13932,.ptr k31 0),(.str 2 14188,.ptr k33 0),(.str 2 14444,.ptr k35 0),(.str 2 14700,.ptr k39 0),(.str 3 3158380,.ptr k3b 0),(.str 3 3223916,.ptr k3d 0),(.str 3 3289452,.ptr k3h 0),(.str 3 3354988,.ptr k3j 0),(.str 3 3420524,.ptr k3l 0),(.str 3 3486060,.ptr k3p 0),(.str 3 6581861,.ptr k2h 0)]),Zn,Sp k3p k3q k1u (.int .i64 3) (.int .i64 511) (.str 3 3420524) (.str 3 3486060),Sg k3q] s1z
def s24:RT AObj:=updS [S5 k0 k1 k2 k3 k4 k5 k6 kv (.int .i64 27),S0 k1 k7 (.int .i64 (-882)) (.int .i64 882),Si k6 (.int .i64 1) (.str 12 14909942882012283808127726898) (.int .i64 27) (.int .i64 2) (.str 12 14909942882012283808127726898) (.int .i64 25),Sl ka,(km,.map [] 265),(ku,.map [(.str 7 13560505380450933,.ptr k2a 0,74),(.str 7 13560513970385269,.ptr k2f 0,80),(.str 5 435744240755,.ptr k1i 0,82)] 83),Zq,Zr,Zs,Sf k1r k1u k1u (.int .i64 18),(k1y,.lmap [(.str 1 97,.ptr k3r 0),(.str 2 12396,.ptr k2l 0),(.str 2 12652,.ptr k2n 0),(.str 2 12908,.ptr k2p 0),(.str 2 13164,.ptr k2t 0),(.str 2 13420,.ptr k2v 0),(.str 2 13676,.ptr k2x 0),(.str 2 13932,.ptr k31 0),(.str 2 14188,.ptr k33 0),(.str 2 14444,.ptr k35 0),(.str 2 14700,.ptr k39 0),(.str 3 3158380,.ptr k3b 0),(.str 3 3223916,.ptr k3d 0),(.str 3 3289452,.ptr k3h 0),(.str 3 3354988,.ptr k3j 0),(.str 3 3420524,.ptr k3l 0),(.str 3 3486060,.ptr k3p 0),(.str 3 6581861,.ptr k2h 0)]),Sb k2f kr k2g (.int .i64 2) (.int .i64 211) (.str 7 13560513970385269) (.int .i64 2) (.int .i64 0) (.int .i64 0) (.int .i64 0),Zt,Sx k3r k3s k1u,Sg k3s] s23
def s25:RT AObj:=updS [S5 k0 k1 k2 k3 k4 k5 k6 kv (.int .i64 28),S0 k1 k7 (.int .i64 (-912)) (.int .i64 912),Si k6 (.int .i64 1) (.str 12 14909942882012283808127726898) (.int .i64 28) (.int .i64 2) (.str 12 14909942882012283808127726898) (.int .i64 25),Sq ka,(km,.map [] 274),(ku,.map [(.str 7 13560505380450933,.ptr k2a 0,74),(.str 7 13560518265352565,.ptr k1x 0,83),(.str 5 435744240755,.ptr k1i 0,85)] 86),Zu,Zo,Zv,Sf k1r k1u k1u (.int .i64 19),Sb k1x kr k1z (.int .i64 2) (.int .i64 220) (.str 7 13560518265352565) (.int .i64 0) (.int .i64 0) (.int .i64 0) (.int .i64 0),(k1y,.lmap [(.str 1 97,.ptr k3r 0),(.str 1 98,.ptr k3t 0),(.str 2 12396,.ptr k2l 0),(.str 2 12652,.ptr k2n 0),(.str 2 12908,.ptr k2p 0),(.str 2 13164,.ptr k2t 0),(.str 2 13420,.ptr k2v 0),(.str 2 13676,.ptr k2x 0),(.str 2 13932,.ptr k31 0),(.str 2 14188,.ptr k33 0),(.str 2 14444,.ptr k35 0),(.str 2 14700,.ptr k39 0),(.str 3 3158380,.ptr k3b 0),(.str 3 3223916,.ptr k3d 0),(.str 3 3289452,.ptr k3h 0),(.str 3 3354988,.ptr k3j 0),(.str 3 3420524,.ptr k3l 0),(.str 3 3486060,.ptr k3p 0),(.str 3 6581861,.ptr k2h 0)]),Zn,Sz k3t k3u k1u,Sg k3u] s24
def s26:RT AObj:=updS [S5 k0 k1 k2 k3 k4 k5 k6 kv (.int .i64 29),S0 k1 k7 (.int .i64 (-942)) (.int .i64 942),Si k6 (.int .i64 1) (.str 12 14909942882012283808127726898) (.int .i64 28) (.int .i64 2) (.str 12 14909942882012283808127726898) (.int .i64 29),Ss ka,(km,.map [] 283),(ku,.map [(.str 7 13560518265352565,.ptr k1x 0,83),(.str 7 13560522560320117,.ptr k2f 0,86),(.str 5 435744240755,.ptr k1i 0,88)] 89),Zw,Zx,Zs,S1c k24 k27 k27,S1d k2b k2j k2r k2z k3v k37 k3f k3n (.str 2 13167) (.str 2 13935) (.str 2 14703) (.str 3 3224175) (.str 3 3289455) (.str 3 3486063) (.str 3 3682671),Sb k2f kr k2g (.int .i64 2) (.int .i64 70) (.str 7 13560522560320117) (.int .i64 2) (.int .i64 0) (.int .i64 0) (.int .i64 0),Zt,Sp k3v k3w k27 (.int .i64 1) (.int .i64 0) (.str 0 0) (.str 3 3224175),Sg k3w] s25
def s27:RT AObj:=updS [S5 k0 k1 k2 k3 k4 k5 k6 kv (.int .i64 0),S0 k1 k7 (.int .i64 (-52)) (.int .i64 52),S1 k2 k1 k8 k9 ka (.int .i64 5) (.int .i64 16334),(k5,.map [(.str 1 116,.str 12 14909952252669478796797554994,0)] 1),(k8,.cells 268 [.ptr kf 0,.int .i64 512,.map kg,.slice kh 0 6 (.more 1)] false 0),(ka,.bits 4 16384 1125899906842623),(kc,.map [(.str 12 14909952252669478796797554994,.ptr ky 0,0)] 1),(kd,.map [(.str 1 116,.agg [.slice kz 0 1 (.more 1)],0)] 1),(kg,.map [(.int .i64 0,.ptr kn 0,0),(.int .i64 45,.ptr ko 0,1),(.int .i64 46,.ptr k11 0,2),(.int .i64 47,.ptr k12 0,3),(.int .i64 48,.ptr k13 0,4),(.int .i64 49,.ptr k14 0,5)] 6),(kh,.cells 3 [.int .i64 0,.int .i64 45,.int .i64 46,.int .i64 47,.int .i64 48,.int .i64 49] true 0),(km,.map [] 16),(kq,.cells 273 [.int .i64 1,.int .i64 0,.str 6 126935165919596,.ptr k9 0,.int .i64 1,.map kt,.slice k17 0 1 (.more 1),.slice k18 0 1 (.more 1),.nilSlice,.int .i64 0,.int .i64 0,.int .i64 0] false 0),(kr,.cells 273 [.int .i64 1,.int .i64 0,.str 5 491328597876,.ptr k9 0,.int .i64 2,.map ku,.slice k19 0 1 (.more 1),.slice k1a 0 1 (.more 1),.nilSlice,.int .i64 0,.int .i64 0,.int .i64 0] false 0),(kt,.map [(.str 12 14909952252669478796797554994,.ptr k1b 0,1)] 2),(ku,.map [(.str 5 435744240755,.ptr k1c 0,1)] 2),(kv,.cells 199 [.str 19 1318739858033904608473444756492996921336492646,.nilSlice,.int .i64 20000,.map kw,.slice kx 0 1 (.more 1)] true 0),S2 kw,(kx,.cells 141 [.slice k10 0 1 (.more 4)] true 0),S7 ky k15 (.str 0 0) (.int .i64 1) (.int .i64 0),(kz,.cells 141 [.slice k16 0 1 (.more 4)] true 0),S8 k10,S4 k11,Sa k12,S4 k13,Sa k14,S8 k15,S8 k16,(k17,.cells 169 [.ptr k1b 0] true 0),S3 k18 (.int .i64 46),(k19,.cells 169 [.ptr k1c 0] true 0),S3 k1a (.int .i64 48),Sb k1b kq k1d (.int .i64 2) (.int .i64 12) (.str 12 14909952252669478796797554994) (.int .i64 0) (.int .i64 0) (.int .i64 0) (.int .i64 0),Sb k1c kr k1e (.int .i64 2) (.int .i64 19) (.str 5 435744240755) (.int .i64 0) (.int .i64 0) (.int .i64 0) (.int .i64 0),Sc k1d (.int .i64 47),Sc k1e (.int .i64 49)] s0
def s28:RT AObj:=updS [S5 k0 k1 k2 k3 k4 k5 k6 kv (.int .i64 1),S0 k1 k7 (.int .i64 (-82)) (.int .i64 82),S1 k2 k1 k8 k9 ka (.int .i64 6) (.int .i64 16333),(k6,.map [(.int .i64 1,.agg [.str 12 14909952252669478796797554994,.int .i64 1],0)] 1),(k8,.cells 268 [.ptr kf 0,.int .i64 512,.map kg,.slice kh 0 8 (.more 1)] false 0),(ka,.bits 4 16384 3940649673949183),(ke,.map [(.int .i64 1,.ptr k1f 0,0)] 1),(kg,.map [(.int .i64 0,.ptr kn 0,0),(.int .i64 45,.ptr ko 0,1),(.int .i64 46,.ptr k11 0,2),(.int .i64 47,.ptr k12 0,3),(.int .i64 48,.ptr k13 0,4),(.int .i64 49,.ptr k14 0,5),(.int .i64 50,.ptr k1g 0,6),(.int .i64 51,.ptr k1h 0,7)] 8),(kh,.cells 3 [.int .i64 0,.int .i64 45,.int .i64 46,.int .i64 47,.int .i64 48,.int .i64 49,.int .i64 50,.int .i64 51] true 0),(km,.map [] 25),(kr,.cells 273 [.int .i64 1,.int .i64 0,.str 5 491328597876,.ptr k9 0,.int .i64 2,.map ku,.slice k19 0 2 (.more 1),.slice k1a 0 1 (.more 1),.nilSlice,.int .i64 0,.int .i64 0,.int .i64 0] false 0),(ku,.map [(.str 6 52970656706933,.ptr k1q 0,2),(.str 5 435744240755,.ptr k1c 0,4)] 5),S7 ky k15 (.str 0 0) (.int .i64 2) (.int .i64 0),S4 k12,(k19,.cells 169 [.ptr k1q 0,.ptr k1c 0,.ptr k1c 0] true 0),Sb k1c kr k1e (.int .i64 2) (.int .i64 41) (.str 5 435744240755) (.int .i64 1) (.int .i64 0) (.int .i64 0) (.int .i64 0),Sh k1e,(k1f,.cells 211 [.ptr k1i 0,.ptr k1j 0,.ptr k1k 0,.slice k1l 0 1 (.more 1),.slice k1m 0 1 (.more 4)] false 0),Sa k1g,Sa k1h,(k1i,.cells 321 [.slice k1n 0 5 (.more 4),.int .i64 0,.int .i64 20000,.int .i64 0,.nilSlice,.bool false,.str 0 0,.float .f64 0,.bool false,.str 0 0,.float .f64 0,.bool false,.str 0 0,.float .f64 0,.bool false,.str 0 0,.float .f64 0,.bool false,.str 0 0,.float .f64 0,.bool false,.str 0 0,.float .f64 0,.bool false,.str 0 0,.float .f64 0,.bool false,.str 0 0,.float .f64 0,.bool false,.str 0 0,.float .f64 0,.bool false,.str 0 0,.float .f64 0,.bool false,.str 0 0,.float .f64 0,.bool false,.str 0 0,.float .f64 0,.bool false,.str 0 0,.float .f64 0,.bool false,.str 0 0,.float .f64 0,.bool false,.str 0 0,.float .f64 0,.bool false,.str 0 0,.float .f64 0,.bool false,.str 0 0,.float .f64 0,.bool false,.str 0 0,.float .f64 0,.bool false,.str 0 0,.float .f64 0,.bool false,.str 0 0,.float .f64 0,.bool false,.str 0 0,.float .f64 0,.bool false,.str 0 0,.float .f64 0,.bool false,.str 0 0,.float .f64 0,.bool false,.str 0 0,.float .f64 0,.bool false,.str 0 0,.float .f64 0,.bool false,.str 0 0,.float .f64 0,.bool false,.str 0 0,.float .f64 0,.bool false,.str 0 0,.float .f64 0,.bool false,.str 0 0,.float .f64 0,.bool false,.str 0 0,.float .f64 0,.bool false,.str 0 0,.float .f64 0,.bool false,.str 0 0,.float .f64 0,.bool false,.str 0 0,.float .f64 0,.bool false,.str 0 0,.float .f64 0,.bool false,.str 0 0,.float .f64 0,.bool false,.str 0 0,.float .f64 0,.bool false,.str 0 0,.float .f64 0,.bool false,.str 0 0,.float .f64 0,.bool false,.str 0 0,.float .f64 0,.bool false,.str 0 0,.float .f64 0,.bool false,.str 0 0,.float .f64 0,.bool false,.str 0 0,.float .f64 0,.bool false,.str 0 0,.float .f64 0,.bool false,.str 0 0,.float .f64 0,.bool false,.str 0 0,.float .f64 0,.bool false,.str 0 0,.float .f64 0,.bool false,.str 0 0,.float .f64 0,.bool false,.str 0 0,.float .f64 0,.bool false,.str 0 0,.float .f64 0,.bool false,.str 0 0,.float .f64 0,.bool false,.str 0 0,.float .f64 0,.bool false,.str 0 0,.float .f64 0,.bool false,.str 0 0,.float .f64 0,.bool false,.str 0 0,.float .f64 0,.bool false,.str 0 0,.float .f64 0,.bool false,.str 0 0,.float .f64 0,.bool false,.str 0 0,.float .f64 0,.bool false,.str 0 0,.float .f64 0,.bool false,.str 0 0,.float .f64 0,.bool false,.str 0 0,.float .f64 0,.bool false,.str 0 0,.float .f64 0,.bool false,.str 0 0,.float .f64 0,.bool false,.str 0 0,.float .f64 0,.bool false,.str 0 0,.float .f64 0,.int .i64 0,.int .i64 0,.str 0 0,.str 0 0,.int .i64 0,.int .i64 0,.int .i64 0,.int .i64 0,.str 0 0,.str 0 0,.int .i64 0,.str 0 0] false 0),(k1j,.cells 311 [.nilSlice] false 0),Sf k1k k1o k1o (.int .i64 1),(k1l,.cells 141 [.slice k1p 0 1 (.more 4)] true 0),S8 k1m,(k1n,.cells 354 [.int .i64 2,.int .i64 0,.float .f64 0,.str 1 101,.int .i64 1,.int .i64 0,.float .f64 4607182418800017408,.str 0 0,.int .i64 17,.int .i64 2,.float .f64 0,.str 5 491394460525,.int .i64 18,.int .i64 0,.float .f64 0,.str 0 0,.int .i64 0,.int .i64 0,.float .f64 0,.str 0 0] true 0),(k1o,.cells 389 [.int .i64 1,.int .i64 493,.str 0 0,.map k1r,.nilPtr,.str 0 0] false 0),S8 k1p,Sb k1q kr k1s (.int .i64 2) (.int .i64 3) (.str 6 52970656706933) (.int .i64 0) (.int .i64 0) (.int .i64 0) (.int .i64 0),(k1r,.lmap [(.str 1 100,.ptr k1t 0)]),Sd k1s,Sp k1t k1u k1o (.int .i64 1) (.int .i64 493) (.str 0 0) (.str 1 100),Sg k1u] s27
def s29:RT AObj:=updS [S5 k0 k1 k2 k3 k4 k5 k6 kv (.int .i64 2),S0 k1 k7 (.int .i64 (-110)) (.int .i64 110),(k6,.map [(.int .i64 1,.agg [.str 12 14909952252669478796797554994,.int .i64 2],0)] 1),(k8,.cells 268 [.ptr kf 0,.int .i64 512,.map kg,.slice kh 0 9 (.more 1)] false 0),(ka,.bits 4 16384 5629499534213119),(kg,.map [(.int .i64 0,.ptr kn 0,0),(.int .i64 45,.ptr ko 0,1),(.int .i64 46,.ptr k11 0,2),(.int .i64 47,.ptr k12 0,3),(.int .i64 48,.ptr k13 0,4),(.int .i64 49,.ptr k14 0,5),(.int .i64 50,.ptr k1g 0,6),(.int .i64 51,.ptr k1h 0,7),(.int .i64 52,.ptr k1v 0,8)] 9),(kh,.cells 3 [.int .i64 0,.int .i64 45,.int .i64 46,.int .i64 47,.int .i64 48,.int .i64 49,.int .i64 50,.int .i64 51,.int .i64 52] true 0),(km,.map [] 33),(ku,.map [(.str 6 52970673484149,.ptr k1x 0,5),(.str 5 435744240755,.ptr k1c 0,7)] 8),S4 k14,(k19,.cells 169 [.ptr k1c 0,.ptr k1x 0,.ptr k1c 0,.ptr k1c 0] true 0),Sb k1c kr k1e (.int .i64 2) (.int .i64 41) (.str 5 435744240755) (.int .i64 0) (.int .i64 0) (.int .i64 0) (.int .i64 0),Se k1e,(k1i,.cells 321 [.slice k1n 0 5 (.more 4),.int .i64 3,.int .i64 19997,.int .i64 3,.slice k1w 0 1 (.more 3),.bool false,.str 0 0,.float .f64 0,.bool false,.str 0 0,.float .f64 0,.bool false,.str 0 0,.float .f64 0,.bool false,.str 0 0,.float .f64 0,.bool false,.str 0 0,.float .f64 0,.bool false,.str 0 0,.float .f64 0,.bool false,.str 0 0,.float .f64 0,.bool false,.str 0 0,.float .f64 0,.bool false,.str 0 0,.float .f64 0,.bool false,.str 0 0,.float .f64 0,.bool false,.str 0 0,.float .f64 0,.bool false,.str 0 0,.float .f64 0,.bool false,.str 0 0,.float .f64 0,.bool false,.str 0 0,.float .f64 0,.bool false,.str 0 0,.float .f64 0,.bool false,.str 0 0,.float .f64 0,.bool false,.str 0 0,.float .f64 0,.bool false,.str 0 0,.float .f64 0,.bool false,.str 0 0,.float .f64 0,.bool false,.str 0 0,.float .f64 0,.bool false,.str 0 0,.float .f64 0,.bool false,.str 0 0,.float .f64 0,.bool false,.str 0 0,.float .f64 0,.bool false,.str 0 0,.float .f64 0,.bool false,.str 0 0,.float .f64 0,.bool false,.str 0 0,.float .f64 0,.bool false,.str 0 0,.float .f64 0,.bool false,.str 0 0,.float .f64 0,.bool false,.str 0 0,.float .f64 0,.bool false,.str 0 0,.float .f64 0,.bool false,.str 0 0,.float .f64 0,.bool false,.str 0 0,.float .f64 0,.bool false,.str 0 0,.float .f64 0,.bool false,.str 0 0,.float .f64 0,.bool false,.str 0 0,.float .f64 0,.bool false,.str 0 0,.float .f64 0,.bool false,.str 0 0,.float .f64 0,.bool false,.str 0 0,.float .f64 0,.bool false,.str 0 0,.float .f64 0,.bool false,.str 0 0,.float .f64 0,.bool false,.str 0 0,.float .f64 0,.bool false,.str 0 0,.float .f64 0,.bool false,.str 0 0,.float .f64 0,.bool false,.str 0 0,.float .f64 0,.bool false,.str 0 0,.float .f64 0,.bool false,.str 0 0,.float .f64 0,.bool false,.str 0 0,.float .f64 0,.bool false,.str 0 0,.float .f64 0,.bool false,.str 0 0,.float .f64 0,.bool false,.str 0 0,.float .f64 0,.bool false,.str 0 0,.float .f64 0,.bool false,.str 0 0,.float .f64 0,.bool false,.str 0 0,.float .f64 0,.bool false,.str 0 0,.float .f64 0,.bool false,.str 0 0,.float .f64 0,.bool false,.str 0 0,.float .f64 0,.bool false,.str 0 0,.float .f64 0,.bool false,.str 0 0,.float .f64 0,.bool false,.str 0 0,.float .f64 0,.bool false,.str 0 0,.float .f64 0,.bool false,.str 0 0,.float .f64 0,.bool false,.str 0 0,.float .f64 0,.bool false,.str 0 0,.float .f64 0,.bool false,.str 0 0,.float .f64 0,.int .i64 0,.int .i64 0,.str 0 0,.str 0 0,.int .i64 0,.int .i64 0,.int .i64 0,.int .i64 0,.str 0 0,.str 5 491394460525,.int .i64 0,.str 0 0] false 0),Sv k1k k1o k1o,Sj k1r k1t k1z (.str 1 100) (.str 1 101),Sa k1v,(k1w,.cells 318 [.bool false,.str 0 0,.float .f64 0,.bool false,.str 0 0,.float .f64 4607182418800017408] true 0),Sb k1x kr k1y (.int .i64 2) (.int .i64 11) (.str 6 52970673484149) (.int .i64 1) (.int .i64 0) (.int .i64 0) (.int .i64 0),Sc k1y (.int .i64 49),Sp k1z k20 k1o (.int .i64 1) (.int .i64 1) (.str 0 0) (.str 1 101),Sg k20] s28
def tw0:List MRow:=[tR s2 k1r,
 tR s4 k1r,
 tR s5 k1r,
 tR s6 k24]
def tw1:List MRow:=[tR s7 k1r,
 tR s8 k1r,
 tR s9 k1r,
 tR sa k24]
def tw2:List MRow:=[tR sb k1r,
 tR sc k1r,
 tR se k1r,
 tR sf k24]
def tw3:List MRow:=[tR sg k1r,
 tR si k1r,
 tR sj k1r,
 tR sl k1r]
def tw4:List MRow:=[tR sm k1r,
 tR sn k1r,
 tR sp k1r,
 tR sq k1r]
def tw5:List MRow:=[tR ss k1r,
 tR st k24,
 tR su k1r,
 tR sw k1r]
def tw6:List MRow:=[tR sx k1r,
 tR sz k1r,
 tR s10 k1r,
 tR s11 k1r]
def tw7:List MRow:=[tR s13 k1r,
 tR s14 k1r,
 tR s16 k1r,
 tR s17 k24]
def tw8:List MRow:=[tR s18 k1r,
 tR s1a k1r,
 tR s1b k1r,
 tR s1d k1r]
def tw9:List MRow:=[tR s1e k1r,
 tR s1f k1r,
 tR s1h k1r,
 tR s1i k1r]
def tw10:List MRow:=[tR s1k k1r,
 tR s1l k1r,
 tR s1n k1r,
 tR s1o k1r]
def tw11:List MRow:=[tR s1p k24,
 tR s1q k1r,
 tR s1r k1r,
 tR s1s k1r]
def tw12:List MRow:=[tR s1u k1r,
 tR s1v k1r,
 tR s1x k1r,
 tR s1y k1r]
def tw13:List MRow:=[tR s20 k1r,
 tR s21 k1r,
 tR s22 k24,
 tR s23 k1r]
def tw14:List MRow:=[tR s24 k1r,
 tR s25 k1r,
 tR s28 k1k]
def trows:List MRow:=tw0 ++ (tw1 ++ (tw2 ++ (tw3 ++ (tw4 ++ (tw5 ++ (tw6 ++ (tw7 ++ (tw8 ++ (tw9 ++ (tw10 ++ (tw11 ++ (tw12 ++ (tw13 ++ (tw14))))))))))))))
def cr0:MRow:=cR tys k0 s0 k4
def cr1:MRow:=cR tys k0 s1 k4
def cr2:MRow:=cR tys k0 s2 k4
def cr3:MRow:=cR tys k0 s3 k4
def cr4:MRow:=cR tys k0 s4 k4
def cr5:MRow:=cR tys k0 s5 k4
def cr6:MRow:=cR tys k0 s6 k4
def cr7:MRow:=cR tys k0 s7 k4
def cr8:MRow:=cR tys k0 s8 k4
def cr9:MRow:=cR tys k0 s9 k4
def cr10:MRow:=cR tys k0 sa k4
def cr11:MRow:=cR tys k0 sb k4
def cr12:MRow:=cR tys k0 sc k4
def cr13:MRow:=cR tys k0 sd k4
def cr14:MRow:=cR tys k0 se k4
def cr15:MRow:=cR tys k0 sf k4
def cr16:MRow:=cR tys k0 sg k4
def cr17:MRow:=cR tys k0 sh k4
def cr18:MRow:=cR tys k0 si k4
def cr19:MRow:=cR tys k0 sj k4
def cr20:MRow:=cR tys k0 sk k4
def cr21:MRow:=cR tys k0 sl k4
def cr22:MRow:=cR tys k0 sm k4
def cr23:MRow:=cR tys k0 sn k4
def cr24:MRow:=cR tys k0 so k4
def cr25:MRow:=cR tys k0 sp k4
def cr26:MRow:=cR tys k0 sq k4
def cr27:MRow:=cR tys k0 sr k4
def cr28:MRow:=cR tys k0 ss k4
def cr29:MRow:=cR tys k0 st k4
def cr30:MRow:=cR tys k0 su k4
def cr31:MRow:=cR tys k0 sv k4
def cr32:MRow:=cR tys k0 sw k4
def cr33:MRow:=cR tys k0 sx k4
def cr34:MRow:=cR tys k0 sy k4
def cr35:MRow:=cR tys k0 sz k4
def cr36:MRow:=cR tys k0 s10 k4
def cr37:MRow:=cR tys k0 s11 k4
def cr38:MRow:=cR tys k0 s12 k4
def cr39:MRow:=cR tys k0 s13 k4
def cr40:MRow:=cR tys k0 s14 k4
def cr41:MRow:=cR tys k0 s15 k4
def cr42:MRow:=cR tys k0 s16 k4
def cr43:MRow:=cR tys k0 s17 k4
def cr44:MRow:=cR tys k0 s18 k4
def cr45:MRow:=cR tys k0 s19 k4
def cr46:MRow:=cR tys k0 s1a k4
def cr47:MRow:=cR tys k0 s1b k4
def cr48:MRow:=cR tys k0 s1c k4
def cr49:MRow:=cR tys k0 s1d k4
def cr50:MRow:=cR tys k0 s1e k4
def cr51:MRow:=cR tys k0 s1f k4
def cr52:MRow:=cR tys k0 s1g k4
def cr53:MRow:=cR tys k0 s1h k4
def cr54:MRow:=cR tys k0 s1i k4
def cr55:MRow:=cR tys k0 s1j k4
def cr56:MRow:=cR tys k0 s1k k4
def cr57:MRow:=cR tys k0 s1l k4
def cr58:MRow:=cR tys k0 s1m k4
def cr59:MRow:=cR tys k0 s1n k4
def cr60:MRow:=cR tys k0 s1o k4
def cr61:MRow:=cR tys k0 s1p k4
def cr62:MRow:=cR tys k0 s1q k4
def cr63:MRow:=cR tys k0 s1r k4
def cr64:MRow:=cR tys k0 s1s k4
def cr65:MRow:=cR tys k0 s1t k4
def cr66:MRow:=cR tys k0 s1u k4
def cr67:MRow:=cR tys k0 s1v k4
def cr68:MRow:=cR tys k0 s1w k4
def cr69:MRow:=cR tys k0 s1x k4
def cr70:MRow:=cR tys k0 s1y k4
def cr71:MRow:=cR tys k0 s1z k4
def cr72:MRow:=cR tys k0 s20 k4
def cr73:MRow:=cR tys k0 s21 k4
def cr74:MRow:=cR tys k0 s22 k4
def cr75:MRow:=cR tys k0 s23 k4
def cr76:MRow:=cR tys k0 s24 k4
def cr77:MRow:=cR tys k0 s25 k4
def cr78:MRow:=cR tys k0 s26 k4
def cr79:MRow:=cR tys k0 s27 k4
def cr80:MRow:=cR tys k0 s28 k4
def cw0:List MRow:=[cr0,
 cr1,
 cr2,
 cr3]
def cw1:List MRow:=[cr4,
 cr5,
 cr6,
 cr7]
def cw2:List MRow:=[cr8,
 cr9,
 cr10,
 cr11]
def cw3:List MRow:=[cr12,
 cr13,
 cr14,
 cr15]
def cw4:List MRow:=[cr16,
 cr17,
 cr18,
 cr19]
def cw5:List MRow:=[cr20,
 cr21,
 cr22,
 cr23]
def cw6:List MRow:=[cr24,
 cr25,
 cr26,
 cr27]
def cw7:List MRow:=[cr28,
 cr29,
 cr30,
 cr31]
def cw8:List MRow:=[cr32,
 cr33,
 cr34,
 cr35]
def cw9:List MRow:=[cr36,
 cr37,
 cr38,
 cr39]
def cw10:List MRow:=[cr40,
 cr41,
 cr42,
 cr43]
def cw11:List MRow:=[cr44,
 cr45,
 cr46,
 cr47]
def cw12:List MRow:=[cr48,
 cr49,
 cr50,
 cr51]
def cw13:List MRow:=[cr52,
 cr53,
 cr54,
 cr55]
def cw14:List MRow:=[cr56,
 cr57,
 cr58,
 cr59]
def cw15:List MRow:=[cr60,
 cr61,
 cr62,
 cr63]
def cw16:List MRow:=[cr64,
 cr65,
 cr66,
 cr67]
def cw17:List MRow:=[cr68,
 cr69,
 cr70,
 cr71]
def cw18:List MRow:=[cr72,
 cr73,
 cr74,
 cr75]
def cw19:List MRow:=[cr76,
 cr77,
 cr78,
 cr79]
def cw20:List MRow:=[cr80]
def crows:List MRow:=cw0 ++ (cw1 ++ (cw2 ++ (cw3 ++ (cw4 ++ (cw5 ++ (cw6 ++ (cw7 ++ (cw8 ++ (cw9 ++ (cw10 ++ (cw11 ++ (cw12 ++ (cw13 ++ (cw14 ++ (cw15 ++ (cw16 ++ (cw17 ++ (cw18 ++ (cw19 ++ (cw20))))))))))))))))))))
def nw0:List MRow:=[nR s0 [.int .i64 16384] (.tup [.ptr k0 0,.int .i64 0]) k0]
def nw1:List MRow:=[⟨[.int .i64 16383],[],.tup [.nilPtr, .int .i64 2600],[]⟩]
def nrows:List MRow:=nw0 ++ (nw1)
def dw0:List MRow:=[dR tys k4 s0 s1 [.ptr k0 0,.agg [.int .i64 3,.str 1 116,.str 0 0,.str 31 104481335786327267040345892488766287127177228565394820989683512661121135206,.nilSlice,.int .i64 0,.int .i64 0,.str 0 0,.str 0 0,.int .i64 0,.int .i64 0,.int .i64 0,.int .i64 0,.str 0 0]] Z9 [k5,k6,kh] [kv,kw,kx,ky,kz,k10,k11,k12,k13,k14,k15,k16,k17,k18,k19,k1a,k1b,k1c,k1d,k1e,k1f,k1g,k1h,k1i,k1j,k1k,k1l,k0,k1,k2,k8,ka,kc,kg,km,kq,kr,kt,ku] [(kh,.dead)]]
def dw1:List MRow:=[dR tys k4 s1 s2 [.ptr k0 0,.agg [.int .i64 4,.str 1 116,.str 0 0,.str 0 0,.nilSlice,.int .i64 0,.int .i64 0,.str 0 0,.str 0 0,.int .i64 0,.int .i64 0,.int .i64 0,.int .i64 0,.str 0 0]] (.tup [.agg [.int .i64 0,.int .i64 0,.int .i64 1,.str 0 0,.nilSlice,.nilSlice,.int .i64 0,.int .i64 0,.int .i64 0,.int .i64 0,.str 0 0,.nilSlice,.int .i64 0,.int .i64 0],.int .i64 0]) [k5,k6,kh,k1e,k1i,k1k,k1l] [k1n,k1o,k1s,k1t,k1v,k1w,k1x,k1z,k0,k1,k2,k8,ka,kg,km,kr,ku,kz,k15,k1h] [(kh,.dead),(k1e,.dead),(k1i,.dead)]]
def dw2:List MRow:=[dR tys k4 s2 s3 [.ptr k0 0,.agg [.int .i64 4,.str 1 116,.str 0 0,.str 0 0,.nilSlice,.int .i64 0,.int .i64 0,.str 0 0,.str 0 0,.int .i64 0,.int .i64 0,.int .i64 0,.int .i64 0,.str 0 0]] (.tup [.agg [.int .i64 0,.int .i64 0,.int .i64 2,.str 0 0,.nilSlice,.nilSlice,.int .i64 0,.int .i64 0,.int .i64 0,.int .i64 0,.str 0 0,.nilSlice,.int .i64 0,.int .i64 0],.int .i64 0]) [k5,k6,kh,k1e,k1i,k1k,k1l] [k21,k25,k26,k28,k29,k2a,k2c,k0,k1,k2,k8,ka,kg,km,kr,ku,kz,k17,k1h] [(kh,.dead),(k1e,.dead),(k1i,.dead)]]
def dw3:List MRow:=[dR tys k4 s3 s4 (cl 1 5 (.str 3 6581861) (.str 0 0) 0 0 0 420 (.str 6 127978876068212)) Z9 [k5,k6,kh,k1e,k1f,k1i,k1l] [k2d,k2e,k2f,k2g,k0,k1,k8,ka,kg,km,kr,ku,k1o] [(ke,.dead),(kh,.dead),(k1e,.dead),(k1f,.dead),(k1x,.dead),(k1i,.dead)]]
def dw4:List MRow:=[dR tys k4 s4 s5 (cl 1 8 (.str 3 6581861) (.str 0 0) 0 0 0 0 (.str 1 120)) (an 0 1 0 0 (.str 0 0) .nilSlice) Zj [k1x,k1z,k0,k1,ka,km,ku,k1e,k1f,k1n,k21] [(ke,.dead),(k2f,.dead),(k1i,.dead)]]
def dw5:List MRow:=[dR tys k4 s5 s6 (cl 2 6 (.str 2 13167) (.str 0 0) 0 0 0 0 (.str 0 0)) Z9 Zj [k2f,k2g,k0,k1,ka,km,ku,k1e,k2e] [(ke,.dead),(k2a,.dead),(k1i,.dead)]]
def dw6:List MRow:=[dR tys k4 s6 s7 (cl 1 7 (.str 2 12396) (.str 0 0) 0 0 0 0 (.str 3 6581861)) Z9 Zj Zk [(ke,.dead),(k1x,.dead),(k1i,.dead)]]
def dw7:List MRow:=[dR tys k4 s7 s8 Z0 Z9 Zj Zl [(ke,.dead),(k2a,.dead),(k1i,.dead),(k1y,.dead)]]
def dw8:List MRow:=[dR tys k4 s8 s9 Z1 Z9 Zj Zk Zd]
def dw9:List MRow:=[dR tys k4 s9 sa Z2 Z9 Zj Zl Ze]
def dw10:List MRow:=[dR tys k4 sa sa (cl 1 2 (.str 2 12396) (.str 0 0) 0 0 5 0 (.str 0 0)) Za [] [k0] Zf]
def dw11:List MRow:=[dR tys k4 sa sa Z3 Zb [] [k0] Zf]
def dw12:List MRow:=[dR tys k4 sa sa Z4 Zc [] [k0] Zf]
def dw13:List MRow:=[dR tys k4 s7 sb (cl 1 7 (.str 2 12652) (.str 0 0) 0 0 0 0 (.str 2 12396)) Z9 Zj Zl [(ke,.dead),(k2a,.dead),(k1i,.dead),(k1y,.dead)]]
def dw14:List MRow:=[dR tys k4 sb sc Z0 Z9 Zj Zk Zd]
def dw15:List MRow:=[dR tys k4 sc sd Z2 Z9 Zj Zl Ze]
def dw16:List MRow:=[dR tys k4 sd se Z1 Z9 Zj Zm Zg]
def dw17:List MRow:=[dR tys k4 se se (cl 1 2 (.str 2 12652) (.str 0 0) 0 0 5 0 (.str 0 0)) Za [] [k0] Zf]
def dw18:List MRow:=[dR tys k4 se se Z3 Zb [] [k0] Zf]
def dw19:List MRow:=[dR tys k4 se sf Z5 Z9 Zj Zk Zh]
def dw20:List MRow:=[dR tys k4 sf sf Z4 Zc [] [k0] Zf]
def dw21:List MRow:=[dR tys k4 sb sg (cl 1 7 (.str 2 12908) (.str 0 0) 0 0 0 0 (.str 2 12652)) Z9 Zj Zk Zd]
def dw22:List MRow:=[dR tys k4 sg sh Z2 Z9 Zj Zl Ze]
def dw23:List MRow:=[dR tys k4 sh si Z0 Z9 Zj Zm Zg]
def dw24:List MRow:=[dR tys k4 si sj Z1 Z9 Zj Zk Zi]
def dw25:List MRow:=[dR tys k4 sj sj (cl 1 2 (.str 2 12908) (.str 0 0) 0 0 5 0 (.str 0 0)) Za [] [k0] Zf]
def dw26:List MRow:=[dR tys k4 sj sk Z5 Z9 Zj Zm Zh]
def dw27:List MRow:=[dR tys k4 sk sk Z3 Zb [] [k0] Zf]
def dw28:List MRow:=[dR tys k4 sk sk Z4 Zc [] [k0] Zf]
def dw29:List MRow:=[dR tys k4 sh sl (cl 1 7 (.str 2 13164) (.str 0 0) 0 0 0 0 (.str 2 12908)) Z9 Zj Zm Zg]
def dw30:List MRow:=[dR tys k4 sl sm Z0 Z9 Zj Zk Zi]
def dw31:List MRow:=[dR tys k4 sm sn Z1 Z9 Zj Zm Zg]
def dw32:List MRow:=[dR tys k4 sn so Z5 Z9 Zj Zk Zh]
def dw33:List MRow:=[dR tys k4 so so (cl 1 2 (.str 2 13164) (.str 0 0) 0 0 5 0 (.str 0 0)) Za [] [k0] Zf]
def dw34:List MRow:=[dR tys k4 so so Z3 Zb [] [k0] Zf]
def dw35:List MRow:=[dR tys k4 so so Z4 Zc [] [k0] Zf]
def dw36:List MRow:=[dR tys k4 sl sp (cl 1 7 (.str 2 13420) (.str 0 0) 0 0 0 0 (.str 2 13164)) Z9 Zj Zk Zi]
def dw37:List MRow:=[dR tys k4 sp sq Z0 Z9 Zj Zm Zg]
def dw38:List MRow:=[dR tys k4 sq sr Z5 Z9 Zj Zk Zh]
def dw39:List MRow:=[dR tys k4 sr ss Z1 Z9 Zj Zl Zi]
def dw40:List MRow:=[dR tys k4 ss ss (cl 1 2 (.str 2 13420) (.str 0 0) 0 0 5 0 (.str 0 0)) Za [] [k0] Zf]
def dw41:List MRow:=[dR tys k4 ss ss Z3 Zb [] [k0] Zf]
def dw42:List MRow:=[dR tys k4 ss st Z6 Z9 Zj Zm Zg]
def dw43:List MRow:=[dR tys k4 st st Z4 Zc [] [k0] Zf]
def dw44:List MRow:=[dR tys k4 sp su (cl 1 7 (.str 2 13676) (.str 0 0) 0 0 0 0 (.str 2 13420)) Z9 Zj Zm Zg]
def dw45:List MRow:=[dR tys k4 su sv Z5 Z9 Zj Zk Zh]
def dw46:List MRow:=[dR tys k4 sv sw Z0 Z9 Zj Zl Zi]
def dw47:List MRow:=[dR tys k4 sw sx Z1 Z9 Zj Zm Zh]
def dw48:List MRow:=[dR tys k4 sx sx (cl 1 2 (.str 2 13676) (.str 0 0) 0 0 5 0 (.str 0 0)) Za [] [k0] Zf]
def dw49:List MRow:=[dR tys k4 sx sy Z6 Z9 Zj Zl Zg]
def dw50:List MRow:=[dR tys k4 sy sy Z3 Zb [] [k0] Zf]
def dw51:List MRow:=[dR tys k4 sy sy Z4 Zc [] [k0] Zf]
def dw52:List MRow:=[dR tys k4 sv sz (cl 1 7 (.str 2 13932) (.str 0 0) 0 0 0 0 (.str 2 13676)) Z9 Zj Zl Zi]
def dw53:List MRow:=[dR tys k4 sz s10 Z0 Z9 Zj Zm Zh]
def dw54:List MRow:=[dR tys k4 s10 s11 Z1 Z9 Zj Zl Zi]
def dw55:List MRow:=[dR tys k4 s11 s12 Z6 Z9 Zj Zm Zg]
def dw56:List MRow:=[dR tys k4 s12 s12 (cl 1 2 (.str 2 13932) (.str 0 0) 0 0 5 0 (.str 0 0)) Za [] [k0] Zf]
def dw57:List MRow:=[dR tys k4 s12 s12 Z3 Zb [] [k0] Zf]
def dw58:List MRow:=[dR tys k4 s12 s12 Z4 Zc [] [k0] Zf]
def dw59:List MRow:=[dR tys k4 sz s13 (cl 1 7 (.str 2 14188) (.str 0 0) 0 0 0 0 (.str 2 13932)) Z9 Zj Zm Zh]
def dw60:List MRow:=[dR tys k4 s13 s14 Z0 Z9 Zj Zl Zi]
def dw61:List MRow:=[dR tys k4 s14 s15 Z6 Z9 Zj Zm Zg]
def dw62:List MRow:=[dR tys k4 s15 s16 Z1 Z9 Zj Zk Zh]
def dw63:List MRow:=[dR tys k4 s16 s16 (cl 1 2 (.str 2 14188) (.str 0 0) 0 0 5 0 (.str 0 0)) Za [] [k0] Zf]
def dw64:List MRow:=[dR tys k4 s16 s16 Z3 Zb [] [k0] Zf]
def dw65:List MRow:=[dR tys k4 s16 s17 Z7 Z9 Zj Zl Zi]
def dw66:List MRow:=[dR tys k4 s17 s17 Z4 Zc [] [k0] Zf]
def dw67:List MRow:=[dR tys k4 s13 s18 (cl 1 7 (.str 2 14444) (.str 0 0) 0 0 0 0 (.str 2 14188)) Z9 Zj Zl Zi]
def dw68:List MRow:=[dR tys k4 s18 s19 Z6 Z9 Zj Zm Zg]
def dw69:List MRow:=[dR tys k4 s19 s1a Z0 Z9 Zj Zk Zh]
def dw70:List MRow:=[dR tys k4 s1a s1b Z1 Z9 Zj Zl Zg]
def dw71:List MRow:=[dR tys k4 s1b s1b (cl 1 2 (.str 2 14444) (.str 0 0) 0 0 5 0 (.str 0 0)) Zb [] [k0] Zf]
def dw72:List MRow:=[dR tys k4 s1b s1c Z7 Z9 Zj Zk Zi]
def dw73:List MRow:=[dR tys k4 s1c s1c Z3 Zb [] [k0] Zf]
def dw74:List MRow:=[dR tys k4 s19 s1d (cl 1 7 (.str 2 14700) (.str 0 0) 0 0 0 0 (.str 2 14444)) Z9 Zj Zk Zh]
def dw75:List MRow:=[dR tys k4 s1d s1e Z0 Z9 Zj Zl Zg]
def dw76:List MRow:=[dR tys k4 s1e s1f Z1 Z9 Zj Zk Zh]
def dw77:List MRow:=[dR tys k4 s1f s1g Z7 Z9 Zj Zl Zi]
def dw78:List MRow:=[dR tys k4 s1g s1g (cl 1 2 (.str 2 14700) (.str 0 0) 0 0 5 0 (.str 0 0)) Zb [] [k0] Zf]
def dw79:List MRow:=[dR tys k4 s1g s1g Z3 Zb [] [k0] Zf]
def dw80:List MRow:=[dR tys k4 s1d s1h (cl 1 7 (.str 3 3158380) (.str 0 0) 0 0 0 0 (.str 2 14700)) Z9 Zj Zl Zg]
def dw81:List MRow:=[dR tys k4 s1h s1i Z0 Z9 Zj Zk Zh]
def dw82:List MRow:=[dR tys k4 s1i s1j Z7 Z9 Zj Zl Zi]
def dw83:List MRow:=[dR tys k4 s1j s1k Z1 Z9 Zj Zm Zg]
def dw84:List MRow:=[dR tys k4 s1k s1k (cl 1 2 (.str 3 3158380) (.str 0 0) 0 0 5 0 (.str 0 0)) Zb [] [k0] Zf]
def dw85:List MRow:=[dR tys k4 s1k s1k Z3 Zb [] [k0] Zf]
def dw86:List MRow:=[dR tys k4 s1h s1l (cl 1 7 (.str 3 3223916) (.str 0 0) 0 0 0 0 (.str 3 3158380)) Z9 Zj Zk Zh]
def dw87:List MRow:=[dR tys k4 s1l s1m Z7 Z9 Zj Zl Zi]
def dw88:List MRow:=[dR tys k4 s1m s1n Z0 Z9 Zj Zm Zg]
def dw89:List MRow:=[dR tys k4 s1n s1o Z1 Z9 Zj Zk Zi]
def dw90:List MRow:=[dR tys k4 s1o s1o (cl 1 2 (.str 3 3223916) (.str 0 0) 0 0 5 0 (.str 0 0)) Zb [] [k0] Zf]
def dw91:List MRow:=[dR tys k4 s1o s1p Z8 Z9 Zj Zm Zh]
def dw92:List MRow:=[dR tys k4 s1p s1p Z3 Zb [] [k0] Zf]
def dw93:List MRow:=[dR tys k4 s1m s1q (cl 1 7 (.str 3 3289452) (.str 0 0) 0 0 0 0 (.str 3 3223916)) Z9 Zj Zm Zg]
def dw94:List MRow:=[dR tys k4 s1q s1r Z0 Z9 Zj Zk Zi]
def dw95:List MRow:=[dR tys k4 s1r s1s Z1 Z9 Zj Zm Zg]
def dw96:List MRow:=[dR tys k4 s1s s1t Z8 Z9 Zj Zk Zh]
def dw97:List MRow:=[dR tys k4 s1t s1t (cl 1 2 (.str 3 3289452) (.str 0 0) 0 0 5 0 (.str 0 0)) Zb [] [k0] Zf]
def dw98:List MRow:=[dR tys k4 s1t s1t Z3 Zb [] [k0] Zf]
def dw99:List MRow:=[dR tys k4 s1q s1u (cl 1 7 (.str 3 3354988) (.str 0 0) 0 0 0 0 (.str 3 3289452)) Z9 Zj Zk Zi]
def dw100:List MRow:=[dR tys k4 s1u s1v Z0 Z9 Zj Zm Zg]
def dw101:List MRow:=[dR tys k4 s1v s1w Z8 Z9 Zj Zk Zh]
def dw102:List MRow:=[dR tys k4 s1w s1x Z1 Z9 Zj Zl Zi]
def dw103:List MRow:=[dR tys k4 s1x s1x (cl 1 2 (.str 3 3354988) (.str 0 0) 0 0 5 0 (.str 0 0)) Zb [] [k0] Zf]
def dw104:List MRow:=[dR tys k4 s1x s1x Z3 Zb [] [k0] Zf]
def dw105:List MRow:=[dR tys k4 s1u s1y (cl 1 7 (.str 3 3420524) (.str 0 0) 0 0 0 0 (.str 3 3354988)) Z9 Zj Zm Zg]
def dw106:List MRow:=[dR tys k4 s1y s1z Z8 Z9 Zj Zk Zh]
def dw107:List MRow:=[dR tys k4 s1z s20 Z0 Z9 Zj Zl Zi]
def dw108:List MRow:=[dR tys k4 s20 s21 Z1 Z9 Zj Zm Zh]
def dw109:List MRow:=[dR tys k4 s21 s21 (cl 1 2 (.str 3 3420524) (.str 0 0) 0 0 5 0 (.str 0 0)) Zb [] [k0] Zf]
def dw110:List MRow:=[dR tys k4 s21 s22 (cl 2 6 (.str 3 3224175) (.str 0 0) 0 0 0 0 (.str 0 0)) Z9 Zj Zl Zg]
def dw111:List MRow:=[dR tys k4 s22 s22 Z3 Zb [] [k0] Zf]
def dw112:List MRow:=[dR tys k4 s1z s23 (cl 1 7 (.str 3 3486060) (.str 0 0) 0 0 0 0 (.str 3 3420524)) Z9 Zj Zl Zi]
def dw113:List MRow:=[dR tys k4 s23 s24 Z0 Z9 Zj Zm Zh]
def dw114:List MRow:=[dR tys k4 s24 s25 Z1 Z9 Zj Zl Zi]
def dw115:List MRow:=[dR tys k4 s25 s26 (cl 2 6 (.str 3 3224175) (.str 0 0) 0 0 0 0 (.str 0 0)) Z9 Zj Zm Zg]
def dw116:List MRow:=[dR tys k4 s26 s26 (cl 1 2 (.str 3 3486060) (.str 0 0) 0 0 5 0 (.str 0 0)) Zb [] [k0] Zf]
def dw117:List MRow:=[dR tys k4 s26 s26 Z3 Zb [] [k0] Zf]
def dw118:List MRow:=[dR tys k4 s0 s27 [.ptr k0 0,.agg [.int .i64 3,.str 1 116,.str 0 0,.str 19 1318739858033904608473444756492996921336492646,.nilSlice,.int .i64 0,.int .i64 0,.str 0 0,.str 0 0,.int .i64 0,.int .i64 0,.int .i64 0,.int .i64 0,.str 0 0]] Z9 [k5,k6,kh] [kv,kw,kx,ky,kz,k10,k11,k12,k13,k14,k15,k16,k17,k18,k19,k1a,k1b,k1c,k1d,k1e,k0,k1,k2,k8,ka,kc,kg,km,kq,kr,kt,ku] [(kh,.dead)]]
def dw119:List MRow:=[dR tys k4 s27 s28 [.ptr k0 0,.agg [.int .i64 4,.str 1 116,.str 0 0,.str 17 20131413071242410322311321564098966089572,.nilSlice,.int .i64 0,.int .i64 0,.str 0 0,.str 0 0,.int .i64 0,.int .i64 0,.int .i64 0,.int .i64 0,.str 0 0]] (.tup [.agg [.int .i64 0,.int .i64 0,.int .i64 1,.str 0 0,.nilSlice,.nilSlice,.int .i64 0,.int .i64 0,.int .i64 0,.int .i64 0,.str 0 0,.nilSlice,.int .i64 0,.int .i64 0],.int .i64 0]) [k5,k6,kh,k19,k1c,k1d,k1e] [k1g,k1h,k1l,k1m,k1n,k1p,k1q,k1s,k0,k1,k2,k8,ka,kg,km,kr,ku,ky,k12,k1b] [(kh,.dead),(k19,.dead),(k1c,.dead)]]
def dw120:List MRow:=[dR tys k4 s28 s29 [.ptr k0 0,.agg [.int .i64 5,.str 0 0,.str 0 0,.str 0 0,.nilSlice,.int .i64 1,.int .i64 0,.str 0 0,.str 0 0,.int .i64 0,.int .i64 0,.int .i64 0,.int .i64 0,.str 0 0]] Z9 [k5,k6,kh,k19,k1c,k1e] [k1v,k1w,k1x,k1y,k0,k1,k8,ka,kg,km,kr,ku,k14] [(kh,.dead),(k19,.dead),(k1q,.dead),(k1c,.dead)]]
def drows:List MRow:=dw0 ++ (dw1 ++ (dw2 ++ (dw3 ++ (dw4 ++ (dw5 ++ (dw6 ++ (dw7 ++ (dw8 ++ (dw9 ++ (dw10 ++ (dw11 ++ (dw12 ++ (dw13 ++ (dw14 ++ (dw15 ++ (dw16 ++ (dw17 ++ (dw18 ++ (dw19 ++ (dw20 ++ (dw21 ++ (dw22 ++ (dw23 ++ (dw24 ++ (dw25 ++ (dw26 ++ (dw27 ++ (dw28 ++ (dw29 ++ (dw30 ++ (dw31 ++ (dw32 ++ (dw33 ++ (dw34 ++ (dw35 ++ (dw36 ++ (dw37 ++ (dw38 ++ (dw39 ++ (dw40 ++ (dw41 ++ (dw42 ++ (dw43 ++ (dw44 ++ (dw45 ++ (dw46 ++ (dw47 ++ (dw48 ++ (dw49 ++ (dw50 ++ (dw51 ++ (dw52 ++ (dw53 ++ (dw54 ++ (dw55 ++ (dw56 ++ (dw57 ++ (dw58 ++ (dw59 ++ (dw60 ++ (dw61 ++ (dw62 ++ (dw63 ++ (dw64 ++ (dw65 ++ (dw66 ++ (dw67 ++ (dw68 ++ (dw69 ++ (dw70 ++ (dw71 ++ (dw72 ++ (dw73 ++ (dw74 ++ (dw75 ++ (dw76 ++ (dw77 ++ (dw78 ++ (dw79 ++ (dw80 ++ (dw81 ++ (dw82 ++ (dw83 ++ (dw84 ++ (dw85 ++ (dw86 ++ (dw87 ++ (dw88 ++ (dw89 ++ (dw90 ++ (dw91 ++ (dw92 ++ (dw93 ++ (dw94 ++ (dw95 ++ (dw96 ++ (dw97 ++ (dw98 ++ (dw99 ++ (dw100 ++ (dw101 ++ (dw102 ++ (dw103 ++ (dw104 ++ (dw105 ++ (dw106 ++ (dw107 ++ (dw108 ++ (dw109 ++ (dw110 ++ (dw111 ++ (dw112 ++ (dw113 ++ (dw114 ++ (dw115 ++ (dw116 ++ (dw117 ++ (dw118 ++ (dw119 ++ (dw120))))))))))))))))))))))))))))))))))))))))))))))))))))))))))))))))))))))))))))))))))))))))))))))))))))))))))))))))))))))))
def brows:List MRow:=[]
def yr0 : ORow := ⟨[.ptr ⟨.d0, .d0, .d0, .d0, .d1⟩ 0], [(⟨.d0, .d0, .d0, .d0, .d1⟩, .fixed 273 [.int .i64 1, .rng 0 1024, .ustr 5, .junk, .junk, .junk, .junk, .nilSlice, .junk, .rng 0 4096, .rng 0 4096, .junk])], .ustr 63⟩
def yr1 : ORow := ⟨[.ptr ⟨.d0, .d0, .d0, .d0, .d1⟩ 0], [(⟨.d0, .d0, .d0, .d0, .d1⟩, .fixed 273 [.int .i64 1, .rng 0 1024, .ustr 6, .junk, .junk, .junk, .junk, .slice ⟨.d1, .d0, .d0, .d0, .d1⟩ 0 1 (.more 1), .junk, .rng 0 4096, .rng 0 4096, .junk]), (⟨.d1, .d0, .d0, .d0, .d1⟩, .fixed 3 [.rng 0 4096])], .ustr 63⟩
def yr2 : ORow := ⟨[.ptr ⟨.d0, .d0, .d0, .d0, .d1⟩ 0], [(⟨.d0, .d0, .d0, .d0, .d1⟩, .fixed 273 [.int .i64 2, .rng 0 1024, .ustr 3, .junk, .junk, .junk, .junk, .junk, .nilSlice, .rng 0 4096, .rng 0 4096, .junk])], .ustr 63⟩
def yr3 : ORow := ⟨[.ptr ⟨.d0, .d0, .d0, .d0, .d1⟩ 0], [(⟨.d0, .d0, .d0, .d0, .d1⟩, .fixed 273 [.int .i64 2, .rng 0 1024, .ustr 3, .junk, .junk, .junk, .junk, .junk, .slice ⟨.d1, .d0, .d0, .d0, .d1⟩ 0 1 (.is 1), .rng 0 4096, .rng 0 4096, .junk]), (⟨.d1, .d0, .d0, .d0, .d1⟩, .fixed 3 [.rng 0 4096])], .ustr 63⟩
def yr4 : ORow := ⟨[.ptr ⟨.d0, .d0, .d0, .d0, .d1⟩ 0], [(⟨.d0, .d0, .d0, .d0, .d1⟩, .fixed 273 [.int .i64 1, .rng 0 1024, .ustr 6, .junk, .junk, .junk, .junk, .slice ⟨.d1, .d0, .d0, .d0, .d1⟩ 0 0 (.more 1), .junk, .rng 0 4096, .rng 0 4096, .junk]), (⟨.d1, .d0, .d0, .d0, .d1⟩, .fixed 3 [.rng 0 4096])], .ustr 63⟩
def yr5 : ORow := ⟨[.ptr ⟨.d0, .d0, .d0, .d0, .d1⟩ 0], [(⟨.d0, .d0, .d0, .d0, .d1⟩, .fixed 273 [.int .i64 2, .rng 0 1024, .ustr 12, .junk, .junk, .junk, .junk, .junk, .slice ⟨.d1, .d0, .d0, .d0, .d1⟩ 0 1 (.is 1), .rng 0 4096, .rng 0 4096, .junk]), (⟨.d1, .d0, .d0, .d0, .d1⟩, .fixed 3 [.rng 0 4096])], .ustr 63⟩
def yr6 : ORow := ⟨[.ptr ⟨.d0, .d0, .d0, .d0, .d1⟩ 0], [(⟨.d0, .d0, .d0, .d0, .d1⟩, .fixed 273 [.int .i64 1, .rng 0 1024, .ustr 5, .junk, .junk, .junk, .junk, .slice ⟨.d1, .d0, .d0, .d0, .d1⟩ 0 1 (.more 1), .junk, .rng 0 4096, .rng 0 4096, .junk]), (⟨.d1, .d0, .d0, .d0, .d1⟩, .fixed 3 [.rng 0 4096])], .ustr 63⟩
def yr7 : ORow := ⟨[.ptr ⟨.d0, .d0, .d0, .d0, .d1⟩ 0], [(⟨.d0, .d0, .d0, .d0, .d1⟩, .fixed 273 [.int .i64 1, .rng 0 1024, .ustr 5, .junk, .junk, .junk, .junk, .slice ⟨.d1, .d0, .d0, .d0, .d1⟩ 0 0 (.more 1), .junk, .rng 0 4096, .rng 0 4096, .junk]), (⟨.d1, .d0, .d0, .d0, .d1⟩, .fixed 3 [.rng 0 4096])], .ustr 63⟩
def yr8 : ORow := ⟨[.ptr ⟨.d0, .d0, .d0, .d0, .d1⟩ 0], [(⟨.d0, .d0, .d0, .d0, .d1⟩, .fixed 273 [.int .i64 2, .rng 0 1024, .ustr 5, .junk, .junk, .junk, .junk, .junk, .slice ⟨.d1, .d0, .d0, .d0, .d1⟩ 0 1 (.is 1), .rng 0 4096, .rng 0 4096, .junk]), (⟨.d1, .d0, .d0, .d0, .d1⟩, .fixed 3 [.rng 0 4096])], .ustr 63⟩
def yr9 : ORow := ⟨[.ptr ⟨.d0, .d0, .d0, .d0, .d1⟩ 0], [(⟨.d0, .d0, .d0, .d0, .d1⟩, .fixed 273 [.int .i64 2, .rng 0 1024, .ustr 6, .junk, .junk, .junk, .junk, .junk, .nilSlice, .rng 0 4096, .rng 0 4096, .junk])], .ustr 63⟩
def yr10 : ORow := ⟨[.ptr ⟨.d0, .d0, .d0, .d0, .d1⟩ 0], [(⟨.d0, .d0, .d0, .d0, .d1⟩, .fixed 273 [.int .i64 2, .rng 0 1024, .ustr 6, .junk, .junk, .junk, .junk, .junk, .slice ⟨.d1, .d0, .d0, .d0, .d1⟩ 0 1 (.is 1), .rng 0 4096, .rng 0 4096, .junk]), (⟨.d1, .d0, .d0, .d0, .d1⟩, .fixed 3 [.rng 0 4096])], .ustr 63⟩
def yr11 : ORow := ⟨[.ptr ⟨.d0, .d0, .d0, .d0, .d1⟩ 0], [(⟨.d0, .d0, .d0, .d0, .d1⟩, .fixed 273 [.int .i64 2, .rng 0 1024, .ustr 7, .junk, .junk, .junk, .junk, .junk, .nilSlice, .rng 0 4096, .rng 0 4096, .junk])], .ustr 63⟩
def yr12 : ORow := ⟨[.ptr ⟨.d0, .d0, .d0, .d0, .d1⟩ 0], [(⟨.d0, .d0, .d0, .d0, .d1⟩, .fixed 273 [.int .i64 2, .rng 0 1024, .ustr 7, .junk, .junk, .junk, .junk, .junk, .slice ⟨.d1, .d0, .d0, .d0, .d1⟩ 0 1 (.is 1), .rng 0 4096, .rng 0 4096, .junk]), (⟨.d1, .d0, .d0, .d0, .d1⟩, .fixed 3 [.rng 0 4096])], .ustr 63⟩
def yrows : List ORow := [yr0, yr1, yr2, yr3, yr4, yr5, yr6, yr7, yr8, yr9, yr10, yr11, yr12]
end
end Go.Proofs.YtdkbfimccddikaaGreatDoor
