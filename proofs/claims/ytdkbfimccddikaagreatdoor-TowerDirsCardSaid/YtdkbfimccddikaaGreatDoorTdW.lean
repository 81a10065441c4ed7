/- What the tower's functions leave behind, call by call: states, and rows that lead from one to another. No conditions. -/
import Derived.Test.YtdkbfimccddikaaGreatDoorUJ
namespace Go.Proofs.YtdkbfimccddikaaGreatDoor
open Go.VM
noncomputable section
open Go.VM.D8 (d0 d1 d2 d3 d4 d5 d6 d7)
abbrev KQ:=Key.mk
def tys:List Nat:=[117, 211, 321, 311, 327, 389]
def k0:=KQ d0 d0 d0 d0 d1
def k1:=KQ d1 d0 d0 d0 d1
def k2:=KQ d2 d0 d0 d0 d1
def k3:=KQ d3 d0 d0 d0 d1
def k4:=KQ d4 d0 d0 d0 d1
def k5:=KQ d5 d0 d0 d0 d1
def k6:=KQ d6 d0 d0 d0 d1
def k7:=KQ d7 d0 d0 d0 d1
def k8:=KQ d0 d1 d0 d0 d1
def k9:=KQ d1 d1 d0 d0 d1
def ka:=KQ d2 d1 d0 d0 d1
def kb:=KQ d3 d1 d0 d0 d1
def kc:=KQ d4 d1 d0 d0 d1
def kd:=KQ d5 d1 d0 d0 d1
def ke:=KQ d6 d1 d0 d0 d1
def kf:=KQ d7 d1 d0 d0 d1
def kg:=KQ d0 d2 d0 d0 d1
def kh:=KQ d1 d2 d0 d0 d1
def ki:=KQ d2 d2 d0 d0 d1
def kj:=KQ d3 d2 d0 d0 d1
def kk:=KQ d4 d2 d0 d0 d1
def kl:=KQ d5 d2 d0 d0 d1
def km:=KQ d6 d2 d0 d0 d1
def kn:=KQ d7 d2 d0 d0 d1
def ko:=KQ d0 d3 d0 d0 d1
def kp:=KQ d1 d3 d0 d0 d1
def kq:=KQ d2 d3 d0 d0 d1
def kr:=KQ d3 d3 d0 d0 d1
def ks:=KQ d4 d3 d0 d0 d1
def kt:=KQ d5 d3 d0 d0 d1
def ku:=KQ d6 d3 d0 d0 d1
def kv:=KQ d7 d3 d0 d0 d1
def kw:=KQ d0 d4 d0 d0 d1
def kx:=KQ d1 d4 d0 d0 d1
def ky:=KQ d2 d4 d0 d0 d1
def kz:=KQ d3 d4 d0 d0 d1
def k10:=KQ d4 d4 d0 d0 d1
def k11:=KQ d5 d4 d0 d0 d1
def k12:=KQ d6 d4 d0 d0 d1
def k13:=KQ d7 d4 d0 d0 d1
def k14:=KQ d0 d5 d0 d0 d1
def k15:=KQ d1 d5 d0 d0 d1
def k16:=KQ d2 d5 d0 d0 d1
def k17:=KQ d3 d5 d0 d0 d1
def k18:=KQ d4 d5 d0 d0 d1
def k19:=KQ d5 d5 d0 d0 d1
def k1a:=KQ d6 d5 d0 d0 d1
def k1b:=KQ d7 d5 d0 d0 d1
def k1c:=KQ d0 d6 d0 d0 d1
def k1d:=KQ d1 d6 d0 d0 d1
def k1e:=KQ d2 d6 d0 d0 d1
def k1f:=KQ d3 d6 d0 d0 d1
def k1g:=KQ d4 d6 d0 d0 d1
def k1h:=KQ d5 d6 d0 d0 d1
def k1i:=KQ d6 d6 d0 d0 d1
def k1j:=KQ d7 d6 d0 d0 d1
def k1k:=KQ d0 d7 d0 d0 d1
def k1l:=KQ d1 d7 d0 d0 d1
def k1m:=KQ d2 d7 d0 d0 d1
def k1n:=KQ d3 d7 d0 d0 d1
def k1o:=KQ d4 d7 d0 d0 d1
def k1p:=KQ d5 d7 d0 d0 d1
def k1q:=KQ d6 d7 d0 d0 d1
def k1r:=KQ d7 d7 d0 d0 d1
def k1s:=KQ d0 d0 d1 d0 d1
def k1t:=KQ d1 d0 d1 d0 d1
def k1u:=KQ d2 d0 d1 d0 d1
def k1v:=KQ d3 d0 d1 d0 d1
def k1w:=KQ d4 d0 d1 d0 d1
def k1x:=KQ d5 d0 d1 d0 d1
def k1y:=KQ d6 d0 d1 d0 d1
def k1z:=KQ d7 d0 d1 d0 d1
def k20:=KQ d0 d1 d1 d0 d1
def k21:=KQ d1 d1 d1 d0 d1
def k22:=KQ d2 d1 d1 d0 d1
def k23:=KQ d3 d1 d1 d0 d1
def k24:=KQ d4 d1 d1 d0 d1
def k25:=KQ d5 d1 d1 d0 d1
def k26:=KQ d6 d1 d1 d0 d1
def k27:=KQ d7 d1 d1 d0 d1
def k28:=KQ d0 d2 d1 d0 d1
def k29:=KQ d1 d2 d1 d0 d1
def k2a:=KQ d2 d2 d1 d0 d1
def k2b:=KQ d3 d2 d1 d0 d1
def k2c:=KQ d4 d2 d1 d0 d1
def k2d:=KQ d5 d2 d1 d0 d1
def k2e:=KQ d6 d2 d1 d0 d1
def k2f:=KQ d7 d2 d1 d0 d1
def k2g:=KQ d0 d3 d1 d0 d1
def k2h:=KQ d1 d3 d1 d0 d1
def k2i:=KQ d2 d3 d1 d0 d1
def k2j:=KQ d3 d3 d1 d0 d1
def k2k:=KQ d4 d3 d1 d0 d1
def k2l:=KQ d5 d3 d1 d0 d1
def k2m:=KQ d6 d3 d1 d0 d1
def k2n:=KQ d7 d3 d1 d0 d1
def k2o:=KQ d0 d4 d1 d0 d1
def k2p:=KQ d1 d4 d1 d0 d1
def k2q:=KQ d2 d4 d1 d0 d1
def k2r:=KQ d3 d4 d1 d0 d1
def k2s:=KQ d4 d4 d1 d0 d1
def k2t:=KQ d5 d4 d1 d0 d1
def k2u:=KQ d6 d4 d1 d0 d1
def k2v:=KQ d7 d4 d1 d0 d1
def k2w:=KQ d0 d5 d1 d0 d1
def k2x:=KQ d1 d5 d1 d0 d1
def k2y:=KQ d2 d5 d1 d0 d1
def k2z:=KQ d3 d5 d1 d0 d1
def k30:=KQ d4 d5 d1 d0 d1
def k31:=KQ d5 d5 d1 d0 d1
def k32:=KQ d6 d5 d1 d0 d1
def k33:=KQ d7 d5 d1 d0 d1
def k34:=KQ d0 d6 d1 d0 d1
def cl (i o:Int) (p q:AV) (f g n m:Int) (d:AV):List AV:=[.ptr k0 0,.agg [.int .i64 6,.str 0 0,.str 0 0,.str 0 0,.nilSlice,.int .i64 i,.int .i64 o,p,q,.int .i64 f,.int .i64 g,.int .i64 n,.int .i64 m,d]]
def an (s n k m:Int) (d ns:AV):AV:=.tup [.agg [.int .i64 0,.int .i64 0,.int .i64 0,.str 0 0,.nilSlice,.nilSlice,.int .i64 s,.int .i64 n,.int .i64 k,.int .i64 m,d,ns,.int .i64 0,.int .i64 0],.int .i64 0]
def S0 (x0 x1:Key) (y0 y1:AV):Key × AObj:=(x0,.cells 88 [.slice x1 0 4194304 (.is 4194304),.bool false,.bool false,y0,y1] false 0)
def S1 (x0 x1 x2 x3 x4:Key) (y0 y1:AV):Key × AObj:=(x0,.cells 174 [.ptr x1 0,.ptr x2 0,.ptr x3 0,y0,.nilPtr,.nilPtr,.nilPtr,.nilPtr,.nilPtr,.nilPtr,.nilPtr,.nilPtr,.slice x4 0 16384 (.is 16384),y1,.bool false] false 0)
def S2 (x0:Key):Key × AObj:=(x0,.map [] 0)
def S3 (x0:Key) (y0:AV):Key × AObj:=(x0,.cells 3 [y0] true 0)
def S4 (x0:Key):Key × AObj:=(x0,.cells 278 [.ustr 256,.bool false,.int .i64 0,.bool true] false 0)
def S5 (x0 x1 x2 x3 x4 x5 x6 x7:Key) (y0:AV):Key × AObj:=(x0,.cells 66 [.ptr x1 0,.ptr x2 0,.ptr x3 0,.ptr x4 0,.map x5,.map x6,y0,.bool false,.slice x7 0 1 (.more 5)] false 0)
def S6 (x0 x1 x2:Key):Key × AObj:=(x0,.cells 141 [.slice x1 0 1 (.more 4),.slice x2 0 1 (.more 4)] true 0)
def S7 (x0 x1:Key) (y0 y1 y2:AV):Key × AObj:=(x0,.cells 143 [.slice x1 0 1 (.more 4),y0,y1,y2,.nilSlice] false 0)
def S8 (x0:Key):Key × AObj:=(x0,.cells 195 [.str 1 100,.int .i64 1,.int .i64 493,.str 0 0] true 0)
def S9 (x0:Key):Key × AObj:=(x0,.cells 195 [.str 1 100,.int .i64 4,.int .i64 0,.str 0 0] true 0)
def Sa (x0:Key):Key × AObj:=(x0,.cells 278 [.ustr 256,.bool false,.int .i64 0,.bool false] false 0)
def Sb (x0 x1 x2:Key) (y0 y1 y2 y3 y4 y5 y6:AV):Key × AObj:=(x0,.cells 273 [y0,y1,y2,.ptr x1 0,y3,.nilMap,.nilSlice,.nilSlice,.slice x2 0 1 (.is 1),y4,y5,y6] false 0)
def Sc (x0:Key) (y0:AV):Key × AObj:=(x0,.cells 3 [y0] false 0)
def Sd (x0:Key):Key × AObj:=(x0,.cells 3 [.int .i64 50] false 0)
def Se (x0:Key):Key × AObj:=(x0,.cells 3 [.int .i64 52] false 0)
def Sf (x0 x1 x2:Key):Key × AObj:=(x0,.cells 327 [.ptr x1 0,.ptr x2 0,.nilPtr,.nilPtr,.nilPtr,.nilPtr,.nilPtr,.nilPtr,.nilPtr,.nilPtr,.int .i64 0] false 0)
def Sg (x0:Key):Key × AObj:=(x0,.lmap [])
def Sh (x0:Key):Key × AObj:=(x0,.cells 3 [.int .i64 51] false 0)
def Si (x0:Key) (y0 y1 y2 y3 y4 y5:AV):Key × AObj:=(x0,.map [(y0,.agg [y1,y2],0),(y3,.agg [y4,y5],1)] 2)
def Sj (x0 x1 x2:Key):Key × AObj:=(x0,.cells 273 [.int .i64 2,.int .i64 63,.str 5 435744240755,.ptr x1 0,.int .i64 2,.nilMap,.nilSlice,.nilSlice,.slice x2 0 1 (.is 1),.int .i64 0,.int .i64 0,.int .i64 0] false 0)
def Sk (x0:Key):Key × AObj:=(x0,.bits 4 16384 42784196460019711)
def Sl (x0 x1 x2 x3 x4 x5:Key):Key × AObj:=(x0,.cells 169 [.ptr x1 0,.ptr x2 0,.ptr x3 0,.ptr x4 0,.ptr x5 0] true 0)
def Sm (x0 x1 x2:Key):Key × AObj:=(x0,.cells 273 [.int .i64 2,.int .i64 63,.str 5 435744240755,.ptr x1 0,.int .i64 0,.nilMap,.nilSlice,.nilSlice,.slice x2 0 1 (.is 1),.int .i64 0,.int .i64 0,.int .i64 0] false 0)
def Sn (x0:Key):Key × AObj:=(x0,.cells 3 [.int .i64 55] false 0)
def So (x0 x1 x2:Key):Key × AObj:=(x0,.cells 327 [.ptr x1 0,.ptr x2 0,.nilPtr,.nilPtr,.nilPtr,.nilPtr,.nilPtr,.nilPtr,.nilPtr,.nilPtr,.int .i64 1] false 0)
def Sp (x0 x1:Key):Key × AObj:=(x0,.lmap [(.str 1 100,.ptr x1 0)])
def Sq (x0 x1 x2:Key):Key × AObj:=(x0,.cells 389 [.int .i64 1,.int .i64 420,.str 0 0,.map x1,.ptr x2 0,.str 1 100] false 0)
def Sr (x0:Key):Key × AObj:=(x0,.bits 4 16384 22517998136852479)
def Ss (x0:Key):Key × AObj:=(x0,.cells 3 [.int .i64 54] false 0)
def St (x0 x1 x2:Key):Key × AObj:=(x0,.cells 327 [.ptr x1 0,.ptr x2 0,.nilPtr,.nilPtr,.nilPtr,.nilPtr,.nilPtr,.nilPtr,.nilPtr,.nilPtr,.int .i64 2] false 0)
def Su (x0:Key):Key × AObj:=(x0,.bits 4 16384 43910096366862335)
def Sv (x0 x1 x2:Key):Key × AObj:=(x0,.cells 273 [.int .i64 2,.int .i64 63,.str 5 435744240755,.ptr x1 0,.int .i64 1,.nilMap,.nilSlice,.nilSlice,.slice x2 0 1 (.is 1),.int .i64 0,.int .i64 0,.int .i64 0] false 0)
def Sw (x0 x1 x2:Key) (y0 y1 y2 y3:AV):Key × AObj:=(x0,.cells 389 [y0,y1,y2,.map x1,.ptr x2 0,y3] false 0)
def Sx (x0:Key):Key × AObj:=(x0,.bits 4 16384 24769797950537727)
def Sy (x0 x1 x2 x3 x4 x5 x6 x7:Key):Key × AObj:=(x0,.cells 66 [.ptr x1 0,.ptr x2 0,.ptr x3 0,.ptr x4 0,.map x5,.map x6,.int .i64 8,.bool false,.slice x7 0 1 (.more 5)] false 0)
def Sz (x0 x1:Key):Key × AObj:=(x0,.cells 88 [.slice x1 0 4194304 (.is 4194304),.bool false,.bool false,.int .i64 (-312),.int .i64 312] false 0)
def S10 (x0:Key):Key × AObj:=(x0,.map [] 94)
def S11 (x0 x1 x2:Key):Key × AObj:=(x0,.lmap [(.str 2 13167,.ptr x1 0),(.str 2 13935,.ptr x2 0)])
def S12 (x0 x1 x2:Key):Key × AObj:=(x0,.cells 389 [.int .i64 1,.int .i64 0,.str 0 0,.map x1,.ptr x2 0,.str 2 13935] false 0)
def S13 (x0 x1 x2:Key):Key × AObj:=(x0,.cells 327 [.ptr x1 0,.ptr x2 0,.nilPtr,.nilPtr,.nilPtr,.nilPtr,.nilPtr,.nilPtr,.nilPtr,.nilPtr,.int .i64 3] false 0)
def S14 (x0 x1 x2 x3 x4 x5 x6 x7:Key):Key × AObj:=(x0,.cells 66 [.ptr x1 0,.ptr x2 0,.ptr x3 0,.ptr x4 0,.map x5,.map x6,.int .i64 10,.bool false,.slice x7 0 1 (.more 5)] false 0)
def S15 (x0 x1:Key):Key × AObj:=(x0,.cells 88 [.slice x1 0 4194304 (.is 4194304),.bool false,.bool false,.int .i64 (-372),.int .i64 372] false 0)
def S16 (x0:Key):Key × AObj:=(x0,.bits 4 16384 25895697857380351)
def S17 (x0:Key):Key × AObj:=(x0,.map [] 112)
def S18 (x0 x1 x2 x3:Key) (y0 y1 y2:AV):Key × AObj:=(x0,.map [(y0,.ptr x1 0,26),(y1,.ptr x2 0,29),(y2,.ptr x3 0,31)] 32)
def S19 (x0 x1 x2 x3:Key):Key × AObj:=(x0,.lmap [(.str 2 13167,.ptr x1 0),(.str 2 13935,.ptr x2 0),(.str 2 14703,.ptr x3 0)])
def S1a (x0 x1 x2:Key):Key × AObj:=(x0,.cells 389 [.int .i64 1,.int .i64 0,.str 0 0,.map x1,.ptr x2 0,.str 2 14703] false 0)
def S1b (x0 x1 x2 x3 x4 x5 x6 x7:Key):Key × AObj:=(x0,.cells 66 [.ptr x1 0,.ptr x2 0,.ptr x3 0,.ptr x4 0,.map x5,.map x6,.int .i64 11,.bool false,.slice x7 0 1 (.more 5)] false 0)
def S1c (x0 x1:Key):Key × AObj:=(x0,.cells 88 [.slice x1 0 4194304 (.is 4194304),.bool false,.bool false,.int .i64 (-402),.int .i64 402] false 0)
def S1d (x0:Key):Key × AObj:=(x0,.bits 4 16384 40532396646334463)
def S1e (x0:Key):Key × AObj:=(x0,.map [] 121)
def S1f (x0 x1 x2:Key):Key × AObj:=(x0,.cells 327 [.ptr x1 0,.ptr x2 0,.nilPtr,.nilPtr,.nilPtr,.nilPtr,.nilPtr,.nilPtr,.nilPtr,.nilPtr,.int .i64 4] false 0)
def S1g (x0 x1 x2 x3 x4 x5 x6 x7:Key):Key × AObj:=(x0,.cells 66 [.ptr x1 0,.ptr x2 0,.ptr x3 0,.ptr x4 0,.map x5,.map x6,.int .i64 12,.bool false,.slice x7 0 1 (.more 5)] false 0)
def S1h (x0 x1:Key):Key × AObj:=(x0,.cells 88 [.slice x1 0 4194304 (.is 4194304),.bool false,.bool false,.int .i64 (-432),.int .i64 432] false 0)
def S1i (x0:Key):Key × AObj:=(x0,.map [] 130)
def S1j (x0 x1 x2 x3 x4 x5 x6 x7:Key):Key × AObj:=(x0,.cells 66 [.ptr x1 0,.ptr x2 0,.ptr x3 0,.ptr x4 0,.map x5,.map x6,.int .i64 13,.bool false,.slice x7 0 1 (.more 5)] false 0)
def S1k (x0 x1:Key):Key × AObj:=(x0,.cells 88 [.slice x1 0 4194304 (.is 4194304),.bool false,.bool false,.int .i64 (-462),.int .i64 462] false 0)
def S1l (x0:Key):Key × AObj:=(x0,.map [(.int .i64 1,.agg [.str 12 14909942882012283808127726898,.int .i64 12],0),(.int .i64 2,.agg [.str 12 14909942882012283808127726898,.int .i64 13],1)] 2)
def S1m (x0:Key):Key × AObj:=(x0,.map [] 139)
def S1n (x0 x1 x2 x3:Key):Key × AObj:=(x0,.map [(.str 7 13560492478771573,.ptr x1 0,35),(.str 7 13560496773739125,.ptr x2 0,38),(.str 5 435744240755,.ptr x3 0,40)] 41)
def S1o (x0 x1 x2 x3 x4:Key):Key × AObj:=(x0,.lmap [(.str 2 13167,.ptr x1 0),(.str 2 13935,.ptr x2 0),(.str 2 14703,.ptr x3 0),(.str 3 3289455,.ptr x4 0)])
def S1p (x0 x1 x2:Key):Key × AObj:=(x0,.cells 389 [.int .i64 1,.int .i64 0,.str 0 0,.map x1,.ptr x2 0,.str 3 3289455] false 0)
def S1q (x0 x1 x2 x3 x4 x5 x6 x7:Key):Key × AObj:=(x0,.cells 66 [.ptr x1 0,.ptr x2 0,.ptr x3 0,.ptr x4 0,.map x5,.map x6,.int .i64 14,.bool false,.slice x7 0 1 (.more 5)] false 0)
def S1r (x0 x1:Key):Key × AObj:=(x0,.cells 88 [.slice x1 0 4194304 (.is 4194304),.bool false,.bool false,.int .i64 (-492),.int .i64 492] false 0)
def S1s (x0:Key):Key × AObj:=(x0,.map [(.int .i64 1,.agg [.str 12 14909942882012283808127726898,.int .i64 14],0),(.int .i64 2,.agg [.str 12 14909942882012283808127726898,.int .i64 13],1)] 2)
def S1t (x0:Key):Key × AObj:=(x0,.map [] 148)
def S1u (x0 x1 x2 x3:Key):Key × AObj:=(x0,.map [(.str 7 13560496773739125,.ptr x1 0,38),(.str 7 13560501068706165,.ptr x2 0,41),(.str 5 435744240755,.ptr x3 0,43)] 44)
def S1v (x0 x1 x2 x3 x4 x5 x6 x7:Key):Key × AObj:=(x0,.cells 66 [.ptr x1 0,.ptr x2 0,.ptr x3 0,.ptr x4 0,.map x5,.map x6,.int .i64 15,.bool false,.slice x7 0 1 (.more 5)] false 0)
def S1w (x0 x1:Key):Key × AObj:=(x0,.cells 88 [.slice x1 0 4194304 (.is 4194304),.bool false,.bool false,.int .i64 (-522),.int .i64 522] false 0)
def S1x (x0:Key):Key × AObj:=(x0,.map [(.int .i64 1,.agg [.str 12 14909942882012283808127726898,.int .i64 14],0),(.int .i64 2,.agg [.str 12 14909942882012283808127726898,.int .i64 15],1)] 2)
def S1y (x0:Key):Key × AObj:=(x0,.map [] 157)
def S1z (x0 x1 x2 x3:Key):Key × AObj:=(x0,.map [(.str 7 13560501068706165,.ptr x1 0,41),(.str 7 13560505363673717,.ptr x2 0,44),(.str 5 435744240755,.ptr x3 0,46)] 47)
def S20 (x0 x1 x2:Key):Key × AObj:=(x0,.cells 327 [.ptr x1 0,.ptr x2 0,.nilPtr,.nilPtr,.nilPtr,.nilPtr,.nilPtr,.nilPtr,.nilPtr,.nilPtr,.int .i64 5] false 0)
def S21 (x0 x1 x2 x3 x4 x5:Key):Key × AObj:=(x0,.lmap [(.str 2 13167,.ptr x1 0),(.str 2 13935,.ptr x2 0),(.str 2 14703,.ptr x3 0),(.str 3 3289455,.ptr x4 0),(.str 3 3486063,.ptr x5 0)])
def S22 (x0 x1 x2:Key):Key × AObj:=(x0,.cells 389 [.int .i64 1,.int .i64 0,.str 0 0,.map x1,.ptr x2 0,.str 3 3486063] false 0)
def S23 (x0 x1 x2 x3 x4 x5 x6 x7:Key):Key × AObj:=(x0,.cells 66 [.ptr x1 0,.ptr x2 0,.ptr x3 0,.ptr x4 0,.map x5,.map x6,.int .i64 16,.bool false,.slice x7 0 1 (.more 5)] false 0)
def S24 (x0 x1:Key):Key × AObj:=(x0,.cells 88 [.slice x1 0 4194304 (.is 4194304),.bool false,.bool false,.int .i64 (-552),.int .i64 552] false 0)
def S25 (x0:Key):Key × AObj:=(x0,.map [] 166)
def S26 (x0 x1 x2 x3:Key) (y0 y1 y2:AV):Key × AObj:=(x0,.map [(y0,.ptr x1 0,44),(y1,.ptr x2 0,47),(y2,.ptr x3 0,49)] 50)
def S27 (x0 x1 x2 x3 x4 x5 x6 x7:Key):Key × AObj:=(x0,.cells 66 [.ptr x1 0,.ptr x2 0,.ptr x3 0,.ptr x4 0,.map x5,.map x6,.int .i64 17,.bool false,.slice x7 0 1 (.more 5)] false 0)
def S28 (x0 x1:Key):Key × AObj:=(x0,.cells 88 [.slice x1 0 4194304 (.is 4194304),.bool false,.bool false,.int .i64 (-582),.int .i64 582] false 0)
def S29 (x0:Key):Key × AObj:=(x0,.map [] 175)
def S2a (x0 x1 x2 x3 x4 x5 x6 x7:Key):Key × AObj:=(x0,.cells 66 [.ptr x1 0,.ptr x2 0,.ptr x3 0,.ptr x4 0,.map x5,.map x6,.int .i64 18,.bool false,.slice x7 0 1 (.more 5)] false 0)
def S2b (x0 x1:Key):Key × AObj:=(x0,.cells 88 [.slice x1 0 4194304 (.is 4194304),.bool false,.bool false,.int .i64 (-612),.int .i64 612] false 0)
def S2c (x0:Key):Key × AObj:=(x0,.map [] 184)
def S2d (x0 x1 x2 x3:Key) (y0 y1 y2:AV):Key × AObj:=(x0,.map [(y0,.ptr x1 0,50),(y1,.ptr x2 0,53),(y2,.ptr x3 0,55)] 56)
def S2e (x0 x1 x2:Key):Key × AObj:=(x0,.cells 327 [.ptr x1 0,.ptr x2 0,.nilPtr,.nilPtr,.nilPtr,.nilPtr,.nilPtr,.nilPtr,.nilPtr,.nilPtr,.int .i64 6] false 0)
def S2f (x0 x1 x2 x3 x4 x5 x6:Key):Key × AObj:=(x0,.lmap [(.str 2 13167,.ptr x1 0),(.str 2 13935,.ptr x2 0),(.str 2 14703,.ptr x3 0),(.str 3 3289455,.ptr x4 0),(.str 3 3486063,.ptr x5 0),(.str 3 3682671,.ptr x6 0)])
def S2g (x0 x1 x2:Key):Key × AObj:=(x0,.cells 389 [.int .i64 1,.int .i64 0,.str 0 0,.map x1,.ptr x2 0,.str 3 3682671] false 0)
def S2h (x0 x1 x2 x3:Key) (y0 y1 y2:AV):Key × AObj:=(x0,.map [(y0,.ptr x1 0,47),(y1,.ptr x2 0,50),(y2,.ptr x3 0,52)] 53)
def S2i (x0 x1 x2 x3 x4 x5 x6 x7:Key):Key × AObj:=(x0,.cells 66 [.ptr x1 0,.ptr x2 0,.ptr x3 0,.ptr x4 0,.map x5,.map x6,.int .i64 19,.bool false,.slice x7 0 1 (.more 5)] false 0)
def S2j (x0 x1:Key):Key × AObj:=(x0,.cells 88 [.slice x1 0 4194304 (.is 4194304),.bool false,.bool false,.int .i64 (-642),.int .i64 642] false 0)
def S2k (x0:Key):Key × AObj:=(x0,.map [] 193)
def S2l (x0 x1 x2 x3:Key) (y0 y1 y2:AV):Key × AObj:=(x0,.map [(y0,.ptr x1 0,53),(y1,.ptr x2 0,56),(y2,.ptr x3 0,58)] 59)
def S2m (x0 x1 x2 x3 x4 x5 x6 x7:Key):Key × AObj:=(x0,.cells 66 [.ptr x1 0,.ptr x2 0,.ptr x3 0,.ptr x4 0,.map x5,.map x6,.int .i64 20,.bool false,.slice x7 0 1 (.more 5)] false 0)
def S2n (x0 x1:Key):Key × AObj:=(x0,.cells 88 [.slice x1 0 4194304 (.is 4194304),.bool false,.bool false,.int .i64 (-672),.int .i64 672] false 0)
def S2o (x0:Key):Key × AObj:=(x0,.map [] 202)
def S2p (x0 x1 x2 x3:Key) (y0 y1 y2:AV):Key × AObj:=(x0,.map [(y0,.ptr x1 0,56),(y1,.ptr x2 0,59),(y2,.ptr x3 0,61)] 62)
def S2q (x0 x1 x2:Key):Key × AObj:=(x0,.cells 327 [.ptr x1 0,.ptr x2 0,.nilPtr,.nilPtr,.nilPtr,.nilPtr,.nilPtr,.nilPtr,.nilPtr,.nilPtr,.int .i64 7] false 0)
def S2r (x0 x1 x2 x3 x4 x5 x6 x7:Key):Key × AObj:=(x0,.lmap [(.str 2 13167,.ptr x1 0),(.str 2 13935,.ptr x2 0),(.str 2 14703,.ptr x3 0),(.str 3 3224175,.ptr x4 0),(.str 3 3289455,.ptr x5 0),(.str 3 3486063,.ptr x6 0),(.str 3 3682671,.ptr x7 0)])
def S2s (x0 x1 x2:Key):Key × AObj:=(x0,.cells 389 [.int .i64 1,.int .i64 0,.str 0 0,.map x1,.ptr x2 0,.str 3 3224175] false 0)
def S2t (x0 x1 x2 x3 x4 x5 x6 x7:Key):Key × AObj:=(x0,.cells 66 [.ptr x1 0,.ptr x2 0,.ptr x3 0,.ptr x4 0,.map x5,.map x6,.int .i64 21,.bool false,.slice x7 0 1 (.more 5)] false 0)
def S2u (x0 x1:Key):Key × AObj:=(x0,.cells 88 [.slice x1 0 4194304 (.is 4194304),.bool false,.bool false,.int .i64 (-702),.int .i64 702] false 0)
def S2v (x0:Key):Key × AObj:=(x0,.map [] 211)
def S2w (x0 x1 x2 x3:Key) (y0 y1 y2:AV):Key × AObj:=(x0,.map [(y0,.ptr x1 0,59),(y1,.ptr x2 0,62),(y2,.ptr x3 0,64)] 65)
def S2x (x0 x1 x2:Key):Key × AObj:=(x0,.cells 327 [.ptr x1 0,.ptr x2 0,.nilPtr,.nilPtr,.nilPtr,.nilPtr,.nilPtr,.nilPtr,.nilPtr,.nilPtr,.int .i64 8] false 0)
def S2y (x0 x1 x2:Key) (y0:AV):Key × AObj:=(x0,.cells 327 [.ptr x1 0,.ptr x2 0,.nilPtr,.nilPtr,.nilPtr,.nilPtr,.nilPtr,.nilPtr,.nilPtr,.nilPtr,y0] false 0)
def Z0:List AV:=cl 1 12 (.str 4 1680827439) (.str 0 0) 0 0 0 0 (.str 0 0)
def Z1:List AV:=cl 1 11 (.str 2 25647) (.str 0 0) 0 0 0 0 (.str 0 0)
def Z2:List AV:=cl 1 12 (.str 2 25647) (.str 0 0) 0 0 0 0 (.str 0 0)
def Z3:List AV:=cl 2 6 (.str 2 13935) (.str 0 0) 0 0 0 0 (.str 0 0)
def Z4:List AV:=cl 1 3 (.str 1 47) (.str 0 0) 0 0 0 0 (.str 0 0)
def Z5:List AV:=cl 1 12 (.str 1 47) (.str 0 0) 0 0 0 0 (.str 0 0)
def Z6:List AV:=cl 1 12 (.str 6 110154707067951) (.str 0 0) 0 0 0 0 (.str 0 0)
def Z7:List AV:=cl 1 11 (.str 4 1680827439) (.str 0 0) 0 0 0 0 (.str 0 0)
def Z8:List AV:=cl 2 6 (.str 2 14703) (.str 0 0) 0 0 0 0 (.str 0 0)
def Z9:List AV:=cl 1 12 (.str 8 7219098882405262383) (.str 0 0) 0 0 0 0 (.str 0 0)
def Za:List AV:=cl 1 11 (.str 6 110154707067951) (.str 0 0) 0 0 0 0 (.str 0 0)
def Zb:List AV:=cl 2 6 (.str 3 3289455) (.str 0 0) 0 0 0 0 (.str 0 0)
def Zc:List AV:=cl 2 6 (.str 3 3486063) (.str 0 0) 0 0 0 0 (.str 0 0)
def Zd:List AV:=cl 1 12 (.str 10 473110864357311275557935) (.str 0 0) 0 0 0 0 (.str 0 0)
def Ze:List AV:=cl 1 11 (.str 8 7219098882405262383) (.str 0 0) 0 0 0 0 (.str 0 0)
def Zf:List AV:=cl 2 6 (.str 3 3682671) (.str 0 0) 0 0 0 0 (.str 0 0)
def Zg:List AV:=cl 1 12 (.str 12 31005793606520751754964853807) (.str 0 0) 0 0 0 0 (.str 0 0)
def Zh:List AV:=cl 1 11 (.str 10 473110864357311275557935) (.str 0 0) 0 0 0 0 (.str 0 0)
def Zi:List AV:=cl 2 6 (.str 3 3224175) (.str 0 0) 0 0 0 0 (.str 0 0)
def Zj:List AV:=cl 1 12 (.str 14 2031995689796943987013376659121199) (.str 0 0) 0 0 0 0 (.str 0 0)
def Zk:List AV:=cl 1 11 (.str 12 31005793606520751754964853807) (.str 0 0) 0 0 0 0 (.str 0 0)
def Zl:List AV:=cl 2 6 (.str 3 3420783) (.str 0 0) 0 0 0 0 (.str 0 0)
def Zm:List AV:=cl 2 6 (.str 3 3617391) (.str 0 0) 0 0 0 0 (.str 0 0)
def Zn:AV:=an 0 0 0 0 (.str 0 0) .nilSlice
def Zo:AV:=an 4 0 0 0 (.str 0 0) .nilSlice
def Zp:AV:=an 5 0 0 0 (.str 0 0) .nilSlice
def Zq:AV:=an 6 0 0 0 (.str 0 0) .nilSlice
def Zr:List (Key × AObj):=[(ke,.dead),(k2f,.dead),(k1i,.dead)]
def Zs:List (Key × AObj):=[(ke,.dead),(k2a,.dead),(k1i,.dead)]
def Zt:List (Key × AObj):=[(ke,.dead),(k1x,.dead),(k1i,.dead)]
def Zu:List (Key × AObj):=[(ke,.dead),(k2b,.dead)]
def Zv:List (Key × AObj):=[(ke,.dead),(k1x,.dead),(k1i,.dead),(k2b,.dead)]
def Zw:List (Key × AObj):=[(ke,.dead),(k2a,.dead),(k1i,.dead),(k2b,.dead)]
def Zx:List (Key × AObj):=[(ke,.dead),(k2f,.dead),(k1i,.dead),(k2b,.dead)]
def Zy:List Key:=[k5,k6,k1i,k1l]
def Zz:List Key:=[k2a,k2c,k0,k1,ka,km,ku,k1e]
def Z10:List Key:=[k1x,k1z,k0,k1,ka,km,ku,k1e]
def Z11:List Key:=[k2f,k2g,k0,k1,ka,km,ku,k1e]
def Z12:Key × AObj:=Sf k1r k1u k1u
def Z13:Key × AObj:=Sh k1z
def Z14:Key × AObj:=Sj k1i kr k1l
def Z15:Key × AObj:=Sd k2c
def Z16:Key × AObj:=Sl k1e k1i k2a k2f k1i k1i
def Z17:Key × AObj:=Sm k1i kr k1l
def Z18:Key × AObj:=Sn k1l
def Z19:Key × AObj:=So k1r k1u k1u
def Z1a:Key × AObj:=Se k2g
def Z1b:Key × AObj:=Sl k1e k1x k2a k1i k1i k1i
def Z1c:Key × AObj:=Ss k1l
def Z1d:Key × AObj:=St k1r k1u k1u
def Z1e:Key × AObj:=Sl k1e k1x k1i k2f k1i k1i
def Z1f:Key × AObj:=Sv k1i kr k1l
def Z1g:Key × AObj:=S5 k0 k1 k2 k3 k4 k5 k6 kv (.int .i64 7)
def Z1h:Key × AObj:=S0 k1 k7 (.int .i64 (-282)) (.int .i64 282)
def Z1i:Key × AObj:=Si k6 (.int .i64 1) (.str 12 14909942882012283808127726898) (.int .i64 7) (.int .i64 2) (.str 12 14909942882012283808127726898) (.int .i64 5)
def Z1j:Key × AObj:=Sy k0 k1 k2 k3 k4 k5 k6 kv
def Z1k:Key × AObj:=S13 k1r k1u k1u
def Z1l:Key × AObj:=S5 k0 k1 k2 k3 k4 k5 k6 kv (.int .i64 9)
def Z1m:Key × AObj:=S0 k1 k7 (.int .i64 (-342)) (.int .i64 342)
def Z1n:Key × AObj:=S14 k0 k1 k2 k3 k4 k5 k6 kv
def Z1o:Key × AObj:=S16 ka
def Z1p:Key × AObj:=S13 k24 k27 k27
def Z1q:Key × AObj:=S1b k0 k1 k2 k3 k4 k5 k6 kv
def Z1r:Key × AObj:=S1d ka
def Z1s:Key × AObj:=S1f k1r k1u k1u
def Z1t:Key × AObj:=Si k6 (.int .i64 1) (.str 12 14909942882012283808127726898) (.int .i64 10) (.int .i64 2) (.str 12 14909942882012283808127726898) (.int .i64 9)
def Z1u:Key × AObj:=S18 ku k1x k2f k1i (.str 6 52970790924917) (.str 7 13560483888836981) (.str 5 435744240755)
def Z1v:Key × AObj:=S1g k0 k1 k2 k3 k4 k5 k6 kv
def Z1w:Key × AObj:=S1j k0 k1 k2 k3 k4 k5 k6 kv
def Z1x:Key × AObj:=S1f k24 k27 k27
def Z1y:Key × AObj:=S1q k0 k1 k2 k3 k4 k5 k6 kv
def Z1z:Key × AObj:=S1v k0 k1 k2 k3 k4 k5 k6 kv
def Z20:Key × AObj:=S20 k24 k27 k27
def Z21:Key × AObj:=S20 k1r k1u k1u
def Z22:Key × AObj:=S23 k0 k1 k2 k3 k4 k5 k6 kv
def Z23:Key × AObj:=Si k6 (.int .i64 1) (.str 12 14909942882012283808127726898) (.int .i64 16) (.int .i64 2) (.str 12 14909942882012283808127726898) (.int .i64 15)
def Z24:Key × AObj:=S27 k0 k1 k2 k3 k4 k5 k6 kv
def Z25:Key × AObj:=S2a k0 k1 k2 k3 k4 k5 k6 kv
def Z26:Key × AObj:=Si k6 (.int .i64 1) (.str 12 14909942882012283808127726898) (.int .i64 17) (.int .i64 2) (.str 12 14909942882012283808127726898) (.int .i64 18)
def Z27:Key × AObj:=S2e k24 k27 k27
def Z28:Key × AObj:=S2i k0 k1 k2 k3 k4 k5 k6 kv
def Z29:Key × AObj:=S2m k0 k1 k2 k3 k4 k5 k6 kv
def Z2a:Key × AObj:=S2t k0 k1 k2 k3 k4 k5 k6 kv
def Z2b:Key × AObj:=S5 k0 k1 k2 k3 k4 k5 k6 kv (.int .i64 22)
def Z2c:Key × AObj:=S0 k1 k7 (.int .i64 (-732)) (.int .i64 732)
def Z2d:Key × AObj:=S5 k0 k1 k2 k3 k4 k5 k6 kv (.int .i64 23)
def Z2e:Key × AObj:=S0 k1 k7 (.int .i64 (-762)) (.int .i64 762)
def Z2f:Key × AObj:=S5 k0 k1 k2 k3 k4 k5 k6 kv (.int .i64 24)
def Z2g:Key × AObj:=S0 k1 k7 (.int .i64 (-792)) (.int .i64 792)
def Z2h:Key × AObj:=S5 k0 k1 k2 k3 k4 k5 k6 kv (.int .i64 25)
def Z2i:Key × AObj:=S0 k1 k7 (.int .i64 (-822)) (.int .i64 822)
def s0:RT AObj:=updS [(k0,.cells 66 [.ptr k1 0,.ptr k2 0,.ptr k3 0,.ptr k4 0,.map k5,.map k6,.int .i64 0,.bool false,.nilSlice] false 0),S0 k1 k7 (.int .i64 (-16)) (.int .i64 16),S1 k2 k1 k8 k9 ka (.int .i64 3) (.int .i64 16338),(k3,.cells 138 [.ptr kb 0,.ptr k2 0,.map kc] false 0),(k4,.cells 117 [.map kd,.map ke,.func (.func 64) [.ptr k0 0] [],.int .i64 0] false 0),S2 k5,S2 k6,(k7,.bytes 5 4194304),(k8,.cells 268 [.ptr kf 0,.int .i64 512,.map kg,.slice kh 0 2 (.more 1)] false 0),(k9,.cells 273 [.int .i64 1,.int .i64 0,.str 0 0,.nilPtr,.int .i64 0,.map ki,.slice kj 0 3 (.more 1),.slice kk 0 1 (.more 1),.nilSlice,.int .i64 0,.int .i64 0,.int .i64 0] false 0),(ka,.bits 4 16384 70368744177663),(kb,.cells 254 [.ptr k2 0,.map kl] false 0),S2 kc,S2 kd,S2 ke,(kf,.cells 151 [.ptr k1 0,.int .i64 1,.int .i64 44,.map km,.bool false] false 0),(kg,.map [(.int .i64 0,.ptr kn 0,0),(.int .i64 45,.ptr ko 0,1)] 2),(kh,.cells 3 [.int .i64 0,.int .i64 45] true 0),(ki,.map [(.str 5 495572708450,.ptr kp 0,0),(.str 6 126935165919596,.ptr kq 0,1),(.str 5 491328597876,.ptr kr 0,2)] 3),(kj,.cells 169 [.ptr kp 0,.ptr kq 0,.ptr kr 0] true 0),S3 kk (.int .i64 45),S2 kl,(km,.map [] 4),S4 kn,S4 ko,(kp,.cells 273 [.int .i64 1,.int .i64 0,.str 5 495572708450,.ptr k9 0,.int .i64 0,.map ks,.nilSlice,.nilSlice,.nilSlice,.int .i64 0,.int .i64 0,.int .i64 0] false 0),(kq,.cells 273 [.int .i64 1,.int .i64 0,.str 6 126935165919596,.ptr k9 0,.int .i64 1,.map kt,.nilSlice,.nilSlice,.nilSlice,.int .i64 0,.int .i64 0,.int .i64 0] false 0),(kr,.cells 273 [.int .i64 1,.int .i64 0,.str 5 491328597876,.ptr k9 0,.int .i64 2,.map ku,.nilSlice,.nilSlice,.nilSlice,.int .i64 0,.int .i64 0,.int .i64 0] false 0),S2 ks,S2 kt,S2 ku] RT.nil
def s1:RT AObj:=updS [S5 k0 k1 k2 k3 k4 k5 k6 kv (.int .i64 0),S0 k1 k7 (.int .i64 (-72)) (.int .i64 72),S1 k2 k1 k8 k9 ka (.int .i64 6) (.int .i64 16333),(k5,.map [(.str 1 116,.str 12 14909942882012283808127726898,0)] 1),(k8,.cells 268 [.ptr kf 0,.int .i64 512,.map kg,.slice kh 0 7 (.more 1)] false 0),(ka,.bits 4 16384 2251799813685247),(kc,.map [(.str 12 14909952252669478796797554994,.ptr ky 0,0),(.str 12 14909942882012283808127726898,.ptr kz 0,1)] 2),(kd,.map [(.str 1 116,.agg [.slice k10 0 2 (.more 1)],0)] 1),(kg,.map [(.int .i64 0,.ptr kn 0,0),(.int .i64 45,.ptr ko 0,1),(.int .i64 46,.ptr k13 0,2),(.int .i64 47,.ptr k14 0,3),(.int .i64 48,.ptr k15 0,4),(.int .i64 49,.ptr k16 0,5),(.int .i64 50,.ptr k17 0,6)] 7),(kh,.cells 3 [.int .i64 0,.int .i64 45,.int .i64 46,.int .i64 47,.int .i64 48,.int .i64 49,.int .i64 50] true 0),(km,.map [] 22),(kq,.cells 273 [.int .i64 1,.int .i64 0,.str 6 126935165919596,.ptr k9 0,.int .i64 1,.map kt,.slice k1c 0 2 (.more 1),.slice k1d 0 1 (.more 1),.nilSlice,.int .i64 0,.int .i64 0,.int .i64 0] false 0),(kr,.cells 273 [.int .i64 1,.int .i64 0,.str 5 491328597876,.ptr k9 0,.int .i64 2,.map ku,.slice k1e 0 1 (.more 1),.slice k1f 0 1 (.more 1),.nilSlice,.int .i64 0,.int .i64 0,.int .i64 0] false 0),(kt,.map [(.str 12 14909952252669478796797554994,.ptr k1g 0,1),(.str 12 14909942882012283808127726898,.ptr k1h 0,3)] 4),(ku,.map [(.str 5 435744240755,.ptr k1i 0,1)] 2),(kv,.cells 199 [.str 31 104481335786327267040345892488766287127177228565394820989683512661121135206,.nilSlice,.int .i64 20000,.map kw,.slice kx 0 2 (.more 1)] true 0),S2 kw,S6 kx k11 k12,S7 ky k18 (.str 0 0) (.int .i64 0) (.int .i64 1),S7 kz k19 (.str 12 14909952252669478796797554994) (.int .i64 1) (.int .i64 0),S6 k10 k1a k1b,S8 k11,S9 k12,S4 k13,S4 k14,Sa k15,S4 k16,Sa k17,S8 k18,S9 k19,S8 k1a,S9 k1b,(k1c,.cells 169 [.ptr k1g 0,.ptr k1h 0] true 0),S3 k1d (.int .i64 46),(k1e,.cells 169 [.ptr k1i 0] true 0),S3 k1f (.int .i64 49),Sb k1g kq k1j (.int .i64 2) (.int .i64 12) (.str 12 14909952252669478796797554994) (.int .i64 0) (.int .i64 0) (.int .i64 0) (.int .i64 0),Sb k1h kq k1k (.int .i64 2) (.int .i64 24) (.str 12 14909942882012283808127726898) (.int .i64 1) (.int .i64 0) (.int .i64 0) (.int .i64 0),Sb k1i kr k1l (.int .i64 2) (.int .i64 19) (.str 5 435744240755) (.int .i64 0) (.int .i64 0) (.int .i64 0) (.int .i64 0),Sc k1j (.int .i64 47),Sc k1k (.int .i64 48),Sd k1l] s0
def s2:RT AObj:=updS [S5 k0 k1 k2 k3 k4 k5 k6 kv (.int .i64 1),S0 k1 k7 (.int .i64 (-102)) (.int .i64 102),S1 k2 k1 k8 k9 ka (.int .i64 7) (.int .i64 16332),(k6,.map [(.int .i64 1,.agg [.str 12 14909942882012283808127726898,.int .i64 1],0)] 1),(k8,.cells 268 [.ptr kf 0,.int .i64 512,.map kg,.slice kh 0 9 (.more 1)] false 0),(ka,.bits 4 16384 7881299347898367),(ke,.map [(.int .i64 1,.ptr k1m 0,0)] 1),(kg,.map [(.int .i64 0,.ptr kn 0,0),(.int .i64 45,.ptr ko 0,1),(.int .i64 46,.ptr k13 0,2),(.int .i64 47,.ptr k14 0,3),(.int .i64 48,.ptr k15 0,4),(.int .i64 49,.ptr k16 0,5),(.int .i64 50,.ptr k17 0,6),(.int .i64 51,.ptr k1n 0,7),(.int .i64 52,.ptr k1o 0,8)] 9),(kh,.cells 3 [.int .i64 0,.int .i64 45,.int .i64 46,.int .i64 47,.int .i64 48,.int .i64 49,.int .i64 50,.int .i64 51,.int .i64 52] true 0),(km,.map [] 31),(kr,.cells 273 [.int .i64 1,.int .i64 0,.str 5 491328597876,.ptr k9 0,.int .i64 2,.map ku,.slice k1e 0 2 (.more 1),.slice k1f 0 1 (.more 1),.nilSlice,.int .i64 0,.int .i64 0,.int .i64 0] false 0),(ku,.map [(.str 6 52970656706933,.ptr k1x 0,2),(.str 5 435744240755,.ptr k1i 0,4)] 5),S7 kz k19 (.str 12 14909952252669478796797554994) (.int .i64 2) (.int .i64 0),S4 k15,(k1e,.cells 169 [.ptr k1x 0,.ptr k1i 0,.ptr k1i 0] true 0),Sb k1i kr k1l (.int .i64 2) (.int .i64 41) (.str 5 435744240755) (.int .i64 1) (.int .i64 0) (.int .i64 0) (.int .i64 0),Se k1l,(k1m,.cells 211 [.ptr k1p 0,.ptr k1q 0,.ptr k1r 0,.slice k1s 0 2 (.more 1),.nilSlice] false 0),Sa k1n,Sa k1o,(k1p,.cells 321 [.slice k1t 0 1 (.more 4),.int .i64 0,.int .i64 20000,.int .i64 0,.nilSlice,.bool false,.str 0 0,.float .f64 0,.bool false,.str 0 0,.float .f64 0,.bool false,.str 0 0,.float .f64 0,.bool false,.str 0 0,.float .f64 0,.bool false,.str 0 0,.float .f64 0,.bool false,.str 0 0,.float .f64 0,.bool false,.str 0 0,.float .f64 0,.bool false,.str 0 0,.float .f64 0,.bool false,.str 0 0,.float .f64 0,.bool false,.str 0 0,.float .f64 0,.bool false,.str 0 0,.float .f64 0,.bool false,.str 0 0,.float .f64 0,.bool false,.str 0 0,.float .f64 0,.bool false,.str 0 0,.float .f64 0,.bool false,.str 0 0,.float .f64 0,.bool false,.str 0 0,.float .f64 0,.bool false,.str 0 0,.float .f64 0,.bool false,.str 0 0,.float .f64 0,.bool false,.str 0 0,.float .f64 0,.bool false,.str 0 0,.float .f64 0,.bool false,.str 0 0,.float .f64 0,.bool false,.str 0 0,.float .f64 0,.bool false,.str 0 0,.float .f64 0,.bool false,.str 0 0,.float .f64 0,.bool false,.str 0 0,.float .f64 0,.bool false,.str 0 0,.float .f64 0,.bool false,.str 0 0,.float .f64 0,.bool false,.str 0 0,.float .f64 0,.bool false,.str 0 0,.float .f64 0,.bool false,.str 0 0,.float .f64 0,.bool false,.str 0 0,.float .f64 0,.bool false,.str 0 0,.float .f64 0,.bool false,.str 0 0,.float .f64 0,.bool false,.str 0 0,.float .f64 0,.bool false,.str 0 0,.float .f64 0,.bool false,.str 0 0,.float .f64 0,.bool false,.str 0 0,.float .f64 0,.bool false,.str 0 0,.float .f64 0,.bool false,.str 0 0,.float .f64 0,.bool false,.str 0 0,.float .f64 0,.bool false,.str 0 0,.float .f64 0,.bool false,.str 0 0,.float .f64 0,.bool false,.str 0 0,.float .f64 0,.bool false,.str 0 0,.float .f64 0,.bool false,.str 0 0,.float .f64 0,.bool false,.str 0 0,.float .f64 0,.bool false,.str 0 0,.float .f64 0,.bool false,.str 0 0,.float .f64 0,.bool false,.str 0 0,.float .f64 0,.bool false,.str 0 0,.float .f64 0,.bool false,.str 0 0,.float .f64 0,.bool false,.str 0 0,.float .f64 0,.bool false,.str 0 0,.float .f64 0,.bool false,.str 0 0,.float .f64 0,.bool false,.str 0 0,.float .f64 0,.bool false,.str 0 0,.float .f64 0,.bool false,.str 0 0,.float .f64 0,.bool false,.str 0 0,.float .f64 0,.bool false,.str 0 0,.float .f64 0,.bool false,.str 0 0,.float .f64 0,.bool false,.str 0 0,.float .f64 0,.bool false,.str 0 0,.float .f64 0,.bool false,.str 0 0,.float .f64 0,.bool false,.str 0 0,.float .f64 0,.int .i64 0,.int .i64 0,.str 0 0,.str 0 0,.int .i64 0,.int .i64 0,.int .i64 0,.int .i64 0,.str 0 0,.str 0 0,.int .i64 0,.str 0 0] false 0),(k1q,.cells 311 [.nilSlice] false 0),Z12,S6 k1s k1v k1w,(k1t,.cells 354 [.int .i64 0,.int .i64 0,.float .f64 0,.str 0 0] true 0),(k1u,.cells 389 [.int .i64 1,.int .i64 493,.str 0 0,.map k1y,.nilPtr,.str 0 0] false 0),S8 k1v,S9 k1w,Sb k1x kr k1z (.int .i64 2) (.int .i64 3) (.str 6 52970656706933) (.int .i64 0) (.int .i64 0) (.int .i64 0) (.int .i64 0),Sg k1y,Z13] s1
def s3:RT AObj:=updS [S5 k0 k1 k2 k3 k4 k5 k6 kv (.int .i64 2),S0 k1 k7 (.int .i64 (-132)) (.int .i64 132),S1 k2 k1 k8 k9 ka (.int .i64 8) (.int .i64 16331),Si k6 (.int .i64 1) (.str 12 14909942882012283808127726898) (.int .i64 1) (.int .i64 2) (.str 12 14909942882012283808127726898) (.int .i64 2),(k8,.cells 268 [.ptr kf 0,.int .i64 512,.map kg,.slice kh 0 10 (.more 1)] false 0),(ka,.bits 4 16384 13510798882111487),(ke,.lmap [(.int .i64 1,.ptr k1m 0),(.int .i64 2,.ptr k20 0)]),(kg,.map [(.int .i64 0,.ptr kn 0,0),(.int .i64 45,.ptr ko 0,1),(.int .i64 46,.ptr k13 0,2),(.int .i64 47,.ptr k14 0,3),(.int .i64 48,.ptr k15 0,4),(.int .i64 49,.ptr k16 0,5),(.int .i64 50,.ptr k17 0,6),(.int .i64 51,.ptr k1n 0,7),(.int .i64 52,.ptr k1o 0,8),(.int .i64 53,.ptr k21 0,9)] 10),(kh,.cells 3 [.int .i64 0,.int .i64 45,.int .i64 46,.int .i64 47,.int .i64 48,.int .i64 49,.int .i64 50,.int .i64 51,.int .i64 52,.int .i64 53] true 0),(km,.map [] 40),(kr,.cells 273 [.int .i64 1,.int .i64 0,.str 5 491328597876,.ptr k9 0,.int .i64 2,.map ku,.slice k1e 0 3 (.more 1),.slice k1f 0 1 (.more 1),.nilSlice,.int .i64 0,.int .i64 0,.int .i64 0] false 0),(ku,.map [(.str 6 52970656706933,.ptr k1x 0,2),(.str 6 52970673484405,.ptr k2a 0,5),(.str 5 435744240755,.ptr k1i 0,7)] 8),S7 kz k19 (.str 12 14909952252669478796797554994) (.int .i64 3) (.int .i64 0),S4 k17,(k1e,.cells 169 [.ptr k1x 0,.ptr k2a 0,.ptr k1i 0,.ptr k1i 0] true 0),Z14,Sc k1l (.int .i64 53),(k20,.cells 211 [.ptr k22 0,.ptr k23 0,.ptr k24 0,.slice k25 0 2 (.more 1),.nilSlice] false 0),Sa k21,(k22,.cells 321 [.slice k26 0 1 (.more 4),.int .i64 0,.int .i64 20000,.int .i64 0,.nilSlice,.bool false,.str 0 0,.float .f64 0,.bool false,.str 0 0,.float .f64 0,.bool false,.str 0 0,.float .f64 0,.bool false,.str 0 0,.float .f64 0,.bool false,.str 0 0,.float .f64 0,.bool false,.str 0 0,.float .f64 0,.bool false,.str 0 0,.float .f64 0,.bool false,.str 0 0,.float .f64 0,.bool false,.str 0 0,.float .f64 0,.bool false,.str 0 0,.float .f64 0,.bool false,.str 0 0,.float .f64 0,.bool false,.str 0 0,.float .f64 0,.bool false,.str 0 0,.float .f64 0,.bool false,.str 0 0,.float .f64 0,.bool false,.str 0 0,.float .f64 0,.bool false,.str 0 0,.float .f64 0,.bool false,.str 0 0,.float .f64 0,.bool false,.str 0 0,.float .f64 0,.bool false,.str 0 0,.float .f64 0,.bool false,.str 0 0,.float .f64 0,.bool false,.str 0 0,.float .f64 0,.bool false,.str 0 0,.float .f64 0,.bool false,.str 0 0,.float .f64 0,.bool false,.str 0 0,.float .f64 0,.bool false,.str 0 0,.float .f64 0,.bool false,.str 0 0,.float .f64 0,.bool false,.str 0 0,.float .f64 0,.bool false,.str 0 0,.float .f64 0,.bool false,.str 0 0,.float .f64 0,.bool false,.str 0 0,.float .f64 0,.bool false,.str 0 0,.float .f64 0,.bool false,.str 0 0,.float .f64 0,.bool false,.str 0 0,.float .f64 0,.bool false,.str 0 0,.float .f64 0,.bool false,.str 0 0,.float .f64 0,.bool false,.str 0 0,.float .f64 0,.bool false,.str 0 0,.float .f64 0,.bool false,.str 0 0,.float .f64 0,.bool false,.str 0 0,.float .f64 0,.bool false,.str 0 0,.float .f64 0,.bool false,.str 0 0,.float .f64 0,.bool false,.str 0 0,.float .f64 0,.bool false,.str 0 0,.float .f64 0,.bool false,.str 0 0,.float .f64 0,.bool false,.str 0 0,.float .f64 0,.bool false,.str 0 0,.float .f64 0,.bool false,.str 0 0,.float .f64 0,.bool false,.str 0 0,.float .f64 0,.bool false,.str 0 0,.float .f64 0,.bool false,.str 0 0,.float .f64 0,.bool false,.str 0 0,.float .f64 0,.bool false,.str 0 0,.float .f64 0,.bool false,.str 0 0,.float .f64 0,.bool false,.str 0 0,.float .f64 0,.bool false,.str 0 0,.float .f64 0,.bool false,.str 0 0,.float .f64 0,.bool false,.str 0 0,.float .f64 0,.bool false,.str 0 0,.float .f64 0,.bool false,.str 0 0,.float .f64 0,.bool false,.str 0 0,.float .f64 0,.bool false,.str 0 0,.float .f64 0,.bool false,.str 0 0,.float .f64 0,.bool false,.str 0 0,.float .f64 0,.bool false,.str 0 0,.float .f64 0,.int .i64 0,.int .i64 0,.str 0 0,.str 0 0,.int .i64 0,.int .i64 0,.int .i64 0,.int .i64 0,.str 0 0,.str 0 0,.int .i64 0,.str 0 0] false 0),(k23,.cells 311 [.nilSlice] false 0),Sf k24 k27 k27,S6 k25 k28 k29,(k26,.cells 354 [.int .i64 0,.int .i64 0,.float .f64 0,.str 0 0] true 0),(k27,.cells 389 [.int .i64 1,.int .i64 493,.str 0 0,.map k2b,.nilPtr,.str 0 0] false 0),S8 k28,S9 k29,Sb k2a kr k2c (.int .i64 2) (.int .i64 3) (.str 6 52970673484405) (.int .i64 1) (.int .i64 0) (.int .i64 0) (.int .i64 0),Sg k2b,Z15] s2
def s4:RT AObj:=updS [S5 k0 k1 k2 k3 k4 k5 k6 kv (.int .i64 3),S0 k1 k7 (.int .i64 (-162)) (.int .i64 162),Si k6 (.int .i64 1) (.str 12 14909942882012283808127726898) (.int .i64 3) (.int .i64 2) (.str 12 14909942882012283808127726898) (.int .i64 2),(k8,.cells 268 [.ptr kf 0,.int .i64 512,.map kg,.slice kh 0 12 (.more 1)] false 0),Sk ka,(kg,.map [(.int .i64 0,.ptr kn 0,0),(.int .i64 45,.ptr ko 0,1),(.int .i64 46,.ptr k13 0,2),(.int .i64 47,.ptr k14 0,3),(.int .i64 48,.ptr k15 0,4),(.int .i64 49,.ptr k16 0,5),(.int .i64 50,.ptr k17 0,6),(.int .i64 51,.ptr k1n 0,7),(.int .i64 52,.ptr k1o 0,8),(.int .i64 53,.ptr k21 0,9),(.int .i64 54,.ptr k2d 0,10),(.int .i64 55,.ptr k2e 0,11)] 12),(kh,.cells 3 [.int .i64 0,.int .i64 45,.int .i64 46,.int .i64 47,.int .i64 48,.int .i64 49,.int .i64 50,.int .i64 51,.int .i64 52,.int .i64 53,.int .i64 54,.int .i64 55] true 0),(km,.map [] 49),(ku,.map [(.str 6 52970673484405,.ptr k2a 0,5),(.str 6 52970690261365,.ptr k2f 0,8),(.str 5 435744240755,.ptr k1i 0,10)] 11),Z16,(k1f,.cells 3 [.int .i64 49,.int .i64 54] true 0),Z17,Z18,S4 k1o,Z19,Sp k1y k2h,S4 k2d,Sa k2e,Sb k2f kr k2g (.int .i64 2) (.int .i64 11) (.str 6 52970690261365) (.int .i64 2) (.int .i64 0) (.int .i64 0) (.int .i64 0),Z1a,Sq k2h k2i k1u,Sg k2i] s3
def s5:RT AObj:=updS [S5 k0 k1 k2 k3 k4 k5 k6 kv (.int .i64 4),S0 k1 k7 (.int .i64 (-192)) (.int .i64 192),Si k6 (.int .i64 1) (.str 12 14909942882012283808127726898) (.int .i64 4) (.int .i64 2) (.str 12 14909942882012283808127726898) (.int .i64 2),Sr ka,(km,.map [] 58),(ku,.map [(.str 6 52970673484405,.ptr k2a 0,5),(.str 6 52970707038581,.ptr k1x 0,11),(.str 5 435744240755,.ptr k1i 0,13)] 14),Z1b,(k1f,.cells 3 [.int .i64 49,.int .i64 53] true 0),Z14,Z1c,S4 k1n,Z1d,Sb k1x kr k1z (.int .i64 2) (.int .i64 21) (.str 6 52970707038581) (.int .i64 0) (.int .i64 0) (.int .i64 0) (.int .i64 0),Z13,S4 k21,Sp k2i k2j,Sq k2j k2k k2h,Sg k2k] s4
def s6:RT AObj:=updS [S5 k0 k1 k2 k3 k4 k5 k6 kv (.int .i64 5),S0 k1 k7 (.int .i64 (-222)) (.int .i64 222),Si k6 (.int .i64 1) (.str 12 14909942882012283808127726898) (.int .i64 4) (.int .i64 2) (.str 12 14909942882012283808127726898) (.int .i64 5),Su ka,(km,.map [] 67),(ku,.map [(.str 6 52970707038581,.ptr k1x 0,11),(.str 6 52970723816053,.ptr k2f 0,14),(.str 5 435744240755,.ptr k1i 0,16)] 17),Z1e,Z1f,Z18,So k24 k27 k27,(k2b,.lmap [(.str 2 13167,.ptr k2l 0)]),S4 k2e,Sb k2f kr k2g (.int .i64 2) (.int .i64 12) (.str 6 52970723816053) (.int .i64 2) (.int .i64 0) (.int .i64 0) (.int .i64 0),Z1a,Sw k2l k2m k27 (.int .i64 1) (.int .i64 0) (.str 0 0) (.str 2 13167),Sg k2m] s5
def s7:RT AObj:=updS [S5 k0 k1 k2 k3 k4 k5 k6 kv (.int .i64 6),S0 k1 k7 (.int .i64 (-252)) (.int .i64 252),Si k6 (.int .i64 1) (.str 12 14909942882012283808127726898) (.int .i64 6) (.int .i64 2) (.str 12 14909942882012283808127726898) (.int .i64 5),Sx ka,(km,.map [] 76),(ku,.map [(.str 6 52970723816053,.ptr k2f 0,14),(.str 6 52970740593013,.ptr k2a 0,17),(.str 5 435744240755,.ptr k1i 0,19)] 20),Z16,Z17,Z1c,Z19,Sb k2a kr k2c (.int .i64 2) (.int .i64 11) (.str 6 52970740593013) (.int .i64 1) (.int .i64 0) (.int .i64 0) (.int .i64 0),Z15,Sg k2i] s6
def s8:RT AObj:=updS [Z1g,Z1h,Z1i,Su ka,(km,.map [] 85),(ku,.map [(.str 6 52970723816053,.ptr k2f 0,14),(.str 6 52970757370229,.ptr k1x 0,20),(.str 5 435744240755,.ptr k1i 0,22)] 23),Z1e,Z1f,Z18,Z12,Sb k1x kr k1z (.int .i64 2) (.int .i64 3) (.str 6 52970757370229) (.int .i64 0) (.int .i64 0) (.int .i64 0) (.int .i64 0),Sg k1y,Z13] s7
def s9:RT AObj:=updS [Z1j,Sz k1 k7,Si k6 (.int .i64 1) (.str 12 14909942882012283808127726898) (.int .i64 7) (.int .i64 2) (.str 12 14909942882012283808127726898) (.int .i64 8),Sr ka,S10 km,(ku,.map [(.str 6 52970757370229,.ptr k1x 0,20),(.str 6 52970774147701,.ptr k2a 0,23),(.str 5 435744240755,.ptr k1i 0,25)] 26),Z1b,Z14,Z1c,St k24 k27 k27,Sb k2a kr k2c (.int .i64 2) (.int .i64 21) (.str 6 52970774147701) (.int .i64 1) (.int .i64 0) (.int .i64 0) (.int .i64 0),S11 k2b k2l k2h,Z15,S12 k2h k2i k27,Sg k2i] s8
def sa:RT AObj:=updS [S5 k0 k1 k2 k3 k4 k5 k6 kv (.int .i64 6),S0 k1 k7 (.int .i64 (-252)) (.int .i64 252),Si k6 (.int .i64 1) (.str 12 14909942882012283808127726898) (.int .i64 6) (.int .i64 2) (.str 12 14909942882012283808127726898) (.int .i64 5),Sx ka,(km,.map [] 76),(ku,.map [(.str 6 52970723816053,.ptr k2f 0,14),(.str 6 52970740593013,.ptr k2a 0,17),(.str 5 435744240755,.ptr k1i 0,19)] 20),Z16,Z17,Z1c,Z1k,Sb k2a kr k2c (.int .i64 2) (.int .i64 33) (.str 6 52970740593013) (.int .i64 1) (.int .i64 0) (.int .i64 0) (.int .i64 0),Z15,Sp k2k k2n,Sq k2n k2o k2j,Sg k2o] s6
def sb:RT AObj:=updS [Z1g,Z1h,Z1i,Su ka,(km,.map [] 85),(ku,.map [(.str 6 52970723816053,.ptr k2f 0,14),(.str 6 52970757370229,.ptr k1x 0,20),(.str 5 435744240755,.ptr k1i 0,22)] 23),Z1e,Z1f,Z18,Z1d,Sb k1x kr k1z (.int .i64 2) (.int .i64 21) (.str 6 52970757370229) (.int .i64 0) (.int .i64 0) (.int .i64 0) (.int .i64 0),Z13,Sg k2k] sa
def sc:RT AObj:=updS [Z1j,Sz k1 k7,Si k6 (.int .i64 1) (.str 12 14909942882012283808127726898) (.int .i64 7) (.int .i64 2) (.str 12 14909942882012283808127726898) (.int .i64 8),Sr ka,S10 km,(ku,.map [(.str 6 52970757370229,.ptr k1x 0,20),(.str 6 52970774147701,.ptr k2a 0,23),(.str 5 435744240755,.ptr k1i 0,25)] 26),Z1b,Z14,Z1c,St k24 k27 k27,Sb k2a kr k2c (.int .i64 2) (.int .i64 21) (.str 6 52970774147701) (.int .i64 1) (.int .i64 0) (.int .i64 0) (.int .i64 0),S11 k2b k2l k2n,Z15,S12 k2n k2o k27,Sg k2o] sb
def sd:RT AObj:=updS [Z1l,Z1m,Si k6 (.int .i64 1) (.str 12 14909942882012283808127726898) (.int .i64 9) (.int .i64 2) (.str 12 14909942882012283808127726898) (.int .i64 8),Sk ka,(km,.map [] 103),(ku,.map [(.str 6 52970774147701,.ptr k2a 0,23),(.str 6 52970790924661,.ptr k2f 0,26),(.str 5 435744240755,.ptr k1i 0,28)] 29),Z16,Z17,Z18,Z19,Sb k2f kr k2g (.int .i64 2) (.int .i64 11) (.str 6 52970790924661) (.int .i64 2) (.int .i64 0) (.int .i64 0) (.int .i64 0),Z1a,Sg k2i] sc
def se:RT AObj:=updS [Z1n,S15 k1 k7,Si k6 (.int .i64 1) (.str 12 14909942882012283808127726898) (.int .i64 9) (.int .i64 2) (.str 12 14909942882012283808127726898) (.int .i64 10),Z1o,S17 km,S18 ku k2f k1x k1i (.str 6 52970790924661) (.str 7 13560483888837237) (.str 5 435744240755),Z1e,Z1f,Z1c,Sb k1x kr k1z (.int .i64 2) (.int .i64 30) (.str 7 13560483888837237) (.int .i64 0) (.int .i64 0) (.int .i64 0) (.int .i64 0),Z13,Z1p,S19 k2b k2l k2n k2j,S1a k2j k2k k27,Sg k2k] sd
def sf:RT AObj:=updS [Z1q,S1c k1 k7,Si k6 (.int .i64 1) (.str 12 14909942882012283808127726898) (.int .i64 11) (.int .i64 2) (.str 12 14909942882012283808127726898) (.int .i64 10),Z1r,S1e km,(ku,.map [(.str 7 13560483888837237,.ptr k1x 0,29),(.str 7 13560488183804277,.ptr k2a 0,32),(.str 5 435744240755,.ptr k1i 0,34)] 35),Z1b,Z14,Z18,Z12,Sg k1y,Sb k2a kr k2c (.int .i64 2) (.int .i64 3) (.str 7 13560488183804277) (.int .i64 1) (.int .i64 0) (.int .i64 0) (.int .i64 0),Z15] se
def sg:RT AObj:=updS [Z1g,Z1h,Z1i,Su ka,(km,.map [] 85),(ku,.map [(.str 6 52970723816053,.ptr k2f 0,14),(.str 6 52970757370229,.ptr k1x 0,20),(.str 5 435744240755,.ptr k1i 0,22)] 23),Z1e,Z1f,Z18,Z1s,Sb k1x kr k1z (.int .i64 2) (.int .i64 47) (.str 6 52970757370229) (.int .i64 0) (.int .i64 0) (.int .i64 0) (.int .i64 0),Z13,Sp k2o k2p,Sq k2p k2q k2n,Sg k2q] sa
def sh:RT AObj:=updS [Z1j,Sz k1 k7,Si k6 (.int .i64 1) (.str 12 14909942882012283808127726898) (.int .i64 8) (.int .i64 2) (.str 12 14909942882012283808127726898) (.int .i64 5),Sx ka,S10 km,(ku,.map [(.str 6 52970723816053,.ptr k2f 0,14),(.str 6 52970774147445,.ptr k2a 0,23),(.str 5 435744240755,.ptr k1i 0,25)] 26),Z16,Z17,Z1c,Z1k,Sb k2a kr k2c (.int .i64 2) (.int .i64 33) (.str 6 52970774147445) (.int .i64 1) (.int .i64 0) (.int .i64 0) (.int .i64 0),Z15,Sg k2o] sg
def si:RT AObj:=updS [Z1l,Z1m,Si k6 (.int .i64 1) (.str 12 14909942882012283808127726898) (.int .i64 8) (.int .i64 2) (.str 12 14909942882012283808127726898) (.int .i64 9),Z1r,(km,.map [] 103),(ku,.map [(.str 6 52970774147445,.ptr k2a 0,23),(.str 6 52970790924917,.ptr k1x 0,26),(.str 5 435744240755,.ptr k1i 0,28)] 29),Z1b,Z14,Z18,Sb k1x kr k1z (.int .i64 2) (.int .i64 21) (.str 6 52970790924917) (.int .i64 0) (.int .i64 0) (.int .i64 0) (.int .i64 0),Z13,St k24 k27 k27,S11 k2b k2l k2p,S12 k2p k2q k27,Sg k2q] sh
def sj:RT AObj:=updS [Z1n,S15 k1 k7,Z1t,Z1o,S17 km,Z1u,Z1e,Z1f,Z1c,Z1d,Sb k2f kr k2g (.int .i64 2) (.int .i64 21) (.str 7 13560483888836981) (.int .i64 2) (.int .i64 0) (.int .i64 0) (.int .i64 0),Z1a,Sg k2k] si
def sk:RT AObj:=updS [Z1q,S1c k1 k7,Si k6 (.int .i64 1) (.str 12 14909942882012283808127726898) (.int .i64 10) (.int .i64 2) (.str 12 14909942882012283808127726898) (.int .i64 11),Sk ka,S1e km,(ku,.map [(.str 7 13560483888836981,.ptr k2f 0,29),(.str 7 13560488183804533,.ptr k2a 0,32),(.str 5 435744240755,.ptr k1i 0,34)] 35),Z16,Z17,Z18,Z1p,Sb k2a kr k2c (.int .i64 2) (.int .i64 30) (.str 7 13560488183804533) (.int .i64 1) (.int .i64 0) (.int .i64 0) (.int .i64 0),S19 k2b k2l k2p k2n,Z15,S1a k2n k2o k27,Sg k2o] sj
def sl:RT AObj:=updS [Z1v,S1h k1 k7,Si k6 (.int .i64 1) (.str 12 14909942882012283808127726898) (.int .i64 12) (.int .i64 2) (.str 12 14909942882012283808127726898) (.int .i64 11),Sr ka,S1i km,(ku,.map [(.str 7 13560488183804533,.ptr k2a 0,32),(.str 7 13560492478771573,.ptr k1x 0,35),(.str 5 435744240755,.ptr k1i 0,37)] 38),Z1b,Z14,Z1c,Z19,Sb k1x kr k1z (.int .i64 2) (.int .i64 11) (.str 7 13560492478771573) (.int .i64 0) (.int .i64 0) (.int .i64 0) (.int .i64 0),Z13,Sg k2i] sk
def sm:RT AObj:=updS [Z1w,S1k k1 k7,S1l k6,Su ka,S1m km,S1n ku k1x k2f k1i,Z1e,Z1f,Z18,Z1x,S1o k2b k2l k2p k2n k2j,Sb k2f kr k2g (.int .i64 2) (.int .i64 40) (.str 7 13560496773739125) (.int .i64 2) (.int .i64 0) (.int .i64 0) (.int .i64 0),Z1a,S1p k2j k2k k27,Sg k2k] sl
def sn:RT AObj:=updS [Z1y,S1r k1 k7,S1s k6,Sx ka,S1t km,S1u ku k2f k2a k1i,Z16,Z17,Z1c,Z12,Sg k1y,Sb k2a kr k2c (.int .i64 2) (.int .i64 3) (.str 7 13560501068706165) (.int .i64 1) (.int .i64 0) (.int .i64 0) (.int .i64 0),Z15] sm
def so:RT AObj:=updS [Z1z,S1w k1 k7,S1x k6,Z1r,S1y km,S1z ku k2a k1x k1i,Z1b,Z14,Z18,Sb k1x kr k1z (.int .i64 2) (.int .i64 50) (.str 7 13560505363673717) (.int .i64 0) (.int .i64 0) (.int .i64 0) (.int .i64 0),Z13,Z20,S21 k2b k2l k2p k2n k2j k2h,S22 k2h k2i k27,Sg k2i] sn
def sp:RT AObj:=updS [Z1j,Sz k1 k7,Si k6 (.int .i64 1) (.str 12 14909942882012283808127726898) (.int .i64 8) (.int .i64 2) (.str 12 14909942882012283808127726898) (.int .i64 5),Sx ka,S10 km,(ku,.map [(.str 6 52970723816053,.ptr k2f 0,14),(.str 6 52970774147445,.ptr k2a 0,23),(.str 5 435744240755,.ptr k1i 0,25)] 26),Z16,Z17,Z1c,Z21,Sb k2a kr k2c (.int .i64 2) (.int .i64 63) (.str 6 52970774147445) (.int .i64 1) (.int .i64 0) (.int .i64 0) (.int .i64 0),Z15,Sp k2q k2r,Sq k2r k2s k2p,Sg k2s] sg
def sq:RT AObj:=updS [Z1l,Z1m,Si k6 (.int .i64 1) (.str 12 14909942882012283808127726898) (.int .i64 8) (.int .i64 2) (.str 12 14909942882012283808127726898) (.int .i64 9),Z1r,(km,.map [] 103),(ku,.map [(.str 6 52970774147445,.ptr k2a 0,23),(.str 6 52970790924917,.ptr k1x 0,26),(.str 5 435744240755,.ptr k1i 0,28)] 29),Z1b,Z14,Z18,Sb k1x kr k1z (.int .i64 2) (.int .i64 21) (.str 6 52970790924917) (.int .i64 0) (.int .i64 0) (.int .i64 0) (.int .i64 0),Z13,St k24 k27 k27,S11 k2b k2l k2t,S12 k2t k2u k27,Sg k2u] sp
def sr:RT AObj:=updS [Z1n,S15 k1 k7,Z1t,Z1o,S17 km,Z1u,Z1e,Z1f,Z1c,Z1s,Sb k2f kr k2g (.int .i64 2) (.int .i64 47) (.str 7 13560483888836981) (.int .i64 2) (.int .i64 0) (.int .i64 0) (.int .i64 0),Z1a,Sg k2q] sq
def ss:RT AObj:=updS [Z1q,S1c k1 k7,Si k6 (.int .i64 1) (.str 12 14909942882012283808127726898) (.int .i64 10) (.int .i64 2) (.str 12 14909942882012283808127726898) (.int .i64 11),Sk ka,S1e km,(ku,.map [(.str 7 13560483888836981,.ptr k2f 0,29),(.str 7 13560488183804533,.ptr k2a 0,32),(.str 5 435744240755,.ptr k1i 0,34)] 35),Z16,Z17,Z18,Z1p,Sb k2a kr k2c (.int .i64 2) (.int .i64 30) (.str 7 13560488183804533) (.int .i64 1) (.int .i64 0) (.int .i64 0) (.int .i64 0),S19 k2b k2l k2t k2r,Z15,S1a k2r k2s k27,Sg k2s] sr
def st:RT AObj:=updS [Z1v,S1h k1 k7,Si k6 (.int .i64 1) (.str 12 14909942882012283808127726898) (.int .i64 12) (.int .i64 2) (.str 12 14909942882012283808127726898) (.int .i64 11),Sr ka,S1i km,(ku,.map [(.str 7 13560488183804533,.ptr k2a 0,32),(.str 7 13560492478771573,.ptr k1x 0,35),(.str 5 435744240755,.ptr k1i 0,37)] 38),Z1b,Z14,Z1c,Z1k,Sb k1x kr k1z (.int .i64 2) (.int .i64 33) (.str 7 13560492478771573) (.int .i64 0) (.int .i64 0) (.int .i64 0) (.int .i64 0),Z13,Sg k2o] ss
def su:RT AObj:=updS [Z1w,S1k k1 k7,S1l k6,Su ka,S1m km,S1n ku k1x k2f k1i,Z1e,Z1f,Z18,Z1x,S1o k2b k2l k2t k2r k2p,Sb k2f kr k2g (.int .i64 2) (.int .i64 40) (.str 7 13560496773739125) (.int .i64 2) (.int .i64 0) (.int .i64 0) (.int .i64 0),Z1a,S1p k2p k2q k27,Sg k2q] st
def sv:RT AObj:=updS [Z1y,S1r k1 k7,S1s k6,Sx ka,S1t km,S1u ku k2f k2a k1i,Z16,Z17,Z1c,Z1d,Sb k2a kr k2c (.int .i64 2) (.int .i64 21) (.str 7 13560501068706165) (.int .i64 1) (.int .i64 0) (.int .i64 0) (.int .i64 0),Z15,Sg k2k] su
def sw:RT AObj:=updS [Z1z,S1w k1 k7,S1x k6,Z1r,S1y km,S1z ku k2a k1x k1i,Z1b,Z14,Z18,Sb k1x kr k1z (.int .i64 2) (.int .i64 50) (.str 7 13560505363673717) (.int .i64 0) (.int .i64 0) (.int .i64 0) (.int .i64 0),Z13,Z20,S21 k2b k2l k2t k2r k2p k2n,S22 k2n k2o k27,Sg k2o] sv
def sx:RT AObj:=updS [Z22,S24 k1 k7,Z23,Z1o,S25 km,S26 ku k1x k2f k1i (.str 7 13560505363673717) (.str 7 13560509658640757) (.str 5 435744240755),Z1e,Z1f,Z1c,Z19,Sb k2f kr k2g (.int .i64 2) (.int .i64 11) (.str 7 13560509658640757) (.int .i64 2) (.int .i64 0) (.int .i64 0) (.int .i64 0),Z1a,Sg k2i] sw
def sy:RT AObj:=updS [Z24,S28 k1 k7,Si k6 (.int .i64 1) (.str 12 14909942882012283808127726898) (.int .i64 17) (.int .i64 2) (.str 12 14909942882012283808127726898) (.int .i64 15),Z1r,S29 km,(ku,.map [(.str 7 13560505363673717,.ptr k1x 0,44),(.str 7 13560513953608053,.ptr k2a 0,50),(.str 5 435744240755,.ptr k1i 0,52)] 53),Z1b,Z14,Z18,Z12,Sg k1y,Sb k2a kr k2c (.int .i64 2) (.int .i64 3) (.str 7 13560513953608053) (.int .i64 1) (.int .i64 0) (.int .i64 0) (.int .i64 0),Z15] sx
def sz:RT AObj:=updS [Z25,S2b k1 k7,Z26,Sx ka,S2c km,S2d ku k2a k2f k1i (.str 7 13560513953608053) (.str 7 13560518248575605) (.str 5 435744240755),Z16,Z17,Z1c,Z27,S2f k2b k2l k2t k2r k2p k2n k2h,Sb k2f kr k2g (.int .i64 2) (.int .i64 60) (.str 7 13560518248575605) (.int .i64 2) (.int .i64 0) (.int .i64 0) (.int .i64 0),Z1a,S2g k2h k2i k27,Sg k2i] sy
def s10:RT AObj:=updS [Z1n,S15 k1 k7,Z1t,Z1o,S17 km,Z1u,Z1e,Z1f,Z1c,S2e k1r k1u k1u,Sb k2f kr k2g (.int .i64 2) (.int .i64 81) (.str 7 13560483888836981) (.int .i64 2) (.int .i64 0) (.int .i64 0) (.int .i64 0),Z1a,Sp k2s k2v,Sq k2v k2w k2r,Sg k2w] sq
def s11:RT AObj:=updS [Z1q,S1c k1 k7,Si k6 (.int .i64 1) (.str 12 14909942882012283808127726898) (.int .i64 11) (.int .i64 2) (.str 12 14909942882012283808127726898) (.int .i64 9),Z1r,S1e km,(ku,.map [(.str 6 52970790924917,.ptr k1x 0,26),(.str 7 13560488183804277,.ptr k2a 0,32),(.str 5 435744240755,.ptr k1i 0,34)] 35),Z1b,Z14,Z18,Z21,Sb k2a kr k2c (.int .i64 2) (.int .i64 63) (.str 7 13560488183804277) (.int .i64 1) (.int .i64 0) (.int .i64 0) (.int .i64 0),Z15,Sg k2s] s10
def s12:RT AObj:=updS [Z1v,S1h k1 k7,Si k6 (.int .i64 1) (.str 12 14909942882012283808127726898) (.int .i64 11) (.int .i64 2) (.str 12 14909942882012283808127726898) (.int .i64 12),Sx ka,S1i km,(ku,.map [(.str 7 13560488183804277,.ptr k2a 0,32),(.str 7 13560492478771829,.ptr k2f 0,35),(.str 5 435744240755,.ptr k1i 0,37)] 38),Z16,Z17,Z1c,Z1p,S19 k2b k2l k2t k2v,Sb k2f kr k2g (.int .i64 2) (.int .i64 30) (.str 7 13560492478771829) (.int .i64 2) (.int .i64 0) (.int .i64 0) (.int .i64 0),Z1a,S1a k2v k2w k27,Sg k2w] s11
def s13:RT AObj:=updS [Z1w,S1k k1 k7,Si k6 (.int .i64 1) (.str 12 14909942882012283808127726898) (.int .i64 13) (.int .i64 2) (.str 12 14909942882012283808127726898) (.int .i64 12),Su ka,S1m km,(ku,.map [(.str 7 13560492478771829,.ptr k2f 0,35),(.str 7 13560496773738869,.ptr k1x 0,38),(.str 5 435744240755,.ptr k1i 0,40)] 41),Z1e,Z1f,Z18,Z1s,Sb k1x kr k1z (.int .i64 2) (.int .i64 47) (.str 7 13560496773738869) (.int .i64 0) (.int .i64 0) (.int .i64 0) (.int .i64 0),Z13,Sg k2q] s12
def s14:RT AObj:=updS [Z1y,S1r k1 k7,Si k6 (.int .i64 1) (.str 12 14909942882012283808127726898) (.int .i64 13) (.int .i64 2) (.str 12 14909942882012283808127726898) (.int .i64 14),Sr ka,S1t km,(ku,.map [(.str 7 13560496773738869,.ptr k1x 0,38),(.str 7 13560501068706421,.ptr k2a 0,41),(.str 5 435744240755,.ptr k1i 0,43)] 44),Z1b,Z14,Z1c,Z1x,Sb k2a kr k2c (.int .i64 2) (.int .i64 40) (.str 7 13560501068706421) (.int .i64 1) (.int .i64 0) (.int .i64 0) (.int .i64 0),S1o k2b k2l k2t k2v k2r,Z15,S1p k2r k2s k27,Sg k2s] s13
def s15:RT AObj:=updS [Z1z,S1w k1 k7,Si k6 (.int .i64 1) (.str 12 14909942882012283808127726898) (.int .i64 15) (.int .i64 2) (.str 12 14909942882012283808127726898) (.int .i64 14),Sk ka,S1y km,(ku,.map [(.str 7 13560501068706421,.ptr k2a 0,41),(.str 7 13560505363673461,.ptr k2f 0,44),(.str 5 435744240755,.ptr k1i 0,46)] 47),Z16,Z17,Z18,Z1k,Sb k2f kr k2g (.int .i64 2) (.int .i64 33) (.str 7 13560505363673461) (.int .i64 2) (.int .i64 0) (.int .i64 0) (.int .i64 0),Z1a,Sg k2o] s14
def s16:RT AObj:=updS [Z22,S24 k1 k7,Si k6 (.int .i64 1) (.str 12 14909942882012283808127726898) (.int .i64 15) (.int .i64 2) (.str 12 14909942882012283808127726898) (.int .i64 16),Z1o,S25 km,S26 ku k2f k1x k1i (.str 7 13560505363673461) (.str 7 13560509658641013) (.str 5 435744240755),Z1e,Z1f,Z1c,Sb k1x kr k1z (.int .i64 2) (.int .i64 50) (.str 7 13560509658641013) (.int .i64 0) (.int .i64 0) (.int .i64 0) (.int .i64 0),Z13,Z20,S21 k2b k2l k2t k2v k2r k2p,S22 k2p k2q k27,Sg k2q] s15
def s17:RT AObj:=updS [Z24,S28 k1 k7,Si k6 (.int .i64 1) (.str 12 14909942882012283808127726898) (.int .i64 17) (.int .i64 2) (.str 12 14909942882012283808127726898) (.int .i64 16),Z1r,S29 km,S2h ku k1x k2a k1i (.str 7 13560509658641013) (.str 7 13560513953608053) (.str 5 435744240755),Z1b,Z14,Z18,Z1d,Sb k2a kr k2c (.int .i64 2) (.int .i64 21) (.str 7 13560513953608053) (.int .i64 1) (.int .i64 0) (.int .i64 0) (.int .i64 0),Z15,Sg k2k] s16
def s18:RT AObj:=updS [Z25,S2b k1 k7,Z26,Sx ka,S2c km,S2d ku k2a k2f k1i (.str 7 13560513953608053) (.str 7 13560518248575605) (.str 5 435744240755),Z16,Z17,Z1c,Z27,S2f k2b k2l k2t k2v k2r k2p k2n,Sb k2f kr k2g (.int .i64 2) (.int .i64 60) (.str 7 13560518248575605) (.int .i64 2) (.int .i64 0) (.int .i64 0) (.int .i64 0),Z1a,S2g k2n k2o k27,Sg k2o] s17
def s19:RT AObj:=updS [Z28,S2j k1 k7,Si k6 (.int .i64 1) (.str 12 14909942882012283808127726898) (.int .i64 19) (.int .i64 2) (.str 12 14909942882012283808127726898) (.int .i64 18),Su ka,S2k km,S2l ku k2f k1x k1i (.str 7 13560518248575605) (.str 7 13560522543542645) (.str 5 435744240755),Z1e,Z1f,Z18,Z19,Sb k1x kr k1z (.int .i64 2) (.int .i64 11) (.str 7 13560522543542645) (.int .i64 0) (.int .i64 0) (.int .i64 0) (.int .i64 0),Z13,Sg k2i] s18
def s1a:RT AObj:=updS [Z29,S2n k1 k7,Si k6 (.int .i64 1) (.str 12 14909942882012283808127726898) (.int .i64 19) (.int .i64 2) (.str 12 14909942882012283808127726898) (.int .i64 20),Sr ka,S2o km,S2p ku k1x k2a k1i (.str 7 13560522543542645) (.str 7 13560483905614453) (.str 5 435744240755),Z1b,Z14,Z1c,S2q k24 k27 k27,Sb k2a kr k2c (.int .i64 2) (.int .i64 70) (.str 7 13560483905614453) (.int .i64 1) (.int .i64 0) (.int .i64 0) (.int .i64 0),S2r k2b k2l k2t k2v k2j k2r k2p k2n,Z15,S2s k2j k2k k27,Sg k2k] s19
def s1b:RT AObj:=updS [Z2a,S2u k1 k7,Si k6 (.int .i64 1) (.str 12 14909942882012283808127726898) (.int .i64 21) (.int .i64 2) (.str 12 14909942882012283808127726898) (.int .i64 20),Sk ka,S2v km,S2w ku k2a k2f k1i (.str 7 13560483905614453) (.str 7 13560488200581493) (.str 5 435744240755),Z16,Z17,Z18,Z12,Sg k1y,Sb k2f kr k2g (.int .i64 2) (.int .i64 3) (.str 7 13560488200581493) (.int .i64 2) (.int .i64 0) (.int .i64 0) (.int .i64 0),Z1a] s1a
def s1c:RT AObj:=updS [Z1q,S1c k1 k7,Si k6 (.int .i64 1) (.str 12 14909942882012283808127726898) (.int .i64 11) (.int .i64 2) (.str 12 14909942882012283808127726898) (.int .i64 9),Z1r,S1e km,(ku,.map [(.str 6 52970790924917,.ptr k1x 0,26),(.str 7 13560488183804277,.ptr k2a 0,32),(.str 5 435744240755,.ptr k1i 0,34)] 35),Z1b,Z14,Z18,S2q k1r k1u k1u,Sb k2a kr k2c (.int .i64 2) (.int .i64 101) (.str 7 13560488183804277) (.int .i64 1) (.int .i64 0) (.int .i64 0) (.int .i64 0),Z15,Sp k2w k2x,Sq k2x k2y k2v,Sg k2y] s10
def s1d:RT AObj:=updS [Z1v,S1h k1 k7,Si k6 (.int .i64 1) (.str 12 14909942882012283808127726898) (.int .i64 12) (.int .i64 2) (.str 12 14909942882012283808127726898) (.int .i64 9),Z1o,S1i km,(ku,.map [(.str 6 52970790924917,.ptr k1x 0,26),(.str 7 13560492478771573,.ptr k2f 0,35),(.str 5 435744240755,.ptr k1i 0,37)] 38),Z1e,Z1f,Z1c,S2e k1r k1u k1u,Sb k2f kr k2g (.int .i64 2) (.int .i64 81) (.str 7 13560492478771573) (.int .i64 2) (.int .i64 0) (.int .i64 0) (.int .i64 0),Z1a,Sg k2w] s1c
def s1e:RT AObj:=updS [Z1w,S1k k1 k7,S1l k6,Sk ka,S1m km,S1n ku k2f k2a k1i,Z16,Z17,Z18,Z1p,Sb k2a kr k2c (.int .i64 2) (.int .i64 30) (.str 7 13560496773739125) (.int .i64 1) (.int .i64 0) (.int .i64 0) (.int .i64 0),S19 k2b k2l k2t k2x,Z15,S1a k2x k2y k27,Sg k2y] s1d
def s1f:RT AObj:=updS [Z1y,S1r k1 k7,S1s k6,Sr ka,S1t km,S1u ku k2a k1x k1i,Z1b,Z14,Z1c,Z21,Sb k1x kr k1z (.int .i64 2) (.int .i64 63) (.str 7 13560501068706165) (.int .i64 0) (.int .i64 0) (.int .i64 0) (.int .i64 0),Z13,Sg k2s] s1e
def s1g:RT AObj:=updS [Z1z,S1w k1 k7,S1x k6,Su ka,S1y km,S1z ku k1x k2f k1i,Z1e,Z1f,Z18,Z1x,S1o k2b k2l k2t k2x k2v,Sb k2f kr k2g (.int .i64 2) (.int .i64 40) (.str 7 13560505363673717) (.int .i64 2) (.int .i64 0) (.int .i64 0) (.int .i64 0),Z1a,S1p k2v k2w k27,Sg k2w] s1f
def s1h:RT AObj:=updS [Z22,S24 k1 k7,Z23,Sx ka,S25 km,S26 ku k2f k2a k1i (.str 7 13560505363673717) (.str 7 13560509658640757) (.str 5 435744240755),Z16,Z17,Z1c,Z1s,Sb k2a kr k2c (.int .i64 2) (.int .i64 47) (.str 7 13560509658640757) (.int .i64 1) (.int .i64 0) (.int .i64 0) (.int .i64 0),Z15,Sg k2q] s1g
def s1i:RT AObj:=updS [Z24,S28 k1 k7,Si k6 (.int .i64 1) (.str 12 14909942882012283808127726898) (.int .i64 16) (.int .i64 2) (.str 12 14909942882012283808127726898) (.int .i64 17),Z1r,S29 km,S2h ku k2a k1x k1i (.str 7 13560509658640757) (.str 7 13560513953608309) (.str 5 435744240755),Z1b,Z14,Z18,Sb k1x kr k1z (.int .i64 2) (.int .i64 50) (.str 7 13560513953608309) (.int .i64 0) (.int .i64 0) (.int .i64 0) (.int .i64 0),Z13,Z20,S21 k2b k2l k2t k2x k2v k2r,S22 k2r k2s k27,Sg k2s] s1h
def s1j:RT AObj:=updS [Z25,S2b k1 k7,Si k6 (.int .i64 1) (.str 12 14909942882012283808127726898) (.int .i64 18) (.int .i64 2) (.str 12 14909942882012283808127726898) (.int .i64 17),Z1o,S2c km,S2d ku k1x k2f k1i (.str 7 13560513953608309) (.str 7 13560518248575349) (.str 5 435744240755),Z1e,Z1f,Z1c,Z1k,Sb k2f kr k2g (.int .i64 2) (.int .i64 33) (.str 7 13560518248575349) (.int .i64 2) (.int .i64 0) (.int .i64 0) (.int .i64 0),Z1a,Sg k2o] s1i
def s1k:RT AObj:=updS [Z28,S2j k1 k7,Si k6 (.int .i64 1) (.str 12 14909942882012283808127726898) (.int .i64 18) (.int .i64 2) (.str 12 14909942882012283808127726898) (.int .i64 19),Sk ka,S2k km,S2l ku k2f k2a k1i (.str 7 13560518248575349) (.str 7 13560522543542901) (.str 5 435744240755),Z16,Z17,Z18,Z27,Sb k2a kr k2c (.int .i64 2) (.int .i64 60) (.str 7 13560522543542901) (.int .i64 1) (.int .i64 0) (.int .i64 0) (.int .i64 0),S2f k2b k2l k2t k2x k2v k2r k2p,Z15,S2g k2p k2q k27,Sg k2q] s1j
def s1l:RT AObj:=updS [Z29,S2n k1 k7,Si k6 (.int .i64 1) (.str 12 14909942882012283808127726898) (.int .i64 20) (.int .i64 2) (.str 12 14909942882012283808127726898) (.int .i64 19),Sr ka,S2o km,S2p ku k2a k1x k1i (.str 7 13560522543542901) (.str 7 13560483905614197) (.str 5 435744240755),Z1b,Z14,Z1c,Z1d,Sb k1x kr k1z (.int .i64 2) (.int .i64 21) (.str 7 13560483905614197) (.int .i64 0) (.int .i64 0) (.int .i64 0) (.int .i64 0),Z13,Sg k2k] s1k
def s1m:RT AObj:=updS [Z2a,S2u k1 k7,Si k6 (.int .i64 1) (.str 12 14909942882012283808127726898) (.int .i64 20) (.int .i64 2) (.str 12 14909942882012283808127726898) (.int .i64 21),Su ka,S2v km,S2w ku k1x k2f k1i (.str 7 13560483905614197) (.str 7 13560488200581749) (.str 5 435744240755),Z1e,Z1f,Z18,S2q k24 k27 k27,S2r k2b k2l k2t k2x k2n k2v k2r k2p,Sb k2f kr k2g (.int .i64 2) (.int .i64 70) (.str 7 13560488200581749) (.int .i64 2) (.int .i64 0) (.int .i64 0) (.int .i64 0),Z1a,S2s k2n k2o k27,Sg k2o] s1l
def s1n:RT AObj:=updS [Z2b,Z2c,Si k6 (.int .i64 1) (.str 12 14909942882012283808127726898) (.int .i64 22) (.int .i64 2) (.str 12 14909942882012283808127726898) (.int .i64 21),Sx ka,(km,.map [] 220),(ku,.map [(.str 7 13560488200581749,.ptr k2f 0,62),(.str 7 13560492495548789,.ptr k2a 0,65),(.str 5 435744240755,.ptr k1i 0,67)] 68),Z16,Z17,Z1c,Z19,Sb k2a kr k2c (.int .i64 2) (.int .i64 11) (.str 7 13560492495548789) (.int .i64 1) (.int .i64 0) (.int .i64 0) (.int .i64 0),Z15,Sg k2i] s1m
def s1o:RT AObj:=updS [Z2d,Z2e,Si k6 (.int .i64 1) (.str 12 14909942882012283808127726898) (.int .i64 22) (.int .i64 2) (.str 12 14909942882012283808127726898) (.int .i64 23),Z1r,(km,.map [] 229),(ku,.map [(.str 7 13560492495548789,.ptr k2a 0,65),(.str 7 13560496790516341,.ptr k1x 0,68),(.str 5 435744240755,.ptr k1i 0,70)] 71),Z1b,Z14,Z18,Sb k1x kr k1z (.int .i64 2) (.int .i64 80) (.str 7 13560496790516341) (.int .i64 0) (.int .i64 0) (.int .i64 0) (.int .i64 0),Z13,S2x k24 k27 k27,(k2b,.lmap [(.str 2 13167,.ptr k2l 0),(.str 2 13935,.ptr k2t 0),(.str 2 14703,.ptr k2x 0),(.str 3 3224175,.ptr k2n 0),(.str 3 3289455,.ptr k2v 0),(.str 3 3420783,.ptr k2j 0),(.str 3 3486063,.ptr k2r 0),(.str 3 3682671,.ptr k2p 0)]),Sw k2j k2k k27 (.int .i64 1) (.int .i64 0) (.str 0 0) (.str 3 3420783),Sg k2k] s1n
def s1p:RT AObj:=updS [Z2f,Z2g,Si k6 (.int .i64 1) (.str 12 14909942882012283808127726898) (.int .i64 24) (.int .i64 2) (.str 12 14909942882012283808127726898) (.int .i64 23),Z1o,(km,.map [] 238),(ku,.map [(.str 7 13560496790516341,.ptr k1x 0,68),(.str 7 13560501085483381,.ptr k2f 0,71),(.str 5 435744240755,.ptr k1i 0,73)] 74),Z1e,Z1f,Z1c,Z12,Sg k1y,Sb k2f kr k2g (.int .i64 2) (.int .i64 3) (.str 7 13560501085483381) (.int .i64 2) (.int .i64 0) (.int .i64 0) (.int .i64 0),Z1a] s1o
def s1q:RT AObj:=updS [Z2h,Z2i,Si k6 (.int .i64 1) (.str 12 14909942882012283808127726898) (.int .i64 24) (.int .i64 2) (.str 12 14909942882012283808127726898) (.int .i64 25),Sk ka,(km,.map [] 247),(ku,.map [(.str 7 13560501085483381,.ptr k2f 0,71),(.str 7 13560505380450933,.ptr k2a 0,74),(.str 5 435744240755,.ptr k1i 0,76)] 77),Z16,Z17,Z18,S2y k24 k27 k27 (.int .i64 9),Sb k2a kr k2c (.int .i64 2) (.int .i64 90) (.str 7 13560505380450933) (.int .i64 1) (.int .i64 0) (.int .i64 0) (.int .i64 0),(k2b,.lmap [(.str 2 13167,.ptr k2l 0),(.str 2 13935,.ptr k2t 0),(.str 2 14703,.ptr k2x 0),(.str 3 3224175,.ptr k2n 0),(.str 3 3289455,.ptr k2v 0),(.str 3 3420783,.ptr k2j 0),(.str 3 3486063,.ptr k2r 0),(.str 3 3617391,.ptr k2h 0),(.str 3 3682671,.ptr k2p 0)]),Z15,Sw k2h k2i k27 (.int .i64 1) (.int .i64 0) (.str 0 0) (.str 3 3617391),Sg k2i] s1p
def s1r:RT AObj:=updS [Z1v,S1h k1 k7,Si k6 (.int .i64 1) (.str 12 14909942882012283808127726898) (.int .i64 12) (.int .i64 2) (.str 12 14909942882012283808127726898) (.int .i64 9),Z1o,S1i km,(ku,.map [(.str 6 52970790924917,.ptr k1x 0,26),(.str 7 13560492478771573,.ptr k2f 0,35),(.str 5 435744240755,.ptr k1i 0,37)] 38),Z1e,Z1f,Z1c,S2x k1r k1u k1u,Sb k2f kr k2g (.int .i64 2) (.int .i64 123) (.str 7 13560492478771573) (.int .i64 2) (.int .i64 0) (.int .i64 0) (.int .i64 0),Z1a,Sp k2y k2z,Sq k2z k30 k2x,Sg k30] s1c
def s1s:RT AObj:=updS [Z1w,S1k k1 k7,S1l k6,Sk ka,S1m km,S1n ku k2f k2a k1i,Z16,Z17,Z18,Z1p,Sb k2a kr k2c (.int .i64 2) (.int .i64 30) (.str 7 13560496773739125) (.int .i64 1) (.int .i64 0) (.int .i64 0) (.int .i64 0),S19 k2b k2l k2t k31,Z15,S1a k31 k32 k27,Sg k32] s1r
def s1t:RT AObj:=updS [Z1y,S1r k1 k7,S1s k6,Sr ka,S1t km,S1u ku k2a k1x k1i,Z1b,Z14,Z1c,S2q k1r k1u k1u,Sb k1x kr k1z (.int .i64 2) (.int .i64 101) (.str 7 13560501068706165) (.int .i64 0) (.int .i64 0) (.int .i64 0) (.int .i64 0),Z13,Sg k2y] s1s
def s1u:RT AObj:=updS [Z1z,S1w k1 k7,S1x k6,Su ka,S1y km,S1z ku k1x k2f k1i,Z1e,Z1f,Z18,Z1x,S1o k2b k2l k2t k31 k2z,Sb k2f kr k2g (.int .i64 2) (.int .i64 40) (.str 7 13560505363673717) (.int .i64 2) (.int .i64 0) (.int .i64 0) (.int .i64 0),Z1a,S1p k2z k30 k27,Sg k30] s1t
def s1v:RT AObj:=updS [Z22,S24 k1 k7,Z23,Sx ka,S25 km,S26 ku k2f k2a k1i (.str 7 13560505363673717) (.str 7 13560509658640757) (.str 5 435744240755),Z16,Z17,Z1c,S2e k1r k1u k1u,Sb k2a kr k2c (.int .i64 2) (.int .i64 81) (.str 7 13560509658640757) (.int .i64 1) (.int .i64 0) (.int .i64 0) (.int .i64 0),Z15,Sg k2w] s1u
def s1w:RT AObj:=updS [Z24,S28 k1 k7,Si k6 (.int .i64 1) (.str 12 14909942882012283808127726898) (.int .i64 16) (.int .i64 2) (.str 12 14909942882012283808127726898) (.int .i64 17),Z1r,S29 km,S2h ku k2a k1x k1i (.str 7 13560509658640757) (.str 7 13560513953608309) (.str 5 435744240755),Z1b,Z14,Z18,Sb k1x kr k1z (.int .i64 2) (.int .i64 50) (.str 7 13560513953608309) (.int .i64 0) (.int .i64 0) (.int .i64 0) (.int .i64 0),Z13,Z20,S21 k2b k2l k2t k31 k2z k2x,S22 k2x k2y k27,Sg k2y] s1v
def s1x:RT AObj:=updS [Z25,S2b k1 k7,Si k6 (.int .i64 1) (.str 12 14909942882012283808127726898) (.int .i64 18) (.int .i64 2) (.str 12 14909942882012283808127726898) (.int .i64 17),Z1o,S2c km,S2d ku k1x k2f k1i (.str 7 13560513953608309) (.str 7 13560518248575349) (.str 5 435744240755),Z1e,Z1f,Z1c,Z21,Sb k2f kr k2g (.int .i64 2) (.int .i64 63) (.str 7 13560518248575349) (.int .i64 2) (.int .i64 0) (.int .i64 0) (.int .i64 0),Z1a,Sg k2s] s1w
def s1y:RT AObj:=updS [Z28,S2j k1 k7,Si k6 (.int .i64 1) (.str 12 14909942882012283808127726898) (.int .i64 18) (.int .i64 2) (.str 12 14909942882012283808127726898) (.int .i64 19),Sk ka,S2k km,S2l ku k2f k2a k1i (.str 7 13560518248575349) (.str 7 13560522543542901) (.str 5 435744240755),Z16,Z17,Z18,Z27,Sb k2a kr k2c (.int .i64 2) (.int .i64 60) (.str 7 13560522543542901) (.int .i64 1) (.int .i64 0) (.int .i64 0) (.int .i64 0),S2f k2b k2l k2t k31 k2z k2x k2v,Z15,S2g k2v k2w k27,Sg k2w] s1x
def s1z:RT AObj:=updS [Z29,S2n k1 k7,Si k6 (.int .i64 1) (.str 12 14909942882012283808127726898) (.int .i64 20) (.int .i64 2) (.str 12 14909942882012283808127726898) (.int .i64 19),Sr ka,S2o km,S2p ku k2a k1x k1i (.str 7 13560522543542901) (.str 7 13560483905614197) (.str 5 435744240755),Z1b,Z14,Z1c,Z1s,Sb k1x kr k1z (.int .i64 2) (.int .i64 47) (.str 7 13560483905614197) (.int .i64 0) (.int .i64 0) (.int .i64 0) (.int .i64 0),Z13,Sg k2q] s1y
def s20:RT AObj:=updS [Z2a,S2u k1 k7,Si k6 (.int .i64 1) (.str 12 14909942882012283808127726898) (.int .i64 20) (.int .i64 2) (.str 12 14909942882012283808127726898) (.int .i64 21),Su ka,S2v km,S2w ku k1x k2f k1i (.str 7 13560483905614197) (.str 7 13560488200581749) (.str 5 435744240755),Z1e,Z1f,Z18,S2q k24 k27 k27,S2r k2b k2l k2t k31 k2r k2z k2x k2v,Sb k2f kr k2g (.int .i64 2) (.int .i64 70) (.str 7 13560488200581749) (.int .i64 2) (.int .i64 0) (.int .i64 0) (.int .i64 0),Z1a,S2s k2r k2s k27,Sg k2s] s1z
def s21:RT AObj:=updS [Z2b,Z2c,Si k6 (.int .i64 1) (.str 12 14909942882012283808127726898) (.int .i64 22) (.int .i64 2) (.str 12 14909942882012283808127726898) (.int .i64 21),Sx ka,(km,.map [] 220),(ku,.map [(.str 7 13560488200581749,.ptr k2f 0,62),(.str 7 13560492495548789,.ptr k2a 0,65),(.str 5 435744240755,.ptr k1i 0,67)] 68),Z16,Z17,Z1c,Z1k,Sb k2a kr k2c (.int .i64 2) (.int .i64 33) (.str 7 13560492495548789) (.int .i64 1) (.int .i64 0) (.int .i64 0) (.int .i64 0),Z15,Sg k2o] s20
def s22:RT AObj:=updS [Z2d,Z2e,Si k6 (.int .i64 1) (.str 12 14909942882012283808127726898) (.int .i64 22) (.int .i64 2) (.str 12 14909942882012283808127726898) (.int .i64 23),Z1r,(km,.map [] 229),(ku,.map [(.str 7 13560492495548789,.ptr k2a 0,65),(.str 7 13560496790516341,.ptr k1x 0,68),(.str 5 435744240755,.ptr k1i 0,70)] 71),Z1b,Z14,Z18,Sb k1x kr k1z (.int .i64 2) (.int .i64 80) (.str 7 13560496790516341) (.int .i64 0) (.int .i64 0) (.int .i64 0) (.int .i64 0),Z13,S2x k24 k27 k27,(k2b,.lmap [(.str 2 13167,.ptr k2l 0),(.str 2 13935,.ptr k2t 0),(.str 2 14703,.ptr k31 0),(.str 3 3224175,.ptr k2r 0),(.str 3 3289455,.ptr k2z 0),(.str 3 3420783,.ptr k2p 0),(.str 3 3486063,.ptr k2x 0),(.str 3 3682671,.ptr k2v 0)]),Sw k2p k2q k27 (.int .i64 1) (.int .i64 0) (.str 0 0) (.str 3 3420783),Sg k2q] s21
def s23:RT AObj:=updS [Z2f,Z2g,Si k6 (.int .i64 1) (.str 12 14909942882012283808127726898) (.int .i64 24) (.int .i64 2) (.str 12 14909942882012283808127726898) (.int .i64 23),Z1o,(km,.map [] 238),(ku,.map [(.str 7 13560496790516341,.ptr k1x 0,68),(.str 7 13560501085483381,.ptr k2f 0,71),(.str 5 435744240755,.ptr k1i 0,73)] 74),Z1e,Z1f,Z1c,Z1d,Sb k2f kr k2g (.int .i64 2) (.int .i64 21) (.str 7 13560501085483381) (.int .i64 2) (.int .i64 0) (.int .i64 0) (.int .i64 0),Z1a,Sg k2k] s22
def s24:RT AObj:=updS [Z2h,Z2i,Si k6 (.int .i64 1) (.str 12 14909942882012283808127726898) (.int .i64 24) (.int .i64 2) (.str 12 14909942882012283808127726898) (.int .i64 25),Sk ka,(km,.map [] 247),(ku,.map [(.str 7 13560501085483381,.ptr k2f 0,71),(.str 7 13560505380450933,.ptr k2a 0,74),(.str 5 435744240755,.ptr k1i 0,76)] 77),Z16,Z17,Z18,S2y k24 k27 k27 (.int .i64 9),Sb k2a kr k2c (.int .i64 2) (.int .i64 90) (.str 7 13560505380450933) (.int .i64 1) (.int .i64 0) (.int .i64 0) (.int .i64 0),(k2b,.lmap [(.str 2 13167,.ptr k2l 0),(.str 2 13935,.ptr k2t 0),(.str 2 14703,.ptr k31 0),(.str 3 3224175,.ptr k2r 0),(.str 3 3289455,.ptr k2z 0),(.str 3 3420783,.ptr k2p 0),(.str 3 3486063,.ptr k2x 0),(.str 3 3617391,.ptr k2n 0),(.str 3 3682671,.ptr k2v 0)]),Z15,Sw k2n k2o k27 (.int .i64 1) (.int .i64 0) (.str 0 0) (.str 3 3617391),Sg k2o] s23
def s25:RT AObj:=updS [S5 k0 k1 k2 k3 k4 k5 k6 kv (.int .i64 26),S0 k1 k7 (.int .i64 (-852)) (.int .i64 852),Si k6 (.int .i64 1) (.str 12 14909942882012283808127726898) (.int .i64 26) (.int .i64 2) (.str 12 14909942882012283808127726898) (.int .i64 25),Sr ka,(km,.map [] 256),(ku,.map [(.str 7 13560505380450933,.ptr k2a 0,74),(.str 7 13560509675417973,.ptr k1x 0,77),(.str 5 435744240755,.ptr k1i 0,79)] 80),Z1b,Z14,Z1c,Z19,Sb k1x kr k1z (.int .i64 2) (.int .i64 11) (.str 7 13560509675417973) (.int .i64 0) (.int .i64 0) (.int .i64 0) (.int .i64 0),Z13,Sg k2i] s24
def s26:RT AObj:=updS [S5 k0 k1 k2 k3 k4 k5 k6 kv (.int .i64 27),S0 k1 k7 (.int .i64 (-882)) (.int .i64 882),Si k6 (.int .i64 1) (.str 12 14909942882012283808127726898) (.int .i64 27) (.int .i64 2) (.str 12 14909942882012283808127726898) (.int .i64 25),Sk ka,(km,.map [] 265),(ku,.map [(.str 7 13560505380450933,.ptr k2a 0,74),(.str 7 13560513970385269,.ptr k2f 0,80),(.str 5 435744240755,.ptr k1i 0,82)] 83),Z16,Z17,Z18,Z12,Sg k1y,Sb k2f kr k2g (.int .i64 2) (.int .i64 3) (.str 7 13560513970385269) (.int .i64 2) (.int .i64 0) (.int .i64 0) (.int .i64 0),Z1a] s25
def s27:RT AObj:=updS [S5 k0 k1 k2 k3 k4 k5 k6 kv (.int .i64 28),S0 k1 k7 (.int .i64 (-912)) (.int .i64 912),Si k6 (.int .i64 1) (.str 12 14909942882012283808127726898) (.int .i64 27) (.int .i64 2) (.str 12 14909942882012283808127726898) (.int .i64 28),Z1o,(km,.map [] 274),(ku,.map [(.str 7 13560513970385269,.ptr k2f 0,80),(.str 7 13560518265352821,.ptr k1x 0,83),(.str 5 435744240755,.ptr k1i 0,85)] 86),Z1e,Z1f,Z1c,Sb k1x kr k1z (.int .i64 2) (.int .i64 100) (.str 7 13560518265352821) (.int .i64 0) (.int .i64 0) (.int .i64 0) (.int .i64 0),Z13,S2y k24 k27 k27 (.int .i64 10),(k2b,.lmap [(.str 2 13167,.ptr k2l 0),(.str 2 13935,.ptr k2t 0),(.str 2 14703,.ptr k31 0),(.str 3 3158895,.ptr k2h 0),(.str 3 3224175,.ptr k2r 0),(.str 3 3289455,.ptr k2z 0),(.str 3 3420783,.ptr k2p 0),(.str 3 3486063,.ptr k2x 0),(.str 3 3617391,.ptr k2n 0),(.str 3 3682671,.ptr k2v 0)]),Sw k2h k2i k27 (.int .i64 1) (.int .i64 0) (.str 0 0) (.str 3 3158895),Sg k2i] s26
def s28:RT AObj:=updS [Z1y,S1r k1 k7,Si k6 (.int .i64 1) (.str 12 14909942882012283808127726898) (.int .i64 12) (.int .i64 2) (.str 12 14909942882012283808127726898) (.int .i64 14),Z1o,S1t km,(ku,.map [(.str 7 13560492478771573,.ptr k2f 0,35),(.str 7 13560501068706421,.ptr k1x 0,41),(.str 5 435744240755,.ptr k1i 0,43)] 44),Z1e,Z1f,Z1c,Sb k1x kr k1z (.int .i64 2) (.int .i64 40) (.str 7 13560501068706421) (.int .i64 0) (.int .i64 0) (.int .i64 0) (.int .i64 0),Z13,Z1x,S1o k2b k2l k2t k31 k33,S1p k33 k34 k27,Sg k34] s1s
def s29:RT AObj:=updS [Z1z,S1w k1 k7,Si k6 (.int .i64 1) (.str 12 14909942882012283808127726898) (.int .i64 15) (.int .i64 2) (.str 12 14909942882012283808127726898) (.int .i64 14),Z1r,S1y km,(ku,.map [(.str 7 13560501068706421,.ptr k1x 0,41),(.str 7 13560505363673461,.ptr k2a 0,44),(.str 5 435744240755,.ptr k1i 0,46)] 47),Z1b,Z14,Z18,S2q k1r k1u k1u,Sb k2a kr k2c (.int .i64 2) (.int .i64 101) (.str 7 13560505363673461) (.int .i64 1) (.int .i64 0) (.int .i64 0) (.int .i64 0),Z15,Sg k2y] s28
def s2a:RT AObj:=updS [Z22,S24 k1 k7,Si k6 (.int .i64 1) (.str 12 14909942882012283808127726898) (.int .i64 15) (.int .i64 2) (.str 12 14909942882012283808127726898) (.int .i64 16),Sx ka,S25 km,S26 ku k2a k2f k1i (.str 7 13560505363673461) (.str 7 13560509658641013) (.str 5 435744240755),Z16,Z17,Z1c,Z20,S21 k2b k2l k2t k31 k33 k2z,Sb k2f kr k2g (.int .i64 2) (.int .i64 50) (.str 7 13560509658641013) (.int .i64 2) (.int .i64 0) (.int .i64 0) (.int .i64 0),Z1a,S22 k2z k30 k27,Sg k30] s29
def s2b:RT AObj:=updS [Z24,S28 k1 k7,Si k6 (.int .i64 1) (.str 12 14909942882012283808127726898) (.int .i64 17) (.int .i64 2) (.str 12 14909942882012283808127726898) (.int .i64 16),Su ka,S29 km,S2h ku k2f k1x k1i (.str 7 13560509658641013) (.str 7 13560513953608053) (.str 5 435744240755),Z1e,Z1f,Z18,S2e k1r k1u k1u,Sb k1x kr k1z (.int .i64 2) (.int .i64 81) (.str 7 13560513953608053) (.int .i64 0) (.int .i64 0) (.int .i64 0) (.int .i64 0),Z13,Sg k2w] s2a
def s2c:RT AObj:=updS [Z25,S2b k1 k7,Z26,Sr ka,S2c km,S2d ku k1x k2a k1i (.str 7 13560513953608053) (.str 7 13560518248575605) (.str 5 435744240755),Z1b,Z14,Z1c,Z27,Sb k2a kr k2c (.int .i64 2) (.int .i64 60) (.str 7 13560518248575605) (.int .i64 1) (.int .i64 0) (.int .i64 0) (.int .i64 0),S2f k2b k2l k2t k31 k33 k2z k2x,Z15,S2g k2x k2y k27,Sg k2y] s2b
def s2d:RT AObj:=updS [Z28,S2j k1 k7,Si k6 (.int .i64 1) (.str 12 14909942882012283808127726898) (.int .i64 19) (.int .i64 2) (.str 12 14909942882012283808127726898) (.int .i64 18),Sk ka,S2k km,S2l ku k2a k2f k1i (.str 7 13560518248575605) (.str 7 13560522543542645) (.str 5 435744240755),Z16,Z17,Z18,Z21,Sb k2f kr k2g (.int .i64 2) (.int .i64 63) (.str 7 13560522543542645) (.int .i64 2) (.int .i64 0) (.int .i64 0) (.int .i64 0),Z1a,Sg k2s] s2c
def s2e:RT AObj:=updS [Z29,S2n k1 k7,Si k6 (.int .i64 1) (.str 12 14909942882012283808127726898) (.int .i64 19) (.int .i64 2) (.str 12 14909942882012283808127726898) (.int .i64 20),Z1o,S2o km,S2p ku k2f k1x k1i (.str 7 13560522543542645) (.str 7 13560483905614453) (.str 5 435744240755),Z1e,Z1f,Z1c,Sb k1x kr k1z (.int .i64 2) (.int .i64 70) (.str 7 13560483905614453) (.int .i64 0) (.int .i64 0) (.int .i64 0) (.int .i64 0),Z13,S2q k24 k27 k27,S2r k2b k2l k2t k31 k2v k33 k2z k2x,S2s k2v k2w k27,Sg k2w] s2d
def s2f:RT AObj:=updS [Z2a,S2u k1 k7,Si k6 (.int .i64 1) (.str 12 14909942882012283808127726898) (.int .i64 21) (.int .i64 2) (.str 12 14909942882012283808127726898) (.int .i64 20),Z1r,S2v km,S2w ku k1x k2a k1i (.str 7 13560483905614453) (.str 7 13560488200581493) (.str 5 435744240755),Z1b,Z14,Z18,Z1s,Sb k2a kr k2c (.int .i64 2) (.int .i64 47) (.str 7 13560488200581493) (.int .i64 1) (.int .i64 0) (.int .i64 0) (.int .i64 0),Z15,Sg k2q] s2e
def s2g:RT AObj:=updS [Z2b,Z2c,Si k6 (.int .i64 1) (.str 12 14909942882012283808127726898) (.int .i64 21) (.int .i64 2) (.str 12 14909942882012283808127726898) (.int .i64 22),Sx ka,(km,.map [] 220),(ku,.map [(.str 7 13560488200581493,.ptr k2a 0,62),(.str 7 13560492495549045,.ptr k2f 0,65),(.str 5 435744240755,.ptr k1i 0,67)] 68),Z16,Z17,Z1c,S2x k24 k27 k27,(k2b,.lmap [(.str 2 13167,.ptr k2l 0),(.str 2 13935,.ptr k2t 0),(.str 2 14703,.ptr k31 0),(.str 3 3224175,.ptr k2v 0),(.str 3 3289455,.ptr k33 0),(.str 3 3420783,.ptr k2r 0),(.str 3 3486063,.ptr k2z 0),(.str 3 3682671,.ptr k2x 0)]),Sb k2f kr k2g (.int .i64 2) (.int .i64 80) (.str 7 13560492495549045) (.int .i64 2) (.int .i64 0) (.int .i64 0) (.int .i64 0),Z1a,Sw k2r k2s k27 (.int .i64 1) (.int .i64 0) (.str 0 0) (.str 3 3420783),Sg k2s] s2f
def s2h:RT AObj:=updS [Z2d,Z2e,Si k6 (.int .i64 1) (.str 12 14909942882012283808127726898) (.int .i64 23) (.int .i64 2) (.str 12 14909942882012283808127726898) (.int .i64 22),Su ka,(km,.map [] 229),(ku,.map [(.str 7 13560492495549045,.ptr k2f 0,65),(.str 7 13560496790516085,.ptr k1x 0,68),(.str 5 435744240755,.ptr k1i 0,70)] 71),Z1e,Z1f,Z18,Z1k,Sb k1x kr k1z (.int .i64 2) (.int .i64 33) (.str 7 13560496790516085) (.int .i64 0) (.int .i64 0) (.int .i64 0) (.int .i64 0),Z13,Sg k2o] s2g
def s2i:RT AObj:=updS [Z2f,Z2g,Si k6 (.int .i64 1) (.str 12 14909942882012283808127726898) (.int .i64 23) (.int .i64 2) (.str 12 14909942882012283808127726898) (.int .i64 24),Sr ka,(km,.map [] 238),(ku,.map [(.str 7 13560496790516085,.ptr k1x 0,68),(.str 7 13560501085483637,.ptr k2a 0,71),(.str 5 435744240755,.ptr k1i 0,73)] 74),Z1b,Z14,Z1c,S2y k24 k27 k27 (.int .i64 9),Sb k2a kr k2c (.int .i64 2) (.int .i64 90) (.str 7 13560501085483637) (.int .i64 1) (.int .i64 0) (.int .i64 0) (.int .i64 0),(k2b,.lmap [(.str 2 13167,.ptr k2l 0),(.str 2 13935,.ptr k2t 0),(.str 2 14703,.ptr k31 0),(.str 3 3224175,.ptr k2v 0),(.str 3 3289455,.ptr k33 0),(.str 3 3420783,.ptr k2r 0),(.str 3 3486063,.ptr k2z 0),(.str 3 3617391,.ptr k2p 0),(.str 3 3682671,.ptr k2x 0)]),Z15,Sw k2p k2q k27 (.int .i64 1) (.int .i64 0) (.str 0 0) (.str 3 3617391),Sg k2q] s2h
def s2j:RT AObj:=updS [Z2h,Z2i,Si k6 (.int .i64 1) (.str 12 14909942882012283808127726898) (.int .i64 25) (.int .i64 2) (.str 12 14909942882012283808127726898) (.int .i64 24),Sk ka,(km,.map [] 247),(ku,.map [(.str 7 13560501085483637,.ptr k2a 0,71),(.str 7 13560505380450677,.ptr k2f 0,74),(.str 5 435744240755,.ptr k1i 0,76)] 77),Z16,Z17,Z18,Z1d,Sb k2f kr k2g (.int .i64 2) (.int .i64 21) (.str 7 13560505380450677) (.int .i64 2) (.int .i64 0) (.int .i64 0) (.int .i64 0),Z1a,Sg k2k] s2i
def s2k:RT AObj:=updS [S5 k0 k1 k2 k3 k4 k5 k6 kv (.int .i64 26),S0 k1 k7 (.int .i64 (-852)) (.int .i64 852),Si k6 (.int .i64 1) (.str 12 14909942882012283808127726898) (.int .i64 25) (.int .i64 2) (.str 12 14909942882012283808127726898) (.int .i64 26),Z1o,(km,.map [] 256),(ku,.map [(.str 7 13560505380450677,.ptr k2f 0,74),(.str 7 13560509675418229,.ptr k1x 0,77),(.str 5 435744240755,.ptr k1i 0,79)] 80),Z1e,Z1f,Z1c,Sb k1x kr k1z (.int .i64 2) (.int .i64 100) (.str 7 13560509675418229) (.int .i64 0) (.int .i64 0) (.int .i64 0) (.int .i64 0),Z13,S2y k24 k27 k27 (.int .i64 10),(k2b,.lmap [(.str 2 13167,.ptr k2l 0),(.str 2 13935,.ptr k2t 0),(.str 2 14703,.ptr k31 0),(.str 3 3158895,.ptr k2n 0),(.str 3 3224175,.ptr k2v 0),(.str 3 3289455,.ptr k33 0),(.str 3 3420783,.ptr k2r 0),(.str 3 3486063,.ptr k2z 0),(.str 3 3617391,.ptr k2p 0),(.str 3 3682671,.ptr k2x 0)]),Sw k2n k2o k27 (.int .i64 1) (.int .i64 0) (.str 0 0) (.str 3 3158895),Sg k2o] s2j
def s2l:RT AObj:=updS [S5 k0 k1 k2 k3 k4 k5 k6 kv (.int .i64 27),S0 k1 k7 (.int .i64 (-882)) (.int .i64 882),Si k6 (.int .i64 1) (.str 12 14909942882012283808127726898) (.int .i64 27) (.int .i64 2) (.str 12 14909942882012283808127726898) (.int .i64 26),Z1r,(km,.map [] 265),(ku,.map [(.str 7 13560509675418229,.ptr k1x 0,77),(.str 7 13560513970385269,.ptr k2a 0,80),(.str 5 435744240755,.ptr k1i 0,82)] 83),Z1b,Z14,Z18,Z19,Sb k2a kr k2c (.int .i64 2) (.int .i64 11) (.str 7 13560513970385269) (.int .i64 1) (.int .i64 0) (.int .i64 0) (.int .i64 0),Z15,Sg k2i] s2k
def s2m:RT AObj:=updS [S5 k0 k1 k2 k3 k4 k5 k6 kv (.int .i64 28),S0 k1 k7 (.int .i64 (-912)) (.int .i64 912),Si k6 (.int .i64 1) (.str 12 14909942882012283808127726898) (.int .i64 28) (.int .i64 2) (.str 12 14909942882012283808127726898) (.int .i64 26),Z1o,(km,.map [] 274),(ku,.map [(.str 7 13560509675418229,.ptr k1x 0,77),(.str 7 13560518265352565,.ptr k2f 0,83),(.str 5 435744240755,.ptr k1i 0,85)] 86),Z1e,Z1f,Z1c,Z12,Sg k1y,Sb k2f kr k2g (.int .i64 2) (.int .i64 3) (.str 7 13560518265352565) (.int .i64 2) (.int .i64 0) (.int .i64 0) (.int .i64 0),Z1a] s2l
def s2n:RT AObj:=updS [S5 k0 k1 k2 k3 k4 k5 k6 kv (.int .i64 29),S0 k1 k7 (.int .i64 (-942)) (.int .i64 942),Si k6 (.int .i64 1) (.str 12 14909942882012283808127726898) (.int .i64 28) (.int .i64 2) (.str 12 14909942882012283808127726898) (.int .i64 29),Sk ka,(km,.map [] 283),(ku,.map [(.str 7 13560518265352565,.ptr k2f 0,83),(.str 7 13560522560320117,.ptr k2a 0,86),(.str 5 435744240755,.ptr k1i 0,88)] 89),Z16,Z17,Z18,S2y k24 k27 k27 (.int .i64 11),Sb k2a kr k2c (.int .i64 2) (.int .i64 110) (.str 7 13560522560320117) (.int .i64 1) (.int .i64 0) (.int .i64 0) (.int .i64 0),(k2b,.lmap [(.str 2 13167,.ptr k2l 0),(.str 2 13935,.ptr k2t 0),(.str 2 14703,.ptr k31 0),(.str 3 3158895,.ptr k2n 0),(.str 3 3224175,.ptr k2v 0),(.str 3 3289455,.ptr k33 0),(.str 3 3355503,.ptr k2h 0),(.str 3 3420783,.ptr k2r 0),(.str 3 3486063,.ptr k2z 0),(.str 3 3617391,.ptr k2p 0),(.str 3 3682671,.ptr k2x 0)]),Z15,Sw k2h k2i k27 (.int .i64 1) (.int .i64 0) (.str 0 0) (.str 3 3355503),Sg k2i] s2m
def s2o:RT AObj:=updS [S5 k0 k1 k2 k3 k4 k5 k6 kv (.int .i64 0),S0 k1 k7 (.int .i64 (-52)) (.int .i64 52),S1 k2 k1 k8 k9 ka (.int .i64 5) (.int .i64 16334),(k5,.map [(.str 1 116,.str 12 14909952252669478796797554994,0)] 1),(k8,.cells 268 [.ptr kf 0,.int .i64 512,.map kg,.slice kh 0 6 (.more 1)] false 0),(ka,.bits 4 16384 1125899906842623),(kc,.map [(.str 12 14909952252669478796797554994,.ptr ky 0,0)] 1),(kd,.map [(.str 1 116,.agg [.slice kz 0 1 (.more 1)],0)] 1),(kg,.map [(.int .i64 0,.ptr kn 0,0),(.int .i64 45,.ptr ko 0,1),(.int .i64 46,.ptr k11 0,2),(.int .i64 47,.ptr k12 0,3),(.int .i64 48,.ptr k13 0,4),(.int .i64 49,.ptr k14 0,5)] 6),(kh,.cells 3 [.int .i64 0,.int .i64 45,.int .i64 46,.int .i64 47,.int .i64 48,.int .i64 49] true 0),(km,.map [] 16),(kq,.cells 273 [.int .i64 1,.int .i64 0,.str 6 126935165919596,.ptr k9 0,.int .i64 1,.map kt,.slice k17 0 1 (.more 1),.slice k18 0 1 (.more 1),.nilSlice,.int .i64 0,.int .i64 0,.int .i64 0] false 0),(kr,.cells 273 [.int .i64 1,.int .i64 0,.str 5 491328597876,.ptr k9 0,.int .i64 2,.map ku,.slice k19 0 1 (.more 1),.slice k1a 0 1 (.more 1),.nilSlice,.int .i64 0,.int .i64 0,.int .i64 0] false 0),(kt,.map [(.str 12 14909952252669478796797554994,.ptr k1b 0,1)] 2),(ku,.map [(.str 5 435744240755,.ptr k1c 0,1)] 2),(kv,.cells 199 [.str 19 1318739858033904608473444756492996921336492646,.nilSlice,.int .i64 20000,.map kw,.slice kx 0 1 (.more 1)] true 0),S2 kw,(kx,.cells 141 [.slice k10 0 1 (.more 4)] true 0),S7 ky k15 (.str 0 0) (.int .i64 1) (.int .i64 0),(kz,.cells 141 [.slice k16 0 1 (.more 4)] true 0),S8 k10,S4 k11,Sa k12,S4 k13,Sa k14,S8 k15,S8 k16,(k17,.cells 169 [.ptr k1b 0] true 0),S3 k18 (.int .i64 46),(k19,.cells 169 [.ptr k1c 0] true 0),S3 k1a (.int .i64 48),Sb k1b kq k1d (.int .i64 2) (.int .i64 12) (.str 12 14909952252669478796797554994) (.int .i64 0) (.int .i64 0) (.int .i64 0) (.int .i64 0),Sb k1c kr k1e (.int .i64 2) (.int .i64 19) (.str 5 435744240755) (.int .i64 0) (.int .i64 0) (.int .i64 0) (.int .i64 0),Sc k1d (.int .i64 47),Sc k1e (.int .i64 49)] s0
def s2p:RT AObj:=updS [S5 k0 k1 k2 k3 k4 k5 k6 kv (.int .i64 1),S0 k1 k7 (.int .i64 (-82)) (.int .i64 82),S1 k2 k1 k8 k9 ka (.int .i64 6) (.int .i64 16333),(k6,.map [(.int .i64 1,.agg [.str 12 14909952252669478796797554994,.int .i64 1],0)] 1),(k8,.cells 268 [.ptr kf 0,.int .i64 512,.map kg,.slice kh 0 8 (.more 1)] false 0),(ka,.bits 4 16384 3940649673949183),(ke,.map [(.int .i64 1,.ptr k1f 0,0)] 1),(kg,.map [(.int .i64 0,.ptr kn 0,0),(.int .i64 45,.ptr ko 0,1),(.int .i64 46,.ptr k11 0,2),(.int .i64 47,.ptr k12 0,3),(.int .i64 48,.ptr k13 0,4),(.int .i64 49,.ptr k14 0,5),(.int .i64 50,.ptr k1g 0,6),(.int .i64 51,.ptr k1h 0,7)] 8),(kh,.cells 3 [.int .i64 0,.int .i64 45,.int .i64 46,.int .i64 47,.int .i64 48,.int .i64 49,.int .i64 50,.int .i64 51] true 0),(km,.map [] 25),(kr,.cells 273 [.int .i64 1,.int .i64 0,.str 5 491328597876,.ptr k9 0,.int .i64 2,.map ku,.slice k19 0 2 (.more 1),.slice k1a 0 1 (.more 1),.nilSlice,.int .i64 0,.int .i64 0,.int .i64 0] false 0),(ku,.map [(.str 6 52970656706933,.ptr k1q 0,2),(.str 5 435744240755,.ptr k1c 0,4)] 5),S7 ky k15 (.str 0 0) (.int .i64 2) (.int .i64 0),S4 k12,(k19,.cells 169 [.ptr k1q 0,.ptr k1c 0,.ptr k1c 0] true 0),Sb k1c kr k1e (.int .i64 2) (.int .i64 41) (.str 5 435744240755) (.int .i64 1) (.int .i64 0) (.int .i64 0) (.int .i64 0),Sh k1e,(k1f,.cells 211 [.ptr k1i 0,.ptr k1j 0,.ptr k1k 0,.slice k1l 0 1 (.more 1),.slice k1m 0 1 (.more 4)] false 0),Sa k1g,Sa k1h,(k1i,.cells 321 [.slice k1n 0 5 (.more 4),.int .i64 0,.int .i64 20000,.int .i64 0,.nilSlice,.bool false,.str 0 0,.float .f64 0,.bool false,.str 0 0,.float .f64 0,.bool false,.str 0 0,.float .f64 0,.bool false,.str 0 0,.float .f64 0,.bool false,.str 0 0,.float .f64 0,.bool false,.str 0 0,.float .f64 0,.bool false,.str 0 0,.float .f64 0,.bool false,.str 0 0,.float .f64 0,.bool false,.str 0 0,.float .f64 0,.bool false,.str 0 0,.float .f64 0,.bool false,.str 0 0,.float .f64 0,.bool false,.str 0 0,.float .f64 0,.bool false,.str 0 0,.float .f64 0,.bool false,.str 0 0,.float .f64 0,.bool false,.str 0 0,.float .f64 0,.bool false,.str 0 0,.float .f64 0,.bool false,.str 0 0,.float .f64 0,.bool false,.str 0 0,.float .f64 0,.bool false,.str 0 0,.float .f64 0,.bool false,.str 0 0,.float .f64 0,.bool false,.str 0 0,.float .f64 0,.bool false,.str 0 0,.float .f64 0,.bool false,.str 0 0,.float .f64 0,.bool false,.str 0 0,.float .f64 0,.bool false,.str 0 0,.float .f64 0,.bool false,.str 0 0,.float .f64 0,.bool false,.str 0 0,.float .f64 0,.bool false,.str 0 0,.float .f64 0,.bool false,.str 0 0,.float .f64 0,.bool false,.str 0 0,.float .f64 0,.bool false,.str 0 0,.float .f64 0,.bool false,.str 0 0,.float .f64 0,.bool false,.str 0 0,.float .f64 0,.bool false,.str 0 0,.float .f64 0,.bool false,.str 0 0,.float .f64 0,.bool false,.str 0 0,.float .f64 0,.bool false,.str 0 0,.float .f64 0,.bool false,.str 0 0,.float .f64 0,.bool false,.str 0 0,.float .f64 0,.bool false,.str 0 0,.float .f64 0,.bool false,.str 0 0,.float .f64 0,.bool false,.str 0 0,.float .f64 0,.bool false,.str 0 0,.float .f64 0,.bool false,.str 0 0,.float .f64 0,.bool false,.str 0 0,.float .f64 0,.bool false,.str 0 0,.float .f64 0,.bool false,.str 0 0,.float .f64 0,.bool false,.str 0 0,.float .f64 0,.bool false,.str 0 0,.float .f64 0,.bool false,.str 0 0,.float .f64 0,.bool false,.str 0 0,.float .f64 0,.bool false,.str 0 0,.float .f64 0,.bool false,.str 0 0,.float .f64 0,.bool false,.str 0 0,.float .f64 0,.bool false,.str 0 0,.float .f64 0,.bool false,.str 0 0,.float .f64 0,.bool false,.str 0 0,.float .f64 0,.bool false,.str 0 0,.float .f64 0,.bool false,.str 0 0,.float .f64 0,.bool false,.str 0 0,.float .f64 0,.bool false,.str 0 0,.float .f64 0,.bool false,.str 0 0,.float .f64 0,.bool false,.str 0 0,.float .f64 0,.bool false,.str 0 0,.float .f64 0,.int .i64 0,.int .i64 0,.str 0 0,.str 0 0,.int .i64 0,.int .i64 0,.int .i64 0,.int .i64 0,.str 0 0,.str 0 0,.int .i64 0,.str 0 0] false 0),(k1j,.cells 311 [.nilSlice] false 0),So k1k k1o k1o,(k1l,.cells 141 [.slice k1p 0 1 (.more 4)] true 0),S8 k1m,(k1n,.cells 354 [.int .i64 2,.int .i64 0,.float .f64 0,.str 1 101,.int .i64 1,.int .i64 0,.float .f64 4607182418800017408,.str 0 0,.int .i64 17,.int .i64 2,.float .f64 0,.str 5 491394460525,.int .i64 18,.int .i64 0,.float .f64 0,.str 0 0,.int .i64 0,.int .i64 0,.float .f64 0,.str 0 0] true 0),(k1o,.cells 389 [.int .i64 1,.int .i64 493,.str 0 0,.map k1r,.nilPtr,.str 0 0] false 0),S8 k1p,Sb k1q kr k1s (.int .i64 2) (.int .i64 3) (.str 6 52970656706933) (.int .i64 0) (.int .i64 0) (.int .i64 0) (.int .i64 0),Sp k1r k1t,Sd k1s,Sw k1t k1u k1o (.int .i64 1) (.int .i64 493) (.str 0 0) (.str 1 100),Sg k1u] s2o
def s2q:RT AObj:=updS [S5 k0 k1 k2 k3 k4 k5 k6 kv (.int .i64 2),S0 k1 k7 (.int .i64 (-110)) (.int .i64 110),(k6,.map [(.int .i64 1,.agg [.str 12 14909952252669478796797554994,.int .i64 2],0)] 1),(k8,.cells 268 [.ptr kf 0,.int .i64 512,.map kg,.slice kh 0 9 (.more 1)] false 0),(ka,.bits 4 16384 5629499534213119),(kg,.map [(.int .i64 0,.ptr kn 0,0),(.int .i64 45,.ptr ko 0,1),(.int .i64 46,.ptr k11 0,2),(.int .i64 47,.ptr k12 0,3),(.int .i64 48,.ptr k13 0,4),(.int .i64 49,.ptr k14 0,5),(.int .i64 50,.ptr k1g 0,6),(.int .i64 51,.ptr k1h 0,7),(.int .i64 52,.ptr k1v 0,8)] 9),(kh,.cells 3 [.int .i64 0,.int .i64 45,.int .i64 46,.int .i64 47,.int .i64 48,.int .i64 49,.int .i64 50,.int .i64 51,.int .i64 52] true 0),(km,.map [] 33),(ku,.map [(.str 6 52970673484149,.ptr k1x 0,5),(.str 5 435744240755,.ptr k1c 0,7)] 8),S4 k14,(k19,.cells 169 [.ptr k1c 0,.ptr k1x 0,.ptr k1c 0,.ptr k1c 0] true 0),Sb k1c kr k1e (.int .i64 2) (.int .i64 41) (.str 5 435744240755) (.int .i64 0) (.int .i64 0) (.int .i64 0) (.int .i64 0),Se k1e,(k1i,.cells 321 [.slice k1n 0 5 (.more 4),.int .i64 3,.int .i64 19997,.int .i64 3,.slice k1w 0 1 (.more 3),.bool false,.str 0 0,.float .f64 0,.bool false,.str 0 0,.float .f64 0,.bool false,.str 0 0,.float .f64 0,.bool false,.str 0 0,.float .f64 0,.bool false,.str 0 0,.float .f64 0,.bool false,.str 0 0,.float .f64 0,.bool false,.str 0 0,.float .f64 0,.bool false,.str 0 0,.float .f64 0,.bool false,.str 0 0,.float .f64 0,.bool false,.str 0 0,.float .f64 0,.bool false,.str 0 0,.float .f64 0,.bool false,.str 0 0,.float .f64 0,.bool false,.str 0 0,.float .f64 0,.bool false,.str 0 0,.float .f64 0,.bool false,.str 0 0,.float .f64 0,.bool false,.str 0 0,.float .f64 0,.bool false,.str 0 0,.float .f64 0,.bool false,.str 0 0,.float .f64 0,.bool false,.str 0 0,.float .f64 0,.bool false,.str 0 0,.float .f64 0,.bool false,.str 0 0,.float .f64 0,.bool false,.str 0 0,.float .f64 0,.bool false,.str 0 0,.float .f64 0,.bool false,.str 0 0,.float .f64 0,.bool false,.str 0 0,.float .f64 0,.bool false,.str 0 0,.float .f64 0,.bool false,.str 0 0,.float .f64 0,.bool false,.str 0 0,.float .f64 0,.bool false,.str 0 0,.float .f64 0,.bool false,.str 0 0,.float .f64 0,.bool false,.str 0 0,.float .f64 0,.bool false,.str 0 0,.float .f64 0,.bool false,.str 0 0,.float .f64 0,.bool false,.str 0 0,.float .f64 0,.bool false,.str 0 0,.float .f64 0,.bool false,.str 0 0,.float .f64 0,.bool false,.str 0 0,.float .f64 0,.bool false,.str 0 0,.float .f64 0,.bool false,.str 0 0,.float .f64 0,.bool false,.str 0 0,.float .f64 0,.bool false,.str 0 0,.float .f64 0,.bool false,.str 0 0,.float .f64 0,.bool false,.str 0 0,.float .f64 0,.bool false,.str 0 0,.float .f64 0,.bool false,.str 0 0,.float .f64 0,.bool false,.str 0 0,.float .f64 0,.bool false,.str 0 0,.float .f64 0,.bool false,.str 0 0,.float .f64 0,.bool false,.str 0 0,.float .f64 0,.bool false,.str 0 0,.float .f64 0,.bool false,.str 0 0,.float .f64 0,.bool false,.str 0 0,.float .f64 0,.bool false,.str 0 0,.float .f64 0,.bool false,.str 0 0,.float .f64 0,.bool false,.str 0 0,.float .f64 0,.bool false,.str 0 0,.float .f64 0,.bool false,.str 0 0,.float .f64 0,.bool false,.str 0 0,.float .f64 0,.bool false,.str 0 0,.float .f64 0,.bool false,.str 0 0,.float .f64 0,.bool false,.str 0 0,.float .f64 0,.bool false,.str 0 0,.float .f64 0,.bool false,.str 0 0,.float .f64 0,.bool false,.str 0 0,.float .f64 0,.int .i64 0,.int .i64 0,.str 0 0,.str 0 0,.int .i64 0,.int .i64 0,.int .i64 0,.int .i64 0,.str 0 0,.str 5 491394460525,.int .i64 0,.str 0 0] false 0),St k1k k1o k1o,(k1r,.lmap [(.str 1 100,.ptr k1t 0),(.str 1 101,.ptr k1z 0)]),Sa k1v,(k1w,.cells 318 [.bool false,.str 0 0,.float .f64 0,.bool false,.str 0 0,.float .f64 4607182418800017408] true 0),Sb k1x kr k1y (.int .i64 2) (.int .i64 11) (.str 6 52970673484149) (.int .i64 1) (.int .i64 0) (.int .i64 0) (.int .i64 0),Sc k1y (.int .i64 49),Sw k1z k20 k1o (.int .i64 1) (.int .i64 1) (.str 0 0) (.str 1 101),Sg k20] s2p
def tw0:List MRow:=[tR s2 k1r,
 tR s4 k1r,
 tR s5 k1r,
 tR s6 k24]
def tw1:List MRow:=[tR s9 k24,
 tR sa k1r,
 tR se k24,
 tR sg k1r]
def tw2:List MRow:=[tR sm k24,
 tR so k24,
 tR sp k1r,
 tR sz k24]
def tw3:List MRow:=[tR s10 k1r,
 tR s1a k24,
 tR s1c k1r,
 tR s1o k24]
def tw4:List MRow:=[tR s1q k24,
 tR s1r k1r,
 tR s27 k24,
 tR s2n k24]
def tw5:List MRow:=[tR s2p k1k]
def trows:List MRow:=tw0 ++ (tw1 ++ (tw2 ++ (tw3 ++ (tw4 ++ (tw5)))))
def cr0:MRow:=cR tys k0 s0 k4
def cr1:MRow:=cR tys k0 s1 k4
def cr2:MRow:=cR tys k0 s2 k4
def cr3:MRow:=cR tys k0 s3 k4
def cr4:MRow:=cR tys k0 s4 k4
def cr5:MRow:=cR tys k0 s5 k4
def cr6:MRow:=cR tys k0 s6 k4
def cr7:MRow:=cR tys k0 s7 k4
def cr8:MRow:=cR tys k0 s8 k4
def cr9:MRow:=cR tys k0 s9 k4
def cr10:MRow:=cR tys k0 sa k4
def cr11:MRow:=cR tys k0 sc k4
def cr12:MRow:=cR tys k0 sd k4
def cr13:MRow:=cR tys k0 se k4
def cr14:MRow:=cR tys k0 sf k4
def cr15:MRow:=cR tys k0 sg k4
def cr16:MRow:=cR tys k0 si k4
def cr17:MRow:=cR tys k0 sk k4
def cr18:MRow:=cR tys k0 sm k4
def cr19:MRow:=cR tys k0 sn k4
def cr20:MRow:=cR tys k0 so k4
def cr21:MRow:=cR tys k0 sp k4
def cr22:MRow:=cR tys k0 sq k4
def cr23:MRow:=cR tys k0 sr k4
def cr24:MRow:=cR tys k0 ss k4
def cr25:MRow:=cR tys k0 st k4
def cr26:MRow:=cR tys k0 su k4
def cr27:MRow:=cR tys k0 sv k4
def cr28:MRow:=cR tys k0 sw k4
def cr29:MRow:=cR tys k0 sx k4
def cr30:MRow:=cR tys k0 sz k4
def cr31:MRow:=cR tys k0 s10 k4
def cr32:MRow:=cR tys k0 s12 k4
def cr33:MRow:=cR tys k0 s14 k4
def cr34:MRow:=cR tys k0 s16 k4
def cr35:MRow:=cR tys k0 s18 k4
def cr36:MRow:=cR tys k0 s19 k4
def cr37:MRow:=cR tys k0 s1a k4
def cr38:MRow:=cR tys k0 s1b k4
def cr39:MRow:=cR tys k0 s1c k4
def cr40:MRow:=cR tys k0 s1e k4
def cr41:MRow:=cR tys k0 s1g k4
def cr42:MRow:=cR tys k0 s1i k4
def cr43:MRow:=cR tys k0 s1k k4
def cr44:MRow:=cR tys k0 s1m k4
def cr45:MRow:=cR tys k0 s1o k4
def cr46:MRow:=cR tys k0 s1p k4
def cr47:MRow:=cR tys k0 s1q k4
def cr48:MRow:=cR tys k0 s1r k4
def cr49:MRow:=cR tys k0 s1s k4
def cr50:MRow:=cR tys k0 s1t k4
def cr51:MRow:=cR tys k0 s1u k4
def cr52:MRow:=cR tys k0 s1v k4
def cr53:MRow:=cR tys k0 s1w k4
def cr54:MRow:=cR tys k0 s1x k4
def cr55:MRow:=cR tys k0 s1y k4
def cr56:MRow:=cR tys k0 s1z k4
def cr57:MRow:=cR tys k0 s20 k4
def cr58:MRow:=cR tys k0 s21 k4
def cr59:MRow:=cR tys k0 s22 k4
def cr60:MRow:=cR tys k0 s23 k4
def cr61:MRow:=cR tys k0 s24 k4
def cr62:MRow:=cR tys k0 s25 k4
def cr63:MRow:=cR tys k0 s27 k4
def cr64:MRow:=cR tys k0 s28 k4
def cr65:MRow:=cR tys k0 s2a k4
def cr66:MRow:=cR tys k0 s2c k4
def cr67:MRow:=cR tys k0 s2e k4
def cr68:MRow:=cR tys k0 s2g k4
def cr69:MRow:=cR tys k0 s2i k4
def cr70:MRow:=cR tys k0 s2k k4
def cr71:MRow:=cR tys k0 s2l k4
def cr72:MRow:=cR tys k0 s2n k4
def cr73:MRow:=cR tys k0 s2o k4
def cr74:MRow:=cR tys k0 s2p k4
def cw0:List MRow:=[cr0,
 cr1,
 cr2,
 cr3]
def cw1:List MRow:=[cr4,
 cr5,
 cr6,
 cr7]
def cw2:List MRow:=[cr8,
 cr9,
 cr10,
 cr11]
def cw3:List MRow:=[cr12,
 cr13,
 cr14,
 cr15]
def cw4:List MRow:=[cr16,
 cr17,
 cr18,
 cr19]
def cw5:List MRow:=[cr20,
 cr21,
 cr22,
 cr23]
def cw6:List MRow:=[cr24,
 cr25,
 cr26,
 cr27]
def cw7:List MRow:=[cr28,
 cr29,
 cr30,
 cr31]
def cw8:List MRow:=[cr32,
 cr33,
 cr34,
 cr35]
def cw9:List MRow:=[cr36,
 cr37,
 cr38,
 cr39]
def cw10:List MRow:=[cr40,
 cr41,
 cr42,
 cr43]
def cw11:List MRow:=[cr44,
 cr45,
 cr46,
 cr47]
def cw12:List MRow:=[cr48,
 cr49,
 cr50,
 cr51]
def cw13:List MRow:=[cr52,
 cr53,
 cr54,
 cr55]
def cw14:List MRow:=[cr56,
 cr57,
 cr58,
 cr59]
def cw15:List MRow:=[cr60,
 cr61,
 cr62,
 cr63]
def cw16:List MRow:=[cr64,
 cr65,
 cr66,
 cr67]
def cw17:List MRow:=[cr68,
 cr69,
 cr70,
 cr71]
def cw18:List MRow:=[cr72,
 cr73,
 cr74]
def crows:List MRow:=cw0 ++ (cw1 ++ (cw2 ++ (cw3 ++ (cw4 ++ (cw5 ++ (cw6 ++ (cw7 ++ (cw8 ++ (cw9 ++ (cw10 ++ (cw11 ++ (cw12 ++ (cw13 ++ (cw14 ++ (cw15 ++ (cw16 ++ (cw17 ++ (cw18))))))))))))))))))
def nw0:List MRow:=[nR s0 [.int .i64 16384] (.tup [.ptr k0 0,.int .i64 0]) k0]
def nw1:List MRow:=[⟨[.int .i64 16383],[],.tup [.nilPtr, .int .i64 2600],[]⟩]
def nrows:List MRow:=nw0 ++ (nw1)
def dw0:List MRow:=[dR tys k4 s0 s1 [.ptr k0 0,.agg [.int .i64 3,.str 1 116,.str 0 0,.str 31 104481335786327267040345892488766287127177228565394820989683512661121135206,.nilSlice,.int .i64 0,.int .i64 0,.str 0 0,.str 0 0,.int .i64 0,.int .i64 0,.int .i64 0,.int .i64 0,.str 0 0]] Zn [k5,k6,kh] [kv,kw,kx,ky,kz,k10,k11,k12,k13,k14,k15,k16,k17,k18,k19,k1a,k1b,k1c,k1d,k1e,k1f,k1g,k1h,k1i,k1j,k1k,k1l,k0,k1,k2,k8,ka,kc,kg,km,kq,kr,kt,ku] [(kh,.dead)]]
def dw1:List MRow:=[dR tys k4 s1 s2 [.ptr k0 0,.agg [.int .i64 4,.str 1 116,.str 0 0,.str 0 0,.nilSlice,.int .i64 0,.int .i64 0,.str 0 0,.str 0 0,.int .i64 0,.int .i64 0,.int .i64 0,.int .i64 0,.str 0 0]] (.tup [.agg [.int .i64 0,.int .i64 0,.int .i64 1,.str 0 0,.nilSlice,.nilSlice,.int .i64 0,.int .i64 0,.int .i64 0,.int .i64 0,.str 0 0,.nilSlice,.int .i64 0,.int .i64 0],.int .i64 0]) [k5,k6,kh,k1e,k1i,k1k,k1l] [k1n,k1o,k1s,k1t,k1v,k1w,k1x,k1z,k0,k1,k2,k8,ka,kg,km,kr,ku,kz,k15,k1h] [(kh,.dead),(k1e,.dead),(k1i,.dead)]]
def dw2:List MRow:=[dR tys k4 s2 s3 [.ptr k0 0,.agg [.int .i64 4,.str 1 116,.str 0 0,.str 0 0,.nilSlice,.int .i64 0,.int .i64 0,.str 0 0,.str 0 0,.int .i64 0,.int .i64 0,.int .i64 0,.int .i64 0,.str 0 0]] (.tup [.agg [.int .i64 0,.int .i64 0,.int .i64 2,.str 0 0,.nilSlice,.nilSlice,.int .i64 0,.int .i64 0,.int .i64 0,.int .i64 0,.str 0 0,.nilSlice,.int .i64 0,.int .i64 0],.int .i64 0]) [k5,k6,kh,k1e,k1i,k1k,k1l] [k21,k25,k26,k28,k29,k2a,k2c,k0,k1,k2,k8,ka,kg,km,kr,ku,kz,k17,k1h] [(kh,.dead),(k1e,.dead),(k1i,.dead)]]
def dw3:List MRow:=[dR tys k4 s3 s4 (cl 1 6 (.str 2 25647) (.str 0 0) 0 0 0 420 (.str 6 127978876068212)) Zn [k5,k6,kh,k1e,k1f,k1i,k1l] [k2d,k2e,k2f,k2g,k0,k1,k8,ka,kg,km,kr,ku,k1o] [(ke,.dead),(kh,.dead),(k1e,.dead),(k1f,.dead),(k1x,.dead),(k1i,.dead)]]
def dw4:List MRow:=[dR tys k4 s4 s5 (cl 1 6 (.str 4 1680827439) (.str 0 0) 0 0 0 420 (.str 6 127978876068212)) Zn Zy [k1x,k1z,k0,k1,ka,km,ku,k1e,k1f,k1n,k21] Zr]
def dw5:List MRow:=[dR tys k4 s5 s6 (cl 2 6 (.str 2 13167) (.str 0 0) 0 0 0 0 (.str 0 0)) Zn Zy [k2f,k2g,k0,k1,ka,km,ku,k1e,k2e] Zs]
def dw6:List MRow:=[dR tys k4 s6 s7 Z0 Zn Zy Zz Zt]
def dw7:List MRow:=[dR tys k4 s7 s7 Z1 Zo [] [k0] [(ke,.dead)]]
def dw8:List MRow:=[dR tys k4 s7 s8 Z2 Zn Zy Z10 Zs]
def dw9:List MRow:=[dR tys k4 s8 s9 Z3 Zn Zy Zz Zr]
def dw10:List MRow:=[dR tys k4 s9 s9 Z4 Zn [] [k0] Zu]
def dw11:List MRow:=[dR tys k4 s9 s9 Z5 Zp [] [k0] Zu]
def dw12:List MRow:=[dR tys k4 s6 sa (cl 1 6 (.str 6 110154707067951) (.str 0 0) 0 0 0 420 (.str 6 127978876068212)) Zn Zy Zz Zt]
def dw13:List MRow:=[dR tys k4 sa sb Z6 Zn Zy Z10 Zs]
def dw14:List MRow:=[dR tys k4 sb sb Z2 Zq [] [k0] [(ke,.dead)]]
def dw15:List MRow:=[dR tys k4 sb sc Z3 Zn Zy Zz Zr]
def dw16:List MRow:=[dR tys k4 sc sc Z7 Zo [] [k0] Zu]
def dw17:List MRow:=[dR tys k4 sc sd Z0 Zn Zy Z11 Zv]
def dw18:List MRow:=[dR tys k4 sd sd Z1 Zo [] [k0] Zu]
def dw19:List MRow:=[dR tys k4 sd se Z8 Zn Zy Z10 Zw]
def dw20:List MRow:=[dR tys k4 se sf Z2 Zn Zy Zz Zx]
def dw21:List MRow:=[dR tys k4 sf sf Z4 Zn [] [k0] Zu]
def dw22:List MRow:=[dR tys k4 sf sf Z5 Zp [] [k0] Zu]
def dw23:List MRow:=[dR tys k4 sa sg (cl 1 6 (.str 8 7219098882405262383) (.str 0 0) 0 0 0 420 (.str 6 127978876068212)) Zn Zy Z10 Zs]
def dw24:List MRow:=[dR tys k4 sg sh Z9 Zn Zy Zz Zt]
def dw25:List MRow:=[dR tys k4 sh si Z3 Zn Zy Z10 Zr]
def dw26:List MRow:=[dR tys k4 si si Z0 Zq [] [k0] Zu]
def dw27:List MRow:=[dR tys k4 si si Za Zo [] [k0] Zu]
def dw28:List MRow:=[dR tys k4 si sj Z6 Zn Zy Z11 Zw]
def dw29:List MRow:=[dR tys k4 sj sk Z8 Zn Zy Zz Zv]
def dw30:List MRow:=[dR tys k4 sk sk Z2 Zq [] [k0] Zu]
def dw31:List MRow:=[dR tys k4 sk sk Z7 Zo [] [k0] Zu]
def dw32:List MRow:=[dR tys k4 sk sl Z0 Zn Zy Z10 Zx]
def dw33:List MRow:=[dR tys k4 sl sm Zb Zn Zy Z11 Zw]
def dw34:List MRow:=[dR tys k4 sm sm Z1 Zo [] [k0] Zu]
def dw35:List MRow:=[dR tys k4 sm sn Z2 Zn Zy Zz Zv]
def dw36:List MRow:=[dR tys k4 sn sn Z4 Zn [] [k0] Zu]
def dw37:List MRow:=[dR tys k4 sn so Zc Zn Zy Z10 Zx]
def dw38:List MRow:=[dR tys k4 so so Z5 Zp [] [k0] Zu]
def dw39:List MRow:=[dR tys k4 sg sp (cl 1 6 (.str 10 473110864357311275557935) (.str 0 0) 0 0 0 420 (.str 6 127978876068212)) Zn Zy Zz Zt]
def dw40:List MRow:=[dR tys k4 sp sq Z3 Zn Zy Z10 Zr]
def dw41:List MRow:=[dR tys k4 sq sr Zd Zn Zy Z11 Zw]
def dw42:List MRow:=[dR tys k4 sr sr Z6 Zq [] [k0] Zu]
def dw43:List MRow:=[dR tys k4 sr sr Ze Zo [] [k0] Zu]
def dw44:List MRow:=[dR tys k4 sr ss Z8 Zn Zy Zz Zv]
def dw45:List MRow:=[dR tys k4 ss st Z9 Zn Zy Z10 Zx]
def dw46:List MRow:=[dR tys k4 st st Z0 Zq [] [k0] Zu]
def dw47:List MRow:=[dR tys k4 st st Za Zo [] [k0] Zu]
def dw48:List MRow:=[dR tys k4 st su Zb Zn Zy Z11 Zw]
def dw49:List MRow:=[dR tys k4 su sv Z6 Zn Zy Zz Zv]
def dw50:List MRow:=[dR tys k4 sv sv Z2 Zq [] [k0] Zu]
def dw51:List MRow:=[dR tys k4 sv sv Z7 Zo [] [k0] Zu]
def dw52:List MRow:=[dR tys k4 sv sw Zc Zn Zy Z10 Zx]
def dw53:List MRow:=[dR tys k4 sw sx Z0 Zn Zy Z11 Zw]
def dw54:List MRow:=[dR tys k4 sx sx Z1 Zo [] [k0] Zu]
def dw55:List MRow:=[dR tys k4 sx sy Z2 Zn Zy Zz Zx]
def dw56:List MRow:=[dR tys k4 sy sz Zf Zn Zy Z11 Zv]
def dw57:List MRow:=[dR tys k4 sz sz Z4 Zn [] [k0] Zu]
def dw58:List MRow:=[dR tys k4 sz sz Z5 Zp [] [k0] Zu]
def dw59:List MRow:=[dR tys k4 sq s10 (cl 1 6 (.str 12 31005793606520751754964853807) (.str 0 0) 0 0 0 420 (.str 6 127978876068212)) Zn Zy Z11 Zw]
def dw60:List MRow:=[dR tys k4 s10 s11 Zg Zn Zy Zz Zx]
def dw61:List MRow:=[dR tys k4 s11 s11 Z9 Zq [] [k0] Zu]
def dw62:List MRow:=[dR tys k4 s11 s12 Z8 Zn Zy Z11 Zv]
def dw63:List MRow:=[dR tys k4 s12 s12 Zh Zo [] [k0] Zu]
def dw64:List MRow:=[dR tys k4 s12 s13 Zd Zn Zy Z10 Zw]
def dw65:List MRow:=[dR tys k4 s13 s13 Z6 Zq [] [k0] Zu]
def dw66:List MRow:=[dR tys k4 s13 s14 Zb Zn Zy Zz Zx]
def dw67:List MRow:=[dR tys k4 s14 s14 Ze Zo [] [k0] Zu]
def dw68:List MRow:=[dR tys k4 s14 s15 Z9 Zn Zy Z11 Zv]
def dw69:List MRow:=[dR tys k4 s15 s15 Z0 Zq [] [k0] Zu]
def dw70:List MRow:=[dR tys k4 s15 s16 Zc Zn Zy Z10 Zw]
def dw71:List MRow:=[dR tys k4 s16 s16 Za Zo [] [k0] Zu]
def dw72:List MRow:=[dR tys k4 s16 s17 Z6 Zn Zy Zz Zx]
def dw73:List MRow:=[dR tys k4 s17 s17 Z2 Zq [] [k0] Zu]
def dw74:List MRow:=[dR tys k4 s17 s18 Zf Zn Zy Z11 Zv]
def dw75:List MRow:=[dR tys k4 s18 s18 Z7 Zo [] [k0] Zu]
def dw76:List MRow:=[dR tys k4 s18 s19 Z0 Zn Zy Z10 Zw]
def dw77:List MRow:=[dR tys k4 s19 s19 Z1 Zo [] [k0] Zu]
def dw78:List MRow:=[dR tys k4 s19 s1a Zi Zn Zy Zz Zx]
def dw79:List MRow:=[dR tys k4 s1a s1b Z2 Zn Zy Z11 Zv]
def dw80:List MRow:=[dR tys k4 s1b s1b Z4 Zn [] [k0] Zu]
def dw81:List MRow:=[dR tys k4 s1b s1b Z5 Zp [] [k0] Zu]
def dw82:List MRow:=[dR tys k4 s10 s1c (cl 1 6 (.str 14 2031995689796943987013376659121199) (.str 0 0) 0 0 0 420 (.str 6 127978876068212)) Zn Zy Zz Zx]
def dw83:List MRow:=[dR tys k4 s1c s1d Zj Zn Zy Z11 Zw]
def dw84:List MRow:=[dR tys k4 s1d s1e Z8 Zn Zy Zz Zv]
def dw85:List MRow:=[dR tys k4 s1e s1e Zd Zq [] [k0] Zu]
def dw86:List MRow:=[dR tys k4 s1e s1e Zk Zo [] [k0] Zu]
def dw87:List MRow:=[dR tys k4 s1e s1f Zg Zn Zy Z10 Zx]
def dw88:List MRow:=[dR tys k4 s1f s1g Zb Zn Zy Z11 Zw]
def dw89:List MRow:=[dR tys k4 s1g s1g Z9 Zq [] [k0] Zu]
def dw90:List MRow:=[dR tys k4 s1g s1g Zh Zo [] [k0] Zu]
def dw91:List MRow:=[dR tys k4 s1g s1h Zd Zn Zy Zz Zv]
def dw92:List MRow:=[dR tys k4 s1h s1i Zc Zn Zy Z10 Zx]
def dw93:List MRow:=[dR tys k4 s1i s1i Z6 Zq [] [k0] Zu]
def dw94:List MRow:=[dR tys k4 s1i s1i Ze Zo [] [k0] Zu]
def dw95:List MRow:=[dR tys k4 s1i s1j Z9 Zn Zy Z11 Zw]
def dw96:List MRow:=[dR tys k4 s1j s1k Zf Zn Zy Zz Zv]
def dw97:List MRow:=[dR tys k4 s1k s1k Z0 Zq [] [k0] Zu]
def dw98:List MRow:=[dR tys k4 s1k s1k Za Zo [] [k0] Zu]
def dw99:List MRow:=[dR tys k4 s1k s1l Z6 Zn Zy Z10 Zx]
def dw100:List MRow:=[dR tys k4 s1l s1m Zi Zn Zy Z11 Zw]
def dw101:List MRow:=[dR tys k4 s1m s1m Z2 Zq [] [k0] Zu]
def dw102:List MRow:=[dR tys k4 s1m s1m Z7 Zo [] [k0] Zu]
def dw103:List MRow:=[dR tys k4 s1m s1n Z0 Zn Zy Zz Zv]
def dw104:List MRow:=[dR tys k4 s1n s1o Zl Zn Zy Z10 Zx]
def dw105:List MRow:=[dR tys k4 s1o s1o Z1 Zo [] [k0] Zu]
def dw106:List MRow:=[dR tys k4 s1o s1p Z2 Zn Zy Z11 Zw]
def dw107:List MRow:=[dR tys k4 s1p s1p Z4 Zn [] [k0] Zu]
def dw108:List MRow:=[dR tys k4 s1p s1q Zm Zn Zy Zz Zv]
def dw109:List MRow:=[dR tys k4 s1q s1q Z5 Zp [] [k0] Zu]
def dw110:List MRow:=[dR tys k4 s1c s1r (cl 1 6 (.str 16 133168869526532521132908652732166923311) (.str 0 0) 0 0 0 420 (.str 6 127978876068212)) Zn Zy Z11 Zw]
def dw111:List MRow:=[dR tys k4 s1r s1s Z8 Zn Zy Zz Zv]
def dw112:List MRow:=[dR tys k4 s1s s1t (cl 1 12 (.str 16 133168869526532521132908652732166923311) (.str 0 0) 0 0 0 0 (.str 0 0)) Zn Zy Z10 Zx]
def dw113:List MRow:=[dR tys k4 s1t s1t Zg Zq [] [k0] Zu]
def dw114:List MRow:=[dR tys k4 s1t s1t (cl 1 11 (.str 14 2031995689796943987013376659121199) (.str 0 0) 0 0 0 0 (.str 0 0)) Zo [] [k0] Zu]
def dw115:List MRow:=[dR tys k4 s1t s1u Zb Zn Zy Z11 Zw]
def dw116:List MRow:=[dR tys k4 s1u s1v Zj Zn Zy Zz Zv]
def dw117:List MRow:=[dR tys k4 s1v s1v Zd Zq [] [k0] Zu]
def dw118:List MRow:=[dR tys k4 s1v s1v Zk Zo [] [k0] Zu]
def dw119:List MRow:=[dR tys k4 s1v s1w Zc Zn Zy Z10 Zx]
def dw120:List MRow:=[dR tys k4 s1w s1x Zg Zn Zy Z11 Zw]
def dw121:List MRow:=[dR tys k4 s1x s1x Z9 Zq [] [k0] Zu]
def dw122:List MRow:=[dR tys k4 s1x s1x Zh Zo [] [k0] Zu]
def dw123:List MRow:=[dR tys k4 s1x s1y Zf Zn Zy Zz Zv]
def dw124:List MRow:=[dR tys k4 s1y s1z Zd Zn Zy Z10 Zx]
def dw125:List MRow:=[dR tys k4 s1z s1z Z6 Zq [] [k0] Zu]
def dw126:List MRow:=[dR tys k4 s1z s1z Ze Zo [] [k0] Zu]
def dw127:List MRow:=[dR tys k4 s1z s20 Zi Zn Zy Z11 Zw]
def dw128:List MRow:=[dR tys k4 s20 s21 Z9 Zn Zy Zz Zv]
def dw129:List MRow:=[dR tys k4 s21 s21 Z0 Zq [] [k0] Zu]
def dw130:List MRow:=[dR tys k4 s21 s21 Za Zo [] [k0] Zu]
def dw131:List MRow:=[dR tys k4 s21 s22 Zl Zn Zy Z10 Zx]
def dw132:List MRow:=[dR tys k4 s22 s23 Z6 Zn Zy Z11 Zw]
def dw133:List MRow:=[dR tys k4 s23 s23 Z2 Zq [] [k0] Zu]
def dw134:List MRow:=[dR tys k4 s23 s23 Z7 Zo [] [k0] Zu]
def dw135:List MRow:=[dR tys k4 s23 s24 Zm Zn Zy Zz Zv]
def dw136:List MRow:=[dR tys k4 s24 s25 Z0 Zn Zy Z10 Zx]
def dw137:List MRow:=[dR tys k4 s25 s25 Z1 Zo [] [k0] Zu]
def dw138:List MRow:=[dR tys k4 s25 s26 Z2 Zn Zy Z11 Zv]
def dw139:List MRow:=[dR tys k4 s26 s27 (cl 2 6 (.str 3 3158895) (.str 0 0) 0 0 0 0 (.str 0 0)) Zn Zy Z10 Zw]
def dw140:List MRow:=[dR tys k4 s27 s27 Z4 Zn [] [k0] Zu]
def dw141:List MRow:=[dR tys k4 s27 s27 Z5 Zp [] [k0] Zu]
def dw142:List MRow:=[dR tys k4 s1s s1s (cl 1 6 (.str 18 8727355033290835304966301465455291486135343) (.str 0 0) 0 0 0 420 (.str 6 127978876068212)) (an 8 0 0 0 (.str 0 0) .nilSlice) [] [k0] Zu]
def dw143:List MRow:=[dR tys k4 s1s s1s Zj Zq [] [k0] Zu]
def dw144:List MRow:=[dR tys k4 s1s s1s (cl 1 11 (.str 16 133168869526532521132908652732166923311) (.str 0 0) 0 0 0 0 (.str 0 0)) Zo [] [k0] Zu]
def dw145:List MRow:=[dR tys k4 s1s s28 Zb Zn Zy Z10 Zw]
def dw146:List MRow:=[dR tys k4 s28 s29 (cl 1 12 (.str 16 133168869526532521132908652732166923311) (.str 0 0) 0 0 0 0 (.str 0 0)) Zn Zy Zz Zx]
def dw147:List MRow:=[dR tys k4 s29 s29 Zg Zq [] [k0] Zu]
def dw148:List MRow:=[dR tys k4 s29 s29 (cl 1 11 (.str 14 2031995689796943987013376659121199) (.str 0 0) 0 0 0 0 (.str 0 0)) Zo [] [k0] Zu]
def dw149:List MRow:=[dR tys k4 s29 s2a Zc Zn Zy Z11 Zv]
def dw150:List MRow:=[dR tys k4 s2a s2b Zj Zn Zy Z10 Zw]
def dw151:List MRow:=[dR tys k4 s2b s2b Zd Zq [] [k0] Zu]
def dw152:List MRow:=[dR tys k4 s2b s2b Zk Zo [] [k0] Zu]
def dw153:List MRow:=[dR tys k4 s2b s2c Zf Zn Zy Zz Zx]
def dw154:List MRow:=[dR tys k4 s2c s2d Zg Zn Zy Z11 Zv]
def dw155:List MRow:=[dR tys k4 s2d s2d Z9 Zq [] [k0] Zu]
def dw156:List MRow:=[dR tys k4 s2d s2d Zh Zo [] [k0] Zu]
def dw157:List MRow:=[dR tys k4 s2d s2e Zi Zn Zy Z10 Zw]
def dw158:List MRow:=[dR tys k4 s2e s2f Zd Zn Zy Zz Zx]
def dw159:List MRow:=[dR tys k4 s2f s2f Z6 Zq [] [k0] Zu]
def dw160:List MRow:=[dR tys k4 s2f s2f Ze Zo [] [k0] Zu]
def dw161:List MRow:=[dR tys k4 s2f s2g Zl Zn Zy Z11 Zv]
def dw162:List MRow:=[dR tys k4 s2g s2h Z9 Zn Zy Z10 Zw]
def dw163:List MRow:=[dR tys k4 s2h s2h Z0 Zq [] [k0] Zu]
def dw164:List MRow:=[dR tys k4 s2h s2h Za Zo [] [k0] Zu]
def dw165:List MRow:=[dR tys k4 s2h s2i Zm Zn Zy Zz Zx]
def dw166:List MRow:=[dR tys k4 s2i s2j Z6 Zn Zy Z11 Zv]
def dw167:List MRow:=[dR tys k4 s2j s2j Z2 Zq [] [k0] Zu]
def dw168:List MRow:=[dR tys k4 s2j s2j Z7 Zo [] [k0] Zu]
def dw169:List MRow:=[dR tys k4 s2j s2k (cl 2 6 (.str 3 3158895) (.str 0 0) 0 0 0 0 (.str 0 0)) Zn Zy Z10 Zw]
def dw170:List MRow:=[dR tys k4 s2k s2l Z0 Zn Zy Zz Zx]
def dw171:List MRow:=[dR tys k4 s2l s2l Z1 Zo [] [k0] Zu]
def dw172:List MRow:=[dR tys k4 s2l s2m Z2 Zn Zy Z11 Zw]
def dw173:List MRow:=[dR tys k4 s2m s2n (cl 2 6 (.str 3 3355503) (.str 0 0) 0 0 0 0 (.str 0 0)) Zn Zy Zz Zv]
def dw174:List MRow:=[dR tys k4 s2n s2n Z4 Zn [] [k0] Zu]
def dw175:List MRow:=[dR tys k4 s2n s2n Z5 Zp [] [k0] Zu]
def dw176:List MRow:=[dR tys k4 s0 s2o [.ptr k0 0,.agg [.int .i64 3,.str 1 116,.str 0 0,.str 19 1318739858033904608473444756492996921336492646,.nilSlice,.int .i64 0,.int .i64 0,.str 0 0,.str 0 0,.int .i64 0,.int .i64 0,.int .i64 0,.int .i64 0,.str 0 0]] Zn [k5,k6,kh] [kv,kw,kx,ky,kz,k10,k11,k12,k13,k14,k15,k16,k17,k18,k19,k1a,k1b,k1c,k1d,k1e,k0,k1,k2,k8,ka,kc,kg,km,kq,kr,kt,ku] [(kh,.dead)]]
def dw177:List MRow:=[dR tys k4 s2o s2p [.ptr k0 0,.agg [.int .i64 4,.str 1 116,.str 0 0,.str 17 20131413071242410322311321564098966089572,.nilSlice,.int .i64 0,.int .i64 0,.str 0 0,.str 0 0,.int .i64 0,.int .i64 0,.int .i64 0,.int .i64 0,.str 0 0]] (.tup [.agg [.int .i64 0,.int .i64 0,.int .i64 1,.str 0 0,.nilSlice,.nilSlice,.int .i64 0,.int .i64 0,.int .i64 0,.int .i64 0,.str 0 0,.nilSlice,.int .i64 0,.int .i64 0],.int .i64 0]) [k5,k6,kh,k19,k1c,k1d,k1e] [k1g,k1h,k1l,k1m,k1n,k1p,k1q,k1s,k0,k1,k2,k8,ka,kg,km,kr,ku,ky,k12,k1b] [(kh,.dead),(k19,.dead),(k1c,.dead)]]
def dw178:List MRow:=[dR tys k4 s2p s2q [.ptr k0 0,.agg [.int .i64 5,.str 0 0,.str 0 0,.str 0 0,.nilSlice,.int .i64 1,.int .i64 0,.str 0 0,.str 0 0,.int .i64 0,.int .i64 0,.int .i64 0,.int .i64 0,.str 0 0]] Zn [k5,k6,kh,k19,k1c,k1e] [k1v,k1w,k1x,k1y,k0,k1,k8,ka,kg,km,kr,ku,k14] [(kh,.dead),(k19,.dead),(k1q,.dead),(k1c,.dead)]]
def drows:List MRow:=dw0 ++ (dw1 ++ (dw2 ++ (dw3 ++ (dw4 ++ (dw5 ++ (dw6 ++ (dw7 ++ (dw8 ++ (dw9 ++ (dw10 ++ (dw11 ++ (dw12 ++ (dw13 ++ (dw14 ++ (dw15 ++ (dw16 ++ (dw17 ++ (dw18 ++ (dw19 ++ (dw20 ++ (dw21 ++ (dw22 ++ (dw23 ++ (dw24 ++ (dw25 ++ (dw26 ++ (dw27 ++ (dw28 ++ (dw29 ++ (dw30 ++ (dw31 ++ (dw32 ++ (dw33 ++ (dw34 ++ (dw35 ++ (dw36 ++ (dw37 ++ (dw38 ++ (dw39 ++ (dw40 ++ (dw41 ++ (dw42 ++ (dw43 ++ (dw44 ++ (dw45 ++ (dw46 ++ (dw47 ++ (dw48 ++ (dw49 ++ (dw50 ++ (dw51 ++ (dw52 ++ (dw53 ++ (dw54 ++ (dw55 ++ (dw56 ++ (dw57 ++ (dw58 ++ (dw59 ++ (dw60 ++ (dw61 ++ (dw62 ++ (dw63 ++ (dw64 ++ (dw65 ++ (dw66 ++ (dw67 ++ (dw68 ++ (dw69 ++ (dw70 ++ (dw71 ++ (dw72 ++ (dw73 ++ (dw74 ++ (dw75 ++ (dw76 ++ (dw77 ++ (dw78 ++ (dw79 ++ (dw80 ++ (dw81 ++ (dw82 ++ (dw83 ++ (dw84 ++ (dw85 ++ (dw86 ++ (dw87 ++ (dw88 ++ (dw89 ++ (dw90 ++ (dw91 ++ (dw92 ++ (dw93 ++ (dw94 ++ (dw95 ++ (dw96 ++ (dw97 ++ (dw98 ++ (dw99 ++ (dw100 ++ (dw101 ++ (dw102 ++ (dw103 ++ (dw104 ++ (dw105 ++ (dw106 ++ (dw107 ++ (dw108 ++ (dw109 ++ (dw110 ++ (dw111 ++ (dw112 ++ (dw113 ++ (dw114 ++ (dw115 ++ (dw116 ++ (dw117 ++ (dw118 ++ (dw119 ++ (dw120 ++ (dw121 ++ (dw122 ++ (dw123 ++ (dw124 ++ (dw125 ++ (dw126 ++ (dw127 ++ (dw128 ++ (dw129 ++ (dw130 ++ (dw131 ++ (dw132 ++ (dw133 ++ (dw134 ++ (dw135 ++ (dw136 ++ (dw137 ++ (dw138 ++ (dw139 ++ (dw140 ++ (dw141 ++ (dw142 ++ (dw143 ++ (dw144 ++ (dw145 ++ (dw146 ++ (dw147 ++ (dw148 ++ (dw149 ++ (dw150 ++ (dw151 ++ (dw152 ++ (dw153 ++ (dw154 ++ (dw155 ++ (dw156 ++ (dw157 ++ (dw158 ++ (dw159 ++ (dw160 ++ (dw161 ++ (dw162 ++ (dw163 ++ (dw164 ++ (dw165 ++ (dw166 ++ (dw167 ++ (dw168 ++ (dw169 ++ (dw170 ++ (dw171 ++ (dw172 ++ (dw173 ++ (dw174 ++ (dw175 ++ (dw176 ++ (dw177 ++ (dw178))))))))))))))))))))))))))))))))))))))))))))))))))))))))))))))))))))))))))))))))))))))))))))))))))))))))))))))))))))))))))))))))))))))))))))))))))))))))))))))))))))))))))))))))))
def brows:List MRow:=[]
def yr0 : ORow := ⟨[.ptr ⟨.d0, .d0, .d0, .d0, .d1⟩ 0], [(⟨.d0, .d0, .d0, .d0, .d1⟩, .fixed 273 [.int .i64 1, .rng 0 1024, .ustr 5, .junk, .junk, .junk, .junk, .nilSlice, .junk, .rng 0 4096, .rng 0 4096, .junk])], .ustr 63⟩
def yr1 : ORow := ⟨[.ptr ⟨.d0, .d0, .d0, .d0, .d1⟩ 0], [(⟨.d0, .d0, .d0, .d0, .d1⟩, .fixed 273 [.int .i64 1, .rng 0 1024, .ustr 6, .junk, .junk, .junk, .junk, .slice ⟨.d1, .d0, .d0, .d0, .d1⟩ 0 1 (.more 1), .junk, .rng 0 4096, .rng 0 4096, .junk]), (⟨.d1, .d0, .d0, .d0, .d1⟩, .fixed 3 [.rng 0 4096])], .ustr 63⟩
def yr2 : ORow := ⟨[.ptr ⟨.d0, .d0, .d0, .d0, .d1⟩ 0], [(⟨.d0, .d0, .d0, .d0, .d1⟩, .fixed 273 [.int .i64 2, .rng 0 1024, .ustr 3, .junk, .junk, .junk, .junk, .junk, .nilSlice, .rng 0 4096, .rng 0 4096, .junk])], .ustr 63⟩
def yr3 : ORow := ⟨[.ptr ⟨.d0, .d0, .d0, .d0, .d1⟩ 0], [(⟨.d0, .d0, .d0, .d0, .d1⟩, .fixed 273 [.int .i64 2, .rng 0 1024, .ustr 3, .junk, .junk, .junk, .junk, .junk, .slice ⟨.d1, .d0, .d0, .d0, .d1⟩ 0 1 (.is 1), .rng 0 4096, .rng 0 4096, .junk]), (⟨.d1, .d0, .d0, .d0, .d1⟩, .fixed 3 [.rng 0 4096])], .ustr 63⟩
def yr4 : ORow := ⟨[.ptr ⟨.d0, .d0, .d0, .d0, .d1⟩ 0], [(⟨.d0, .d0, .d0, .d0, .d1⟩, .fixed 273 [.int .i64 1, .rng 0 1024, .ustr 6, .junk, .junk, .junk, .junk, .slice ⟨.d1, .d0, .d0, .d0, .d1⟩ 0 0 (.more 1), .junk, .rng 0 4096, .rng 0 4096, .junk]), (⟨.d1, .d0, .d0, .d0, .d1⟩, .fixed 3 [.rng 0 4096])], .ustr 63⟩
def yr5 : ORow := ⟨[.ptr ⟨.d0, .d0, .d0, .d0, .d1⟩ 0], [(⟨.d0, .d0, .d0, .d0, .d1⟩, .fixed 273 [.int .i64 2, .rng 0 1024, .ustr 12, .junk, .junk, .junk, .junk, .junk, .slice ⟨.d1, .d0, .d0, .d0, .d1⟩ 0 1 (.is 1), .rng 0 4096, .rng 0 4096, .junk]), (⟨.d1, .d0, .d0, .d0, .d1⟩, .fixed 3 [.rng 0 4096])], .ustr 63⟩
def yr6 : ORow := ⟨[.ptr ⟨.d0, .d0, .d0, .d0, .d1⟩ 0], [(⟨.d0, .d0, .d0, .d0, .d1⟩, .fixed 273 [.int .i64 1, .rng 0 1024, .ustr 5, .junk, .junk, .junk, .junk, .slice ⟨.d1, .d0, .d0, .d0, .d1⟩ 0 1 (.more 1), .junk, .rng 0 4096, .rng 0 4096, .junk]), (⟨.d1, .d0, .d0, .d0, .d1⟩, .fixed 3 [.rng 0 4096])], .ustr 63⟩
def yr7 : ORow := ⟨[.ptr ⟨.d0, .d0, .d0, .d0, .d1⟩ 0], [(⟨.d0, .d0, .d0, .d0, .d1⟩, .fixed 273 [.int .i64 1, .rng 0 1024, .ustr 5, .junk, .junk, .junk, .junk, .slice ⟨.d1, .d0, .d0, .d0, .d1⟩ 0 0 (.more 1), .junk, .rng 0 4096, .rng 0 4096, .junk]), (⟨.d1, .d0, .d0, .d0, .d1⟩, .fixed 3 [.rng 0 4096])], .ustr 63⟩
def yr8 : ORow := ⟨[.ptr ⟨.d0, .d0, .d0, .d0, .d1⟩ 0], [(⟨.d0, .d0, .d0, .d0, .d1⟩, .fixed 273 [.int .i64 2, .rng 0 1024, .ustr 5, .junk, .junk, .junk, .junk, .junk, .slice ⟨.d1, .d0, .d0, .d0, .d1⟩ 0 1 (.is 1), .rng 0 4096, .rng 0 4096, .junk]), (⟨.d1, .d0, .d0, .d0, .d1⟩, .fixed 3 [.rng 0 4096])], .ustr 63⟩
def yr9 : ORow := ⟨[.ptr ⟨.d0, .d0, .d0, .d0, .d1⟩ 0], [(⟨.d0, .d0, .d0, .d0, .d1⟩, .fixed 273 [.int .i64 2, .rng 0 1024, .ustr 6, .junk, .junk, .junk, .junk, .junk, .nilSlice, .rng 0 4096, .rng 0 4096, .junk])], .ustr 63⟩
def yr10 : ORow := ⟨[.ptr ⟨.d0, .d0, .d0, .d0, .d1⟩ 0], [(⟨.d0, .d0, .d0, .d0, .d1⟩, .fixed 273 [.int .i64 2, .rng 0 1024, .ustr 6, .junk, .junk, .junk, .junk, .junk, .slice ⟨.d1, .d0, .d0, .d0, .d1⟩ 0 1 (.is 1), .rng 0 4096, .rng 0 4096, .junk]), (⟨.d1, .d0, .d0, .d0, .d1⟩, .fixed 3 [.rng 0 4096])], .ustr 63⟩
def yr11 : ORow := ⟨[.ptr ⟨.d0, .d0, .d0, .d0, .d1⟩ 0], [(⟨.d0, .d0, .d0, .d0, .d1⟩, .fixed 273 [.int .i64 2, .rng 0 1024, .ustr 7, .junk, .junk, .junk, .junk, .junk, .nilSlice, .rng 0 4096, .rng 0 4096, .junk])], .ustr 63⟩
def yr12 : ORow := ⟨[.ptr ⟨.d0, .d0, .d0, .d0, .d1⟩ 0], [(⟨.d0, .d0, .d0, .d0, .d1⟩, .fixed 273 [.int .i64 2, .rng 0 1024, .ustr 7, .junk, .junk, .junk, .junk, .junk, .slice ⟨.d1, .d0, .d0, .d0, .d1⟩ 0 1 (.is 1), .rng 0 4096, .rng 0 4096, .junk]), (⟨.d1, .d0, .d0, .d0, .d1⟩, .fixed 3 [.rng 0 4096])], .ustr 63⟩
def yrows : List ORow := [yr0, yr1, yr2, yr3, yr4, yr5, yr6, yr7, yr8, yr9, yr10, yr11, yr12]
end
end Go.Proofs.YtdkbfimccddikaaGreatDoor
