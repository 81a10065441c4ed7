/- What the tower's functions leave behind, call by call: states, and rows that lead from one to another. No conditions. -/
import Derived.Test.YtooelpaaidnhiaaGreatDoorVJ
namespace Go.Proofs.YtooelpaaidnhiaaGreatDoor
open Go.VM
noncomputable section
open Go.VM.D8 (d0 d1 d2 d3 d4 d5 d6 d7)
abbrev KQ:=Key.mk
def tys:List Nat:=[118, 212, 322, 312, 328, 390]
def k0:=KQ d0 d0 d0 d0 d1
def k1:=KQ d1 d0 d0 d0 d1
def k2:=KQ d2 d0 d0 d0 d1
def k3:=KQ d3 d0 d0 d0 d1
def k4:=KQ d4 d0 d0 d0 d1
def k5:=KQ d5 d0 d0 d0 d1
def k6:=KQ d6 d0 d0 d0 d1
def k7:=KQ d7 d0 d0 d0 d1
def k8:=KQ d0 d1 d0 d0 d1
def k9:=KQ d1 d1 d0 d0 d1
def ka:=KQ d2 d1 d0 d0 d1
def kb:=KQ d3 d1 d0 d0 d1
def kc:=KQ d4 d1 d0 d0 d1
def kd:=KQ d5 d1 d0 d0 d1
def ke:=KQ d6 d1 d0 d0 d1
def kf:=KQ d7 d1 d0 d0 d1
def kg:=KQ d0 d2 d0 d0 d1
def kh:=KQ d1 d2 d0 d0 d1
def ki:=KQ d2 d2 d0 d0 d1
def kj:=KQ d3 d2 d0 d0 d1
def kk:=KQ d4 d2 d0 d0 d1
def kl:=KQ d5 d2 d0 d0 d1
def km:=KQ d6 d2 d0 d0 d1
def kn:=KQ d7 d2 d0 d0 d1
def ko:=KQ d0 d3 d0 d0 d1
def kp:=KQ d1 d3 d0 d0 d1
def kq:=KQ d2 d3 d0 d0 d1
def kr:=KQ d3 d3 d0 d0 d1
def ks:=KQ d4 d3 d0 d0 d1
def kt:=KQ d5 d3 d0 d0 d1
def ku:=KQ d6 d3 d0 d0 d1
def kv:=KQ d7 d3 d0 d0 d1
def kw:=KQ d0 d4 d0 d0 d1
def kx:=KQ d1 d4 d0 d0 d1
def ky:=KQ d2 d4 d0 d0 d1
def kz:=KQ d3 d4 d0 d0 d1
def k10:=KQ d4 d4 d0 d0 d1
def k11:=KQ d5 d4 d0 d0 d1
def k12:=KQ d6 d4 d0 d0 d1
def k13:=KQ d7 d4 d0 d0 d1
def k14:=KQ d0 d5 d0 d0 d1
def k15:=KQ d1 d5 d0 d0 d1
def k16:=KQ d2 d5 d0 d0 d1
def k17:=KQ d3 d5 d0 d0 d1
def k18:=KQ d4 d5 d0 d0 d1
def k19:=KQ d5 d5 d0 d0 d1
def k1a:=KQ d6 d5 d0 d0 d1
def k1b:=KQ d7 d5 d0 d0 d1
def k1c:=KQ d0 d6 d0 d0 d1
def k1d:=KQ d1 d6 d0 d0 d1
def k1e:=KQ d2 d6 d0 d0 d1
def k1f:=KQ d3 d6 d0 d0 d1
def k1g:=KQ d4 d6 d0 d0 d1
def k1h:=KQ d5 d6 d0 d0 d1
def k1i:=KQ d6 d6 d0 d0 d1
def k1j:=KQ d7 d6 d0 d0 d1
def k1k:=KQ d0 d7 d0 d0 d1
def k1l:=KQ d1 d7 d0 d0 d1
def k1m:=KQ d2 d7 d0 d0 d1
def k1n:=KQ d3 d7 d0 d0 d1
def k1o:=KQ d4 d7 d0 d0 d1
def k1p:=KQ d5 d7 d0 d0 d1
def k1q:=KQ d6 d7 d0 d0 d1
def k1r:=KQ d7 d7 d0 d0 d1
def k1s:=KQ d0 d0 d1 d0 d1
def k1t:=KQ d1 d0 d1 d0 d1
def k1u:=KQ d2 d0 d1 d0 d1
def k1v:=KQ d3 d0 d1 d0 d1
def k1w:=KQ d4 d0 d1 d0 d1
def k1x:=KQ d5 d0 d1 d0 d1
def k1y:=KQ d6 d0 d1 d0 d1
def k1z:=KQ d7 d0 d1 d0 d1
def k20:=KQ d0 d1 d1 d0 d1
def k21:=KQ d1 d1 d1 d0 d1
def k22:=KQ d2 d1 d1 d0 d1
def k23:=KQ d3 d1 d1 d0 d1
def k24:=KQ d4 d1 d1 d0 d1
def k25:=KQ d5 d1 d1 d0 d1
def k26:=KQ d6 d1 d1 d0 d1
def k27:=KQ d7 d1 d1 d0 d1
def k28:=KQ d0 d2 d1 d0 d1
def k29:=KQ d1 d2 d1 d0 d1
def k2a:=KQ d2 d2 d1 d0 d1
def k2b:=KQ d3 d2 d1 d0 d1
def k2c:=KQ d4 d2 d1 d0 d1
def k2d:=KQ d5 d2 d1 d0 d1
def k2e:=KQ d6 d2 d1 d0 d1
def k2f:=KQ d7 d2 d1 d0 d1
def k2g:=KQ d0 d3 d1 d0 d1
def k2h:=KQ d1 d3 d1 d0 d1
def k2i:=KQ d2 d3 d1 d0 d1
def k2j:=KQ d3 d3 d1 d0 d1
def k2k:=KQ d4 d3 d1 d0 d1
def k2l:=KQ d5 d3 d1 d0 d1
def k2m:=KQ d6 d3 d1 d0 d1
def k2n:=KQ d7 d3 d1 d0 d1
def k2o:=KQ d0 d4 d1 d0 d1
def k2p:=KQ d1 d4 d1 d0 d1
def k2q:=KQ d2 d4 d1 d0 d1
def k2r:=KQ d3 d4 d1 d0 d1
def k2s:=KQ d4 d4 d1 d0 d1
def k2t:=KQ d5 d4 d1 d0 d1
def k2u:=KQ d6 d4 d1 d0 d1
def kS0:=KQ d7 d7 d7 d7 d7
def kS1:=KQ d6 d7 d7 d7 d7
def kS2:=KQ d5 d7 d7 d7 d7
def kS3:=KQ d4 d7 d7 d7 d7
def kS4:=KQ d3 d7 d7 d7 d7
def kS5:=KQ d2 d7 d7 d7 d7
def kS6:=KQ d1 d7 d7 d7 d7
def kS7:=KQ d0 d7 d7 d7 d7
def kS8:=KQ d7 d6 d7 d7 d7
def dom0:List Nat:=[0]
def dom1:List Nat:=[1,2,3,4,5,6,7,8,9]
def dom2:List Nat:=[10,11,12,13,14,15,16,17,18,19,20,21,22,23,24,25,26,27,28,29,30,31,32,33,34,35,36,37,38,39]
def dom3:List Nat:=[40,41,42,43,44,45,46,47,48,49,50,51,52,53,54,55,56,57,58,59,60,61,62,63,64,65,66,67,68,69]
def dom4:List Nat:=[70,71,72,73,74,75,76,77,78,79,80,81,82,83,84,85,86,87,88,89,90,91,92,93,94,95,96,97,98,99]
def dom5:List Nat:=[100,101,102,103,104,105,106,107,108,109,110,111,112,113,114,115,116,117,118,119,120,121,122,123,124,125,126,127,128,129,130,131,132,133,134,135,136,137,138]
def dom6:List Nat:=[139,140,141,142,143,144,145,146,147,148,149,150,151,152,153,154,155,156,157,158,159,160,161,162,163,164,165,166,167,168,169,170,171,172,173,174,175,176,177]
def dom7:List Nat:=[178,179,180,181,182,183,184,185,186,187,188,189,190,191,192,193,194,195,196,197,198,199,200,201,202,203,204,205,206,207,208,209,210,211,212,213,214,215,216]
def dom8:List Nat:=[217,218,219,220,221,222,223,224,225,226,227,228,229,230,231,232,233,234,235,236,237,238,239,240,241,242,243,244,245,246,247,248,249,250,251,252,253,254,255]
def tb0:AV:=.tab kS1 dom1 [.str 2 12646,.str 2 12902,.str 2 13158,.str 2 13414,.str 2 13670,.str 2 13926,.str 2 14182,.str 2 14438,.str 2 14694]
def tb1:AV:=.tab kS2 dom2 [.str 3 3158374,.str 3 3223910,.str 3 3289446,.str 3 3354982,.str 3 3420518,.str 3 3486054,.str 3 3551590,.str 3 3617126,.str 3 3682662,.str 3 3748198,.str 3 3158630,.str 3 3224166,.str 3 3289702,.str 3 3355238,.str 3 3420774,.str 3 3486310,.str 3 3551846,.str 3 3617382,.str 3 3682918,.str 3 3748454,.str 3 3158886,.str 3 3224422,.str 3 3289958,.str 3 3355494,.str 3 3421030,.str 3 3486566,.str 3 3552102,.str 3 3617638,.str 3 3683174,.str 3 3748710]
def tb2:AV:=.tab kS3 dom3 [.str 3 3159142,.str 3 3224678,.str 3 3290214,.str 3 3355750,.str 3 3421286,.str 3 3486822,.str 3 3552358,.str 3 3617894,.str 3 3683430,.str 3 3748966,.str 3 3159398,.str 3 3224934,.str 3 3290470,.str 3 3356006,.str 3 3421542,.str 3 3487078,.str 3 3552614,.str 3 3618150,.str 3 3683686,.str 3 3749222,.str 3 3159654,.str 3 3225190,.str 3 3290726,.str 3 3356262,.str 3 3421798,.str 3 3487334,.str 3 3552870,.str 3 3618406,.str 3 3683942,.str 3 3749478]
def tb3:AV:=.tab kS4 dom4 [.str 3 3159910,.str 3 3225446,.str 3 3290982,.str 3 3356518,.str 3 3422054,.str 3 3487590,.str 3 3553126,.str 3 3618662,.str 3 3684198,.str 3 3749734,.str 3 3160166,.str 3 3225702,.str 3 3291238,.str 3 3356774,.str 3 3422310,.str 3 3487846,.str 3 3553382,.str 3 3618918,.str 3 3684454,.str 3 3749990,.str 3 3160422,.str 3 3225958,.str 3 3291494,.str 3 3357030,.str 3 3422566,.str 3 3488102,.str 3 3553638,.str 3 3619174,.str 3 3684710,.str 3 3750246]
def tb4:AV:=.tab kS5 dom5 [.str 4 808464742,.str 4 825241958,.str 4 842019174,.str 4 858796390,.str 4 875573606,.str 4 892350822,.str 4 909128038,.str 4 925905254,.str 4 942682470,.str 4 959459686,.str 4 808530278,.str 4 825307494,.str 4 842084710,.str 4 858861926,.str 4 875639142,.str 4 892416358,.str 4 909193574,.str 4 925970790,.str 4 942748006,.str 4 959525222,.str 4 808595814,.str 4 825373030,.str 4 842150246,.str 4 858927462,.str 4 875704678,.str 4 892481894,.str 4 909259110,.str 4 926036326,.str 4 942813542,.str 4 959590758,.str 4 808661350,.str 4 825438566,.str 4 842215782,.str 4 858992998,.str 4 875770214,.str 4 892547430,.str 4 909324646,.str 4 926101862,.str 4 942879078]
def tb5:AV:=.tab kS6 dom6 [.str 4 959656294,.str 4 808726886,.str 4 825504102,.str 4 842281318,.str 4 859058534,.str 4 875835750,.str 4 892612966,.str 4 909390182,.str 4 926167398,.str 4 942944614,.str 4 959721830,.str 4 808792422,.str 4 825569638,.str 4 842346854,.str 4 859124070,.str 4 875901286,.str 4 892678502,.str 4 909455718,.str 4 926232934,.str 4 943010150,.str 4 959787366,.str 4 808857958,.str 4 825635174,.str 4 842412390,.str 4 859189606,.str 4 875966822,.str 4 892744038,.str 4 909521254,.str 4 926298470,.str 4 943075686,.str 4 959852902,.str 4 808923494,.str 4 825700710,.str 4 842477926,.str 4 859255142,.str 4 876032358,.str 4 892809574,.str 4 909586790,.str 4 926364006]
def tb6:AV:=.tab kS7 dom7 [.str 4 943141222,.str 4 959918438,.str 4 808989030,.str 4 825766246,.str 4 842543462,.str 4 859320678,.str 4 876097894,.str 4 892875110,.str 4 909652326,.str 4 926429542,.str 4 943206758,.str 4 959983974,.str 4 809054566,.str 4 825831782,.str 4 842608998,.str 4 859386214,.str 4 876163430,.str 4 892940646,.str 4 909717862,.str 4 926495078,.str 4 943272294,.str 4 960049510,.str 4 808464998,.str 4 825242214,.str 4 842019430,.str 4 858796646,.str 4 875573862,.str 4 892351078,.str 4 909128294,.str 4 925905510,.str 4 942682726,.str 4 959459942,.str 4 808530534,.str 4 825307750,.str 4 842084966,.str 4 858862182,.str 4 875639398,.str 4 892416614,.str 4 909193830]
def tb7:AV:=.tab kS8 dom8 [.str 4 925971046,.str 4 942748262,.str 4 959525478,.str 4 808596070,.str 4 825373286,.str 4 842150502,.str 4 858927718,.str 4 875704934,.str 4 892482150,.str 4 909259366,.str 4 926036582,.str 4 942813798,.str 4 959591014,.str 4 808661606,.str 4 825438822,.str 4 842216038,.str 4 858993254,.str 4 875770470,.str 4 892547686,.str 4 909324902,.str 4 926102118,.str 4 942879334,.str 4 959656550,.str 4 808727142,.str 4 825504358,.str 4 842281574,.str 4 859058790,.str 4 875836006,.str 4 892613222,.str 4 909390438,.str 4 926167654,.str 4 942944870,.str 4 959722086,.str 4 808792678,.str 4 825569894,.str 4 842347110,.str 4 859124326,.str 4 875901542,.str 4 892678758]
def tb8:AV:=.tab kS1 dom1 [.str 4 828780396,.str 4 845557612,.str 4 862334828,.str 4 879112044,.str 4 895889260,.str 4 912666476,.str 4 929443692,.str 4 946220908,.str 4 962998124]
def tb9:AV:=.tab kS2 dom2 [.str 5 206987210604,.str 5 211282177900,.str 5 215577145196,.str 5 219872112492,.str 5 224167079788,.str 5 228462047084,.str 5 232757014380,.str 5 237051981676,.str 5 241346948972,.str 5 245641916268,.str 5 207003987820,.str 5 211298955116,.str 5 215593922412,.str 5 219888889708,.str 5 224183857004,.str 5 228478824300,.str 5 232773791596,.str 5 237068758892,.str 5 241363726188,.str 5 245658693484,.str 5 207020765036,.str 5 211315732332,.str 5 215610699628,.str 5 219905666924,.str 5 224200634220,.str 5 228495601516,.str 5 232790568812,.str 5 237085536108,.str 5 241380503404,.str 5 245675470700]
def tba:AV:=.tab kS3 dom3 [.str 5 207037542252,.str 5 211332509548,.str 5 215627476844,.str 5 219922444140,.str 5 224217411436,.str 5 228512378732,.str 5 232807346028,.str 5 237102313324,.str 5 241397280620,.str 5 245692247916,.str 5 207054319468,.str 5 211349286764,.str 5 215644254060,.str 5 219939221356,.str 5 224234188652,.str 5 228529155948,.str 5 232824123244,.str 5 237119090540,.str 5 241414057836,.str 5 245709025132,.str 5 207071096684,.str 5 211366063980,.str 5 215661031276,.str 5 219955998572,.str 5 224250965868,.str 5 228545933164,.str 5 232840900460,.str 5 237135867756,.str 5 241430835052,.str 5 245725802348]
def tbb:AV:=.tab kS4 dom4 [.str 5 207087873900,.str 5 211382841196,.str 5 215677808492,.str 5 219972775788,.str 5 224267743084,.str 5 228562710380,.str 5 232857677676,.str 5 237152644972,.str 5 241447612268,.str 5 245742579564,.str 5 207104651116,.str 5 211399618412,.str 5 215694585708,.str 5 219989553004,.str 5 224284520300,.str 5 228579487596,.str 5 232874454892,.str 5 237169422188,.str 5 241464389484,.str 5 245759356780,.str 5 207121428332,.str 5 211416395628,.str 5 215711362924,.str 5 220006330220,.str 5 224301297516,.str 5 228596264812,.str 5 232891232108,.str 5 237186199404,.str 5 241481166700,.str 5 245776133996]
def tbc:AV:=.tab kS5 dom5 [.str 6 52983545343852,.str 6 54083056971628,.str 6 55182568599404,.str 6 56282080227180,.str 6 57381591854956,.str 6 58481103482732,.str 6 59580615110508,.str 6 60680126738284,.str 6 61779638366060,.str 6 62879149993836,.str 6 52987840311148,.str 6 54087351938924,.str 6 55186863566700,.str 6 56286375194476,.str 6 57385886822252,.str 6 58485398450028,.str 6 59584910077804,.str 6 60684421705580,.str 6 61783933333356,.str 6 62883444961132,.str 6 52992135278444,.str 6 54091646906220,.str 6 55191158533996,.str 6 56290670161772,.str 6 57390181789548,.str 6 58489693417324,.str 6 59589205045100,.str 6 60688716672876,.str 6 61788228300652,.str 6 62887739928428,.str 6 52996430245740,.str 6 54095941873516,.str 6 55195453501292,.str 6 56294965129068,.str 6 57394476756844,.str 6 58493988384620,.str 6 59593500012396,.str 6 60693011640172,.str 6 61792523267948]
def tbd:AV:=.tab kS6 dom6 [.str 6 62892034895724,.str 6 53000725213036,.str 6 54100236840812,.str 6 55199748468588,.str 6 56299260096364,.str 6 57398771724140,.str 6 58498283351916,.str 6 59597794979692,.str 6 60697306607468,.str 6 61796818235244,.str 6 62896329863020,.str 6 53005020180332,.str 6 54104531808108,.str 6 55204043435884,.str 6 56303555063660,.str 6 57403066691436,.str 6 58502578319212,.str 6 59602089946988,.str 6 60701601574764,.str 6 61801113202540,.str 6 62900624830316,.str 6 53009315147628,.str 6 54108826775404,.str 6 55208338403180,.str 6 56307850030956,.str 6 57407361658732,.str 6 58506873286508,.str 6 59606384914284,.str 6 60705896542060,.str 6 61805408169836,.str 6 62904919797612,.str 6 53013610114924,.str 6 54113121742700,.str 6 55212633370476,.str 6 56312144998252,.str 6 57411656626028,.str 6 58511168253804,.str 6 59610679881580,.str 6 60710191509356]
def tbe:AV:=.tab kS7 dom7 [.str 6 61809703137132,.str 6 62909214764908,.str 6 53017905082220,.str 6 54117416709996,.str 6 55216928337772,.str 6 56316439965548,.str 6 57415951593324,.str 6 58515463221100,.str 6 59614974848876,.str 6 60714486476652,.str 6 61813998104428,.str 6 62913509732204,.str 6 53022200049516,.str 6 54121711677292,.str 6 55221223305068,.str 6 56320734932844,.str 6 57420246560620,.str 6 58519758188396,.str 6 59619269816172,.str 6 60718781443948,.str 6 61818293071724,.str 6 62917804699500,.str 6 52983562121068,.str 6 54083073748844,.str 6 55182585376620,.str 6 56282097004396,.str 6 57381608632172,.str 6 58481120259948,.str 6 59580631887724,.str 6 60680143515500,.str 6 61779655143276,.str 6 62879166771052,.str 6 52987857088364,.str 6 54087368716140,.str 6 55186880343916,.str 6 56286391971692,.str 6 57385903599468,.str 6 58485415227244,.str 6 59584926855020]
def tbf:AV:=.tab kS8 dom8 [.str 6 60684438482796,.str 6 61783950110572,.str 6 62883461738348,.str 6 52992152055660,.str 6 54091663683436,.str 6 55191175311212,.str 6 56290686938988,.str 6 57390198566764,.str 6 58489710194540,.str 6 59589221822316,.str 6 60688733450092,.str 6 61788245077868,.str 6 62887756705644,.str 6 52996447022956,.str 6 54095958650732,.str 6 55195470278508,.str 6 56294981906284,.str 6 57394493534060,.str 6 58494005161836,.str 6 59593516789612,.str 6 60693028417388,.str 6 61792540045164,.str 6 62892051672940,.str 6 53000741990252,.str 6 54100253618028,.str 6 55199765245804,.str 6 56299276873580,.str 6 57398788501356,.str 6 58498300129132,.str 6 59597811756908,.str 6 60697323384684,.str 6 61796835012460,.str 6 62896346640236,.str 6 53005036957548,.str 6 54104548585324,.str 6 55204060213100,.str 6 56303571840876,.str 6 57403083468652,.str 6 58502595096428]
def cl (i o:Int) (p q:AV) (f g n m:Int) (d:AV):List AV:=[.ptr k0 0,.agg [.int .i64 6,.str 0 0,.str 0 0,.str 0 0,.nilSlice,.int .i64 i,.int .i64 o,p,q,.int .i64 f,.int .i64 g,.int .i64 n,.int .i64 m,d]]
def an (s n k m:Int) (d ns:AV):AV:=.tup [.agg [.int .i64 0,.int .i64 0,.int .i64 0,.str 0 0,.nilSlice,.nilSlice,.int .i64 s,.int .i64 n,.int .i64 k,.int .i64 m,d,ns,.int .i64 0,.int .i64 0],.int .i64 0]
def S0 (x0 x1:Key) (y0 y1:AV):Key × AObj:=(x0,.cells 90 [.slice x1 0 4194304 (.is 4194304),.bool false,.bool false,y0,y1] false 0)
def S1 (x0 x1 x2 x3 x4:Key) (y0 y1:AV):Key × AObj:=(x0,.cells 175 [.ptr x1 0,.ptr x2 0,.ptr x3 0,y0,.nilPtr,.nilPtr,.nilPtr,.nilPtr,.nilPtr,.nilPtr,.nilPtr,.nilPtr,.slice x4 0 16384 (.is 16384),y1,.bool false] false 0)
def S2 (x0:Key):Key × AObj:=(x0,.map [] 0)
def S3 (x0:Key) (y0:AV):Key × AObj:=(x0,.cells 3 [y0] true 0)
def S4 (x0:Key):Key × AObj:=(x0,.cells 279 [.ustr 256,.bool false,.int .i64 0,.bool true] false 0)
def S5 (x0 x1 x2 x3 x4 x5 x6 x7:Key) (y0:AV):Key × AObj:=(x0,.cells 69 [.ptr x1 0,.ptr x2 0,.ptr x3 0,.ptr x4 0,.map x5,.map x6,y0,.bool false,.slice x7 0 1 (.more 5)] false 0)
def S6 (x0 x1 x2:Key):Key × AObj:=(x0,.cells 142 [.slice x1 0 1 (.more 4),.slice x2 0 1 (.more 4)] true 0)
def S7 (x0 x1:Key) (y0 y1 y2:AV):Key × AObj:=(x0,.cells 144 [.slice x1 0 1 (.more 4),y0,y1,y2,.nilSlice] false 0)
def S8 (x0:Key):Key × AObj:=(x0,.cells 196 [.str 1 100,.int .i64 1,.int .i64 493,.str 0 0] true 0)
def S9 (x0:Key):Key × AObj:=(x0,.cells 196 [.str 1 100,.int .i64 4,.int .i64 0,.str 0 0] true 0)
def Sa (x0:Key):Key × AObj:=(x0,.cells 279 [.ustr 256,.bool false,.int .i64 0,.bool false] false 0)
def Sb (x0 x1 x2:Key) (y0 y1 y2 y3 y4 y5 y6:AV):Key × AObj:=(x0,.cells 274 [y0,y1,y2,.ptr x1 0,y3,.nilMap,.nilSlice,.nilSlice,.slice x2 0 1 (.is 1),y4,y5,y6] false 0)
def Sc (x0:Key) (y0:AV):Key × AObj:=(x0,.cells 3 [y0] false 0)
def Sd (x0:Key):Key × AObj:=(x0,.cells 3 [.int .i64 50] false 0)
def Se (x0:Key):Key × AObj:=(x0,.cells 3 [.int .i64 52] false 0)
def Sf (x0 x1 x2:Key) (y0:AV):Key × AObj:=(x0,.cells 328 [.ptr x1 0,.ptr x2 0,.nilPtr,.nilPtr,.nilPtr,.nilPtr,.nilPtr,.nilPtr,.nilPtr,.nilPtr,y0] false 0)
def Sg (x0:Key):Key × AObj:=(x0,.lmap [])
def Sh (x0:Key):Key × AObj:=(x0,.cells 3 [.int .i64 51] false 0)
def Si (x0:Key) (y0 y1 y2 y3 y4 y5:AV):Key × AObj:=(x0,.map [(y0,.agg [y1,y2],0),(y3,.agg [y4,y5],1)] 2)
def Sj (x0 x1 x2:Key):Key × AObj:=(x0,.cells 274 [.int .i64 2,.int .i64 63,.str 5 435744240755,.ptr x1 0,.int .i64 2,.nilMap,.nilSlice,.nilSlice,.slice x2 0 1 (.is 1),.int .i64 0,.int .i64 0,.int .i64 0] false 0)
def Sk (x0:Key):Key × AObj:=(x0,.bits 4 16384 42784196460019711)
def Sl (x0 x1 x2 x3 x4 x5:Key):Key × AObj:=(x0,.cells 170 [.ptr x1 0,.ptr x2 0,.ptr x3 0,.ptr x4 0,.ptr x5 0] true 0)
def Sm (x0 x1 x2:Key):Key × AObj:=(x0,.cells 274 [.int .i64 2,.int .i64 63,.str 5 435744240755,.ptr x1 0,.int .i64 0,.nilMap,.nilSlice,.nilSlice,.slice x2 0 1 (.is 1),.int .i64 0,.int .i64 0,.int .i64 0] false 0)
def Sn (x0:Key):Key × AObj:=(x0,.cells 3 [.int .i64 55] false 0)
def So (x0 x1 x2:Key):Key × AObj:=(x0,.cells 328 [.ptr x1 0,.ptr x2 0,.nilPtr,.nilPtr,.nilPtr,.nilPtr,.nilPtr,.nilPtr,.nilPtr,.nilPtr,.int .i64 1] false 0)
def Sp (x0 x1 x2:Key) (y0 y1 y2 y3:AV):Key × AObj:=(x0,.cells 390 [y0,y1,y2,.map x1,.ptr x2 0,y3] false 0)
def Sq (x0 x1 x2 x3 x4 x5 x6 x7:Key):Key × AObj:=(x0,.cells 69 [.ptr x1 0,.ptr x2 0,.ptr x3 0,.ptr x4 0,.map x5,.map x6,.int .i64 4,.bool false,.slice x7 0 1 (.more 5)] false 0)
def Sr (x0 x1:Key):Key × AObj:=(x0,.cells 90 [.slice x1 0 4194304 (.is 4194304),.bool false,.bool false,.int .i64 (-192),.int .i64 192] false 0)
def Ss (x0:Key):Key × AObj:=(x0,.map [(.int .i64 1,.agg [.str 12 14909942882012283808127726898,.int .i64 4],0),(.int .i64 2,.agg [.str 12 14909942882012283808127726898,.int .i64 2],1)] 2)
def St (x0:Key):Key × AObj:=(x0,.bits 4 16384 22517998136852479)
def Su (x0:Key):Key × AObj:=(x0,.map [] 58)
def Sv (x0 x1 x2 x3:Key):Key × AObj:=(x0,.map [(.str 6 52970673484405,.ptr x1 0,5),(.str 6 52970707038581,.ptr x2 0,11),(.str 5 435744240755,.ptr x3 0,13)] 14)
def Sw (x0:Key):Key × AObj:=(x0,.cells 3 [.int .i64 49,.int .i64 53] true 0)
def Sx (x0:Key):Key × AObj:=(x0,.cells 3 [.int .i64 54] false 0)
def Sy (x0 x1 x2:Key):Key × AObj:=(x0,.cells 328 [.ptr x1 0,.ptr x2 0,.nilPtr,.nilPtr,.nilPtr,.nilPtr,.nilPtr,.nilPtr,.nilPtr,.nilPtr,.int .i64 2] false 0)
def Sz (x0 x1 x2:Key):Key × AObj:=(x0,.lmap [(.str 1 100,.ptr x1 0),(.str 1 108,.ptr x2 0)])
def S10 (x0 x1 x2 x3 x4 x5 x6 x7:Key):Key × AObj:=(x0,.cells 69 [.ptr x1 0,.ptr x2 0,.ptr x3 0,.ptr x4 0,.map x5,.map x6,.int .i64 5,.bool false,.slice x7 0 1 (.more 5)] false 0)
def S11 (x0 x1:Key):Key × AObj:=(x0,.cells 90 [.slice x1 0 4194304 (.is 4194304),.bool false,.bool false,.int .i64 (-222),.int .i64 222] false 0)
def S12 (x0:Key):Key × AObj:=(x0,.map [(.int .i64 1,.agg [.str 12 14909942882012283808127726898,.int .i64 4],0),(.int .i64 2,.agg [.str 12 14909942882012283808127726898,.int .i64 5],1)] 2)
def S13 (x0:Key):Key × AObj:=(x0,.bits 4 16384 43910096366862335)
def S14 (x0:Key):Key × AObj:=(x0,.map [] 67)
def S15 (x0 x1 x2 x3:Key):Key × AObj:=(x0,.map [(.str 6 52970707038581,.ptr x1 0,11),(.str 6 52970723816053,.ptr x2 0,14),(.str 5 435744240755,.ptr x3 0,16)] 17)
def S16 (x0 x1 x2:Key):Key × AObj:=(x0,.cells 274 [.int .i64 2,.int .i64 63,.str 5 435744240755,.ptr x1 0,.int .i64 1,.nilMap,.nilSlice,.nilSlice,.slice x2 0 1 (.is 1),.int .i64 0,.int .i64 0,.int .i64 0] false 0)
def S17 (x0 x1:Key):Key × AObj:=(x0,.lmap [(.str 2 13167,.ptr x1 0)])
def S18 (x0 x1 x2:Key):Key × AObj:=(x0,.cells 274 [.int .i64 2,.int .i64 12,.str 6 52970723816053,.ptr x1 0,.int .i64 2,.nilMap,.nilSlice,.nilSlice,.slice x2 0 1 (.is 1),.int .i64 0,.int .i64 0,.int .i64 0] false 0)
def S19 (x0 x1 x2:Key):Key × AObj:=(x0,.cells 390 [.int .i64 1,.int .i64 0,.str 0 0,.map x1,.ptr x2 0,.str 2 13167] false 0)
def S1a (x0 x1 x2 x3 x4 x5 x6 x7:Key):Key × AObj:=(x0,.cells 69 [.ptr x1 0,.ptr x2 0,.ptr x3 0,.ptr x4 0,.map x5,.map x6,.int .i64 6,.bool false,.slice x7 0 1 (.more 5)] false 0)
def S1b (x0 x1:Key):Key × AObj:=(x0,.cells 90 [.slice x1 0 4194304 (.is 4194304),.bool false,.bool false,.int .i64 (-252),.int .i64 252] false 0)
def S1c (x0:Key):Key × AObj:=(x0,.map [(.int .i64 1,.agg [.str 12 14909942882012283808127726898,.int .i64 6],0),(.int .i64 2,.agg [.str 12 14909942882012283808127726898,.int .i64 5],1)] 2)
def S1d (x0:Key):Key × AObj:=(x0,.bits 4 16384 24769797950537727)
def S1e (x0:Key):Key × AObj:=(x0,.map [] 76)
def S1f (x0 x1 x2 x3:Key):Key × AObj:=(x0,.map [(.str 6 52970723816053,.ptr x1 0,14),(.str 6 52970740593013,.ptr x2 0,17),(.str 5 435744240755,.ptr x3 0,19)] 20)
def S1g (x0 x1 x2:Key):Key × AObj:=(x0,.cells 328 [.ptr x1 0,.ptr x2 0,.nilPtr,.nilPtr,.nilPtr,.nilPtr,.nilPtr,.nilPtr,.nilPtr,.nilPtr,.int .i64 3] false 0)
def S1h (x0 x1:Key):Key × AObj:=(x0,.lmap [(.str 2 12390,.ptr x1 0)])
def S1i (x0 x1 x2:Key):Key × AObj:=(x0,.cells 390 [.int .i64 2,.int .i64 420,.str 0 0,.map x1,.ptr x2 0,.str 2 12390] false 0)
def S1j (x0 x1 x2 x3 x4 x5 x6 x7:Key):Key × AObj:=(x0,.cells 69 [.ptr x1 0,.ptr x2 0,.ptr x3 0,.ptr x4 0,.map x5,.map x6,.int .i64 7,.bool false,.slice x7 0 1 (.more 5)] false 0)
def S1k (x0 x1:Key):Key × AObj:=(x0,.cells 90 [.slice x1 0 4194304 (.is 4194304),.bool false,.bool false,.int .i64 (-282),.int .i64 282] false 0)
def S1l (x0:Key):Key × AObj:=(x0,.map [(.int .i64 1,.agg [.str 12 14909942882012283808127726898,.int .i64 7],0),(.int .i64 2,.agg [.str 12 14909942882012283808127726898,.int .i64 5],1)] 2)
def S1m (x0:Key):Key × AObj:=(x0,.map [] 85)
def S1n (x0 x1 x2 x3:Key):Key × AObj:=(x0,.map [(.str 6 52970723816053,.ptr x1 0,14),(.str 6 52970757370229,.ptr x2 0,20),(.str 5 435744240755,.ptr x3 0,22)] 23)
def S1o (x0 x1 x2:Key):Key × AObj:=(x0,.cells 390 [.int .i64 2,.int .i64 420,.str 4 1954047348,.map x1,.ptr x2 0,.str 2 12390] false 0)
def S1p (x0 x1 x2 x3 x4 x5 x6 x7:Key):Key × AObj:=(x0,.cells 69 [.ptr x1 0,.ptr x2 0,.ptr x3 0,.ptr x4 0,.map x5,.map x6,.int .i64 8,.bool false,.slice x7 0 1 (.more 5)] false 0)
def S1q (x0 x1:Key):Key × AObj:=(x0,.cells 90 [.slice x1 0 4194304 (.is 4194304),.bool false,.bool false,.int .i64 (-312),.int .i64 312] false 0)
def S1r (x0:Key):Key × AObj:=(x0,.map [(.int .i64 1,.agg [.str 12 14909942882012283808127726898,.int .i64 8],0),(.int .i64 2,.agg [.str 12 14909942882012283808127726898,.int .i64 5],1)] 2)
def S1s (x0:Key):Key × AObj:=(x0,.map [] 94)
def S1t (x0 x1 x2 x3:Key):Key × AObj:=(x0,.map [(.str 6 52970723816053,.ptr x1 0,14),(.str 6 52970774147445,.ptr x2 0,23),(.str 5 435744240755,.ptr x3 0,25)] 26)
def S1u (x0 x1:Key):Key × AObj:=(x0,.lmap [(.str 1 103,.ptr x1 0)])
def S1v (x0 x1 x2:Key):Key × AObj:=(x0,.cells 390 [.int .i64 2,.int .i64 420,.str 4 1954047348,.map x1,.ptr x2 0,.str 1 103] false 0)
def S1w (x0 x1 x2 x3 x4 x5 x6 x7:Key):Key × AObj:=(x0,.cells 69 [.ptr x1 0,.ptr x2 0,.ptr x3 0,.ptr x4 0,.map x5,.map x6,.int .i64 9,.bool false,.slice x7 0 1 (.more 5)] false 0)
def S1x (x0 x1:Key):Key × AObj:=(x0,.cells 90 [.slice x1 0 4194304 (.is 4194304),.bool false,.bool false,.int .i64 (-342),.int .i64 342] false 0)
def S1y (x0:Key):Key × AObj:=(x0,.map [(.int .i64 1,.agg [.str 12 14909942882012283808127726898,.int .i64 8],0),(.int .i64 2,.agg [.str 12 14909942882012283808127726898,.int .i64 9],1)] 2)
def S1z (x0:Key):Key × AObj:=(x0,.bits 4 16384 40532396646334463)
def S20 (x0:Key):Key × AObj:=(x0,.map [] 103)
def S21 (x0 x1 x2 x3:Key):Key × AObj:=(x0,.map [(.str 6 52970774147445,.ptr x1 0,23),(.str 6 52970790924917,.ptr x2 0,26),(.str 5 435744240755,.ptr x3 0,28)] 29)
def S22 (x0 x1 x2:Key):Key × AObj:=(x0,.cells 274 [.int .i64 2,.int .i64 21,.str 6 52970790924917,.ptr x1 0,.int .i64 0,.nilMap,.nilSlice,.nilSlice,.slice x2 0 1 (.is 1),.int .i64 0,.int .i64 0,.int .i64 0] false 0)
def S23 (x0 x1 x2:Key):Key × AObj:=(x0,.lmap [(.str 2 13167,.ptr x1 0),(.str 2 13935,.ptr x2 0)])
def S24 (x0 x1 x2:Key):Key × AObj:=(x0,.cells 390 [.int .i64 1,.int .i64 0,.str 0 0,.map x1,.ptr x2 0,.str 2 13935] false 0)
def S25 (x0 x1 x2 x3 x4 x5 x6 x7:Key):Key × AObj:=(x0,.cells 69 [.ptr x1 0,.ptr x2 0,.ptr x3 0,.ptr x4 0,.map x5,.map x6,.int .i64 10,.bool false,.slice x7 0 1 (.more 5)] false 0)
def S26 (x0 x1:Key):Key × AObj:=(x0,.cells 90 [.slice x1 0 4194304 (.is 4194304),.bool false,.bool false,.int .i64 (-372),.int .i64 372] false 0)
def S27 (x0:Key):Key × AObj:=(x0,.map [(.int .i64 1,.agg [.str 12 14909942882012283808127726898,.int .i64 10],0),(.int .i64 2,.agg [.str 12 14909942882012283808127726898,.int .i64 9],1)] 2)
def S28 (x0:Key):Key × AObj:=(x0,.bits 4 16384 25895697857380351)
def S29 (x0:Key):Key × AObj:=(x0,.map [] 112)
def S2a (x0 x1 x2 x3:Key):Key × AObj:=(x0,.map [(.str 6 52970790924917,.ptr x1 0,26),(.str 7 13560483888836981,.ptr x2 0,29),(.str 5 435744240755,.ptr x3 0,31)] 32)
def S2b (x0 x1 x2:Key):Key × AObj:=(x0,.cells 328 [.ptr x1 0,.ptr x2 0,.nilPtr,.nilPtr,.nilPtr,.nilPtr,.nilPtr,.nilPtr,.nilPtr,.nilPtr,.int .i64 4] false 0)
def S2c (x0 x1 x2:Key):Key × AObj:=(x0,.lmap [(.str 1 103,.ptr x1 0),(.str 2 28265,.ptr x2 0)])
def S2d (x0 x1 x2:Key):Key × AObj:=(x0,.cells 390 [.int .i64 1,.int .i64 420,.str 0 0,.map x1,.ptr x2 0,.str 2 28265] false 0)
def S2e (x0 x1 x2 x3 x4 x5 x6 x7:Key):Key × AObj:=(x0,.cells 69 [.ptr x1 0,.ptr x2 0,.ptr x3 0,.ptr x4 0,.map x5,.map x6,.int .i64 11,.bool false,.slice x7 0 1 (.more 5)] false 0)
def S2f (x0 x1:Key):Key × AObj:=(x0,.cells 90 [.slice x1 0 4194304 (.is 4194304),.bool false,.bool false,.int .i64 (-402),.int .i64 402] false 0)
def S2g (x0:Key):Key × AObj:=(x0,.map [(.int .i64 1,.agg [.str 12 14909942882012283808127726898,.int .i64 10],0),(.int .i64 2,.agg [.str 12 14909942882012283808127726898,.int .i64 11],1)] 2)
def S2h (x0:Key):Key × AObj:=(x0,.map [] 121)
def S2i (x0 x1 x2 x3:Key):Key × AObj:=(x0,.map [(.str 7 13560483888836981,.ptr x1 0,29),(.str 7 13560488183804533,.ptr x2 0,32),(.str 5 435744240755,.ptr x3 0,34)] 35)
def S2j (x0 x1 x2:Key):Key × AObj:=(x0,.cells 274 [.int .i64 2,.int .i64 30,.str 7 13560488183804533,.ptr x1 0,.int .i64 1,.nilMap,.nilSlice,.nilSlice,.slice x2 0 1 (.is 1),.int .i64 0,.int .i64 0,.int .i64 0] false 0)
def S2k (x0 x1 x2 x3:Key):Key × AObj:=(x0,.lmap [(.str 2 13167,.ptr x1 0),(.str 2 13935,.ptr x2 0),(.str 2 14703,.ptr x3 0)])
def S2l (x0 x1 x2:Key):Key × AObj:=(x0,.cells 390 [.int .i64 1,.int .i64 0,.str 0 0,.map x1,.ptr x2 0,.str 2 14703] false 0)
def S2m (x0 x1 x2 x3 x4 x5 x6 x7:Key):Key × AObj:=(x0,.cells 69 [.ptr x1 0,.ptr x2 0,.ptr x3 0,.ptr x4 0,.map x5,.map x6,.int .i64 12,.bool false,.slice x7 0 1 (.more 5)] false 0)
def S2n (x0 x1:Key):Key × AObj:=(x0,.cells 90 [.slice x1 0 4194304 (.is 4194304),.bool false,.bool false,.int .i64 (-432),.int .i64 432] false 0)
def S2o (x0:Key):Key × AObj:=(x0,.map [(.int .i64 1,.agg [.str 12 14909942882012283808127726898,.int .i64 12],0),(.int .i64 2,.agg [.str 12 14909942882012283808127726898,.int .i64 11],1)] 2)
def S2p (x0:Key):Key × AObj:=(x0,.map [] 130)
def S2q (x0 x1 x2 x3:Key):Key × AObj:=(x0,.map [(.str 7 13560488183804533,.ptr x1 0,32),(.str 7 13560492478771573,.ptr x2 0,35),(.str 5 435744240755,.ptr x3 0,37)] 38)
def S2r (x0 x1 x2 x3 x4 x5 x6 x7:Key):Key × AObj:=(x0,.cells 69 [.ptr x1 0,.ptr x2 0,.ptr x3 0,.ptr x4 0,.map x5,.map x6,.int .i64 13,.bool false,.slice x7 0 1 (.more 5)] false 0)
def S2s (x0 x1:Key):Key × AObj:=(x0,.cells 90 [.slice x1 0 4194304 (.is 4194304),.bool false,.bool false,.int .i64 (-462),.int .i64 462] false 0)
def S2t (x0:Key):Key × AObj:=(x0,.map [(.int .i64 1,.agg [.str 12 14909942882012283808127726898,.int .i64 13],0),(.int .i64 2,.agg [.str 12 14909942882012283808127726898,.int .i64 11],1)] 2)
def S2u (x0:Key):Key × AObj:=(x0,.map [] 139)
def S2v (x0 x1 x2 x3:Key):Key × AObj:=(x0,.map [(.str 7 13560488183804533,.ptr x1 0,32),(.str 7 13560496773738869,.ptr x2 0,38),(.str 5 435744240755,.ptr x3 0,40)] 41)
def S2w (x0 x1 x2 x3 x4 x5 x6 x7:Key):Key × AObj:=(x0,.cells 69 [.ptr x1 0,.ptr x2 0,.ptr x3 0,.ptr x4 0,.map x5,.map x6,.int .i64 14,.bool false,.slice x7 0 1 (.more 5)] false 0)
def S2x (x0 x1:Key):Key × AObj:=(x0,.cells 90 [.slice x1 0 4194304 (.is 4194304),.bool false,.bool false,.int .i64 (-492),.int .i64 492] false 0)
def S2y (x0:Key):Key × AObj:=(x0,.map [(.int .i64 1,.agg [.str 12 14909942882012283808127726898,.int .i64 13],0),(.int .i64 2,.agg [.str 12 14909942882012283808127726898,.int .i64 14],1)] 2)
def S2z (x0:Key):Key × AObj:=(x0,.map [] 148)
def S30 (x0 x1 x2 x3:Key):Key × AObj:=(x0,.map [(.str 7 13560496773738869,.ptr x1 0,38),(.str 7 13560501068706421,.ptr x2 0,41),(.str 5 435744240755,.ptr x3 0,43)] 44)
def S31 (x0 x1 x2:Key):Key × AObj:=(x0,.cells 274 [.int .i64 2,.int .i64 40,.str 7 13560501068706421,.ptr x1 0,.int .i64 0,.nilMap,.nilSlice,.nilSlice,.slice x2 0 1 (.is 1),.int .i64 0,.int .i64 0,.int .i64 0] false 0)
def S32 (x0 x1 x2 x3 x4:Key):Key × AObj:=(x0,.lmap [(.str 2 13167,.ptr x1 0),(.str 2 13935,.ptr x2 0),(.str 2 14703,.ptr x3 0),(.str 3 3289455,.ptr x4 0)])
def S33 (x0 x1 x2:Key):Key × AObj:=(x0,.cells 390 [.int .i64 1,.int .i64 0,.str 0 0,.map x1,.ptr x2 0,.str 3 3289455] false 0)
def S34 (x0 x1 x2:Key):Key × AObj:=(x0,.cells 274 [.int .i64 2,.int .i64 32,.str 6 52970740593013,.ptr x1 0,.int .i64 1,.nilMap,.nilSlice,.nilSlice,.slice x2 0 1 (.is 1),.int .i64 0,.int .i64 0,.int .i64 0] false 0)
def S35 (x0 x1 x2:Key):Key × AObj:=(x0,.cells 274 [.int .i64 2,.int .i64 36,.str 6 52970757370229,.ptr x1 0,.int .i64 0,.nilMap,.nilSlice,.nilSlice,.slice x2 0 1 (.is 1),.int .i64 0,.int .i64 0,.int .i64 0] false 0)
def S36 (x0 x1 x2:Key):Key × AObj:=(x0,.cells 274 [.int .i64 2,.int .i64 35,.str 6 52970740593013,.ptr x1 0,.int .i64 1,.nilMap,.nilSlice,.nilSlice,.slice x2 0 1 (.is 1),.int .i64 0,.int .i64 0,.int .i64 0] false 0)
def S37 (x0 x1 x2:Key):Key × AObj:=(x0,.cells 274 [.int .i64 2,.int .i64 39,.str 6 52970757370229,.ptr x1 0,.int .i64 0,.nilMap,.nilSlice,.nilSlice,.slice x2 0 1 (.is 1),.int .i64 0,.int .i64 0,.int .i64 0] false 0)
def S38 (x0 x1 x2:Key):Key × AObj:=(x0,.cells 274 [.int .i64 2,.int .i64 34,.str 6 52970740593013,.ptr x1 0,.int .i64 1,.nilMap,.nilSlice,.nilSlice,.slice x2 0 1 (.is 1),.int .i64 0,.int .i64 0,.int .i64 0] false 0)
def S39 (x0 x1 x2:Key):Key × AObj:=(x0,.cells 274 [.int .i64 2,.int .i64 38,.str 6 52970757370229,.ptr x1 0,.int .i64 0,.nilMap,.nilSlice,.nilSlice,.slice x2 0 1 (.is 1),.int .i64 0,.int .i64 0,.int .i64 0] false 0)
def S3a (x0 x1:Key):Key × AObj:=(x0,.lmap [(tb0,.ptr x1 0)])
def S3b (x0 x1 x2:Key):Key × AObj:=(x0,.cells 390 [.int .i64 2,.int .i64 420,.str 0 0,.map x1,.ptr x2 0,tb0] false 0)
def S3c (x0 x1 x2:Key):Key × AObj:=(x0,.cells 390 [.int .i64 2,.int .i64 420,.str 4 1954047348,.map x1,.ptr x2 0,tb0] false 0)
def S3d (x0 x1:Key):Key × AObj:=(x0,.lmap [(tb1,.ptr x1 0)])
def S3e (x0 x1 x2:Key):Key × AObj:=(x0,.cells 390 [.int .i64 2,.int .i64 420,.str 0 0,.map x1,.ptr x2 0,tb1] false 0)
def S3f (x0 x1 x2:Key):Key × AObj:=(x0,.cells 390 [.int .i64 2,.int .i64 420,.str 4 1954047348,.map x1,.ptr x2 0,tb1] false 0)
def S3g (x0 x1 x2:Key):Key × AObj:=(x0,.cells 274 [.int .i64 2,.int .i64 33,.str 6 52970740593013,.ptr x1 0,.int .i64 1,.nilMap,.nilSlice,.nilSlice,.slice x2 0 1 (.is 1),.int .i64 0,.int .i64 0,.int .i64 0] false 0)
def S3h (x0 x1 x2:Key):Key × AObj:=(x0,.cells 274 [.int .i64 2,.int .i64 37,.str 6 52970757370229,.ptr x1 0,.int .i64 0,.nilMap,.nilSlice,.nilSlice,.slice x2 0 1 (.is 1),.int .i64 0,.int .i64 0,.int .i64 0] false 0)
def S3i (x0 x1 x2:Key):Key × AObj:=(x0,.cells 274 [.int .i64 2,.int .i64 36,.str 6 52970740593013,.ptr x1 0,.int .i64 1,.nilMap,.nilSlice,.nilSlice,.slice x2 0 1 (.is 1),.int .i64 0,.int .i64 0,.int .i64 0] false 0)
def S3j (x0 x1 x2:Key):Key × AObj:=(x0,.cells 274 [.int .i64 2,.int .i64 40,.str 6 52970757370229,.ptr x1 0,.int .i64 0,.nilMap,.nilSlice,.nilSlice,.slice x2 0 1 (.is 1),.int .i64 0,.int .i64 0,.int .i64 0] false 0)
def S3k (x0 x1:Key):Key × AObj:=(x0,.lmap [(tb2,.ptr x1 0)])
def S3l (x0 x1 x2:Key):Key × AObj:=(x0,.cells 390 [.int .i64 2,.int .i64 420,.str 0 0,.map x1,.ptr x2 0,tb2] false 0)
def S3m (x0 x1 x2:Key):Key × AObj:=(x0,.cells 390 [.int .i64 2,.int .i64 420,.str 4 1954047348,.map x1,.ptr x2 0,tb2] false 0)
def S3n (x0 x1:Key):Key × AObj:=(x0,.lmap [(tb3,.ptr x1 0)])
def S3o (x0 x1 x2:Key):Key × AObj:=(x0,.cells 390 [.int .i64 2,.int .i64 420,.str 0 0,.map x1,.ptr x2 0,tb3] false 0)
def S3p (x0 x1 x2:Key):Key × AObj:=(x0,.cells 390 [.int .i64 2,.int .i64 420,.str 4 1954047348,.map x1,.ptr x2 0,tb3] false 0)
def S3q (x0 x1:Key):Key × AObj:=(x0,.lmap [(tb4,.ptr x1 0)])
def S3r (x0 x1 x2:Key):Key × AObj:=(x0,.cells 390 [.int .i64 2,.int .i64 420,.str 0 0,.map x1,.ptr x2 0,tb4] false 0)
def S3s (x0 x1 x2:Key):Key × AObj:=(x0,.cells 390 [.int .i64 2,.int .i64 420,.str 4 1954047348,.map x1,.ptr x2 0,tb4] false 0)
def S3t (x0 x1 x2:Key):Key × AObj:=(x0,.cells 274 [.int .i64 2,.int .i64 37,.str 6 52970740593013,.ptr x1 0,.int .i64 1,.nilMap,.nilSlice,.nilSlice,.slice x2 0 1 (.is 1),.int .i64 0,.int .i64 0,.int .i64 0] false 0)
def S3u (x0 x1 x2:Key):Key × AObj:=(x0,.cells 274 [.int .i64 2,.int .i64 41,.str 6 52970757370229,.ptr x1 0,.int .i64 0,.nilMap,.nilSlice,.nilSlice,.slice x2 0 1 (.is 1),.int .i64 0,.int .i64 0,.int .i64 0] false 0)
def S3v (x0 x1:Key):Key × AObj:=(x0,.lmap [(tb5,.ptr x1 0)])
def S3w (x0 x1 x2:Key):Key × AObj:=(x0,.cells 390 [.int .i64 2,.int .i64 420,.str 0 0,.map x1,.ptr x2 0,tb5] false 0)
def S3x (x0 x1 x2:Key):Key × AObj:=(x0,.cells 390 [.int .i64 2,.int .i64 420,.str 4 1954047348,.map x1,.ptr x2 0,tb5] false 0)
def S3y (x0 x1:Key):Key × AObj:=(x0,.lmap [(tb6,.ptr x1 0)])
def S3z (x0 x1 x2:Key):Key × AObj:=(x0,.cells 390 [.int .i64 2,.int .i64 420,.str 0 0,.map x1,.ptr x2 0,tb6] false 0)
def S40 (x0 x1 x2:Key):Key × AObj:=(x0,.cells 390 [.int .i64 2,.int .i64 420,.str 4 1954047348,.map x1,.ptr x2 0,tb6] false 0)
def S41 (x0 x1:Key):Key × AObj:=(x0,.lmap [(tb7,.ptr x1 0)])
def S42 (x0 x1 x2:Key):Key × AObj:=(x0,.cells 390 [.int .i64 2,.int .i64 420,.str 0 0,.map x1,.ptr x2 0,tb7] false 0)
def S43 (x0 x1 x2:Key):Key × AObj:=(x0,.cells 390 [.int .i64 2,.int .i64 420,.str 4 1954047348,.map x1,.ptr x2 0,tb7] false 0)
def Z0:List AV:=cl 2 6 (.str 2 13167) (.str 0 0) 0 0 0 0 (.str 0 0)
def Z1:List AV:=cl 1 5 (.str 4 812003180) (.str 0 0) 0 0 0 420 (.str 6 127978876068212)
def Z2:List AV:=cl 1 8 (.str 4 812003180) (.str 0 0) 0 0 0 0 (.str 4 1954047348)
def Z3:List AV:=cl 1 13 (.str 4 812003180) (.str 3 6762348) 0 0 0 0 (.str 0 0)
def Z4:List AV:=cl 2 6 (.str 2 13935) (.str 0 0) 0 0 0 0 (.str 0 0)
def Z5:List AV:=cl 1 6 (.str 4 1852387180) (.str 0 0) 0 0 0 420 (.str 6 127978876068212)
def Z6:List AV:=cl 1 2 (.str 3 6762340) (.str 0 0) 0 0 512 0 (.str 0 0)
def Z7:List AV:=cl 1 3 (.str 1 108) (.str 0 0) 0 0 0 0 (.str 0 0)
def Z8:List AV:=cl 2 6 (.str 2 14703) (.str 0 0) 0 0 0 0 (.str 0 0)
def Z9:List AV:=cl 1 3 (.str 1 100) (.str 0 0) 0 0 0 0 (.str 0 0)
def Za:List AV:=cl 1 12 (.str 4 1852387180) (.str 0 0) 0 0 0 0 (.str 0 0)
def Zb:List AV:=cl 1 11 (.str 3 6762348) (.str 0 0) 0 0 0 0 (.str 0 0)
def Zc:List AV:=cl 2 6 (.str 3 3289455) (.str 0 0) 0 0 0 0 (.str 0 0)
def Zd:List AV:=cl 1 12 (.str 1 108) (.str 0 0) 0 0 0 0 (.str 0 0)
def Ze:List AV:=cl 1 11 (.str 1 108) (.str 0 0) 0 0 0 0 (.str 0 0)
def Zf:AV:=an 0 0 0 0 (.str 0 0) .nilSlice
def Zg:AV:=an 0 4 0 0 (.str 0 0) .nilSlice
def Zh:AV:=an 0 4 0 0 (.str 4 1954047348) .nilSlice
def Zi:AV:=an 3 0 0 0 (.str 0 0) .nilSlice
def Zj:List (Key × AObj):=[(ke,.dead),(k2f,.dead),(k1i,.dead)]
def Zk:List (Key × AObj):=[(ke,.dead),(k2a,.dead),(k1i,.dead),(k1y,.dead)]
def Zl:List (Key × AObj):=[(ke,.dead),(k1x,.dead),(k1i,.dead),(k1y,.dead)]
def Zm:List (Key × AObj):=[(ke,.dead),(k2f,.dead),(k1i,.dead),(k1y,.dead)]
def Zn:List (Key × AObj):=[(ke,.dead),(k2a,.dead),(k1i,.dead),(k1y,.dead),(k2b,.dead)]
def Zo:List (Key × AObj):=[(ke,.dead),(k1y,.dead),(k2b,.dead),(k2i,.dead)]
def Zp:List (Key × AObj):=[(ke,.dead),(k1x,.dead),(k1i,.dead),(k1y,.dead),(k2b,.dead),(k2i,.dead)]
def Zq:List (Key × AObj):=[(ke,.dead),(k2f,.dead),(k1i,.dead),(k1y,.dead),(k2b,.dead),(k2i,.dead)]
def Zr:List (Key × AObj):=[(ke,.dead),(k1x,.dead),(k1i,.dead),(k1y,.dead),(k2b,.dead)]
def Zs:List (Key × AObj):=[(ke,.dead),(k1y,.dead),(k2b,.dead)]
def Zt:List (Key × AObj):=[(ke,.dead),(k2f,.dead),(k1i,.dead),(k1y,.dead),(k2b,.dead)]
def Zu:List Key:=[k5,k6,k1i,k1l]
def Zv:List Key:=[k1x,k1z,k0,k1,ka,km,ku,k1e,k1f,k1n,k21]
def Zw:List Key:=[k2f,k2g,k0,k1,ka,km,ku,k1e,k2e]
def Zx:List Key:=[k2a,k2c,k0,k1,ka,km,ku,k1e]
def Zy:List Key:=[k1x,k1z,k0,k1,ka,km,ku,k1e]
def Zz:List Key:=[k2f,k2g,k0,k1,ka,km,ku,k1e]
def Z10:Key × AObj:=Sh k1z
def Z11:Key × AObj:=Sj k1i kr k1l
def Z12:Key × AObj:=Sd k2c
def Z13:Key × AObj:=Sl k1e k1i k2a k2f k1i k1i
def Z14:Key × AObj:=Sm k1i kr k1l
def Z15:Key × AObj:=Sn k1l
def Z16:Key × AObj:=Sq k0 k1 k2 k3 k4 k5 k6 kv
def Z17:Key × AObj:=Sl k1e k1x k2a k1i k1i k1i
def Z18:Key × AObj:=Sx k1l
def Z19:Key × AObj:=Sy k1r k1u k1u
def Z1a:Key × AObj:=S10 k0 k1 k2 k3 k4 k5 k6 kv
def Z1b:Key × AObj:=S13 ka
def Z1c:Key × AObj:=S15 ku k1x k2f k1i
def Z1d:Key × AObj:=Sl k1e k1x k1i k2f k1i k1i
def Z1e:Key × AObj:=S16 k1i kr k1l
def Z1f:Key × AObj:=S1a k0 k1 k2 k3 k4 k5 k6 kv
def Z1g:Key × AObj:=S1b k1 k7
def Z1h:Key × AObj:=S1c k6
def Z1i:Key × AObj:=S1d ka
def Z1j:Key × AObj:=S1e km
def Z1k:Key × AObj:=S1f ku k2f k2a k1i
def Z1l:Key × AObj:=S1g k1r k1u k1u
def Z1m:Key × AObj:=Sg k2o
def Z1n:Key × AObj:=S1j k0 k1 k2 k3 k4 k5 k6 kv
def Z1o:Key × AObj:=S1k k1 k7
def Z1p:Key × AObj:=S1l k6
def Z1q:Key × AObj:=S1m km
def Z1r:Key × AObj:=S1n ku k2f k1x k1i
def Z1s:Key × AObj:=S1p k0 k1 k2 k3 k4 k5 k6 kv
def Z1t:Key × AObj:=S1t ku k2f k2a k1i
def Z1u:Key × AObj:=S1u k2i k2p
def Z1v:Key × AObj:=S1w k0 k1 k2 k3 k4 k5 k6 kv
def Z1w:Key × AObj:=S21 ku k2a k1x k1i
def Z1x:Key × AObj:=S25 k0 k1 k2 k3 k4 k5 k6 kv
def Z1y:Key × AObj:=S2a ku k1x k2f k1i
def Z1z:Key × AObj:=S2e k0 k1 k2 k3 k4 k5 k6 kv
def Z20:Key × AObj:=S2i ku k2f k2a k1i
def Z21:Key × AObj:=S2k k2b k2l k2n k2t
def Z22:Key × AObj:=S2m k0 k1 k2 k3 k4 k5 k6 kv
def Z23:Key × AObj:=S2q ku k2a k1x k1i
def Z24:Key × AObj:=S2r k0 k1 k2 k3 k4 k5 k6 kv
def Z25:Key × AObj:=S2v ku k2a k2f k1i
def Z26:Key × AObj:=S2w k0 k1 k2 k3 k4 k5 k6 kv
def Z27:Key × AObj:=S30 ku k2f k1x k1i
def Z28:Key × AObj:=S32 k2b k2l k2n k2t k2p
def Z29:Key × AObj:=S34 k2a kr k2c
def Z2a:Key × AObj:=S35 k1x kr k1z
def Z2b:Key × AObj:=S36 k2a kr k2c
def Z2c:Key × AObj:=S37 k1x kr k1z
def Z2d:Key × AObj:=S38 k2a kr k2c
def Z2e:Key × AObj:=S39 k1x kr k1z
def Z2f:Key × AObj:=S3g k2a kr k2c
def Z2g:Key × AObj:=S3h k1x kr k1z
def Z2h:Key × AObj:=S3i k2a kr k2c
def Z2i:Key × AObj:=S3j k1x kr k1z
def s0:RT AObj:=updS [(kS0,.dom dom0),(kS1,.dom dom1),(kS2,.dom dom2),(kS3,.dom dom3),(kS4,.dom dom4),(kS5,.dom dom5),(kS6,.dom dom6),(kS7,.dom dom7),(kS8,.dom dom8),(k0,.cells 69 [.ptr k1 0,.ptr k2 0,.ptr k3 0,.ptr k4 0,.map k5,.map k6,.int .i64 0,.bool false,.nilSlice] false 0),S0 k1 k7 (.int .i64 (-16)) (.int .i64 16),S1 k2 k1 k8 k9 ka (.int .i64 3) (.int .i64 16338),(k3,.cells 139 [.ptr kb 0,.ptr k2 0,.map kc] false 0),(k4,.cells 118 [.map kd,.map ke,.func (.func 66) [.ptr k0 0] [],.int .i64 0] false 0),S2 k5,S2 k6,(k7,.bytes 5 4194304),(k8,.cells 269 [.ptr kf 0,.int .i64 512,.map kg,.slice kh 0 2 (.more 1)] false 0),(k9,.cells 274 [.int .i64 1,.int .i64 0,.str 0 0,.nilPtr,.int .i64 0,.map ki,.slice kj 0 3 (.more 1),.slice kk 0 1 (.more 1),.nilSlice,.int .i64 0,.int .i64 0,.int .i64 0] false 0),(ka,.bits 4 16384 70368744177663),(kb,.cells 255 [.ptr k2 0,.map kl] false 0),S2 kc,S2 kd,S2 ke,(kf,.cells 152 [.ptr k1 0,.int .i64 1,.int .i64 44,.map km,.bool false] false 0),(kg,.map [(.int .i64 0,.ptr kn 0,0),(.int .i64 45,.ptr ko 0,1)] 2),(kh,.cells 3 [.int .i64 0,.int .i64 45] true 0),(ki,.map [(.str 5 495572708450,.ptr kp 0,0),(.str 6 126935165919596,.ptr kq 0,1),(.str 5 491328597876,.ptr kr 0,2)] 3),(kj,.cells 170 [.ptr kp 0,.ptr kq 0,.ptr kr 0] true 0),S3 kk (.int .i64 45),S2 kl,(km,.map [] 4),S4 kn,S4 ko,(kp,.cells 274 [.int .i64 1,.int .i64 0,.str 5 495572708450,.ptr k9 0,.int .i64 0,.map ks,.nilSlice,.nilSlice,.nilSlice,.int .i64 0,.int .i64 0,.int .i64 0] false 0),(kq,.cells 274 [.int .i64 1,.int .i64 0,.str 6 126935165919596,.ptr k9 0,.int .i64 1,.map kt,.nilSlice,.nilSlice,.nilSlice,.int .i64 0,.int .i64 0,.int .i64 0] false 0),(kr,.cells 274 [.int .i64 1,.int .i64 0,.str 5 491328597876,.ptr k9 0,.int .i64 2,.map ku,.nilSlice,.nilSlice,.nilSlice,.int .i64 0,.int .i64 0,.int .i64 0] false 0),S2 ks,S2 kt,S2 ku] RT.nil
def s1:RT AObj:=updS [S5 k0 k1 k2 k3 k4 k5 k6 kv (.int .i64 0),S0 k1 k7 (.int .i64 (-72)) (.int .i64 72),S1 k2 k1 k8 k9 ka (.int .i64 6) (.int .i64 16333),(k5,.map [(.str 1 116,.str 12 14909942882012283808127726898,0)] 1),(k8,.cells 269 [.ptr kf 0,.int .i64 512,.map kg,.slice kh 0 7 (.more 1)] false 0),(ka,.bits 4 16384 2251799813685247),(kc,.map [(.str 12 14909952252669478796797554994,.ptr ky 0,0),(.str 12 14909942882012283808127726898,.ptr kz 0,1)] 2),(kd,.map [(.str 1 116,.agg [.slice k10 0 2 (.more 1)],0)] 1),(kg,.map [(.int .i64 0,.ptr kn 0,0),(.int .i64 45,.ptr ko 0,1),(.int .i64 46,.ptr k13 0,2),(.int .i64 47,.ptr k14 0,3),(.int .i64 48,.ptr k15 0,4),(.int .i64 49,.ptr k16 0,5),(.int .i64 50,.ptr k17 0,6)] 7),(kh,.cells 3 [.int .i64 0,.int .i64 45,.int .i64 46,.int .i64 47,.int .i64 48,.int .i64 49,.int .i64 50] true 0),(km,.map [] 22),(kq,.cells 274 [.int .i64 1,.int .i64 0,.str 6 126935165919596,.ptr k9 0,.int .i64 1,.map kt,.slice k1c 0 2 (.more 1),.slice k1d 0 1 (.more 1),.nilSlice,.int .i64 0,.int .i64 0,.int .i64 0] false 0),(kr,.cells 274 [.int .i64 1,.int .i64 0,.str 5 491328597876,.ptr k9 0,.int .i64 2,.map ku,.slice k1e 0 1 (.more 1),.slice k1f 0 1 (.more 1),.nilSlice,.int .i64 0,.int .i64 0,.int .i64 0] false 0),(kt,.map [(.str 12 14909952252669478796797554994,.ptr k1g 0,1),(.str 12 14909942882012283808127726898,.ptr k1h 0,3)] 4),(ku,.map [(.str 5 435744240755,.ptr k1i 0,1)] 2),(kv,.cells 200 [.str 31 104481335786327267040345892488766287127177228565394820989683512661121135206,.nilSlice,.int .i64 20000,.map kw,.slice kx 0 2 (.more 1)] true 0),S2 kw,S6 kx k11 k12,S7 ky k18 (.str 0 0) (.int .i64 0) (.int .i64 1),S7 kz k19 (.str 12 14909952252669478796797554994) (.int .i64 1) (.int .i64 0),S6 k10 k1a k1b,S8 k11,S9 k12,S4 k13,S4 k14,Sa k15,S4 k16,Sa k17,S8 k18,S9 k19,S8 k1a,S9 k1b,(k1c,.cells 170 [.ptr k1g 0,.ptr k1h 0] true 0),S3 k1d (.int .i64 46),(k1e,.cells 170 [.ptr k1i 0] true 0),S3 k1f (.int .i64 49),Sb k1g kq k1j (.int .i64 2) (.int .i64 12) (.str 12 14909952252669478796797554994) (.int .i64 0) (.int .i64 0) (.int .i64 0) (.int .i64 0),Sb k1h kq k1k (.int .i64 2) (.int .i64 24) (.str 12 14909942882012283808127726898) (.int .i64 1) (.int .i64 0) (.int .i64 0) (.int .i64 0),Sb k1i kr k1l (.int .i64 2) (.int .i64 19) (.str 5 435744240755) (.int .i64 0) (.int .i64 0) (.int .i64 0) (.int .i64 0),Sc k1j (.int .i64 47),Sc k1k (.int .i64 48),Sd k1l] s0
def s2:RT AObj:=updS [S5 k0 k1 k2 k3 k4 k5 k6 kv (.int .i64 1),S0 k1 k7 (.int .i64 (-102)) (.int .i64 102),S1 k2 k1 k8 k9 ka (.int .i64 7) (.int .i64 16332),(k6,.map [(.int .i64 1,.agg [.str 12 14909942882012283808127726898,.int .i64 1],0)] 1),(k8,.cells 269 [.ptr kf 0,.int .i64 512,.map kg,.slice kh 0 9 (.more 1)] false 0),(ka,.bits 4 16384 7881299347898367),(ke,.map [(.int .i64 1,.ptr k1m 0,0)] 1),(kg,.map [(.int .i64 0,.ptr kn 0,0),(.int .i64 45,.ptr ko 0,1),(.int .i64 46,.ptr k13 0,2),(.int .i64 47,.ptr k14 0,3),(.int .i64 48,.ptr k15 0,4),(.int .i64 49,.ptr k16 0,5),(.int .i64 50,.ptr k17 0,6),(.int .i64 51,.ptr k1n 0,7),(.int .i64 52,.ptr k1o 0,8)] 9),(kh,.cells 3 [.int .i64 0,.int .i64 45,.int .i64 46,.int .i64 47,.int .i64 48,.int .i64 49,.int .i64 50,.int .i64 51,.int .i64 52] true 0),(km,.map [] 31),(kr,.cells 274 [.int .i64 1,.int .i64 0,.str 5 491328597876,.ptr k9 0,.int .i64 2,.map ku,.slice k1e 0 2 (.more 1),.slice k1f 0 1 (.more 1),.nilSlice,.int .i64 0,.int .i64 0,.int .i64 0] false 0),(ku,.map [(.str 6 52970656706933,.ptr k1x 0,2),(.str 5 435744240755,.ptr k1i 0,4)] 5),S7 kz k19 (.str 12 14909952252669478796797554994) (.int .i64 2) (.int .i64 0),S4 k15,(k1e,.cells 170 [.ptr k1x 0,.ptr k1i 0,.ptr k1i 0] true 0),Sb k1i kr k1l (.int .i64 2) (.int .i64 41) (.str 5 435744240755) (.int .i64 1) (.int .i64 0) (.int .i64 0) (.int .i64 0),Se k1l,(k1m,.cells 212 [.ptr k1p 0,.ptr k1q 0,.ptr k1r 0,.slice k1s 0 2 (.more 1),.nilSlice] false 0),Sa k1n,Sa k1o,(k1p,.cells 322 [.slice k1t 0 1 (.more 4),.int .i64 0,.int .i64 20000,.int .i64 0,.nilSlice,.bool false,.str 0 0,.float .f64 0,.bool false,.str 0 0,.float .f64 0,.bool false,.str 0 0,.float .f64 0,.bool false,.str 0 0,.float .f64 0,.bool false,.str 0 0,.float .f64 0,.bool false,.str 0 0,.float .f64 0,.bool false,.str 0 0,.float .f64 0,.bool false,.str 0 0,.float .f64 0,.bool false,.str 0 0,.float .f64 0,.bool false,.str 0 0,.float .f64 0,.bool false,.str 0 0,.float .f64 0,.bool false,.str 0 0,.float .f64 0,.bool false,.str 0 0,.float .f64 0,.bool false,.str 0 0,.float .f64 0,.bool false,.str 0 0,.float .f64 0,.bool false,.str 0 0,.float .f64 0,.bool false,.str 0 0,.float .f64 0,.bool false,.str 0 0,.float .f64 0,.bool false,.str 0 0,.float .f64 0,.bool false,.str 0 0,.float .f64 0,.bool false,.str 0 0,.float .f64 0,.bool false,.str 0 0,.float .f64 0,.bool false,.str 0 0,.float .f64 0,.bool false,.str 0 0,.float .f64 0,.bool false,.str 0 0,.float .f64 0,.bool false,.str 0 0,.float .f64 0,.bool false,.str 0 0,.float .f64 0,.bool false,.str 0 0,.float .f64 0,.bool false,.str 0 0,.float .f64 0,.bool false,.str 0 0,.float .f64 0,.bool false,.str 0 0,.float .f64 0,.bool false,.str 0 0,.float .f64 0,.bool false,.str 0 0,.float .f64 0,.bool false,.str 0 0,.float .f64 0,.bool false,.str 0 0,.float .f64 0,.bool false,.str 0 0,.float .f64 0,.bool false,.str 0 0,.float .f64 0,.bool false,.str 0 0,.float .f64 0,.bool false,.str 0 0,.float .f64 0,.bool false,.str 0 0,.float .f64 0,.bool false,.str 0 0,.float .f64 0,.bool false,.str 0 0,.float .f64 0,.bool false,.str 0 0,.float .f64 0,.bool false,.str 0 0,.float .f64 0,.bool false,.str 0 0,.float .f64 0,.bool false,.str 0 0,.float .f64 0,.bool false,.str 0 0,.float .f64 0,.bool false,.str 0 0,.float .f64 0,.bool false,.str 0 0,.float .f64 0,.bool false,.str 0 0,.float .f64 0,.bool false,.str 0 0,.float .f64 0,.bool false,.str 0 0,.float .f64 0,.bool false,.str 0 0,.float .f64 0,.bool false,.str 0 0,.float .f64 0,.bool false,.str 0 0,.float .f64 0,.bool false,.str 0 0,.float .f64 0,.bool false,.str 0 0,.float .f64 0,.bool false,.str 0 0,.float .f64 0,.bool false,.str 0 0,.float .f64 0,.bool false,.str 0 0,.float .f64 0,.bool false,.str 0 0,.float .f64 0,.bool false,.str 0 0,.float .f64 0,.bool false,.str 0 0,.float .f64 0,.bool false,.str 0 0,.float .f64 0,.int .i64 0,.int .i64 0,.str 0 0,.str 0 0,.int .i64 0,.int .i64 0,.int .i64 0,.int .i64 0,.str 0 0,.str 0 0,.int .i64 0,.str 0 0] false 0),(k1q,.cells 312 [.nilSlice] false 0),Sf k1r k1u k1u (.int .i64 0),S6 k1s k1v k1w,(k1t,.cells 355 [.int .i64 0,.int .i64 0,.float .f64 0,.str 0 0] true 0),(k1u,.cells 390 [.int .i64 1,.int .i64 493,.str 0 0,.map k1y,.nilPtr,.str 0 0] false 0),S8 k1v,S9 k1w,Sb k1x kr k1z (.int .i64 2) (.int .i64 3) (.str 6 52970656706933) (.int .i64 0) (.int .i64 0) (.int .i64 0) (.int .i64 0),Sg k1y,Z10] s1
def s3:RT AObj:=updS [S5 k0 k1 k2 k3 k4 k5 k6 kv (.int .i64 2),S0 k1 k7 (.int .i64 (-132)) (.int .i64 132),S1 k2 k1 k8 k9 ka (.int .i64 8) (.int .i64 16331),Si k6 (.int .i64 1) (.str 12 14909942882012283808127726898) (.int .i64 1) (.int .i64 2) (.str 12 14909942882012283808127726898) (.int .i64 2),(k8,.cells 269 [.ptr kf 0,.int .i64 512,.map kg,.slice kh 0 10 (.more 1)] false 0),(ka,.bits 4 16384 13510798882111487),(ke,.lmap [(.int .i64 1,.ptr k1m 0),(.int .i64 2,.ptr k20 0)]),(kg,.map [(.int .i64 0,.ptr kn 0,0),(.int .i64 45,.ptr ko 0,1),(.int .i64 46,.ptr k13 0,2),(.int .i64 47,.ptr k14 0,3),(.int .i64 48,.ptr k15 0,4),(.int .i64 49,.ptr k16 0,5),(.int .i64 50,.ptr k17 0,6),(.int .i64 51,.ptr k1n 0,7),(.int .i64 52,.ptr k1o 0,8),(.int .i64 53,.ptr k21 0,9)] 10),(kh,.cells 3 [.int .i64 0,.int .i64 45,.int .i64 46,.int .i64 47,.int .i64 48,.int .i64 49,.int .i64 50,.int .i64 51,.int .i64 52,.int .i64 53] true 0),(km,.map [] 40),(kr,.cells 274 [.int .i64 1,.int .i64 0,.str 5 491328597876,.ptr k9 0,.int .i64 2,.map ku,.slice k1e 0 3 (.more 1),.slice k1f 0 1 (.more 1),.nilSlice,.int .i64 0,.int .i64 0,.int .i64 0] false 0),(ku,.map [(.str 6 52970656706933,.ptr k1x 0,2),(.str 6 52970673484405,.ptr k2a 0,5),(.str 5 435744240755,.ptr k1i 0,7)] 8),S7 kz k19 (.str 12 14909952252669478796797554994) (.int .i64 3) (.int .i64 0),S4 k17,(k1e,.cells 170 [.ptr k1x 0,.ptr k2a 0,.ptr k1i 0,.ptr k1i 0] true 0),Z11,Sc k1l (.int .i64 53),(k20,.cells 212 [.ptr k22 0,.ptr k23 0,.ptr k24 0,.slice k25 0 2 (.more 1),.nilSlice] false 0),Sa k21,(k22,.cells 322 [.slice k26 0 1 (.more 4),.int .i64 0,.int .i64 20000,.int .i64 0,.nilSlice,.bool false,.str 0 0,.float .f64 0,.bool false,.str 0 0,.float .f64 0,.bool false,.str 0 0,.float .f64 0,.bool false,.str 0 0,.float .f64 0,.bool false,.str 0 0,.float .f64 0,.bool false,.str 0 0,.float .f64 0,.bool false,.str 0 0,.float .f64 0,.bool false,.str 0 0,.float .f64 0,.bool false,.str 0 0,.float .f64 0,.bool false,.str 0 0,.float .f64 0,.bool false,.str 0 0,.float .f64 0,.bool false,.str 0 0,.float .f64 0,.bool false,.str 0 0,.float .f64 0,.bool false,.str 0 0,.float .f64 0,.bool false,.str 0 0,.float .f64 0,.bool false,.str 0 0,.float .f64 0,.bool false,.str 0 0,.float .f64 0,.bool false,.str 0 0,.float .f64 0,.bool false,.str 0 0,.float .f64 0,.bool false,.str 0 0,.float .f64 0,.bool false,.str 0 0,.float .f64 0,.bool false,.str 0 0,.float .f64 0,.bool false,.str 0 0,.float .f64 0,.bool false,.str 0 0,.float .f64 0,.bool false,.str 0 0,.float .f64 0,.bool false,.str 0 0,.float .f64 0,.bool false,.str 0 0,.float .f64 0,.bool false,.str 0 0,.float .f64 0,.bool false,.str 0 0,.float .f64 0,.bool false,.str 0 0,.float .f64 0,.bool false,.str 0 0,.float .f64 0,.bool false,.str 0 0,.float .f64 0,.bool false,.str 0 0,.float .f64 0,.bool false,.str 0 0,.float .f64 0,.bool false,.str 0 0,.float .f64 0,.bool false,.str 0 0,.float .f64 0,.bool false,.str 0 0,.float .f64 0,.bool false,.str 0 0,.float .f64 0,.bool false,.str 0 0,.float .f64 0,.bool false,.str 0 0,.float .f64 0,.bool false,.str 0 0,.float .f64 0,.bool false,.str 0 0,.float .f64 0,.bool false,.str 0 0,.float .f64 0,.bool false,.str 0 0,.float .f64 0,.bool false,.str 0 0,.float .f64 0,.bool false,.str 0 0,.float .f64 0,.bool false,.str 0 0,.float .f64 0,.bool false,.str 0 0,.float .f64 0,.bool false,.str 0 0,.float .f64 0,.bool false,.str 0 0,.float .f64 0,.bool false,.str 0 0,.float .f64 0,.bool false,.str 0 0,.float .f64 0,.bool false,.str 0 0,.float .f64 0,.bool false,.str 0 0,.float .f64 0,.bool false,.str 0 0,.float .f64 0,.bool false,.str 0 0,.float .f64 0,.bool false,.str 0 0,.float .f64 0,.bool false,.str 0 0,.float .f64 0,.bool false,.str 0 0,.float .f64 0,.bool false,.str 0 0,.float .f64 0,.bool false,.str 0 0,.float .f64 0,.bool false,.str 0 0,.float .f64 0,.bool false,.str 0 0,.float .f64 0,.bool false,.str 0 0,.float .f64 0,.int .i64 0,.int .i64 0,.str 0 0,.str 0 0,.int .i64 0,.int .i64 0,.int .i64 0,.int .i64 0,.str 0 0,.str 0 0,.int .i64 0,.str 0 0] false 0),(k23,.cells 312 [.nilSlice] false 0),Sf k24 k27 k27 (.int .i64 0),S6 k25 k28 k29,(k26,.cells 355 [.int .i64 0,.int .i64 0,.float .f64 0,.str 0 0] true 0),(k27,.cells 390 [.int .i64 1,.int .i64 493,.str 0 0,.map k2b,.nilPtr,.str 0 0] false 0),S8 k28,S9 k29,Sb k2a kr k2c (.int .i64 2) (.int .i64 3) (.str 6 52970673484405) (.int .i64 1) (.int .i64 0) (.int .i64 0) (.int .i64 0),Sg k2b,Z12] s2
def s4:RT AObj:=updS [S5 k0 k1 k2 k3 k4 k5 k6 kv (.int .i64 3),S0 k1 k7 (.int .i64 (-162)) (.int .i64 162),Si k6 (.int .i64 1) (.str 12 14909942882012283808127726898) (.int .i64 3) (.int .i64 2) (.str 12 14909942882012283808127726898) (.int .i64 2),(k8,.cells 269 [.ptr kf 0,.int .i64 512,.map kg,.slice kh 0 12 (.more 1)] false 0),Sk ka,(kg,.map [(.int .i64 0,.ptr kn 0,0),(.int .i64 45,.ptr ko 0,1),(.int .i64 46,.ptr k13 0,2),(.int .i64 47,.ptr k14 0,3),(.int .i64 48,.ptr k15 0,4),(.int .i64 49,.ptr k16 0,5),(.int .i64 50,.ptr k17 0,6),(.int .i64 51,.ptr k1n 0,7),(.int .i64 52,.ptr k1o 0,8),(.int .i64 53,.ptr k21 0,9),(.int .i64 54,.ptr k2d 0,10),(.int .i64 55,.ptr k2e 0,11)] 12),(kh,.cells 3 [.int .i64 0,.int .i64 45,.int .i64 46,.int .i64 47,.int .i64 48,.int .i64 49,.int .i64 50,.int .i64 51,.int .i64 52,.int .i64 53,.int .i64 54,.int .i64 55] true 0),(km,.map [] 49),(ku,.map [(.str 6 52970673484405,.ptr k2a 0,5),(.str 6 52970690261365,.ptr k2f 0,8),(.str 5 435744240755,.ptr k1i 0,10)] 11),Z13,(k1f,.cells 3 [.int .i64 49,.int .i64 54] true 0),Z14,Z15,S4 k1o,So k1r k1u k1u,(k1y,.lmap [(.str 1 100,.ptr k2h 0)]),S4 k2d,Sa k2e,Sb k2f kr k2g (.int .i64 2) (.int .i64 11) (.str 6 52970690261365) (.int .i64 2) (.int .i64 0) (.int .i64 0) (.int .i64 0),Se k2g,Sp k2h k2i k1u (.int .i64 1) (.int .i64 420) (.str 0 0) (.str 1 100),Sg k2i] s3
def s5:RT AObj:=updS [Z16,Sr k1 k7,Ss k6,St ka,Su km,Sv ku k2a k1x k1i,Z17,Sw k1f,Z11,Z18,S4 k1n,Z19,Sb k1x kr k1z (.int .i64 2) (.int .i64 20) (.str 6 52970707038581) (.int .i64 0) (.int .i64 0) (.int .i64 0) (.int .i64 0),Sz k1y k2h k2j,Z10,S4 k21,Sp k2j k2k k1u (.int .i64 3) (.int .i64 511) (.str 1 100) (.str 1 108),Sg k2k] s4
def s6:RT AObj:=updS [Z1a,S11 k1 k7,S12 k6,Z1b,S14 km,Z1c,Z1d,Z1e,Z15,So k24 k27 k27,S17 k2b k2l,S4 k2e,S18 k2f kr k2g,Se k2g,S19 k2l k2m k27,Sg k2m] s5
def s7:RT AObj:=updS [Z1f,Z1g,Z1h,Z1i,Z1j,Z1k,Z13,Z14,Z18,Z1l,Sb k2a kr k2c (.int .i64 2) (.int .i64 31) (.str 6 52970740593013) (.int .i64 1) (.int .i64 0) (.int .i64 0) (.int .i64 0),Z12,S1h k2i k2n,S1i k2n k2o k2h,Z1m] s6
def s8:RT AObj:=updS [Z1n,Z1o,Z1p,Z1b,Z1q,Z1r,Z1d,Z1e,Z15,Sb k1x kr k1z (.int .i64 2) (.int .i64 35) (.str 6 52970757370229) (.int .i64 0) (.int .i64 0) (.int .i64 0) (.int .i64 0),Z10,S1o k2n k2o k2h] s7
def s9:RT AObj:=updS [Z1s,S1q k1 k7,S1r k6,Z1i,S1s km,Z1t,Z13,Z14,Z18,Sb k2a kr k2c (.int .i64 2) (.int .i64 34) (.str 6 52970774147445) (.int .i64 1) (.int .i64 0) (.int .i64 0) (.int .i64 0),Z12,Z1u,S1v k2p k2q k2h,Sg k2q] s8
def sa:RT AObj:=updS [Z1v,S1x k1 k7,S1y k6,S1z ka,S20 km,Z1w,Z17,Z11,Z15,S22 k1x kr k1z,Z10,Sy k24 k27 k27,S23 k2b k2l k2n,S24 k2n k2o k27,Z1m] s9
def sb:RT AObj:=updS [Z1x,S26 k1 k7,S27 k6,S28 ka,S29 km,Z1y,Z1d,Z1e,Z18,S2b k1r k1u k1u,Sb k2f kr k2g (.int .i64 2) (.int .i64 45) (.str 7 13560483888836981) (.int .i64 2) (.int .i64 0) (.int .i64 0) (.int .i64 0),Se k2g,S2c k2i k2p k2r,S2d k2r k2s k2h,Sg k2s] sa
def sc:RT AObj:=updS [Z1z,S2f k1 k7,S2g k6,Sk ka,S2h km,Z20,Z13,Z14,Z15,S1g k24 k27 k27,S2j k2a kr k2c,Z21,Z12,S2l k2t k2u k27,Sg k2u] sb
def sd:RT AObj:=updS [Z22,S2n k1 k7,S2o k6,St ka,S2p km,Z23,Z17,Z11,Z18,Z1l,Sb k1x kr k1z (.int .i64 2) (.int .i64 34) (.str 7 13560492478771573) (.int .i64 0) (.int .i64 0) (.int .i64 0) (.int .i64 0),Z10,Z1u] sc
def se:RT AObj:=updS [Z24,S2s k1 k7,S2t k6,Sk ka,S2u km,Z25,Z13,Z14,Z15,Z19,Sb k2f kr k2g (.int .i64 2) (.int .i64 20) (.str 7 13560496773738869) (.int .i64 2) (.int .i64 0) (.int .i64 0) (.int .i64 0),Se k2g,Sg k2i] sd
def sf:RT AObj:=updS [Z26,S2x k1 k7,S2y k6,S28 ka,S2z km,Z27,Z1d,Z1e,Z18,S31 k1x kr k1z,Z10,S2b k24 k27 k27,Z28,S33 k2p k2q k27,Sg k2q] se
def sg:RT AObj:=updS [S5 k0 k1 k2 k3 k4 k5 k6 kv (.int .i64 15),S0 k1 k7 (.int .i64 (-522)) (.int .i64 522),Si k6 (.int .i64 1) (.str 12 14909942882012283808127726898) (.int .i64 15) (.int .i64 2) (.str 12 14909942882012283808127726898) (.int .i64 14),S1z ka,(km,.map [] 157),(ku,.map [(.str 7 13560501068706421,.ptr k1x 0,41),(.str 7 13560505363673461,.ptr k2a 0,44),(.str 5 435744240755,.ptr k1i 0,46)] 47),Z17,Z11,Z15,So k1r k1u k1u,(k1y,.lmap [(.str 1 100,.ptr k2h 0)]),Sb k2a kr k2c (.int .i64 2) (.int .i64 11) (.str 7 13560505363673461) (.int .i64 1) (.int .i64 0) (.int .i64 0) (.int .i64 0),Z12] sf
def sh:RT AObj:=updS [S5 k0 k1 k2 k3 k4 k5 k6 kv (.int .i64 16),S0 k1 k7 (.int .i64 (-552)) (.int .i64 552),Si k6 (.int .i64 1) (.str 12 14909942882012283808127726898) (.int .i64 15) (.int .i64 2) (.str 12 14909942882012283808127726898) (.int .i64 16),Z1i,(km,.map [] 166),(ku,.map [(.str 7 13560505363673461,.ptr k2a 0,44),(.str 7 13560509658641013,.ptr k2f 0,47),(.str 5 435744240755,.ptr k1i 0,49)] 50),Z13,Z14,Z18,Sf k24 k27 k27 (.int .i64 5),(k2b,.lmap [(.str 2 13167,.ptr k2l 0),(.str 2 13935,.ptr k2n 0),(.str 2 14703,.ptr k2t 0),(.str 3 3289455,.ptr k2p 0),(.str 3 3486063,.ptr k2j 0)]),Sb k2f kr k2g (.int .i64 2) (.int .i64 50) (.str 7 13560509658641013) (.int .i64 2) (.int .i64 0) (.int .i64 0) (.int .i64 0),Se k2g,Sp k2j k2k k27 (.int .i64 1) (.int .i64 0) (.str 0 0) (.str 3 3486063),Sg k2k] sg
def si:RT AObj:=updS [S5 k0 k1 k2 k3 k4 k5 k6 kv (.int .i64 17),S0 k1 k7 (.int .i64 (-582)) (.int .i64 582),Si k6 (.int .i64 1) (.str 12 14909942882012283808127726898) (.int .i64 17) (.int .i64 2) (.str 12 14909942882012283808127726898) (.int .i64 16),Z1b,(km,.map [] 175),(ku,.map [(.str 7 13560509658641013,.ptr k2f 0,47),(.str 7 13560513953608053,.ptr k1x 0,50),(.str 5 435744240755,.ptr k1i 0,52)] 53),Z1d,Z1e,Z15,Sf k1r k1u k1u (.int .i64 0),Sb k1x kr k1z (.int .i64 2) (.int .i64 3) (.str 7 13560513953608053) (.int .i64 0) (.int .i64 0) (.int .i64 0) (.int .i64 0),Sg k1y,Z10] sh
def sj:RT AObj:=updS [Z16,Sr k1 k7,Ss k6,St ka,Su km,Sv ku k2a k1x k1i,Z17,Sw k1f,Z11,Z18,S4 k1n,Z19,Sb k1x kr k1z (.int .i64 2) (.int .i64 21) (.str 6 52970707038581) (.int .i64 0) (.int .i64 0) (.int .i64 0) (.int .i64 0),Sz k1y k2h k2j,Z10,S4 k21,Sp k2j k2k k1u (.int .i64 3) (.int .i64 511) (.str 2 25647) (.str 1 108),Sg k2k] s4
def sk:RT AObj:=updS [Z1a,S11 k1 k7,S12 k6,Z1b,S14 km,Z1c,Z1d,Z1e,Z15,So k24 k27 k27,S17 k2b k2l,S4 k2e,S18 k2f kr k2g,Se k2g,S19 k2l k2m k27,Sg k2m] sj
def sl:RT AObj:=updS [Z1f,Z1g,Z1h,Z1i,Z1j,Z1k,Z13,Z14,Z18,Z1l,Z29,Z12,S1h k2i k2n,S1i k2n k2o k2h,Z1m] sk
def sm:RT AObj:=updS [Z1n,Z1o,Z1p,Z1b,Z1q,Z1r,Z1d,Z1e,Z15,Z2a,Z10,S1o k2n k2o k2h] sl
def sn:RT AObj:=updS [Z1s,S1q k1 k7,S1r k6,Z1i,S1s km,Z1t,Z13,Z14,Z18,Sb k2a kr k2c (.int .i64 2) (.int .i64 35) (.str 6 52970774147445) (.int .i64 1) (.int .i64 0) (.int .i64 0) (.int .i64 0),Z12,Z1u,S1v k2p k2q k2h,Sg k2q] sm
def so:RT AObj:=updS [Z1v,S1x k1 k7,S1y k6,S1z ka,S20 km,Z1w,Z17,Z11,Z15,S22 k1x kr k1z,Z10,Sy k24 k27 k27,S23 k2b k2l k2n,S24 k2n k2o k27,Z1m] sn
def sp:RT AObj:=updS [Z1x,S26 k1 k7,S27 k6,S28 ka,S29 km,Z1y,Z1d,Z1e,Z18,S2b k1r k1u k1u,Sb k2f kr k2g (.int .i64 2) (.int .i64 46) (.str 7 13560483888836981) (.int .i64 2) (.int .i64 0) (.int .i64 0) (.int .i64 0),Se k2g,S2c k2i k2p k2r,S2d k2r k2s k2h,Sg k2s] so
def sq:RT AObj:=updS [Z1z,S2f k1 k7,S2g k6,Sk ka,S2h km,Z20,Z13,Z14,Z15,S1g k24 k27 k27,S2j k2a kr k2c,Z21,Z12,S2l k2t k2u k27,Sg k2u] sp
def sr:RT AObj:=updS [Z22,S2n k1 k7,S2o k6,St ka,S2p km,Z23,Z17,Z11,Z18,Z1l,Sb k1x kr k1z (.int .i64 2) (.int .i64 35) (.str 7 13560492478771573) (.int .i64 0) (.int .i64 0) (.int .i64 0) (.int .i64 0),Z10,Z1u] sq
def ss:RT AObj:=updS [Z24,S2s k1 k7,S2t k6,Sk ka,S2u km,Z25,Z13,Z14,Z15,Z19,Sb k2f kr k2g (.int .i64 2) (.int .i64 21) (.str 7 13560496773738869) (.int .i64 2) (.int .i64 0) (.int .i64 0) (.int .i64 0),Se k2g,Sg k2i] sr
def st:RT AObj:=updS [Z26,S2x k1 k7,S2y k6,S28 ka,S2z km,Z27,Z1d,Z1e,Z18,S31 k1x kr k1z,Z10,S2b k24 k27 k27,Z28,S33 k2p k2q k27,Sg k2q] ss
def su:RT AObj:=updS [Z16,Sr k1 k7,Ss k6,St ka,Su km,Sv ku k2a k1x k1i,Z17,Sw k1f,Z11,Z18,S4 k1n,Z19,Sb k1x kr k1z (.int .i64 2) (.int .i64 24) (.str 6 52970707038581) (.int .i64 0) (.int .i64 0) (.int .i64 0) (.int .i64 0),Sz k1y k2h k2j,Z10,S4 k21,Sp k2j k2k k1u (.int .i64 3) (.int .i64 511) (.str 5 198363590446) (.str 1 108),Sg k2k] s4
def sv:RT AObj:=updS [Z1a,S11 k1 k7,S12 k6,Z1b,S14 km,Z1c,Z1d,Z1e,Z15,So k24 k27 k27,S17 k2b k2l,S4 k2e,S18 k2f kr k2g,Se k2g,S19 k2l k2m k27,Sg k2m] su
def sw:RT AObj:=updS [Z1f,Z1g,Z1h,Z1i,Z1j,Z1k,Z13,Z14,Z18,Z1l,Z2b,Z12,S1h k2i k2n,S1i k2n k2o k2h,Z1m] sv
def sx:RT AObj:=updS [Z1n,Z1o,Z1p,Z1b,Z1q,Z1r,Z1d,Z1e,Z15,Z2c,Z10,S1o k2n k2o k2h] sw
def sy:RT AObj:=updS [Z1s,S1q k1 k7,S1r k6,Z1i,S1s km,Z1t,Z13,Z14,Z18,Sb k2a kr k2c (.int .i64 2) (.int .i64 38) (.str 6 52970774147445) (.int .i64 1) (.int .i64 0) (.int .i64 0) (.int .i64 0),Z12,Z1u,S1v k2p k2q k2h,Sg k2q] sx
def sz:RT AObj:=updS [Z1v,S1x k1 k7,S1y k6,S1z ka,S20 km,Z1w,Z17,Z11,Z15,S22 k1x kr k1z,Z10,Sy k24 k27 k27,S23 k2b k2l k2n,S24 k2n k2o k27,Z1m] sy
def s10:RT AObj:=updS [Z1x,S26 k1 k7,S27 k6,S28 ka,S29 km,Z1y,Z1d,Z1e,Z18,S2b k1r k1u k1u,Sb k2f kr k2g (.int .i64 2) (.int .i64 49) (.str 7 13560483888836981) (.int .i64 2) (.int .i64 0) (.int .i64 0) (.int .i64 0),Se k2g,S2c k2i k2p k2r,S2d k2r k2s k2h,Sg k2s] sz
def s11:RT AObj:=updS [Z1z,S2f k1 k7,S2g k6,Sk ka,S2h km,Z20,Z13,Z14,Z15,S1g k24 k27 k27,S2j k2a kr k2c,Z21,Z12,S2l k2t k2u k27,Sg k2u] s10
def s12:RT AObj:=updS [Z22,S2n k1 k7,S2o k6,St ka,S2p km,Z23,Z17,Z11,Z18,Z1l,Sb k1x kr k1z (.int .i64 2) (.int .i64 38) (.str 7 13560492478771573) (.int .i64 0) (.int .i64 0) (.int .i64 0) (.int .i64 0),Z10,Z1u] s11
def s13:RT AObj:=updS [Z24,S2s k1 k7,S2t k6,Sk ka,S2u km,Z25,Z13,Z14,Z15,Z19,Sb k2f kr k2g (.int .i64 2) (.int .i64 24) (.str 7 13560496773738869) (.int .i64 2) (.int .i64 0) (.int .i64 0) (.int .i64 0),Se k2g,Sg k2i] s12
def s14:RT AObj:=updS [Z26,S2x k1 k7,S2y k6,S28 ka,S2z km,Z27,Z1d,Z1e,Z18,S31 k1x kr k1z,Z10,S2b k24 k27 k27,Z28,S33 k2p k2q k27,Sg k2q] s13
def s15:RT AObj:=updS [Z16,Sr k1 k7,Ss k6,St ka,Su km,Sv ku k2a k1x k1i,Z17,Sw k1f,Z11,Z18,S4 k1n,Z19,Sb k1x kr k1z (.int .i64 2) (.int .i64 23) (.str 6 52970707038581) (.int .i64 0) (.int .i64 0) (.int .i64 0) (.int .i64 0),Sz k1y k2h k2j,Z10,S4 k21,Sp k2j k2k k1u (.int .i64 3) (.int .i64 511) (.str 4 1680813614) (.str 1 108),Sg k2k] s4
def s16:RT AObj:=updS [Z1a,S11 k1 k7,S12 k6,Z1b,S14 km,Z1c,Z1d,Z1e,Z15,So k24 k27 k27,S17 k2b k2l,S4 k2e,S18 k2f kr k2g,Se k2g,S19 k2l k2m k27,Sg k2m] s15
def s17:RT AObj:=updS [Z1f,Z1g,Z1h,Z1i,Z1j,Z1k,Z13,Z14,Z18,Z1l,Z2d,Z12,S1h k2i k2n,S1i k2n k2o k2h,Z1m] s16
def s18:RT AObj:=updS [Z1n,Z1o,Z1p,Z1b,Z1q,Z1r,Z1d,Z1e,Z15,Z2e,Z10,S1o k2n k2o k2h] s17
def s19:RT AObj:=updS [Z1s,S1q k1 k7,S1r k6,Z1i,S1s km,Z1t,Z13,Z14,Z18,Sb k2a kr k2c (.int .i64 2) (.int .i64 37) (.str 6 52970774147445) (.int .i64 1) (.int .i64 0) (.int .i64 0) (.int .i64 0),Z12,Z1u,S1v k2p k2q k2h,Sg k2q] s18
def s1a:RT AObj:=updS [Z1v,S1x k1 k7,S1y k6,S1z ka,S20 km,Z1w,Z17,Z11,Z15,S22 k1x kr k1z,Z10,Sy k24 k27 k27,S23 k2b k2l k2n,S24 k2n k2o k27,Z1m] s19
def s1b:RT AObj:=updS [Z1x,S26 k1 k7,S27 k6,S28 ka,S29 km,Z1y,Z1d,Z1e,Z18,S2b k1r k1u k1u,Sb k2f kr k2g (.int .i64 2) (.int .i64 48) (.str 7 13560483888836981) (.int .i64 2) (.int .i64 0) (.int .i64 0) (.int .i64 0),Se k2g,S2c k2i k2p k2r,S2d k2r k2s k2h,Sg k2s] s1a
def s1c:RT AObj:=updS [Z1z,S2f k1 k7,S2g k6,Sk ka,S2h km,Z20,Z13,Z14,Z15,S1g k24 k27 k27,S2j k2a kr k2c,Z21,Z12,S2l k2t k2u k27,Sg k2u] s1b
def s1d:RT AObj:=updS [Z22,S2n k1 k7,S2o k6,St ka,S2p km,Z23,Z17,Z11,Z18,Z1l,Sb k1x kr k1z (.int .i64 2) (.int .i64 37) (.str 7 13560492478771573) (.int .i64 0) (.int .i64 0) (.int .i64 0) (.int .i64 0),Z10,Z1u] s1c
def s1e:RT AObj:=updS [Z24,S2s k1 k7,S2t k6,Sk ka,S2u km,Z25,Z13,Z14,Z15,Z19,Sb k2f kr k2g (.int .i64 2) (.int .i64 23) (.str 7 13560496773738869) (.int .i64 2) (.int .i64 0) (.int .i64 0) (.int .i64 0),Se k2g,Sg k2i] s1d
def s1f:RT AObj:=updS [Z26,S2x k1 k7,S2y k6,S28 ka,S2z km,Z27,Z1d,Z1e,Z18,S31 k1x kr k1z,Z10,S2b k24 k27 k27,Z28,S33 k2p k2q k27,Sg k2q] s1e
def s1g:RT AObj:=updS [Z1f,Z1g,Z1h,Z1i,Z1j,Z1k,Z13,Z14,Z18,Z1l,Sb k2a kr k2c (.int .i64 2) (.int .i64 31) (.str 6 52970740593013) (.int .i64 1) (.int .i64 0) (.int .i64 0) (.int .i64 0),Z12,S3a k2i k2n,S3b k2n k2o k2h,Z1m] s6
def s1h:RT AObj:=updS [Z1n,Z1o,Z1p,Z1b,Z1q,Z1r,Z1d,Z1e,Z15,Sb k1x kr k1z (.int .i64 2) (.int .i64 35) (.str 6 52970757370229) (.int .i64 0) (.int .i64 0) (.int .i64 0) (.int .i64 0),Z10,S3c k2n k2o k2h] s1g
def s1i:RT AObj:=updS [Z1f,Z1g,Z1h,Z1i,Z1j,Z1k,Z13,Z14,Z18,Z1l,Z29,Z12,S3a k2i k2n,S3b k2n k2o k2h,Z1m] sk
def s1j:RT AObj:=updS [Z1n,Z1o,Z1p,Z1b,Z1q,Z1r,Z1d,Z1e,Z15,Z2a,Z10,S3c k2n k2o k2h] s1i
def s1k:RT AObj:=updS [Z1f,Z1g,Z1h,Z1i,Z1j,Z1k,Z13,Z14,Z18,Z1l,Z2b,Z12,S3a k2i k2n,S3b k2n k2o k2h,Z1m] sv
def s1l:RT AObj:=updS [Z1n,Z1o,Z1p,Z1b,Z1q,Z1r,Z1d,Z1e,Z15,Z2c,Z10,S3c k2n k2o k2h] s1k
def s1m:RT AObj:=updS [Z1f,Z1g,Z1h,Z1i,Z1j,Z1k,Z13,Z14,Z18,Z1l,Z2d,Z12,S3a k2i k2n,S3b k2n k2o k2h,Z1m] s16
def s1n:RT AObj:=updS [Z1n,Z1o,Z1p,Z1b,Z1q,Z1r,Z1d,Z1e,Z15,Z2e,Z10,S3c k2n k2o k2h] s1m
def s1o:RT AObj:=updS [Z1f,Z1g,Z1h,Z1i,Z1j,Z1k,Z13,Z14,Z18,Z1l,Z29,Z12,S3d k2i k2n,S3e k2n k2o k2h,Z1m] s6
def s1p:RT AObj:=updS [Z1n,Z1o,Z1p,Z1b,Z1q,Z1r,Z1d,Z1e,Z15,Z2a,Z10,S3f k2n k2o k2h] s1o
def s1q:RT AObj:=updS [Z1f,Z1g,Z1h,Z1i,Z1j,Z1k,Z13,Z14,Z18,Z1l,Z2f,Z12,S3d k2i k2n,S3e k2n k2o k2h,Z1m] sk
def s1r:RT AObj:=updS [Z1n,Z1o,Z1p,Z1b,Z1q,Z1r,Z1d,Z1e,Z15,Z2g,Z10,S3f k2n k2o k2h] s1q
def s1s:RT AObj:=updS [Z1f,Z1g,Z1h,Z1i,Z1j,Z1k,Z13,Z14,Z18,Z1l,Z2h,Z12,S3d k2i k2n,S3e k2n k2o k2h,Z1m] sv
def s1t:RT AObj:=updS [Z1n,Z1o,Z1p,Z1b,Z1q,Z1r,Z1d,Z1e,Z15,Z2i,Z10,S3f k2n k2o k2h] s1s
def s1u:RT AObj:=updS [Z1f,Z1g,Z1h,Z1i,Z1j,Z1k,Z13,Z14,Z18,Z1l,Z2b,Z12,S3d k2i k2n,S3e k2n k2o k2h,Z1m] s16
def s1v:RT AObj:=updS [Z1n,Z1o,Z1p,Z1b,Z1q,Z1r,Z1d,Z1e,Z15,Z2c,Z10,S3f k2n k2o k2h] s1u
def s1w:RT AObj:=updS [Z1f,Z1g,Z1h,Z1i,Z1j,Z1k,Z13,Z14,Z18,Z1l,Z29,Z12,S3k k2i k2n,S3l k2n k2o k2h,Z1m] s6
def s1x:RT AObj:=updS [Z1n,Z1o,Z1p,Z1b,Z1q,Z1r,Z1d,Z1e,Z15,Z2a,Z10,S3m k2n k2o k2h] s1w
def s1y:RT AObj:=updS [Z1f,Z1g,Z1h,Z1i,Z1j,Z1k,Z13,Z14,Z18,Z1l,Z2f,Z12,S3k k2i k2n,S3l k2n k2o k2h,Z1m] sk
def s1z:RT AObj:=updS [Z1n,Z1o,Z1p,Z1b,Z1q,Z1r,Z1d,Z1e,Z15,Z2g,Z10,S3m k2n k2o k2h] s1y
def s20:RT AObj:=updS [Z1f,Z1g,Z1h,Z1i,Z1j,Z1k,Z13,Z14,Z18,Z1l,Z2h,Z12,S3k k2i k2n,S3l k2n k2o k2h,Z1m] sv
def s21:RT AObj:=updS [Z1n,Z1o,Z1p,Z1b,Z1q,Z1r,Z1d,Z1e,Z15,Z2i,Z10,S3m k2n k2o k2h] s20
def s22:RT AObj:=updS [Z1f,Z1g,Z1h,Z1i,Z1j,Z1k,Z13,Z14,Z18,Z1l,Z2b,Z12,S3k k2i k2n,S3l k2n k2o k2h,Z1m] s16
def s23:RT AObj:=updS [Z1n,Z1o,Z1p,Z1b,Z1q,Z1r,Z1d,Z1e,Z15,Z2c,Z10,S3m k2n k2o k2h] s22
def s24:RT AObj:=updS [Z1f,Z1g,Z1h,Z1i,Z1j,Z1k,Z13,Z14,Z18,Z1l,Z29,Z12,S3n k2i k2n,S3o k2n k2o k2h,Z1m] s6
def s25:RT AObj:=updS [Z1n,Z1o,Z1p,Z1b,Z1q,Z1r,Z1d,Z1e,Z15,Z2a,Z10,S3p k2n k2o k2h] s24
def s26:RT AObj:=updS [Z1f,Z1g,Z1h,Z1i,Z1j,Z1k,Z13,Z14,Z18,Z1l,Z2f,Z12,S3n k2i k2n,S3o k2n k2o k2h,Z1m] sk
def s27:RT AObj:=updS [Z1n,Z1o,Z1p,Z1b,Z1q,Z1r,Z1d,Z1e,Z15,Z2g,Z10,S3p k2n k2o k2h] s26
def s28:RT AObj:=updS [Z1f,Z1g,Z1h,Z1i,Z1j,Z1k,Z13,Z14,Z18,Z1l,Z2h,Z12,S3n k2i k2n,S3o k2n k2o k2h,Z1m] sv
def s29:RT AObj:=updS [Z1n,Z1o,Z1p,Z1b,Z1q,Z1r,Z1d,Z1e,Z15,Z2i,Z10,S3p k2n k2o k2h] s28
def s2a:RT AObj:=updS [Z1f,Z1g,Z1h,Z1i,Z1j,Z1k,Z13,Z14,Z18,Z1l,Z2b,Z12,S3n k2i k2n,S3o k2n k2o k2h,Z1m] s16
def s2b:RT AObj:=updS [Z1n,Z1o,Z1p,Z1b,Z1q,Z1r,Z1d,Z1e,Z15,Z2c,Z10,S3p k2n k2o k2h] s2a
def s2c:RT AObj:=updS [Z1f,Z1g,Z1h,Z1i,Z1j,Z1k,Z13,Z14,Z18,Z1l,Z2f,Z12,S3q k2i k2n,S3r k2n k2o k2h,Z1m] s6
def s2d:RT AObj:=updS [Z1n,Z1o,Z1p,Z1b,Z1q,Z1r,Z1d,Z1e,Z15,Z2g,Z10,S3s k2n k2o k2h] s2c
def s2e:RT AObj:=updS [Z1f,Z1g,Z1h,Z1i,Z1j,Z1k,Z13,Z14,Z18,Z1l,Z2d,Z12,S3q k2i k2n,S3r k2n k2o k2h,Z1m] sk
def s2f:RT AObj:=updS [Z1n,Z1o,Z1p,Z1b,Z1q,Z1r,Z1d,Z1e,Z15,Z2e,Z10,S3s k2n k2o k2h] s2e
def s2g:RT AObj:=updS [Z1f,Z1g,Z1h,Z1i,Z1j,Z1k,Z13,Z14,Z18,Z1l,S3t k2a kr k2c,Z12,S3q k2i k2n,S3r k2n k2o k2h,Z1m] sv
def s2h:RT AObj:=updS [Z1n,Z1o,Z1p,Z1b,Z1q,Z1r,Z1d,Z1e,Z15,S3u k1x kr k1z,Z10,S3s k2n k2o k2h] s2g
def s2i:RT AObj:=updS [Z1f,Z1g,Z1h,Z1i,Z1j,Z1k,Z13,Z14,Z18,Z1l,Z2h,Z12,S3q k2i k2n,S3r k2n k2o k2h,Z1m] s16
def s2j:RT AObj:=updS [Z1n,Z1o,Z1p,Z1b,Z1q,Z1r,Z1d,Z1e,Z15,Z2i,Z10,S3s k2n k2o k2h] s2i
def s2k:RT AObj:=updS [Z1f,Z1g,Z1h,Z1i,Z1j,Z1k,Z13,Z14,Z18,Z1l,Z2f,Z12,S3v k2i k2n,S3w k2n k2o k2h,Z1m] s6
def s2l:RT AObj:=updS [Z1n,Z1o,Z1p,Z1b,Z1q,Z1r,Z1d,Z1e,Z15,Z2g,Z10,S3x k2n k2o k2h] s2k
def s2m:RT AObj:=updS [Z1f,Z1g,Z1h,Z1i,Z1j,Z1k,Z13,Z14,Z18,Z1l,Z2d,Z12,S3v k2i k2n,S3w k2n k2o k2h,Z1m] sk
def s2n:RT AObj:=updS [Z1n,Z1o,Z1p,Z1b,Z1q,Z1r,Z1d,Z1e,Z15,Z2e,Z10,S3x k2n k2o k2h] s2m
def s2o:RT AObj:=updS [Z1f,Z1g,Z1h,Z1i,Z1j,Z1k,Z13,Z14,Z18,Z1l,S3t k2a kr k2c,Z12,S3v k2i k2n,S3w k2n k2o k2h,Z1m] sv
def s2p:RT AObj:=updS [Z1n,Z1o,Z1p,Z1b,Z1q,Z1r,Z1d,Z1e,Z15,S3u k1x kr k1z,Z10,S3x k2n k2o k2h] s2o
def s2q:RT AObj:=updS [Z1f,Z1g,Z1h,Z1i,Z1j,Z1k,Z13,Z14,Z18,Z1l,Z2h,Z12,S3v k2i k2n,S3w k2n k2o k2h,Z1m] s16
def s2r:RT AObj:=updS [Z1n,Z1o,Z1p,Z1b,Z1q,Z1r,Z1d,Z1e,Z15,Z2i,Z10,S3x k2n k2o k2h] s2q
def s2s:RT AObj:=updS [Z1f,Z1g,Z1h,Z1i,Z1j,Z1k,Z13,Z14,Z18,Z1l,Z2f,Z12,S3y k2i k2n,S3z k2n k2o k2h,Z1m] s6
def s2t:RT AObj:=updS [Z1n,Z1o,Z1p,Z1b,Z1q,Z1r,Z1d,Z1e,Z15,Z2g,Z10,S40 k2n k2o k2h] s2s
def s2u:RT AObj:=updS [Z1f,Z1g,Z1h,Z1i,Z1j,Z1k,Z13,Z14,Z18,Z1l,Z2d,Z12,S3y k2i k2n,S3z k2n k2o k2h,Z1m] sk
def s2v:RT AObj:=updS [Z1n,Z1o,Z1p,Z1b,Z1q,Z1r,Z1d,Z1e,Z15,Z2e,Z10,S40 k2n k2o k2h] s2u
def s2w:RT AObj:=updS [Z1f,Z1g,Z1h,Z1i,Z1j,Z1k,Z13,Z14,Z18,Z1l,S3t k2a kr k2c,Z12,S3y k2i k2n,S3z k2n k2o k2h,Z1m] sv
def s2x:RT AObj:=updS [Z1n,Z1o,Z1p,Z1b,Z1q,Z1r,Z1d,Z1e,Z15,S3u k1x kr k1z,Z10,S40 k2n k2o k2h] s2w
def s2y:RT AObj:=updS [Z1f,Z1g,Z1h,Z1i,Z1j,Z1k,Z13,Z14,Z18,Z1l,Z2h,Z12,S3y k2i k2n,S3z k2n k2o k2h,Z1m] s16
def s2z:RT AObj:=updS [Z1n,Z1o,Z1p,Z1b,Z1q,Z1r,Z1d,Z1e,Z15,Z2i,Z10,S40 k2n k2o k2h] s2y
def s30:RT AObj:=updS [Z1f,Z1g,Z1h,Z1i,Z1j,Z1k,Z13,Z14,Z18,Z1l,Z2f,Z12,S41 k2i k2n,S42 k2n k2o k2h,Z1m] s6
def s31:RT AObj:=updS [Z1n,Z1o,Z1p,Z1b,Z1q,Z1r,Z1d,Z1e,Z15,Z2g,Z10,S43 k2n k2o k2h] s30
def s32:RT AObj:=updS [Z1f,Z1g,Z1h,Z1i,Z1j,Z1k,Z13,Z14,Z18,Z1l,Z2d,Z12,S41 k2i k2n,S42 k2n k2o k2h,Z1m] sk
def s33:RT AObj:=updS [Z1n,Z1o,Z1p,Z1b,Z1q,Z1r,Z1d,Z1e,Z15,Z2e,Z10,S43 k2n k2o k2h] s32
def s34:RT AObj:=updS [Z1f,Z1g,Z1h,Z1i,Z1j,Z1k,Z13,Z14,Z18,Z1l,S3t k2a kr k2c,Z12,S41 k2i k2n,S42 k2n k2o k2h,Z1m] sv
def s35:RT AObj:=updS [Z1n,Z1o,Z1p,Z1b,Z1q,Z1r,Z1d,Z1e,Z15,S3u k1x kr k1z,Z10,S43 k2n k2o k2h] s34
def s36:RT AObj:=updS [Z1f,Z1g,Z1h,Z1i,Z1j,Z1k,Z13,Z14,Z18,Z1l,Z2h,Z12,S41 k2i k2n,S42 k2n k2o k2h,Z1m] s16
def s37:RT AObj:=updS [Z1n,Z1o,Z1p,Z1b,Z1q,Z1r,Z1d,Z1e,Z15,Z2i,Z10,S43 k2n k2o k2h] s36
def s38:RT AObj:=updS [S5 k0 k1 k2 k3 k4 k5 k6 kv (.int .i64 0),S0 k1 k7 (.int .i64 (-52)) (.int .i64 52),S1 k2 k1 k8 k9 ka (.int .i64 5) (.int .i64 16334),(k5,.map [(.str 1 116,.str 12 14909952252669478796797554994,0)] 1),(k8,.cells 269 [.ptr kf 0,.int .i64 512,.map kg,.slice kh 0 6 (.more 1)] false 0),(ka,.bits 4 16384 1125899906842623),(kc,.map [(.str 12 14909952252669478796797554994,.ptr ky 0,0)] 1),(kd,.map [(.str 1 116,.agg [.slice kz 0 1 (.more 1)],0)] 1),(kg,.map [(.int .i64 0,.ptr kn 0,0),(.int .i64 45,.ptr ko 0,1),(.int .i64 46,.ptr k11 0,2),(.int .i64 47,.ptr k12 0,3),(.int .i64 48,.ptr k13 0,4),(.int .i64 49,.ptr k14 0,5)] 6),(kh,.cells 3 [.int .i64 0,.int .i64 45,.int .i64 46,.int .i64 47,.int .i64 48,.int .i64 49] true 0),(km,.map [] 16),(kq,.cells 274 [.int .i64 1,.int .i64 0,.str 6 126935165919596,.ptr k9 0,.int .i64 1,.map kt,.slice k17 0 1 (.more 1),.slice k18 0 1 (.more 1),.nilSlice,.int .i64 0,.int .i64 0,.int .i64 0] false 0),(kr,.cells 274 [.int .i64 1,.int .i64 0,.str 5 491328597876,.ptr k9 0,.int .i64 2,.map ku,.slice k19 0 1 (.more 1),.slice k1a 0 1 (.more 1),.nilSlice,.int .i64 0,.int .i64 0,.int .i64 0] false 0),(kt,.map [(.str 12 14909952252669478796797554994,.ptr k1b 0,1)] 2),(ku,.map [(.str 5 435744240755,.ptr k1c 0,1)] 2),(kv,.cells 200 [.str 19 1318739858033904608473444756492996921336492646,.nilSlice,.int .i64 20000,.map kw,.slice kx 0 1 (.more 1)] true 0),S2 kw,(kx,.cells 142 [.slice k10 0 1 (.more 4)] true 0),S7 ky k15 (.str 0 0) (.int .i64 1) (.int .i64 0),(kz,.cells 142 [.slice k16 0 1 (.more 4)] true 0),S8 k10,S4 k11,Sa k12,S4 k13,Sa k14,S8 k15,S8 k16,(k17,.cells 170 [.ptr k1b 0] true 0),S3 k18 (.int .i64 46),(k19,.cells 170 [.ptr k1c 0] true 0),S3 k1a (.int .i64 48),Sb k1b kq k1d (.int .i64 2) (.int .i64 12) (.str 12 14909952252669478796797554994) (.int .i64 0) (.int .i64 0) (.int .i64 0) (.int .i64 0),Sb k1c kr k1e (.int .i64 2) (.int .i64 19) (.str 5 435744240755) (.int .i64 0) (.int .i64 0) (.int .i64 0) (.int .i64 0),Sc k1d (.int .i64 47),Sc k1e (.int .i64 49)] s0
def s39:RT AObj:=updS [S5 k0 k1 k2 k3 k4 k5 k6 kv (.int .i64 1),S0 k1 k7 (.int .i64 (-82)) (.int .i64 82),S1 k2 k1 k8 k9 ka (.int .i64 6) (.int .i64 16333),(k6,.map [(.int .i64 1,.agg [.str 12 14909952252669478796797554994,.int .i64 1],0)] 1),(k8,.cells 269 [.ptr kf 0,.int .i64 512,.map kg,.slice kh 0 8 (.more 1)] false 0),(ka,.bits 4 16384 3940649673949183),(ke,.map [(.int .i64 1,.ptr k1f 0,0)] 1),(kg,.map [(.int .i64 0,.ptr kn 0,0),(.int .i64 45,.ptr ko 0,1),(.int .i64 46,.ptr k11 0,2),(.int .i64 47,.ptr k12 0,3),(.int .i64 48,.ptr k13 0,4),(.int .i64 49,.ptr k14 0,5),(.int .i64 50,.ptr k1g 0,6),(.int .i64 51,.ptr k1h 0,7)] 8),(kh,.cells 3 [.int .i64 0,.int .i64 45,.int .i64 46,.int .i64 47,.int .i64 48,.int .i64 49,.int .i64 50,.int .i64 51] true 0),(km,.map [] 25),(kr,.cells 274 [.int .i64 1,.int .i64 0,.str 5 491328597876,.ptr k9 0,.int .i64 2,.map ku,.slice k19 0 2 (.more 1),.slice k1a 0 1 (.more 1),.nilSlice,.int .i64 0,.int .i64 0,.int .i64 0] false 0),(ku,.map [(.str 6 52970656706933,.ptr k1q 0,2),(.str 5 435744240755,.ptr k1c 0,4)] 5),S7 ky k15 (.str 0 0) (.int .i64 2) (.int .i64 0),S4 k12,(k19,.cells 170 [.ptr k1q 0,.ptr k1c 0,.ptr k1c 0] true 0),Sb k1c kr k1e (.int .i64 2) (.int .i64 41) (.str 5 435744240755) (.int .i64 1) (.int .i64 0) (.int .i64 0) (.int .i64 0),Sh k1e,(k1f,.cells 212 [.ptr k1i 0,.ptr k1j 0,.ptr k1k 0,.slice k1l 0 1 (.more 1),.slice k1m 0 1 (.more 4)] false 0),Sa k1g,Sa k1h,(k1i,.cells 322 [.slice k1n 0 5 (.more 4),.int .i64 0,.int .i64 20000,.int .i64 0,.nilSlice,.bool false,.str 0 0,.float .f64 0,.bool false,.str 0 0,.float .f64 0,.bool false,.str 0 0,.float .f64 0,.bool false,.str 0 0,.float .f64 0,.bool false,.str 0 0,.float .f64 0,.bool false,.str 0 0,.float .f64 0,.bool false,.str 0 0,.float .f64 0,.bool false,.str 0 0,.float .f64 0,.bool false,.str 0 0,.float .f64 0,.bool false,.str 0 0,.float .f64 0,.bool false,.str 0 0,.float .f64 0,.bool false,.str 0 0,.float .f64 0,.bool false,.str 0 0,.float .f64 0,.bool false,.str 0 0,.float .f64 0,.bool false,.str 0 0,.float .f64 0,.bool false,.str 0 0,.float .f64 0,.bool false,.str 0 0,.float .f64 0,.bool false,.str 0 0,.float .f64 0,.bool false,.str 0 0,.float .f64 0,.bool false,.str 0 0,.float .f64 0,.bool false,.str 0 0,.float .f64 0,.bool false,.str 0 0,.float .f64 0,.bool false,.str 0 0,.float .f64 0,.bool false,.str 0 0,.float .f64 0,.bool false,.str 0 0,.float .f64 0,.bool false,.str 0 0,.float .f64 0,.bool false,.str 0 0,.float .f64 0,.bool false,.str 0 0,.float .f64 0,.bool false,.str 0 0,.float .f64 0,.bool false,.str 0 0,.float .f64 0,.bool false,.str 0 0,.float .f64 0,.bool false,.str 0 0,.float .f64 0,.bool false,.str 0 0,.float .f64 0,.bool false,.str 0 0,.float .f64 0,.bool false,.str 0 0,.float .f64 0,.bool false,.str 0 0,.float .f64 0,.bool false,.str 0 0,.float .f64 0,.bool false,.str 0 0,.float .f64 0,.bool false,.str 0 0,.float .f64 0,.bool false,.str 0 0,.float .f64 0,.bool false,.str 0 0,.float .f64 0,.bool false,.str 0 0,.float .f64 0,.bool false,.str 0 0,.float .f64 0,.bool false,.str 0 0,.float .f64 0,.bool false,.str 0 0,.float .f64 0,.bool false,.str 0 0,.float .f64 0,.bool false,.str 0 0,.float .f64 0,.bool false,.str 0 0,.float .f64 0,.bool false,.str 0 0,.float .f64 0,.bool false,.str 0 0,.float .f64 0,.bool false,.str 0 0,.float .f64 0,.bool false,.str 0 0,.float .f64 0,.bool false,.str 0 0,.float .f64 0,.bool false,.str 0 0,.float .f64 0,.bool false,.str 0 0,.float .f64 0,.bool false,.str 0 0,.float .f64 0,.bool false,.str 0 0,.float .f64 0,.bool false,.str 0 0,.float .f64 0,.bool false,.str 0 0,.float .f64 0,.bool false,.str 0 0,.float .f64 0,.bool false,.str 0 0,.float .f64 0,.bool false,.str 0 0,.float .f64 0,.bool false,.str 0 0,.float .f64 0,.bool false,.str 0 0,.float .f64 0,.int .i64 0,.int .i64 0,.str 0 0,.str 0 0,.int .i64 0,.int .i64 0,.int .i64 0,.int .i64 0,.str 0 0,.str 0 0,.int .i64 0,.str 0 0] false 0),(k1j,.cells 312 [.nilSlice] false 0),So k1k k1o k1o,(k1l,.cells 142 [.slice k1p 0 1 (.more 4)] true 0),S8 k1m,(k1n,.cells 355 [.int .i64 2,.int .i64 0,.float .f64 0,.str 1 101,.int .i64 1,.int .i64 0,.float .f64 4607182418800017408,.str 0 0,.int .i64 17,.int .i64 2,.float .f64 0,.str 5 491394460525,.int .i64 18,.int .i64 0,.float .f64 0,.str 0 0,.int .i64 0,.int .i64 0,.float .f64 0,.str 0 0] true 0),(k1o,.cells 390 [.int .i64 1,.int .i64 493,.str 0 0,.map k1r,.nilPtr,.str 0 0] false 0),S8 k1p,Sb k1q kr k1s (.int .i64 2) (.int .i64 3) (.str 6 52970656706933) (.int .i64 0) (.int .i64 0) (.int .i64 0) (.int .i64 0),(k1r,.lmap [(.str 1 100,.ptr k1t 0)]),Sd k1s,Sp k1t k1u k1o (.int .i64 1) (.int .i64 493) (.str 0 0) (.str 1 100),Sg k1u] s38
def s3a:RT AObj:=updS [S5 k0 k1 k2 k3 k4 k5 k6 kv (.int .i64 2),S0 k1 k7 (.int .i64 (-110)) (.int .i64 110),(k6,.map [(.int .i64 1,.agg [.str 12 14909952252669478796797554994,.int .i64 2],0)] 1),(k8,.cells 269 [.ptr kf 0,.int .i64 512,.map kg,.slice kh 0 9 (.more 1)] false 0),(ka,.bits 4 16384 5629499534213119),(kg,.map [(.int .i64 0,.ptr kn 0,0),(.int .i64 45,.ptr ko 0,1),(.int .i64 46,.ptr k11 0,2),(.int .i64 47,.ptr k12 0,3),(.int .i64 48,.ptr k13 0,4),(.int .i64 49,.ptr k14 0,5),(.int .i64 50,.ptr k1g 0,6),(.int .i64 51,.ptr k1h 0,7),(.int .i64 52,.ptr k1v 0,8)] 9),(kh,.cells 3 [.int .i64 0,.int .i64 45,.int .i64 46,.int .i64 47,.int .i64 48,.int .i64 49,.int .i64 50,.int .i64 51,.int .i64 52] true 0),(km,.map [] 33),(ku,.map [(.str 6 52970673484149,.ptr k1x 0,5),(.str 5 435744240755,.ptr k1c 0,7)] 8),S4 k14,(k19,.cells 170 [.ptr k1c 0,.ptr k1x 0,.ptr k1c 0,.ptr k1c 0] true 0),Sb k1c kr k1e (.int .i64 2) (.int .i64 41) (.str 5 435744240755) (.int .i64 0) (.int .i64 0) (.int .i64 0) (.int .i64 0),Se k1e,(k1i,.cells 322 [.slice k1n 0 5 (.more 4),.int .i64 3,.int .i64 19997,.int .i64 3,.slice k1w 0 1 (.more 3),.bool false,.str 0 0,.float .f64 0,.bool false,.str 0 0,.float .f64 0,.bool false,.str 0 0,.float .f64 0,.bool false,.str 0 0,.float .f64 0,.bool false,.str 0 0,.float .f64 0,.bool false,.str 0 0,.float .f64 0,.bool false,.str 0 0,.float .f64 0,.bool false,.str 0 0,.float .f64 0,.bool false,.str 0 0,.float .f64 0,.bool false,.str 0 0,.float .f64 0,.bool false,.str 0 0,.float .f64 0,.bool false,.str 0 0,.float .f64 0,.bool false,.str 0 0,.float .f64 0,.bool false,.str 0 0,.float .f64 0,.bool false,.str 0 0,.float .f64 0,.bool false,.str 0 0,.float .f64 0,.bool false,.str 0 0,.float .f64 0,.bool false,.str 0 0,.float .f64 0,.bool false,.str 0 0,.float .f64 0,.bool false,.str 0 0,.float .f64 0,.bool false,.str 0 0,.float .f64 0,.bool false,.str 0 0,.float .f64 0,.bool false,.str 0 0,.float .f64 0,.bool false,.str 0 0,.float .f64 0,.bool false,.str 0 0,.float .f64 0,.bool false,.str 0 0,.float .f64 0,.bool false,.str 0 0,.float .f64 0,.bool false,.str 0 0,.float .f64 0,.bool false,.str 0 0,.float .f64 0,.bool false,.str 0 0,.float .f64 0,.bool false,.str 0 0,.float .f64 0,.bool false,.str 0 0,.float .f64 0,.bool false,.str 0 0,.float .f64 0,.bool false,.str 0 0,.float .f64 0,.bool false,.str 0 0,.float .f64 0,.bool false,.str 0 0,.float .f64 0,.bool false,.str 0 0,.float .f64 0,.bool false,.str 0 0,.float .f64 0,.bool false,.str 0 0,.float .f64 0,.bool false,.str 0 0,.float .f64 0,.bool false,.str 0 0,.float .f64 0,.bool false,.str 0 0,.float .f64 0,.bool false,.str 0 0,.float .f64 0,.bool false,.str 0 0,.float .f64 0,.bool false,.str 0 0,.float .f64 0,.bool false,.str 0 0,.float .f64 0,.bool false,.str 0 0,.float .f64 0,.bool false,.str 0 0,.float .f64 0,.bool false,.str 0 0,.float .f64 0,.bool false,.str 0 0,.float .f64 0,.bool false,.str 0 0,.float .f64 0,.bool false,.str 0 0,.float .f64 0,.bool false,.str 0 0,.float .f64 0,.bool false,.str 0 0,.float .f64 0,.bool false,.str 0 0,.float .f64 0,.bool false,.str 0 0,.float .f64 0,.bool false,.str 0 0,.float .f64 0,.bool false,.str 0 0,.float .f64 0,.bool false,.str 0 0,.float .f64 0,.bool false,.str 0 0,.float .f64 0,.bool false,.str 0 0,.float .f64 0,.bool false,.str 0 0,.float .f64 0,.bool false,.str 0 0,.float .f64 0,.bool false,.str 0 0,.float .f64 0,.int .i64 0,.int .i64 0,.str 0 0,.str 0 0,.int .i64 0,.int .i64 0,.int .i64 0,.int .i64 0,.str 0 0,.str 5 491394460525,.int .i64 0,.str 0 0] false 0),Sy k1k k1o k1o,(k1r,.lmap [(.str 1 100,.ptr k1t 0),(.str 1 101,.ptr k1z 0)]),Sa k1v,(k1w,.cells 319 [.bool false,.str 0 0,.float .f64 0,.bool false,.str 0 0,.float .f64 4607182418800017408] true 0),Sb k1x kr k1y (.int .i64 2) (.int .i64 11) (.str 6 52970673484149) (.int .i64 1) (.int .i64 0) (.int .i64 0) (.int .i64 0),Sc k1y (.int .i64 49),Sp k1z k20 k1o (.int .i64 1) (.int .i64 1) (.str 0 0) (.str 1 101),Sg k20] s39
def tw0:List MRow:=[tR s2 k1r,
 tR s4 k1r,
 tR s5 k1r,
 tR s6 k24,
 tR s7 k1r,
 tR s8 k1r,
 tR s9 k1r,
 tR sa k24]
def tw1:List MRow:=[tR sb k1r,
 tR sc k24,
 tR sf k24,
 tR sh k24,
 tR sj k1r,
 tR sl k1r,
 tR sm k1r,
 tR sn k1r]
def tw2:List MRow:=[tR sp k1r,
 tR su k1r,
 tR sw k1r,
 tR sx k1r,
 tR sy k1r,
 tR s10 k1r,
 tR s15 k1r,
 tR s17 k1r]
def tw3:List MRow:=[tR s18 k1r,
 tR s19 k1r,
 tR s1b k1r,
 tR s1g k1r,
 tR s1h k1r,
 tR s1i k1r,
 tR s1j k1r,
 tR s1k k1r]
def tw4:List MRow:=[tR s1l k1r,
 tR s1m k1r,
 tR s1n k1r,
 tR s1o k1r,
 tR s1p k1r,
 tR s1q k1r,
 tR s1r k1r,
 tR s1s k1r]
def tw5:List MRow:=[tR s1t k1r,
 tR s1u k1r,
 tR s1v k1r,
 tR s1w k1r,
 tR s1x k1r,
 tR s1y k1r,
 tR s1z k1r,
 tR s20 k1r]
def tw6:List MRow:=[tR s21 k1r,
 tR s22 k1r,
 tR s23 k1r,
 tR s24 k1r,
 tR s25 k1r,
 tR s26 k1r,
 tR s27 k1r,
 tR s28 k1r]
def tw7:List MRow:=[tR s29 k1r,
 tR s2a k1r,
 tR s2b k1r,
 tR s2c k1r,
 tR s2d k1r,
 tR s2e k1r,
 tR s2f k1r,
 tR s2g k1r]
def tw8:List MRow:=[tR s2h k1r,
 tR s2i k1r,
 tR s2j k1r,
 tR s2k k1r,
 tR s2l k1r,
 tR s2m k1r,
 tR s2n k1r,
 tR s2o k1r]
def tw9:List MRow:=[tR s2p k1r,
 tR s2q k1r,
 tR s2r k1r,
 tR s2s k1r,
 tR s2t k1r,
 tR s2u k1r,
 tR s2v k1r,
 tR s2w k1r]
def tw10:List MRow:=[tR s2x k1r,
 tR s2y k1r,
 tR s2z k1r,
 tR s30 k1r,
 tR s31 k1r,
 tR s32 k1r,
 tR s33 k1r,
 tR s34 k1r]
def tw11:List MRow:=[tR s35 k1r,
 tR s36 k1r,
 tR s37 k1r,
 tR s39 k1k]
def trows:List MRow:=tw0 ++ (tw1 ++ (tw2 ++ (tw3 ++ (tw4 ++ (tw5 ++ (tw6 ++ (tw7 ++ (tw8 ++ (tw9 ++ (tw10 ++ (tw11)))))))))))
def cw0:List MRow:=[cR tys k0 s0 k4,
 cR tys k0 s1 k4,
 cR tys k0 s2 k4,
 cR tys k0 s3 k4]
def cw1:List MRow:=[cR tys k0 s4 k4,
 cR tys k0 s5 k4,
 cR tys k0 s6 k4,
 cR tys k0 s7 k4]
def cw2:List MRow:=[cR tys k0 s8 k4,
 cR tys k0 s9 k4,
 cR tys k0 sa k4,
 cR tys k0 sb k4]
def cw3:List MRow:=[cR tys k0 sc k4,
 cR tys k0 sd k4,
 cR tys k0 se k4,
 cR tys k0 sf k4]
def cw4:List MRow:=[cR tys k0 sg k4,
 cR tys k0 sh k4,
 cR tys k0 sj k4,
 cR tys k0 sk k4]
def cw5:List MRow:=[cR tys k0 sl k4,
 cR tys k0 sm k4,
 cR tys k0 sn k4,
 cR tys k0 so k4]
def cw6:List MRow:=[cR tys k0 sp k4,
 cR tys k0 sq k4,
 cR tys k0 sr k4,
 cR tys k0 ss k4]
def cw7:List MRow:=[cR tys k0 st k4,
 cR tys k0 su k4,
 cR tys k0 sv k4,
 cR tys k0 sw k4]
def cw8:List MRow:=[cR tys k0 sx k4,
 cR tys k0 sy k4,
 cR tys k0 sz k4,
 cR tys k0 s10 k4]
def cw9:List MRow:=[cR tys k0 s11 k4,
 cR tys k0 s12 k4,
 cR tys k0 s13 k4,
 cR tys k0 s14 k4]
def cw10:List MRow:=[cR tys k0 s15 k4,
 cR tys k0 s16 k4,
 cR tys k0 s17 k4,
 cR tys k0 s18 k4]
def cw11:List MRow:=[cR tys k0 s19 k4,
 cR tys k0 s1a k4,
 cR tys k0 s1b k4,
 cR tys k0 s1c k4]
def cw12:List MRow:=[cR tys k0 s1d k4,
 cR tys k0 s1e k4,
 cR tys k0 s1f k4,
 cR tys k0 s1g k4]
def cw13:List MRow:=[cR tys k0 s1h k4,
 cR tys k0 s1i k4,
 cR tys k0 s1j k4,
 cR tys k0 s1k k4]
def cw14:List MRow:=[cR tys k0 s1l k4,
 cR tys k0 s1m k4,
 cR tys k0 s1n k4,
 cR tys k0 s1o k4]
def cw15:List MRow:=[cR tys k0 s1p k4,
 cR tys k0 s1q k4,
 cR tys k0 s1r k4,
 cR tys k0 s1s k4]
def cw16:List MRow:=[cR tys k0 s1t k4,
 cR tys k0 s1u k4,
 cR tys k0 s1v k4,
 cR tys k0 s1w k4]
def cw17:List MRow:=[cR tys k0 s1x k4,
 cR tys k0 s1y k4,
 cR tys k0 s1z k4,
 cR tys k0 s20 k4]
def cw18:List MRow:=[cR tys k0 s21 k4,
 cR tys k0 s22 k4,
 cR tys k0 s23 k4,
 cR tys k0 s24 k4]
def cw19:List MRow:=[cR tys k0 s25 k4,
 cR tys k0 s26 k4,
 cR tys k0 s27 k4,
 cR tys k0 s28 k4]
def cw20:List MRow:=[cR tys k0 s29 k4,
 cR tys k0 s2a k4,
 cR tys k0 s2b k4,
 cR tys k0 s2c k4]
def cw21:List MRow:=[cR tys k0 s2d k4,
 cR tys k0 s2e k4,
 cR tys k0 s2f k4,
 cR tys k0 s2g k4]
def cw22:List MRow:=[cR tys k0 s2h k4,
 cR tys k0 s2i k4,
 cR tys k0 s2j k4,
 cR tys k0 s2k k4]
def cw23:List MRow:=[cR tys k0 s2l k4,
 cR tys k0 s2m k4,
 cR tys k0 s2n k4,
 cR tys k0 s2o k4]
def cw24:List MRow:=[cR tys k0 s2p k4,
 cR tys k0 s2q k4,
 cR tys k0 s2r k4,
 cR tys k0 s2s k4]
def cw25:List MRow:=[cR tys k0 s2t k4,
 cR tys k0 s2u k4,
 cR tys k0 s2v k4,
 cR tys k0 s2w k4]
def cw26:List MRow:=[cR tys k0 s2x k4,
 cR tys k0 s2y k4,
 cR tys k0 s2z k4,
 cR tys k0 s30 k4]
def cw27:List MRow:=[cR tys k0 s31 k4,
 cR tys k0 s32 k4,
 cR tys k0 s33 k4,
 cR tys k0 s34 k4]
def cw28:List MRow:=[cR tys k0 s35 k4,
 cR tys k0 s36 k4,
 cR tys k0 s37 k4,
 cR tys k0 s38 k4]
def cw29:List MRow:=[cR tys k0 s39 k4]
def crows:List MRow:=cw0 ++ (cw1 ++ (cw2 ++ (cw3 ++ (cw4 ++ (cw5 ++ (cw6 ++ (cw7 ++ (cw8 ++ (cw9 ++ (cw10 ++ (cw11 ++ (cw12 ++ (cw13 ++ (cw14 ++ (cw15 ++ (cw16 ++ (cw17 ++ (cw18 ++ (cw19 ++ (cw20 ++ (cw21 ++ (cw22 ++ (cw23 ++ (cw24 ++ (cw25 ++ (cw26 ++ (cw27 ++ (cw28 ++ (cw29)))))))))))))))))))))))))))))
def nw0:List MRow:=[nR s0 [.int .i64 16384] (.tup [.ptr k0 0,.int .i64 0]) k0]
def nw1:List MRow:=[⟨[.int .i64 16383],[],.tup [.nilPtr, .int .i64 2600],[]⟩]
def nrows:List MRow:=nw0 ++ (nw1)
def dw0:List MRow:=[dR tys k4 s0 s1 [.ptr k0 0,.agg [.int .i64 3,.str 1 116,.str 0 0,.str 31 104481335786327267040345892488766287127177228565394820989683512661121135206,.nilSlice,.int .i64 0,.int .i64 0,.str 0 0,.str 0 0,.int .i64 0,.int .i64 0,.int .i64 0,.int .i64 0,.str 0 0]] Zf [k5,k6,kh] [kv,kw,kx,ky,kz,k10,k11,k12,k13,k14,k15,k16,k17,k18,k19,k1a,k1b,k1c,k1d,k1e,k1f,k1g,k1h,k1i,k1j,k1k,k1l,k0,k1,k2,k8,ka,kc,kg,km,kq,kr,kt,ku] [(kh,.dead)]]
def dw1:List MRow:=[dR tys k4 s1 s2 [.ptr k0 0,.agg [.int .i64 4,.str 1 116,.str 0 0,.str 0 0,.nilSlice,.int .i64 0,.int .i64 0,.str 0 0,.str 0 0,.int .i64 0,.int .i64 0,.int .i64 0,.int .i64 0,.str 0 0]] (.tup [.agg [.int .i64 0,.int .i64 0,.int .i64 1,.str 0 0,.nilSlice,.nilSlice,.int .i64 0,.int .i64 0,.int .i64 0,.int .i64 0,.str 0 0,.nilSlice,.int .i64 0,.int .i64 0],.int .i64 0]) [k5,k6,kh,k1e,k1i,k1k,k1l] [k1n,k1o,k1s,k1t,k1v,k1w,k1x,k1z,k0,k1,k2,k8,ka,kg,km,kr,ku,kz,k15,k1h] [(kh,.dead),(k1e,.dead),(k1i,.dead)]]
def dw2:List MRow:=[dR tys k4 s2 s3 [.ptr k0 0,.agg [.int .i64 4,.str 1 116,.str 0 0,.str 0 0,.nilSlice,.int .i64 0,.int .i64 0,.str 0 0,.str 0 0,.int .i64 0,.int .i64 0,.int .i64 0,.int .i64 0,.str 0 0]] (.tup [.agg [.int .i64 0,.int .i64 0,.int .i64 2,.str 0 0,.nilSlice,.nilSlice,.int .i64 0,.int .i64 0,.int .i64 0,.int .i64 0,.str 0 0,.nilSlice,.int .i64 0,.int .i64 0],.int .i64 0]) [k5,k6,kh,k1e,k1i,k1k,k1l] [k21,k25,k26,k28,k29,k2a,k2c,k0,k1,k2,k8,ka,kg,km,kr,ku,kz,k17,k1h] [(kh,.dead),(k1e,.dead),(k1i,.dead)]]
def dw3:List MRow:=[dR tys k4 s3 s4 (cl 1 6 (.str 1 100) (.str 0 0) 0 0 0 420 (.str 6 127978876068212)) Zf [k5,k6,kh,k1e,k1f,k1i,k1l] [k2d,k2e,k2f,k2g,k0,k1,k8,ka,kg,km,kr,ku,k1o] [(ke,.dead),(kh,.dead),(k1e,.dead),(k1f,.dead),(k1x,.dead),(k1i,.dead)]]
def dw4:List MRow:=[dR tys k4 s4 s5 (cl 1 7 (.str 1 108) (.str 0 0) 0 0 0 0 (.str 1 100)) Zf Zu Zv Zj]
def dw5:List MRow:=[dR tys k4 s5 s6 Z0 Zf Zu Zw Zk]
def dw6:List MRow:=[dR tys k4 s6 s7 Z1 Zf Zu Zx Zl]
def dw7:List MRow:=[dR tys k4 s7 s8 Z2 Zg Zu Zy Zk]
def dw8:List MRow:=[dR tys k4 s8 s9 Z3 Zf Zu Zx Zl]
def dw9:List MRow:=[dR tys k4 s9 sa Z4 Zf Zu Zy Zm]
def dw10:List MRow:=[dR tys k4 sa sb Z5 Zf Zu Zz Zn]
def dw11:List MRow:=[dR tys k4 sb sb Z6 Zh [] [k0] Zo]
def dw12:List MRow:=[dR tys k4 sb sb Z7 (an 0 0 0 0 (.str 0 0) (.slice k2a 0 2 (.more 1))) [] [k0] [(k2a,.cells 9 [.str 1 103,.str 2 28265] true 0),(ke,.dead),(k1y,.dead),(k2b,.dead),(k2i,.dead)]]
def dw13:List MRow:=[dR tys k4 sb sc Z8 Zf Zu Zx Zp]
def dw14:List MRow:=[dR tys k4 sc sc Z9 (an 0 0 0 0 (.str 0 0) (.slice k1x 0 2 (.more 1))) [] [k0] [(k1x,.cells 9 [.str 1 103,.str 2 28265] true 0),(ke,.dead),(k1y,.dead),(k2b,.dead),(k2i,.dead)]]
def dw15:List MRow:=[dR tys k4 sc sd Za Zf Zu Zy Zq]
def dw16:List MRow:=[dR tys k4 sd se Zb Zf Zu Zz Zr]
def dw17:List MRow:=[dR tys k4 se sf Zc Zf Zu Zy Zn]
def dw18:List MRow:=[dR tys k4 sf sf Z9 Zf [] [k0] Zs]
def dw19:List MRow:=[dR tys k4 sf sf Zd Zi [] [k0] Zs]
def dw20:List MRow:=[dR tys k4 sf sg Ze Zf Zu Zx Zt]
def dw21:List MRow:=[dR tys k4 sg sh (cl 2 6 (.str 3 3486063) (.str 0 0) 0 0 0 0 (.str 0 0)) Zf Zu Zz [(ke,.dead),(k1x,.dead),(k1i,.dead),(k2b,.dead)]]
def dw22:List MRow:=[dR tys k4 sh si (cl 1 12 (.str 1 100) (.str 0 0) 0 0 0 0 (.str 0 0)) Zf Zu Zy [(ke,.dead),(k2a,.dead),(k1i,.dead),(k2b,.dead)]]
def dw23:List MRow:=[dR tys k4 s4 sj (cl 1 7 (.str 1 108) (.str 0 0) 0 0 0 0 (.str 2 25647)) Zf Zu Zv Zj]
def dw24:List MRow:=[dR tys k4 sj sk Z0 Zf Zu Zw Zk]
def dw25:List MRow:=[dR tys k4 sk sl Z1 Zf Zu Zx Zl]
def dw26:List MRow:=[dR tys k4 sl sm Z2 Zg Zu Zy Zk]
def dw27:List MRow:=[dR tys k4 sm sn Z3 Zf Zu Zx Zl]
def dw28:List MRow:=[dR tys k4 sn so Z4 Zf Zu Zy Zm]
def dw29:List MRow:=[dR tys k4 so sp Z5 Zf Zu Zz Zn]
def dw30:List MRow:=[dR tys k4 sp sp Z6 Zh [] [k0] Zo]
def dw31:List MRow:=[dR tys k4 sp sp Z7 (an 0 0 0 0 (.str 0 0) (.slice k2a 0 2 (.more 1))) [] [k0] [(k2a,.cells 9 [.str 1 103,.str 2 28265] true 0),(ke,.dead),(k1y,.dead),(k2b,.dead),(k2i,.dead)]]
def dw32:List MRow:=[dR tys k4 sp sq Z8 Zf Zu Zx Zp]
def dw33:List MRow:=[dR tys k4 sq sq Z9 (an 0 0 0 0 (.str 0 0) (.slice k1x 0 2 (.more 1))) [] [k0] [(k1x,.cells 9 [.str 1 103,.str 2 28265] true 0),(ke,.dead),(k1y,.dead),(k2b,.dead),(k2i,.dead)]]
def dw34:List MRow:=[dR tys k4 sq sr Za Zf Zu Zy Zq]
def dw35:List MRow:=[dR tys k4 sr ss Zb Zf Zu Zz Zr]
def dw36:List MRow:=[dR tys k4 ss st Zc Zf Zu Zy Zn]
def dw37:List MRow:=[dR tys k4 st st Z9 Zf [] [k0] Zs]
def dw38:List MRow:=[dR tys k4 st st Zd Zi [] [k0] Zs]
def dw39:List MRow:=[dR tys k4 st sg Ze Zf Zu Zx Zt]
def dw40:List MRow:=[dR tys k4 s4 su (cl 1 7 (.str 1 108) (.str 0 0) 0 0 0 0 (.str 5 198363590446)) Zf Zu Zv Zj]
def dw41:List MRow:=[dR tys k4 su sv Z0 Zf Zu Zw Zk]
def dw42:List MRow:=[dR tys k4 sv sw Z1 Zf Zu Zx Zl]
def dw43:List MRow:=[dR tys k4 sw sx Z2 Zg Zu Zy Zk]
def dw44:List MRow:=[dR tys k4 sx sy Z3 Zf Zu Zx Zl]
def dw45:List MRow:=[dR tys k4 sy sz Z4 Zf Zu Zy Zm]
def dw46:List MRow:=[dR tys k4 sz s10 Z5 Zf Zu Zz Zn]
def dw47:List MRow:=[dR tys k4 s10 s10 Z6 Zh [] [k0] Zo]
def dw48:List MRow:=[dR tys k4 s10 s10 Z7 (an 0 0 0 0 (.str 0 0) (.slice k2a 0 2 (.more 1))) [] [k0] [(k2a,.cells 9 [.str 1 103,.str 2 28265] true 0),(ke,.dead),(k1y,.dead),(k2b,.dead),(k2i,.dead)]]
def dw49:List MRow:=[dR tys k4 s10 s11 Z8 Zf Zu Zx Zp]
def dw50:List MRow:=[dR tys k4 s11 s11 Z9 (an 0 0 0 0 (.str 0 0) (.slice k1x 0 2 (.more 1))) [] [k0] [(k1x,.cells 9 [.str 1 103,.str 2 28265] true 0),(ke,.dead),(k1y,.dead),(k2b,.dead),(k2i,.dead)]]
def dw51:List MRow:=[dR tys k4 s11 s12 Za Zf Zu Zy Zq]
def dw52:List MRow:=[dR tys k4 s12 s13 Zb Zf Zu Zz Zr]
def dw53:List MRow:=[dR tys k4 s13 s14 Zc Zf Zu Zy Zn]
def dw54:List MRow:=[dR tys k4 s14 s14 Z9 Zf [] [k0] Zs]
def dw55:List MRow:=[dR tys k4 s14 s14 Zd Zi [] [k0] Zs]
def dw56:List MRow:=[dR tys k4 s14 sg Ze Zf Zu Zx Zt]
def dw57:List MRow:=[dR tys k4 s4 s15 (cl 1 7 (.str 1 108) (.str 0 0) 0 0 0 0 (.str 4 1680813614)) Zf Zu Zv Zj]
def dw58:List MRow:=[dR tys k4 s15 s16 Z0 Zf Zu Zw Zk]
def dw59:List MRow:=[dR tys k4 s16 s17 Z1 Zf Zu Zx Zl]
def dw60:List MRow:=[dR tys k4 s17 s18 Z2 Zg Zu Zy Zk]
def dw61:List MRow:=[dR tys k4 s18 s19 Z3 Zf Zu Zx Zl]
def dw62:List MRow:=[dR tys k4 s19 s1a Z4 Zf Zu Zy Zm]
def dw63:List MRow:=[dR tys k4 s1a s1b Z5 Zf Zu Zz Zn]
def dw64:List MRow:=[dR tys k4 s1b s1b Z6 Zh [] [k0] Zo]
def dw65:List MRow:=[dR tys k4 s1b s1b Z7 (an 0 0 0 0 (.str 0 0) (.slice k2a 0 2 (.more 1))) [] [k0] [(k2a,.cells 9 [.str 1 103,.str 2 28265] true 0),(ke,.dead),(k1y,.dead),(k2b,.dead),(k2i,.dead)]]
def dw66:List MRow:=[dR tys k4 s1b s1c Z8 Zf Zu Zx Zp]
def dw67:List MRow:=[dR tys k4 s1c s1c Z9 (an 0 0 0 0 (.str 0 0) (.slice k1x 0 2 (.more 1))) [] [k0] [(k1x,.cells 9 [.str 1 103,.str 2 28265] true 0),(ke,.dead),(k1y,.dead),(k2b,.dead),(k2i,.dead)]]
def dw68:List MRow:=[dR tys k4 s1c s1d Za Zf Zu Zy Zq]
def dw69:List MRow:=[dR tys k4 s1d s1e Zb Zf Zu Zz Zr]
def dw70:List MRow:=[dR tys k4 s1e s1f Zc Zf Zu Zy Zn]
def dw71:List MRow:=[dR tys k4 s1f s1f Z9 Zf [] [k0] Zs]
def dw72:List MRow:=[dR tys k4 s1f s1f Zd Zi [] [k0] Zs]
def dw73:List MRow:=[dR tys k4 s1f sg Ze Zf Zu Zx Zt]
def dw74:List MRow:=[dR tys k4 s6 s1g [.ptr k0 0,.agg [.int .i64 6,.str 0 0,.str 0 0,.str 0 0,.nilSlice,.int .i64 1,.int .i64 5,tb8,.str 0 0,.int .i64 0,.int .i64 0,.int .i64 0,.int .i64 420,.str 6 127978876068212]] Zf Zu Zx Zl]
def dw75:List MRow:=[dR tys k4 s1g s1h [.ptr k0 0,.agg [.int .i64 6,.str 0 0,.str 0 0,.str 0 0,.nilSlice,.int .i64 1,.int .i64 8,tb8,.str 0 0,.int .i64 0,.int .i64 0,.int .i64 0,.int .i64 0,.str 4 1954047348]] Zg Zu Zy Zk]
def dw76:List MRow:=[dR tys k4 s1h s9 [.ptr k0 0,.agg [.int .i64 6,.str 0 0,.str 0 0,.str 0 0,.nilSlice,.int .i64 1,.int .i64 13,tb8,.str 3 6762348,.int .i64 0,.int .i64 0,.int .i64 0,.int .i64 0,.str 0 0]] Zf Zu Zx Zl]
def dw77:List MRow:=[dR tys k4 sk s1i [.ptr k0 0,.agg [.int .i64 6,.str 0 0,.str 0 0,.str 0 0,.nilSlice,.int .i64 1,.int .i64 5,tb8,.str 0 0,.int .i64 0,.int .i64 0,.int .i64 0,.int .i64 420,.str 6 127978876068212]] Zf Zu Zx Zl]
def dw78:List MRow:=[dR tys k4 s1i s1j [.ptr k0 0,.agg [.int .i64 6,.str 0 0,.str 0 0,.str 0 0,.nilSlice,.int .i64 1,.int .i64 8,tb8,.str 0 0,.int .i64 0,.int .i64 0,.int .i64 0,.int .i64 0,.str 4 1954047348]] Zg Zu Zy Zk]
def dw79:List MRow:=[dR tys k4 s1j sn [.ptr k0 0,.agg [.int .i64 6,.str 0 0,.str 0 0,.str 0 0,.nilSlice,.int .i64 1,.int .i64 13,tb8,.str 3 6762348,.int .i64 0,.int .i64 0,.int .i64 0,.int .i64 0,.str 0 0]] Zf Zu Zx Zl]
def dw80:List MRow:=[dR tys k4 sv s1k [.ptr k0 0,.agg [.int .i64 6,.str 0 0,.str 0 0,.str 0 0,.nilSlice,.int .i64 1,.int .i64 5,tb8,.str 0 0,.int .i64 0,.int .i64 0,.int .i64 0,.int .i64 420,.str 6 127978876068212]] Zf Zu Zx Zl]
def dw81:List MRow:=[dR tys k4 s1k s1l [.ptr k0 0,.agg [.int .i64 6,.str 0 0,.str 0 0,.str 0 0,.nilSlice,.int .i64 1,.int .i64 8,tb8,.str 0 0,.int .i64 0,.int .i64 0,.int .i64 0,.int .i64 0,.str 4 1954047348]] Zg Zu Zy Zk]
def dw82:List MRow:=[dR tys k4 s1l sy [.ptr k0 0,.agg [.int .i64 6,.str 0 0,.str 0 0,.str 0 0,.nilSlice,.int .i64 1,.int .i64 13,tb8,.str 3 6762348,.int .i64 0,.int .i64 0,.int .i64 0,.int .i64 0,.str 0 0]] Zf Zu Zx Zl]
def dw83:List MRow:=[dR tys k4 s16 s1m [.ptr k0 0,.agg [.int .i64 6,.str 0 0,.str 0 0,.str 0 0,.nilSlice,.int .i64 1,.int .i64 5,tb8,.str 0 0,.int .i64 0,.int .i64 0,.int .i64 0,.int .i64 420,.str 6 127978876068212]] Zf Zu Zx Zl]
def dw84:List MRow:=[dR tys k4 s1m s1n [.ptr k0 0,.agg [.int .i64 6,.str 0 0,.str 0 0,.str 0 0,.nilSlice,.int .i64 1,.int .i64 8,tb8,.str 0 0,.int .i64 0,.int .i64 0,.int .i64 0,.int .i64 0,.str 4 1954047348]] Zg Zu Zy Zk]
def dw85:List MRow:=[dR tys k4 s1n s19 [.ptr k0 0,.agg [.int .i64 6,.str 0 0,.str 0 0,.str 0 0,.nilSlice,.int .i64 1,.int .i64 13,tb8,.str 3 6762348,.int .i64 0,.int .i64 0,.int .i64 0,.int .i64 0,.str 0 0]] Zf Zu Zx Zl]
def dw86:List MRow:=[dR tys k4 s6 s1o [.ptr k0 0,.agg [.int .i64 6,.str 0 0,.str 0 0,.str 0 0,.nilSlice,.int .i64 1,.int .i64 5,tb9,.str 0 0,.int .i64 0,.int .i64 0,.int .i64 0,.int .i64 420,.str 6 127978876068212]] Zf Zu Zx Zl]
def dw87:List MRow:=[dR tys k4 s1o s1p [.ptr k0 0,.agg [.int .i64 6,.str 0 0,.str 0 0,.str 0 0,.nilSlice,.int .i64 1,.int .i64 8,tb9,.str 0 0,.int .i64 0,.int .i64 0,.int .i64 0,.int .i64 0,.str 4 1954047348]] Zg Zu Zy Zk]
def dw88:List MRow:=[dR tys k4 s1p s9 [.ptr k0 0,.agg [.int .i64 6,.str 0 0,.str 0 0,.str 0 0,.nilSlice,.int .i64 1,.int .i64 13,tb9,.str 3 6762348,.int .i64 0,.int .i64 0,.int .i64 0,.int .i64 0,.str 0 0]] Zf Zu Zx Zl]
def dw89:List MRow:=[dR tys k4 sk s1q [.ptr k0 0,.agg [.int .i64 6,.str 0 0,.str 0 0,.str 0 0,.nilSlice,.int .i64 1,.int .i64 5,tb9,.str 0 0,.int .i64 0,.int .i64 0,.int .i64 0,.int .i64 420,.str 6 127978876068212]] Zf Zu Zx Zl]
def dw90:List MRow:=[dR tys k4 s1q s1r [.ptr k0 0,.agg [.int .i64 6,.str 0 0,.str 0 0,.str 0 0,.nilSlice,.int .i64 1,.int .i64 8,tb9,.str 0 0,.int .i64 0,.int .i64 0,.int .i64 0,.int .i64 0,.str 4 1954047348]] Zg Zu Zy Zk]
def dw91:List MRow:=[dR tys k4 s1r sn [.ptr k0 0,.agg [.int .i64 6,.str 0 0,.str 0 0,.str 0 0,.nilSlice,.int .i64 1,.int .i64 13,tb9,.str 3 6762348,.int .i64 0,.int .i64 0,.int .i64 0,.int .i64 0,.str 0 0]] Zf Zu Zx Zl]
def dw92:List MRow:=[dR tys k4 sv s1s [.ptr k0 0,.agg [.int .i64 6,.str 0 0,.str 0 0,.str 0 0,.nilSlice,.int .i64 1,.int .i64 5,tb9,.str 0 0,.int .i64 0,.int .i64 0,.int .i64 0,.int .i64 420,.str 6 127978876068212]] Zf Zu Zx Zl]
def dw93:List MRow:=[dR tys k4 s1s s1t [.ptr k0 0,.agg [.int .i64 6,.str 0 0,.str 0 0,.str 0 0,.nilSlice,.int .i64 1,.int .i64 8,tb9,.str 0 0,.int .i64 0,.int .i64 0,.int .i64 0,.int .i64 0,.str 4 1954047348]] Zg Zu Zy Zk]
def dw94:List MRow:=[dR tys k4 s1t sy [.ptr k0 0,.agg [.int .i64 6,.str 0 0,.str 0 0,.str 0 0,.nilSlice,.int .i64 1,.int .i64 13,tb9,.str 3 6762348,.int .i64 0,.int .i64 0,.int .i64 0,.int .i64 0,.str 0 0]] Zf Zu Zx Zl]
def dw95:List MRow:=[dR tys k4 s16 s1u [.ptr k0 0,.agg [.int .i64 6,.str 0 0,.str 0 0,.str 0 0,.nilSlice,.int .i64 1,.int .i64 5,tb9,.str 0 0,.int .i64 0,.int .i64 0,.int .i64 0,.int .i64 420,.str 6 127978876068212]] Zf Zu Zx Zl]
def dw96:List MRow:=[dR tys k4 s1u s1v [.ptr k0 0,.agg [.int .i64 6,.str 0 0,.str 0 0,.str 0 0,.nilSlice,.int .i64 1,.int .i64 8,tb9,.str 0 0,.int .i64 0,.int .i64 0,.int .i64 0,.int .i64 0,.str 4 1954047348]] Zg Zu Zy Zk]
def dw97:List MRow:=[dR tys k4 s1v s19 [.ptr k0 0,.agg [.int .i64 6,.str 0 0,.str 0 0,.str 0 0,.nilSlice,.int .i64 1,.int .i64 13,tb9,.str 3 6762348,.int .i64 0,.int .i64 0,.int .i64 0,.int .i64 0,.str 0 0]] Zf Zu Zx Zl]
def dw98:List MRow:=[dR tys k4 s6 s1w [.ptr k0 0,.agg [.int .i64 6,.str 0 0,.str 0 0,.str 0 0,.nilSlice,.int .i64 1,.int .i64 5,tba,.str 0 0,.int .i64 0,.int .i64 0,.int .i64 0,.int .i64 420,.str 6 127978876068212]] Zf Zu Zx Zl]
def dw99:List MRow:=[dR tys k4 s1w s1x [.ptr k0 0,.agg [.int .i64 6,.str 0 0,.str 0 0,.str 0 0,.nilSlice,.int .i64 1,.int .i64 8,tba,.str 0 0,.int .i64 0,.int .i64 0,.int .i64 0,.int .i64 0,.str 4 1954047348]] Zg Zu Zy Zk]
def dw100:List MRow:=[dR tys k4 s1x s9 [.ptr k0 0,.agg [.int .i64 6,.str 0 0,.str 0 0,.str 0 0,.nilSlice,.int .i64 1,.int .i64 13,tba,.str 3 6762348,.int .i64 0,.int .i64 0,.int .i64 0,.int .i64 0,.str 0 0]] Zf Zu Zx Zl]
def dw101:List MRow:=[dR tys k4 sk s1y [.ptr k0 0,.agg [.int .i64 6,.str 0 0,.str 0 0,.str 0 0,.nilSlice,.int .i64 1,.int .i64 5,tba,.str 0 0,.int .i64 0,.int .i64 0,.int .i64 0,.int .i64 420,.str 6 127978876068212]] Zf Zu Zx Zl]
def dw102:List MRow:=[dR tys k4 s1y s1z [.ptr k0 0,.agg [.int .i64 6,.str 0 0,.str 0 0,.str 0 0,.nilSlice,.int .i64 1,.int .i64 8,tba,.str 0 0,.int .i64 0,.int .i64 0,.int .i64 0,.int .i64 0,.str 4 1954047348]] Zg Zu Zy Zk]
def dw103:List MRow:=[dR tys k4 s1z sn [.ptr k0 0,.agg [.int .i64 6,.str 0 0,.str 0 0,.str 0 0,.nilSlice,.int .i64 1,.int .i64 13,tba,.str 3 6762348,.int .i64 0,.int .i64 0,.int .i64 0,.int .i64 0,.str 0 0]] Zf Zu Zx Zl]
def dw104:List MRow:=[dR tys k4 sv s20 [.ptr k0 0,.agg [.int .i64 6,.str 0 0,.str 0 0,.str 0 0,.nilSlice,.int .i64 1,.int .i64 5,tba,.str 0 0,.int .i64 0,.int .i64 0,.int .i64 0,.int .i64 420,.str 6 127978876068212]] Zf Zu Zx Zl]
def dw105:List MRow:=[dR tys k4 s20 s21 [.ptr k0 0,.agg [.int .i64 6,.str 0 0,.str 0 0,.str 0 0,.nilSlice,.int .i64 1,.int .i64 8,tba,.str 0 0,.int .i64 0,.int .i64 0,.int .i64 0,.int .i64 0,.str 4 1954047348]] Zg Zu Zy Zk]
def dw106:List MRow:=[dR tys k4 s21 sy [.ptr k0 0,.agg [.int .i64 6,.str 0 0,.str 0 0,.str 0 0,.nilSlice,.int .i64 1,.int .i64 13,tba,.str 3 6762348,.int .i64 0,.int .i64 0,.int .i64 0,.int .i64 0,.str 0 0]] Zf Zu Zx Zl]
def dw107:List MRow:=[dR tys k4 s16 s22 [.ptr k0 0,.agg [.int .i64 6,.str 0 0,.str 0 0,.str 0 0,.nilSlice,.int .i64 1,.int .i64 5,tba,.str 0 0,.int .i64 0,.int .i64 0,.int .i64 0,.int .i64 420,.str 6 127978876068212]] Zf Zu Zx Zl]
def dw108:List MRow:=[dR tys k4 s22 s23 [.ptr k0 0,.agg [.int .i64 6,.str 0 0,.str 0 0,.str 0 0,.nilSlice,.int .i64 1,.int .i64 8,tba,.str 0 0,.int .i64 0,.int .i64 0,.int .i64 0,.int .i64 0,.str 4 1954047348]] Zg Zu Zy Zk]
def dw109:List MRow:=[dR tys k4 s23 s19 [.ptr k0 0,.agg [.int .i64 6,.str 0 0,.str 0 0,.str 0 0,.nilSlice,.int .i64 1,.int .i64 13,tba,.str 3 6762348,.int .i64 0,.int .i64 0,.int .i64 0,.int .i64 0,.str 0 0]] Zf Zu Zx Zl]
def dw110:List MRow:=[dR tys k4 s6 s24 [.ptr k0 0,.agg [.int .i64 6,.str 0 0,.str 0 0,.str 0 0,.nilSlice,.int .i64 1,.int .i64 5,tbb,.str 0 0,.int .i64 0,.int .i64 0,.int .i64 0,.int .i64 420,.str 6 127978876068212]] Zf Zu Zx Zl]
def dw111:List MRow:=[dR tys k4 s24 s25 [.ptr k0 0,.agg [.int .i64 6,.str 0 0,.str 0 0,.str 0 0,.nilSlice,.int .i64 1,.int .i64 8,tbb,.str 0 0,.int .i64 0,.int .i64 0,.int .i64 0,.int .i64 0,.str 4 1954047348]] Zg Zu Zy Zk]
def dw112:List MRow:=[dR tys k4 s25 s9 [.ptr k0 0,.agg [.int .i64 6,.str 0 0,.str 0 0,.str 0 0,.nilSlice,.int .i64 1,.int .i64 13,tbb,.str 3 6762348,.int .i64 0,.int .i64 0,.int .i64 0,.int .i64 0,.str 0 0]] Zf Zu Zx Zl]
def dw113:List MRow:=[dR tys k4 sk s26 [.ptr k0 0,.agg [.int .i64 6,.str 0 0,.str 0 0,.str 0 0,.nilSlice,.int .i64 1,.int .i64 5,tbb,.str 0 0,.int .i64 0,.int .i64 0,.int .i64 0,.int .i64 420,.str 6 127978876068212]] Zf Zu Zx Zl]
def dw114:List MRow:=[dR tys k4 s26 s27 [.ptr k0 0,.agg [.int .i64 6,.str 0 0,.str 0 0,.str 0 0,.nilSlice,.int .i64 1,.int .i64 8,tbb,.str 0 0,.int .i64 0,.int .i64 0,.int .i64 0,.int .i64 0,.str 4 1954047348]] Zg Zu Zy Zk]
def dw115:List MRow:=[dR tys k4 s27 sn [.ptr k0 0,.agg [.int .i64 6,.str 0 0,.str 0 0,.str 0 0,.nilSlice,.int .i64 1,.int .i64 13,tbb,.str 3 6762348,.int .i64 0,.int .i64 0,.int .i64 0,.int .i64 0,.str 0 0]] Zf Zu Zx Zl]
def dw116:List MRow:=[dR tys k4 sv s28 [.ptr k0 0,.agg [.int .i64 6,.str 0 0,.str 0 0,.str 0 0,.nilSlice,.int .i64 1,.int .i64 5,tbb,.str 0 0,.int .i64 0,.int .i64 0,.int .i64 0,.int .i64 420,.str 6 127978876068212]] Zf Zu Zx Zl]
def dw117:List MRow:=[dR tys k4 s28 s29 [.ptr k0 0,.agg [.int .i64 6,.str 0 0,.str 0 0,.str 0 0,.nilSlice,.int .i64 1,.int .i64 8,tbb,.str 0 0,.int .i64 0,.int .i64 0,.int .i64 0,.int .i64 0,.str 4 1954047348]] Zg Zu Zy Zk]
def dw118:List MRow:=[dR tys k4 s29 sy [.ptr k0 0,.agg [.int .i64 6,.str 0 0,.str 0 0,.str 0 0,.nilSlice,.int .i64 1,.int .i64 13,tbb,.str 3 6762348,.int .i64 0,.int .i64 0,.int .i64 0,.int .i64 0,.str 0 0]] Zf Zu Zx Zl]
def dw119:List MRow:=[dR tys k4 s16 s2a [.ptr k0 0,.agg [.int .i64 6,.str 0 0,.str 0 0,.str 0 0,.nilSlice,.int .i64 1,.int .i64 5,tbb,.str 0 0,.int .i64 0,.int .i64 0,.int .i64 0,.int .i64 420,.str 6 127978876068212]] Zf Zu Zx Zl]
def dw120:List MRow:=[dR tys k4 s2a s2b [.ptr k0 0,.agg [.int .i64 6,.str 0 0,.str 0 0,.str 0 0,.nilSlice,.int .i64 1,.int .i64 8,tbb,.str 0 0,.int .i64 0,.int .i64 0,.int .i64 0,.int .i64 0,.str 4 1954047348]] Zg Zu Zy Zk]
def dw121:List MRow:=[dR tys k4 s2b s19 [.ptr k0 0,.agg [.int .i64 6,.str 0 0,.str 0 0,.str 0 0,.nilSlice,.int .i64 1,.int .i64 13,tbb,.str 3 6762348,.int .i64 0,.int .i64 0,.int .i64 0,.int .i64 0,.str 0 0]] Zf Zu Zx Zl]
def dw122:List MRow:=[dR tys k4 s6 s2c [.ptr k0 0,.agg [.int .i64 6,.str 0 0,.str 0 0,.str 0 0,.nilSlice,.int .i64 1,.int .i64 5,tbc,.str 0 0,.int .i64 0,.int .i64 0,.int .i64 0,.int .i64 420,.str 6 127978876068212]] Zf Zu Zx Zl]
def dw123:List MRow:=[dR tys k4 s2c s2d [.ptr k0 0,.agg [.int .i64 6,.str 0 0,.str 0 0,.str 0 0,.nilSlice,.int .i64 1,.int .i64 8,tbc,.str 0 0,.int .i64 0,.int .i64 0,.int .i64 0,.int .i64 0,.str 4 1954047348]] Zg Zu Zy Zk]
def dw124:List MRow:=[dR tys k4 s2d s9 [.ptr k0 0,.agg [.int .i64 6,.str 0 0,.str 0 0,.str 0 0,.nilSlice,.int .i64 1,.int .i64 13,tbc,.str 3 6762348,.int .i64 0,.int .i64 0,.int .i64 0,.int .i64 0,.str 0 0]] Zf Zu Zx Zl]
def dw125:List MRow:=[dR tys k4 sk s2e [.ptr k0 0,.agg [.int .i64 6,.str 0 0,.str 0 0,.str 0 0,.nilSlice,.int .i64 1,.int .i64 5,tbc,.str 0 0,.int .i64 0,.int .i64 0,.int .i64 0,.int .i64 420,.str 6 127978876068212]] Zf Zu Zx Zl]
def dw126:List MRow:=[dR tys k4 s2e s2f [.ptr k0 0,.agg [.int .i64 6,.str 0 0,.str 0 0,.str 0 0,.nilSlice,.int .i64 1,.int .i64 8,tbc,.str 0 0,.int .i64 0,.int .i64 0,.int .i64 0,.int .i64 0,.str 4 1954047348]] Zg Zu Zy Zk]
def dw127:List MRow:=[dR tys k4 s2f sn [.ptr k0 0,.agg [.int .i64 6,.str 0 0,.str 0 0,.str 0 0,.nilSlice,.int .i64 1,.int .i64 13,tbc,.str 3 6762348,.int .i64 0,.int .i64 0,.int .i64 0,.int .i64 0,.str 0 0]] Zf Zu Zx Zl]
def dw128:List MRow:=[dR tys k4 sv s2g [.ptr k0 0,.agg [.int .i64 6,.str 0 0,.str 0 0,.str 0 0,.nilSlice,.int .i64 1,.int .i64 5,tbc,.str 0 0,.int .i64 0,.int .i64 0,.int .i64 0,.int .i64 420,.str 6 127978876068212]] Zf Zu Zx Zl]
def dw129:List MRow:=[dR tys k4 s2g s2h [.ptr k0 0,.agg [.int .i64 6,.str 0 0,.str 0 0,.str 0 0,.nilSlice,.int .i64 1,.int .i64 8,tbc,.str 0 0,.int .i64 0,.int .i64 0,.int .i64 0,.int .i64 0,.str 4 1954047348]] Zg Zu Zy Zk]
def dw130:List MRow:=[dR tys k4 s2h sy [.ptr k0 0,.agg [.int .i64 6,.str 0 0,.str 0 0,.str 0 0,.nilSlice,.int .i64 1,.int .i64 13,tbc,.str 3 6762348,.int .i64 0,.int .i64 0,.int .i64 0,.int .i64 0,.str 0 0]] Zf Zu Zx Zl]
def dw131:List MRow:=[dR tys k4 s16 s2i [.ptr k0 0,.agg [.int .i64 6,.str 0 0,.str 0 0,.str 0 0,.nilSlice,.int .i64 1,.int .i64 5,tbc,.str 0 0,.int .i64 0,.int .i64 0,.int .i64 0,.int .i64 420,.str 6 127978876068212]] Zf Zu Zx Zl]
def dw132:List MRow:=[dR tys k4 s2i s2j [.ptr k0 0,.agg [.int .i64 6,.str 0 0,.str 0 0,.str 0 0,.nilSlice,.int .i64 1,.int .i64 8,tbc,.str 0 0,.int .i64 0,.int .i64 0,.int .i64 0,.int .i64 0,.str 4 1954047348]] Zg Zu Zy Zk]
def dw133:List MRow:=[dR tys k4 s2j s19 [.ptr k0 0,.agg [.int .i64 6,.str 0 0,.str 0 0,.str 0 0,.nilSlice,.int .i64 1,.int .i64 13,tbc,.str 3 6762348,.int .i64 0,.int .i64 0,.int .i64 0,.int .i64 0,.str 0 0]] Zf Zu Zx Zl]
def dw134:List MRow:=[dR tys k4 s6 s2k [.ptr k0 0,.agg [.int .i64 6,.str 0 0,.str 0 0,.str 0 0,.nilSlice,.int .i64 1,.int .i64 5,tbd,.str 0 0,.int .i64 0,.int .i64 0,.int .i64 0,.int .i64 420,.str 6 127978876068212]] Zf Zu Zx Zl]
def dw135:List MRow:=[dR tys k4 s2k s2l [.ptr k0 0,.agg [.int .i64 6,.str 0 0,.str 0 0,.str 0 0,.nilSlice,.int .i64 1,.int .i64 8,tbd,.str 0 0,.int .i64 0,.int .i64 0,.int .i64 0,.int .i64 0,.str 4 1954047348]] Zg Zu Zy Zk]
def dw136:List MRow:=[dR tys k4 s2l s9 [.ptr k0 0,.agg [.int .i64 6,.str 0 0,.str 0 0,.str 0 0,.nilSlice,.int .i64 1,.int .i64 13,tbd,.str 3 6762348,.int .i64 0,.int .i64 0,.int .i64 0,.int .i64 0,.str 0 0]] Zf Zu Zx Zl]
def dw137:List MRow:=[dR tys k4 sk s2m [.ptr k0 0,.agg [.int .i64 6,.str 0 0,.str 0 0,.str 0 0,.nilSlice,.int .i64 1,.int .i64 5,tbd,.str 0 0,.int .i64 0,.int .i64 0,.int .i64 0,.int .i64 420,.str 6 127978876068212]] Zf Zu Zx Zl]
def dw138:List MRow:=[dR tys k4 s2m s2n [.ptr k0 0,.agg [.int .i64 6,.str 0 0,.str 0 0,.str 0 0,.nilSlice,.int .i64 1,.int .i64 8,tbd,.str 0 0,.int .i64 0,.int .i64 0,.int .i64 0,.int .i64 0,.str 4 1954047348]] Zg Zu Zy Zk]
def dw139:List MRow:=[dR tys k4 s2n sn [.ptr k0 0,.agg [.int .i64 6,.str 0 0,.str 0 0,.str 0 0,.nilSlice,.int .i64 1,.int .i64 13,tbd,.str 3 6762348,.int .i64 0,.int .i64 0,.int .i64 0,.int .i64 0,.str 0 0]] Zf Zu Zx Zl]
def dw140:List MRow:=[dR tys k4 sv s2o [.ptr k0 0,.agg [.int .i64 6,.str 0 0,.str 0 0,.str 0 0,.nilSlice,.int .i64 1,.int .i64 5,tbd,.str 0 0,.int .i64 0,.int .i64 0,.int .i64 0,.int .i64 420,.str 6 127978876068212]] Zf Zu Zx Zl]
def dw141:List MRow:=[dR tys k4 s2o s2p [.ptr k0 0,.agg [.int .i64 6,.str 0 0,.str 0 0,.str 0 0,.nilSlice,.int .i64 1,.int .i64 8,tbd,.str 0 0,.int .i64 0,.int .i64 0,.int .i64 0,.int .i64 0,.str 4 1954047348]] Zg Zu Zy Zk]
def dw142:List MRow:=[dR tys k4 s2p sy [.ptr k0 0,.agg [.int .i64 6,.str 0 0,.str 0 0,.str 0 0,.nilSlice,.int .i64 1,.int .i64 13,tbd,.str 3 6762348,.int .i64 0,.int .i64 0,.int .i64 0,.int .i64 0,.str 0 0]] Zf Zu Zx Zl]
def dw143:List MRow:=[dR tys k4 s16 s2q [.ptr k0 0,.agg [.int .i64 6,.str 0 0,.str 0 0,.str 0 0,.nilSlice,.int .i64 1,.int .i64 5,tbd,.str 0 0,.int .i64 0,.int .i64 0,.int .i64 0,.int .i64 420,.str 6 127978876068212]] Zf Zu Zx Zl]
def dw144:List MRow:=[dR tys k4 s2q s2r [.ptr k0 0,.agg [.int .i64 6,.str 0 0,.str 0 0,.str 0 0,.nilSlice,.int .i64 1,.int .i64 8,tbd,.str 0 0,.int .i64 0,.int .i64 0,.int .i64 0,.int .i64 0,.str 4 1954047348]] Zg Zu Zy Zk]
def dw145:List MRow:=[dR tys k4 s2r s19 [.ptr k0 0,.agg [.int .i64 6,.str 0 0,.str 0 0,.str 0 0,.nilSlice,.int .i64 1,.int .i64 13,tbd,.str 3 6762348,.int .i64 0,.int .i64 0,.int .i64 0,.int .i64 0,.str 0 0]] Zf Zu Zx Zl]
def dw146:List MRow:=[dR tys k4 s6 s2s [.ptr k0 0,.agg [.int .i64 6,.str 0 0,.str 0 0,.str 0 0,.nilSlice,.int .i64 1,.int .i64 5,tbe,.str 0 0,.int .i64 0,.int .i64 0,.int .i64 0,.int .i64 420,.str 6 127978876068212]] Zf Zu Zx Zl]
def dw147:List MRow:=[dR tys k4 s2s s2t [.ptr k0 0,.agg [.int .i64 6,.str 0 0,.str 0 0,.str 0 0,.nilSlice,.int .i64 1,.int .i64 8,tbe,.str 0 0,.int .i64 0,.int .i64 0,.int .i64 0,.int .i64 0,.str 4 1954047348]] Zg Zu Zy Zk]
def dw148:List MRow:=[dR tys k4 s2t s9 [.ptr k0 0,.agg [.int .i64 6,.str 0 0,.str 0 0,.str 0 0,.nilSlice,.int .i64 1,.int .i64 13,tbe,.str 3 6762348,.int .i64 0,.int .i64 0,.int .i64 0,.int .i64 0,.str 0 0]] Zf Zu Zx Zl]
def dw149:List MRow:=[dR tys k4 sk s2u [.ptr k0 0,.agg [.int .i64 6,.str 0 0,.str 0 0,.str 0 0,.nilSlice,.int .i64 1,.int .i64 5,tbe,.str 0 0,.int .i64 0,.int .i64 0,.int .i64 0,.int .i64 420,.str 6 127978876068212]] Zf Zu Zx Zl]
def dw150:List MRow:=[dR tys k4 s2u s2v [.ptr k0 0,.agg [.int .i64 6,.str 0 0,.str 0 0,.str 0 0,.nilSlice,.int .i64 1,.int .i64 8,tbe,.str 0 0,.int .i64 0,.int .i64 0,.int .i64 0,.int .i64 0,.str 4 1954047348]] Zg Zu Zy Zk]
def dw151:List MRow:=[dR tys k4 s2v sn [.ptr k0 0,.agg [.int .i64 6,.str 0 0,.str 0 0,.str 0 0,.nilSlice,.int .i64 1,.int .i64 13,tbe,.str 3 6762348,.int .i64 0,.int .i64 0,.int .i64 0,.int .i64 0,.str 0 0]] Zf Zu Zx Zl]
def dw152:List MRow:=[dR tys k4 sv s2w [.ptr k0 0,.agg [.int .i64 6,.str 0 0,.str 0 0,.str 0 0,.nilSlice,.int .i64 1,.int .i64 5,tbe,.str 0 0,.int .i64 0,.int .i64 0,.int .i64 0,.int .i64 420,.str 6 127978876068212]] Zf Zu Zx Zl]
def dw153:List MRow:=[dR tys k4 s2w s2x [.ptr k0 0,.agg [.int .i64 6,.str 0 0,.str 0 0,.str 0 0,.nilSlice,.int .i64 1,.int .i64 8,tbe,.str 0 0,.int .i64 0,.int .i64 0,.int .i64 0,.int .i64 0,.str 4 1954047348]] Zg Zu Zy Zk]
def dw154:List MRow:=[dR tys k4 s2x sy [.ptr k0 0,.agg [.int .i64 6,.str 0 0,.str 0 0,.str 0 0,.nilSlice,.int .i64 1,.int .i64 13,tbe,.str 3 6762348,.int .i64 0,.int .i64 0,.int .i64 0,.int .i64 0,.str 0 0]] Zf Zu Zx Zl]
def dw155:List MRow:=[dR tys k4 s16 s2y [.ptr k0 0,.agg [.int .i64 6,.str 0 0,.str 0 0,.str 0 0,.nilSlice,.int .i64 1,.int .i64 5,tbe,.str 0 0,.int .i64 0,.int .i64 0,.int .i64 0,.int .i64 420,.str 6 127978876068212]] Zf Zu Zx Zl]
def dw156:List MRow:=[dR tys k4 s2y s2z [.ptr k0 0,.agg [.int .i64 6,.str 0 0,.str 0 0,.str 0 0,.nilSlice,.int .i64 1,.int .i64 8,tbe,.str 0 0,.int .i64 0,.int .i64 0,.int .i64 0,.int .i64 0,.str 4 1954047348]] Zg Zu Zy Zk]
def dw157:List MRow:=[dR tys k4 s2z s19 [.ptr k0 0,.agg [.int .i64 6,.str 0 0,.str 0 0,.str 0 0,.nilSlice,.int .i64 1,.int .i64 13,tbe,.str 3 6762348,.int .i64 0,.int .i64 0,.int .i64 0,.int .i64 0,.str 0 0]] Zf Zu Zx Zl]
def dw158:List MRow:=[dR tys k4 s6 s30 [.ptr k0 0,.agg [.int .i64 6,.str 0 0,.str 0 0,.str 0 0,.nilSlice,.int .i64 1,.int .i64 5,tbf,.str 0 0,.int .i64 0,.int .i64 0,.int .i64 0,.int .i64 420,.str 6 127978876068212]] Zf Zu Zx Zl]
def dw159:List MRow:=[dR tys k4 s30 s31 [.ptr k0 0,.agg [.int .i64 6,.str 0 0,.str 0 0,.str 0 0,.nilSlice,.int .i64 1,.int .i64 8,tbf,.str 0 0,.int .i64 0,.int .i64 0,.int .i64 0,.int .i64 0,.str 4 1954047348]] Zg Zu Zy Zk]
def dw160:List MRow:=[dR tys k4 s31 s9 [.ptr k0 0,.agg [.int .i64 6,.str 0 0,.str 0 0,.str 0 0,.nilSlice,.int .i64 1,.int .i64 13,tbf,.str 3 6762348,.int .i64 0,.int .i64 0,.int .i64 0,.int .i64 0,.str 0 0]] Zf Zu Zx Zl]
def dw161:List MRow:=[dR tys k4 sk s32 [.ptr k0 0,.agg [.int .i64 6,.str 0 0,.str 0 0,.str 0 0,.nilSlice,.int .i64 1,.int .i64 5,tbf,.str 0 0,.int .i64 0,.int .i64 0,.int .i64 0,.int .i64 420,.str 6 127978876068212]] Zf Zu Zx Zl]
def dw162:List MRow:=[dR tys k4 s32 s33 [.ptr k0 0,.agg [.int .i64 6,.str 0 0,.str 0 0,.str 0 0,.nilSlice,.int .i64 1,.int .i64 8,tbf,.str 0 0,.int .i64 0,.int .i64 0,.int .i64 0,.int .i64 0,.str 4 1954047348]] Zg Zu Zy Zk]
def dw163:List MRow:=[dR tys k4 s33 sn [.ptr k0 0,.agg [.int .i64 6,.str 0 0,.str 0 0,.str 0 0,.nilSlice,.int .i64 1,.int .i64 13,tbf,.str 3 6762348,.int .i64 0,.int .i64 0,.int .i64 0,.int .i64 0,.str 0 0]] Zf Zu Zx Zl]
def dw164:List MRow:=[dR tys k4 sv s34 [.ptr k0 0,.agg [.int .i64 6,.str 0 0,.str 0 0,.str 0 0,.nilSlice,.int .i64 1,.int .i64 5,tbf,.str 0 0,.int .i64 0,.int .i64 0,.int .i64 0,.int .i64 420,.str 6 127978876068212]] Zf Zu Zx Zl]
def dw165:List MRow:=[dR tys k4 s34 s35 [.ptr k0 0,.agg [.int .i64 6,.str 0 0,.str 0 0,.str 0 0,.nilSlice,.int .i64 1,.int .i64 8,tbf,.str 0 0,.int .i64 0,.int .i64 0,.int .i64 0,.int .i64 0,.str 4 1954047348]] Zg Zu Zy Zk]
def dw166:List MRow:=[dR tys k4 s35 sy [.ptr k0 0,.agg [.int .i64 6,.str 0 0,.str 0 0,.str 0 0,.nilSlice,.int .i64 1,.int .i64 13,tbf,.str 3 6762348,.int .i64 0,.int .i64 0,.int .i64 0,.int .i64 0,.str 0 0]] Zf Zu Zx Zl]
def dw167:List MRow:=[dR tys k4 s16 s36 [.ptr k0 0,.agg [.int .i64 6,.str 0 0,.str 0 0,.str 0 0,.nilSlice,.int .i64 1,.int .i64 5,tbf,.str 0 0,.int .i64 0,.int .i64 0,.int .i64 0,.int .i64 420,.str 6 127978876068212]] Zf Zu Zx Zl]
def dw168:List MRow:=[dR tys k4 s36 s37 [.ptr k0 0,.agg [.int .i64 6,.str 0 0,.str 0 0,.str 0 0,.nilSlice,.int .i64 1,.int .i64 8,tbf,.str 0 0,.int .i64 0,.int .i64 0,.int .i64 0,.int .i64 0,.str 4 1954047348]] Zg Zu Zy Zk]
def dw169:List MRow:=[dR tys k4 s37 s19 [.ptr k0 0,.agg [.int .i64 6,.str 0 0,.str 0 0,.str 0 0,.nilSlice,.int .i64 1,.int .i64 13,tbf,.str 3 6762348,.int .i64 0,.int .i64 0,.int .i64 0,.int .i64 0,.str 0 0]] Zf Zu Zx Zl]
def dw170:List MRow:=[dR tys k4 s0 s38 [.ptr k0 0,.agg [.int .i64 3,.str 1 116,.str 0 0,.str 19 1318739858033904608473444756492996921336492646,.nilSlice,.int .i64 0,.int .i64 0,.str 0 0,.str 0 0,.int .i64 0,.int .i64 0,.int .i64 0,.int .i64 0,.str 0 0]] Zf [k5,k6,kh] [kv,kw,kx,ky,kz,k10,k11,k12,k13,k14,k15,k16,k17,k18,k19,k1a,k1b,k1c,k1d,k1e,k0,k1,k2,k8,ka,kc,kg,km,kq,kr,kt,ku] [(kh,.dead)]]
def dw171:List MRow:=[dR tys k4 s38 s39 [.ptr k0 0,.agg [.int .i64 4,.str 1 116,.str 0 0,.str 17 20131413071242410322311321564098966089572,.nilSlice,.int .i64 0,.int .i64 0,.str 0 0,.str 0 0,.int .i64 0,.int .i64 0,.int .i64 0,.int .i64 0,.str 0 0]] (.tup [.agg [.int .i64 0,.int .i64 0,.int .i64 1,.str 0 0,.nilSlice,.nilSlice,.int .i64 0,.int .i64 0,.int .i64 0,.int .i64 0,.str 0 0,.nilSlice,.int .i64 0,.int .i64 0],.int .i64 0]) [k5,k6,kh,k19,k1c,k1d,k1e] [k1g,k1h,k1l,k1m,k1n,k1p,k1q,k1s,k0,k1,k2,k8,ka,kg,km,kr,ku,ky,k12,k1b] [(kh,.dead),(k19,.dead),(k1c,.dead)]]
def dw172:List MRow:=[dR tys k4 s39 s3a [.ptr k0 0,.agg [.int .i64 5,.str 0 0,.str 0 0,.str 0 0,.nilSlice,.int .i64 1,.int .i64 0,.str 0 0,.str 0 0,.int .i64 0,.int .i64 0,.int .i64 0,.int .i64 0,.str 0 0]] Zf [k5,k6,kh,k19,k1c,k1e] [k1v,k1w,k1x,k1y,k0,k1,k8,ka,kg,km,kr,ku,k14] [(kh,.dead),(k19,.dead),(k1q,.dead),(k1c,.dead)]]
def drows:List MRow:=dw0 ++ (dw1 ++ (dw2 ++ (dw3 ++ (dw4 ++ (dw5 ++ (dw6 ++ (dw7 ++ (dw8 ++ (dw9 ++ (dw10 ++ (dw11 ++ (dw12 ++ (dw13 ++ (dw14 ++ (dw15 ++ (dw16 ++ (dw17 ++ (dw18 ++ (dw19 ++ (dw20 ++ (dw21 ++ (dw22 ++ (dw23 ++ (dw24 ++ (dw25 ++ (dw26 ++ (dw27 ++ (dw28 ++ (dw29 ++ (dw30 ++ (dw31 ++ (dw32 ++ (dw33 ++ (dw34 ++ (dw35 ++ (dw36 ++ (dw37 ++ (dw38 ++ (dw39 ++ (dw40 ++ (dw41 ++ (dw42 ++ (dw43 ++ (dw44 ++ (dw45 ++ (dw46 ++ (dw47 ++ (dw48 ++ (dw49 ++ (dw50 ++ (dw51 ++ (dw52 ++ (dw53 ++ (dw54 ++ (dw55 ++ (dw56 ++ (dw57 ++ (dw58 ++ (dw59 ++ (dw60 ++ (dw61 ++ (dw62 ++ (dw63 ++ (dw64 ++ (dw65 ++ (dw66 ++ (dw67 ++ (dw68 ++ (dw69 ++ (dw70 ++ (dw71 ++ (dw72 ++ (dw73 ++ (dw74 ++ (dw75 ++ (dw76 ++ (dw77 ++ (dw78 ++ (dw79 ++ (dw80 ++ (dw81 ++ (dw82 ++ (dw83 ++ (dw84 ++ (dw85 ++ (dw86 ++ (dw87 ++ (dw88 ++ (dw89 ++ (dw90 ++ (dw91 ++ (dw92 ++ (dw93 ++ (dw94 ++ (dw95 ++ (dw96 ++ (dw97 ++ (dw98 ++ (dw99 ++ (dw100 ++ (dw101 ++ (dw102 ++ (dw103 ++ (dw104 ++ (dw105 ++ (dw106 ++ (dw107 ++ (dw108 ++ (dw109 ++ (dw110 ++ (dw111 ++ (dw112 ++ (dw113 ++ (dw114 ++ (dw115 ++ (dw116 ++ (dw117 ++ (dw118 ++ (dw119 ++ (dw120 ++ (dw121 ++ (dw122 ++ (dw123 ++ (dw124 ++ (dw125 ++ (dw126 ++ (dw127 ++ (dw128 ++ (dw129 ++ (dw130 ++ (dw131 ++ (dw132 ++ (dw133 ++ (dw134 ++ (dw135 ++ (dw136 ++ (dw137 ++ (dw138 ++ (dw139 ++ (dw140 ++ (dw141 ++ (dw142 ++ (dw143 ++ (dw144 ++ (dw145 ++ (dw146 ++ (dw147 ++ (dw148 ++ (dw149 ++ (dw150 ++ (dw151 ++ (dw152 ++ (dw153 ++ (dw154 ++ (dw155 ++ (dw156 ++ (dw157 ++ (dw158 ++ (dw159 ++ (dw160 ++ (dw161 ++ (dw162 ++ (dw163 ++ (dw164 ++ (dw165 ++ (dw166 ++ (dw167 ++ (dw168 ++ (dw169 ++ (dw170 ++ (dw171 ++ (dw172))))))))))))))))))))))))))))))))))))))))))))))))))))))))))))))))))))))))))))))))))))))))))))))))))))))))))))))))))))))))))))))))))))))))))))))))))))))))))))))))))))))))))))
def brows:List MRow:=[]
def yr0 : ORow := ⟨[.ptr ⟨.d0, .d0, .d0, .d0, .d1⟩ 0], [(⟨.d0, .d0, .d0, .d0, .d1⟩, .fixed 274 [.int .i64 1, .rng 0 4096, .ustr 5, .junk, .junk, .junk, .junk, .nilSlice, .junk, .rng 0 16384, .rng 0 16384, .junk])], .ustr 63⟩
def yr1 : ORow := ⟨[.ptr ⟨.d0, .d0, .d0, .d0, .d1⟩ 0], [(⟨.d0, .d0, .d0, .d0, .d1⟩, .fixed 274 [.int .i64 1, .rng 0 4096, .ustr 6, .junk, .junk, .junk, .junk, .slice ⟨.d1, .d0, .d0, .d0, .d1⟩ 0 1 (.more 1), .junk, .rng 0 16384, .rng 0 16384, .junk]), (⟨.d1, .d0, .d0, .d0, .d1⟩, .fixed 3 [.rng 0 16384])], .ustr 63⟩
def yr2 : ORow := ⟨[.ptr ⟨.d0, .d0, .d0, .d0, .d1⟩ 0], [(⟨.d0, .d0, .d0, .d0, .d1⟩, .fixed 274 [.int .i64 2, .rng 0 4096, .ustr 3, .junk, .junk, .junk, .junk, .junk, .nilSlice, .rng 0 16384, .rng 0 16384, .junk])], .ustr 63⟩
def yr3 : ORow := ⟨[.ptr ⟨.d0, .d0, .d0, .d0, .d1⟩ 0], [(⟨.d0, .d0, .d0, .d0, .d1⟩, .fixed 274 [.int .i64 2, .rng 0 4096, .ustr 3, .junk, .junk, .junk, .junk, .junk, .slice ⟨.d1, .d0, .d0, .d0, .d1⟩ 0 1 (.is 1), .rng 0 16384, .rng 0 16384, .junk]), (⟨.d1, .d0, .d0, .d0, .d1⟩, .fixed 3 [.rng 0 16384])], .ustr 63⟩
def yr4 : ORow := ⟨[.ptr ⟨.d0, .d0, .d0, .d0, .d1⟩ 0], [(⟨.d0, .d0, .d0, .d0, .d1⟩, .fixed 274 [.int .i64 1, .rng 0 4096, .ustr 6, .junk, .junk, .junk, .junk, .slice ⟨.d1, .d0, .d0, .d0, .d1⟩ 0 0 (.more 1), .junk, .rng 0 16384, .rng 0 16384, .junk]), (⟨.d1, .d0, .d0, .d0, .d1⟩, .fixed 3 [.rng 0 16384])], .ustr 63⟩
def yr5 : ORow := ⟨[.ptr ⟨.d0, .d0, .d0, .d0, .d1⟩ 0], [(⟨.d0, .d0, .d0, .d0, .d1⟩, .fixed 274 [.int .i64 2, .rng 0 4096, .ustr 12, .junk, .junk, .junk, .junk, .junk, .slice ⟨.d1, .d0, .d0, .d0, .d1⟩ 0 1 (.is 1), .rng 0 16384, .rng 0 16384, .junk]), (⟨.d1, .d0, .d0, .d0, .d1⟩, .fixed 3 [.rng 0 16384])], .ustr 63⟩
def yr6 : ORow := ⟨[.ptr ⟨.d0, .d0, .d0, .d0, .d1⟩ 0], [(⟨.d0, .d0, .d0, .d0, .d1⟩, .fixed 274 [.int .i64 1, .rng 0 4096, .ustr 5, .junk, .junk, .junk, .junk, .slice ⟨.d1, .d0, .d0, .d0, .d1⟩ 0 1 (.more 1), .junk, .rng 0 16384, .rng 0 16384, .junk]), (⟨.d1, .d0, .d0, .d0, .d1⟩, .fixed 3 [.rng 0 16384])], .ustr 63⟩
def yr7 : ORow := ⟨[.ptr ⟨.d0, .d0, .d0, .d0, .d1⟩ 0], [(⟨.d0, .d0, .d0, .d0, .d1⟩, .fixed 274 [.int .i64 1, .rng 0 4096, .ustr 5, .junk, .junk, .junk, .junk, .slice ⟨.d1, .d0, .d0, .d0, .d1⟩ 0 0 (.more 1), .junk, .rng 0 16384, .rng 0 16384, .junk]), (⟨.d1, .d0, .d0, .d0, .d1⟩, .fixed 3 [.rng 0 16384])], .ustr 63⟩
def yr8 : ORow := ⟨[.ptr ⟨.d0, .d0, .d0, .d0, .d1⟩ 0], [(⟨.d0, .d0, .d0, .d0, .d1⟩, .fixed 274 [.int .i64 2, .rng 0 4096, .ustr 5, .junk, .junk, .junk, .junk, .junk, .slice ⟨.d1, .d0, .d0, .d0, .d1⟩ 0 1 (.is 1), .rng 0 16384, .rng 0 16384, .junk]), (⟨.d1, .d0, .d0, .d0, .d1⟩, .fixed 3 [.rng 0 16384])], .ustr 63⟩
def yr9 : ORow := ⟨[.ptr ⟨.d0, .d0, .d0, .d0, .d1⟩ 0], [(⟨.d0, .d0, .d0, .d0, .d1⟩, .fixed 274 [.int .i64 2, .rng 0 4096, .ustr 6, .junk, .junk, .junk, .junk, .junk, .nilSlice, .rng 0 16384, .rng 0 16384, .junk])], .ustr 63⟩
def yr10 : ORow := ⟨[.ptr ⟨.d0, .d0, .d0, .d0, .d1⟩ 0], [(⟨.d0, .d0, .d0, .d0, .d1⟩, .fixed 274 [.int .i64 2, .rng 0 4096, .ustr 6, .junk, .junk, .junk, .junk, .junk, .slice ⟨.d1, .d0, .d0, .d0, .d1⟩ 0 1 (.is 1), .rng 0 16384, .rng 0 16384, .junk]), (⟨.d1, .d0, .d0, .d0, .d1⟩, .fixed 3 [.rng 0 16384])], .ustr 63⟩
def yr11 : ORow := ⟨[.ptr ⟨.d0, .d0, .d0, .d0, .d1⟩ 0], [(⟨.d0, .d0, .d0, .d0, .d1⟩, .fixed 274 [.int .i64 2, .rng 0 4096, .ustr 7, .junk, .junk, .junk, .junk, .junk, .nilSlice, .rng 0 16384, .rng 0 16384, .junk])], .ustr 63⟩
def yr12 : ORow := ⟨[.ptr ⟨.d0, .d0, .d0, .d0, .d1⟩ 0], [(⟨.d0, .d0, .d0, .d0, .d1⟩, .fixed 274 [.int .i64 2, .rng 0 4096, .ustr 7, .junk, .junk, .junk, .junk, .junk, .slice ⟨.d1, .d0, .d0, .d0, .d1⟩ 0 1 (.is 1), .rng 0 16384, .rng 0 16384, .junk]), (⟨.d1, .d0, .d0, .d0, .d1⟩, .fixed 3 [.rng 0 16384])], .ustr 63⟩
def yrows : List ORow := [yr0, yr1, yr2, yr3, yr4, yr5, yr6, yr7, yr8, yr9, yr10, yr11, yr12]
end
end Go.Proofs.YtooelpaaidnhiaaGreatDoor
