/- What the tower's functions leave behind, call by call: states, and rows that lead from one to another. No conditions. -/
import Derived.Test.YtdkbfimccddikaaGreatDoorVJ
namespace Go.Proofs.YtdkbfimccddikaaGreatDoor
open Go.VM
noncomputable section
open Go.VM.D8 (d0 d1 d2 d3 d4 d5 d6 d7)
abbrev KQ:=Key.mk
def tys:List Nat:=[117, 211, 321, 311, 327, 389]
def k0:=KQ d0 d0 d0 d0 d1
def k1:=KQ d1 d0 d0 d0 d1
def k2:=KQ d2 d0 d0 d0 d1
def k3:=KQ d3 d0 d0 d0 d1
def k4:=KQ d4 d0 d0 d0 d1
def k5:=KQ d5 d0 d0 d0 d1
def k6:=KQ d6 d0 d0 d0 d1
def k7:=KQ d7 d0 d0 d0 d1
def k8:=KQ d0 d1 d0 d0 d1
def k9:=KQ d1 d1 d0 d0 d1
def ka:=KQ d2 d1 d0 d0 d1
def kb:=KQ d3 d1 d0 d0 d1
def kc:=KQ d4 d1 d0 d0 d1
def kd:=KQ d5 d1 d0 d0 d1
def ke:=KQ d6 d1 d0 d0 d1
def kf:=KQ d7 d1 d0 d0 d1
def kg:=KQ d0 d2 d0 d0 d1
def kh:=KQ d1 d2 d0 d0 d1
def ki:=KQ d2 d2 d0 d0 d1
def kj:=KQ d3 d2 d0 d0 d1
def kk:=KQ d4 d2 d0 d0 d1
def kl:=KQ d5 d2 d0 d0 d1
def km:=KQ d6 d2 d0 d0 d1
def kn:=KQ d7 d2 d0 d0 d1
def ko:=KQ d0 d3 d0 d0 d1
def kp:=KQ d1 d3 d0 d0 d1
def kq:=KQ d2 d3 d0 d0 d1
def kr:=KQ d3 d3 d0 d0 d1
def ks:=KQ d4 d3 d0 d0 d1
def kt:=KQ d5 d3 d0 d0 d1
def ku:=KQ d6 d3 d0 d0 d1
def kv:=KQ d7 d3 d0 d0 d1
def kw:=KQ d0 d4 d0 d0 d1
def kx:=KQ d1 d4 d0 d0 d1
def ky:=KQ d2 d4 d0 d0 d1
def kz:=KQ d3 d4 d0 d0 d1
def k10:=KQ d4 d4 d0 d0 d1
def k11:=KQ d5 d4 d0 d0 d1
def k12:=KQ d6 d4 d0 d0 d1
def k13:=KQ d7 d4 d0 d0 d1
def k14:=KQ d0 d5 d0 d0 d1
def k15:=KQ d1 d5 d0 d0 d1
def k16:=KQ d2 d5 d0 d0 d1
def k17:=KQ d3 d5 d0 d0 d1
def k18:=KQ d4 d5 d0 d0 d1
def k19:=KQ d5 d5 d0 d0 d1
def k1a:=KQ d6 d5 d0 d0 d1
def k1b:=KQ d7 d5 d0 d0 d1
def k1c:=KQ d0 d6 d0 d0 d1
def k1d:=KQ d1 d6 d0 d0 d1
def k1e:=KQ d2 d6 d0 d0 d1
def k1f:=KQ d3 d6 d0 d0 d1
def k1g:=KQ d4 d6 d0 d0 d1
def k1h:=KQ d5 d6 d0 d0 d1
def k1i:=KQ d6 d6 d0 d0 d1
def k1j:=KQ d7 d6 d0 d0 d1
def k1k:=KQ d0 d7 d0 d0 d1
def k1l:=KQ d1 d7 d0 d0 d1
def k1m:=KQ d2 d7 d0 d0 d1
def k1n:=KQ d3 d7 d0 d0 d1
def k1o:=KQ d4 d7 d0 d0 d1
def k1p:=KQ d5 d7 d0 d0 d1
def k1q:=KQ d6 d7 d0 d0 d1
def k1r:=KQ d7 d7 d0 d0 d1
def k1s:=KQ d0 d0 d1 d0 d1
def k1t:=KQ d1 d0 d1 d0 d1
def k1u:=KQ d2 d0 d1 d0 d1
def k1v:=KQ d3 d0 d1 d0 d1
def k1w:=KQ d4 d0 d1 d0 d1
def k1x:=KQ d5 d0 d1 d0 d1
def k1y:=KQ d6 d0 d1 d0 d1
def k1z:=KQ d7 d0 d1 d0 d1
def k20:=KQ d0 d1 d1 d0 d1
def k21:=KQ d1 d1 d1 d0 d1
def k22:=KQ d2 d1 d1 d0 d1
def k23:=KQ d3 d1 d1 d0 d1
def k24:=KQ d4 d1 d1 d0 d1
def k25:=KQ d5 d1 d1 d0 d1
def k26:=KQ d6 d1 d1 d0 d1
def k27:=KQ d7 d1 d1 d0 d1
def k28:=KQ d0 d2 d1 d0 d1
def k29:=KQ d1 d2 d1 d0 d1
def k2a:=KQ d2 d2 d1 d0 d1
def k2b:=KQ d3 d2 d1 d0 d1
def k2c:=KQ d4 d2 d1 d0 d1
def k2d:=KQ d5 d2 d1 d0 d1
def k2e:=KQ d6 d2 d1 d0 d1
def k2f:=KQ d7 d2 d1 d0 d1
def k2g:=KQ d0 d3 d1 d0 d1
def k2h:=KQ d1 d3 d1 d0 d1
def k2i:=KQ d2 d3 d1 d0 d1
def k2j:=KQ d3 d3 d1 d0 d1
def k2k:=KQ d4 d3 d1 d0 d1
def k2l:=KQ d5 d3 d1 d0 d1
def k2m:=KQ d6 d3 d1 d0 d1
def k2n:=KQ d7 d3 d1 d0 d1
def k2o:=KQ d0 d4 d1 d0 d1
def k2p:=KQ d1 d4 d1 d0 d1
def k2q:=KQ d2 d4 d1 d0 d1
def k2r:=KQ d3 d4 d1 d0 d1
def k2s:=KQ d4 d4 d1 d0 d1
def kS0:=KQ d7 d7 d7 d7 d7
def kS1:=KQ d6 d7 d7 d7 d7
def kS2:=KQ d5 d7 d7 d7 d7
def kS3:=KQ d4 d7 d7 d7 d7
def kS4:=KQ d3 d7 d7 d7 d7
def kS5:=KQ d2 d7 d7 d7 d7
def dom0:List Nat:=[0,1,2,3,4,5,6,7,8,9,10,11,12,13,14,15,16,17,18,19,20,21,22,23,24,25,26,27,28,29,30,31,32,33,34,35,36,37,38,39,40,41,42,43,44,45,46,47,48,49,50,51,52,53,54,55,56,57,58,59,60,61,62,63,64,65,66,67,68,69,70,71,72,73,74,75,76,77,78,79,80,81,82,83,84,85,86,87,88,89,90,91,92,93,94,95,96,97,98,99,100,101,102,103,104,105,106,107,108,109,110,111,112,113,114,115,116,117,118,119,120,121,122,123,124,125,126,127]
def dom1:List Nat:=[128,129,130,131,132,133,134,135,136,137,138,139,140,141,142,143,144,145,146,147,148,149,150,151,152,153,154,155,156,157,158,159,160,161,162,163,164,165,166,167,168,169,170,171,172,173,174,175,176,177,178,179,180,181,182,183,184,185,186,187,188,189,190,191,192,193,194,195,196,197,198,199,200,201,202,203,204,205,206,207,208,209,210,211,212,213,214,215,216,217,218,219,220,221,222,223,224,225,226,227,228,229,230,231,232,233,234,235,236,237,238,239,240,241,242,243,244,245,246,247,248,249,250,251,252,253,254,255]
def dom2:List Nat:=[256,257,258,259,260,261,262,263,264,265,266,267,268,269,270,271,272,273,274,275,276,277,278,279,280,281,282,283,284,285,286,287,288,289,290,291,292,293,294,295,296,297,298,299,300,301,302,303,304,305,306,307,308,309,310,311,312,313,314,315,316,317,318,319,320,321,322,323,324,325,326,327,328,329,330,331,332,333,334,335,336,337,338,339,340,341,342,343,344,345,346,347,348,349,350,351,352,353,354,355,356,357,358,359,360,361,362,363,364,365,366,367,368,369,370,371,372,373,374,375,376,377,378,379,380,381,382,383]
def dom3:List Nat:=[384,385,386,387,388,389,390,391,392,393,394,395,396,397,398,399,400,401,402,403,404,405,406,407,408,409,410,411,412,413,414,415,416,417,418,419,421,422,423,424,425,426,427,428,429,430,431,432,433,434,435,436,437,438,439,440,441,442,443,444,445,446,447,448,449,450,451,452,453,454,455,456,457,458,459,460,461,462,463,464,465,466,467,468,469,470,471,472,473,474,475,476,477,478,479,480,481,482,483,484,485,486,487,488,489,490,491,492,494,495,496,497,498,499,500,501,502,503,504,505,506,507,508,509,510,511]
def dom4:List Nat:=[420]
def dom5:List Nat:=[493]
def tb0:AV:=.tab kS0 dom0 [.int .i64 0,.int .i64 1,.int .i64 2,.int .i64 3,.int .i64 4,.int .i64 5,.int .i64 6,.int .i64 7,.int .i64 8,.int .i64 9,.int .i64 10,.int .i64 11,.int .i64 12,.int .i64 13,.int .i64 14,.int .i64 15,.int .i64 16,.int .i64 17,.int .i64 18,.int .i64 19,.int .i64 20,.int .i64 21,.int .i64 22,.int .i64 23,.int .i64 24,.int .i64 25,.int .i64 26,.int .i64 27,.int .i64 28,.int .i64 29,.int .i64 30,.int .i64 31,.int .i64 32,.int .i64 33,.int .i64 34,.int .i64 35,.int .i64 36,.int .i64 37,.int .i64 38,.int .i64 39,.int .i64 40,.int .i64 41,.int .i64 42,.int .i64 43,.int .i64 44,.int .i64 45,.int .i64 46,.int .i64 47,.int .i64 48,.int .i64 49,.int .i64 50,.int .i64 51,.int .i64 52,.int .i64 53,.int .i64 54,.int .i64 55,.int .i64 56,.int .i64 57,.int .i64 58,.int .i64 59,.int .i64 60,.int .i64 61,.int .i64 62,.int .i64 63,.int .i64 64,.int .i64 65,.int .i64 66,.int .i64 67,.int .i64 68,.int .i64 69,.int .i64 70,.int .i64 71,.int .i64 72,.int .i64 73,.int .i64 74,.int .i64 75,.int .i64 76,.int .i64 77,.int .i64 78,.int .i64 79,.int .i64 80,.int .i64 81,.int .i64 82,.int .i64 83,.int .i64 84,.int .i64 85,.int .i64 86,.int .i64 87,.int .i64 88,.int .i64 89,.int .i64 90,.int .i64 91,.int .i64 92,.int .i64 93,.int .i64 94,.int .i64 95,.int .i64 96,.int .i64 97,.int .i64 98,.int .i64 99,.int .i64 100,.int .i64 101,.int .i64 102,.int .i64 103,.int .i64 104,.int .i64 105,.int .i64 106,.int .i64 107,.int .i64 108,.int .i64 109,.int .i64 110,.int .i64 111,.int .i64 112,.int .i64 113,.int .i64 114,.int .i64 115,.int .i64 116,.int .i64 117,.int .i64 118,.int .i64 119,.int .i64 120,.int .i64 121,.int .i64 122,.int .i64 123,.int .i64 124,.int .i64 125,.int .i64 126,.int .i64 127]
def tb1:AV:=.tab kS1 dom1 [.int .i64 128,.int .i64 129,.int .i64 130,.int .i64 131,.int .i64 132,.int .i64 133,.int .i64 134,.int .i64 135,.int .i64 136,.int .i64 137,.int .i64 138,.int .i64 139,.int .i64 140,.int .i64 141,.int .i64 142,.int .i64 143,.int .i64 144,.int .i64 145,.int .i64 146,.int .i64 147,.int .i64 148,.int .i64 149,.int .i64 150,.int .i64 151,.int .i64 152,.int .i64 153,.int .i64 154,.int .i64 155,.int .i64 156,.int .i64 157,.int .i64 158,.int .i64 159,.int .i64 160,.int .i64 161,.int .i64 162,.int .i64 163,.int .i64 164,.int .i64 165,.int .i64 166,.int .i64 167,.int .i64 168,.int .i64 169,.int .i64 170,.int .i64 171,.int .i64 172,.int .i64 173,.int .i64 174,.int .i64 175,.int .i64 176,.int .i64 177,.int .i64 178,.int .i64 179,.int .i64 180,.int .i64 181,.int .i64 182,.int .i64 183,.int .i64 184,.int .i64 185,.int .i64 186,.int .i64 187,.int .i64 188,.int .i64 189,.int .i64 190,.int .i64 191,.int .i64 192,.int .i64 193,.int .i64 194,.int .i64 195,.int .i64 196,.int .i64 197,.int .i64 198,.int .i64 199,.int .i64 200,.int .i64 201,.int .i64 202,.int .i64 203,.int .i64 204,.int .i64 205,.int .i64 206,.int .i64 207,.int .i64 208,.int .i64 209,.int .i64 210,.int .i64 211,.int .i64 212,.int .i64 213,.int .i64 214,.int .i64 215,.int .i64 216,.int .i64 217,.int .i64 218,.int .i64 219,.int .i64 220,.int .i64 221,.int .i64 222,.int .i64 223,.int .i64 224,.int .i64 225,.int .i64 226,.int .i64 227,.int .i64 228,.int .i64 229,.int .i64 230,.int .i64 231,.int .i64 232,.int .i64 233,.int .i64 234,.int .i64 235,.int .i64 236,.int .i64 237,.int .i64 238,.int .i64 239,.int .i64 240,.int .i64 241,.int .i64 242,.int .i64 243,.int .i64 244,.int .i64 245,.int .i64 246,.int .i64 247,.int .i64 248,.int .i64 249,.int .i64 250,.int .i64 251,.int .i64 252,.int .i64 253,.int .i64 254,.int .i64 255]
def tb2:AV:=.tab kS2 dom2 [.int .i64 256,.int .i64 257,.int .i64 258,.int .i64 259,.int .i64 260,.int .i64 261,.int .i64 262,.int .i64 263,.int .i64 264,.int .i64 265,.int .i64 266,.int .i64 267,.int .i64 268,.int .i64 269,.int .i64 270,.int .i64 271,.int .i64 272,.int .i64 273,.int .i64 274,.int .i64 275,.int .i64 276,.int .i64 277,.int .i64 278,.int .i64 279,.int .i64 280,.int .i64 281,.int .i64 282,.int .i64 283,.int .i64 284,.int .i64 285,.int .i64 286,.int .i64 287,.int .i64 288,.int .i64 289,.int .i64 290,.int .i64 291,.int .i64 292,.int .i64 293,.int .i64 294,.int .i64 295,.int .i64 296,.int .i64 297,.int .i64 298,.int .i64 299,.int .i64 300,.int .i64 301,.int .i64 302,.int .i64 303,.int .i64 304,.int .i64 305,.int .i64 306,.int .i64 307,.int .i64 308,.int .i64 309,.int .i64 310,.int .i64 311,.int .i64 312,.int .i64 313,.int .i64 314,.int .i64 315,.int .i64 316,.int .i64 317,.int .i64 318,.int .i64 319,.int .i64 320,.int .i64 321,.int .i64 322,.int .i64 323,.int .i64 324,.int .i64 325,.int .i64 326,.int .i64 327,.int .i64 328,.int .i64 329,.int .i64 330,.int .i64 331,.int .i64 332,.int .i64 333,.int .i64 334,.int .i64 335,.int .i64 336,.int .i64 337,.int .i64 338,.int .i64 339,.int .i64 340,.int .i64 341,.int .i64 342,.int .i64 343,.int .i64 344,.int .i64 345,.int .i64 346,.int .i64 347,.int .i64 348,.int .i64 349,.int .i64 350,.int .i64 351,.int .i64 352,.int .i64 353,.int .i64 354,.int .i64 355,.int .i64 356,.int .i64 357,.int .i64 358,.int .i64 359,.int .i64 360,.int .i64 361,.int .i64 362,.int .i64 363,.int .i64 364,.int .i64 365,.int .i64 366,.int .i64 367,.int .i64 368,.int .i64 369,.int .i64 370,.int .i64 371,.int .i64 372,.int .i64 373,.int .i64 374,.int .i64 375,.int .i64 376,.int .i64 377,.int .i64 378,.int .i64 379,.int .i64 380,.int .i64 381,.int .i64 382,.int .i64 383]
def tb3:AV:=.tab kS3 dom3 [.int .i64 384,.int .i64 385,.int .i64 386,.int .i64 387,.int .i64 388,.int .i64 389,.int .i64 390,.int .i64 391,.int .i64 392,.int .i64 393,.int .i64 394,.int .i64 395,.int .i64 396,.int .i64 397,.int .i64 398,.int .i64 399,.int .i64 400,.int .i64 401,.int .i64 402,.int .i64 403,.int .i64 404,.int .i64 405,.int .i64 406,.int .i64 407,.int .i64 408,.int .i64 409,.int .i64 410,.int .i64 411,.int .i64 412,.int .i64 413,.int .i64 414,.int .i64 415,.int .i64 416,.int .i64 417,.int .i64 418,.int .i64 419,.int .i64 421,.int .i64 422,.int .i64 423,.int .i64 424,.int .i64 425,.int .i64 426,.int .i64 427,.int .i64 428,.int .i64 429,.int .i64 430,.int .i64 431,.int .i64 432,.int .i64 433,.int .i64 434,.int .i64 435,.int .i64 436,.int .i64 437,.int .i64 438,.int .i64 439,.int .i64 440,.int .i64 441,.int .i64 442,.int .i64 443,.int .i64 444,.int .i64 445,.int .i64 446,.int .i64 447,.int .i64 448,.int .i64 449,.int .i64 450,.int .i64 451,.int .i64 452,.int .i64 453,.int .i64 454,.int .i64 455,.int .i64 456,.int .i64 457,.int .i64 458,.int .i64 459,.int .i64 460,.int .i64 461,.int .i64 462,.int .i64 463,.int .i64 464,.int .i64 465,.int .i64 466,.int .i64 467,.int .i64 468,.int .i64 469,.int .i64 470,.int .i64 471,.int .i64 472,.int .i64 473,.int .i64 474,.int .i64 475,.int .i64 476,.int .i64 477,.int .i64 478,.int .i64 479,.int .i64 480,.int .i64 481,.int .i64 482,.int .i64 483,.int .i64 484,.int .i64 485,.int .i64 486,.int .i64 487,.int .i64 488,.int .i64 489,.int .i64 490,.int .i64 491,.int .i64 492,.int .i64 494,.int .i64 495,.int .i64 496,.int .i64 497,.int .i64 498,.int .i64 499,.int .i64 500,.int .i64 501,.int .i64 502,.int .i64 503,.int .i64 504,.int .i64 505,.int .i64 506,.int .i64 507,.int .i64 508,.int .i64 509,.int .i64 510,.int .i64 511]
def tb4:AV:=.tab kS4 dom4 [.int .i64 420]
def tb5:AV:=.tab kS5 dom5 [.int .i64 493]
def tb6:AV:=.tab kS0 dom0 [.int .i64 512,.int .i64 513,.int .i64 514,.int .i64 515,.int .i64 516,.int .i64 517,.int .i64 518,.int .i64 519,.int .i64 520,.int .i64 521,.int .i64 522,.int .i64 523,.int .i64 524,.int .i64 525,.int .i64 526,.int .i64 527,.int .i64 528,.int .i64 529,.int .i64 530,.int .i64 531,.int .i64 532,.int .i64 533,.int .i64 534,.int .i64 535,.int .i64 536,.int .i64 537,.int .i64 538,.int .i64 539,.int .i64 540,.int .i64 541,.int .i64 542,.int .i64 543,.int .i64 544,.int .i64 545,.int .i64 546,.int .i64 547,.int .i64 548,.int .i64 549,.int .i64 550,.int .i64 551,.int .i64 552,.int .i64 553,.int .i64 554,.int .i64 555,.int .i64 556,.int .i64 557,.int .i64 558,.int .i64 559,.int .i64 560,.int .i64 561,.int .i64 562,.int .i64 563,.int .i64 564,.int .i64 565,.int .i64 566,.int .i64 567,.int .i64 568,.int .i64 569,.int .i64 570,.int .i64 571,.int .i64 572,.int .i64 573,.int .i64 574,.int .i64 575,.int .i64 576,.int .i64 577,.int .i64 578,.int .i64 579,.int .i64 580,.int .i64 581,.int .i64 582,.int .i64 583,.int .i64 584,.int .i64 585,.int .i64 586,.int .i64 587,.int .i64 588,.int .i64 589,.int .i64 590,.int .i64 591,.int .i64 592,.int .i64 593,.int .i64 594,.int .i64 595,.int .i64 596,.int .i64 597,.int .i64 598,.int .i64 599,.int .i64 600,.int .i64 601,.int .i64 602,.int .i64 603,.int .i64 604,.int .i64 605,.int .i64 606,.int .i64 607,.int .i64 608,.int .i64 609,.int .i64 610,.int .i64 611,.int .i64 612,.int .i64 613,.int .i64 614,.int .i64 615,.int .i64 616,.int .i64 617,.int .i64 618,.int .i64 619,.int .i64 620,.int .i64 621,.int .i64 622,.int .i64 623,.int .i64 624,.int .i64 625,.int .i64 626,.int .i64 627,.int .i64 628,.int .i64 629,.int .i64 630,.int .i64 631,.int .i64 632,.int .i64 633,.int .i64 634,.int .i64 635,.int .i64 636,.int .i64 637,.int .i64 638,.int .i64 639]
def tb7:AV:=.tab kS0 dom0 [.int .i64 (-1),.int .i64 (-2),.int .i64 (-3),.int .i64 (-4),.int .i64 (-5),.int .i64 (-6),.int .i64 (-7),.int .i64 (-8),.int .i64 (-9),.int .i64 (-10),.int .i64 (-11),.int .i64 (-12),.int .i64 (-13),.int .i64 (-14),.int .i64 (-15),.int .i64 (-16),.int .i64 (-17),.int .i64 (-18),.int .i64 (-19),.int .i64 (-20),.int .i64 (-21),.int .i64 (-22),.int .i64 (-23),.int .i64 (-24),.int .i64 (-25),.int .i64 (-26),.int .i64 (-27),.int .i64 (-28),.int .i64 (-29),.int .i64 (-30),.int .i64 (-31),.int .i64 (-32),.int .i64 (-33),.int .i64 (-34),.int .i64 (-35),.int .i64 (-36),.int .i64 (-37),.int .i64 (-38),.int .i64 (-39),.int .i64 (-40),.int .i64 (-41),.int .i64 (-42),.int .i64 (-43),.int .i64 (-44),.int .i64 (-45),.int .i64 (-46),.int .i64 (-47),.int .i64 (-48),.int .i64 (-49),.int .i64 (-50),.int .i64 (-51),.int .i64 (-52),.int .i64 (-53),.int .i64 (-54),.int .i64 (-55),.int .i64 (-56),.int .i64 (-57),.int .i64 (-58),.int .i64 (-59),.int .i64 (-60),.int .i64 (-61),.int .i64 (-62),.int .i64 (-63),.int .i64 (-64),.int .i64 (-65),.int .i64 (-66),.int .i64 (-67),.int .i64 (-68),.int .i64 (-69),.int .i64 (-70),.int .i64 (-71),.int .i64 (-72),.int .i64 (-73),.int .i64 (-74),.int .i64 (-75),.int .i64 (-76),.int .i64 (-77),.int .i64 (-78),.int .i64 (-79),.int .i64 (-80),.int .i64 (-81),.int .i64 (-82),.int .i64 (-83),.int .i64 (-84),.int .i64 (-85),.int .i64 (-86),.int .i64 (-87),.int .i64 (-88),.int .i64 (-89),.int .i64 (-90),.int .i64 (-91),.int .i64 (-92),.int .i64 (-93),.int .i64 (-94),.int .i64 (-95),.int .i64 (-96),.int .i64 (-97),.int .i64 (-98),.int .i64 (-99),.int .i64 (-100),.int .i64 (-101),.int .i64 (-102),.int .i64 (-103),.int .i64 (-104),.int .i64 (-105),.int .i64 (-106),.int .i64 (-107),.int .i64 (-108),.int .i64 (-109),.int .i64 (-110),.int .i64 (-111),.int .i64 (-112),.int .i64 (-113),.int .i64 (-114),.int .i64 (-115),.int .i64 (-116),.int .i64 (-117),.int .i64 (-118),.int .i64 (-119),.int .i64 (-120),.int .i64 (-121),.int .i64 (-122),.int .i64 (-123),.int .i64 (-124),.int .i64 (-125),.int .i64 (-126),.int .i64 (-127),.int .i64 (-128)]
def tb8:AV:=.tab kS1 dom1 [.int .i64 640,.int .i64 641,.int .i64 642,.int .i64 643,.int .i64 644,.int .i64 645,.int .i64 646,.int .i64 647,.int .i64 648,.int .i64 649,.int .i64 650,.int .i64 651,.int .i64 652,.int .i64 653,.int .i64 654,.int .i64 655,.int .i64 656,.int .i64 657,.int .i64 658,.int .i64 659,.int .i64 660,.int .i64 661,.int .i64 662,.int .i64 663,.int .i64 664,.int .i64 665,.int .i64 666,.int .i64 667,.int .i64 668,.int .i64 669,.int .i64 670,.int .i64 671,.int .i64 672,.int .i64 673,.int .i64 674,.int .i64 675,.int .i64 676,.int .i64 677,.int .i64 678,.int .i64 679,.int .i64 680,.int .i64 681,.int .i64 682,.int .i64 683,.int .i64 684,.int .i64 685,.int .i64 686,.int .i64 687,.int .i64 688,.int .i64 689,.int .i64 690,.int .i64 691,.int .i64 692,.int .i64 693,.int .i64 694,.int .i64 695,.int .i64 696,.int .i64 697,.int .i64 698,.int .i64 699,.int .i64 700,.int .i64 701,.int .i64 702,.int .i64 703,.int .i64 704,.int .i64 705,.int .i64 706,.int .i64 707,.int .i64 708,.int .i64 709,.int .i64 710,.int .i64 711,.int .i64 712,.int .i64 713,.int .i64 714,.int .i64 715,.int .i64 716,.int .i64 717,.int .i64 718,.int .i64 719,.int .i64 720,.int .i64 721,.int .i64 722,.int .i64 723,.int .i64 724,.int .i64 725,.int .i64 726,.int .i64 727,.int .i64 728,.int .i64 729,.int .i64 730,.int .i64 731,.int .i64 732,.int .i64 733,.int .i64 734,.int .i64 735,.int .i64 736,.int .i64 737,.int .i64 738,.int .i64 739,.int .i64 740,.int .i64 741,.int .i64 742,.int .i64 743,.int .i64 744,.int .i64 745,.int .i64 746,.int .i64 747,.int .i64 748,.int .i64 749,.int .i64 750,.int .i64 751,.int .i64 752,.int .i64 753,.int .i64 754,.int .i64 755,.int .i64 756,.int .i64 757,.int .i64 758,.int .i64 759,.int .i64 760,.int .i64 761,.int .i64 762,.int .i64 763,.int .i64 764,.int .i64 765,.int .i64 766,.int .i64 767]
def tb9:AV:=.tab kS1 dom1 [.int .i64 (-129),.int .i64 (-130),.int .i64 (-131),.int .i64 (-132),.int .i64 (-133),.int .i64 (-134),.int .i64 (-135),.int .i64 (-136),.int .i64 (-137),.int .i64 (-138),.int .i64 (-139),.int .i64 (-140),.int .i64 (-141),.int .i64 (-142),.int .i64 (-143),.int .i64 (-144),.int .i64 (-145),.int .i64 (-146),.int .i64 (-147),.int .i64 (-148),.int .i64 (-149),.int .i64 (-150),.int .i64 (-151),.int .i64 (-152),.int .i64 (-153),.int .i64 (-154),.int .i64 (-155),.int .i64 (-156),.int .i64 (-157),.int .i64 (-158),.int .i64 (-159),.int .i64 (-160),.int .i64 (-161),.int .i64 (-162),.int .i64 (-163),.int .i64 (-164),.int .i64 (-165),.int .i64 (-166),.int .i64 (-167),.int .i64 (-168),.int .i64 (-169),.int .i64 (-170),.int .i64 (-171),.int .i64 (-172),.int .i64 (-173),.int .i64 (-174),.int .i64 (-175),.int .i64 (-176),.int .i64 (-177),.int .i64 (-178),.int .i64 (-179),.int .i64 (-180),.int .i64 (-181),.int .i64 (-182),.int .i64 (-183),.int .i64 (-184),.int .i64 (-185),.int .i64 (-186),.int .i64 (-187),.int .i64 (-188),.int .i64 (-189),.int .i64 (-190),.int .i64 (-191),.int .i64 (-192),.int .i64 (-193),.int .i64 (-194),.int .i64 (-195),.int .i64 (-196),.int .i64 (-197),.int .i64 (-198),.int .i64 (-199),.int .i64 (-200),.int .i64 (-201),.int .i64 (-202),.int .i64 (-203),.int .i64 (-204),.int .i64 (-205),.int .i64 (-206),.int .i64 (-207),.int .i64 (-208),.int .i64 (-209),.int .i64 (-210),.int .i64 (-211),.int .i64 (-212),.int .i64 (-213),.int .i64 (-214),.int .i64 (-215),.int .i64 (-216),.int .i64 (-217),.int .i64 (-218),.int .i64 (-219),.int .i64 (-220),.int .i64 (-221),.int .i64 (-222),.int .i64 (-223),.int .i64 (-224),.int .i64 (-225),.int .i64 (-226),.int .i64 (-227),.int .i64 (-228),.int .i64 (-229),.int .i64 (-230),.int .i64 (-231),.int .i64 (-232),.int .i64 (-233),.int .i64 (-234),.int .i64 (-235),.int .i64 (-236),.int .i64 (-237),.int .i64 (-238),.int .i64 (-239),.int .i64 (-240),.int .i64 (-241),.int .i64 (-242),.int .i64 (-243),.int .i64 (-244),.int .i64 (-245),.int .i64 (-246),.int .i64 (-247),.int .i64 (-248),.int .i64 (-249),.int .i64 (-250),.int .i64 (-251),.int .i64 (-252),.int .i64 (-253),.int .i64 (-254),.int .i64 (-255),.int .i64 (-256)]
def tba:AV:=.tab kS2 dom2 [.int .i64 768,.int .i64 769,.int .i64 770,.int .i64 771,.int .i64 772,.int .i64 773,.int .i64 774,.int .i64 775,.int .i64 776,.int .i64 777,.int .i64 778,.int .i64 779,.int .i64 780,.int .i64 781,.int .i64 782,.int .i64 783,.int .i64 784,.int .i64 785,.int .i64 786,.int .i64 787,.int .i64 788,.int .i64 789,.int .i64 790,.int .i64 791,.int .i64 792,.int .i64 793,.int .i64 794,.int .i64 795,.int .i64 796,.int .i64 797,.int .i64 798,.int .i64 799,.int .i64 800,.int .i64 801,.int .i64 802,.int .i64 803,.int .i64 804,.int .i64 805,.int .i64 806,.int .i64 807,.int .i64 808,.int .i64 809,.int .i64 810,.int .i64 811,.int .i64 812,.int .i64 813,.int .i64 814,.int .i64 815,.int .i64 816,.int .i64 817,.int .i64 818,.int .i64 819,.int .i64 820,.int .i64 821,.int .i64 822,.int .i64 823,.int .i64 824,.int .i64 825,.int .i64 826,.int .i64 827,.int .i64 828,.int .i64 829,.int .i64 830,.int .i64 831,.int .i64 832,.int .i64 833,.int .i64 834,.int .i64 835,.int .i64 836,.int .i64 837,.int .i64 838,.int .i64 839,.int .i64 840,.int .i64 841,.int .i64 842,.int .i64 843,.int .i64 844,.int .i64 845,.int .i64 846,.int .i64 847,.int .i64 848,.int .i64 849,.int .i64 850,.int .i64 851,.int .i64 852,.int .i64 853,.int .i64 854,.int .i64 855,.int .i64 856,.int .i64 857,.int .i64 858,.int .i64 859,.int .i64 860,.int .i64 861,.int .i64 862,.int .i64 863,.int .i64 864,.int .i64 865,.int .i64 866,.int .i64 867,.int .i64 868,.int .i64 869,.int .i64 870,.int .i64 871,.int .i64 872,.int .i64 873,.int .i64 874,.int .i64 875,.int .i64 876,.int .i64 877,.int .i64 878,.int .i64 879,.int .i64 880,.int .i64 881,.int .i64 882,.int .i64 883,.int .i64 884,.int .i64 885,.int .i64 886,.int .i64 887,.int .i64 888,.int .i64 889,.int .i64 890,.int .i64 891,.int .i64 892,.int .i64 893,.int .i64 894,.int .i64 895]
def tbb:AV:=.tab kS2 dom2 [.int .i64 (-257),.int .i64 (-258),.int .i64 (-259),.int .i64 (-260),.int .i64 (-261),.int .i64 (-262),.int .i64 (-263),.int .i64 (-264),.int .i64 (-265),.int .i64 (-266),.int .i64 (-267),.int .i64 (-268),.int .i64 (-269),.int .i64 (-270),.int .i64 (-271),.int .i64 (-272),.int .i64 (-273),.int .i64 (-274),.int .i64 (-275),.int .i64 (-276),.int .i64 (-277),.int .i64 (-278),.int .i64 (-279),.int .i64 (-280),.int .i64 (-281),.int .i64 (-282),.int .i64 (-283),.int .i64 (-284),.int .i64 (-285),.int .i64 (-286),.int .i64 (-287),.int .i64 (-288),.int .i64 (-289),.int .i64 (-290),.int .i64 (-291),.int .i64 (-292),.int .i64 (-293),.int .i64 (-294),.int .i64 (-295),.int .i64 (-296),.int .i64 (-297),.int .i64 (-298),.int .i64 (-299),.int .i64 (-300),.int .i64 (-301),.int .i64 (-302),.int .i64 (-303),.int .i64 (-304),.int .i64 (-305),.int .i64 (-306),.int .i64 (-307),.int .i64 (-308),.int .i64 (-309),.int .i64 (-310),.int .i64 (-311),.int .i64 (-312),.int .i64 (-313),.int .i64 (-314),.int .i64 (-315),.int .i64 (-316),.int .i64 (-317),.int .i64 (-318),.int .i64 (-319),.int .i64 (-320),.int .i64 (-321),.int .i64 (-322),.int .i64 (-323),.int .i64 (-324),.int .i64 (-325),.int .i64 (-326),.int .i64 (-327),.int .i64 (-328),.int .i64 (-329),.int .i64 (-330),.int .i64 (-331),.int .i64 (-332),.int .i64 (-333),.int .i64 (-334),.int .i64 (-335),.int .i64 (-336),.int .i64 (-337),.int .i64 (-338),.int .i64 (-339),.int .i64 (-340),.int .i64 (-341),.int .i64 (-342),.int .i64 (-343),.int .i64 (-344),.int .i64 (-345),.int .i64 (-346),.int .i64 (-347),.int .i64 (-348),.int .i64 (-349),.int .i64 (-350),.int .i64 (-351),.int .i64 (-352),.int .i64 (-353),.int .i64 (-354),.int .i64 (-355),.int .i64 (-356),.int .i64 (-357),.int .i64 (-358),.int .i64 (-359),.int .i64 (-360),.int .i64 (-361),.int .i64 (-362),.int .i64 (-363),.int .i64 (-364),.int .i64 (-365),.int .i64 (-366),.int .i64 (-367),.int .i64 (-368),.int .i64 (-369),.int .i64 (-370),.int .i64 (-371),.int .i64 (-372),.int .i64 (-373),.int .i64 (-374),.int .i64 (-375),.int .i64 (-376),.int .i64 (-377),.int .i64 (-378),.int .i64 (-379),.int .i64 (-380),.int .i64 (-381),.int .i64 (-382),.int .i64 (-383),.int .i64 (-384)]
def tbc:AV:=.tab kS3 dom3 [.int .i64 896,.int .i64 897,.int .i64 898,.int .i64 899,.int .i64 900,.int .i64 901,.int .i64 902,.int .i64 903,.int .i64 904,.int .i64 905,.int .i64 906,.int .i64 907,.int .i64 908,.int .i64 909,.int .i64 910,.int .i64 911,.int .i64 912,.int .i64 913,.int .i64 914,.int .i64 915,.int .i64 916,.int .i64 917,.int .i64 918,.int .i64 919,.int .i64 920,.int .i64 921,.int .i64 922,.int .i64 923,.int .i64 924,.int .i64 925,.int .i64 926,.int .i64 927,.int .i64 928,.int .i64 929,.int .i64 930,.int .i64 931,.int .i64 933,.int .i64 934,.int .i64 935,.int .i64 936,.int .i64 937,.int .i64 938,.int .i64 939,.int .i64 940,.int .i64 941,.int .i64 942,.int .i64 943,.int .i64 944,.int .i64 945,.int .i64 946,.int .i64 947,.int .i64 948,.int .i64 949,.int .i64 950,.int .i64 951,.int .i64 952,.int .i64 953,.int .i64 954,.int .i64 955,.int .i64 956,.int .i64 957,.int .i64 958,.int .i64 959,.int .i64 960,.int .i64 961,.int .i64 962,.int .i64 963,.int .i64 964,.int .i64 965,.int .i64 966,.int .i64 967,.int .i64 968,.int .i64 969,.int .i64 970,.int .i64 971,.int .i64 972,.int .i64 973,.int .i64 974,.int .i64 975,.int .i64 976,.int .i64 977,.int .i64 978,.int .i64 979,.int .i64 980,.int .i64 981,.int .i64 982,.int .i64 983,.int .i64 984,.int .i64 985,.int .i64 986,.int .i64 987,.int .i64 988,.int .i64 989,.int .i64 990,.int .i64 991,.int .i64 992,.int .i64 993,.int .i64 994,.int .i64 995,.int .i64 996,.int .i64 997,.int .i64 998,.int .i64 999,.int .i64 1000,.int .i64 1001,.int .i64 1002,.int .i64 1003,.int .i64 1004,.int .i64 1006,.int .i64 1007,.int .i64 1008,.int .i64 1009,.int .i64 1010,.int .i64 1011,.int .i64 1012,.int .i64 1013,.int .i64 1014,.int .i64 1015,.int .i64 1016,.int .i64 1017,.int .i64 1018,.int .i64 1019,.int .i64 1020,.int .i64 1021,.int .i64 1022,.int .i64 1023]
def tbd:AV:=.tab kS3 dom3 [.int .i64 (-385),.int .i64 (-386),.int .i64 (-387),.int .i64 (-388),.int .i64 (-389),.int .i64 (-390),.int .i64 (-391),.int .i64 (-392),.int .i64 (-393),.int .i64 (-394),.int .i64 (-395),.int .i64 (-396),.int .i64 (-397),.int .i64 (-398),.int .i64 (-399),.int .i64 (-400),.int .i64 (-401),.int .i64 (-402),.int .i64 (-403),.int .i64 (-404),.int .i64 (-405),.int .i64 (-406),.int .i64 (-407),.int .i64 (-408),.int .i64 (-409),.int .i64 (-410),.int .i64 (-411),.int .i64 (-412),.int .i64 (-413),.int .i64 (-414),.int .i64 (-415),.int .i64 (-416),.int .i64 (-417),.int .i64 (-418),.int .i64 (-419),.int .i64 (-420),.int .i64 (-422),.int .i64 (-423),.int .i64 (-424),.int .i64 (-425),.int .i64 (-426),.int .i64 (-427),.int .i64 (-428),.int .i64 (-429),.int .i64 (-430),.int .i64 (-431),.int .i64 (-432),.int .i64 (-433),.int .i64 (-434),.int .i64 (-435),.int .i64 (-436),.int .i64 (-437),.int .i64 (-438),.int .i64 (-439),.int .i64 (-440),.int .i64 (-441),.int .i64 (-442),.int .i64 (-443),.int .i64 (-444),.int .i64 (-445),.int .i64 (-446),.int .i64 (-447),.int .i64 (-448),.int .i64 (-449),.int .i64 (-450),.int .i64 (-451),.int .i64 (-452),.int .i64 (-453),.int .i64 (-454),.int .i64 (-455),.int .i64 (-456),.int .i64 (-457),.int .i64 (-458),.int .i64 (-459),.int .i64 (-460),.int .i64 (-461),.int .i64 (-462),.int .i64 (-463),.int .i64 (-464),.int .i64 (-465),.int .i64 (-466),.int .i64 (-467),.int .i64 (-468),.int .i64 (-469),.int .i64 (-470),.int .i64 (-471),.int .i64 (-472),.int .i64 (-473),.int .i64 (-474),.int .i64 (-475),.int .i64 (-476),.int .i64 (-477),.int .i64 (-478),.int .i64 (-479),.int .i64 (-480),.int .i64 (-481),.int .i64 (-482),.int .i64 (-483),.int .i64 (-484),.int .i64 (-485),.int .i64 (-486),.int .i64 (-487),.int .i64 (-488),.int .i64 (-489),.int .i64 (-490),.int .i64 (-491),.int .i64 (-492),.int .i64 (-493),.int .i64 (-495),.int .i64 (-496),.int .i64 (-497),.int .i64 (-498),.int .i64 (-499),.int .i64 (-500),.int .i64 (-501),.int .i64 (-502),.int .i64 (-503),.int .i64 (-504),.int .i64 (-505),.int .i64 (-506),.int .i64 (-507),.int .i64 (-508),.int .i64 (-509),.int .i64 (-510),.int .i64 (-511),.int .i64 (-512)]
def cl (i o:Int) (p q:AV) (f g n m:Int) (d:AV):List AV:=[.ptr k0 0,.agg [.int .i64 6,.str 0 0,.str 0 0,.str 0 0,.nilSlice,.int .i64 i,.int .i64 o,p,q,.int .i64 f,.int .i64 g,.int .i64 n,.int .i64 m,d]]
def an (s n k m:Int) (d ns:AV):AV:=.tup [.agg [.int .i64 0,.int .i64 0,.int .i64 0,.str 0 0,.nilSlice,.nilSlice,.int .i64 s,.int .i64 n,.int .i64 k,.int .i64 m,d,ns,.int .i64 0,.int .i64 0],.int .i64 0]
def S0 (x0 x1:Key) (y0 y1:AV):Key × AObj:=(x0,.cells 88 [.slice x1 0 4194304 (.is 4194304),.bool false,.bool false,y0,y1] false 0)
def S1 (x0 x1 x2 x3 x4:Key) (y0 y1:AV):Key × AObj:=(x0,.cells 174 [.ptr x1 0,.ptr x2 0,.ptr x3 0,y0,.nilPtr,.nilPtr,.nilPtr,.nilPtr,.nilPtr,.nilPtr,.nilPtr,.nilPtr,.slice x4 0 16384 (.is 16384),y1,.bool false] false 0)
def S2 (x0:Key):Key × AObj:=(x0,.map [] 0)
def S3 (x0:Key) (y0:AV):Key × AObj:=(x0,.cells 3 [y0] true 0)
def S4 (x0:Key):Key × AObj:=(x0,.cells 278 [.ustr 256,.bool false,.int .i64 0,.bool true] false 0)
def S5 (x0 x1 x2 x3 x4 x5 x6 x7:Key) (y0:AV):Key × AObj:=(x0,.cells 66 [.ptr x1 0,.ptr x2 0,.ptr x3 0,.ptr x4 0,.map x5,.map x6,y0,.bool false,.slice x7 0 1 (.more 5)] false 0)
def S6 (x0 x1 x2:Key):Key × AObj:=(x0,.cells 141 [.slice x1 0 1 (.more 4),.slice x2 0 1 (.more 4)] true 0)
def S7 (x0 x1:Key) (y0 y1 y2:AV):Key × AObj:=(x0,.cells 143 [.slice x1 0 1 (.more 4),y0,y1,y2,.nilSlice] false 0)
def S8 (x0:Key):Key × AObj:=(x0,.cells 195 [.str 1 100,.int .i64 1,.int .i64 493,.str 0 0] true 0)
def S9 (x0:Key):Key × AObj:=(x0,.cells 195 [.str 1 100,.int .i64 4,.int .i64 0,.str 0 0] true 0)
def Sa (x0:Key):Key × AObj:=(x0,.cells 278 [.ustr 256,.bool false,.int .i64 0,.bool false] false 0)
def Sb (x0 x1 x2:Key) (y0 y1 y2 y3 y4 y5 y6:AV):Key × AObj:=(x0,.cells 273 [y0,y1,y2,.ptr x1 0,y3,.nilMap,.nilSlice,.nilSlice,.slice x2 0 1 (.is 1),y4,y5,y6] false 0)
def Sc (x0:Key) (y0:AV):Key × AObj:=(x0,.cells 3 [y0] false 0)
def Sd (x0:Key):Key × AObj:=(x0,.cells 3 [.int .i64 50] false 0)
def Se (x0:Key):Key × AObj:=(x0,.cells 3 [.int .i64 52] false 0)
def Sf (x0 x1 x2:Key) (y0:AV):Key × AObj:=(x0,.cells 327 [.ptr x1 0,.ptr x2 0,.nilPtr,.nilPtr,.nilPtr,.nilPtr,.nilPtr,.nilPtr,.nilPtr,.nilPtr,y0] false 0)
def Sg (x0:Key):Key × AObj:=(x0,.lmap [])
def Sh (x0:Key):Key × AObj:=(x0,.cells 3 [.int .i64 51] false 0)
def Si (x0:Key) (y0 y1 y2 y3 y4 y5:AV):Key × AObj:=(x0,.map [(y0,.agg [y1,y2],0),(y3,.agg [y4,y5],1)] 2)
def Sj (x0 x1 x2:Key):Key × AObj:=(x0,.cells 273 [.int .i64 2,.int .i64 63,.str 5 435744240755,.ptr x1 0,.int .i64 2,.nilMap,.nilSlice,.nilSlice,.slice x2 0 1 (.is 1),.int .i64 0,.int .i64 0,.int .i64 0] false 0)
def Sk (x0:Key):Key × AObj:=(x0,.bits 4 16384 42784196460019711)
def Sl (x0 x1 x2 x3 x4 x5:Key):Key × AObj:=(x0,.cells 169 [.ptr x1 0,.ptr x2 0,.ptr x3 0,.ptr x4 0,.ptr x5 0] true 0)
def Sm (x0 x1 x2:Key):Key × AObj:=(x0,.cells 273 [.int .i64 2,.int .i64 63,.str 5 435744240755,.ptr x1 0,.int .i64 0,.nilMap,.nilSlice,.nilSlice,.slice x2 0 1 (.is 1),.int .i64 0,.int .i64 0,.int .i64 0] false 0)
def Sn (x0:Key):Key × AObj:=(x0,.cells 3 [.int .i64 55] false 0)
def So (x0 x1 x2:Key) (y0 y1 y2 y3:AV):Key × AObj:=(x0,.cells 389 [y0,y1,y2,.map x1,.ptr x2 0,y3] false 0)
def Sp (x0:Key):Key × AObj:=(x0,.bits 4 16384 22517998136852479)
def Sq (x0:Key):Key × AObj:=(x0,.cells 3 [.int .i64 54] false 0)
def Sr (x0 x1 x2:Key):Key × AObj:=(x0,.cells 327 [.ptr x1 0,.ptr x2 0,.nilPtr,.nilPtr,.nilPtr,.nilPtr,.nilPtr,.nilPtr,.nilPtr,.nilPtr,.int .i64 2] false 0)
def Ss (x0:Key):Key × AObj:=(x0,.bits 4 16384 43910096366862335)
def St (x0 x1 x2:Key):Key × AObj:=(x0,.cells 273 [.int .i64 2,.int .i64 63,.str 5 435744240755,.ptr x1 0,.int .i64 1,.nilMap,.nilSlice,.nilSlice,.slice x2 0 1 (.is 1),.int .i64 0,.int .i64 0,.int .i64 0] false 0)
def Su (x0 x1 x2 x3 x4 x5 x6 x7:Key):Key × AObj:=(x0,.cells 66 [.ptr x1 0,.ptr x2 0,.ptr x3 0,.ptr x4 0,.map x5,.map x6,.int .i64 6,.bool false,.slice x7 0 1 (.more 5)] false 0)
def Sv (x0 x1:Key):Key × AObj:=(x0,.cells 88 [.slice x1 0 4194304 (.is 4194304),.bool false,.bool false,.int .i64 (-252),.int .i64 252] false 0)
def Sw (x0:Key):Key × AObj:=(x0,.map [(.int .i64 1,.agg [.str 12 14909942882012283808127726898,.int .i64 6],0),(.int .i64 2,.agg [.str 12 14909942882012283808127726898,.int .i64 5],1)] 2)
def Sx (x0:Key):Key × AObj:=(x0,.bits 4 16384 24769797950537727)
def Sy (x0:Key):Key × AObj:=(x0,.map [] 76)
def Sz (x0 x1 x2 x3:Key):Key × AObj:=(x0,.map [(.str 6 52970723816053,.ptr x1 0,14),(.str 6 52970740593013,.ptr x2 0,17),(.str 5 435744240755,.ptr x3 0,19)] 20)
def S10 (x0 x1 x2:Key):Key × AObj:=(x0,.cells 273 [.int .i64 2,.int .i64 19,.str 6 52970740593013,.ptr x1 0,.int .i64 1,.nilMap,.nilSlice,.nilSlice,.slice x2 0 1 (.is 1),.int .i64 0,.int .i64 0,.int .i64 0] false 0)
def S11 (x0 x1 x2 x3 x4 x5 x6 x7:Key):Key × AObj:=(x0,.cells 66 [.ptr x1 0,.ptr x2 0,.ptr x3 0,.ptr x4 0,.map x5,.map x6,.int .i64 7,.bool false,.slice x7 0 1 (.more 5)] false 0)
def S12 (x0 x1:Key):Key × AObj:=(x0,.cells 88 [.slice x1 0 4194304 (.is 4194304),.bool false,.bool false,.int .i64 (-282),.int .i64 282] false 0)
def S13 (x0:Key):Key × AObj:=(x0,.map [(.int .i64 1,.agg [.str 12 14909942882012283808127726898,.int .i64 6],0),(.int .i64 2,.agg [.str 12 14909942882012283808127726898,.int .i64 7],1)] 2)
def S14 (x0:Key):Key × AObj:=(x0,.bits 4 16384 40532396646334463)
def S15 (x0:Key):Key × AObj:=(x0,.map [] 85)
def S16 (x0 x1 x2 x3:Key):Key × AObj:=(x0,.map [(.str 6 52970740593013,.ptr x1 0,17),(.str 6 52970757370485,.ptr x2 0,20),(.str 5 435744240755,.ptr x3 0,22)] 23)
def S17 (x0 x1 x2:Key):Key × AObj:=(x0,.cells 273 [.int .i64 2,.int .i64 21,.str 6 52970757370485,.ptr x1 0,.int .i64 0,.nilMap,.nilSlice,.nilSlice,.slice x2 0 1 (.is 1),.int .i64 0,.int .i64 0,.int .i64 0] false 0)
def S18 (x0 x1 x2:Key):Key × AObj:=(x0,.lmap [(.str 2 13167,.ptr x1 0),(.str 2 13935,.ptr x2 0)])
def S19 (x0 x1 x2:Key):Key × AObj:=(x0,.cells 389 [.int .i64 1,.int .i64 0,.str 0 0,.map x1,.ptr x2 0,.str 2 13935] false 0)
def S1a (x0 x1 x2 x3 x4 x5 x6 x7:Key):Key × AObj:=(x0,.cells 66 [.ptr x1 0,.ptr x2 0,.ptr x3 0,.ptr x4 0,.map x5,.map x6,.int .i64 8,.bool false,.slice x7 0 1 (.more 5)] false 0)
def S1b (x0 x1:Key):Key × AObj:=(x0,.cells 88 [.slice x1 0 4194304 (.is 4194304),.bool false,.bool false,.int .i64 (-312),.int .i64 312] false 0)
def S1c (x0:Key):Key × AObj:=(x0,.map [(.int .i64 1,.agg [.str 12 14909942882012283808127726898,.int .i64 8],0),(.int .i64 2,.agg [.str 12 14909942882012283808127726898,.int .i64 7],1)] 2)
def S1d (x0:Key):Key × AObj:=(x0,.bits 4 16384 25895697857380351)
def S1e (x0:Key):Key × AObj:=(x0,.map [] 94)
def S1f (x0 x1 x2 x3:Key):Key × AObj:=(x0,.map [(.str 6 52970757370485,.ptr x1 0,20),(.str 6 52970774147445,.ptr x2 0,23),(.str 5 435744240755,.ptr x3 0,25)] 26)
def S1g (x0 x1 x2:Key):Key × AObj:=(x0,.cells 273 [.int .i64 2,.int .i64 19,.str 6 52970774147445,.ptr x1 0,.int .i64 2,.nilMap,.nilSlice,.nilSlice,.slice x2 0 1 (.is 1),.int .i64 0,.int .i64 0,.int .i64 0] false 0)
def S1h (x0 x1 x2 x3 x4 x5 x6 x7:Key):Key × AObj:=(x0,.cells 66 [.ptr x1 0,.ptr x2 0,.ptr x3 0,.ptr x4 0,.map x5,.map x6,.int .i64 9,.bool false,.slice x7 0 1 (.more 5)] false 0)
def S1i (x0 x1:Key):Key × AObj:=(x0,.cells 88 [.slice x1 0 4194304 (.is 4194304),.bool false,.bool false,.int .i64 (-342),.int .i64 342] false 0)
def S1j (x0:Key):Key × AObj:=(x0,.map [(.int .i64 1,.agg [.str 12 14909942882012283808127726898,.int .i64 8],0),(.int .i64 2,.agg [.str 12 14909942882012283808127726898,.int .i64 9],1)] 2)
def S1k (x0:Key):Key × AObj:=(x0,.map [] 103)
def S1l (x0 x1 x2 x3:Key):Key × AObj:=(x0,.map [(.str 6 52970774147445,.ptr x1 0,23),(.str 6 52970790924917,.ptr x2 0,26),(.str 5 435744240755,.ptr x3 0,28)] 29)
def S1m (x0 x1 x2:Key):Key × AObj:=(x0,.cells 327 [.ptr x1 0,.ptr x2 0,.nilPtr,.nilPtr,.nilPtr,.nilPtr,.nilPtr,.nilPtr,.nilPtr,.nilPtr,.int .i64 3] false 0)
def S1n (x0 x1 x2:Key):Key × AObj:=(x0,.cells 273 [.int .i64 2,.int .i64 30,.str 6 52970790924917,.ptr x1 0,.int .i64 1,.nilMap,.nilSlice,.nilSlice,.slice x2 0 1 (.is 1),.int .i64 0,.int .i64 0,.int .i64 0] false 0)
def S1o (x0 x1 x2 x3:Key):Key × AObj:=(x0,.lmap [(.str 2 13167,.ptr x1 0),(.str 2 13935,.ptr x2 0),(.str 2 14703,.ptr x3 0)])
def S1p (x0 x1 x2:Key):Key × AObj:=(x0,.cells 389 [.int .i64 1,.int .i64 0,.str 0 0,.map x1,.ptr x2 0,.str 2 14703] false 0)
def S1q (x0 x1 x2 x3 x4 x5 x6 x7:Key):Key × AObj:=(x0,.cells 66 [.ptr x1 0,.ptr x2 0,.ptr x3 0,.ptr x4 0,.map x5,.map x6,.int .i64 10,.bool false,.slice x7 0 1 (.more 5)] false 0)
def S1r (x0 x1:Key):Key × AObj:=(x0,.cells 88 [.slice x1 0 4194304 (.is 4194304),.bool false,.bool false,.int .i64 (-372),.int .i64 372] false 0)
def S1s (x0:Key):Key × AObj:=(x0,.map [(.int .i64 1,.agg [.str 12 14909942882012283808127726898,.int .i64 10],0),(.int .i64 2,.agg [.str 12 14909942882012283808127726898,.int .i64 9],1)] 2)
def S1t (x0:Key):Key × AObj:=(x0,.map [] 112)
def S1u (x0 x1 x2 x3:Key):Key × AObj:=(x0,.map [(.str 6 52970790924917,.ptr x1 0,26),(.str 7 13560483888836981,.ptr x2 0,29),(.str 5 435744240755,.ptr x3 0,31)] 32)
def S1v (x0 x1 x2:Key):Key × AObj:=(x0,.cells 273 [.int .i64 2,.int .i64 19,.str 7 13560483888836981,.ptr x1 0,.int .i64 0,.nilMap,.nilSlice,.nilSlice,.slice x2 0 1 (.is 1),.int .i64 0,.int .i64 0,.int .i64 0] false 0)
def S1w (x0 x1 x2 x3 x4 x5 x6 x7:Key):Key × AObj:=(x0,.cells 66 [.ptr x1 0,.ptr x2 0,.ptr x3 0,.ptr x4 0,.map x5,.map x6,.int .i64 11,.bool false,.slice x7 0 1 (.more 5)] false 0)
def S1x (x0 x1:Key):Key × AObj:=(x0,.cells 88 [.slice x1 0 4194304 (.is 4194304),.bool false,.bool false,.int .i64 (-402),.int .i64 402] false 0)
def S1y (x0:Key):Key × AObj:=(x0,.map [(.int .i64 1,.agg [.str 12 14909942882012283808127726898,.int .i64 10],0),(.int .i64 2,.agg [.str 12 14909942882012283808127726898,.int .i64 11],1)] 2)
def S1z (x0:Key):Key × AObj:=(x0,.map [] 121)
def S20 (x0 x1 x2 x3:Key):Key × AObj:=(x0,.map [(.str 7 13560483888836981,.ptr x1 0,29),(.str 7 13560488183804533,.ptr x2 0,32),(.str 5 435744240755,.ptr x3 0,34)] 35)
def S21 (x0 x1 x2:Key):Key × AObj:=(x0,.cells 327 [.ptr x1 0,.ptr x2 0,.nilPtr,.nilPtr,.nilPtr,.nilPtr,.nilPtr,.nilPtr,.nilPtr,.nilPtr,.int .i64 4] false 0)
def S22 (x0 x1 x2 x3 x4:Key):Key × AObj:=(x0,.lmap [(.str 2 13167,.ptr x1 0),(.str 2 13935,.ptr x2 0),(.str 2 14703,.ptr x3 0),(.str 3 3289455,.ptr x4 0)])
def S23 (x0 x1 x2:Key):Key × AObj:=(x0,.cells 273 [.int .i64 2,.int .i64 40,.str 7 13560488183804533,.ptr x1 0,.int .i64 2,.nilMap,.nilSlice,.nilSlice,.slice x2 0 1 (.is 1),.int .i64 0,.int .i64 0,.int .i64 0] false 0)
def S24 (x0 x1 x2:Key):Key × AObj:=(x0,.cells 389 [.int .i64 1,.int .i64 0,.str 0 0,.map x1,.ptr x2 0,.str 3 3289455] false 0)
def Z0:List AV:=cl 1 1 (.str 1 102) (.str 0 0) 0 0 0 0 (.str 0 0)
def Z1:List AV:=cl 2 6 (.str 2 13935) (.str 0 0) 0 0 0 0 (.str 0 0)
def Z2:List AV:=cl 1 1 (.str 1 100) (.str 0 0) 0 0 0 0 (.str 0 0)
def Z3:List AV:=cl 2 6 (.str 2 14703) (.str 0 0) 0 0 0 0 (.str 0 0)
def Z4:List AV:=cl 1 1 (.str 1 47) (.str 0 0) 0 0 0 0 (.str 0 0)
def Z5:List AV:=cl 2 6 (.str 3 3289455) (.str 0 0) 0 0 0 0 (.str 0 0)
def Z6:AV:=an 0 0 0 0 (.str 0 0) .nilSlice
def Z7:AV:=an 5 0 0 0 (.str 0 0) .nilSlice
def Z8:List (Key × AObj):=[(ke,.dead),(k1x,.dead),(k1i,.dead),(k1y,.dead)]
def Z9:List (Key × AObj):=[(ke,.dead),(k1y,.dead)]
def Za:List (Key × AObj):=[(ke,.dead),(k2f,.dead),(k1i,.dead),(k1y,.dead)]
def Zb:List (Key × AObj):=[(ke,.dead),(k2a,.dead),(k1i,.dead),(k1y,.dead),(k2b,.dead)]
def Zc:List (Key × AObj):=[(ke,.dead),(k1y,.dead),(k2b,.dead)]
def Zd:List (Key × AObj):=[(ke,.dead),(k1x,.dead),(k1i,.dead),(k1y,.dead),(k2b,.dead)]
def Ze:List (Key × AObj):=[(ke,.dead),(k2f,.dead),(k1i,.dead),(k1y,.dead),(k2b,.dead)]
def Zf:List Key:=[k5,k6,k1i,k1l]
def Zg:List Key:=[k2a,k2c,k0,k1,ka,km,ku,k1e]
def Zh:List Key:=[k1x,k1z,k0,k1,ka,km,ku,k1e]
def Zi:List Key:=[k2f,k2g,k0,k1,ka,km,ku,k1e]
def Zj:Key × AObj:=Sj k1i kr k1l
def Zk:Key × AObj:=Sl k1e k1i k2a k2f k1i k1i
def Zl:Key × AObj:=Sm k1i kr k1l
def Zm:Key × AObj:=Sn k1l
def Zn:Key × AObj:=Sl k1e k1x k2a k1i k1i k1i
def Zo:Key × AObj:=Sq k1l
def Zp:Key × AObj:=Sl k1e k1x k1i k2f k1i k1i
def Zq:Key × AObj:=St k1i kr k1l
def Zr:Key × AObj:=Su k0 k1 k2 k3 k4 k5 k6 kv
def Zs:Key × AObj:=Sz ku k2f k2a k1i
def Zt:Key × AObj:=S10 k2a kr k2c
def Zu:Key × AObj:=S11 k0 k1 k2 k3 k4 k5 k6 kv
def Zv:Key × AObj:=S16 ku k2a k1x k1i
def Zw:Key × AObj:=S17 k1x kr k1z
def Zx:Key × AObj:=Sr k24 k27 k27
def Zy:Key × AObj:=S18 k2b k2l k2n
def Zz:Key × AObj:=S19 k2n k2o k27
def Z10:Key × AObj:=S1a k0 k1 k2 k3 k4 k5 k6 kv
def Z11:Key × AObj:=S1f ku k1x k2f k1i
def Z12:Key × AObj:=S1g k2f kr k2g
def Z13:Key × AObj:=S1h k0 k1 k2 k3 k4 k5 k6 kv
def Z14:Key × AObj:=S1l ku k2f k2a k1i
def Z15:Key × AObj:=S1m k24 k27 k27
def Z16:Key × AObj:=S1n k2a kr k2c
def Z17:Key × AObj:=S1o k2b k2l k2n k2p
def Z18:Key × AObj:=S1p k2p k2q k27
def Z19:Key × AObj:=S1q k0 k1 k2 k3 k4 k5 k6 kv
def Z1a:Key × AObj:=S1u ku k2a k1x k1i
def Z1b:Key × AObj:=S1w k0 k1 k2 k3 k4 k5 k6 kv
def Z1c:Key × AObj:=S20 ku k1x k2f k1i
def Z1d:Key × AObj:=S21 k24 k27 k27
def Z1e:Key × AObj:=S22 k2b k2l k2n k2p k2r
def Z1f:Key × AObj:=S24 k2r k2s k27
def s0:RT AObj:=updS [(kS0,.dom dom0),(kS1,.dom dom1),(kS2,.dom dom2),(kS3,.dom dom3),(kS4,.dom dom4),(kS5,.dom dom5),(k0,.cells 66 [.ptr k1 0,.ptr k2 0,.ptr k3 0,.ptr k4 0,.map k5,.map k6,.int .i64 0,.bool false,.nilSlice] false 0),S0 k1 k7 (.int .i64 (-16)) (.int .i64 16),S1 k2 k1 k8 k9 ka (.int .i64 3) (.int .i64 16338),(k3,.cells 138 [.ptr kb 0,.ptr k2 0,.map kc] false 0),(k4,.cells 117 [.map kd,.map ke,.func (.func 64) [.ptr k0 0] [],.int .i64 0] false 0),S2 k5,S2 k6,(k7,.bytes 5 4194304),(k8,.cells 268 [.ptr kf 0,.int .i64 512,.map kg,.slice kh 0 2 (.more 1)] false 0),(k9,.cells 273 [.int .i64 1,.int .i64 0,.str 0 0,.nilPtr,.int .i64 0,.map ki,.slice kj 0 3 (.more 1),.slice kk 0 1 (.more 1),.nilSlice,.int .i64 0,.int .i64 0,.int .i64 0] false 0),(ka,.bits 4 16384 70368744177663),(kb,.cells 254 [.ptr k2 0,.map kl] false 0),S2 kc,S2 kd,S2 ke,(kf,.cells 151 [.ptr k1 0,.int .i64 1,.int .i64 44,.map km,.bool false] false 0),(kg,.map [(.int .i64 0,.ptr kn 0,0),(.int .i64 45,.ptr ko 0,1)] 2),(kh,.cells 3 [.int .i64 0,.int .i64 45] true 0),(ki,.map [(.str 5 495572708450,.ptr kp 0,0),(.str 6 126935165919596,.ptr kq 0,1),(.str 5 491328597876,.ptr kr 0,2)] 3),(kj,.cells 169 [.ptr kp 0,.ptr kq 0,.ptr kr 0] true 0),S3 kk (.int .i64 45),S2 kl,(km,.map [] 4),S4 kn,S4 ko,(kp,.cells 273 [.int .i64 1,.int .i64 0,.str 5 495572708450,.ptr k9 0,.int .i64 0,.map ks,.nilSlice,.nilSlice,.nilSlice,.int .i64 0,.int .i64 0,.int .i64 0] false 0),(kq,.cells 273 [.int .i64 1,.int .i64 0,.str 6 126935165919596,.ptr k9 0,.int .i64 1,.map kt,.nilSlice,.nilSlice,.nilSlice,.int .i64 0,.int .i64 0,.int .i64 0] false 0),(kr,.cells 273 [.int .i64 1,.int .i64 0,.str 5 491328597876,.ptr k9 0,.int .i64 2,.map ku,.nilSlice,.nilSlice,.nilSlice,.int .i64 0,.int .i64 0,.int .i64 0] false 0),S2 ks,S2 kt,S2 ku] RT.nil
def s1:RT AObj:=updS [S5 k0 k1 k2 k3 k4 k5 k6 kv (.int .i64 0),S0 k1 k7 (.int .i64 (-72)) (.int .i64 72),S1 k2 k1 k8 k9 ka (.int .i64 6) (.int .i64 16333),(k5,.map [(.str 1 116,.str 12 14909942882012283808127726898,0)] 1),(k8,.cells 268 [.ptr kf 0,.int .i64 512,.map kg,.slice kh 0 7 (.more 1)] false 0),(ka,.bits 4 16384 2251799813685247),(kc,.map [(.str 12 14909952252669478796797554994,.ptr ky 0,0),(.str 12 14909942882012283808127726898,.ptr kz 0,1)] 2),(kd,.map [(.str 1 116,.agg [.slice k10 0 2 (.more 1)],0)] 1),(kg,.map [(.int .i64 0,.ptr kn 0,0),(.int .i64 45,.ptr ko 0,1),(.int .i64 46,.ptr k13 0,2),(.int .i64 47,.ptr k14 0,3),(.int .i64 48,.ptr k15 0,4),(.int .i64 49,.ptr k16 0,5),(.int .i64 50,.ptr k17 0,6)] 7),(kh,.cells 3 [.int .i64 0,.int .i64 45,.int .i64 46,.int .i64 47,.int .i64 48,.int .i64 49,.int .i64 50] true 0),(km,.map [] 22),(kq,.cells 273 [.int .i64 1,.int .i64 0,.str 6 126935165919596,.ptr k9 0,.int .i64 1,.map kt,.slice k1c 0 2 (.more 1),.slice k1d 0 1 (.more 1),.nilSlice,.int .i64 0,.int .i64 0,.int .i64 0] false 0),(kr,.cells 273 [.int .i64 1,.int .i64 0,.str 5 491328597876,.ptr k9 0,.int .i64 2,.map ku,.slice k1e 0 1 (.more 1),.slice k1f 0 1 (.more 1),.nilSlice,.int .i64 0,.int .i64 0,.int .i64 0] false 0),(kt,.map [(.str 12 14909952252669478796797554994,.ptr k1g 0,1),(.str 12 14909942882012283808127726898,.ptr k1h 0,3)] 4),(ku,.map [(.str 5 435744240755,.ptr k1i 0,1)] 2),(kv,.cells 199 [.str 31 104481335786327267040345892488766287127177228565394820989683512661121135206,.nilSlice,.int .i64 20000,.map kw,.slice kx 0 2 (.more 1)] true 0),S2 kw,S6 kx k11 k12,S7 ky k18 (.str 0 0) (.int .i64 0) (.int .i64 1),S7 kz k19 (.str 12 14909952252669478796797554994) (.int .i64 1) (.int .i64 0),S6 k10 k1a k1b,S8 k11,S9 k12,S4 k13,S4 k14,Sa k15,S4 k16,Sa k17,S8 k18,S9 k19,S8 k1a,S9 k1b,(k1c,.cells 169 [.ptr k1g 0,.ptr k1h 0] true 0),S3 k1d (.int .i64 46),(k1e,.cells 169 [.ptr k1i 0] true 0),S3 k1f (.int .i64 49),Sb k1g kq k1j (.int .i64 2) (.int .i64 12) (.str 12 14909952252669478796797554994) (.int .i64 0) (.int .i64 0) (.int .i64 0) (.int .i64 0),Sb k1h kq k1k (.int .i64 2) (.int .i64 24) (.str 12 14909942882012283808127726898) (.int .i64 1) (.int .i64 0) (.int .i64 0) (.int .i64 0),Sb k1i kr k1l (.int .i64 2) (.int .i64 19) (.str 5 435744240755) (.int .i64 0) (.int .i64 0) (.int .i64 0) (.int .i64 0),Sc k1j (.int .i64 47),Sc k1k (.int .i64 48),Sd k1l] s0
def s2:RT AObj:=updS [S5 k0 k1 k2 k3 k4 k5 k6 kv (.int .i64 1),S0 k1 k7 (.int .i64 (-102)) (.int .i64 102),S1 k2 k1 k8 k9 ka (.int .i64 7) (.int .i64 16332),(k6,.map [(.int .i64 1,.agg [.str 12 14909942882012283808127726898,.int .i64 1],0)] 1),(k8,.cells 268 [.ptr kf 0,.int .i64 512,.map kg,.slice kh 0 9 (.more 1)] false 0),(ka,.bits 4 16384 7881299347898367),(ke,.map [(.int .i64 1,.ptr k1m 0,0)] 1),(kg,.map [(.int .i64 0,.ptr kn 0,0),(.int .i64 45,.ptr ko 0,1),(.int .i64 46,.ptr k13 0,2),(.int .i64 47,.ptr k14 0,3),(.int .i64 48,.ptr k15 0,4),(.int .i64 49,.ptr k16 0,5),(.int .i64 50,.ptr k17 0,6),(.int .i64 51,.ptr k1n 0,7),(.int .i64 52,.ptr k1o 0,8)] 9),(kh,.cells 3 [.int .i64 0,.int .i64 45,.int .i64 46,.int .i64 47,.int .i64 48,.int .i64 49,.int .i64 50,.int .i64 51,.int .i64 52] true 0),(km,.map [] 31),(kr,.cells 273 [.int .i64 1,.int .i64 0,.str 5 491328597876,.ptr k9 0,.int .i64 2,.map ku,.slice k1e 0 2 (.more 1),.slice k1f 0 1 (.more 1),.nilSlice,.int .i64 0,.int .i64 0,.int .i64 0] false 0),(ku,.map [(.str 6 52970656706933,.ptr k1x 0,2),(.str 5 435744240755,.ptr k1i 0,4)] 5),S7 kz k19 (.str 12 14909952252669478796797554994) (.int .i64 2) (.int .i64 0),S4 k15,(k1e,.cells 169 [.ptr k1x 0,.ptr k1i 0,.ptr k1i 0] true 0),Sb k1i kr k1l (.int .i64 2) (.int .i64 41) (.str 5 435744240755) (.int .i64 1) (.int .i64 0) (.int .i64 0) (.int .i64 0),Se k1l,(k1m,.cells 211 [.ptr k1p 0,.ptr k1q 0,.ptr k1r 0,.slice k1s 0 2 (.more 1),.nilSlice] false 0),Sa k1n,Sa k1o,(k1p,.cells 321 [.slice k1t 0 1 (.more 4),.int .i64 0,.int .i64 20000,.int .i64 0,.nilSlice,.bool false,.str 0 0,.float .f64 0,.bool false,.str 0 0,.float .f64 0,.bool false,.str 0 0,.float .f64 0,.bool false,.str 0 0,.float .f64 0,.bool false,.str 0 0,.float .f64 0,.bool false,.str 0 0,.float .f64 0,.bool false,.str 0 0,.float .f64 0,.bool false,.str 0 0,.float .f64 0,.bool false,.str 0 0,.float .f64 0,.bool false,.str 0 0,.float .f64 0,.bool false,.str 0 0,.float .f64 0,.bool false,.str 0 0,.float .f64 0,.bool false,.str 0 0,.float .f64 0,.bool false,.str 0 0,.float .f64 0,.bool false,.str 0 0,.float .f64 0,.bool false,.str 0 0,.float .f64 0,.bool false,.str 0 0,.float .f64 0,.bool false,.str 0 0,.float .f64 0,.bool false,.str 0 0,.float .f64 0,.bool false,.str 0 0,.float .f64 0,.bool false,.str 0 0,.float .f64 0,.bool false,.str 0 0,.float .f64 0,.bool false,.str 0 0,.float .f64 0,.bool false,.str 0 0,.float .f64 0,.bool false,.str 0 0,.float .f64 0,.bool false,.str 0 0,.float .f64 0,.bool false,.str 0 0,.float .f64 0,.bool false,.str 0 0,.float .f64 0,.bool false,.str 0 0,.float .f64 0,.bool false,.str 0 0,.float .f64 0,.bool false,.str 0 0,.float .f64 0,.bool false,.str 0 0,.float .f64 0,.bool false,.str 0 0,.float .f64 0,.bool false,.str 0 0,.float .f64 0,.bool false,.str 0 0,.float .f64 0,.bool false,.str 0 0,.float .f64 0,.bool false,.str 0 0,.float .f64 0,.bool false,.str 0 0,.float .f64 0,.bool false,.str 0 0,.float .f64 0,.bool false,.str 0 0,.float .f64 0,.bool false,.str 0 0,.float .f64 0,.bool false,.str 0 0,.float .f64 0,.bool false,.str 0 0,.float .f64 0,.bool false,.str 0 0,.float .f64 0,.bool false,.str 0 0,.float .f64 0,.bool false,.str 0 0,.float .f64 0,.bool false,.str 0 0,.float .f64 0,.bool false,.str 0 0,.float .f64 0,.bool false,.str 0 0,.float .f64 0,.bool false,.str 0 0,.float .f64 0,.bool false,.str 0 0,.float .f64 0,.bool false,.str 0 0,.float .f64 0,.bool false,.str 0 0,.float .f64 0,.bool false,.str 0 0,.float .f64 0,.bool false,.str 0 0,.float .f64 0,.bool false,.str 0 0,.float .f64 0,.bool false,.str 0 0,.float .f64 0,.bool false,.str 0 0,.float .f64 0,.bool false,.str 0 0,.float .f64 0,.bool false,.str 0 0,.float .f64 0,.bool false,.str 0 0,.float .f64 0,.bool false,.str 0 0,.float .f64 0,.bool false,.str 0 0,.float .f64 0,.bool false,.str 0 0,.float .f64 0,.int .i64 0,.int .i64 0,.str 0 0,.str 0 0,.int .i64 0,.int .i64 0,.int .i64 0,.int .i64 0,.str 0 0,.str 0 0,.int .i64 0,.str 0 0] false 0),(k1q,.cells 311 [.nilSlice] false 0),Sf k1r k1u k1u (.int .i64 0),S6 k1s k1v k1w,(k1t,.cells 354 [.int .i64 0,.int .i64 0,.float .f64 0,.str 0 0] true 0),(k1u,.cells 389 [.int .i64 1,.int .i64 493,.str 0 0,.map k1y,.nilPtr,.str 0 0] false 0),S8 k1v,S9 k1w,Sb k1x kr k1z (.int .i64 2) (.int .i64 3) (.str 6 52970656706933) (.int .i64 0) (.int .i64 0) (.int .i64 0) (.int .i64 0),Sg k1y,Sh k1z] s1
def s3:RT AObj:=updS [S5 k0 k1 k2 k3 k4 k5 k6 kv (.int .i64 2),S0 k1 k7 (.int .i64 (-132)) (.int .i64 132),S1 k2 k1 k8 k9 ka (.int .i64 8) (.int .i64 16331),Si k6 (.int .i64 1) (.str 12 14909942882012283808127726898) (.int .i64 1) (.int .i64 2) (.str 12 14909942882012283808127726898) (.int .i64 2),(k8,.cells 268 [.ptr kf 0,.int .i64 512,.map kg,.slice kh 0 10 (.more 1)] false 0),(ka,.bits 4 16384 13510798882111487),(ke,.lmap [(.int .i64 1,.ptr k1m 0),(.int .i64 2,.ptr k20 0)]),(kg,.map [(.int .i64 0,.ptr kn 0,0),(.int .i64 45,.ptr ko 0,1),(.int .i64 46,.ptr k13 0,2),(.int .i64 47,.ptr k14 0,3),(.int .i64 48,.ptr k15 0,4),(.int .i64 49,.ptr k16 0,5),(.int .i64 50,.ptr k17 0,6),(.int .i64 51,.ptr k1n 0,7),(.int .i64 52,.ptr k1o 0,8),(.int .i64 53,.ptr k21 0,9)] 10),(kh,.cells 3 [.int .i64 0,.int .i64 45,.int .i64 46,.int .i64 47,.int .i64 48,.int .i64 49,.int .i64 50,.int .i64 51,.int .i64 52,.int .i64 53] true 0),(km,.map [] 40),(kr,.cells 273 [.int .i64 1,.int .i64 0,.str 5 491328597876,.ptr k9 0,.int .i64 2,.map ku,.slice k1e 0 3 (.more 1),.slice k1f 0 1 (.more 1),.nilSlice,.int .i64 0,.int .i64 0,.int .i64 0] false 0),(ku,.map [(.str 6 52970656706933,.ptr k1x 0,2),(.str 6 52970673484405,.ptr k2a 0,5),(.str 5 435744240755,.ptr k1i 0,7)] 8),S7 kz k19 (.str 12 14909952252669478796797554994) (.int .i64 3) (.int .i64 0),S4 k17,(k1e,.cells 169 [.ptr k1x 0,.ptr k2a 0,.ptr k1i 0,.ptr k1i 0] true 0),Zj,Sc k1l (.int .i64 53),(k20,.cells 211 [.ptr k22 0,.ptr k23 0,.ptr k24 0,.slice k25 0 2 (.more 1),.nilSlice] false 0),Sa k21,(k22,.cells 321 [.slice k26 0 1 (.more 4),.int .i64 0,.int .i64 20000,.int .i64 0,.nilSlice,.bool false,.str 0 0,.float .f64 0,.bool false,.str 0 0,.float .f64 0,.bool false,.str 0 0,.float .f64 0,.bool false,.str 0 0,.float .f64 0,.bool false,.str 0 0,.float .f64 0,.bool false,.str 0 0,.float .f64 0,.bool false,.str 0 0,.float .f64 0,.bool false,.str 0 0,.float .f64 0,.bool false,.str 0 0,.float .f64 0,.bool false,.str 0 0,.float .f64 0,.bool false,.str 0 0,.float .f64 0,.bool false,.str 0 0,.float .f64 0,.bool false,.str 0 0,.float .f64 0,.bool false,.str 0 0,.float .f64 0,.bool false,.str 0 0,.float .f64 0,.bool false,.str 0 0,.float .f64 0,.bool false,.str 0 0,.float .f64 0,.bool false,.str 0 0,.float .f64 0,.bool false,.str 0 0,.float .f64 0,.bool false,.str 0 0,.float .f64 0,.bool false,.str 0 0,.float .f64 0,.bool false,.str 0 0,.float .f64 0,.bool false,.str 0 0,.float .f64 0,.bool false,.str 0 0,.float .f64 0,.bool false,.str 0 0,.float .f64 0,.bool false,.str 0 0,.float .f64 0,.bool false,.str 0 0,.float .f64 0,.bool false,.str 0 0,.float .f64 0,.bool false,.str 0 0,.float .f64 0,.bool false,.str 0 0,.float .f64 0,.bool false,.str 0 0,.float .f64 0,.bool false,.str 0 0,.float .f64 0,.bool false,.str 0 0,.float .f64 0,.bool false,.str 0 0,.float .f64 0,.bool false,.str 0 0,.float .f64 0,.bool false,.str 0 0,.float .f64 0,.bool false,.str 0 0,.float .f64 0,.bool false,.str 0 0,.float .f64 0,.bool false,.str 0 0,.float .f64 0,.bool false,.str 0 0,.float .f64 0,.bool false,.str 0 0,.float .f64 0,.bool false,.str 0 0,.float .f64 0,.bool false,.str 0 0,.float .f64 0,.bool false,.str 0 0,.float .f64 0,.bool false,.str 0 0,.float .f64 0,.bool false,.str 0 0,.float .f64 0,.bool false,.str 0 0,.float .f64 0,.bool false,.str 0 0,.float .f64 0,.bool false,.str 0 0,.float .f64 0,.bool false,.str 0 0,.float .f64 0,.bool false,.str 0 0,.float .f64 0,.bool false,.str 0 0,.float .f64 0,.bool false,.str 0 0,.float .f64 0,.bool false,.str 0 0,.float .f64 0,.bool false,.str 0 0,.float .f64 0,.bool false,.str 0 0,.float .f64 0,.bool false,.str 0 0,.float .f64 0,.bool false,.str 0 0,.float .f64 0,.bool false,.str 0 0,.float .f64 0,.bool false,.str 0 0,.float .f64 0,.bool false,.str 0 0,.float .f64 0,.bool false,.str 0 0,.float .f64 0,.bool false,.str 0 0,.float .f64 0,.bool false,.str 0 0,.float .f64 0,.int .i64 0,.int .i64 0,.str 0 0,.str 0 0,.int .i64 0,.int .i64 0,.int .i64 0,.int .i64 0,.str 0 0,.str 0 0,.int .i64 0,.str 0 0] false 0),(k23,.cells 311 [.nilSlice] false 0),Sf k24 k27 k27 (.int .i64 0),S6 k25 k28 k29,(k26,.cells 354 [.int .i64 0,.int .i64 0,.float .f64 0,.str 0 0] true 0),(k27,.cells 389 [.int .i64 1,.int .i64 493,.str 0 0,.map k2b,.nilPtr,.str 0 0] false 0),S8 k28,S9 k29,Sb k2a kr k2c (.int .i64 2) (.int .i64 3) (.str 6 52970673484405) (.int .i64 1) (.int .i64 0) (.int .i64 0) (.int .i64 0),Sg k2b,Sd k2c] s2
def s4:RT AObj:=updS [S5 k0 k1 k2 k3 k4 k5 k6 kv (.int .i64 3),S0 k1 k7 (.int .i64 (-162)) (.int .i64 162),Si k6 (.int .i64 1) (.str 12 14909942882012283808127726898) (.int .i64 3) (.int .i64 2) (.str 12 14909942882012283808127726898) (.int .i64 2),(k8,.cells 268 [.ptr kf 0,.int .i64 512,.map kg,.slice kh 0 12 (.more 1)] false 0),Sk ka,(kg,.map [(.int .i64 0,.ptr kn 0,0),(.int .i64 45,.ptr ko 0,1),(.int .i64 46,.ptr k13 0,2),(.int .i64 47,.ptr k14 0,3),(.int .i64 48,.ptr k15 0,4),(.int .i64 49,.ptr k16 0,5),(.int .i64 50,.ptr k17 0,6),(.int .i64 51,.ptr k1n 0,7),(.int .i64 52,.ptr k1o 0,8),(.int .i64 53,.ptr k21 0,9),(.int .i64 54,.ptr k2d 0,10),(.int .i64 55,.ptr k2e 0,11)] 12),(kh,.cells 3 [.int .i64 0,.int .i64 45,.int .i64 46,.int .i64 47,.int .i64 48,.int .i64 49,.int .i64 50,.int .i64 51,.int .i64 52,.int .i64 53,.int .i64 54,.int .i64 55] true 0),(km,.map [] 49),(ku,.map [(.str 6 52970673484405,.ptr k2a 0,5),(.str 6 52970690261365,.ptr k2f 0,8),(.str 5 435744240755,.ptr k1i 0,10)] 11),Zk,(k1f,.cells 3 [.int .i64 49,.int .i64 54] true 0),Zl,Zm,S4 k1o,Sf k1r k1u k1u (.int .i64 1),(k1y,.lmap [(.str 1 102,.ptr k2h 0)]),S4 k2d,Sa k2e,Sb k2f kr k2g (.int .i64 2) (.int .i64 11) (.str 6 52970690261365) (.int .i64 2) (.int .i64 0) (.int .i64 0) (.int .i64 0),Se k2g,So k2h k2i k1u (.int .i64 2) (.int .i64 420) (.str 0 0) (.str 1 102),Sg k2i] s3
def s5:RT AObj:=updS [S5 k0 k1 k2 k3 k4 k5 k6 kv (.int .i64 4),S0 k1 k7 (.int .i64 (-192)) (.int .i64 192),Si k6 (.int .i64 1) (.str 12 14909942882012283808127726898) (.int .i64 4) (.int .i64 2) (.str 12 14909942882012283808127726898) (.int .i64 2),Sp ka,(km,.map [] 58),(ku,.map [(.str 6 52970673484405,.ptr k2a 0,5),(.str 6 52970707038581,.ptr k1x 0,11),(.str 5 435744240755,.ptr k1i 0,13)] 14),Zn,(k1f,.cells 3 [.int .i64 49,.int .i64 53] true 0),Zj,Zo,S4 k1n,Sr k1r k1u k1u,Sb k1x kr k1z (.int .i64 2) (.int .i64 19) (.str 6 52970707038581) (.int .i64 0) (.int .i64 0) (.int .i64 0) (.int .i64 0),(k1y,.lmap [(.str 1 100,.ptr k2j 0),(.str 1 102,.ptr k2h 0)]),Sh k1z,S4 k21,So k2j k2k k1u (.int .i64 1) (.int .i64 420) (.str 0 0) (.str 1 100),Sg k2k] s4
def s6:RT AObj:=updS [S5 k0 k1 k2 k3 k4 k5 k6 kv (.int .i64 5),S0 k1 k7 (.int .i64 (-222)) (.int .i64 222),Si k6 (.int .i64 1) (.str 12 14909942882012283808127726898) (.int .i64 4) (.int .i64 2) (.str 12 14909942882012283808127726898) (.int .i64 5),Ss ka,(km,.map [] 67),(ku,.map [(.str 6 52970707038581,.ptr k1x 0,11),(.str 6 52970723816053,.ptr k2f 0,14),(.str 5 435744240755,.ptr k1i 0,16)] 17),Zp,Zq,Zm,Sf k24 k27 k27 (.int .i64 1),(k2b,.lmap [(.str 2 13167,.ptr k2l 0)]),S4 k2e,Sb k2f kr k2g (.int .i64 2) (.int .i64 12) (.str 6 52970723816053) (.int .i64 2) (.int .i64 0) (.int .i64 0) (.int .i64 0),Se k2g,So k2l k2m k27 (.int .i64 1) (.int .i64 0) (.str 0 0) (.str 2 13167),Sg k2m] s5
def s7:RT AObj:=updS [Zr,Sv k1 k7,Sw k6,Sx ka,Sy km,Zs,Zk,Zl,Zo,Zt,Sd k2c,(k2h,.cells 389 [.int .i64 2,tb0,.str 0 0,.map k2i,.ptr k1u 0,.str 1 102] false 0)] s6
def s8:RT AObj:=updS [Zu,S12 k1 k7,S13 k6,S14 ka,S15 km,Zv,Zn,Zj,Zm,Zw,Sh k1z,Zx,Zy,Zz,Sg k2o] s7
def s9:RT AObj:=updS [Z10,S1b k1 k7,S1c k6,S1d ka,S1e km,Z11,Zp,Zq,Zo,Z12,Se k2g,(k2j,.cells 389 [.int .i64 1,tb0,.str 0 0,.map k2k,.ptr k1u 0,.str 1 100] false 0)] s8
def sa:RT AObj:=updS [Z13,S1i k1 k7,S1j k6,Sk ka,S1k km,Z14,Zk,Zl,Zm,Z15,Z16,Z17,Sd k2c,Z18,Sg k2q] s9
def sb:RT AObj:=updS [Z19,S1r k1 k7,S1s k6,Sp ka,S1t km,Z1a,Zn,Zj,Zo,(k1u,.cells 389 [.int .i64 1,tb0,.str 0 0,.map k1y,.nilPtr,.str 0 0] false 0),S1v k1x kr k1z,Sh k1z] sa
def sc:RT AObj:=updS [Z1b,S1x k1 k7,S1y k6,Ss ka,S1z km,Z1c,Zp,Zq,Zm,Z1d,Z1e,S23 k2f kr k2g,Se k2g,Z1f,Sg k2s] sb
def sd:RT AObj:=updS [Zr,Sv k1 k7,Sw k6,Sx ka,Sy km,Zs,Zk,Zl,Zo,Zt,Sd k2c,(k2h,.cells 389 [.int .i64 2,tb1,.str 0 0,.map k2i,.ptr k1u 0,.str 1 102] false 0)] s6
def se:RT AObj:=updS [Zu,S12 k1 k7,S13 k6,S14 ka,S15 km,Zv,Zn,Zj,Zm,Zw,Sh k1z,Zx,Zy,Zz,Sg k2o] sd
def sf:RT AObj:=updS [Z10,S1b k1 k7,S1c k6,S1d ka,S1e km,Z11,Zp,Zq,Zo,Z12,Se k2g,(k2j,.cells 389 [.int .i64 1,tb1,.str 0 0,.map k2k,.ptr k1u 0,.str 1 100] false 0)] se
def sg:RT AObj:=updS [Z13,S1i k1 k7,S1j k6,Sk ka,S1k km,Z14,Zk,Zl,Zm,Z15,Z16,Z17,Sd k2c,Z18,Sg k2q] sf
def sh:RT AObj:=updS [Z19,S1r k1 k7,S1s k6,Sp ka,S1t km,Z1a,Zn,Zj,Zo,(k1u,.cells 389 [.int .i64 1,tb1,.str 0 0,.map k1y,.nilPtr,.str 0 0] false 0),S1v k1x kr k1z,Sh k1z] sg
def si:RT AObj:=updS [Z1b,S1x k1 k7,S1y k6,Ss ka,S1z km,Z1c,Zp,Zq,Zm,Z1d,Z1e,S23 k2f kr k2g,Se k2g,Z1f,Sg k2s] sh
def sj:RT AObj:=updS [Zr,Sv k1 k7,Sw k6,Sx ka,Sy km,Zs,Zk,Zl,Zo,Zt,Sd k2c,(k2h,.cells 389 [.int .i64 2,tb2,.str 0 0,.map k2i,.ptr k1u 0,.str 1 102] false 0)] s6
def sk:RT AObj:=updS [Zu,S12 k1 k7,S13 k6,S14 ka,S15 km,Zv,Zn,Zj,Zm,Zw,Sh k1z,Zx,Zy,Zz,Sg k2o] sj
def sl:RT AObj:=updS [Z10,S1b k1 k7,S1c k6,S1d ka,S1e km,Z11,Zp,Zq,Zo,Z12,Se k2g,(k2j,.cells 389 [.int .i64 1,tb2,.str 0 0,.map k2k,.ptr k1u 0,.str 1 100] false 0)] sk
def sm:RT AObj:=updS [Z13,S1i k1 k7,S1j k6,Sk ka,S1k km,Z14,Zk,Zl,Zm,Z15,Z16,Z17,Sd k2c,Z18,Sg k2q] sl
def sn:RT AObj:=updS [Z19,S1r k1 k7,S1s k6,Sp ka,S1t km,Z1a,Zn,Zj,Zo,(k1u,.cells 389 [.int .i64 1,tb2,.str 0 0,.map k1y,.nilPtr,.str 0 0] false 0),S1v k1x kr k1z,Sh k1z] sm
def so:RT AObj:=updS [Z1b,S1x k1 k7,S1y k6,Ss ka,S1z km,Z1c,Zp,Zq,Zm,Z1d,Z1e,S23 k2f kr k2g,Se k2g,Z1f,Sg k2s] sn
def sp:RT AObj:=updS [Zr,Sv k1 k7,Sw k6,Sx ka,Sy km,Zs,Zk,Zl,Zo,Zt,Sd k2c,(k2h,.cells 389 [.int .i64 2,tb3,.str 0 0,.map k2i,.ptr k1u 0,.str 1 102] false 0)] s6
def sq:RT AObj:=updS [Zu,S12 k1 k7,S13 k6,S14 ka,S15 km,Zv,Zn,Zj,Zm,Zw,Sh k1z,Zx,Zy,Zz,Sg k2o] sp
def sr:RT AObj:=updS [Z10,S1b k1 k7,S1c k6,S1d ka,S1e km,Z11,Zp,Zq,Zo,Z12,Se k2g,(k2j,.cells 389 [.int .i64 1,tb3,.str 0 0,.map k2k,.ptr k1u 0,.str 1 100] false 0)] sq
def ss:RT AObj:=updS [Z13,S1i k1 k7,S1j k6,Sk ka,S1k km,Z14,Zk,Zl,Zm,Z15,Z16,Z17,Sd k2c,Z18,Sg k2q] sr
def st:RT AObj:=updS [Z19,S1r k1 k7,S1s k6,Sp ka,S1t km,Z1a,Zn,Zj,Zo,(k1u,.cells 389 [.int .i64 1,tb3,.str 0 0,.map k1y,.nilPtr,.str 0 0] false 0),S1v k1x kr k1z,Sh k1z] ss
def su:RT AObj:=updS [Z1b,S1x k1 k7,S1y k6,Ss ka,S1z km,Z1c,Zp,Zq,Zm,Z1d,Z1e,S23 k2f kr k2g,Se k2g,Z1f,Sg k2s] st
def sv:RT AObj:=updS [(k2h,.cells 389 [.int .i64 2,tb4,.str 0 0,.map k2i,.ptr k1u 0,.str 1 102] false 0)] s6
def sw:RT AObj:=updS [Zr,Sv k1 k7,Si k6 (.int .i64 1) (.str 12 14909942882012283808127726898) (.int .i64 4) (.int .i64 2) (.str 12 14909942882012283808127726898) (.int .i64 6),Sp ka,Sy km,(ku,.map [(.str 6 52970707038581,.ptr k1x 0,11),(.str 6 52970740593269,.ptr k2a 0,17),(.str 5 435744240755,.ptr k1i 0,19)] 20),Zn,Zj,Zo,Zx,Sb k2a kr k2c (.int .i64 2) (.int .i64 21) (.str 6 52970740593269) (.int .i64 1) (.int .i64 0) (.int .i64 0) (.int .i64 0),Zy,Sd k2c,Zz,Sg k2o] sv
def sx:RT AObj:=updS [(k2j,.cells 389 [.int .i64 1,tb4,.str 0 0,.map k2k,.ptr k1u 0,.str 1 100] false 0)] sw
def sy:RT AObj:=updS [Zu,S12 k1 k7,Si k6 (.int .i64 1) (.str 12 14909942882012283808127726898) (.int .i64 4) (.int .i64 2) (.str 12 14909942882012283808127726898) (.int .i64 7),Ss ka,S15 km,(ku,.map [(.str 6 52970707038581,.ptr k1x 0,11),(.str 6 52970757370485,.ptr k2f 0,20),(.str 5 435744240755,.ptr k1i 0,22)] 23),Zp,Zq,Zm,Z15,Z17,Sb k2f kr k2g (.int .i64 2) (.int .i64 30) (.str 6 52970757370485) (.int .i64 2) (.int .i64 0) (.int .i64 0) (.int .i64 0),Se k2g,Z18,Sg k2q] sx
def sz:RT AObj:=updS [Z10,S1b k1 k7,S1c k6,Sx ka,S1e km,S1f ku k2f k2a k1i,Zk,Zl,Zo,(k1u,.cells 389 [.int .i64 1,tb4,.str 0 0,.map k1y,.nilPtr,.str 0 0] false 0),Sb k2a kr k2c (.int .i64 2) (.int .i64 19) (.str 6 52970774147445) (.int .i64 1) (.int .i64 0) (.int .i64 0) (.int .i64 0),Sd k2c] sy
def s10:RT AObj:=updS [Z13,S1i k1 k7,S1j k6,S14 ka,S1k km,S1l ku k2a k1x k1i,Zn,Zj,Zm,Sb k1x kr k1z (.int .i64 2) (.int .i64 40) (.str 6 52970790924917) (.int .i64 0) (.int .i64 0) (.int .i64 0) (.int .i64 0),Sh k1z,Z1d,Z1e,Z1f,Sg k2s] sz
def s11:RT AObj:=updS [Zr,Sv k1 k7,Sw k6,Sx ka,Sy km,Zs,Zk,Zl,Zo,Zt,Sd k2c,(k2h,.cells 389 [.int .i64 2,tb5,.str 0 0,.map k2i,.ptr k1u 0,.str 1 102] false 0)] s6
def s12:RT AObj:=updS [Zu,S12 k1 k7,S13 k6,S14 ka,S15 km,Zv,Zn,Zj,Zm,Zw,Sh k1z,Zx,Zy,Zz,Sg k2o] s11
def s13:RT AObj:=updS [Z10,S1b k1 k7,S1c k6,S1d ka,S1e km,Z11,Zp,Zq,Zo,Z12,Se k2g,(k2j,.cells 389 [.int .i64 1,tb5,.str 0 0,.map k2k,.ptr k1u 0,.str 1 100] false 0)] s12
def s14:RT AObj:=updS [Z13,S1i k1 k7,S1j k6,Sk ka,S1k km,Z14,Zk,Zl,Zm,Z15,Z16,Z17,Sd k2c,Z18,Sg k2q] s13
def s15:RT AObj:=updS [(k1u,.cells 389 [.int .i64 1,tb5,.str 0 0,.map k1y,.nilPtr,.str 0 0] false 0)] s14
def s16:RT AObj:=updS [Z19,S1r k1 k7,Si k6 (.int .i64 1) (.str 12 14909942882012283808127726898) (.int .i64 8) (.int .i64 2) (.str 12 14909942882012283808127726898) (.int .i64 10),S1d ka,S1t km,(ku,.map [(.str 6 52970774147445,.ptr k2f 0,23),(.str 7 13560483888837237,.ptr k1x 0,29),(.str 5 435744240755,.ptr k1i 0,31)] 32),Zp,Zq,Zo,Sb k1x kr k1z (.int .i64 2) (.int .i64 40) (.str 7 13560483888837237) (.int .i64 0) (.int .i64 0) (.int .i64 0) (.int .i64 0),Sh k1z,Z1d,Z1e,Z1f,Sg k2s] s15
def s17:RT AObj:=updS [S5 k0 k1 k2 k3 k4 k5 k6 kv (.int .i64 0),S0 k1 k7 (.int .i64 (-52)) (.int .i64 52),S1 k2 k1 k8 k9 ka (.int .i64 5) (.int .i64 16334),(k5,.map [(.str 1 116,.str 12 14909952252669478796797554994,0)] 1),(k8,.cells 268 [.ptr kf 0,.int .i64 512,.map kg,.slice kh 0 6 (.more 1)] false 0),(ka,.bits 4 16384 1125899906842623),(kc,.map [(.str 12 14909952252669478796797554994,.ptr ky 0,0)] 1),(kd,.map [(.str 1 116,.agg [.slice kz 0 1 (.more 1)],0)] 1),(kg,.map [(.int .i64 0,.ptr kn 0,0),(.int .i64 45,.ptr ko 0,1),(.int .i64 46,.ptr k11 0,2),(.int .i64 47,.ptr k12 0,3),(.int .i64 48,.ptr k13 0,4),(.int .i64 49,.ptr k14 0,5)] 6),(kh,.cells 3 [.int .i64 0,.int .i64 45,.int .i64 46,.int .i64 47,.int .i64 48,.int .i64 49] true 0),(km,.map [] 16),(kq,.cells 273 [.int .i64 1,.int .i64 0,.str 6 126935165919596,.ptr k9 0,.int .i64 1,.map kt,.slice k17 0 1 (.more 1),.slice k18 0 1 (.more 1),.nilSlice,.int .i64 0,.int .i64 0,.int .i64 0] false 0),(kr,.cells 273 [.int .i64 1,.int .i64 0,.str 5 491328597876,.ptr k9 0,.int .i64 2,.map ku,.slice k19 0 1 (.more 1),.slice k1a 0 1 (.more 1),.nilSlice,.int .i64 0,.int .i64 0,.int .i64 0] false 0),(kt,.map [(.str 12 14909952252669478796797554994,.ptr k1b 0,1)] 2),(ku,.map [(.str 5 435744240755,.ptr k1c 0,1)] 2),(kv,.cells 199 [.str 19 1318739858033904608473444756492996921336492646,.nilSlice,.int .i64 20000,.map kw,.slice kx 0 1 (.more 1)] true 0),S2 kw,(kx,.cells 141 [.slice k10 0 1 (.more 4)] true 0),S7 ky k15 (.str 0 0) (.int .i64 1) (.int .i64 0),(kz,.cells 141 [.slice k16 0 1 (.more 4)] true 0),S8 k10,S4 k11,Sa k12,S4 k13,Sa k14,S8 k15,S8 k16,(k17,.cells 169 [.ptr k1b 0] true 0),S3 k18 (.int .i64 46),(k19,.cells 169 [.ptr k1c 0] true 0),S3 k1a (.int .i64 48),Sb k1b kq k1d (.int .i64 2) (.int .i64 12) (.str 12 14909952252669478796797554994) (.int .i64 0) (.int .i64 0) (.int .i64 0) (.int .i64 0),Sb k1c kr k1e (.int .i64 2) (.int .i64 19) (.str 5 435744240755) (.int .i64 0) (.int .i64 0) (.int .i64 0) (.int .i64 0),Sc k1d (.int .i64 47),Sc k1e (.int .i64 49)] s0
def s18:RT AObj:=updS [S5 k0 k1 k2 k3 k4 k5 k6 kv (.int .i64 1),S0 k1 k7 (.int .i64 (-82)) (.int .i64 82),S1 k2 k1 k8 k9 ka (.int .i64 6) (.int .i64 16333),(k6,.map [(.int .i64 1,.agg [.str 12 14909952252669478796797554994,.int .i64 1],0)] 1),(k8,.cells 268 [.ptr kf 0,.int .i64 512,.map kg,.slice kh 0 8 (.more 1)] false 0),(ka,.bits 4 16384 3940649673949183),(ke,.map [(.int .i64 1,.ptr k1f 0,0)] 1),(kg,.map [(.int .i64 0,.ptr kn 0,0),(.int .i64 45,.ptr ko 0,1),(.int .i64 46,.ptr k11 0,2),(.int .i64 47,.ptr k12 0,3),(.int .i64 48,.ptr k13 0,4),(.int .i64 49,.ptr k14 0,5),(.int .i64 50,.ptr k1g 0,6),(.int .i64 51,.ptr k1h 0,7)] 8),(kh,.cells 3 [.int .i64 0,.int .i64 45,.int .i64 46,.int .i64 47,.int .i64 48,.int .i64 49,.int .i64 50,.int .i64 51] true 0),(km,.map [] 25),(kr,.cells 273 [.int .i64 1,.int .i64 0,.str 5 491328597876,.ptr k9 0,.int .i64 2,.map ku,.slice k19 0 2 (.more 1),.slice k1a 0 1 (.more 1),.nilSlice,.int .i64 0,.int .i64 0,.int .i64 0] false 0),(ku,.map [(.str 6 52970656706933,.ptr k1q 0,2),(.str 5 435744240755,.ptr k1c 0,4)] 5),S7 ky k15 (.str 0 0) (.int .i64 2) (.int .i64 0),S4 k12,(k19,.cells 169 [.ptr k1q 0,.ptr k1c 0,.ptr k1c 0] true 0),Sb k1c kr k1e (.int .i64 2) (.int .i64 41) (.str 5 435744240755) (.int .i64 1) (.int .i64 0) (.int .i64 0) (.int .i64 0),Sh k1e,(k1f,.cells 211 [.ptr k1i 0,.ptr k1j 0,.ptr k1k 0,.slice k1l 0 1 (.more 1),.slice k1m 0 1 (.more 4)] false 0),Sa k1g,Sa k1h,(k1i,.cells 321 [.slice k1n 0 5 (.more 4),.int .i64 0,.int .i64 20000,.int .i64 0,.nilSlice,.bool false,.str 0 0,.float .f64 0,.bool false,.str 0 0,.float .f64 0,.bool false,.str 0 0,.float .f64 0,.bool false,.str 0 0,.float .f64 0,.bool false,.str 0 0,.float .f64 0,.bool false,.str 0 0,.float .f64 0,.bool false,.str 0 0,.float .f64 0,.bool false,.str 0 0,.float .f64 0,.bool false,.str 0 0,.float .f64 0,.bool false,.str 0 0,.float .f64 0,.bool false,.str 0 0,.float .f64 0,.bool false,.str 0 0,.float .f64 0,.bool false,.str 0 0,.float .f64 0,.bool false,.str 0 0,.float .f64 0,.bool false,.str 0 0,.float .f64 0,.bool false,.str 0 0,.float .f64 0,.bool false,.str 0 0,.float .f64 0,.bool false,.str 0 0,.float .f64 0,.bool false,.str 0 0,.float .f64 0,.bool false,.str 0 0,.float .f64 0,.bool false,.str 0 0,.float .f64 0,.bool false,.str 0 0,.float .f64 0,.bool false,.str 0 0,.float .f64 0,.bool false,.str 0 0,.float .f64 0,.bool false,.str 0 0,.float .f64 0,.bool false,.str 0 0,.float .f64 0,.bool false,.str 0 0,.float .f64 0,.bool false,.str 0 0,.float .f64 0,.bool false,.str 0 0,.float .f64 0,.bool false,.str 0 0,.float .f64 0,.bool false,.str 0 0,.float .f64 0,.bool false,.str 0 0,.float .f64 0,.bool false,.str 0 0,.float .f64 0,.bool false,.str 0 0,.float .f64 0,.bool false,.str 0 0,.float .f64 0,.bool false,.str 0 0,.float .f64 0,.bool false,.str 0 0,.float .f64 0,.bool false,.str 0 0,.float .f64 0,.bool false,.str 0 0,.float .f64 0,.bool false,.str 0 0,.float .f64 0,.bool false,.str 0 0,.float .f64 0,.bool false,.str 0 0,.float .f64 0,.bool false,.str 0 0,.float .f64 0,.bool false,.str 0 0,.float .f64 0,.bool false,.str 0 0,.float .f64 0,.bool false,.str 0 0,.float .f64 0,.bool false,.str 0 0,.float .f64 0,.bool false,.str 0 0,.float .f64 0,.bool false,.str 0 0,.float .f64 0,.bool false,.str 0 0,.float .f64 0,.bool false,.str 0 0,.float .f64 0,.bool false,.str 0 0,.float .f64 0,.bool false,.str 0 0,.float .f64 0,.bool false,.str 0 0,.float .f64 0,.bool false,.str 0 0,.float .f64 0,.bool false,.str 0 0,.float .f64 0,.bool false,.str 0 0,.float .f64 0,.bool false,.str 0 0,.float .f64 0,.bool false,.str 0 0,.float .f64 0,.bool false,.str 0 0,.float .f64 0,.bool false,.str 0 0,.float .f64 0,.bool false,.str 0 0,.float .f64 0,.bool false,.str 0 0,.float .f64 0,.bool false,.str 0 0,.float .f64 0,.int .i64 0,.int .i64 0,.str 0 0,.str 0 0,.int .i64 0,.int .i64 0,.int .i64 0,.int .i64 0,.str 0 0,.str 0 0,.int .i64 0,.str 0 0] false 0),(k1j,.cells 311 [.nilSlice] false 0),Sf k1k k1o k1o (.int .i64 1),(k1l,.cells 141 [.slice k1p 0 1 (.more 4)] true 0),S8 k1m,(k1n,.cells 354 [.int .i64 2,.int .i64 0,.float .f64 0,.str 1 101,.int .i64 1,.int .i64 0,.float .f64 4607182418800017408,.str 0 0,.int .i64 17,.int .i64 2,.float .f64 0,.str 5 491394460525,.int .i64 18,.int .i64 0,.float .f64 0,.str 0 0,.int .i64 0,.int .i64 0,.float .f64 0,.str 0 0] true 0),(k1o,.cells 389 [.int .i64 1,.int .i64 493,.str 0 0,.map k1r,.nilPtr,.str 0 0] false 0),S8 k1p,Sb k1q kr k1s (.int .i64 2) (.int .i64 3) (.str 6 52970656706933) (.int .i64 0) (.int .i64 0) (.int .i64 0) (.int .i64 0),(k1r,.lmap [(.str 1 100,.ptr k1t 0)]),Sd k1s,So k1t k1u k1o (.int .i64 1) (.int .i64 493) (.str 0 0) (.str 1 100),Sg k1u] s17
def s19:RT AObj:=updS [S5 k0 k1 k2 k3 k4 k5 k6 kv (.int .i64 2),S0 k1 k7 (.int .i64 (-110)) (.int .i64 110),(k6,.map [(.int .i64 1,.agg [.str 12 14909952252669478796797554994,.int .i64 2],0)] 1),(k8,.cells 268 [.ptr kf 0,.int .i64 512,.map kg,.slice kh 0 9 (.more 1)] false 0),(ka,.bits 4 16384 5629499534213119),(kg,.map [(.int .i64 0,.ptr kn 0,0),(.int .i64 45,.ptr ko 0,1),(.int .i64 46,.ptr k11 0,2),(.int .i64 47,.ptr k12 0,3),(.int .i64 48,.ptr k13 0,4),(.int .i64 49,.ptr k14 0,5),(.int .i64 50,.ptr k1g 0,6),(.int .i64 51,.ptr k1h 0,7),(.int .i64 52,.ptr k1v 0,8)] 9),(kh,.cells 3 [.int .i64 0,.int .i64 45,.int .i64 46,.int .i64 47,.int .i64 48,.int .i64 49,.int .i64 50,.int .i64 51,.int .i64 52] true 0),(km,.map [] 33),(ku,.map [(.str 6 52970673484149,.ptr k1x 0,5),(.str 5 435744240755,.ptr k1c 0,7)] 8),S4 k14,(k19,.cells 169 [.ptr k1c 0,.ptr k1x 0,.ptr k1c 0,.ptr k1c 0] true 0),Sb k1c kr k1e (.int .i64 2) (.int .i64 41) (.str 5 435744240755) (.int .i64 0) (.int .i64 0) (.int .i64 0) (.int .i64 0),Se k1e,(k1i,.cells 321 [.slice k1n 0 5 (.more 4),.int .i64 3,.int .i64 19997,.int .i64 3,.slice k1w 0 1 (.more 3),.bool false,.str 0 0,.float .f64 0,.bool false,.str 0 0,.float .f64 0,.bool false,.str 0 0,.float .f64 0,.bool false,.str 0 0,.float .f64 0,.bool false,.str 0 0,.float .f64 0,.bool false,.str 0 0,.float .f64 0,.bool false,.str 0 0,.float .f64 0,.bool false,.str 0 0,.float .f64 0,.bool false,.str 0 0,.float .f64 0,.bool false,.str 0 0,.float .f64 0,.bool false,.str 0 0,.float .f64 0,.bool false,.str 0 0,.float .f64 0,.bool false,.str 0 0,.float .f64 0,.bool false,.str 0 0,.float .f64 0,.bool false,.str 0 0,.float .f64 0,.bool false,.str 0 0,.float .f64 0,.bool false,.str 0 0,.float .f64 0,.bool false,.str 0 0,.float .f64 0,.bool false,.str 0 0,.float .f64 0,.bool false,.str 0 0,.float .f64 0,.bool false,.str 0 0,.float .f64 0,.bool false,.str 0 0,.float .f64 0,.bool false,.str 0 0,.float .f64 0,.bool false,.str 0 0,.float .f64 0,.bool false,.str 0 0,.float .f64 0,.bool false,.str 0 0,.float .f64 0,.bool false,.str 0 0,.float .f64 0,.bool false,.str 0 0,.float .f64 0,.bool false,.str 0 0,.float .f64 0,.bool false,.str 0 0,.float .f64 0,.bool false,.str 0 0,.float .f64 0,.bool false,.str 0 0,.float .f64 0,.bool false,.str 0 0,.float .f64 0,.bool false,.str 0 0,.float .f64 0,.bool false,.str 0 0,.float .f64 0,.bool false,.str 0 0,.float .f64 0,.bool false,.str 0 0,.float .f64 0,.bool false,.str 0 0,.float .f64 0,.bool false,.str 0 0,.float .f64 0,.bool false,.str 0 0,.float .f64 0,.bool false,.str 0 0,.float .f64 0,.bool false,.str 0 0,.float .f64 0,.bool false,.str 0 0,.float .f64 0,.bool false,.str 0 0,.float .f64 0,.bool false,.str 0 0,.float .f64 0,.bool false,.str 0 0,.float .f64 0,.bool false,.str 0 0,.float .f64 0,.bool false,.str 0 0,.float .f64 0,.bool false,.str 0 0,.float .f64 0,.bool false,.str 0 0,.float .f64 0,.bool false,.str 0 0,.float .f64 0,.bool false,.str 0 0,.float .f64 0,.bool false,.str 0 0,.float .f64 0,.bool false,.str 0 0,.float .f64 0,.bool false,.str 0 0,.float .f64 0,.bool false,.str 0 0,.float .f64 0,.bool false,.str 0 0,.float .f64 0,.bool false,.str 0 0,.float .f64 0,.bool false,.str 0 0,.float .f64 0,.bool false,.str 0 0,.float .f64 0,.bool false,.str 0 0,.float .f64 0,.bool false,.str 0 0,.float .f64 0,.bool false,.str 0 0,.float .f64 0,.bool false,.str 0 0,.float .f64 0,.int .i64 0,.int .i64 0,.str 0 0,.str 0 0,.int .i64 0,.int .i64 0,.int .i64 0,.int .i64 0,.str 0 0,.str 5 491394460525,.int .i64 0,.str 0 0] false 0),Sr k1k k1o k1o,(k1r,.lmap [(.str 1 100,.ptr k1t 0),(.str 1 101,.ptr k1z 0)]),Sa k1v,(k1w,.cells 318 [.bool false,.str 0 0,.float .f64 0,.bool false,.str 0 0,.float .f64 4607182418800017408] true 0),Sb k1x kr k1y (.int .i64 2) (.int .i64 11) (.str 6 52970673484149) (.int .i64 1) (.int .i64 0) (.int .i64 0) (.int .i64 0),Sc k1y (.int .i64 49),So k1z k20 k1o (.int .i64 1) (.int .i64 1) (.str 0 0) (.str 1 101),Sg k20] s18
def tw0:List MRow:=[tR s2 k1r,
 tR s4 k1r,
 tR s5 k1r,
 tR s6 k24,
 tR s7 k1r,
 tR s8 k24,
 tR s9 k1r,
 tR sa k24]
def tw1:List MRow:=[tR sb k1r,
 tR sc k24,
 tR sd k1r,
 tR sf k1r,
 tR sh k1r,
 tR sj k1r,
 tR sl k1r,
 tR sn k1r]
def tw2:List MRow:=[tR sp k1r,
 tR sr k1r,
 tR st k1r,
 tR sv k1r,
 tR sx k1r,
 tR sz k1r,
 tR s11 k1r,
 tR s13 k1r]
def tw3:List MRow:=[tR s15 k1r,
 tR s18 k1k]
def trows:List MRow:=tw0 ++ (tw1 ++ (tw2 ++ (tw3)))
def cr0:MRow:=cR tys k0 s0 k4
def cr1:MRow:=cR tys k0 s1 k4
def cr2:MRow:=cR tys k0 s2 k4
def cr3:MRow:=cR tys k0 s3 k4
def cr4:MRow:=cR tys k0 s4 k4
def cr5:MRow:=cR tys k0 s5 k4
def cr6:MRow:=cR tys k0 s6 k4
def cr7:MRow:=cR tys k0 s7 k4
def cr8:MRow:=cR tys k0 s8 k4
def cr9:MRow:=cR tys k0 s9 k4
def cr10:MRow:=cR tys k0 sa k4
def cr11:MRow:=cR tys k0 sb k4
def cr12:MRow:=cR tys k0 sc k4
def cr13:MRow:=cR tys k0 sd k4
def cr14:MRow:=cR tys k0 se k4
def cr15:MRow:=cR tys k0 sf k4
def cr16:MRow:=cR tys k0 sg k4
def cr17:MRow:=cR tys k0 sh k4
def cr18:MRow:=cR tys k0 si k4
def cr19:MRow:=cR tys k0 sj k4
def cr20:MRow:=cR tys k0 sk k4
def cr21:MRow:=cR tys k0 sl k4
def cr22:MRow:=cR tys k0 sm k4
def cr23:MRow:=cR tys k0 sn k4
def cr24:MRow:=cR tys k0 so k4
def cr25:MRow:=cR tys k0 sp k4
def cr26:MRow:=cR tys k0 sq k4
def cr27:MRow:=cR tys k0 sr k4
def cr28:MRow:=cR tys k0 ss k4
def cr29:MRow:=cR tys k0 st k4
def cr30:MRow:=cR tys k0 su k4
def cr31:MRow:=cR tys k0 sv k4
def cr32:MRow:=cR tys k0 sw k4
def cr33:MRow:=cR tys k0 sx k4
def cr34:MRow:=cR tys k0 sy k4
def cr35:MRow:=cR tys k0 sz k4
def cr36:MRow:=cR tys k0 s10 k4
def cr37:MRow:=cR tys k0 s11 k4
def cr38:MRow:=cR tys k0 s12 k4
def cr39:MRow:=cR tys k0 s13 k4
def cr40:MRow:=cR tys k0 s14 k4
def cr41:MRow:=cR tys k0 s15 k4
def cr42:MRow:=cR tys k0 s16 k4
def cr43:MRow:=cR tys k0 s17 k4
def cr44:MRow:=cR tys k0 s18 k4
def cw0:List MRow:=[cr0,
 cr1,
 cr2,
 cr3]
def cw1:List MRow:=[cr4,
 cr5,
 cr6,
 cr7]
def cw2:List MRow:=[cr8,
 cr9,
 cr10,
 cr11]
def cw3:List MRow:=[cr12,
 cr13,
 cr14,
 cr15]
def cw4:List MRow:=[cr16,
 cr17,
 cr18,
 cr19]
def cw5:List MRow:=[cr20,
 cr21,
 cr22,
 cr23]
def cw6:List MRow:=[cr24,
 cr25,
 cr26,
 cr27]
def cw7:List MRow:=[cr28,
 cr29,
 cr30,
 cr31]
def cw8:List MRow:=[cr32,
 cr33,
 cr34,
 cr35]
def cw9:List MRow:=[cr36,
 cr37,
 cr38,
 cr39]
def cw10:List MRow:=[cr40,
 cr41,
 cr42,
 cr43]
def cw11:List MRow:=[cr44]
def crows:List MRow:=cw0 ++ (cw1 ++ (cw2 ++ (cw3 ++ (cw4 ++ (cw5 ++ (cw6 ++ (cw7 ++ (cw8 ++ (cw9 ++ (cw10 ++ (cw11)))))))))))
def nw0:List MRow:=[nR s0 [.int .i64 16384] (.tup [.ptr k0 0,.int .i64 0]) k0]
def nw1:List MRow:=[⟨[.int .i64 16383],[],.tup [.nilPtr, .int .i64 2600],[]⟩]
def nrows:List MRow:=nw0 ++ (nw1)
def dw0:List MRow:=[dR tys k4 s0 s1 [.ptr k0 0,.agg [.int .i64 3,.str 1 116,.str 0 0,.str 31 104481335786327267040345892488766287127177228565394820989683512661121135206,.nilSlice,.int .i64 0,.int .i64 0,.str 0 0,.str 0 0,.int .i64 0,.int .i64 0,.int .i64 0,.int .i64 0,.str 0 0]] Z6 [k5,k6,kh] [kv,kw,kx,ky,kz,k10,k11,k12,k13,k14,k15,k16,k17,k18,k19,k1a,k1b,k1c,k1d,k1e,k1f,k1g,k1h,k1i,k1j,k1k,k1l,k0,k1,k2,k8,ka,kc,kg,km,kq,kr,kt,ku] [(kh,.dead)]]
def dw1:List MRow:=[dR tys k4 s1 s2 [.ptr k0 0,.agg [.int .i64 4,.str 1 116,.str 0 0,.str 0 0,.nilSlice,.int .i64 0,.int .i64 0,.str 0 0,.str 0 0,.int .i64 0,.int .i64 0,.int .i64 0,.int .i64 0,.str 0 0]] (.tup [.agg [.int .i64 0,.int .i64 0,.int .i64 1,.str 0 0,.nilSlice,.nilSlice,.int .i64 0,.int .i64 0,.int .i64 0,.int .i64 0,.str 0 0,.nilSlice,.int .i64 0,.int .i64 0],.int .i64 0]) [k5,k6,kh,k1e,k1i,k1k,k1l] [k1n,k1o,k1s,k1t,k1v,k1w,k1x,k1z,k0,k1,k2,k8,ka,kg,km,kr,ku,kz,k15,k1h] [(kh,.dead),(k1e,.dead),(k1i,.dead)]]
def dw2:List MRow:=[dR tys k4 s2 s3 [.ptr k0 0,.agg [.int .i64 4,.str 1 116,.str 0 0,.str 0 0,.nilSlice,.int .i64 0,.int .i64 0,.str 0 0,.str 0 0,.int .i64 0,.int .i64 0,.int .i64 0,.int .i64 0,.str 0 0]] (.tup [.agg [.int .i64 0,.int .i64 0,.int .i64 2,.str 0 0,.nilSlice,.nilSlice,.int .i64 0,.int .i64 0,.int .i64 0,.int .i64 0,.str 0 0,.nilSlice,.int .i64 0,.int .i64 0],.int .i64 0]) [k5,k6,kh,k1e,k1i,k1k,k1l] [k21,k25,k26,k28,k29,k2a,k2c,k0,k1,k2,k8,ka,kg,km,kr,ku,kz,k17,k1h] [(kh,.dead),(k1e,.dead),(k1i,.dead)]]
def dw3:List MRow:=[dR tys k4 s3 s4 (cl 1 5 (.str 1 102) (.str 0 0) 0 0 0 420 (.str 6 127978876068212)) Z6 [k5,k6,kh,k1e,k1f,k1i,k1l] [k2d,k2e,k2f,k2g,k0,k1,k8,ka,kg,km,kr,ku,k1o] [(ke,.dead),(kh,.dead),(k1e,.dead),(k1f,.dead),(k1x,.dead),(k1i,.dead)]]
def dw4:List MRow:=[dR tys k4 s4 s5 (cl 1 6 (.str 1 100) (.str 0 0) 0 0 0 420 (.str 6 127978876068212)) Z6 Zf [k1x,k1z,k0,k1,ka,km,ku,k1e,k1f,k1n,k21] [(ke,.dead),(k2f,.dead),(k1i,.dead)]]
def dw5:List MRow:=[dR tys k4 s5 s6 (cl 2 6 (.str 2 13167) (.str 0 0) 0 0 0 0 (.str 0 0)) Z6 Zf [k2f,k2g,k0,k1,ka,km,ku,k1e,k2e] [(ke,.dead),(k2a,.dead),(k1i,.dead),(k1y,.dead)]]
def dw6:List MRow:=[dR tys k4 s6 s7 [.ptr k0 0,.agg [.int .i64 6,.str 0 0,.str 0 0,.str 0 0,.nilSlice,.int .i64 1,.int .i64 10,.str 1 102,.str 0 0,.int .i64 0,.int .i64 0,.int .i64 0,tb0,.str 0 0]] Z6 Zf Zg Z8]
def dw7:List MRow:=[dR tys k4 s7 s7 Z0 (.tup [.agg [.int .i64 0,.int .i64 0,.int .i64 0,.str 0 0,.nilSlice,.nilSlice,.int .i64 0,.int .i64 0,.int .i64 2,tb0,.str 0 0,.nilSlice,.int .i64 0,.int .i64 0],.int .i64 0]) [] [k0] Z9]
def dw8:List MRow:=[dR tys k4 s7 s7 [.ptr k0 0,.agg [.int .i64 6,.str 0 0,.str 0 0,.str 0 0,.nilSlice,.int .i64 1,.int .i64 10,.str 1 102,.str 0 0,.int .i64 0,.int .i64 0,.int .i64 0,tb6,.str 0 0]] Z7 [] [k0] Z9]
def dw9:List MRow:=[dR tys k4 s7 s8 Z1 Z6 Zf Zh Za]
def dw10:List MRow:=[dR tys k4 s8 s9 [.ptr k0 0,.agg [.int .i64 6,.str 0 0,.str 0 0,.str 0 0,.nilSlice,.int .i64 1,.int .i64 10,.str 1 100,.str 0 0,.int .i64 0,.int .i64 0,.int .i64 0,tb0,.str 0 0]] Z6 Zf Zi Zb]
def dw11:List MRow:=[dR tys k4 s9 s9 Z2 (.tup [.agg [.int .i64 0,.int .i64 0,.int .i64 0,.str 0 0,.nilSlice,.nilSlice,.int .i64 0,.int .i64 0,.int .i64 1,tb0,.str 0 0,.nilSlice,.int .i64 0,.int .i64 0],.int .i64 0]) [] [k0] Zc]
def dw12:List MRow:=[dR tys k4 s9 s9 [.ptr k0 0,.agg [.int .i64 6,.str 0 0,.str 0 0,.str 0 0,.nilSlice,.int .i64 1,.int .i64 10,.str 1 100,.str 0 0,.int .i64 0,.int .i64 0,.int .i64 0,tb6,.str 0 0]] Z7 [] [k0] Zc]
def dw13:List MRow:=[dR tys k4 s9 sa Z3 Z6 Zf Zg Zd]
def dw14:List MRow:=[dR tys k4 sa sb [.ptr k0 0,.agg [.int .i64 6,.str 0 0,.str 0 0,.str 0 0,.nilSlice,.int .i64 1,.int .i64 10,.str 1 47,.str 0 0,.int .i64 0,.int .i64 0,.int .i64 0,tb0,.str 0 0]] Z6 Zf Zh Ze]
def dw15:List MRow:=[dR tys k4 sb sb Z4 (.tup [.agg [.int .i64 0,.int .i64 0,.int .i64 0,.str 0 0,.nilSlice,.nilSlice,.int .i64 0,.int .i64 2,.int .i64 1,tb0,.str 0 0,.nilSlice,.int .i64 0,.int .i64 0],.int .i64 0]) [] [k0] Zc]
def dw16:List MRow:=[dR tys k4 sb sb [.ptr k0 0,.agg [.int .i64 6,.str 0 0,.str 0 0,.str 0 0,.nilSlice,.int .i64 1,.int .i64 10,.str 1 47,.str 0 0,.int .i64 0,.int .i64 0,.int .i64 0,tb6,.str 0 0]] Z7 [] [k0] Zc]
def dw17:List MRow:=[dR tys k4 sb sc Z5 Z6 Zf Zi Zb]
def dw18:List MRow:=[dR tys k4 sc sc [.ptr k0 0,.agg [.int .i64 6,.str 0 0,.str 0 0,.str 0 0,.nilSlice,.int .i64 1,.int .i64 5,.str 1 103,.str 0 0,.int .i64 0,.int .i64 0,.int .i64 0,tb7,.str 0 0]] Z7 [] [k0] Zc]
def dw19:List MRow:=[dR tys k4 s6 sd [.ptr k0 0,.agg [.int .i64 6,.str 0 0,.str 0 0,.str 0 0,.nilSlice,.int .i64 1,.int .i64 10,.str 1 102,.str 0 0,.int .i64 0,.int .i64 0,.int .i64 0,tb1,.str 0 0]] Z6 Zf Zg Z8]
def dw20:List MRow:=[dR tys k4 sd sd Z0 (.tup [.agg [.int .i64 0,.int .i64 0,.int .i64 0,.str 0 0,.nilSlice,.nilSlice,.int .i64 0,.int .i64 0,.int .i64 2,tb1,.str 0 0,.nilSlice,.int .i64 0,.int .i64 0],.int .i64 0]) [] [k0] Z9]
def dw21:List MRow:=[dR tys k4 sd sd [.ptr k0 0,.agg [.int .i64 6,.str 0 0,.str 0 0,.str 0 0,.nilSlice,.int .i64 1,.int .i64 10,.str 1 102,.str 0 0,.int .i64 0,.int .i64 0,.int .i64 0,tb8,.str 0 0]] Z7 [] [k0] Z9]
def dw22:List MRow:=[dR tys k4 sd se Z1 Z6 Zf Zh Za]
def dw23:List MRow:=[dR tys k4 se sf [.ptr k0 0,.agg [.int .i64 6,.str 0 0,.str 0 0,.str 0 0,.nilSlice,.int .i64 1,.int .i64 10,.str 1 100,.str 0 0,.int .i64 0,.int .i64 0,.int .i64 0,tb1,.str 0 0]] Z6 Zf Zi Zb]
def dw24:List MRow:=[dR tys k4 sf sf Z2 (.tup [.agg [.int .i64 0,.int .i64 0,.int .i64 0,.str 0 0,.nilSlice,.nilSlice,.int .i64 0,.int .i64 0,.int .i64 1,tb1,.str 0 0,.nilSlice,.int .i64 0,.int .i64 0],.int .i64 0]) [] [k0] Zc]
def dw25:List MRow:=[dR tys k4 sf sf [.ptr k0 0,.agg [.int .i64 6,.str 0 0,.str 0 0,.str 0 0,.nilSlice,.int .i64 1,.int .i64 10,.str 1 100,.str 0 0,.int .i64 0,.int .i64 0,.int .i64 0,tb8,.str 0 0]] Z7 [] [k0] Zc]
def dw26:List MRow:=[dR tys k4 sf sg Z3 Z6 Zf Zg Zd]
def dw27:List MRow:=[dR tys k4 sg sh [.ptr k0 0,.agg [.int .i64 6,.str 0 0,.str 0 0,.str 0 0,.nilSlice,.int .i64 1,.int .i64 10,.str 1 47,.str 0 0,.int .i64 0,.int .i64 0,.int .i64 0,tb1,.str 0 0]] Z6 Zf Zh Ze]
def dw28:List MRow:=[dR tys k4 sh sh Z4 (.tup [.agg [.int .i64 0,.int .i64 0,.int .i64 0,.str 0 0,.nilSlice,.nilSlice,.int .i64 0,.int .i64 2,.int .i64 1,tb1,.str 0 0,.nilSlice,.int .i64 0,.int .i64 0],.int .i64 0]) [] [k0] Zc]
def dw29:List MRow:=[dR tys k4 sh sh [.ptr k0 0,.agg [.int .i64 6,.str 0 0,.str 0 0,.str 0 0,.nilSlice,.int .i64 1,.int .i64 10,.str 1 47,.str 0 0,.int .i64 0,.int .i64 0,.int .i64 0,tb8,.str 0 0]] Z7 [] [k0] Zc]
def dw30:List MRow:=[dR tys k4 sh si Z5 Z6 Zf Zi Zb]
def dw31:List MRow:=[dR tys k4 si si [.ptr k0 0,.agg [.int .i64 6,.str 0 0,.str 0 0,.str 0 0,.nilSlice,.int .i64 1,.int .i64 5,.str 1 103,.str 0 0,.int .i64 0,.int .i64 0,.int .i64 0,tb9,.str 0 0]] Z7 [] [k0] Zc]
def dw32:List MRow:=[dR tys k4 s6 sj [.ptr k0 0,.agg [.int .i64 6,.str 0 0,.str 0 0,.str 0 0,.nilSlice,.int .i64 1,.int .i64 10,.str 1 102,.str 0 0,.int .i64 0,.int .i64 0,.int .i64 0,tb2,.str 0 0]] Z6 Zf Zg Z8]
def dw33:List MRow:=[dR tys k4 sj sj Z0 (.tup [.agg [.int .i64 0,.int .i64 0,.int .i64 0,.str 0 0,.nilSlice,.nilSlice,.int .i64 0,.int .i64 0,.int .i64 2,tb2,.str 0 0,.nilSlice,.int .i64 0,.int .i64 0],.int .i64 0]) [] [k0] Z9]
def dw34:List MRow:=[dR tys k4 sj sj [.ptr k0 0,.agg [.int .i64 6,.str 0 0,.str 0 0,.str 0 0,.nilSlice,.int .i64 1,.int .i64 10,.str 1 102,.str 0 0,.int .i64 0,.int .i64 0,.int .i64 0,tba,.str 0 0]] Z7 [] [k0] Z9]
def dw35:List MRow:=[dR tys k4 sj sk Z1 Z6 Zf Zh Za]
def dw36:List MRow:=[dR tys k4 sk sl [.ptr k0 0,.agg [.int .i64 6,.str 0 0,.str 0 0,.str 0 0,.nilSlice,.int .i64 1,.int .i64 10,.str 1 100,.str 0 0,.int .i64 0,.int .i64 0,.int .i64 0,tb2,.str 0 0]] Z6 Zf Zi Zb]
def dw37:List MRow:=[dR tys k4 sl sl Z2 (.tup [.agg [.int .i64 0,.int .i64 0,.int .i64 0,.str 0 0,.nilSlice,.nilSlice,.int .i64 0,.int .i64 0,.int .i64 1,tb2,.str 0 0,.nilSlice,.int .i64 0,.int .i64 0],.int .i64 0]) [] [k0] Zc]
def dw38:List MRow:=[dR tys k4 sl sl [.ptr k0 0,.agg [.int .i64 6,.str 0 0,.str 0 0,.str 0 0,.nilSlice,.int .i64 1,.int .i64 10,.str 1 100,.str 0 0,.int .i64 0,.int .i64 0,.int .i64 0,tba,.str 0 0]] Z7 [] [k0] Zc]
def dw39:List MRow:=[dR tys k4 sl sm Z3 Z6 Zf Zg Zd]
def dw40:List MRow:=[dR tys k4 sm sn [.ptr k0 0,.agg [.int .i64 6,.str 0 0,.str 0 0,.str 0 0,.nilSlice,.int .i64 1,.int .i64 10,.str 1 47,.str 0 0,.int .i64 0,.int .i64 0,.int .i64 0,tb2,.str 0 0]] Z6 Zf Zh Ze]
def dw41:List MRow:=[dR tys k4 sn sn Z4 (.tup [.agg [.int .i64 0,.int .i64 0,.int .i64 0,.str 0 0,.nilSlice,.nilSlice,.int .i64 0,.int .i64 2,.int .i64 1,tb2,.str 0 0,.nilSlice,.int .i64 0,.int .i64 0],.int .i64 0]) [] [k0] Zc]
def dw42:List MRow:=[dR tys k4 sn sn [.ptr k0 0,.agg [.int .i64 6,.str 0 0,.str 0 0,.str 0 0,.nilSlice,.int .i64 1,.int .i64 10,.str 1 47,.str 0 0,.int .i64 0,.int .i64 0,.int .i64 0,tba,.str 0 0]] Z7 [] [k0] Zc]
def dw43:List MRow:=[dR tys k4 sn so Z5 Z6 Zf Zi Zb]
def dw44:List MRow:=[dR tys k4 so so [.ptr k0 0,.agg [.int .i64 6,.str 0 0,.str 0 0,.str 0 0,.nilSlice,.int .i64 1,.int .i64 5,.str 1 103,.str 0 0,.int .i64 0,.int .i64 0,.int .i64 0,tbb,.str 0 0]] Z7 [] [k0] Zc]
def dw45:List MRow:=[dR tys k4 s6 sp [.ptr k0 0,.agg [.int .i64 6,.str 0 0,.str 0 0,.str 0 0,.nilSlice,.int .i64 1,.int .i64 10,.str 1 102,.str 0 0,.int .i64 0,.int .i64 0,.int .i64 0,tb3,.str 0 0]] Z6 Zf Zg Z8]
def dw46:List MRow:=[dR tys k4 sp sp Z0 (.tup [.agg [.int .i64 0,.int .i64 0,.int .i64 0,.str 0 0,.nilSlice,.nilSlice,.int .i64 0,.int .i64 0,.int .i64 2,tb3,.str 0 0,.nilSlice,.int .i64 0,.int .i64 0],.int .i64 0]) [] [k0] Z9]
def dw47:List MRow:=[dR tys k4 sp sp [.ptr k0 0,.agg [.int .i64 6,.str 0 0,.str 0 0,.str 0 0,.nilSlice,.int .i64 1,.int .i64 10,.str 1 102,.str 0 0,.int .i64 0,.int .i64 0,.int .i64 0,tbc,.str 0 0]] Z7 [] [k0] Z9]
def dw48:List MRow:=[dR tys k4 sp sq Z1 Z6 Zf Zh Za]
def dw49:List MRow:=[dR tys k4 sq sr [.ptr k0 0,.agg [.int .i64 6,.str 0 0,.str 0 0,.str 0 0,.nilSlice,.int .i64 1,.int .i64 10,.str 1 100,.str 0 0,.int .i64 0,.int .i64 0,.int .i64 0,tb3,.str 0 0]] Z6 Zf Zi Zb]
def dw50:List MRow:=[dR tys k4 sr sr Z2 (.tup [.agg [.int .i64 0,.int .i64 0,.int .i64 0,.str 0 0,.nilSlice,.nilSlice,.int .i64 0,.int .i64 0,.int .i64 1,tb3,.str 0 0,.nilSlice,.int .i64 0,.int .i64 0],.int .i64 0]) [] [k0] Zc]
def dw51:List MRow:=[dR tys k4 sr sr [.ptr k0 0,.agg [.int .i64 6,.str 0 0,.str 0 0,.str 0 0,.nilSlice,.int .i64 1,.int .i64 10,.str 1 100,.str 0 0,.int .i64 0,.int .i64 0,.int .i64 0,tbc,.str 0 0]] Z7 [] [k0] Zc]
def dw52:List MRow:=[dR tys k4 sr ss Z3 Z6 Zf Zg Zd]
def dw53:List MRow:=[dR tys k4 ss st [.ptr k0 0,.agg [.int .i64 6,.str 0 0,.str 0 0,.str 0 0,.nilSlice,.int .i64 1,.int .i64 10,.str 1 47,.str 0 0,.int .i64 0,.int .i64 0,.int .i64 0,tb3,.str 0 0]] Z6 Zf Zh Ze]
def dw54:List MRow:=[dR tys k4 st st Z4 (.tup [.agg [.int .i64 0,.int .i64 0,.int .i64 0,.str 0 0,.nilSlice,.nilSlice,.int .i64 0,.int .i64 2,.int .i64 1,tb3,.str 0 0,.nilSlice,.int .i64 0,.int .i64 0],.int .i64 0]) [] [k0] Zc]
def dw55:List MRow:=[dR tys k4 st st [.ptr k0 0,.agg [.int .i64 6,.str 0 0,.str 0 0,.str 0 0,.nilSlice,.int .i64 1,.int .i64 10,.str 1 47,.str 0 0,.int .i64 0,.int .i64 0,.int .i64 0,tbc,.str 0 0]] Z7 [] [k0] Zc]
def dw56:List MRow:=[dR tys k4 st su Z5 Z6 Zf Zi Zb]
def dw57:List MRow:=[dR tys k4 su su [.ptr k0 0,.agg [.int .i64 6,.str 0 0,.str 0 0,.str 0 0,.nilSlice,.int .i64 1,.int .i64 5,.str 1 103,.str 0 0,.int .i64 0,.int .i64 0,.int .i64 0,tbd,.str 0 0]] Z7 [] [k0] Zc]
def dw58:List MRow:=[dR tys k4 s6 sv [.ptr k0 0,.agg [.int .i64 6,.str 0 0,.str 0 0,.str 0 0,.nilSlice,.int .i64 1,.int .i64 10,.str 1 102,.str 0 0,.int .i64 0,.int .i64 0,.int .i64 0,tb4,.str 0 0]] Z6 [] [k0] Z9]
def dw59:List MRow:=[dR tys k4 sv sv Z0 (.tup [.agg [.int .i64 0,.int .i64 0,.int .i64 0,.str 0 0,.nilSlice,.nilSlice,.int .i64 0,.int .i64 0,.int .i64 2,tb4,.str 0 0,.nilSlice,.int .i64 0,.int .i64 0],.int .i64 0]) [] [k0] Z9]
def dw60:List MRow:=[dR tys k4 sv sv (cl 1 10 (.str 1 102) (.str 0 0) 0 0 0 932 (.str 0 0)) Z7 [] [k0] Z9]
def dw61:List MRow:=[dR tys k4 sv sw Z1 Z6 Zf Zg Za]
def dw62:List MRow:=[dR tys k4 sw sx [.ptr k0 0,.agg [.int .i64 6,.str 0 0,.str 0 0,.str 0 0,.nilSlice,.int .i64 1,.int .i64 10,.str 1 100,.str 0 0,.int .i64 0,.int .i64 0,.int .i64 0,tb4,.str 0 0]] Z6 [] [k0] Zc]
def dw63:List MRow:=[dR tys k4 sx sx Z2 (.tup [.agg [.int .i64 0,.int .i64 0,.int .i64 0,.str 0 0,.nilSlice,.nilSlice,.int .i64 0,.int .i64 0,.int .i64 1,tb4,.str 0 0,.nilSlice,.int .i64 0,.int .i64 0],.int .i64 0]) [] [k0] Zc]
def dw64:List MRow:=[dR tys k4 sx sx (cl 1 10 (.str 1 100) (.str 0 0) 0 0 0 932 (.str 0 0)) Z7 [] [k0] Zc]
def dw65:List MRow:=[dR tys k4 sx sy Z3 Z6 Zf Zi Zb]
def dw66:List MRow:=[dR tys k4 sy sz [.ptr k0 0,.agg [.int .i64 6,.str 0 0,.str 0 0,.str 0 0,.nilSlice,.int .i64 1,.int .i64 10,.str 1 47,.str 0 0,.int .i64 0,.int .i64 0,.int .i64 0,tb4,.str 0 0]] Z6 Zf Zg Zd]
def dw67:List MRow:=[dR tys k4 sz sz Z4 (.tup [.agg [.int .i64 0,.int .i64 0,.int .i64 0,.str 0 0,.nilSlice,.nilSlice,.int .i64 0,.int .i64 2,.int .i64 1,tb4,.str 0 0,.nilSlice,.int .i64 0,.int .i64 0],.int .i64 0]) [] [k0] Zc]
def dw68:List MRow:=[dR tys k4 sz sz (cl 1 10 (.str 1 47) (.str 0 0) 0 0 0 932 (.str 0 0)) Z7 [] [k0] Zc]
def dw69:List MRow:=[dR tys k4 sz s10 Z5 Z6 Zf Zh Ze]
def dw70:List MRow:=[dR tys k4 s10 s10 (cl 1 5 (.str 1 103) (.str 0 0) 0 0 0 (-421) (.str 0 0)) Z7 [] [k0] Zc]
def dw71:List MRow:=[dR tys k4 s6 s11 [.ptr k0 0,.agg [.int .i64 6,.str 0 0,.str 0 0,.str 0 0,.nilSlice,.int .i64 1,.int .i64 10,.str 1 102,.str 0 0,.int .i64 0,.int .i64 0,.int .i64 0,tb5,.str 0 0]] Z6 Zf Zg Z8]
def dw72:List MRow:=[dR tys k4 s11 s11 Z0 (.tup [.agg [.int .i64 0,.int .i64 0,.int .i64 0,.str 0 0,.nilSlice,.nilSlice,.int .i64 0,.int .i64 0,.int .i64 2,tb5,.str 0 0,.nilSlice,.int .i64 0,.int .i64 0],.int .i64 0]) [] [k0] Z9]
def dw73:List MRow:=[dR tys k4 s11 s11 (cl 1 10 (.str 1 102) (.str 0 0) 0 0 0 1005 (.str 0 0)) Z7 [] [k0] Z9]
def dw74:List MRow:=[dR tys k4 s11 s12 Z1 Z6 Zf Zh Za]
def dw75:List MRow:=[dR tys k4 s12 s13 [.ptr k0 0,.agg [.int .i64 6,.str 0 0,.str 0 0,.str 0 0,.nilSlice,.int .i64 1,.int .i64 10,.str 1 100,.str 0 0,.int .i64 0,.int .i64 0,.int .i64 0,tb5,.str 0 0]] Z6 Zf Zi Zb]
def dw76:List MRow:=[dR tys k4 s13 s13 Z2 (.tup [.agg [.int .i64 0,.int .i64 0,.int .i64 0,.str 0 0,.nilSlice,.nilSlice,.int .i64 0,.int .i64 0,.int .i64 1,tb5,.str 0 0,.nilSlice,.int .i64 0,.int .i64 0],.int .i64 0]) [] [k0] Zc]
def dw77:List MRow:=[dR tys k4 s13 s13 (cl 1 10 (.str 1 100) (.str 0 0) 0 0 0 1005 (.str 0 0)) Z7 [] [k0] Zc]
def dw78:List MRow:=[dR tys k4 s13 s14 Z3 Z6 Zf Zg Zd]
def dw79:List MRow:=[dR tys k4 s14 s15 [.ptr k0 0,.agg [.int .i64 6,.str 0 0,.str 0 0,.str 0 0,.nilSlice,.int .i64 1,.int .i64 10,.str 1 47,.str 0 0,.int .i64 0,.int .i64 0,.int .i64 0,tb5,.str 0 0]] Z6 [] [k0] Zc]
def dw80:List MRow:=[dR tys k4 s15 s15 Z4 (.tup [.agg [.int .i64 0,.int .i64 0,.int .i64 0,.str 0 0,.nilSlice,.nilSlice,.int .i64 0,.int .i64 2,.int .i64 1,tb5,.str 0 0,.nilSlice,.int .i64 0,.int .i64 0],.int .i64 0]) [] [k0] Zc]
def dw81:List MRow:=[dR tys k4 s15 s15 (cl 1 10 (.str 1 47) (.str 0 0) 0 0 0 1005 (.str 0 0)) Z7 [] [k0] Zc]
def dw82:List MRow:=[dR tys k4 s15 s16 Z5 Z6 Zf Zh Zb]
def dw83:List MRow:=[dR tys k4 s16 s16 (cl 1 5 (.str 1 103) (.str 0 0) 0 0 0 (-494) (.str 0 0)) Z7 [] [k0] Zc]
def dw84:List MRow:=[dR tys k4 s0 s17 [.ptr k0 0,.agg [.int .i64 3,.str 1 116,.str 0 0,.str 19 1318739858033904608473444756492996921336492646,.nilSlice,.int .i64 0,.int .i64 0,.str 0 0,.str 0 0,.int .i64 0,.int .i64 0,.int .i64 0,.int .i64 0,.str 0 0]] Z6 [k5,k6,kh] [kv,kw,kx,ky,kz,k10,k11,k12,k13,k14,k15,k16,k17,k18,k19,k1a,k1b,k1c,k1d,k1e,k0,k1,k2,k8,ka,kc,kg,km,kq,kr,kt,ku] [(kh,.dead)]]
def dw85:List MRow:=[dR tys k4 s17 s18 [.ptr k0 0,.agg [.int .i64 4,.str 1 116,.str 0 0,.str 17 20131413071242410322311321564098966089572,.nilSlice,.int .i64 0,.int .i64 0,.str 0 0,.str 0 0,.int .i64 0,.int .i64 0,.int .i64 0,.int .i64 0,.str 0 0]] (.tup [.agg [.int .i64 0,.int .i64 0,.int .i64 1,.str 0 0,.nilSlice,.nilSlice,.int .i64 0,.int .i64 0,.int .i64 0,.int .i64 0,.str 0 0,.nilSlice,.int .i64 0,.int .i64 0],.int .i64 0]) [k5,k6,kh,k19,k1c,k1d,k1e] [k1g,k1h,k1l,k1m,k1n,k1p,k1q,k1s,k0,k1,k2,k8,ka,kg,km,kr,ku,ky,k12,k1b] [(kh,.dead),(k19,.dead),(k1c,.dead)]]
def dw86:List MRow:=[dR tys k4 s18 s19 [.ptr k0 0,.agg [.int .i64 5,.str 0 0,.str 0 0,.str 0 0,.nilSlice,.int .i64 1,.int .i64 0,.str 0 0,.str 0 0,.int .i64 0,.int .i64 0,.int .i64 0,.int .i64 0,.str 0 0]] Z6 [k5,k6,kh,k19,k1c,k1e] [k1v,k1w,k1x,k1y,k0,k1,k8,ka,kg,km,kr,ku,k14] [(kh,.dead),(k19,.dead),(k1q,.dead),(k1c,.dead)]]
def drows:List MRow:=dw0 ++ (dw1 ++ (dw2 ++ (dw3 ++ (dw4 ++ (dw5 ++ (dw6 ++ (dw7 ++ (dw8 ++ (dw9 ++ (dw10 ++ (dw11 ++ (dw12 ++ (dw13 ++ (dw14 ++ (dw15 ++ (dw16 ++ (dw17 ++ (dw18 ++ (dw19 ++ (dw20 ++ (dw21 ++ (dw22 ++ (dw23 ++ (dw24 ++ (dw25 ++ (dw26 ++ (dw27 ++ (dw28 ++ (dw29 ++ (dw30 ++ (dw31 ++ (dw32 ++ (dw33 ++ (dw34 ++ (dw35 ++ (dw36 ++ (dw37 ++ (dw38 ++ (dw39 ++ (dw40 ++ (dw41 ++ (dw42 ++ (dw43 ++ (dw44 ++ (dw45 ++ (dw46 ++ (dw47 ++ (dw48 ++ (dw49 ++ (dw50 ++ (dw51 ++ (dw52 ++ (dw53 ++ (dw54 ++ (dw55 ++ (dw56 ++ (dw57 ++ (dw58 ++ (dw59 ++ (dw60 ++ (dw61 ++ (dw62 ++ (dw63 ++ (dw64 ++ (dw65 ++ (dw66 ++ (dw67 ++ (dw68 ++ (dw69 ++ (dw70 ++ (dw71 ++ (dw72 ++ (dw73 ++ (dw74 ++ (dw75 ++ (dw76 ++ (dw77 ++ (dw78 ++ (dw79 ++ (dw80 ++ (dw81 ++ (dw82 ++ (dw83 ++ (dw84 ++ (dw85 ++ (dw86))))))))))))))))))))))))))))))))))))))))))))))))))))))))))))))))))))))))))))))))))))))
def brows:List MRow:=[]
def yr0 : ORow := ⟨[.ptr ⟨.d0, .d0, .d0, .d0, .d1⟩ 0], [(⟨.d0, .d0, .d0, .d0, .d1⟩, .fixed 273 [.int .i64 1, .rng 0 1024, .ustr 5, .junk, .junk, .junk, .junk, .nilSlice, .junk, .rng 0 4096, .rng 0 4096, .junk])], .ustr 63⟩
def yr1 : ORow := ⟨[.ptr ⟨.d0, .d0, .d0, .d0, .d1⟩ 0], [(⟨.d0, .d0, .d0, .d0, .d1⟩, .fixed 273 [.int .i64 1, .rng 0 1024, .ustr 6, .junk, .junk, .junk, .junk, .slice ⟨.d1, .d0, .d0, .d0, .d1⟩ 0 1 (.more 1), .junk, .rng 0 4096, .rng 0 4096, .junk]), (⟨.d1, .d0, .d0, .d0, .d1⟩, .fixed 3 [.rng 0 4096])], .ustr 63⟩
def yr2 : ORow := ⟨[.ptr ⟨.d0, .d0, .d0, .d0, .d1⟩ 0], [(⟨.d0, .d0, .d0, .d0, .d1⟩, .fixed 273 [.int .i64 2, .rng 0 1024, .ustr 3, .junk, .junk, .junk, .junk, .junk, .nilSlice, .rng 0 4096, .rng 0 4096, .junk])], .ustr 63⟩
def yr3 : ORow := ⟨[.ptr ⟨.d0, .d0, .d0, .d0, .d1⟩ 0], [(⟨.d0, .d0, .d0, .d0, .d1⟩, .fixed 273 [.int .i64 2, .rng 0 1024, .ustr 3, .junk, .junk, .junk, .junk, .junk, .slice ⟨.d1, .d0, .d0, .d0, .d1⟩ 0 1 (.is 1), .rng 0 4096, .rng 0 4096, .junk]), (⟨.d1, .d0, .d0, .d0, .d1⟩, .fixed 3 [.rng 0 4096])], .ustr 63⟩
def yr4 : ORow := ⟨[.ptr ⟨.d0, .d0, .d0, .d0, .d1⟩ 0], [(⟨.d0, .d0, .d0, .d0, .d1⟩, .fixed 273 [.int .i64 1, .rng 0 1024, .ustr 6, .junk, .junk, .junk, .junk, .slice ⟨.d1, .d0, .d0, .d0, .d1⟩ 0 0 (.more 1), .junk, .rng 0 4096, .rng 0 4096, .junk]), (⟨.d1, .d0, .d0, .d0, .d1⟩, .fixed 3 [.rng 0 4096])], .ustr 63⟩
def yr5 : ORow := ⟨[.ptr ⟨.d0, .d0, .d0, .d0, .d1⟩ 0], [(⟨.d0, .d0, .d0, .d0, .d1⟩, .fixed 273 [.int .i64 2, .rng 0 1024, .ustr 12, .junk, .junk, .junk, .junk, .junk, .slice ⟨.d1, .d0, .d0, .d0, .d1⟩ 0 1 (.is 1), .rng 0 4096, .rng 0 4096, .junk]), (⟨.d1, .d0, .d0, .d0, .d1⟩, .fixed 3 [.rng 0 4096])], .ustr 63⟩
def yr6 : ORow := ⟨[.ptr ⟨.d0, .d0, .d0, .d0, .d1⟩ 0], [(⟨.d0, .d0, .d0, .d0, .d1⟩, .fixed 273 [.int .i64 1, .rng 0 1024, .ustr 5, .junk, .junk, .junk, .junk, .slice ⟨.d1, .d0, .d0, .d0, .d1⟩ 0 1 (.more 1), .junk, .rng 0 4096, .rng 0 4096, .junk]), (⟨.d1, .d0, .d0, .d0, .d1⟩, .fixed 3 [.rng 0 4096])], .ustr 63⟩
def yr7 : ORow := ⟨[.ptr ⟨.d0, .d0, .d0, .d0, .d1⟩ 0], [(⟨.d0, .d0, .d0, .d0, .d1⟩, .fixed 273 [.int .i64 1, .rng 0 1024, .ustr 5, .junk, .junk, .junk, .junk, .slice ⟨.d1, .d0, .d0, .d0, .d1⟩ 0 0 (.more 1), .junk, .rng 0 4096, .rng 0 4096, .junk]), (⟨.d1, .d0, .d0, .d0, .d1⟩, .fixed 3 [.rng 0 4096])], .ustr 63⟩
def yr8 : ORow := ⟨[.ptr ⟨.d0, .d0, .d0, .d0, .d1⟩ 0], [(⟨.d0, .d0, .d0, .d0, .d1⟩, .fixed 273 [.int .i64 2, .rng 0 1024, .ustr 5, .junk, .junk, .junk, .junk, .junk, .slice ⟨.d1, .d0, .d0, .d0, .d1⟩ 0 1 (.is 1), .rng 0 4096, .rng 0 4096, .junk]), (⟨.d1, .d0, .d0, .d0, .d1⟩, .fixed 3 [.rng 0 4096])], .ustr 63⟩
def yr9 : ORow := ⟨[.ptr ⟨.d0, .d0, .d0, .d0, .d1⟩ 0], [(⟨.d0, .d0, .d0, .d0, .d1⟩, .fixed 273 [.int .i64 2, .rng 0 1024, .ustr 6, .junk, .junk, .junk, .junk, .junk, .nilSlice, .rng 0 4096, .rng 0 4096, .junk])], .ustr 63⟩
def yr10 : ORow := ⟨[.ptr ⟨.d0, .d0, .d0, .d0, .d1⟩ 0], [(⟨.d0, .d0, .d0, .d0, .d1⟩, .fixed 273 [.int .i64 2, .rng 0 1024, .ustr 6, .junk, .junk, .junk, .junk, .junk, .slice ⟨.d1, .d0, .d0, .d0, .d1⟩ 0 1 (.is 1), .rng 0 4096, .rng 0 4096, .junk]), (⟨.d1, .d0, .d0, .d0, .d1⟩, .fixed 3 [.rng 0 4096])], .ustr 63⟩
def yr11 : ORow := ⟨[.ptr ⟨.d0, .d0, .d0, .d0, .d1⟩ 0], [(⟨.d0, .d0, .d0, .d0, .d1⟩, .fixed 273 [.int .i64 2, .rng 0 1024, .ustr 7, .junk, .junk, .junk, .junk, .junk, .nilSlice, .rng 0 4096, .rng 0 4096, .junk])], .ustr 63⟩
def yr12 : ORow := ⟨[.ptr ⟨.d0, .d0, .d0, .d0, .d1⟩ 0], [(⟨.d0, .d0, .d0, .d0, .d1⟩, .fixed 273 [.int .i64 2, .rng 0 1024, .ustr 7, .junk, .junk, .junk, .junk, .junk, .slice ⟨.d1, .d0, .d0, .d0, .d1⟩ 0 1 (.is 1), .rng 0 4096, .rng 0 4096, .junk]), (⟨.d1, .d0, .d0, .d0, .d1⟩, .fixed 3 [.rng 0 4096])], .ustr 63⟩
def yrows : List ORow := [yr0, yr1, yr2, yr3, yr4, yr5, yr6, yr7, yr8, yr9, yr10, yr11, yr12]
end
end Go.Proofs.YtdkbfimccddikaaGreatDoor
