/- Part 4. -/
import Derived.KernelRfl
import Derived.Test.YtclejblcnfaeaaaGreatRows
import Derived.Test.YtclejblcnfaeaaaGreatPac
set_option linter.all false
section
namespace Go.Proofs.YtclejblcnfaeaaaGreat
open Go Go.Pal Go.Proofs.Tryz
abbrev dsc{k:Nat}{d:TypeDesc}(_h:Tryz.prog.underlying k=some d):TypeDesc:=d
def tree:Tr (TypeDesc×Nat×Nat×Value):=.node (.node (.node (.node (.node (.node (.node (.node (.node .nil 0 ((.tuple #[]),1,0,.tuple #[]) .nil) 1 (dsc underlying1,1,8,.nilFunc) .nil) 2 ((.int .i64),1,8,.int .i64 0) (.node .nil 3 ((.int .i64),1,8,.int .i64 0) .nil)) 4 (.bool,1,1,.bool false) (.node (.node (.node .nil 5 ((.int .u8),1,1,.int .u8 0) .nil) 6 ((.int .u8),1,1,.int .u8 0) .nil) 7 (dsc underlying7,4,24,.agg #[.int .i64 0,.int .i64 0,.bool false,.int .u8 0]) (.node .nil 8 (dsc underlying8,4,24,.agg #[.int .i64 0,.int .i64 0,.bool false,.int .u8 0]) .nil))) 9 (.string,1,16,.string ByteArray.empty) (.node (.node (.node (.node .nil 10 (.string,1,16,.string ByteArray.empty) .nil) 11 (.string,1,16,.string ByteArray.empty) .nil) 12 ((.int .u64),1,8,.int .u64 0) (.node .nil 13 (dsc underlying13,2,24,.agg #[.string ByteArray.empty,.int .u64 0]) .nil)) 14 (dsc underlying14,2,24,.agg #[.string ByteArray.empty,.int .u64 0]) (.node (.node .nil 15 ((.pointer 290),1,8,.pointer none) .nil) 16 ((.pointer 293),1,8,.pointer none) (.node .nil 17 ((.pointer 300),1,8,.pointer none) .nil)))) 18 (dsc underlying18,1,8,.agg #[.pointer none]) (.node (.node (.node (.node (.node .nil 19 (dsc underlying19,1,8,.agg #[.pointer none]) .nil) 20 ((.interface #[]),1,16,.nilIface) .nil) 21 ((.int .i32),1,4,.int .i32 0) (.node .nil 22 ((.slice 3),1,24,.slice none 0 0) .nil)) 23 (dsc underlying23,2,32,.agg #[.int .i64 0,.slice none 0 0]) (.node (.node (.node .nil 24 (dsc underlying24,2,32,.agg #[.int .i64 0,.slice none 0 0]) .nil) 25 (dsc underlying25,4,32,.agg #[.int .i64 0,.int .i64 0,.int .i64 0,.int .i64 0]) .nil) 26 (dsc underlying26,4,32,.agg #[.int .i64 0,.int .i64 0,.int .i64 0,.int .i64 0]) (.node .nil 27 (dsc underlying27,1,8,.nilFunc) .nil))) 28 ((.pointer 101),1,8,.pointer none) (.node (.node (.node (.node .nil 29 (dsc underlying29,1,8,.nilFunc) .nil) 30 (dsc underlying30,1,8,.nilFunc) .nil) 31 (dsc underlying31,1,8,.nilFunc) (.node .nil 32 ((.slice 24),1,24,.slice none 0 0) .nil)) 33 (dsc underlying33,1,8,.nilFunc) (.node (.node .nil 34 ((.int .i64),1,8,.int .i64 0) .nil) 35 (dsc underlying35,1,8,.nilFunc) (.node .nil 36 (dsc underlying36,1,8,.nilFunc) .nil))))) 37 (dsc underlying37,1,8,.nilFunc) (.node (.node (.node (.node (.node (.node .nil 38 (dsc underlying38,1,8,.nilFunc) .nil) 39 ((.slice 9),1,24,.slice none 0 0) .nil) 40 (dsc underlying40,1,0,.tuple #[.agg #[.int .i64 0,.int .i64 0,.int .i64 0,.int .i64 0],.int .i64 0]) (.node .nil 41 (dsc underlying41,1,8,.nilFunc) .nil)) 42 ((.slice 26),1,24,.slice none 0 0) (.node (.node (.node .nil 43 (dsc underlying43,1,0,.tuple #[.string ByteArray.empty,.int .i64 0]) .nil) 44 (dsc underlying44,1,8,.nilFunc) .nil) 45 (dsc underlying45,1,8,.nilFunc) (.node .nil 46 (dsc underlying46,1,8,.nilFunc) .nil))) 47 ((.slice 42),1,24,.slice none 0 0) (.node (.node (.node (.node .nil 48 (dsc underlying48,1,0,.tuple #[.slice none 0 0,.slice none 0 0,.slice none 0 0]) .nil) 49 (dsc underlying49,1,8,.nilFunc) .nil) 50 (dsc underlying50,1,8,.nilFunc) (.node .nil 51 (dsc underlying51,1,0,.tuple #[.slice none 0 0,.slice none 0 0,.int .i64 0]) .nil)) 52 (dsc underlying52,1,8,.nilFunc) (.node (.node .nil 53 (dsc underlying53,1,0,.tuple #[.int .i64 0,.int .i64 0,.int .i64 0]) .nil) 54 (dsc underlying54,1,8,.nilFunc) (.node .nil 55 (dsc underlying55,1,8,.nilFunc) .nil)))) 56 (dsc underlying56,1,8,.nilFunc) (.node (.node (.node (.node (.node .nil 57 (dsc underlying57,1,8,.nilFunc) .nil) 58 (dsc underlying58,1,0,.tuple #[.slice none 0 0,.slice none 0 0,.int .i64 0]) .nil) 59 (dsc underlying59,1,8,.nilFunc) (.node .nil 60 (dsc underlying60,1,8,.nilFunc) .nil)) 61 (dsc underlying61,1,0,.tuple #[.bool false,.slice none 0 0,.bool false]) (.node (.node (.node .nil 62 (dsc underlying62,1,8,.nilFunc) .nil) 63 (dsc underlying63,1,8,.nilFunc) .nil) 64 (dsc underlying64,1,0,.tuple #[.slice none 0 0,.slice none 0 0]) (.node .nil 65 (dsc underlying65,1,8,.nilFunc) .nil))) 66 ((.slice 22),1,24,.slice none 0 0) (.node (.node (.node (.node .nil 67 (dsc underlying67,1,8,.nilFunc) .nil) 68 (dsc underlying68,1,8,.nilFunc) .nil) 69 (dsc underlying69,1,0,.tuple #[.slice none 0 0,.slice none 0 0,.int .i64 0]) (.node .nil 70 (dsc underlying70,1,8,.nilFunc) .nil)) 71 (dsc underlying71,1,0,.tuple #[.slice none 0 0,.int .i64 0]) (.node (.node .nil 72 (dsc underlying72,1,8,.nilFunc) .nil) 73 (dsc underlying73,1,8,.nilFunc) (.node .nil 74 ((.slice 4),1,24,.slice none 0 0) .nil)))))) 75 (dsc underlying75,1,8,.nilFunc) (.node (.node (.node (.node (.node (.node (.node .nil 76 (dsc underlying76,1,8,.nilFunc) .nil) 77 (dsc underlying77,1,0,.tuple #[.slice none 0 0,.int .i64 0]) .nil) 78 (dsc underlying78,1,8,.nilFunc) (.node .nil 79 (dsc underlying79,1,8,.nilFunc) .nil)) 80 (dsc underlying80,1,8,.nilFunc) (.node (.node (.node .nil 81 (dsc underlying81,1,8,.nilFunc) .nil) 82 (dsc underlying82,1,8,.nilFunc) .nil) 83 (dsc underlying83,1,0,.tuple #[.int .i64 0,.int .i64 0]) (.node .nil 84 (dsc underlying84,1,8,.nilFunc) .nil))) 85 (dsc underlying85,1,8,.nilFunc) (.node (.node (.node (.node .nil 86 (dsc underlying86,1,8,.nilFunc) .nil) 87 ((.slice 91),1,24,.slice none 0 0) .nil) 88 (dsc underlying88,1,0,.tuple #[.slice none 0 0,.slice none 0 0,.bool false]) (.node .nil 89 (dsc underlying89,1,8,.nilFunc) .nil)) 90 (dsc underlying90,2,48,.agg #[.slice none 0 0,.slice none 0 0]) (.node (.node .nil 91 (dsc underlying91,2,48,.agg #[.slice none 0 0,.slice none 0 0]) .nil) 92 (dsc underlying92,1,8,.nilFunc) (.node .nil 93 (dsc underlying93,1,8,.nilFunc) .nil)))) 94 (dsc underlying94,1,8,.nilFunc) (.node (.node (.node (.node (.node .nil 95 (dsc underlying95,1,8,.nilFunc) .nil) 96 (dsc underlying96,1,8,.nilFunc) .nil) 97 (dsc underlying97,1,8,.nilFunc) (.node .nil 98 (dsc underlying98,1,8,.nilFunc) .nil)) 99 ((.int .u64),1,8,.int .u64 0) (.node (.node (.node .nil 100 (dsc underlying100,3,40,.agg #[.slice none 0 0,.int .i64 0,.int .u64 0]) .nil) 101 (dsc underlying101,3,40,.agg #[.slice none 0 0,.int .i64 0,.int .u64 0]) .nil) 102 (dsc underlying102,1,8,.nilFunc) (.node .nil 103 (dsc underlying103,1,8,.nilFunc) .nil))) 104 (dsc underlying104,1,8,.nilFunc) (.node (.node (.node (.node .nil 105 (dsc underlying105,1,8,.nilFunc) .nil) 106 ((.slice 5),1,24,.slice none 0 0) .nil) 107 (dsc underlying107,1,8,.nilFunc) (.node .nil 108 ((.pointer 26),1,8,.pointer none) .nil)) 109 ((.pointer 34),1,8,.pointer none) (.node (.node .nil 110 ((.pointer 114),1,8,.pointer none) .nil) 111 ((.int .i64),1,8,.int .i64 0) (.node .nil 112 (dsc underlying112,1,8,.nilFunc) .nil))))) 113 (dsc underlying113,6,48,.agg #[.int .i64 0,.int .i64 0,.int .i64 0,.int .i64 0,.int .i64 0,.nilFunc]) (.node (.node (.node (.node (.node (.node .nil 114 (dsc underlying114,6,48,.agg #[.int .i64 0,.int .i64 0,.int .i64 0,.int .i64 0,.int .i64 0,.nilFunc]) .nil) 115 (dsc underlying115,1,8,.agg #[.int .i64 0]) .nil) 116 (dsc underlying116,1,8,.agg #[.int .i64 0]) (.node .nil 117 (dsc underlying117,1,8,.nilFunc) .nil)) 118 ((.slice 126),1,24,.slice none 0 0) (.node (.node (.node .nil 119 (dsc underlying119,2,32,.agg #[.int .i64 0,.slice none 0 0]) .nil) 120 (dsc underlying120,2,32,.agg #[.int .i64 0,.slice none 0 0]) .nil) 121 (dsc underlying121,1,0,.tuple #[.agg #[.int .i64 0,.slice none 0 0],.int .i64 0]) (.node .nil 122 (dsc underlying122,1,8,.nilFunc) .nil))) 123 ((.array 3 3),3,24,.agg #[.int .i64 0,.int .i64 0,.int .i64 0]) (.node (.node (.node (.node .nil 124 ((.array 3 3),3,24,.agg #[.int .i64 0,.int .i64 0,.int .i64 0]) .nil) 125 (dsc underlying125,5,72,.agg #[.slice none 0 0,.slice none 0 0,.int .i64 0,.int .i64 0,.int .i64 0]) .nil) 126 (dsc underlying126,5,72,.agg #[.slice none 0 0,.slice none 0 0,.int .i64 0,.int .i64 0,.int .i64 0]) (.node .nil 127 ((.slice 131),1,24,.slice none 0 0) .nil)) 128 (dsc underlying128,1,0,.tuple #[.slice none 0 0,.int .i64 0]) (.node (.node .nil 129 (dsc underlying129,1,8,.nilFunc) .nil) 130 (dsc underlying130,3,72,.agg #[.slice none 0 0,.slice none 0 0,.slice none 0 0]) (.node .nil 131 (dsc underlying131,3,72,.agg #[.slice none 0 0,.slice none 0 0,.slice none 0 0]) .nil)))) 132 ((.pointer 160),1,8,.pointer none) (.node (.node (.node (.node (.node .nil 133 (dsc underlying133,3,56,.agg #[.pointer none,.slice none 0 0,.slice none 0 0]) .nil) 134 (dsc underlying134,3,56,.agg #[.pointer none,.slice none 0 0,.slice none 0 0]) .nil) 135 (dsc underlying135,1,0,.tuple #[.agg #[.pointer none,.slice none 0 0,.slice none 0 0],.int .i64 0]) (.node .nil 136 (dsc underlying136,1,8,.nilFunc) .nil)) 137 ((.slice 142),1,24,.slice none 0 0) (.node (.node .nil 138 (dsc underlying138,2,32,.agg #[.int .i64 0,.slice none 0 0]) .nil) 139 (dsc underlying139,2,32,.agg #[.int .i64 0,.slice none 0 0]) (.node .nil 140 (dsc underlying140,1,8,.nilFunc) .nil))) 141 (dsc underlying141,1,8,.nilFunc) (.node (.node (.node (.node .nil 142 ((.int .u8),1,1,.int .u8 0) .nil) 143 (dsc underlying143,1,8,.nilFunc) .nil) 144 (dsc underlying144,1,0,.tuple #[.slice none 0 0,.slice none 0 0]) (.node .nil 145 (dsc underlying145,1,8,.nilFunc) .nil)) 146 (dsc underlying146,1,8,.nilFunc) (.node (.node .nil 147 (dsc underlying147,1,8,.nilFunc) .nil) 148 (dsc underlying148,1,8,.nilFunc) (.node .nil 149 (dsc underlying149,1,8,.nilFunc) .nil))))))) 150 (dsc underlying150,1,8,.nilFunc) (.node (.node (.node (.node (.node (.node (.node (.node .nil 151 (dsc underlying151,1,8,.nilFunc) .nil) 152 (dsc underlying152,1,8,.nilFunc) .nil) 153 (dsc underlying153,1,8,.nilFunc) (.node .nil 154 (dsc underlying154,1,8,.nilFunc) .nil)) 155 (dsc underlying155,1,8,.nilFunc) (.node (.node (.node .nil 156 (dsc underlying156,1,16,.nilIface) .nil) 157 (dsc underlying157,1,16,.nilIface) .nil) 158 (dsc underlying158,1,0,.tuple #[.string ByteArray.empty,.nilIface]) (.node .nil 159 (dsc underlying159,5,56,.agg #[.int .i64 0,.slice none 0 0,.int .i64 0,.int .i64 0,.int .i64 0]) .nil))) 160 (dsc underlying160,5,56,.agg #[.int .i64 0,.slice none 0 0,.int .i64 0,.int .i64 0,.int .i64 0]) (.node (.node (.node (.node .nil 161 (dsc underlying161,1,8,.nilFunc) .nil) 162 (dsc underlying162,1,16,.nilIface) .nil) 163 (dsc underlying163,1,16,.nilIface) (.node .nil 164 (dsc underlying164,1,8,.nilFunc) .nil)) 165 (dsc underlying165,1,8,.nilFunc) (.node (.node .nil 166 ((.array 4 4),4,4,.agg #[.bool false,.bool false,.bool false,.bool false]) .nil) 167 (dsc underlying167,3,24,.agg #[.int .i64 0,.int .i64 0,.int .i64 0]) (.node .nil 168 (dsc underlying168,3,24,.agg #[.int .i64 0,.int .i64 0,.int .i64 0]) .nil)))) 169 (dsc underlying169,1,0,.tuple #[.agg #[.int .i64 0,.int .i64 0,.int .i64 0],.bool false]) (.node (.node (.node (.node (.node .nil 170 (dsc underlying170,1,0,.tuple #[.string ByteArray.empty,.string ByteArray.empty,.bool false]) .nil) 171 (dsc underlying171,1,8,.nilFunc) .nil) 172 ((.pointer 174),1,8,.pointer none) (.node .nil 173 (dsc underlying173,2,32,.agg #[.pointer none,.slice none 0 0]) .nil)) 174 (dsc underlying174,2,32,.agg #[.pointer none,.slice none 0 0]) (.node (.node (.node .nil 175 (dsc underlying175,1,0,.tuple #[.int .i64 0,.nilIface]) .nil) 176 (dsc underlying176,1,8,.nilFunc) .nil) 177 (dsc underlying177,1,8,.nilFunc) (.node .nil 178 ((.map 124 4),1,8,.map none) .nil))) 179 (dsc underlying179,1,8,.nilFunc) (.node (.node (.node (.node .nil 180 (dsc underlying180,1,8,.nilFunc) .nil) 181 (dsc underlying181,1,8,.nilFunc) .nil) 182 (dsc underlying182,1,8,.nilFunc) (.node .nil 183 (dsc underlying183,1,0,.tuple #[.agg #[.int .i64 0],.bool false]) .nil)) 184 (dsc underlying184,1,8,.nilFunc) (.node (.node .nil 185 (dsc underlying185,1,8,.nilFunc) .nil) 186 (dsc underlying186,1,8,.nilFunc) (.node .nil 187 (dsc underlying187,1,8,.nilFunc) .nil))))) 188 (dsc underlying188,1,8,.nilFunc) (.node (.node (.node (.node (.node (.node .nil 189 (dsc underlying189,1,8,.nilFunc) .nil) 190 ((.int .u64),1,8,.int .u64 0) .nil) 191 (dsc underlying191,1,8,.nilFunc) (.node .nil 192 (dsc underlying192,1,8,.nilFunc) .nil)) 193 (dsc underlying193,2,16,.agg #[.int .i64 0,.int .i64 0]) (.node (.node (.node .nil 194 (dsc underlying194,2,16,.agg #[.int .i64 0,.int .i64 0]) .nil) 195 (dsc underlying195,1,0,.tuple #[.agg #[.int .i64 0,.int .i64 0,.int .i64 0,.int .i64 0],.agg #[.int .i64 0,.int .i64 0],.bool false]) .nil) 196 (dsc underlying196,1,8,.nilFunc) (.node .nil 197 (dsc underlying197,1,8,.nilFunc) .nil))) 198 (dsc underlying198,1,8,.nilFunc) (.node (.node (.node (.node .nil 199 (dsc underlying199,1,8,.nilFunc) .nil) 200 (dsc underlying200,1,8,.nilFunc) .nil) 201 ((.pointer 124),1,8,.pointer none) (.node .nil 202 (dsc underlying202,3,24,.agg #[.int .i64 0,.int .i64 0,.int .i64 0]) .nil)) 203 (dsc underlying203,3,24,.agg #[.int .i64 0,.int .i64 0,.int .i64 0]) (.node (.node .nil 204 (dsc underlying204,3,24,.agg #[.int .i64 0,.int .i64 0,.int .i64 0]) .nil) 205 (dsc underlying205,3,24,.agg #[.int .i64 0,.int .i64 0,.int .i64 0]) (.node .nil 206 (dsc underlying206,1,8,.agg #[.int .i64 0]) .nil)))) 207 (dsc underlying207,1,8,.agg #[.int .i64 0]) (.node (.node (.node (.node (.node .nil 208 ((.pointer 5),1,8,.pointer none) .nil) 209 (dsc underlying209,1,8,.nilFunc) .nil) 210 (dsc underlying210,1,8,.nilFunc) (.node .nil 211 (dsc underlying211,1,8,.nilFunc) .nil)) 212 (dsc underlying212,1,8,.chan none) (.node (.node (.node .nil 213 ((.struct #[]),0,0,.agg #[]) .nil) 214 ((.struct #[]),0,0,.agg #[]) .nil) 215 ((.struct #[]),0,0,.agg #[]) (.node .nil 216 ((.struct #[]),0,0,.agg #[]) .nil))) 217 (dsc underlying217,1,8,.agg #[.int .u64 0]) (.node (.node (.node (.node .nil 218 (dsc underlying218,1,8,.agg #[.int .u64 0]) .nil) 219 ((.int .u32),1,4,.int .u32 0) .nil) 220 (dsc underlying220,2,16,.agg #[.int .u64 0,.int .u32 0]) (.node .nil 221 (dsc underlying221,2,16,.agg #[.int .u64 0,.int .u32 0]) .nil)) 222 (dsc underlying222,1,8,.nilFunc) (.node (.node .nil 223 (dsc underlying223,1,0,.tuple #[.agg #[.slice none 0 0,.slice none 0 0,.int .i64 0,.int .i64 0,.int .i64 0],.bool false]) .nil) 224 (dsc underlying224,1,8,.nilFunc) (.node .nil 225 (dsc underlying225,1,8,.nilFunc) .nil)))))) 226 (dsc underlying226,1,8,.nilFunc) (.node (.node (.node (.node (.node (.node (.node .nil 227 ((.int .i64),1,8,.int .i64 0) .nil) 228 (dsc underlying228,1,0,.tuple #[.int .i64 0,.int .i64 0]) .nil) 229 (dsc underlying229,1,8,.nilFunc) (.node .nil 230 (dsc underlying230,1,8,.nilFunc) .nil)) 231 (dsc underlying231,1,8,.nilFunc) (.node (.node (.node .nil 232 ((.tuple #[3,4]),1,0,.tuple #[.int .i64 0,.bool false]) .nil) 233 (dsc underlying233,1,8,.nilFunc) .nil) 234 (dsc underlying234,1,8,.nilFunc) (.node .nil 235 (dsc underlying235,1,8,.nilFunc) .nil))) 236 (dsc underlying236,1,8,.nilFunc) (.node (.node (.node (.node .nil 237 (dsc underlying237,1,8,.nilFunc) .nil) 238 (.unsafePointer,1,8,.pointer none) .nil) 239 (dsc underlying239,1,8,.nilFunc) (.node .nil 240 (dsc underlying240,1,8,.nilFunc) .nil)) 241 (dsc underlying241,1,8,.nilFunc) (.node (.node .nil 242 (dsc underlying242,1,8,.nilFunc) .nil) 243 (dsc underlying243,1,8,.nilFunc) (.node .nil 244 (dsc underlying244,1,8,.nilFunc) .nil)))) 245 (dsc underlying245,1,8,.nilFunc) (.node (.node (.node (.node (.node .nil 246 ((.pointer 120),1,8,.pointer none) .nil) 247 ((.pointer 221),1,8,.pointer none) .nil) 248 (dsc underlying248,1,8,.nilFunc) (.node .nil 249 ((.int .i64),1,8,.int .i64 0) .nil)) 250 (dsc underlying250,1,8,.nilFunc) (.node (.node (.node .nil 251 (dsc underlying251,1,8,.nilFunc) .nil) 252 (dsc underlying252,1,8,.nilFunc) .nil) 253 ((.pointer 219),1,8,.pointer none) (.node .nil 254 (dsc underlying254,1,8,.nilFunc) .nil))) 255 (dsc underlying255,1,8,.nilFunc) (.node (.node (.node (.node .nil 256 (dsc underlying256,1,8,.nilFunc) .nil) 257 (dsc underlying257,1,8,.nilFunc) .nil) 258 (dsc underlying258,1,8,.nilFunc) (.node .nil 259 (dsc underlying259,1,8,.nilFunc) .nil)) 260 (dsc underlying260,1,8,.nilFunc) (.node (.node .nil 261 ((.int .u64),1,8,.int .u64 0) .nil) 262 (dsc underlying262,1,8,.nilFunc) (.node .nil 263 (dsc underlying263,1,8,.nilFunc) .nil))))) 264 ((.pointer 3),1,8,.pointer none) (.node (.node (.node (.node (.node (.node .nil 265 (dsc underlying265,1,8,.nilFunc) .nil) 266 (dsc underlying266,1,8,.nilFunc) .nil) 267 (dsc underlying267,1,8,.nilFunc) (.node .nil 268 (dsc underlying268,1,8,.nilFunc) .nil)) 269 ((.pointer 218),1,8,.pointer none) (.node (.node (.node .nil 270 (dsc underlying270,1,8,.nilFunc) .nil) 271 ((.pointer 99),1,8,.pointer none) .nil) 272 (dsc underlying272,1,8,.nilFunc) (.node .nil 273 (dsc underlying273,1,8,.nilFunc) .nil))) 274 (dsc underlying274,1,8,.nilFunc) (.node (.node (.node (.node .nil 275 (dsc underlying275,1,8,.nilFunc) .nil) 276 (dsc underlying276,1,8,.nilFunc) .nil) 277 (dsc underlying277,1,8,.nilFunc) (.node .nil 278 (dsc underlying278,1,8,.nilFunc) .nil)) 279 (dsc underlying279,1,8,.nilFunc) (.node (.node .nil 280 ((.pointer 261),1,8,.pointer none) .nil) 281 ((.tuple #[3,3]),1,0,.tuple #[.int .i64 0,.int .i64 0]) (.node .nil 282 (dsc underlying282,1,8,.nilFunc) .nil)))) 283 (dsc underlying283,1,0,.tuple #[.int .u32 0,.int .u32 0]) (.node (.node (.node (.node (.node .nil 284 (dsc underlying284,1,8,.nilFunc) .nil) 285 (dsc underlying285,1,8,.nilFunc) .nil) 286 (dsc underlying286,1,8,.nilFunc) (.node .nil 287 (dsc underlying287,1,8,.nilFunc) .nil)) 288 (dsc underlying288,1,8,.nilFunc) (.node (.node .nil 289 (dsc underlying289,4,40,.agg #[.pointer none,.pointer none,.pointer none,.string ByteArray.empty]) .nil) 290 (dsc underlying290,4,40,.agg #[.pointer none,.pointer none,.pointer none,.string ByteArray.empty]) (.node .nil 291 ((.array 0 16),0,0,.agg #[]) .nil))) 292 (dsc underlying292,0,0,.agg #[]) (.node (.node (.node (.node .nil 293 (dsc underlying293,0,0,.agg #[]) .nil) 294 ((.int .u8),1,1,.int .u8 0) .nil) 295 ((.int .u8),1,1,.int .u8 0) (.node .nil 296 (dsc underlying296,1,8,.nilFunc) .nil)) 297 ((.int .i32),1,4,.int .i32 0) (.node (.node .nil 298 ((.int .i32),1,4,.int .i32 0) .nil) 299 (dsc underlying299,11,48,.agg #[.int .u64 0,.int .u64 0,.int .u32 0,.int .u8 0,.int .u8 0,.int .u8 0,.int .u8 0,.nilFunc,.pointer none,.int .i32 0,.int .i32 0]) (.node .nil 300 (dsc underlying300,11,48,.agg #[.int .u64 0,.int .u64 0,.int .u32 0,.int .u8 0,.int .u8 0,.int .u8 0,.int .u8 0,.nilFunc,.pointer none,.int .i32 0,.int .i32 0]) .nil)))))))
set_option maxRecDepth 100000 in
theorem tree_ok:tree.All (fun k x=>Tryz.prog.underlying k=some x.1∧(Tryz.prog.info? k).map (fun i=>(i.size,i.bytes,i.zero))=some (x.2.1,x.2.2.1,some x.2.2.2)):=
  ⟨⟨⟨⟨⟨⟨⟨⟨⟨trivial,⟨underlying0,kR⟩,trivial⟩,
 ⟨underlying1,kR⟩,trivial⟩,
 ⟨underlying2,kR⟩,
 ⟨trivial,⟨underlying3,kR⟩,trivial⟩⟩,
 ⟨underlying4,kR⟩,
 ⟨⟨⟨trivial,⟨underlying5,kR⟩,trivial⟩,
 ⟨underlying6,kR⟩,trivial⟩,
 ⟨underlying7,kR⟩,
 ⟨trivial,⟨underlying8,kR⟩,trivial⟩⟩⟩,
 ⟨underlying9,kR⟩,
 ⟨⟨⟨⟨trivial,⟨underlying10,kR⟩,trivial⟩,
 ⟨underlying11,kR⟩,trivial⟩,
 ⟨underlying12,kR⟩,
 ⟨trivial,⟨underlying13,kR⟩,trivial⟩⟩,
 ⟨underlying14,kR⟩,
 ⟨⟨trivial,⟨underlying15,kR⟩,trivial⟩,
 ⟨underlying16,kR⟩,
 ⟨trivial,⟨underlying17,kR⟩,trivial⟩⟩⟩⟩,
 ⟨underlying18,kR⟩,
 ⟨⟨⟨⟨⟨trivial,⟨underlying19,kR⟩,trivial⟩,
 ⟨underlying20,kR⟩,trivial⟩,
 ⟨underlying21,kR⟩,
 ⟨trivial,⟨underlying22,kR⟩,trivial⟩⟩,
 ⟨underlying23,kR⟩,
 ⟨⟨⟨trivial,⟨underlying24,kR⟩,trivial⟩,
 ⟨underlying25,kR⟩,trivial⟩,
 ⟨underlying26,kR⟩,
 ⟨trivial,⟨underlying27,kR⟩,trivial⟩⟩⟩,
 ⟨underlying28,kR⟩,
 ⟨⟨⟨⟨trivial,⟨underlying29,kR⟩,trivial⟩,
 ⟨underlying30,kR⟩,trivial⟩,
 ⟨underlying31,kR⟩,
 ⟨trivial,⟨underlying32,kR⟩,trivial⟩⟩,
 ⟨underlying33,kR⟩,
 ⟨⟨trivial,⟨underlying34,kR⟩,trivial⟩,
 ⟨underlying35,kR⟩,
 ⟨trivial,⟨underlying36,kR⟩,trivial⟩⟩⟩⟩⟩,
 ⟨underlying37,kR⟩,
 ⟨⟨⟨⟨⟨⟨trivial,⟨underlying38,kR⟩,trivial⟩,
 ⟨underlying39,kR⟩,trivial⟩,
 ⟨underlying40,kR⟩,
 ⟨trivial,⟨underlying41,kR⟩,trivial⟩⟩,
 ⟨underlying42,kR⟩,
 ⟨⟨⟨trivial,⟨underlying43,kR⟩,trivial⟩,
 ⟨underlying44,kR⟩,trivial⟩,
 ⟨underlying45,kR⟩,
 ⟨trivial,⟨underlying46,kR⟩,trivial⟩⟩⟩,
 ⟨underlying47,kR⟩,
 ⟨⟨⟨⟨trivial,⟨underlying48,kR⟩,trivial⟩,
 ⟨underlying49,kR⟩,trivial⟩,
 ⟨underlying50,kR⟩,
 ⟨trivial,⟨underlying51,kR⟩,trivial⟩⟩,
 ⟨underlying52,kR⟩,
 ⟨⟨trivial,⟨underlying53,kR⟩,trivial⟩,
 ⟨underlying54,kR⟩,
 ⟨trivial,⟨underlying55,kR⟩,trivial⟩⟩⟩⟩,
 ⟨underlying56,kR⟩,
 ⟨⟨⟨⟨⟨trivial,⟨underlying57,kR⟩,trivial⟩,
 ⟨underlying58,kR⟩,trivial⟩,
 ⟨underlying59,kR⟩,
 ⟨trivial,⟨underlying60,kR⟩,trivial⟩⟩,
 ⟨underlying61,kR⟩,
 ⟨⟨⟨trivial,⟨underlying62,kR⟩,trivial⟩,
 ⟨underlying63,kR⟩,trivial⟩,
 ⟨underlying64,kR⟩,
 ⟨trivial,⟨underlying65,kR⟩,trivial⟩⟩⟩,
 ⟨underlying66,kR⟩,
 ⟨⟨⟨⟨trivial,⟨underlying67,kR⟩,trivial⟩,
 ⟨underlying68,kR⟩,trivial⟩,
 ⟨underlying69,kR⟩,
 ⟨trivial,⟨underlying70,kR⟩,trivial⟩⟩,
 ⟨underlying71,kR⟩,
 ⟨⟨trivial,⟨underlying72,kR⟩,trivial⟩,
 ⟨underlying73,kR⟩,
 ⟨trivial,⟨underlying74,kR⟩,trivial⟩⟩⟩⟩⟩⟩,
 ⟨underlying75,kR⟩,
 ⟨⟨⟨⟨⟨⟨⟨trivial,⟨underlying76,kR⟩,trivial⟩,
 ⟨underlying77,kR⟩,trivial⟩,
 ⟨underlying78,kR⟩,
 ⟨trivial,⟨underlying79,kR⟩,trivial⟩⟩,
 ⟨underlying80,kR⟩,
 ⟨⟨⟨trivial,⟨underlying81,kR⟩,trivial⟩,
 ⟨underlying82,kR⟩,trivial⟩,
 ⟨underlying83,kR⟩,
 ⟨trivial,⟨underlying84,kR⟩,trivial⟩⟩⟩,
 ⟨underlying85,kR⟩,
 ⟨⟨⟨⟨trivial,⟨underlying86,kR⟩,trivial⟩,
 ⟨underlying87,kR⟩,trivial⟩,
 ⟨underlying88,kR⟩,
 ⟨trivial,⟨underlying89,kR⟩,trivial⟩⟩,
 ⟨underlying90,kR⟩,
 ⟨⟨trivial,⟨underlying91,kR⟩,trivial⟩,
 ⟨underlying92,kR⟩,
 ⟨trivial,⟨underlying93,kR⟩,trivial⟩⟩⟩⟩,
 ⟨underlying94,kR⟩,
 ⟨⟨⟨⟨⟨trivial,⟨underlying95,kR⟩,trivial⟩,
 ⟨underlying96,kR⟩,trivial⟩,
 ⟨underlying97,kR⟩,
 ⟨trivial,⟨underlying98,kR⟩,trivial⟩⟩,
 ⟨underlying99,kR⟩,
 ⟨⟨⟨trivial,⟨underlying100,kR⟩,trivial⟩,
 ⟨underlying101,kR⟩,trivial⟩,
 ⟨underlying102,kR⟩,
 ⟨trivial,⟨underlying103,kR⟩,trivial⟩⟩⟩,
 ⟨underlying104,kR⟩,
 ⟨⟨⟨⟨trivial,⟨underlying105,kR⟩,trivial⟩,
 ⟨underlying106,kR⟩,trivial⟩,
 ⟨underlying107,kR⟩,
 ⟨trivial,⟨underlying108,kR⟩,trivial⟩⟩,
 ⟨underlying109,kR⟩,
 ⟨⟨trivial,⟨underlying110,kR⟩,trivial⟩,
 ⟨underlying111,kR⟩,
 ⟨trivial,⟨underlying112,kR⟩,trivial⟩⟩⟩⟩⟩,
 ⟨underlying113,kR⟩,
 ⟨⟨⟨⟨⟨⟨trivial,⟨underlying114,kR⟩,trivial⟩,
 ⟨underlying115,kR⟩,trivial⟩,
 ⟨underlying116,kR⟩,
 ⟨trivial,⟨underlying117,kR⟩,trivial⟩⟩,
 ⟨underlying118,kR⟩,
 ⟨⟨⟨trivial,⟨underlying119,kR⟩,trivial⟩,
 ⟨underlying120,kR⟩,trivial⟩,
 ⟨underlying121,kR⟩,
 ⟨trivial,⟨underlying122,kR⟩,trivial⟩⟩⟩,
 ⟨underlying123,kR⟩,
 ⟨⟨⟨⟨trivial,⟨underlying124,kR⟩,trivial⟩,
 ⟨underlying125,kR⟩,trivial⟩,
 ⟨underlying126,kR⟩,
 ⟨trivial,⟨underlying127,kR⟩,trivial⟩⟩,
 ⟨underlying128,kR⟩,
 ⟨⟨trivial,⟨underlying129,kR⟩,trivial⟩,
 ⟨underlying130,kR⟩,
 ⟨trivial,⟨underlying131,kR⟩,trivial⟩⟩⟩⟩,
 ⟨underlying132,kR⟩,
 ⟨⟨⟨⟨⟨trivial,⟨underlying133,kR⟩,trivial⟩,
 ⟨underlying134,kR⟩,trivial⟩,
 ⟨underlying135,kR⟩,
 ⟨trivial,⟨underlying136,kR⟩,trivial⟩⟩,
 ⟨underlying137,kR⟩,
 ⟨⟨trivial,⟨underlying138,kR⟩,trivial⟩,
 ⟨underlying139,kR⟩,
 ⟨trivial,⟨underlying140,kR⟩,trivial⟩⟩⟩,
 ⟨underlying141,kR⟩,
 ⟨⟨⟨⟨trivial,⟨underlying142,kR⟩,trivial⟩,
 ⟨underlying143,kR⟩,trivial⟩,
 ⟨underlying144,kR⟩,
 ⟨trivial,⟨underlying145,kR⟩,trivial⟩⟩,
 ⟨underlying146,kR⟩,
 ⟨⟨trivial,⟨underlying147,kR⟩,trivial⟩,
 ⟨underlying148,kR⟩,
 ⟨trivial,⟨underlying149,kR⟩,trivial⟩⟩⟩⟩⟩⟩⟩,
 ⟨underlying150,kR⟩,
 ⟨⟨⟨⟨⟨⟨⟨⟨trivial,⟨underlying151,kR⟩,trivial⟩,
 ⟨underlying152,kR⟩,trivial⟩,
 ⟨underlying153,kR⟩,
 ⟨trivial,⟨underlying154,kR⟩,trivial⟩⟩,
 ⟨underlying155,kR⟩,
 ⟨⟨⟨trivial,⟨underlying156,kR⟩,trivial⟩,
 ⟨underlying157,kR⟩,trivial⟩,
 ⟨underlying158,kR⟩,
 ⟨trivial,⟨underlying159,kR⟩,trivial⟩⟩⟩,
 ⟨underlying160,kR⟩,
 ⟨⟨⟨⟨trivial,⟨underlying161,kR⟩,trivial⟩,
 ⟨underlying162,kR⟩,trivial⟩,
 ⟨underlying163,kR⟩,
 ⟨trivial,⟨underlying164,kR⟩,trivial⟩⟩,
 ⟨underlying165,kR⟩,
 ⟨⟨trivial,⟨underlying166,kR⟩,trivial⟩,
 ⟨underlying167,kR⟩,
 ⟨trivial,⟨underlying168,kR⟩,trivial⟩⟩⟩⟩,
 ⟨underlying169,kR⟩,
 ⟨⟨⟨⟨⟨trivial,⟨underlying170,kR⟩,trivial⟩,
 ⟨underlying171,kR⟩,trivial⟩,
 ⟨underlying172,kR⟩,
 ⟨trivial,⟨underlying173,kR⟩,trivial⟩⟩,
 ⟨underlying174,kR⟩,
 ⟨⟨⟨trivial,⟨underlying175,kR⟩,trivial⟩,
 ⟨underlying176,kR⟩,trivial⟩,
 ⟨underlying177,kR⟩,
 ⟨trivial,⟨underlying178,kR⟩,trivial⟩⟩⟩,
 ⟨underlying179,kR⟩,
 ⟨⟨⟨⟨trivial,⟨underlying180,kR⟩,trivial⟩,
 ⟨underlying181,kR⟩,trivial⟩,
 ⟨underlying182,kR⟩,
 ⟨trivial,⟨underlying183,kR⟩,trivial⟩⟩,
 ⟨underlying184,kR⟩,
 ⟨⟨trivial,⟨underlying185,kR⟩,trivial⟩,
 ⟨underlying186,kR⟩,
 ⟨trivial,⟨underlying187,kR⟩,trivial⟩⟩⟩⟩⟩,
 ⟨underlying188,kR⟩,
 ⟨⟨⟨⟨⟨⟨trivial,⟨underlying189,kR⟩,trivial⟩,
 ⟨underlying190,kR⟩,trivial⟩,
 ⟨underlying191,kR⟩,
 ⟨trivial,⟨underlying192,kR⟩,trivial⟩⟩,
 ⟨underlying193,kR⟩,
 ⟨⟨⟨trivial,⟨underlying194,kR⟩,trivial⟩,
 ⟨underlying195,kR⟩,trivial⟩,
 ⟨underlying196,kR⟩,
 ⟨trivial,⟨underlying197,kR⟩,trivial⟩⟩⟩,
 ⟨underlying198,kR⟩,
 ⟨⟨⟨⟨trivial,⟨underlying199,kR⟩,trivial⟩,
 ⟨underlying200,kR⟩,trivial⟩,
 ⟨underlying201,kR⟩,
 ⟨trivial,⟨underlying202,kR⟩,trivial⟩⟩,
 ⟨underlying203,kR⟩,
 ⟨⟨trivial,⟨underlying204,kR⟩,trivial⟩,
 ⟨underlying205,kR⟩,
 ⟨trivial,⟨underlying206,kR⟩,trivial⟩⟩⟩⟩,
 ⟨underlying207,kR⟩,
 ⟨⟨⟨⟨⟨trivial,⟨underlying208,kR⟩,trivial⟩,
 ⟨underlying209,kR⟩,trivial⟩,
 ⟨underlying210,kR⟩,
 ⟨trivial,⟨underlying211,kR⟩,trivial⟩⟩,
 ⟨underlying212,kR⟩,
 ⟨⟨⟨trivial,⟨underlying213,kR⟩,trivial⟩,
 ⟨underlying214,kR⟩,trivial⟩,
 ⟨underlying215,kR⟩,
 ⟨trivial,⟨underlying216,kR⟩,trivial⟩⟩⟩,
 ⟨underlying217,kR⟩,
 ⟨⟨⟨⟨trivial,⟨underlying218,kR⟩,trivial⟩,
 ⟨underlying219,kR⟩,trivial⟩,
 ⟨underlying220,kR⟩,
 ⟨trivial,⟨underlying221,kR⟩,trivial⟩⟩,
 ⟨underlying222,kR⟩,
 ⟨⟨trivial,⟨underlying223,kR⟩,trivial⟩,
 ⟨underlying224,kR⟩,
 ⟨trivial,⟨underlying225,kR⟩,trivial⟩⟩⟩⟩⟩⟩,
 ⟨underlying226,kR⟩,
 ⟨⟨⟨⟨⟨⟨⟨trivial,⟨underlying227,kR⟩,trivial⟩,
 ⟨underlying228,kR⟩,trivial⟩,
 ⟨underlying229,kR⟩,
 ⟨trivial,⟨underlying230,kR⟩,trivial⟩⟩,
 ⟨underlying231,kR⟩,
 ⟨⟨⟨trivial,⟨underlying232,kR⟩,trivial⟩,
 ⟨underlying233,kR⟩,trivial⟩,
 ⟨underlying234,kR⟩,
 ⟨trivial,⟨underlying235,kR⟩,trivial⟩⟩⟩,
 ⟨underlying236,kR⟩,
 ⟨⟨⟨⟨trivial,⟨underlying237,kR⟩,trivial⟩,
 ⟨underlying238,kR⟩,trivial⟩,
 ⟨underlying239,kR⟩,
 ⟨trivial,⟨underlying240,kR⟩,trivial⟩⟩,
 ⟨underlying241,kR⟩,
 ⟨⟨trivial,⟨underlying242,kR⟩,trivial⟩,
 ⟨underlying243,kR⟩,
 ⟨trivial,⟨underlying244,kR⟩,trivial⟩⟩⟩⟩,
 ⟨underlying245,kR⟩,
 ⟨⟨⟨⟨⟨trivial,⟨underlying246,kR⟩,trivial⟩,
 ⟨underlying247,kR⟩,trivial⟩,
 ⟨underlying248,kR⟩,
 ⟨trivial,⟨underlying249,kR⟩,trivial⟩⟩,
 ⟨underlying250,kR⟩,
 ⟨⟨⟨trivial,⟨underlying251,kR⟩,trivial⟩,
 ⟨underlying252,kR⟩,trivial⟩,
 ⟨underlying253,kR⟩,
 ⟨trivial,⟨underlying254,kR⟩,trivial⟩⟩⟩,
 ⟨underlying255,kR⟩,
 ⟨⟨⟨⟨trivial,⟨underlying256,kR⟩,trivial⟩,
 ⟨underlying257,kR⟩,trivial⟩,
 ⟨underlying258,kR⟩,
 ⟨trivial,⟨underlying259,kR⟩,trivial⟩⟩,
 ⟨underlying260,kR⟩,
 ⟨⟨trivial,⟨underlying261,kR⟩,trivial⟩,
 ⟨underlying262,kR⟩,
 ⟨trivial,⟨underlying263,kR⟩,trivial⟩⟩⟩⟩⟩,
 ⟨underlying264,kR⟩,
 ⟨⟨⟨⟨⟨⟨trivial,⟨underlying265,kR⟩,trivial⟩,
 ⟨underlying266,kR⟩,trivial⟩,
 ⟨underlying267,kR⟩,
 ⟨trivial,⟨underlying268,kR⟩,trivial⟩⟩,
 ⟨underlying269,kR⟩,
 ⟨⟨⟨trivial,⟨underlying270,kR⟩,trivial⟩,
 ⟨underlying271,kR⟩,trivial⟩,
 ⟨underlying272,kR⟩,
 ⟨trivial,⟨underlying273,kR⟩,trivial⟩⟩⟩,
 ⟨underlying274,kR⟩,
 ⟨⟨⟨⟨trivial,⟨underlying275,kR⟩,trivial⟩,
 ⟨underlying276,kR⟩,trivial⟩,
 ⟨underlying277,kR⟩,
 ⟨trivial,⟨underlying278,kR⟩,trivial⟩⟩,
 ⟨underlying279,kR⟩,
 ⟨⟨trivial,⟨underlying280,kR⟩,trivial⟩,
 ⟨underlying281,kR⟩,
 ⟨trivial,⟨underlying282,kR⟩,trivial⟩⟩⟩⟩,
 ⟨underlying283,kR⟩,
 ⟨⟨⟨⟨⟨trivial,⟨underlying284,kR⟩,trivial⟩,
 ⟨underlying285,kR⟩,trivial⟩,
 ⟨underlying286,kR⟩,
 ⟨trivial,⟨underlying287,kR⟩,trivial⟩⟩,
 ⟨underlying288,kR⟩,
 ⟨⟨trivial,⟨underlying289,kR⟩,trivial⟩,
 ⟨underlying290,kR⟩,
 ⟨trivial,⟨underlying291,kR⟩,trivial⟩⟩⟩,
 ⟨underlying292,kR⟩,
 ⟨⟨⟨⟨trivial,⟨underlying293,kR⟩,trivial⟩,
 ⟨underlying294,kR⟩,trivial⟩,
 ⟨underlying295,kR⟩,
 ⟨trivial,⟨underlying296,kR⟩,trivial⟩⟩,
 ⟨underlying297,kR⟩,
 ⟨⟨trivial,⟨underlying298,kR⟩,trivial⟩,
 ⟨underlying299,kR⟩,
 ⟨trivial,⟨underlying300,kR⟩,trivial⟩⟩⟩⟩⟩⟩⟩⟩
def tab:Tab Tryz.prog:=tabOf tree tree_ok
theorem A1e:Tryz.prog.follows .mixedOrders=true:=by kernel_rfl
theorem bod22:A0i Tryz.prog 22:=⟨_,_,func22,Y,by decide⟩
theorem bod27:A0i Tryz.prog 27:=⟨_,_,func27,Y,by decide⟩
theorem bod29:A0i Tryz.prog 29:=⟨_,_,func29,Y,by decide⟩
theorem bod34:A0i Tryz.prog 34:=⟨_,_,func34,Y,by decide⟩
theorem bod36:A0i Tryz.prog 36:=⟨_,_,func36,Y,by decide⟩
theorem bod38:A0i Tryz.prog 38:=⟨_,_,func38,Y,by decide⟩
theorem bod39:A0i Tryz.prog 39:=⟨_,_,func39,Y,by decide⟩
theorem bod40:A0i Tryz.prog 40:=⟨_,_,func40,Y,by decide⟩
theorem bod49:A0i Tryz.prog 49:=⟨_,_,func49,Y,by decide⟩
theorem bod54:A0i Tryz.prog 54:=⟨_,_,func54,Y,by decide⟩
theorem bod60:A0i Tryz.prog 60:=⟨_,_,func60,Y,by decide⟩
theorem bod67:A0i Tryz.prog 67:=⟨_,_,func67,Y,by decide⟩
theorem bod68:A0i Tryz.prog 68:=⟨_,_,func68,Y,by decide⟩
theorem bod69:A0i Tryz.prog 69:=⟨_,_,func69,Y,by decide⟩
theorem bod70:A0i Tryz.prog 70:=⟨_,_,func70,Y,by decide⟩
theorem bod71:A0i Tryz.prog 71:=⟨_,_,func71,Y,by decide⟩
theorem bod72:A0i Tryz.prog 72:=⟨_,_,func72,Y,by decide⟩
theorem bod73:A0i Tryz.prog 73:=⟨_,_,func73,Y,by decide⟩
theorem bod74:A0i Tryz.prog 74:=⟨_,_,func74,Y,by decide⟩
theorem bod75:A0i Tryz.prog 75:=⟨_,_,func75,Y,by decide⟩
theorem bod76:A0i Tryz.prog 76:=⟨_,_,func76,Y,by decide⟩
theorem B0r:A0i Tryz.prog 77:=⟨_,_,func77,Y,by decide⟩
theorem bod78:A0i Tryz.prog 78:=⟨_,_,func78,Y,by decide⟩
theorem bod79:A0i Tryz.prog 79:=⟨_,_,func79,Y,by decide⟩
theorem bod81:A0i Tryz.prog 81:=⟨_,_,func81,Y,by decide⟩
theorem bod83:A0i Tryz.prog 83:=⟨_,_,func83,Y,by decide⟩
theorem bod84:A0i Tryz.prog 84:=⟨_,_,func84,Y,by decide⟩
theorem bod86:A0i Tryz.prog 86:=⟨_,_,func86,Y,by decide⟩
theorem bod87:A0i Tryz.prog 87:=⟨_,_,func87,Y,by decide⟩
theorem bod89:A0i Tryz.prog 89:=⟨_,_,func89,Y,by decide⟩
theorem bod90:A0i Tryz.prog 90:=⟨_,_,func90,Y,by decide⟩
theorem bod92:A0i Tryz.prog 92:=⟨_,_,func92,Y,by decide⟩
theorem bod93:A0i Tryz.prog 93:=⟨_,_,func93,Y,by decide⟩
theorem bod94:A0i Tryz.prog 94:=⟨_,_,func94,Y,by decide⟩
theorem bod95:A0i Tryz.prog 95:=⟨_,_,func95,Y,by decide⟩
theorem bod96:A0i Tryz.prog 96:=⟨_,_,func96,Y,by decide⟩
theorem bod97:A0i Tryz.prog 97:=⟨_,_,func97,Y,by decide⟩
theorem bod98:A0i Tryz.prog 98:=⟨_,_,func98,Y,by decide⟩
theorem bod99:A0i Tryz.prog 99:=⟨_,_,func99,Y,by decide⟩
theorem bod104:A0i Tryz.prog 104:=⟨_,_,func104,Y,by decide⟩
theorem bod105:A0i Tryz.prog 105:=⟨_,_,func105,Y,by decide⟩
theorem bod106:A0i Tryz.prog 106:=⟨_,_,func106,Y,by decide⟩
theorem bod107:A0i Tryz.prog 107:=⟨_,_,func107,Y,by decide⟩
theorem bod108:A0i Tryz.prog 108:=⟨_,_,func108,Y,by decide⟩
theorem bod109:A0i Tryz.prog 109:=⟨_,_,func109,Y,by decide⟩
theorem bod113:A0i Tryz.prog 113:=⟨_,_,func113,Y,by decide⟩
theorem bod115:A0i Tryz.prog 115:=⟨_,_,func115,Y,by decide⟩
theorem bod116:A0i Tryz.prog 116:=⟨_,_,func116,Y,by decide⟩
theorem bod119:A0i Tryz.prog 119:=⟨_,_,func119,Y,by decide⟩
theorem B2g:A0i Tryz.prog 120:=⟨_,_,func120,Y,by decide⟩
theorem bod121:A0i Tryz.prog 121:=⟨_,_,func121,Y,by decide⟩
theorem bod122:A0i Tryz.prog 122:=⟨_,_,func122,Y,by decide⟩
theorem bod123:A0i Tryz.prog 123:=⟨_,_,func123,Y,by decide⟩
theorem bod124:A0i Tryz.prog 124:=⟨_,_,func124,Y,by decide⟩
theorem bod126:A0i Tryz.prog 126:=⟨_,_,func126,Y,by decide⟩
theorem bod127:A0i Tryz.prog 127:=⟨_,_,func127,Y,by decide⟩
theorem bod128:A0i Tryz.prog 128:=⟨_,_,func128,Y,by decide⟩
theorem bod129:A0i Tryz.prog 129:=⟨_,_,func129,Y,by decide⟩
theorem bod130:A0i Tryz.prog 130:=⟨_,_,func130,Y,by decide⟩
theorem bod131:A0i Tryz.prog 131:=⟨_,_,func131,Y,by decide⟩
theorem bod133:A0i Tryz.prog 133:=⟨_,_,func133,Y,by decide⟩
theorem bod137:A0i Tryz.prog 137:=⟨_,_,func137,Y,by decide⟩
theorem bod138:A0i Tryz.prog 138:=⟨_,_,func138,Y,by decide⟩
theorem bod140:A0i Tryz.prog 140:=⟨_,_,func140,Y,by decide⟩
theorem bod143:A0i Tryz.prog 143:=⟨_,_,func143,Y,by decide⟩
theorem bod144:A0i Tryz.prog 144:=⟨_,_,func144,Y,by decide⟩
theorem bod145:A0i Tryz.prog 145:=⟨_,_,func145,Y,by decide⟩
theorem bod151:A0i Tryz.prog 151:=⟨_,_,func151,Y,by decide⟩
theorem bod152:A0i Tryz.prog 152:=⟨_,_,func152,Y,by decide⟩
theorem bod153:A0i Tryz.prog 153:=⟨_,_,func153,Y,by decide⟩
theorem bod154:A0i Tryz.prog 154:=⟨_,_,func154,Y,by decide⟩
theorem bod155:A0i Tryz.prog 155:=⟨_,_,func155,Y,by decide⟩
theorem bod156:A0i Tryz.prog 156:=⟨_,_,func156,Y,by decide⟩
theorem bod157:A0i Tryz.prog 157:=⟨_,_,func157,Y,by decide⟩
theorem bod158:A0i Tryz.prog 158:=⟨_,_,func158,Y,by decide⟩
theorem bod159:A0i Tryz.prog 159:=⟨_,_,func159,Y,by decide⟩
theorem bod160:A0i Tryz.prog 160:=⟨_,_,func160,Y,by decide⟩
theorem bod162:A0i Tryz.prog 162:=⟨_,_,func162,Y,by decide⟩
theorem bod163:A0i Tryz.prog 163:=⟨_,_,func163,Y,by decide⟩
theorem bod166:A0i Tryz.prog 166:=⟨_,_,func166,Y,by decide⟩
theorem bod177:A0i Tryz.prog 177:=⟨_,_,func177,Y,by decide⟩
theorem bod196:A0i Tryz.prog 196:=⟨_,_,func196,Y,by decide⟩
theorem bod197:A0i Tryz.prog 197:=⟨_,_,func197,Y,by decide⟩
theorem bod198:A0i Tryz.prog 198:=⟨_,_,func198,Y,by decide⟩
theorem bod199:A0i Tryz.prog 199:=⟨_,_,func199,Y,by decide⟩
theorem bod200:A0i Tryz.prog 200:=⟨_,_,func200,Y,by decide⟩
theorem bod201:A0i Tryz.prog 201:=⟨_,_,func201,Y,by decide⟩
theorem bod202:A0i Tryz.prog 202:=⟨_,_,func202,Y,by decide⟩
theorem bod214:A0i Tryz.prog 214:=⟨_,_,func214,Y,by decide⟩
theorem bod215:A0i Tryz.prog 215:=⟨_,_,func215,Y,by decide⟩
theorem bod216:A0i Tryz.prog 216:=⟨_,_,func216,Y,by decide⟩
theorem bod217:A0i Tryz.prog 217:=⟨_,_,func217,Y,by decide⟩
theorem bod218:A0i Tryz.prog 218:=⟨_,_,func218,Y,by decide⟩
theorem bod219:A0i Tryz.prog 219:=⟨_,_,func219,Y,by decide⟩
theorem bod220:A0i Tryz.prog 220:=⟨_,_,func220,Y,by decide⟩
theorem bod221:A0i Tryz.prog 221:=⟨_,_,func221,Y,by decide⟩
theorem bod222:A0i Tryz.prog 222:=⟨_,_,func222,Y,by decide⟩
theorem bod226:A0i Tryz.prog 226:=⟨_,_,func226,Y,by decide⟩
theorem bod227:A0i Tryz.prog 227:=⟨_,_,func227,Y,by decide⟩
theorem bod228:A0i Tryz.prog 228:=⟨_,_,func228,Y,by decide⟩
theorem bod229:A0i Tryz.prog 229:=⟨_,_,func229,Y,by decide⟩
theorem bod246:A0i Tryz.prog 246:=⟨_,_,func246,Y,by decide⟩
theorem bod248:A0i Tryz.prog 248:=⟨_,_,func248,Y,by decide⟩
theorem bod250:A0i Tryz.prog 250:=⟨_,_,func250,Y,by decide⟩
end Go.Proofs.YtclejblcnfaeaaaGreat
end
section
namespace Go.Pal
open Go Go.Conc View
def RowAt(v:View)(a:Option Addr)(vals:List Value):Prop:=
 vals=[]∨∃b off p c e f,a=some ⟨b,off,none⟩∧v b=some (p,.cells c e f)∧off+vals.length≤c.size∧∀i x,vals[i]?=some x→c[off+i]?=some x
theorem RowAt.le{u v:View}{a:Option Addr}{vals:List Value}(h:RowAt u a vals)(hl:u.Le v):RowAt v a vals:=by
 rcases h with h|⟨b,off,p,c,e,f,h1,h2,h3,h4⟩
 ·exact .inl h
 ·exact .inr ⟨b,off,p,c,e,f,h1,hl _ _ h2,h3,h4⟩
theorem RowAt.ints{v:View}{a:Option Addr}{xs:List Int}(h:RowAt v a (xs.map (.int .i64))){i:Nat}(hi:i<xs.length) :
  ∃b off p c e f,a=some ⟨b,off,none⟩∧v b=some (p,.cells c e f)∧∀j (hj:j<xs.length),c[off+j]?=some (.int .i64 xs[j]):=by
 rcases h with h|⟨b,off,p,c,e,f,h1,h2,h3,h4⟩
 ·have:xs=[]:=by simpa using h
  subst this;simp at hi
 ·exact⟨b,off,p,c,e,f,h1,h2,fun j hj=>h4 j _ (by simp [hj])⟩
theorem A5n(b off n:Nat):(⟨b,off,none⟩:Addr).add n=⟨b,off+n,none⟩:=by
 unfold Addr.add;split<;>simp_all
section
variable{P:Program}{mn:Who}(T:Tab P){rd:Option Nat}{n:Nat}{Q:Exit→St→View→Prop}{ds:List Deferred}{ρ:Regs}{β:A0e}{v:View}
 {ops:Array Oper}{i:Nat}{rest:List Nat}{l:List Oper}{d:Nat}{ty:TypeId}{pos:String}{af:Array Edge}{gu:Option (Nat×Bool)}
theorem R_elem{t e:TypeId}{y z:Operand}{b off len cap sz:Nat}{jz:Int}{k:IntKind}(j:Nat)(ho:ops[i]?=some ⟨some d,.indexAddr t y z,ty,pos,af,gu⟩)(hw:A0p ops gu ρ=some true)(hn:Nat.blt d n=true)
  (hy:ρ.val y=some (.slice (some ⟨b,off,none⟩) len cap))(hz:ρ.val z=some (.int k jz))(hj:jz=j)(ht:T.und t=some (.slice e))(hs:T.siz e=some sz)(h1:j<len)
  (h:XO P mn rd n ops rest Q ⟨ds,(d,.pointer (some ⟨b,off+j*sz,none⟩))::ρ,β⟩ v):XO P mn rd n ops (i::rest) Q ⟨ds,ρ,β⟩ v:=by
 subst hj
 refine R_index T ho hw hn hy hz ht hs oM oM ?_
 rw [A5n];simpa using h
theorem A1m{t e:TypeId}{y z:Operand}{b off len cap sz:Nat}{jz:Int}{k:IntKind}(j:Nat)(hw:A0p ops gu ρ=some true)(hn:Nat.blt d n=true)
  (hy:ρ.val y=some (.slice (some ⟨b,off,none⟩) len cap))(hz:ρ.val z=some (.int k jz))(hj:jz=j)(ht:T.und t=some (.slice e))(hs:T.siz e=some sz)(h1:j<len)
  (h:XL P mn n ops Q l ⟨ds,(d,.pointer (some ⟨b,off+j*sz,none⟩))::ρ,β⟩ v):XL P mn n ops Q (⟨some d,.indexAddr t y z,ty,pos,af,gu⟩::l) ⟨ds,ρ,β⟩ v:=by
 subst hj
 refine L_index T hw hn hy hz ht hs oM oM ?_
 rw [A5n];simpa using h
theorem A0l{t:TypeId}{td:TypeDesc}{c:Array Value}{off:Nat}{x:Value}(h1:T.und t=some td)(h2:T.siz t=some 1)(h3:aggOf td=false)(h:c[off]?=some x):A4k T t c off=some x:=by
 unfold A4k;rw [h1,h2];simp [h3,h]
end
end Go.Pal
end
