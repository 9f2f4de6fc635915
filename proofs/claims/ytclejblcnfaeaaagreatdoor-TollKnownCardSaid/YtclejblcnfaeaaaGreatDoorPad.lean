/- Part 4. -/
import Derived.KernelRfl
import Derived.Test.YtclejblcnfaeaaaGreatDoorRows
import Derived.Test.YtclejblcnfaeaaaGreatDoorPac
set_option linter.all false
section
namespace Go.Proofs.YtclejblcnfaeaaaGreatDoor
open Go Go.Pal Go.Proofs.Tryz
abbrev dsc{k:Nat}{d:TypeDesc}(_h:Tryz.prog.underlying k=some d):TypeDesc:=d
def tree:Tr (TypeDesc×Nat×Nat×Value):=.node (.node (.node (.node (.node (.node (.node (.node (.node .nil 0 ((.tuple #[]),1,0,.tuple #[]) .nil) 1 (dsc underlying1,1,8,.nilFunc) .nil) 2 ((.int .i64),1,8,.int .i64 0) (.node (.node .nil 3 ((.int .i64),1,8,.int .i64 0) .nil) 4 (.bool,1,1,.bool false) .nil)) 5 ((.int .u8),1,1,.int .u8 0) (.node (.node (.node .nil 6 ((.int .u8),1,1,.int .u8 0) .nil) 7 (dsc underlying7,4,24,.agg #[.int .i64 0,.int .i64 0,.bool false,.int .u8 0]) .nil) 8 (dsc underlying8,4,24,.agg #[.int .i64 0,.int .i64 0,.bool false,.int .u8 0]) (.node (.node .nil 9 (.string,1,16,.string ByteArray.empty) .nil) 10 (.string,1,16,.string ByteArray.empty) .nil))) 11 (.string,1,16,.string ByteArray.empty) (.node (.node (.node (.node .nil 12 ((.int .u64),1,8,.int .u64 0) .nil) 13 (dsc underlying13,2,24,.agg #[.string ByteArray.empty,.int .u64 0]) .nil) 14 (dsc underlying14,2,24,.agg #[.string ByteArray.empty,.int .u64 0]) (.node (.node .nil 15 ((.pointer 357),1,8,.pointer none) .nil) 16 ((.pointer 360),1,8,.pointer none) .nil)) 17 ((.pointer 367),1,8,.pointer none) (.node (.node (.node .nil 18 (dsc underlying18,1,8,.agg #[.pointer none]) .nil) 19 (dsc underlying19,1,8,.agg #[.pointer none]) .nil) 20 ((.interface #[]),1,16,.nilIface) (.node (.node .nil 21 ((.int .i32),1,4,.int .i32 0) .nil) 22 ((.slice 3),1,24,.slice none 0 0) .nil)))) 23 ((.pointer 91),1,8,.pointer none) (.node (.node (.node (.node (.node .nil 24 (dsc underlying24,1,8,.nilFunc) .nil) 25 (dsc underlying25,2,32,.agg #[.int .i64 0,.slice none 0 0]) .nil) 26 (dsc underlying26,2,32,.agg #[.int .i64 0,.slice none 0 0]) (.node (.node .nil 27 (dsc underlying27,1,8,.nilFunc) .nil) 28 ((.slice 40),1,24,.slice none 0 0) .nil)) 29 (dsc underlying29,1,8,.nilFunc) (.node (.node (.node .nil 30 ((.slice 9),1,24,.slice none 0 0) .nil) 31 ((.int .i64),1,8,.int .i64 0) .nil) 32 (dsc underlying32,1,0,.tuple #[.slice none 0 0,.slice none 0 0,.int .i64 0]) (.node (.node .nil 33 (dsc underlying33,1,8,.nilFunc) .nil) 34 ((.slice 43),1,24,.slice none 0 0) .nil))) 35 (dsc underlying35,3,56,.agg #[.int .i64 0,.slice none 0 0,.slice none 0 0]) (.node (.node (.node (.node .nil 36 (dsc underlying36,3,56,.agg #[.int .i64 0,.slice none 0 0,.slice none 0 0]) .nil) 37 (dsc underlying37,1,0,.tuple #[.agg #[.int .i64 0,.slice none 0 0,.slice none 0 0],.int .i64 0]) .nil) 38 (dsc underlying38,1,8,.nilFunc) (.node (.node .nil 39 (dsc underlying39,4,32,.agg #[.int .i64 0,.int .i64 0,.int .i64 0,.int .i64 0]) .nil) 40 (dsc underlying40,4,32,.agg #[.int .i64 0,.int .i64 0,.int .i64 0,.int .i64 0]) .nil)) 41 (dsc underlying41,1,8,.nilFunc) (.node (.node (.node .nil 42 (dsc underlying42,3,40,.agg #[.int .i64 0,.int .i64 0,.slice none 0 0]) .nil) 43 (dsc underlying43,3,40,.agg #[.int .i64 0,.int .i64 0,.slice none 0 0]) .nil) 44 (dsc underlying44,1,0,.tuple #[.int .i64 0,.int .i64 0,.int .i64 0]) (.node (.node .nil 45 (dsc underlying45,1,8,.nilFunc) .nil) 46 (dsc underlying46,1,0,.tuple #[.int .i64 0,.int .i64 0]) .nil))))) 47 (dsc underlying47,1,8,.nilFunc) (.node (.node (.node (.node (.node (.node .nil 48 (dsc underlying48,2,16,.agg #[.int .i64 0,.int .i64 0]) .nil) 49 (dsc underlying49,2,16,.agg #[.int .i64 0,.int .i64 0]) .nil) 50 (dsc underlying50,1,0,.tuple #[.agg #[.int .i64 0,.int .i64 0],.int .i64 0]) (.node (.node .nil 51 (dsc underlying51,1,8,.nilFunc) .nil) 52 (dsc underlying52,1,8,.nilFunc) .nil)) 53 (dsc underlying53,1,8,.nilFunc) (.node (.node (.node .nil 54 (dsc underlying54,1,8,.nilFunc) .nil) 55 ((.slice 26),1,24,.slice none 0 0) .nil) 56 (dsc underlying56,1,8,.nilFunc) (.node (.node .nil 57 ((.slice 28),1,24,.slice none 0 0) .nil) 58 (dsc underlying58,1,8,.nilFunc) .nil))) 59 (dsc underlying59,1,8,.nilFunc) (.node (.node (.node (.node .nil 60 (dsc underlying60,1,8,.nilFunc) .nil) 61 (dsc underlying61,1,0,.tuple #[.slice none 0 0,.int .i64 0]) .nil) 62 (dsc underlying62,1,8,.nilFunc) (.node (.node .nil 63 (dsc underlying63,1,8,.nilFunc) .nil) 64 (dsc underlying64,1,8,.nilFunc) .nil)) 65 (dsc underlying65,1,8,.nilFunc) (.node (.node (.node .nil 66 (dsc underlying66,1,8,.nilFunc) .nil) 67 ((.slice 22),1,24,.slice none 0 0) .nil) 68 (dsc underlying68,1,0,.tuple #[.slice none 0 0,.int .i64 0]) (.node (.node .nil 69 (dsc underlying69,1,8,.nilFunc) .nil) 70 (dsc underlying70,1,8,.nilFunc) .nil)))) 71 (dsc underlying71,1,8,.nilFunc) (.node (.node (.node (.node (.node .nil 72 (dsc underlying72,1,0,.tuple #[.agg #[.int .i64 0,.int .i64 0,.int .i64 0,.int .i64 0],.int .i64 0]) .nil) 73 (dsc underlying73,1,8,.nilFunc) .nil) 74 (dsc underlying74,1,8,.nilFunc) (.node (.node .nil 75 (dsc underlying75,1,8,.nilFunc) .nil) 76 (dsc underlying76,1,0,.tuple #[.string ByteArray.empty,.int .i64 0]) .nil)) 77 (dsc underlying77,1,8,.nilFunc) (.node (.node (.node .nil 78 (dsc underlying78,1,0,.tuple #[.slice none 0 0,.int .i64 0]) .nil) 79 (dsc underlying79,1,8,.nilFunc) .nil) 80 (dsc underlying80,1,8,.nilFunc) (.node (.node .nil 81 (dsc underlying81,1,8,.nilFunc) .nil) 82 (dsc underlying82,1,8,.nilFunc) .nil))) 83 (dsc underlying83,1,8,.nilFunc) (.node (.node (.node (.node .nil 84 (dsc underlying84,1,8,.nilFunc) .nil) 85 (dsc underlying85,1,0,.tuple #[.slice none 0 0,.slice none 0 0,.int .i64 0]) .nil) 86 (dsc underlying86,1,8,.nilFunc) (.node (.node .nil 87 (dsc underlying87,1,0,.tuple #[.slice none 0 0,.slice none 0 0,.int .i64 0]) .nil) 88 (dsc underlying88,1,8,.nilFunc) .nil)) 89 ((.int .u64),1,8,.int .u64 0) (.node (.node (.node .nil 90 (dsc underlying90,3,40,.agg #[.slice none 0 0,.int .i64 0,.int .u64 0]) .nil) 91 (dsc underlying91,3,40,.agg #[.slice none 0 0,.int .i64 0,.int .u64 0]) .nil) 92 (dsc underlying92,1,8,.nilFunc) (.node (.node .nil 93 (dsc underlying93,1,8,.nilFunc) .nil) 94 (dsc underlying94,1,8,.nilFunc) .nil)))))) 95 (dsc underlying95,1,8,.nilFunc) (.node (.node (.node (.node (.node (.node (.node .nil 96 (dsc underlying96,1,8,.nilFunc) .nil) 97 (dsc underlying97,1,8,.nilFunc) .nil) 98 ((.pointer 106),1,8,.pointer none) (.node (.node .nil 99 (dsc underlying99,1,8,.nilFunc) .nil) 100 (dsc underlying100,1,16,.nilIface) .nil)) 101 (dsc underlying101,1,16,.nilIface) (.node (.node (.node .nil 102 (dsc underlying102,1,0,.tuple #[.string ByteArray.empty,.nilIface]) .nil) 103 ((.array 3 3),3,24,.agg #[.int .i64 0,.int .i64 0,.int .i64 0]) .nil) 104 ((.array 3 3),3,24,.agg #[.int .i64 0,.int .i64 0,.int .i64 0]) (.node (.node .nil 105 (dsc underlying105,5,56,.agg #[.int .i64 0,.slice none 0 0,.int .i64 0,.int .i64 0,.int .i64 0]) .nil) 106 (dsc underlying106,5,56,.agg #[.int .i64 0,.slice none 0 0,.int .i64 0,.int .i64 0,.int .i64 0]) .nil))) 107 (dsc underlying107,1,8,.nilFunc) (.node (.node (.node (.node .nil 108 (dsc underlying108,1,16,.nilIface) .nil) 109 (dsc underlying109,1,16,.nilIface) .nil) 110 (dsc underlying110,1,8,.nilFunc) (.node (.node .nil 111 (dsc underlying111,1,8,.nilFunc) .nil) 112 (dsc underlying112,3,24,.agg #[.int .i64 0,.int .i64 0,.int .i64 0]) .nil)) 113 (dsc underlying113,3,24,.agg #[.int .i64 0,.int .i64 0,.int .i64 0]) (.node (.node (.node .nil 114 (dsc underlying114,3,24,.agg #[.int .i64 0,.int .i64 0,.int .i64 0]) .nil) 115 (dsc underlying115,3,24,.agg #[.int .i64 0,.int .i64 0,.int .i64 0]) .nil) 116 (dsc underlying116,1,8,.nilFunc) (.node (.node .nil 117 ((.pointer 115),1,8,.pointer none) .nil) 118 (dsc underlying118,1,8,.nilFunc) .nil)))) 119 ((.pointer 31),1,8,.pointer none) (.node (.node (.node (.node (.node .nil 120 ((.slice 130),1,24,.slice none 0 0) .nil) 121 (dsc underlying121,2,32,.agg #[.int .i64 0,.slice none 0 0]) .nil) 122 (dsc underlying122,2,32,.agg #[.int .i64 0,.slice none 0 0]) (.node (.node .nil 123 (dsc underlying123,3,56,.agg #[.int .i64 0,.slice none 0 0,.slice none 0 0]) .nil) 124 (dsc underlying124,3,56,.agg #[.int .i64 0,.slice none 0 0,.slice none 0 0]) .nil)) 125 (dsc underlying125,1,8,.nilFunc) (.node (.node (.node .nil 126 (dsc underlying126,1,8,.nilFunc) .nil) 127 (dsc underlying127,1,8,.nilFunc) .nil) 128 (dsc underlying128,1,8,.nilFunc) (.node (.node .nil 129 ((.array 6 3),6,48,.agg #[.int .i64 0,.int .i64 0,.int .i64 0,.int .i64 0,.int .i64 0,.int .i64 0]) .nil) 130 ((.array 6 3),6,48,.agg #[.int .i64 0,.int .i64 0,.int .i64 0,.int .i64 0,.int .i64 0,.int .i64 0]) .nil))) 131 (dsc underlying131,1,8,.nilFunc) (.node (.node (.node (.node .nil 132 (dsc underlying132,1,8,.nilFunc) .nil) 133 (dsc underlying133,1,8,.nilFunc) .nil) 134 (dsc underlying134,1,8,.nilFunc) (.node (.node .nil 135 (dsc underlying135,1,8,.nilFunc) .nil) 136 (dsc underlying136,1,8,.nilFunc) .nil)) 137 ((.array 4 4),4,4,.agg #[.bool false,.bool false,.bool false,.bool false]) (.node (.node (.node .nil 138 (dsc underlying138,3,24,.agg #[.int .i64 0,.int .i64 0,.int .i64 0]) .nil) 139 (dsc underlying139,3,24,.agg #[.int .i64 0,.int .i64 0,.int .i64 0]) .nil) 140 (dsc underlying140,1,0,.tuple #[.agg #[.int .i64 0,.int .i64 0,.int .i64 0],.bool false]) (.node (.node .nil 141 (dsc underlying141,1,8,.nilFunc) .nil) 142 (dsc underlying142,1,8,.nilFunc) .nil))))) 143 (dsc underlying143,1,8,.nilFunc) (.node (.node (.node (.node (.node (.node .nil 144 (dsc underlying144,1,8,.nilFunc) .nil) 145 (dsc underlying145,1,16,.nilIface) .nil) 146 (dsc underlying146,1,16,.nilIface) (.node (.node .nil 147 ((.array 3 3),3,24,.agg #[.int .i64 0,.int .i64 0,.int .i64 0]) .nil) 148 (dsc underlying148,1,8,.nilFunc) .nil)) 149 (dsc underlying149,1,8,.nilFunc) (.node (.node (.node .nil 150 ((.pointer 40),1,8,.pointer none) .nil) 151 ((.pointer 155),1,8,.pointer none) .nil) 152 ((.int .i64),1,8,.int .i64 0) (.node (.node .nil 153 (dsc underlying153,1,8,.nilFunc) .nil) 154 (dsc underlying154,6,48,.agg #[.int .i64 0,.int .i64 0,.int .i64 0,.int .i64 0,.int .i64 0,.nilFunc]) .nil))) 155 (dsc underlying155,6,48,.agg #[.int .i64 0,.int .i64 0,.int .i64 0,.int .i64 0,.int .i64 0,.nilFunc]) (.node (.node (.node (.node .nil 156 (dsc underlying156,1,8,.agg #[.int .i64 0]) .nil) 157 (dsc underlying157,1,8,.agg #[.int .i64 0]) .nil) 158 (dsc underlying158,1,8,.nilFunc) (.node (.node .nil 159 (dsc underlying159,1,0,.tuple #[.string ByteArray.empty,.string ByteArray.empty,.bool false]) .nil) 160 (dsc underlying160,1,8,.nilFunc) .nil)) 161 ((.pointer 164),1,8,.pointer none) (.node (.node (.node .nil 162 ((.slice 5),1,24,.slice none 0 0) .nil) 163 (dsc underlying163,2,32,.agg #[.pointer none,.slice none 0 0]) .nil) 164 (dsc underlying164,2,32,.agg #[.pointer none,.slice none 0 0]) (.node (.node .nil 165 (dsc underlying165,1,0,.tuple #[.int .i64 0,.nilIface]) .nil) 166 (dsc underlying166,1,8,.nilFunc) .nil)))) 167 (dsc underlying167,1,8,.nilFunc) (.node (.node (.node (.node (.node .nil 168 ((.slice 175),1,24,.slice none 0 0) .nil) 169 (dsc underlying169,2,32,.agg #[.int .i64 0,.slice none 0 0]) .nil) 170 (dsc underlying170,2,32,.agg #[.int .i64 0,.slice none 0 0]) (.node (.node .nil 171 (dsc underlying171,1,0,.tuple #[.agg #[.int .i64 0,.slice none 0 0],.int .i64 0]) .nil) 172 (dsc underlying172,1,8,.nilFunc) .nil)) 173 ((.map 104 4),1,8,.map none) (.node (.node (.node .nil 174 (dsc underlying174,5,72,.agg #[.slice none 0 0,.slice none 0 0,.int .i64 0,.int .i64 0,.int .i64 0]) .nil) 175 (dsc underlying175,5,72,.agg #[.slice none 0 0,.slice none 0 0,.int .i64 0,.int .i64 0,.int .i64 0]) .nil) 176 (dsc underlying176,1,8,.nilFunc) (.node (.node .nil 177 (dsc underlying177,1,8,.nilFunc) .nil) 178 (dsc underlying178,3,56,.agg #[.pointer none,.slice none 0 0,.slice none 0 0]) .nil))) 179 (dsc underlying179,3,56,.agg #[.pointer none,.slice none 0 0,.slice none 0 0]) (.node (.node (.node (.node .nil 180 (dsc underlying180,1,0,.tuple #[.agg #[.pointer none,.slice none 0 0,.slice none 0 0],.int .i64 0]) .nil) 181 (dsc underlying181,1,8,.nilFunc) .nil) 182 ((.slice 187),1,24,.slice none 0 0) (.node (.node .nil 183 (dsc underlying183,2,32,.agg #[.int .i64 0,.slice none 0 0]) .nil) 184 (dsc underlying184,2,32,.agg #[.int .i64 0,.slice none 0 0]) .nil)) 185 (dsc underlying185,1,8,.nilFunc) (.node (.node (.node .nil 186 (dsc underlying186,1,8,.nilFunc) .nil) 187 ((.int .u8),1,1,.int .u8 0) .nil) 188 (dsc underlying188,1,8,.nilFunc) (.node (.node .nil 189 (dsc underlying189,1,0,.tuple #[.slice none 0 0,.slice none 0 0]) .nil) 190 (dsc underlying190,1,8,.nilFunc) .nil))))))) 191 (dsc underlying191,1,8,.nilFunc) (.node (.node (.node (.node (.node (.node (.node (.node .nil 192 (dsc underlying192,1,8,.nilFunc) .nil) 193 (dsc underlying193,1,8,.nilFunc) .nil) 194 (dsc underlying194,1,8,.nilFunc) (.node (.node .nil 195 (dsc underlying195,1,8,.nilFunc) .nil) 196 (dsc underlying196,1,8,.nilFunc) .nil)) 197 (dsc underlying197,1,8,.nilFunc) (.node (.node (.node .nil 198 (dsc underlying198,1,8,.nilFunc) .nil) 199 (dsc underlying199,1,8,.nilFunc) .nil) 200 ((.pointer 104),1,8,.pointer none) (.node (.node .nil 201 (dsc underlying201,1,8,.agg #[.int .i64 0]) .nil) 202 (dsc underlying202,1,8,.agg #[.int .i64 0]) .nil))) 203 (.unsafePointer,1,8,.pointer none) (.node (.node (.node (.node .nil 204 ((.int .u64),1,8,.int .u64 0) .nil) 205 (dsc underlying205,3,24,.agg #[.pointer none,.pointer none,.int .u64 0]) .nil) 206 (dsc underlying206,3,24,.agg #[.pointer none,.pointer none,.int .u64 0]) (.node (.node .nil 207 (dsc underlying207,1,8,.nilFunc) .nil) 208 (dsc underlying208,1,16,.nilIface) .nil)) 209 (dsc underlying209,1,16,.nilIface) (.node (.node (.node .nil 210 (dsc underlying210,1,8,.nilFunc) .nil) 211 ((.int .u8),1,1,.int .u8 0) .nil) 212 (dsc underlying212,1,8,.nilFunc) (.node (.node .nil 213 (dsc underlying213,1,8,.nilFunc) .nil) 214 (dsc underlying214,1,8,.nilFunc) .nil)))) 215 ((.int .i64),1,8,.int .i64 0) (.node (.node (.node (.node (.node .nil 216 (dsc underlying216,1,0,.tuple #[.int .i64 0,.bool false]) .nil) 217 (dsc underlying217,1,8,.nilFunc) .nil) 218 (dsc underlying218,1,8,.chan none) (.node (.node .nil 219 (dsc underlying219,1,8,.chan none) .nil) 220 (dsc underlying220,1,8,.nilFunc) .nil)) 221 (dsc underlying221,1,8,.nilFunc) (.node (.node (.node .nil 222 (dsc underlying222,1,8,.nilFunc) .nil) 223 (dsc underlying223,1,8,.nilFunc) .nil) 224 (dsc underlying224,1,8,.nilFunc) (.node (.node .nil 225 ((.struct #[]),0,0,.agg #[]) .nil) 226 (dsc underlying226,1,8,.nilFunc) .nil))) 227 (dsc underlying227,1,8,.nilFunc) (.node (.node (.node (.node .nil 228 (dsc underlying228,1,8,.nilFunc) .nil) 229 (dsc underlying229,1,8,.nilFunc) .nil) 230 (dsc underlying230,1,8,.nilFunc) (.node (.node .nil 231 (dsc underlying231,1,8,.nilFunc) .nil) 232 (dsc underlying232,1,8,.nilFunc) .nil)) 233 (dsc underlying233,1,8,.nilFunc) (.node (.node (.node .nil 234 (dsc underlying234,1,8,.nilFunc) .nil) 235 (dsc underlying235,1,0,.tuple #[.agg #[.int .i64 0],.bool false]) .nil) 236 (dsc underlying236,1,8,.nilFunc) (.node (.node .nil 237 (dsc underlying237,1,8,.nilFunc) .nil) 238 ((.pointer 5),1,8,.pointer none) .nil))))) 239 (dsc underlying239,1,8,.nilFunc) (.node (.node (.node (.node (.node (.node .nil 240 (dsc underlying240,1,8,.nilFunc) .nil) 241 (dsc underlying241,1,8,.nilFunc) .nil) 242 (dsc underlying242,1,8,.nilFunc) (.node (.node .nil 243 ((.int .u64),1,8,.int .u64 0) .nil) 244 (dsc underlying244,1,8,.nilFunc) .nil)) 245 (dsc underlying245,1,8,.nilFunc) (.node (.node (.node .nil 246 (dsc underlying246,1,8,.nilFunc) .nil) 247 (dsc underlying247,1,8,.nilFunc) .nil) 248 (dsc underlying248,2,16,.agg #[.int .i64 0,.int .i64 0]) (.node (.node .nil 249 (dsc underlying249,2,16,.agg #[.int .i64 0,.int .i64 0]) .nil) 250 (dsc underlying250,1,0,.tuple #[.agg #[.int .i64 0,.int .i64 0,.int .i64 0,.int .i64 0],.agg #[.int .i64 0,.int .i64 0],.bool false]) .nil))) 251 (dsc underlying251,1,8,.nilFunc) (.node (.node (.node (.node .nil 252 (dsc underlying252,1,8,.agg #[.pointer none]) .nil) 253 (dsc underlying253,1,8,.agg #[.pointer none]) .nil) 254 ((.pointer 371),1,8,.pointer none) (.node (.node .nil 255 (dsc underlying255,1,8,.nilFunc) .nil) 256 (dsc underlying256,1,8,.nilFunc) .nil)) 257 (dsc underlying257,1,8,.nilFunc) (.node (.node (.node .nil 258 (dsc underlying258,1,16,.nilIface) .nil) 259 (dsc underlying259,1,0,.tuple #[.nilIface,.bool false]) .nil) 260 (dsc underlying260,1,8,.nilFunc) (.node (.node .nil 261 (dsc underlying261,1,16,.nilIface) .nil) 262 (dsc underlying262,1,8,.nilFunc) .nil)))) 263 (dsc underlying263,1,16,.nilIface) (.node (.node (.node (.node (.node .nil 264 ((.slice 101),1,24,.slice none 0 0) .nil) 265 (dsc underlying265,1,8,.nilFunc) .nil) 266 (dsc underlying266,1,8,.nilFunc) (.node (.node .nil 267 ((.pointer 122),1,8,.pointer none) .nil) 268 (dsc underlying268,2,16,.agg #[.int .i64 0,.int .i64 0]) .nil)) 269 (dsc underlying269,2,16,.agg #[.int .i64 0,.int .i64 0]) (.node (.node (.node .nil 270 (dsc underlying270,2,16,.agg #[.int .i64 0,.int .i64 0]) .nil) 271 (dsc underlying271,2,16,.agg #[.int .i64 0,.int .i64 0]) .nil) 272 (dsc underlying272,2,16,.agg #[.int .i64 0,.int .i64 0]) (.node (.node .nil 273 (dsc underlying273,1,8,.nilFunc) .nil) 274 (dsc underlying274,1,8,.nilFunc) .nil))) 275 (dsc underlying275,1,8,.nilFunc) (.node (.node (.node (.node .nil 276 (dsc underlying276,1,8,.nilFunc) .nil) 277 (dsc underlying277,1,8,.chan none) .nil) 278 ((.struct #[]),0,0,.agg #[]) (.node (.node .nil 279 ((.struct #[]),0,0,.agg #[]) .nil) 280 ((.struct #[]),0,0,.agg #[]) .nil)) 281 (dsc underlying281,1,8,.agg #[.int .u64 0]) (.node (.node (.node .nil 282 (dsc underlying282,1,8,.agg #[.int .u64 0]) .nil) 283 ((.int .u32),1,4,.int .u32 0) .nil) 284 (dsc underlying284,2,16,.agg #[.int .u64 0,.int .u32 0]) (.node (.node .nil 285 (dsc underlying285,2,16,.agg #[.int .u64 0,.int .u32 0]) .nil) 286 (dsc underlying286,1,0,.tuple #[.agg #[.slice none 0 0,.slice none 0 0,.int .i64 0,.int .i64 0,.int .i64 0],.bool false]) .nil)))))) 287 (dsc underlying287,1,8,.nilFunc) (.node (.node (.node (.node (.node (.node (.node .nil 288 (dsc underlying288,1,8,.nilFunc) .nil) 289 (dsc underlying289,1,8,.nilFunc) .nil) 290 ((.int .i64),1,8,.int .i64 0) (.node (.node .nil 291 (dsc underlying291,1,0,.tuple #[.int .i64 0,.int .i64 0]) .nil) 292 (dsc underlying292,1,8,.nilFunc) .nil)) 293 (dsc underlying293,1,8,.nilFunc) (.node (.node (.node .nil 294 (dsc underlying294,1,8,.nilFunc) .nil) 295 (dsc underlying295,1,8,.nilFunc) .nil) 296 ((.tuple #[3,4]),1,0,.tuple #[.int .i64 0,.bool false]) (.node (.node .nil 297 (dsc underlying297,1,8,.nilFunc) .nil) 298 (dsc underlying298,1,8,.nilFunc) .nil))) 299 (dsc underlying299,1,8,.nilFunc) (.node (.node (.node (.node .nil 300 (dsc underlying300,1,8,.nilFunc) .nil) 301 (dsc underlying301,1,8,.nilFunc) .nil) 302 (dsc underlying302,1,8,.nilFunc) (.node (.node .nil 303 (dsc underlying303,1,8,.nilFunc) .nil) 304 (dsc underlying304,1,8,.nilFunc) .nil)) 305 (dsc underlying305,1,8,.nilFunc) (.node (.node (.node .nil 306 (dsc underlying306,1,8,.nilFunc) .nil) 307 (dsc underlying307,1,8,.nilFunc) .nil) 308 (dsc underlying308,1,8,.nilFunc) (.node (.node .nil 309 (dsc underlying309,1,8,.nilFunc) .nil) 310 (dsc underlying310,1,8,.nilFunc) .nil)))) 311 ((.pointer 170),1,8,.pointer none) (.node (.node (.node (.node (.node .nil 312 ((.pointer 285),1,8,.pointer none) .nil) 313 (dsc underlying313,1,8,.nilFunc) .nil) 314 ((.int .i64),1,8,.int .i64 0) (.node (.node .nil 315 (dsc underlying315,1,8,.nilFunc) .nil) 316 (dsc underlying316,1,8,.nilFunc) .nil)) 317 (dsc underlying317,1,8,.nilFunc) (.node (.node (.node .nil 318 ((.pointer 283),1,8,.pointer none) .nil) 319 (dsc underlying319,1,8,.nilFunc) .nil) 320 (dsc underlying320,1,8,.nilFunc) (.node (.node .nil 321 (dsc underlying321,1,8,.nilFunc) .nil) 322 (dsc underlying322,1,8,.nilFunc) .nil))) 323 (dsc underlying323,1,8,.nilFunc) (.node (.node (.node (.node .nil 324 (dsc underlying324,1,8,.nilFunc) .nil) 325 (dsc underlying325,1,8,.nilFunc) .nil) 326 ((.int .u64),1,8,.int .u64 0) (.node (.node .nil 327 (dsc underlying327,1,8,.nilFunc) .nil) 328 (dsc underlying328,1,8,.nilFunc) .nil)) 329 ((.pointer 3),1,8,.pointer none) (.node (.node (.node .nil 330 (dsc underlying330,1,8,.nilFunc) .nil) 331 (dsc underlying331,1,8,.nilFunc) .nil) 332 (dsc underlying332,1,8,.nilFunc) (.node (.node .nil 333 (dsc underlying333,1,8,.nilFunc) .nil) 334 (dsc underlying334,1,8,.nilFunc) .nil))))) 335 (dsc underlying335,1,0,.tuple #[.int .u32 0,.int .u32 0]) (.node (.node (.node (.node (.node (.node .nil 336 (dsc underlying336,1,8,.nilFunc) .nil) 337 ((.pointer 282),1,8,.pointer none) .nil) 338 (dsc underlying338,1,8,.nilFunc) (.node (.node .nil 339 ((.pointer 89),1,8,.pointer none) .nil) 340 (dsc underlying340,1,8,.nilFunc) .nil)) 341 (dsc underlying341,1,8,.nilFunc) (.node (.node (.node .nil 342 (dsc underlying342,1,8,.nilFunc) .nil) 343 (dsc underlying343,1,8,.nilFunc) .nil) 344 (dsc underlying344,1,8,.nilFunc) (.node (.node .nil 345 (dsc underlying345,1,8,.nilFunc) .nil) 346 (dsc underlying346,1,8,.nilFunc) .nil))) 347 (dsc underlying347,1,8,.nilFunc) (.node (.node (.node (.node .nil 348 ((.pointer 326),1,8,.pointer none) .nil) 349 ((.tuple #[3,3]),1,0,.tuple #[.int .i64 0,.int .i64 0]) .nil) 350 (dsc underlying350,1,8,.nilFunc) (.node (.node .nil 351 (dsc underlying351,1,8,.nilFunc) .nil) 352 (dsc underlying352,1,8,.nilFunc) .nil)) 353 (dsc underlying353,1,8,.nilFunc) (.node (.node (.node .nil 354 (dsc underlying354,1,8,.nilFunc) .nil) 355 (dsc underlying355,1,8,.nilFunc) .nil) 356 (dsc underlying356,4,40,.agg #[.pointer none,.pointer none,.pointer none,.string ByteArray.empty]) (.node (.node .nil 357 (dsc underlying357,4,40,.agg #[.pointer none,.pointer none,.pointer none,.string ByteArray.empty]) .nil) 358 ((.array 0 16),0,0,.agg #[]) .nil)))) 359 (dsc underlying359,0,0,.agg #[]) (.node (.node (.node (.node (.node .nil 360 (dsc underlying360,0,0,.agg #[]) .nil) 361 (dsc underlying361,1,8,.nilFunc) .nil) 362 ((.int .u8),1,1,.int .u8 0) (.node (.node .nil 363 (dsc underlying363,1,8,.nilFunc) .nil) 364 ((.int .i32),1,4,.int .i32 0) .nil)) 365 ((.int .i32),1,4,.int .i32 0) (.node (.node (.node .nil 366 (dsc underlying366,11,48,.agg #[.int .u64 0,.int .u64 0,.int .u32 0,.int .u8 0,.int .u8 0,.int .u8 0,.int .u8 0,.nilFunc,.pointer none,.int .i32 0,.int .i32 0]) .nil) 367 (dsc underlying367,11,48,.agg #[.int .u64 0,.int .u64 0,.int .u32 0,.int .u8 0,.int .u8 0,.int .u8 0,.int .u8 0,.nilFunc,.pointer none,.int .i32 0,.int .i32 0]) .nil) 368 (dsc underlying368,1,8,.nilFunc) (.node (.node .nil 369 (dsc underlying369,1,8,.nilFunc) .nil) 370 (dsc underlying370,2,24,.agg #[.string ByteArray.empty,.int .u8 0]) .nil))) 371 (dsc underlying371,2,24,.agg #[.string ByteArray.empty,.int .u8 0]) (.node (.node (.node (.node .nil 372 ((.pointer 376),1,8,.pointer none) .nil) 373 (dsc underlying373,1,8,.nilFunc) .nil) 374 ((.int .u16),1,2,.int .u16 0) (.node (.node .nil 375 (dsc underlying375,5,16,.agg #[.int .i32 0,.int .u16 0,.int .u16 0,.int .u32 0,.int .u32 0]) .nil) 376 (dsc underlying376,5,16,.agg #[.int .i32 0,.int .u16 0,.int .u16 0,.int .u32 0,.int .u32 0]) .nil)) 377 ((.slice 380),1,24,.slice none 0 0) (.node (.node (.node .nil 378 ((.int .i32),1,4,.int .i32 0) .nil) 379 (dsc underlying379,4,16,.agg #[.int .i32 0,.int .i32 0,.int .i32 0,.int .i32 0]) .nil) 380 (dsc underlying380,4,16,.agg #[.int .i32 0,.int .i32 0,.int .i32 0,.int .i32 0]) (.node .nil 381 ((.pointer 101),1,8,.pointer none) .nil)))))))
set_option maxRecDepth 100000 in
theorem tree_ok:tree.All (fun k x=>Tryz.prog.underlying k=some x.1∧(Tryz.prog.info? k).map (fun i=>(i.size,i.bytes,i.zero))=some (x.2.1,x.2.2.1,some x.2.2.2)):=
  ⟨⟨⟨⟨⟨⟨⟨⟨⟨trivial,⟨underlying0,kR⟩,trivial⟩,
 ⟨underlying1,kR⟩,trivial⟩,
 ⟨underlying2,kR⟩,
 ⟨⟨trivial,⟨underlying3,kR⟩,trivial⟩,
 ⟨underlying4,kR⟩,trivial⟩⟩,
 ⟨underlying5,kR⟩,
 ⟨⟨⟨trivial,⟨underlying6,kR⟩,trivial⟩,
 ⟨underlying7,kR⟩,trivial⟩,
 ⟨underlying8,kR⟩,
 ⟨⟨trivial,⟨underlying9,kR⟩,trivial⟩,
 ⟨underlying10,kR⟩,trivial⟩⟩⟩,
 ⟨underlying11,kR⟩,
 ⟨⟨⟨⟨trivial,⟨underlying12,kR⟩,trivial⟩,
 ⟨underlying13,kR⟩,trivial⟩,
 ⟨underlying14,kR⟩,
 ⟨⟨trivial,⟨underlying15,kR⟩,trivial⟩,
 ⟨underlying16,kR⟩,trivial⟩⟩,
 ⟨underlying17,kR⟩,
 ⟨⟨⟨trivial,⟨underlying18,kR⟩,trivial⟩,
 ⟨underlying19,kR⟩,trivial⟩,
 ⟨underlying20,kR⟩,
 ⟨⟨trivial,⟨underlying21,kR⟩,trivial⟩,
 ⟨underlying22,kR⟩,trivial⟩⟩⟩⟩,
 ⟨underlying23,kR⟩,
 ⟨⟨⟨⟨⟨trivial,⟨underlying24,kR⟩,trivial⟩,
 ⟨underlying25,kR⟩,trivial⟩,
 ⟨underlying26,kR⟩,
 ⟨⟨trivial,⟨underlying27,kR⟩,trivial⟩,
 ⟨underlying28,kR⟩,trivial⟩⟩,
 ⟨underlying29,kR⟩,
 ⟨⟨⟨trivial,⟨underlying30,kR⟩,trivial⟩,
 ⟨underlying31,kR⟩,trivial⟩,
 ⟨underlying32,kR⟩,
 ⟨⟨trivial,⟨underlying33,kR⟩,trivial⟩,
 ⟨underlying34,kR⟩,trivial⟩⟩⟩,
 ⟨underlying35,kR⟩,
 ⟨⟨⟨⟨trivial,⟨underlying36,kR⟩,trivial⟩,
 ⟨underlying37,kR⟩,trivial⟩,
 ⟨underlying38,kR⟩,
 ⟨⟨trivial,⟨underlying39,kR⟩,trivial⟩,
 ⟨underlying40,kR⟩,trivial⟩⟩,
 ⟨underlying41,kR⟩,
 ⟨⟨⟨trivial,⟨underlying42,kR⟩,trivial⟩,
 ⟨underlying43,kR⟩,trivial⟩,
 ⟨underlying44,kR⟩,
 ⟨⟨trivial,⟨underlying45,kR⟩,trivial⟩,
 ⟨underlying46,kR⟩,trivial⟩⟩⟩⟩⟩,
 ⟨underlying47,kR⟩,
 ⟨⟨⟨⟨⟨⟨trivial,⟨underlying48,kR⟩,trivial⟩,
 ⟨underlying49,kR⟩,trivial⟩,
 ⟨underlying50,kR⟩,
 ⟨⟨trivial,⟨underlying51,kR⟩,trivial⟩,
 ⟨underlying52,kR⟩,trivial⟩⟩,
 ⟨underlying53,kR⟩,
 ⟨⟨⟨trivial,⟨underlying54,kR⟩,trivial⟩,
 ⟨underlying55,kR⟩,trivial⟩,
 ⟨underlying56,kR⟩,
 ⟨⟨trivial,⟨underlying57,kR⟩,trivial⟩,
 ⟨underlying58,kR⟩,trivial⟩⟩⟩,
 ⟨underlying59,kR⟩,
 ⟨⟨⟨⟨trivial,⟨underlying60,kR⟩,trivial⟩,
 ⟨underlying61,kR⟩,trivial⟩,
 ⟨underlying62,kR⟩,
 ⟨⟨trivial,⟨underlying63,kR⟩,trivial⟩,
 ⟨underlying64,kR⟩,trivial⟩⟩,
 ⟨underlying65,kR⟩,
 ⟨⟨⟨trivial,⟨underlying66,kR⟩,trivial⟩,
 ⟨underlying67,kR⟩,trivial⟩,
 ⟨underlying68,kR⟩,
 ⟨⟨trivial,⟨underlying69,kR⟩,trivial⟩,
 ⟨underlying70,kR⟩,trivial⟩⟩⟩⟩,
 ⟨underlying71,kR⟩,
 ⟨⟨⟨⟨⟨trivial,⟨underlying72,kR⟩,trivial⟩,
 ⟨underlying73,kR⟩,trivial⟩,
 ⟨underlying74,kR⟩,
 ⟨⟨trivial,⟨underlying75,kR⟩,trivial⟩,
 ⟨underlying76,kR⟩,trivial⟩⟩,
 ⟨underlying77,kR⟩,
 ⟨⟨⟨trivial,⟨underlying78,kR⟩,trivial⟩,
 ⟨underlying79,kR⟩,trivial⟩,
 ⟨underlying80,kR⟩,
 ⟨⟨trivial,⟨underlying81,kR⟩,trivial⟩,
 ⟨underlying82,kR⟩,trivial⟩⟩⟩,
 ⟨underlying83,kR⟩,
 ⟨⟨⟨⟨trivial,⟨underlying84,kR⟩,trivial⟩,
 ⟨underlying85,kR⟩,trivial⟩,
 ⟨underlying86,kR⟩,
 ⟨⟨trivial,⟨underlying87,kR⟩,trivial⟩,
 ⟨underlying88,kR⟩,trivial⟩⟩,
 ⟨underlying89,kR⟩,
 ⟨⟨⟨trivial,⟨underlying90,kR⟩,trivial⟩,
 ⟨underlying91,kR⟩,trivial⟩,
 ⟨underlying92,kR⟩,
 ⟨⟨trivial,⟨underlying93,kR⟩,trivial⟩,
 ⟨underlying94,kR⟩,trivial⟩⟩⟩⟩⟩⟩,
 ⟨underlying95,kR⟩,
 ⟨⟨⟨⟨⟨⟨⟨trivial,⟨underlying96,kR⟩,trivial⟩,
 ⟨underlying97,kR⟩,trivial⟩,
 ⟨underlying98,kR⟩,
 ⟨⟨trivial,⟨underlying99,kR⟩,trivial⟩,
 ⟨underlying100,kR⟩,trivial⟩⟩,
 ⟨underlying101,kR⟩,
 ⟨⟨⟨trivial,⟨underlying102,kR⟩,trivial⟩,
 ⟨underlying103,kR⟩,trivial⟩,
 ⟨underlying104,kR⟩,
 ⟨⟨trivial,⟨underlying105,kR⟩,trivial⟩,
 ⟨underlying106,kR⟩,trivial⟩⟩⟩,
 ⟨underlying107,kR⟩,
 ⟨⟨⟨⟨trivial,⟨underlying108,kR⟩,trivial⟩,
 ⟨underlying109,kR⟩,trivial⟩,
 ⟨underlying110,kR⟩,
 ⟨⟨trivial,⟨underlying111,kR⟩,trivial⟩,
 ⟨underlying112,kR⟩,trivial⟩⟩,
 ⟨underlying113,kR⟩,
 ⟨⟨⟨trivial,⟨underlying114,kR⟩,trivial⟩,
 ⟨underlying115,kR⟩,trivial⟩,
 ⟨underlying116,kR⟩,
 ⟨⟨trivial,⟨underlying117,kR⟩,trivial⟩,
 ⟨underlying118,kR⟩,trivial⟩⟩⟩⟩,
 ⟨underlying119,kR⟩,
 ⟨⟨⟨⟨⟨trivial,⟨underlying120,kR⟩,trivial⟩,
 ⟨underlying121,kR⟩,trivial⟩,
 ⟨underlying122,kR⟩,
 ⟨⟨trivial,⟨underlying123,kR⟩,trivial⟩,
 ⟨underlying124,kR⟩,trivial⟩⟩,
 ⟨underlying125,kR⟩,
 ⟨⟨⟨trivial,⟨underlying126,kR⟩,trivial⟩,
 ⟨underlying127,kR⟩,trivial⟩,
 ⟨underlying128,kR⟩,
 ⟨⟨trivial,⟨underlying129,kR⟩,trivial⟩,
 ⟨underlying130,kR⟩,trivial⟩⟩⟩,
 ⟨underlying131,kR⟩,
 ⟨⟨⟨⟨trivial,⟨underlying132,kR⟩,trivial⟩,
 ⟨underlying133,kR⟩,trivial⟩,
 ⟨underlying134,kR⟩,
 ⟨⟨trivial,⟨underlying135,kR⟩,trivial⟩,
 ⟨underlying136,kR⟩,trivial⟩⟩,
 ⟨underlying137,kR⟩,
 ⟨⟨⟨trivial,⟨underlying138,kR⟩,trivial⟩,
 ⟨underlying139,kR⟩,trivial⟩,
 ⟨underlying140,kR⟩,
 ⟨⟨trivial,⟨underlying141,kR⟩,trivial⟩,
 ⟨underlying142,kR⟩,trivial⟩⟩⟩⟩⟩,
 ⟨underlying143,kR⟩,
 ⟨⟨⟨⟨⟨⟨trivial,⟨underlying144,kR⟩,trivial⟩,
 ⟨underlying145,kR⟩,trivial⟩,
 ⟨underlying146,kR⟩,
 ⟨⟨trivial,⟨underlying147,kR⟩,trivial⟩,
 ⟨underlying148,kR⟩,trivial⟩⟩,
 ⟨underlying149,kR⟩,
 ⟨⟨⟨trivial,⟨underlying150,kR⟩,trivial⟩,
 ⟨underlying151,kR⟩,trivial⟩,
 ⟨underlying152,kR⟩,
 ⟨⟨trivial,⟨underlying153,kR⟩,trivial⟩,
 ⟨underlying154,kR⟩,trivial⟩⟩⟩,
 ⟨underlying155,kR⟩,
 ⟨⟨⟨⟨trivial,⟨underlying156,kR⟩,trivial⟩,
 ⟨underlying157,kR⟩,trivial⟩,
 ⟨underlying158,kR⟩,
 ⟨⟨trivial,⟨underlying159,kR⟩,trivial⟩,
 ⟨underlying160,kR⟩,trivial⟩⟩,
 ⟨underlying161,kR⟩,
 ⟨⟨⟨trivial,⟨underlying162,kR⟩,trivial⟩,
 ⟨underlying163,kR⟩,trivial⟩,
 ⟨underlying164,kR⟩,
 ⟨⟨trivial,⟨underlying165,kR⟩,trivial⟩,
 ⟨underlying166,kR⟩,trivial⟩⟩⟩⟩,
 ⟨underlying167,kR⟩,
 ⟨⟨⟨⟨⟨trivial,⟨underlying168,kR⟩,trivial⟩,
 ⟨underlying169,kR⟩,trivial⟩,
 ⟨underlying170,kR⟩,
 ⟨⟨trivial,⟨underlying171,kR⟩,trivial⟩,
 ⟨underlying172,kR⟩,trivial⟩⟩,
 ⟨underlying173,kR⟩,
 ⟨⟨⟨trivial,⟨underlying174,kR⟩,trivial⟩,
 ⟨underlying175,kR⟩,trivial⟩,
 ⟨underlying176,kR⟩,
 ⟨⟨trivial,⟨underlying177,kR⟩,trivial⟩,
 ⟨underlying178,kR⟩,trivial⟩⟩⟩,
 ⟨underlying179,kR⟩,
 ⟨⟨⟨⟨trivial,⟨underlying180,kR⟩,trivial⟩,
 ⟨underlying181,kR⟩,trivial⟩,
 ⟨underlying182,kR⟩,
 ⟨⟨trivial,⟨underlying183,kR⟩,trivial⟩,
 ⟨underlying184,kR⟩,trivial⟩⟩,
 ⟨underlying185,kR⟩,
 ⟨⟨⟨trivial,⟨underlying186,kR⟩,trivial⟩,
 ⟨underlying187,kR⟩,trivial⟩,
 ⟨underlying188,kR⟩,
 ⟨⟨trivial,⟨underlying189,kR⟩,trivial⟩,
 ⟨underlying190,kR⟩,trivial⟩⟩⟩⟩⟩⟩⟩,
 ⟨underlying191,kR⟩,
 ⟨⟨⟨⟨⟨⟨⟨⟨trivial,⟨underlying192,kR⟩,trivial⟩,
 ⟨underlying193,kR⟩,trivial⟩,
 ⟨underlying194,kR⟩,
 ⟨⟨trivial,⟨underlying195,kR⟩,trivial⟩,
 ⟨underlying196,kR⟩,trivial⟩⟩,
 ⟨underlying197,kR⟩,
 ⟨⟨⟨trivial,⟨underlying198,kR⟩,trivial⟩,
 ⟨underlying199,kR⟩,trivial⟩,
 ⟨underlying200,kR⟩,
 ⟨⟨trivial,⟨underlying201,kR⟩,trivial⟩,
 ⟨underlying202,kR⟩,trivial⟩⟩⟩,
 ⟨underlying203,kR⟩,
 ⟨⟨⟨⟨trivial,⟨underlying204,kR⟩,trivial⟩,
 ⟨underlying205,kR⟩,trivial⟩,
 ⟨underlying206,kR⟩,
 ⟨⟨trivial,⟨underlying207,kR⟩,trivial⟩,
 ⟨underlying208,kR⟩,trivial⟩⟩,
 ⟨underlying209,kR⟩,
 ⟨⟨⟨trivial,⟨underlying210,kR⟩,trivial⟩,
 ⟨underlying211,kR⟩,trivial⟩,
 ⟨underlying212,kR⟩,
 ⟨⟨trivial,⟨underlying213,kR⟩,trivial⟩,
 ⟨underlying214,kR⟩,trivial⟩⟩⟩⟩,
 ⟨underlying215,kR⟩,
 ⟨⟨⟨⟨⟨trivial,⟨underlying216,kR⟩,trivial⟩,
 ⟨underlying217,kR⟩,trivial⟩,
 ⟨underlying218,kR⟩,
 ⟨⟨trivial,⟨underlying219,kR⟩,trivial⟩,
 ⟨underlying220,kR⟩,trivial⟩⟩,
 ⟨underlying221,kR⟩,
 ⟨⟨⟨trivial,⟨underlying222,kR⟩,trivial⟩,
 ⟨underlying223,kR⟩,trivial⟩,
 ⟨underlying224,kR⟩,
 ⟨⟨trivial,⟨underlying225,kR⟩,trivial⟩,
 ⟨underlying226,kR⟩,trivial⟩⟩⟩,
 ⟨underlying227,kR⟩,
 ⟨⟨⟨⟨trivial,⟨underlying228,kR⟩,trivial⟩,
 ⟨underlying229,kR⟩,trivial⟩,
 ⟨underlying230,kR⟩,
 ⟨⟨trivial,⟨underlying231,kR⟩,trivial⟩,
 ⟨underlying232,kR⟩,trivial⟩⟩,
 ⟨underlying233,kR⟩,
 ⟨⟨⟨trivial,⟨underlying234,kR⟩,trivial⟩,
 ⟨underlying235,kR⟩,trivial⟩,
 ⟨underlying236,kR⟩,
 ⟨⟨trivial,⟨underlying237,kR⟩,trivial⟩,
 ⟨underlying238,kR⟩,trivial⟩⟩⟩⟩⟩,
 ⟨underlying239,kR⟩,
 ⟨⟨⟨⟨⟨⟨trivial,⟨underlying240,kR⟩,trivial⟩,
 ⟨underlying241,kR⟩,trivial⟩,
 ⟨underlying242,kR⟩,
 ⟨⟨trivial,⟨underlying243,kR⟩,trivial⟩,
 ⟨underlying244,kR⟩,trivial⟩⟩,
 ⟨underlying245,kR⟩,
 ⟨⟨⟨trivial,⟨underlying246,kR⟩,trivial⟩,
 ⟨underlying247,kR⟩,trivial⟩,
 ⟨underlying248,kR⟩,
 ⟨⟨trivial,⟨underlying249,kR⟩,trivial⟩,
 ⟨underlying250,kR⟩,trivial⟩⟩⟩,
 ⟨underlying251,kR⟩,
 ⟨⟨⟨⟨trivial,⟨underlying252,kR⟩,trivial⟩,
 ⟨underlying253,kR⟩,trivial⟩,
 ⟨underlying254,kR⟩,
 ⟨⟨trivial,⟨underlying255,kR⟩,trivial⟩,
 ⟨underlying256,kR⟩,trivial⟩⟩,
 ⟨underlying257,kR⟩,
 ⟨⟨⟨trivial,⟨underlying258,kR⟩,trivial⟩,
 ⟨underlying259,kR⟩,trivial⟩,
 ⟨underlying260,kR⟩,
 ⟨⟨trivial,⟨underlying261,kR⟩,trivial⟩,
 ⟨underlying262,kR⟩,trivial⟩⟩⟩⟩,
 ⟨underlying263,kR⟩,
 ⟨⟨⟨⟨⟨trivial,⟨underlying264,kR⟩,trivial⟩,
 ⟨underlying265,kR⟩,trivial⟩,
 ⟨underlying266,kR⟩,
 ⟨⟨trivial,⟨underlying267,kR⟩,trivial⟩,
 ⟨underlying268,kR⟩,trivial⟩⟩,
 ⟨underlying269,kR⟩,
 ⟨⟨⟨trivial,⟨underlying270,kR⟩,trivial⟩,
 ⟨underlying271,kR⟩,trivial⟩,
 ⟨underlying272,kR⟩,
 ⟨⟨trivial,⟨underlying273,kR⟩,trivial⟩,
 ⟨underlying274,kR⟩,trivial⟩⟩⟩,
 ⟨underlying275,kR⟩,
 ⟨⟨⟨⟨trivial,⟨underlying276,kR⟩,trivial⟩,
 ⟨underlying277,kR⟩,trivial⟩,
 ⟨underlying278,kR⟩,
 ⟨⟨trivial,⟨underlying279,kR⟩,trivial⟩,
 ⟨underlying280,kR⟩,trivial⟩⟩,
 ⟨underlying281,kR⟩,
 ⟨⟨⟨trivial,⟨underlying282,kR⟩,trivial⟩,
 ⟨underlying283,kR⟩,trivial⟩,
 ⟨underlying284,kR⟩,
 ⟨⟨trivial,⟨underlying285,kR⟩,trivial⟩,
 ⟨underlying286,kR⟩,trivial⟩⟩⟩⟩⟩⟩,
 ⟨underlying287,kR⟩,
 ⟨⟨⟨⟨⟨⟨⟨trivial,⟨underlying288,kR⟩,trivial⟩,
 ⟨underlying289,kR⟩,trivial⟩,
 ⟨underlying290,kR⟩,
 ⟨⟨trivial,⟨underlying291,kR⟩,trivial⟩,
 ⟨underlying292,kR⟩,trivial⟩⟩,
 ⟨underlying293,kR⟩,
 ⟨⟨⟨trivial,⟨underlying294,kR⟩,trivial⟩,
 ⟨underlying295,kR⟩,trivial⟩,
 ⟨underlying296,kR⟩,
 ⟨⟨trivial,⟨underlying297,kR⟩,trivial⟩,
 ⟨underlying298,kR⟩,trivial⟩⟩⟩,
 ⟨underlying299,kR⟩,
 ⟨⟨⟨⟨trivial,⟨underlying300,kR⟩,trivial⟩,
 ⟨underlying301,kR⟩,trivial⟩,
 ⟨underlying302,kR⟩,
 ⟨⟨trivial,⟨underlying303,kR⟩,trivial⟩,
 ⟨underlying304,kR⟩,trivial⟩⟩,
 ⟨underlying305,kR⟩,
 ⟨⟨⟨trivial,⟨underlying306,kR⟩,trivial⟩,
 ⟨underlying307,kR⟩,trivial⟩,
 ⟨underlying308,kR⟩,
 ⟨⟨trivial,⟨underlying309,kR⟩,trivial⟩,
 ⟨underlying310,kR⟩,trivial⟩⟩⟩⟩,
 ⟨underlying311,kR⟩,
 ⟨⟨⟨⟨⟨trivial,⟨underlying312,kR⟩,trivial⟩,
 ⟨underlying313,kR⟩,trivial⟩,
 ⟨underlying314,kR⟩,
 ⟨⟨trivial,⟨underlying315,kR⟩,trivial⟩,
 ⟨underlying316,kR⟩,trivial⟩⟩,
 ⟨underlying317,kR⟩,
 ⟨⟨⟨trivial,⟨underlying318,kR⟩,trivial⟩,
 ⟨underlying319,kR⟩,trivial⟩,
 ⟨underlying320,kR⟩,
 ⟨⟨trivial,⟨underlying321,kR⟩,trivial⟩,
 ⟨underlying322,kR⟩,trivial⟩⟩⟩,
 ⟨underlying323,kR⟩,
 ⟨⟨⟨⟨trivial,⟨underlying324,kR⟩,trivial⟩,
 ⟨underlying325,kR⟩,trivial⟩,
 ⟨underlying326,kR⟩,
 ⟨⟨trivial,⟨underlying327,kR⟩,trivial⟩,
 ⟨underlying328,kR⟩,trivial⟩⟩,
 ⟨underlying329,kR⟩,
 ⟨⟨⟨trivial,⟨underlying330,kR⟩,trivial⟩,
 ⟨underlying331,kR⟩,trivial⟩,
 ⟨underlying332,kR⟩,
 ⟨⟨trivial,⟨underlying333,kR⟩,trivial⟩,
 ⟨underlying334,kR⟩,trivial⟩⟩⟩⟩⟩,
 ⟨underlying335,kR⟩,
 ⟨⟨⟨⟨⟨⟨trivial,⟨underlying336,kR⟩,trivial⟩,
 ⟨underlying337,kR⟩,trivial⟩,
 ⟨underlying338,kR⟩,
 ⟨⟨trivial,⟨underlying339,kR⟩,trivial⟩,
 ⟨underlying340,kR⟩,trivial⟩⟩,
 ⟨underlying341,kR⟩,
 ⟨⟨⟨trivial,⟨underlying342,kR⟩,trivial⟩,
 ⟨underlying343,kR⟩,trivial⟩,
 ⟨underlying344,kR⟩,
 ⟨⟨trivial,⟨underlying345,kR⟩,trivial⟩,
 ⟨underlying346,kR⟩,trivial⟩⟩⟩,
 ⟨underlying347,kR⟩,
 ⟨⟨⟨⟨trivial,⟨underlying348,kR⟩,trivial⟩,
 ⟨underlying349,kR⟩,trivial⟩,
 ⟨underlying350,kR⟩,
 ⟨⟨trivial,⟨underlying351,kR⟩,trivial⟩,
 ⟨underlying352,kR⟩,trivial⟩⟩,
 ⟨underlying353,kR⟩,
 ⟨⟨⟨trivial,⟨underlying354,kR⟩,trivial⟩,
 ⟨underlying355,kR⟩,trivial⟩,
 ⟨underlying356,kR⟩,
 ⟨⟨trivial,⟨underlying357,kR⟩,trivial⟩,
 ⟨underlying358,kR⟩,trivial⟩⟩⟩⟩,
 ⟨underlying359,kR⟩,
 ⟨⟨⟨⟨⟨trivial,⟨underlying360,kR⟩,trivial⟩,
 ⟨underlying361,kR⟩,trivial⟩,
 ⟨underlying362,kR⟩,
 ⟨⟨trivial,⟨underlying363,kR⟩,trivial⟩,
 ⟨underlying364,kR⟩,trivial⟩⟩,
 ⟨underlying365,kR⟩,
 ⟨⟨⟨trivial,⟨underlying366,kR⟩,trivial⟩,
 ⟨underlying367,kR⟩,trivial⟩,
 ⟨underlying368,kR⟩,
 ⟨⟨trivial,⟨underlying369,kR⟩,trivial⟩,
 ⟨underlying370,kR⟩,trivial⟩⟩⟩,
 ⟨underlying371,kR⟩,
 ⟨⟨⟨⟨trivial,⟨underlying372,kR⟩,trivial⟩,
 ⟨underlying373,kR⟩,trivial⟩,
 ⟨underlying374,kR⟩,
 ⟨⟨trivial,⟨underlying375,kR⟩,trivial⟩,
 ⟨underlying376,kR⟩,trivial⟩⟩,
 ⟨underlying377,kR⟩,
 ⟨⟨⟨trivial,⟨underlying378,kR⟩,trivial⟩,
 ⟨underlying379,kR⟩,trivial⟩,
 ⟨underlying380,kR⟩,
 ⟨trivial,⟨underlying381,kR⟩,trivial⟩⟩⟩⟩⟩⟩⟩⟩
def tab:Tab Tryz.prog:=tabOf tree tree_ok
theorem A1e:Tryz.prog.follows .mixedOrders=true:=by kernel_rfl
theorem bod10:A0i Tryz.prog 10:=⟨_,_,func10,Y,by decide⟩
theorem bod23:A0i Tryz.prog 23:=⟨_,_,func23,Y,by decide⟩
theorem bod24:A0i Tryz.prog 24:=⟨_,_,func24,Y,by decide⟩
theorem bod30:A0i Tryz.prog 30:=⟨_,_,func30,Y,by decide⟩
theorem bod32:A0i Tryz.prog 32:=⟨_,_,func32,Y,by decide⟩
theorem bod33:A0i Tryz.prog 33:=⟨_,_,func33,Y,by decide⟩
theorem bod34:A0i Tryz.prog 34:=⟨_,_,func34,Y,by decide⟩
theorem B0r:A0i Tryz.prog 35:=⟨_,_,func35,Y,by decide⟩
theorem bod36:A0i Tryz.prog 36:=⟨_,_,func36,Y,by decide⟩
theorem bod37:A0i Tryz.prog 37:=⟨_,_,func37,Y,by decide⟩
theorem bod38:A0i Tryz.prog 38:=⟨_,_,func38,Y,by decide⟩
theorem bod41:A0i Tryz.prog 41:=⟨_,_,func41,Y,by decide⟩
theorem bod42:A0i Tryz.prog 42:=⟨_,_,func42,Y,by decide⟩
theorem bod43:A0i Tryz.prog 43:=⟨_,_,func43,Y,by decide⟩
theorem bod44:A0i Tryz.prog 44:=⟨_,_,func44,Y,by decide⟩
theorem bod45:A0i Tryz.prog 45:=⟨_,_,func45,Y,by decide⟩
theorem bod47:A0i Tryz.prog 47:=⟨_,_,func47,Y,by decide⟩
theorem bod48:A0i Tryz.prog 48:=⟨_,_,func48,Y,by decide⟩
theorem bod49:A0i Tryz.prog 49:=⟨_,_,func49,Y,by decide⟩
theorem bod50:A0i Tryz.prog 50:=⟨_,_,func50,Y,by decide⟩
theorem bod51:A0i Tryz.prog 51:=⟨_,_,func51,Y,by decide⟩
theorem bod52:A0i Tryz.prog 52:=⟨_,_,func52,Y,by decide⟩
theorem bod53:A0i Tryz.prog 53:=⟨_,_,func53,Y,by decide⟩
theorem bod57:A0i Tryz.prog 57:=⟨_,_,func57,Y,by decide⟩
theorem bod58:A0i Tryz.prog 58:=⟨_,_,func58,Y,by decide⟩
theorem bod59:A0i Tryz.prog 59:=⟨_,_,func59,Y,by decide⟩
theorem bod60:A0i Tryz.prog 60:=⟨_,_,func60,Y,by decide⟩
theorem bod61:A0i Tryz.prog 61:=⟨_,_,func61,Y,by decide⟩
theorem bod74:A0i Tryz.prog 74:=⟨_,_,func74,Y,by decide⟩
theorem bod81:A0i Tryz.prog 81:=⟨_,_,func81,Y,by decide⟩
theorem bod82:A0i Tryz.prog 82:=⟨_,_,func82,Y,by decide⟩
theorem bod83:A0i Tryz.prog 83:=⟨_,_,func83,Y,by decide⟩
theorem bod84:A0i Tryz.prog 84:=⟨_,_,func84,Y,by decide⟩
theorem bod85:A0i Tryz.prog 85:=⟨_,_,func85,Y,by decide⟩
theorem bod86:A0i Tryz.prog 86:=⟨_,_,func86,Y,by decide⟩
theorem bod89:A0i Tryz.prog 89:=⟨_,_,func89,Y,by decide⟩
theorem bod90:A0i Tryz.prog 90:=⟨_,_,func90,Y,by decide⟩
theorem bod92:A0i Tryz.prog 92:=⟨_,_,func92,Y,by decide⟩
theorem bod94:A0i Tryz.prog 94:=⟨_,_,func94,Y,by decide⟩
theorem bod95:A0i Tryz.prog 95:=⟨_,_,func95,Y,by decide⟩
theorem bod96:A0i Tryz.prog 96:=⟨_,_,func96,Y,by decide⟩
theorem bod97:A0i Tryz.prog 97:=⟨_,_,func97,Y,by decide⟩
theorem bod98:A0i Tryz.prog 98:=⟨_,_,func98,Y,by decide⟩
theorem bod99:A0i Tryz.prog 99:=⟨_,_,func99,Y,by decide⟩
theorem bod100:A0i Tryz.prog 100:=⟨_,_,func100,Y,by decide⟩
theorem bod101:A0i Tryz.prog 101:=⟨_,_,func101,Y,by decide⟩
theorem bod102:A0i Tryz.prog 102:=⟨_,_,func102,Y,by decide⟩
theorem bod103:A0i Tryz.prog 103:=⟨_,_,func103,Y,by decide⟩
theorem bod104:A0i Tryz.prog 104:=⟨_,_,func104,Y,by decide⟩
theorem bod106:A0i Tryz.prog 106:=⟨_,_,func106,Y,by decide⟩
theorem B2g:A0i Tryz.prog 128:=⟨_,_,func128,Y,by decide⟩
theorem bod129:A0i Tryz.prog 129:=⟨_,_,func129,Y,by decide⟩
theorem bod130:A0i Tryz.prog 130:=⟨_,_,func130,Y,by decide⟩
theorem bod131:A0i Tryz.prog 131:=⟨_,_,func131,Y,by decide⟩
theorem bod132:A0i Tryz.prog 132:=⟨_,_,func132,Y,by decide⟩
theorem bod134:A0i Tryz.prog 134:=⟨_,_,func134,Y,by decide⟩
theorem bod135:A0i Tryz.prog 135:=⟨_,_,func135,Y,by decide⟩
theorem bod137:A0i Tryz.prog 137:=⟨_,_,func137,Y,by decide⟩
theorem bod138:A0i Tryz.prog 138:=⟨_,_,func138,Y,by decide⟩
theorem bod139:A0i Tryz.prog 139:=⟨_,_,func139,Y,by decide⟩
theorem bod140:A0i Tryz.prog 140:=⟨_,_,func140,Y,by decide⟩
theorem bod141:A0i Tryz.prog 141:=⟨_,_,func141,Y,by decide⟩
theorem bod142:A0i Tryz.prog 142:=⟨_,_,func142,Y,by decide⟩
theorem bod144:A0i Tryz.prog 144:=⟨_,_,func144,Y,by decide⟩
theorem bod154:A0i Tryz.prog 154:=⟨_,_,func154,Y,by decide⟩
theorem bod155:A0i Tryz.prog 155:=⟨_,_,func155,Y,by decide⟩
theorem bod156:A0i Tryz.prog 156:=⟨_,_,func156,Y,by decide⟩
theorem bod158:A0i Tryz.prog 158:=⟨_,_,func158,Y,by decide⟩
theorem bod164:A0i Tryz.prog 164:=⟨_,_,func164,Y,by decide⟩
theorem bod165:A0i Tryz.prog 165:=⟨_,_,func165,Y,by decide⟩
theorem bod176:A0i Tryz.prog 176:=⟨_,_,func176,Y,by decide⟩
theorem bod177:A0i Tryz.prog 177:=⟨_,_,func177,Y,by decide⟩
theorem bod178:A0i Tryz.prog 178:=⟨_,_,func178,Y,by decide⟩
theorem bod179:A0i Tryz.prog 179:=⟨_,_,func179,Y,by decide⟩
theorem bod180:A0i Tryz.prog 180:=⟨_,_,func180,Y,by decide⟩
theorem bod181:A0i Tryz.prog 181:=⟨_,_,func181,Y,by decide⟩
theorem bod182:A0i Tryz.prog 182:=⟨_,_,func182,Y,by decide⟩
theorem bod183:A0i Tryz.prog 183:=⟨_,_,func183,Y,by decide⟩
theorem bod184:A0i Tryz.prog 184:=⟨_,_,func184,Y,by decide⟩
theorem bod185:A0i Tryz.prog 185:=⟨_,_,func185,Y,by decide⟩
theorem bod194:A0i Tryz.prog 194:=⟨_,_,func194,Y,by decide⟩
theorem bod195:A0i Tryz.prog 195:=⟨_,_,func195,Y,by decide⟩
theorem bod217:A0i Tryz.prog 217:=⟨_,_,func217,Y,by decide⟩
theorem bod219:A0i Tryz.prog 219:=⟨_,_,func219,Y,by decide⟩
theorem bod220:A0i Tryz.prog 220:=⟨_,_,func220,Y,by decide⟩
theorem bod223:A0i Tryz.prog 223:=⟨_,_,func223,Y,by decide⟩
theorem bod224:A0i Tryz.prog 224:=⟨_,_,func224,Y,by decide⟩
theorem bod225:A0i Tryz.prog 225:=⟨_,_,func225,Y,by decide⟩
theorem bod236:A0i Tryz.prog 236:=⟨_,_,func236,Y,by decide⟩
theorem bod237:A0i Tryz.prog 237:=⟨_,_,func237,Y,by decide⟩
theorem bod238:A0i Tryz.prog 238:=⟨_,_,func238,Y,by decide⟩
theorem bod239:A0i Tryz.prog 239:=⟨_,_,func239,Y,by decide⟩
theorem bod240:A0i Tryz.prog 240:=⟨_,_,func240,Y,by decide⟩
theorem bod241:A0i Tryz.prog 241:=⟨_,_,func241,Y,by decide⟩
theorem bod242:A0i Tryz.prog 242:=⟨_,_,func242,Y,by decide⟩
theorem bod243:A0i Tryz.prog 243:=⟨_,_,func243,Y,by decide⟩
theorem bod245:A0i Tryz.prog 245:=⟨_,_,func245,Y,by decide⟩
theorem bod247:A0i Tryz.prog 247:=⟨_,_,func247,Y,by decide⟩
theorem bod248:A0i Tryz.prog 248:=⟨_,_,func248,Y,by decide⟩
theorem bod249:A0i Tryz.prog 249:=⟨_,_,func249,Y,by decide⟩
theorem bod250:A0i Tryz.prog 250:=⟨_,_,func250,Y,by decide⟩
theorem bod269:A0i Tryz.prog 269:=⟨_,_,func269,Y,by decide⟩
theorem bod272:A0i Tryz.prog 272:=⟨_,_,func272,Y,by decide⟩
theorem bod274:A0i Tryz.prog 274:=⟨_,_,func274,Y,by decide⟩
end Go.Proofs.YtclejblcnfaeaaaGreatDoor
end
section
namespace Go.Pal
open Go Go.Conc View
def RowAt(v:View)(a:Option Addr)(vals:List Value):Prop:=
 vals=[]∨∃b off p c e f,a=some ⟨b,off,none⟩∧v b=some (p,.cells c e f)∧off+vals.length≤c.size∧∀i x,vals[i]?=some x→c[off+i]?=some x
theorem RowAt.le{u v:View}{a:Option Addr}{vals:List Value}(h:RowAt u a vals)(hl:u.Le v):RowAt v a vals:=by
 rcases h with h|⟨b,off,p,c,e,f,h1,h2,h3,h4⟩
 ·exact .inl h
 ·exact .inr ⟨b,off,p,c,e,f,h1,hl _ _ h2,h3,h4⟩
theorem RowAt.ints{v:View}{a:Option Addr}{xs:List Int}(h:RowAt v a (xs.map (.int .i64))){i:Nat}(hi:i<xs.length) :
  ∃b off p c e f,a=some ⟨b,off,none⟩∧v b=some (p,.cells c e f)∧∀j (hj:j<xs.length),c[off+j]?=some (.int .i64 xs[j]):=by
 rcases h with h|⟨b,off,p,c,e,f,h1,h2,h3,h4⟩
 ·have:xs=[]:=by simpa using h
  subst this;simp at hi
 ·exact⟨b,off,p,c,e,f,h1,h2,fun j hj=>h4 j _ (by simp [hj])⟩
theorem A5n(b off n:Nat):(⟨b,off,none⟩:Addr).add n=⟨b,off+n,none⟩:=by
 unfold Addr.add;split<;>simp_all
section
variable{P:Program}{mn:Who}(T:Tab P){rd:Option Nat}{n:Nat}{Q:Exit→St→View→Prop}{ds:List Deferred}{ρ:Regs}{β:A0e}{v:View}
 {ops:Array Oper}{i:Nat}{rest:List Nat}{l:List Oper}{d:Nat}{ty:TypeId}{pos:String}{af:Array Edge}{gu:Option (Nat×Bool)}
theorem R_elem{t e:TypeId}{y z:Operand}{b off len cap sz:Nat}{jz:Int}{k:IntKind}(j:Nat)(ho:ops[i]?=some ⟨some d,.indexAddr t y z,ty,pos,af,gu⟩)(hw:A0p ops gu ρ=some true)(hn:Nat.blt d n=true)
  (hy:ρ.val y=some (.slice (some ⟨b,off,none⟩) len cap))(hz:ρ.val z=some (.int k jz))(hj:jz=j)(ht:T.und t=some (.slice e))(hs:T.siz e=some sz)(h1:j<len)
  (h:XO P mn rd n ops rest Q ⟨ds,(d,.pointer (some ⟨b,off+j*sz,none⟩))::ρ,β⟩ v):XO P mn rd n ops (i::rest) Q ⟨ds,ρ,β⟩ v:=by
 subst hj
 refine R_index T ho hw hn hy hz ht hs oM oM ?_
 rw [A5n];simpa using h
theorem A1m{t e:TypeId}{y z:Operand}{b off len cap sz:Nat}{jz:Int}{k:IntKind}(j:Nat)(hw:A0p ops gu ρ=some true)(hn:Nat.blt d n=true)
  (hy:ρ.val y=some (.slice (some ⟨b,off,none⟩) len cap))(hz:ρ.val z=some (.int k jz))(hj:jz=j)(ht:T.und t=some (.slice e))(hs:T.siz e=some sz)(h1:j<len)
  (h:XL P mn n ops Q l ⟨ds,(d,.pointer (some ⟨b,off+j*sz,none⟩))::ρ,β⟩ v):XL P mn n ops Q (⟨some d,.indexAddr t y z,ty,pos,af,gu⟩::l) ⟨ds,ρ,β⟩ v:=by
 subst hj
 refine L_index T hw hn hy hz ht hs oM oM ?_
 rw [A5n];simpa using h
theorem A0l{t:TypeId}{td:TypeDesc}{c:Array Value}{off:Nat}{x:Value}(h1:T.und t=some td)(h2:T.siz t=some 1)(h3:aggOf td=false)(h:c[off]?=some x):A4k T t c off=some x:=by
 unfold A4k;rw [h1,h2];simp [h3,h]
end
end Go.Pal
end
